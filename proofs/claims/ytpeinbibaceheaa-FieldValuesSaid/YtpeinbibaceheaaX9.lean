/- Written by a program of this work out of the translation; Lean checks it. -/
import Derived.Test.YtpeinbibaceheaaX0
import Derived.Test.YtpeinbibaceheaaX2
import Derived.Test.YtpeinbibaceheaaX4
import Derived.Test.YtpeinbibaceheaaGHead06
namespace Go.Proofs.Ytpeinbibaceheaa.X
open Go.RowKit Go.Proofs.YtpeinbibaceheaaW.PrintWords Go.Proofs.YtpeinbibaceheaaW.PrintLast Go.Proofs.YtpeinbibaceheaaW.PrintMore
attribute [local go_sem] max2_int min2_int max_two min_two max_three min_three max_four min_four   -- for this text's walks alone
set_option linter.unusedVariables false
set_option linter.unusedSimpArgs false

/-! ### observatorylaw06_FieldValues: function 6 -/
mutual
def observatorylaw06_FieldValues.j0 : Nat → List Int → List Int → Int → Int → Bool → Bool → Option (Bool)
  | 0, _, _, _, _, _, _ => none
  | k + 1, x0, x1, x2, x3, x9, x53 => if x53 = true then (some x9) else (observatorylaw06_FieldValues.l0 k x0 x1 x2 x3 x9 ([] : List Int) ([] : List Int) 0)
def observatorylaw06_FieldValues.l0 : Nat → List Int → List Int → Int → Int → Bool → List Int → List Int → Int → Option (Bool)
  | 0, _, _, _, _, _, _, _, _ => none
  | k + 1, x0, x1, x2, x3, x9, x10, x11, x12 => if x12 < (x0.length : Int) then (if 0 ≤ x12 then (if x12 < (x1.length : Int) then ((observatorylaw06_add.f k (rd x0 x12) (rd x1 x12)).bind fun t236 => (if x10.length < 17592186044416 then ((observatorylaw06_mul.f k x3 (rd x0 x12)).bind fun t241 => (if x11.length < 17592186044416 then (observatorylaw06_FieldValues.l0 k x0 x1 x2 x3 x9 (x10 ++ [t236]) (x11 ++ [t241]) (wrap64 (x12 + 1))) else (none))) else (none))) else (none)) else (none)) else ((field_Eval.f k x0 x2).bind fun bt245 => ((field_Eval.f k x1 x2).bind fun bt247 => ((field_Eval.f k x10 x2).bind fun bt249 => ((field_Eval.f k x11 x2).bind fun bt251 => ((some (([] : List Int) : List Int)).bind fun y253 => (if y253.length + x0.length < 17592186044416 then ((some (y253 ++ x0 : List Int)).bind fun y256 => (if y256.length < 17592186044416 then ((field_Eval.f k (y256 ++ [0]) x2).bind fun bt262 => ((field_Eval.f k x0 0).bind fun bt264 => (if bt245.2 = 0 then (if bt247.2 = 0 then (if bt249.2 = 0 then (if bt251.2 = 0 then (if bt262.2 = 0 then (observatorylaw06_FieldValues.j2 k x0 x3 x9 bt245.1 bt247.1 bt249.1 bt251.1 bt262.1 bt264.1 (bt264.2 != 0)) else (observatorylaw06_FieldValues.j2 k x0 x3 x9 bt245.1 bt247.1 bt249.1 bt251.1 bt262.1 bt264.1 true)) else (observatorylaw06_FieldValues.j2 k x0 x3 x9 bt245.1 bt247.1 bt249.1 bt251.1 bt262.1 bt264.1 true)) else (observatorylaw06_FieldValues.j2 k x0 x3 x9 bt245.1 bt247.1 bt249.1 bt251.1 bt262.1 bt264.1 true)) else (observatorylaw06_FieldValues.j2 k x0 x3 x9 bt245.1 bt247.1 bt249.1 bt251.1 bt262.1 bt264.1 true)) else (observatorylaw06_FieldValues.j2 k x0 x3 x9 bt245.1 bt247.1 bt249.1 bt251.1 bt262.1 bt264.1 true)))) else (none))) else (none)))))))
def observatorylaw06_FieldValues.j2 : Nat → List Int → Int → Bool → Int → Int → Int → Int → Int → Int → Bool → Option (Bool)
  | 0, _, _, _, _, _, _, _, _, _, _ => none
  | k + 1, x0, x3, x9, x13, x15, x17, x19, x21, x23, x142 => if x142 = true then (some false) else (if (x0.length : Int) > 0 then (if 0 < (x0.length : Int) then (if x9 = true then ((observatorylaw06_add.f k x13 x15).bind fun t267 => (if x17 = t267 then ((observatorylaw06_mul.f k x3 x13).bind fun t268 => (if x19 = t268 then (if x21 = x13 then (some (x23 == (rd x0 0))) else (some false)) else (some false))) else (some false))) else (some false)) else (none)) else (if x9 = true then ((observatorylaw06_add.f k x13 x15).bind fun t269 => (if x17 = t269 then ((observatorylaw06_mul.f k x3 x13).bind fun t270 => (if x19 = t270 then (if x21 = x13 then (some (x23 == 0)) else (some false)) else (some false))) else (some false))) else (some false)))
end
def observatorylaw06_FieldValues.f (k : Nat) (l0 : List Int) (l1 : List Int) (a2 : Int) (a3 : Int) : Option (Bool) := (observatorylaw06_head.f).bind fun t227 => (if (l0.length : Int) = (l1.length : Int) then (if (l0.length : Int) > 15 then (observatorylaw06_FieldValues.j0 k l0 l1 a2 a3 t227 true) else ((observatorylaw06_in.f k l0).bind fun t228 => (if t228 = true then ((observatorylaw06_in.f k l1).bind fun t229 => (if t229 = true then ((observatorylaw06_in.f k (([a2, a3] : List Int))).bind fun t233 => (observatorylaw06_FieldValues.j0 k l0 l1 a2 a3 t227 (!t233))) else (observatorylaw06_FieldValues.j0 k l0 l1 a2 a3 t227 true))) else (observatorylaw06_FieldValues.j0 k l0 l1 a2 a3 t227 true)))) else (observatorylaw06_FieldValues.j0 k l0 l1 a2 a3 t227 true))
theorem observatorylaw06_FieldValues.mono_l : ∀ k, (∀ y0 y1 y2 y3 y4 y5, LeO (observatorylaw06_FieldValues.j0 k y0 y1 y2 y3 y4 y5) (observatorylaw06_FieldValues.j0 (k + 1) y0 y1 y2 y3 y4 y5)) ∧ (∀ y0 y1 y2 y3 y4 y5 y6 y7, LeO (observatorylaw06_FieldValues.l0 k y0 y1 y2 y3 y4 y5 y6 y7) (observatorylaw06_FieldValues.l0 (k + 1) y0 y1 y2 y3 y4 y5 y6 y7)) ∧ (∀ y0 y1 y2 y3 y4 y5 y6 y7 y8 y9, LeO (observatorylaw06_FieldValues.j2 k y0 y1 y2 y3 y4 y5 y6 y7 y8 y9) (observatorylaw06_FieldValues.j2 (k + 1) y0 y1 y2 y3 y4 y5 y6 y7 y8 y9))
  | 0 => ⟨fun _ _ _ _ _ _ r h => by simp [observatorylaw06_FieldValues.j0] at h, fun _ _ _ _ _ _ _ _ r h => by simp [observatorylaw06_FieldValues.l0] at h, fun _ _ _ _ _ _ _ _ _ _ r h => by simp [observatorylaw06_FieldValues.j2] at h⟩
  | k + 1 => by
    obtain ⟨ih0, ih1, ih2⟩ := observatorylaw06_FieldValues.mono_l k
    refine ⟨?_, ?_, ?_⟩
    · intro y0 y1 y2 y3 y4 y5
      unfold observatorylaw06_FieldValues.j0
      repeat' first
      | (with_reducible exact ih0 _ _ _ _ _ _)
      | (with_reducible exact ih1 _ _ _ _ _ _ _ _)
      | (with_reducible exact ih2 _ _ _ _ _ _ _ _ _ _)
      | (with_reducible exact field_Eval.mono _ _ _)
      | (with_reducible exact observatorylaw06_add.mono _ _ _)
      | (with_reducible exact observatorylaw06_in.mono _ _)
      | (with_reducible exact observatorylaw06_mul.mono _ _ _)
      | (with_reducible exact LeO.refl _)
      | (with_reducible exact LeO.none _)
      | (with_reducible refine LeO.ite ?_ ?_)
      | (with_reducible refine LeO.bind ?_ (fun _ => ?_))
      | exact ih0 _ _ _ _ _ _
      | exact ih1 _ _ _ _ _ _ _ _
      | exact ih2 _ _ _ _ _ _ _ _ _ _
      | exact field_Eval.mono _ _ _
      | exact observatorylaw06_add.mono _ _ _
      | exact observatorylaw06_in.mono _ _
      | exact observatorylaw06_mul.mono _ _ _
      | exact LeO.none _
      | refine LeO.ite ?_ ?_
      | refine LeO.bind ?_ (fun _ => ?_)
    · intro y0 y1 y2 y3 y4 y5 y6 y7
      unfold observatorylaw06_FieldValues.l0
      repeat' first
      | (with_reducible exact ih0 _ _ _ _ _ _)
      | (with_reducible exact ih1 _ _ _ _ _ _ _ _)
      | (with_reducible exact ih2 _ _ _ _ _ _ _ _ _ _)
      | (with_reducible exact field_Eval.mono _ _ _)
      | (with_reducible exact observatorylaw06_add.mono _ _ _)
      | (with_reducible exact observatorylaw06_in.mono _ _)
      | (with_reducible exact observatorylaw06_mul.mono _ _ _)
      | (with_reducible exact LeO.refl _)
      | (with_reducible exact LeO.none _)
      | (with_reducible refine LeO.ite ?_ ?_)
      | (with_reducible refine LeO.bind ?_ (fun _ => ?_))
      | exact ih0 _ _ _ _ _ _
      | exact ih1 _ _ _ _ _ _ _ _
      | exact ih2 _ _ _ _ _ _ _ _ _ _
      | exact field_Eval.mono _ _ _
      | exact observatorylaw06_add.mono _ _ _
      | exact observatorylaw06_in.mono _ _
      | exact observatorylaw06_mul.mono _ _ _
      | exact LeO.none _
      | refine LeO.ite ?_ ?_
      | refine LeO.bind ?_ (fun _ => ?_)
    · intro y0 y1 y2 y3 y4 y5 y6 y7 y8 y9
      unfold observatorylaw06_FieldValues.j2
      repeat' first
      | (with_reducible exact ih0 _ _ _ _ _ _)
      | (with_reducible exact ih1 _ _ _ _ _ _ _ _)
      | (with_reducible exact ih2 _ _ _ _ _ _ _ _ _ _)
      | (with_reducible exact field_Eval.mono _ _ _)
      | (with_reducible exact observatorylaw06_add.mono _ _ _)
      | (with_reducible exact observatorylaw06_in.mono _ _)
      | (with_reducible exact observatorylaw06_mul.mono _ _ _)
      | (with_reducible exact LeO.refl _)
      | (with_reducible exact LeO.none _)
      | (with_reducible refine LeO.ite ?_ ?_)
      | (with_reducible refine LeO.bind ?_ (fun _ => ?_))
      | exact ih0 _ _ _ _ _ _
      | exact ih1 _ _ _ _ _ _ _ _
      | exact ih2 _ _ _ _ _ _ _ _ _ _
      | exact field_Eval.mono _ _ _
      | exact observatorylaw06_add.mono _ _ _
      | exact observatorylaw06_in.mono _ _
      | exact observatorylaw06_mul.mono _ _ _
      | exact LeO.none _
      | refine LeO.ite ?_ ?_
      | refine LeO.bind ?_ (fun _ => ?_)
theorem observatorylaw06_FieldValues.mono : ∀ a0 a1 a2 a3 k, LeO (observatorylaw06_FieldValues.f k a0 a1 a2 a3) (observatorylaw06_FieldValues.f (k + 1) a0 a1 a2 a3) := by
  intro a0 a1 a2 a3 k
  obtain ⟨ih0, ih1, ih2⟩ := observatorylaw06_FieldValues.mono_l k
  unfold observatorylaw06_FieldValues.f
  repeat' first
      | (with_reducible exact ih0 _ _ _ _ _ _)
      | (with_reducible exact ih1 _ _ _ _ _ _ _ _)
      | (with_reducible exact ih2 _ _ _ _ _ _ _ _ _ _)
      | (with_reducible exact field_Eval.mono _ _ _)
      | (with_reducible exact observatorylaw06_add.mono _ _ _)
      | (with_reducible exact observatorylaw06_in.mono _ _)
      | (with_reducible exact observatorylaw06_mul.mono _ _ _)
      | (with_reducible exact LeO.refl _)
      | (with_reducible exact LeO.none _)
      | (with_reducible refine LeO.ite ?_ ?_)
      | (with_reducible refine LeO.bind ?_ (fun _ => ?_))
      | exact ih0 _ _ _ _ _ _
      | exact ih1 _ _ _ _ _ _ _ _
      | exact ih2 _ _ _ _ _ _ _ _ _ _
      | exact field_Eval.mono _ _ _
      | exact observatorylaw06_add.mono _ _ _
      | exact observatorylaw06_in.mono _ _
      | exact observatorylaw06_mul.mono _ _ _
      | exact LeO.none _
      | refine LeO.ite ?_ ?_
      | refine LeO.bind ?_ (fun _ => ?_)
def observatorylaw06_FieldValues.T8 : Bool × List (List Nat × List Nat) := (true, [([], []), ([], []), ([], []), ([1, 2], [1, 2]), ([3], [3]), ([], []), ([], []), ([5, 6], [5, 6]), ([7], [7]), ([4, 8], [4, 8]), ([9], [9]), ([0, 10, 9], [0, 10]), ([11, 11, 0, 1, 2, 3, 4, 5, 6, 7, 8, 9, 10, 11], [0, 11])])
def observatorylaw06_FieldValues.B8 : List Nat := [0, 0, 0, 6, 14, 0, 0, 96, 224, 510, 1022, 2047, 4095]
theorem observatorylaw06_FieldValues.tab8 : rtab .any (opsOf Try.f6 8) = observatorylaw06_FieldValues.T8 := by kernel_rfl
theorem observatorylaw06_FieldValues.bits8 : waitsOk observatorylaw06_FieldValues.T8.2 observatorylaw06_FieldValues.B8 = true := by kernel_rfl
set_option maxHeartbeats 8000000 in
set_option maxRecDepth 100000 in
theorem observatorylaw06_FieldValues.calls (k : Nat) (A0 : Option Addr) (c0 : Nat) (l0 : List Int) (A1 : Option Addr) (c1 : Nat) (l1 : List Int) (a2 : Int) (a3 : Int) (r : Bool) (w : World) (hr0 : Kd.C (Kd.int .i64) w A0 l0.length l0) (hc0 : l0.length ≤ c0) (hr1 : Kd.C (Kd.int .i64) w A1 l1.length l1) (hc1 : l1.length ≤ c1) (h : observatorylaw06_FieldValues.f k l0 l1 a2 a3 = some r) :
    Calls Try.prog 6 #[.slice A0 l0.length c0, .slice A1 l1.length c1, .int .i64 a2, .int .i64 a3] w fun e w' => e = .returned (.bool r) ∧ Below w.heap.size w w' := by
  have HR0 := Aside0.mk hr0
  have HC0 := Aside0.mk hc0
  clear hr0 hc0
  have HR1 := Aside0.mk hr1
  have HC1 := Aside0.mk hc1
  clear hr1 hc1
  have HB := Aside0.mk (Below.refl w.heap.size w)
  have H : ((observatorylaw06_head.f).bind fun t227 => (if (l0.length : Int) = (l1.length : Int) then (if (l0.length : Int) > 15 then (observatorylaw06_FieldValues.j0 k l0 l1 a2 a3 t227 true) else ((observatorylaw06_in.f k l0).bind fun t228 => (if t228 = true then ((observatorylaw06_in.f k l1).bind fun t229 => (if t229 = true then ((observatorylaw06_in.f k (([a2, a3] : List Int))).bind fun t233 => (observatorylaw06_FieldValues.j0 k l0 l1 a2 a3 t227 (!t233))) else (observatorylaw06_FieldValues.j0 k l0 l1 a2 a3 t227 true))) else (observatorylaw06_FieldValues.j0 k l0 l1 a2 a3 t227 true)))) else (observatorylaw06_FieldValues.j0 k l0 l1 a2 a3 t227 true))) = some r := h
  clear h
  replace H := Option.bind_eq_some_iff.mp H
  obtain ⟨t227, A50, H⟩ := H
  replace H : (if (l0.length : Int) = (l1.length : Int) then (if (l0.length : Int) > 15 then (observatorylaw06_FieldValues.j0 k l0 l1 a2 a3 t227 true) else ((observatorylaw06_in.f k l0).bind fun t228 => (if t228 = true then ((observatorylaw06_in.f k l1).bind fun t229 => (if t229 = true then ((observatorylaw06_in.f k (([a2, a3] : List Int))).bind fun t233 => (observatorylaw06_FieldValues.j0 k l0 l1 a2 a3 t227 (!t233))) else (observatorylaw06_FieldValues.j0 k l0 l1 a2 a3 t227 true))) else (observatorylaw06_FieldValues.j0 k l0 l1 a2 a3 t227 true)))) else (observatorylaw06_FieldValues.j0 k l0 l1 a2 a3 t227 true)) = some r := H
  have A5 := Aside0.mk A50
  clear A50
  have HC6 := Aside0.mk H
  clear H
  go_enter Try.func6, Try.ntmps6
  go_upto_region 2 with (first | ((with_reducible refine gate_callee (f := 15) rfl ?_); refine goesL_ (some 26) rfl rfl Try.func15 (by kernel_rfl) rfl #[] rfl (by (try simp only [List.map_toArray, List.map_cons, List.map_nil]); first | done | rfl | (simp only [List.length_drop, List.length_take]; rfl)) ?_; (with_reducible refine (observatorylaw06_head.calls  t227 _ A5.out).mono ?_); rintro e w7 ⟨rfl, hb⟩; refine ⟨_, rfl, ?_⟩; have n0_ := Aside0.mk (below_step (by repeat (first | (with_reducible first | exact HB.out | apply below_alloc | apply pw_below_drewN | apply below_drew1) | exact HB.out)) hb); clear HB; have HB := n0_; clear n0_; (try clear hb); (try clear hb2); (try clear hk); (try clear hi)))
  (try simp only [Act.put, List.setIfInBounds_toArray, List.set_cons_zero, List.set_cons_succ])
  go_cut [53] (fun v53 wc => ∃ (kq : Nat) (x53_5 : Bool), v53 = .bool x53_5 ∧ Aside0 (observatorylaw06_FieldValues.j0 kq l0 l1 a2 a3 t227 x53_5 = some r) ∧ Aside0 (kq ≤ k) ∧ Aside0 (Below w.heap.size w wc))
  case first =>
    have H := HC6.out
    clear HC6
    by_cases c8 : (l0.length : Int) = (l1.length : Int)
    · rw [if_pos c8] at H
      have c8b0 : ((l0.length : Int) == (l1.length : Int)) = true := beq_iff_eq.mpr c8
      have c8b1 : ((l0.length : Int) != (l1.length : Int)) = false := bne_eq_false_iff_eq.mpr c8
      have c8b2 : (l0.length == l1.length) = true := by first | simpa using c8 | (simp at c8 ⊢; omega)
      clear c8
      (first | rw [c8b0] | (simp only [i64_w, i32_w]; rw [c8b0]) | skip)
      by_cases c9 : (l0.length : Int) > 15
      · rw [if_pos c9] at H
        have c9b0 : decide (15 < (l0.length : Int)) = true := decide_eq_true c9
        have c9b1 : decide (15 < l0.length) = true := decide_eq_true (by omega)
        clear c9
        have H' := Aside0.mk H
        clear H
        go_wp2
        go_meet
        case rel => exact ⟨_, (true), (by first | rfl | (simp; done) | (simp [*]; done)), H', ⟨by first | omega | exact Nat.le_refl _⟩, ⟨by repeat (first | (with_reducible first | exact HB.out | apply below_alloc | apply pw_below_drewN | apply below_drew1) | exact HB.out)⟩⟩
      · rw [if_neg c9] at H
        have c9b0 : decide (15 < (l0.length : Int)) = false := decide_eq_false c9
        have c9b1 : decide (15 < l0.length) = false := decide_eq_false (by omega)
        clear c9
        replace H := Option.bind_eq_some_iff.mp H
        obtain ⟨t228, A100, H⟩ := H
        replace H : (if t228 = true then ((observatorylaw06_in.f k l1).bind fun t229 => (if t229 = true then ((observatorylaw06_in.f k (([a2, a3] : List Int))).bind fun t233 => (observatorylaw06_FieldValues.j0 k l0 l1 a2 a3 t227 (!t233))) else (observatorylaw06_FieldValues.j0 k l0 l1 a2 a3 t227 true))) else (observatorylaw06_FieldValues.j0 k l0 l1 a2 a3 t227 true)) = some r := H
        have A10 := Aside0.mk A100
        clear A100
        by_cases c11 : t228 = true
        · subst c11
          have H1 : ((observatorylaw06_in.f k l1).bind fun t229 => (if t229 = true then ((observatorylaw06_in.f k (([a2, a3] : List Int))).bind fun t233 => (observatorylaw06_FieldValues.j0 k l0 l1 a2 a3 t227 (!t233))) else (observatorylaw06_FieldValues.j0 k l0 l1 a2 a3 t227 true))) = some r := by rw [if_pos rfl] at H; exact H
          clear H
          have H := H1
          clear H1
          replace H := Option.bind_eq_some_iff.mp H
          obtain ⟨t229, A120, H⟩ := H
          replace H : (if t229 = true then ((observatorylaw06_in.f k (([a2, a3] : List Int))).bind fun t233 => (observatorylaw06_FieldValues.j0 k l0 l1 a2 a3 t227 (!t233))) else (observatorylaw06_FieldValues.j0 k l0 l1 a2 a3 t227 true)) = some r := H
          have A12 := Aside0.mk A120
          clear A120
          by_cases c13 : t229 = true
          · subst c13
            have H1 : ((observatorylaw06_in.f k (([a2, a3] : List Int))).bind fun t233 => (observatorylaw06_FieldValues.j0 k l0 l1 a2 a3 t227 (!t233))) = some r := by rw [if_pos rfl] at H; exact H
            clear H
            have H := H1
            clear H1
            obtain ⟨y230, hy230⟩ : ∃ y_ : List Int, y_ = (([a2, a3] : List Int)) := ⟨_, rfl⟩
            replace H : ((observatorylaw06_in.f k y230).bind fun t233 => (observatorylaw06_FieldValues.j0 k l0 l1 a2 a3 t227 (!t233))) = some r := by first | (rw [hy230]; with_reducible exact H) | (have H2_ := (Option.bind_some _ _).symm.trans H; rw [hy230]; with_reducible exact H2_) | (have H2_ := (Option.bind_some _ _).symm.trans H; with_reducible exact H2_) | with_reducible exact H | (rw [hy230]; exact H) | exact H
            have Ny230 := Aside0.mk hy230
            clear hy230
            replace H := Option.bind_eq_some_iff.mp H
            obtain ⟨t233, A140, H⟩ := H
            replace H : (observatorylaw06_FieldValues.j0 k l0 l1 a2 a3 t227 (!t233)) = some r := H
            have A14 := Aside0.mk A140
            clear A140
            have H' := Aside0.mk H
            clear H
            go_wp2_with (first | (go_at_call 26; (with_reducible refine (observatorylaw06_in.calls k _ _ l0 true _ ?side1 ?side2 A10.out).mono ?_); (case side1 => repeat (first | exact (Kd.C_below HR0.out HB.out) | (with_reducible refine Kd.C_alloc ?_ _) | (with_reducible refine Kd.C_drewN ?_ _) | (with_reducible refine Kd.C_drew ?_))); (case side2 => exact HC0.out); rintro e w' ⟨rfl, ⟨nd, rfl⟩⟩; (try clear A10)) | (go_at_call 26; (with_reducible refine (observatorylaw06_in.calls k _ _ l1 true _ ?side1 ?side2 A12.out).mono ?_); (case side1 => repeat (first | exact (Kd.C_below HR1.out (by repeat (first | (with_reducible first | exact HB.out | apply below_alloc | apply pw_below_drewN | apply below_drew1) | exact HB.out))) | (with_reducible refine Kd.C_alloc ?_ _) | (with_reducible refine Kd.C_drewN ?_ _) | (with_reducible refine Kd.C_drew ?_))); (case side2 => exact HC1.out); rintro e w' ⟨rfl, ⟨nd, rfl⟩⟩; (try clear A12)) | ((with_reducible refine gate_dst (N := 50) rfl ?_); (try (refine gate_guard (by rfl) ?_; dsimp only)); refine Kd.R_lit (Kd.int .i64) _ 3 ?hg (N := 50) ?hd (xs := ([a2, a3] : List Int)) (inner := [.int .i64 a2, .int .i64 a3]) (ok := fun _ => True) (okp := fun _ => True) ?hr ?hp (fun _ hk => hk) trivial (Below.refl _ _) (Nat.le_refl _) (by simp) ?_; (case hd => rfl); (case hg => rfl); (case hr => first | (go_simp; done) | (go_simp; rfl)); (case hp => exact (Reps.one (show Kd.M (Kd.int .i64) _ _ _ a2 [.int .i64 a2] from rfl) (Reps.one (show Kd.M (Kd.int .i64) _ _ _ a3 [.int .i64 a3] from rfl) (Reps.none _ _)))); intro v231 w15 ho16 hb hg_ hnew_; clear hg_ hnew_; (first | rw [← Ny230.out] at ho16 | (simp only [Int.reduceToNat] at ho16; rw [← Ny230.out] at ho16)); have n0_ := Aside0.mk (Kd.R_lower ho16 (below_size (by repeat (first | (with_reducible first | exact HB.out | apply below_alloc | apply pw_below_drewN | apply below_drew1) | exact HB.out)))); have n1_ := Aside0.mk (below_step (by repeat (first | (with_reducible first | exact HB.out | apply below_alloc | apply pw_below_drewN | apply below_drew1) | exact HB.out)) hb); clear HB; have HO232 := n0_; have HB := n1_; clear n0_ n1_; clear hb ho16; obtain ⟨Ao17, co17, eo17⟩ := Kd.R_slice HO232.out; subst eo17) | (go_at_call 26; (with_reducible refine (observatorylaw06_in.calls k _ _ y230 t233 _ ?side1 ?side2 A14.out).mono ?_); (case side1 => repeat (first | exact (Kd.R_reads' HO232.out).2.2 | (with_reducible refine Kd.C_alloc ?_ _) | (with_reducible refine Kd.C_drewN ?_ _) | (with_reducible refine Kd.C_drew ?_))); (case side2 => exact (Kd.R_reads' HO232.out).2.1); rintro e w' ⟨rfl, ⟨nd, rfl⟩⟩; (try clear A14)))
            go_meet
            case rel => exact ⟨_, (!t233), (by first | rfl | (simp; done) | (simp [*]; done)), H', ⟨by first | omega | exact Nat.le_refl _⟩, ⟨by repeat (first | (with_reducible first | exact HB.out | apply below_alloc | apply pw_below_drewN | apply below_drew1) | exact HB.out)⟩⟩
          · replace c13 := Bool.eq_false_iff.mpr c13
            subst c13
            have H1 : (observatorylaw06_FieldValues.j0 k l0 l1 a2 a3 t227 true) = some r := by rw [if_neg (show ¬ (false = true) by decide)] at H; exact H
            clear H
            have H := H1
            clear H1
            have H' := Aside0.mk H
            clear H
            go_wp2_with (first | (go_at_call 26; (with_reducible refine (observatorylaw06_in.calls k _ _ l0 true _ ?side1 ?side2 A10.out).mono ?_); (case side1 => repeat (first | exact (Kd.C_below HR0.out HB.out) | (with_reducible refine Kd.C_alloc ?_ _) | (with_reducible refine Kd.C_drewN ?_ _) | (with_reducible refine Kd.C_drew ?_))); (case side2 => exact HC0.out); rintro e w' ⟨rfl, ⟨nd, rfl⟩⟩; (try clear A10)) | (go_at_call 26; (with_reducible refine (observatorylaw06_in.calls k _ _ l1 false _ ?side1 ?side2 A12.out).mono ?_); (case side1 => repeat (first | exact (Kd.C_below HR1.out (by repeat (first | (with_reducible first | exact HB.out | apply below_alloc | apply pw_below_drewN | apply below_drew1) | exact HB.out))) | (with_reducible refine Kd.C_alloc ?_ _) | (with_reducible refine Kd.C_drewN ?_ _) | (with_reducible refine Kd.C_drew ?_))); (case side2 => exact HC1.out); rintro e w' ⟨rfl, ⟨nd, rfl⟩⟩; (try clear A12)))
            go_meet
            case rel => exact ⟨_, (true), (by first | rfl | (simp; done) | (simp [*]; done)), H', ⟨by first | omega | exact Nat.le_refl _⟩, ⟨by repeat (first | (with_reducible first | exact HB.out | apply below_alloc | apply pw_below_drewN | apply below_drew1) | exact HB.out)⟩⟩
        · replace c11 := Bool.eq_false_iff.mpr c11
          subst c11
          have H1 : (observatorylaw06_FieldValues.j0 k l0 l1 a2 a3 t227 true) = some r := by rw [if_neg (show ¬ (false = true) by decide)] at H; exact H
          clear H
          have H := H1
          clear H1
          have H' := Aside0.mk H
          clear H
          go_wp2_with (first | (go_at_call 26; (with_reducible refine (observatorylaw06_in.calls k _ _ l0 false _ ?side1 ?side2 A10.out).mono ?_); (case side1 => repeat (first | exact (Kd.C_below HR0.out HB.out) | (with_reducible refine Kd.C_alloc ?_ _) | (with_reducible refine Kd.C_drewN ?_ _) | (with_reducible refine Kd.C_drew ?_))); (case side2 => exact HC0.out); rintro e w' ⟨rfl, ⟨nd, rfl⟩⟩))
          go_meet
          case rel => exact ⟨_, (true), (by first | rfl | (simp; done) | (simp [*]; done)), H', ⟨by first | omega | exact Nat.le_refl _⟩, ⟨by repeat (first | (with_reducible first | exact HB.out | apply below_alloc | apply pw_below_drewN | apply below_drew1) | exact HB.out)⟩⟩
    · rw [if_neg c8] at H
      have c8b0 : ((l0.length : Int) == (l1.length : Int)) = false := beq_eq_false_iff_ne.mpr c8
      have c8b1 : ((l0.length : Int) != (l1.length : Int)) = true := bne_iff_ne.mpr c8
      have c8b2 : (l0.length == l1.length) = false := by first | simpa using c8 | (simp at c8 ⊢; omega)
      (first | rw [c8b0] | (simp only [i64_w, i32_w]; rw [c8b0]) | skip)
      have H' := Aside0.mk H
      clear H
      go_wp2
      go_meet
      case rel => exact ⟨_, (true), (by first | rfl | (simp; done) | (simp [*]; done)), H', ⟨by first | omega | exact Nat.le_refl _⟩, ⟨by repeat (first | (with_reducible first | exact HB.out | apply below_alloc | apply pw_below_drewN | apply below_drew1) | exact HB.out)⟩⟩
  case rest =>
    clear HC6
    try clear c1
    try clear p2
    try clear c6
    try clear c8
    try clear c8b0
    try clear c8b1
    try clear c8b2
    try clear c9
    try clear c9b0
    try clear c9b1
    try clear c11
    try clear c13
    try clear c15
    obtain ⟨kq, x53_5, rfl, HA, HJ5, HB⟩ := hcut
    cases kq with
    | zero => exact absurd HA.out (by simp [observatorylaw06_FieldValues.j0])
    | succ kj5 =>
      have H := HA.out
      clear HA
      simp only [observatorylaw06_FieldValues.j0] at H
      by_cases c18 : x53_5 = true
      · subst c18
        have H1 : (some t227) = some r := by rw [if_pos rfl] at H; exact H
        clear H
        have H := H1
        clear H1
        obtain rfl := Option.some.inj H
        go_wp2
        go_ret
        exact ⟨by first | rfl | (simp [errW_none, errW_some] <;> rfl) | (simp [*, errW_none, errW_some] <;> rfl), by repeat (first | (with_reducible first | exact HB.out | apply below_alloc | apply pw_below_drewN | apply below_drew1) | exact HB.out)⟩
      · replace c18 := Bool.eq_false_iff.mpr c18
        subst c18
        have H1 : (observatorylaw06_FieldValues.l0 kj5 l0 l1 a2 a3 t227 ([] : List Int) ([] : List Int) 0) = some r := by rw [if_neg (show ¬ (false = true) by decide)] at H; exact H
        clear H
        have H := H1
        clear H1
        have H' := Aside0.mk H
        clear H
        go_wp2
        go_loopg [10, 11, 12] kj5 (fun kq v10 v11 v12 w' => ∃ (x10_2 : List Int) (x11_2 : List Int) (x12_2 : Int), v12 = .int .i64 x12_2 ∧ Aside0 (observatorylaw06_FieldValues.l0 kq l0 l1 a2 a3 t227 x10_2 x11_2 x12_2 = some r) ∧ Aside0 (kq ≤ kj5) ∧ Aside0 (Kd.R (Kd.int .i64) 3 w' w.heap.size (fun k_ => some k_ ≠ (v11 : Value).ownBlock) v10 x10_2) ∧ Aside0 (Kd.R (Kd.int .i64) 3 w' w.heap.size (fun k_ => some k_ ≠ (v10 : Value).ownBlock) v11 x11_2) ∧ Aside0 (Below w.heap.size w w'))
        case atStart => exact ⟨(([] : List Int)), (([] : List Int)), (0), (by first | rfl | (simp; done) | (simp [*]; done)), H', ⟨Nat.le_refl _⟩, ⟨by first | exact Kd.R_nil _ _ _ _ _ | exact Kd.N_nil _ _ _ _ _ | exact Kd.V_nil _ _ _ _ _ | exact Kd.Q_nil _ _ _ _ _ | exact Kd.S_nil _ _ _ _ _⟩, ⟨by first | exact Kd.R_nil _ _ _ _ _ | exact Kd.N_nil _ _ _ _ _ | exact Kd.V_nil _ _ _ _ _ | exact Kd.Q_nil _ _ _ _ _ | exact Kd.S_nil _ _ _ _ _⟩, ⟨by repeat (first | (with_reducible first | exact HB.out | apply below_alloc | apply pw_below_drewN | apply below_drew1) | exact HB.out)⟩⟩
        case round =>
          clear H'
          try clear c1
          try clear p2
          try clear c6
          try clear c8
          try clear c8b0
          try clear c8b1
          try clear c8b2
          try clear c9
          try clear c9b0
          try clear c9b1
          try clear c11
          try clear c13
          try clear c15
          try clear c18
          try clear p2
          obtain ⟨x10_2, x11_2, x12_2, rfl, HA, HK2, HO_10, HO_11, HB⟩ := hrel
          cases gk with
          | zero => exact absurd HA.out (by simp [observatorylaw06_FieldValues.l0])
          | succ k2 =>
            have H := HA.out
            clear HA
            simp only [observatorylaw06_FieldValues.l0] at H
            by_cases c19 : x12_2 < (l0.length : Int)
            · rw [if_pos c19] at H
              have c19b0 : decide (x12_2 < (l0.length : Int)) = true := decide_eq_true c19
              clear c19
              by_cases c20 : 0 ≤ x12_2
              · rw [if_pos c20] at H
                have c20b0 : decide (0 ≤ x12_2) = true := decide_eq_true c20
                clear c20
                by_cases c21 : x12_2 < (l1.length : Int)
                · rw [if_pos c21] at H
                  have c21b0 : decide (x12_2 < (l1.length : Int)) = true := decide_eq_true c21
                  clear c21
                  replace H := Option.bind_eq_some_iff.mp H
                  obtain ⟨t236, A220, H⟩ := H
                  replace H : (if x10_2.length < 17592186044416 then ((observatorylaw06_mul.f k2 a3 (rd l0 x12_2)).bind fun t241 => (if x11_2.length < 17592186044416 then (observatorylaw06_FieldValues.l0 k2 l0 l1 a2 a3 t227 (x10_2 ++ [t236]) (x11_2 ++ [t241]) (wrap64 (x12_2 + 1))) else (none))) else (none)) = some r := H
                  have A22 := Aside0.mk A220
                  clear A220
                  by_cases c23 : x10_2.length < 17592186044416
                  · rw [if_pos c23] at H
                    have LMc23 := Aside0.mk c23
                    clear c23
                    obtain ⟨y237, hy237⟩ : ∃ y_ : List Int, y_ = (x10_2 ++ [t236]) := ⟨_, rfl⟩
                    replace H : ((observatorylaw06_mul.f k2 a3 (rd l0 x12_2)).bind fun t241 => (if x11_2.length < 17592186044416 then (observatorylaw06_FieldValues.l0 k2 l0 l1 a2 a3 t227 y237 (x11_2 ++ [t241]) (wrap64 (x12_2 + 1))) else (none))) = some r := by first | (rw [hy237]; with_reducible exact H) | (have H2_ := (Option.bind_some _ _).symm.trans H; rw [hy237]; with_reducible exact H2_) | (have H2_ := (Option.bind_some _ _).symm.trans H; with_reducible exact H2_) | with_reducible exact H | (rw [hy237]; exact H) | exact H
                    have Ny237 := Aside0.mk hy237
                    clear hy237
                    replace H := Option.bind_eq_some_iff.mp H
                    obtain ⟨t241, A240, H⟩ := H
                    replace H : (if x11_2.length < 17592186044416 then (observatorylaw06_FieldValues.l0 k2 l0 l1 a2 a3 t227 y237 (x11_2 ++ [t241]) (wrap64 (x12_2 + 1))) else (none)) = some r := H
                    have A24 := Aside0.mk A240
                    clear A240
                    by_cases c25 : x11_2.length < 17592186044416
                    · rw [if_pos c25] at H
                      have LMc25 := Aside0.mk c25
                      clear c25
                      obtain ⟨y242, hy242⟩ : ∃ y_ : List Int, y_ = (x11_2 ++ [t241]) := ⟨_, rfl⟩
                      replace H : (observatorylaw06_FieldValues.l0 k2 l0 l1 a2 a3 t227 y237 y242 (wrap64 (x12_2 + 1))) = some r := by first | (rw [hy242]; with_reducible exact H) | (have H2_ := (Option.bind_some _ _).symm.trans H; rw [hy242]; with_reducible exact H2_) | (have H2_ := (Option.bind_some _ _).symm.trans H; with_reducible exact H2_) | with_reducible exact H | (rw [hy242]; exact H) | exact H
                      have Ny242 := Aside0.mk hy242
                      clear hy242
                      have H' := Aside0.mk H
                      clear H
                      try go_wp2
                      have n0_ := Aside0.mk (Kd.R_drew HO_10.out)
                      have n1_ := Aside0.mk (Kd.R_drew HO_11.out)
                      have n2_ := Aside0.mk (below_drew1 HB.out)
                      clear HO_10
                      clear HO_11
                      clear HB
                      have HO_10 := n0_
                      have HO_11 := n1_
                      have HB := n2_
                      clear n0_ n1_ n2_
                      have p234 : 0 ≤ (x12_2 : Int) := of_decide_eq_true (by first | (with_reducible assumption) | assumption)
                      have q234 : x12_2 < (l0.length : Int) := of_decide_eq_true (by first | (with_reducible assumption) | assumption)
                      obtain ⟨ad234, e234, hx234_0⟩ := Kd.at_int HR0.out x12_2 p234 q234
                      have hw234_0 := hx234_0
                      cases e234
                      replace hx234_0 := (HB.out.cell (World.block_lt_of_cell? w _ hx234_0)).trans hx234_0
                      replace p234 := eq_true p234
                      replace q234 := eq_true q234
                      have p235 : 0 ≤ (x12_2 : Int) := of_decide_eq_true (by first | (with_reducible assumption) | assumption)
                      have q235 : x12_2 < (l1.length : Int) := of_decide_eq_true (by first | (with_reducible assumption) | assumption)
                      obtain ⟨ad235, e235, hx235_0⟩ := Kd.at_int HR1.out x12_2 p235 q235
                      have hw235_0 := hx235_0
                      cases e235
                      replace hx235_0 := (HB.out.cell (World.block_lt_of_cell? w _ hx235_0)).trans hx235_0
                      replace p235 := eq_true p235
                      replace q235 := eq_true q235
                      refine start_ (n := 13) (S := fun w' => w'.cell? (ad234.add (x12_2).toNat) = some (.int .i64 (rd l0 x12_2)) ∧ w'.cell? (ad235.add (x12_2).toNat) = some (.int .i64 (rd l1 x12_2))) (ds := []) #[false, false, false, false, false, false, false, false, false, false, false, false, false] (by kernel_rfl) rfl rfl ⟨((HB.out.cell (World.block_lt_of_cell? w _ hw234_0)).trans hw234_0), ((HB.out.cell (World.block_lt_of_cell? w _ hw235_0)).trans hw235_0)⟩ (fun hHeld => ?_); refine with_tabW observatorylaw06_FieldValues.tab8 observatorylaw06_FieldValues.bits8 (fun HT_ HW_ => ?_)
                      generalize wr.drew = w26 at HO_10 HO_11 HB hx234_0 hx235_0 hHeld ⊢
                      refine pure_ (i := 0) (N := some 61) (v := ?_) (a' := ?_) #[true, false, false, false, false, false, false, false, false, false, false, false, false] rfl rfl (any_of HT_.out (by kernel_rfl)) (fun _ _ _ h => h) (Or.inl ⟨by rfl, ?_⟩) ?_ ?_
                      rotate_left
                      · intro w'
                        go_simp
                        with_reducible rfl
                      rotate_left
                      · simp only [Act.put, List.setIfInBounds_toArray, List.set_cons_zero, List.set_cons_succ, i64_w, i32_w]
                        rfl
                      refine pure_ (i := 1) (N := some 62) (v := ?_) (a' := ?_) #[true, true, false, false, false, false, false, false, false, false, false, false, false] rfl rfl (any_of HT_.out (by kernel_rfl)) (fun _ _ _ h => h) (Or.inl ⟨by rfl, ?_⟩) ?_ ?_
                      rotate_left
                      · intro w'
                        go_simp
                        with_reducible rfl
                      rotate_left
                      · simp only [Act.put, List.setIfInBounds_toArray, List.set_cons_zero, List.set_cons_succ, i64_w, i32_w]
                        rfl
                      refine pure_ (i := 2) (N := some 63) (v := ?_) (a' := ?_) #[true, true, true, false, false, false, false, false, false, false, false, false, false] rfl rfl (any_of HT_.out (by kernel_rfl)) (fun _ _ _ h => h) (Or.inl ⟨by rfl, ?_⟩) ?_ ?_
                      rotate_left
                      · intro w'
                        go_simp
                        with_reducible rfl
                      rotate_left
                      · simp only [Act.put, List.setIfInBounds_toArray, List.set_cons_zero, List.set_cons_succ, i64_w, i32_w]
                        rfl
                      refine pure_ (i := 3) (N := some 64) (v := ?_) (a' := ?_) #[true, true, true, true, false, false, false, false, false, false, false, false, false] rfl rfl (any_of HT_.out (by kernel_rfl)) (fun _ _ _ h => h) (Or.inl ⟨by rfl, ?_⟩) ?_ ?_
                      rotate_left
                      · intro w'
                        go_simp
                        with_reducible rfl
                      rotate_left
                      · simp only [Act.put, List.setIfInBounds_toArray, List.set_cons_zero, List.set_cons_succ, i64_w, i32_w]
                        rfl
                      refine pure_ (i := 5) (N := some 66) (v := ?_) (a' := ?_) #[true, true, true, true, false, true, false, false, false, false, false, false, false] rfl rfl (any_of HT_.out (by kernel_rfl)) (fun _ _ _ h => h) (Or.inl ⟨by rfl, ?_⟩) ?_ ?_
                      rotate_left
                      · intro w'
                        go_simp
                        with_reducible rfl
                      rotate_left
                      · simp only [Act.put, List.setIfInBounds_toArray, List.set_cons_zero, List.set_cons_succ, i64_w, i32_w]
                        rfl
                      refine pure_ (i := 6) (N := some 67) (v := ?_) (a' := ?_) #[true, true, true, true, false, true, true, false, false, false, false, false, false] rfl rfl (any_of HT_.out (by kernel_rfl)) (fun _ _ _ h => h) (Or.inl ⟨by rfl, ?_⟩) ?_ ?_
                      rotate_left
                      · intro w'
                        go_simp
                        with_reducible rfl
                      rotate_left
                      · simp only [Act.put, List.setIfInBounds_toArray, List.set_cons_zero, List.set_cons_succ, i64_w, i32_w]
                        rfl
                      refine pure_ (i := 7) (N := some 68) (v := ?_) (a' := ?_) #[true, true, true, true, false, true, true, true, false, false, false, false, false] rfl rfl (any_of HT_.out (by kernel_rfl)) (fun _ _ _ h => h) (Or.inl ⟨by rfl, ?_⟩) ?_ ?_
                      rotate_left
                      · intro w'
                        go_simp
                        with_reducible rfl
                      rotate_left
                      · simp only [Act.put, List.setIfInBounds_toArray, List.set_cons_zero, List.set_cons_succ, i64_w, i32_w]
                        rfl
                      refine take_ (i := 4) (N := some 65) (v := ?_) (a' := ?_) #[true, true, true, true, true, true, true, true, false, false, false, false, false] rfl rfl (take_ofW HT_.out HW_.out (by kernel_rfl)) (fun _ _ _ h => h) (Or.inl ⟨by rfl, ?_⟩) hHeld ?_ ?_
                      rotate_left
                      · rintro w' ⟨s0, s1⟩
                        go_simp
                        with_reducible rfl
                      rotate_left
                      · simp only [Act.put, List.setIfInBounds_toArray, List.set_cons_zero, List.set_cons_succ, i64_w, i32_w]
                        rfl
                      refine take_ (i := 8) (N := some 69) (v := ?_) (a' := ?_) #[true, true, true, true, true, true, true, true, true, false, false, false, false] rfl rfl (take_ofW HT_.out HW_.out (by kernel_rfl)) (fun _ _ _ h => h) (Or.inl ⟨by rfl, ?_⟩) hHeld ?_ ?_
                      rotate_left
                      · rintro w' ⟨s0, s1⟩
                        go_simp
                        with_reducible rfl
                      rotate_left
                      · simp only [Act.put, List.setIfInBounds_toArray, List.set_cons_zero, List.set_cons_succ, i64_w, i32_w]
                        rfl
                      refine one_ (i := 9) (N := some 70) #[true, true, true, true, true, true, true, true, true, true, false, false, false] rfl rfl (one_of HT_.out (by kernel_rfl)) (by decide) (fun K hK => ?_)
                      refine goes_ Try.func27 (by kernel_rfl) rfl #[.int .i64 (rd l0 x12_2), .int .i64 (rd l1 x12_2)] (by rfl) rfl rfl (by (try simp only [List.map_toArray, List.map_cons, List.map_nil]); first | done | rfl | (simp only [List.length_drop, List.length_take]; rfl)) ?_
                      with_reducible refine (observatorylaw06_add.calls k2 (rd l0 x12_2) (rd l1 x12_2) t236 _ A22.out).mono ?_
                      rintro e w27 ⟨rfl, hb⟩
                      refine ⟨_, rfl, ?_⟩
                      have n0_ := Aside0.mk (Kd.R_below (by (with_reducible repeat (first | apply Kd.R_alloc | apply Kd.R_drewN | apply Kd.R_drew)); exact HO_10.out) hb)
                      have n1_ := Aside0.mk (Kd.R_below (by (with_reducible repeat (first | apply Kd.R_alloc | apply Kd.R_drewN | apply Kd.R_drew)); exact HO_11.out) hb)
                      have n2_ := Aside0.mk (below_step (by repeat (first | (with_reducible first | exact HB.out | apply below_alloc | apply pw_below_drewN | apply below_drew1) | exact HB.out)) hb)
                      clear HO_10
                      clear HO_11
                      clear HB
                      have HO_10 := n0_
                      have HO_11 := n1_
                      have HB := n2_
                      clear n0_ n1_ n2_
                      (try clear hb)
                      (try clear hb2)
                      (try clear hk)
                      (try clear hi)
                      refine hK.out _ _ ⟨((HB.out.cell (World.block_lt_of_cell? w _ hw234_0)).trans hw234_0), ((HB.out.cell (World.block_lt_of_cell? w _ hw235_0)).trans hw235_0)⟩ (fun hHeld => ?_)
                      clear hK K
                      refine norm_ (a' := ?_) ?_ ?_
                      rotate_left
                      · show Act.put _ (some 70) _ = _
                        simp only [Act.put, List.setIfInBounds_toArray, List.set_cons_zero, List.set_cons_succ, i64_w, i32_w]
                        rfl
                      refine one_ (i := 10) (N := some 71) #[true, true, true, true, true, true, true, true, true, true, true, false, false] rfl rfl (one_of HT_.out (by kernel_rfl)) (by decide) (fun K hK => ?_)
                      refine value_ (w1 := ?_) (v := ?_) (by rfl) rfl ?_ ?_
                      rotate_left 2
                      · go_simp
                        constructor
                        · rfl
                        · rfl
                      refine hK.out _ _ ⟨(World.cell?_alloc_lt _ _ _ (World.block_lt_of_cell? _ _ (((HB.out.cell (World.block_lt_of_cell? w _ hw234_0)).trans hw234_0)))).trans (((HB.out.cell (World.block_lt_of_cell? w _ hw234_0)).trans hw234_0)), (World.cell?_alloc_lt _ _ _ (World.block_lt_of_cell? _ _ (((HB.out.cell (World.block_lt_of_cell? w _ hw235_0)).trans hw235_0)))).trans (((HB.out.cell (World.block_lt_of_cell? w _ hw235_0)).trans hw235_0))⟩ (fun hHeld => ?_)
                      clear hK K
                      refine norm_ (a' := ?_) ?_ ?_
                      rotate_left
                      · show Act.put _ (some 71) _ = _
                        simp only [Act.put, List.setIfInBounds_toArray, List.set_cons_zero, List.set_cons_succ, i64_w, i32_w]
                        rfl
                      refine one_ (i := 11) (N := some 72) #[true, true, true, true, true, true, true, true, true, true, true, true, false] rfl rfl (one_of HT_.out (by kernel_rfl)) (by decide) (fun K hK => ?_)
                      refine Kd.R_append_step (Kd.int .i64) (w0 := w) w.heap.size (by rfl) (.tmp 61) (.tmp 71) 22 3 (.int .i64 0) 8 rfl Try.underlying22 info3 rfl (by decide) (by omega) u10 x10_2 t236 [.int .i64 t236] (fun k_ => some k_ ≠ (u11 : Value).ownBlock) (fun _ => False) rfl rfl ?aP (fun _ hk => hk.elim) ?aF ?aO ?aB ?aS ?aL ?_
                      (case aP => exact rfl)
                      (case aB => exact (by repeat (first | (with_reducible first | exact HB.out | apply below_alloc | apply pw_below_drewN | apply below_drew1) | exact HB.out)))
                      (case aF => exact (fun k_ hk => Kd.fresh' (Kd.R_lt (by (with_reducible repeat (first | apply Kd.R_alloc | apply Kd.R_drewN | apply Kd.R_drew)); exact HO_11.out)) k_ hk))
                      (case aO => exact (by (with_reducible repeat (first | apply Kd.R_alloc | apply Kd.R_drewN | apply Kd.R_drew)); exact HO_10.out))
                      (case aS => exact (below_size (by repeat (first | (with_reducible first | exact HB.out | apply below_alloc | apply pw_below_drewN | apply below_drew1) | exact HB.out))))
                      (case aL => have := LMc23.out; omega)
                      intro v238 w28 ho hb hg hat
                      rw [← Ny237.out] at ho
                      have n0_ := Aside0.mk (Kd.R_after (ok := (fun _ => True)) (by (with_reducible repeat (first | apply Kd.R_alloc | apply Kd.R_drewN | apply Kd.R_drew)); exact Kd.R_mono HO_11.out (fun _ hk => ⟨trivial, hk⟩)) hg hat)
                      have n1_ := Aside0.mk (hb)
                      have n2_ := Aside0.mk (ho)
                      clear HO_11
                      clear HB
                      clear HO_10
                      have HO_11 := n0_
                      have HB := n1_
                      have HO239 := n2_
                      clear n0_ n1_ n2_
                      clear ho hb hg hat
                      refine hK.out _ _ ⟨((HB.out.cell (World.block_lt_of_cell? w _ hw234_0)).trans hw234_0), ((HB.out.cell (World.block_lt_of_cell? w _ hw235_0)).trans hw235_0)⟩ (fun hHeld => ?_)
                      clear hK K
                      refine norm_ (a' := ?_) ?_ ?_
                      rotate_left
                      · show Act.put _ (some 72) _ = _
                        simp only [Act.put, List.setIfInBounds_toArray, List.set_cons_zero, List.set_cons_succ, i64_w, i32_w]
                        rfl
                      refine pure_ (i := 12) (N := some 10) (v := ?_) (a' := ?_) #[true, true, true, true, true, true, true, true, true, true, true, true, true] rfl rfl (any_of HT_.out (by kernel_rfl)) (fun _ _ _ h => h) (Or.inl ⟨by rfl, ?_⟩) ?_ ?_
                      rotate_left
                      · intro w'
                        go_simp
                        with_reducible rfl
                      rotate_left
                      · simp only [Act.put, List.setIfInBounds_toArray, List.set_cons_zero, List.set_cons_succ, i64_w, i32_w]
                        rfl
                      refine done_ (done_of HT_.out (by kernel_rfl)) ?_
                      have p240 : 0 ≤ (x12_2 : Int) := of_decide_eq_true (by first | (with_reducible assumption) | assumption)
                      have q240 : x12_2 < (l0.length : Int) := of_decide_eq_true (by first | (with_reducible assumption) | assumption)
                      obtain ⟨ad240, e240, hx240_0⟩ := Kd.at_int HR0.out x12_2 p240 q240
                      obtain rfl : ad234 = ad240 := (by injection e240)
                      replace hx240_0 := (HB.out.cell (World.block_lt_of_cell? w _ hx240_0)).trans hx240_0
                      replace p240 := eq_true p240
                      replace q240 := eq_true q240
                      try go_wp2_with (first | ((with_reducible refine gate_callee (f := 28) rfl ?_); refine goesL_ (some 79) rfl rfl Try.func28 (by kernel_rfl) rfl #[.int .i64 a3, .int .i64 (rd l0 x12_2)] rfl (by (try simp only [List.map_toArray, List.map_cons, List.map_nil]); first | done | rfl | (simp only [List.length_drop, List.length_take]; rfl)) ?_; (with_reducible refine (observatorylaw06_mul.calls k2 a3 (rd l0 x12_2) t241 _ A24.out).mono ?_); rintro e w29 ⟨rfl, hb⟩; refine ⟨_, rfl, ?_⟩; have n0_ := Aside0.mk (Kd.R_below (by (with_reducible repeat (first | apply Kd.R_alloc | apply Kd.R_drewN | apply Kd.R_drew)); exact HO_11.out) hb); have n1_ := Aside0.mk (Kd.R_below (by (with_reducible repeat (first | apply Kd.R_alloc | apply Kd.R_drewN | apply Kd.R_drew)); exact HO239.out) hb); have n2_ := Aside0.mk (below_step (by repeat (first | (with_reducible first | exact HB.out | apply below_alloc | apply pw_below_drewN | apply below_drew1) | exact HB.out)) hb); clear HO_11; clear HO239; clear HB; have HO_11 := n0_; have HO239 := n1_; have HB := n2_; clear n0_ n1_ n2_; (try clear hb); (try clear hb2); (try clear hk); (try clear hi)) | ((with_reducible refine gate_builtin (b := .append) (xs := #[.tmp 73, .tmp 80]) rfl ?_); (try (refine gate_guard (by rfl) ?_; dsimp only)); at_builtin; refine Kd.R_append (Kd.int .i64) (w0 := w) w.heap.size rfl (.tmp 73) (.tmp 80) 22 3 (.int .i64 0) 8 rfl Try.underlying22 info3 rfl (by decide) (by omega) u11 x11_2 t241 [.int .i64 t241] (fun k_ => some k_ ≠ (v238 : Value).ownBlock) (fun _ => False) rfl rfl ?aP (fun _ hk => hk.elim) ?aF ?aO ?aB ?aS ?aL ?_; (case aP => exact rfl); (case aB => exact (by repeat (first | (with_reducible first | exact HB.out | apply below_alloc | apply pw_below_drewN | apply below_drew1) | exact HB.out))); (case aF => exact (fun k_ hk => Kd.fresh' (Kd.R_lt (by (with_reducible repeat (first | apply Kd.R_alloc | apply Kd.R_drewN | apply Kd.R_drew)); exact HO239.out)) k_ hk)); (case aO => exact (by (with_reducible repeat (first | apply Kd.R_alloc | apply Kd.R_drewN | apply Kd.R_drew)); exact Kd.R_mono HO_11.out (fun _ hk => hk.2))); (case aS => exact (below_size (by repeat (first | (with_reducible first | exact HB.out | apply below_alloc | apply pw_below_drewN | apply below_drew1) | exact HB.out)))); (case aL => have := LMc25.out; omega); intro v243 w30 ho hb hg hat; rw [← Ny242.out] at ho; have n0_ := Aside0.mk (Kd.R_after (ok := (fun _ => True)) (by (with_reducible repeat (first | apply Kd.R_alloc | apply Kd.R_drewN | apply Kd.R_drew)); exact Kd.R_mono HO239.out (fun _ hk => ⟨trivial, hk⟩)) hg hat); have n1_ := Aside0.mk (hb); have n2_ := Aside0.mk (ho); clear HO239; clear HB; clear HO_11; have HO239 := n0_; have HB := n1_; have HO244 := n2_; clear n0_ n1_ n2_; clear ho hb hg hat))
                      go_roundg k2
                      case measure => have := HJ5.out; have := HK2.out; omega
                      case rel => exact ⟨(y237), (y242), (wrap64 (x12_2 + 1)), (by first | rfl | (simp; done) | (simp [*]; done)), H', ⟨by have := HJ5.out; have := HK2.out; omega⟩, ⟨by (with_reducible repeat (first | apply Kd.R_alloc | apply Kd.R_drewN | apply Kd.R_drew)); exact Kd.R_mono HO239.out (fun _ hk => hk.2)⟩, ⟨by (with_reducible repeat (first | apply Kd.R_alloc | apply Kd.R_drewN | apply Kd.R_drew)); exact HO244.out⟩, ⟨by repeat (first | (with_reducible first | exact HB.out | apply below_alloc | apply pw_below_drewN | apply below_drew1) | exact HB.out)⟩⟩
                    · rw [if_neg c25] at H
                      exact absurd H (by simp)
                  · rw [if_neg c23] at H
                    exact absurd H (by simp)
                · rw [if_neg c21] at H
                  exact absurd H (by simp)
              · rw [if_neg c20] at H
                exact absurd H (by simp)
            · rw [if_neg c19] at H
              have c19b0 : decide (x12_2 < (l0.length : Int)) = false := decide_eq_false c19
              clear c19
              replace H := Option.bind_eq_some_iff.mp H
              obtain ⟨⟨t245, t246⟩, A310, H⟩ := H
              replace H : ((field_Eval.f k2 l1 a2).bind fun bt247 => ((field_Eval.f k2 x10_2 a2).bind fun bt249 => ((field_Eval.f k2 x11_2 a2).bind fun bt251 => ((some (([] : List Int) : List Int)).bind fun y253 => (if y253.length + l0.length < 17592186044416 then ((some (y253 ++ l0 : List Int)).bind fun y256 => (if y256.length < 17592186044416 then ((field_Eval.f k2 (y256 ++ [0]) a2).bind fun bt262 => ((field_Eval.f k2 l0 0).bind fun bt264 => (if t246 = 0 then (if bt247.2 = 0 then (if bt249.2 = 0 then (if bt251.2 = 0 then (if bt262.2 = 0 then (observatorylaw06_FieldValues.j2 k2 l0 a3 t227 t245 bt247.1 bt249.1 bt251.1 bt262.1 bt264.1 (bt264.2 != 0)) else (observatorylaw06_FieldValues.j2 k2 l0 a3 t227 t245 bt247.1 bt249.1 bt251.1 bt262.1 bt264.1 true)) else (observatorylaw06_FieldValues.j2 k2 l0 a3 t227 t245 bt247.1 bt249.1 bt251.1 bt262.1 bt264.1 true)) else (observatorylaw06_FieldValues.j2 k2 l0 a3 t227 t245 bt247.1 bt249.1 bt251.1 bt262.1 bt264.1 true)) else (observatorylaw06_FieldValues.j2 k2 l0 a3 t227 t245 bt247.1 bt249.1 bt251.1 bt262.1 bt264.1 true)) else (observatorylaw06_FieldValues.j2 k2 l0 a3 t227 t245 bt247.1 bt249.1 bt251.1 bt262.1 bt264.1 true)))) else (none))) else (none)))))) = some r := H
              have A31 := Aside0.mk A310
              clear A310
              replace H := Option.bind_eq_some_iff.mp H
              obtain ⟨⟨t247, t248⟩, A320, H⟩ := H
              replace H : ((field_Eval.f k2 x10_2 a2).bind fun bt249 => ((field_Eval.f k2 x11_2 a2).bind fun bt251 => ((some (([] : List Int) : List Int)).bind fun y253 => (if y253.length + l0.length < 17592186044416 then ((some (y253 ++ l0 : List Int)).bind fun y256 => (if y256.length < 17592186044416 then ((field_Eval.f k2 (y256 ++ [0]) a2).bind fun bt262 => ((field_Eval.f k2 l0 0).bind fun bt264 => (if t246 = 0 then (if t248 = 0 then (if bt249.2 = 0 then (if bt251.2 = 0 then (if bt262.2 = 0 then (observatorylaw06_FieldValues.j2 k2 l0 a3 t227 t245 t247 bt249.1 bt251.1 bt262.1 bt264.1 (bt264.2 != 0)) else (observatorylaw06_FieldValues.j2 k2 l0 a3 t227 t245 t247 bt249.1 bt251.1 bt262.1 bt264.1 true)) else (observatorylaw06_FieldValues.j2 k2 l0 a3 t227 t245 t247 bt249.1 bt251.1 bt262.1 bt264.1 true)) else (observatorylaw06_FieldValues.j2 k2 l0 a3 t227 t245 t247 bt249.1 bt251.1 bt262.1 bt264.1 true)) else (observatorylaw06_FieldValues.j2 k2 l0 a3 t227 t245 t247 bt249.1 bt251.1 bt262.1 bt264.1 true)) else (observatorylaw06_FieldValues.j2 k2 l0 a3 t227 t245 t247 bt249.1 bt251.1 bt262.1 bt264.1 true)))) else (none))) else (none))))) = some r := H
              have A32 := Aside0.mk A320
              clear A320
              replace H := Option.bind_eq_some_iff.mp H
              obtain ⟨⟨t249, t250⟩, A330, H⟩ := H
              replace H : ((field_Eval.f k2 x11_2 a2).bind fun bt251 => ((some (([] : List Int) : List Int)).bind fun y253 => (if y253.length + l0.length < 17592186044416 then ((some (y253 ++ l0 : List Int)).bind fun y256 => (if y256.length < 17592186044416 then ((field_Eval.f k2 (y256 ++ [0]) a2).bind fun bt262 => ((field_Eval.f k2 l0 0).bind fun bt264 => (if t246 = 0 then (if t248 = 0 then (if t250 = 0 then (if bt251.2 = 0 then (if bt262.2 = 0 then (observatorylaw06_FieldValues.j2 k2 l0 a3 t227 t245 t247 t249 bt251.1 bt262.1 bt264.1 (bt264.2 != 0)) else (observatorylaw06_FieldValues.j2 k2 l0 a3 t227 t245 t247 t249 bt251.1 bt262.1 bt264.1 true)) else (observatorylaw06_FieldValues.j2 k2 l0 a3 t227 t245 t247 t249 bt251.1 bt262.1 bt264.1 true)) else (observatorylaw06_FieldValues.j2 k2 l0 a3 t227 t245 t247 t249 bt251.1 bt262.1 bt264.1 true)) else (observatorylaw06_FieldValues.j2 k2 l0 a3 t227 t245 t247 t249 bt251.1 bt262.1 bt264.1 true)) else (observatorylaw06_FieldValues.j2 k2 l0 a3 t227 t245 t247 t249 bt251.1 bt262.1 bt264.1 true)))) else (none))) else (none)))) = some r := H
              have A33 := Aside0.mk A330
              clear A330
              replace H := Option.bind_eq_some_iff.mp H
              obtain ⟨⟨t251, t252⟩, A340, H⟩ := H
              replace H : ((some (([] : List Int) : List Int)).bind fun y253 => (if y253.length + l0.length < 17592186044416 then ((some (y253 ++ l0 : List Int)).bind fun y256 => (if y256.length < 17592186044416 then ((field_Eval.f k2 (y256 ++ [0]) a2).bind fun bt262 => ((field_Eval.f k2 l0 0).bind fun bt264 => (if t246 = 0 then (if t248 = 0 then (if t250 = 0 then (if t252 = 0 then (if bt262.2 = 0 then (observatorylaw06_FieldValues.j2 k2 l0 a3 t227 t245 t247 t249 t251 bt262.1 bt264.1 (bt264.2 != 0)) else (observatorylaw06_FieldValues.j2 k2 l0 a3 t227 t245 t247 t249 t251 bt262.1 bt264.1 true)) else (observatorylaw06_FieldValues.j2 k2 l0 a3 t227 t245 t247 t249 t251 bt262.1 bt264.1 true)) else (observatorylaw06_FieldValues.j2 k2 l0 a3 t227 t245 t247 t249 t251 bt262.1 bt264.1 true)) else (observatorylaw06_FieldValues.j2 k2 l0 a3 t227 t245 t247 t249 t251 bt262.1 bt264.1 true)) else (observatorylaw06_FieldValues.j2 k2 l0 a3 t227 t245 t247 t249 t251 bt262.1 bt264.1 true)))) else (none))) else (none))) = some r := H
              have A34 := Aside0.mk A340
              clear A340
              obtain ⟨y253, hy253⟩ : ∃ y_ : List Int, y_ = (([] : List Int)) := ⟨_, rfl⟩
              replace H : (if y253.length + l0.length < 17592186044416 then ((some (y253 ++ l0 : List Int)).bind fun y256 => (if y256.length < 17592186044416 then ((field_Eval.f k2 (y256 ++ [0]) a2).bind fun bt262 => ((field_Eval.f k2 l0 0).bind fun bt264 => (if t246 = 0 then (if t248 = 0 then (if t250 = 0 then (if t252 = 0 then (if bt262.2 = 0 then (observatorylaw06_FieldValues.j2 k2 l0 a3 t227 t245 t247 t249 t251 bt262.1 bt264.1 (bt264.2 != 0)) else (observatorylaw06_FieldValues.j2 k2 l0 a3 t227 t245 t247 t249 t251 bt262.1 bt264.1 true)) else (observatorylaw06_FieldValues.j2 k2 l0 a3 t227 t245 t247 t249 t251 bt262.1 bt264.1 true)) else (observatorylaw06_FieldValues.j2 k2 l0 a3 t227 t245 t247 t249 t251 bt262.1 bt264.1 true)) else (observatorylaw06_FieldValues.j2 k2 l0 a3 t227 t245 t247 t249 t251 bt262.1 bt264.1 true)) else (observatorylaw06_FieldValues.j2 k2 l0 a3 t227 t245 t247 t249 t251 bt262.1 bt264.1 true)))) else (none))) else (none)) = some r := by first | (rw [hy253]; with_reducible exact H) | (have H2_ := (Option.bind_some _ _).symm.trans H; rw [hy253]; with_reducible exact H2_) | (have H2_ := (Option.bind_some _ _).symm.trans H; with_reducible exact H2_) | with_reducible exact H | (rw [hy253]; exact H) | exact H
              have Ny253 := Aside0.mk hy253
              clear hy253
              by_cases c35 : y253.length + l0.length < 17592186044416
              · rw [if_pos c35] at H
                have LMc35 := Aside0.mk c35
                clear c35
                obtain ⟨y256, hy256⟩ : ∃ y_ : List Int, y_ = (y253 ++ l0) := ⟨_, rfl⟩
                replace H : (if y256.length < 17592186044416 then ((field_Eval.f k2 (y256 ++ [0]) a2).bind fun bt262 => ((field_Eval.f k2 l0 0).bind fun bt264 => (if t246 = 0 then (if t248 = 0 then (if t250 = 0 then (if t252 = 0 then (if bt262.2 = 0 then (observatorylaw06_FieldValues.j2 k2 l0 a3 t227 t245 t247 t249 t251 bt262.1 bt264.1 (bt264.2 != 0)) else (observatorylaw06_FieldValues.j2 k2 l0 a3 t227 t245 t247 t249 t251 bt262.1 bt264.1 true)) else (observatorylaw06_FieldValues.j2 k2 l0 a3 t227 t245 t247 t249 t251 bt262.1 bt264.1 true)) else (observatorylaw06_FieldValues.j2 k2 l0 a3 t227 t245 t247 t249 t251 bt262.1 bt264.1 true)) else (observatorylaw06_FieldValues.j2 k2 l0 a3 t227 t245 t247 t249 t251 bt262.1 bt264.1 true)) else (observatorylaw06_FieldValues.j2 k2 l0 a3 t227 t245 t247 t249 t251 bt262.1 bt264.1 true)))) else (none)) = some r := by first | (rw [hy256]; with_reducible exact H) | (have H2_ := (Option.bind_some _ _).symm.trans H; rw [hy256]; with_reducible exact H2_) | (have H2_ := (Option.bind_some _ _).symm.trans H; with_reducible exact H2_) | with_reducible exact H | (rw [hy256]; exact H) | exact H
                have Ny256 := Aside0.mk hy256
                clear hy256
                by_cases c36 : y256.length < 17592186044416
                · rw [if_pos c36] at H
                  have LMc36 := Aside0.mk c36
                  clear c36
                  obtain ⟨y259, hy259⟩ : ∃ y_ : List Int, y_ = (y256 ++ [0]) := ⟨_, rfl⟩
                  replace H : ((field_Eval.f k2 y259 a2).bind fun bt262 => ((field_Eval.f k2 l0 0).bind fun bt264 => (if t246 = 0 then (if t248 = 0 then (if t250 = 0 then (if t252 = 0 then (if bt262.2 = 0 then (observatorylaw06_FieldValues.j2 k2 l0 a3 t227 t245 t247 t249 t251 bt262.1 bt264.1 (bt264.2 != 0)) else (observatorylaw06_FieldValues.j2 k2 l0 a3 t227 t245 t247 t249 t251 bt262.1 bt264.1 true)) else (observatorylaw06_FieldValues.j2 k2 l0 a3 t227 t245 t247 t249 t251 bt262.1 bt264.1 true)) else (observatorylaw06_FieldValues.j2 k2 l0 a3 t227 t245 t247 t249 t251 bt262.1 bt264.1 true)) else (observatorylaw06_FieldValues.j2 k2 l0 a3 t227 t245 t247 t249 t251 bt262.1 bt264.1 true)) else (observatorylaw06_FieldValues.j2 k2 l0 a3 t227 t245 t247 t249 t251 bt262.1 bt264.1 true)))) = some r := by first | (rw [hy259]; with_reducible exact H) | (have H2_ := (Option.bind_some _ _).symm.trans H; rw [hy259]; with_reducible exact H2_) | (have H2_ := (Option.bind_some _ _).symm.trans H; with_reducible exact H2_) | with_reducible exact H | (rw [hy259]; exact H) | exact H
                  have Ny259 := Aside0.mk hy259
                  clear hy259
                  replace H := Option.bind_eq_some_iff.mp H
                  obtain ⟨⟨t262, t263⟩, A370, H⟩ := H
                  replace H : ((field_Eval.f k2 l0 0).bind fun bt264 => (if t246 = 0 then (if t248 = 0 then (if t250 = 0 then (if t252 = 0 then (if t263 = 0 then (observatorylaw06_FieldValues.j2 k2 l0 a3 t227 t245 t247 t249 t251 t262 bt264.1 (bt264.2 != 0)) else (observatorylaw06_FieldValues.j2 k2 l0 a3 t227 t245 t247 t249 t251 t262 bt264.1 true)) else (observatorylaw06_FieldValues.j2 k2 l0 a3 t227 t245 t247 t249 t251 t262 bt264.1 true)) else (observatorylaw06_FieldValues.j2 k2 l0 a3 t227 t245 t247 t249 t251 t262 bt264.1 true)) else (observatorylaw06_FieldValues.j2 k2 l0 a3 t227 t245 t247 t249 t251 t262 bt264.1 true)) else (observatorylaw06_FieldValues.j2 k2 l0 a3 t227 t245 t247 t249 t251 t262 bt264.1 true))) = some r := H
                  have A37 := Aside0.mk A370
                  clear A370
                  replace H := Option.bind_eq_some_iff.mp H
                  obtain ⟨⟨t264, t265⟩, A380, H⟩ := H
                  replace H : (if t246 = 0 then (if t248 = 0 then (if t250 = 0 then (if t252 = 0 then (if t263 = 0 then (observatorylaw06_FieldValues.j2 k2 l0 a3 t227 t245 t247 t249 t251 t262 t264 (t265 != 0)) else (observatorylaw06_FieldValues.j2 k2 l0 a3 t227 t245 t247 t249 t251 t262 t264 true)) else (observatorylaw06_FieldValues.j2 k2 l0 a3 t227 t245 t247 t249 t251 t262 t264 true)) else (observatorylaw06_FieldValues.j2 k2 l0 a3 t227 t245 t247 t249 t251 t262 t264 true)) else (observatorylaw06_FieldValues.j2 k2 l0 a3 t227 t245 t247 t249 t251 t262 t264 true)) else (observatorylaw06_FieldValues.j2 k2 l0 a3 t227 t245 t247 t249 t251 t262 t264 true)) = some r := H
                  have A38 := Aside0.mk A380
                  clear A380
                  have HC39 := Aside0.mk H
                  clear H
                  go_upto_region 16 with (first | ((with_reducible refine gate_callee (f := 22) rfl ?_); refine goesL_ (some 85) rfl rfl Try.func22 (by kernel_rfl) rfl #[.slice A0 l0.length c0, .int .i64 a2] rfl (by (try simp only [List.map_toArray, List.map_cons, List.map_nil]); first | done | rfl | (simp only [List.length_drop, List.length_take]; rfl)) ?_; (with_reducible refine (field_Eval.calls k2 _ _ l0 a2 t245 t246 _ ?side1 ?side2 A31.out).mono ?_); (case side1 => repeat (first | exact (Kd.C_below HR0.out HB.out) | (with_reducible refine Kd.C_alloc ?_ _) | (with_reducible refine Kd.C_drewN ?_ _) | (with_reducible refine Kd.C_drew ?_))); (case side2 => exact HC0.out); rintro e w' ⟨rfl, ⟨nd, rfl⟩⟩; refine ⟨_, rfl, ?_⟩) | ((with_reducible refine gate_callee (f := 22) rfl ?_); refine goesL_ (some 91) rfl rfl Try.func22 (by kernel_rfl) rfl #[.slice A1 l1.length c1, .int .i64 a2] rfl (by (try simp only [List.map_toArray, List.map_cons, List.map_nil]); first | done | rfl | (simp only [List.length_drop, List.length_take]; rfl)) ?_; (with_reducible refine (field_Eval.calls k2 _ _ l1 a2 t247 t248 _ ?side1 ?side2 A32.out).mono ?_); (case side1 => repeat (first | exact (Kd.C_below HR1.out (by repeat (first | (with_reducible first | exact HB.out | apply below_alloc | apply pw_below_drewN | apply below_drew1) | exact HB.out))) | (with_reducible refine Kd.C_alloc ?_ _) | (with_reducible refine Kd.C_drewN ?_ _) | (with_reducible refine Kd.C_drew ?_))); (case side2 => exact HC1.out); rintro e w' ⟨rfl, ⟨nd, rfl⟩⟩; refine ⟨_, rfl, ?_⟩; obtain ⟨Ao40, co40, eo40⟩ := Kd.R_slice HO_10.out; subst eo40) | ((with_reducible refine gate_callee (f := 22) rfl ?_); refine goesL_ (some 97) rfl rfl Try.func22 (by kernel_rfl) rfl #[.slice Ao40 x10_2.length co40, .int .i64 a2] rfl (by (try simp only [List.map_toArray, List.map_cons, List.map_nil]); first | done | rfl | (simp only [List.length_drop, List.length_take]; rfl)) ?_; (with_reducible refine (field_Eval.calls k2 _ _ x10_2 a2 t249 t250 _ ?side1 ?side2 A33.out).mono ?_); (case side1 => repeat (first | exact (Kd.R_reads' HO_10.out).2.2 | (with_reducible refine Kd.C_alloc ?_ _) | (with_reducible refine Kd.C_drewN ?_ _) | (with_reducible refine Kd.C_drew ?_))); (case side2 => exact (Kd.R_reads' HO_10.out).2.1); rintro e w' ⟨rfl, ⟨nd, rfl⟩⟩; refine ⟨_, rfl, ?_⟩; obtain ⟨Ao41, co41, eo41⟩ := Kd.R_slice HO_11.out; subst eo41) | ((with_reducible refine gate_callee (f := 22) rfl ?_); refine goesL_ (some 103) rfl rfl Try.func22 (by kernel_rfl) rfl #[.slice Ao41 x11_2.length co41, .int .i64 a2] rfl (by (try simp only [List.map_toArray, List.map_cons, List.map_nil]); first | done | rfl | (simp only [List.length_drop, List.length_take]; rfl)) ?_; (with_reducible refine (field_Eval.calls k2 _ _ x11_2 a2 t251 t252 _ ?side1 ?side2 A34.out).mono ?_); (case side1 => repeat (first | exact (Kd.R_reads' HO_11.out).2.2 | (with_reducible refine Kd.C_alloc ?_ _) | (with_reducible refine Kd.C_drewN ?_ _) | (with_reducible refine Kd.C_drew ?_))); (case side2 => exact (Kd.R_reads' HO_11.out).2.1); rintro e w' ⟨rfl, ⟨nd, rfl⟩⟩; refine ⟨_, rfl, ?_⟩) | ((with_reducible refine gate_dst (N := 107) rfl ?_); (try (refine gate_guard (by rfl) ?_; dsimp only)); refine Kd.R_lit (Kd.int .i64) _ 3 ?hg (N := 107) ?hd (xs := ([] : List Int)) (inner := []) (ok := fun _ => True) (okp := fun _ => True) ?hr ?hp (fun _ hk => hk) trivial (Below.refl _ _) (Nat.le_refl _) (by simp) ?_; (case hd => rfl); (case hg => rfl); (case hr => first | (go_simp; done) | (go_simp; rfl)); (case hp => exact (Reps.none _ _)); intro v254 w42 ho43 hb hg_ hnew_; clear hg_ hnew_; (first | rw [← Ny253.out] at ho43 | (simp only [Int.reduceToNat] at ho43; rw [← Ny253.out] at ho43)); have n0_ := Aside0.mk (Kd.R_elder' (by (with_reducible repeat (first | apply Kd.R_alloc | apply Kd.R_drewN | apply Kd.R_drew)); exact HO_10.out) (Kd.R_base ho43) hb); have n1_ := Aside0.mk (Kd.R_elder' (by (with_reducible repeat (first | apply Kd.R_alloc | apply Kd.R_drewN | apply Kd.R_drew)); exact HO_11.out) (Kd.R_base ho43) hb); have n2_ := Aside0.mk (Kd.R_lower (Kd.R_new' (Kd.R_new' ho43 (Kd.R_lt (by (with_reducible repeat (first | apply Kd.R_alloc | apply Kd.R_drewN | apply Kd.R_drew)); exact HO_10.out))) (Kd.R_lt (by (with_reducible repeat (first | apply Kd.R_alloc | apply Kd.R_drewN | apply Kd.R_drew)); exact HO_11.out))) (below_size (by repeat (first | (with_reducible first | exact HB.out | apply below_alloc | apply pw_below_drewN | apply below_drew1) | exact HB.out)))); have n3_ := Aside0.mk (below_step (by repeat (first | (with_reducible first | exact HB.out | apply below_alloc | apply pw_below_drewN | apply below_drew1) | exact HB.out)) hb); clear HO_10; clear HO_11; clear HB; have HO_10 := n0_; have HO_11 := n1_; have HO255 := n2_; have HB := n3_; clear n0_ n1_ n2_ n3_; clear hb ho43) | ((with_reducible refine gate_builtin (b := .append) (xs := #[.tmp 107, .tmp 108]) rfl ?_); (try (refine gate_guard (by rfl) ?_; dsimp only)); at_builtin; refine Kd.R_append_rows (Kd.int .i64) (w0 := w) w.heap.size rfl (.tmp 107) (.tmp 108) 22 3 (.int .i64 0) 8 rfl Try.underlying22 info3 rfl (by decide) (by omega) v254 y253 l0 _ _ _ (fun k_ => some k_ ≠ (.slice Ao40 x10_2.length co40 : Value).ownBlock ∧ some k_ ≠ (.slice Ao41 x11_2.length co41 : Value).ownBlock) (fun _ => False) rfl rfl ?aO ?aR (fun _ _ h => h) (fun _ h => h.elim) ?aF ?aB ?aS ?aL ?_; (case aR => repeat (first | exact (Kd.C_below HR0.out HB.out) | (with_reducible refine Kd.C_alloc ?_ _) | (with_reducible refine Kd.C_drewN ?_ _) | (with_reducible refine Kd.C_drew ?_))); (case aB => exact (by repeat (first | (with_reducible first | exact HB.out | apply below_alloc | apply pw_below_drewN | apply below_drew1) | exact HB.out))); (case aF => exact (fun k_ hk => ⟨Kd.fresh' (Kd.R_lt (by (with_reducible repeat (first | apply Kd.R_alloc | apply Kd.R_drewN | apply Kd.R_drew)); exact HO_10.out)) k_ hk, Kd.fresh' (Kd.R_lt (by (with_reducible repeat (first | apply Kd.R_alloc | apply Kd.R_drewN | apply Kd.R_drew)); exact HO_11.out)) k_ hk⟩)); (case aO => exact (by (with_reducible repeat (first | apply Kd.R_alloc | apply Kd.R_drewN | apply Kd.R_drew)); exact Kd.R_mono HO255.out (fun _ hk => ⟨hk.1.2, hk.2⟩))); (case aS => exact (below_size (by repeat (first | (with_reducible first | exact HB.out | apply below_alloc | apply pw_below_drewN | apply below_drew1) | exact HB.out)))); (case aL => have := LMc35.out; omega); intro v257 w44 ho hb hg hat; rw [← Ny256.out] at ho; have n0_ := Aside0.mk (Kd.R_after (ok := (fun k_ => some k_ ≠ (.slice Ao41 x11_2.length co41 : Value).ownBlock)) (by (with_reducible repeat (first | apply Kd.R_alloc | apply Kd.R_drewN | apply Kd.R_drew)); exact HO_10.out) hg hat); have n1_ := Aside0.mk (Kd.R_after (ok := (fun k_ => some k_ ≠ (.slice Ao40 x10_2.length co40 : Value).ownBlock)) (by (with_reducible repeat (first | apply Kd.R_alloc | apply Kd.R_drewN | apply Kd.R_drew)); exact HO_11.out) hg hat); have n2_ := Aside0.mk (hb); have n3_ := Aside0.mk (ho); clear HO_10; clear HO_11; clear HB; clear HO255; have HO_10 := n0_; have HO_11 := n1_; have HB := n2_; have HO258 := n3_; clear n0_ n1_ n2_ n3_; clear ho hb hg hat) | ((with_reducible refine gate_builtin (b := .append) (xs := #[.tmp 109, .tmp 110]) rfl ?_); (try (refine gate_guard (by rfl) ?_; dsimp only)); at_builtin; refine Kd.R_append (Kd.int .i64) (w0 := w) w.heap.size rfl (.tmp 109) (.tmp 110) 22 3 (.int .i64 0) 8 rfl Try.underlying22 info3 rfl (by decide) (by omega) v257 y256 0 [.int .i64 0] (fun k_ => some k_ ≠ (.slice Ao40 x10_2.length co40 : Value).ownBlock ∧ some k_ ≠ (.slice Ao41 x11_2.length co41 : Value).ownBlock) (fun _ => False) rfl rfl ?aP (fun _ hk => hk.elim) ?aF ?aO ?aB ?aS ?aL ?_; (case aP => exact rfl); (case aB => exact (by repeat (first | (with_reducible first | exact HB.out | apply below_alloc | apply pw_below_drewN | apply below_drew1) | exact HB.out))); (case aF => exact (fun k_ hk => ⟨Kd.fresh' (Kd.R_lt (by (with_reducible repeat (first | apply Kd.R_alloc | apply Kd.R_drewN | apply Kd.R_drew)); exact HO_10.out)) k_ hk, Kd.fresh' (Kd.R_lt (by (with_reducible repeat (first | apply Kd.R_alloc | apply Kd.R_drewN | apply Kd.R_drew)); exact HO_11.out)) k_ hk⟩)); (case aO => exact (by (with_reducible repeat (first | apply Kd.R_alloc | apply Kd.R_drewN | apply Kd.R_drew)); exact HO258.out)); (case aS => exact (below_size (by repeat (first | (with_reducible first | exact HB.out | apply below_alloc | apply pw_below_drewN | apply below_drew1) | exact HB.out)))); (case aL => have := LMc36.out; omega); intro v260 w45 ho hb hg hat; rw [← Ny259.out] at ho; have n0_ := Aside0.mk (Kd.R_after (ok := (fun k_ => some k_ ≠ (.slice Ao41 x11_2.length co41 : Value).ownBlock)) (by (with_reducible repeat (first | apply Kd.R_alloc | apply Kd.R_drewN | apply Kd.R_drew)); exact HO_10.out) hg hat); have n1_ := Aside0.mk (Kd.R_after (ok := (fun k_ => some k_ ≠ (.slice Ao40 x10_2.length co40 : Value).ownBlock)) (by (with_reducible repeat (first | apply Kd.R_alloc | apply Kd.R_drewN | apply Kd.R_drew)); exact HO_11.out) hg hat); have n2_ := Aside0.mk (hb); have n3_ := Aside0.mk (ho); clear HO_10; clear HO_11; clear HB; clear HO258; have HO_10 := n0_; have HO_11 := n1_; have HB := n2_; have HO261 := n3_; clear n0_ n1_ n2_ n3_; clear ho hb hg hat; obtain ⟨Ao46, co46, eo46⟩ := Kd.R_slice HO261.out; subst eo46) | ((with_reducible refine gate_callee (f := 22) rfl ?_); refine goesL_ (some 113) rfl rfl Try.func22 (by kernel_rfl) rfl #[.slice Ao46 y259.length co46, .int .i64 a2] rfl (by (try simp only [List.map_toArray, List.map_cons, List.map_nil]); first | done | rfl | (simp only [List.length_drop, List.length_take]; rfl)) ?_; (with_reducible refine (field_Eval.calls k2 _ _ y259 a2 t262 t263 _ ?side1 ?side2 A37.out).mono ?_); (case side1 => repeat (first | exact (Kd.R_reads' HO261.out).2.2 | (with_reducible refine Kd.C_alloc ?_ _) | (with_reducible refine Kd.C_drewN ?_ _) | (with_reducible refine Kd.C_drew ?_))); (case side2 => exact (Kd.R_reads' HO261.out).2.1); rintro e w' ⟨rfl, ⟨nd, rfl⟩⟩; refine ⟨_, rfl, ?_⟩) | ((with_reducible refine gate_callee (f := 22) rfl ?_); refine goesL_ (some 118) rfl rfl Try.func22 (by kernel_rfl) rfl #[.slice A0 l0.length c0, .int .i64 0] rfl (by (try simp only [List.map_toArray, List.map_cons, List.map_nil]); first | done | rfl | (simp only [List.length_drop, List.length_take]; rfl)) ?_; (with_reducible refine (field_Eval.calls k2 _ _ l0 0 t264 t265 _ ?side1 ?side2 A38.out).mono ?_); (case side1 => repeat (first | exact (Kd.C_below HR0.out (by repeat (first | (with_reducible first | exact HB.out | apply below_alloc | apply pw_below_drewN | apply below_drew1) | exact HB.out))) | (with_reducible refine Kd.C_alloc ?_ _) | (with_reducible refine Kd.C_drewN ?_ _) | (with_reducible refine Kd.C_drew ?_))); (case side2 => exact HC0.out); rintro e w' ⟨rfl, ⟨nd, rfl⟩⟩; refine ⟨_, rfl, ?_⟩))
                  (try simp only [Act.put, List.setIfInBounds_toArray, List.set_cons_zero, List.set_cons_succ])
                  go_cut [142] (fun v142 wc => ∃ (kq : Nat) (x142_38 : Bool), v142 = .bool x142_38 ∧ Aside0 (observatorylaw06_FieldValues.j2 kq l0 a3 t227 t245 t247 t249 t251 t262 t264 x142_38 = some r) ∧ Aside0 (kq ≤ k2) ∧ Aside0 (Below w.heap.size w wc))
                  case first =>
                    have H := HC39.out
                    clear HC39
                    by_cases c47 : t246 = 0
                    · rw [if_pos c47] at H
                      have c47b0 : (t246 == 0) = true := beq_iff_eq.mpr c47
                      have c47b1 : (t246 != 0) = false := bne_eq_false_iff_eq.mpr c47
                      clear c47
                      (first | rw [c47b0] | (simp only [i64_w, i32_w]; rw [c47b0]) | skip)
                      by_cases c48 : t248 = 0
                      · rw [if_pos c48] at H
                        have c48b0 : (t248 == 0) = true := beq_iff_eq.mpr c48
                        have c48b1 : (t248 != 0) = false := bne_eq_false_iff_eq.mpr c48
                        clear c48
                        by_cases c49 : t250 = 0
                        · rw [if_pos c49] at H
                          have c49b0 : (t250 == 0) = true := beq_iff_eq.mpr c49
                          have c49b1 : (t250 != 0) = false := bne_eq_false_iff_eq.mpr c49
                          clear c49
                          by_cases c50 : t252 = 0
                          · rw [if_pos c50] at H
                            have c50b0 : (t252 == 0) = true := beq_iff_eq.mpr c50
                            have c50b1 : (t252 != 0) = false := bne_eq_false_iff_eq.mpr c50
                            clear c50
                            by_cases c51 : t263 = 0
                            · rw [if_pos c51] at H
                              have c51b0 : (t263 == 0) = true := beq_iff_eq.mpr c51
                              have c51b1 : (t263 != 0) = false := bne_eq_false_iff_eq.mpr c51
                              clear c51
                              have H' := Aside0.mk H
                              clear H
                              go_wp2
                              go_meet
                              case rel => exact ⟨_, ((t265 != 0)), (by first | rfl | (simp; done) | (simp [*]; done)), H', ⟨by have := HJ5.out; have := HK2.out; first | omega | exact Nat.le_refl _⟩, ⟨by repeat (first | (with_reducible first | exact HB.out | apply below_alloc | apply pw_below_drewN | apply below_drew1) | exact HB.out)⟩⟩
                            · rw [if_neg c51] at H
                              have c51b0 : (t263 == 0) = false := beq_eq_false_iff_ne.mpr c51
                              have c51b1 : (t263 != 0) = true := bne_iff_ne.mpr c51
                              have H' := Aside0.mk H
                              clear H
                              go_wp2
                              go_meet
                              case rel => exact ⟨_, (true), (by first | rfl | (simp; done) | (simp [*]; done)), H', ⟨by have := HJ5.out; have := HK2.out; first | omega | exact Nat.le_refl _⟩, ⟨by repeat (first | (with_reducible first | exact HB.out | apply below_alloc | apply pw_below_drewN | apply below_drew1) | exact HB.out)⟩⟩
                          · rw [if_neg c50] at H
                            have c50b0 : (t252 == 0) = false := beq_eq_false_iff_ne.mpr c50
                            have c50b1 : (t252 != 0) = true := bne_iff_ne.mpr c50
                            have H' := Aside0.mk H
                            clear H
                            go_wp2
                            go_meet
                            case rel => exact ⟨_, (true), (by first | rfl | (simp; done) | (simp [*]; done)), H', ⟨by have := HJ5.out; have := HK2.out; first | omega | exact Nat.le_refl _⟩, ⟨by repeat (first | (with_reducible first | exact HB.out | apply below_alloc | apply pw_below_drewN | apply below_drew1) | exact HB.out)⟩⟩
                        · rw [if_neg c49] at H
                          have c49b0 : (t250 == 0) = false := beq_eq_false_iff_ne.mpr c49
                          have c49b1 : (t250 != 0) = true := bne_iff_ne.mpr c49
                          have H' := Aside0.mk H
                          clear H
                          go_wp2
                          go_meet
                          case rel => exact ⟨_, (true), (by first | rfl | (simp; done) | (simp [*]; done)), H', ⟨by have := HJ5.out; have := HK2.out; first | omega | exact Nat.le_refl _⟩, ⟨by repeat (first | (with_reducible first | exact HB.out | apply below_alloc | apply pw_below_drewN | apply below_drew1) | exact HB.out)⟩⟩
                      · rw [if_neg c48] at H
                        have c48b0 : (t248 == 0) = false := beq_eq_false_iff_ne.mpr c48
                        have c48b1 : (t248 != 0) = true := bne_iff_ne.mpr c48
                        have H' := Aside0.mk H
                        clear H
                        go_wp2
                        go_meet
                        case rel => exact ⟨_, (true), (by first | rfl | (simp; done) | (simp [*]; done)), H', ⟨by have := HJ5.out; have := HK2.out; first | omega | exact Nat.le_refl _⟩, ⟨by repeat (first | (with_reducible first | exact HB.out | apply below_alloc | apply pw_below_drewN | apply below_drew1) | exact HB.out)⟩⟩
                    · rw [if_neg c47] at H
                      have c47b0 : (t246 == 0) = false := beq_eq_false_iff_ne.mpr c47
                      have c47b1 : (t246 != 0) = true := bne_iff_ne.mpr c47
                      (first | rw [c47b0] | (simp only [i64_w, i32_w]; rw [c47b0]) | skip)
                      have H' := Aside0.mk H
                      clear H
                      go_wp2
                      go_meet
                      case rel => exact ⟨_, (true), (by first | rfl | (simp; done) | (simp [*]; done)), H', ⟨by have := HJ5.out; have := HK2.out; first | omega | exact Nat.le_refl _⟩, ⟨by repeat (first | (with_reducible first | exact HB.out | apply below_alloc | apply pw_below_drewN | apply below_drew1) | exact HB.out)⟩⟩
                  case rest =>
                    clear HC39
                    try clear c1
                    try clear c2
                    try clear p2
                    try clear q2
                    try clear hx2
                    try clear c3
                    try clear c4
                    try clear c5
                    try clear c6
                    try clear p6
                    try clear c8
                    try clear c8b0
                    try clear c8b1
                    try clear c8b2
                    try clear c9
                    try clear c9b0
                    try clear c9b1
                    try clear c11
                    try clear c13
                    try clear c15
                    try clear c18
                    try clear c19
                    try clear c19b0
                    try clear c20
                    try clear c20b0
                    try clear c21
                    try clear c21b0
                    try clear c22
                    try clear c23
                    try clear p23
                    try clear q23
                    try clear hx23
                    try clear p24
                    try clear q24
                    try clear hx24
                    try clear c25
                    try clear c27
                    try clear c28
                    try clear c35
                    try clear c36
                    try clear c47
                    try clear c47b0
                    try clear c47b1
                    try clear c48
                    try clear c48b0
                    try clear c48b1
                    try clear c49
                    try clear c49b0
                    try clear c49b1
                    try clear c50
                    try clear c50b0
                    try clear c50b1
                    try clear c51
                    try clear c51b0
                    try clear c51b1
                    try clear hx234_0
                    try clear hx235_0
                    try clear hx240_0
                    try clear p2
                    try clear p234
                    try clear p235
                    try clear p240
                    try clear q234
                    try clear q235
                    try clear q240
                    obtain ⟨kq, x142_38, rfl, HA, HJ38, HB⟩ := hcut
                    cases kq with
                    | zero => exact absurd HA.out (by simp [observatorylaw06_FieldValues.j2])
                    | succ kj38 =>
                      have H := HA.out
                      clear HA
                      simp only [observatorylaw06_FieldValues.j2] at H
                      by_cases c52 : x142_38 = true
                      · subst c52
                        have H1 : (some false) = some r := by rw [if_pos rfl] at H; exact H
                        clear H
                        have H := H1
                        clear H1
                        obtain rfl := Option.some.inj H
                        go_wp2
                        go_ret
                        exact ⟨by first | rfl | (simp [errW_none, errW_some] <;> rfl) | (simp [*, errW_none, errW_some] <;> rfl), by repeat (first | (with_reducible first | exact HB.out | apply below_alloc | apply pw_below_drewN | apply below_drew1) | exact HB.out)⟩
                      · replace c52 := Bool.eq_false_iff.mpr c52
                        subst c52
                        have H1 : (if (l0.length : Int) > 0 then (if 0 < (l0.length : Int) then (if t227 = true then ((observatorylaw06_add.f kj38 t245 t247).bind fun t267 => (if t249 = t267 then ((observatorylaw06_mul.f kj38 a3 t245).bind fun t268 => (if t251 = t268 then (if t262 = t245 then (some (t264 == (rd l0 0))) else (some false)) else (some false))) else (some false))) else (some false)) else (none)) else (if t227 = true then ((observatorylaw06_add.f kj38 t245 t247).bind fun t269 => (if t249 = t269 then ((observatorylaw06_mul.f kj38 a3 t245).bind fun t270 => (if t251 = t270 then (if t262 = t245 then (some (t264 == 0)) else (some false)) else (some false))) else (some false))) else (some false))) = some r := by rw [if_neg (show ¬ (false = true) by decide)] at H; exact H
                        clear H
                        have H := H1
                        clear H1
                        by_cases c53 : (l0.length : Int) > 0
                        · rw [if_pos c53] at H
                          have c53b0 : decide (0 < (l0.length : Int)) = true := decide_eq_true c53
                          have c53b1 : decide (0 < l0.length) = true := decide_eq_true (by omega)
                          clear c53
                          by_cases c54 : 0 < (l0.length : Int)
                          · rw [if_pos c54] at H
                            have c54b0 : decide (0 < (l0.length : Int)) = true := decide_eq_true c54
                            have c54b1 : decide (0 < l0.length) = true := decide_eq_true (by omega)
                            clear c54
                            by_cases c55 : t227 = true
                            · subst c55
                              have H1 : ((observatorylaw06_add.f kj38 t245 t247).bind fun t267 => (if t249 = t267 then ((observatorylaw06_mul.f kj38 a3 t245).bind fun t268 => (if t251 = t268 then (if t262 = t245 then (some (t264 == (rd l0 0))) else (some false)) else (some false))) else (some false))) = some r := by rw [if_pos rfl] at H; exact H
                              clear H
                              have H := H1
                              clear H1
                              replace H := Option.bind_eq_some_iff.mp H
                              obtain ⟨t267, A560, H⟩ := H
                              replace H : (if t249 = t267 then ((observatorylaw06_mul.f kj38 a3 t245).bind fun t268 => (if t251 = t268 then (if t262 = t245 then (some (t264 == (rd l0 0))) else (some false)) else (some false))) else (some false)) = some r := H
                              have A56 := Aside0.mk A560
                              clear A560
                              by_cases c57 : t249 = t267
                              · rw [if_pos c57] at H
                                have c57b0 : (t249 == t267) = true := beq_iff_eq.mpr c57
                                have c57b1 : (t249 != t267) = false := bne_eq_false_iff_eq.mpr c57
                                clear c57
                                replace H := Option.bind_eq_some_iff.mp H
                                obtain ⟨t268, A580, H⟩ := H
                                replace H : (if t251 = t268 then (if t262 = t245 then (some (t264 == (rd l0 0))) else (some false)) else (some false)) = some r := H
                                have A58 := Aside0.mk A580
                                clear A580
                                by_cases c59 : t251 = t268
                                · rw [if_pos c59] at H
                                  have c59b0 : (t251 == t268) = true := beq_iff_eq.mpr c59
                                  have c59b1 : (t251 != t268) = false := bne_eq_false_iff_eq.mpr c59
                                  clear c59
                                  by_cases c60 : t262 = t245
                                  · rw [if_pos c60] at H
                                    have c60b0 : (t262 == t245) = true := beq_iff_eq.mpr c60
                                    have c60b1 : (t262 != t245) = false := bne_eq_false_iff_eq.mpr c60
                                    clear c60
                                    obtain rfl := Option.some.inj H
                                    have p266 : 0 ≤ (0 : Int) := (by omega)
                                    have q266 : 0 < (l0.length : Int) := of_decide_eq_true (by first | (with_reducible assumption) | assumption)
                                    obtain ⟨ad266, e266, hx266_0⟩ := Kd.at_int HR0.out 0 p266 q266
                                    cases e266
                                    have qi266 : (0 < l0.length) = True := eq_true (by omega)
                                    (try rw [show ((0 : Int)).toNat = 0 from rfl] at hx266_0)
                                    (try rw [Addr.add_zero'] at hx266_0)
                                    replace hx266_0 := (HB.out.cell (World.block_lt_of_cell? w _ hx266_0)).trans hx266_0
                                    replace p266 := eq_true p266
                                    replace q266 := eq_true q266
                                    go_wp2_with (first | (go_at_call 27; (with_reducible refine (observatorylaw06_add.calls kj38 t245 t247 t267 _ A56.out).mono ?_); rintro e w61 ⟨rfl, hb⟩; have n0_ := Aside0.mk (below_step (by repeat (first | (with_reducible first | exact HB.out | apply below_alloc | apply pw_below_drewN | apply below_drew1) | exact HB.out)) hb); clear HB; have HB := n0_; clear n0_; (try clear hb); (try clear hb2); (try clear hk); (try clear hi)) | (go_at_call 28; (with_reducible refine (observatorylaw06_mul.calls kj38 a3 t245 t268 _ A58.out).mono ?_); rintro e w62 ⟨rfl, hb⟩; have n0_ := Aside0.mk (below_step (by repeat (first | (with_reducible first | exact HB.out | apply below_alloc | apply pw_below_drewN | apply below_drew1) | exact HB.out)) hb); clear HB; have HB := n0_; clear n0_; (try clear hb); (try clear hb2); (try clear hk); (try clear hi)))
                                    go_ret
                                    exact ⟨by first | rfl | (simp [errW_none, errW_some] <;> rfl) | (simp [*, errW_none, errW_some] <;> rfl), by repeat (first | (with_reducible first | exact HB.out | apply below_alloc | apply pw_below_drewN | apply below_drew1) | exact HB.out)⟩
                                  · rw [if_neg c60] at H
                                    have c60b0 : (t262 == t245) = false := beq_eq_false_iff_ne.mpr c60
                                    have c60b1 : (t262 != t245) = true := bne_iff_ne.mpr c60
                                    obtain rfl := Option.some.inj H
                                    have p266 : 0 ≤ (0 : Int) := (by omega)
                                    have q266 : 0 < (l0.length : Int) := of_decide_eq_true (by first | (with_reducible assumption) | assumption)
                                    obtain ⟨ad266, e266, hx266_0⟩ := Kd.at_int HR0.out 0 p266 q266
                                    cases e266
                                    have qi266 : (0 < l0.length) = True := eq_true (by omega)
                                    (try rw [show ((0 : Int)).toNat = 0 from rfl] at hx266_0)
                                    (try rw [Addr.add_zero'] at hx266_0)
                                    replace hx266_0 := (HB.out.cell (World.block_lt_of_cell? w _ hx266_0)).trans hx266_0
                                    replace p266 := eq_true p266
                                    replace q266 := eq_true q266
                                    go_wp2_with (first | (go_at_call 27; (with_reducible refine (observatorylaw06_add.calls kj38 t245 t247 t267 _ A56.out).mono ?_); rintro e w63 ⟨rfl, hb⟩; have n0_ := Aside0.mk (below_step (by repeat (first | (with_reducible first | exact HB.out | apply below_alloc | apply pw_below_drewN | apply below_drew1) | exact HB.out)) hb); clear HB; have HB := n0_; clear n0_; (try clear hb); (try clear hb2); (try clear hk); (try clear hi)) | (go_at_call 28; (with_reducible refine (observatorylaw06_mul.calls kj38 a3 t245 t268 _ A58.out).mono ?_); rintro e w64 ⟨rfl, hb⟩; have n0_ := Aside0.mk (below_step (by repeat (first | (with_reducible first | exact HB.out | apply below_alloc | apply pw_below_drewN | apply below_drew1) | exact HB.out)) hb); clear HB; have HB := n0_; clear n0_; (try clear hb); (try clear hb2); (try clear hk); (try clear hi)))
                                    go_ret
                                    exact ⟨by first | rfl | (simp [errW_none, errW_some] <;> rfl) | (simp [*, errW_none, errW_some] <;> rfl), by repeat (first | (with_reducible first | exact HB.out | apply below_alloc | apply pw_below_drewN | apply below_drew1) | exact HB.out)⟩
                                · rw [if_neg c59] at H
                                  have c59b0 : (t251 == t268) = false := beq_eq_false_iff_ne.mpr c59
                                  have c59b1 : (t251 != t268) = true := bne_iff_ne.mpr c59
                                  obtain rfl := Option.some.inj H
                                  have p266 : 0 ≤ (0 : Int) := (by omega)
                                  have q266 : 0 < (l0.length : Int) := of_decide_eq_true (by first | (with_reducible assumption) | assumption)
                                  obtain ⟨ad266, e266, hx266_0⟩ := Kd.at_int HR0.out 0 p266 q266
                                  cases e266
                                  have qi266 : (0 < l0.length) = True := eq_true (by omega)
                                  (try rw [show ((0 : Int)).toNat = 0 from rfl] at hx266_0)
                                  (try rw [Addr.add_zero'] at hx266_0)
                                  replace hx266_0 := (HB.out.cell (World.block_lt_of_cell? w _ hx266_0)).trans hx266_0
                                  replace p266 := eq_true p266
                                  replace q266 := eq_true q266
                                  go_wp2_with (first | (go_at_call 27; (with_reducible refine (observatorylaw06_add.calls kj38 t245 t247 t267 _ A56.out).mono ?_); rintro e w65 ⟨rfl, hb⟩; have n0_ := Aside0.mk (below_step (by repeat (first | (with_reducible first | exact HB.out | apply below_alloc | apply pw_below_drewN | apply below_drew1) | exact HB.out)) hb); clear HB; have HB := n0_; clear n0_; (try clear hb); (try clear hb2); (try clear hk); (try clear hi)) | (go_at_call 28; (with_reducible refine (observatorylaw06_mul.calls kj38 a3 t245 t268 _ A58.out).mono ?_); rintro e w66 ⟨rfl, hb⟩; have n0_ := Aside0.mk (below_step (by repeat (first | (with_reducible first | exact HB.out | apply below_alloc | apply pw_below_drewN | apply below_drew1) | exact HB.out)) hb); clear HB; have HB := n0_; clear n0_; (try clear hb); (try clear hb2); (try clear hk); (try clear hi)))
                                  go_ret
                                  exact ⟨by first | rfl | (simp [errW_none, errW_some] <;> rfl) | (simp [*, errW_none, errW_some] <;> rfl), by repeat (first | (with_reducible first | exact HB.out | apply below_alloc | apply pw_below_drewN | apply below_drew1) | exact HB.out)⟩
                              · rw [if_neg c57] at H
                                have c57b0 : (t249 == t267) = false := beq_eq_false_iff_ne.mpr c57
                                have c57b1 : (t249 != t267) = true := bne_iff_ne.mpr c57
                                obtain rfl := Option.some.inj H
                                have p266 : 0 ≤ (0 : Int) := (by omega)
                                have q266 : 0 < (l0.length : Int) := of_decide_eq_true (by first | (with_reducible assumption) | assumption)
                                obtain ⟨ad266, e266, hx266_0⟩ := Kd.at_int HR0.out 0 p266 q266
                                cases e266
                                have qi266 : (0 < l0.length) = True := eq_true (by omega)
                                (try rw [show ((0 : Int)).toNat = 0 from rfl] at hx266_0)
                                (try rw [Addr.add_zero'] at hx266_0)
                                replace hx266_0 := (HB.out.cell (World.block_lt_of_cell? w _ hx266_0)).trans hx266_0
                                replace p266 := eq_true p266
                                replace q266 := eq_true q266
                                go_wp2_with (first | (go_at_call 27; (with_reducible refine (observatorylaw06_add.calls kj38 t245 t247 t267 _ A56.out).mono ?_); rintro e w67 ⟨rfl, hb⟩; have n0_ := Aside0.mk (below_step (by repeat (first | (with_reducible first | exact HB.out | apply below_alloc | apply pw_below_drewN | apply below_drew1) | exact HB.out)) hb); clear HB; have HB := n0_; clear n0_; (try clear hb); (try clear hb2); (try clear hk); (try clear hi)))
                                go_ret
                                exact ⟨by first | rfl | (simp [errW_none, errW_some] <;> rfl) | (simp [*, errW_none, errW_some] <;> rfl), by repeat (first | (with_reducible first | exact HB.out | apply below_alloc | apply pw_below_drewN | apply below_drew1) | exact HB.out)⟩
                            · replace c55 := Bool.eq_false_iff.mpr c55
                              subst c55
                              have H1 : (some false) = some r := by rw [if_neg (show ¬ (false = true) by decide)] at H; exact H
                              clear H
                              have H := H1
                              clear H1
                              obtain rfl := Option.some.inj H
                              have p266 : 0 ≤ (0 : Int) := (by omega)
                              have q266 : 0 < (l0.length : Int) := of_decide_eq_true (by first | (with_reducible assumption) | assumption)
                              obtain ⟨ad266, e266, hx266_0⟩ := Kd.at_int HR0.out 0 p266 q266
                              cases e266
                              have qi266 : (0 < l0.length) = True := eq_true (by omega)
                              (try rw [show ((0 : Int)).toNat = 0 from rfl] at hx266_0)
                              (try rw [Addr.add_zero'] at hx266_0)
                              replace hx266_0 := (HB.out.cell (World.block_lt_of_cell? w _ hx266_0)).trans hx266_0
                              replace p266 := eq_true p266
                              replace q266 := eq_true q266
                              go_wp2
                              go_ret
                              exact ⟨by first | rfl | (simp [errW_none, errW_some] <;> rfl) | (simp [*, errW_none, errW_some] <;> rfl), by repeat (first | (with_reducible first | exact HB.out | apply below_alloc | apply pw_below_drewN | apply below_drew1) | exact HB.out)⟩
                          · rw [if_neg c54] at H
                            exact absurd H (by simp)
                        · rw [if_neg c53] at H
                          have c53b0 : decide (0 < (l0.length : Int)) = false := decide_eq_false c53
                          have c53b1 : decide (0 < l0.length) = false := decide_eq_false (by omega)
                          clear c53
                          by_cases c68 : t227 = true
                          · subst c68
                            have H1 : ((observatorylaw06_add.f kj38 t245 t247).bind fun t269 => (if t249 = t269 then ((observatorylaw06_mul.f kj38 a3 t245).bind fun t270 => (if t251 = t270 then (if t262 = t245 then (some (t264 == 0)) else (some false)) else (some false))) else (some false))) = some r := by rw [if_pos rfl] at H; exact H
                            clear H
                            have H := H1
                            clear H1
                            replace H := Option.bind_eq_some_iff.mp H
                            obtain ⟨t269, A690, H⟩ := H
                            replace H : (if t249 = t269 then ((observatorylaw06_mul.f kj38 a3 t245).bind fun t270 => (if t251 = t270 then (if t262 = t245 then (some (t264 == 0)) else (some false)) else (some false))) else (some false)) = some r := H
                            have A69 := Aside0.mk A690
                            clear A690
                            by_cases c70 : t249 = t269
                            · rw [if_pos c70] at H
                              have c70b0 : (t249 == t269) = true := beq_iff_eq.mpr c70
                              have c70b1 : (t249 != t269) = false := bne_eq_false_iff_eq.mpr c70
                              clear c70
                              replace H := Option.bind_eq_some_iff.mp H
                              obtain ⟨t270, A710, H⟩ := H
                              replace H : (if t251 = t270 then (if t262 = t245 then (some (t264 == 0)) else (some false)) else (some false)) = some r := H
                              have A71 := Aside0.mk A710
                              clear A710
                              by_cases c72 : t251 = t270
                              · rw [if_pos c72] at H
                                have c72b0 : (t251 == t270) = true := beq_iff_eq.mpr c72
                                have c72b1 : (t251 != t270) = false := bne_eq_false_iff_eq.mpr c72
                                clear c72
                                by_cases c73 : t262 = t245
                                · rw [if_pos c73] at H
                                  have c73b0 : (t262 == t245) = true := beq_iff_eq.mpr c73
                                  have c73b1 : (t262 != t245) = false := bne_eq_false_iff_eq.mpr c73
                                  clear c73
                                  obtain rfl := Option.some.inj H
                                  go_wp2_with (first | (go_at_call 27; (with_reducible refine (observatorylaw06_add.calls kj38 t245 t247 t269 _ A69.out).mono ?_); rintro e w74 ⟨rfl, hb⟩; have n0_ := Aside0.mk (below_step (by repeat (first | (with_reducible first | exact HB.out | apply below_alloc | apply pw_below_drewN | apply below_drew1) | exact HB.out)) hb); clear HB; have HB := n0_; clear n0_; (try clear hb); (try clear hb2); (try clear hk); (try clear hi)) | (go_at_call 28; (with_reducible refine (observatorylaw06_mul.calls kj38 a3 t245 t270 _ A71.out).mono ?_); rintro e w75 ⟨rfl, hb⟩; have n0_ := Aside0.mk (below_step (by repeat (first | (with_reducible first | exact HB.out | apply below_alloc | apply pw_below_drewN | apply below_drew1) | exact HB.out)) hb); clear HB; have HB := n0_; clear n0_; (try clear hb); (try clear hb2); (try clear hk); (try clear hi)))
                                  go_ret
                                  exact ⟨by first | rfl | (simp [errW_none, errW_some] <;> rfl) | (simp [*, errW_none, errW_some] <;> rfl), by repeat (first | (with_reducible first | exact HB.out | apply below_alloc | apply pw_below_drewN | apply below_drew1) | exact HB.out)⟩
                                · rw [if_neg c73] at H
                                  have c73b0 : (t262 == t245) = false := beq_eq_false_iff_ne.mpr c73
                                  have c73b1 : (t262 != t245) = true := bne_iff_ne.mpr c73
                                  obtain rfl := Option.some.inj H
                                  go_wp2_with (first | (go_at_call 27; (with_reducible refine (observatorylaw06_add.calls kj38 t245 t247 t269 _ A69.out).mono ?_); rintro e w76 ⟨rfl, hb⟩; have n0_ := Aside0.mk (below_step (by repeat (first | (with_reducible first | exact HB.out | apply below_alloc | apply pw_below_drewN | apply below_drew1) | exact HB.out)) hb); clear HB; have HB := n0_; clear n0_; (try clear hb); (try clear hb2); (try clear hk); (try clear hi)) | (go_at_call 28; (with_reducible refine (observatorylaw06_mul.calls kj38 a3 t245 t270 _ A71.out).mono ?_); rintro e w77 ⟨rfl, hb⟩; have n0_ := Aside0.mk (below_step (by repeat (first | (with_reducible first | exact HB.out | apply below_alloc | apply pw_below_drewN | apply below_drew1) | exact HB.out)) hb); clear HB; have HB := n0_; clear n0_; (try clear hb); (try clear hb2); (try clear hk); (try clear hi)))
                                  go_ret
                                  exact ⟨by first | rfl | (simp [errW_none, errW_some] <;> rfl) | (simp [*, errW_none, errW_some] <;> rfl), by repeat (first | (with_reducible first | exact HB.out | apply below_alloc | apply pw_below_drewN | apply below_drew1) | exact HB.out)⟩
                              · rw [if_neg c72] at H
                                have c72b0 : (t251 == t270) = false := beq_eq_false_iff_ne.mpr c72
                                have c72b1 : (t251 != t270) = true := bne_iff_ne.mpr c72
                                obtain rfl := Option.some.inj H
                                go_wp2_with (first | (go_at_call 27; (with_reducible refine (observatorylaw06_add.calls kj38 t245 t247 t269 _ A69.out).mono ?_); rintro e w78 ⟨rfl, hb⟩; have n0_ := Aside0.mk (below_step (by repeat (first | (with_reducible first | exact HB.out | apply below_alloc | apply pw_below_drewN | apply below_drew1) | exact HB.out)) hb); clear HB; have HB := n0_; clear n0_; (try clear hb); (try clear hb2); (try clear hk); (try clear hi)) | (go_at_call 28; (with_reducible refine (observatorylaw06_mul.calls kj38 a3 t245 t270 _ A71.out).mono ?_); rintro e w79 ⟨rfl, hb⟩; have n0_ := Aside0.mk (below_step (by repeat (first | (with_reducible first | exact HB.out | apply below_alloc | apply pw_below_drewN | apply below_drew1) | exact HB.out)) hb); clear HB; have HB := n0_; clear n0_; (try clear hb); (try clear hb2); (try clear hk); (try clear hi)))
                                go_ret
                                exact ⟨by first | rfl | (simp [errW_none, errW_some] <;> rfl) | (simp [*, errW_none, errW_some] <;> rfl), by repeat (first | (with_reducible first | exact HB.out | apply below_alloc | apply pw_below_drewN | apply below_drew1) | exact HB.out)⟩
                            · rw [if_neg c70] at H
                              have c70b0 : (t249 == t269) = false := beq_eq_false_iff_ne.mpr c70
                              have c70b1 : (t249 != t269) = true := bne_iff_ne.mpr c70
                              obtain rfl := Option.some.inj H
                              go_wp2_with (first | (go_at_call 27; (with_reducible refine (observatorylaw06_add.calls kj38 t245 t247 t269 _ A69.out).mono ?_); rintro e w80 ⟨rfl, hb⟩; have n0_ := Aside0.mk (below_step (by repeat (first | (with_reducible first | exact HB.out | apply below_alloc | apply pw_below_drewN | apply below_drew1) | exact HB.out)) hb); clear HB; have HB := n0_; clear n0_; (try clear hb); (try clear hb2); (try clear hk); (try clear hi)))
                              go_ret
                              exact ⟨by first | rfl | (simp [errW_none, errW_some] <;> rfl) | (simp [*, errW_none, errW_some] <;> rfl), by repeat (first | (with_reducible first | exact HB.out | apply below_alloc | apply pw_below_drewN | apply below_drew1) | exact HB.out)⟩
                          · replace c68 := Bool.eq_false_iff.mpr c68
                            subst c68
                            have H1 : (some false) = some r := by rw [if_neg (show ¬ (false = true) by decide)] at H; exact H
                            clear H
                            have H := H1
                            clear H1
                            obtain rfl := Option.some.inj H
                            go_wp2
                            go_ret
                            exact ⟨by first | rfl | (simp [errW_none, errW_some] <;> rfl) | (simp [*, errW_none, errW_some] <;> rfl), by repeat (first | (with_reducible first | exact HB.out | apply below_alloc | apply pw_below_drewN | apply below_drew1) | exact HB.out)⟩
                · rw [if_neg c36] at H
                  exact absurd H (by simp)
              · rw [if_neg c35] at H
                exact absurd H (by simp)

/-- THE ONE PURE STATEMENT of observatorylaw06_FieldValues: yours. -/
def observatorylaw06_FieldValues.Pure : Prop := ∀ (l0 : List Int) (l1 : List Int) (a2 : Int) (a3 : Int), l0.length ≤ maxLen → l0.length * 8 ≤ 140737488351232 → (∀ x ∈ l0, (Lit.int .i64 x).wf = true) → l1.length ≤ maxLen → l1.length * 8 ≤ 140737488351232 → (∀ x ∈ l1, (Lit.int .i64 x).wf = true) → (Lit.int .i64 a2).wf = true → (Lit.int .i64 a3).wf = true → ∃ k, observatorylaw06_FieldValues.f k l0 l1 a2 a3 = some true
theorem observatorylaw06_FieldValues.walk (P : observatorylaw06_FieldValues.Pure) (a0 : Option Addr) (len0 cap0 : Nat) (z0 : List Int) (a1 : Option Addr) (len1 cap1 : Nat) (z1 : List Int) (a2 : Int) (a3 : Int) (w : World) (w0 : (a0 = none ∧ len0 = 0 ∧ cap0 = 0 ∧ z0 = []) ∨ ∃ x, a0 = some x ∧ len0 ≤ cap0 ∧ cap0 ≤ maxLen ∧ z0.length = cap0 ∧ (∀ i, i < z0.length → w.cell? (x.add i) = some (.int .i64 (z0.getD i 0))) ∧ ∀ n ∈ z0, (Lit.int .i64 n).wf = true) (y0 : len0 * 8 ≤ 140737488351232) (w1 : (a1 = none ∧ len1 = 0 ∧ cap1 = 0 ∧ z1 = []) ∨ ∃ x, a1 = some x ∧ len1 ≤ cap1 ∧ cap1 ≤ maxLen ∧ z1.length = cap1 ∧ (∀ i, i < z1.length → w.cell? (x.add i) = some (.int .i64 (z1.getD i 0))) ∧ ∀ n ∈ z1, (Lit.int .i64 n).wf = true) (y1 : len1 * 8 ≤ 140737488351232) (w2 : (Lit.int .i64 a2).wf = true) (w3 : (Lit.int .i64 a3).wf = true) :
    Calls Try.prog 6 #[.slice a0 len0 cap0, .slice a1 len1 cap1, .int .i64 a2, .int .i64 a3] w fun e w' => e = .returned (.bool true) ∧ Below w.heap.size w w' := by
  obtain ⟨l0, rfl, hr0, hm0, hw0, hc0⟩ := ReadsInt.ofRowC w0
  obtain ⟨l1, rfl, hr1, hm1, hw1, hc1⟩ := ReadsInt.ofRowC w1
  obtain ⟨k, h⟩ := P l0 l1 a2 a3 hm0 y0 hw0 hm1 y1 hw1 w2 w3
  refine (observatorylaw06_FieldValues.calls k _ _ l0 _ _ l1 a2 a3 true w (Kd.C_of_reads (d := (0 : Int)) (h1 := fun _ => rfl) hr0) hc0 (Kd.C_of_reads (d := (0 : Int)) (h1 := fun _ => rfl) hr1) hc1 h).mono ?_
  rintro e w' ⟨rfl, hd⟩
  exact ⟨rfl, hd⟩

end Go.Proofs.Ytpeinbibaceheaa.X
