import Derived.Test.YtddikdpbhjgihaaGreatDoorSM06
import Derived.Test.YtddikdpbhjgihaaGreatDoorSM08
import Derived.Test.YtddikdpbhjgihaaGreatDoorSM10
import Derived.Test.YtddikdpbhjgihaaGreatDoorSM13
import Derived.Test.YtddikdpbhjgihaaGreatDoorSM15
import Derived.Test.YtddikdpbhjgihaaGreatDoorSM17
import Derived.Test.YtddikdpbhjgihaaGreatDoorSM07
import Derived.Test.YtddikdpbhjgihaaGreatDoorSM14
import Derived.Test.YtddikdpbhjgihaaGreatDoorSM12
import Derived.Deep.RegionHeld3
import Derived.Laws.EntriesVeiled
import Derived.Outline
import Derived.Test.YtddikdpbhjgihaaGreatDoorSM16
import Derived.Lib.LazyBuf
section
namespace Go.Proofs.YtddikdpbhjgihaaGreatDoor.X
open Go.RowKit Go.Proofs.YtddikdpbhjgihaaGreatDoorW.PrintWords Go.Proofs.YtddikdpbhjgihaaGreatDoorW.PrintLast Go.Proofs.YtddikdpbhjgihaaGreatDoorW.PrintMore
attribute [local go_sem] max2_int min2_int max_two min_two max_three min_three max_four min_four   -- for this text's walks alone
set_option linter.unusedVariables false
set_option linter.unusedSimpArgs false
def observatoryref02_Check.f (k : Nat) (a0 : ByteArray) (a1 : Int) (a2 : Int) (a3 : ByteArray) (l4 : List ByteArray) : Option (Bool) := if a1 > 1000000 then (some false) else (if a2 < 0 then (some false) else (if a2 ≥ a1 then (some false) else ((observatoryref02_length.f k a1 a2).bind fun t293 => (if (l4.length : Int) = t293 then ((observatoryref02_digests.f k l4).bind fun t294 => (if t294 = true then ((observatoryref01_Is.f k a3).bind fun t295 => (if t295 = true then ((observatoryref02_up.f k a1 a2 a3 l4).bind fun t296 => (some (t296.toList == a0.toList))) else (some false))) else (some false))) else (some false)))))
set_option maxHeartbeats 8000000 in
set_option maxRecDepth 100000 in
theorem observatoryref02_Check.calls (k : Nat) (a0 : ByteArray) (a1 : Int) (a2 : Int) (a3 : ByteArray) (A4 : Option Addr) (c4 : Nat) (l4 : List ByteArray) (r : Bool) (w : World) (hr4 : Kd.C Kd.string w A4 l4.length l4) (hc4 : l4.length ≤ c4) (h : observatoryref02_Check.f k a0 a1 a2 a3 l4 = some r) :
    Calls Tryz.prog 87 #[.string a0, .int .i64 a1, .int .i64 a2, .string a3, .slice A4 l4.length c4] w fun e w' => e = .returned (.bool r) ∧ Below w.heap.size w w' := by
  have HR4 := Aside0.mk hr4
  have HC4 := Aside0.mk hc4
  clear hr4 hc4
  have HB := Aside0.mk (Below.refl w.heap.size w)
  have H : (if a1 > 1000000 then (some false) else (if a2 < 0 then (some false) else (if a2 ≥ a1 then (some false) else ((observatoryref02_length.f k a1 a2).bind fun t293 => (if (l4.length : Int) = t293 then ((observatoryref02_digests.f k l4).bind fun t294 => (if t294 = true then ((observatoryref01_Is.f k a3).bind fun t295 => (if t295 = true then ((observatoryref02_up.f k a1 a2 a3 l4).bind fun t296 => (some (t296.toList == a0.toList))) else (some false))) else (some false))) else (some false)))))) = some r := h
  clear h
  by_cases c6 : a1 > 1000000
  · rw [if_pos c6] at H
    have c6b0 : decide (1000000 < a1) = true := decide_eq_true c6
    clear c6
    obtain rfl := Option.some.inj H
    go_enter Tryz.func87, Tryz.ntmps87
    go_wp2
    go_ret
    exact ⟨by first | rfl | (simp [errW_none, errW_some] <;> rfl) | (simp [*, errW_none, errW_some] <;> rfl), by repeat (first | (with_reducible first | exact HB.out | apply below_alloc | apply pw_below_drewN | apply below_drew1) | exact HB.out)⟩
  · rw [if_neg c6] at H
    have c6b0 : decide (1000000 < a1) = false := decide_eq_false c6
    clear c6
    by_cases c7 : a2 < 0
    · rw [if_pos c7] at H
      have c7b0 : decide (a2 < 0) = true := decide_eq_true c7
      clear c7
      obtain rfl := Option.some.inj H
      go_enter Tryz.func87, Tryz.ntmps87
      go_wp2
      go_ret
      exact ⟨by first | rfl | (simp [errW_none, errW_some] <;> rfl) | (simp [*, errW_none, errW_some] <;> rfl), by repeat (first | (with_reducible first | exact HB.out | apply below_alloc | apply pw_below_drewN | apply below_drew1) | exact HB.out)⟩
    · rw [if_neg c7] at H
      have c7b0 : decide (a2 < 0) = false := decide_eq_false c7
      clear c7
      by_cases c8 : a2 ≥ a1
      · rw [if_pos c8] at H
        have c8b0 : decide (a1 ≤ a2) = true := decide_eq_true c8
        clear c8
        obtain rfl := Option.some.inj H
        go_enter Tryz.func87, Tryz.ntmps87
        go_wp2
        go_ret
        exact ⟨by first | rfl | (simp [errW_none, errW_some] <;> rfl) | (simp [*, errW_none, errW_some] <;> rfl), by repeat (first | (with_reducible first | exact HB.out | apply below_alloc | apply pw_below_drewN | apply below_drew1) | exact HB.out)⟩
      · rw [if_neg c8] at H
        have c8b0 : decide (a1 ≤ a2) = false := decide_eq_false c8
        clear c8
        replace H := Option.bind_eq_some_iff.mp H
        obtain ⟨t293, A90, H⟩ := H
        replace H : (if (l4.length : Int) = t293 then ((observatoryref02_digests.f k l4).bind fun t294 => (if t294 = true then ((observatoryref01_Is.f k a3).bind fun t295 => (if t295 = true then ((observatoryref02_up.f k a1 a2 a3 l4).bind fun t296 => (some (t296.toList == a0.toList))) else (some false))) else (some false))) else (some false)) = some r := H
        have A9 := Aside0.mk A90
        clear A90
        by_cases c10 : (l4.length : Int) = t293
        · rw [if_pos c10] at H
          have c10b0 : ((l4.length : Int) == t293) = true := beq_iff_eq.mpr c10
          have c10b1 : ((l4.length : Int) != t293) = false := bne_eq_false_iff_eq.mpr c10
          clear c10
          replace H := Option.bind_eq_some_iff.mp H
          obtain ⟨t294, A110, H⟩ := H
          replace H : (if t294 = true then ((observatoryref01_Is.f k a3).bind fun t295 => (if t295 = true then ((observatoryref02_up.f k a1 a2 a3 l4).bind fun t296 => (some (t296.toList == a0.toList))) else (some false))) else (some false)) = some r := H
          have A11 := Aside0.mk A110
          clear A110
          by_cases c12 : t294 = true
          · subst c12
            have H1 : ((observatoryref01_Is.f k a3).bind fun t295 => (if t295 = true then ((observatoryref02_up.f k a1 a2 a3 l4).bind fun t296 => (some (t296.toList == a0.toList))) else (some false))) = some r := by rw [if_pos rfl] at H; exact H
            clear H
            have H := H1
            clear H1
            replace H := Option.bind_eq_some_iff.mp H
            obtain ⟨t295, A130, H⟩ := H
            replace H : (if t295 = true then ((observatoryref02_up.f k a1 a2 a3 l4).bind fun t296 => (some (t296.toList == a0.toList))) else (some false)) = some r := H
            have A13 := Aside0.mk A130
            clear A130
            by_cases c14 : t295 = true
            · subst c14
              have H1 : ((observatoryref02_up.f k a1 a2 a3 l4).bind fun t296 => (some (t296.toList == a0.toList))) = some r := by rw [if_pos rfl] at H; exact H
              clear H
              have H := H1
              clear H1
              replace H := Option.bind_eq_some_iff.mp H
              obtain ⟨t296, A150, H⟩ := H
              replace H : (some (t296.toList == a0.toList)) = some r := H
              have A15 := Aside0.mk A150
              clear A150
              obtain rfl := Option.some.inj H
              go_enter Tryz.func87, Tryz.ntmps87
              go_wp2_with (first | (go_at_call 140; (with_reducible refine (observatoryref02_length.calls k a1 a2 t293 _ A9.out).mono ?_); rintro e w' ⟨rfl, ⟨nd, rfl⟩⟩) | (go_at_call 134; (with_reducible refine (observatoryref02_digests.calls k _ _ l4 true _ ?side1 ?side2 A11.out).mono ?_); (case side1 => repeat (first | exact HR4.out | (with_reducible refine Kd.C_alloc ?_ _) | (with_reducible refine Kd.C_drewN ?_ _) | (with_reducible refine Kd.C_drew ?_))); (case side2 => exact HC4.out); rintro e w' ⟨rfl, ⟨nd, rfl⟩⟩) | (go_at_call 118; (with_reducible refine (observatoryref01_Is.calls k a3 true _ A13.out).mono ?_); rintro e w' ⟨rfl, ⟨nd, rfl⟩⟩) | ((with_reducible refine gate_callee (f := 95) rfl ?_); refine goesL_ (some 44) rfl rfl Tryz.func95 (by kernel_rfl) rfl #[.int .i64 a1, .int .i64 a2, .string a3, .slice A4 l4.length c4] rfl (by (try simp only [List.map_toArray, List.map_cons, List.map_nil]); first | done | rfl | (simp only [List.length_drop, List.length_take]; rfl)) ?_; (with_reducible refine (observatoryref02_up.calls k a1 a2 a3 _ _ l4 t296 _ ?side1 ?side2 A15.out).mono ?_); (case side1 => repeat (first | exact HR4.out | (with_reducible refine Kd.C_alloc ?_ _) | (with_reducible refine Kd.C_drewN ?_ _) | (with_reducible refine Kd.C_drew ?_))); (case side2 => exact HC4.out); rintro e w16 ⟨rfl, hb⟩; refine ⟨_, rfl, ?_⟩; have n0_ := Aside0.mk (below_step (by repeat (first | (with_reducible first | exact HB.out | apply below_alloc | apply pw_below_drewN | apply below_drew1) | exact HB.out)) hb); clear HB; have HB := n0_; clear n0_; (try clear hb); (try clear hb2); (try clear hk); (try clear hi)))
              go_ret
              exact ⟨by first | rfl | (simp [errW_none, errW_some] <;> rfl) | (simp [*, errW_none, errW_some] <;> rfl), by repeat (first | (with_reducible first | exact HB.out | apply below_alloc | apply pw_below_drewN | apply below_drew1) | exact HB.out)⟩
            · replace c14 := Bool.eq_false_iff.mpr c14
              subst c14
              have H1 : (some false) = some r := by rw [if_neg (show ¬ (false = true) by decide)] at H; exact H
              clear H
              have H := H1
              clear H1
              obtain rfl := Option.some.inj H
              go_enter Tryz.func87, Tryz.ntmps87
              go_wp2_with (first | (go_at_call 140; (with_reducible refine (observatoryref02_length.calls k a1 a2 t293 _ A9.out).mono ?_); rintro e w' ⟨rfl, ⟨nd, rfl⟩⟩) | (go_at_call 134; (with_reducible refine (observatoryref02_digests.calls k _ _ l4 true _ ?side1 ?side2 A11.out).mono ?_); (case side1 => repeat (first | exact HR4.out | (with_reducible refine Kd.C_alloc ?_ _) | (with_reducible refine Kd.C_drewN ?_ _) | (with_reducible refine Kd.C_drew ?_))); (case side2 => exact HC4.out); rintro e w' ⟨rfl, ⟨nd, rfl⟩⟩) | (go_at_call 118; (with_reducible refine (observatoryref01_Is.calls k a3 false _ A13.out).mono ?_); rintro e w' ⟨rfl, ⟨nd, rfl⟩⟩))
              go_ret
              exact ⟨by first | rfl | (simp [errW_none, errW_some] <;> rfl) | (simp [*, errW_none, errW_some] <;> rfl), by repeat (first | (with_reducible first | exact HB.out | apply below_alloc | apply pw_below_drewN | apply below_drew1) | exact HB.out)⟩
          · replace c12 := Bool.eq_false_iff.mpr c12
            subst c12
            have H1 : (some false) = some r := by rw [if_neg (show ¬ (false = true) by decide)] at H; exact H
            clear H
            have H := H1
            clear H1
            obtain rfl := Option.some.inj H
            go_enter Tryz.func87, Tryz.ntmps87
            go_wp2_with (first | (go_at_call 140; (with_reducible refine (observatoryref02_length.calls k a1 a2 t293 _ A9.out).mono ?_); rintro e w' ⟨rfl, ⟨nd, rfl⟩⟩) | (go_at_call 134; (with_reducible refine (observatoryref02_digests.calls k _ _ l4 false _ ?side1 ?side2 A11.out).mono ?_); (case side1 => repeat (first | exact HR4.out | (with_reducible refine Kd.C_alloc ?_ _) | (with_reducible refine Kd.C_drewN ?_ _) | (with_reducible refine Kd.C_drew ?_))); (case side2 => exact HC4.out); rintro e w' ⟨rfl, ⟨nd, rfl⟩⟩))
            go_ret
            exact ⟨by first | rfl | (simp [errW_none, errW_some] <;> rfl) | (simp [*, errW_none, errW_some] <;> rfl), by repeat (first | (with_reducible first | exact HB.out | apply below_alloc | apply pw_below_drewN | apply below_drew1) | exact HB.out)⟩
        · rw [if_neg c10] at H
          have c10b0 : ((l4.length : Int) == t293) = false := beq_eq_false_iff_ne.mpr c10
          have c10b1 : ((l4.length : Int) != t293) = true := bne_iff_ne.mpr c10
          obtain rfl := Option.some.inj H
          go_enter Tryz.func87, Tryz.ntmps87
          go_wp2_with (first | (go_at_call 140; (with_reducible refine (observatoryref02_length.calls k a1 a2 t293 _ A9.out).mono ?_); rintro e w' ⟨rfl, ⟨nd, rfl⟩⟩))
          go_ret
          exact ⟨by first | rfl | (simp [errW_none, errW_some] <;> rfl) | (simp [*, errW_none, errW_some] <;> rfl), by repeat (first | (with_reducible first | exact HB.out | apply below_alloc | apply pw_below_drewN | apply below_drew1) | exact HB.out)⟩
def observatoryref07_Check.j0 : Nat → ByteArray → Int → List ByteArray → Bool → Int → Int → Option (Bool)
  | 0, _, _, _, _, _, _ => none
  | k + 1, x0, x1, x3, x25, x298000, x298001 => if x25 = true then (some false) else ((observatoryref07_Text.f k x298000 x298001).bind fun t299 => ((observatoryref02_Leaf.f k t299).bind fun t300 => ((observatoryref02_Check.f k x0 x1 (wrap64 (x298000 - 1)) t300 x3).bind fun t301 => (some t301))))
def observatoryref07_Check.f (k : Nat) (a0 : ByteArray) (a1 : Int) (a2_0 : Int) (a2_1 : Int) (l3 : List ByteArray) : Option (Bool) := if a1 < 1 then (observatoryref07_Check.j0 k a0 a1 l3 true a2_0 a2_1) else (if a1 > 16 then (observatoryref07_Check.j0 k a0 a1 l3 true a2_0 a2_1) else ((observatoryref07_Valid.f a2_0 a2_1).bind fun t298 => (if t298 = true then (observatoryref07_Check.j0 k a0 a1 l3 (decide (a2_0 > a1)) a2_0 a2_1) else (observatoryref07_Check.j0 k a0 a1 l3 true a2_0 a2_1))))
def observatoryref07_Check.T3 : Bool × List (List Nat × List Nat) := (true, [([], []), ([], []), ([], []), ([2], [2]), ([3], [3]), ([], []), ([5], [5]), ([6, 6], [6]), ([], []), ([0, 1, 4, 7, 8, 7], [0, 1, 4, 7, 8]), ([9, 9, 0, 1, 2, 3, 4, 5, 6, 7, 8, 9], [9])])
def observatoryref07_Check.B3 : List Nat := [0, 0, 0, 4, 12, 0, 32, 96, 0, 511, 1023]
theorem observatoryref07_Check.tab3 : rtab .any (opsOf Tryz.f25 3) = observatoryref07_Check.T3 := by kernel_rfl
theorem observatoryref07_Check.bits3 : waitsOk observatoryref07_Check.T3.2 observatoryref07_Check.B3 = true := by kernel_rfl
set_option maxHeartbeats 8000000 in
set_option maxRecDepth 100000 in
theorem observatoryref07_Check.calls (k : Nat) (a0 : ByteArray) (a1 : Int) (a2_0 : Int) (a2_1 : Int) (A3 : Option Addr) (c3 : Nat) (l3 : List ByteArray) (r : Bool) (w : World) (hr3 : Kd.C Kd.string w A3 l3.length l3) (hc3 : l3.length ≤ c3) (h : observatoryref07_Check.f k a0 a1 a2_0 a2_1 l3 = some r) :
    Calls Tryz.prog 25 #[.string a0, .int .i64 a1, .agg #[.int .i64 a2_0, .int .i64 a2_1], .slice A3 l3.length c3] w fun e w' => e = .returned (.bool r) ∧ Below w.heap.size w w' := by
  have hu25 := Tryz.underlying25
  have HR3 := Aside0.mk hr3
  have HC3 := Aside0.mk hc3
  clear hr3 hc3
  have HB := Aside0.mk (Below.refl w.heap.size w)
  have H : (if a1 < 1 then (observatoryref07_Check.j0 k a0 a1 l3 true a2_0 a2_1) else (if a1 > 16 then (observatoryref07_Check.j0 k a0 a1 l3 true a2_0 a2_1) else ((observatoryref07_Valid.f a2_0 a2_1).bind fun t298 => (if t298 = true then (observatoryref07_Check.j0 k a0 a1 l3 (decide (a2_0 > a1)) a2_0 a2_1) else (observatoryref07_Check.j0 k a0 a1 l3 true a2_0 a2_1))))) = some r := h
  clear h
  have HC5 := Aside0.mk H
  clear H
  go_enter Tryz.func25, Tryz.ntmps25
  go_upto_region 1 with (first | ((with_reducible refine gate_dst (N := 6) rfl ?_); refine box_event ?hg (N := 6) ?hd (cs := #[.int .i64 a2_0, .int .i64 a2_1]) (t := 25) ?hr ?_; (case hd => rfl); (case hg => rfl); (case hr => first | (go_simp; done) | (go_simp; rfl)); intro gb297 hg w6 hbox hb; have n0_ := Aside0.mk (below_step (by repeat (first | (with_reducible first | exact HB.out | apply below_alloc | apply pw_below_drewN | apply below_drew1) | exact HB.out)) hb); have n1_ := Aside0.mk (hbox); have n2_ := Aside0.mk ((by rw [hg]; exact (below_size (by repeat (first | (with_reducible first | exact HB.out | apply below_alloc | apply pw_below_drewN | apply below_drew1) | exact HB.out))) : w.heap.size ≤ gb297)); have n3_ := Aside0.mk ((by rw [hg]; exact (below_size (by repeat (first | (with_reducible first | exact HB.out | apply below_alloc | apply pw_below_drewN | apply below_drew1) | exact HB.out))) : w.heap.size ≤ gb297)); clear HB; have HB := n0_; have BK297 := n1_; have GW297 := n2_; have GE297 := n3_; clear n0_ n1_ n2_ n3_; clear hb hbox hg))
  (try simp only [Act.put, List.setIfInBounds_toArray, List.set_cons_zero, List.set_cons_succ])
  go_cut [25] (fun v25 wc => ∃ (kq : Nat) (x25_4 : Bool), v25 = .bool x25_4 ∧ Aside0 (observatoryref07_Check.j0 kq a0 a1 l3 x25_4 a2_0 a2_1 = some r) ∧ Aside0 (kq ≤ k) ∧ Aside0 (wc.heap[gb297]? = some (.cells #[.int .i64 a2_0, .int .i64 a2_1] 25 (0, 0))) ∧ Aside0 (Below w.heap.size w wc))
  case first =>
    have H := HC5.out
    clear HC5
    by_cases c7 : a1 < 1
    · rw [if_pos c7] at H
      have c7b0 : decide (a1 < 1) = true := decide_eq_true c7
      clear c7
      (first | rw [c7b0] | (simp only [i64_w, i32_w]; rw [c7b0]) | skip)
      have H' := Aside0.mk H
      clear H
      go_wp2
      go_meet
      case rel => exact ⟨_, (true), (by first | rfl | (simp; done) | (simp [*]; done)), H', ⟨by first | omega | exact Nat.le_refl _⟩, ⟨by (with_reducible repeat (first | refine blk_drewN ?_ _ | refine blk_drew ?_ | refine blk_alloc ?_ _)); exact BK297.out⟩, ⟨by repeat (first | (with_reducible first | exact HB.out | apply below_alloc | apply pw_below_drewN | apply below_drew1 | refine below_set ?_ GE297.out) | exact HB.out)⟩⟩
    · rw [if_neg c7] at H
      have c7b0 : decide (a1 < 1) = false := decide_eq_false c7
      clear c7
      (first | rw [c7b0] | (simp only [i64_w, i32_w]; rw [c7b0]) | skip)
      by_cases c8 : a1 > 16
      · rw [if_pos c8] at H
        have c8b0 : decide (16 < a1) = true := decide_eq_true c8
        clear c8
        have H' := Aside0.mk H
        clear H
        go_wp2
        go_meet
        case rel => exact ⟨_, (true), (by first | rfl | (simp; done) | (simp [*]; done)), H', ⟨by first | omega | exact Nat.le_refl _⟩, ⟨by (with_reducible repeat (first | refine blk_drewN ?_ _ | refine blk_drew ?_ | refine blk_alloc ?_ _)); exact BK297.out⟩, ⟨by repeat (first | (with_reducible first | exact HB.out | apply below_alloc | apply pw_below_drewN | apply below_drew1 | refine below_set ?_ GE297.out) | exact HB.out)⟩⟩
      · rw [if_neg c8] at H
        have c8b0 : decide (16 < a1) = false := decide_eq_false c8
        clear c8
        replace H := Option.bind_eq_some_iff.mp H
        obtain ⟨t298, A90, H⟩ := H
        replace H : (if t298 = true then (observatoryref07_Check.j0 k a0 a1 l3 (decide (a2_0 > a1)) a2_0 a2_1) else (observatoryref07_Check.j0 k a0 a1 l3 true a2_0 a2_1)) = some r := H
        have A9 := Aside0.mk A90
        clear A90
        by_cases c10 : t298 = true
        · subst c10
          have H1 : (observatoryref07_Check.j0 k a0 a1 l3 (decide (a2_0 > a1)) a2_0 a2_1) = some r := by rw [if_pos rfl] at H; exact H
          clear H
          have H := H1
          clear H1
          have H' := Aside0.mk H
          clear H
          have hcz11_0 : w6.cell? ⟨gb297, 0, none⟩ = some (.int .i64 a2_0) := (blk_cell BK297.out 0).trans rfl
          have hcz11_1 : w6.cell? ⟨gb297, 1, none⟩ = some (.int .i64 a2_1) := (blk_cell BK297.out 1).trans rfl
          have hfz11_0 := blk_frozen BK297.out 0
          have hfz11_1 := blk_frozen BK297.out 1
          go_wp2_with (first | (go_at_call 80; (with_reducible refine (observatoryref07_Valid.calls a2_0 a2_1 true _ A9.out).mono ?_); rintro e w12 ⟨rfl, hb⟩; have n0_ := Aside0.mk (blk_below (g := gb297) (o := .cells #[.int .i64 a2_0, .int .i64 a2_1] 25 (0, 0)) (by (with_reducible repeat (first | refine blk_drewN ?_ _ | refine blk_drew ?_ | refine blk_alloc ?_ _)); exact BK297.out) hb); have n1_ := Aside0.mk (below_step (by repeat (first | (with_reducible first | exact HB.out | apply below_alloc | apply pw_below_drewN | apply below_drew1 | refine below_set ?_ GE297.out) | exact HB.out)) hb); clear BK297; clear HB; have BK297 := n0_; have HB := n1_; clear n0_ n1_; (try clear hb); (try clear hb2); (try clear hk); (try clear hi); have hcz13_0 : w12.cell? ⟨gb297, 0, none⟩ = some (.int .i64 a2_0) := (blk_cell BK297.out 0).trans rfl; have hcz13_1 : w12.cell? ⟨gb297, 1, none⟩ = some (.int .i64 a2_1) := (blk_cell BK297.out 1).trans rfl; have hfz13_0 := blk_frozen BK297.out 0; have hfz13_1 := blk_frozen BK297.out 1))
          go_meet
          case rel => exact ⟨_, (decide (a2_0 > a1)), (by first | rfl | (simp; done) | (simp [*]; done)), H', ⟨by first | omega | exact Nat.le_refl _⟩, ⟨by (with_reducible repeat (first | refine blk_drewN ?_ _ | refine blk_drew ?_ | refine blk_alloc ?_ _)); exact BK297.out⟩, ⟨by repeat (first | (with_reducible first | exact HB.out | apply below_alloc | apply pw_below_drewN | apply below_drew1 | refine below_set ?_ GE297.out) | exact HB.out)⟩⟩
        · replace c10 := Bool.eq_false_iff.mpr c10
          subst c10
          have H1 : (observatoryref07_Check.j0 k a0 a1 l3 true a2_0 a2_1) = some r := by rw [if_neg (show ¬ (false = true) by decide)] at H; exact H
          clear H
          have H := H1
          clear H1
          have H' := Aside0.mk H
          clear H
          have hcz14_0 : w6.cell? ⟨gb297, 0, none⟩ = some (.int .i64 a2_0) := (blk_cell BK297.out 0).trans rfl
          have hcz14_1 : w6.cell? ⟨gb297, 1, none⟩ = some (.int .i64 a2_1) := (blk_cell BK297.out 1).trans rfl
          have hfz14_0 := blk_frozen BK297.out 0
          have hfz14_1 := blk_frozen BK297.out 1
          go_wp2_with (first | (go_at_call 80; (with_reducible refine (observatoryref07_Valid.calls a2_0 a2_1 false _ A9.out).mono ?_); rintro e w15 ⟨rfl, hb⟩; have n0_ := Aside0.mk (blk_below (g := gb297) (o := .cells #[.int .i64 a2_0, .int .i64 a2_1] 25 (0, 0)) (by (with_reducible repeat (first | refine blk_drewN ?_ _ | refine blk_drew ?_ | refine blk_alloc ?_ _)); exact BK297.out) hb); have n1_ := Aside0.mk (below_step (by repeat (first | (with_reducible first | exact HB.out | apply below_alloc | apply pw_below_drewN | apply below_drew1 | refine below_set ?_ GE297.out) | exact HB.out)) hb); clear BK297; clear HB; have BK297 := n0_; have HB := n1_; clear n0_ n1_; (try clear hb); (try clear hb2); (try clear hk); (try clear hi)))
          go_meet
          case rel => exact ⟨_, (true), (by first | rfl | (simp; done) | (simp [*]; done)), H', ⟨by first | omega | exact Nat.le_refl _⟩, ⟨by (with_reducible repeat (first | refine blk_drewN ?_ _ | refine blk_drew ?_ | refine blk_alloc ?_ _)); exact BK297.out⟩, ⟨by repeat (first | (with_reducible first | exact HB.out | apply below_alloc | apply pw_below_drewN | apply below_drew1 | refine below_set ?_ GE297.out) | exact HB.out)⟩⟩
  case rest =>
    clear HC5
    try clear c1
    try clear c2
    try clear p2
    try clear c3
    try clear c7
    try clear c7b0
    try clear c8
    try clear c8b0
    try clear c10
    try clear hcz11_0
    try clear hcz11_1
    try clear hcz13_0
    try clear hcz13_1
    try clear hcz14_0
    try clear hcz14_1
    try clear hfz11_0
    try clear hfz11_1
    try clear hfz13_0
    try clear hfz13_1
    try clear hfz14_0
    try clear hfz14_1
    obtain ⟨kq, x25_4, rfl, HA, HJ4, BK297, HB⟩ := hcut
    cases kq with
    | zero => exact absurd HA.out (by simp [observatoryref07_Check.j0])
    | succ kj4 =>
      have H := HA.out
      clear HA
      simp only [observatoryref07_Check.j0] at H
      by_cases c16 : x25_4 = true
      · subst c16
        have H1 : (some false) = some r := by rw [if_pos rfl] at H; exact H
        clear H
        have H := H1
        clear H1
        obtain rfl := Option.some.inj H
        go_wp2
        go_ret
        exact ⟨by first | rfl | (simp [errW_none, errW_some] <;> rfl) | (simp [*, errW_none, errW_some] <;> rfl), by repeat (first | (with_reducible first | exact HB.out | apply below_alloc | apply pw_below_drewN | apply below_drew1 | refine below_set ?_ GE297.out) | exact HB.out)⟩
      · replace c16 := Bool.eq_false_iff.mpr c16
        subst c16
        have H1 : ((observatoryref07_Text.f kj4 a2_0 a2_1).bind fun t299 => ((observatoryref02_Leaf.f kj4 t299).bind fun t300 => ((observatoryref02_Check.f kj4 a0 a1 (wrap64 (a2_0 - 1)) t300 l3).bind fun t301 => (some t301)))) = some r := by rw [if_neg (show ¬ (false = true) by decide)] at H; exact H
        clear H
        have H := H1
        clear H1
        replace H := Option.bind_eq_some_iff.mp H
        obtain ⟨t299, A170, H⟩ := H
        replace H : ((observatoryref02_Leaf.f kj4 t299).bind fun t300 => ((observatoryref02_Check.f kj4 a0 a1 (wrap64 (a2_0 - 1)) t300 l3).bind fun t301 => (some t301))) = some r := H
        have A17 := Aside0.mk A170
        clear A170
        replace H := Option.bind_eq_some_iff.mp H
        obtain ⟨t300, A180, H⟩ := H
        replace H : ((observatoryref02_Check.f kj4 a0 a1 (wrap64 (a2_0 - 1)) t300 l3).bind fun t301 => (some t301)) = some r := H
        have A18 := Aside0.mk A180
        clear A180
        replace H := Option.bind_eq_some_iff.mp H
        obtain ⟨t301, A190, H⟩ := H
        replace H : (some t301) = some r := H
        have A19 := Aside0.mk A190
        clear A190
        obtain rfl := Option.some.inj H
        try go_wp2
        have n0_ := Aside0.mk (blk_drew BK297.out)
        have n1_ := Aside0.mk (below_drew1 HB.out)
        clear BK297
        clear HB
        have BK297 := n0_
        have HB := n1_
        clear n0_ n1_
        refine start_ (n := 11) (S := fun w' => w'.cell? ⟨gb297, 0, none⟩ = some (.int .i64 a2_0) ∧ w'.cell? ⟨gb297, 1, none⟩ = some (.int .i64 a2_1)) (ds := []) #[false, false, false, false, false, false, false, false, false, false, false] (by kernel_rfl) rfl rfl ⟨(blk_cell BK297.out 0).trans rfl, (blk_cell BK297.out 1).trans rfl⟩ (fun hHeld => ?_); refine with_tabW observatoryref07_Check.tab3 observatoryref07_Check.bits3 (fun HT_ HW_ => ?_)
        generalize wc.drew = w20 at BK297 HB hHeld ⊢
        refine pure_ (i := 0) (N := some 26) (v := ?_) (a' := ?_) #[true, false, false, false, false, false, false, false, false, false, false] rfl rfl (any_of HT_.out (by kernel_rfl)) (fun _ _ _ h => h) (Or.inl ⟨by rfl, ?_⟩) ?_ ?_
        rotate_left
        · intro w'
          go_simp
          with_reducible rfl
        rotate_left
        · simp only [Act.put, List.setIfInBounds_toArray, List.set_cons_zero, List.set_cons_succ, i64_w, i32_w]
          rfl
        refine pure_ (i := 1) (N := some 27) (v := ?_) (a' := ?_) #[true, true, false, false, false, false, false, false, false, false, false] rfl rfl (any_of HT_.out (by kernel_rfl)) (fun _ _ _ h => h) (Or.inl ⟨by rfl, ?_⟩) ?_ ?_
        rotate_left
        · intro w'
          go_simp
          with_reducible rfl
        rotate_left
        · simp only [Act.put, List.setIfInBounds_toArray, List.set_cons_zero, List.set_cons_succ, i64_w, i32_w]
          rfl
        refine pure_ (i := 2) (N := some 28) (v := ?_) (a' := ?_) #[true, true, true, false, false, false, false, false, false, false, false] rfl rfl (any_of HT_.out (by kernel_rfl)) (fun _ _ _ h => h) (Or.inl ⟨by rfl, ?_⟩) ?_ ?_
        rotate_left
        · intro w'
          go_simp
          with_reducible rfl
        rotate_left
        · simp only [Act.put, List.setIfInBounds_toArray, List.set_cons_zero, List.set_cons_succ, i64_w, i32_w]
          rfl
        refine pure_ (i := 8) (N := some 34) (v := ?_) (a' := ?_) #[true, true, true, false, false, false, false, false, true, false, false] rfl rfl (any_of HT_.out (by kernel_rfl)) (fun _ _ _ h => h) (Or.inl ⟨by rfl, ?_⟩) ?_ ?_
        rotate_left
        · intro w'
          go_simp
          with_reducible rfl
        rotate_left
        · simp only [Act.put, List.setIfInBounds_toArray, List.set_cons_zero, List.set_cons_succ, i64_w, i32_w]
          rfl
        refine take_ (i := 3) (N := some 29) (v := ?_) (a' := ?_) #[true, true, true, true, false, false, false, false, true, false, false] rfl rfl (take_ofW HT_.out HW_.out (by kernel_rfl)) (fun _ _ _ h => h) (Or.inl ⟨by rfl, ?_⟩) hHeld ?_ ?_
        rotate_left
        · rintro w' ⟨s0, s1⟩
          go_simp
          with_reducible rfl
        rotate_left
        · simp only [Act.put, List.setIfInBounds_toArray, List.set_cons_zero, List.set_cons_succ, i64_w, i32_w]
          rfl
        refine pure_ (i := 4) (N := some 30) (v := ?_) (a' := ?_) #[true, true, true, true, true, false, false, false, true, false, false] rfl rfl (any_of HT_.out (by kernel_rfl)) (fun _ _ _ h => h) (Or.inl ⟨by rfl, ?_⟩) ?_ ?_
        rotate_left
        · intro w'
          go_simp
          with_reducible rfl
        rotate_left
        · simp only [Act.put, List.setIfInBounds_toArray, List.set_cons_zero, List.set_cons_succ, i64_w, i32_w]
          rfl
        refine take_ (i := 5) (N := some 31) (v := ?_) (a' := ?_) #[true, true, true, true, true, true, false, false, true, false, false] rfl rfl (take_ofW HT_.out HW_.out (by kernel_rfl)) (fun _ _ _ h => h) (Or.inl ⟨by rfl, ?_⟩) hHeld ?_ ?_
        rotate_left
        · rintro w' ⟨s0, s1⟩
          go_simp
          with_reducible rfl
        rotate_left
        · simp only [Act.put, List.setIfInBounds_toArray, List.set_cons_zero, List.set_cons_succ, i64_w, i32_w]
          rfl
        refine one_ (i := 6) (N := some 32) #[true, true, true, true, true, true, true, false, true, false, false] rfl rfl (one_of HT_.out (by kernel_rfl)) (by decide) (fun K hK => ?_)
        refine goes_ Tryz.func31 (by kernel_rfl) rfl #[.agg #[.int .i64 a2_0, .int .i64 a2_1]] (by rfl) rfl rfl (by (try simp only [List.map_toArray, List.map_cons, List.map_nil]); first | done | rfl | (simp only [List.length_drop, List.length_take]; rfl)) ?_
        with_reducible refine (observatoryref07_Text.calls kj4 a2_0 a2_1 t299 _ A17.out).mono ?_
        rintro e w21 ⟨rfl, hb⟩
        refine ⟨_, rfl, ?_⟩
        have n0_ := Aside0.mk (blk_below (g := gb297) (o := .cells #[.int .i64 a2_0, .int .i64 a2_1] 25 (0, 0)) (by (with_reducible repeat (first | refine blk_drewN ?_ _ | refine blk_drew ?_ | refine blk_alloc ?_ _)); exact BK297.out) hb)
        have n1_ := Aside0.mk (below_step (by repeat (first | (with_reducible first | exact HB.out | apply below_alloc | apply pw_below_drewN | apply below_drew1 | refine below_set ?_ GE297.out) | exact HB.out)) hb)
        clear BK297
        clear HB
        have BK297 := n0_
        have HB := n1_
        clear n0_ n1_
        (try clear hb)
        (try clear hb2)
        (try clear hk)
        (try clear hi)
        refine hK.out _ _ ⟨(blk_cell BK297.out 0).trans rfl, (blk_cell BK297.out 1).trans rfl⟩ (fun hHeld => ?_)
        clear hK K
        refine norm_ (a' := ?_) ?_ ?_
        rotate_left
        · show Act.put _ (some 32) _ = _
          simp only [Act.put, List.setIfInBounds_toArray, List.set_cons_zero, List.set_cons_succ, i64_w, i32_w]
          rfl
        refine one_ (i := 7) (N := some 33) #[true, true, true, true, true, true, true, true, true, false, false] rfl rfl (one_of HT_.out (by kernel_rfl)) (by decide) (fun K hK => ?_)
        refine goes_ Tryz.func34 (by kernel_rfl) rfl #[.string t299] (by rfl) rfl rfl (by (try simp only [List.map_toArray, List.map_cons, List.map_nil]); first | done | rfl | (simp only [List.length_drop, List.length_take]; rfl)) ?_
        with_reducible refine (observatoryref02_Leaf.calls kj4 t299 t300 _ A18.out).mono ?_
        rintro e w22 ⟨rfl, hb⟩
        refine ⟨_, rfl, ?_⟩
        have n0_ := Aside0.mk (blk_below (g := gb297) (o := .cells #[.int .i64 a2_0, .int .i64 a2_1] 25 (0, 0)) (by (with_reducible repeat (first | refine blk_drewN ?_ _ | refine blk_drew ?_ | refine blk_alloc ?_ _)); exact BK297.out) hb)
        have n1_ := Aside0.mk (below_step (by repeat (first | (with_reducible first | exact HB.out | apply below_alloc | apply pw_below_drewN | apply below_drew1 | refine below_set ?_ GE297.out) | exact HB.out)) hb)
        clear BK297
        clear HB
        have BK297 := n0_
        have HB := n1_
        clear n0_ n1_
        (try clear hb)
        (try clear hb2)
        (try clear hk)
        (try clear hi)
        refine hK.out _ _ ⟨(blk_cell BK297.out 0).trans rfl, (blk_cell BK297.out 1).trans rfl⟩ (fun hHeld => ?_)
        clear hK K
        refine norm_ (a' := ?_) ?_ ?_
        rotate_left
        · show Act.put _ (some 33) _ = _
          simp only [Act.put, List.setIfInBounds_toArray, List.set_cons_zero, List.set_cons_succ, i64_w, i32_w]
          rfl
        refine one_ (i := 9) (N := some 35) #[true, true, true, true, true, true, true, true, true, true, false] rfl rfl (one_of HT_.out (by kernel_rfl)) (by decide) (fun K hK => ?_)
        refine goes_ Tryz.func87 (by kernel_rfl) rfl #[.string a0, .int .i64 a1, .int .i64 (wrap64 (a2_0 - 1)), .string t300, .slice A3 l3.length c3] (by rfl) rfl rfl (by (try simp only [List.map_toArray, List.map_cons, List.map_nil]); first | done | rfl | (simp only [List.length_drop, List.length_take]; rfl)) ?_
        with_reducible refine (observatoryref02_Check.calls kj4 a0 a1 (wrap64 (a2_0 - 1)) t300 _ _ l3 t301 _ ?side1 ?side2 A19.out).mono ?_
        (case side1 => repeat (first | exact (Kd.C_below HR3.out HB.out) | (with_reducible refine Kd.C_alloc ?_ _) | (with_reducible refine Kd.C_drewN ?_ _) | (with_reducible refine Kd.C_drew ?_)))
        (case side2 => exact HC3.out)
        rintro e w23 ⟨rfl, hb⟩
        refine ⟨_, rfl, ?_⟩
        have n0_ := Aside0.mk (blk_below (g := gb297) (o := .cells #[.int .i64 a2_0, .int .i64 a2_1] 25 (0, 0)) (by (with_reducible repeat (first | refine blk_drewN ?_ _ | refine blk_drew ?_ | refine blk_alloc ?_ _)); exact BK297.out) hb)
        have n1_ := Aside0.mk (below_step (by repeat (first | (with_reducible first | exact HB.out | apply below_alloc | apply pw_below_drewN | apply below_drew1 | refine below_set ?_ GE297.out) | exact HB.out)) hb)
        clear BK297
        clear HB
        have BK297 := n0_
        have HB := n1_
        clear n0_ n1_
        (try clear hb)
        (try clear hb2)
        (try clear hk)
        (try clear hi)
        refine hK.out _ _ ⟨(blk_cell BK297.out 0).trans rfl, (blk_cell BK297.out 1).trans rfl⟩ (fun hHeld => ?_)
        clear hK K
        refine norm_ (a' := ?_) ?_ ?_
        rotate_left
        · show Act.put _ (some 35) _ = _
          simp only [Act.put, List.setIfInBounds_toArray, List.set_cons_zero, List.set_cons_succ, i64_w, i32_w]
          rfl
        refine pure_ (i := 10) (N := some 8) (v := ?_) (a' := ?_) #[true, true, true, true, true, true, true, true, true, true, true] rfl rfl (any_of HT_.out (by kernel_rfl)) (fun _ _ _ h => h) (Or.inl ⟨by rfl, ?_⟩) ?_ ?_
        rotate_left
        · intro w'
          go_simp
          with_reducible rfl
        rotate_left
        · simp only [Act.put, List.setIfInBounds_toArray, List.set_cons_zero, List.set_cons_succ, i64_w, i32_w]
          rfl
        refine done_ (done_of HT_.out (by kernel_rfl)) ?_
        try go_wp2
        go_ret
        exact ⟨by first | rfl | (simp [errW_none, errW_some] <;> rfl) | (simp [*, errW_none, errW_some] <;> rfl), by repeat (first | (with_reducible first | exact HB.out | apply below_alloc | apply pw_below_drewN | apply below_drew1 | refine below_set ?_ GE297.out) | exact HB.out)⟩
end Go.Proofs.YtddikdpbhjgihaaGreatDoor.X
end
section
namespace Go.Proofs.YtddikdpbhjgihaaGreatDoor.X
open Go.RowKit Go.Proofs.YtddikdpbhjgihaaGreatDoorW.PrintWords Go.Proofs.YtddikdpbhjgihaaGreatDoorW.PrintLast Go.Proofs.YtddikdpbhjgihaaGreatDoorW.PrintMore
attribute [local go_sem] max2_int min2_int max_two min_two max_three min_three max_four min_four   -- for this text's walks alone
set_option linter.unusedVariables false
set_option linter.unusedSimpArgs false
def observatoryref02_PathTexts.f : Nat → Int → Int → ByteArray → List ByteArray → Option (List ByteArray)
  | 0, _, _, _, _ => none
  | k + 1, a0, a1, a2, l3 => if a0 = 1 then (some ([] : List ByteArray)) else ((observatoryref02_Half.f k a0).bind fun t365 => (if 0 ≤ (wrap64 ((l3.length : Int) - 1)) then (if (wrap64 ((l3.length : Int) - 1)) < (l3.length : Int) then (if (wrap64 ((l3.length : Int) - 1)) ≤ (l3.length : Int) then (if a1 < t365 then ((observatoryref02_PathTexts.f k t365 a1 a2 (l3.take ((wrap64 ((l3.length : Int) - 1)) : Int).toNat)).bind fun t368 => ((observatoryref02_up.f k t365 a1 a2 (l3.take ((wrap64 ((l3.length : Int) - 1)) : Int).toNat)).bind fun t371 => ((observatoryref01_Joined.f (([(⟨#[110, 111, 100, 101]⟩ : ByteArray), t371, rdOf ByteArray.empty l3 (wrap64 ((l3.length : Int) - 1))] : List ByteArray))).bind fun t375 => (if t368.length < 8796093022208 then (some (t368 ++ [t375])) else (none))))) else ((observatoryref02_PathTexts.f k (wrap64 (a0 - t365)) (wrap64 (a1 - t365)) a2 (l3.take ((wrap64 ((l3.length : Int) - 1)) : Int).toNat)).bind fun t379 => ((observatoryref02_up.f k (wrap64 (a0 - t365)) (wrap64 (a1 - t365)) a2 (l3.take ((wrap64 ((l3.length : Int) - 1)) : Int).toNat)).bind fun t382 => ((observatoryref01_Joined.f (([(⟨#[110, 111, 100, 101]⟩ : ByteArray), rdOf ByteArray.empty l3 (wrap64 ((l3.length : Int) - 1)), t382] : List ByteArray))).bind fun t386 => (if t379.length < 8796093022208 then (some (t379 ++ [t386])) else (none)))))) else (none)) else (none)) else (none)))
end Go.Proofs.YtddikdpbhjgihaaGreatDoor.X
end
section
namespace Go.Proofs.YtddikdpbhjgihaaGreatDoor.X
open Go.RowKit Go.Proofs.YtddikdpbhjgihaaGreatDoorW.PrintWords Go.Proofs.YtddikdpbhjgihaaGreatDoorW.PrintLast
open ObsMer (half half_of)
set_option linter.unusedVariables false
theorem half_small {n : Nat} (h : n ≤ 1) : half n = 1 := by
  have : n - 1 = 0 := by omega
  unfold half
  rw [this]
  rfl
theorem pow2_w {i : Nat} (h : i ≤ 60) : wrap64 (((2 ^ i : Nat) : Int) * 2) = ((2 ^ (i + 1) : Nat) : Int) ∧ wrap64 (2 * ((2 ^ i : Nat) : Int)) = ((2 ^ (i + 1) : Nat) : Int) := by
  have h1 : 2 ^ i ≤ 2 ^ 60 := Nat.pow_le_pow_right (by decide) h
  have e : 2 ^ (i + 1) = 2 ^ i * 2 := Nat.pow_succ 2 i
  have h2 : (2 : Nat) ^ 60 = 1152921504606846976 := by decide
  rw [e]
  unfold wrap64
  omega
theorem half_l0 (n : Nat) : ∀ (d k i : Nat), n ≤ 2 ^ (i + d) → i = 0 ∨ 2 ^ i < n → d < k → i + d ≤ 60 → tree_half.l0 k (n : Int) ((2 ^ i : Nat) : Int) = some ((half n : Nat) : Int) ∧ observatoryref02_Half.l0 k (n : Int) ((2 ^ i : Nat) : Int) = some ((half n : Nat) : Int) := by
  intro d
  induction d with
  | zero =>
    intro k i h1 h2 h3 h4
    obtain ⟨k, rfl⟩ : ∃ q, k = q + 1 := ⟨k - 1, by omega⟩
    have hp := pow2_w (i := i) (by omega)
    have hi : i = 0 := by
      rcases h2 with h2 | h2
      · exact h2
      · rw [Nat.add_zero] at h1; omega
    subst hi
    have hn : n ≤ 1 := h1
    simp only [tree_half.l0, observatoryref02_Half.l0]
    rw [hp.1, hp.2, half_small hn, if_neg (by simp; omega), if_neg (by simp; omega)]
    exact ⟨rfl, rfl⟩
  | succ d ih =>
    intro k i h1 h2 h3 h4
    obtain ⟨k, rfl⟩ : ∃ q, k = q + 1 := ⟨k - 1, by omega⟩
    have hp := pow2_w (i := i) (by omega)
    simp only [tree_half.l0, observatoryref02_Half.l0]
    rw [hp.1, hp.2]
    by_cases hc : 2 ^ (i + 1) < n
    · rw [if_pos (by omega), if_pos (by omega)]
      exact ih k (i + 1) (by rw [show i + 1 + d = i + (d + 1) by omega]; exact h1) (.inr hc) (by omega) (by omega)
    · rw [if_neg (by omega), if_neg (by omega)]
      have e : half n = 2 ^ i := by
        rcases h2 with h2 | h2
        · subst h2
          by_cases h5 : n ≤ 1
          · rw [half_small h5]
          · exact half_of (i := 0) (by show 1 < n; omega) (Nat.le_of_not_lt hc)
        · exact half_of h2 (Nat.le_of_not_lt hc)
      rw [e]
      exact ⟨rfl, rfl⟩
theorem half_eq {k n : Nat} (hk : 61 ≤ k) (hn : n ≤ 1152921504606846976) : tree_half.f k (n : Int) = some ((half n : Nat) : Int) := by
  have := (half_l0 n 60 k 0 (by rw [Nat.zero_add]; exact hn) (.inl rfl) (by omega) (by omega)).1
  exact this
theorem Half_eq {k n : Nat} (hk : 61 ≤ k) (hn : n ≤ 1152921504606846976) : observatoryref02_Half.f k (n : Int) = some ((half n : Nat) : Int) := by
  have := (half_l0 n 60 k 0 (by rw [Nat.zero_add]; exact hn) (.inl rfl) (by omega) (by omega)).2
  exact this
end Go.Proofs.YtddikdpbhjgihaaGreatDoor.X
end
section
namespace Go.Proofs.YtddikdpbhjgihaaGreatDoor.X
open Go.RowKit Go.Proofs.YtddikdpbhjgihaaGreatDoorW.PrintWords Go.Proofs.YtddikdpbhjgihaaGreatDoorW.PrintLast Go.Proofs.YtddikdpbhjgihaaGreatDoorW.PrintMore
open ObsMer (joined toL half root nodeT leafT emptyT)
set_option linter.unusedVariables false
set_option linter.unusedSimpArgs false
def okB (l : List ByteArray) : Bool := decide (l.length ≤ 1000000) && l.all (fun s => decide (s.size ≤ 1000))
theorem okB_take {l : List ByteArray} (h : okB l = true) (k : Nat) : okB (l.take k) = true := by
  unfold okB at h ⊢
  rw [Bool.and_eq_true, decide_eq_true_eq, List.all_eq_true] at h ⊢
  exact ⟨by rw [List.length_take]; omega, fun s hs => h.2 s (List.mem_of_mem_take hs)⟩
theorem okB_drop {l : List ByteArray} (h : okB l = true) (k : Nat) : okB (l.drop k) = true := by
  unfold okB at h ⊢
  rw [Bool.and_eq_true, decide_eq_true_eq, List.all_eq_true] at h ⊢
  exact ⟨by rw [List.length_drop]; omega, fun s hs => h.2 s (List.mem_of_mem_drop hs)⟩
theorem okB_mem {l : List ByteArray} (h : okB l = true) {s : ByteArray} (hs : s ∈ l) : s.size ≤ 1000 := by
  unfold okB at h
  rw [Bool.and_eq_true, List.all_eq_true] at h
  exact of_decide_eq_true (h.2 s hs)
theorem okB_len {l : List ByteArray} (h : okB l = true) : l.length ≤ 1000000 := by
  unfold okB at h
  rw [Bool.and_eq_true] at h
  exact of_decide_eq_true h.1
theorem joined_size : ∀ (l : List ByteArray), (∀ s ∈ l, s.size ≤ 1000) → (joined l).size ≤ l.length * 1100
  | [], _ => by simp [joined]
  | s :: l, h => by
    have ih := joined_size l (fun x hx => h x (List.mem_cons_of_mem _ hx))
    have hs := h s List.mem_cons_self
    have hi := Go.Lib.itoa_length_le (s.size : Int) (by omega) (by omega)
    rw [← ObsMer.toL_length, ObsMer.toL_joined, List.length_append, List.length_cons, List.length_append, ObsMer.toL_length, ObsMer.toL_length, List.length_cons]
    omega
theorem root_size {l : List ByteArray} (h : okB l = true) (h1 : 1 ≤ l.length) : (root sumF l).size ≤ 1000 := by
  by_cases h2 : l.length = 1
  · match l, h2 with
    | [a], _ => rw [ObsMer.root_one]; exact okB_mem h (by simp)
  · rw [ObsMer.root_two sumF (by omega), sumF_size]; omega
theorem node_ok {a b : ByteArray} (ha : a.size ≤ 1000) (hb : b.size ≤ 1000) : tree_node.f a b = some (sumF (nodeT a b)) := by
  unfold tree_node.f
  rw [List_ok, Option.bind_some]
  · rfl
  · have := joined_size [⟨#[110, 111, 100, 101]⟩, a, b] (by
      intro s hs
      simp only [List.mem_cons, List.not_mem_nil, or_false] at hs
      rcases hs with rfl | rfl | rfl
      · decide
      · exact ha
      · exact hb)
    simp only [List.length_cons, List.length_nil] at this
    omega
theorem cell_lt {w : World} {b o : Nat} {v : Value} (h : w.cell? ⟨b, o, none⟩ = some v) : b < w.heap.size := World.block_lt_of_cell? w _ h
set_option maxRecDepth 100000 in
set_option maxHeartbeats 1000000 in
theorem sum_any (b : Nat) : ∀ (d : Nat) (A : Option Addr) (c : Nat) (l : List ByteArray) (w : World), l.length ≤ d → 1 ≤ l.length → okB l = true → Kd.C Kd.string w A l.length l → l.length ≤ c → GL w →
    w.cell? ⟨b, 0, none⟩ = some (.func (.func 143) #[] #[.pointer (some ⟨b, 0, none⟩)]) →
    Calls Tryz.prog 143 #[.slice A l.length c, .pointer (some ⟨b, 0, none⟩)] w fun e w' => e = .returned (.string (root sumF l)) ∧ Below w.heap.size w w' := by
  intro d
  induction d with
  | zero => intro A c l w h1 h2; omega
  | succ d ih =>
    intro A c l w h1 h2 hok hC hc hgl hcell
    by_cases h3 : l.length = 1
    · obtain ⟨ad, e0, a0⟩ := Kd.at_string hC 0 (by omega) (by omega)
      subst e0
      have e1 : rdOf ByteArray.empty l 0 = root sumF l := by
        match l, h3 with
        | [a], _ => rw [ObsMer.root_one]; rfl
      rw [show Int.toNat 0 = 0 from rfl, Addr.add_zero', e1] at a0
      have h3' : ((l.length : Int) == 1) = true := by rw [h3]; rfl
      have h0 : (0 < l.length) = True := eq_true (by omega)
      have h0' : ((0 : Int) < (l.length : Int)) = True := eq_true (by omega)
      clear hC hgl hcell ih e1 h3 h1
      go_enter Tryz.func143, Tryz.ntmps143
      go_wp2_with fail
      go_ret
      exact ⟨rfl, Below.refl _ _⟩
    · have h3' : ((l.length : Int) == 1) = false := beq_eq_false_iff_ne.2 (by omega)
      have hh := half_eq (k := 100) (n := l.length) (by omega) (by have := okB_len hok; omega)
      have hl := ObsMer.half_lt (n := l.length) (by omega)
      have hp := ObsMer.half_pos l.length
      have hr := ObsMer.root_two sumF (l := l) (by omega)
      generalize half l.length = k at hh hl hp hr
      have HH := Aside0.mk hh
      have HR := Aside0.mk hr
      have ht : (l.take k).length = k := by rw [List.length_take]; omega
      have hd : (l.drop k).length = l.length - k := by rw [List.length_drop]
      obtain ⟨i016, hi016, _, hsz16, _⟩ := info_parts info9
      obtain ⟨hcut1, hA1, hc1⟩ := print_take_of (P := Tryz.prog) Value.string (⟨#[]⟩ : ByteArray) 26 9 .i64 Tryz.underlying26 hi016 hsz16 A c l (k : Int) (by omega) (by omega) hc
      obtain ⟨A2, hcut2, hA2, hc2⟩ := print_drop_of (P := Tryz.prog) Value.string (⟨#[]⟩ : ByteArray) 26 9 .i64 Tryz.underlying26 hi016 hsz16 A c l (k : Int) (by omega) (by omega) hc
      rw [Int.toNat_natCast] at hcut1 hA1 hc1 hcut2 hA2 hc2
      have C1 := Aside0.mk (Kd.C_of_reads (h1 := fun _ => rfl) (hA1 _ (Kd.reads_of_C hC)) : Kd.C Kd.string w A (l.take k).length (l.take k))
      have C2 := Aside0.mk (Kd.C_of_reads (h1 := fun _ => rfl) (hA2 _ (Kd.reads_of_C hC)) : Kd.C Kd.string w A2 (l.drop k).length (l.drop k))
      have L1 := Aside0.mk hc1
      have L2 := Aside0.mk hc2
      have I1 : Aside0 (∀ (w1 : World), Below w.heap.size w w1 → Calls Tryz.prog 143 #[.slice A (k : Nat) c, .pointer (some ⟨b, 0, none⟩)] w1 fun e w' => e = .returned (.string (root sumF (l.take k))) ∧ Below w1.heap.size w1 w') := ⟨fun w1 hb => by
        have := ih A c (l.take k) w1 (by omega) (by omega) (okB_take hok k) (Kd.C_below C1.out hb) L1.out (hgl.below hb) (by rw [hb.cell (p := ⟨b, 0, none⟩) (cell_lt hcell)]; exact hcell)
        rw [ht] at this; exact this⟩
      have I2 : Aside0 (∀ (w1 : World), Below w.heap.size w w1 → Calls Tryz.prog 143 #[.slice A2 (l.length - k) (c - k), .pointer (some ⟨b, 0, none⟩)] w1 fun e w' => e = .returned (.string (root sumF (l.drop k))) ∧ Below w1.heap.size w1 w') := ⟨fun w1 hb => by
        have := ih A2 (c - k) (l.drop k) w1 (by omega) (by omega) (okB_drop hok k) (Kd.C_below C2.out hb) L2.out (hgl.below hb) (by rw [hb.cell (p := ⟨b, 0, none⟩) (cell_lt hcell)]; exact hcell)
        rw [hd] at this; exact this⟩
      rw [ht] at hcut1
      rw [hd] at hcut2
      have hn := node_ok (root_size (okB_take hok k) (by omega)) (root_size (okB_drop hok k) (by omega))
      have HN := Aside0.mk hn
      have HGL := Aside0.mk hgl
      have hlt := cell_lt hcell
      clear ih hC hgl hA1 hA2 hc1 hc2 hi016 hsz16 hh hr h3 hn hok h1 h2 ht hd
      go_enter Tryz.func143, Tryz.ntmps143
      go_wp2_with fail
      refine (tree_half.calls 100 _ _ _ HH.out).mono ?_
      rintro e w' ⟨rfl, ⟨nd, rfl⟩⟩
      go_wp2_with fail
      have HB0 := Aside0.mk (pw_below_drewN (Below.refl w.heap.size w) nd)
      have hc0 : (w.drewN nd).cell? ⟨b, 0, none⟩ = some (.func (.func 143) #[] #[.pointer (some ⟨b, 0, none⟩)]) := hcell
      have HC0 := Aside0.mk hcell
      clear hcell
      generalize w.drewN nd = w0 at HB0 hc0
      have tok1 : True := trivial
      have tok2 : True := trivial
      go_region_held3 (fun w' => w'.cell? ⟨b, 0, none⟩ = some (.func (.func 143) #[] #[.pointer (some ⟨b, 0, none⟩)])) (first | go_keep | exact hc1 | exact hc2 | exact hc3)
        (first | (go_at_call 143; have _t := tok1; refine (I1.out _ (by repeat (first | exact HB0.out | apply pw_below_drewN | apply below_drew1))).mono ?_; rintro e w1 ⟨rfl, hb⟩; have HB1 := Aside0.mk (below_step (by repeat (first | exact HB0.out | apply pw_below_drewN | apply below_drew1)) hb); have hc1 := (HB1.out.cell (p := ⟨b, 0, none⟩) hlt).trans HC0.out; clear hb tok1) | (go_at_call 143; have _t := tok2; refine (I2.out _ (by repeat (first | exact HB1.out | apply pw_below_drewN | apply below_drew1))).mono ?_; rintro e w2 ⟨rfl, hb⟩; have HB2 := Aside0.mk (below_step (by repeat (first | exact HB1.out | apply pw_below_drewN | apply below_drew1)) hb); have hc2 := (HB2.out.cell (p := ⟨b, 0, none⟩) hlt).trans HC0.out; clear hb tok2) | (go_at_call 138; refine (tree_node.calls _ _ _ _ (HGL.out.below (by repeat (first | exact HB2.out | apply pw_below_drewN | apply below_drew1))) HN.out).mono ?_; rintro e w3 ⟨rfl, hb⟩; have HB3 := Aside0.mk (below_step (by repeat (first | exact HB2.out | apply pw_below_drewN | apply below_drew1)) hb); have hc3 := (HB3.out.cell (p := ⟨b, 0, none⟩) hlt).trans HC0.out; clear hb))
      all_goals (go_wp2_with fail; go_ret; exact ⟨by rw [HR.out]; rfl, HB3.out⟩)
theorem C_litS {w : World} {b : Nat} (l : List ByteArray) {t : TypeId} {fz : Nat × Nat} (h : w.heap[b]? = some (.cells (l.map Value.string).toArray t fz)) (hl : l.length ≤ 9223372036854775807) : Kd.C Kd.string w (some ⟨b, 0, none⟩) l.length l := by
  refine ⟨rfl, hl, fun _ => ⟨_, rfl, fun j p hj => ⟨[.string p], rfl, rfl, fun i u hu => ?_⟩⟩⟩
  rw [add_plain]
  match i, hu with
  | 0, hu =>
    simp at hu; subst hu
    show w.cell? ⟨b, j * 1 + 0, none⟩ = _
    simp [World.cell?, h, hj]
def tree_total.f (l0 : List ByteArray) : Option ByteArray := if okB l0 = true then some (root sumF l0) else none
set_option maxRecDepth 100000 in
set_option maxHeartbeats 1000000 in
theorem total_walk (A : Option Addr) (c : Nat) (l : List ByteArray) (w : World) (hC : Kd.C Kd.string w A l.length l) (hc : l.length ≤ c) (hgl : GL w) (hok : okB l = true) :
    Calls Tryz.prog 90 #[.slice A l.length c] w fun e w' => e = .returned (.string (root sumF l)) ∧ Below w.heap.size w w' := by
  have HC := Aside0.mk hC
  have HGL := Aside0.mk hgl
  have HOK := Aside0.mk hok
  have HB0 := Aside0.mk (Below.refl w.heap.size w)
  clear hC hgl hok
  by_cases h0 : l.length = 0
  · obtain rfl : l = [] := List.eq_nil_of_length_eq_zero h0
    have HR := Aside0.mk (ObsMer.root_nil sumF)
    have HL := Aside0.mk (List_ok (l := [⟨#[101, 109, 112, 116, 121]⟩]) (by decide +kernel))
    go_enter Tryz.func90, Tryz.ntmps90
    go_wp2_with fail
    refine (digest_List.calls _ 1 [⟨#[101, 109, 112, 116, 121]⟩] _ _ (C_litS [⟨#[101, 109, 112, 116, 121]⟩] (heap_alloc2_new _ _ _) (by simp)) (by simp) (HGL.out.below (by repeat (first | exact HB0.out | apply below_alloc))) HL.out).mono ?_
    rintro e w1 ⟨rfl, hb⟩
    have HB := Aside0.mk (below_step (by repeat (first | exact HB0.out | apply below_alloc)) hb)
    clear hb
    go_wp2_with fail
    go_ret
    exact ⟨by rw [HR.out]; rfl, HB.out⟩
  · have h0' : ((l.length : Int) == 0) = false := beq_eq_false_iff_ne.2 (by omega)
    have H1 := Aside0.mk (show 1 ≤ l.length by omega)
    clear h0
    go_enter Tryz.func90, Tryz.ntmps90
    go_wp2_with fail
    refine (sum_any w.heap.size l.length A c l _ (Nat.le_refl _) H1.out HOK.out (Kd.C_below HC.out (by repeat (first | exact HB0.out | apply below_alloc))) hc (HGL.out.below (by repeat (first | exact HB0.out | apply below_alloc))) (cell_of_row _ _ 0 _ _ _ (heap_last w _))).mono ?_
    rintro e w1 ⟨rfl, hb⟩
    have HB := Aside0.mk (below_step (by repeat (first | exact HB0.out | apply below_alloc)) hb)
    clear hb
    go_wp2_with fail
    go_ret
    exact ⟨rfl, HB.out⟩
theorem tree_total.calls (A0 : Option Addr) (c0 : Nat) (l0 : List ByteArray) (r : ByteArray) (w : World) (hr0 : Kd.C Kd.string w A0 l0.length l0) (hc0 : l0.length ≤ c0) (hgl : GL w) (h : tree_total.f l0 = some r) :
    Calls Tryz.prog 90 #[.slice A0 l0.length c0] w fun e w' => e = .returned (.string r) ∧ Below w.heap.size w w' := by
  unfold tree_total.f at h
  split at h
  · rename_i hs
    have e := Option.some.inj h
    subst e
    exact total_walk A0 c0 l0 w hr0 hc0 hgl hs
  · cases h
end Go.Proofs.YtddikdpbhjgihaaGreatDoor.X
end
section
namespace Go.Proofs.YtddikdpbhjgihaaGreatDoor.X
open Go.RowKit Go.Proofs.YtddikdpbhjgihaaGreatDoorW.PrintWords Go.Proofs.YtddikdpbhjgihaaGreatDoorW.PrintLast Go.Proofs.YtddikdpbhjgihaaGreatDoorW.PrintMore
open ObsMer (joined toL half root path)
set_option linter.unusedVariables false
set_option linter.unusedSimpArgs false
theorem isDg_size {s : ByteArray} (h : isDg s = true) : s.size = 16 := by
  unfold isDg at h
  rw [Bool.and_eq_true] at h
  exact of_decide_eq_true h.1
theorem okB_dg {l : List ByteArray} (h : l.all isDg = true) (hl : l.length ≤ 1000000) : okB l = true := by
  unfold okB
  rw [Bool.and_eq_true, decide_eq_true_eq, List.all_eq_true]
  exact ⟨hl, fun s hs => decide_eq_true (by rw [isDg_size (List.all_eq_true.1 h s hs)]; omega)⟩
theorem R_of_strs {w : World} {base : Nat} {v : Value} {acc : List ByteArray} (h : w.ownsRow base 9 1 v acc.length (acc.map Value.string)) : Kd.R Kd.string 9 w base (fun _ => True) v acc := by
  refine ⟨fun _ _ => trivial, _, h, ⟨by simp [Kd.string, Kd.scalar], fun j p hj => ?_⟩⟩
  show List.take 1 (List.drop (j * 1) (acc.map Value.string)) = [.string p]
  have hlt := (List.getElem?_eq_some_iff.1 hj).1
  rw [Nat.mul_one, List.drop_eq_getElem_cons (by simpa using hlt), List.take_succ_cons, List.take_zero, List.getElem_map]
  rw [List.getElem?_eq_getElem hlt] at hj
  rw [Option.some.inj hj]
theorem setCells_row (b : Nat) (t : TypeId) : ∀ (vs : List Value) (o : Nat) (w : World) (cur : Array Value), w.heap[b]? = some (.cells cur t (0, 0)) → o + vs.length ≤ cur.size →
    ∃ cur', (w.setCells b o vs).heap[b]? = some (.cells cur' t (0, 0)) ∧ cur'.size = cur.size ∧ (∀ j, j < vs.length → cur'[o + j]? = vs[j]?) ∧ ∀ j, j < o → cur'[j]? = cur[j]?
  | [], o, w, cur, h, _ => ⟨cur, h, rfl, fun j hj => by simp at hj, fun j _ => rfl⟩
  | v :: r, o, w, cur, h, hl => by
    rw [List.length_cons] at hl
    have h1 := heap_setCell_same w b o _ _ v h
    obtain ⟨cur', h2, h3, h4, h5⟩ := setCells_row b t r (o + 1) _ _ h1 (by rw [Array.size_setIfInBounds]; omega)
    refine ⟨cur', h2, by rw [h3, Array.size_setIfInBounds], fun j hj => ?_, fun j hj => ?_⟩
    · cases j with
      | zero =>
        rw [Nat.add_zero, h5 o (by omega), Array.getElem?_setIfInBounds_self_of_lt (by omega)]
        rfl
      | succ j =>
        rw [show o + (j + 1) = o + 1 + j by omega, h4 j (by simpa using hj)]
        rfl
    · rw [h5 j (by omega), Array.getElem?_setIfInBounds_ne (by omega)]
structure PI (w wr : World) (l : List ByteArray) (i : Nat) (A : Option Addr) (c : Nat) (m : List ByteArray) (j : Nat) (v : Value) (acc : List ByteArray) : Prop where
  C : Kd.C Kd.string w A m.length m
  hc : m.length ≤ c
  ok : okB m = true
  lt : j < m.length
  R : Kd.R Kd.string 9 wr w.heap.size (fun _ => True) v acc
  eq : path sumF l i = path sumF m j ++ acc.reverse
  len : acc.length + m.length ≤ 1000000
  bl : Below w.heap.size w wr
theorem PI.lo {w wr w' : World} {l m : List ByteArray} {i c j : Nat} {A : Option Addr} {v v' : Value} {acc : List ByteArray} (h : PI w wr l i A c m j v acc) (h2 : 2 ≤ m.length) (hj : j < half m.length)
    (hC : Kd.C Kd.string w A (m.take (half m.length)).length (m.take (half m.length))) (hR : Kd.R Kd.string 9 w' w.heap.size (fun _ => True) v' (acc ++ [root sumF (m.drop (half m.length))])) (hb : Below w.heap.size w w') :
    PI w w' l i A c (m.take (half m.length)) j v' (acc ++ [root sumF (m.drop (half m.length))]) := by
  have hl := ObsMer.half_lt h2
  have ht := ObsMer.take_half h2
  refine ⟨hC, by have := h.hc; omega, okB_take h.ok _, by omega, hR, ?_, by rw [List.length_append, ht]; have := h.len; simp; omega, hb⟩
  rw [h.eq, ObsMer.path_lo sumF h2 hj, List.reverse_append, List.append_assoc]
  rfl
theorem PI.hi {w wr w' : World} {l m : List ByteArray} {i c j : Nat} {A A2 : Option Addr} {v v' : Value} {acc : List ByteArray} (h : PI w wr l i A c m j v acc) (h2 : 2 ≤ m.length) (hj : half m.length ≤ j)
    (hC : Kd.C Kd.string w A2 (m.drop (half m.length)).length (m.drop (half m.length))) (hc : (m.drop (half m.length)).length ≤ c - half m.length) (hR : Kd.R Kd.string 9 w' w.heap.size (fun _ => True) v' (acc ++ [root sumF (m.take (half m.length))])) (hb : Below w.heap.size w w') :
    PI w w' l i A2 (c - half m.length) (m.drop (half m.length)) (j - half m.length) v' (acc ++ [root sumF (m.take (half m.length))]) := by
  have hl := ObsMer.half_lt h2
  have hp := ObsMer.half_pos m.length
  have ht := ObsMer.drop_half m
  refine ⟨hC, hc, okB_drop h.ok _, by have := h.lt; omega, hR, ?_, by rw [List.length_append, ht]; have := h.len; simp; omega, hb⟩
  rw [h.eq, ObsMer.path_hi sumF h2 hj, List.reverse_append, List.append_assoc]
  rfl
end Go.Proofs.YtddikdpbhjgihaaGreatDoor.X
end
