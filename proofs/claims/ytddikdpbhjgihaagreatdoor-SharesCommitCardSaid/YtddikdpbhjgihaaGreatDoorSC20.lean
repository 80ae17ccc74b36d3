import Derived.Test.YtddikdpbhjgihaaGreatDoorSC07
import Derived.Test.YtddikdpbhjgihaaGreatDoorSC13
import Derived.Test.YtddikdpbhjgihaaGreatDoorSC19
import Derived.Test.YtddikdpbhjgihaaGreatDoorSC10
import Derived.Test.YtddikdpbhjgihaaGreatDoorSC09
import Derived.Test.YtddikdpbhjgihaaGreatDoorSC17
import Derived.Test.YtddikdpbhjgihaaGreatDoorSC12
section
namespace Go.Proofs.YtddikdpbhjgihaaGreatDoor.X
open Go.RowKit Go.Proofs.YtddikdpbhjgihaaGreatDoorW.PrintWords Go.Proofs.YtddikdpbhjgihaaGreatDoorW.PrintLast Go.Proofs.YtddikdpbhjgihaaGreatDoorW.PrintMore
attribute [local go_sem] max2_int min2_int max_two min_two max_three min_three max_four min_four   -- for this text's walks alone
set_option linter.unusedVariables false
set_option linter.unusedSimpArgs false
def shares_Check.j0 : Nat → ByteArray → Int → List ByteArray → Bool → Int → Int → Option (Bool)
  | 0, _, _, _, _, _, _ => none
  | k + 1, x0, x1, x3, x25, x279000, x279001 => if x25 = true then (some false) else ((shares_text.f x279000 x279001).bind fun t280 => ((tree_Leaf.f t280).bind fun t281 => ((tree_Check.f x0 x1 (wrap64 (x279000 - 1)) t281 x3).bind fun t282 => (some t282))))
def shares_Check.f (k : Nat) (a0 : ByteArray) (a1 : Int) (a2_0 : Int) (a2_1 : Int) (l3 : List ByteArray) : Option (Bool) := if a1 < 1 then (shares_Check.j0 k a0 a1 l3 true a2_0 a2_1) else (if a1 > 16 then (shares_Check.j0 k a0 a1 l3 true a2_0 a2_1) else ((shares_valid.f a2_0 a2_1).bind fun t279 => (if t279 = true then (shares_Check.j0 k a0 a1 l3 (decide (a2_0 > a1)) a2_0 a2_1) else (shares_Check.j0 k a0 a1 l3 true a2_0 a2_1))))
def shares_Check.T3 : Bool × List (List Nat × List Nat) := (true, [([], []), ([], []), ([], []), ([2], [2]), ([3], [3]), ([], []), ([5], [5]), ([6, 6], [6]), ([], []), ([0, 1, 4, 7, 8, 7], [0, 1, 4, 7, 8]), ([9, 9, 0, 1, 2, 3, 4, 5, 6, 7, 8, 9], [9])])
def shares_Check.B3 : List Nat := [0, 0, 0, 4, 12, 0, 32, 96, 0, 511, 1023]
theorem shares_Check.tab3 : rtab .any (opsOf Tryz.f24 3) = shares_Check.T3 := by kernel_rfl
theorem shares_Check.bits3 : waitsOk shares_Check.T3.2 shares_Check.B3 = true := by kernel_rfl
set_option maxHeartbeats 8000000 in
set_option maxRecDepth 100000 in
theorem shares_Check.calls (k : Nat) (a0 : ByteArray) (a1 : Int) (a2_0 : Int) (a2_1 : Int) (A3 : Option Addr) (c3 : Nat) (l3 : List ByteArray) (r : Bool) (w : World) (hr3 : Kd.C Kd.string w A3 l3.length l3) (hc3 : l3.length ≤ c3) (hgl : GL w) (h : shares_Check.f k a0 a1 a2_0 a2_1 l3 = some r) :
    Calls Tryz.prog 24 #[.string a0, .int .i64 a1, .agg #[.int .i64 a2_0, .int .i64 a2_1], .slice A3 l3.length c3] w fun e w' => e = .returned (.bool r) ∧ Below w.heap.size w w' := by
  have hu25 := Tryz.underlying25
  have HR3 := Aside0.mk hr3
  have HC3 := Aside0.mk hc3
  clear hr3 hc3
  have HGL := Aside0.mk hgl
  clear hgl
  have HB := Aside0.mk (Below.refl w.heap.size w)
  have H : (if a1 < 1 then (shares_Check.j0 k a0 a1 l3 true a2_0 a2_1) else (if a1 > 16 then (shares_Check.j0 k a0 a1 l3 true a2_0 a2_1) else ((shares_valid.f a2_0 a2_1).bind fun t279 => (if t279 = true then (shares_Check.j0 k a0 a1 l3 (decide (a2_0 > a1)) a2_0 a2_1) else (shares_Check.j0 k a0 a1 l3 true a2_0 a2_1))))) = some r := h
  clear h
  have HC5 := Aside0.mk H
  clear H
  go_enter Tryz.func24, Tryz.ntmps24
  go_upto_region 1 with (first | ((with_reducible refine gate_dst (N := 6) rfl ?_); refine box_event ?hg (N := 6) ?hd (cs := #[.int .i64 a2_0, .int .i64 a2_1]) (t := 25) ?hr ?_; (case hd => rfl); (case hg => rfl); (case hr => first | (go_simp; done) | (go_simp; rfl)); intro gb278 hg w6 hbox hb; have n0_ := Aside0.mk (below_step (by repeat (first | (with_reducible first | exact HB.out | apply below_alloc | apply pw_below_drewN | apply below_drew1) | exact HB.out)) hb); have n1_ := Aside0.mk (hbox); have n2_ := Aside0.mk ((by rw [hg]; exact (below_size (by repeat (first | (with_reducible first | exact HB.out | apply below_alloc | apply pw_below_drewN | apply below_drew1) | exact HB.out))) : w.heap.size ≤ gb278)); have n3_ := Aside0.mk ((by rw [hg]; exact (below_size (by repeat (first | (with_reducible first | exact HB.out | apply below_alloc | apply pw_below_drewN | apply below_drew1) | exact HB.out))) : w.heap.size ≤ gb278)); clear HB; have HB := n0_; have BK278 := n1_; have GW278 := n2_; have GE278 := n3_; clear n0_ n1_ n2_ n3_; clear hb hbox hg))
  (try simp only [Act.put, List.setIfInBounds_toArray, List.set_cons_zero, List.set_cons_succ])
  go_cut [25] (fun v25 wc => ∃ (kq : Nat) (x25_4 : Bool), v25 = .bool x25_4 ∧ Aside0 (shares_Check.j0 kq a0 a1 l3 x25_4 a2_0 a2_1 = some r) ∧ Aside0 (kq ≤ k) ∧ Aside0 (wc.heap[gb278]? = some (.cells #[.int .i64 a2_0, .int .i64 a2_1] 25 (0, 0))) ∧ Aside0 (Below w.heap.size w wc))
  case first =>
    have H := HC5.out
    clear HC5
    by_cases c7 : a1 < 1
    · rw [if_pos c7] at H
      have c7b0 : decide (a1 < 1) = true := decide_eq_true c7
      clear c7
      (first | rw [c7b0] | (simp only [i64_w, i32_w]; rw [c7b0]) | skip)
      have H' := Aside0.mk H
      clear H
      go_wp2
      go_meet
      case rel => exact ⟨_, (true), (by first | rfl | (simp; done) | (simp [*]; done)), H', ⟨by first | omega | exact Nat.le_refl _⟩, ⟨by (with_reducible repeat (first | refine blk_drewN ?_ _ | refine blk_drew ?_ | refine blk_alloc ?_ _)); exact BK278.out⟩, ⟨by repeat (first | (with_reducible first | exact HB.out | apply below_alloc | apply pw_below_drewN | apply below_drew1 | refine below_set ?_ GE278.out) | exact HB.out)⟩⟩
    · rw [if_neg c7] at H
      have c7b0 : decide (a1 < 1) = false := decide_eq_false c7
      clear c7
      (first | rw [c7b0] | (simp only [i64_w, i32_w]; rw [c7b0]) | skip)
      by_cases c8 : a1 > 16
      · rw [if_pos c8] at H
        have c8b0 : decide (16 < a1) = true := decide_eq_true c8
        clear c8
        have H' := Aside0.mk H
        clear H
        go_wp2
        go_meet
        case rel => exact ⟨_, (true), (by first | rfl | (simp; done) | (simp [*]; done)), H', ⟨by first | omega | exact Nat.le_refl _⟩, ⟨by (with_reducible repeat (first | refine blk_drewN ?_ _ | refine blk_drew ?_ | refine blk_alloc ?_ _)); exact BK278.out⟩, ⟨by repeat (first | (with_reducible first | exact HB.out | apply below_alloc | apply pw_below_drewN | apply below_drew1 | refine below_set ?_ GE278.out) | exact HB.out)⟩⟩
      · rw [if_neg c8] at H
        have c8b0 : decide (16 < a1) = false := decide_eq_false c8
        clear c8
        replace H := Option.bind_eq_some_iff.mp H
        obtain ⟨t279, A90, H⟩ := H
        replace H : (if t279 = true then (shares_Check.j0 k a0 a1 l3 (decide (a2_0 > a1)) a2_0 a2_1) else (shares_Check.j0 k a0 a1 l3 true a2_0 a2_1)) = some r := H
        have A9 := Aside0.mk A90
        clear A90
        by_cases c10 : t279 = true
        · subst c10
          have H1 : (shares_Check.j0 k a0 a1 l3 (decide (a2_0 > a1)) a2_0 a2_1) = some r := by rw [if_pos rfl] at H; exact H
          clear H
          have H := H1
          clear H1
          have H' := Aside0.mk H
          clear H
          have hcz11_0 : w6.cell? ⟨gb278, 0, none⟩ = some (.int .i64 a2_0) := (blk_cell BK278.out 0).trans rfl
          have hcz11_1 : w6.cell? ⟨gb278, 1, none⟩ = some (.int .i64 a2_1) := (blk_cell BK278.out 1).trans rfl
          have hfz11_0 := blk_frozen BK278.out 0
          have hfz11_1 := blk_frozen BK278.out 1
          go_wp2_with (first | (go_at_call 78; (with_reducible refine (shares_valid.calls a2_0 a2_1 true _ A9.out).mono ?_); rintro e w12 ⟨rfl, hb⟩; have n0_ := Aside0.mk (blk_below (g := gb278) (o := .cells #[.int .i64 a2_0, .int .i64 a2_1] 25 (0, 0)) (by (with_reducible repeat (first | refine blk_drewN ?_ _ | refine blk_drew ?_ | refine blk_alloc ?_ _)); exact BK278.out) hb); have n1_ := Aside0.mk (below_step (by repeat (first | (with_reducible first | exact HB.out | apply below_alloc | apply pw_below_drewN | apply below_drew1 | refine below_set ?_ GE278.out) | exact HB.out)) hb); clear BK278; clear HB; have BK278 := n0_; have HB := n1_; clear n0_ n1_; (try clear hb); (try clear hb2); (try clear hk); (try clear hi); have hcz13_0 : w12.cell? ⟨gb278, 0, none⟩ = some (.int .i64 a2_0) := (blk_cell BK278.out 0).trans rfl; have hcz13_1 : w12.cell? ⟨gb278, 1, none⟩ = some (.int .i64 a2_1) := (blk_cell BK278.out 1).trans rfl; have hfz13_0 := blk_frozen BK278.out 0; have hfz13_1 := blk_frozen BK278.out 1))
          go_meet
          case rel => exact ⟨_, (decide (a2_0 > a1)), (by first | rfl | (simp; done) | (simp [*]; done)), H', ⟨by first | omega | exact Nat.le_refl _⟩, ⟨by (with_reducible repeat (first | refine blk_drewN ?_ _ | refine blk_drew ?_ | refine blk_alloc ?_ _)); exact BK278.out⟩, ⟨by repeat (first | (with_reducible first | exact HB.out | apply below_alloc | apply pw_below_drewN | apply below_drew1 | refine below_set ?_ GE278.out) | exact HB.out)⟩⟩
        · replace c10 := Bool.eq_false_iff.mpr c10
          subst c10
          have H1 : (shares_Check.j0 k a0 a1 l3 true a2_0 a2_1) = some r := by rw [if_neg (show ¬ (false = true) by decide)] at H; exact H
          clear H
          have H := H1
          clear H1
          have H' := Aside0.mk H
          clear H
          have hcz14_0 : w6.cell? ⟨gb278, 0, none⟩ = some (.int .i64 a2_0) := (blk_cell BK278.out 0).trans rfl
          have hcz14_1 : w6.cell? ⟨gb278, 1, none⟩ = some (.int .i64 a2_1) := (blk_cell BK278.out 1).trans rfl
          have hfz14_0 := blk_frozen BK278.out 0
          have hfz14_1 := blk_frozen BK278.out 1
          go_wp2_with (first | (go_at_call 78; (with_reducible refine (shares_valid.calls a2_0 a2_1 false _ A9.out).mono ?_); rintro e w15 ⟨rfl, hb⟩; have n0_ := Aside0.mk (blk_below (g := gb278) (o := .cells #[.int .i64 a2_0, .int .i64 a2_1] 25 (0, 0)) (by (with_reducible repeat (first | refine blk_drewN ?_ _ | refine blk_drew ?_ | refine blk_alloc ?_ _)); exact BK278.out) hb); have n1_ := Aside0.mk (below_step (by repeat (first | (with_reducible first | exact HB.out | apply below_alloc | apply pw_below_drewN | apply below_drew1 | refine below_set ?_ GE278.out) | exact HB.out)) hb); clear BK278; clear HB; have BK278 := n0_; have HB := n1_; clear n0_ n1_; (try clear hb); (try clear hb2); (try clear hk); (try clear hi)))
          go_meet
          case rel => exact ⟨_, (true), (by first | rfl | (simp; done) | (simp [*]; done)), H', ⟨by first | omega | exact Nat.le_refl _⟩, ⟨by (with_reducible repeat (first | refine blk_drewN ?_ _ | refine blk_drew ?_ | refine blk_alloc ?_ _)); exact BK278.out⟩, ⟨by repeat (first | (with_reducible first | exact HB.out | apply below_alloc | apply pw_below_drewN | apply below_drew1 | refine below_set ?_ GE278.out) | exact HB.out)⟩⟩
  case rest =>
    clear HC5
    try clear c1
    try clear c2
    try clear p2
    try clear c3
    try clear c7
    try clear c7b0
    try clear c8
    try clear c8b0
    try clear c10
    try clear hcz11_0
    try clear hcz11_1
    try clear hcz13_0
    try clear hcz13_1
    try clear hcz14_0
    try clear hcz14_1
    try clear hfz11_0
    try clear hfz11_1
    try clear hfz13_0
    try clear hfz13_1
    try clear hfz14_0
    try clear hfz14_1
    obtain ⟨kq, x25_4, rfl, HA, HJ4, BK278, HB⟩ := hcut
    cases kq with
    | zero => exact absurd HA.out (by simp [shares_Check.j0])
    | succ kj4 =>
      have H := HA.out
      clear HA
      simp only [shares_Check.j0] at H
      by_cases c16 : x25_4 = true
      · subst c16
        have H1 : (some false) = some r := by rw [if_pos rfl] at H; exact H
        clear H
        have H := H1
        clear H1
        obtain rfl := Option.some.inj H
        go_wp2
        go_ret
        exact ⟨by first | rfl | (simp [errW_none, errW_some] <;> rfl) | (simp [*, errW_none, errW_some] <;> rfl), by repeat (first | (with_reducible first | exact HB.out | apply below_alloc | apply pw_below_drewN | apply below_drew1 | refine below_set ?_ GE278.out) | exact HB.out)⟩
      · replace c16 := Bool.eq_false_iff.mpr c16
        subst c16
        have H1 : ((shares_text.f a2_0 a2_1).bind fun t280 => ((tree_Leaf.f t280).bind fun t281 => ((tree_Check.f a0 a1 (wrap64 (a2_0 - 1)) t281 l3).bind fun t282 => (some t282)))) = some r := by rw [if_neg (show ¬ (false = true) by decide)] at H; exact H
        clear H
        have H := H1
        clear H1
        replace H := Option.bind_eq_some_iff.mp H
        obtain ⟨t280, A170, H⟩ := H
        replace H : ((tree_Leaf.f t280).bind fun t281 => ((tree_Check.f a0 a1 (wrap64 (a2_0 - 1)) t281 l3).bind fun t282 => (some t282))) = some r := H
        have A17 := Aside0.mk A170
        clear A170
        replace H := Option.bind_eq_some_iff.mp H
        obtain ⟨t281, A180, H⟩ := H
        replace H : ((tree_Check.f a0 a1 (wrap64 (a2_0 - 1)) t281 l3).bind fun t282 => (some t282)) = some r := H
        have A18 := Aside0.mk A180
        clear A180
        replace H := Option.bind_eq_some_iff.mp H
        obtain ⟨t282, A190, H⟩ := H
        replace H : (some t282) = some r := H
        have A19 := Aside0.mk A190
        clear A190
        obtain rfl := Option.some.inj H
        try go_wp2
        have n0_ := Aside0.mk (blk_drew BK278.out)
        have n1_ := Aside0.mk (below_drew1 HB.out)
        clear BK278
        clear HB
        have BK278 := n0_
        have HB := n1_
        clear n0_ n1_
        refine start_ (n := 11) (S := fun w' => w'.cell? ⟨gb278, 0, none⟩ = some (.int .i64 a2_0) ∧ w'.cell? ⟨gb278, 1, none⟩ = some (.int .i64 a2_1)) (ds := []) #[false, false, false, false, false, false, false, false, false, false, false] (by kernel_rfl) rfl rfl ⟨(blk_cell BK278.out 0).trans rfl, (blk_cell BK278.out 1).trans rfl⟩ (fun hHeld => ?_); refine with_tabW shares_Check.tab3 shares_Check.bits3 (fun HT_ HW_ => ?_)
        generalize wc.drew = w20 at BK278 HB hHeld ⊢
        refine pure_ (i := 0) (N := some 26) (v := ?_) (a' := ?_) #[true, false, false, false, false, false, false, false, false, false, false] rfl rfl (any_of HT_.out (by kernel_rfl)) (fun _ _ _ h => h) (Or.inl ⟨by rfl, ?_⟩) ?_ ?_
        rotate_left
        · intro w'
          go_simp
          with_reducible rfl
        rotate_left
        · simp only [Act.put, List.setIfInBounds_toArray, List.set_cons_zero, List.set_cons_succ, i64_w, i32_w]
          rfl
        refine pure_ (i := 1) (N := some 27) (v := ?_) (a' := ?_) #[true, true, false, false, false, false, false, false, false, false, false] rfl rfl (any_of HT_.out (by kernel_rfl)) (fun _ _ _ h => h) (Or.inl ⟨by rfl, ?_⟩) ?_ ?_
        rotate_left
        · intro w'
          go_simp
          with_reducible rfl
        rotate_left
        · simp only [Act.put, List.setIfInBounds_toArray, List.set_cons_zero, List.set_cons_succ, i64_w, i32_w]
          rfl
        refine pure_ (i := 2) (N := some 28) (v := ?_) (a' := ?_) #[true, true, true, false, false, false, false, false, false, false, false] rfl rfl (any_of HT_.out (by kernel_rfl)) (fun _ _ _ h => h) (Or.inl ⟨by rfl, ?_⟩) ?_ ?_
        rotate_left
        · intro w'
          go_simp
          with_reducible rfl
        rotate_left
        · simp only [Act.put, List.setIfInBounds_toArray, List.set_cons_zero, List.set_cons_succ, i64_w, i32_w]
          rfl
        refine pure_ (i := 8) (N := some 34) (v := ?_) (a' := ?_) #[true, true, true, false, false, false, false, false, true, false, false] rfl rfl (any_of HT_.out (by kernel_rfl)) (fun _ _ _ h => h) (Or.inl ⟨by rfl, ?_⟩) ?_ ?_
        rotate_left
        · intro w'
          go_simp
          with_reducible rfl
        rotate_left
        · simp only [Act.put, List.setIfInBounds_toArray, List.set_cons_zero, List.set_cons_succ, i64_w, i32_w]
          rfl
        refine take_ (i := 3) (N := some 29) (v := ?_) (a' := ?_) #[true, true, true, true, false, false, false, false, true, false, false] rfl rfl (take_ofW HT_.out HW_.out (by kernel_rfl)) (fun _ _ _ h => h) (Or.inl ⟨by rfl, ?_⟩) hHeld ?_ ?_
        rotate_left
        · rintro w' ⟨s0, s1⟩
          go_simp
          with_reducible rfl
        rotate_left
        · simp only [Act.put, List.setIfInBounds_toArray, List.set_cons_zero, List.set_cons_succ, i64_w, i32_w]
          rfl
        refine pure_ (i := 4) (N := some 30) (v := ?_) (a' := ?_) #[true, true, true, true, true, false, false, false, true, false, false] rfl rfl (any_of HT_.out (by kernel_rfl)) (fun _ _ _ h => h) (Or.inl ⟨by rfl, ?_⟩) ?_ ?_
        rotate_left
        · intro w'
          go_simp
          with_reducible rfl
        rotate_left
        · simp only [Act.put, List.setIfInBounds_toArray, List.set_cons_zero, List.set_cons_succ, i64_w, i32_w]
          rfl
        refine take_ (i := 5) (N := some 31) (v := ?_) (a' := ?_) #[true, true, true, true, true, true, false, false, true, false, false] rfl rfl (take_ofW HT_.out HW_.out (by kernel_rfl)) (fun _ _ _ h => h) (Or.inl ⟨by rfl, ?_⟩) hHeld ?_ ?_
        rotate_left
        · rintro w' ⟨s0, s1⟩
          go_simp
          with_reducible rfl
        rotate_left
        · simp only [Act.put, List.setIfInBounds_toArray, List.set_cons_zero, List.set_cons_succ, i64_w, i32_w]
          rfl
        refine one_ (i := 6) (N := some 32) #[true, true, true, true, true, true, true, false, true, false, false] rfl rfl (one_of HT_.out (by kernel_rfl)) (by decide) (fun K hK => ?_)
        refine goes_ Tryz.func83 (by kernel_rfl) rfl #[.agg #[.int .i64 a2_0, .int .i64 a2_1]] (by rfl) rfl rfl (by (try simp only [List.map_toArray, List.map_cons, List.map_nil]); first | done | rfl | (simp only [List.length_drop, List.length_take]; rfl)) ?_
        with_reducible refine (shares_text.calls a2_0 a2_1 t280 _ ?side1 A17.out).mono ?_
        (case side1 => first | (with_reducible exact HGL.out) | exact GL.below HGL.out (by repeat (first | (with_reducible first | exact HB.out | apply below_alloc | apply pw_below_drewN | apply below_drew1 | refine below_set ?_ GE278.out) | exact HB.out)) | exact GL.below HGL.out (by repeat (first | exact Below.refl _ _ | exact HB.out | apply below_alloc | apply pw_below_drewN | apply below_drew1)))
        rintro e w21 ⟨rfl, hb⟩
        refine ⟨_, rfl, ?_⟩
        have n0_ := Aside0.mk (blk_below (g := gb278) (o := .cells #[.int .i64 a2_0, .int .i64 a2_1] 25 (0, 0)) (by (with_reducible repeat (first | refine blk_drewN ?_ _ | refine blk_drew ?_ | refine blk_alloc ?_ _)); exact BK278.out) hb)
        have n1_ := Aside0.mk (below_step (by repeat (first | (with_reducible first | exact HB.out | apply below_alloc | apply pw_below_drewN | apply below_drew1 | refine below_set ?_ GE278.out) | exact HB.out)) hb)
        clear BK278
        clear HB
        have BK278 := n0_
        have HB := n1_
        clear n0_ n1_
        (try clear hb)
        (try clear hb2)
        (try clear hk)
        (try clear hi)
        refine hK.out _ _ ⟨(blk_cell BK278.out 0).trans rfl, (blk_cell BK278.out 1).trans rfl⟩ (fun hHeld => ?_)
        clear hK K
        refine norm_ (a' := ?_) ?_ ?_
        rotate_left
        · show Act.put _ (some 32) _ = _
          simp only [Act.put, List.setIfInBounds_toArray, List.set_cons_zero, List.set_cons_succ, i64_w, i32_w]
          rfl
        refine one_ (i := 7) (N := some 33) #[true, true, true, true, true, true, true, true, true, false, false] rfl rfl (one_of HT_.out (by kernel_rfl)) (by decide) (fun K hK => ?_)
        refine goes_ Tryz.func82 (by kernel_rfl) rfl #[.string t280] (by rfl) rfl rfl (by (try simp only [List.map_toArray, List.map_cons, List.map_nil]); first | done | rfl | (simp only [List.length_drop, List.length_take]; rfl)) ?_
        with_reducible refine (tree_Leaf.calls t280 t281 _ ?side1 A18.out).mono ?_
        (case side1 => first | (with_reducible exact HGL.out) | exact GL.below HGL.out (by repeat (first | (with_reducible first | exact HB.out | apply below_alloc | apply pw_below_drewN | apply below_drew1 | refine below_set ?_ GE278.out) | exact HB.out)) | exact GL.below HGL.out (by repeat (first | exact Below.refl _ _ | exact HB.out | apply below_alloc | apply pw_below_drewN | apply below_drew1)))
        rintro e w22 ⟨rfl, hb⟩
        refine ⟨_, rfl, ?_⟩
        have n0_ := Aside0.mk (blk_below (g := gb278) (o := .cells #[.int .i64 a2_0, .int .i64 a2_1] 25 (0, 0)) (by (with_reducible repeat (first | refine blk_drewN ?_ _ | refine blk_drew ?_ | refine blk_alloc ?_ _)); exact BK278.out) hb)
        have n1_ := Aside0.mk (below_step (by repeat (first | (with_reducible first | exact HB.out | apply below_alloc | apply pw_below_drewN | apply below_drew1 | refine below_set ?_ GE278.out) | exact HB.out)) hb)
        clear BK278
        clear HB
        have BK278 := n0_
        have HB := n1_
        clear n0_ n1_
        (try clear hb)
        (try clear hb2)
        (try clear hk)
        (try clear hi)
        refine hK.out _ _ ⟨(blk_cell BK278.out 0).trans rfl, (blk_cell BK278.out 1).trans rfl⟩ (fun hHeld => ?_)
        clear hK K
        refine norm_ (a' := ?_) ?_ ?_
        rotate_left
        · show Act.put _ (some 33) _ = _
          simp only [Act.put, List.setIfInBounds_toArray, List.set_cons_zero, List.set_cons_succ, i64_w, i32_w]
          rfl
        refine one_ (i := 9) (N := some 35) #[true, true, true, true, true, true, true, true, true, true, false] rfl rfl (one_of HT_.out (by kernel_rfl)) (by decide) (fun K hK => ?_)
        refine goes_ Tryz.func86 (by kernel_rfl) rfl #[.string a0, .int .i64 a1, .int .i64 (wrap64 (a2_0 - 1)), .string t281, .slice A3 l3.length c3] (by rfl) rfl rfl (by (try simp only [List.map_toArray, List.map_cons, List.map_nil]); first | done | rfl | (simp only [List.length_drop, List.length_take]; rfl)) ?_
        with_reducible refine (tree_Check.calls a0 a1 (wrap64 (a2_0 - 1)) t281 _ _ l3 t282 _ ?side1 ?side2 ?side3 A19.out).mono ?_
        (case side1 => repeat (first | exact (Kd.C_below HR3.out HB.out) | (with_reducible refine Kd.C_alloc ?_ _) | (with_reducible refine Kd.C_drewN ?_ _) | (with_reducible refine Kd.C_drew ?_)))
        (case side2 => exact HC3.out)
        (case side3 => first | (with_reducible exact HGL.out) | exact GL.below HGL.out (by repeat (first | (with_reducible first | exact HB.out | apply below_alloc | apply pw_below_drewN | apply below_drew1 | refine below_set ?_ GE278.out) | exact HB.out)) | exact GL.below HGL.out (by repeat (first | exact Below.refl _ _ | exact HB.out | apply below_alloc | apply pw_below_drewN | apply below_drew1)))
        rintro e w23 ⟨rfl, hb⟩
        refine ⟨_, rfl, ?_⟩
        have n0_ := Aside0.mk (blk_below (g := gb278) (o := .cells #[.int .i64 a2_0, .int .i64 a2_1] 25 (0, 0)) (by (with_reducible repeat (first | refine blk_drewN ?_ _ | refine blk_drew ?_ | refine blk_alloc ?_ _)); exact BK278.out) hb)
        have n1_ := Aside0.mk (below_step (by repeat (first | (with_reducible first | exact HB.out | apply below_alloc | apply pw_below_drewN | apply below_drew1 | refine below_set ?_ GE278.out) | exact HB.out)) hb)
        clear BK278
        clear HB
        have BK278 := n0_
        have HB := n1_
        clear n0_ n1_
        (try clear hb)
        (try clear hb2)
        (try clear hk)
        (try clear hi)
        refine hK.out _ _ ⟨(blk_cell BK278.out 0).trans rfl, (blk_cell BK278.out 1).trans rfl⟩ (fun hHeld => ?_)
        clear hK K
        refine norm_ (a' := ?_) ?_ ?_
        rotate_left
        · show Act.put _ (some 35) _ = _
          simp only [Act.put, List.setIfInBounds_toArray, List.set_cons_zero, List.set_cons_succ, i64_w, i32_w]
          rfl
        refine pure_ (i := 10) (N := some 8) (v := ?_) (a' := ?_) #[true, true, true, true, true, true, true, true, true, true, true] rfl rfl (any_of HT_.out (by kernel_rfl)) (fun _ _ _ h => h) (Or.inl ⟨by rfl, ?_⟩) ?_ ?_
        rotate_left
        · intro w'
          go_simp
          with_reducible rfl
        rotate_left
        · simp only [Act.put, List.setIfInBounds_toArray, List.set_cons_zero, List.set_cons_succ, i64_w, i32_w]
          rfl
        refine done_ (done_of HT_.out (by kernel_rfl)) ?_
        try go_wp2
        go_ret
        exact ⟨by first | rfl | (simp [errW_none, errW_some] <;> rfl) | (simp [*, errW_none, errW_some] <;> rfl), by repeat (first | (with_reducible first | exact HB.out | apply below_alloc | apply pw_below_drewN | apply below_drew1 | refine below_set ?_ GE278.out) | exact HB.out)⟩
end Go.Proofs.YtddikdpbhjgihaaGreatDoor.X
end
section
namespace Go.Proofs.YtddikdpbhjgihaaGreatDoor.X
open Go.RowKit Go.Proofs.YtddikdpbhjgihaaGreatDoorW.PrintWords Go.Proofs.YtddikdpbhjgihaaGreatDoorW.PrintLast
open ObsMath
theorem inP_evI (l : List Int) (x : Int) : inP (evI l x) = true := inP_iff.2 (evI_range x l)
theorem rd_at {l : List Int} {i : Nat} (hi : i < l.length) : rd l (i : Int) = l[i] := by simp [rd, List.getElem?_eq_getElem hi]
theorem w_succ {i : Nat} (h : i < 9223372036854775807) : wrap64 ((i : Int) + 1) = ((i + 1 : Nat) : Int) := by rw [w64 (by omega) (by omega)]; omega
theorem eval_l0 (l : List Int) (x : Int) (hx : inP x = true) (ha : l.all inP = true) (h16 : l.length ≤ 16) : ∀ (d k i : Nat), l.length - i = d → i ≤ l.length → d < k →
    field_Eval.l0 k l x (evI (l.drop (l.length - i)) x) (l.length : Int) (i : Int) = some (evI l x, 0) := by
  intro d
  induction d with
  | zero =>
    intro k i h1 h2 h3
    obtain ⟨k, rfl⟩ : ∃ m, k = m + 1 := ⟨k - 1, by omega⟩
    simp only [field_Eval.l0]
    rw [if_neg (by omega), show l.length - i = 0 by omega, List.drop_zero]
  | succ d ih =>
    intro k i h1 h2 h3
    obtain ⟨k, rfl⟩ : ∃ m, k = m + 1 := ⟨k - 1, by omega⟩
    have hi : l.length - 1 - i < l.length := by omega
    have hj : wrap64 (wrap64 ((l.length : Int) - 1) - (i : Int)) = ((l.length - 1 - i : Nat) : Int) := by
      rw [w64 (n := (l.length : Int) - 1) (by omega) (by omega), w64 (by omega) (by omega)]; omega
    have hx' := inP_iff.1 hx
    have hr := evI_range x (l.drop (l.length - i))
    have hm := mul_range hr.1 hr.2 hx'.1 hx'.2
    have hc : inP l[l.length - 1 - i] = true := List.all_eq_true.1 ha _ (List.getElem_mem hi)
    have hc' := inP_iff.1 hc
    simp only [field_Eval.l0]
    rw [if_pos (by omega), hj, if_pos (by omega), if_pos (by omega), rd_at hi, w_succ (by omega), w64 (n := evI (l.drop (l.length - i)) x * x) (by omega) (by omega), w64 (by omega) (by omega), tm _ (by omega)]
    have e : evI (l.drop (l.length - (i + 1))) x = (evI (l.drop (l.length - i)) x * x + l[l.length - 1 - i]) % 2147483647 := by
      rw [show l.length - (i + 1) = l.length - 1 - i by omega, List.drop_eq_getElem_cons hi, evI, show l.length - 1 - i + 1 = l.length - i by omega]
    rw [← e]
    exact ih k (i + 1) (by omega) (by omega) (by omega)
theorem Eval_ok {k : Nat} {l : List Int} {x : Int} (hk : 18 ≤ k) (h16 : l.length ≤ 16) (ha : l.all inP = true) (hx : inP x = true) : field_Eval.f k l x = some (evI l x, 0) := by
  obtain ⟨k, rfl⟩ : ∃ m, k = m + 1 := ⟨k - 1, by omega⟩
  unfold field_Eval.f
  rw [if_neg (by omega), elements_eq _ (by omega) _ (by omega), Option.bind_some, if_pos ha, element_eq, Option.bind_some, hx]
  simp only [field_Eval.j0]
  rw [if_neg (by simp)]
  have := eval_l0 l x hx ha h16 l.length k 0 (by omega) (by omega) (by omega)
  rw [Nat.sub_zero, List.drop_length] at this
  exact this
end Go.Proofs.YtddikdpbhjgihaaGreatDoor.X
end
section
namespace Go.Proofs.YtddikdpbhjgihaaGreatDoor.X
open Go.RowKit Go.Proofs.YtddikdpbhjgihaaGreatDoorW.PrintWords Go.Proofs.YtddikdpbhjgihaaGreatDoorW.PrintLast Go.Proofs.YtddikdpbhjgihaaGreatDoorW.PrintMore
open ObsMath (evI)
set_option linter.unusedVariables false
set_option maxRecDepth 100000
set_option linter.unusedSimpArgs false
def shareList (p : List Int) (n : Nat) : List S25 := (List.range n).map (fun (i : Nat) => (⟨(i : Int) + 1, evI p ((i : Int) + 1)⟩ : S25))
def splitArg (need total : Int) (random : List Int) : Prop := total < 1 ∨ total > 16 ∨ need < 1 ∨ need > total ∨ (random.length : Int) ≠ need - 1
instance (need total : Int) (random : List Int) : Decidable (splitArg need total random) := by unfold splitArg; infer_instance
def splitF (secret need total : Int) (random : List Int) : List S25 × Int :=
  if splitArg need total random then ([], 1)
  else if (secret :: random).all inP = false then ([], 1)
  else (shareList (secret :: random) total.toNat, 0)
def SPost (r : List S25 × Int) (w : World) (e : Ending) (w' : World) : Prop :=
  ∃ v0 : Value, e = .returned (.tuple #[v0, .int .i64 r.2]) ∧ Kd.R k25 25 w' w.heap.size (fun _ => True) v0 r.1 ∧ Below w.heap.size w w'
theorem SPost.arg {w w' : World} (h : Below w.heap.size w w') : SPost ([], 1) w (.returned (.tuple #[.slice none 0 0, .int .i64 1])) w' :=
  ⟨_, rfl, Kd.R_nil _ _ _ _ _, h⟩
theorem selem_eq (a : Int) : shares_element.f a = some (inP a) := by
  unfold shares_element.f inP
  by_cases h : 0 ≤ a <;> simp [h]
theorem at_eq {k : Nat} {l : List Int} {x : Int} (hk : 18 ≤ k) (h16 : l.length ≤ 16) (ha : l.all inP = true) (hx : inP x = true) : shares_poly_at.f k l x = some (evI l x, 0) := by
  unfold shares_poly_at.f
  rw [Eval_ok hk h16 ha hx, Option.bind_some]
structure Inv3 (w wr : World) (A : Option Addr) (p : List Int) (k : Nat) : Prop where
  C : Kd.C (Kd.int .i64) wr A p.length p
  bl : Below w.heap.size w wr
  ok : (p.take k).all inP = true
def made (p : List Int) (n i : Nat) : List S25 := shareList p i ++ List.replicate (n - i) z25
theorem made_zero (p : List Int) (n : Nat) : made p n 0 = List.replicate n z25 := by simp [made, shareList]
theorem made_all (p : List Int) (n : Nat) : made p n n = shareList p n := by simp [made]
theorem made_set (p : List Int) {n i : Nat} (h : i < n) : (made p n i).set i ⟨(i : Int) + 1, evI p ((i : Int) + 1)⟩ = made p n (i + 1) := by
  have hl : (shareList p i).length = i := by simp [shareList]
  unfold made
  rw [List.set_append_right _ _ (by omega), hl, Nat.sub_self, show n - i = (n - (i + 1)) + 1 by omega, List.replicate_succ, List.set_cons_zero]
  have : shareList p (i + 1) = shareList p i ++ [(⟨(i : Int) + 1, evI p ((i : Int) + 1)⟩ : S25)] := by simp [shareList, List.range_succ]
  rw [this, List.append_assoc]
  rfl
structure Inv4 (g : Nat) (wr w' : World) (p : List Int) (n i : Nat) : Prop where
  bl : Below g wr w'
  R : Kd.R k25 25 w' g (fun _ => True) (.slice (some ⟨g, 0, none⟩) n n) (made p n i)
theorem ints_read {w : World} {base n : Nat} {v : Value} {xs : List Int} (h : w.ownsRow base 3 1 v n (xs.map (Value.int .i64))) : ∃ A c, v = .slice A n c ∧ n ≤ c ∧ Kd.C (Kd.int .i64) w A n xs := by
  have hl : xs.length = n := by have := h.1; simpa using this
  subst hl
  have hr : Kd.R (Kd.int .i64) 3 w base (fun _ => True) v xs := by
    refine ⟨fun _ _ => trivial, _, h, ⟨by simp [Kd.int, Kd.scalar], fun j p hj => ?_⟩⟩
    show List.take 1 (List.drop (j * 1) (xs.map (Value.int .i64))) = [.int .i64 p]
    have hlt := (List.getElem?_eq_some_iff.1 hj).1
    rw [Nat.mul_one, List.drop_eq_getElem_cons (by simpa using hlt), List.take_succ_cons, List.take_zero, List.getElem_map]
    rw [List.getElem?_eq_getElem hlt] at hj
    injection hj with hj; rw [hj]
  obtain ⟨A, c, e, h1, h2⟩ := Kd.R_reads hr
  exact ⟨A, c, e, h1, h2⟩
theorem make_shares (w : World) (n : Nat) (h : n ≤ 16) : ∃ w', (Instr.makeSlice 23 (.int .i64 (n : Int)) (.int .i64 (n : Int))).run Tryz.prog w = .ok (.slice (some ⟨w.heap.size, 0, none⟩) n n) w' ∧ Kd.R k25 25 w' w.heap.size (fun _ => True) (.slice (some ⟨w.heap.size, 0, none⟩) n n) (List.replicate n z25) ∧ Below w.heap.size w w' := by
  obtain ⟨i0, hi, hz0, hz1, hz2⟩ := info_parts info25
  obtain ⟨w', hr, ho, hg⟩ := run_make_full (P := Tryz.prog) w w.heap.size 23 25 i0 _ 2 Tryz.underlying23 hi hz0 hz1 .i64 .i64 n (by rw [hz2]; omega) (by unfold maxLen; omega) (Nat.le_refl _)
  refine ⟨w', hr, ⟨fun _ _ => trivial, _, by rw [List.length_replicate]; exact ho, Kd.reps_made (z := .agg #[(.int .i64 0), (.int .i64 0)]) rfl (by decide) ?_ n⟩, pw_below_grown (Below.refl _ _) none (Nat.le_refl _) hg (fun k hk => by cases hk)⟩
  exact k25_mkM _ _ _ z25
theorem append_ints {w : World} (s : Int) (A : Option Addr) (c : Nat) (l p : List Int) (ty : TypeId) (hp : p = s :: l) (hC : Kd.C (Kd.int .i64) w A l.length l) (hc : l.length ≤ c) (h15 : l.length ≤ 100) :
    ∃ A' c' w', (Builtin.append_ #[117, 22] ty #[.slice (some ⟨w.heap.size, 0, none⟩) 1 1, .slice A l.length c]).run Tryz.prog (w.alloc (.cells #[.int .i64 s] 3)) = .ok (.slice A' p.length c') w' ∧
      p.length ≤ c' ∧ Kd.C (Kd.int .i64) w' A' p.length p ∧ Below w.heap.size w w' := by
  subst hp
  rw [ObsMap.append_types (e := 3) (e' := 3) Tryz.underlying117 Tryz.underlying22]
  obtain ⟨i0, hi, hz0, hz1, hz2⟩ := info_parts info3
  have hsz : (w.alloc (.cells #[.int .i64 s] 3)).heap.size = w.heap.size + 1 := by show (w.heap.push _).size = _; simp
  have hown : (w.alloc (.cells #[.int .i64 s] 3)).ownsRow w.heap.size 3 1 (.slice (some ⟨w.heap.size, 0, none⟩) 1 1) 1 [.int .i64 s] :=
    ⟨rfl, .inr ⟨w.heap.size, 1, #[.int .i64 s], rfl, Nat.le_refl _, heap_last w _, Nat.le_refl _, by unfold maxLen; omega, rfl, rfl⟩⟩
  have fin : ∀ v' w', w'.ownsRow w.heap.size 3 1 v' (1 + l.length) ([.int .i64 s] ++ l.map (Value.int .i64)) → (w.alloc (.cells #[.int .i64 s] 3)).grownBy w' (some w.heap.size) →
      ∃ A' c', v' = .slice A' (s :: l).length c' ∧ (s :: l).length ≤ c' ∧ Kd.C (Kd.int .i64) w' A' (s :: l).length (s :: l) ∧ Below w.heap.size w w' := by
    intro v' w' ho hg
    have ho' : w'.ownsRow w.heap.size 3 1 v' (s :: l).length ((s :: l).map (Value.int .i64)) := by
      rw [show (s :: l).length = 1 + l.length by simp; omega]; exact ho
    obtain ⟨A', c', e, h1, h2⟩ := ints_read ho'
    exact ⟨A', c', e, h1, h2, (((Below.refl _ _).alloc (Nat.le_refl _) _).grown hg (by rw [hsz]; omega) (fun k hk => by injection hk with hk; omega))⟩
  cases A with
  | some ad =>
    have hcells : ∀ j u, (l.map (Value.int .i64))[j]? = some u → (w.alloc (.cells #[.int .i64 s] 3)).cell? (ad.add j) = some u := by
      intro j u hu
      rw [List.getElem?_map] at hu
      obtain ⟨x, hx, rfl⟩ := Option.map_eq_some_iff.1 hu
      have hlt := (List.getElem?_eq_some_iff.1 hx).1
      have hC' := Kd.C_alloc hC (.cells #[.int .i64 s] 3)
      obtain ⟨ad', e, hc'⟩ := Kd.at_int hC' (j : Int) (by omega) (by omega)
      obtain rfl := Option.some.inj e
      rw [Int.toNat_natCast] at hc'
      rw [hc', rd_at hlt]
      rw [List.getElem?_eq_getElem hlt] at hx
      rw [Option.some.inj hx]
    obtain ⟨v', w', hr, ho, hg, _⟩ := run_append_own (P := Tryz.prog) (w := w.alloc (.cells #[.int .i64 s] 3)) w.heap.size 117 ty 3 i0 (.int .i64 0) 1 8 Tryz.underlying117 hi hz0 hz1 hz2 rfl (by decide)
      (.slice (some ⟨w.heap.size, 0, none⟩) 1 1) 1 [.int .i64 s] hown ad l.length c (l.map (Value.int .i64)) (by simp) hcells (fun u hu => by obtain ⟨x, _, rfl⟩ := List.mem_map.1 hu; rfl) (by unfold maxLen; omega) (by omega) (by rw [hsz]; omega)
    obtain ⟨A', c', rfl, h1, h2, h3⟩ := fin v' w' ho hg
    exact ⟨A', c', w', hr, h1, h2, h3⟩
  | none =>
    have hl : l = [] := by
      cases l with
      | nil => rfl
      | cons x l =>
        obtain ⟨ad, e, _⟩ := hC.2.2 (by simp)
        cases e
    subst hl
    have hr : (Builtin.append_ #[117, 117] ty #[.slice (some ⟨w.heap.size, 0, none⟩) 1 1, .slice none 0 c]).run Tryz.prog (w.alloc (.cells #[.int .i64 s] 3)) = .ok (.slice (some ⟨w.heap.size, 0, none⟩) 1 1) (w.alloc (.cells #[.int .i64 s] 3)) := by
      unfold Builtin.append_
      go_simp
    obtain ⟨A', c', e, h1, h2, h3⟩ := fin _ (w.alloc (.cells #[.int .i64 s] 3)) hown ⟨rfl, rfl, rfl, Nat.le_refl _, fun _ _ _ => rfl⟩
    exact ⟨A', c', _, hr.trans (by rw [e]), h1, h2, h3⟩
set_option maxHeartbeats 1000000 in
theorem split_walk (secret : Int) (need : Int) (n : Nat) (A : Option Addr) (c : Nat) (l : List Int) (w : World) (hC0 : Kd.C (Kd.int .i64) w A l.length l) (hc : l.length ≤ c)
    (t1 : 1 ≤ n) (t2 : n ≤ 16) (n1 : 1 ≤ need) (n2 : need ≤ n) (hl : (l.length : Int) = need - 1) :
    Calls Tryz.prog 17 #[.int .i64 secret, .int .i64 need, .int .i64 (n : Int), .slice A l.length c] w (SPost (splitF secret need n l) w) := by
  obtain ⟨p, hp⟩ : ∃ p, p = secret :: l := ⟨_, rfl⟩
  have HA := append_ints secret A c l p 117 hp hC0 hc (by omega)
  obtain ⟨A1, c1, w1, hrun, hc1, hC1, hb1⟩ := HA
  have HC1 := Aside0.mk hC1
  have HB1 := Aside0.mk hb1
  have hp16 : p.length ≤ 16 := by rw [hp, List.length_cons]; omega
  have HP := Aside0.mk hp
  have g1 : ¬ ((n : Int) < 1) := by omega
  have g2 : ¬ ((n : Int) > 16) := by omega
  have g3 : ¬ (need < 1) := by omega
  have g4 : ¬ (need > (n : Int)) := by omega
  have HSA := Aside0.mk (show ¬ splitArg need (n : Int) l from by rintro (h | h | h | h | h) <;> first | omega | exact h hl)
  clear hC1 hb1 hC0 hp
  go_enter Tryz.func17, Tryz.ntmps17
  go_wp2_with (at_builtin; refine ObsMap.wpList_append_of rfl _ _ 117 22 rfl _ _ rfl rfl _ _ hrun ?_)
  clear hrun
  go_loopg [46] p.length (fun g v46 wr => ∃ k : Nat, k + g = p.length ∧ v46 = .int .i64 k ∧ Inv3 w wr A1 p k)
  case atStart => exact ⟨0, by omega, rfl, HC1.out, HB1.out, rfl⟩
  case round =>
    obtain ⟨k, hk, rfl, hI⟩ := hrel
    have HI := Aside0.mk hI
    clear hI
    by_cases hlt : k < p.length
    · have hlt' : (k : Int) < (p.length : Int) := by omega
      obtain ⟨ad, e0, a0⟩ := Kd.at_int HI.out.C (k : Int) (by omega) hlt'
      subst e0
      rw [Int.toNat_natCast, rd_at hlt] at a0
      cases hv : inP p[k] with
      | true =>
        have E1 := Aside0.mk (selem_eq p[k])
        rw [hv] at E1
        have HV := Aside0.mk hv
        clear hv
        go_wp2_with fail
        refine (shares_element.calls _ true _ E1.out).mono ?_
        rintro e w' ⟨rfl, ⟨nd, rfl⟩⟩
        go_wp2_with fail
        go_roundg (gk - 1)
        case rel =>
          refine ⟨k + 1, by omega, by go_num, Kd.C_drewN HI.out.C nd, pw_below_drewN HI.out.bl nd, ?_⟩
          rw [List.take_succ_eq_append_getElem hlt, List.all_append, HI.out.ok]
          simp [HV.out]
        case measure => omega
      | false =>
        have E1 := Aside0.mk (selem_eq p[k])
        rw [hv] at E1
        have HR := Aside0.mk (show splitF secret need n l = ([], 1) from by
          unfold splitF
          rw [if_neg HSA.out, if_pos]
          rw [← HP.out, List.all_eq_false]
          exact ⟨p[k], List.getElem_mem hlt, by rw [hv]; simp⟩)
        clear hv
        go_wp2_with fail
        refine (shares_element.calls _ false _ E1.out).mono ?_
        rintro e w' ⟨rfl, ⟨nd, rfl⟩⟩
        go_wp2_with fail
        go_ret2
        rw [HR.out]
        exact SPost.arg (pw_below_drewN HI.out.bl nd)
    · obtain rfl : k = p.length := by omega
      have hpa : p.all inP = true := by have := HI.out.ok; rwa [List.take_length] at this
      have HPA := Aside0.mk hpa
      clear hpa
      go_wp2_with fail
      obtain ⟨W1, hmk, hR1, hB1⟩ := make_shares wr n t2
      obtain ⟨g, hgg⟩ : ∃ g, wr.heap.size = g := ⟨_, rfl⟩
      rw [hgg] at hmk hR1 hB1
      have HR1 := Aside0.mk hR1
      have HB2 := Aside0.mk hB1
      have HG := Aside0.mk hgg
      clear hR1 hB1 hgg
      go_wp2_with fail
      rw [hmk]
      go_wp2_with fail
      clear hmk
      go_loopg [59] n (fun gk v59 wr' => ∃ i : Nat, i + gk = n ∧ v59 = .int .i64 i ∧ Inv4 g wr wr' p n i)
      case atStart => exact ⟨0, by omega, rfl, HB2.out, by rw [made_zero]; exact HR1.out⟩
      case round =>
        obtain ⟨i, hi, rfl, hI4⟩ := hrel
        have HI4 := Aside0.mk hI4
        clear hI4
        by_cases hlt2 : i < n
        · have hlt2' : (i : Int) < (n : Int) := by omega
          have HCp := Aside0.mk (Kd.C_below HI.out.C (by rw [HG.out]; exact HI4.out.bl))
          have HX := Aside0.mk (show inP ((i : Int) + 1) = true by unfold inP; simp; omega)
          go_wp2_with fail
          refine (shares_poly_at.calls 18 A1 c1 p ((i : Int) + 1) _ _ _ HCp.out hc1 (at_eq (Nat.le_refl _) hp16 HPA.out HX.out)).mono ?_
          rintro e w' ⟨rfl, ⟨nd, rfl⟩⟩
          obtain ⟨y, hy⟩ : ∃ y, y = evI p ((i : Int) + 1) := ⟨_, rfl⟩
          have HY := Aside0.mk hy
          rw [← hy]
          clear hy
          have hRn := Kd.R_drewN HI4.out.R nd
          obtain ⟨ce, hcl, hM, hcc, hfr⟩ := Kd.R_elem hRn z25 (i : Int) (by omega) hlt2'
          have hS := Kd.R_seg hRn (i : Int) (by omega) hlt2' (seg := [.int .i64 ((i : Int) + 1), .int .i64 y]) (j := 0) hcl hcc (show 2 ≤ 2 from by decide) (x' := (⟨(i : Int) + 1, y⟩ : S25)) (by have := k25_openM hM; subst this; exact k25_mkM _ _ _ (⟨(i : Int) + 1, y⟩ : S25)) (fun _ hk => hk)
          have HS := Aside0.mk hS
          obtain rfl := k25_openM hM
          have hx0 : World.cell? (wr.drewN nd) ⟨g, i * 2, none⟩ = _ := hcc 0 _ rfl
          have hx1 : World.cell? (wr.drewN nd) ⟨g, i * 2 + 1, none⟩ = _ := hcc 1 _ rfl
          have hf0 : World.frozen? (wr.drewN nd) ⟨g, i * 2, none⟩ = false := hfr 0
          have hf1 : World.frozen? (wr.drewN nd) ⟨g, i * 2 + 1, none⟩ = false := hfr 1
          clear hRn hS hcl hM hcc hfr
          go_wp2_with fail
          go_roundg (gk - 1)
          case rel =>
            refine ⟨i + 1, by omega, by go_num, pw_below_grown (pw_below_drewN HI4.out.bl nd) (some g) ?_ HS.out.2 (fun k hk => by injection hk with hk; omega), ?_⟩
            · exact HG.out ▸ HI4.out.bl.size
            · have h3 := HS.out.1
              rw [HY.out, Int.toNat_natCast, made_set p hlt2, ← HY.out] at h3
              exact h3
          case measure => omega
        · obtain rfl : i = n := by omega
          go_wp2_with fail
          go_ret2
          have HF : splitF secret need (i : Int) l = (shareList p i, 0) := by
            unfold splitF
            rw [if_neg HSA.out, if_neg (by rw [← HP.out, HPA.out]; simp), HP.out, Int.toNat_natCast]
          rw [HF]
          have h4 := HI4.out.R
          rw [made_all] at h4
          have hb := HI4.out.bl
          have hG := HG.out
          subst hG
          exact ⟨_, rfl, Kd.R_lower h4 (below_size HI.out.bl), below_step HI.out.bl hb⟩
set_option maxHeartbeats 1000000 in
theorem split_any (secret need total : Int) (A : Option Addr) (c : Nat) (l : List Int) (w : World) (hC0 : Kd.C (Kd.int .i64) w A l.length l) (hc : l.length ≤ c) :
    Calls Tryz.prog 17 #[.int .i64 secret, .int .i64 need, .int .i64 total, .slice A l.length c] w (SPost (splitF secret need total l) w) := by
  by_cases ha : splitArg need total l
  · have HF : splitF secret need total l = ([], 1) := by unfold splitF; rw [if_pos ha]
    rw [HF]
    have hw : ∀ x, wrap64 (x - 1) = wrap64 (x - 1) := fun _ => rfl
    go_enter Tryz.func17, Tryz.ntmps17
    by_cases t1 : total < 1
    · go_wp2_with fail
      go_ret2
      exact SPost.arg (Below.refl _ _)
    by_cases t2 : total > 16
    · go_wp2_with fail
      go_ret2
      exact SPost.arg (Below.refl _ _)
    by_cases n1 : need < 1
    · go_wp2_with fail
      go_ret2
      exact SPost.arg (Below.refl _ _)
    by_cases n2 : need > total
    · go_wp2_with fail
      go_ret2
      exact SPost.arg (Below.refl _ _)
    have hl : (l.length : Int) ≠ need - 1 := by
      rcases ha with h | h | h | h | h
      · exact absurd h t1
      · exact absurd h t2
      · exact absurd h n1
      · exact absurd h n2
      · exact h
    clear ha
    go_wp2_with fail
    go_ret2
    exact SPost.arg (Below.refl _ _)
  · have hl : (l.length : Int) = need - 1 := by
      unfold splitArg at ha
      exact Classical.byContradiction fun h => ha (.inr (.inr (.inr (.inr h))))
    have t1 : ¬ total < 1 := fun h => ha (.inl h)
    have t2 : ¬ total > 16 := fun h => ha (.inr (.inl h))
    have n1 : ¬ need < 1 := fun h => ha (.inr (.inr (.inl h)))
    have n2 : ¬ need > total := fun h => ha (.inr (.inr (.inr (.inl h))))
    obtain ⟨n, rfl⟩ := Int.eq_ofNat_of_zero_le (show 0 ≤ total by omega)
    exact split_walk secret need n A c l w hC0 hc (by omega) (by omega) (by omega) (by omega) hl
def shares_Split.f (a0 a1 a2 : Int) (l3 : List Int) : Option (List S25 × Int) := some (splitF a0 a1 a2 l3)
theorem shares_Split.calls (a0 a1 a2 : Int) (A3 : Option Addr) (c3 : Nat) (l3 : List Int) (r1 : List S25) (r2 : Int) (w : World) (hr3 : Kd.C (Kd.int .i64) w A3 l3.length l3) (hc3 : l3.length ≤ c3) (h : shares_Split.f a0 a1 a2 l3 = some (r1, r2)) :
    Calls Tryz.prog 17 #[.int .i64 a0, .int .i64 a1, .int .i64 a2, .slice A3 l3.length c3] w fun e w' => ∃ v0_ : Value, e = .returned (.tuple #[v0_, .int .i64 r2]) ∧ Kd.R k25 25 w' w.heap.size (fun _ => True) v0_ r1 ∧ Below w.heap.size w w' := by
  have h' : splitF a0 a1 a2 l3 = (r1, r2) := Option.some.inj h
  have hh := split_any a0 a1 a2 A3 c3 l3 w hr3 hc3
  rw [h'] at hh
  exact hh
end Go.Proofs.YtddikdpbhjgihaaGreatDoor.X
end
