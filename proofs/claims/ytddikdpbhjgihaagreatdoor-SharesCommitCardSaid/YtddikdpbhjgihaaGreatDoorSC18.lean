import Derived.Test.YtddikdpbhjgihaaGreatDoorSC07
import Derived.Test.YtddikdpbhjgihaaGreatDoorSC13
import Derived.Test.YtddikdpbhjgihaaGreatDoorSC10
import Derived.Test.YtddikdpbhjgihaaGreatDoorSC17
import Derived.Lib.LazyBuf
import Derived.Test.YtddikdpbhjgihaaGreatDoorSC12
section
namespace Go.Proofs.YtddikdpbhjgihaaGreatDoor.X
open Go.RowKit Go.Proofs.YtddikdpbhjgihaaGreatDoorW.PrintWords Go.Proofs.YtddikdpbhjgihaaGreatDoorW.PrintLast Go.Proofs.YtddikdpbhjgihaaGreatDoorW.PrintMore
attribute [local go_sem] max2_int min2_int max_two min_two max_three min_three max_four min_four   -- for this text's walks alone
set_option linter.unusedVariables false
set_option linter.unusedSimpArgs false
def tree_Root.f (l0 : List ByteArray) : Option (ByteArray × Int) := (tree_digests_proper.f l0).bind fun t218 => (if t218 = true then ((tree_total.f l0).bind fun t219 => (some (t219, 0))) else (some ((⟨#[]⟩ : ByteArray), 1)))
set_option maxHeartbeats 8000000 in
set_option maxRecDepth 100000 in
theorem tree_Root.calls (A0 : Option Addr) (c0 : Nat) (l0 : List ByteArray) (r1 : ByteArray) (r2 : Int) (w : World) (hr0 : Kd.C Kd.string w A0 l0.length l0) (hc0 : l0.length ≤ c0) (hgl : GL w) (h : tree_Root.f l0 = some (r1, r2)) :
    Calls Tryz.prog 84 #[.slice A0 l0.length c0] w fun e w' => e = .returned (.tuple #[.string r1, .int .i64 r2]) ∧ Below w.heap.size w w' := by
  have HR0 := Aside0.mk hr0
  have HC0 := Aside0.mk hc0
  clear hr0 hc0
  have HGL := Aside0.mk hgl
  clear hgl
  have HB := Aside0.mk (Below.refl w.heap.size w)
  have H : ((tree_digests_proper.f l0).bind fun t218 => (if t218 = true then ((tree_total.f l0).bind fun t219 => (some (t219, 0))) else (some ((⟨#[]⟩ : ByteArray), 1)))) = some (r1, r2) := h
  clear h
  replace H := Option.bind_eq_some_iff.mp H
  obtain ⟨t218, A20, H⟩ := H
  replace H : (if t218 = true then ((tree_total.f l0).bind fun t219 => (some (t219, 0))) else (some ((⟨#[]⟩ : ByteArray), 1))) = some (r1, r2) := H
  have A2 := Aside0.mk A20
  clear A20
  by_cases c3 : t218 = true
  · subst c3
    have H1 : ((tree_total.f l0).bind fun t219 => (some (t219, 0))) = some (r1, r2) := by rw [if_pos rfl] at H; exact H
    clear H
    have H := H1
    clear H1
    replace H := Option.bind_eq_some_iff.mp H
    obtain ⟨t219, A40, H⟩ := H
    replace H : (some (t219, 0)) = some (r1, r2) := H
    have A4 := Aside0.mk A40
    clear A40
    simp only [Option.some.injEq, Prod.mk.injEq] at H
    obtain ⟨rfl, rfl⟩ := H
    go_enter Tryz.func84, Tryz.ntmps84
    go_wp2_with (first | ((with_reducible refine gate_callee (f := 88) rfl ?_); refine goesL_ (some 5) rfl rfl Tryz.func88 (by kernel_rfl) rfl #[.slice A0 l0.length c0] rfl (by (try simp only [List.map_toArray, List.map_cons, List.map_nil]); first | done | rfl | (simp only [List.length_drop, List.length_take]; rfl)) ?_; (with_reducible refine (tree_digests_proper.calls _ _ l0 true _ ?side1 ?side2 A2.out).mono ?_); (case side1 => repeat (first | exact HR0.out | (with_reducible refine Kd.C_alloc ?_ _) | (with_reducible refine Kd.C_drewN ?_ _) | (with_reducible refine Kd.C_drew ?_))); (case side2 => exact HC0.out); rintro e w5 ⟨rfl, hb⟩; refine ⟨_, rfl, ?_⟩; have n0_ := Aside0.mk (below_step (by repeat (first | (with_reducible first | exact HB.out | apply below_alloc | apply pw_below_drewN | apply below_drew1) | exact HB.out)) hb); clear HB; have HB := n0_; clear n0_; (try clear hb); (try clear hb2); (try clear hk); (try clear hi)) | ((with_reducible refine gate_callee (f := 90) rfl ?_); refine goesL_ (some 8) rfl rfl Tryz.func90 (by kernel_rfl) rfl #[.slice A0 l0.length c0] rfl (by (try simp only [List.map_toArray, List.map_cons, List.map_nil]); first | done | rfl | (simp only [List.length_drop, List.length_take]; rfl)) ?_; (with_reducible refine (tree_total.calls _ _ l0 t219 _ ?side1 ?side2 ?side3 A4.out).mono ?_); (case side1 => repeat (first | exact (Kd.C_below HR0.out HB.out) | (with_reducible refine Kd.C_alloc ?_ _) | (with_reducible refine Kd.C_drewN ?_ _) | (with_reducible refine Kd.C_drew ?_))); (case side2 => exact HC0.out); (case side3 => first | (with_reducible exact HGL.out) | exact GL.below HGL.out (by repeat (first | (with_reducible first | exact HB.out | apply below_alloc | apply pw_below_drewN | apply below_drew1) | exact HB.out)) | exact GL.below HGL.out (by repeat (first | exact Below.refl _ _ | exact HB.out | apply below_alloc | apply pw_below_drewN | apply below_drew1))); rintro e w6 ⟨rfl, hb⟩; refine ⟨_, rfl, ?_⟩; have n0_ := Aside0.mk (below_step (by repeat (first | (with_reducible first | exact HB.out | apply below_alloc | apply pw_below_drewN | apply below_drew1) | exact HB.out)) hb); clear HB; have HB := n0_; clear n0_; (try clear hb); (try clear hb2); (try clear hk); (try clear hi)))
    go_ret2
    exact ⟨by first | rfl | (simp [errW_none, errW_some] <;> rfl) | (simp [*, errW_none, errW_some] <;> rfl), by repeat (first | (with_reducible first | exact HB.out | apply below_alloc | apply pw_below_drewN | apply below_drew1) | exact HB.out)⟩
  · replace c3 := Bool.eq_false_iff.mpr c3
    subst c3
    have H1 : (some ((⟨#[]⟩ : ByteArray), 1)) = some (r1, r2) := by rw [if_neg (show ¬ (false = true) by decide)] at H; exact H
    clear H
    have H := H1
    clear H1
    simp only [Option.some.injEq, Prod.mk.injEq] at H
    obtain ⟨rfl, rfl⟩ := H
    go_enter Tryz.func84, Tryz.ntmps84
    go_wp2_with (first | ((with_reducible refine gate_callee (f := 88) rfl ?_); refine goesL_ (some 5) rfl rfl Tryz.func88 (by kernel_rfl) rfl #[.slice A0 l0.length c0] rfl (by (try simp only [List.map_toArray, List.map_cons, List.map_nil]); first | done | rfl | (simp only [List.length_drop, List.length_take]; rfl)) ?_; (with_reducible refine (tree_digests_proper.calls _ _ l0 false _ ?side1 ?side2 A2.out).mono ?_); (case side1 => repeat (first | exact HR0.out | (with_reducible refine Kd.C_alloc ?_ _) | (with_reducible refine Kd.C_drewN ?_ _) | (with_reducible refine Kd.C_drew ?_))); (case side2 => exact HC0.out); rintro e w7 ⟨rfl, hb⟩; refine ⟨_, rfl, ?_⟩; have n0_ := Aside0.mk (below_step (by repeat (first | (with_reducible first | exact HB.out | apply below_alloc | apply pw_below_drewN | apply below_drew1) | exact HB.out)) hb); clear HB; have HB := n0_; clear n0_; (try clear hb); (try clear hb2); (try clear hk); (try clear hi)))
    go_ret2
    exact ⟨by first | rfl | (simp [errW_none, errW_some] <;> rfl) | (simp [*, errW_none, errW_some] <;> rfl), by repeat (first | (with_reducible first | exact HB.out | apply below_alloc | apply pw_below_drewN | apply below_drew1) | exact HB.out)⟩
mutual
def shares_Root.j0 : Nat → List (S25) → Bool → Option (ByteArray × Int)
  | 0, _, _ => none
  | k + 1, x0, x14 => if x14 = true then (some ((⟨#[]⟩ : ByteArray), 1)) else (shares_Root.l0 k ([] : List ByteArray) x0 (x0.length : Int) 0)
def shares_Root.l0 : Nat → List ByteArray → List (S25) → Int → Int → Option (ByteArray × Int)
  | 0, _, _, _, _ => none
  | k + 1, x4, x15, x16, x17 => if x17 < x16 then (if 0 ≤ x17 then (if x17 < (x15.length : Int) then ((shares_valid.f ((rd_T25 x15 x17).f0) ((rd_T25 x15 x17).f1)).bind fun t224 => (if t224 = true then ((shares_text.f ((rd_T25 x15 x17).f0) ((rd_T25 x15 x17).f1)).bind fun t225 => ((tree_Leaf.f t225).bind fun t226 => (if x4.length < 8796093022208 then (shares_Root.l0 k (x4 ++ [t226]) x15 x16 (wrap64 (x17 + 1))) else (none)))) else (some ((⟨#[]⟩ : ByteArray), 1)))) else (none)) else (none)) else ((tree_Root.f x4).bind fun bt220 => (some (bt220.1, bt220.2)))
end
def shares_Root.f (k : Nat) (l0 : List (S25)) : Option (ByteArray × Int) := if (l0.length : Int) < 1 then (shares_Root.j0 k l0 true) else (shares_Root.j0 k l0 (decide ((l0.length : Int) > 16)))
set_option maxHeartbeats 8000000 in
set_option maxRecDepth 100000 in
theorem shares_Root.calls (k : Nat) (A0 : Option Addr) (c0 : Nat) (l0 : List (S25)) (r1 : ByteArray) (r2 : Int) (w : World) (hr0 : Kd.C k25 w A0 l0.length l0) (hc0 : l0.length ≤ c0) (hgl : GL w) (h : shares_Root.f k l0 = some (r1, r2)) :
    Calls Tryz.prog 21 #[.slice A0 l0.length c0] w fun e w' => e = .returned (.tuple #[.string r1, .int .i64 r2]) ∧ Below w.heap.size w w' := by
  have hu25 := Tryz.underlying25
  have HR0 := Aside0.mk hr0
  have HC0 := Aside0.mk hc0
  clear hr0 hc0
  have HGL := Aside0.mk hgl
  clear hgl
  have HB := Aside0.mk (Below.refl w.heap.size w)
  have H : (if (l0.length : Int) < 1 then (shares_Root.j0 k l0 true) else (shares_Root.j0 k l0 (decide ((l0.length : Int) > 16)))) = some (r1, r2) := h
  clear h
  have HC2 := Aside0.mk H
  clear H
  go_enter Tryz.func21, Tryz.ntmps21
  go_upto_region 1 with (fail)
  go_cut [14] (fun v14 wc => ∃ (kq : Nat) (x14_1 : Bool), v14 = .bool x14_1 ∧ Aside0 (shares_Root.j0 kq l0 x14_1 = some (r1, r2)) ∧ Aside0 (kq ≤ k) ∧ Aside0 (Below w.heap.size w wc))
  case first =>
    have H := HC2.out
    clear HC2
    by_cases c3 : (l0.length : Int) < 1
    · rw [if_pos c3] at H
      have c3b0 : decide ((l0.length : Int) < 1) = true := decide_eq_true c3
      have c3b1 : decide (l0.length < 1) = true := decide_eq_true (by omega)
      clear c3
      (first | rw [c3b0] | (simp only [i64_w, i32_w]; rw [c3b0]) | skip)
      have H' := Aside0.mk H
      clear H
      go_wp2
      go_meet
      case rel => exact ⟨_, (true), (by first | rfl | (simp; done) | (simp [*]; done)), H', ⟨by first | omega | exact Nat.le_refl _⟩, ⟨by repeat (first | (with_reducible first | exact HB.out | apply below_alloc | apply pw_below_drewN | apply below_drew1) | exact HB.out)⟩⟩
    · rw [if_neg c3] at H
      have c3b0 : decide ((l0.length : Int) < 1) = false := decide_eq_false c3
      have c3b1 : decide (l0.length < 1) = false := decide_eq_false (by omega)
      clear c3
      (first | rw [c3b0] | (simp only [i64_w, i32_w]; rw [c3b0]) | skip)
      have H' := Aside0.mk H
      clear H
      go_wp2
      go_meet
      case rel => exact ⟨_, (decide ((l0.length : Int) > 16)), (by first | rfl | (simp; done) | (simp [*]; done)), H', ⟨by first | omega | exact Nat.le_refl _⟩, ⟨by repeat (first | (with_reducible first | exact HB.out | apply below_alloc | apply pw_below_drewN | apply below_drew1) | exact HB.out)⟩⟩
  case rest =>
    clear HC2
    try clear c2
    try clear p2
    try clear c3
    try clear c3b0
    try clear c3b1
    obtain ⟨kq, x14_1, rfl, HA, HJ1, HB⟩ := hcut
    cases kq with
    | zero => exact absurd HA.out (by simp [shares_Root.j0])
    | succ kj1 =>
      have H := HA.out
      clear HA
      simp only [shares_Root.j0] at H
      by_cases c4 : x14_1 = true
      · subst c4
        have H1 : (some ((⟨#[]⟩ : ByteArray), 1)) = some (r1, r2) := by rw [if_pos rfl] at H; exact H
        clear H
        have H := H1
        clear H1
        simp only [Option.some.injEq, Prod.mk.injEq] at H
        obtain ⟨rfl, rfl⟩ := H
        go_wp2
        go_ret2
        exact ⟨by first | rfl | (simp [errW_none, errW_some] <;> rfl) | (simp [*, errW_none, errW_some] <;> rfl), by repeat (first | (with_reducible first | exact HB.out | apply below_alloc | apply pw_below_drewN | apply below_drew1) | exact HB.out)⟩
      · replace c4 := Bool.eq_false_iff.mpr c4
        subst c4
        have H1 : (shares_Root.l0 kj1 ([] : List ByteArray) l0 (l0.length : Int) 0) = some (r1, r2) := by rw [if_neg (show ¬ (false = true) by decide)] at H; exact H
        clear H
        have H := H1
        clear H1
        have H' := Aside0.mk H
        clear H
        go_wp2
        go_loopg [4, 17] kj1 (fun kq v4 v17 w' => ∃ (x4_2 : List ByteArray) (x17_2 : Int), v17 = .int .i64 x17_2 ∧ Aside0 (shares_Root.l0 kq x4_2 l0 (l0.length : Int) x17_2 = some (r1, r2)) ∧ Aside0 (kq ≤ kj1) ∧ Aside0 (Kd.R Kd.string 9 w' w.heap.size (fun _ => True) v4 x4_2) ∧ Aside0 (Below w.heap.size w w'))
        case atStart => exact ⟨(([] : List ByteArray)), (0), (by first | rfl | (simp; done) | (simp [*]; done)), H', ⟨Nat.le_refl _⟩, ⟨by first | exact Kd.R_nil _ _ _ _ _ | exact Kd.N_nil _ _ _ _ _ | exact Kd.V_nil _ _ _ _ _ | exact Kd.Q_nil _ _ _ _ _ | exact Kd.S_nil _ _ _ _ _⟩, ⟨by repeat (first | (with_reducible first | exact HB.out | apply below_alloc | apply pw_below_drewN | apply below_drew1) | exact HB.out)⟩⟩
        case round =>
          clear H'
          try clear c2
          try clear p2
          try clear c3
          try clear c3b0
          try clear c3b1
          try clear c4
          try clear p2
          obtain ⟨x4_2, x17_2, rfl, HA, HK2, HO_4, HB⟩ := hrel
          cases gk with
          | zero => exact absurd HA.out (by simp [shares_Root.l0])
          | succ k2 =>
            have H := HA.out
            clear HA
            simp only [shares_Root.l0] at H
            by_cases c5 : x17_2 < (l0.length : Int)
            · rw [if_pos c5] at H
              have c5b0 : decide (x17_2 < (l0.length : Int)) = true := decide_eq_true c5
              clear c5
              by_cases c6 : 0 ≤ x17_2
              · rw [if_pos c6] at H
                have c6b0 : decide (0 ≤ x17_2) = true := decide_eq_true c6
                clear c6
                by_cases c7 : x17_2 < (l0.length : Int)
                · rw [if_pos c7] at H
                  have c7b0 : decide (x17_2 < (l0.length : Int)) = true := decide_eq_true c7
                  clear c7
                  replace H := Option.bind_eq_some_iff.mp H
                  obtain ⟨t224, A80, H⟩ := H
                  replace H : (if t224 = true then ((shares_text.f ((rd_T25 l0 x17_2).f0) ((rd_T25 l0 x17_2).f1)).bind fun t225 => ((tree_Leaf.f t225).bind fun t226 => (if x4_2.length < 8796093022208 then (shares_Root.l0 k2 (x4_2 ++ [t226]) l0 (l0.length : Int) (wrap64 (x17_2 + 1))) else (none)))) else (some ((⟨#[]⟩ : ByteArray), 1))) = some (r1, r2) := H
                  have A8 := Aside0.mk A80
                  clear A80
                  by_cases c9 : t224 = true
                  · subst c9
                    have H1 : ((shares_text.f ((rd_T25 l0 x17_2).f0) ((rd_T25 l0 x17_2).f1)).bind fun t225 => ((tree_Leaf.f t225).bind fun t226 => (if x4_2.length < 8796093022208 then (shares_Root.l0 k2 (x4_2 ++ [t226]) l0 (l0.length : Int) (wrap64 (x17_2 + 1))) else (none)))) = some (r1, r2) := by rw [if_pos rfl] at H; exact H
                    clear H
                    have H := H1
                    clear H1
                    replace H := Option.bind_eq_some_iff.mp H
                    obtain ⟨t225, A100, H⟩ := H
                    replace H : ((tree_Leaf.f t225).bind fun t226 => (if x4_2.length < 8796093022208 then (shares_Root.l0 k2 (x4_2 ++ [t226]) l0 (l0.length : Int) (wrap64 (x17_2 + 1))) else (none))) = some (r1, r2) := H
                    have A10 := Aside0.mk A100
                    clear A100
                    replace H := Option.bind_eq_some_iff.mp H
                    obtain ⟨t226, A110, H⟩ := H
                    replace H : (if x4_2.length < 8796093022208 then (shares_Root.l0 k2 (x4_2 ++ [t226]) l0 (l0.length : Int) (wrap64 (x17_2 + 1))) else (none)) = some (r1, r2) := H
                    have A11 := Aside0.mk A110
                    clear A110
                    by_cases c12 : x4_2.length < 8796093022208
                    · rw [if_pos c12] at H
                      have LMc12 := Aside0.mk c12
                      clear c12
                      obtain ⟨y227, hy227⟩ : ∃ y_ : List ByteArray, y_ = (x4_2 ++ [t226]) := ⟨_, rfl⟩
                      replace H : (shares_Root.l0 k2 y227 l0 (l0.length : Int) (wrap64 (x17_2 + 1))) = some (r1, r2) := by first | (rw [hy227]; with_reducible exact H) | (have H2_ := (Option.bind_some _ _).symm.trans H; rw [hy227]; with_reducible exact H2_) | (have H2_ := (Option.bind_some _ _).symm.trans H; with_reducible exact H2_) | with_reducible exact H | (rw [hy227]; exact H) | exact H
                      have Ny227 := Aside0.mk hy227
                      clear hy227
                      have H' := Aside0.mk H
                      clear H
                      have p222 : 0 ≤ (x17_2 : Int) := of_decide_eq_true (by first | (with_reducible assumption) | assumption)
                      have q222 : x17_2 < (l0.length : Int) := of_decide_eq_true (by first | (with_reducible assumption) | assumption)
                      obtain ⟨ad222, e222, hx222_0, hx222_1⟩ := at_T25 HR0.out x17_2 p222 q222
                      cases e222
                      replace hx222_0 := (HB.out.cell (World.block_lt_of_cell? w _ hx222_0)).trans hx222_0
                      replace hx222_1 := (HB.out.cell (World.block_lt_of_cell? w _ hx222_1)).trans hx222_1
                      replace p222 := eq_true p222
                      replace q222 := eq_true q222
                      go_wp2_with (first | ((with_reducible refine gate_dst (N := 6) rfl ?_); (try (refine gate_guard (by rfl) ?_; dsimp only)); refine box_event ?hg (N := 6) ?hd (cs := #[.int .i64 0, .int .i64 0]) (t := 25) ?hr ?_; (case hd => rfl); (case hg => rfl); (case hr => first | (go_simp; done) | (go_simp; rfl)); intro gb223 hg w13 hbox hb; have n0_ := Aside0.mk (Kd.R_below (by (with_reducible repeat (first | apply Kd.R_alloc | apply Kd.R_drewN | apply Kd.R_drew)); exact HO_4.out) hb); have n1_ := Aside0.mk (below_step (by repeat (first | (with_reducible first | exact HB.out | apply below_alloc | apply pw_below_drewN | apply below_drew1) | exact HB.out)) hb); have n2_ := Aside0.mk (hbox); have n3_ := Aside0.mk ((by rw [hg]; exact (below_size (by repeat (first | (with_reducible first | exact HB.out | apply below_alloc | apply pw_below_drewN | apply below_drew1) | exact HB.out))) : w.heap.size ≤ gb223)); have n4_ := Aside0.mk ((by rw [hg]; exact (below_size (by repeat (first | (with_reducible first | exact HB.out | apply below_alloc | apply pw_below_drewN | apply below_drew1) | exact HB.out))) : w.heap.size ≤ gb223)); clear HO_4; clear HB; have HO_4 := n0_; have HB := n1_; have BK223 := n2_; have GW223 := n3_; have GE223 := n4_; clear n0_ n1_ n2_ n3_ n4_; clear hb hbox hg; have hcz14_0 : w13.cell? ⟨gb223, 0, none⟩ = some (.int .i64 0) := (blk_cell BK223.out 0).trans rfl; have hcz14_1 : w13.cell? ⟨gb223, 1, none⟩ = some (.int .i64 0) := (blk_cell BK223.out 1).trans rfl; have hfz14_0 := blk_frozen BK223.out 0; have hfz14_1 := blk_frozen BK223.out 1) | ((with_reducible refine gate_callee (f := 78) rfl ?_); refine goesL_ (some 22) rfl rfl Tryz.func78 (by kernel_rfl) rfl #[.agg #[.int .i64 ((rd_T25 l0 x17_2).f0), .int .i64 ((rd_T25 l0 x17_2).f1)]] rfl (by (try simp only [List.map_toArray, List.map_cons, List.map_nil]); first | done | rfl | (simp only [List.length_drop, List.length_take]; rfl)) ?_; (with_reducible refine (shares_valid.calls ((rd_T25 l0 x17_2).f0) ((rd_T25 l0 x17_2).f1) true _ A8.out).mono ?_); rintro e w15 ⟨rfl, hb⟩; refine ⟨_, rfl, ?_⟩; have n0_ := Aside0.mk (Kd.R_below (by (with_reducible repeat (first | apply Kd.R_alloc | apply Kd.R_drewN | apply Kd.R_drew)); exact (Kd.R_mono (Kd.R_far (p := ⟨gb223, 1, none⟩) (Kd.R_far (p := ⟨gb223, 0, none⟩) (Kd.R_types HO_4.out BK223.out (by decide)) (fun _ hk => hk.2) (.int .i64 ((rd_T25 l0 x17_2).f0))) (fun _ hk => hk.2) (.int .i64 ((rd_T25 l0 x17_2).f1))) (fun _ h_ => h_.1))) hb); have n1_ := Aside0.mk (blk_below (g := gb223) (o := .cells #[.int .i64 ((rd_T25 l0 x17_2).f0), .int .i64 ((rd_T25 l0 x17_2).f1)] 25 (0, 0)) (by (with_reducible repeat (first | refine blk_drewN ?_ _ | refine blk_drew ?_ | refine blk_alloc ?_ _)); refine blk_put (cs := #[.int .i64 ((rd_T25 l0 x17_2).f0), .int .i64 0]) ?_ 1 _ rfl; (with_reducible repeat (first | refine blk_drewN ?_ _ | refine blk_drew ?_ | refine blk_alloc ?_ _)); refine blk_put (cs := #[.int .i64 0, .int .i64 0]) ?_ 0 _ rfl; (with_reducible repeat (first | refine blk_drewN ?_ _ | refine blk_drew ?_ | refine blk_alloc ?_ _)); exact BK223.out) hb); have n2_ := Aside0.mk (below_step (by repeat (first | (with_reducible first | exact HB.out | apply below_alloc | apply pw_below_drewN | apply below_drew1 | refine below_set ?_ GE223.out) | exact HB.out)) hb); clear HO_4; clear BK223; clear HB; have HO_4 := n0_; have BK223 := n1_; have HB := n2_; clear n0_ n1_ n2_; (try clear hb); (try clear hb2); (try clear hk); (try clear hi); have hcz16_0 : w15.cell? ⟨gb223, 0, none⟩ = some (.int .i64 ((rd_T25 l0 x17_2).f0)) := (blk_cell BK223.out 0).trans rfl; have hcz16_1 : w15.cell? ⟨gb223, 1, none⟩ = some (.int .i64 ((rd_T25 l0 x17_2).f1)) := (blk_cell BK223.out 1).trans rfl; have hfz16_0 := blk_frozen BK223.out 0; have hfz16_1 := blk_frozen BK223.out 1) | ((with_reducible refine gate_callee (f := 83) rfl ?_); refine goesL_ (some 26) rfl rfl Tryz.func83 (by kernel_rfl) rfl #[.agg #[.int .i64 ((rd_T25 l0 x17_2).f0), .int .i64 ((rd_T25 l0 x17_2).f1)]] rfl (by (try simp only [List.map_toArray, List.map_cons, List.map_nil]); first | done | rfl | (simp only [List.length_drop, List.length_take]; rfl)) ?_; (with_reducible refine (shares_text.calls ((rd_T25 l0 x17_2).f0) ((rd_T25 l0 x17_2).f1) t225 _ ?side1 A10.out).mono ?_); (case side1 => first | (with_reducible exact HGL.out) | exact GL.below HGL.out (by repeat (first | (with_reducible first | exact HB.out | apply below_alloc | apply pw_below_drewN | apply below_drew1 | refine below_set ?_ GE223.out) | exact HB.out)) | exact GL.below HGL.out (by repeat (first | exact Below.refl _ _ | exact HB.out | apply below_alloc | apply pw_below_drewN | apply below_drew1))); rintro e w17 ⟨rfl, hb⟩; refine ⟨_, rfl, ?_⟩; have n0_ := Aside0.mk (Kd.R_below (by (with_reducible repeat (first | apply Kd.R_alloc | apply Kd.R_drewN | apply Kd.R_drew)); exact HO_4.out) hb); have n1_ := Aside0.mk (blk_below (g := gb223) (o := .cells #[.int .i64 ((rd_T25 l0 x17_2).f0), .int .i64 ((rd_T25 l0 x17_2).f1)] 25 (0, 0)) (by (with_reducible repeat (first | refine blk_drewN ?_ _ | refine blk_drew ?_ | refine blk_alloc ?_ _)); exact BK223.out) hb); have n2_ := Aside0.mk (below_step (by repeat (first | (with_reducible first | exact HB.out | apply below_alloc | apply pw_below_drewN | apply below_drew1 | refine below_set ?_ GE223.out) | exact HB.out)) hb); clear HO_4; clear BK223; clear HB; have HO_4 := n0_; have BK223 := n1_; have HB := n2_; clear n0_ n1_ n2_; (try clear hb); (try clear hb2); (try clear hk); (try clear hi)) | ((with_reducible refine gate_callee (f := 82) rfl ?_); refine goesL_ (some 27) rfl rfl Tryz.func82 (by kernel_rfl) rfl #[.string t225] rfl (by (try simp only [List.map_toArray, List.map_cons, List.map_nil]); first | done | rfl | (simp only [List.length_drop, List.length_take]; rfl)) ?_; (with_reducible refine (tree_Leaf.calls t225 t226 _ ?side1 A11.out).mono ?_); (case side1 => first | (with_reducible exact HGL.out) | exact GL.below HGL.out (by repeat (first | (with_reducible first | exact HB.out | apply below_alloc | apply pw_below_drewN | apply below_drew1 | refine below_set ?_ GE223.out) | exact HB.out)) | exact GL.below HGL.out (by repeat (first | exact Below.refl _ _ | exact HB.out | apply below_alloc | apply pw_below_drewN | apply below_drew1))); rintro e w18 ⟨rfl, hb⟩; refine ⟨_, rfl, ?_⟩; have n0_ := Aside0.mk (Kd.R_below (by (with_reducible repeat (first | apply Kd.R_alloc | apply Kd.R_drewN | apply Kd.R_drew)); exact HO_4.out) hb); have n1_ := Aside0.mk (blk_below (g := gb223) (o := .cells #[.int .i64 ((rd_T25 l0 x17_2).f0), .int .i64 ((rd_T25 l0 x17_2).f1)] 25 (0, 0)) (by (with_reducible repeat (first | refine blk_drewN ?_ _ | refine blk_drew ?_ | refine blk_alloc ?_ _)); exact BK223.out) hb); have n2_ := Aside0.mk (below_step (by repeat (first | (with_reducible first | exact HB.out | apply below_alloc | apply pw_below_drewN | apply below_drew1 | refine below_set ?_ GE223.out) | exact HB.out)) hb); clear HO_4; clear BK223; clear HB; have HO_4 := n0_; have BK223 := n1_; have HB := n2_; clear n0_ n1_ n2_; (try clear hb); (try clear hb2); (try clear hk); (try clear hi)) | ((with_reducible refine gate_builtin (b := .append) (xs := #[.tmp 24, .tmp 28]) rfl ?_); (try (refine gate_guard (by rfl) ?_; dsimp only)); at_builtin; refine Kd.R_append Kd.string (w0 := w) w.heap.size rfl (.tmp 24) (.tmp 28) 26 9 (.string ⟨#[]⟩) 16 rfl Tryz.underlying26 info9 rfl (by decide) (by omega) u4 x4_2 t226 [.string t226] (fun _ => True) (fun _ => False) rfl rfl ?aP (fun _ hk => hk.elim) ?aF ?aO ?aB ?aS ?aL ?_; (case aP => exact rfl); (case aB => exact (by repeat (first | (with_reducible first | exact HB.out | apply below_alloc | apply pw_below_drewN | apply below_drew1 | refine below_set ?_ GE223.out) | exact HB.out))); (case aF => exact (fun _ _ => trivial)); (case aO => exact (by (with_reducible repeat (first | apply Kd.R_alloc | apply Kd.R_drewN | apply Kd.R_drew)); exact HO_4.out)); (case aS => exact (below_size (by repeat (first | (with_reducible first | exact HB.out | apply below_alloc | apply pw_below_drewN | apply below_drew1 | refine below_set ?_ GE223.out) | exact HB.out)))); (case aL => have := LMc12.out; omega); intro v228 w19 ho hb hg hat; rw [← Ny227.out] at ho; have n0_ := Aside0.mk (blk_grown (g := gb223) (o := .cells #[.int .i64 ((rd_T25 l0 x17_2).f0), .int .i64 ((rd_T25 l0 x17_2).f1)] 25 (0, 0)) (by (with_reducible repeat (first | refine blk_drewN ?_ _ | refine blk_drew ?_ | refine blk_alloc ?_ _)); exact BK223.out) hg (Kd.R_ne HO_4.out BK223.out (by decide))); have n1_ := Aside0.mk (hb); have n2_ := Aside0.mk (ho); clear BK223; clear HB; clear HO_4; have BK223 := n0_; have HB := n1_; have HO229 := n2_; clear n0_ n1_ n2_; clear ho hb hg hat))
                      go_roundg k2
                      case measure => have := HJ1.out; have := HK2.out; omega
                      case rel => exact ⟨(y227), (wrap64 (x17_2 + 1)), (by first | rfl | (simp; done) | (simp [*]; done)), H', ⟨by have := HJ1.out; have := HK2.out; omega⟩, ⟨by (with_reducible repeat (first | apply Kd.R_alloc | apply Kd.R_drewN | apply Kd.R_drew)); exact HO229.out⟩, ⟨by repeat (first | (with_reducible first | exact HB.out | apply below_alloc | apply pw_below_drewN | apply below_drew1 | refine below_set ?_ GE223.out) | exact HB.out)⟩⟩
                    · rw [if_neg c12] at H
                      exact absurd H (by simp)
                  · replace c9 := Bool.eq_false_iff.mpr c9
                    subst c9
                    have H1 : (some ((⟨#[]⟩ : ByteArray), 1)) = some (r1, r2) := by rw [if_neg (show ¬ (false = true) by decide)] at H; exact H
                    clear H
                    have H := H1
                    clear H1
                    simp only [Option.some.injEq, Prod.mk.injEq] at H
                    obtain ⟨rfl, rfl⟩ := H
                    have p222 : 0 ≤ (x17_2 : Int) := of_decide_eq_true (by first | (with_reducible assumption) | assumption)
                    have q222 : x17_2 < (l0.length : Int) := of_decide_eq_true (by first | (with_reducible assumption) | assumption)
                    obtain ⟨ad222, e222, hx222_0, hx222_1⟩ := at_T25 HR0.out x17_2 p222 q222
                    cases e222
                    replace hx222_0 := (HB.out.cell (World.block_lt_of_cell? w _ hx222_0)).trans hx222_0
                    replace hx222_1 := (HB.out.cell (World.block_lt_of_cell? w _ hx222_1)).trans hx222_1
                    replace p222 := eq_true p222
                    replace q222 := eq_true q222
                    go_wp2_with (first | ((with_reducible refine gate_dst (N := 6) rfl ?_); (try (refine gate_guard (by rfl) ?_; dsimp only)); refine box_event ?hg (N := 6) ?hd (cs := #[.int .i64 0, .int .i64 0]) (t := 25) ?hr ?_; (case hd => rfl); (case hg => rfl); (case hr => first | (go_simp; done) | (go_simp; rfl)); intro gb223 hg w20 hbox hb; have n0_ := Aside0.mk (Kd.R_below (by (with_reducible repeat (first | apply Kd.R_alloc | apply Kd.R_drewN | apply Kd.R_drew)); exact HO_4.out) hb); have n1_ := Aside0.mk (below_step (by repeat (first | (with_reducible first | exact HB.out | apply below_alloc | apply pw_below_drewN | apply below_drew1) | exact HB.out)) hb); have n2_ := Aside0.mk (hbox); have n3_ := Aside0.mk ((by rw [hg]; exact (below_size (by repeat (first | (with_reducible first | exact HB.out | apply below_alloc | apply pw_below_drewN | apply below_drew1) | exact HB.out))) : w.heap.size ≤ gb223)); have n4_ := Aside0.mk ((by rw [hg]; exact (below_size (by repeat (first | (with_reducible first | exact HB.out | apply below_alloc | apply pw_below_drewN | apply below_drew1) | exact HB.out))) : w.heap.size ≤ gb223)); clear HO_4; clear HB; have HO_4 := n0_; have HB := n1_; have BK223 := n2_; have GW223 := n3_; have GE223 := n4_; clear n0_ n1_ n2_ n3_ n4_; clear hb hbox hg; have hcz21_0 : w20.cell? ⟨gb223, 0, none⟩ = some (.int .i64 0) := (blk_cell BK223.out 0).trans rfl; have hcz21_1 : w20.cell? ⟨gb223, 1, none⟩ = some (.int .i64 0) := (blk_cell BK223.out 1).trans rfl; have hfz21_0 := blk_frozen BK223.out 0; have hfz21_1 := blk_frozen BK223.out 1) | ((with_reducible refine gate_callee (f := 78) rfl ?_); refine goesL_ (some 22) rfl rfl Tryz.func78 (by kernel_rfl) rfl #[.agg #[.int .i64 ((rd_T25 l0 x17_2).f0), .int .i64 ((rd_T25 l0 x17_2).f1)]] rfl (by (try simp only [List.map_toArray, List.map_cons, List.map_nil]); first | done | rfl | (simp only [List.length_drop, List.length_take]; rfl)) ?_; (with_reducible refine (shares_valid.calls ((rd_T25 l0 x17_2).f0) ((rd_T25 l0 x17_2).f1) false _ A8.out).mono ?_); rintro e w22 ⟨rfl, hb⟩; refine ⟨_, rfl, ?_⟩; have n0_ := Aside0.mk (Kd.R_below (by (with_reducible repeat (first | apply Kd.R_alloc | apply Kd.R_drewN | apply Kd.R_drew)); exact (Kd.R_mono (Kd.R_far (p := ⟨gb223, 1, none⟩) (Kd.R_far (p := ⟨gb223, 0, none⟩) (Kd.R_types HO_4.out BK223.out (by decide)) (fun _ hk => hk.2) (.int .i64 ((rd_T25 l0 x17_2).f0))) (fun _ hk => hk.2) (.int .i64 ((rd_T25 l0 x17_2).f1))) (fun _ h_ => h_.1))) hb); have n1_ := Aside0.mk (blk_below (g := gb223) (o := .cells #[.int .i64 ((rd_T25 l0 x17_2).f0), .int .i64 ((rd_T25 l0 x17_2).f1)] 25 (0, 0)) (by (with_reducible repeat (first | refine blk_drewN ?_ _ | refine blk_drew ?_ | refine blk_alloc ?_ _)); refine blk_put (cs := #[.int .i64 ((rd_T25 l0 x17_2).f0), .int .i64 0]) ?_ 1 _ rfl; (with_reducible repeat (first | refine blk_drewN ?_ _ | refine blk_drew ?_ | refine blk_alloc ?_ _)); refine blk_put (cs := #[.int .i64 0, .int .i64 0]) ?_ 0 _ rfl; (with_reducible repeat (first | refine blk_drewN ?_ _ | refine blk_drew ?_ | refine blk_alloc ?_ _)); exact BK223.out) hb); have n2_ := Aside0.mk (below_step (by repeat (first | (with_reducible first | exact HB.out | apply below_alloc | apply pw_below_drewN | apply below_drew1 | refine below_set ?_ GE223.out) | exact HB.out)) hb); clear HO_4; clear BK223; clear HB; have HO_4 := n0_; have BK223 := n1_; have HB := n2_; clear n0_ n1_ n2_; (try clear hb); (try clear hb2); (try clear hk); (try clear hi)))
                    go_ret2
                    exact ⟨by first | rfl | (simp [errW_none, errW_some] <;> rfl) | (simp [*, errW_none, errW_some] <;> rfl), by repeat (first | (with_reducible first | exact HB.out | apply below_alloc | apply pw_below_drewN | apply below_drew1 | refine below_set ?_ GE223.out) | exact HB.out)⟩
                · rw [if_neg c7] at H
                  exact absurd H (by simp)
              · rw [if_neg c6] at H
                exact absurd H (by simp)
            · rw [if_neg c5] at H
              have c5b0 : decide (x17_2 < (l0.length : Int)) = false := decide_eq_false c5
              clear c5
              replace H := Option.bind_eq_some_iff.mp H
              obtain ⟨⟨t220, t221⟩, A230, H⟩ := H
              replace H : (some (t220, t221)) = some (r1, r2) := H
              have A23 := Aside0.mk A230
              clear A230
              simp only [Option.some.injEq, Prod.mk.injEq] at H
              obtain ⟨rfl, rfl⟩ := H
              obtain ⟨Ao24, co24, eo24⟩ := Kd.R_slice HO_4.out
              subst eo24
              go_wp2_with (first | ((with_reducible refine gate_callee (f := 84) rfl ?_); refine goesL_ (some 32) rfl rfl Tryz.func84 (by kernel_rfl) rfl #[.slice Ao24 x4_2.length co24] rfl (by (try simp only [List.map_toArray, List.map_cons, List.map_nil]); first | done | rfl | (simp only [List.length_drop, List.length_take]; rfl)) ?_; (with_reducible refine (tree_Root.calls _ _ x4_2 t220 t221 _ ?side1 ?side2 ?side3 A23.out).mono ?_); (case side1 => repeat (first | exact (Kd.R_reads' HO_4.out).2.2 | (with_reducible refine Kd.C_alloc ?_ _) | (with_reducible refine Kd.C_drewN ?_ _) | (with_reducible refine Kd.C_drew ?_))); (case side2 => exact (Kd.R_reads' HO_4.out).2.1); (case side3 => first | (with_reducible exact HGL.out) | exact GL.below HGL.out (by repeat (first | (with_reducible first | exact HB.out | apply below_alloc | apply pw_below_drewN | apply below_drew1) | exact HB.out)) | exact GL.below HGL.out (by repeat (first | exact Below.refl _ _ | exact HB.out | apply below_alloc | apply pw_below_drewN | apply below_drew1))); rintro e w25 ⟨rfl, hb⟩; refine ⟨_, rfl, ?_⟩; have n0_ := Aside0.mk (Kd.R_below (by (with_reducible repeat (first | apply Kd.R_alloc | apply Kd.R_drewN | apply Kd.R_drew)); exact HO_4.out) hb); have n1_ := Aside0.mk (below_step (by repeat (first | (with_reducible first | exact HB.out | apply below_alloc | apply pw_below_drewN | apply below_drew1) | exact HB.out)) hb); clear HO_4; clear HB; have HO_4 := n0_; have HB := n1_; clear n0_ n1_; (try clear hb); (try clear hb2); (try clear hk); (try clear hi)))
              go_ret2
              exact ⟨by first | rfl | (simp [errW_none, errW_some] <;> rfl) | (simp [*, errW_none, errW_some] <;> rfl), by repeat (first | (with_reducible first | exact HB.out | apply below_alloc | apply pw_below_drewN | apply below_drew1) | exact HB.out)⟩
end Go.Proofs.YtddikdpbhjgihaaGreatDoor.X
end
section
namespace Go.Proofs.YtddikdpbhjgihaaGreatDoor.X
open Go.RowKit Go.Proofs.YtddikdpbhjgihaaGreatDoorW.PrintWords Go.Proofs.YtddikdpbhjgihaaGreatDoorW.PrintLast Go.Proofs.YtddikdpbhjgihaaGreatDoorW.PrintMore
open ObsMer (joined toL half root path)
set_option linter.unusedVariables false
set_option linter.unusedSimpArgs false
def pathR (l : List ByteArray) (i : Int) : List ByteArray × Int :=
  if l.all isDg = true ∧ 0 ≤ i ∧ i < (l.length : Int) then (path sumF l i.toNat, 0) else ([], 1)
def tree_Path.f (l0 : List ByteArray) (a1 : Int) : Option (List ByteArray × Int) := if l0.length ≤ 1000000 then some (pathR l0 a1) else none
theorem isDg_size {s : ByteArray} (h : isDg s = true) : s.size = 16 := by
  unfold isDg at h
  rw [Bool.and_eq_true] at h
  exact of_decide_eq_true h.1
theorem okB_dg {l : List ByteArray} (h : l.all isDg = true) (hl : l.length ≤ 1000000) : okB l = true := by
  unfold okB
  rw [Bool.and_eq_true, decide_eq_true_eq, List.all_eq_true]
  exact ⟨hl, fun s hs => decide_eq_true (by rw [isDg_size (List.all_eq_true.1 h s hs)]; omega)⟩
theorem strs_of_R {w : World} {base : Nat} {ok : Nat → Prop} {v : Value} {acc : List ByteArray} (h : Kd.R Kd.string 9 w base ok v acc) : w.ownsRow base 9 1 v acc.length (acc.map Value.string) := by
  obtain ⟨_, inner, ho, hl, hr⟩ := h
  have e : inner = acc.map Value.string := by
    apply List.ext_getElem?
    intro j
    by_cases hj : j < acc.length
    · have h1 := hr j acc[j] (List.getElem?_eq_getElem hj)
      have h2 : List.take 1 (List.drop (j * 1) inner) = [Value.string acc[j]] := h1
      rw [Nat.mul_one] at h2
      rw [List.getElem?_map, List.getElem?_eq_getElem hj]
      have h3 := congrArg (fun x => x[0]?) h2
      simp only [List.getElem?_take, List.getElem?_drop] at h3
      simpa using h3
    · rw [List.getElem?_eq_none (by rw [hl]; show _ ≤ _; simp [Kd.string, Kd.scalar]; omega), List.getElem?_eq_none (by simp; omega)]
  rw [e] at ho
  exact ho
theorem R_of_strs {w : World} {base : Nat} {v : Value} {acc : List ByteArray} (h : w.ownsRow base 9 1 v acc.length (acc.map Value.string)) : Kd.R Kd.string 9 w base (fun _ => True) v acc := by
  refine ⟨fun _ _ => trivial, _, h, ⟨by simp [Kd.string, Kd.scalar], fun j p hj => ?_⟩⟩
  show List.take 1 (List.drop (j * 1) (acc.map Value.string)) = [.string p]
  have hlt := (List.getElem?_eq_some_iff.1 hj).1
  rw [Nat.mul_one, List.drop_eq_getElem_cons (by simpa using hlt), List.take_succ_cons, List.take_zero, List.getElem_map]
  rw [List.getElem?_eq_getElem hlt] at hj
  rw [Option.some.inj hj]
theorem append_str {w wr W : World} {v : Value} {acc : List ByteArray} (hR : Kd.R Kd.string 9 wr w.heap.size (fun _ => True) v acc) (hb : Below w.heap.size w wr) (hW : Below wr.heap.size wr W) (s : ByteArray) (hn : acc.length ≤ 1000000) :
    ∃ v' w', (Builtin.append_ #[26, 26] 26 #[v, .slice (some ⟨W.heap.size, 0, none⟩) 1 1]).run Tryz.prog (W.alloc (.cells #[.string s] 9)) = .ok v' w' ∧ Kd.R Kd.string 9 w' w.heap.size (fun _ => True) v' (acc ++ [s]) ∧ Below w.heap.size w w' := by
  obtain ⟨i0, hi, hz0, hz1, hz2⟩ := info_parts info9
  have hR' := Kd.R_below hR hW
  have ho := strs_of_R hR'
  have hb2 := below_step hb hW
  obtain ⟨v', w', hr, ho', hg, -⟩ := run_append_own (P := Tryz.prog) (w := W.alloc (.cells #[.string s] 9)) w.heap.size 26 26 9 i0 (.string ⟨#[]⟩) 1 16 Tryz.underlying26 hi hz0 hz1 hz2 rfl (by decide) _ _ _ (ho.alloc _) ⟨W.heap.size, 0, none⟩ 1 1 [.string s] rfl (by
    intro j u hj
    match j, hj with
    | 0, hj => simp at hj; subst hj; simp [Addr.add]) (fun u hu => by simp at hu; subst hu; rfl) (by unfold maxLen; omega) (by omega) (by have := hb2.size; simp; omega)
  refine ⟨v', w', hr, R_of_strs (by simpa using ho'), ?_⟩
  exact pw_below_grown (hb2.alloc hb2.size _) _ (by have := hb2.size; simp; omega) hg (fun k hk => own_base ho k hk)
theorem setCells_row (b : Nat) (t : TypeId) : ∀ (vs : List Value) (o : Nat) (w : World) (cur : Array Value), w.heap[b]? = some (.cells cur t (0, 0)) → o + vs.length ≤ cur.size →
    ∃ cur', (w.setCells b o vs).heap[b]? = some (.cells cur' t (0, 0)) ∧ cur'.size = cur.size ∧ (∀ j, j < vs.length → cur'[o + j]? = vs[j]?) ∧ ∀ j, j < o → cur'[j]? = cur[j]?
  | [], o, w, cur, h, _ => ⟨cur, h, rfl, fun j hj => by simp at hj, fun j _ => rfl⟩
  | v :: r, o, w, cur, h, hl => by
    rw [List.length_cons] at hl
    have h1 := heap_setCell_same w b o _ _ v h
    obtain ⟨cur', h2, h3, h4, h5⟩ := setCells_row b t r (o + 1) _ _ h1 (by rw [Array.size_setIfInBounds]; omega)
    refine ⟨cur', h2, by rw [h3, Array.size_setIfInBounds], fun j hj => ?_, fun j hj => ?_⟩
    · cases j with
      | zero =>
        rw [Nat.add_zero, h5 o (by omega), Array.getElem?_setIfInBounds_self_of_lt (by omega)]
        rfl
      | succ j =>
        rw [show o + (j + 1) = o + 1 + j by omega, h4 j (by simpa using hj)]
        rfl
    · rw [h5 j (by omega), Array.getElem?_setIfInBounds_ne (by omega)]
theorem rev_own {w : World} {base : Nat} {v : Value} {acc : List ByteArray} (hR : Kd.R Kd.string 9 w base (fun _ => True) v acc) (hn : acc.length ≤ 1000000) :
    Calls Tryz.prog 91 #[v] w fun e w' => e = .returned (.tuple #[]) ∧ Kd.R Kd.string 9 w' base (fun _ => True) v acc.reverse ∧ Below base w w' := by
  have ho := strs_of_R hR
  have hl := ho.1
  rcases ho.2 with ⟨rfl, hz⟩ | ⟨g, cap, cur, rfl, hg, hh, h1, h2, h3, h4⟩
  · obtain rfl : acc = [] := List.eq_nil_of_length_eq_zero hz
    refine (Tryz.slices_Reverse_string_empty none 0 w).mono ?_
    rintro e w' ⟨rfl, rfl⟩
    exact ⟨rfl, hR, Below.refl _ _⟩
  · have hcell : ∀ i, i < acc.length → w.cell? ⟨g, 0 + i, none⟩ = some (.string (acc.getD i ByteArray.empty)) := by
      intro i hi
      rw [Nat.zero_add, cell_of_row w g i _ _ _ hh]
      have h5 := congrArg (fun x => x[i]?) h4
      simp only [List.getElem?_take, Nat.mul_one, if_pos hi, Array.getElem?_toList, List.getElem?_map, List.getElem?_eq_getElem hi] at h5
      rw [h5, List.getD_eq_getElem?_getD, List.getElem?_eq_getElem hi]
      rfl
    refine (Tryz.slices_Reverse_string_cells g 0 acc.length cap (fun i => acc.getD i ByteArray.empty) w (by omega) hcell (fun j hj => frozen_of_row w g _ _ _ hh)).mono ?_
    rintro e w' ⟨rfl, q, rfl⟩
    have hvs : (Lib.strsOf (fun i => acc.getD i ByteArray.empty) acc.length).reverse.map encStr = acc.reverse.map Value.string := by
      rw [List.map_reverse, List.map_reverse]
      congr 1
      unfold Lib.strsOf
      rw [List.map_map]
      apply List.ext_getElem?
      intro j
      by_cases hj : j < acc.length
      · rw [List.getElem?_map, List.getElem?_range hj, List.getElem?_map, List.getElem?_eq_getElem hj]
        simp only [Option.map_some, Function.comp, encStr, List.getD_eq_getElem?_getD, List.getElem?_eq_getElem hj, Option.getD_some]
      · rw [List.getElem?_eq_none (by simp; omega), List.getElem?_eq_none (by simp; omega)]
    rw [hvs]
    obtain ⟨cur', k1, k2, k3, _⟩ := setCells_row g 9 (acc.reverse.map Value.string) 0 (w.drewN q) cur hh (by simp; omega)
    refine ⟨rfl, R_of_strs ⟨by simp, .inr ⟨g, cap, cur', by rw [List.length_reverse], hg, k1, by rw [List.length_reverse]; exact h1, h2, by rw [k2]; exact h3, ?_⟩⟩, below_setCells hg _ _ _ (pw_below_drewN (Below.refl _ _) q)⟩
    apply List.ext_getElem?
    intro j
    by_cases hj : j < acc.length
    · have := k3 j (by simpa using hj)
      rw [Nat.zero_add] at this
      rw [List.getElem?_take, if_pos (by simpa using hj), Array.getElem?_toList, this]
    · rw [List.getElem?_eq_none (by simp; omega), List.getElem?_eq_none (by simp; omega)]
structure PI (w wr : World) (l : List ByteArray) (i : Nat) (A : Option Addr) (c : Nat) (m : List ByteArray) (j : Nat) (v : Value) (acc : List ByteArray) : Prop where
  C : Kd.C Kd.string w A m.length m
  hc : m.length ≤ c
  ok : okB m = true
  lt : j < m.length
  R : Kd.R Kd.string 9 wr w.heap.size (fun _ => True) v acc
  eq : path sumF l i = path sumF m j ++ acc.reverse
  len : acc.length + m.length ≤ 1000000
  bl : Below w.heap.size w wr
theorem PI.lo {w wr w' : World} {l m : List ByteArray} {i c j : Nat} {A : Option Addr} {v v' : Value} {acc : List ByteArray} (h : PI w wr l i A c m j v acc) (h2 : 2 ≤ m.length) (hj : j < half m.length)
    (hC : Kd.C Kd.string w A (m.take (half m.length)).length (m.take (half m.length))) (hR : Kd.R Kd.string 9 w' w.heap.size (fun _ => True) v' (acc ++ [root sumF (m.drop (half m.length))])) (hb : Below w.heap.size w w') :
    PI w w' l i A c (m.take (half m.length)) j v' (acc ++ [root sumF (m.drop (half m.length))]) := by
  have hl := ObsMer.half_lt h2
  have ht := ObsMer.take_half h2
  refine ⟨hC, by have := h.hc; omega, okB_take h.ok _, by omega, hR, ?_, by rw [List.length_append, ht]; have := h.len; simp; omega, hb⟩
  rw [h.eq, ObsMer.path_lo sumF h2 hj, List.reverse_append, List.append_assoc]
  rfl
theorem PI.hi {w wr w' : World} {l m : List ByteArray} {i c j : Nat} {A A2 : Option Addr} {v v' : Value} {acc : List ByteArray} (h : PI w wr l i A c m j v acc) (h2 : 2 ≤ m.length) (hj : half m.length ≤ j)
    (hC : Kd.C Kd.string w A2 (m.drop (half m.length)).length (m.drop (half m.length))) (hc : (m.drop (half m.length)).length ≤ c - half m.length) (hR : Kd.R Kd.string 9 w' w.heap.size (fun _ => True) v' (acc ++ [root sumF (m.take (half m.length))])) (hb : Below w.heap.size w w') :
    PI w w' l i A2 (c - half m.length) (m.drop (half m.length)) (j - half m.length) v' (acc ++ [root sumF (m.take (half m.length))]) := by
  have hl := ObsMer.half_lt h2
  have hp := ObsMer.half_pos m.length
  have ht := ObsMer.drop_half m
  refine ⟨hC, hc, okB_drop h.ok _, by have := h.lt; omega, hR, ?_, by rw [List.length_append, ht]; have := h.len; simp; omega, hb⟩
  rw [h.eq, ObsMer.path_hi sumF h2 hj, List.reverse_append, List.append_assoc]
  rfl
set_option maxRecDepth 100000 in
set_option maxHeartbeats 2000000 in
theorem path_walk (A : Option Addr) (c : Nat) (l : List ByteArray) (i : Nat) (w : World) (hC : Kd.C Kd.string w A l.length l) (hc : l.length ≤ c) (hgl : GL w) (hd : l.all isDg = true) (hl : l.length ≤ 1000000) (hi : i < l.length) :
    Calls Tryz.prog 29 #[.slice A l.length c, .int .i64 (i : Int)] w fun e w' => ∃ v, e = .returned (.tuple #[v, .int .i64 0]) ∧ Kd.R Kd.string 9 w' w.heap.size (fun _ => True) v (path sumF l i) ∧ Below w.heap.size w w' := by
  have HC := Aside0.mk hC
  have HGL := Aside0.mk hgl
  have HD := Aside0.mk hd
  have HOK := Aside0.mk (okB_dg hd hl)
  have HI0 := Aside0.mk hi
  have HC0 := Aside0.mk hc
  have HL0 := Aside0.mk hl
  have d1 : ((i : Int) < 0) = False := eq_false (by omega)
  have d2 : (l.length ≤ i) = False := eq_false (by omega)
  clear hC hgl hd hi hc hl
  go_enter Tryz.func29, Tryz.ntmps29
  go_wp2_with fail
  refine (tree_digests_proper.calls A c l true _ HC.out HC0.out (by unfold tree_digests_proper.f; rw [HD.out])).mono ?_
  rintro e w1 ⟨rfl, hb⟩
  have HB1 := Aside0.mk hb
  clear hb
  go_wp2_with fail
  go_loopg [0, 1, 6] l.length (fun gk v0 v1 v6 wr => ∃ (B : Option Addr) (d : Nat) (m : List ByteArray) (j : Nat) (acc : List ByteArray), m.length ≤ gk ∧ v0 = .slice B m.length d ∧ v1 = .int .i64 (j : Int) ∧ PI w wr l i B d m j v6 acc)
  case atStart => exact ⟨A, c, l, i, [], Nat.le_refl _, rfl, rfl, HC.out, HC0.out, HOK.out, HI0.out, Kd.R_nil _ _ _ _ _, by simp, by have := HL0.out; simp; omega, HB1.out⟩
  case round =>
    obtain ⟨B, d, m, j, acc, hm, rfl, rfl, hI⟩ := hrel
    have HI := Aside0.mk hI
    have hj := hI.lt
    have hm6 := okB_len hI.ok
    have HM := Aside0.mk hm
    clear hI hm
    by_cases h2 : 2 ≤ m.length
    · have h2' : ((m.length : Int) > 1) := by omega
      have hh := half_eq (k := 100) (n := m.length) (by omega) (by omega)
      have hl := ObsMer.half_lt h2
      have hp := ObsMer.half_pos m.length
      have LO := fun (w' : World) (v' : Value) => HI.out.lo (w' := w') (v' := v') h2
      have HIH := fun (w' : World) (v' : Value) (A2 : Option Addr) => HI.out.hi (w' := w') (v' := v') (A2 := A2) h2
      generalize half m.length = k at hh hl hp LO HIH
      have HH := Aside0.mk hh
      have HLO := Aside0.mk LO
      have HHI := Aside0.mk HIH
      have ht : (m.take k).length = k := by rw [List.length_take]; omega
      have hd : (m.drop k).length = m.length - k := by rw [List.length_drop]
      obtain ⟨i016, hi016, _, hsz16, _⟩ := info_parts info9
      obtain ⟨hcut1, hA1, hc1⟩ := print_take_of (P := Tryz.prog) Value.string (⟨#[]⟩ : ByteArray) 26 9 .i64 Tryz.underlying26 hi016 hsz16 B d m (k : Int) (by omega) (by omega) HI.out.hc
      obtain ⟨A2, hcut2, hA2, hc2⟩ := print_drop_of (P := Tryz.prog) Value.string (⟨#[]⟩ : ByteArray) 26 9 .i64 Tryz.underlying26 hi016 hsz16 B d m (k : Int) (by omega) (by omega) HI.out.hc
      rw [Int.toNat_natCast] at hcut1 hA1 hc1 hcut2 hA2 hc2
      have C1 := Aside0.mk (Kd.C_of_reads (h1 := fun _ => rfl) (hA1 _ (Kd.reads_of_C HI.out.C)) : Kd.C Kd.string w B (m.take k).length (m.take k))
      have C2 := Aside0.mk (Kd.C_of_reads (h1 := fun _ => rfl) (hA2 _ (Kd.reads_of_C HI.out.C)) : Kd.C Kd.string w A2 (m.drop k).length (m.drop k))
      have L1 := Aside0.mk hc1
      have L2 := Aside0.mk hc2
      rw [ht] at hcut1
      rw [hd] at hcut2
      have T1 : Aside0 (∀ (w1 : World), Below w.heap.size w w1 → Calls Tryz.prog 90 #[.slice B (k : Nat) d] w1 fun e w' => e = .returned (.string (root sumF (m.take k))) ∧ Below w1.heap.size w1 w') := ⟨fun w1 hb => by
        have := total_walk B d (m.take k) w1 (Kd.C_below C1.out hb) L1.out (HGL.out.below hb) (okB_take HI.out.ok k)
        rw [ht] at this; exact this⟩
      have T2 : Aside0 (∀ (w1 : World), Below w.heap.size w w1 → Calls Tryz.prog 90 #[.slice A2 (m.length - k) (d - k)] w1 fun e w' => e = .returned (.string (root sumF (m.drop k))) ∧ Below w1.heap.size w1 w') := ⟨fun w1 hb => by
        have := total_walk A2 (d - k) (m.drop k) w1 (Kd.C_below C2.out hb) L2.out (HGL.out.below hb) (okB_drop HI.out.ok k)
        rw [hd] at this; exact this⟩
      have HT := Aside0.mk ht
      have HDR := Aside0.mk hd
      clear hh LO HIH hA1 hA2 hc1 hc2 hi016 hsz16 ht hd
      by_cases hjk : j < k
      · have hjk' : (j : Int) < (k : Int) := by omega
        go_wp2_with fail
        refine (tree_half.calls 100 _ _ _ HH.out).mono ?_
        rintro e w' ⟨rfl, ⟨nd, rfl⟩⟩
        have HBn := Aside0.mk (pw_below_drewN HI.out.bl nd)
        have HRn := Aside0.mk (Kd.R_drewN HI.out.R nd)
        generalize wr.drewN nd = wn at HBn HRn
        go_wp2_with (first | ((with_reducible refine gate_callee (f := 90) rfl ?_); refine goesL_ (some 34) rfl rfl Tryz.func90 (by kernel_rfl) rfl #[.slice A2 (m.length - k) (d - k)] rfl (by (try simp only [List.map_toArray, List.map_cons, List.map_nil]); first | done | rfl) ?_; refine (T2.out _ HBn.out).mono ?_; rintro e w2 ⟨rfl, hb⟩; refine ⟨_, rfl, ?_⟩; obtain ⟨v', w3, hr, hR, hb3⟩ := append_str HRn.out HBn.out hb (root sumF (m.drop k)) (by have := HI.out.len; omega); have HR3 := Aside0.mk hR; have HB3 := Aside0.mk hb3; clear hb hR hb3) | (at_builtin; refine ObsMap.wpList_append_of rfl _ _ 26 26 rfl _ _ rfl rfl _ _ hr ?_; clear hr))
        go_roundg k
        case rel => exact ⟨B, d, m.take k, j, _, by rw [HT.out]; exact Nat.le_refl _, by rw [HT.out], rfl, HLO.out _ _ hjk C1.out HR3.out HB3.out⟩
        case measure => have := HM.out; omega
      · have hjk' : ¬ ((j : Int) < (k : Int)) := by omega
        go_wp2_with fail
        refine (tree_half.calls 100 _ _ _ HH.out).mono ?_
        rintro e w' ⟨rfl, ⟨nd, rfl⟩⟩
        have HBn := Aside0.mk (pw_below_drewN HI.out.bl nd)
        have HRn := Aside0.mk (Kd.R_drewN HI.out.R nd)
        generalize wr.drewN nd = wn at HBn HRn
        go_wp2_with (first | ((with_reducible refine gate_callee (f := 90) rfl ?_); refine goesL_ (some 44) rfl rfl Tryz.func90 (by kernel_rfl) rfl #[.slice B (k : Nat) d] rfl (by (try simp only [List.map_toArray, List.map_cons, List.map_nil]); first | done | rfl) ?_; refine (T1.out _ HBn.out).mono ?_; rintro e w2 ⟨rfl, hb⟩; refine ⟨_, rfl, ?_⟩; obtain ⟨v', w3, hr, hR, hb3⟩ := append_str HRn.out HBn.out hb (root sumF (m.take k)) (by have := HI.out.len; omega); have HR3 := Aside0.mk hR; have HB3 := Aside0.mk hb3; clear hb hR hb3) | (at_builtin; refine ObsMap.wpList_append_of rfl _ _ 26 26 rfl _ _ rfl rfl _ _ hr ?_; clear hr))
        go_roundg (m.length - k)
        case rel => exact ⟨A2, d - k, m.drop k, j - k, _, by rw [HDR.out]; exact Nat.le_refl _, by rw [HDR.out], by go_num, HHI.out _ _ _ (by omega) C2.out L2.out HR3.out HB3.out⟩
        case measure => have := HM.out; omega
    · have h2' : ¬ ((m.length : Int) > 1) := by omega
      have HP := Aside0.mk (show path sumF l i = acc.reverse by rw [HI.out.eq, ObsMer.path_one sumF (by omega), List.nil_append])
      go_wp2_with fail
      refine (rev_own HI.out.R (by have := HI.out.len; omega)).mono ?_
      rintro e w2 ⟨rfl, hR, hb⟩
      have HR2 := Aside0.mk hR
      have HB2 := Aside0.mk (HI.out.bl.trans hb)
      clear hR hb
      go_wp2_with fail
      go_ret2
      exact ⟨_, rfl, by rw [HP.out]; exact HR2.out, HB2.out⟩
set_option maxRecDepth 100000 in
theorem path_bad (A : Option Addr) (c : Nat) (l : List ByteArray) (i : Int) (w : World) (hC : Kd.C Kd.string w A l.length l) (hc : l.length ≤ c) (hb : ¬ (l.all isDg = true ∧ 0 ≤ i ∧ i < (l.length : Int))) :
    Calls Tryz.prog 29 #[.slice A l.length c, .int .i64 i] w fun e w' => e = .returned (.tuple #[.slice none 0 0, .int .i64 1]) ∧ Below w.heap.size w w' := by
  have HC := Aside0.mk hC
  have HBd := Aside0.mk hb
  clear hC hb
  cases ha : l.all isDg with
  | false =>
    have HA := Aside0.mk ha
    clear ha
    go_enter Tryz.func29, Tryz.ntmps29
    go_wp2_with fail
    refine (tree_digests_proper.calls A c l false _ HC.out hc (by unfold tree_digests_proper.f; rw [HA.out])).mono ?_
    rintro e w1 ⟨rfl, hb⟩
    have HB := Aside0.mk hb
    clear hb
    go_wp2_with fail
    go_ret2
    exact ⟨rfl, HB.out⟩
  | true =>
    have HA := Aside0.mk ha
    have hi : i < 0 ∨ (l.length : Int) ≤ i := by
      have := HBd.out
      rw [ha] at this
      by_cases h0 : i < 0
      · exact .inl h0
      · exact .inr (by
          by_cases h1 : (l.length : Int) ≤ i
          · exact h1
          · exact absurd ⟨rfl, by omega, by omega⟩ this)
    clear ha
    by_cases h0 : i < 0
    · clear hi
      go_enter Tryz.func29, Tryz.ntmps29
      go_wp2_with fail
      refine (tree_digests_proper.calls A c l true _ HC.out hc (by unfold tree_digests_proper.f; rw [HA.out])).mono ?_
      rintro e w1 ⟨rfl, hb⟩
      have HB := Aside0.mk hb
      clear hb
      go_wp2_with fail
      go_ret2
      exact ⟨rfl, HB.out⟩
    · have h1 : (i ≥ (l.length : Int)) := by omega
      clear hi
      go_enter Tryz.func29, Tryz.ntmps29
      go_wp2_with fail
      refine (tree_digests_proper.calls A c l true _ HC.out hc (by unfold tree_digests_proper.f; rw [HA.out])).mono ?_
      rintro e w1 ⟨rfl, hb⟩
      have HB := Aside0.mk hb
      clear hb
      go_wp2_with fail
      go_ret2
      exact ⟨rfl, HB.out⟩
theorem tree_Path.calls (A0 : Option Addr) (c0 : Nat) (l0 : List ByteArray) (a1 : Int) (r1 : List ByteArray) (r2 : Int) (w : World) (hr0 : Kd.C Kd.string w A0 l0.length l0) (hc0 : l0.length ≤ c0) (hgl : GL w) (h : tree_Path.f l0 a1 = some (r1, r2)) :
    Calls Tryz.prog 29 #[.slice A0 l0.length c0, .int .i64 a1] w fun e w' => ∃ v0_ : Value, e = .returned (.tuple #[v0_, .int .i64 r2]) ∧ Kd.R Kd.string 9 w' w.heap.size (fun _ => True) v0_ r1 ∧ Below w.heap.size w w' := by
  unfold tree_Path.f at h
  split at h
  · rename_i hl
    have e := Option.some.inj h
    unfold pathR at e
    by_cases hb : l0.all isDg = true ∧ 0 ≤ a1 ∧ a1 < (l0.length : Int)
    · rw [if_pos hb] at e
      injection e with e1 e2
      subst e1 e2
      obtain ⟨i, rfl⟩ := Int.eq_ofNat_of_zero_le hb.2.1
      rw [Int.toNat_natCast]
      exact path_walk A0 c0 l0 i w hr0 hc0 hgl hb.1 hl (by have := hb.2.2; omega)
    · rw [if_neg hb] at e
      injection e with e1 e2
      subst e1 e2
      refine (path_bad A0 c0 l0 a1 w hr0 hc0 hb).mono ?_
      rintro e w' ⟨rfl, hbl⟩
      exact ⟨_, rfl, Kd.R_nil _ _ _ _ _, hbl⟩
  · cases h
end Go.Proofs.YtddikdpbhjgihaaGreatDoor.X
end
