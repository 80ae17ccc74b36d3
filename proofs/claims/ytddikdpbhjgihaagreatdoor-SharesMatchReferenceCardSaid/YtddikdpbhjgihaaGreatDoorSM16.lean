import Derived.Test.YtddikdpbhjgihaaGreatDoorSM06
import Derived.Test.YtddikdpbhjgihaaGreatDoorSM10
import Derived.Test.YtddikdpbhjgihaaGreatDoorSM15
import Derived.Test.YtddikdpbhjgihaaGreatDoorSM12
import Derived.Test.YtddikdpbhjgihaaGreatDoorSM13
import Derived.Test.YtddikdpbhjgihaaGreatDoorSM14
section
namespace Go.Proofs.YtddikdpbhjgihaaGreatDoor.X
open Go.RowKit Go.Proofs.YtddikdpbhjgihaaGreatDoorW.PrintWords Go.Proofs.YtddikdpbhjgihaaGreatDoorW.PrintLast Go.Proofs.YtddikdpbhjgihaaGreatDoorW.PrintMore
set_option linter.unusedVariables false
set_option maxRecDepth 100000
set_option linter.unusedSimpArgs false
def cnt (l : List S25) (j : Int) : Nat := (l.filter (fun s => decide (s.f0 = j))).length
def validS (s : S25) : Bool := decide (1 ≤ s.f0) && decide (s.f0 ≤ 16) && inP s.f1
def twice (l : List S25) : Bool := (List.range 17).any (fun (j : Nat) => decide (1 < cnt l (j : Int)))
def asPt (s : S25) : S125 := ⟨s.f0, s.f1⟩
def joinF (l : List S25) (need : Int) : Int × Int :=
  if need < 1 ∨ need > 16 then (0, 1)
  else if l.all validS = false then (0, 1)
  else if twice l = true then (0, 8)
  else if (l.length : Int) < need then (0, 25)
  else if (l.drop need.toNat).any (fun s => decide (interpF ((l.take need.toNat).map asPt) s.f0 ≠ (s.f1, 0))) = true then (0, 24)
  else interpF ((l.take need.toNat).map asPt) 0
def JPost (r : Int × Int) (w : World) (e : Ending) (w' : World) : Prop := e = .returned (.tuple #[.int .i64 r.1, .int .i64 r.2]) ∧ Below w.heap.size w w'
theorem valid_eq (s : S25) : shares_valid.f s.f0 s.f1 = some (validS s) := by
  unfold shares_valid.f validS
  have : shares_element.f s.f1 = some (inP s.f1) := by
    unfold shares_element.f inP
    by_cases h : 0 ≤ s.f1 <;> simp [h]
  rw [this]
  by_cases h1 : s.f0 ≥ 1
  · rw [if_pos h1]
    by_cases h2 : s.f0 ≤ 16
    · rw [if_pos h2]
      have h1' : 1 ≤ s.f0 := h1
      simp [h1', h2]
    · rw [if_neg h2]; simp [h2]
  · rw [if_neg h1]
    have h1' : ¬ 1 ≤ s.f0 := h1
    simp [h1']
def cntA (l : List S25) : Array Value := ((List.range 17).map (fun (j : Nat) => Value.int .i64 (cnt l (j : Int)))).toArray
theorem cntA_get (l : List S25) {m : Nat} (h : m < 17) : (cntA l)[m]? = some (.int .i64 (cnt l (m : Int))) := by
  unfold cntA
  rw [List.getElem?_toArray, List.getElem?_map, List.getElem?_range h]
  rfl
theorem run_index66 (w : World) (a : Array Value) (j : Nat) (u : Value) (hs : a.size = 17) (hj : j < 17) (hu : a[j]? = some u) : (Instr.index 121 (.agg a) (.int .i64 (j : Int))).run Tryz.prog w = .ok u w := by
  have h66 := Tryz.underlying121
  unfold Instr.index
  go_simp
  exact (Array.getElem?_eq_some_iff.1 hu).2
theorem run_slice46 (w : World) (A : Option Addr) (n c m : Nat) (hm : m ≤ n) (hc : n ≤ c) (hn : n ≤ 9223372036854775807) : (Instr.sliceAt 23 (.slice A n c) (some (.int .i64 (m : Int))) none none).run Tryz.prog w = .ok (.slice (if c = m then A else A.map (·.add (m * 2))) (n - m) (c - m)) w := by
  have h66 := Tryz.underlying23
  have h54 := info25
  go_simp
theorem cnt_le (l : List S25) (j : Int) : cnt l j ≤ l.length := List.length_filter_le _ _
theorem cntA_step {l : List S25} {k m : Nat} (hk : k < l.length) (hm : l[k].f0 = (m : Int)) : (cntA (l.take k)).setIfInBounds m (.int .i64 ((cnt (l.take k) (m : Int) : Int) + 1)) = cntA (l.take (k + 1)) := by
  have e : ∀ j : Nat, cnt (l.take (k + 1)) (j : Int) = cnt (l.take k) (j : Int) + if j = m then 1 else 0 := by
    intro j
    unfold cnt
    rw [List.take_succ_eq_append_getElem hk, List.filter_append, List.length_append]
    by_cases h : j = m
    · subst h; simp [hm]
    · have : ¬ ((m : Int) = (j : Int)) := by omega
      simp [hm, h, this]
  apply Array.ext_getElem?
  intro j
  rw [Array.getElem?_setIfInBounds]
  have hsz : ∀ l, (cntA l).size = 17 := fun l => by simp [cntA]
  by_cases hj : j < 17
  · rw [cntA_get _ hj, cntA_get _ hj, e j, hsz]
    by_cases h : m = j
    · subst h; simp [hj]
    · have h' : ¬ j = m := fun x => h x.symm
      simp [h, h']
  · rw [Array.getElem?_eq_none (by rw [hsz]; omega), Array.getElem?_eq_none (by rw [hsz]; omega), hsz]
    by_cases h : m = j
    · subst h; simp [hj]
    · simp [h]
structure J1 (w wr : World) (l : List S25) (k : Nat) : Prop where
  bl : Below w.heap.size w wr
  blk : wr.heap[w.heap.size]? = some (.cells (cntA (l.take k)) 121 (0, 0))
  ok : (l.take k).all validS = true
set_option maxHeartbeats 1000000 in
theorem join_walk (need : Nat) (A : Option Addr) (c : Nat) (l : List S25) (w : World) (hC0 : Kd.C k25 w A l.length l) (hc : l.length ≤ c) (n1 : 1 ≤ need) (n2 : need ≤ 16) :
    Calls Tryz.prog 19 #[.slice A l.length c, .int .i64 (need : Int)] w (JPost (joinF l need) w) := by
  have HC0 := Aside0.mk hC0
  have hlen := hC0.2.1
  have g1 : ¬ ((need : Int) < 1) := by omega
  have g2 : ¬ ((need : Int) > 16) := by omega
  clear hC0
  go_enter Tryz.func19, Tryz.ntmps19
  go_wp2_with fail
  go_loopg [27] l.length (fun g v27 wr => ∃ k : Nat, k + g = l.length ∧ v27 = .int .i64 k ∧ J1 w wr l k)
  case atStart =>
    refine ⟨0, by omega, rfl, (Below.refl _ _).alloc (Nat.le_refl _) _, ?_, rfl⟩
    rw [heap_last]
    rfl
  case round =>
    obtain ⟨k, hk, rfl, hI⟩ := hrel
    have HI := Aside0.mk hI
    clear hI
    by_cases hlt : k < l.length
    · have hlt' : (k : Int) < (l.length : Int) := by omega
      obtain ⟨ad, e0, a0, a1⟩ := at_T25 (Kd.C_below HC0.out HI.out.bl) (k : Int) (by omega) hlt'
      subst e0
      rw [Int.toNat_natCast] at a0 a1
      have hget : rd_T25 l (k : Int) = l[k] := by
        unfold rd_T25
        rw [Int.toNat_natCast, List.getD_eq_getElem?_getD, List.getElem?_eq_getElem hlt, Option.getD_some]
      rw [hget] at a0 a1
      have HGet := Aside0.mk hget
      clear hget
      cases hv : validS l[k] with
      | true =>
        have E1 := valid_eq l[k]
        rw [hv] at E1
        obtain ⟨m, hm, m1, m2⟩ : ∃ m : Nat, l[k].f0 = (m : Int) ∧ 1 ≤ m ∧ m ≤ 16 := by
          unfold validS at hv
          simp only [Bool.and_eq_true, decide_eq_true_eq] at hv
          exact ⟨l[k].f0.toNat, by omega, by omega, by omega⟩
        rw [hm] at a0 E1
        have HM := Aside0.mk hm
        have E1 := Aside0.mk E1
        have HV := Aside0.mk hv
        clear hv hm
        go_wp2_with fail
        refine (shares_valid.calls (m : Int) l[k].f1 true _ E1.out).mono ?_
        rintro e w' ⟨rfl, hb⟩
        have hlo : w.heap.size < wr.heap.size := by
          have := HI.out.blk
          exact (Array.getElem?_eq_some_iff.1 this).1
        have hsz : (wr.alloc (.cells #[Value.int .i64 (m : Int), Value.int .i64 l[k].f1] 25)).heap.size = wr.heap.size + 1 := by show (wr.heap.push _).size = _; simp
        have hs : w'.heap[wr.heap.size]? = some (.cells #[Value.int .i64 (m : Int), Value.int .i64 l[k].f1] 25 (0, 0)) := (hb.block _ (by rw [hsz]; omega)).trans (heap_last wr _)
        have hS : w'.heap[w.heap.size]? = some (.cells (cntA (l.take k)) 121 (0, 0)) := (hb.block _ (by rw [hsz]; omega)).trans (((below_alloc (Below.refl _ _) _).block _ hlo).trans HI.out.blk)
        have c0 : w'.cell? ⟨wr.heap.size, 0, none⟩ = some (.int .i64 (m : Int)) := cell_of_row w' _ 0 _ _ _ hs
        obtain ⟨q, hq⟩ : ∃ q, q = cnt (l.take k) (m : Int) := ⟨_, rfl⟩
        have c1 : w'.cell? ⟨w.heap.size, m, none⟩ = some (.int .i64 (q : Int)) := by
          rw [hq, ← cntA_get _ (show m < 17 by omega)]
          exact cell_of_row w' _ m _ _ _ hS
        have f1 := frozen_of_row w' _ m _ _ hS
        have hql : q ≤ k := by
          have := cnt_le (l.take k) (m : Int)
          rw [List.length_take] at this
          omega
        have HQ := Aside0.mk hq
        have hB := Aside0.mk (below_step (Below.alloc HI.out.bl HI.out.bl.size _) hb)
        have HS := Aside0.mk hS
        clear hb hs hS hsz hq
        go_wp2_with fail
        go_roundg (gk - 1)
        case rel =>
          refine ⟨k + 1, by omega, by go_num, ?_, ?_, ?_⟩
          · exact hB.out.setCell (Nat.le_refl _) _
          · rw [← cntA_step hlt HM.out, ← HQ.out]
            exact blk_setCell HS.out
          · rw [List.take_succ_eq_append_getElem hlt, List.all_append, HI.out.ok]
            simp [HV.out]
        case measure => omega
      | false =>
        have E1 := Aside0.mk (valid_eq l[k])
        rw [hv] at E1
        have HR := Aside0.mk (show joinF l (need : Int) = (0, 1) from by
          unfold joinF
          rw [if_neg (by omega), if_pos]
          rw [List.all_eq_false]
          exact ⟨l[k], List.getElem_mem hlt, by rw [hv]; simp⟩)
        clear hv
        go_wp2_with fail
        refine (shares_valid.calls l[k].f0 l[k].f1 false _ E1.out).mono ?_
        rintro e w' ⟨rfl, hb⟩
        have hB := Aside0.mk (below_step (Below.alloc HI.out.bl HI.out.bl.size _) hb)
        clear hb
        go_wp2_with fail
        go_ret2
        rw [HR.out]
        exact ⟨rfl, hB.out⟩
    · obtain rfl : k = l.length := by omega
      have HAL := Aside0.mk (show l.all validS = true by have := HI.out.ok; rwa [List.take_length] at this)
      have HS := Aside0.mk (show wr.heap[w.heap.size]? = some (.cells (cntA l) 121 (0, 0)) by have := HI.out.blk; rwa [List.take_length] at this)
      have HBL := Aside0.mk HI.out.bl
      clear HI
      obtain ⟨cv, hcve⟩ : ∃ cv : Nat → Int, ∀ j : Nat, cv j = (cnt l (j : Int) : Int) := ⟨_, fun _ => rfl⟩
      have hcv : ∀ j, j < 17 → wr.cell? ⟨w.heap.size, j, none⟩ = some (.int .i64 (cv j)) := fun j hj => by
        rw [hcve j, ← cntA_get _ hj]
        exact cell_of_row wr _ j _ _ _ HS.out
      have d0 : wr.cell? ⟨w.heap.size, 0, none⟩ = some (.int .i64 (cv 0)) := hcv 0 (by decide)
      have d1 : wr.cell? ⟨w.heap.size, 1, none⟩ = some (.int .i64 (cv 1)) := hcv 1 (by decide)
      have d2 : wr.cell? ⟨w.heap.size, 2, none⟩ = some (.int .i64 (cv 2)) := hcv 2 (by decide)
      have d3 : wr.cell? ⟨w.heap.size, 3, none⟩ = some (.int .i64 (cv 3)) := hcv 3 (by decide)
      have d4 : wr.cell? ⟨w.heap.size, 4, none⟩ = some (.int .i64 (cv 4)) := hcv 4 (by decide)
      have d5 : wr.cell? ⟨w.heap.size, 5, none⟩ = some (.int .i64 (cv 5)) := hcv 5 (by decide)
      have d6 : wr.cell? ⟨w.heap.size, 6, none⟩ = some (.int .i64 (cv 6)) := hcv 6 (by decide)
      have d7 : wr.cell? ⟨w.heap.size, 7, none⟩ = some (.int .i64 (cv 7)) := hcv 7 (by decide)
      have d8 : wr.cell? ⟨w.heap.size, 8, none⟩ = some (.int .i64 (cv 8)) := hcv 8 (by decide)
      have d9 : wr.cell? ⟨w.heap.size, 9, none⟩ = some (.int .i64 (cv 9)) := hcv 9 (by decide)
      have d10 : wr.cell? ⟨w.heap.size, 10, none⟩ = some (.int .i64 (cv 10)) := hcv 10 (by decide)
      have d11 : wr.cell? ⟨w.heap.size, 11, none⟩ = some (.int .i64 (cv 11)) := hcv 11 (by decide)
      have d12 : wr.cell? ⟨w.heap.size, 12, none⟩ = some (.int .i64 (cv 12)) := hcv 12 (by decide)
      have d13 : wr.cell? ⟨w.heap.size, 13, none⟩ = some (.int .i64 (cv 13)) := hcv 13 (by decide)
      have d14 : wr.cell? ⟨w.heap.size, 14, none⟩ = some (.int .i64 (cv 14)) := hcv 14 (by decide)
      have d15 : wr.cell? ⟨w.heap.size, 15, none⟩ = some (.int .i64 (cv 15)) := hcv 15 (by decide)
      have d16 : wr.cell? ⟨w.heap.size, 16, none⟩ = some (.int .i64 (cv 16)) := hcv 16 (by decide)
      have HA := Aside0.mk (show (#[.int .i64 (cv 0), .int .i64 (cv 1), .int .i64 (cv 2), .int .i64 (cv 3), .int .i64 (cv 4), .int .i64 (cv 5), .int .i64 (cv 6), .int .i64 (cv 7), .int .i64 (cv 8), .int .i64 (cv 9), .int .i64 (cv 10), .int .i64 (cv 11), .int .i64 (cv 12), .int .i64 (cv 13), .int .i64 (cv 14), .int .i64 (cv 15), .int .i64 (cv 16)] : Array Value) = cntA l by
        unfold cntA
        simp only [hcve]
        rfl)
      have HCV := Aside0.mk hcve
      clear hcv hcve
      go_wp2_with fail
      clear d0 d1 d2 d3 d4 d5 d6 d7 d8 d9 d10 d11 d12 d13 d14 d15 d16
      rw [HA.out]
      go_loopg [42] 17 (fun gk v42 wr' => ∃ j : Nat, j + gk = 17 ∧ v42 = .int .i64 j ∧ wr' = wr ∧ ∀ i : Nat, i < j → cnt l (i : Int) ≤ 1)
      case atStart => exact ⟨0, by omega, rfl, rfl, fun i hi => by omega⟩
      case round =>
        obtain ⟨j, hj, rfl, rfl, hI⟩ := hrel
        have HI := Aside0.mk hI
        clear hI
        by_cases hlt2 : j < 17
        · have hlt2' : (j : Int) < 17 := by omega
          obtain ⟨q, hq⟩ : ∃ q, q = cnt l (j : Int) := ⟨_, rfl⟩
          have hix := run_index66 wr (cntA l) j (.int .i64 (q : Int)) (by simp [cntA]) hlt2 (by rw [hq]; exact cntA_get l hlt2)
          have HQ := Aside0.mk hq
          clear hq
          by_cases hgt : (q : Int) > 1
          · have HR := Aside0.mk (show joinF l (need : Int) = (0, 8) from by
              unfold joinF
              rw [if_neg (by omega), if_neg (by rw [HAL.out]; simp), if_pos]
              unfold twice
              rw [List.any_eq_true]
              refine ⟨j, List.mem_range.2 hlt2, ?_⟩
              rw [← HQ.out, decide_eq_true_eq]
              omega)
            go_wp2_with fail
            clear hix
            go_ret2
            rw [HR.out]
            exact ⟨rfl, HBL.out⟩
          · have HQ1 := Aside0.mk (show q ≤ 1 by omega)
            go_wp2_with fail
            clear hix
            go_roundg (gk - 1)
            case rel =>
              refine ⟨j + 1, by omega, by go_num, rfl, fun i hi => ?_⟩
              by_cases h : i = j
              · subst h; rw [← HQ.out]; exact HQ1.out
              · exact HI.out i (by omega)
            case measure => omega
        · obtain rfl : j = 17 := by omega
          have HT := Aside0.mk (show twice l = false by
            unfold twice
            rw [List.any_eq_false]
            intro i hi
            have := HI.out i (List.mem_range.1 hi)
            simp; omega)
          by_cases hq : l.length < need
          · have hq' : (l.length : Int) < (need : Int) := by omega
            have HR := Aside0.mk (show joinF l (need : Int) = (0, 25) from by
              unfold joinF
              rw [if_neg (by omega), if_neg (by rw [HAL.out]; simp), if_neg (by rw [HT.out]; simp), if_pos hq'])
            go_wp2_with fail
            go_ret2
            rw [HR.out]
            exact ⟨rfl, HBL.out⟩
          · have hq' : ¬ ((l.length : Int) < (need : Int)) := by omega
            go_wp2_with fail
            clear hlt2
            go_loopg [56, 11] need (fun gk v56 v11 wr' => ∃ k : Nat, k + gk = need ∧ v56 = .int .i64 k ∧ Below w.heap.size w wr' ∧ Kd.R k125 125 wr' w.heap.size (fun _ => True) v11 ((l.take k).map asPt))
            case atStart => exact ⟨0, by omega, rfl, HBL.out, Kd.R_nil _ _ _ _ _⟩
            case round =>
              obtain ⟨k, hk, rfl, hB3, hR3⟩ := hrel
              have HB3 := Aside0.mk hB3
              have HR3 := Aside0.mk hR3
              clear hB3 hR3
              by_cases hlt3 : k < need
              · have hlt3' : (k : Int) < (need : Int) := by omega
                have hkl : k < l.length := by omega
                obtain ⟨ad, e0, a0, a1⟩ := at_T25 (Kd.C_below HC0.out HB3.out) (k : Int) (by omega) (by omega)
                subst e0
                rw [Int.toNat_natCast] at a0 a1
                have hget : rd_T25 l (k : Int) = l[k] := by
                  unfold rd_T25
                  rw [Int.toNat_natCast, List.getD_eq_getElem?_getD, List.getElem?_eq_getElem hkl, Option.getD_some]
                rw [hget] at a0 a1
                clear hget
                have hsz1 : (wr.alloc (.cells #[Value.int .i64 l[k].f0, Value.int .i64 l[k].f1] 25)).heap.size = wr.heap.size + 1 := by show (wr.heap.push _).size = _; simp
                have hsz : w.heap.size ≤ (wr.alloc (.cells #[Value.int .i64 l[k].f0, Value.int .i64 l[k].f1] 25)).heap.size := (Below.alloc HB3.out HB3.out.size (.cells #[Value.int .i64 l[k].f0, Value.int .i64 l[k].f1] 25)).size
                go_wp2_with (at_builtin; go_loud (refine Kd.R_append k125 (w0 := w) (W := wr.alloc (.cells #[Value.int .i64 l[k].f0, Value.int .i64 l[k].f1] 25)) w.heap.size rfl (.tmp 60) (.tmp 66) 124 125 (.agg #[(.int .i64 0), (.int .i64 0)]) 16 rfl Tryz.underlying124 info125 rfl (by decide) (by decide) u11 ((l.take k).map asPt) (asPt l[k]) [.int .i64 l[k].f0, .int .i64 l[k].f1] (fun _ => True) (fun _ => False) rfl (by rw [hsz1]; rfl) (k125_mkM _ _ _ (asPt l[k])) (fun _ hk => hk.elim) (fun _ _ => trivial) (Kd.R_alloc HR3.out _) (Below.alloc HB3.out HB3.out.size _) hsz (by rw [List.length_map, List.length_take]; omega) ?_; intro v1 w1 hR1 hB1 _ _))
                have HR1 := Aside0.mk hR1
                have HB1 := Aside0.mk hB1
                clear hR1 hB1 hsz hsz1
                go_roundg (gk - 1)
                case rel =>
                  refine ⟨k + 1, by omega, by go_num, HB1.out, ?_⟩
                  rw [List.take_succ_eq_append_getElem hkl, List.map_append]
                  exact HR1.out
                case measure => omega
              · obtain rfl : k = need := by omega
                obtain ⟨A3, c3, e3⟩ := Kd.R_slice HR3.out
                subst e3
                obtain ⟨-, hc3, hC3⟩ := Kd.R_reads' HR3.out
                obtain ⟨q, hq⟩ : ∃ q, q = (l.take k).map asPt := ⟨_, rfl⟩
                obtain ⟨dl, hdl⟩ : ∃ dl, dl = l.drop k := ⟨_, rfl⟩
                obtain ⟨A2, hA2⟩ : ∃ A2, A2 = (if c = k then A else A.map (·.add (k * 2))) := ⟨_, rfl⟩
                have hsl : (Instr.sliceAt 23 (.slice A l.length c) (some (.int .i64 (k : Int))) none none).run Tryz.prog wr = .ok (.slice A2 dl.length (c - k)) wr := by
                  rw [run_slice46 wr A l.length c k (by omega) hc hlen, hA2, hdl, List.length_drop]
                have hCD : Kd.C k25 w A2 dl.length dl := by
                  rw [hA2, hdl]
                  exact Kd.C_drop HC0.out (by omega) hc
                rw [← hq] at hC3 hc3
                have HC3 := Aside0.mk hC3
                have HCD := Aside0.mk hCD
                have hd0 : dl.length ≤ l.length := by rw [hdl, List.length_drop]; omega
                have HQ := Aside0.mk hq
                have HDL := Aside0.mk hdl
                rw [← hq]
                clear HR3 hC3 hCD hq hdl hA2
                go_wp2_with fail
                clear hsl
                go_loopg [75] dl.length (fun gk v75 wr' => ∃ i : Nat, i + gk = dl.length ∧ v75 = .int .i64 i ∧ Below wr.heap.size wr wr' ∧ ∀ j s, j < i → dl[j]? = some s → interpF q s.f0 = (s.f1, 0))
                case atStart => exact ⟨0, by omega, rfl, Below.refl _ _, fun j s hj => by omega⟩
                case round =>
                  obtain ⟨i, hi, rfl, hB4, hI4⟩ := hrel
                  have HB4 := Aside0.mk hB4
                  have HI4 := Aside0.mk hI4
                  have HC4 := Aside0.mk (Kd.C_below HC3.out hB4)
                  have HB5 := Aside0.mk (below_step HB3.out hB4)
                  clear hB4 hI4
                  by_cases hlt4 : i < dl.length
                  · have hlt4' : (i : Int) < (dl.length : Int) := by omega
                    obtain ⟨ad, e0, a0, a1⟩ := at_T25 (Kd.C_below HCD.out HB5.out) (i : Int) (by omega) hlt4'
                    subst e0
                    rw [Int.toNat_natCast] at a0 a1
                    have hget : rd_T25 dl (i : Int) = dl[i] := by
                      unfold rd_T25
                      rw [Int.toNat_natCast, List.getD_eq_getElem?_getD, List.getElem?_eq_getElem hlt4, Option.getD_some]
                    rw [hget] at a0 a1
                    clear hget
                    obtain ⟨s, hs⟩ : ∃ s, dl[i]? = some s := ⟨_, List.getElem?_eq_getElem hlt4⟩
                    have hs2 : dl[i] = s := by rw [List.getElem?_eq_getElem hlt4] at hs; exact Option.some.inj hs
                    rw [hs2] at a0 a1
                    have HS4 := Aside0.mk hs
                    clear hs hs2
                    obtain ⟨y, e, hye⟩ : ∃ y e, interpF q s.f0 = (y, e) := ⟨_, _, rfl⟩
                    have E4 := Aside0.mk (show shares_points_at.f q s.f0 = some (y, e) by unfold shares_points_at.f field_Interpolate.f; rw [hye]; rfl)
                    have HYE := Aside0.mk hye
                    clear hye
                    go_wp2_with fail
                    have hC5 := Kd.C_alloc HC4.out (.cells #[Value.int .i64 s.f0, Value.int .i64 s.f1] 25)
                    refine (shares_points_at.calls A3 c3 q s.f0 y e _ hC5 hc3 E4.out).mono ?_
                    clear hC5
                    rintro e' w' ⟨rfl, hb⟩
                    have hsz : (wr.alloc (.cells #[Value.int .i64 s.f0, Value.int .i64 s.f1] 25)).heap.size = wr.heap.size + 1 := by show (wr.heap.push _).size = _; simp
                    have hs : w'.heap[wr.heap.size]? = some (.cells #[Value.int .i64 s.f0, Value.int .i64 s.f1] 25 (0, 0)) := (hb.block _ (by rw [hsz]; omega)).trans (heap_last wr _)
                    have b1 : w'.cell? ⟨wr.heap.size, 1, none⟩ = some (.int .i64 s.f1) := cell_of_row w' _ 1 _ _ _ hs
                    have hB6 := Aside0.mk (below_step (Below.alloc HB4.out HB4.out.size _) hb)
                    have hB7 := Aside0.mk (below_step HB3.out hB6.out)
                    clear hb hs hsz
                    have HR24 := Aside0.mk (show interpF q s.f0 ≠ (s.f1, 0) → joinF l (k : Int) = (0, 24) from fun hne => by
                      unfold joinF
                      rw [if_neg (by omega), if_neg (by rw [HAL.out]; simp), if_neg (by rw [HT.out]; simp), if_neg (by omega), if_pos]
                      rw [Int.toNat_natCast, ← HQ.out, ← HDL.out, List.any_eq_true]
                      exact ⟨s, List.mem_of_getElem? HS4.out, decide_eq_true hne⟩)
                    by_cases he : e = 0
                    · by_cases hy : y = s.f1
                      · have HOK := Aside0.mk (show interpF q s.f0 = (s.f1, 0) by rw [HYE.out, he, hy])
                        subst he
                        subst hy
                        go_wp2_with fail
                        go_roundg (gk - 1)
                        case rel =>
                          refine ⟨i + 1, by omega, by go_num, hB6.out, fun j s' hj hs' => ?_⟩
                          by_cases h : j = i
                          · subst h
                            have : s' = s := Option.some.inj (hs'.symm.trans HS4.out)
                            rw [this]; exact HOK.out
                          · exact HI4.out j s' (by omega) hs'
                        case measure => omega
                      · have HRR := Aside0.mk (HR24.out (by rw [HYE.out]; intro h; exact hy (congrArg Prod.fst h)))
                        subst he
                        go_wp2_with fail
                        go_ret2
                        rw [HRR.out]
                        exact ⟨rfl, hB7.out⟩
                    · have HRR := Aside0.mk (HR24.out (by rw [HYE.out]; intro h; exact he (congrArg Prod.snd h)))
                      go_wp2_with fail
                      go_ret2
                      rw [HRR.out]
                      exact ⟨rfl, hB7.out⟩
                  · obtain rfl : i = dl.length := by omega
                    obtain ⟨y, e, hye⟩ : ∃ y e, interpF q 0 = (y, e) := ⟨_, _, rfl⟩
                    have E4 := Aside0.mk (show shares_points_at.f q 0 = some (y, e) by unfold shares_points_at.f field_Interpolate.f; rw [hye]; rfl)
                    have HR := Aside0.mk (show joinF l (k : Int) = (y, e) by
                      unfold joinF
                      rw [if_neg (by omega), if_neg (by rw [HAL.out]; simp), if_neg (by rw [HT.out]; simp), if_neg (by omega), if_neg, Int.toNat_natCast, ← HQ.out, hye]
                      rw [Int.toNat_natCast, ← HQ.out, ← HDL.out]
                      intro h
                      obtain ⟨s, hs, hd⟩ := List.any_eq_true.1 h
                      obtain ⟨j, hj⟩ := List.getElem?_of_mem hs
                      exact of_decide_eq_true hd (HI4.out j s (List.getElem?_eq_some_iff.1 hj).1 hj))
                    clear hye
                    go_wp2_with fail
                    refine (shares_points_at.calls A3 c3 q 0 y e _ HC4.out hc3 E4.out).mono ?_
                    rintro e' w' ⟨rfl, hb⟩
                    have hB7 := Aside0.mk (below_step HB5.out hb)
                    clear hb
                    go_wp2_with fail
                    go_ret2
                    rw [HR.out]
                    exact ⟨rfl, hB7.out⟩
theorem joinF_bad {l : List S25} {need : Int} (h : need < 1 ∨ need > 16) : joinF l need = (0, 1) := by
  unfold joinF
  rw [if_pos h]
theorem join_any (A : Option Addr) (c : Nat) (l : List S25) (need : Int) (w : World) (hC0 : Kd.C k25 w A l.length l) (hc : l.length ≤ c) :
    Calls Tryz.prog 19 #[.slice A l.length c, .int .i64 need] w (JPost (joinF l need) w) := by
  by_cases t1 : need < 1
  · rw [joinF_bad (.inl t1)]
    go_enter Tryz.func19, Tryz.ntmps19
    go_wp2_with fail
    go_ret2
    exact ⟨rfl, Below.refl _ _⟩
  by_cases t2 : need > 16
  · rw [joinF_bad (.inr t2)]
    go_enter Tryz.func19, Tryz.ntmps19
    go_wp2_with fail
    go_ret2
    exact ⟨rfl, Below.refl _ _⟩
  obtain ⟨n, rfl⟩ := Int.eq_ofNat_of_zero_le (show 0 ≤ need by omega)
  exact join_walk n A c l w hC0 hc (by omega) (by omega)
def shares_Join.f (l0 : List S25) (a1 : Int) : Option (Int × Int) := some (joinF l0 a1)
theorem shares_Join.calls (A0 : Option Addr) (c0 : Nat) (l0 : List S25) (a1 : Int) (r1 : Int) (r2 : Int) (w : World) (hr0 : Kd.C k25 w A0 l0.length l0) (hc0 : l0.length ≤ c0) (h : shares_Join.f l0 a1 = some (r1, r2)) :
    Calls Tryz.prog 19 #[.slice A0 l0.length c0, .int .i64 a1] w fun e w' => e = .returned (.tuple #[.int .i64 r1, .int .i64 r2]) ∧ Below w.heap.size w w' := by
  have h' : joinF l0 a1 = (r1, r2) := Option.some.inj h
  have hh := join_any A0 c0 l0 a1 w hr0 hc0
  rw [h'] at hh
  exact hh
end Go.Proofs.YtddikdpbhjgihaaGreatDoor.X
end
section
namespace Go.Proofs.YtddikdpbhjgihaaGreatDoor.X
open Go.RowKit Go.Proofs.YtddikdpbhjgihaaGreatDoorW.PrintWords Go.Proofs.YtddikdpbhjgihaaGreatDoorW.PrintLast Go.Proofs.YtddikdpbhjgihaaGreatDoorW.PrintMore
set_option linter.unusedVariables false
set_option maxRecDepth 100000
set_option linter.unusedSimpArgs false
theorem h7_1 : splitF 7 2 3 [5] = ([⟨1, 12⟩, ⟨2, 17⟩, ⟨3, 22⟩], 0) := by kernel_rfl
theorem h7_2 : joinF [⟨3, 22⟩, ⟨1, 12⟩] 2 = (7, 0) := by decide +kernel
theorem h7_3 : joinF [⟨3, 22⟩] 2 = (0, 25) := by decide +kernel
theorem h7_4 : joinF [⟨1, 12⟩, ⟨1, 12⟩] 2 = (0, 8) := by decide +kernel
theorem h7_5 : joinF [⟨1, 12⟩, ⟨2, 17⟩, ⟨3, 23⟩] 2 = (0, 24) := by decide +kernel
theorem h7_6 : observatoryref07_Same.f 9 [⟨1, 12⟩, ⟨2, 17⟩, ⟨3, 22⟩] [⟨1, 12⟩, ⟨2, 17⟩, ⟨3, 22⟩] = some true := by decide +kernel
def cells54 (l : List S25) : List Value := l.flatMap (fun p => [.int .i64 p.f0, .int .i64 p.f1])
theorem cells54_at (l : List S25) : ∀ (j : Nat) (p : S25), l[j]? = some p → (cells54 l)[j * 2 + 0]? = some (.int .i64 p.f0) ∧ (cells54 l)[j * 2 + 1]? = some (.int .i64 p.f1) := by
  induction l with
  | nil => intro j p h; simp at h
  | cons q l ih =>
    intro j p h
    cases j with
    | zero => simp at h; subst h; exact ⟨rfl, rfl⟩
    | succ j =>
      have := ih j p (by simpa using h)
      rw [show (j + 1) * 2 + 0 = (j * 2 + 0) + 2 by omega, show (j + 1) * 2 + 1 = (j * 2 + 1) + 2 by omega]
      exact this
theorem C_lit54 {w : World} {b : Nat} (l : List S25) {t : TypeId} {fz : Nat × Nat} (h : w.heap[b]? = some (.cells (cells54 l).toArray t fz)) (hl : l.length ≤ 9223372036854775807) : Kd.C k25 w (some ⟨b, 0, none⟩) l.length l := by
  refine ⟨rfl, hl, fun _ => ⟨_, rfl, fun j p hj => ⟨[.int .i64 p.f0, .int .i64 p.f1], rfl, k25_mk w p, fun i u hu => ?_⟩⟩⟩
  have := cells54_at l j p hj
  rw [add_plain]
  show w.cell? ⟨b, j * 2 + i, none⟩ = _
  match i, hu with
  | 0, hu => simp at hu; subst hu; simp only [World.cell?, h, List.getElem?_toArray]; exact this.1
  | 1, hu => simp at hu; subst hu; simp only [World.cell?, h, List.getElem?_toArray]; exact this.2
def observatorylaw07_head.f : Option Bool := some true
set_option maxHeartbeats 1000000 in
theorem head07 (w : World) : Calls Tryz.prog 15 #[] w fun e w' => e = .returned (.bool true) ∧ Below w.heap.size w w' := by
  have B0 := Aside0.mk (Below.refl w.heap.size w)
  go_enter Tryz.func15, Tryz.ntmps15
  go_wp2_with fail
  refine (shares_Split.calls 7 2 3 _ 1 [5] _ _ _ (C_litI [5] (heap_last w _) (by simp)) (by simp) (congrArg some h7_1)).mono ?_
  rintro e w1 ⟨v1, rfl, r1, b1⟩
  have B1 := Aside0.mk (below_step (B0.out.alloc B0.out.size _) b1)
  have R1 := Aside0.mk (Kd.R_lower r1 (B0.out.alloc B0.out.size _).size)
  clear B0 b1 r1
  go_wp2_with fail
  refine (shares_Join.calls _ 2 [⟨3, 22⟩, ⟨1, 12⟩] 2 7 0 _ (C_lit54 [⟨3, 22⟩, ⟨1, 12⟩] (heap_last w1 _) (by simp)) (by simp) (congrArg some h7_2)).mono ?_
  rintro e w2 ⟨rfl, b2⟩
  have B2 := Aside0.mk (below_step (B1.out.alloc B1.out.size _) b2)
  have R2 := Aside0.mk (Kd.R_below (Kd.R_alloc R1.out _) b2)
  clear B1 b2 R1
  go_wp2_with fail
  refine (shares_Join.calls _ 1 [⟨3, 22⟩] 2 0 25 _ (C_lit54 [⟨3, 22⟩] (heap_last w2 _) (by simp)) (by simp) (congrArg some h7_3)).mono ?_
  rintro e w3 ⟨rfl, b3⟩
  have B3 := Aside0.mk (below_step (B2.out.alloc B2.out.size _) b3)
  have R3 := Aside0.mk (Kd.R_below (Kd.R_alloc R2.out _) b3)
  clear B2 b3 R2
  go_wp2_with fail
  refine (shares_Join.calls _ 2 [⟨1, 12⟩, ⟨1, 12⟩] 2 0 8 _ (C_lit54 [⟨1, 12⟩, ⟨1, 12⟩] (heap_last w3 _) (by simp)) (by simp) (congrArg some h7_4)).mono ?_
  rintro e w4 ⟨rfl, b4⟩
  have B4 := Aside0.mk (below_step (B3.out.alloc B3.out.size _) b4)
  have R4 := Aside0.mk (Kd.R_below (Kd.R_alloc R3.out _) b4)
  clear B3 b4 R3
  go_wp2_with fail
  refine (shares_Join.calls _ 3 [⟨1, 12⟩, ⟨2, 17⟩, ⟨3, 23⟩] 2 0 24 _ (C_lit54 [⟨1, 12⟩, ⟨2, 17⟩, ⟨3, 23⟩] (heap_last w4 _) (by simp)) (by simp) (congrArg some h7_5)).mono ?_
  rintro e w5 ⟨rfl, b5⟩
  have B5 := Aside0.mk (below_step (B4.out.alloc B4.out.size _) b5)
  have R5 := Aside0.mk (Kd.R_below (Kd.R_alloc R4.out _) b5)
  clear B4 b5 R4
  obtain ⟨A1, c1, e1⟩ := Kd.R_slice R5.out
  subst e1
  obtain ⟨-, hc1, hC1⟩ := Kd.R_reads' R5.out
  have C5 := Aside0.mk hC1
  clear R5 hC1
  go_wp2_with fail
  refine (observatoryref07_Same.calls 9 _ _ [⟨1, 12⟩, ⟨2, 17⟩, ⟨3, 22⟩] _ 3 [⟨1, 12⟩, ⟨2, 17⟩, ⟨3, 22⟩] true _ (Kd.C_alloc C5.out _) hc1 (C_lit54 [⟨1, 12⟩, ⟨2, 17⟩, ⟨3, 22⟩] (heap_last w5 _) (by simp)) (by simp) h7_6).mono ?_
  rintro e w6 ⟨rfl, b6⟩
  have B6 := Aside0.mk (below_step (B5.out.alloc B5.out.size _) b6.below)
  clear b6 B5
  go_wp2_with fail
  go_ret
  exact ⟨rfl, B6.out⟩
theorem observatorylaw07_head.calls (r : Bool) (w : World) (h : observatorylaw07_head.f = some r) :
    Calls Tryz.prog 15 #[] w fun e w' => e = .returned (.bool r) ∧ Below w.heap.size w w' := by
  obtain rfl : true = r := by simpa [observatorylaw07_head.f] using h
  exact head07 w
end Go.Proofs.YtddikdpbhjgihaaGreatDoor.X
end
section
namespace Go.Proofs.YtddikdpbhjgihaaGreatDoor.X
open Go.RowKit Go.Proofs.YtddikdpbhjgihaaGreatDoorW.PrintWords Go.Proofs.YtddikdpbhjgihaaGreatDoorW.PrintLast
open ObsMath
set_option linter.unusedVariables false
theorem shareList_length (p : List Int) (m : Nat) : (shareList p m).length = m := by simp [shareList]
theorem rd54_at {l : List S25} {i : Nat} (hi : i < l.length) : rd_T25 l (i : Int) = l[i] := by simp [rd_T25, List.getElem?_eq_getElem hi]
theorem cnt_zero {l : List S25} {j : Int} (h : j ∉ l.map (·.f0)) : cnt l j = 0 := by
  unfold cnt
  rw [List.length_eq_zero_iff, List.filter_eq_nil_iff]
  intro s hs hd
  exact h (List.mem_map.2 ⟨s, hs, by simpa using hd⟩)
theorem cnt_nodup : ∀ {l : List S25} (j : Int), (l.map (·.f0)).Nodup → cnt l j ≤ 1
  | [], j, _ => by simp [cnt]
  | s :: l, j, h => by
    rw [List.map_cons, List.nodup_cons] at h
    have ih := cnt_nodup j h.2
    unfold cnt at ih ⊢
    rw [List.filter_cons]
    split
    · rename_i hd
      have hj : s.f0 = j := by simpa using hd
      have := cnt_zero (l := l) (j := j) (by rw [← hj]; exact h.1)
      unfold cnt at this
      rw [List.length_cons, this]
      omega
    · exact ih
theorem twice_nodup {l : List S25} (h : (l.map (·.f0)).Nodup) : twice l = false := by
  unfold twice
  rw [List.any_eq_false]
  intro j _
  have := cnt_nodup (l := l) (j : Int) h
  simp; omega
theorem joinF_good {ss : List S25} {n : Nat} (h1 : 1 ≤ n) (h16 : n ≤ 16) (hv : ss.all validS = true) (hn : (ss.map (·.f0)).Nodup) :
    joinF ss (n : Int) = if ss.length < n then (0, 25)
      else if (ss.drop n).any (fun s => decide (interpF ((ss.take n).map asPt) s.f0 ≠ (s.f1, 0))) = true then (0, 24)
      else interpF ((ss.take n).map asPt) 0 := by
  unfold joinF
  rw [if_neg (by omega), if_neg (by rw [hv]; simp), if_neg (by rw [twice_nodup hn]; simp), Int.toNat_natCast]
  by_cases h : ss.length < n
  · rw [if_pos (by omega), if_pos h]
  · rw [if_neg (by omega), if_neg h]
theorem validS_iff {s : S25} : validS s = true ↔ 1 ≤ s.f0 ∧ s.f0 ≤ 16 ∧ inP s.f1 = true := by
  unfold validS; simp [and_assoc]
theorem take_good {ss : List S25} {n : Nat} (h1 : 1 ≤ n) (h16 : n ≤ 16) (hl : n ≤ ss.length) (hv : ss.all validS = true) (hn : (ss.map (·.f0)).Nodup) {x : Int} (hx : inP x = true) :
    IGood ((ss.take n).map asPt) x := by
  have hlen : ((ss.take n).map asPt).length = n := by simp; omega
  refine IGood.of_dst (by omega) (by omega) hx ?_ ?_
  · rw [List.all_eq_true]
    intro q hq
    obtain ⟨s, hs, rfl⟩ := List.mem_map.1 hq
    have := validS_iff.1 (List.all_eq_true.1 hv s (List.mem_of_mem_take hs))
    unfold okP asPt
    rw [Bool.and_eq_true]
    exact ⟨inP_iff.2 (by simp only []; omega), this.2.2⟩
  · intro i j hij hj e
    have hi' : i < ss.length := by omega
    have hj' : j < ss.length := by omega
    unfold XI at e
    rw [rd41_at (by omega), rd41_at hj, List.getElem_map, List.getElem_map, List.getElem_take, List.getElem_take] at e
    have h3 := List.pairwise_iff_getElem.1 hn i j (by simpa using hi') (by simpa using hj') hij
    rw [List.getElem_map, List.getElem_map] at h3
    exact h3 e
end Go.Proofs.YtddikdpbhjgihaaGreatDoor.X
end
section
namespace Go.Proofs.YtddikdpbhjgihaaGreatDoor.X
open Go.RowKit Go.Proofs.YtddikdpbhjgihaaGreatDoorW.PrintWords Go.Proofs.YtddikdpbhjgihaaGreatDoorW.PrintLast Go.Proofs.YtddikdpbhjgihaaGreatDoorW.PrintMore
set_option linter.unusedVariables false
set_option linter.unusedSimpArgs false
theorem rdB_at {l : List ByteArray} {i : Nat} (h : i < l.length) : rdOf ByteArray.empty l (i : Int) = l[i] := by
  simp [rdOf, List.getElem?_eq_getElem h]
theorem notdg (s : ByteArray) (b : Bool) (w : World) (hb : isDg s = b) : Calls Tryz.prog 142 #[.string s] w fun e w' => e = .returned (.bool (!b)) ∧ Below w.heap.size w w' := by
  have HB := Aside0.mk hb
  clear hb
  go_enter Tryz.func142, Tryz.ntmps142
  go_wp2_with fail
  refine (digest_Is.calls s b _ (by unfold digest_Is.f; rw [HB.out])).mono ?_
  rintro e w' ⟨rfl, hb⟩
  have HB1 := Aside0.mk hb
  clear hb
  go_wp2_with fail
  go_ret
  exact ⟨rfl, HB1.out⟩
def FPost (l : List ByteArray) (w : World) (e : Ending) (w' : World) : Prop := (∃ i : Int, e = .returned (.int .i64 i) ∧ (decide (0 ≤ i) = !(l.all isDg))) ∧ Below w.heap.size w w'
theorem index_walk (A : Option Addr) (c : Nat) (l : List ByteArray) (w : World) (hC0 : Kd.C Kd.string w A l.length l) :
    Calls Tryz.prog 165 #[.slice A l.length c, .func (.func 142) #[] #[]] w (FPost l w) := by
  have HC := Aside0.mk hC0
  have hlen := hC0.2.1
  clear hC0
  go_enter Tryz.func165, Tryz.ntmps165
  go_wp2_with fail
  go_loopg [8] l.length (fun gk v8 wr => ∃ k : Nat, k + gk = l.length ∧ v8 = .int .i64 (k : Int) ∧ (l.take k).all isDg = true ∧ Below w.heap.size w wr)
  case atStart => exact ⟨0, by omega, rfl, rfl, Below.refl _ _⟩
  case round =>
    obtain ⟨k, hk, rfl, ha, hb⟩ := hrel
    have HA := Aside0.mk ha
    have HB := Aside0.mk hb
    clear ha hb
    by_cases h : k < l.length
    · have h' : (k : Int) < (l.length : Int) := by omega
      obtain ⟨ad, e0, a0⟩ := Kd.at_string (Kd.C_below HC.out HB.out) (k : Int) (by omega) h'
      subst e0
      rw [rdB_at h, Int.toNat_natCast] at a0
      have HT := Aside0.mk (show (l.take (k + 1)).all isDg = ((l.take k).all isDg && isDg l[k]) by rw [List.take_succ_eq_append_getElem h, List.all_append]; simp)
      have HE := Aside0.mk (List.getElem_mem h)
      generalize l[k] = s at a0 HT HE
      cases hs : isDg s with
      | true =>
        have HS := Aside0.mk hs
        clear hs
        go_wp2_with fail
        refine (notdg s true _ HS.out).mono ?_
        rintro e w' ⟨rfl, hb⟩
        have HB1 := Aside0.mk (below_step HB.out hb)
        clear hb
        go_wp2_with fail
        go_roundg (gk - 1)
        case rel => exact ⟨k + 1, by omega, by go_num, by rw [HT.out, HA.out, HS.out]; rfl, HB1.out⟩
        case measure => omega
      | false =>
        have HS := Aside0.mk hs
        clear hs
        go_wp2_with fail
        refine (notdg s false _ HS.out).mono ?_
        rintro e w' ⟨rfl, hb⟩
        have HB1 := Aside0.mk (below_step HB.out hb)
        clear hb
        go_wp2_with fail
        go_ret
        refine ⟨⟨(k : Int), rfl, ?_⟩, HB1.out⟩
        have : l.all isDg = false := by rw [List.all_eq_false]; exact ⟨s, HE.out, by rw [HS.out]; simp⟩
        rw [this]; simp
    · obtain rfl : k = l.length := by omega
      go_wp2_with fail
      go_ret
      refine ⟨⟨-1, rfl, ?_⟩, HB.out⟩
      have := HA.out
      rw [List.take_length] at this
      rw [this]; rfl
def tree_digests_proper.f (l0 : List ByteArray) : Option Bool := some (l0.all isDg)
theorem contains_walk (A : Option Addr) (c : Nat) (l : List ByteArray) (w : World) (hC0 : Kd.C Kd.string w A l.length l) :
    Calls Tryz.prog 141 #[.slice A l.length c, .func (.func 142) #[] #[]] w fun e w' => e = .returned (.bool (!(l.all isDg))) ∧ Below w.heap.size w w' := by
  have HC := Aside0.mk hC0
  clear hC0
  go_enter Tryz.func141, Tryz.ntmps141
  go_wp2_with fail
  refine (index_walk A c l _ HC.out).mono ?_
  rintro e w' ⟨⟨i, rfl, hi⟩, hb⟩
  have HB := Aside0.mk hb
  have HI := Aside0.mk hi
  clear hb hi
  go_wp2_with fail
  go_ret
  exact ⟨by rw [← HI.out]; rfl, HB.out⟩
theorem tree_digests_proper.calls (A0 : Option Addr) (c0 : Nat) (l0 : List ByteArray) (r : Bool) (w : World) (hr0 : Kd.C Kd.string w A0 l0.length l0) (hc0 : l0.length ≤ c0) (h : tree_digests_proper.f l0 = some r) :
    Calls Tryz.prog 88 #[.slice A0 l0.length c0] w fun e w' => e = .returned (.bool r) ∧ Below w.heap.size w w' := by
  have HC := Aside0.mk hr0
  have hr := Option.some.inj h
  have HR := Aside0.mk hr
  clear hr0 h hr
  go_enter Tryz.func88, Tryz.ntmps88
  go_wp2_with fail
  refine (contains_walk A0 c0 l0 _ HC.out).mono ?_
  rintro e w' ⟨rfl, hb⟩
  have HB := Aside0.mk hb
  clear hb
  go_wp2_with fail
  go_ret
  exact ⟨by rw [← HR.out]; rfl, HB.out⟩
end Go.Proofs.YtddikdpbhjgihaaGreatDoor.X
end
section
namespace Go.Proofs.YtddikdpbhjgihaaGreatDoor.X
open Go.RowKit Go.Proofs.YtddikdpbhjgihaaGreatDoorW.PrintWords Go.Proofs.YtddikdpbhjgihaaGreatDoorW.PrintLast
open ObsMer (toL toL_inj toL_append itoaB)
set_option linter.unusedVariables false
theorem blkB_at (s : ByteArray) (o i : Nat) (hi : i < 8) : (blkB s o).getD i 0 = ((s.data.toList.drop o).getD i 0).toNat := by
  unfold blkB
  rw [List.getD_eq_getElem?_getD, List.getElem?_map, List.getElem?_range hi]
  rfl
theorem blk_in {s : ByteArray} {o i : Nat} (hi : i < 8) (h : o + i < s.size) : ((blkB s o).getD i 0 : Int) = bt s ((o : Int) + (i : Int)) := by
  rw [blkB_at s o i hi, List.getD_eq_getElem?_getD, List.getElem?_drop]
  unfold bt
  have e : ((o : Int) + (i : Int)).toNat = o + i := by omega
  rw [e, dif_pos h, List.getElem?_eq_getElem (by rw [← Go.Lib.size_eq]; exact h)]
  rfl
theorem blk_out {s : ByteArray} {o i : Nat} (hi : i < 8) (h : s.size ≤ o + i) : (blkB s o).getD i 0 = 0 := by
  rw [blkB_at s o i hi, List.getD_eq_getElem?_getD, List.getElem?_drop, List.getElem?_eq_none (by rw [← Go.Lib.size_eq]; exact h)]
  rfl
theorem bt_range (s : ByteArray) (i : Int) : 0 ≤ bt s i ∧ bt s i < 256 := by
  unfold bt
  split
  · rename_i h
    have := UInt8.toNat_lt (s[i.toNat]'h)
    omega
  · omega
theorem sum_l1 (s : ByteArray) (st : Int) (o k : Nat) (ho : o ≤ 140737488355328) : ∀ (d i : Nat), i + d = 8 →
    observatoryref01_Sum.l1 (k + d + 1) s st (o : Int) (blkN (blkB s o) i : Int) ((o : Int) + (i : Int)) = observatoryref01_Sum.l0 k s (mixI (Go.bits .xor .u64 st (blkN (blkB s o) 8 : Int))) ((o + 8 : Nat) : Int) := by
  intro d
  induction d with
  | zero =>
    intro i hi
    obtain rfl : i = 8 := by omega
    rw [observatoryref01_Sum.l1, w64 (by omega) (by omega), if_neg (by omega), mix_eq, Option.bind_some]
    rfl
  | succ d ih =>
    intro i hi
    have hlt := blkN_lt (blkB_lt s o) i
    have h7 : 256 ^ i ≤ 256 ^ 7 := Nat.pow_le_pow_right (by decide) (by omega)
    have h77 : (256 : Nat) ^ 7 = 72057594037927936 := by decide
    have hn := ih (i + 1) (by omega)
    rw [blkN] at hn
    rw [show k + (d + 1) + 1 = (k + d + 1) + 1 by omega, observatoryref01_Sum.l1, w64 (n := (o : Int) + 8) (by omega) (by omega), if_pos (by omega)]
    have e1 : wrap64 ((o : Int) + (i : Int) + 1) = (o : Int) + ((i + 1 : Nat) : Int) := by rw [w64 (by omega) (by omega)]; omega
    rw [e1]
    by_cases h : o + i < s.size
    · rw [if_pos (by omega), if_pos (by omega), ← hn]
      have hb := bt_range s ((o : Int) + (i : Int))
      have he := blk_in (s := s) (o := o) (i := i) (by omega) h
      congr 1
      rw [IntKind.wrap_u64, IntKind.wrap_u64, IntKind.wrap_u64]
      omega
    · rw [if_neg (by omega), ← hn, blk_out (by omega) (by omega)]
      congr 1
      rw [IntKind.wrap_u64]
      omega
def hexSuf (u : Nat) : Nat → List UInt8
  | 0 => []
  | i + 1 => UInt8.ofNat (hexd (u / 16 ^ i % 16)).toNat :: hexSuf u i
theorem hexSuf_eq (u : Nat) : ∀ t, (hexL u t).map (fun n => UInt8.ofNat n.toNat) = hexSuf u (t + 1)
  | 0 => by simp [hexL, hexSuf, List.range, List.range.loop]
  | t + 1 => by
    rw [hexL_succ, List.map_cons, hexSuf_eq u t]
    exact (hexSuf.eq_2 u (t + 1)).symm
theorem hex16_toL (u : Nat) : toL (hex16 u) = hexSuf u 16 := hexSuf_eq u 15
def hexS16 : ByteArray := ⟨#[48, 49, 50, 51, 52, 53, 54, 55, 56, 57, 97, 98, 99, 100, 101, 102]⟩
theorem hexS_at (d : Nat) (h : d < 16) : toL (hexS16.extract d (d + 1)) = [UInt8.ofNat (hexd d).toNat] := by
  have : d = 0 ∨ d = 1 ∨ d = 2 ∨ d = 3 ∨ d = 4 ∨ d = 5 ∨ d = 6 ∨ d = 7 ∨ d = 8 ∨ d = 9 ∨ d = 10 ∨ d = 11 ∨ d = 12 ∨ d = 13 ∨ d = 14 ∨ d = 15 := by omega
  rcases this with h | h | h | h | h | h | h | h | h | h | h | h | h | h | h | h <;> subst h <;> rfl
theorem sum_l2 (u : Nat) (hu : u < 18446744073709551616) : ∀ (d k i : Nat) (acc : ByteArray), i + d = 16 → toL acc = hexSuf u i → acc.size = i → d < k → observatoryref01_Sum.l2 k ((u / 16 ^ i : Nat) : Int) acc (i : Int) = some (hex16 u) := by
  intro d
  induction d with
  | zero =>
    intro k i acc h1 h2 h3 hk
    obtain ⟨k, rfl⟩ : ∃ q, k = q + 1 := ⟨k - 1, by omega⟩
    obtain rfl : i = 16 := by omega
    rw [observatoryref01_Sum.l2, if_neg (by omega)]
    exact congrArg some (toL_inj (by rw [h2, hex16_toL]))
  | succ d ih =>
    intro k i acc h1 h2 h3 hk
    obtain ⟨k, rfl⟩ : ∃ q, k = q + 1 := ⟨k - 1, by omega⟩
    have g1 : (i : Int) < 16 := by omega
    have g2 : 1 + acc.size ≤ 9223372036854775807 := by omega
    have e4 : wrap64 ((i : Int) + 1) = ((i + 1 : Nat) : Int) := by rw [w64 (by omega) (by omega)]; omega
    have hv : u / 16 ^ i < 18446744073709551616 := Nat.lt_of_le_of_lt (Nat.div_le_self _ _) hu
    have hdv : u / 16 ^ i / 16 = u / 16 ^ (i + 1) := by rw [Nat.div_div_eq_div_mul, Nat.pow_succ]
    have hd : u / 16 ^ i % 16 < 16 := Nat.mod_lt _ (by decide)
    have hL := hexS_at (u / 16 ^ i % 16) hd
    have hs : (hexS16.extract (u / 16 ^ i % 16) (u / 16 ^ i % 16 + 1)).size = 1 := by rw [← ObsMer.toL_length, hL]; rfl
    have hstep := ih k (i + 1) (hexS16.extract (u / 16 ^ i % 16) (u / 16 ^ i % 16 + 1) ++ acc) (by omega) (by rw [toL_append, hL, h2, hexSuf]; rfl) (by rw [ByteArray.size_append, hs]; omega) (by omega)
    rw [← hdv] at hstep
    generalize u / 16 ^ i = v at hv hd hL hs hstep
    have e1 : Int.tmod (v : Int) 16 = ((v % 16 : Nat) : Int) := by rw [Int.tmod_eq_emod_of_nonneg (Int.natCast_nonneg v)]; rfl
    have e2 : IntKind.u64.wrap (((v % 16 : Nat) : Int) + 1) = ((v % 16 + 1 : Nat) : Int) := by
      clear hs hstep hL e1
      rw [IntKind.wrap_u64]; omega
    have e3 : IntKind.u64.wrap (Int.tdiv (v : Int) 16) = ((v / 16 : Nat) : Int) := by
      clear hs hstep hL e1 e2
      rw [Int.tdiv_eq_ediv_of_nonneg (Int.natCast_nonneg v), IntKind.wrap_u64]; omega
    have g3 : ((v % 16 + 1 : Nat) : Int) ≤ 16 := by
      clear hs hstep hL e1 e2 e3
      omega
    rw [observatoryref01_Sum.l2, e1, e2, e3, e4, if_pos g1, if_pos (Int.natCast_nonneg _), if_pos (Int.ofNat_le.2 (Nat.le_succ _)), if_pos g3, Int.toNat_natCast, Int.toNat_natCast, ← hexS16, hs, if_pos g2]
    exact hstep
theorem sum_l0 (s : ByteArray) (hs : s.size ≤ 140737488355320) : ∀ (d k i : Nat), i + d = s.size / 8 + 1 → 10 * d + 18 < k → observatoryref01_Sum.l0 k s (stI s i) ((8 * i : Nat) : Int) = some (sumF s) := by
  intro d
  induction d with
  | zero =>
    intro k i h1 hk
    obtain ⟨k, rfl⟩ : ∃ q, k = q + 1 := ⟨k - 1, by omega⟩
    have hr := stI_range s i
    obtain ⟨u, hu⟩ := Int.eq_ofNat_of_zero_le hr.1
    rw [observatoryref01_Sum.l0, if_neg (by omega), hu]
    have h2 := sum_l2 u (by omega) 16 k 0 (⟨#[]⟩ : ByteArray) (by omega) rfl rfl (by omega)
    rw [Nat.pow_zero, Nat.div_one] at h2
    unfold sumF
    rw [← show i = s.size / 8 + 1 by omega, hu]
    exact h2
  | succ d ih =>
    intro k i h1 hk
    obtain ⟨k, rfl⟩ : ∃ q, k = q + 8 + 1 + 1 := ⟨k - 10, by omega⟩
    rw [observatoryref01_Sum.l0, if_pos (by omega)]
    have h2 := sum_l1 s (stI s i) (8 * i) k (by omega) 8 0 (by omega)
    have e : ((8 * i : Nat) : Int) + ((0 : Nat) : Int) = ((8 * i : Nat) : Int) := by omega
    rw [e] at h2
    have e2 : (blkN (blkB s (8 * i)) 0 : Int) = 0 := rfl
    rw [e2] at h2
    rw [h2]
    have h3 := ih k (i + 1) (by omega) (by omega)
    rw [stI] at h3
    exact h3
theorem Sum_eq {k : Nat} {s : ByteArray} (hs : s.size ≤ 140737488355320) (hk : 2 * s.size + 40 ≤ k) : observatoryref01_Sum.f k s = some (sumF s) := by
  unfold observatoryref01_Sum.f
  have := sum_l0 s hs (s.size / 8 + 1) k 0 (by omega) (by omega)
  rw [show IntKind.u64.wrap (s.size : Int) = (s.size : Int) by rw [IntKind.wrap_u64]; omega]
  exact this
end Go.Proofs.YtddikdpbhjgihaaGreatDoor.X
end
section
namespace Go.Proofs.YtddikdpbhjgihaaGreatDoor.X
open Go.RowKit Go.Proofs.YtddikdpbhjgihaaGreatDoorW.PrintWords Go.Proofs.YtddikdpbhjgihaaGreatDoorW.PrintLast
open ObsMer (toL toL_inj toL_append itoaB)
set_option linter.unusedVariables false
theorem isHex_at (c : UInt8) : isHex c = (decide (48 ≤ c.toNat) && decide (c.toNat ≤ 57) || decide (97 ≤ c.toNat) && decide (c.toNat ≤ 102)) := by
  have h : ∀ n : Fin 256, isHex (UInt8.ofNat n.val) = (decide (48 ≤ n.val) && decide (n.val ≤ 57) || decide (97 ≤ n.val) && decide (n.val ≤ 102)) := by decide +kernel
  have := h ⟨c.toNat, c.toNat_lt⟩
  simpa using this
theorem digit_hex (k : Nat) (c : UInt8) : ∃ d : Int, observatoryref01_Digit.f (k + 1) (c.toNat : Int) = some d ∧ (decide (d < 0) = !(isHex c)) := by
  have hlt := c.toNat_lt
  rw [isHex_at]
  unfold observatoryref01_Digit.f
  simp only [observatoryref01_Digit.j0]
  by_cases h1 : (c.toNat : Int) ≥ 48
  · rw [if_pos h1]
    by_cases h2 : (c.toNat : Int) ≤ 57
    · rw [if_pos (by simpa using h2)]
      refine ⟨_, rfl, ?_⟩
      have : ¬ ((c.toNat : Int) - 48) % 256 < 0 := by omega
      simp [this]; omega
    · rw [if_neg (by simpa using h2)]
      by_cases h3 : (c.toNat : Int) ≥ 97
      · rw [if_pos h3]
        by_cases h4 : (c.toNat : Int) ≤ 102
        · rw [if_pos h4]
          refine ⟨_, rfl, ?_⟩
          have : ¬ ((c.toNat : Int) - 97) % 256 + 10 < 0 := by omega
          simp [this]; omega
        · rw [if_neg h4]
          refine ⟨_, rfl, ?_⟩
          simp; omega
      · rw [if_neg h3]
        refine ⟨_, rfl, ?_⟩
        simp; omega
  · rw [if_neg h1, if_neg (by simp), if_neg (by omega)]
    refine ⟨_, rfl, ?_⟩
    simp; omega
theorem bt_at {s : ByteArray} {i : Nat} (h : i < s.size) : bt s (i : Int) = (((toL s)[i]'(by rw [ObsMer.toL_length]; exact h)).toNat : Int) := by
  unfold bt
  rw [dif_pos (by rw [Int.toNat_natCast]; exact h)]
  rfl
theorem is_l0 (s : ByteArray) (hs : s.size ≤ 9223372036854775806) : ∀ (d k i : Nat), i + d = min s.size 16 → ((toL s).take i).all isHex = true → 2 * d + 3 < k → observatoryref01_Is.l0 k s (i : Int) = some (isDg s) := by
  intro d
  induction d with
  | zero =>
    intro k i h1 h2 hk
    obtain ⟨k, rfl⟩ : ∃ q, k = q + 2 := ⟨k - 2, by omega⟩
    have hfin : observatoryref01_Is.j1 (k + 1) s (i : Int) false = some (isDg s) := by
      simp only [observatoryref01_Is.j1]
      rw [if_neg (by simp)]
      congr 1
      unfold isDg
      by_cases h : s.size = 16
      · have : (toL s).take i = toL s := List.take_of_length_le (by rw [ObsMer.toL_length]; omega)
        rw [this] at h2
        show _ = (_ && (toL s).all isHex)
        rw [h2, h]; rfl
      · have : ((s.size : Int) == 16) = false := beq_eq_false_iff_ne.2 (by omega)
        rw [this, decide_eq_false h]; rfl
    simp only [observatoryref01_Is.l0]
    by_cases h : (i : Int) < (s.size : Int)
    · rw [if_pos h, show decide ((i : Int) < 16) = false from decide_eq_false (by omega)]
      exact hfin
    · rw [if_neg h]
      exact hfin
  | succ d ih =>
    intro k i h1 h2 hk
    obtain ⟨k, rfl⟩ : ∃ q, k = q + 3 := ⟨k - 3, by omega⟩
    have hi : i < s.size := by omega
    have hiL : i < (toL s).length := by rw [ObsMer.toL_length]; exact hi
    obtain ⟨dg, hd, hn⟩ := digit_hex k (toL s)[i]
    simp only [observatoryref01_Is.l0]
    rw [if_pos (by omega), show decide ((i : Int) < 16) = true from decide_eq_true (by omega)]
    simp only [observatoryref01_Is.j1]
    rw [if_pos trivial, if_pos (by omega), if_pos (by omega), bt_at hi, hd, Option.bind_some]
    cases hx : isHex (toL s)[i] with
    | true =>
      rw [hx] at hn
      have : ¬ dg < 0 := by simpa using hn
      rw [if_neg this, show wrap64 ((i : Int) + 1) = ((i + 1 : Nat) : Int) by rw [w64 (by omega) (by omega)]; omega]
      exact ih (k + 1) (i + 1) (by omega) (by rw [List.take_succ_eq_append_getElem hiL, List.all_append, h2]; simp [hx]) (by omega)
    | false =>
      rw [hx] at hn
      have : dg < 0 := by simpa using hn
      rw [if_pos this]
      congr 1
      unfold isDg
      have : (toL s).all isHex = false := by rw [List.all_eq_false]; exact ⟨_, List.getElem_mem hiL, by rw [hx]; simp⟩
      show _ = (_ && (toL s).all isHex)
      rw [this, Bool.and_false]
theorem Is_eq {k : Nat} {s : ByteArray} (hs : s.size ≤ 9223372036854775806) (hk : 36 ≤ k) : observatoryref01_Is.f k s = some (isDg s) :=
  is_l0 s hs (min s.size 16) k 0 (by omega) rfl (by omega)
theorem digests_l0 (l : List ByteArray) (hl : l.length ≤ 9223372036854775806) (hs : ∀ s ∈ l, s.size ≤ 9223372036854775806) : ∀ (d k i : Nat), i + d = l.length → (l.take i).all isDg = true → d + 36 < k → observatoryref02_digests.l0 k l (i : Int) = some (l.all isDg) := by
  intro d
  induction d with
  | zero =>
    intro k i h1 h2 hk
    obtain ⟨k, rfl⟩ : ∃ q, k = q + 1 := ⟨k - 1, by omega⟩
    simp only [observatoryref02_digests.l0]
    rw [if_neg (by omega)]
    rw [List.take_of_length_le (by omega)] at h2
    rw [h2]
  | succ d ih =>
    intro k i h1 h2 hk
    obtain ⟨k, rfl⟩ : ∃ q, k = q + 1 := ⟨k - 1, by omega⟩
    have hi : i < l.length := by omega
    simp only [observatoryref02_digests.l0]
    rw [if_pos (by omega), if_pos (by omega), rdB_at hi, Is_eq (hs _ (List.getElem_mem hi)) (by omega), Option.bind_some]
    cases hx : isDg l[i] with
    | true =>
      rw [if_pos rfl, show wrap64 ((i : Int) + 1) = ((i + 1 : Nat) : Int) by rw [w64 (by omega) (by omega)]; omega]
      exact ih k (i + 1) (by omega) (by rw [List.take_succ_eq_append_getElem hi, List.all_append, h2]; simp [hx]) (by omega)
    | false =>
      rw [if_neg (by simp)]
      have : l.all isDg = false := by rw [List.all_eq_false]; exact ⟨_, List.getElem_mem hi, by rw [hx]; simp⟩
      rw [this]
theorem digests_eq {k : Nat} {l : List ByteArray} (hl : l.length ≤ 9223372036854775806) (hs : ∀ s ∈ l, s.size ≤ 9223372036854775806) (hk : l.length + 37 ≤ k) : observatoryref02_digests.f k l = some (l.all isDg) :=
  digests_l0 l hl hs l.length k 0 (by omega) rfl (by omega)
end Go.Proofs.YtddikdpbhjgihaaGreatDoor.X
end
