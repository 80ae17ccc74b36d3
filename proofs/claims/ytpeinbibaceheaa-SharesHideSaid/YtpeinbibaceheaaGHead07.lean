import Derived.Test.YtpeinbibaceheaaGSplit
import Derived.Test.YtpeinbibaceheaaGJoin
namespace Go.Proofs.Ytpeinbibaceheaa.X
open Go.RowKit Go.Proofs.YtpeinbibaceheaaW.PrintWords Go.Proofs.YtpeinbibaceheaaW.PrintLast Go.Proofs.YtpeinbibaceheaaW.PrintMore
set_option linter.unusedVariables false
set_option linter.unusedSimpArgs false

theorem h7_1 : splitF 7 2 3 [5] = ([⟨1, 12⟩, ⟨2, 17⟩, ⟨3, 22⟩], 0) := by kernel_rfl
theorem h7_2 : joinF [⟨3, 22⟩, ⟨1, 12⟩] 2 = (7, 0) := by decide +kernel
theorem h7_3 : joinF [⟨3, 22⟩] 2 = (0, 25) := by decide +kernel
theorem h7_4 : joinF [⟨1, 12⟩, ⟨1, 12⟩] 2 = (0, 8) := by decide +kernel
theorem h7_5 : joinF [⟨1, 12⟩, ⟨2, 17⟩, ⟨3, 23⟩] 2 = (0, 24) := by decide +kernel

theorem h7_6 : observatoryref07_Same.f 9 [⟨1, 12⟩, ⟨2, 17⟩, ⟨3, 22⟩] [⟨1, 12⟩, ⟨2, 17⟩, ⟨3, 22⟩] = some true := by decide +kernel

def cells54 (l : List S54) : List Value := l.flatMap (fun p => [.int .i64 p.f0, .int .i64 p.f1])

theorem cells54_at (l : List S54) : ∀ (j : Nat) (p : S54), l[j]? = some p → (cells54 l)[j * 2 + 0]? = some (.int .i64 p.f0) ∧ (cells54 l)[j * 2 + 1]? = some (.int .i64 p.f1) := by
  induction l with
  | nil => intro j p h; simp at h
  | cons q l ih =>
    intro j p h
    cases j with
    | zero => simp at h; subst h; exact ⟨rfl, rfl⟩
    | succ j =>
      have := ih j p (by simpa using h)
      rw [show (j + 1) * 2 + 0 = (j * 2 + 0) + 2 by omega, show (j + 1) * 2 + 1 = (j * 2 + 1) + 2 by omega]
      exact this

theorem C_lit54 {w : World} {b : Nat} (l : List S54) {t : TypeId} {fz : Nat × Nat} (h : w.heap[b]? = some (.cells (cells54 l).toArray t fz)) (hl : l.length ≤ 9223372036854775807) : Kd.C k54 w (some ⟨b, 0, none⟩) l.length l := by
  refine ⟨rfl, hl, fun _ => ⟨_, rfl, fun j p hj => ⟨[.int .i64 p.f0, .int .i64 p.f1], rfl, k54_mk w p, fun i u hu => ?_⟩⟩⟩
  have := cells54_at l j p hj
  rw [add_plain]
  show w.cell? ⟨b, j * 2 + i, none⟩ = _
  match i, hu with
  | 0, hu => simp at hu; subst hu; simp only [World.cell?, h, List.getElem?_toArray]; exact this.1
  | 1, hu => simp at hu; subst hu; simp only [World.cell?, h, List.getElem?_toArray]; exact this.2

def observatorylaw07_head.f : Option Bool := some true

set_option maxHeartbeats 1000000 in
theorem head07 (w : World) : Calls Try.prog 31 #[] w fun e w' => e = .returned (.bool true) ∧ Below w.heap.size w w' := by
  have B0 := Aside0.mk (Below.refl w.heap.size w)
  go_enter Try.func31, Try.ntmps31
  go_wp2_with fail
  refine (shares_Split.calls 7 2 3 _ 1 [5] _ _ _ (C_litI [5] (heap_last w _) (by simp)) (by simp) (congrArg some h7_1)).mono ?_
  rintro e w1 ⟨v1, rfl, r1, b1⟩
  have B1 := Aside0.mk (below_step (B0.out.alloc B0.out.size _) b1)
  have R1 := Aside0.mk (Kd.R_lower r1 (B0.out.alloc B0.out.size _).size)
  clear B0 b1 r1
  go_wp2_with fail
  refine (shares_Join.calls _ 2 [⟨3, 22⟩, ⟨1, 12⟩] 2 7 0 _ (C_lit54 [⟨3, 22⟩, ⟨1, 12⟩] (heap_last w1 _) (by simp)) (by simp) (congrArg some h7_2)).mono ?_
  rintro e w2 ⟨rfl, b2⟩
  have B2 := Aside0.mk (below_step (B1.out.alloc B1.out.size _) b2)
  have R2 := Aside0.mk (Kd.R_below (Kd.R_alloc R1.out _) b2)
  clear B1 b2 R1
  go_wp2_with fail
  refine (shares_Join.calls _ 1 [⟨3, 22⟩] 2 0 25 _ (C_lit54 [⟨3, 22⟩] (heap_last w2 _) (by simp)) (by simp) (congrArg some h7_3)).mono ?_
  rintro e w3 ⟨rfl, b3⟩
  have B3 := Aside0.mk (below_step (B2.out.alloc B2.out.size _) b3)
  have R3 := Aside0.mk (Kd.R_below (Kd.R_alloc R2.out _) b3)
  clear B2 b3 R2
  go_wp2_with fail
  refine (shares_Join.calls _ 2 [⟨1, 12⟩, ⟨1, 12⟩] 2 0 8 _ (C_lit54 [⟨1, 12⟩, ⟨1, 12⟩] (heap_last w3 _) (by simp)) (by simp) (congrArg some h7_4)).mono ?_
  rintro e w4 ⟨rfl, b4⟩
  have B4 := Aside0.mk (below_step (B3.out.alloc B3.out.size _) b4)
  have R4 := Aside0.mk (Kd.R_below (Kd.R_alloc R3.out _) b4)
  clear B3 b4 R3
  go_wp2_with fail
  refine (shares_Join.calls _ 3 [⟨1, 12⟩, ⟨2, 17⟩, ⟨3, 23⟩] 2 0 24 _ (C_lit54 [⟨1, 12⟩, ⟨2, 17⟩, ⟨3, 23⟩] (heap_last w4 _) (by simp)) (by simp) (congrArg some h7_5)).mono ?_
  rintro e w5 ⟨rfl, b5⟩
  have B5 := Aside0.mk (below_step (B4.out.alloc B4.out.size _) b5)
  have R5 := Aside0.mk (Kd.R_below (Kd.R_alloc R4.out _) b5)
  clear B4 b5 R4
  obtain ⟨A1, c1, e1⟩ := Kd.R_slice R5.out
  subst e1
  obtain ⟨-, hc1, hC1⟩ := Kd.R_reads' R5.out
  have C5 := Aside0.mk hC1
  clear R5 hC1
  go_wp2_with fail
  refine (observatoryref07_Same.calls 9 _ _ [⟨1, 12⟩, ⟨2, 17⟩, ⟨3, 22⟩] _ 3 [⟨1, 12⟩, ⟨2, 17⟩, ⟨3, 22⟩] true _ (Kd.C_alloc C5.out _) hc1 (C_lit54 [⟨1, 12⟩, ⟨2, 17⟩, ⟨3, 22⟩] (heap_last w5 _) (by simp)) (by simp) h7_6).mono ?_
  rintro e w6 ⟨rfl, b6⟩
  have B6 := Aside0.mk (below_step (B5.out.alloc B5.out.size _) b6.below)
  clear b6 B5
  go_wp2_with fail
  go_ret
  exact ⟨rfl, B6.out⟩

theorem observatorylaw07_head.calls (r : Bool) (w : World) (h : observatorylaw07_head.f = some r) :
    Calls Try.prog 31 #[] w fun e w' => e = .returned (.bool r) ∧ Below w.heap.size w w' := by
  obtain rfl : true = r := by simpa [observatorylaw07_head.f] using h
  exact head07 w

end Go.Proofs.Ytpeinbibaceheaa.X
