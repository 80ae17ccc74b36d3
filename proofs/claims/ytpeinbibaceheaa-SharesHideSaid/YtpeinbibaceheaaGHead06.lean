import Derived.Test.YtpeinbibaceheaaGInterp
namespace Go.Proofs.Ytpeinbibaceheaa.X
open Go.RowKit Go.Proofs.YtpeinbibaceheaaW.PrintWords Go.Proofs.YtpeinbibaceheaaW.PrintLast Go.Proofs.YtpeinbibaceheaaW.PrintMore
set_option linter.unusedVariables false
set_option linter.unusedSimpArgs false

theorem h6_1 : field_Add.f 4 2147483646 2 = some (1, 0) := by decide +kernel
theorem h6_2 : field_Mul.f 4 2147483646 2147483646 = some (1, 0) := by decide +kernel
theorem h6_3 : field_Inverse.f 40 2 = some (1073741824, 0) := by decide +kernel
theorem h6_4 : field_Inverse.f 40 0 = some (0, 14) := by decide +kernel
theorem h6_5 : field_Inverse.f 40 (-1) = some (0, 1) := by decide +kernel
theorem h6_6 : field_Eval.f 9 [5, 3, 1] 2 = some (15, 0) := by decide +kernel
theorem h6_7 : field_Eval.f 9 [] 7 = some (0, 0) := by decide +kernel
theorem h6_8 : interpF [⟨1, 9⟩, ⟨2, 15⟩] 0 = (3, 0) := by decide +kernel
theorem h6_9 : interpF [⟨1, 9⟩, ⟨1, 9⟩] 0 = (0, 8) := by decide +kernel
theorem h6_10 : interpF [⟨1, 9⟩, ⟨2, 15⟩, ⟨3, 23⟩] 0 = (5, 0) := by decide +kernel

def cells41 (l : List S41) : List Value := l.flatMap (fun p => [.int .i64 p.f0, .int .i64 p.f1])

theorem cells41_at (l : List S41) : ∀ (j : Nat) (p : S41), l[j]? = some p → (cells41 l)[j * 2 + 0]? = some (.int .i64 p.f0) ∧ (cells41 l)[j * 2 + 1]? = some (.int .i64 p.f1) := by
  induction l with
  | nil => intro j p h; simp at h
  | cons q l ih =>
    intro j p h
    cases j with
    | zero => simp at h; subst h; exact ⟨rfl, rfl⟩
    | succ j =>
      have := ih j p (by simpa using h)
      rw [show (j + 1) * 2 + 0 = (j * 2 + 0) + 2 by omega, show (j + 1) * 2 + 1 = (j * 2 + 1) + 2 by omega]
      exact this

theorem C_lit41 {w : World} {b : Nat} (l : List S41) {t : TypeId} {fz : Nat × Nat} (h : w.heap[b]? = some (.cells (cells41 l).toArray t fz)) (hl : l.length ≤ 9223372036854775807) : Kd.C k41 w (some ⟨b, 0, none⟩) l.length l := by
  refine ⟨rfl, hl, fun _ => ⟨_, rfl, fun j p hj => ⟨[.int .i64 p.f0, .int .i64 p.f1], rfl, k41_mk w p, fun i u hu => ?_⟩⟩⟩
  have := cells41_at l j p hj
  rw [add_plain]
  show w.cell? ⟨b, j * 2 + i, none⟩ = _
  match i, hu with
  | 0, hu => simp at hu; subst hu; simp only [World.cell?, h, List.getElem?_toArray]; exact this.1
  | 1, hu => simp at hu; subst hu; simp only [World.cell?, h, List.getElem?_toArray]; exact this.2

theorem C_litI {w : World} {b : Nat} (l : List Int) {t : TypeId} {fz : Nat × Nat} (h : w.heap[b]? = some (.cells (l.map (Value.int .i64)).toArray t fz)) (hl : l.length ≤ 9223372036854775807) : Kd.C (Kd.int .i64) w (some ⟨b, 0, none⟩) l.length l := by
  refine ⟨rfl, hl, fun _ => ⟨_, rfl, fun j p hj => ⟨[.int .i64 p], rfl, rfl, fun i u hu => ?_⟩⟩⟩
  rw [add_plain]
  match i, hu with
  | 0, hu =>
    simp at hu; subst hu
    show w.cell? ⟨b, j * 1 + 0, none⟩ = _
    simp [World.cell?, h, hj]

theorem heap_last (w : World) (o : Obj) : (w.alloc o).heap[w.heap.size]? = some o := by show (w.heap.push o)[w.heap.size]? = _; rw [Array.getElem?_push_size]

def observatorylaw06_head.f : Option Bool := some true

set_option maxHeartbeats 1000000 in
theorem head06 (w : World) : Calls Try.prog 15 #[] w fun e w' => e = .returned (.bool true) ∧ Below w.heap.size w w' := by
  have B0 := Aside0.mk (Below.refl w.heap.size w)
  go_enter Try.func15, Try.ntmps15
  go_wp2_with fail
  refine (field_Add.calls 4 _ _ _ _ _ h6_1).mono ?_
  rintro e w1 ⟨rfl, b1⟩
  have B1 := Aside0.mk (below_then B0.out B0.out.size b1)
  clear B0 b1
  go_wp2_with fail
  refine (field_Mul.calls 4 _ _ _ _ _ h6_2).mono ?_
  rintro e w2 ⟨rfl, b2⟩
  have B2 := Aside0.mk (below_then B1.out B1.out.size b2)
  clear B1 b2
  go_wp2_with fail
  refine (field_Inverse.calls 40 _ _ _ _ h6_3).mono ?_
  rintro e w3 ⟨rfl, b3⟩
  have B3 := Aside0.mk (below_then B2.out B2.out.size b3.below)
  clear B2 b3
  go_wp2_with fail
  refine (field_Inverse.calls 40 _ _ _ _ h6_4).mono ?_
  rintro e w4 ⟨rfl, b4⟩
  have B4 := Aside0.mk (below_then B3.out B3.out.size b4.below)
  clear B3 b4
  go_wp2_with fail
  refine (field_Inverse.calls 40 _ _ _ _ h6_5).mono ?_
  rintro e w5 ⟨rfl, b5⟩
  have B5 := Aside0.mk (below_then B4.out B4.out.size b5.below)
  clear B4 b5
  go_wp2_with fail
  refine (field_Eval.calls 9 _ 3 [5, 3, 1] 2 _ _ _ (C_litI [5, 3, 1] (heap_last w5 _) (by simp)) (by simp) h6_6).mono ?_
  rintro e w6 ⟨rfl, b6⟩
  have B6 := Aside0.mk (below_then (B5.out.alloc B5.out.size _) (B5.out.alloc B5.out.size _).size b6.below)
  clear B5 b6
  go_wp2_with fail
  refine (field_Eval.calls 9 none 0 [] 7 _ _ _ (Kd.C_nil _ _) (by simp) h6_7).mono ?_
  rintro e w7 ⟨rfl, b7⟩
  have B7 := Aside0.mk (below_then B6.out B6.out.size b7.below)
  clear B6 b7
  go_wp2_with fail
  refine (field_Interpolate.calls _ 2 [⟨1, 9⟩, ⟨2, 15⟩] 0 3 0 _ (C_lit41 [⟨1, 9⟩, ⟨2, 15⟩] (heap_last w7 _) (by simp)) (by simp) (congrArg some h6_8)).mono ?_
  rintro e w8 ⟨rfl, b8⟩
  have B8 := Aside0.mk (below_then (B7.out.alloc B7.out.size _) (B7.out.alloc B7.out.size _).size b8)
  clear B7 b8
  go_wp2_with fail
  refine (field_Interpolate.calls _ 2 [⟨1, 9⟩, ⟨1, 9⟩] 0 0 8 _ (C_lit41 [⟨1, 9⟩, ⟨1, 9⟩] (heap_last w8 _) (by simp)) (by simp) (congrArg some h6_9)).mono ?_
  rintro e w9 ⟨rfl, b9⟩
  have B9 := Aside0.mk (below_then (B8.out.alloc B8.out.size _) (B8.out.alloc B8.out.size _).size b9)
  clear B8 b9
  go_wp2_with fail
  refine (field_Interpolate.calls _ 3 [⟨1, 9⟩, ⟨2, 15⟩, ⟨3, 23⟩] 0 5 0 _ (C_lit41 [⟨1, 9⟩, ⟨2, 15⟩, ⟨3, 23⟩] (heap_last w9 _) (by simp)) (by simp) (congrArg some h6_10)).mono ?_
  rintro e w10 ⟨rfl, b10⟩
  have B10 := Aside0.mk (below_then (B9.out.alloc B9.out.size _) (B9.out.alloc B9.out.size _).size b10)
  clear B9 b10
  go_wp2_with fail
  go_ret
  exact ⟨rfl, B10.out⟩

theorem observatorylaw06_head.calls (r : Bool) (w : World) (h : observatorylaw06_head.f = some r) :
    Calls Try.prog 15 #[] w fun e w' => e = .returned (.bool r) ∧ Below w.heap.size w w' := by
  obtain rfl : true = r := by simpa [observatorylaw06_head.f] using h
  exact head06 w

end Go.Proofs.Ytpeinbibaceheaa.X
