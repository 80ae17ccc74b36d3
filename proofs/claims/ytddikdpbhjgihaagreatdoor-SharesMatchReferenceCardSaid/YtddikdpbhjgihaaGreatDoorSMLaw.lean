import Derived.Test.YtddikdpbhjgihaaGreatDoorRows
import Derived.Test.YtddikdpbhjgihaaGreatDoorSM01
import Derived.Test.YtddikdpbhjgihaaGreatDoorSM04
import Derived.Test.YtddikdpbhjgihaaGreatDoorSM23
import Derived.WalkKit
import Derived.ProofKit
import Derived.OpenShut
import Derived.ShutString
import Derived.ChangeOld
import Derived.Below
import Derived.SizedLaws
import Derived.LaidMore
import Derived.Lay
import Derived.MakeChecks
import Derived.Stop.LaidErr
import Derived.Lib.LaidTab
namespace Go.Proofs.YtddikdpbhjgihaaGreatDoor.sharesMatchReference
open Go.ChangeShapes Go.WideShapes Go.ChangeAt Go.RowKit
open Go.Proofs.YtddikdpbhjgihaaGreatDoorW.PrintWords Go.Proofs.YtddikdpbhjgihaaGreatDoor.X
open Go.ChangeMaps (open_string shut_string)
set_option linter.unusedVariables false
theorem own : ownKnob Tryz.prog.godebug = none := by kernel_rfl
theorem laidOut : laidOutB Tryz.prog = true := by kernel_rfl
theorem gl_of_laid {W : World} (h0 : laidMetH Tryz.prog Rows.sharesMatchReferenceRow.laid W) : GL W := by
  rw [MakeChecks.laidMetH_plain _ _ _ (by kernel_rfl)] at h0
  have h1 := laidMet.tail (show laidMet Tryz.prog (_ :: _) W from h0)
  have h2 := laidMet.tail (show laidMet Tryz.prog (_ :: _) W from h1)
  exact GL.mk_ (Lib.tabIs_of_head (g := 0) (t := 236) (e := 171) (n := 20) (by kernel_rfl) (by kernel_rfl) (by kernel_rfl) (by kernel_rfl) (by kernel_rfl) (by kernel_rfl) h2)
    (Lib.tabIs_of_head (g := 7) (t := 255) (e := 5) (n := 64) (by kernel_rfl) (by kernel_rfl) (by kernel_rfl) (by kernel_rfl) (by kernel_rfl) (by kernel_rfl) h1)
set_option maxRecDepth 100000 in
theorem lifted (os : Os) (started : os.Started) (H : Type) (enc : TypeId × Value → H) :
    ReturnsInHanded {} Tryz.checked os 3 .any (fun w args => (Rows.sharesMatchReferenceSpec.pre enc Tryz.prog Tryz.f3 Rows.sharesMatchReferenceRow.domain false w args ∧ laidMetH Tryz.prog Rows.sharesMatchReferenceRow.laid w) ∧ sizedMet enc Tryz.prog Tryz.f3 (OpenSpec.ofChange Rows.sharesMatchReferenceSpec) false w args) (Rows.sharesMatchReferenceSpec.post enc Tryz.prog Tryz.f3 false true false false) := by
  refine returnsInHanded_of_change_and (C := Tryz.checked) (X := fun w _ => laidMetH Tryz.prog Rows.sharesMatchReferenceRow.laid w) (fun _ _ _ hh h => h.of_heap hh) own started (by kernel_rfl) Tryz.func3
    (ChangeSpec.witness_shaped (enc := enc) (C := Tryz.checked) (os := os) (X := fun w _ => laidMetH Tryz.prog Rows.sharesMatchReferenceRow.laid w) false (World.laidAll Tryz.prog os Rows.sharesMatchReferenceRow.laid) #[.int .i64 0, .int .i64 0, .int .i64 0, .slice none 0 0, .slice none 0 0, .string ByteArray.empty, .agg #[.int .i64 0, .int .i64 0], .slice none 0 0] 8 (World.laidAll_os _ _ _)
      (World.shaped_of_ZipB (by kernel_rfl) (by kernel_rfl)) (by kernel_rfl) (by kernel_rfl) (by kernel_rfl)
      (by rw [MakeChecks.laidMetH_plain _ _ _ (by kernel_rfl)]; exact laidMet_laidAll _ (by kernel_rfl) (by kernel_rfl))) ?_
  intro W base args ds gs before hval0 hW hcnd hsz0 hL _
  have hgl : GL W := gl_of_laid hL
  have hval : ∀ (j : Nat) t v, Tryz.f3.params[j]? = some t → args[j]? = some v → Value.okWide Tryz.prog W .any base t v := hval0
  have hW' := hW
  obtain ⟨p, q, hA0, hV, rfl, hfz, hnd⟩ := hW
  have hA : DataW.TrodAll enc Tryz.prog W 0 (fun _ => true) true Tryz.f3.params.toList args.toList ds p := hA0
  rw [Tryz.params3] at hA hval
  obtain ⟨v0, vs0, d0, ds0, p0, q0, hargs, rfl, rfl, h0, r0⟩ := trodAll_cons hA
  obtain ⟨v1, vs1, d1, ds1, p1, q1, rfl, rfl, rfl, h1, r1⟩ := trodAll_cons r0
  obtain ⟨v2, vs2, d2, ds2, p2, q2, rfl, rfl, rfl, h2, r2⟩ := trodAll_cons r1
  obtain ⟨v3, vs3, d3, ds3, p3, q3, rfl, rfl, rfl, h3, r3⟩ := trodAll_cons r2
  obtain ⟨v4, vs4, d4, ds4, p4, q4, rfl, rfl, rfl, h4, r4⟩ := trodAll_cons r3
  obtain ⟨v5, vs5, d5, ds5, p5, q5, rfl, rfl, rfl, h5, r5⟩ := trodAll_cons r4
  obtain ⟨v6, vs6, d6, ds6, p6, q6, rfl, rfl, rfl, h6, r6⟩ := trodAll_cons r5
  obtain ⟨v7, vs7, d7, ds7, p7, q7, rfl, rfl, rfl, h7, r7⟩ := trodAll_cons r6
  obtain ⟨rfl, rfl, rfl⟩ := trodAll_nil r7
  obtain rfl : args = #[v0, v1, v2, v3, v4, v5, v6, v7] := by cases args; simp_all
  obtain ⟨rfl, rfl⟩ := trodVars_none hV
  obtain ⟨a0, rfl, rfl, rfl, w0⟩ := open_int Tryz.underlying3 (hval 0 3 v0 rfl rfl) h0
  obtain ⟨a1, rfl, rfl, rfl, w1⟩ := open_int Tryz.underlying3 (hval 1 3 v1 rfl rfl) h1
  obtain ⟨a2, rfl, rfl, rfl, w2⟩ := open_int Tryz.underlying3 (hval 2 3 v2 rfl rfl) h2
  have k3 := h3
  have lt3 : ∀ x ∈ p3, x.block < W.heap.size := by obtain ⟨m, hm⟩ := k3; exact DataW.trod_lt m _ _ _ hm
  obtain ⟨a3, len3, cap3, rfl⟩ := okWide_slice Tryz.underlying22 (hval 3 22 v3 rfl rfl)
  obtain ⟨z3, K3, w3⟩ : ∃ z, ((Kd.slice 3 (Kd.int .i64))).K W z [.slice a3 len3 cap3] ∧ (fun l => l.length ≤ maxLen ∧ ∀ a ∈ l, (fun n => (Lit.int .i64 n).wf = true) a) z := by
    obtain ⟨fuel, hf⟩ := h3
    exact (opens_slice Tryz.underlying22 (by kernel_rfl) (opens_int Tryz.underlying3)) enc W 0 (fun _ => true) true fuel _ _ hf
  obtain ⟨A3, c3, e3, hc3, hr3⟩ := K3
  simp only [List.cons.injEq, Value.slice.injEq, and_true] at e3
  obtain ⟨rfl, rfl, rfl⟩ := e3
  have k4 := h4
  have lt4 : ∀ x ∈ p4, x.block < W.heap.size := by obtain ⟨m, hm⟩ := k4; exact DataW.trod_lt m _ _ _ hm
  obtain ⟨a4, len4, cap4, rfl⟩ := okWide_slice Tryz.underlying23 (hval 4 23 v4 rfl rfl)
  obtain ⟨z4, K4, w4⟩ : ∃ z, ((Kd.slice 25 k25)).K W z [.slice a4 len4 cap4] ∧ (fun l => l.length ≤ maxLen ∧ ∀ a ∈ l, ok25 a) z := by
    obtain ⟨fuel, hf⟩ := h4
    exact (opens_slice Tryz.underlying23 (by kernel_rfl) opens25) enc W 0 (fun _ => true) true fuel _ _ hf
  obtain ⟨A4, c4, e4, hc4, hr4⟩ := K4
  simp only [List.cons.injEq, Value.slice.injEq, and_true] at e4
  obtain ⟨rfl, rfl, rfl⟩ := e4
  obtain ⟨a5, rfl, rfl, rfl, w5⟩ := open_string Tryz.underlying9 (hval 5 9 v5 rfl rfl) h5
  have k6 := h6
  have lt6 : ∀ x ∈ p6, x.block < W.heap.size := by obtain ⟨m, hm⟩ := k6; exact DataW.trod_lt m _ _ _ hm
  obtain ⟨cs6, rfl, hz6⟩ := okWide_struct Tryz.underlying25 (hval 6 25 v6 rfl rfl)
  obtain ⟨z6, K6, w6⟩ : ∃ z, (k25).K W z cs6.toList ∧ ok25 z := by
    obtain ⟨fuel, hf⟩ := h6
    exact opens25 enc W 0 (fun _ => true) true fuel _ _ hf
  have e6 := k25_open K6
  obtain rfl : cs6 = #[.int .i64 z6.f0, .int .i64 z6.f1] := by apply Array.toList_inj.1; exact e6
  have k7 := h7
  have lt7 : ∀ x ∈ p7, x.block < W.heap.size := by obtain ⟨m, hm⟩ := k7; exact DataW.trod_lt m _ _ _ hm
  obtain ⟨a7, len7, cap7, rfl⟩ := okWide_slice Tryz.underlying26 (hval 7 26 v7 rfl rfl)
  obtain ⟨z7, K7, w7⟩ : ∃ z, ((Kd.slice 9 Kd.string)).K W z [.slice a7 len7 cap7] ∧ (fun l => l.length ≤ maxLen ∧ ∀ a ∈ l, (fun s => s.size ≤ maxLen) a) z := by
    obtain ⟨fuel, hf⟩ := h7
    exact (opens_slice Tryz.underlying26 (by kernel_rfl) (opens_string Tryz.underlying9)) enc W 0 (fun _ => true) true fuel _ _ hf
  obtain ⟨A7, c7, e7, hc7, hr7⟩ := K7
  simp only [List.cons.injEq, Value.slice.injEq, and_true] at e7
  obtain ⟨rfl, rfl, rfl⟩ := e7
  clear hA0 hval0 hsz0
  have hk := Pure.SharesMatchReference a0 a1 a2 z3 z4 a5 z6 z7 w0 w1 w2 w3 w4 w5 w6 w7
  refine (observatorylaw07_SharesMatchReference.calls a0 a1 a2 _ _ z3 _ _ z4 a5 z6.f0 z6.f1 _ _ z7 true W hr3 hc3 hr4 hc4 hr7 hc7 hgl hk).mono fun e W' ⟨he, bel0⟩ => ?_
  have bel : Below W.heap.size W W' := by first | exact bel0 | exact bel0.below
  subst he
  exact ⟨_, rfl, _, _, _, [], _, [], hW', trodAll_mk1 (shut_bool Tryz.underlying4 _), (trodAll_cons_mk (shut_int Tryz.underlying3 w0) (trodAll_cons_mk (shut_int Tryz.underlying3 w1) (trodAll_cons_mk (shut_int Tryz.underlying3 w2) (trodAll_cons_mk (Below.trod laidOut (by kernel_rfl) (of_decide_eq_true (by kernel_rfl)) k3 bel lt3) (trodAll_cons_mk (Below.trod laidOut (by kernel_rfl) (of_decide_eq_true (by kernel_rfl)) k4 bel lt4) (trodAll_cons_mk (shut_string Tryz.underlying9 w5) (trodAll_cons_mk (Below.trod laidOut (by kernel_rfl) (of_decide_eq_true (by kernel_rfl)) k6 bel lt6) (trodAll_cons_mk (Below.trod laidOut (by kernel_rfl) (of_decide_eq_true (by kernel_rfl)) k7 bel lt7) trodAll_mk0)))))))), rfl, bel.frame _, fun h => by cases h⟩
theorem over : Rows.sharesMatchReferenceRow.holds Tryz.pinned (OpenSpec.ofChange Rows.sharesMatchReferenceSpec) :=
  OpenClaim.holds_of_wide 3 Tryz.f3 rfl rfl rfl rfl rfl rfl rfl ⟨rfl, rfl, rfl, rfl, rfl⟩ rfl rfl rfl rfl rfl (by kernel_rfl) Tryz.func3 closed_
    (of_decide_eq_true (by kernel_rfl)) (by unfold Func.isWrapper; first | (rw [if_pos (by decide +kernel)]; kernel_rfl) | (rw [if_neg (by decide +kernel)]; exact ⟨rfl, rfl⟩))
    (fun os started H enc _ => lifted os started H enc)
theorem proved : Rows.SharesMatchReferenceSaid := over
#print axioms proved
end Go.Proofs.YtddikdpbhjgihaaGreatDoor.sharesMatchReference
namespace Go.Proofs.YtddikdpbhjgihaaGreatDoor
theorem sharesMatchReference_holds : Rows.SharesMatchReferenceCardSaid := sharesMatchReference.card_of sharesMatchReference.proved
end Go.Proofs.YtddikdpbhjgihaaGreatDoor
