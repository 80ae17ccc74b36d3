/- The statement FieldLaws over plain numbers: sums and products of the prime field commute, are associative and distributive. -/
import Derived.Test.YtpeinbibaceheaaX7
import Derived.Test.YtpeinbibaceheaaBr6
namespace Go.Proofs.Ytpeinbibaceheaa.Pure
open Go.RowKit Go.Proofs.Ytpeinbibaceheaa.X Go.Proofs.YtpeinbibaceheaaW.PrintWords Go.Proofs.YtpeinbibaceheaaW.PrintLast
open ObsMath

theorem FieldLaws : observatorylaw06_FieldLaws.Pure := by
  intro a b c _ _ _
  refine ⟨20, ?_⟩
  unfold observatorylaw06_FieldLaws.f
  rw [in_eq (by simp) (by simp)]
  simp only [observatorylaw06_head.f, Option.bind_some]
  cases h : [a, b, c].all inP with
  | false => simp
  | true =>
    simp only [List.all_cons, List.all_nil, Bool.and_true, Bool.and_eq_true] at h
    obtain ⟨ha, hb, hc⟩ := h
    have h1 : inP 1 = true := by decide
    have h0 : inP 0 = true := by decide
    have e1 : addV a b = addV b a := by unfold addV; rw [Int.add_comm]
    have e2 : addV (addV a b) c = addV a (addV b c) := eqP (inP_addV _ _) (inP_addV _ _) (by simp only [toF_addV]; grind)
    have e3 : addV a 0 = a := eqP (inP_addV _ _) ha (by rw [toF_addV, toF_zero]; grind)
    have e4 : mulV a b = mulV b a := by unfold mulV; rw [Int.mul_comm]
    have e5 : mulV (mulV a b) c = mulV a (mulV b c) := eqP (inP_mulV _ _) (inP_mulV _ _) (by simp only [toF_mulV]; grind)
    have e6 : mulV a 1 = a := eqP (inP_mulV _ _) ha (by rw [toF_mulV, toF_one]; grind)
    have e7 : mulV a (addV b c) = addV (mulV a b) (mulV a c) := eqP (inP_mulV _ _) (inP_addV _ _) (by simp only [toF_mulV, toF_addV]; grind)
    rw [if_pos rfl, add_ok (by omega) ha hb, Option.bind_some, add_ok (by omega) hb ha, Option.bind_some, if_pos e1, Option.bind_some, add_ok (by omega) (inP_addV _ _) hc, Option.bind_some,
      add_ok (by omega) hb hc, Option.bind_some, add_ok (by omega) ha (inP_addV _ _), Option.bind_some, if_pos e2, add_ok (by omega) ha h0, Option.bind_some, e3]
    simp only [observatorylaw06_FieldLaws.j0]
    rw [mul_ok (by omega) ha hb, Option.bind_some, mul_ok (by omega) hb ha, Option.bind_some, if_pos e4, Option.bind_some, mul_ok (by omega) (inP_mulV _ _) hc, Option.bind_some,
      mul_ok (by omega) hb hc, Option.bind_some, mul_ok (by omega) ha (inP_mulV _ _), Option.bind_some, if_pos e5, mul_ok (by omega) ha h1, Option.bind_some, e6]
    simp only [observatorylaw06_FieldLaws.j1]
    rw [if_pos trivial, if_pos (by simp), if_pos (by simp), add_ok (by omega) hb hc, Option.bind_some, mul_ok (by omega) ha (inP_addV _ _), Option.bind_some, mul_ok (by omega) ha hb, Option.bind_some,
      mul_ok (by omega) ha hc, Option.bind_some, add_ok (by omega) (inP_mulV _ _) (inP_mulV _ _), Option.bind_some, if_pos e7, add_ok (by omega) ha hb, Option.bind_some, Option.bind_some,
      in_eq (by simp) (by simp), Option.bind_some]
    simp [inP_addV, inP_mulV]

end Go.Proofs.Ytpeinbibaceheaa.Pure
