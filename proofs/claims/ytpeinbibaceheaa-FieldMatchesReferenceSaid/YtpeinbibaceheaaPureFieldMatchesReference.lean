/- The statement FieldMatchesReference over plain numbers: the field's functions and the reference's return the same. -/
import Derived.Test.YtpeinbibaceheaaX7
import Derived.Test.YtpeinbibaceheaaBr6c
import Derived.Test.YtpeinbibaceheaaXOpn
namespace Go.Proofs.Ytpeinbibaceheaa.Pure
open Go.RowKit Go.Proofs.Ytpeinbibaceheaa.X Go.Proofs.YtpeinbibaceheaaW.PrintWords
open ObsMath
set_option linter.unusedVariables false

theorem FieldMatchesReference (a0 : Int) (a1 : Int) (z2 : List Int) (z3 : List (S41)) (a4 : Int) (h0 : (Lit.int .i64 a0).wf = true) (h1 : (Lit.int .i64 a1).wf = true) (h2 : (fun l => l.length ≤ maxLen ∧ ∀ a ∈ l, (fun n => (Lit.int .i64 n).wf = true) a) z2) (h3 : (fun l => l.length ≤ maxLen ∧ ∀ a ∈ l, ok41 a) z3) (h4 : (Lit.int .i64 a4).wf = true) : ∃ k, observatorylaw06_FieldMatchesReference.f k a0 a1 z2 z3 a4 = some true := by
  obtain ⟨K, hK⟩ : ∃ K : Nat, 2147485000 ≤ K := ⟨2147485000, Nat.le_refl _⟩
  refine ⟨K + 1, ?_⟩
  have up : observatorylaw06_FieldMatchesReference.j0 (K + 1) a0 a1 z2 z3 a4 true true = some true := by simp only [observatorylaw06_FieldMatchesReference.j0]; rw [if_pos trivial]
  unfold observatorylaw06_FieldMatchesReference.f
  simp only [observatorylaw06_head.f, Option.bind_some]
  by_cases n1 : (z2.length : Int) > 30
  · rw [if_pos n1, up]
  rw [if_neg n1]
  by_cases n2 : (z3.length : Int) > 30
  · rw [decide_eq_true n2, up]
  rw [decide_eq_false n2]
  simp only [observatorylaw06_FieldMatchesReference.j0]
  rw [if_neg (by simp)]
  have fi : ∀ l y, field_Interpolate.f l y = some (interpF l y) := fun _ _ => rfl
  have e1 : ∃ r, field_Add.f K a0 a1 = some r := by
    cases h : (inP a0 && inP a1) with
    | true => rw [Bool.and_eq_true] at h; exact ⟨_, Add_ok (by omega) h.1 h.2⟩
    | false => exact ⟨_, Add_bad (by omega) h⟩
  have e2 : ∃ r, field_Mul.f K a0 a1 = some r := by
    cases h : (inP a0 && inP a1) with
    | true => rw [Bool.and_eq_true] at h; exact ⟨_, Mul_ok (by omega) h.1 h.2⟩
    | false => exact ⟨_, Mul_bad (by omega) h⟩
  have e3 : ∃ r, field_Inverse.f K a0 = some r := by
    cases h : inP a0 with
    | true =>
      by_cases h0 : a0 = 0
      · subst h0; exact ⟨_, Inverse_zero K⟩
      · exact ⟨_, Inverse_ok (by omega) h h0⟩
    | false => exact ⟨_, Inverse_bad K h⟩
  have e4 : ∃ r, field_Eval.f K z2 a4 = some r := by
    by_cases h : z2.length > 16 ∨ z2.all inP = false ∨ inP a4 = false
    · exact ⟨_, Eval_bad (by omega) h⟩
    · refine ⟨_, Eval_ok (by omega) ?_ ?_ ?_⟩
      · rcases Nat.lt_or_ge 16 z2.length with h' | h'
        · exact absurd (.inl h') h
        · exact h'
      · cases h' : z2.all inP with
        | true => rfl
        | false => exact absurd (.inr (.inl h')) h
      · cases h' : inP a4 with
        | true => rfl
        | false => exact absurd (.inr (.inr h')) h
  obtain ⟨r1, q1⟩ := e1
  obtain ⟨r2, q2⟩ := e2
  obtain ⟨r3, q3⟩ := e3
  obtain ⟨r4, q4⟩ := e4
  rw [rAdd_eq (k := K) (by omega), rMul_eq (k := K) (by omega), rInverse_eq (by omega), rEval_eq _ _ (by omega), rInterp_eq _ _ (by omega), q1, q2, q3, q4, fi]
  simp

end Go.Proofs.Ytpeinbibaceheaa.Pure
