/- The statement FieldInverts over plain numbers: inverses in the prime field. -/
import Derived.Test.YtpeinbibaceheaaX8
import Derived.Test.YtpeinbibaceheaaBr6
namespace Go.Proofs.Ytpeinbibaceheaa.Pure
open Go.RowKit Go.Proofs.Ytpeinbibaceheaa.X Go.Proofs.YtpeinbibaceheaaW.PrintWords Go.Proofs.YtpeinbibaceheaaW.PrintLast
open ObsMath

theorem ne_zero_of {a : Int} (h : toF a ≠ 0) : a ≠ 0 := fun e => h (by rw [e, toF_zero])

theorem FieldInverts : observatorylaw06_FieldInverts.Pure := by
  intro a b _ _
  obtain ⟨K, hK⟩ : ∃ K : Nat, 2147483650 ≤ K := ⟨2147483650, Nat.le_refl _⟩
  refine ⟨K + 1, ?_⟩
  unfold observatorylaw06_FieldInverts.f
  rw [in_eq (by simp) (by simp; omega)]
  simp only [observatorylaw06_head.f, Option.bind_some]
  cases h : [a, b].all inP with
  | false => rw [if_neg (by simp)]; simp only [observatorylaw06_FieldInverts.j0]; rw [if_pos trivial]
  | true =>
    simp only [List.all_cons, List.all_nil, Bool.and_true, Bool.and_eq_true] at h
    obtain ⟨ha, hb⟩ := h
    rw [if_pos rfl]
    by_cases a0 : a = 0
    · rw [if_pos a0]; simp only [observatorylaw06_FieldInverts.j0]; rw [if_pos trivial]
    · rw [if_neg a0]
      simp only [observatorylaw06_FieldInverts.j0]
      by_cases b0 : b = 0
      · rw [if_pos (by simp [b0])]
      · have ha' := inP_iff.1 ha
        have hb' := inP_iff.1 hb
        have va := inv_mul (a := a) (by omega) ha'.2
        have vb := inv_mul (a := b) (by omega) hb'.2
        have fa : toF a ≠ 0 := toF_ne_zero (by omega) ha'.2
        have fb : toF b ≠ 0 := toF_ne_zero (by omega) hb'.2
        have fv : toF (inv a) ≠ 0 := F_ne_zero_of_inv (b := toF a) (by grind)
        have fp : toF (mulV a b) ≠ 0 := fun e => by
          rw [toF_mulV] at e
          rcases F_mul_eq_zero e with h | h
          · exact fa h
          · exact fb h
        have p0 := ne_zero_of fp
        have i0 := ne_zero_of fv
        have pr := inP_iff.1 (inP_mulV a b)
        have ir := inP_iff.1 (inP_inv a)
        have vi := inv_mul (a := inv a) (by omega) ir.2
        have vp := inv_mul (a := mulV a b) (by omega) pr.2
        have e1 : mulV a (inv a) = 1 := eqP (inP_mulV _ _) (by decide) (by rw [toF_mulV, toF_one]; grind)
        have e2 : inv (inv a) = a := eqP (inP_inv _) ha (F_inv_unique (a := toF (inv a)) vi (by grind))
        have e3 : inv (mulV a b) = mulV (inv a) (inv b) := eqP (inP_inv _) (inP_mulV _ _) (F_inv_unique (a := toF (mulV a b)) vp (by rw [toF_mulV, toF_mulV]; grind))
        rw [if_neg (by simp [b0]), Inverse_ok (by omega) ha a0, Option.bind_some, Inverse_ok (by omega) hb b0, Option.bind_some, Inverse_ok (by omega) (inP_inv _) i0, Option.bind_some,
          mul_ok (by omega) ha hb, Option.bind_some, Inverse_ok (by omega) (inP_mulV _ _) p0, Option.bind_some]
        simp only [if_true]
        rw [mul_ok (by omega) ha (inP_inv _), Option.bind_some, if_pos e1, if_pos e2, mul_ok (by omega) (inP_inv _) (inP_inv _), Option.bind_some, if_pos e3]
        simp; omega

end Go.Proofs.Ytpeinbibaceheaa.Pure
