import Derived.Test.YtpeinbibaceheaaX4
import Derived.Test.YtpeinbibaceheaaGHead06
import Derived.Test.YtpeinbibaceheaaMath3
/-
  What the functions of the field come to, in plain arithmetic.
-/
namespace Go.Proofs.Ytpeinbibaceheaa.X
open Go.RowKit Go.Proofs.YtpeinbibaceheaaW.PrintWords Go.Proofs.YtpeinbibaceheaaW.PrintLast
open ObsMath

def addV (a b : Int) : Int := (a + b) % 2147483647
def mulV (a b : Int) : Int := a * b % 2147483647

theorem inP_addV (a b : Int) : inP (addV a b) = true := by rw [inP_iff]; unfold addV; omega
theorem inP_mulV (a b : Int) : inP (mulV a b) = true := by rw [inP_iff]; unfold mulV; omega
theorem inP_inv (a : Int) : inP (inv a) = true := inP_iff.2 (inv_range a)
theorem inP_evI (l : List Int) (x : Int) : inP (evI l x) = true := inP_iff.2 (evI_range x l)
theorem toF_addV (a b : Int) : toF (addV a b) = toF a + toF b := by unfold addV; rw [toF_mod, toF_add]
theorem toF_mulV (a b : Int) : toF (mulV a b) = toF a * toF b := by unfold mulV; rw [toF_mod, toF_mul]
theorem eqP {a b : Int} (ha : inP a = true) (hb : inP b = true) (h : toF a = toF b) : a = b :=
  toF_inj (inP_iff.1 ha).1 (inP_iff.1 ha).2 (inP_iff.1 hb).1 (inP_iff.1 hb).2 h

theorem Add_ok {k : Nat} {a b : Int} (hk : 3 ≤ k) (ha : inP a = true) (hb : inP b = true) : field_Add.f k a b = some (addV a b, 0) := by
  have h1 := inP_iff.1 ha
  have h2 := inP_iff.1 hb
  unfold field_Add.f
  rw [elements_eq _ (by simp) _ (by simp; omega), Option.bind_some, if_pos (by simp [ha, hb]), w64 (by omega) (by omega), tm _ (by omega)]
  rfl
theorem Add_bad {k : Nat} {a b : Int} (hk : 3 ≤ k) (h : (inP a && inP b) = false) : field_Add.f k a b = some (0, 1) := by
  unfold field_Add.f
  rw [elements_eq _ (by simp) _ (by simp; omega), Option.bind_some, if_neg (by simpa using h)]
theorem Mul_ok {k : Nat} {a b : Int} (hk : 3 ≤ k) (ha : inP a = true) (hb : inP b = true) : field_Mul.f k a b = some (mulV a b, 0) := by
  have h1 := inP_iff.1 ha
  have h2 := inP_iff.1 hb
  have h3 := mul_range h1.1 h1.2 h2.1 h2.2
  unfold field_Mul.f
  rw [elements_eq _ (by simp) _ (by simp; omega), Option.bind_some, if_pos (by simp [ha, hb]), w64 (by omega) (by omega), tm _ (by omega)]
  rfl
theorem Mul_bad {k : Nat} {a b : Int} (hk : 3 ≤ k) (h : (inP a && inP b) = false) : field_Mul.f k a b = some (0, 1) := by
  unfold field_Mul.f
  rw [elements_eq _ (by simp) _ (by simp; omega), Option.bind_some, if_neg (by simpa using h)]
theorem Inverse_ok {k : Nat} {a : Int} (hk : 2147483648 ≤ k) (ha : inP a = true) (h0 : a ≠ 0) : field_Inverse.f k a = some (inv a, 0) := by
  have h1 := inP_iff.1 ha
  unfold field_Inverse.f
  rw [element_eq, Option.bind_some, if_pos ha, if_neg h0, inverse_eq h1.1 h1.2 k hk, Option.bind_some]
theorem Inverse_zero (k : Nat) : field_Inverse.f k 0 = some (0, 14) := by
  unfold field_Inverse.f
  rw [element_eq, Option.bind_some, if_pos (by decide), if_pos rfl]
theorem Inverse_bad (k : Nat) {a : Int} (h : inP a = false) : field_Inverse.f k a = some (0, 1) := by
  unfold field_Inverse.f
  rw [element_eq, Option.bind_some, if_neg (by rw [h]; simp)]

theorem add_ok {k : Nat} {a b : Int} (hk : 3 ≤ k) (ha : inP a = true) (hb : inP b = true) : observatorylaw06_add.f k a b = some (addV a b) := by
  unfold observatorylaw06_add.f
  rw [Add_ok hk ha hb, Option.bind_some, if_pos rfl]
theorem mul_ok {k : Nat} {a b : Int} (hk : 3 ≤ k) (ha : inP a = true) (hb : inP b = true) : observatorylaw06_mul.f k a b = some (mulV a b) := by
  unfold observatorylaw06_mul.f
  rw [Mul_ok hk ha hb, Option.bind_some, if_pos rfl]

theorem rd_at {l : List Int} {i : Nat} (hi : i < l.length) : rd l (i : Int) = l[i] := by simp [rd, List.getElem?_eq_getElem hi]
theorem w_succ {i : Nat} (h : i < 9223372036854775807) : wrap64 ((i : Int) + 1) = ((i + 1 : Nat) : Int) := by rw [w64 (by omega) (by omega)]; omega

theorem in_l0 (l : List Int) (hl : l.length ≤ 9223372036854775806) : ∀ (d k i : Nat), l.length - i = d → i ≤ l.length → d < k → observatorylaw06_in.l0 k l (i : Int) = some ((l.drop i).all inP) := by
  intro d
  induction d with
  | zero =>
    intro k i h1 h2 h3
    obtain ⟨k, rfl⟩ : ∃ m, k = m + 1 := ⟨k - 1, by omega⟩
    simp only [observatorylaw06_in.l0]
    rw [if_neg (by omega), List.drop_eq_nil_of_le (by omega)]; rfl
  | succ d ih =>
    intro k i h1 h2 h3
    obtain ⟨k, rfl⟩ : ∃ m, k = m + 1 := ⟨k - 1, by omega⟩
    have hi : i < l.length := by omega
    simp only [observatorylaw06_in.l0]
    rw [if_pos (by omega), if_pos (by omega), rd_at hi, w_succ (by omega), ih k (i + 1) (by omega) (by omega) (by omega), List.drop_eq_getElem_cons hi, List.all_cons]
    by_cases c1 : l[i] < 0
    · rw [if_pos c1]; simp [inP]; omega
    · rw [if_neg c1]
      by_cases c2 : l[i] ≥ 2147483647
      · rw [if_pos c2]; simp [inP]; omega
      · rw [if_neg c2]
        have : inP l[i] = true := inP_iff.2 (by omega)
        rw [this]; simp

theorem in_eq {l : List Int} {k : Nat} (hl : l.length ≤ 9223372036854775806) (hk : l.length < k) : observatorylaw06_in.f k l = some (l.all inP) := by
  have := in_l0 l hl l.length k 0 (by omega) (by omega) hk
  simpa [observatorylaw06_in.f] using this

theorem eval_l0 (l : List Int) (x : Int) (hx : inP x = true) (ha : l.all inP = true) (h16 : l.length ≤ 16) : ∀ (d k i : Nat), l.length - i = d → i ≤ l.length → d < k →
    field_Eval.l0 k l x (evI (l.drop (l.length - i)) x) (l.length : Int) (i : Int) = some (evI l x, 0) := by
  intro d
  induction d with
  | zero =>
    intro k i h1 h2 h3
    obtain ⟨k, rfl⟩ : ∃ m, k = m + 1 := ⟨k - 1, by omega⟩
    simp only [field_Eval.l0]
    rw [if_neg (by omega), show l.length - i = 0 by omega, List.drop_zero]
  | succ d ih =>
    intro k i h1 h2 h3
    obtain ⟨k, rfl⟩ : ∃ m, k = m + 1 := ⟨k - 1, by omega⟩
    have hi : l.length - 1 - i < l.length := by omega
    have hj : wrap64 (wrap64 ((l.length : Int) - 1) - (i : Int)) = ((l.length - 1 - i : Nat) : Int) := by
      rw [w64 (n := (l.length : Int) - 1) (by omega) (by omega), w64 (by omega) (by omega)]; omega
    have hx' := inP_iff.1 hx
    have hr := evI_range x (l.drop (l.length - i))
    have hm := mul_range hr.1 hr.2 hx'.1 hx'.2
    have hc : inP l[l.length - 1 - i] = true := List.all_eq_true.1 ha _ (List.getElem_mem hi)
    have hc' := inP_iff.1 hc
    simp only [field_Eval.l0]
    rw [if_pos (by omega), hj, if_pos (by omega), if_pos (by omega), rd_at hi, w_succ (by omega), w64 (n := evI (l.drop (l.length - i)) x * x) (by omega) (by omega), w64 (by omega) (by omega), tm _ (by omega)]
    have e : evI (l.drop (l.length - (i + 1))) x = (evI (l.drop (l.length - i)) x * x + l[l.length - 1 - i]) % 2147483647 := by
      rw [show l.length - (i + 1) = l.length - 1 - i by omega, List.drop_eq_getElem_cons hi, evI, show l.length - 1 - i + 1 = l.length - i by omega]
    rw [← e]
    exact ih k (i + 1) (by omega) (by omega) (by omega)

theorem Eval_ok {k : Nat} {l : List Int} {x : Int} (hk : 18 ≤ k) (h16 : l.length ≤ 16) (ha : l.all inP = true) (hx : inP x = true) : field_Eval.f k l x = some (evI l x, 0) := by
  obtain ⟨k, rfl⟩ : ∃ m, k = m + 1 := ⟨k - 1, by omega⟩
  unfold field_Eval.f
  rw [if_neg (by omega), elements_eq _ (by omega) _ (by omega), Option.bind_some, if_pos ha, element_eq, Option.bind_some, hx]
  simp only [field_Eval.j0]
  rw [if_neg (by simp)]
  have := eval_l0 l x hx ha h16 l.length k 0 (by omega) (by omega) (by omega)
  rw [Nat.sub_zero, List.drop_length] at this
  exact this

theorem Eval_bad {k : Nat} {l : List Int} {x : Int} (hk : 18 ≤ k) (h : l.length > 16 ∨ l.all inP = false ∨ inP x = false) : field_Eval.f k l x = some (0, 1) := by
  obtain ⟨k, rfl⟩ : ∃ m, k = m + 1 := ⟨k - 1, by omega⟩
  unfold field_Eval.f
  by_cases h1 : l.length > 16
  · rw [if_pos (by omega)]; simp only [field_Eval.j0]; rw [if_pos trivial]
  · rw [if_neg (by omega), elements_eq _ (by omega) _ (by omega), Option.bind_some]
    cases h2 : l.all inP with
    | false => rw [if_neg (by simp)]; simp only [field_Eval.j0]; rw [if_pos trivial]
    | true =>
      have h3 : inP x = false := by
        rcases h with h | h | h
        · exact absurd h h1
        · rw [h2] at h; cases h
        · exact h
      rw [if_pos rfl, element_eq, Option.bind_some, h3]
      simp only [field_Eval.j0]; rw [if_pos (by simp)]

end Go.Proofs.Ytpeinbibaceheaa.X
