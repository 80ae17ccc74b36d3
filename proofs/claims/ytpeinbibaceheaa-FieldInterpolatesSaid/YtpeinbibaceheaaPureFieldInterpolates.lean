/- The statement FieldInterpolates over plain numbers: the points of a polynomial interpolate to its values. -/
import Derived.Test.YtpeinbibaceheaaX10
import Derived.Test.YtpeinbibaceheaaBr6b
namespace Go.Proofs.Ytpeinbibaceheaa.Pure
open Go.RowKit Go.Proofs.Ytpeinbibaceheaa.X Go.Proofs.YtpeinbibaceheaaW.PrintWords Go.Proofs.YtpeinbibaceheaaW.PrintLast
open ObsMath

/-- From place i on, each number differs from those before it. -/
def DiffFrom (l : List Int) (i : Nat) : Prop := ∀ j, i ≤ j → j < l.length → ∀ q, q < j → l.getD j 0 ≠ l.getD q 0

theorem rd_getD (l : List Int) (i : Nat) : rd l (i : Int) = l.getD i 0 := by simp [rd]

theorem diff_both (l : List Int) (hl : l.length ≤ 9223372036854775806) : ∀ (d k i : Nat), l.length - i = d → i ≤ l.length → (d + 1) * (l.length + 2) ≤ k →
    (∃ b, observatorylaw06_different.l0 k l (i : Int) = some b ∧ (b = true ↔ DiffFrom l i)) := by
  intro d
  induction d with
  | zero =>
    intro k i h1 h2 h3
    obtain ⟨k, rfl⟩ : ∃ m, k = m + 1 := ⟨k - 1, by omega⟩
    refine ⟨true, ?_, ?_⟩
    · simp only [observatorylaw06_different.l0]; rw [if_neg (by omega)]
    · simp only [true_iff]; intro j hj hj2; omega
  | succ d ih =>
    intro k i h1 h2 h3
    have e3 : (d + 1 + 1) * (l.length + 2) = (d + 1) * (l.length + 2) + (l.length + 2) := Nat.succ_mul _ _
    have hi : i < l.length := by omega
    have inner : ∀ (c k q : Nat), i - q = c → q ≤ i → (d + 1) * (l.length + 2) + c + 1 ≤ k → (∀ p, p < q → l.getD i 0 ≠ l.getD p 0) →
        (∃ b, observatorylaw06_different.l1 k l (i : Int) (q : Int) = some b ∧ (b = true ↔ DiffFrom l i)) := by
      intro c
      induction c with
      | zero =>
        intro k q g1 g2 g3 g4
        obtain ⟨k, rfl⟩ : ∃ m, k = m + 1 := ⟨k - 1, by omega⟩
        obtain ⟨b, hb, hbi⟩ := ih k (i + 1) (by omega) (by omega) (by omega)
        refine ⟨b, ?_, ?_⟩
        · simp only [observatorylaw06_different.l1]; rw [if_neg (by omega), w_succ (by omega)]; exact hb
        · rw [hbi]
          constructor
          · intro h j hj hj2 p hp
            by_cases e : j = i
            · subst e; exact g4 p (by omega)
            · exact h j (by omega) hj2 p hp
          · intro h j hj hj2 p hp
            exact h j (by omega) hj2 p hp
      | succ c ihc =>
        intro k q g1 g2 g3 g4
        obtain ⟨k, rfl⟩ : ∃ m, k = m + 1 := ⟨k - 1, by omega⟩
        simp only [observatorylaw06_different.l1]
        rw [if_pos (by omega), if_pos (by omega), if_pos (by omega), if_pos (by omega), if_pos (by omega), rd_getD, rd_getD]
        by_cases e : l.getD i 0 = l.getD q 0
        · rw [if_pos e]
          refine ⟨false, rfl, ?_⟩
          constructor
          · intro h; cases h
          · intro h; exact absurd e (h i (Nat.le_refl _) hi q (by omega))
        · rw [if_neg e, w_succ (by omega)]
          exact ihc k (q + 1) (by omega) (by omega) (by omega) (fun p hp => by
            by_cases e2 : p = q
            · subst e2; exact e
            · exact g4 p (by omega))
    obtain ⟨k, rfl⟩ : ∃ m, k = m + 1 := ⟨k - 1, by omega⟩
    simp only [observatorylaw06_different.l0]
    rw [if_pos (by omega)]
    exact inner i k 0 (by omega) (by omega) (by omega) (fun p hp => by omega)

theorem points_l0 (poly xs : List Int) (hp : poly.length ≤ 16) (hpa : poly.all inP = true) (hxa : xs.all inP = true) (hx : xs.length ≤ 16) : ∀ (d k i : Nat), xs.length - i = d → i ≤ xs.length → d + 25 < k →
    observatorylaw06_points.l0 k poly xs ((xs.map (fun x => (⟨x, evI poly x⟩ : S41))).take i) (i : Int) = some (xs.map (fun x => (⟨x, evI poly x⟩ : S41)), true) := by
  intro d
  induction d with
  | zero =>
    intro k i h1 h2 h3
    obtain ⟨k, rfl⟩ : ∃ m, k = m + 1 := ⟨k - 1, by omega⟩
    simp only [observatorylaw06_points.l0]
    rw [if_neg (by omega), List.take_of_length_le (by simp; omega)]
  | succ d ih =>
    intro k i h1 h2 h3
    obtain ⟨k, rfl⟩ : ∃ m, k = m + 1 := ⟨k - 1, by omega⟩
    have hi : i < xs.length := by omega
    have cx : inP xs[i] = true := List.all_eq_true.1 hxa _ (List.getElem_mem hi)
    have s1 : (xs.map (fun x => (⟨x, evI poly x⟩ : S41))).take (i + 1) = (xs.map (fun x => (⟨x, evI poly x⟩ : S41))).take i ++ [(⟨xs[i], evI poly xs[i]⟩ : S41)] := by
      rw [List.take_succ_eq_append_getElem (by simpa using hi), List.getElem_map]
    simp only [observatorylaw06_points.l0]
    rw [if_pos (by omega), if_pos (by omega), rd_at hi, Eval_ok (by omega) hp hpa cx, Option.bind_some, if_pos rfl, if_pos (by simp; omega), w_succ (by omega), ← s1]
    exact ih k (i + 1) (by omega) (by omega) (by omega)

theorem FieldInterpolates : observatorylaw06_FieldInterpolates.Pure := by
  intro poly xs x hp1 hp2 _ hx1 hx2 _ _
  unfold maxLen at hp1 hx1
  obtain ⟨K, hK⟩ : ∃ K, poly.length + xs.length + 1000 = K := ⟨_, rfl⟩
  refine ⟨K + 1, ?_⟩
  unfold observatorylaw06_FieldInterpolates.f
  simp only [observatorylaw06_head.f, Option.bind_some]
  have up : ∀ k, observatorylaw06_FieldInterpolates.j0 (k + 1) poly xs x true true = some true := fun k => by simp only [observatorylaw06_FieldInterpolates.j0]; rw [if_pos trivial]
  by_cases h1 : (xs.length : Int) < 1
  · rw [if_pos h1, up]
  rw [if_neg h1]
  by_cases h2 : (xs.length : Int) > 16
  · rw [if_pos h2, up]
  rw [if_neg h2]
  by_cases h3 : (poly.length : Int) > (xs.length : Int)
  · rw [if_pos h3, up]
  rw [if_neg h3, in_eq (by omega) (by omega), Option.bind_some]
  cases hpa : poly.all inP with
  | false => rw [if_neg (by simp), up]
  | true =>
    rw [if_pos rfl, in_eq (by omega) (by omega), Option.bind_some]
    cases hxa : xs.all inP with
    | false => rw [if_neg (by simp), up]
    | true =>
      rw [if_pos rfl, in_eq (by simp) (by simp; omega), Option.bind_some]
      cases hxx : [x].all inP with
      | false => rw [if_neg (by simp), up]
      | true =>
        have hx : inP x = true := by simpa using hxx
        have hb : (xs.length + 1) * (xs.length + 2) ≤ 17 * 18 := Nat.mul_le_mul (by omega) (by omega)
        obtain ⟨b, hb1, hb2⟩ := diff_both xs (by omega) xs.length (K + 1) 0 (by omega) (by omega) (by omega)
        have hb3 : observatorylaw06_different.f (K + 1) xs = some b := hb1
        rw [if_pos rfl, hb3, Option.bind_some]
        cases b with
        | false => rw [Bool.not_false, up]
        | true =>
          have hd := hb2.1 rfl
          have hpts : observatorylaw06_points.f K poly xs = some (xs.map (fun x => (⟨x, evI poly x⟩ : S41)), true) := points_l0 poly xs (by omega) hpa hxa (by omega) xs.length K 0 (by omega) (by omega) (by omega)
          have hX : ∀ i, i < xs.length → XI (xs.map (fun x => (⟨x, evI poly x⟩ : S41))) i = xs.getD i 0 ∧ YI (xs.map (fun x => (⟨x, evI poly x⟩ : S41))) i = evI poly (xs.getD i 0) := by
            intro i hi
            unfold XI YI
            rw [rd41_at (by simpa using hi)]
            simp [List.getElem?_eq_getElem hi]
          have g : IGood (xs.map (fun x => (⟨x, evI poly x⟩ : S41))) x := by
            refine IGood.of_dst (by simp; omega) (by simp; omega) hx ?_ ?_
            · rw [List.all_eq_true]
              intro p hp
              obtain ⟨z, hz, rfl⟩ := List.mem_map.1 hp
              simp [okP, List.all_eq_true.1 hxa z hz, inP_evI]
            · intro i j hij hj
              rw [List.length_map] at hj
              rw [(hX i (by omega)).1, (hX j hj).1]
              exact fun e => hd j (by omega) hj i hij e.symm
          have hv : ival (xs.map (fun x => (⟨x, evI poly x⟩ : S41))) x = evI poly x := by
            refine eqP (inP_ival g) (inP_evI _ _) ?_
            rw [evI_F]
            refine g.unique ((PF.ev (poly.map toF)).mono (by simp; omega)) ?_ x
            intro i hi
            rw [List.length_map] at hi
            rw [(hX i hi).1, (hX i hi).2, evI_F]
          simp only [observatorylaw06_FieldInterpolates.j0]
          rw [if_neg (by simp), hpts, Option.bind_some, Eval_ok (by omega) (by omega) hpa hx, Option.bind_some]
          unfold field_Interpolate.f
          rw [g.val, Option.bind_some, hv]
          simp

end Go.Proofs.Ytpeinbibaceheaa.Pure
