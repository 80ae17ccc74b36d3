/- The statement FieldValues over plain numbers: values of sums and multiples of polynomials, at 0, and with a coefficient 0 behind. -/
import Derived.Test.YtpeinbibaceheaaX9
import Derived.Test.YtpeinbibaceheaaBr6
namespace Go.Proofs.Ytpeinbibaceheaa.Pure
open Go.RowKit Go.Proofs.Ytpeinbibaceheaa.X Go.Proofs.YtpeinbibaceheaaW.PrintWords Go.Proofs.YtpeinbibaceheaaW.PrintLast
open ObsMath

theorem ev_zip (y : F) : ∀ a b : List Int, a.length = b.length → ev ((List.zipWith addV a b).map toF) y = ev (a.map toF) y + ev (b.map toF) y
  | [], [], _ => by simp only [List.zipWith_nil_left, List.map_nil, ev]; grind
  | [], _ :: _, h => by simp at h
  | _ :: _, [], h => by simp at h
  | a :: xs, b :: ys, h => by
    have ih := ev_zip y xs ys (by simpa using h)
    simp only [List.zipWith_cons_cons, List.map_cons, ev, ih, toF_addV]; grind

theorem ev_more (y : F) (f : Int) : ∀ a : List Int, ev ((a.map (mulV f)).map toF) y = toF f * ev (a.map toF) y
  | [] => by simp only [List.map_nil, ev]; grind
  | a :: xs => by
    have ih := ev_more y f xs
    simp only [List.map_cons, ev, ih, toF_mulV]; grind

theorem evI_sum {a b : List Int} (x : Int) (h : a.length = b.length) : evI (List.zipWith addV a b) x = addV (evI a x) (evI b x) :=
  eqP (inP_evI _ _) (inP_addV _ _) (by rw [toF_addV, evI_F, evI_F, evI_F, ev_zip _ _ _ h])
theorem evI_more (a : List Int) (f x : Int) : evI (a.map (mulV f)) x = mulV f (evI a x) :=
  eqP (inP_evI _ _) (inP_mulV _ _) (by rw [toF_mulV, evI_F, evI_F, ev_more])
theorem evI_snoc (a : List Int) (x : Int) : evI (a ++ [0]) x = evI a x :=
  eqP (inP_evI _ _) (inP_evI _ _) (by rw [evI_F, evI_F, List.map_append, ev_append]; simp only [List.map_cons, List.map_nil, ev, toF_zero]; grind)
theorem evI_zero (c : Int) (a : List Int) (hc : inP c = true) : evI (c :: a) 0 = c := by
  have := inP_iff.1 hc
  rw [evI, Int.mul_zero]; omega

theorem zip_all : ∀ a b : List Int, (List.zipWith addV a b).all inP = true
  | [], b => by simp
  | _ :: _, [] => by simp
  | a :: xs, b :: ys => by simp [zip_all xs ys, inP_addV]
theorem more_all (f : Int) (a : List Int) : (a.map (mulV f)).all inP = true := by
  rw [List.all_eq_true]
  intro c hc
  obtain ⟨d, _, rfl⟩ := List.mem_map.1 hc
  exact inP_mulV _ _

theorem fv_l0 (a b : List Int) (x f : Int) (hl : a.length = b.length) (h15 : a.length ≤ 15) (ha : a.all inP = true) (hb : b.all inP = true) (hx : inP x = true) (hf : inP f = true) :
    ∀ (d k i : Nat), a.length - i = d → i ≤ a.length → d + 25 < k →
    observatorylaw06_FieldValues.l0 k a b x f true ((List.zipWith addV a b).take i) ((a.map (mulV f)).take i) (i : Int) = some true := by
  intro d
  induction d with
  | zero =>
    intro k i h1 h2 h3
    obtain ⟨k, rfl⟩ : ∃ m, k = m + 2 := ⟨k - 2, by omega⟩
    obtain rfl : i = a.length := by omega
    have e1 : (List.zipWith addV a b).take a.length = List.zipWith addV a b := List.take_of_length_le (by simp; omega)
    have e2 : (a.map (mulV f)).take a.length = a.map (mulV f) := List.take_of_length_le (by simp)
    simp only [observatorylaw06_FieldValues.l0]
    rw [if_neg (by omega), e1, e2, Eval_ok (by omega) (by omega) ha hx, Option.bind_some, Eval_ok (by omega) (by omega) hb hx, Option.bind_some,
      Eval_ok (by omega) (by simp; omega) (zip_all a b) hx, Option.bind_some, Eval_ok (by omega) (by simp; omega) (more_all f a) hx, Option.bind_some, Option.bind_some, if_pos (by simp; omega), Option.bind_some,
      if_pos (by simp; omega), Eval_ok (by omega) (by simp; omega) (by simp only [List.nil_append, List.all_append, ha]; decide) hx, Option.bind_some, Eval_ok (by omega) (by omega) ha (by decide), Option.bind_some]
    simp only [if_true, observatorylaw06_FieldValues.j2, List.nil_append, evI_sum x hl, evI_more, evI_snoc]
    rw [if_neg (by simp)]
    cases a with
    | nil =>
      rw [if_neg (by simp), add_ok (by omega) (inP_evI _ _) (inP_evI _ _), Option.bind_some, if_pos rfl, mul_ok (by omega) hf (inP_evI _ _), Option.bind_some, if_pos rfl]
      rfl
    | cons c cs =>
      have hc : inP c = true := by simp at ha; exact ha.1
      rw [if_pos (by simp), if_pos (by simp), add_ok (by omega) (inP_evI _ _) (inP_evI _ _), Option.bind_some, if_pos rfl, mul_ok (by omega) hf (inP_evI _ _), Option.bind_some, if_pos rfl,
        evI_zero c cs hc]
      simp [rd]
  | succ d ih =>
    intro k i h1 h2 h3
    obtain ⟨k, rfl⟩ : ∃ m, k = m + 1 := ⟨k - 1, by omega⟩
    have hi : i < a.length := by omega
    have hib : i < b.length := by omega
    have ca : inP a[i] = true := List.all_eq_true.1 ha _ (List.getElem_mem hi)
    have cb : inP b[i] = true := List.all_eq_true.1 hb _ (List.getElem_mem hib)
    have s1 : (List.zipWith addV a b).take (i + 1) = (List.zipWith addV a b).take i ++ [addV a[i] b[i]] := by
      rw [List.take_succ_eq_append_getElem (by simp; omega), List.getElem_zipWith]
    have s2 : (a.map (mulV f)).take (i + 1) = (a.map (mulV f)).take i ++ [mulV f a[i]] := by
      rw [List.take_succ_eq_append_getElem (by simp; omega), List.getElem_map]
    simp only [observatorylaw06_FieldValues.l0]
    rw [if_pos (by omega), if_pos (by omega), if_pos (by omega), rd_at hi, rd_at hib, add_ok (by omega) ca cb, Option.bind_some, if_pos (by simp; omega), mul_ok (by omega) hf ca, Option.bind_some, if_pos (by simp; omega),
      w_succ (by omega), ← s1, ← s2]
    exact ih k (i + 1) (by omega) (by omega) (by omega)

theorem FieldValues : observatorylaw06_FieldValues.Pure := by
  intro a b x f ha1 ha2 _ hb1 hb2 _ _ _
  unfold maxLen at ha1 hb1
  refine ⟨a.length + b.length + 100, ?_⟩
  obtain ⟨K, hK⟩ : ∃ K, a.length + b.length + 100 = K + 1 := ⟨_, rfl⟩
  rw [hK]
  unfold observatorylaw06_FieldValues.f
  simp only [observatorylaw06_head.f, Option.bind_some]
  by_cases h1 : a.length = b.length
  · rw [if_pos (by omega)]
    by_cases h2 : a.length > 15
    · rw [if_pos (by omega)]; simp only [observatorylaw06_FieldValues.j0]; rw [if_pos trivial]
    · rw [if_neg (by omega), in_eq (by omega) (by omega), Option.bind_some]
      cases ha : a.all inP with
      | false => rw [if_neg (by simp)]; simp only [observatorylaw06_FieldValues.j0]; rw [if_pos trivial]
      | true =>
        rw [if_pos rfl, in_eq (by omega) (by omega), Option.bind_some]
        cases hb : b.all inP with
        | false => rw [if_neg (by simp)]; simp only [observatorylaw06_FieldValues.j0]; rw [if_pos trivial]
        | true =>
          rw [if_pos rfl, in_eq (by simp) (by simp; omega), Option.bind_some]
          simp only [observatorylaw06_FieldValues.j0]
          cases h : [x, f].all inP with
          | false => rw [if_pos (by simp)]
          | true =>
            simp only [List.all_cons, List.all_nil, Bool.and_true, Bool.and_eq_true] at h
            rw [if_neg (by simp)]
            exact fv_l0 a b x f h1 (by omega) ha hb h.1 h.2 a.length K 0 (by omega) (by omega) (by omega)
  · rw [if_neg (by omega)]; simp only [observatorylaw06_FieldValues.j0]; rw [if_pos trivial]

end Go.Proofs.Ytpeinbibaceheaa.Pure
