/- The statement SharesAdd over plain numbers: the sums of two lists of shares are shares of the sum. -/
import Derived.Test.YtpeinbibaceheaaX14
import Derived.Test.YtpeinbibaceheaaBr7
namespace Go.Proofs.Ytpeinbibaceheaa.Pure
open Go.RowKit Go.Proofs.Ytpeinbibaceheaa.X Go.Proofs.YtpeinbibaceheaaW.PrintWords Go.Proofs.YtpeinbibaceheaaW.PrintLast
open ObsMath
set_option linter.unusedVariables false

def sumAt (p q : List Int) (i : Nat) : S54 := ⟨(i : Int) + 1, (evI p ((i : Int) + 1) + evI q ((i : Int) + 1)) % 2147483647⟩
def sumL (p q : List Int) (m : Nat) : List S54 := (List.range m).map (sumAt p q)

theorem sumL_length (p q : List Int) (m : Nat) : (sumL p q m).length = m := by simp [sumL]
theorem sumL_succ (p q : List Int) (m : Nat) : sumL p q (m + 1) = sumL p q m ++ [sumAt p q m] := by simp [sumL, List.range_succ]

theorem sumL_join (s t : Int) (r u : List Int) {n m : Nat} (h1 : 1 ≤ n) (h2 : n ≤ m) (h3 : m ≤ 16) (hr : r.length = n - 1) (hu : u.length = n - 1) :
    joinF (sumL (s :: r) (t :: u) m) (n : Int) = ((s + t) % 2147483647, 0) := by
  have hp : PF n (fun x => ev ((s :: r).map toF) x + ev ((t :: u).map toF) x) :=
    (PF.of_list (p := s :: r) (by rw [List.length_cons]; omega)).add (PF.of_list (p := t :: u) (by rw [List.length_cons]; omega))
  have v : (sumL (s :: r) (t :: u) m).all validS = true := by
    rw [List.all_eq_true]
    intro x hx
    obtain ⟨i, hi, rfl⟩ := List.mem_map.1 hx
    have := List.mem_range.1 hi
    refine validS_iff.2 ⟨?_, ?_, inP_mod _⟩ <;> simp only [sumAt] <;> omega
  have nd : ((sumL (s :: r) (t :: u) m).map (·.f0)).Nodup := by
    unfold sumL
    rw [List.map_map]
    refine List.pairwise_map.2 (List.nodup_range.imp ?_)
    intro a b hab e
    simp only [Function.comp, sumAt] at e
    omega
  have on : ∀ x ∈ sumL (s :: r) (t :: u) m, (fun x => ev ((s :: r).map toF) x + ev ((t :: u).map toF) x) (toF x.f0) = toF x.f1 := by
    intro x hx
    obtain ⟨i, hi, rfl⟩ := List.mem_map.1 hx
    simp only [sumAt]
    rw [toF_mod, toF_add (evI _ _), evI_F, evI_F]
  obtain ⟨y, e1, e2, e3⟩ := join_poly (ss := sumL (s :: r) (t :: u) m) h1 (by omega) (by rw [sumL_length]; omega) v nd hp on
  rw [e1, eqP e2 (inP_mod (s + t)) (by rw [e3, ev_zero_at, ev_zero_at, toF_mod, toF_add])]

theorem add_l0 (a0 a1 : Int) (p q : List Int) (n m : Nat) (h8 : m ≤ 8) (g : Option Bool)
    (hg : (shares_Join.f (sumL p q m) (n : Int)).bind (fun bt439 => (if true = true then (if bt439.2 = 0 then ((observatorylaw07_element.f a0).bind fun t441 => ((observatorylaw07_element.f a1).bind fun t442 => ((observatorylaw07_element.f (wrap64 (t441 + t442))).bind fun t443 => (some (bt439.1 == t443))))) else (some false)) else (some false))) = g) :
    ∀ (d k i : Nat), m - i = d → i ≤ m → d < k → observatorylaw07_SharesAdd.l0 k a0 a1 true (n : Int) (m : Int) (shareList p m) (shareList q m) (sumL p q i) (i : Int) = g := by
  intro d
  induction d with
  | zero =>
    intro k i g1 g2 g3
    obtain ⟨k, rfl⟩ : ∃ q, k = q + 1 := ⟨k - 1, by omega⟩
    obtain rfl : i = m := by omega
    simp only [observatorylaw07_SharesAdd.l0]
    rw [if_neg (by omega)]
    exact hg
  | succ d ih =>
    intro k i g1 g2 g3
    obtain ⟨k, rfl⟩ : ∃ q, k = q + 1 := ⟨k - 1, by omega⟩
    have i1 := evI_range ((i : Int) + 1) p
    have i2 := evI_range ((i : Int) + 1) q
    have hs := ih k (i + 1) (by omega) (by omega) (by omega)
    simp only [observatorylaw07_SharesAdd.l0]
    rw [if_pos (by omega), if_pos (by omega), if_pos (by rw [shareList_length]; omega), if_pos (by rw [shareList_length]; omega), elem7_eq, Option.bind_some, if_pos (by rw [sumL_length]; omega), w_succ (by omega),
      shareList_rd p (by omega), shareList_rd q (by omega)]
    rw [sumL_succ] at hs
    have e : (⟨(shareAt p i).f0, wrap64 ((shareAt p i).f1 + (shareAt q i).f1) % 2147483647⟩ : S54) = sumAt p q i := by
      unfold sumAt
      simp only [shareAt]
      rw [w64 (by omega) (by omega)]
    rw [e]
    exact hs

theorem SharesAdd : observatorylaw07_SharesAdd.Pure := by
  intro a0 a1 l2 l3 a4 a5 _ _ _ _ _ _ _ _ h4 h5
  simp only [Lit.wf, Bool.and_eq_true, decide_eq_true_eq] at h4 h5
  have b4 : 0 ≤ a4 ∧ a4 ≤ 255 := h4
  have b5 : 0 ≤ a5 ∧ a5 ≤ 255 := h5
  have hn := nOf_range a4
  have hm := mOf_range a4 a5
  have hol := outL_length l2 (nOf a4 - 1)
  have ho := outL_inP l2 (nOf a4 - 1) (by omega)
  have hol3 := outL_length l3 (nOf a4 - 1)
  have ho3 := outL_inP l3 (nOf a4 - 1) (by omega)
  refine ⟨40, ?_⟩
  unfold observatorylaw07_SharesAdd.f
  rw [made_eq (k := 40) l2 (by omega) b4.1 (by omega) b5.1 (by omega), made_eq (k := 40) l3 (by omega) b4.1 (by omega) b5.1 (by omega)]
  simp only [observatorylaw07_head.f, Option.bind_some, elem7_eq, shares_Split.f]
  rw [split_ok hn.1 hm.1 (by omega) hol (inP_mod _) ho, split_ok hn.1 hm.1 (by omega) hol3 (inP_mod _) ho3]
  simp only [if_true, observatorylaw07_SharesAdd.j0, shareList_length]
  rw [if_neg (by simp)]
  have r := add_l0 a0 a1 (a0 % 2147483647 :: outL l2 (nOf a4 - 1)) (a1 % 2147483647 :: outL l3 (nOf a4 - 1)) (nOf a4) (mOf a4 a5) (by omega) (some true) ?_ (mOf a4 a5) 39 0 (by omega) (by omega) (by omega)
  · exact r
  · simp only [shares_Join.f, Option.bind_some, if_true, elem7_eq]
    rw [sumL_join _ _ _ _ hn.1 hm.1 (by omega) hol hol3, if_pos rfl, w64 (by omega) (by omega)]
    simp

end Go.Proofs.Ytpeinbibaceheaa.Pure
