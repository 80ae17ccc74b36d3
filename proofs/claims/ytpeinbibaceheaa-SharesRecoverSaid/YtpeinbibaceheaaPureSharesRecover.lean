/- The statement SharesRecover over plain numbers: enough shares of a polynomial are joined to its constant. -/
import Derived.Test.YtpeinbibaceheaaX12
import Derived.Test.YtpeinbibaceheaaBr7
namespace Go.Proofs.Ytpeinbibaceheaa.Pure
open Go.RowKit Go.Proofs.Ytpeinbibaceheaa.X Go.Proofs.YtpeinbibaceheaaW.PrintWords Go.Proofs.YtpeinbibaceheaaW.PrintLast
open ObsMath

theorem SharesRecover : observatorylaw07_SharesRecover.Pure := by
  intro a0 l1 a2 a3 a4 _ _ _ _ h2 h3 h4
  simp only [Lit.wf, Bool.and_eq_true, decide_eq_true_eq] at h2 h3 h4
  have b2 : 0 ≤ a2 ∧ a2 ≤ 255 := h2
  have b3 : 0 ≤ a3 ∧ a3 ≤ 255 := h3
  have hn := nOf_range a2
  have hm := mOf_range a2 a3
  have hol := outL_length l1 (nOf a2 - 1)
  have ho := outL_inP l1 (nOf a2 - 1) (by omega)
  have hsl := shareList_length (a0 % 2147483647 :: outL l1 (nOf a2 - 1)) (mOf a2 a3)
  have sel := pick_sel (a0 % 2147483647 :: outL l1 (nOf a2 - 1)) (mOf a2 a3) a4 (mOf a2 a3) (Nat.le_refl _)
  refine ⟨40, ?_⟩
  unfold observatorylaw07_SharesRecover.f
  rw [made_eq (k := 40) l1 (by omega) b2.1 (by omega) b3.1 (by omega)]
  simp only [observatorylaw07_head.f, Option.bind_some, elem7_eq, shares_Split.f]
  rw [split_ok hn.1 hm.1 (by omega) hol (inP_mod _) ho]
  simp only [if_true, observatorylaw07_SharesRecover.j0]
  rw [if_neg (by rw [hsl]; simp), chosen_eq _ _ (by omega) (by omega), Option.bind_some, hsl]
  simp only [shares_Join.f, Option.bind_some]
  by_cases hl : (pick (shareList (a0 % 2147483647 :: outL l1 (nOf a2 - 1)) (mOf a2 a3)) a4 (mOf a2 a3)).length < nOf a2
  · rw [if_pos (by omega), joinF_good hn.1 (by omega) (sel.valid (by omega)) sel.nd, if_pos hl]
    rfl
  · rw [if_neg (by omega), sel.join (inP_mod _) hol hn.1 (by omega) (by omega) (by omega), if_pos rfl]
    simp [elem7_eq]

end Go.Proofs.Ytpeinbibaceheaa.Pure
