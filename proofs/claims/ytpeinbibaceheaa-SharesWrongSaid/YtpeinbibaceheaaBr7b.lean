import Derived.Test.YtpeinbibaceheaaBr7
/-
  A list of shares with one of them changed.
-/
namespace Go.Proofs.Ytpeinbibaceheaa.X
open Go.RowKit Go.Proofs.YtpeinbibaceheaaW.PrintWords Go.Proofs.YtpeinbibaceheaaW.PrintLast
open ObsMath
set_option linter.unusedVariables false

theorem toF_nodup {ss : List S54} (hv : ss.all validS = true) (hn : (ss.map (·.f0)).Nodup) : (ss.map (fun s => toF s.f0)).Nodup := by
  have h := List.pairwise_map.1 hn
  refine List.pairwise_map.2 (h.imp_of_mem fun {a b} ha hb hab e => hab ?_)
  have va := validS_iff.1 (List.all_eq_true.1 hv a ha)
  have vb := validS_iff.1 (List.all_eq_true.1 hv b hb)
  exact toF_inj (by omega) (by omega) (by omega) (by omega) e

/-- If all the further shares agree with the first ones, one polynomial goes through all. -/
theorem all_agree {ss : List S54} {n : Nat} (h1 : 1 ≤ n) (h16 : n ≤ 16) (hl : n ≤ ss.length) (hv : ss.all validS = true) (hn : (ss.map (·.f0)).Nodup)
    (ha : ∀ s ∈ ss.drop n, interpF ((ss.take n).map asPt) s.f0 = (s.f1, 0)) : ∃ g : F → F, PF n g ∧ ∀ s ∈ ss, g (toF s.f0) = toF s.f1 := by
  have gd := take_good h1 h16 hl hv hn (x := 0) (by decide)
  have hlen : ((ss.take n).map asPt).length = n := by simp; omega
  obtain ⟨g, pg, hg, hval⟩ := gd.poly
  rw [hlen] at pg hg
  refine ⟨g, pg, fun s hs => ?_⟩
  rw [← List.take_append_drop n ss] at hs
  rcases List.mem_append.1 hs with hs | hs
  · obtain ⟨i, hi, rfl⟩ := List.mem_take_iff_getElem.1 hs
    have := hg i (by omega)
    rwa [(pt_at hl (by omega)).1, (pt_at hl (by omega)).2] at this
  · have sv := validS_iff.1 (List.all_eq_true.1 hv s (List.mem_of_mem_drop hs))
    have := (gd.at_ s.f0 (inP_iff.2 (by omega))).val
    rw [ha s hs] at this
    rw [← hval]
    exact congrArg toF (congrArg Prod.fst this).symm

theorem join_bad {ss : List S54} {n : Nat} (h1 : 1 ≤ n) (h16 : n ≤ 16) (hl : n ≤ ss.length) (hv : ss.all validS = true) (hn : (ss.map (·.f0)).Nodup)
    (hno : ¬ ∃ g : F → F, PF n g ∧ ∀ s ∈ ss, g (toF s.f0) = toF s.f1) : joinF ss (n : Int) = (0, 24) := by
  rw [joinF_good h1 h16 hv hn, if_neg (by omega), if_pos]
  refine Classical.byContradiction fun h => hno (all_agree h1 h16 hl hv hn fun s hs => ?_)
  have h2 : ¬ ∃ s ∈ ss.drop n, decide (interpF ((ss.take n).map asPt) s.f0 ≠ (s.f1, 0)) = true := fun h3 => h (List.any_eq_true.2 h3)
  exact Classical.byContradiction fun hne => h2 ⟨s, hs, decide_eq_true hne⟩

theorem join_wrong {p : List Int} {n m k : Nat} {ss : List S54} {y : Int} (sel : Sel p m ss) (hp : p.length = n) (h1 : 1 ≤ n) (h16 : n ≤ 16) (hm : m ≤ 16) (hn : n < ss.length) (hk : k < ss.length)
    (hy : inP y = true) (hne : y ≠ (ss[k]).f1) : joinF (ss.set k ⟨(ss[k]).f0, y⟩) (n : Int) = (0, 24) := by
  have hv := sel.valid hm
  have hmap : (ss.set k ⟨(ss[k]).f0, y⟩).map (·.f0) = ss.map (·.f0) := by
    rw [List.map_set]
    apply List.ext_getElem?
    intro i
    rw [List.getElem?_set]
    split
    · rename_i e
      subst e
      simp [hk]
    · rfl
  have vk := validS_iff.1 (List.all_eq_true.1 hv _ (List.getElem_mem hk))
  refine join_bad h1 h16 (by rw [List.length_set]; omega) ?_ (by rw [hmap]; exact sel.nd) ?_
  · rw [List.all_eq_true]
    intro s hs
    rcases List.mem_or_eq_of_mem_set hs with hs | rfl
    · exact List.all_eq_true.1 hv s hs
    · exact validS_iff.2 ⟨vk.1, vk.2.1, hy⟩
  · rintro ⟨g, pg, hg⟩
    have he : ∀ x, ev (p.map toF) x = g x := by
      intro x
      refine PF.unique (PF.of_list hp) pg ((ss.eraseIdx k).map (fun s => toF s.f0)) ?_ ?_ ?_ x
      · exact ((toF_nodup hv sel.nd).sublist ((List.eraseIdx_sublist ss k).map _))
      · rw [List.length_map, List.length_eraseIdx, if_pos hk]; omega
      · intro r hr
        obtain ⟨s, hs, rfl⟩ := List.mem_map.1 hr
        obtain ⟨i, hi, hik, e⟩ := List.mem_eraseIdx_iff_getElem.1 hs
        rw [sel.poly s (by rw [← e]; exact List.getElem_mem hi)]
        refine (hg s ?_).symm
        rw [← e]
        refine List.mem_of_getElem? (i := i) ?_
        rw [List.getElem?_set, if_neg (fun h => hik h.symm), List.getElem?_eq_getElem hi]
    have h3 := hg ⟨(ss[k]).f0, y⟩ (List.mem_of_getElem? (i := k) (by rw [List.getElem?_set]; simp [hk]))
    have h4 := sel.poly _ (List.getElem_mem hk)
    simp only [] at h3
    rw [← he, h4] at h3
    exact hne (eqP hy vk.2.2 h3.symm)

end Go.Proofs.Ytpeinbibaceheaa.X
