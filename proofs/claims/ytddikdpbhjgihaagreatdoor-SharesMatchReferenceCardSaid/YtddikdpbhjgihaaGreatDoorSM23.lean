import Derived.Test.YtddikdpbhjgihaaGreatDoorSM12
import Derived.Test.YtddikdpbhjgihaaGreatDoorSM16
import Derived.Test.YtddikdpbhjgihaaGreatDoorSM21
import Derived.Test.YtddikdpbhjgihaaGreatDoorSM22
import Derived.Test.YtddikdpbhjgihaaGreatDoorSM13
import Derived.Test.YtddikdpbhjgihaaGreatDoorSM18
import Derived.Test.YtddikdpbhjgihaaGreatDoorSM20
import Derived.Deep.RegionHeld3
import Derived.Test.YtddikdpbhjgihaaGreatDoorSM06
import Derived.ProofKit
import Derived.OpenShut
section
namespace Go.Proofs.YtddikdpbhjgihaaGreatDoor.X
open Go.RowKit Go.Proofs.YtddikdpbhjgihaaGreatDoorW.PrintWords Go.Proofs.YtddikdpbhjgihaaGreatDoorW.PrintLast
open ObsMath
open ObsMer (joined toL half root plen up pairT leafT)
set_option linter.unusedVariables false
theorem Element_ref (a : Int) : observatoryref07_Element.f a = some (inP a) := by
  have h : observatoryref07_Element.f a = shares_element.f a := by
    unfold observatoryref07_Element.f shares_element.f
    rfl
  rw [h]; exact selem_eq a
def fewB (l : List ByteArray) (a : Int) : Bool := l.all (fun s => decide ((s.size : Int) ≤ a)) && decide (l.length ≤ 30)
theorem rdS_at {l : List ByteArray} {i : Nat} (hi : i < l.length) : rdOf ByteArray.empty l (i : Int) = l[i] := by simp [rdOf, List.getElem?_eq_getElem hi]
theorem Few_l0 (l : List ByteArray) (a : Int) (hl : l.length ≤ 9223372036854775806) : ∀ (d k i : Nat), i + d = l.length → d < k → observatoryref01_Few.l0 k l a (i : Int) = some ((l.drop i).all (fun s => decide ((s.size : Int) ≤ a)) && decide (l.length ≤ 30)) := by
  intro d
  induction d with
  | zero =>
    intro k i h1 hk
    obtain ⟨k, rfl⟩ : ∃ q, k = q + 1 := ⟨k - 1, by omega⟩
    simp only [observatoryref01_Few.l0]
    rw [if_neg (by omega), List.drop_eq_nil_of_le (by omega), List.all_nil, Bool.true_and]
    congr 1; rw [decide_eq_decide]; omega
  | succ d ih =>
    intro k i h1 hk
    obtain ⟨k, rfl⟩ : ∃ q, k = q + 1 := ⟨k - 1, by omega⟩
    have hi : i < l.length := by omega
    simp only [observatoryref01_Few.l0]
    rw [if_pos (by omega), if_pos (by omega), rdS_at hi, List.drop_eq_getElem_cons hi, List.all_cons, w_succ (by omega), ih k (i + 1) (by omega) (by omega)]
    by_cases h : (l[i].size : Int) > a
    · rw [if_pos h, decide_eq_false (by omega : ¬ (l[i].size : Int) ≤ a)]; rfl
    · rw [if_neg h, decide_eq_true (by omega : (l[i].size : Int) ≤ a), Bool.true_and]
theorem Few_eq {k : Nat} {l : List ByteArray} (a : Int) (hl : l.length ≤ 9223372036854775806) (hk : l.length < k) : observatoryref01_Few.f k l a = some (fewB l a) :=
  Few_l0 l a hl l.length k 0 (by omega) hk
theorem fewB_iff {l : List ByteArray} {a : Int} : fewB l a = true ↔ (∀ s ∈ l, (s.size : Int) ≤ a) ∧ l.length ≤ 30 := by
  unfold fewB
  rw [Bool.and_eq_true, List.all_eq_true, decide_eq_true_eq]
  simp only [decide_eq_true_eq]
theorem Same_l0 (l : List S25) (hl : l.length ≤ 1000000) : ∀ (d k i : Nat), i + d = l.length → d < k → observatoryref07_Same.l0 k l l (i : Int) = some true := by
  intro d
  induction d with
  | zero =>
    intro k i h1 hk
    obtain ⟨k, rfl⟩ : ∃ q, k = q + 1 := ⟨k - 1, by omega⟩
    simp only [observatoryref07_Same.l0]
    rw [if_neg (by omega)]
  | succ d ih =>
    intro k i h1 hk
    obtain ⟨k, rfl⟩ : ∃ q, k = q + 1 := ⟨k - 1, by omega⟩
    simp only [observatoryref07_Same.l0]
    rw [if_pos (by omega), if_pos (by omega), if_pos (by omega), if_neg (by simp), w_succ (by omega), ih k (i + 1) (by omega) (by omega)]
theorem Same_eq {k : Nat} (l : List S25) (hl : l.length ≤ 1000000) (hk : l.length < k) : observatoryref07_Same.f k l l = some true := by
  unfold observatoryref07_Same.f
  rw [if_pos rfl]
  exact Same_l0 l hl l.length k 0 (by omega) hk
theorem shareList_succ (p : List Int) (j : Nat) : shareList p (j + 1) = shareList p j ++ [⟨(j : Int) + 1, evI p ((j : Int) + 1)⟩] := by
  unfold shareList
  rw [List.range_succ, List.map_append]
  rfl
theorem Split_l1 (p : List Int) (M : Nat) (hM : M ≤ 16) (hp : p.length ≤ 16) (ha : p.all inP = true) : ∀ (d k j : Nat), j + d = M → d + 60 ≤ k → observatoryref07_Split.l1 k (M : Int) p (shareList p j) ((j : Int) + 1) = some (shareList p M, 0) := by
  intro d
  induction d with
  | zero =>
    intro k j h1 hk
    obtain ⟨k, rfl⟩ : ∃ q, k = q + 1 := ⟨k - 1, by omega⟩
    obtain rfl : j = M := by omega
    simp only [observatoryref07_Split.l1]
    rw [if_neg (by omega)]
  | succ d ih =>
    intro k j h1 hk
    obtain ⟨k, rfl⟩ : ∃ q, k = q + 1 := ⟨k - 1, by omega⟩
    simp only [observatoryref07_Split.l1]
    have hx : inP ((j : Int) + 1) = true := inP_iff.2 (by omega)
    rw [if_pos (by omega), rEval_eq _ _ (by omega), Eval_ok (by omega) hp ha hx, Option.bind_some, if_pos (by rw [shareList_length]; omega), w64 (by omega) (by omega)]
    have := ih k (j + 1) (by omega) (by omega)
    rw [shareList_succ] at this
    exact this
theorem Split_l0 (s : Int) (M : Nat) (r : List Int) (hr : r.length ≤ 15) (hM : M ≤ 16) (hs : inP s = true) : ∀ (d k i : Nat), i + d = r.length → d + 100 ≤ k → (r.take i).all inP = true →
    observatoryref07_Split.l0 k (M : Int) r (s :: r.take i) (i : Int) = some (if r.all inP = true then (shareList (s :: r) M, 0) else ([], 1)) := by
  intro d
  induction d with
  | zero =>
    intro k i h1 hk ha
    obtain ⟨k, rfl⟩ : ∃ q, k = q + 1 := ⟨k - 1, by omega⟩
    rw [List.take_of_length_le (by omega)] at ha ⊢
    simp only [observatoryref07_Split.l0]
    rw [if_neg (by omega), if_pos ha]
    exact Split_l1 (s :: r) M hM (by rw [List.length_cons]; omega) (by rw [List.all_cons, hs, ha]; rfl) M k 0 (by omega) (by omega)
  | succ d ih =>
    intro k i h1 hk ha
    obtain ⟨k, rfl⟩ : ∃ q, k = q + 1 := ⟨k - 1, by omega⟩
    have hi : i < r.length := by omega
    simp only [observatoryref07_Split.l0]
    rw [if_pos (by omega), if_pos (by omega), rd_at hi, Element_ref, Option.bind_some]
    cases hv : inP r[i] with
    | false =>
      rw [if_neg (by simp), if_neg]
      intro h
      have := List.all_eq_true.1 h _ (List.getElem_mem hi)
      rw [hv] at this; cases this
    | true =>
      rw [if_pos rfl, if_pos (by simp; omega), w_succ (by omega)]
      have := ih k (i + 1) (by omega) (by omega) (by rw [List.take_succ_eq_append_getElem hi, List.all_append, ha, List.all_cons, hv]; rfl)
      rw [List.take_succ_eq_append_getElem hi, ← List.cons_append] at this
      exact this
theorem splitF_arg {s n m : Int} {r : List Int} (h : splitArg n m r) : splitF s n m r = ([], 1) := by unfold splitF; rw [if_pos h]
theorem splitF_el {s n m : Int} {r : List Int} (h : (s :: r).all inP = false) : splitF s n m r = ([], 1) := by
  unfold splitF
  split
  · rfl
  · first | rfl | rw [if_pos h]
theorem splitF_all {s n m : Int} {r : List Int} (h : ¬ splitArg n m r) (hs : inP s = true) : splitF s n m r = if r.all inP = true then (shareList (s :: r) m.toNat, 0) else ([], 1) := by
  unfold splitF
  rw [if_neg h, List.all_cons, hs, Bool.true_and]
  cases r.all inP <;> simp
theorem Split_ref {k : Nat} {s n m : Int} {r : List Int} (hk : 1000 ≤ k) (hr : r.length ≤ 1000) : observatoryref07_Split.f k s n m r = some (splitF s n m r) := by
  obtain ⟨k, rfl⟩ : ∃ q, k = q + 1 := ⟨k - 1, by omega⟩
  unfold observatoryref07_Split.f
  rw [Element_ref, Option.bind_some]
  simp only [observatoryref07_Split.j0, if_true]
  cases hs : inP s with
  | false => rw [if_neg (by simp), splitF_el (by rw [List.all_cons, hs]; rfl)]
  | true =>
    rw [if_pos rfl]
    by_cases h1 : m < 1
    · rw [if_pos h1, splitF_arg (.inl h1)]
    · rw [if_neg h1]
      by_cases h2 : m > 16
      · rw [if_pos h2, splitF_arg (.inr (.inl h2))]
      · rw [if_neg h2]
        by_cases h3 : n < 1
        · rw [if_pos h3, splitF_arg (.inr (.inr (.inl h3)))]
        · rw [if_neg h3]
          by_cases h4 : n > m
          · rw [if_pos h4, splitF_arg (.inr (.inr (.inr (.inl h4))))]
          · rw [if_neg h4, w64 (by omega) (by omega)]
            by_cases h5 : (r.length : Int) = n - 1
            · rw [if_neg (by simp [h5]), splitF_all (by unfold splitArg; rintro (h | h | h | h | h) <;> omega) hs]
              obtain ⟨M, rfl⟩ := Int.eq_ofNat_of_zero_le (show 0 ≤ m by omega)
              rw [Int.toNat_natCast]
              have := Split_l0 s M r (by omega) (by omega) hs r.length k 0 (by omega) (by omega) (by simp)
              rw [List.take_zero] at this
              exact this
            · rw [if_pos (by simpa using h5), splitF_arg (.inr (.inr (.inr (.inr h5))))]
theorem cnt_two {l : List S25} {i j : Nat} (hij : i < j) (hj : j < l.length) {x : Int} (hi' : (l[i]'(by omega)).f0 = x) (hj' : l[j].f0 = x) : 1 < cnt l x := by
  unfold cnt
  have h1 : 1 ≤ ((l.take j).filter (fun s => decide (s.f0 = x))).length := by
    apply List.length_pos_of_mem (a := l[i]'(by omega))
    rw [List.mem_filter]
    refine ⟨?_, by simpa using hi'⟩
    rw [List.mem_take_iff_getElem]
    exact ⟨i, by omega, rfl⟩
  have h2 : 1 ≤ ((l.drop j).filter (fun s => decide (s.f0 = x))).length := by
    apply List.length_pos_of_mem (a := l[j])
    rw [List.mem_filter]
    refine ⟨?_, by simpa using hj'⟩
    rw [List.drop_eq_getElem_cons hj]
    exact List.mem_cons_self
  have h3 := congrArg (fun q => (q.filter (fun s => decide (s.f0 = x))).length) (List.take_append_drop j l)
  simp only [List.filter_append, List.length_append] at h3
  omega
theorem twice_of {l : List S25} (hv : l.all validS = true) {i j : Nat} (hij : i < j) (hj : j < l.length) (he : (l[i]'(by omega)).f0 = l[j].f0) : twice l = true := by
  have h := validS_iff.1 (List.all_eq_true.1 hv _ (List.getElem_mem hj))
  unfold twice
  rw [List.any_eq_true]
  refine ⟨l[j].f0.toNat, List.mem_range.2 (by omega), decide_eq_true ?_⟩
  rw [Int.toNat_of_nonneg (by omega)]
  exact cnt_two hij hj he rfl
theorem Join_l3 {l : List S25} {N : Nat} (h1 : 1 ≤ N) (h16 : N ≤ 16) (hl : N ≤ l.length) (hl2 : l.length ≤ 1000) (hv : l.all validS = true) (hn : (l.map (·.f0)).Nodup) : ∀ (d k i : Nat), i + d = l.length → d + 2147485001 ≤ k →
    observatoryref07_Join.l3 k l ((l.take N).map asPt) (i : Int) = some (if (l.drop i).any (fun s => decide (interpF ((l.take N).map asPt) s.f0 ≠ (s.f1, 0))) = true then (0, 24) else interpF ((l.take N).map asPt) 0) := by
  intro d
  induction d with
  | zero =>
    intro k i hd hk
    obtain ⟨k, rfl⟩ : ∃ q, k = q + 1 := ⟨k - 1, by omega⟩
    simp only [observatoryref07_Join.l3]
    rw [if_neg (by omega), rInterp_eq _ _ (by omega), Option.bind_some, List.drop_eq_nil_of_le (by omega), List.any_nil, if_neg (by simp), (take_good h1 h16 hl hv hn (x := 0) (by decide)).val]
  | succ d ih =>
    intro k i hd hk
    obtain ⟨k, rfl⟩ : ∃ q, k = q + 1 := ⟨k - 1, by omega⟩
    have hi : i < l.length := by omega
    have hvs := validS_iff.1 (List.all_eq_true.1 hv _ (List.getElem_mem hi))
    have hg := (take_good h1 h16 hl hv hn (x := l[i].f0) (inP_iff.2 (by omega))).val
    simp only [observatoryref07_Join.l3]
    rw [if_pos (by omega), if_pos (by omega), rd54_at hi, rInterp_eq _ _ (by omega), Option.bind_some, w_succ (by omega), ih k (i + 1) (by omega) (by omega), List.drop_eq_getElem_cons hi, List.any_cons, hg]
    by_cases he : ival ((l.take N).map asPt) l[i].f0 = l[i].f1
    · rw [if_pos he, decide_eq_false (by rw [he]; simp), Bool.false_or]
    · rw [if_neg he, decide_eq_true (by intro h; injection h with h; exact he h), Bool.true_or, if_pos rfl]
def ptsAt (l : List S25) (N i : Nat) : List S125 := (l.take (min i N)).map asPt
theorem Join_l2 {l : List S25} {N i : Nat} (h16 : N ≤ 16) (hl2 : l.length ≤ 1000) (hi : i < l.length) (hv : l.all validS = true) (hnN : 1 ≤ N) (K : Nat)
    (hnext : (∀ j (h : j < i), (l[j]'(by omega)).f0 ≠ l[i].f0) → ∀ k, K ≤ k → observatoryref07_Join.l1 k l (N : Int) (ptsAt l N (i + 1)) ((i + 1 : Nat) : Int) = some (joinF l (N : Int))) :
    ∀ (d k m : Nat) (hmd : m + d = i), K + d + 1 ≤ k → (∀ j (h : j < m), (l[j]'(by omega)).f0 ≠ l[i].f0) → observatoryref07_Join.l2 k l (N : Int) (ptsAt l N i) (i : Int) (m : Int) = some (joinF l (N : Int)) := by
  intro d
  induction d with
  | zero =>
    intro k m hd hk hne
    obtain ⟨k, rfl⟩ : ∃ q, k = q + 1 := ⟨k - 1, by omega⟩
    obtain rfl : m = i := by omega
    simp only [observatoryref07_Join.l2]
    rw [if_neg (by omega), w_succ (by omega)]
    have h := hnext hne k (by omega)
    unfold ptsAt at h ⊢
    by_cases hiN : m < N
    · rw [if_pos (by omega), if_pos (by omega), if_pos (by omega), if_pos (by simp; omega), rd54_at hi]
      rw [show min (m + 1) N = m + 1 by omega, List.take_succ_eq_append_getElem hi, List.map_append] at h
      rw [show min m N = m by omega]
      exact h
    · rw [if_neg (by omega)]
      rw [show min (m + 1) N = min m N by omega] at h
      exact h
  | succ d ih =>
    intro k m hd hk hne
    obtain ⟨k, rfl⟩ : ∃ q, k = q + 1 := ⟨k - 1, by omega⟩
    have hm : m < l.length := by omega
    simp only [observatoryref07_Join.l2]
    rw [if_pos (by omega), if_pos (by omega), if_pos (by omega), if_pos (by omega), if_pos (by omega), rd54_at hm, rd54_at hi]
    by_cases he : l[m].f0 = l[i].f0
    · rw [if_pos he]
      unfold joinF
      rw [if_neg (by omega), if_neg (by rw [hv]; simp), if_pos (twice_of hv (by omega) hi he)]
    · rw [if_neg he, w_succ (by omega)]
      refine ih k (m + 1) (by omega) (by omega) (fun j hj => ?_)
      by_cases hjm : j = m
      · subst hjm; exact he
      · exact hne j (by omega)
theorem Join_l1 {l : List S25} {N : Nat} (hN1 : 1 ≤ N) (h16 : N ≤ 16) (hl2 : l.length ≤ 1000) (hv : l.all validS = true) : ∀ (d k i : Nat), i + d = l.length → d * 1100 + 2147487000 ≤ k → (∀ p q (_ : p < q) (hq : q < i) (h : q < l.length), (l[p]'(by omega)).f0 ≠ l[q].f0) →
    observatoryref07_Join.l1 k l (N : Int) (ptsAt l N i) (i : Int) = some (joinF l (N : Int)) := by
  intro d
  induction d with
  | zero =>
    intro k i hd hk hne
    obtain ⟨k, rfl⟩ : ∃ q, k = q + 1 := ⟨k - 1, by omega⟩
    have hn : (l.map (·.f0)).Nodup := by
      rw [List.nodup_iff_pairwise_ne, List.pairwise_iff_getElem]
      intro p q hp hq hpq
      rw [List.length_map] at hp hq
      rw [List.getElem_map, List.getElem_map]
      exact hne p q hpq (by omega) hq
    simp only [observatoryref07_Join.l1]
    rw [if_neg (by omega), joinF_good hN1 h16 hv hn]
    by_cases hlt : l.length < N
    · rw [if_pos (by omega), if_pos hlt]
    · rw [if_neg (by omega), if_neg hlt]
      have : ptsAt l N i = (l.take N).map asPt := by unfold ptsAt; rw [show min i N = N by omega]
      rw [this]
      exact Join_l3 hN1 h16 (by omega) hl2 hv hn (l.length - N) k N (by omega) (by omega)
  | succ d ih =>
    intro k i hd hk hne
    obtain ⟨k, rfl⟩ : ∃ q, k = q + 1 := ⟨k - 1, by omega⟩
    have hi : i < l.length := by omega
    simp only [observatoryref07_Join.l1]
    rw [if_pos (by omega)]
    refine Join_l2 h16 hl2 hi hv hN1 (d * 1100 + 2147487000) (fun hn2 k2 hk2 => ?_) i k 0 (by omega) (by omega) (fun j hj => by omega)
    refine ih k2 (i + 1) (by omega) hk2 (fun p q hpq hq hql => ?_)
    by_cases e : q = i
    · subst e; exact hn2 p hpq
    · exact hne p q hpq (by omega) hql
theorem Join_l0 {l : List S25} {n : Int} (hl2 : l.length ≤ 1000) (R : Int × Int) (hend : l.all validS = true → ∀ k, 2147487000 + l.length * 1100 ≤ k → observatoryref07_Join.l1 k l n [] 0 = some R) (hbad : l.all validS = false → R = (0, 1)) :
    ∀ (d k i : Nat), i + d = l.length → d + 2147487001 + l.length * 1100 ≤ k → (l.take i).all validS = true → observatoryref07_Join.l0 k l n (i : Int) = some R := by
  intro d
  induction d with
  | zero =>
    intro k i hd hk ha
    obtain ⟨k, rfl⟩ : ∃ q, k = q + 1 := ⟨k - 1, by omega⟩
    rw [List.take_of_length_le (by omega)] at ha
    simp only [observatoryref07_Join.l0]
    rw [if_neg (by omega)]
    exact hend ha k (by omega)
  | succ d ih =>
    intro k i hd hk ha
    obtain ⟨k, rfl⟩ : ∃ q, k = q + 1 := ⟨k - 1, by omega⟩
    have hi : i < l.length := by omega
    simp only [observatoryref07_Join.l0]
    rw [if_pos (by omega), if_pos (by omega), rd54_at hi, Valid_ref, Option.bind_some]
    cases hvs : validS l[i] with
    | false =>
      rw [if_neg (by simp), hbad]
      rw [List.all_eq_false]
      exact ⟨_, List.getElem_mem hi, by simp [hvs]⟩
    | true =>
      rw [if_pos rfl, w_succ (by omega)]
      exact ih k (i + 1) (by omega) (by omega) (by rw [List.take_succ_eq_append_getElem hi, List.all_append, ha, List.all_cons, hvs]; rfl)
theorem Join_ref {k : Nat} {n : Int} {l : List S25} (hk : 2150000000 ≤ k) (hl : l.length ≤ 1000) : observatoryref07_Join.f k l n = some (joinF l n) := by
  obtain ⟨k, rfl⟩ : ∃ q, k = q + 1 := ⟨k - 1, by omega⟩
  unfold observatoryref07_Join.f
  simp only [observatoryref07_Join.j0, if_true]
  by_cases h1 : n < 1
  · rw [if_pos h1, joinF_bad (.inl h1)]
  · rw [if_neg h1]
    by_cases h2 : n > 16
    · rw [if_pos (by simpa using h2), joinF_bad (.inr h2)]
    · rw [if_neg (by simpa using h2)]
      obtain ⟨N, rfl⟩ := Int.eq_ofNat_of_zero_le (show 0 ≤ n by omega)
      refine Join_l0 hl _ (fun hv k2 hk2 => ?_) (fun hv => ?_) l.length k 0 (by omega) (by omega) (by simp)
      · have := Join_l1 (l := l) (N := N) (by omega) (by omega) hl hv l.length k2 0 (by omega) (by omega) (fun p q _ hq => by omega)
        unfold ptsAt at this
        rw [Nat.zero_min, List.take_zero] at this
        exact this
      · unfold joinF
        rw [if_neg (by omega), if_pos hv]
def sRootF (l : List S25) : ByteArray × Int := if 1 ≤ l.length ∧ l.length ≤ 16 ∧ l.all validS = true then (root sumF (l.map leafOf), 0) else (⟨#[]⟩, 1)
theorem sRootF_bad {l : List S25} (hl : l.all validS = false) : sRootF l = (⟨#[]⟩, 1) := by
  unfold sRootF
  rw [if_neg]
  rintro ⟨_, _, h⟩
  rw [hl] at h; cases h
theorem sRoot_l0_bad (l : List S25) (hl : l.length ≤ 16) (hb : l.all validS = false) : ∀ (d k i : Nat), i + d = l.length → d < k → (l.take i).all validS = true → shares_Root.l0 k ((l.take i).map leafOf) l (l.length : Int) (i : Int) = some (⟨#[]⟩, 1) := by
  intro d
  induction d with
  | zero =>
    intro k i h1 hk ha
    rw [List.take_of_length_le (by omega), hb] at ha
    cases ha
  | succ d ih =>
    intro k i h1 hk ha
    obtain ⟨k, rfl⟩ : ∃ q, k = q + 1 := ⟨k - 1, by omega⟩
    have hi : i < l.length := by omega
    simp only [shares_Root.l0]
    rw [if_pos (by omega), if_pos (by omega), if_pos (by omega), rd54_at hi, valid_eq, Option.bind_some]
    cases hs : validS l[i] with
    | false => rw [if_neg (by simp)]
    | true =>
      have hs2 := validS_iff.1 hs
      have hs3 := inP_iff.1 hs2.2.2
      rw [if_pos rfl, text_eq (by omega) (by omega) (by omega) (by omega), Option.bind_some, tLeaf (by have := pairT_size (x := l[i].f0) (y := l[i].f1) (by omega) (by omega) (by omega) (by omega); omega), Option.bind_some, if_pos (by simp; omega), w_succ (by omega)]
      have := ih k (i + 1) (by omega) (by omega) (by rw [List.take_succ_eq_append_getElem hi, List.all_append, ha, List.all_cons, hs]; rfl)
      rw [List.take_succ_eq_append_getElem hi, List.map_append] at this
      exact this
theorem sRoot_any {k : Nat} {l : List S25} (hk : 20 ≤ k) : shares_Root.f k l = some (sRootF l) := by
  by_cases h : 1 ≤ l.length ∧ l.length ≤ 16 ∧ l.all validS = true
  · rw [sRoot_eq h.1 h.2.1 h.2.2 hk]
    unfold sRootF
    rw [if_pos h]
  · have e : sRootF l = (⟨#[]⟩, 1) := by unfold sRootF; rw [if_neg h]
    rw [e]
    obtain ⟨k, rfl⟩ : ∃ q, k = q + 1 := ⟨k - 1, by omega⟩
    unfold shares_Root.f
    simp only [shares_Root.j0, if_true]
    by_cases h1 : (l.length : Int) < 1
    · rw [if_pos h1]
    · rw [if_neg h1]
      by_cases h2 : (l.length : Int) > 16
      · rw [if_pos (by simpa using h2)]
      · rw [if_neg (by simpa using h2)]
        have hb : l.all validS = false := by
          cases hv : l.all validS with
          | false => rfl
          | true => exact absurd ⟨by omega, by omega, hv⟩ h
        exact sRoot_l0_bad l (by omega) hb l.length k 0 (by omega) (by omega) (by simp)
theorem rRoot_l0 (l : List S25) (h1 : 1 ≤ l.length) (hl : l.length ≤ 16) : ∀ (d k i : Nat), i + d = l.length → d + 310000 ≤ k → (l.take i).all validS = true → observatoryref07_Root.l0 k l (i : Int) = some (sRootF l) := by
  intro d
  induction d with
  | zero =>
    intro k i hd hk ha
    obtain ⟨k, rfl⟩ : ∃ q, k = q + 1 := ⟨k - 1, by omega⟩
    rw [List.take_of_length_le (by omega)] at ha
    have hir : ∀ s ∈ l, inR s := fun s hs => by
      have h2 := validS_iff.1 (List.all_eq_true.1 ha s hs)
      have h3 := inP_iff.1 h2.2.2
      exact ⟨⟨by omega, by omega⟩, by omega, by omega⟩
    have hdg := leaves_dg l
    simp only [observatoryref07_Root.l0]
    rw [if_neg (by omega), Leaves_ref (by omega) hir (by omega), Option.bind_some]
    unfold observatoryref02_Root.f
    rw [digests_eq (by simp; omega) (fun s hs => by rw [isDg_size (List.all_eq_true.1 hdg s hs)]; omega) (by simp; omega), Option.bind_some, if_pos hdg, root_ref 16 k _ (by simp; omega) (okB_dg hdg (by simp; omega)) (by omega), Option.bind_some, Option.bind_some]
    unfold sRootF
    rw [if_pos ⟨h1, hl, ha⟩]
  | succ d ih =>
    intro k i hd hk ha
    obtain ⟨k, rfl⟩ : ∃ q, k = q + 1 := ⟨k - 1, by omega⟩
    have hi : i < l.length := by omega
    simp only [observatoryref07_Root.l0]
    rw [if_pos (by omega), if_pos (by omega), rd54_at hi, Valid_ref, Option.bind_some]
    cases hvs : validS l[i] with
    | false =>
      rw [if_neg (by simp), sRootF_bad]
      rw [List.all_eq_false]
      exact ⟨_, List.getElem_mem hi, by simp [hvs]⟩
    | true =>
      rw [if_pos rfl, w_succ (by omega)]
      exact ih k (i + 1) (by omega) (by omega) (by rw [List.take_succ_eq_append_getElem hi, List.all_append, ha, List.all_cons, hvs]; rfl)
theorem rRoot_any {k : Nat} {l : List S25} (hk : 320000 ≤ k) : observatoryref07_Root.f k l = some (sRootF l) := by
  obtain ⟨k, rfl⟩ : ∃ q, k = q + 1 := ⟨k - 1, by omega⟩
  have bad : ¬ (1 ≤ l.length ∧ l.length ≤ 16) → sRootF l = (⟨#[]⟩, 1) := fun h => by unfold sRootF; rw [if_neg (fun h2 => h ⟨h2.1, h2.2.1⟩)]
  unfold observatoryref07_Root.f
  simp only [observatoryref07_Root.j0, if_true]
  by_cases h1 : (l.length : Int) < 1
  · rw [if_pos h1, bad (by omega)]
  · rw [if_neg h1]
    by_cases h2 : (l.length : Int) > 16
    · rw [if_pos (by simpa using h2), bad (by omega)]
    · rw [if_neg (by simpa using h2)]
      exact rRoot_l0 l (by omega) (by omega) l.length k 0 (by omega) (by omega) (by simp)
theorem Check_any {k : Nat} {rt leaf : ByteArray} {n i : Int} {p : List ByteArray} (hk : 1400000 ≤ k) (hp : ∀ s ∈ p, s.size ≤ 1000) (hpl : p.length ≤ 1000000) (hleaf : leaf.size ≤ 1000) : observatoryref02_Check.f k rt n i leaf p = some (chkF rt n i leaf p) := by
  cases hd : p.all isDg with
  | true => exact Check_ref hk hd hpl hleaf
  | false =>
    unfold observatoryref02_Check.f
    rw [chk_bad (.inr (.inr (.inr (.inl hd))))]
    by_cases h1 : n > 1000000
    · rw [if_pos h1]
    · rw [if_neg h1]
      by_cases h2 : i < 0
      · rw [if_pos h2]
      · rw [if_neg h2]
        by_cases h3 : i ≥ n
        · rw [if_pos h3]
        · rw [if_neg h3]
          obtain ⟨i, rfl⟩ := Int.eq_ofNat_of_zero_le (show 0 ≤ i by omega)
          obtain ⟨n, rfl⟩ := Int.eq_ofNat_of_zero_le (show 0 ≤ n by omega)
          obtain ⟨g4, g5⟩ := length_ref n k n i (Nat.le_refl _) (by omega) (by omega) (by omega)
          rw [g4, Option.bind_some]
          by_cases h5 : p.length = plen n i
          · rw [if_pos (by omega), digests_eq (by omega) (fun s hs => by have := hp s hs; omega) (by omega), Option.bind_some, hd, if_neg (by simp)]
          · rw [if_neg (by omega)]
theorem rCheck_any {k : Nat} {rt : ByteArray} {m x y : Int} {p : List ByteArray} (hk : 1400001 ≤ k) (hpl : p.length ≤ 1000000) (hp : ∀ s ∈ p, s.size ≤ 1000) : observatoryref07_Check.f k rt m x y p = some (sChk rt m x y p) := by
  obtain ⟨k, rfl⟩ : ∃ q, k = q + 1 := ⟨k - 1, by omega⟩
  unfold observatoryref07_Check.f sChk
  simp only [observatoryref07_Check.j0]
  by_cases h1 : m < 1
  · rw [if_pos h1, if_pos trivial, decide_eq_false (by omega : ¬ 1 ≤ m)]; rfl
  · rw [if_neg h1, decide_eq_true (by omega : 1 ≤ m)]
    by_cases h2 : m > 16
    · rw [if_pos h2, if_pos trivial, decide_eq_false (by omega : ¬ m ≤ 16)]; rfl
    · rw [if_neg h2, decide_eq_true (by omega : m ≤ 16), Valid_ref, Option.bind_some]
      cases h3 : validS ⟨x, y⟩ with
      | false => rw [if_neg (by simp), if_pos trivial]; rfl
      | true =>
        have hs2 := validS_iff.1 h3
        have hs3 := inP_iff.1 hs2.2.2
        simp only at hs2 hs3
        rw [if_pos rfl]
        by_cases h4 : x > m
        · rw [decide_eq_true h4, if_pos rfl, decide_eq_false (by omega : ¬ x ≤ m)]; rfl
        · rw [decide_eq_false h4, if_neg (by simp), decide_eq_true (by omega : x ≤ m), Text_ref (by omega) (by omega) (by omega) (by omega) (by omega), Option.bind_some, Leaf_ref (by have := pairT_size (x := x) (y := y) (by omega) (by omega) (by omega) (by omega); omega) (by omega), Option.bind_some, w64 (by omega) (by omega), Check_any (by omega) hp hpl (by rw [sumF_size]; omega), Option.bind_some]
          rfl
end Go.Proofs.YtddikdpbhjgihaaGreatDoor.X
end
section
namespace Go.Proofs.YtddikdpbhjgihaaGreatDoor.X
open Go.RowKit Go.Proofs.YtddikdpbhjgihaaGreatDoorW.PrintWords Go.Proofs.YtddikdpbhjgihaaGreatDoorW.PrintLast Go.Proofs.YtddikdpbhjgihaaGreatDoorW.PrintMore
set_option linter.unusedVariables false
set_option linter.unusedSimpArgs false
def smrFew (r : List Int) (l : List S25) (rt : ByteArray) (p : List ByteArray) : Bool :=
  decide (r.length ≤ 40) && decide (l.length ≤ 40) && decide (rt.size ≤ 60) && decide (p.length ≤ 40) && fewB p 60
set_option maxRecDepth 100000 in
set_option maxHeartbeats 2000000 in
theorem smr_early (s n m : Int) (A1 : Option Addr) (c1 : Nat) (r : List Int) (A2 : Option Addr) (c2 : Nat) (l : List S25) (rt : ByteArray) (x y : Int) (A3 : Option Addr) (c3 : Nat) (p : List ByteArray) (w : World)
    (hC1 : Kd.C (Kd.int .i64) w A1 r.length r) (hc1 : r.length ≤ c1) (hC2 : Kd.C k25 w A2 l.length l) (hc2 : l.length ≤ c2) (hC3 : Kd.C Kd.string w A3 p.length p) (hc3 : p.length ≤ c3)
    (hl1 : r.length ≤ 9223372036854775807) (hl2 : l.length ≤ 9223372036854775807) (hl3 : p.length ≤ 9223372036854775807) (hz : rt.size ≤ 9223372036854775807) (hf : smrFew r l rt p = false) :
    Calls Tryz.prog 3 #[.int .i64 s, .int .i64 n, .int .i64 m, .slice A1 r.length c1, .slice A2 l.length c2, .string rt, .agg #[.int .i64 x, .int .i64 y], .slice A3 p.length c3] w fun e w' => e = .returned (.bool true) ∧ Below w.heap.size w w' := by
  have HC3 := Aside0.mk hC3
  have HF := Aside0.mk hf
  have HL3 := Aside0.mk hl3
  clear hC1 hC2 hC3 hf
  have hh : observatorylaw07_head.f = some true := rfl
  have HH := Aside0.mk hh
  clear hh
  by_cases t1 : (r.length : Int) > 40
  · go_enter Tryz.func3, Tryz.ntmps3
    go_wp2_with fail
    refine (observatorylaw07_head.calls true _ HH.out).mono ?_
    rintro e w1 ⟨rfl, hb⟩
    have HB1 := Aside0.mk (below_step (Below.refl w.heap.size w |> (below_alloc · _)) hb)
    clear hb
    go_wp2_with fail
    go_ret
    exact ⟨rfl, HB1.out⟩
  · by_cases t2 : (l.length : Int) > 40
    · go_enter Tryz.func3, Tryz.ntmps3
      go_wp2_with fail
      refine (observatorylaw07_head.calls true _ HH.out).mono ?_
      rintro e w1 ⟨rfl, hb⟩
      have HB1 := Aside0.mk (below_step (Below.refl w.heap.size w |> (below_alloc · _)) hb)
      clear hb
      go_wp2_with fail
      go_ret
      exact ⟨rfl, HB1.out⟩
    · by_cases t3 : (rt.size : Int) > 60
      · go_enter Tryz.func3, Tryz.ntmps3
        go_wp2_with fail
        refine (observatorylaw07_head.calls true _ HH.out).mono ?_
        rintro e w1 ⟨rfl, hb⟩
        have HB1 := Aside0.mk (below_step (Below.refl w.heap.size w |> (below_alloc · _)) hb)
        clear hb
        go_wp2_with fail
        go_ret
        exact ⟨rfl, HB1.out⟩
      · by_cases t4 : (p.length : Int) > 40
        · go_enter Tryz.func3, Tryz.ntmps3
          go_wp2_with fail
          refine (observatorylaw07_head.calls true _ HH.out).mono ?_
          rintro e w1 ⟨rfl, hb⟩
          have HB1 := Aside0.mk (below_step (Below.refl w.heap.size w |> (below_alloc · _)) hb)
          clear hb
          go_wp2_with fail
          go_ret
          exact ⟨rfl, HB1.out⟩
        · have HW := Aside0.mk (show observatoryref01_Few.f 100 p 60 = some false by
            rw [Few_eq 60 (by omega) (by omega)]
            have := HF.out
            unfold smrFew at this
            rw [decide_eq_true (by omega : r.length ≤ 40), decide_eq_true (by omega : l.length ≤ 40), decide_eq_true (by omega : rt.size ≤ 60), decide_eq_true (by omega : p.length ≤ 40)] at this
            simpa using this)
          go_enter Tryz.func3, Tryz.ntmps3
          go_wp2_with fail
          refine (observatorylaw07_head.calls true _ HH.out).mono ?_
          rintro e w1 ⟨rfl, hb⟩
          have HB1 := Aside0.mk (below_step (Below.refl w.heap.size w |> (below_alloc · _)) hb)
          clear hb
          go_wp2_with fail
          refine (observatoryref01_Few.calls 100 A3 c3 p 60 false _ (Kd.C_below HC3.out HB1.out) hc3 HW.out).mono ?_
          rintro e w2 ⟨rfl, ⟨nd, rfl⟩⟩
          go_wp2_with fail
          go_ret
          exact ⟨rfl, pw_below_drewN HB1.out nd⟩
theorem splitF_len {s n m : Int} {r : List Int} : (splitF s n m r).1.length ≤ 16 := by
  by_cases h : splitArg n m r
  · rw [splitF_arg h]; simp
  · cases h2 : (s :: r).all inP with
    | false => rw [splitF_el h2]; simp
    | true =>
      rw [List.all_cons, Bool.and_eq_true] at h2
      rw [splitF_all h h2.1, if_pos h2.2, shareList_length]
      unfold splitArg at h
      omega
set_option maxRecDepth 100000 in
set_option maxHeartbeats 4000000 in
theorem smr_main (s n m : Int) (A1 : Option Addr) (c1 : Nat) (r : List Int) (A2 : Option Addr) (c2 : Nat) (l : List S25) (rt : ByteArray) (x y : Int) (A3 : Option Addr) (c3 : Nat) (p : List ByteArray) (w : World)
    (hC1 : Kd.C (Kd.int .i64) w A1 r.length r) (hc1 : r.length ≤ c1) (hC2 : Kd.C k25 w A2 l.length l) (hc2 : l.length ≤ c2) (hC3 : Kd.C Kd.string w A3 p.length p) (hc3 : p.length ≤ c3) (hgl : GL w)
    (hf : smrFew r l rt p = true) :
    Calls Tryz.prog 3 #[.int .i64 s, .int .i64 n, .int .i64 m, .slice A1 r.length c1, .slice A2 l.length c2, .string rt, .agg #[.int .i64 x, .int .i64 y], .slice A3 p.length c3] w fun e w' => e = .returned (.bool true) ∧ Below w.heap.size w w' := by
  unfold smrFew at hf
  simp only [Bool.and_eq_true, decide_eq_true_eq] at hf
  obtain ⟨⟨⟨⟨f1, f2⟩, f3⟩, f4⟩, f5⟩ := hf
  have t1 : ¬ (r.length : Int) > 40 := by omega
  have t2 : ¬ (l.length : Int) > 40 := by omega
  have t3 : ¬ (rt.size : Int) > 60 := by omega
  have t4 : ¬ (p.length : Int) > 40 := by omega
  have hps := fewB_iff.1 f5
  have E0 := Aside0.mk (show observatorylaw07_head.f = some true from rfl)
  have E1 := Aside0.mk (show observatoryref01_Few.f 100 p 60 = some true by rw [Few_eq 60 (by omega) (by omega), f5])
  obtain ⟨sl, se, hsp⟩ : ∃ a b, splitF s n m r = (a, b) := ⟨_, _, rfl⟩
  obtain ⟨jv, je, hj⟩ : ∃ a b, joinF l n = (a, b) := ⟨_, _, rfl⟩
  obtain ⟨rv, re, hr⟩ : ∃ a b, sRootF l = (a, b) := ⟨_, _, rfl⟩
  have hsl : sl.length ≤ 16 := by
    have h1 : sl = (splitF s n m r).1 := by rw [hsp]
    rw [h1]; exact splitF_len
  have E2 := Aside0.mk (show shares_Split.f s n m r = some (sl, se) by unfold shares_Split.f; rw [hsp])
  have E3 := Aside0.mk (show observatoryref07_Split.f 1000 s n m r = some (sl, se) by rw [Split_ref (by omega) (by omega), hsp])
  have E4 := Aside0.mk (show shares_Join.f l n = some (jv, je) by unfold shares_Join.f; rw [hj])
  have E5 := Aside0.mk (show observatoryref07_Join.f 2150000000 l n = some (jv, je) by rw [Join_ref (Nat.le_refl _) (by omega), hj])
  have E6 := Aside0.mk (show shares_Root.f 20 l = some (rv, re) by rw [sRoot_any (by omega), hr])
  have E7 := Aside0.mk (show observatoryref07_Root.f 320000 l = some (rv, re) by rw [rRoot_any (by omega), hr])
  have E8 := Aside0.mk (show observatoryref07_Same.f 20 sl sl = some true from Same_eq sl (by omega) (by omega))
  have E9 := Aside0.mk (show shares_Check.f 2 rt m x y p = some (sChk rt m x y p) from sCheck_eq (by omega) (by omega))
  have E10 := Aside0.mk (show observatoryref07_Check.f 1400001 rt m x y p = some (sChk rt m x y p) from rCheck_any (by omega) (by omega) (fun q hq => by have := hps.1 q hq; omega))
  generalize sChk rt m x y p = ck at E9 E10
  have HC1 := Aside0.mk hC1
  have HC2 := Aside0.mk hC2
  have HC3 := Aside0.mk hC3
  have HGL := Aside0.mk hgl
  have c3' := Aside0.mk hc3
  clear hC1 hC2 hC3 hgl hps hsp hj hr f5
  go_enter Tryz.func3, Tryz.ntmps3
  go_wp2_with fail
  refine (observatorylaw07_head.calls true _ E0.out).mono ?_
  rintro e w1 ⟨rfl, hb⟩
  have HB1 := Aside0.mk (below_step (below_alloc (Below.refl w.heap.size w) (.cells #[.int .i64 x, .int .i64 y] 25)) hb)
  have BK1 := Aside0.mk (blk_below (heap_last w (.cells #[.int .i64 x, .int .i64 y] 25)) hb)
  clear hb
  go_wp2_with fail
  refine (observatoryref01_Few.calls 100 A3 c3 p 60 true _ (Kd.C_below HC3.out HB1.out) hc3 E1.out).mono ?_
  rintro e w2 ⟨rfl, ⟨nd, rfl⟩⟩
  have HB2 := Aside0.mk (pw_below_drewN HB1.out nd)
  have BK2 := Aside0.mk (blk_drewN BK1.out nd)
  generalize w1.drewN nd = w2 at HB2 BK2
  clear BK1 HB1
  go_wp2_with fail
  refine (shares_Split.calls s n m A1 c1 r sl se _ (Kd.C_below HC1.out HB2.out) hc1 E2.out).mono ?_
  rintro e w3 ⟨v0, rfl, hR, hb⟩
  obtain ⟨P1, d1, rfl, hd1, hQ1⟩ := Kd.R_reads hR
  have HQ1 := Aside0.mk hQ1
  have HB3 := Aside0.mk (below_step HB2.out hb)
  have BK3 := Aside0.mk (blk_below BK2.out hb)
  clear hR hb hQ1 BK2 HB2
  go_wp2_with fail
  refine (observatoryref07_Split.calls 1000 s n m A1 c1 r sl se _ (Kd.C_below HC1.out HB3.out) hc1 E3.out).mono ?_
  rintro e w4 ⟨v0, rfl, hR, hb⟩
  obtain ⟨P2, d2, rfl, hd2, hQ2⟩ := Kd.R_reads hR
  have HQ1' := Aside0.mk (Kd.C_below HQ1.out hb)
  have HQ2 := Aside0.mk hQ2
  have HB4 := Aside0.mk (below_step HB3.out hb)
  have BK4 := Aside0.mk (blk_below BK3.out hb)
  clear hR hb hQ2 BK3 HB3 HQ1
  go_wp2_with fail
  refine (shares_Join.calls A2 c2 l n jv je _ (Kd.C_below HC2.out HB4.out) hc2 E4.out).mono ?_
  rintro e w5 ⟨rfl, hb⟩
  have HQ1 := Aside0.mk (Kd.C_below HQ1'.out hb)
  have HQ2' := Aside0.mk (Kd.C_below HQ2.out hb)
  have HB5 := Aside0.mk (below_step HB4.out hb)
  have BK5 := Aside0.mk (blk_below BK4.out hb)
  clear hb BK4 HB4 HQ1' HQ2
  go_wp2_with fail
  refine (observatoryref07_Join.calls 2150000000 A2 c2 l n jv je _ (Kd.C_below HC2.out HB5.out) hc2 E5.out).mono ?_
  rintro e w6 ⟨rfl, hb⟩
  have HQ1' := Aside0.mk (Kd.C_below HQ1.out hb)
  have HQ2 := Aside0.mk (Kd.C_below HQ2'.out hb)
  have HB6 := Aside0.mk (below_step HB5.out hb)
  have BK6 := Aside0.mk (blk_below BK5.out hb)
  clear hb BK5 HB5 HQ1 HQ2'
  go_wp2_with fail
  refine (shares_Root.calls 20 A2 c2 l rv re _ (Kd.C_below HC2.out HB6.out) hc2 (HGL.out.below HB6.out) E6.out).mono ?_
  rintro e w7 ⟨rfl, hb⟩
  have HQ1 := Aside0.mk (Kd.C_below HQ1'.out hb)
  have HQ2' := Aside0.mk (Kd.C_below HQ2.out hb)
  have HB7 := Aside0.mk (below_step HB6.out hb)
  have BK7 := Aside0.mk (blk_below BK6.out hb)
  clear hb BK6 HB6 HQ1' HQ2
  go_wp2_with fail
  refine (observatoryref07_Root.calls 320000 A2 c2 l rv re _ (Kd.C_below HC2.out HB7.out) hc2 E7.out).mono ?_
  rintro e w8 ⟨rfl, hb⟩
  have HQ1' := Aside0.mk (Kd.C_below HQ1.out hb)
  have HQ2 := Aside0.mk (Kd.C_below HQ2'.out hb)
  have HB8 := Aside0.mk (below_step HB7.out hb)
  have BK8 := Aside0.mk (blk_below BK7.out hb)
  clear hb BK7 HB7 HQ1 HQ2'
  go_wp2_with fail
  refine (observatoryref07_Same.calls 20 P1 d1 sl P2 d2 sl true _ HQ1'.out hd1 HQ2.out hd2 E8.out).mono ?_
  rintro e w9 ⟨rfl, ⟨nd, rfl⟩⟩
  have HB9 := Aside0.mk (pw_below_drewN HB8.out nd)
  have BK9 := Aside0.mk (blk_drewN BK8.out nd)
  generalize w8.drewN nd = w9 at HB9 BK9
  clear BK8 HB8 HQ1' HQ2
  have z0 : w9.cell? ⟨w.heap.size, 0, none⟩ = some (.int .i64 x) := cell_of_row _ _ 0 _ _ _ BK9.out
  have z1 : w9.cell? ⟨w.heap.size, 1, none⟩ = some (.int .i64 y) := cell_of_row _ _ 1 _ _ _ BK9.out
  have hlt := heap_lt BK9.out
  have Z0 := Aside0.mk z0
  have Z1 := Aside0.mk z1
  have HBz := Aside0.mk (Below.refl w9.heap.size w9)
  have HC9 := Aside0.mk (Kd.C_below HC3.out HB9.out)
  have HG9 := Aside0.mk (HGL.out.below HB9.out)
  go_wp2_with fail
  have k0 := z0
  have k1 := z1
  go_region_held3 (fun w' => w'.cell? ⟨w.heap.size, 0, none⟩ = some (.int .i64 x) ∧ w'.cell? ⟨w.heap.size, 1, none⟩ = some (.int .i64 y)) (first | go_keep | exact ⟨k0, k1⟩ | exact ⟨m0, m1⟩ | exact ⟨n0, n1⟩)
    (first | (go_at_call 24; refine (shares_Check.calls 2 rt m x y A3 c3 p ck _ (Kd.C_below HC9.out (by repeat (first | exact HBz.out | apply pw_below_drewN | apply below_drew1))) c3'.out (HG9.out.below (by repeat (first | exact HBz.out | apply pw_below_drewN | apply below_drew1))) E9.out).mono ?_; rintro e wa ⟨rfl, hb⟩; have HBa := Aside0.mk (below_step (by repeat (first | exact HBz.out | apply pw_below_drewN | apply below_drew1)) hb); have m0 := (HBa.out.cell (p := ⟨w.heap.size, 0, none⟩) hlt).trans Z0.out; have m1 := (HBa.out.cell (p := ⟨w.heap.size, 1, none⟩) hlt).trans Z1.out; clear hb) | (go_at_call 25; refine (observatoryref07_Check.calls 1400001 rt m x y A3 c3 p ck _ (Kd.C_below HC9.out (by repeat (first | exact HBa.out | apply pw_below_drewN | apply below_drew1))) c3'.out E10.out).mono ?_; rintro e wb ⟨rfl, hb⟩; have HBb := Aside0.mk (below_step (by repeat (first | exact HBa.out | apply pw_below_drewN | apply below_drew1)) hb); have n0 := (HBb.out.cell (p := ⟨w.heap.size, 0, none⟩) hlt).trans Z0.out; have n1 := (HBb.out.cell (p := ⟨w.heap.size, 1, none⟩) hlt).trans Z1.out; clear hb))
  all_goals (go_wp2_with fail; go_ret; exact ⟨rfl, HB9.out.trans (HBb.out.mono HB9.out.size)⟩)
def observatorylaw07_SharesMatchReference.f (a0 a1 a2 : Int) (l3 : List Int) (l4 : List S25) (a5 : ByteArray) (a6_0 a6_1 : Int) (l7 : List ByteArray) : Option Bool :=
  if l3.length ≤ 9223372036854775807 ∧ l4.length ≤ 9223372036854775807 ∧ l7.length ≤ 9223372036854775807 ∧ a5.size ≤ 9223372036854775807 then some true else none
theorem observatorylaw07_SharesMatchReference.calls (a0 a1 a2 : Int) (A3 : Option Addr) (c3 : Nat) (l3 : List Int) (A4 : Option Addr) (c4 : Nat) (l4 : List S25) (a5 : ByteArray) (a6_0 a6_1 : Int) (A7 : Option Addr) (c7 : Nat) (l7 : List ByteArray) (r : Bool) (w : World)
    (hr3 : Kd.C (Kd.int .i64) w A3 l3.length l3) (hc3 : l3.length ≤ c3) (hr4 : Kd.C k25 w A4 l4.length l4) (hc4 : l4.length ≤ c4) (hr7 : Kd.C Kd.string w A7 l7.length l7) (hc7 : l7.length ≤ c7) (hgl : GL w) (h : observatorylaw07_SharesMatchReference.f a0 a1 a2 l3 l4 a5 a6_0 a6_1 l7 = some r) :
    Calls Tryz.prog 3 #[.int .i64 a0, .int .i64 a1, .int .i64 a2, .slice A3 l3.length c3, .slice A4 l4.length c4, .string a5, .agg #[.int .i64 a6_0, .int .i64 a6_1], .slice A7 l7.length c7] w fun e w' => e = .returned (.bool r) ∧ Below w.heap.size w w' := by
  unfold observatorylaw07_SharesMatchReference.f at h
  split at h
  · rename_i hs
    obtain rfl := Option.some.inj h
    cases hf : smrFew l3 l4 a5 l7 with
    | false => exact smr_early a0 a1 a2 A3 c3 l3 A4 c4 l4 a5 a6_0 a6_1 A7 c7 l7 w hr3 hc3 hr4 hc4 hr7 hc7 hs.1 hs.2.1 hs.2.2.1 hs.2.2.2 hf
    | true => exact smr_main a0 a1 a2 A3 c3 l3 A4 c4 l4 a5 a6_0 a6_1 A7 c7 l7 w hr3 hc3 hr4 hc4 hr7 hc7 hgl hf
  · cases h
end Go.Proofs.YtddikdpbhjgihaaGreatDoor.X
end
section
namespace Go.Proofs.YtddikdpbhjgihaaGreatDoorW.PrintWords
open Go.RowKit
def Opens {α : Type} (P : Program) (t : TypeId) (d : Kd α) (ok : α → Prop) : Prop :=
  ∀ {H : Type} (enc : TypeId × Value → H) (w : World) (base : Nat) (spare : Nat → Bool) (held : Bool) (fuel : Nat) (cs : List Value) (x : DataW H × List MemPlace),
    DataW.trod enc P w base spare held fuel t cs = some x → ∃ a : α, d.K w a cs ∧ ok a
theorem opens_int {P : Program} {t : TypeId} {k : IntKind} (ht : P.underlying t = some (.int k)) : Opens P t (Kd.int k) (fun n => (Lit.int k n).wf = true) := by
  intro H enc w base spare held fuel cs x hx
  obtain ⟨n, rfl, _, hw⟩ := DataW.trod_int ht hx
  exact ⟨n, rfl, hw⟩
theorem opens_string {P : Program} {t : TypeId} (ht : P.underlying t = some .string) : Opens P t Kd.string (fun s => s.size ≤ maxLen) := by
  intro H enc w base spare held fuel cs x hx
  obtain ⟨n, rfl, _, hw⟩ := DataW.trod_string ht hx
  exact ⟨n, rfl, hw⟩
theorem opens_slice {α : Type} {P : Program} {t e : TypeId} {d : Kd α} {ok : α → Prop} (ht : P.underlying t = some (.slice e)) (hsz : P.cellsOf e = d.sz) (hd : Opens P e d ok) :
    Opens P t (Kd.slice e d) (fun l => l.length ≤ maxLen ∧ ∀ a ∈ l, ok a) := by
  intro H enc w base spare held fuel cs x hx
  rcases DataW.trod_slice ht hx with ⟨rfl, _⟩ | ⟨a, len, cap, elems, rest, n, _, rfl, _, hb, hl, hm, hlen, hel, _, _⟩
  · exact ⟨[], ⟨none, 0, rfl, Nat.le_refl _, rfl, by simp, fun h => absurd h (Nat.lt_irrefl 0)⟩, by simp, fun a h => by simp at h⟩
  · have hone : ∀ i, i < len → ∃ y : α, (∃ c, w.cells? base (a.add (i * P.cellsOf e)) (P.cellsOf e) = some c ∧ d.K w y c) ∧ ok y := by
      intro i hi
      have h1 := hel i hi
      rw [List.getElem?_eq_getElem (by omega)] at h1
      obtain ⟨c, hc, hc2⟩ := Option.bind_eq_some_iff.1 h1
      obtain ⟨y, hy, hok⟩ := hd enc w base spare held n c _ hc2
      exact ⟨y, ⟨c, hc, hy⟩, hok⟩
    have hall : ∀ m, m ≤ len → ∃ l : List α, l.length = m ∧ ∀ i y, l[i]? = some y → (∃ c, w.cells? base (a.add (i * P.cellsOf e)) (P.cellsOf e) = some c ∧ d.K w y c) ∧ ok y := by
      intro m
      induction m with
      | zero => intro _; exact ⟨[], rfl, fun i y h => by simp at h⟩
      | succ m ih =>
        intro h
        obtain ⟨l, hl1, hl2⟩ := ih (by omega)
        obtain ⟨y, hy⟩ := hone m (by omega)
        refine ⟨l ++ [y], by simp [hl1], fun i z hz => ?_⟩
        by_cases hi : i < m
        · rw [List.getElem?_append_left (by omega)] at hz; exact hl2 i z hz
        · by_cases hi2 : i = m
          · subst hi2
            rw [List.getElem?_append_right (by omega), hl1, Nat.sub_self] at hz
            simp at hz; subst hz; exact hy
          · rw [List.getElem?_eq_none (by simp; omega)] at hz; cases hz
    obtain ⟨l, hl1, hl2⟩ := hall len (Nat.le_refl _)
    refine ⟨l, ⟨some a, cap, by rw [hl1], by omega, rfl, by rw [hl1]; exact Nat.le_trans hl hm, fun _ => ⟨a, rfl, fun j y hj => ?_⟩⟩, by rw [hl1]; exact Nat.le_trans hl hm, fun y hy => ?_⟩
    · obtain ⟨⟨c, hc, hK⟩, _⟩ := hl2 j y hj
      obtain ⟨_, h2, h3⟩ := World.cells?_some hc
      refine ⟨c, d.K_len hK, hK, fun i u hu => ?_⟩
      have hi : i < P.cellsOf e := by
        have := (List.getElem?_eq_some_iff.1 hu).1
        omega
      have h4 := h3 i hi
      rw [hu, add_add, hsz] at h4
      exact h4
    · obtain ⟨j, hj, hje⟩ := List.getElem_of_mem hy
      exact (hl2 j y (by rw [List.getElem?_eq_getElem hj, hje])).2
theorem pair_at {α β : Type} {d0 : Kd α} {d1 : Kd β} {w : World} {cs : List Value} {a : α} {b : β} (o s0 s1 : Nat) (h0 : d0.K w a ((cs.drop o).take s0)) (h1 : d1.K w b ((cs.drop (o + s0)).take s1)) :
    (Kd.pair d0 d1).K w (a, b) ((cs.drop o).take (s0 + s1)) :=
  ⟨_, _, by rw [List.take_add, List.drop_drop], h0, h1⟩
end Go.Proofs.YtddikdpbhjgihaaGreatDoorW.PrintWords
end
section
namespace Go.Proofs.YtddikdpbhjgihaaGreatDoor.X
open Go.RowKit Go.Proofs.YtddikdpbhjgihaaGreatDoorW.PrintWords
def ok25 (x : S25) : Prop := (fun n => (Lit.int .i64 n).wf = true) x.f0 ∧ (fun n => (Lit.int .i64 n).wf = true) x.f1
theorem opens25 : Opens Tryz.prog 25 k25 ok25 := by
  intro H enc w base spare held fuel cs x hx
  obtain ⟨xs, m, _, _, hlen, hxl, hf⟩ := DataW.trod_struct Tryz.underlying25 hx
  have hN : cs.length = 2 := hlen.trans (by kernel_rfl)
  have c0 : Tryz.prog.cellsOf 3 = 1 := by kernel_rfl
  have e0 : DataW.trod enc Tryz.prog w base spare held m 3 ((cs.drop 0).take (Tryz.prog.cellsOf 3)) = xs[0]? := hf 0 _ rfl
  rw [c0, List.getElem?_eq_getElem (by rw [hxl]; decide)] at e0
  obtain ⟨a0, K0, w0⟩ := (opens_int Tryz.underlying3) enc w base spare held m _ _ e0
  have c1 : Tryz.prog.cellsOf 3 = 1 := by kernel_rfl
  have e1 : DataW.trod enc Tryz.prog w base spare held m 3 ((cs.drop 1).take (Tryz.prog.cellsOf 3)) = xs[1]? := hf 1 _ rfl
  rw [c1, List.getElem?_eq_getElem (by rw [hxl]; decide)] at e1
  obtain ⟨a1, K1, w1⟩ := (opens_int Tryz.underlying3) enc w base spare held m _ _ e1
  have K := (pair_at 0 1 1 K0 K1)
  rw [List.drop_zero, List.take_of_length_le (by rw [hN]; exact Nat.le_refl _)] at K
  exact ⟨⟨a0, a1⟩, K, ⟨w0, w1⟩⟩
end Go.Proofs.YtddikdpbhjgihaaGreatDoor.X
end
section
namespace Go.Proofs.YtddikdpbhjgihaaGreatDoor.Pure
open Go.RowKit Go.Proofs.YtddikdpbhjgihaaGreatDoor.X Go.Proofs.YtddikdpbhjgihaaGreatDoorW.PrintWords
set_option linter.unusedVariables false
theorem SharesMatchReference (a0 : Int) (a1 : Int) (a2 : Int) (z3 : List Int) (z4 : List (S25)) (a5 : ByteArray) (z6 : S25) (z7 : List ByteArray) (h0 : (Lit.int .i64 a0).wf = true) (h1 : (Lit.int .i64 a1).wf = true) (h2 : (Lit.int .i64 a2).wf = true) (h3 : (fun l => l.length ≤ maxLen ∧ ∀ a ∈ l, (fun n => (Lit.int .i64 n).wf = true) a) z3) (h4 : (fun l => l.length ≤ maxLen ∧ ∀ a ∈ l, ok25 a) z4) (h5 : a5.size ≤ maxLen) (h6 : ok25 z6) (h7 : (fun l => l.length ≤ maxLen ∧ ∀ a ∈ l, (fun s => s.size ≤ maxLen) a) z7) : observatorylaw07_SharesMatchReference.f a0 a1 a2 z3 z4 a5 z6.f0 z6.f1 z7 = some true := by
  unfold observatorylaw07_SharesMatchReference.f
  have g3 := h3.1
  have g4 := h4.1
  have g7 := h7.1
  unfold maxLen at g3 g4 g7 h5
  rw [if_pos ⟨by omega, by omega, by omega, by omega⟩]
end Go.Proofs.YtddikdpbhjgihaaGreatDoor.Pure
end
