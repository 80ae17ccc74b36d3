import Derived.Test.YtpeinbibaceheaaBr6b
import Derived.Test.YtpeinbibaceheaaGHead07
/-
  What the functions of the chapter on shares come to, in plain arithmetic.
-/
namespace Go.Proofs.Ytpeinbibaceheaa.X
open Go.RowKit Go.Proofs.YtpeinbibaceheaaW.PrintWords Go.Proofs.YtpeinbibaceheaaW.PrintLast
open ObsMath
set_option linter.unusedVariables false

theorem elem7_eq (a : Int) : observatorylaw07_element.f a = some (a % 2147483647) := by
  unfold observatorylaw07_element.f
  have h1 : Int.tmod a 2147483647 = if 0 ≤ a then a % 2147483647 else -((-a) % 2147483647) := by
    split
    · rename_i h; exact Int.tmod_eq_emod_of_nonneg h
    · rename_i h
      have e := Int.neg_tmod (-a) 2147483647
      rw [Int.neg_neg] at e
      rw [e, Int.tmod_eq_emod_of_nonneg (by omega)]
  by_cases h0 : 0 ≤ a
  · rw [if_pos h0] at h1
    rw [h1, if_neg (by omega)]
  · rw [if_neg h0] at h1
    rw [h1]
    by_cases h2 : -(-a % 2147483647) < 0
    · rw [if_pos h2, w64 (by omega) (by omega)]; congr 1; omega
    · rw [if_neg h2]; congr 1; omega

theorem inP_mod (a : Int) : inP (a % 2147483647) = true := inP_iff.2 (by omega)

/-- The list that made makes. -/
def outL (l : List Int) : Nat → List Int
  | 0 => []
  | i + 1 => outL l i ++ [if i < l.length then rd l i % 2147483647 else (i : Int)]

theorem outL_length (l : List Int) : ∀ n, (outL l n).length = n
  | 0 => rfl
  | n + 1 => by simp [outL, outL_length l n]

theorem outL_inP (l : List Int) : ∀ n, n ≤ 16 → (outL l n).all inP = true
  | 0, _ => rfl
  | n + 1, h => by
    rw [outL, List.all_append, outL_inP l n (by omega), Bool.true_and, List.all_cons, List.all_nil, Bool.and_true]
    split
    · exact inP_mod _
    · exact inP_iff.2 (by omega)

theorem made_l0 (l : List Int) (n : Nat) (m : Int) (h1 : 1 ≤ n) (h8 : n ≤ 8) : ∀ (d k i : Nat), n - 1 - i = d → i ≤ n - 1 → d < k →
    observatorylaw07_made.l0 k l (n : Int) m (outL l i) (i : Int) = some ((n : Int), m, outL l (n - 1)) := by
  intro d
  induction d with
  | zero =>
    intro k i g1 g2 g3
    obtain ⟨k, rfl⟩ : ∃ q, k = q + 1 := ⟨k - 1, by omega⟩
    obtain rfl : i = n - 1 := by omega
    simp only [observatorylaw07_made.l0]
    rw [w64 (n := (n : Int) - 1) (by omega) (by omega), if_neg (by omega)]
  | succ d ih =>
    intro k i g1 g2 g3
    obtain ⟨k, rfl⟩ : ∃ q, k = q + 1 := ⟨k - 1, by omega⟩
    have hl := outL_length l i
    have hn := ih k (i + 1) (by omega) (by omega) (by omega)
    simp only [observatorylaw07_made.l0]
    rw [w64 (n := (n : Int) - 1) (by omega) (by omega), if_pos (by omega), w_succ (by omega)]
    by_cases hi : i < l.length
    · rw [if_pos (by omega), if_pos (by omega), elem7_eq, Option.bind_some, if_pos (by omega)]
      rw [outL, if_pos hi] at hn
      exact hn
    · rw [if_neg (by omega), if_pos (by omega)]
      rw [outL, if_neg hi] at hn
      exact hn

def nOf (a : Int) : Nat := 1 + a.toNat % 6
def mOf (a b : Int) : Nat := nOf a + b.toNat % (9 - nOf a)

theorem nOf_range (a : Int) : 1 ≤ nOf a ∧ nOf a ≤ 6 := by unfold nOf; omega
theorem mOf_range (a b : Int) : nOf a ≤ mOf a b ∧ mOf a b ≤ 8 := by
  have h := nOf_range a
  have h2 := Nat.mod_lt b.toNat (show 0 < 9 - nOf a by omega)
  unfold mOf
  omega

theorem made_eq {k : Nat} (l : List Int) {a b : Int} (hk : 16 ≤ k) (ha0 : 0 ≤ a) (ha : a < 256) (hb0 : 0 ≤ b) (hb : b < 256) :
    observatorylaw07_made.f k l a b = some ((nOf a : Int), (mOf a b : Int), outL l (nOf a - 1)) := by
  have h := nOf_range a
  have h2 := mOf_range a b
  have e1 : wrap64 (1 + Int.tmod (wrap64 a) 6) = (nOf a : Int) := by
    rw [w64 (n := a) (by omega) (by omega), tm _ ha0, w64 (by omega) (by omega)]
    unfold nOf; omega
  have e2 : wrap64 (9 - (nOf a : Int)) = ((9 - nOf a : Nat) : Int) := by rw [w64 (by omega) (by omega)]; omega
  have e3 : wrap64 ((nOf a : Int) + Int.tmod (wrap64 b) ((9 - nOf a : Nat) : Int)) = (mOf a b : Int) := by
    obtain ⟨b, rfl⟩ := Int.eq_ofNat_of_zero_le hb0
    have e4 : Int.tmod (wrap64 (b : Int)) ((9 - nOf a : Nat) : Int) = ((b % (9 - nOf a) : Nat) : Int) := by
      rw [w64 (n := (b : Int)) (by omega) (by omega)]
      exact Int.ofNat_tmod b (9 - nOf a) |>.symm
    have e5 : (mOf a (b : Int) : Int) = (nOf a : Int) + ((b % (9 - nOf a) : Nat) : Int) := by unfold mOf; rw [Int.toNat_natCast]; omega
    rw [e4, w64 (by omega) (by omega), e5]
  unfold observatorylaw07_made.f
  rw [e1, e2, e3, if_neg (by omega)]
  exact made_l0 l (nOf a) _ h.1 (by omega) (nOf a - 1) k 0 (by omega) (by omega) (by omega)

theorem split_ok {s : Int} {n m : Nat} {r : List Int} (h1 : 1 ≤ n) (h2 : n ≤ m) (h3 : m ≤ 16) (hr : r.length = n - 1) (hs : inP s = true) (ha : r.all inP = true) :
    splitF s (n : Int) (m : Int) r = (shareList (s :: r) m, 0) := by
  unfold splitF
  rw [if_neg, if_neg, Int.toNat_natCast]
  · rw [List.all_cons, hs, ha]; simp
  · rintro (h | h | h | h | h) <;> omega

/-- One share. -/
def shareAt (p : List Int) (i : Nat) : S54 := ⟨(i : Int) + 1, evI p ((i : Int) + 1)⟩

theorem shareList_length (p : List Int) (m : Nat) : (shareList p m).length = m := by simp [shareList]
theorem shareList_get (p : List Int) {m i : Nat} (h : i < m) : (shareList p m)[i]'(by rw [shareList_length]; exact h) = shareAt p i := by simp [shareList, shareAt]
theorem rd54_at {l : List S54} {i : Nat} (hi : i < l.length) : rd_T54 l (i : Int) = l[i] := by simp [rd_T54, List.getElem?_eq_getElem hi]
theorem shareList_rd (p : List Int) {m i : Nat} (h : i < m) : rd_T54 (shareList p m) (i : Int) = shareAt p i := by
  rw [rd54_at (by rw [shareList_length]; exact h), shareList_get p h]

/-- The shares that the bits name, from place i down. -/
def pick (l : List S54) (b : Int) : Nat → List S54
  | 0 => []
  | i + 1 => (if Go.bits .and .u8 (shr .u8 b (Int.tmod (i : Int) 8)) 1 = 1 then [rd_T54 l (i : Int)] else []) ++ pick l b i

theorem pick_length (l : List S54) (b : Int) : ∀ i, (pick l b i).length ≤ i
  | 0 => by simp [pick]
  | i + 1 => by have := pick_length l b i; rw [pick, List.length_append]; split <;> simp <;> omega

theorem chosen_l0 (l : List S54) (b : Int) (h16 : l.length ≤ 16) : ∀ (i k : Nat) (acc : List S54), i ≤ l.length → i < k → acc.length + i ≤ 100 →
    observatorylaw07_chosen.l0 k l b acc ((i : Int) - 1) = some (acc ++ pick l b i) := by
  intro i
  induction i with
  | zero =>
    intro k acc h1 h2 h3
    obtain ⟨k, rfl⟩ : ∃ q, k = q + 1 := ⟨k - 1, by omega⟩
    simp only [observatorylaw07_chosen.l0, pick]
    rw [if_neg (by omega), List.append_nil]
  | succ i ih =>
    intro k acc h1 h2 h3
    obtain ⟨k, rfl⟩ : ∃ q, k = q + 1 := ⟨k - 1, by omega⟩
    have e : ((i + 1 : Nat) : Int) - 1 = (i : Int) := by omega
    have hm : 0 ≤ Int.tmod (i : Int) 8 := by rw [tm _ (by omega)]; omega
    rw [e]
    simp only [observatorylaw07_chosen.l0, pick]
    rw [if_pos (by omega), if_pos hm, w64 (n := (i : Int) - 1) (by omega) (by omega)]
    by_cases hb : Go.bits .and .u8 (shr .u8 b (Int.tmod (i : Int) 8)) 1 = 1
    · rw [if_pos hb, if_pos hb, if_pos (by omega), if_pos (by omega), if_pos (by omega), ih k _ (by omega) (by omega) (by simp; omega), List.append_assoc]
    · rw [if_neg hb, if_neg hb, ih k _ (by omega) (by omega) (by omega), List.nil_append]

theorem chosen_eq {k : Nat} (l : List S54) (b : Int) (h16 : l.length ≤ 16) (hk : 20 ≤ k) : observatorylaw07_chosen.f k l b = some (pick l b l.length) := by
  unfold observatorylaw07_chosen.f
  rw [w64 (by omega) (by omega), chosen_l0 l b h16 l.length k [] (Nat.le_refl _) (by omega) (by simp; omega), List.nil_append]

/-- Shares of a polynomial at different places. -/
structure Sel (p : List Int) (m : Nat) (ss : List S54) : Prop where
  mem : ∀ s ∈ ss, ∃ j, j < m ∧ s = shareAt p j
  nd : (ss.map (·.f0)).Nodup
  len : ss.length ≤ m

theorem pick_sel (p : List Int) (m : Nat) (b : Int) : ∀ i, i ≤ m → Sel p i (pick (shareList p m) b i)
  | 0, _ => ⟨fun s h => by simp [pick] at h, by simp [pick], by simp [pick]⟩
  | i + 1, h => by
    have ih := pick_sel p m b i (by omega)
    rw [pick]
    split
    · refine ⟨fun s hs => ?_, ?_, ?_⟩
      · rcases List.mem_append.1 hs with hs | hs
        · rw [List.mem_singleton] at hs
          exact ⟨i, by omega, by rw [hs, shareList_rd p (by omega)]⟩
        · obtain ⟨j, hj, e⟩ := ih.mem s hs
          exact ⟨j, by omega, e⟩
      · rw [List.map_append, List.map_cons, List.map_nil, List.singleton_append, List.nodup_cons]
        refine ⟨?_, ih.nd⟩
        intro hm
        obtain ⟨s, hs, e⟩ := List.mem_map.1 hm
        obtain ⟨j, hj, e2⟩ := ih.mem s hs
        rw [shareList_rd p (by omega), e2] at e
        simp only [shareAt] at e
        omega
      · have := ih.len
        simp; omega
    · rw [List.nil_append]
      exact ⟨fun s hs => by obtain ⟨j, hj, e⟩ := ih.mem s hs; exact ⟨j, by omega, e⟩, ih.nd, by have := ih.len; omega⟩

/-! ### Join -/

theorem cnt_zero {l : List S54} {j : Int} (h : j ∉ l.map (·.f0)) : cnt l j = 0 := by
  unfold cnt
  rw [List.length_eq_zero_iff, List.filter_eq_nil_iff]
  intro s hs hd
  exact h (List.mem_map.2 ⟨s, hs, by simpa using hd⟩)

theorem cnt_nodup : ∀ {l : List S54} (j : Int), (l.map (·.f0)).Nodup → cnt l j ≤ 1
  | [], j, _ => by simp [cnt]
  | s :: l, j, h => by
    rw [List.map_cons, List.nodup_cons] at h
    have ih := cnt_nodup j h.2
    unfold cnt at ih ⊢
    rw [List.filter_cons]
    split
    · rename_i hd
      have hj : s.f0 = j := by simpa using hd
      have := cnt_zero (l := l) (j := j) (by rw [← hj]; exact h.1)
      unfold cnt at this
      rw [List.length_cons, this]
      omega
    · exact ih

theorem twice_nodup {l : List S54} (h : (l.map (·.f0)).Nodup) : twice l = false := by
  unfold twice
  rw [List.any_eq_false]
  intro j _
  have := cnt_nodup (l := l) (j : Int) h
  simp; omega

/-- What a good list of shares gives. -/
theorem joinF_good {ss : List S54} {n : Nat} (h1 : 1 ≤ n) (h16 : n ≤ 16) (hv : ss.all validS = true) (hn : (ss.map (·.f0)).Nodup) :
    joinF ss (n : Int) = if ss.length < n then (0, 25)
      else if (ss.drop n).any (fun s => decide (interpF ((ss.take n).map asPt) s.f0 ≠ (s.f1, 0))) = true then (0, 24)
      else interpF ((ss.take n).map asPt) 0 := by
  unfold joinF
  rw [if_neg (by omega), if_neg (by rw [hv]; simp), if_neg (by rw [twice_nodup hn]; simp), Int.toNat_natCast]
  by_cases h : ss.length < n
  · rw [if_pos (by omega), if_pos h]
  · rw [if_neg (by omega), if_neg h]

theorem validS_iff {s : S54} : validS s = true ↔ 1 ≤ s.f0 ∧ s.f0 ≤ 16 ∧ inP s.f1 = true := by
  unfold validS; simp [and_assoc]

theorem take_good {ss : List S54} {n : Nat} (h1 : 1 ≤ n) (h16 : n ≤ 16) (hl : n ≤ ss.length) (hv : ss.all validS = true) (hn : (ss.map (·.f0)).Nodup) {x : Int} (hx : inP x = true) :
    IGood ((ss.take n).map asPt) x := by
  have hlen : ((ss.take n).map asPt).length = n := by simp; omega
  refine IGood.of_dst (by omega) (by omega) hx ?_ ?_
  · rw [List.all_eq_true]
    intro q hq
    obtain ⟨s, hs, rfl⟩ := List.mem_map.1 hq
    have := validS_iff.1 (List.all_eq_true.1 hv s (List.mem_of_mem_take hs))
    unfold okP asPt
    rw [Bool.and_eq_true]
    exact ⟨inP_iff.2 (by simp only []; omega), this.2.2⟩
  · intro i j hij hj e
    have hi' : i < ss.length := by omega
    have hj' : j < ss.length := by omega
    unfold XI at e
    rw [rd41_at (by omega), rd41_at hj, List.getElem_map, List.getElem_map, List.getElem_take, List.getElem_take] at e
    have h3 := List.pairwise_iff_getElem.1 hn i j (by simpa using hi') (by simpa using hj') hij
    rw [List.getElem_map, List.getElem_map] at h3
    exact h3 e

theorem pt_at {ss : List S54} {n i : Nat} (hl : n ≤ ss.length) (hi : i < n) : XI ((ss.take n).map asPt) i = (ss[i]'(by omega)).f0 ∧ YI ((ss.take n).map asPt) i = (ss[i]'(by omega)).f1 := by
  unfold XI YI
  rw [rd41_at (by simp; omega)]
  simp [asPt]

theorem interp_poly {ss : List S54} {n : Nat} (h1 : 1 ≤ n) (h16 : n ≤ 16) (hl : n ≤ ss.length) (hv : ss.all validS = true) (hn : (ss.map (·.f0)).Nodup) {f : F → F} (hf : PF n f)
    (hp : ∀ s ∈ ss.take n, f (toF s.f0) = toF s.f1) {x : Int} (hx : inP x = true) : ∃ y, interpF ((ss.take n).map asPt) x = (y, 0) ∧ inP y = true ∧ toF y = f (toF x) := by
  have g := take_good h1 h16 hl hv hn hx
  have hlen : ((ss.take n).map asPt).length = n := by simp; omega
  refine ⟨_, g.val, inP_ival g, ?_⟩
  refine g.unique (by rw [hlen]; exact hf) (fun i hi => ?_) x
  rw [hlen] at hi
  rw [(pt_at hl hi).1, (pt_at hl hi).2]
  refine hp _ ?_
  rw [List.mem_take_iff_getElem]
  exact ⟨i, by omega, rfl⟩

/-- The shares of one polynomial are joined to its constant. -/
theorem join_poly {ss : List S54} {n : Nat} (h1 : 1 ≤ n) (h16 : n ≤ 16) (hl : n ≤ ss.length) (hv : ss.all validS = true) (hn : (ss.map (·.f0)).Nodup) {f : F → F} (hf : PF n f)
    (hp : ∀ s ∈ ss, f (toF s.f0) = toF s.f1) : ∃ y, joinF ss (n : Int) = (y, 0) ∧ inP y = true ∧ toF y = f 0 := by
  have hi := fun {x : Int} (hx : inP x = true) => interp_poly h1 h16 hl hv hn hf (fun s hs => hp s (List.mem_of_mem_take hs)) hx
  rw [joinF_good h1 h16 hv hn, if_neg (by omega), if_neg]
  · obtain ⟨y, e1, e2, e3⟩ := hi (x := 0) (by decide)
    exact ⟨y, e1, e2, by rw [e3, toF_zero]⟩
  · intro h
    obtain ⟨s, hs, hd⟩ := List.any_eq_true.1 h
    have hs' := List.mem_of_mem_drop hs
    have hsv := validS_iff.1 (List.all_eq_true.1 hv s hs')
    obtain ⟨y, e1, e2, e3⟩ := hi (x := s.f0) (inP_iff.2 (by omega))
    apply of_decide_eq_true hd
    rw [e1, eqP e2 hsv.2.2 (by rw [e3, hp s hs'])]

theorem Sel.valid {p : List Int} {m : Nat} {ss : List S54} (h : Sel p m ss) (hm : m ≤ 16) : ss.all validS = true := by
  rw [List.all_eq_true]
  intro s hs
  obtain ⟨j, hj, rfl⟩ := h.mem s hs
  refine validS_iff.2 ⟨?_, ?_, inP_evI _ _⟩ <;> simp only [shareAt] <;> omega

theorem Sel.poly {p : List Int} {m : Nat} {ss : List S54} (h : Sel p m ss) : ∀ s ∈ ss, ev (p.map toF) (toF s.f0) = toF s.f1 := by
  intro s hs
  obtain ⟨j, hj, rfl⟩ := h.mem s hs
  exact (evI_F _ p).symm

theorem PF.of_list {p : List Int} {n : Nat} (h : p.length = n) : PF n (ev (p.map toF)) := by
  have := PF.ev (p.map toF)
  rwa [List.length_map, h] at this

theorem ev_zero_at (s : Int) (r : List Int) : ev ((s :: r).map toF) 0 = toF s := by
  simp only [List.map_cons, ev]
  grind

theorem Sel.join {s : Int} {r : List Int} {m n : Nat} {ss : List S54} (h : Sel (s :: r) m ss) (hs : inP s = true) (hr : r.length = n - 1) (h1 : 1 ≤ n) (h16 : n ≤ 16) (hm : m ≤ 16) (hl : n ≤ ss.length) :
    joinF ss (n : Int) = (s, 0) := by
  obtain ⟨y, e1, e2, e3⟩ := join_poly h1 h16 hl (h.valid hm) h.nd (PF.of_list (p := s :: r) (by rw [List.length_cons]; omega)) h.poly
  rw [e1, eqP e2 hs (by rw [e3, ev_zero_at])]

end Go.Proofs.Ytpeinbibaceheaa.X
