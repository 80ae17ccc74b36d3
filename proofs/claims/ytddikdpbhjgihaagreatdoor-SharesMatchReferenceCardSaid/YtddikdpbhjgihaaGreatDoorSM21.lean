import Derived.Test.YtddikdpbhjgihaaGreatDoorSM19
import Derived.Test.YtddikdpbhjgihaaGreatDoorSM20
import Derived.Test.YtddikdpbhjgihaaGreatDoorSM16
namespace Go.Proofs.YtddikdpbhjgihaaGreatDoor.X
open Go.RowKit Go.Proofs.YtddikdpbhjgihaaGreatDoorW.PrintWords Go.Proofs.YtddikdpbhjgihaaGreatDoorW.PrintLast
open ObsMer (joined toL half root nodeT leafT emptyT plen up ptexts pairT itoaB Clean)
set_option linter.unusedVariables false
theorem hexd_hex (d : Nat) (h : d < 16) : isHex (UInt8.ofNat (hexd d).toNat) = true := by
  have : d = 0 ∨ d = 1 ∨ d = 2 ∨ d = 3 ∨ d = 4 ∨ d = 5 ∨ d = 6 ∨ d = 7 ∨ d = 8 ∨ d = 9 ∨ d = 10 ∨ d = 11 ∨ d = 12 ∨ d = 13 ∨ d = 14 ∨ d = 15 := by omega
  rcases this with h | h | h | h | h | h | h | h | h | h | h | h | h | h | h | h <;> subst h <;> decide
theorem hexSuf_hex (u : Nat) : ∀ i, (hexSuf u i).all isHex = true
  | 0 => rfl
  | i + 1 => by rw [hexSuf, List.all_cons, hexSuf_hex u i, hexd_hex _ (Nat.mod_lt _ (by decide))]; rfl
theorem sumF_dg (s : ByteArray) : isDg (sumF s) = true := by
  unfold isDg
  rw [decide_eq_true (sumF_size s), Bool.true_and]
  show (toL (sumF s)).all isHex = true
  unfold sumF
  rw [hex16_toL]
  exact hexSuf_hex _ _
theorem length_ref : ∀ (d k n i : Nat), n ≤ d → i < n → n ≤ 1000000 → d + 100 ≤ k → observatoryref02_length.f k (n : Int) (i : Int) = some (plen n i : Int) ∧ plen n i ≤ n := by
  intro d
  induction d with
  | zero => intro k n i h1 h2; omega
  | succ d ih =>
    intro k n i h1 h2 h3 hk
    obtain ⟨k, rfl⟩ : ∃ q, k = q + 1 := ⟨k - 1, by omega⟩
    simp only [observatoryref02_length.f]
    by_cases h0 : n = 1
    · subst h0
      have h1' : ((1 : Nat) : Int) = 1 := rfl
      rw [if_pos h1', ObsMer.plen_one (Nat.le_refl _)]
      exact ⟨rfl, by omega⟩
    · have hl := ObsMer.half_lt (n := n) (by omega)
      have hp := ObsMer.half_pos n
      rw [if_neg (by omega), Half_eq (by omega) (by omega), Option.bind_some]
      by_cases hi : i < half n
      · obtain ⟨g4, g5⟩ := ih k (half n) i (by omega) hi (by omega) (by omega)
        rw [if_pos (by omega), g4, Option.bind_some, ObsMer.plen_lo (n := n) (i := i) (by omega) hi, w64 (by omega) (by omega)]
        exact ⟨congrArg some (by omega), by omega⟩
      · obtain ⟨g4, g5⟩ := ih k (n - half n) (i - half n) (by omega) (by omega) (by omega) (by omega)
        have e2 : wrap64 ((n : Int) - (half n : Int)) = ((n - half n : Nat) : Int) := by rw [w64 (by omega) (by omega)]; omega
        have e3 : wrap64 ((i : Int) - (half n : Int)) = ((i - half n : Nat) : Int) := by rw [w64 (by omega) (by omega)]; omega
        rw [if_neg (by omega), e2, e3, g4, Option.bind_some, ObsMer.plen_hi (n := n) (i := i) (by omega) (by omega), w64 (by omega) (by omega)]
        exact ⟨congrArg some (by omega), by omega⟩
theorem eq_toList (a b : ByteArray) : (a.toList == b.toList) = decide (a = b) := by
  by_cases h : a = b
  · subst h; simp
  · rw [decide_eq_false h]
    exact beq_eq_false_iff_ne.2 (fun e => h (ObsMer.toL_inj (by rw [Go.Lib.toList_data, Go.Lib.toList_data] at e; exact e)))
theorem Check_ref {k : Nat} {rt leaf : ByteArray} {n i : Int} {p : List ByteArray} (hk : 1400000 ≤ k) (hp : p.all isDg = true) (hpl : p.length ≤ 1000000) (hleaf : leaf.size ≤ 1000) : observatoryref02_Check.f k rt n i leaf p = some (chkF rt n i leaf p) := by
  unfold observatoryref02_Check.f
  by_cases h1 : n > 1000000
  · rw [if_pos h1, chk_bad (.inl h1)]
  · rw [if_neg h1]
    by_cases h2 : i < 0
    · rw [if_pos h2, chk_bad (.inr (.inl h2))]
    · rw [if_neg h2]
      by_cases h3 : i ≥ n
      · rw [if_pos h3, chk_bad (.inr (.inr (.inl h3)))]
      · rw [if_neg h3]
        obtain ⟨i, rfl⟩ := Int.eq_ofNat_of_zero_le (show 0 ≤ i by omega)
        obtain ⟨n, rfl⟩ := Int.eq_ofNat_of_zero_le (show 0 ≤ n by omega)
        obtain ⟨g4, g5⟩ := length_ref n k n i (Nat.le_refl _) (by omega) (by omega) (by omega)
        have hc : chkF rt (n : Int) (i : Int) leaf p = (isDg leaf && decide (p.length = plen n i) && decide (up sumF n i leaf p = rt)) := by
          unfold chkF
          rw [hp, decide_eq_true (show (n : Int) ≤ 1000000 by omega), decide_eq_true (show (0 : Int) ≤ (i : Int) by omega), decide_eq_true (show (i : Int) < (n : Int) by omega), Int.toNat_natCast, Int.toNat_natCast]
          simp only [Bool.true_and]
        rw [g4, Option.bind_some, hc]
        by_cases h5 : p.length = plen n i
        · rw [if_pos (by omega), digests_eq (by omega) (fun s hs => by rw [isDg_size (List.all_eq_true.1 hp s hs)]; omega) (by omega), Option.bind_some, hp, if_pos rfl, Is_eq (by omega) (by omega), Option.bind_some]
          cases hi : isDg leaf with
          | false => rw [if_neg (by simp)]; rfl
          | true =>
            obtain ⟨g1, _⟩ := up_ref leaf hleaf n k n i p (Nat.le_refl _) (by omega) (by omega) hp h5 hpl (by omega)
            rw [if_pos rfl, g1, Option.bind_some, eq_toList, decide_eq_true h5]
            rfl
        · rw [if_neg (by omega), decide_eq_false h5]
          simp
theorem itoaB_size {a : Int} (h0 : -9223372036854775808 ≤ a) (h1 : a ≤ 9223372036854775807) : (itoaB a).size ≤ 21 := by
  rw [← ObsMer.toL_length]
  exact Go.Lib.itoa_length_le a h0 h1
theorem pairT_size {x y : Int} (hx0 : -9223372036854775808 ≤ x) (hx1 : x ≤ 9223372036854775807) (hy0 : -9223372036854775808 ≤ y) (hy1 : y ≤ 9223372036854775807) : (pairT x y).size ≤ 43 := by
  have := itoaB_size hx0 hx1
  have := itoaB_size hy0 hy1
  unfold pairT
  rw [ByteArray.size_append, ByteArray.size_append]
  show _ + 1 + _ ≤ 43
  omega
theorem text_eq {x y : Int} (hx0 : -9223372036854775808 ≤ x) (hx1 : x ≤ 9223372036854775807) (hy0 : -9223372036854775808 ≤ y) (hy1 : y ≤ 9223372036854775807) : shares_text.f x y = some (pairT x y) := by
  have h1 := itoaB_size hx0 hx1
  have h2 := itoaB_size hy0 hy1
  have e1 : strconv_Itoa.f x = some (itoaB x) := by unfold strconv_Itoa.f; rw [if_pos ⟨hx0, hx1⟩]; rfl
  have e2 : strconv_Itoa.f y = some (itoaB y) := by unfold strconv_Itoa.f; rw [if_pos ⟨hy0, hy1⟩]; rfl
  unfold shares_text.f
  rw [e1, Option.bind_some, if_pos (by omega), e2, Option.bind_some, if_pos (by rw [ByteArray.size_append]; have : (⟨#[32]⟩ : ByteArray).size = 1 := rfl; omega)]
  rfl
theorem Text_ref {k : Nat} {x y : Int} (hk : 21 ≤ k) (hx0 : -9223372036854775808 ≤ x) (hx1 : x ≤ 9223372036854775807) (hy0 : -9223372036854775808 ≤ y) (hy1 : y ≤ 9223372036854775807) : observatoryref07_Text.f k x y = some (pairT x y) := by
  have h1 := itoaB_size hx0 hx1
  have h2 := itoaB_size hy0 hy1
  unfold observatoryref07_Text.f
  rw [Dec_eq hk hx0 hx1, Option.bind_some, if_pos (by omega), Dec_eq hk hy0 hy1, Option.bind_some, if_pos (by rw [ByteArray.size_append]; have : (⟨#[32]⟩ : ByteArray).size = 1 := rfl; omega)]
  rfl
def leafOf (s : S25) : ByteArray := sumF (leafT (pairT s.f0 s.f1))
def inR (s : S25) : Prop := (-9223372036854775808 ≤ s.f0 ∧ s.f0 ≤ 9223372036854775807) ∧ -9223372036854775808 ≤ s.f1 ∧ s.f1 ≤ 9223372036854775807
theorem Leaves_l0 (l : List S25) (hl : l.length ≤ 1000) (hr : ∀ s ∈ l, inR s) : ∀ (d k i : Nat), i + d = l.length → d + 300001 ≤ k → observatoryref07_Leaves.l0 k l ((l.take i).map leafOf) (i : Int) = some (l.map leafOf) := by
  intro d
  induction d with
  | zero =>
    intro k i h1 hk
    obtain ⟨k, rfl⟩ : ∃ q, k = q + 1 := ⟨k - 1, by omega⟩
    simp only [observatoryref07_Leaves.l0]
    rw [if_neg (by omega), List.take_of_length_le (by omega)]
  | succ d ih =>
    intro k i h1 hk
    obtain ⟨k, rfl⟩ : ∃ q, k = q + 1 := ⟨k - 1, by omega⟩
    have hi : i < l.length := by omega
    have hs := hr _ (List.getElem_mem hi)
    simp only [observatoryref07_Leaves.l0]
    rw [if_pos (by omega), if_pos (by omega), rd54_at hi, Text_ref (by omega) hs.1.1 hs.1.2 hs.2.1 hs.2.2, Option.bind_some, Leaf_ref (by have := pairT_size hs.1.1 hs.1.2 hs.2.1 hs.2.2; omega) (by omega), Option.bind_some, if_pos (by simp; omega), w_succ (by omega)]
    have := ih k (i + 1) (by omega) (by omega)
    rw [List.take_succ_eq_append_getElem hi, List.map_append] at this
    exact this
theorem Leaves_ref {k : Nat} {l : List S25} (hl : l.length ≤ 1000) (hr : ∀ s ∈ l, inR s) (hk : 302000 ≤ k) : observatoryref07_Leaves.f k l = some (l.map leafOf) :=
  Leaves_l0 l hl hr l.length k 0 (by omega) (by omega)
theorem leaves_dg (l : List S25) : (l.map leafOf).all isDg = true := by
  rw [List.all_eq_true]
  intro s hs
  obtain ⟨x, _, rfl⟩ := List.mem_map.1 hs
  exact sumF_dg _
theorem tRoot_eq {l : List ByteArray} (hd : l.all isDg = true) (hl : l.length ≤ 1000000) : tree_Root.f l = some (root sumF l, 0) := by
  unfold tree_Root.f tree_digests_proper.f tree_total.f
  rw [Option.bind_some, hd, if_pos rfl, if_pos (okB_dg hd hl), Option.bind_some]
theorem sRoot_l0 (l : List S25) (hl : l.length ≤ 16) (hv : l.all validS = true) : ∀ (d k i : Nat), i + d = l.length → d < k → shares_Root.l0 k ((l.take i).map leafOf) l (l.length : Int) (i : Int) = some (root sumF (l.map leafOf), 0) := by
  intro d
  induction d with
  | zero =>
    intro k i h1 hk
    obtain ⟨k, rfl⟩ : ∃ q, k = q + 1 := ⟨k - 1, by omega⟩
    simp only [shares_Root.l0]
    rw [if_neg (by omega), List.take_of_length_le (by omega), tRoot_eq (leaves_dg l) (by simp; omega), Option.bind_some]
  | succ d ih =>
    intro k i h1 hk
    obtain ⟨k, rfl⟩ : ∃ q, k = q + 1 := ⟨k - 1, by omega⟩
    have hi : i < l.length := by omega
    have hs := List.all_eq_true.1 hv _ (List.getElem_mem hi)
    have hs2 := validS_iff.1 hs
    have hs3 := inP_iff.1 hs2.2.2
    simp only [shares_Root.l0]
    rw [if_pos (by omega), if_pos (by omega), if_pos (by omega), rd54_at hi, valid_eq, Option.bind_some, hs, if_pos rfl, text_eq (by omega) (by omega) (by omega) (by omega), Option.bind_some, tLeaf (by have := pairT_size (x := l[i].f0) (y := l[i].f1) (by omega) (by omega) (by omega) (by omega); omega), Option.bind_some, if_pos (by simp; omega), w_succ (by omega)]
    have := ih k (i + 1) (by omega) (by omega)
    rw [List.take_succ_eq_append_getElem hi, List.map_append] at this
    exact this
theorem sRoot_eq {k : Nat} {l : List S25} (h1 : 1 ≤ l.length) (hl : l.length ≤ 16) (hv : l.all validS = true) (hk : 20 ≤ k) : shares_Root.f k l = some (root sumF (l.map leafOf), 0) := by
  obtain ⟨k, rfl⟩ : ∃ q, k = q + 1 := ⟨k - 1, by omega⟩
  unfold shares_Root.f
  rw [if_neg (by omega), decide_eq_false (by omega)]
  simp only [shares_Root.j0]
  rw [if_neg (by simp)]
  exact sRoot_l0 l hl hv l.length k 0 (by omega) (by omega)
def sChk (rt : ByteArray) (m x y : Int) (p : List ByteArray) : Bool :=
  decide (1 ≤ m) && decide (m ≤ 16) && validS ⟨x, y⟩ && decide (x ≤ m) && chkF rt m (x - 1) (sumF (leafT (pairT x y))) p
theorem sCheck_eq {k : Nat} {rt : ByteArray} {m x y : Int} {p : List ByteArray} (hk : 2 ≤ k) (hp : p.length ≤ 1000000) : shares_Check.f k rt m x y p = some (sChk rt m x y p) := by
  obtain ⟨k, rfl⟩ : ∃ q, k = q + 1 := ⟨k - 1, by omega⟩
  unfold shares_Check.f sChk
  simp only [shares_Check.j0]
  by_cases h1 : m < 1
  · rw [if_pos h1, if_pos trivial, decide_eq_false (by omega : ¬ 1 ≤ m)]; rfl
  · rw [if_neg h1, decide_eq_true (by omega : 1 ≤ m)]
    by_cases h2 : m > 16
    · rw [if_pos h2, if_pos trivial, decide_eq_false (by omega : ¬ m ≤ 16)]; rfl
    · rw [if_neg h2, decide_eq_true (by omega : m ≤ 16)]
      have hv := valid_eq ⟨x, y⟩
      simp only at hv
      rw [hv, Option.bind_some]
      cases h3 : validS ⟨x, y⟩ with
      | false => rw [if_neg (by simp), if_pos trivial]; rfl
      | true =>
        have hs2 := validS_iff.1 h3
        have hs3 := inP_iff.1 hs2.2.2
        simp only at hs2 hs3
        rw [if_pos rfl]
        by_cases h4 : x > m
        · rw [decide_eq_true h4, if_pos rfl, decide_eq_false (by omega : ¬ x ≤ m)]; rfl
        · rw [decide_eq_false h4, if_neg (by simp), decide_eq_true (by omega : x ≤ m), text_eq (by omega) (by omega) (by omega) (by omega), Option.bind_some, tLeaf (by have := pairT_size (x := x) (y := y) (by omega) (by omega) (by omega) (by omega); omega), Option.bind_some, w64 (by omega) (by omega)]
          unfold tree_Check.f
          rw [if_pos hp, Option.bind_some]
          rfl
theorem Valid_ref (x y : Int) : observatoryref07_Valid.f x y = some (validS ⟨x, y⟩) := by
  have h1 := valid_eq ⟨x, y⟩
  have h2 : observatoryref07_Valid.f x y = shares_valid.f x y := by
    unfold observatoryref07_Valid.f shares_valid.f observatoryref07_Element.f shares_element.f
    rfl
  rw [h2]; exact h1
end Go.Proofs.YtddikdpbhjgihaaGreatDoor.X
