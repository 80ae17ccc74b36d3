import Derived.Test.YtddikdpbhjgihaaGreatDoorSC23
import Derived.Test.YtddikdpbhjgihaaGreatDoorSC18
import Derived.Test.YtddikdpbhjgihaaGreatDoorSC22
section
namespace Go.Proofs.YtddikdpbhjgihaaGreatDoor.X
open Go.RowKit Go.Proofs.YtddikdpbhjgihaaGreatDoorW.PrintWords Go.Proofs.YtddikdpbhjgihaaGreatDoorW.PrintLast
open ObsMer (joined toL half root nodeT leafT emptyT plen up texts ptexts pairT itoaB)
set_option linter.unusedVariables false
theorem leafJ {s : ByteArray} (hs : s.size ≤ 1000) : observatoryref01_Joined.f [⟨#[108, 101, 97, 102]⟩, s] = some (leafT s) :=
  Joined_ok (by simp [jn]; have : (⟨#[108, 101, 97, 102]⟩ : ByteArray).size = 4 := rfl; omega)
def leafTx (s : S25) : ByteArray := leafT (pairT s.f0 s.f1)
theorem leafT_size {s : ByteArray} (hs : s.size ≤ 1000) : (leafT s).size ≤ 100000 := by
  have := joined_size [⟨#[108, 101, 97, 102]⟩, s] (by
    intro x hx
    simp only [List.mem_cons, List.not_mem_nil, or_false] at hx
    rcases hx with rfl | rfl
    · decide
    · exact hs)
  simp only [List.length_cons, List.length_nil] at this
  show (joined _).size ≤ _
  omega
theorem nodeT_size {a b : ByteArray} (ha : a.size ≤ 1000) (hb : b.size ≤ 1000) : (nodeT a b).size ≤ 100000 := by
  have := joined_size [⟨#[110, 111, 100, 101]⟩, a, b] (by
    intro x hx
    simp only [List.mem_cons, List.not_mem_nil, or_false] at hx
    rcases hx with rfl | rfl | rfl
    · decide
    · exact ha
    · exact hb)
  simp only [List.length_cons, List.length_nil] at this
  show (joined _).size ≤ _
  omega
theorem texts_size : ∀ (d : Nat) (l : List ByteArray), l.length ≤ d → okB l = true → ∀ s ∈ texts sumF l, s.size ≤ 100000 := by
  intro d
  induction d with
  | zero =>
    intro l h1 h2 s hs
    obtain rfl : l = [] := List.eq_nil_of_length_eq_zero (by omega)
    rw [texts_nil', List.mem_singleton] at hs
    rw [hs]; decide +kernel
  | succ d ih =>
    intro l h1 h2 s hs
    by_cases h0 : l.length = 0
    · obtain rfl : l = [] := List.eq_nil_of_length_eq_zero h0
      rw [texts_nil', List.mem_singleton] at hs
      rw [hs]; decide +kernel
    · by_cases h3 : l.length = 1
      · rw [ObsMer.texts_one sumF h3] at hs; cases hs
      · have hl := ObsMer.half_lt (n := l.length) (by omega)
        have hp := ObsMer.half_pos l.length
        rw [ObsMer.texts_two sumF (l := l) (by omega)] at hs
        rcases List.mem_append.1 hs with hs | hs
        · rcases List.mem_append.1 hs with hs | hs
          · exact ih _ (by rw [List.length_take]; omega) (okB_take h2 _) s hs
          · exact ih _ (by rw [List.length_drop]; omega) (okB_drop h2 _) s hs
        · rw [List.mem_singleton] at hs
          rw [hs]
          exact nodeT_size (root_size (okB_take h2 _) (by rw [List.length_take]; omega)) (root_size (okB_drop h2 _) (by rw [List.length_drop]; omega))
theorem ptexts_size (leaf : ByteArray) (hleaf : leaf.size ≤ 1000) : ∀ (d n i : Nat) (p : List ByteArray), n ≤ d → p.all isDg = true → ∀ s ∈ ptexts sumF n i leaf p, s.size ≤ 100000 := by
  intro d
  induction d with
  | zero => intro n i p h1 h2 s hs; rw [ObsMer.ptexts_one sumF (by omega)] at hs; cases hs
  | succ d ih =>
    intro n i p h1 h2 s hs
    by_cases h0 : n ≤ 1
    · rw [ObsMer.ptexts_one sumF h0] at hs; cases hs
    · have hl := ObsMer.half_lt (n := n) (by omega)
      have hp := ObsMer.half_pos n
      by_cases hi : i < half n
      · rw [ObsMer.ptexts_lo sumF (n := n) (i := i) (by omega) hi] at hs
        rcases List.mem_append.1 hs with hs | hs
        · exact ih _ _ _ (by omega) (dl_dg h2) s hs
        · rw [List.mem_singleton] at hs
          rw [hs]; exact nodeT_size (up_size hleaf _ _ _) (last_size h2)
      · rw [ObsMer.ptexts_hi sumF (n := n) (i := i) (by omega) (by omega)] at hs
        rcases List.mem_append.1 hs with hs | hs
        · exact ih _ _ _ (by omega) (dl_dg h2) s hs
        · rw [List.mem_singleton] at hs
          rw [hs]; exact nodeT_size (last_size h2) (up_size hleaf _ _ _)
theorem path_dg : ∀ (d : Nat) (l : List ByteArray) (i : Nat), l.length ≤ d → l.all isDg = true → (ObsMer.path sumF l i).all isDg = true ∧ (ObsMer.path sumF l i).length ≤ d := by
  intro d
  induction d with
  | zero => intro l i h1 h2; rw [ObsMer.path_one sumF (by omega)]; exact ⟨rfl, by simp⟩
  | succ d ih =>
    intro l i h1 h2
    by_cases h0 : l.length ≤ 1
    · rw [ObsMer.path_one sumF h0]; exact ⟨rfl, by simp⟩
    · have hl := ObsMer.half_lt (n := l.length) (by omega)
      have hp := ObsMer.half_pos l.length
      have rd : ∀ m : List ByteArray, 1 ≤ m.length → m.all isDg = true → isDg (root sumF m) = true := by
        intro m hm hd
        by_cases h2 : m.length = 1
        · match m, h2 with
          | [a], _ => rw [ObsMer.root_one]; simpa using hd
        · rw [ObsMer.root_two sumF (l := m) (by omega)]; exact sumF_dg _
      have tk : ∀ k, (l.take k).all isDg = true := fun k => by
        rw [List.all_eq_true]; intro s hs; exact List.all_eq_true.1 h2 s (List.mem_of_mem_take hs)
      have dr : ∀ k, (l.drop k).all isDg = true := fun k => by
        rw [List.all_eq_true]; intro s hs; exact List.all_eq_true.1 h2 s (List.mem_of_mem_drop hs)
      by_cases hi : i < half l.length
      · have := ih (l.take (half l.length)) i (by rw [List.length_take]; omega) (tk _)
        rw [ObsMer.path_lo sumF (l := l) (i := i) (by omega) hi, List.all_append, this.1]
        refine ⟨?_, by rw [List.length_append]; simp; omega⟩
        rw [List.all_cons, rd _ (by rw [List.length_drop]; omega) (dr _)]; rfl
      · have := ih (l.drop (half l.length)) (i - half l.length) (by rw [List.length_drop]; omega) (dr _)
        rw [ObsMer.path_hi sumF (l := l) (i := i) (by omega) (by omega), List.all_append, this.1]
        refine ⟨?_, by rw [List.length_append]; simp; omega⟩
        rw [List.all_cons, rd _ (by rw [List.length_take]; omega) (tk _)]; rfl
theorem commit_sound {l : List S25} {m : Nat} (hm : l.length = m) (hx : ∀ i (h : i < l.length), l[i].f0 = (i : Int) + 1) {x y : Int} {p : List ByteArray} (h1 : 1 ≤ x) (h2 : x ≤ (m : Int))
    (hup : up sumF m (x - 1).toNat (sumF (leafT (pairT x y))) p = root sumF (l.map leafOf))
    (hc : ObsMer.Clean sumF (l.map leafTx ++ texts sumF (l.map leafOf) ++ [leafT (pairT x y)] ++ ptexts sumF m (x - 1).toNat (sumF (leafT (pairT x y))) p)) :
    ∃ h : (x - 1).toNat < l.length, l[(x - 1).toNat].f0 = x ∧ l[(x - 1).toNat].f1 = y := by
  have hi : (x - 1).toNat < l.length := by omega
  refine ⟨hi, ?_⟩
  have hml : (l.map leafOf).length = m := by rw [List.length_map, hm]
  have key := ObsMer.up_sound sumF (l.map leafOf).length (l.map leafOf) (x - 1).toNat (sumF (leafT (pairT x y))) p (Nat.le_refl _) (by rw [List.length_map]; exact hi) (by rw [hml]; exact hup) (by
    rw [hml]
    refine hc.sub sumF fun s hs => ?_
    rcases List.mem_append.1 hs with hs | hs
    · exact List.mem_append_left _ (List.mem_append_left _ (List.mem_append_right _ hs))
    · exact List.mem_append_right _ hs)
  rw [List.getD_eq_getElem?_getD, List.getElem?_map, List.getElem?_eq_getElem hi] at key
  have key2 : sumF (leafT (pairT x y)) = sumF (leafTx l[(x - 1).toNat]) := key
  have e := hc _ (by simp) (leafTx l[(x - 1).toNat]) (by
    refine List.mem_append_left _ (List.mem_append_left _ (List.mem_append_left _ ?_))
    exact List.mem_map.2 ⟨_, List.getElem_mem hi, rfl⟩) key2
  have := ObsMer.pairT_inj (ObsMer.leafT_inj e)
  exact ⟨this.1.symm, this.2.symm⟩
end Go.Proofs.YtddikdpbhjgihaaGreatDoor.X
end
section
namespace Go.Proofs.YtddikdpbhjgihaaGreatDoor.X
open Go.RowKit Go.Proofs.YtddikdpbhjgihaaGreatDoorW.PrintWords
open ObsMer (joined toL half root nodeT leafT emptyT plen up texts ptexts pairT itoaB)
set_option linter.unusedVariables false
theorem sc_j4 {k : Nat} {m : Nat} {x y : Int} {p acc : List ByteArray} (hk : 1500000 ≤ k) (hm : 1 ≤ m) (hm16 : m ≤ 16) (hx1 : 1 ≤ x) (hx2 : x ≤ (m : Int)) (hy : inP y = true) (hp : p.all isDg = true) (hpl : p.length = plen m (x - 1).toNat) (hp16 : p.length ≤ 1000)
    (ha : acc.length ≤ 100) (has : ∀ s ∈ acc, s.size ≤ 100000)
    (hbad : ¬ ObsMer.Clean sumF (acc ++ ptexts sumF m (x - 1).toNat (sumF (leafT (pairT x y))) p)) :
    observatorylaw07_SharesCommit.j4 k true (m : Int) p acc false x y = some true := by
  obtain ⟨k, rfl⟩ : ∃ q, k = q + 1 := ⟨k - 1, by omega⟩
  have hy2 := inP_iff.1 hy
  have e1 : wrap64 (x - 1) = ((x - 1).toNat : Int) := by rw [w64 (by omega) (by omega)]; omega
  have hz : (sumF (leafT (pairT x y))).size ≤ 1000 := by rw [sumF_size]; omega
  have hps := pairT_size (x := x) (y := y) (by omega) (by omega) (by omega) (by omega)
  obtain ⟨_, g2, g3, _, _⟩ := up_ref _ hz m k m (x - 1).toNat p (Nat.le_refl _) (by omega) (by omega) hp hpl (by omega) (by omega)
  have hsz := ptexts_size (sumF (leafT (pairT x y))) hz m m (x - 1).toNat p (Nat.le_refl _) hp
  simp only [observatorylaw07_SharesCommit.j4]
  rw [if_neg (by simp), Text_ref (by omega) (by omega) (by omega) (by omega) (by omega), Option.bind_some, Leaf_ref (by omega) (by omega), Option.bind_some, e1, g2, Option.bind_some, if_pos (by omega), if_pos trivial]
  obtain ⟨b, e, h⟩ := Shown_ref (acc ++ ptexts sumF m (x - 1).toNat (sumF (leafT (pairT x y))) p) (by rw [List.length_append]; omega) (fun s hs => by
    rcases List.mem_append.1 hs with hs | hs
    · exact has s hs
    · exact hsz s hs) k (by
      rw [List.length_append]
      have h1 : acc.length + (ptexts sumF m (x - 1).toNat (sumF (leafT (pairT x y))) p).length ≤ 116 := by omega
      have h2 := Nat.mul_le_mul h1 (Nat.add_le_add_right h1 3)
      omega)
  rw [e, Option.bind_some]
  cases b with
  | true => rfl
  | false => exact absurd (h rfl) hbad
theorem sc_l0 {m : Nat} {l : List S25} {rt : ByteArray} {x y : Int} {p : List ByteArray} (hlm : l.length = m) (hv : l.all validS = true) (hm : 1 ≤ m) (hm16 : m ≤ 16) (hx1 : 1 ≤ x) (hx2 : x ≤ (m : Int)) (hy : inP y = true) (hp : p.all isDg = true) (hpl : p.length = plen m (x - 1).toNat) (hp16 : p.length ≤ 1000)
    (hck : sChk rt (m : Int) x y p = true)
    (hbad : ¬ ObsMer.Clean sumF (l.map leafTx ++ texts sumF (l.map leafOf) ++ [leafT (pairT x y)] ++ ptexts sumF m (x - 1).toNat (sumF (leafT (pairT x y))) p)) :
    ∀ (d k i : Nat), i + d = m → 1600000 + d ≤ k → observatorylaw07_SharesCommit.l0 k true (m : Int) l rt (l.map leafOf) p ((l.take i).map leafTx) (i : Int) x y = some true := by
  have hy2 := inP_iff.1 hy
  intro d
  induction d with
  | zero =>
    intro k i h1 hk
    obtain ⟨k, rfl⟩ : ∃ q, k = q + 1 := ⟨k - 1, by omega⟩
    have hok : okB (l.map leafOf) = true := okB_dg (leaves_dg l) (by simp; omega)
    obtain ⟨g1, g2⟩ := Texts_ref 16 k (l.map leafOf) (by simp; omega) hok (by omega)
    have g3 := g2 (by simp; omega)
    have g4 := texts_size 16 (l.map leafOf) (by simp; omega) hok
    have hps := pairT_size (x := x) (y := y) (by omega) (by omega) (by omega) (by omega)
    rw [List.length_map] at g3
    simp only [observatorylaw07_SharesCommit.l0]
    rw [if_neg (by omega), g1, Option.bind_some, List.take_of_length_le (by omega), if_pos (by simp; omega), Option.bind_some, Text_ref (by omega) (by omega) (by omega) (by omega) (by omega), Option.bind_some, leafJ (by omega), Option.bind_some, if_pos (by simp; omega), Option.bind_some, if_neg (by omega), if_neg (by omega), rCheck_eq (by omega) (by omega) hp, Option.bind_some, hck]
    refine sc_j4 (by omega) hm hm16 hx1 hx2 hy hp hpl hp16 (by simp; omega) (fun s hs => ?_) hbad
    rcases List.mem_append.1 hs with hs | hs
    · rcases List.mem_append.1 hs with hs | hs
      · obtain ⟨z, hz, rfl⟩ := List.mem_map.1 hs
        have h2 := validS_iff.1 (List.all_eq_true.1 hv z hz)
        have h3 := inP_iff.1 h2.2.2
        exact leafT_size (by have := pairT_size (x := z.f0) (y := z.f1) (by omega) (by omega) (by omega) (by omega); omega)
      · exact g4 s hs
    · rw [List.mem_singleton] at hs
      rw [hs]; exact leafT_size (by omega)
  | succ d ih =>
    intro k i h1 hk
    obtain ⟨k, rfl⟩ : ∃ q, k = q + 1 := ⟨k - 1, by omega⟩
    have hi : i < l.length := by omega
    have h2 := validS_iff.1 (List.all_eq_true.1 hv _ (List.getElem_mem hi))
    have h3 := inP_iff.1 h2.2.2
    have hps := pairT_size (x := l[i].f0) (y := l[i].f1) (by omega) (by omega) (by omega) (by omega)
    simp only [observatorylaw07_SharesCommit.l0]
    rw [if_pos (by omega), if_pos (by omega), if_pos (by omega), rd54_at hi, Text_ref (by omega) (by omega) (by omega) (by omega) (by omega), Option.bind_some, leafJ (by omega), Option.bind_some, if_pos (by simp; omega), w_succ (by omega)]
    have := ih k (i + 1) (by omega) (by omega)
    rw [List.take_succ_eq_append_getElem hi, List.map_append] at this
    exact this
theorem sc_j1 {m : Nat} {l : List S25} {x y : Int} {p : List ByteArray} {k : Nat} (hk : 1700000 ≤ k) (hlm : l.length = m) (hv : l.all validS = true) (hx : ∀ i (h : i < l.length), l[i].f0 = (i : Int) + 1) (hm : 1 ≤ m) (hm16 : m ≤ 16) (hp : p.all isDg = true) (hp16 : p.length ≤ 1000) :
    observatorylaw07_SharesCommit.j1 k true (m : Int) l (root sumF (l.map leafOf)) (l.map leafOf) p false x y = some true := by
  obtain ⟨k, rfl⟩ : ∃ q, k = q + 1 := ⟨k - 1, by omega⟩
  obtain ⟨k, rfl⟩ : ∃ q, k = q + 1 := ⟨k - 1, by omega⟩
  simp only [observatorylaw07_SharesCommit.j1]
  rw [if_neg (by decide), sCheck_eq (by omega) (by omega), Option.bind_some]
  by_cases hc : sChk (root sumF (l.map leafOf)) (m : Int) x y p = true
  · have hc0 := hc
    unfold sChk chkF at hc
    simp only [Bool.and_eq_true, decide_eq_true_eq] at hc
    obtain ⟨⟨⟨⟨_, _⟩, hvs⟩, hxm⟩, ⟨⟨⟨⟨⟨_, _⟩, _⟩, _⟩, _⟩, hpl⟩, hup⟩ := hc
    have h2 := validS_iff.1 hvs
    have h2a : 1 ≤ x := h2.1
    have h2b : inP y = true := h2.2.2
    rw [Int.toNat_natCast] at hpl hup
    have e1 : wrap64 (x - 1) = ((x - 1).toNat : Int) := by rw [w64 (by omega) (by omega)]; omega
    have hi : (x - 1).toNat < l.length := by omega
    rw [if_pos hc0, if_pos (by omega), if_pos hxm, e1, if_pos (by omega), if_pos (by omega), rd54_at hi]
    simp only [observatorylaw07_SharesCommit.j2]
    by_cases he : x = l[(x - 1).toNat].f0 ∧ y = l[(x - 1).toNat].f1
    · rw [if_pos (by rw [Bool.and_eq_true, beq_iff_eq, beq_iff_eq]; exact he)]
    · rw [if_neg (by rw [Bool.and_eq_true, beq_iff_eq, beq_iff_eq]; exact he)]
      have := sc_l0 (rt := root sumF (l.map leafOf)) hlm hv hm hm16 h2a hxm h2b hp hpl hp16 hc0 (fun hcl => by
        obtain ⟨_, e2, e3⟩ := commit_sound hlm hx h2a hxm hup hcl
        exact he ⟨e2.symm, e3.symm⟩) m k 0 (by omega) (by omega)
      exact this
  · rw [if_neg hc]
    simp only [observatorylaw07_SharesCommit.j2]
    rw [if_pos trivial]
end Go.Proofs.YtddikdpbhjgihaaGreatDoor.X
namespace Go.Proofs.YtddikdpbhjgihaaGreatDoor.Pure
set_option linter.unusedVariables false
open Go.RowKit Go.Proofs.YtddikdpbhjgihaaGreatDoor.X Go.Proofs.YtddikdpbhjgihaaGreatDoorW.PrintWords
open ObsMer (root plen up pairT leafT)
theorem SharesCommit (a0 : Int) (z1 : List Int) (a2 : Int) (a3 : Int) (a4 : Int) (z5 : S25) (h0 : (Lit.int .i64 a0).wf = true) (h1 : (fun l => l.length ≤ maxLen ∧ ∀ a ∈ l, (fun n => (Lit.int .i64 n).wf = true) a) z1) (h2 : (Lit.int .u8 a2).wf = true) (h3 : (Lit.int .u8 a3).wf = true) (h4 : (Lit.int .u8 a4).wf = true) (h5 : ok25 z5) : ∃ k, observatorylaw07_SharesCommit.f k a0 z1 a2 a3 a4 z5.f0 z5.f1 = some true := by
  simp only [Lit.wf, Bool.and_eq_true, decide_eq_true_eq] at h2 h3 h4
  have b2 : 0 ≤ a2 ∧ a2 ≤ 255 := h2
  have b3 : 0 ≤ a3 ∧ a3 ≤ 255 := h3
  have b4 : 0 ≤ a4 ∧ a4 ≤ 255 := h4
  have hn := nOf_range a2
  have hm := mOf_range a2 a3
  have hol := outL_length z1 (nOf a2 - 1)
  have ho := outL_inP z1 (nOf a2 - 1) (by omega)
  have hsl := shareList_length (a0 % 2147483647 :: outL z1 (nOf a2 - 1)) (mOf a2 a3)
  refine ⟨2000000, ?_⟩
  unfold observatorylaw07_SharesCommit.f
  rw [made_eq (k := 2000000) z1 (by omega) b2.1 (by omega) b3.1 (by omega)]
  simp only [observatorylaw07_head.f, Option.bind_some, elem7_eq, shares_Split.f]
  rw [split_ok hn.1 hm.1 (by omega) hol (inP_mod _) ho]
  have hg : ∀ i (h : i < (shareList (a0 % 2147483647 :: outL z1 (nOf a2 - 1)) (mOf a2 a3)).length), (shareList (a0 % 2147483647 :: outL z1 (nOf a2 - 1)) (mOf a2 a3))[i] = shareAt (a0 % 2147483647 :: outL z1 (nOf a2 - 1)) i := fun i h =>
    shareList_get _ (by rw [hsl] at h; exact h)
  have hv : (shareList (a0 % 2147483647 :: outL z1 (nOf a2 - 1)) (mOf a2 a3)).all validS = true := by
    rw [List.all_eq_true]
    intro s hs
    obtain ⟨i, hi, rfl⟩ := List.getElem_of_mem hs
    rw [hg i hi]
    rw [hsl] at hi
    refine validS_iff.2 ⟨?_, ?_, inP_evI _ _⟩ <;> simp only [shareAt] <;> omega
  have hx : ∀ i (h : i < (shareList (a0 % 2147483647 :: outL z1 (nOf a2 - 1)) (mOf a2 a3)).length), (shareList (a0 % 2147483647 :: outL z1 (nOf a2 - 1)) (mOf a2 a3))[i].f0 = (i : Int) + 1 := fun i h => by
    rw [hg i h]; rfl
  generalize shareList (a0 % 2147483647 :: outL z1 (nOf a2 - 1)) (mOf a2 a3) = l at hsl hg hv hx ⊢
  generalize mOf a2 a3 = m at hm hsl ⊢
  clear hg hol ho
  have hir : ∀ s ∈ l, inR s := fun s hs => by
    have h2 := validS_iff.1 (List.all_eq_true.1 hv s hs)
    have h3 := inP_iff.1 h2.2.2
    exact ⟨⟨by omega, by omega⟩, by omega, by omega⟩
  rw [sRoot_eq (by omega) (by omega) hv (by omega)]
  simp only [Option.bind_some, if_true]
  have e0 : ((l.length : Int) != (m : Int)) = false := by rw [hsl]; simp
  rw [e0]
  obtain ⟨k, hk⟩ : ∃ q, 2000000 = q + 1 := ⟨1999999, rfl⟩
  rw [hk]
  simp only [observatorylaw07_SharesCommit.j0]
  have e4 : Int.tmod (wrap64 a4) (m : Int) = ((a4.toNat % m : Nat) : Int) := by
    rw [w64 (by omega) (by omega), tm _ b4.1]
    have : a4 = (a4.toNat : Int) := by omega
    rw [this]
    simp
  have hkm : a4.toNat % m < m := Nat.mod_lt _ (by omega)
  generalize a4.toNat % m = j at e4 hkm
  have hjl : j < l.length := by omega
  rw [if_neg (by decide), if_neg (by omega), Leaves_ref (by omega) hir (by omega), Option.bind_some, e4]
  have hdg := leaves_dg l
  have hll : (l.map leafOf).length = m := by rw [List.length_map, hsl]
  have hpd := path_dg (l.map leafOf).length (l.map leafOf) j (Nat.le_refl _) hdg
  have hpp : tree_Path.f (l.map leafOf) (j : Int) = some (ObsMer.path sumF (l.map leafOf) j, 0) := by
    unfold tree_Path.f pathR
    rw [if_pos (by omega), if_pos ⟨hdg, by omega, by omega⟩, Int.toNat_natCast]
  have hplen := ObsMer.path_length sumF m (l.map leafOf) j (by omega) (by omega)
  have hupp := ObsMer.up_path sumF m (l.map leafOf) j (by omega) (by omega)
  rw [hll] at hplen hupp
  rw [hpp, Option.bind_some, if_pos (show (ObsMer.path sumF (l.map leafOf) j, (0 : Int)).2 = 0 from rfl)]
  dsimp only
  rw [if_pos (by omega), if_pos (by omega), rd54_at hjl, sCheck_eq (by omega) (by omega), Option.bind_some]
  have hj0 := hx j hjl
  have hvj := List.all_eq_true.1 hv _ (List.getElem_mem hjl)
  have hck : sChk (root sumF (l.map leafOf)) (m : Int) l[j].f0 l[j].f1 (ObsMer.path sumF (l.map leafOf) j) = true := by
    unfold sChk chkF
    have e6 : l[j].f0 - 1 = (j : Int) := by omega
    rw [e6, Int.toNat_natCast, Int.toNat_natCast]
    simp only [Bool.and_eq_true, decide_eq_true_eq]
    have hup2 : up sumF m j (sumF (leafT (pairT l[j].f0 l[j].f1))) (ObsMer.path sumF (l.map leafOf) j) = root sumF (l.map leafOf) := by
      rw [List.getD_eq_getElem?_getD, List.getElem?_map, List.getElem?_eq_getElem hjl] at hupp
      exact hupp
    exact ⟨⟨⟨⟨by omega, by omega⟩, hvj⟩, by omega⟩, ⟨⟨⟨⟨⟨by omega, by omega⟩, by omega⟩, hpd.1⟩, sumF_dg _⟩, hplen⟩, hup2⟩
  rw [hck]
  exact sc_j1 (by omega) hsl hv hx (by omega) (by omega) hpd.1 (by omega)
end Go.Proofs.YtddikdpbhjgihaaGreatDoor.Pure
end
