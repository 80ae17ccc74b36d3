import Derived.Test.YtpeinbibaceheaaX6
import Derived.Test.YtpeinbibaceheaaBr7
/-
  The polynomial through points, by its coefficients: observatorylaw07.through.
-/
namespace Go.Proofs.Ytpeinbibaceheaa.X
open Go.RowKit Go.Proofs.YtpeinbibaceheaaW.PrintWords Go.Proofs.YtpeinbibaceheaaW.PrintLast
open ObsMath
set_option linter.unusedVariables false

/-- With enough rounds it tells r. -/
def EvK {α : Type} (f : Nat → Option α) (r : α) : Prop := ∃ K, ∀ k, K ≤ k → f k = some r

theorem EvK.step {α : Type} {f g : Nat → Option α} {r : α} (h : ∀ k, 2147483648 ≤ k → f (k + 1) = g k) (hg : EvK g r) : EvK f r := by
  obtain ⟨K, hK⟩ := hg
  refine ⟨max K 2147483648 + 1, fun k hk => ?_⟩
  obtain ⟨m, rfl⟩ : ∃ m, k = m + 1 := ⟨k - 1, by omega⟩
  rw [h m (by omega), hK m (by omega)]

def tF (l : List Int) (x : F) : F := ev (l.map toF) x

theorem tF_set (x d : F) (v : Int) : ∀ (l : List Int) (j : Nat) (hj : j < l.length), toF v = toF l[j] + d → tF (l.set j v) x = tF l x + d * pw x j
  | [], j, hj, _ => by simp at hj
  | c :: l, 0, _, h => by
    simp only [List.getElem_cons_zero] at h
    simp only [tF, List.set_cons_zero, List.map_cons, ev, pw, h]
    grind
  | c :: l, j + 1, hj, h => by
    have ih := tF_set x d v l j (by simpa using hj) (by simpa using h)
    simp only [tF] at ih
    simp only [tF, List.set_cons_succ, List.map_cons, ev, pw, ih]
    grind

theorem tF_take (x : F) (l : List Int) {j : Nat} (hj : j < l.length) : tF (l.take (j + 1)) x = tF (l.take j) x + toF l[j] * pw x j := by
  have hl : (l.take j).length = j := by rw [List.length_take]; omega
  simp only [tF]
  rw [List.take_succ_eq_append_getElem hj, List.map_append, ev_append, List.length_map, hl]
  simp only [List.map_cons, List.map_nil, ev]
  grind

theorem tF_zeros (x : F) (n : Nat) : tF (List.replicate n 0) x = 0 := by
  refine ev_zero x _ fun c hc => ?_
  obtain ⟨z, hz, rfl⟩ := List.mem_map.1 hc
  rw [(List.mem_replicate.1 hz).2]; exact toF_zero

theorem all_set {l : List Int} {j : Nat} {v : Int} (h : l.all inP = true) (hv : inP v = true) : (l.set j v).all inP = true := by
  rw [List.all_eq_true] at h ⊢
  intro x hx
  rcases List.mem_or_eq_of_mem_set hx with hx | rfl
  · exact h x hx
  · exact hv

theorem all_get {l : List Int} (h : l.all inP = true) {j : Nat} (hj : j < l.length) : inP l[j] = true := List.all_eq_true.1 h _ (List.getElem_mem hj)

theorem thr_l2 (x0 : List S41) (x3 : List Int) (x4 : Int) (T : List Int) (x6 : Int) (μ β : Int) (hμ : inP μ = true) (hβ : inP β = true) (hT : T.all inP = true) (hL : T.length ≤ 40) :
    ∀ (d j : Nat) (nx : List Int), T.length - j = d → j ≤ T.length → nx.length = T.length + 1 → nx.all inP = true → (∀ x, tF nx x = toF β * (x + toF μ) * tF (T.take j) x) →
      ∃ nx' : List Int, nx'.length = T.length + 1 ∧ nx'.all inP = true ∧ (∀ x, tF nx' x = toF β * (x + toF μ) * tF T x) ∧
        ∀ r, EvK (fun k => observatorylaw07_through.l1 k x0 x3 x4 nx' (wrap64 (x6 + 1))) r → EvK (fun k => observatorylaw07_through.l2 k x0 x3 x4 T x6 μ β nx (j : Int)) r := by
  intro d
  induction d with
  | zero =>
    intro j nx g1 g2 g3 g4 g5
    obtain rfl : j = T.length := by omega
    rw [List.take_length] at g5
    refine ⟨nx, g3, g4, g5, fun r h => EvK.step (fun k hk => ?_) h⟩
    simp only [observatorylaw07_through.l2]
    rw [if_neg (by omega)]
  | succ d ih =>
    intro j nx g1 g2 g3 g4 g5
    have hj : j < T.length := by omega
    have i1 := all_get hT hj
    have hjn : j < nx.length := by omega
    have hjn1 : j + 1 < nx.length := by omega
    obtain ⟨c, hc⟩ : ∃ c, c = mulV T[j] β := ⟨_, rfl⟩
    have ic : inP c = true := by rw [hc]; exact inP_mulV _ _
    obtain ⟨lo, hlo⟩ : ∃ lo, lo = mulV c μ := ⟨_, rfl⟩
    have ilo : inP lo = true := by rw [hlo]; exact inP_mulV _ _
    obtain ⟨v1, hv1⟩ : ∃ v1, v1 = addV nx[j] lo := ⟨_, rfl⟩
    have iv1 : inP v1 = true := by rw [hv1]; exact inP_addV _ _
    obtain ⟨n1, hn1⟩ : ∃ n1, n1 = nx.set j v1 := ⟨_, rfl⟩
    have a1 : n1.all inP = true := by rw [hn1]; exact all_set g4 iv1
    have l1 : n1.length = nx.length := by rw [hn1, List.length_set]
    obtain ⟨v2, hv2⟩ : ∃ v2, v2 = addV (n1[j + 1]'(by omega)) c := ⟨_, rfl⟩
    have iv2 : inP v2 = true := by rw [hv2]; exact inP_addV _ _
    obtain ⟨nx', e1, e2, e3, e4⟩ := ih (j + 1) (n1.set (j + 1) v2) (by omega) (by omega) (by rw [List.length_set]; omega) (all_set a1 iv2) (fun x => by
      rw [tF_set x (toF c) v2 n1 (j + 1) (by omega) (by rw [hv2, toF_addV]), hn1, tF_set x (toF lo) v1 nx j hjn (by rw [hv1, toF_addV]), g5 x, tF_take x T hj, hlo, hc, toF_mulV, toF_mulV]
      simp only [pw]
      grind)
    refine ⟨nx', e1, e2, e3, fun r h => EvK.step (fun k hk => ?_) (e4 r h)⟩
    simp only [observatorylaw07_through.l2]
    rw [if_pos (by omega), if_pos (by omega), rd_at hj, Mul_ok (by omega) i1 hβ, Option.bind_some, ← hc, Mul_ok (by omega) ic hμ, Option.bind_some, ← hlo, if_pos (by omega), rd_at hjn, Add_ok (by omega) (all_get g4 hjn) ilo, Option.bind_some, Option.bind_some,
      w_succ (by omega), if_pos (by omega), if_pos (by omega), Int.toNat_natCast, Int.toNat_natCast, ← hv1, ← hn1, rd_at (by omega), Add_ok (by omega) (all_get a1 (by omega)) ic, Option.bind_some, ← hv2]

/-- Points with different places. -/
structure PGood (l : List S41) : Prop where
  ok : l.all okP = true
  d : Dst (XI l) l.length
  n16 : l.length ≤ 16

theorem PGood.x {l : List S41} (h : PGood l) (i : Nat) : inP (XI l i) = true := inP_iff.2 (ok_at h.ok i).1
theorem PGood.y {l : List S41} (h : PGood l) (i : Nat) : inP (YI l i) = true := inP_iff.2 (ok_at h.ok i).2

/-- One term, with the first k points done. -/
structure Term (l : List S41) (i k : Nat) (T : List Int) : Prop where
  len : T.length = (if i < k then k - 1 else k) + 1
  ok : T.all inP = true
  zero : ∀ j, j < k → j ≠ i → tF T (toF (XI l j)) = 0
  one : tF T (toF (XI l i)) = toF (YI l i)

theorem thr_l1 {l : List S41} (h : PGood l) (x3 : List Int) (i : Nat) (hi : i < l.length) : ∀ (d k : Nat) (T : List Int), l.length - k = d → k ≤ l.length → Term l i k T →
    ∃ T', Term l i l.length T' ∧ ∀ r, EvK (fun K => observatorylaw07_through.l3 K l x3 (i : Int) T' 0) r → EvK (fun K => observatorylaw07_through.l1 K l x3 (i : Int) T (k : Int)) r := by
  have h16 := h.n16
  intro d
  induction d with
  | zero =>
    intro k T g1 g2 g3
    obtain rfl : k = l.length := by omega
    refine ⟨T, g3, fun r hr => EvK.step (fun K hK => ?_) hr⟩
    simp only [observatorylaw07_through.l1]
    rw [if_neg (by omega)]
  | succ d ih =>
    intro k T g1 g2 g3
    have hk : k < l.length := by omega
    by_cases hki : k = i
    · subst hki
      obtain ⟨T', e1, e2⟩ := ih (k + 1) T (by omega) (by omega) ⟨by rw [g3.len]; simp, g3.ok, fun j hj hji => g3.zero j (by omega) hji, g3.one⟩
      refine ⟨T', e1, fun r hr => EvK.step (fun K hK => ?_) (e2 r hr)⟩
      simp only [observatorylaw07_through.l1]
      rw [if_pos (by omega), if_pos trivial, w_succ (by omega)]
    · have hx := inP_iff.1 (h.x k)
      have hxi := inP_iff.1 (h.x i)
      obtain ⟨μ, hμ⟩ : ∃ μ, μ = (-(XI l k)) % 2147483647 := ⟨_, rfl⟩
      have iμ : inP μ = true := by rw [hμ]; exact inP_mod _
      have fμ : toF μ = - toF (XI l k) := by rw [hμ, toF_mod, toF_neg]
      obtain ⟨b, hb⟩ : ∃ b, b = addV (XI l i) μ := ⟨_, rfl⟩
      have ib : inP b = true := by rw [hb]; exact inP_addV _ _
      have fb : toF b = toF (XI l i) - toF (XI l k) := by rw [hb, toF_addV, fμ]; grind
      have b0 : b ≠ 0 := by
        intro e
        rw [e, toF_zero] at fb
        have : toF (XI l i) = toF (XI l k) := by grind
        exact hki (h.d.toF_inj hi hk this).symm
      have hb1 := inP_iff.1 ib
      have hinv : toF (inv b) * toF b = 1 := inv_mul (by omega) hb1.2
      have hlen : T.length ≤ 17 := by rw [g3.len]; split <;> omega
      obtain ⟨nx, e1, e2, e3, e4⟩ := thr_l2 l x3 (i : Int) T (k : Int) μ (inv b) iμ (inP_inv b) g3.ok (by omega) T.length 0 (List.replicate (T.length + 1) 0) (by omega) (by omega) (by simp)
        (by rw [List.all_eq_true]; intro z hz; rw [(List.mem_replicate.1 hz).2]; decide) (fun x => by rw [tF_zeros]; simp only [List.take_zero, tF, List.map_nil, ev]; grind)
      obtain ⟨T', t1, t2⟩ := ih (k + 1) nx (by omega) (by omega) ⟨by
          rw [e1, g3.len]
          by_cases q : i < k
          · rw [if_pos q, if_pos (by omega)]; omega
          · rw [if_neg q, if_neg (by omega)],
        e2, fun j hj hji => by
          rw [e3]
          by_cases q : j = k
          · subst q; rw [fμ]; grind
          · rw [g3.zero j (by omega) hji]; grind,
        by rw [e3, g3.one, fμ]
           rw [fb] at hinv
           grind⟩
      refine ⟨T', t1, fun r hr => EvK.step (fun K hK => ?_) (e4 r (by rw [w_succ (by omega)]; exact t2 r hr))⟩
      simp only [observatorylaw07_through.l1]
      have hkx : (rd_T41 l (k : Int)).f0 = XI l k := rfl
      have hix : (rd_T41 l (i : Int)).f0 = XI l i := rfl
      rw [if_pos (by omega), if_neg (by omega), if_pos (by omega), hkx, hix, w64 (n := -(XI l k)) (by omega) (by omega), elem7_eq, Option.bind_some, if_pos (by omega), if_pos (by omega), ← hμ, Add_ok (by omega) (h.x i) iμ, Option.bind_some, ← hb, Inverse_ok hK ib b0,
        Option.bind_some, w64 (n := (T.length : Int) + 1) (by omega) (by omega), if_pos (by omega), if_pos (by omega), show ((T.length : Int) + 1).toNat = T.length + 1 by omega]
      rfl

theorem thr_l3 (x0 : List S41) (x4 : Int) (T : List Int) (hT : T.all inP = true) (hL : T.length ≤ 40) : ∀ (d j : Nat) (out : List Int), T.length - j = d → j ≤ T.length → out.length = T.length → out.all inP = true →
    ∃ out' : List Int, out'.length = T.length ∧ out'.all inP = true ∧ (∀ x, tF out' x + tF (T.take j) x = tF out x + tF T x) ∧
      ∀ r, EvK (fun k => observatorylaw07_through.l0 k x0 out' (wrap64 (x4 + 1))) r → EvK (fun k => observatorylaw07_through.l3 k x0 out x4 T (j : Int)) r := by
  intro d
  induction d with
  | zero =>
    intro j out g1 g2 g3 g4
    obtain rfl : j = T.length := by omega
    refine ⟨out, g3, g4, fun x => by rw [List.take_length], fun r h => EvK.step (fun k hk => ?_) h⟩
    simp only [observatorylaw07_through.l3]
    rw [if_neg (by omega)]
  | succ d ih =>
    intro j out g1 g2 g3 g4
    have hj : j < T.length := by omega
    have hjo : j < out.length := by omega
    obtain ⟨v, hv⟩ : ∃ v, v = addV out[j] T[j] := ⟨_, rfl⟩
    have iv : inP v = true := by rw [hv]; exact inP_addV _ _
    obtain ⟨out', e1, e2, e3, e4⟩ := ih (j + 1) (out.set j v) (by omega) (by omega) (by rw [List.length_set]; omega) (all_set g4 iv)
    refine ⟨out', e1, e2, fun x => ?_, fun r h => EvK.step (fun k hk => ?_) (e4 r h)⟩
    · have := e3 x
      rw [tF_set x (toF T[j]) v out j hjo (by rw [hv, toF_addV]), tF_take x T hj] at this
      grind
    · simp only [observatorylaw07_through.l3]
      rw [if_pos (by omega), if_pos (by omega), if_pos (by omega), rd_at hj, rd_at hjo, Add_ok (by omega) (all_get g4 hjo) (all_get hT hj), Option.bind_some, w_succ (by omega), Int.toNat_natCast, ← hv]

theorem thr_l0 {l : List S41} (h : PGood l) : ∀ (d i : Nat) (out : List Int), l.length - i = d → i ≤ l.length → out.length = l.length → out.all inP = true →
    (∀ j, j < l.length → tF out (toF (XI l j)) = if j < i then toF (YI l j) else 0) →
    ∃ out' : List Int, out'.length = l.length ∧ out'.all inP = true ∧ (∀ j, j < l.length → tF out' (toF (XI l j)) = toF (YI l j)) ∧ EvK (fun k => observatorylaw07_through.l0 k l out (i : Int)) out' := by
  have h16 := h.n16
  intro d
  induction d with
  | zero =>
    intro i out g1 g2 g3 g4 g5
    obtain rfl : i = l.length := by omega
    refine ⟨out, g3, g4, fun j hj => by rw [g5 j hj, if_pos hj], 1, fun k hk => ?_⟩
    obtain ⟨m, rfl⟩ : ∃ m, k = m + 1 := ⟨k - 1, by omega⟩
    simp only [observatorylaw07_through.l0]
    rw [if_neg (by omega)]
  | succ d ih =>
    intro i out g1 g2 g3 g4 g5
    have hi : i < l.length := by omega
    obtain ⟨T, t1, t2⟩ := thr_l1 h out i hi l.length 0 [YI l i] (by omega) (by omega) ⟨by rw [if_neg (by omega)]; rfl, by rw [List.all_cons, h.y i]; rfl, fun j hj => by omega, by simp only [tF, List.map_cons, List.map_nil, ev]; grind⟩
    have tl : T.length = l.length := by rw [t1.len, if_pos hi]; omega
    obtain ⟨o, e1, e2, e3, e4⟩ := thr_l3 l (i : Int) T t1.ok (by omega) T.length 0 out (by omega) (by omega) (by omega) g4
    obtain ⟨out', o1, o2, o3, o4⟩ := ih (i + 1) o (by omega) (by omega) (by omega) e2 (fun j hj => by
      have := e3 (toF (XI l j))
      have z : tF (T.take 0) (toF (XI l j)) = 0 := rfl
      rw [z, g5 j hj] at this
      have this : tF o (toF (XI l j)) = (if j < i then toF (YI l j) else 0) + tF T (toF (XI l j)) := by grind
      rw [this]
      by_cases q : j = i
      · subst q
        rw [t1.one, if_neg (by omega), if_pos (by omega)]; grind
      · rw [t1.zero j hj q]
        by_cases q2 : j < i
        · rw [if_pos q2, if_pos (by omega)]; grind
        · rw [if_neg q2, if_neg (by omega)]; grind)
    refine ⟨out', o1, o2, o3, EvK.step (fun k hk => ?_) (t2 out' (e4 out' (by rw [w_succ (by omega)]; exact o4)))⟩
    simp only [observatorylaw07_through.l0]
    rw [if_pos (by omega), if_pos (by omega)]
    rfl

theorem through_ok {l : List S41} (h : PGood l) : ∃ out : List Int, out.length = l.length ∧ out.all inP = true ∧ (∀ j, j < l.length → toF (evI out (XI l j)) = toF (YI l j)) ∧ EvK (fun k => observatorylaw07_through.f k l) out := by
  have h16 := h.n16
  obtain ⟨out, o1, o2, o3, K, hK⟩ := thr_l0 h l.length 0 (List.replicate l.length 0) (by omega) (by omega) (by simp) (by rw [List.all_eq_true]; intro z hz; rw [(List.mem_replicate.1 hz).2]; decide) (fun j hj => by rw [tF_zeros, if_neg (by omega)])
  refine ⟨out, o1, o2, fun j hj => by rw [evI_F]; exact o3 j hj, K, fun k hk => ?_⟩
  show observatorylaw07_through.f k l = some out
  unfold observatorylaw07_through.f
  rw [if_pos (by omega), if_pos (by omega), Int.toNat_natCast]
  exact hK k hk

end Go.Proofs.Ytpeinbibaceheaa.X
