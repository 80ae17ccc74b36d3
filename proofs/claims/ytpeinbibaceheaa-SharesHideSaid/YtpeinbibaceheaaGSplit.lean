import Derived.Test.YtpeinbibaceheaaX5
import Derived.Test.YtpeinbibaceheaaBr6
import Derived.Test.YtpeinbibaceheaaGApp
/-
  shares.Split by hand: what it returns, in plain arithmetic, and the walk.
-/
namespace Go.Proofs.Ytpeinbibaceheaa.X
open Go.RowKit Go.Proofs.YtpeinbibaceheaaW.PrintWords Go.Proofs.YtpeinbibaceheaaW.PrintLast Go.Proofs.YtpeinbibaceheaaW.PrintMore
open ObsMath (evI)
set_option linter.unusedVariables false
set_option linter.unusedSimpArgs false

/-- The shares of a polynomial at 1 to n. -/
def shareList (p : List Int) (n : Nat) : List S54 := (List.range n).map (fun (i : Nat) => (⟨(i : Int) + 1, evI p ((i : Int) + 1)⟩ : S54))

def splitArg (need total : Int) (random : List Int) : Prop := total < 1 ∨ total > 16 ∨ need < 1 ∨ need > total ∨ (random.length : Int) ≠ need - 1
instance (need total : Int) (random : List Int) : Decidable (splitArg need total random) := by unfold splitArg; infer_instance

/-- What Split returns. -/
def splitF (secret need total : Int) (random : List Int) : List S54 × Int :=
  if splitArg need total random then ([], 1)
  else if (secret :: random).all inP = false then ([], 1)
  else (shareList (secret :: random) total.toNat, 0)

def SPost (r : List S54 × Int) (w : World) (e : Ending) (w' : World) : Prop :=
  ∃ v0 : Value, e = .returned (.tuple #[v0, .int .i64 r.2]) ∧ Kd.R k54 54 w' w.heap.size (fun _ => True) v0 r.1 ∧ Below w.heap.size w w'

theorem SPost.arg {w w' : World} (h : Below w.heap.size w w') : SPost ([], 1) w (.returned (.tuple #[.slice none 0 0, .int .i64 1])) w' :=
  ⟨_, rfl, Kd.R_nil _ _ _ _ _, h⟩

theorem selem_eq (a : Int) : shares_element.f a = some (inP a) := by
  unfold shares_element.f inP
  by_cases h : 0 ≤ a <;> simp [h]

theorem at_eq {k : Nat} {l : List Int} {x : Int} (hk : 18 ≤ k) (h16 : l.length ≤ 16) (ha : l.all inP = true) (hx : inP x = true) : shares_poly_at.f k l x = some (evI l x, 0) := by
  unfold shares_poly_at.f
  rw [Eval_ok hk h16 ha hx, Option.bind_some]

/-- While the coefficients are looked at. -/
structure Inv3 (w wr : World) (A : Option Addr) (p : List Int) (k : Nat) : Prop where
  C : Kd.C (Kd.int .i64) wr A p.length p
  bl : Below w.heap.size w wr
  ok : (p.take k).all inP = true

/-- The shares with the first i of them made. -/
def made (p : List Int) (n i : Nat) : List S54 := shareList p i ++ List.replicate (n - i) z54

theorem made_zero (p : List Int) (n : Nat) : made p n 0 = List.replicate n z54 := by simp [made, shareList]
theorem made_length (p : List Int) {n i : Nat} (h : i ≤ n) : (made p n i).length = n := by simp [made, shareList]; omega
theorem made_all (p : List Int) (n : Nat) : made p n n = shareList p n := by simp [made]
theorem made_set (p : List Int) {n i : Nat} (h : i < n) : (made p n i).set i ⟨(i : Int) + 1, evI p ((i : Int) + 1)⟩ = made p n (i + 1) := by
  have hl : (shareList p i).length = i := by simp [shareList]
  unfold made
  rw [List.set_append_right _ _ (by omega), hl, Nat.sub_self, show n - i = (n - (i + 1)) + 1 by omega, List.replicate_succ, List.set_cons_zero]
  have : shareList p (i + 1) = shareList p i ++ [(⟨(i : Int) + 1, evI p ((i : Int) + 1)⟩ : S54)] := by simp [shareList, List.range_succ]
  rw [this, List.append_assoc]
  rfl

/-- While the shares are made. -/
structure Inv4 (g : Nat) (wr w' : World) (p : List Int) (n i : Nat) : Prop where
  bl : Below g wr w'
  R : Kd.R k54 54 w' g (fun _ => True) (.slice (some ⟨g, 0, none⟩) n n) (made p n i)

theorem ints_read {w : World} {base n : Nat} {v : Value} {xs : List Int} (h : w.ownsRow base 3 1 v n (xs.map (Value.int .i64))) : ∃ A c, v = .slice A n c ∧ n ≤ c ∧ Kd.C (Kd.int .i64) w A n xs := by
  have hl : xs.length = n := by have := h.1; simpa using this
  subst hl
  have hr : Kd.R (Kd.int .i64) 3 w base (fun _ => True) v xs := by
    refine ⟨fun _ _ => trivial, _, h, ⟨by simp [Kd.int, Kd.scalar], fun j p hj => ?_⟩⟩
    show List.take 1 (List.drop (j * 1) (xs.map (Value.int .i64))) = [.int .i64 p]
    have hlt := (List.getElem?_eq_some_iff.1 hj).1
    rw [Nat.mul_one, List.drop_eq_getElem_cons (by simpa using hlt), List.take_succ_cons, List.take_zero, List.getElem_map]
    rw [List.getElem?_eq_getElem hlt] at hj
    injection hj with hj; rw [hj]
  obtain ⟨A, c, e, h1, h2⟩ := Kd.R_reads hr
  exact ⟨A, c, e, h1, h2⟩

theorem make_shares (w : World) (n : Nat) (h : n ≤ 16) : ∃ w', (Instr.makeSlice 46 (.int .i64 (n : Int)) (.int .i64 (n : Int))).run Try.prog w = .ok (.slice (some ⟨w.heap.size, 0, none⟩) n n) w' ∧ Kd.R k54 54 w' w.heap.size (fun _ => True) (.slice (some ⟨w.heap.size, 0, none⟩) n n) (List.replicate n z54) ∧ Below w.heap.size w w' := by
  obtain ⟨i0, hi, hz0, hz1, hz2⟩ := info_parts info54
  obtain ⟨w', hr, ho, hg⟩ := run_make_full (P := Try.prog) w w.heap.size 46 54 i0 _ 2 Try.underlying46 hi hz0 hz1 .i64 .i64 n (by rw [hz2]; omega) (by unfold maxLen; omega) (Nat.le_refl _)
  refine ⟨w', hr, ⟨fun _ _ => trivial, _, by rw [List.length_replicate]; exact ho, Kd.reps_made (z := .agg #[(.int .i64 0), (.int .i64 0)]) rfl (by decide) ?_ n⟩, pw_below_grown (Below.refl _ _) none (Nat.le_refl _) hg (fun k hk => by cases hk)⟩
  exact k54_mkM _ _ _ z54

theorem append_ints {w : World} (s : Int) (A : Option Addr) (c : Nat) (l p : List Int) (ty : TypeId) (hp : p = s :: l) (hC : Kd.C (Kd.int .i64) w A l.length l) (hc : l.length ≤ c) (h15 : l.length ≤ 100) :
    ∃ A' c' w', (Builtin.append_ #[65, 22] ty #[.slice (some ⟨w.heap.size, 0, none⟩) 1 1, .slice A l.length c]).run Try.prog (w.alloc (.cells #[.int .i64 s] 3)) = .ok (.slice A' p.length c') w' ∧
      p.length ≤ c' ∧ Kd.C (Kd.int .i64) w' A' p.length p ∧ Below w.heap.size w w' := by
  subst hp
  rw [ObsMap.append_types (e := 3) (e' := 3) Try.underlying65 Try.underlying22]
  obtain ⟨i0, hi, hz0, hz1, hz2⟩ := info_parts info3
  have hsz : (w.alloc (.cells #[.int .i64 s] 3)).heap.size = w.heap.size + 1 := by show (w.heap.push _).size = _; simp
  have hown : (w.alloc (.cells #[.int .i64 s] 3)).ownsRow w.heap.size 3 1 (.slice (some ⟨w.heap.size, 0, none⟩) 1 1) 1 [.int .i64 s] :=
    ⟨rfl, .inr ⟨w.heap.size, 1, #[.int .i64 s], rfl, Nat.le_refl _, heap_last w _, Nat.le_refl _, by unfold maxLen; omega, rfl, rfl⟩⟩
  have fin : ∀ v' w', w'.ownsRow w.heap.size 3 1 v' (1 + l.length) ([.int .i64 s] ++ l.map (Value.int .i64)) → (w.alloc (.cells #[.int .i64 s] 3)).grownBy w' (some w.heap.size) →
      ∃ A' c', v' = .slice A' (s :: l).length c' ∧ (s :: l).length ≤ c' ∧ Kd.C (Kd.int .i64) w' A' (s :: l).length (s :: l) ∧ Below w.heap.size w w' := by
    intro v' w' ho hg
    have ho' : w'.ownsRow w.heap.size 3 1 v' (s :: l).length ((s :: l).map (Value.int .i64)) := by
      rw [show (s :: l).length = 1 + l.length by simp; omega]; exact ho
    obtain ⟨A', c', e, h1, h2⟩ := ints_read ho'
    exact ⟨A', c', e, h1, h2, (((Below.refl _ _).alloc (Nat.le_refl _) _).grown hg (by rw [hsz]; omega) (fun k hk => by injection hk with hk; omega))⟩
  cases A with
  | some ad =>
    have hcells : ∀ j u, (l.map (Value.int .i64))[j]? = some u → (w.alloc (.cells #[.int .i64 s] 3)).cell? (ad.add j) = some u := by
      intro j u hu
      rw [List.getElem?_map] at hu
      obtain ⟨x, hx, rfl⟩ := Option.map_eq_some_iff.1 hu
      have hlt := (List.getElem?_eq_some_iff.1 hx).1
      have hC' := Kd.C_alloc hC (.cells #[.int .i64 s] 3)
      obtain ⟨ad', e, hc'⟩ := Kd.at_int hC' (j : Int) (by omega) (by omega)
      injection e with e
      subst e
      rw [Int.toNat_natCast] at hc'
      rw [hc', rd_at hlt]
      rw [List.getElem?_eq_getElem hlt] at hx
      injection hx with hx; rw [hx]
    obtain ⟨v', w', hr, ho, hg, _⟩ := run_append_own (P := Try.prog) (w := w.alloc (.cells #[.int .i64 s] 3)) w.heap.size 65 ty 3 i0 (.int .i64 0) 1 8 Try.underlying65 hi hz0 hz1 hz2 rfl (by decide)
      (.slice (some ⟨w.heap.size, 0, none⟩) 1 1) 1 [.int .i64 s] hown ad l.length c (l.map (Value.int .i64)) (by simp) hcells (fun u hu => by obtain ⟨x, _, rfl⟩ := List.mem_map.1 hu; rfl) (by unfold maxLen; omega) (by omega) (by rw [hsz]; omega)
    obtain ⟨A', c', rfl, h1, h2, h3⟩ := fin v' w' ho hg
    exact ⟨A', c', w', hr, h1, h2, h3⟩
  | none =>
    have hl : l = [] := by
      cases l with
      | nil => rfl
      | cons x l =>
        obtain ⟨ad, e, _⟩ := hC.2.2 (by simp)
        cases e
    subst hl
    have hr : (Builtin.append_ #[65, 65] ty #[.slice (some ⟨w.heap.size, 0, none⟩) 1 1, .slice none 0 c]).run Try.prog (w.alloc (.cells #[.int .i64 s] 3)) = .ok (.slice (some ⟨w.heap.size, 0, none⟩) 1 1) (w.alloc (.cells #[.int .i64 s] 3)) := by
      unfold Builtin.append_
      go_simp
    obtain ⟨A', c', e, h1, h2, h3⟩ := fin _ (w.alloc (.cells #[.int .i64 s] 3)) hown ⟨rfl, rfl, rfl, Nat.le_refl _, fun _ _ _ => rfl⟩
    exact ⟨A', c', _, hr.trans (by rw [e]), h1, h2, h3⟩

set_option maxHeartbeats 1000000 in
theorem split_walk (secret : Int) (need : Int) (n : Nat) (A : Option Addr) (c : Nat) (l : List Int) (w : World) (hC0 : Kd.C (Kd.int .i64) w A l.length l) (hc : l.length ≤ c)
    (t1 : 1 ≤ n) (t2 : n ≤ 16) (n1 : 1 ≤ need) (n2 : need ≤ n) (hl : (l.length : Int) = need - 1) :
    Calls Try.prog 33 #[.int .i64 secret, .int .i64 need, .int .i64 (n : Int), .slice A l.length c] w (SPost (splitF secret need n l) w) := by
  obtain ⟨p, hp⟩ : ∃ p, p = secret :: l := ⟨_, rfl⟩
  have HA := append_ints secret A c l p 65 hp hC0 hc (by omega)
  obtain ⟨A1, c1, w1, hrun, hc1, hC1, hb1⟩ := HA
  have HC1 := Aside0.mk hC1
  have HB1 := Aside0.mk hb1
  have hp16 : p.length ≤ 16 := by rw [hp, List.length_cons]; omega
  have HP := Aside0.mk hp
  have g1 : ¬ ((n : Int) < 1) := by omega
  have g2 : ¬ ((n : Int) > 16) := by omega
  have g3 : ¬ (need < 1) := by omega
  have g4 : ¬ (need > (n : Int)) := by omega
  have HSA := Aside0.mk (show ¬ splitArg need (n : Int) l from by rintro (h | h | h | h | h) <;> first | omega | exact h hl)
  clear hC1 hb1 hC0 hp
  go_enter Try.func33, Try.ntmps33
  go_wp2_with (at_builtin; refine ObsMap.wpList_append_of rfl _ _ 65 22 rfl _ _ rfl rfl _ _ hrun ?_)
  clear hrun
  go_loopg [46] p.length (fun g v46 wr => ∃ k : Nat, k + g = p.length ∧ v46 = .int .i64 k ∧ Inv3 w wr A1 p k)
  case atStart => exact ⟨0, by omega, rfl, HC1.out, HB1.out, rfl⟩
  case round =>
    obtain ⟨k, hk, rfl, hI⟩ := hrel
    have HI := Aside0.mk hI
    clear hI
    by_cases hlt : k < p.length
    · have hlt' : (k : Int) < (p.length : Int) := by omega
      obtain ⟨ad, e0, a0⟩ := Kd.at_int HI.out.C (k : Int) (by omega) hlt'
      subst e0
      rw [Int.toNat_natCast, rd_at hlt] at a0
      cases hv : inP p[k] with
      | true =>
        have E1 := Aside0.mk (selem_eq p[k])
        rw [hv] at E1
        have HV := Aside0.mk hv
        clear hv
        go_wp2_with fail
        refine (shares_element.calls _ true _ E1.out).mono ?_
        rintro e w' ⟨rfl, ⟨nd, rfl⟩⟩
        go_wp2_with fail
        go_roundg (gk - 1)
        case rel =>
          refine ⟨k + 1, by omega, by go_num, Kd.C_drewN HI.out.C nd, pw_below_drewN HI.out.bl nd, ?_⟩
          rw [List.take_succ_eq_append_getElem hlt, List.all_append, HI.out.ok]
          simp [HV.out]
        case measure => omega
      | false =>
        have E1 := Aside0.mk (selem_eq p[k])
        rw [hv] at E1
        have HR := Aside0.mk (show splitF secret need n l = ([], 1) from by
          unfold splitF
          rw [if_neg HSA.out, if_pos]
          rw [← HP.out, List.all_eq_false]
          exact ⟨p[k], List.getElem_mem hlt, by rw [hv]; simp⟩)
        clear hv
        go_wp2_with fail
        refine (shares_element.calls _ false _ E1.out).mono ?_
        rintro e w' ⟨rfl, ⟨nd, rfl⟩⟩
        go_wp2_with fail
        go_ret2
        rw [HR.out]
        exact SPost.arg (pw_below_drewN HI.out.bl nd)
    · obtain rfl : k = p.length := by omega
      have hpa : p.all inP = true := by have := HI.out.ok; rwa [List.take_length] at this
      have HPA := Aside0.mk hpa
      clear hpa
      go_wp2_with fail
      obtain ⟨W1, hmk, hR1, hB1⟩ := make_shares wr n t2
      obtain ⟨g, hgg⟩ : ∃ g, wr.heap.size = g := ⟨_, rfl⟩
      rw [hgg] at hmk hR1 hB1
      have HR1 := Aside0.mk hR1
      have HB2 := Aside0.mk hB1
      have HG := Aside0.mk hgg
      clear hR1 hB1 hgg
      go_wp2_with fail
      rw [hmk]
      go_wp2_with fail
      clear hmk
      go_loopg [59] n (fun gk v59 wr' => ∃ i : Nat, i + gk = n ∧ v59 = .int .i64 i ∧ Inv4 g wr wr' p n i)
      case atStart => exact ⟨0, by omega, rfl, HB2.out, by rw [made_zero]; exact HR1.out⟩
      case round =>
        obtain ⟨i, hi, rfl, hI4⟩ := hrel
        have HI4 := Aside0.mk hI4
        clear hI4
        by_cases hlt2 : i < n
        · have hlt2' : (i : Int) < (n : Int) := by omega
          have HCp := Aside0.mk (Kd.C_below HI.out.C (by rw [HG.out]; exact HI4.out.bl))
          have HX := Aside0.mk (show inP ((i : Int) + 1) = true by unfold inP; simp; omega)
          go_wp2_with fail
          refine (shares_poly_at.calls 18 A1 c1 p ((i : Int) + 1) _ _ _ HCp.out hc1 (at_eq (Nat.le_refl _) hp16 HPA.out HX.out)).mono ?_
          rintro e w' ⟨rfl, ⟨nd, rfl⟩⟩
          obtain ⟨y, hy⟩ : ∃ y, y = evI p ((i : Int) + 1) := ⟨_, rfl⟩
          have HY := Aside0.mk hy
          rw [← hy]
          clear hy
          have hRn := Kd.R_drewN HI4.out.R nd
          obtain ⟨ce, hcl, hM, hcc, hfr⟩ := Kd.R_elem hRn z54 (i : Int) (by omega) hlt2'
          have hS := Kd.R_seg hRn (i : Int) (by omega) hlt2' (seg := [.int .i64 ((i : Int) + 1), .int .i64 y]) (j := 0) hcl hcc (show 2 ≤ 2 from by decide) (x' := (⟨(i : Int) + 1, y⟩ : S54)) (by have := k54_openM hM; subst this; exact k54_mkM _ _ _ (⟨(i : Int) + 1, y⟩ : S54)) (fun _ hk => hk)
          have HS := Aside0.mk hS
          obtain rfl := k54_openM hM
          have hx0 : World.cell? (wr.drewN nd) ⟨g, i * 2, none⟩ = _ := hcc 0 _ rfl
          have hx1 : World.cell? (wr.drewN nd) ⟨g, i * 2 + 1, none⟩ = _ := hcc 1 _ rfl
          have hf0 : World.frozen? (wr.drewN nd) ⟨g, i * 2, none⟩ = false := hfr 0
          have hf1 : World.frozen? (wr.drewN nd) ⟨g, i * 2 + 1, none⟩ = false := hfr 1
          clear hRn hS hcl hM hcc hfr
          go_wp2_with fail
          go_roundg (gk - 1)
          case rel =>
            refine ⟨i + 1, by omega, by go_num, pw_below_grown (pw_below_drewN HI4.out.bl nd) (some g) ?_ HS.out.2 (fun k hk => by injection hk with hk; omega), ?_⟩
            · exact HG.out ▸ HI4.out.bl.size
            · have h3 := HS.out.1
              rw [HY.out, Int.toNat_natCast, made_set p hlt2, ← HY.out] at h3
              exact h3
          case measure => omega
        · obtain rfl : i = n := by omega
          go_wp2_with fail
          go_ret2
          have HF : splitF secret need (i : Int) l = (shareList p i, 0) := by
            unfold splitF
            rw [if_neg HSA.out, if_neg (by rw [← HP.out, HPA.out]; simp), HP.out, Int.toNat_natCast]
          rw [HF]
          have h4 := HI4.out.R
          rw [made_all] at h4
          have hb := HI4.out.bl
          have hG := HG.out
          subst hG
          exact ⟨_, rfl, Kd.R_lower h4 (below_size HI.out.bl), below_step HI.out.bl hb⟩

set_option maxHeartbeats 1000000 in
theorem split_any (secret need total : Int) (A : Option Addr) (c : Nat) (l : List Int) (w : World) (hC0 : Kd.C (Kd.int .i64) w A l.length l) (hc : l.length ≤ c) :
    Calls Try.prog 33 #[.int .i64 secret, .int .i64 need, .int .i64 total, .slice A l.length c] w (SPost (splitF secret need total l) w) := by
  by_cases ha : splitArg need total l
  · have HF : splitF secret need total l = ([], 1) := by unfold splitF; rw [if_pos ha]
    rw [HF]
    have hw : ∀ x, wrap64 (x - 1) = wrap64 (x - 1) := fun _ => rfl
    go_enter Try.func33, Try.ntmps33
    by_cases t1 : total < 1
    · go_wp2_with fail
      go_ret2
      exact SPost.arg (Below.refl _ _)
    by_cases t2 : total > 16
    · go_wp2_with fail
      go_ret2
      exact SPost.arg (Below.refl _ _)
    by_cases n1 : need < 1
    · go_wp2_with fail
      go_ret2
      exact SPost.arg (Below.refl _ _)
    by_cases n2 : need > total
    · go_wp2_with fail
      go_ret2
      exact SPost.arg (Below.refl _ _)
    have hl : (l.length : Int) ≠ need - 1 := by
      rcases ha with h | h | h | h | h
      · exact absurd h t1
      · exact absurd h t2
      · exact absurd h n1
      · exact absurd h n2
      · exact h
    clear ha
    go_wp2_with fail
    go_ret2
    exact SPost.arg (Below.refl _ _)
  · have hl : (l.length : Int) = need - 1 := by
      unfold splitArg at ha
      exact Classical.byContradiction fun h => ha (.inr (.inr (.inr (.inr h))))
    have t1 : ¬ total < 1 := fun h => ha (.inl h)
    have t2 : ¬ total > 16 := fun h => ha (.inr (.inl h))
    have n1 : ¬ need < 1 := fun h => ha (.inr (.inr (.inl h)))
    have n2 : ¬ need > total := fun h => ha (.inr (.inr (.inr (.inl h))))
    obtain ⟨n, rfl⟩ := Int.eq_ofNat_of_zero_le (show 0 ≤ total by omega)
    exact split_walk secret need n A c l w hC0 hc (by omega) (by omega) (by omega) (by omega) hl

def shares_Split.f (a0 a1 a2 : Int) (l3 : List Int) : Option (List S54 × Int) := some (splitF a0 a1 a2 l3)

theorem shares_Split.calls (a0 a1 a2 : Int) (A3 : Option Addr) (c3 : Nat) (l3 : List Int) (r1 : List S54) (r2 : Int) (w : World) (hr3 : Kd.C (Kd.int .i64) w A3 l3.length l3) (hc3 : l3.length ≤ c3) (h : shares_Split.f a0 a1 a2 l3 = some (r1, r2)) :
    Calls Try.prog 33 #[.int .i64 a0, .int .i64 a1, .int .i64 a2, .slice A3 l3.length c3] w fun e w' => ∃ v0_ : Value, e = .returned (.tuple #[v0_, .int .i64 r2]) ∧ Kd.R k54 54 w' w.heap.size (fun _ => True) v0_ r1 ∧ Below w.heap.size w w' := by
  have h' : splitF a0 a1 a2 l3 = (r1, r2) := Option.some.inj h
  have hh := split_any a0 a1 a2 A3 c3 l3 w hr3 hc3
  rw [h'] at hh
  exact hh

end Go.Proofs.Ytpeinbibaceheaa.X
