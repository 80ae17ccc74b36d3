import Derived.Test.YtddikdpbhjgihaaGreatDoorSM06
import Derived.Test.YtddikdpbhjgihaaGreatDoorSM07
import Derived.Test.YtddikdpbhjgihaaGreatDoorSM10
import Derived.Test.YtddikdpbhjgihaaGreatDoorSM12
import Derived.Shelf.Strings.Builder1
import Derived.Shelf.Strings.Builder2
import Derived.Shelf.Strings.Trim
import Derived.Shelf.Small.Utf8
import Derived.Shelf.Small.Strs
import Derived.Shelf.Strconv.Itoa0
import Derived.Shelf.Strconv.Itoa1
import Derived.Shelf.LaysM
import Derived.Shelf.Strconv.Itoa2
import Derived.Shelf.Strconv.Itoa3
import Derived.Shelf.Strings.Search1
import Derived.Shelf.Strings.Runes
import Derived.Shelf.Strings.AsciiSet
import Derived.Shelf.Bits.Mul64
import Derived.Shelf.Unicode.DecodeSlow
import Derived.Ground.Names2Prog
import Derived.Shelf.Slices.ReverseS
import Derived.Shelf.Slices.Clone
import Derived.Shelf.Slices.Cells
import Derived.Test.YtddikdpbhjgihaaGreatDoorProg
import Derived.Lib.AppendIntMem
import Derived.Below
section
namespace Go.Proofs.YtddikdpbhjgihaaGreatDoor.X
open Go.RowKit Go.Proofs.YtddikdpbhjgihaaGreatDoorW.PrintWords Go.Proofs.YtddikdpbhjgihaaGreatDoorW.PrintLast Go.Proofs.YtddikdpbhjgihaaGreatDoorW.PrintMore
open ObsMath (evI)
set_option linter.unusedVariables false
set_option maxRecDepth 100000
set_option linter.unusedSimpArgs false
def shareList (p : List Int) (n : Nat) : List S25 := (List.range n).map (fun (i : Nat) => (⟨(i : Int) + 1, evI p ((i : Int) + 1)⟩ : S25))
def splitArg (need total : Int) (random : List Int) : Prop := total < 1 ∨ total > 16 ∨ need < 1 ∨ need > total ∨ (random.length : Int) ≠ need - 1
instance (need total : Int) (random : List Int) : Decidable (splitArg need total random) := by unfold splitArg; infer_instance
def splitF (secret need total : Int) (random : List Int) : List S25 × Int :=
  if splitArg need total random then ([], 1)
  else if (secret :: random).all inP = false then ([], 1)
  else (shareList (secret :: random) total.toNat, 0)
def SPost (r : List S25 × Int) (w : World) (e : Ending) (w' : World) : Prop :=
  ∃ v0 : Value, e = .returned (.tuple #[v0, .int .i64 r.2]) ∧ Kd.R k25 25 w' w.heap.size (fun _ => True) v0 r.1 ∧ Below w.heap.size w w'
theorem SPost.arg {w w' : World} (h : Below w.heap.size w w') : SPost ([], 1) w (.returned (.tuple #[.slice none 0 0, .int .i64 1])) w' :=
  ⟨_, rfl, Kd.R_nil _ _ _ _ _, h⟩
theorem selem_eq (a : Int) : shares_element.f a = some (inP a) := by
  unfold shares_element.f inP
  by_cases h : 0 ≤ a <;> simp [h]
theorem at_eq {k : Nat} {l : List Int} {x : Int} (hk : 18 ≤ k) (h16 : l.length ≤ 16) (ha : l.all inP = true) (hx : inP x = true) : shares_poly_at.f k l x = some (evI l x, 0) := by
  unfold shares_poly_at.f
  rw [Eval_ok hk h16 ha hx, Option.bind_some]
structure Inv3 (w wr : World) (A : Option Addr) (p : List Int) (k : Nat) : Prop where
  C : Kd.C (Kd.int .i64) wr A p.length p
  bl : Below w.heap.size w wr
  ok : (p.take k).all inP = true
def made (p : List Int) (n i : Nat) : List S25 := shareList p i ++ List.replicate (n - i) z25
theorem made_zero (p : List Int) (n : Nat) : made p n 0 = List.replicate n z25 := by simp [made, shareList]
theorem made_all (p : List Int) (n : Nat) : made p n n = shareList p n := by simp [made]
theorem made_set (p : List Int) {n i : Nat} (h : i < n) : (made p n i).set i ⟨(i : Int) + 1, evI p ((i : Int) + 1)⟩ = made p n (i + 1) := by
  have hl : (shareList p i).length = i := by simp [shareList]
  unfold made
  rw [List.set_append_right _ _ (by omega), hl, Nat.sub_self, show n - i = (n - (i + 1)) + 1 by omega, List.replicate_succ, List.set_cons_zero]
  have : shareList p (i + 1) = shareList p i ++ [(⟨(i : Int) + 1, evI p ((i : Int) + 1)⟩ : S25)] := by simp [shareList, List.range_succ]
  rw [this, List.append_assoc]
  rfl
structure Inv4 (g : Nat) (wr w' : World) (p : List Int) (n i : Nat) : Prop where
  bl : Below g wr w'
  R : Kd.R k25 25 w' g (fun _ => True) (.slice (some ⟨g, 0, none⟩) n n) (made p n i)
theorem ints_read {w : World} {base n : Nat} {v : Value} {xs : List Int} (h : w.ownsRow base 3 1 v n (xs.map (Value.int .i64))) : ∃ A c, v = .slice A n c ∧ n ≤ c ∧ Kd.C (Kd.int .i64) w A n xs := by
  have hl : xs.length = n := by have := h.1; simpa using this
  subst hl
  have hr : Kd.R (Kd.int .i64) 3 w base (fun _ => True) v xs := by
    refine ⟨fun _ _ => trivial, _, h, ⟨by simp [Kd.int, Kd.scalar], fun j p hj => ?_⟩⟩
    show List.take 1 (List.drop (j * 1) (xs.map (Value.int .i64))) = [.int .i64 p]
    have hlt := (List.getElem?_eq_some_iff.1 hj).1
    rw [Nat.mul_one, List.drop_eq_getElem_cons (by simpa using hlt), List.take_succ_cons, List.take_zero, List.getElem_map]
    rw [List.getElem?_eq_getElem hlt] at hj
    injection hj with hj; rw [hj]
  obtain ⟨A, c, e, h1, h2⟩ := Kd.R_reads hr
  exact ⟨A, c, e, h1, h2⟩
theorem make_shares (w : World) (n : Nat) (h : n ≤ 16) : ∃ w', (Instr.makeSlice 23 (.int .i64 (n : Int)) (.int .i64 (n : Int))).run Tryz.prog w = .ok (.slice (some ⟨w.heap.size, 0, none⟩) n n) w' ∧ Kd.R k25 25 w' w.heap.size (fun _ => True) (.slice (some ⟨w.heap.size, 0, none⟩) n n) (List.replicate n z25) ∧ Below w.heap.size w w' := by
  obtain ⟨i0, hi, hz0, hz1, hz2⟩ := info_parts info25
  obtain ⟨w', hr, ho, hg⟩ := run_make_full (P := Tryz.prog) w w.heap.size 23 25 i0 _ 2 Tryz.underlying23 hi hz0 hz1 .i64 .i64 n (by rw [hz2]; omega) (by unfold maxLen; omega) (Nat.le_refl _)
  refine ⟨w', hr, ⟨fun _ _ => trivial, _, by rw [List.length_replicate]; exact ho, Kd.reps_made (z := .agg #[(.int .i64 0), (.int .i64 0)]) rfl (by decide) ?_ n⟩, pw_below_grown (Below.refl _ _) none (Nat.le_refl _) hg (fun k hk => by cases hk)⟩
  exact k25_mkM _ _ _ z25
theorem append_ints {w : World} (s : Int) (A : Option Addr) (c : Nat) (l p : List Int) (ty : TypeId) (hp : p = s :: l) (hC : Kd.C (Kd.int .i64) w A l.length l) (hc : l.length ≤ c) (h15 : l.length ≤ 100) :
    ∃ A' c' w', (Builtin.append_ #[117, 22] ty #[.slice (some ⟨w.heap.size, 0, none⟩) 1 1, .slice A l.length c]).run Tryz.prog (w.alloc (.cells #[.int .i64 s] 3)) = .ok (.slice A' p.length c') w' ∧
      p.length ≤ c' ∧ Kd.C (Kd.int .i64) w' A' p.length p ∧ Below w.heap.size w w' := by
  subst hp
  rw [ObsMap.append_types (e := 3) (e' := 3) Tryz.underlying117 Tryz.underlying22]
  obtain ⟨i0, hi, hz0, hz1, hz2⟩ := info_parts info3
  have hsz : (w.alloc (.cells #[.int .i64 s] 3)).heap.size = w.heap.size + 1 := by show (w.heap.push _).size = _; simp
  have hown : (w.alloc (.cells #[.int .i64 s] 3)).ownsRow w.heap.size 3 1 (.slice (some ⟨w.heap.size, 0, none⟩) 1 1) 1 [.int .i64 s] :=
    ⟨rfl, .inr ⟨w.heap.size, 1, #[.int .i64 s], rfl, Nat.le_refl _, heap_last w _, Nat.le_refl _, by unfold maxLen; omega, rfl, rfl⟩⟩
  have fin : ∀ v' w', w'.ownsRow w.heap.size 3 1 v' (1 + l.length) ([.int .i64 s] ++ l.map (Value.int .i64)) → (w.alloc (.cells #[.int .i64 s] 3)).grownBy w' (some w.heap.size) →
      ∃ A' c', v' = .slice A' (s :: l).length c' ∧ (s :: l).length ≤ c' ∧ Kd.C (Kd.int .i64) w' A' (s :: l).length (s :: l) ∧ Below w.heap.size w w' := by
    intro v' w' ho hg
    have ho' : w'.ownsRow w.heap.size 3 1 v' (s :: l).length ((s :: l).map (Value.int .i64)) := by
      rw [show (s :: l).length = 1 + l.length by simp; omega]; exact ho
    obtain ⟨A', c', e, h1, h2⟩ := ints_read ho'
    exact ⟨A', c', e, h1, h2, (((Below.refl _ _).alloc (Nat.le_refl _) _).grown hg (by rw [hsz]; omega) (fun k hk => by injection hk with hk; omega))⟩
  cases A with
  | some ad =>
    have hcells : ∀ j u, (l.map (Value.int .i64))[j]? = some u → (w.alloc (.cells #[.int .i64 s] 3)).cell? (ad.add j) = some u := by
      intro j u hu
      rw [List.getElem?_map] at hu
      obtain ⟨x, hx, rfl⟩ := Option.map_eq_some_iff.1 hu
      have hlt := (List.getElem?_eq_some_iff.1 hx).1
      have hC' := Kd.C_alloc hC (.cells #[.int .i64 s] 3)
      obtain ⟨ad', e, hc'⟩ := Kd.at_int hC' (j : Int) (by omega) (by omega)
      obtain rfl := Option.some.inj e
      rw [Int.toNat_natCast] at hc'
      rw [hc', rd_at hlt]
      rw [List.getElem?_eq_getElem hlt] at hx
      rw [Option.some.inj hx]
    obtain ⟨v', w', hr, ho, hg, _⟩ := run_append_own (P := Tryz.prog) (w := w.alloc (.cells #[.int .i64 s] 3)) w.heap.size 117 ty 3 i0 (.int .i64 0) 1 8 Tryz.underlying117 hi hz0 hz1 hz2 rfl (by decide)
      (.slice (some ⟨w.heap.size, 0, none⟩) 1 1) 1 [.int .i64 s] hown ad l.length c (l.map (Value.int .i64)) (by simp) hcells (fun u hu => by obtain ⟨x, _, rfl⟩ := List.mem_map.1 hu; rfl) (by unfold maxLen; omega) (by omega) (by rw [hsz]; omega)
    obtain ⟨A', c', rfl, h1, h2, h3⟩ := fin v' w' ho hg
    exact ⟨A', c', w', hr, h1, h2, h3⟩
  | none =>
    have hl : l = [] := by
      cases l with
      | nil => rfl
      | cons x l =>
        obtain ⟨ad, e, _⟩ := hC.2.2 (by simp)
        cases e
    subst hl
    have hr : (Builtin.append_ #[117, 117] ty #[.slice (some ⟨w.heap.size, 0, none⟩) 1 1, .slice none 0 c]).run Tryz.prog (w.alloc (.cells #[.int .i64 s] 3)) = .ok (.slice (some ⟨w.heap.size, 0, none⟩) 1 1) (w.alloc (.cells #[.int .i64 s] 3)) := by
      unfold Builtin.append_
      go_simp
    obtain ⟨A', c', e, h1, h2, h3⟩ := fin _ (w.alloc (.cells #[.int .i64 s] 3)) hown ⟨rfl, rfl, rfl, Nat.le_refl _, fun _ _ _ => rfl⟩
    exact ⟨A', c', _, hr.trans (by rw [e]), h1, h2, h3⟩
set_option maxHeartbeats 1000000 in
theorem split_walk (secret : Int) (need : Int) (n : Nat) (A : Option Addr) (c : Nat) (l : List Int) (w : World) (hC0 : Kd.C (Kd.int .i64) w A l.length l) (hc : l.length ≤ c)
    (t1 : 1 ≤ n) (t2 : n ≤ 16) (n1 : 1 ≤ need) (n2 : need ≤ n) (hl : (l.length : Int) = need - 1) :
    Calls Tryz.prog 17 #[.int .i64 secret, .int .i64 need, .int .i64 (n : Int), .slice A l.length c] w (SPost (splitF secret need n l) w) := by
  obtain ⟨p, hp⟩ : ∃ p, p = secret :: l := ⟨_, rfl⟩
  have HA := append_ints secret A c l p 117 hp hC0 hc (by omega)
  obtain ⟨A1, c1, w1, hrun, hc1, hC1, hb1⟩ := HA
  have HC1 := Aside0.mk hC1
  have HB1 := Aside0.mk hb1
  have hp16 : p.length ≤ 16 := by rw [hp, List.length_cons]; omega
  have HP := Aside0.mk hp
  have g1 : ¬ ((n : Int) < 1) := by omega
  have g2 : ¬ ((n : Int) > 16) := by omega
  have g3 : ¬ (need < 1) := by omega
  have g4 : ¬ (need > (n : Int)) := by omega
  have HSA := Aside0.mk (show ¬ splitArg need (n : Int) l from by rintro (h | h | h | h | h) <;> first | omega | exact h hl)
  clear hC1 hb1 hC0 hp
  go_enter Tryz.func17, Tryz.ntmps17
  go_wp2_with (at_builtin; refine ObsMap.wpList_append_of rfl _ _ 117 22 rfl _ _ rfl rfl _ _ hrun ?_)
  clear hrun
  go_loopg [46] p.length (fun g v46 wr => ∃ k : Nat, k + g = p.length ∧ v46 = .int .i64 k ∧ Inv3 w wr A1 p k)
  case atStart => exact ⟨0, by omega, rfl, HC1.out, HB1.out, rfl⟩
  case round =>
    obtain ⟨k, hk, rfl, hI⟩ := hrel
    have HI := Aside0.mk hI
    clear hI
    by_cases hlt : k < p.length
    · have hlt' : (k : Int) < (p.length : Int) := by omega
      obtain ⟨ad, e0, a0⟩ := Kd.at_int HI.out.C (k : Int) (by omega) hlt'
      subst e0
      rw [Int.toNat_natCast, rd_at hlt] at a0
      cases hv : inP p[k] with
      | true =>
        have E1 := Aside0.mk (selem_eq p[k])
        rw [hv] at E1
        have HV := Aside0.mk hv
        clear hv
        go_wp2_with fail
        refine (shares_element.calls _ true _ E1.out).mono ?_
        rintro e w' ⟨rfl, ⟨nd, rfl⟩⟩
        go_wp2_with fail
        go_roundg (gk - 1)
        case rel =>
          refine ⟨k + 1, by omega, by go_num, Kd.C_drewN HI.out.C nd, pw_below_drewN HI.out.bl nd, ?_⟩
          rw [List.take_succ_eq_append_getElem hlt, List.all_append, HI.out.ok]
          simp [HV.out]
        case measure => omega
      | false =>
        have E1 := Aside0.mk (selem_eq p[k])
        rw [hv] at E1
        have HR := Aside0.mk (show splitF secret need n l = ([], 1) from by
          unfold splitF
          rw [if_neg HSA.out, if_pos]
          rw [← HP.out, List.all_eq_false]
          exact ⟨p[k], List.getElem_mem hlt, by rw [hv]; simp⟩)
        clear hv
        go_wp2_with fail
        refine (shares_element.calls _ false _ E1.out).mono ?_
        rintro e w' ⟨rfl, ⟨nd, rfl⟩⟩
        go_wp2_with fail
        go_ret2
        rw [HR.out]
        exact SPost.arg (pw_below_drewN HI.out.bl nd)
    · obtain rfl : k = p.length := by omega
      have hpa : p.all inP = true := by have := HI.out.ok; rwa [List.take_length] at this
      have HPA := Aside0.mk hpa
      clear hpa
      go_wp2_with fail
      obtain ⟨W1, hmk, hR1, hB1⟩ := make_shares wr n t2
      obtain ⟨g, hgg⟩ : ∃ g, wr.heap.size = g := ⟨_, rfl⟩
      rw [hgg] at hmk hR1 hB1
      have HR1 := Aside0.mk hR1
      have HB2 := Aside0.mk hB1
      have HG := Aside0.mk hgg
      clear hR1 hB1 hgg
      go_wp2_with fail
      rw [hmk]
      go_wp2_with fail
      clear hmk
      go_loopg [59] n (fun gk v59 wr' => ∃ i : Nat, i + gk = n ∧ v59 = .int .i64 i ∧ Inv4 g wr wr' p n i)
      case atStart => exact ⟨0, by omega, rfl, HB2.out, by rw [made_zero]; exact HR1.out⟩
      case round =>
        obtain ⟨i, hi, rfl, hI4⟩ := hrel
        have HI4 := Aside0.mk hI4
        clear hI4
        by_cases hlt2 : i < n
        · have hlt2' : (i : Int) < (n : Int) := by omega
          have HCp := Aside0.mk (Kd.C_below HI.out.C (by rw [HG.out]; exact HI4.out.bl))
          have HX := Aside0.mk (show inP ((i : Int) + 1) = true by unfold inP; simp; omega)
          go_wp2_with fail
          refine (shares_poly_at.calls 18 A1 c1 p ((i : Int) + 1) _ _ _ HCp.out hc1 (at_eq (Nat.le_refl _) hp16 HPA.out HX.out)).mono ?_
          rintro e w' ⟨rfl, ⟨nd, rfl⟩⟩
          obtain ⟨y, hy⟩ : ∃ y, y = evI p ((i : Int) + 1) := ⟨_, rfl⟩
          have HY := Aside0.mk hy
          rw [← hy]
          clear hy
          have hRn := Kd.R_drewN HI4.out.R nd
          obtain ⟨ce, hcl, hM, hcc, hfr⟩ := Kd.R_elem hRn z25 (i : Int) (by omega) hlt2'
          have hS := Kd.R_seg hRn (i : Int) (by omega) hlt2' (seg := [.int .i64 ((i : Int) + 1), .int .i64 y]) (j := 0) hcl hcc (show 2 ≤ 2 from by decide) (x' := (⟨(i : Int) + 1, y⟩ : S25)) (by have := k25_openM hM; subst this; exact k25_mkM _ _ _ (⟨(i : Int) + 1, y⟩ : S25)) (fun _ hk => hk)
          have HS := Aside0.mk hS
          obtain rfl := k25_openM hM
          have hx0 : World.cell? (wr.drewN nd) ⟨g, i * 2, none⟩ = _ := hcc 0 _ rfl
          have hx1 : World.cell? (wr.drewN nd) ⟨g, i * 2 + 1, none⟩ = _ := hcc 1 _ rfl
          have hf0 : World.frozen? (wr.drewN nd) ⟨g, i * 2, none⟩ = false := hfr 0
          have hf1 : World.frozen? (wr.drewN nd) ⟨g, i * 2 + 1, none⟩ = false := hfr 1
          clear hRn hS hcl hM hcc hfr
          go_wp2_with fail
          go_roundg (gk - 1)
          case rel =>
            refine ⟨i + 1, by omega, by go_num, pw_below_grown (pw_below_drewN HI4.out.bl nd) (some g) ?_ HS.out.2 (fun k hk => by injection hk with hk; omega), ?_⟩
            · exact HG.out ▸ HI4.out.bl.size
            · have h3 := HS.out.1
              rw [HY.out, Int.toNat_natCast, made_set p hlt2, ← HY.out] at h3
              exact h3
          case measure => omega
        · obtain rfl : i = n := by omega
          go_wp2_with fail
          go_ret2
          have HF : splitF secret need (i : Int) l = (shareList p i, 0) := by
            unfold splitF
            rw [if_neg HSA.out, if_neg (by rw [← HP.out, HPA.out]; simp), HP.out, Int.toNat_natCast]
          rw [HF]
          have h4 := HI4.out.R
          rw [made_all] at h4
          have hb := HI4.out.bl
          have hG := HG.out
          subst hG
          exact ⟨_, rfl, Kd.R_lower h4 (below_size HI.out.bl), below_step HI.out.bl hb⟩
set_option maxHeartbeats 1000000 in
theorem split_any (secret need total : Int) (A : Option Addr) (c : Nat) (l : List Int) (w : World) (hC0 : Kd.C (Kd.int .i64) w A l.length l) (hc : l.length ≤ c) :
    Calls Tryz.prog 17 #[.int .i64 secret, .int .i64 need, .int .i64 total, .slice A l.length c] w (SPost (splitF secret need total l) w) := by
  by_cases ha : splitArg need total l
  · have HF : splitF secret need total l = ([], 1) := by unfold splitF; rw [if_pos ha]
    rw [HF]
    have hw : ∀ x, wrap64 (x - 1) = wrap64 (x - 1) := fun _ => rfl
    go_enter Tryz.func17, Tryz.ntmps17
    by_cases t1 : total < 1
    · go_wp2_with fail
      go_ret2
      exact SPost.arg (Below.refl _ _)
    by_cases t2 : total > 16
    · go_wp2_with fail
      go_ret2
      exact SPost.arg (Below.refl _ _)
    by_cases n1 : need < 1
    · go_wp2_with fail
      go_ret2
      exact SPost.arg (Below.refl _ _)
    by_cases n2 : need > total
    · go_wp2_with fail
      go_ret2
      exact SPost.arg (Below.refl _ _)
    have hl : (l.length : Int) ≠ need - 1 := by
      rcases ha with h | h | h | h | h
      · exact absurd h t1
      · exact absurd h t2
      · exact absurd h n1
      · exact absurd h n2
      · exact h
    clear ha
    go_wp2_with fail
    go_ret2
    exact SPost.arg (Below.refl _ _)
  · have hl : (l.length : Int) = need - 1 := by
      unfold splitArg at ha
      exact Classical.byContradiction fun h => ha (.inr (.inr (.inr (.inr h))))
    have t1 : ¬ total < 1 := fun h => ha (.inl h)
    have t2 : ¬ total > 16 := fun h => ha (.inr (.inl h))
    have n1 : ¬ need < 1 := fun h => ha (.inr (.inr (.inl h)))
    have n2 : ¬ need > total := fun h => ha (.inr (.inr (.inr (.inl h))))
    obtain ⟨n, rfl⟩ := Int.eq_ofNat_of_zero_le (show 0 ≤ total by omega)
    exact split_walk secret need n A c l w hC0 hc (by omega) (by omega) (by omega) (by omega) hl
def shares_Split.f (a0 a1 a2 : Int) (l3 : List Int) : Option (List S25 × Int) := some (splitF a0 a1 a2 l3)
theorem shares_Split.calls (a0 a1 a2 : Int) (A3 : Option Addr) (c3 : Nat) (l3 : List Int) (r1 : List S25) (r2 : Int) (w : World) (hr3 : Kd.C (Kd.int .i64) w A3 l3.length l3) (hc3 : l3.length ≤ c3) (h : shares_Split.f a0 a1 a2 l3 = some (r1, r2)) :
    Calls Tryz.prog 17 #[.int .i64 a0, .int .i64 a1, .int .i64 a2, .slice A3 l3.length c3] w fun e w' => ∃ v0_ : Value, e = .returned (.tuple #[v0_, .int .i64 r2]) ∧ Kd.R k25 25 w' w.heap.size (fun _ => True) v0_ r1 ∧ Below w.heap.size w w' := by
  have h' : splitF a0 a1 a2 l3 = (r1, r2) := Option.some.inj h
  have hh := split_any a0 a1 a2 A3 c3 l3 w hr3 hc3
  rw [h'] at hh
  exact hh
end Go.Proofs.YtddikdpbhjgihaaGreatDoor.X
end
section
namespace Go.Proofs
open Go.Shelf
def Tryz.lays169_ren : Go.Shelf.Ren := ⟨fun | 169 => 162 | n => n, fun | 70 => 181 | 9 => 9 | 0 => 0 | 72 => 183 | 37 => 110 | 127 => 203 | 3 => 3 | 5 => 5 | n => n, fun | n => n⟩
theorem Tryz.lays169 : Go.Proofs.Lays.n169 Tryz.prog Tryz.lays169_ren := {
  mixed := by kernel_rfl
  f169 := Tryz.func162.trans (congrArg some (by kernel_rfl))
  t0 := Tryz.underlying0
  a0 := Tryz.isAgg0
  z0 := Tryz.sizeOf0
  v0 := Tryz.zeroValue0
  t3 := Tryz.underlying3
  a3 := Tryz.isAgg3
  z3 := Tryz.sizeOf3
  v3 := Tryz.zeroValue3
  t9 := Tryz.underlying9
  a9 := Tryz.isAgg9
  z9 := Tryz.sizeOf9
  v9 := Tryz.zeroValue9
  t37 := Tryz.underlying110
  a37 := Tryz.isAgg110
  z37 := Tryz.sizeOf110
  v37 := Tryz.zeroValue110
  t70 := Tryz.underlying181
  a70 := Tryz.isAgg181
  z70 := Tryz.sizeOf181
  v70 := Tryz.zeroValue181
  t72 := Tryz.underlying183
  a72 := Tryz.isAgg183
  z72 := Tryz.sizeOf183
  v72 := Tryz.zeroValue183
  t127 := Tryz.underlying203
  a127 := Tryz.isAgg203
  z127 := Tryz.sizeOf203
  v127 := Tryz.zeroValue203 }
theorem Tryz.Builder_Extra_169 : Builder.Extra Tryz.prog Tryz.lays169_ren := {
  sizeBuilder := by kernel_rfl
  liesBuilder := by kernel_rfl
  t5 := Tryz.underlying5
  a5 := Tryz.isAgg5
  z5 := Tryz.sizeOf5
  v5 := Tryz.zeroValue5
  infoByte := by kernel_rfl
  cellsByte := by kernel_rfl
  sizeByte := by kernel_rfl
  neB5 := by decide }
open Go.RowKit in
theorem Tryz.Builder_String_any (B b : Nat) (l : List UInt8) (w : World) (h : Lib.IsBuilder 183 5 B b (Lib.byteCells l) w) (hBw : B ≤ w.heap.size) :
    Calls Tryz.prog 162 #[.pointer (some ⟨b, 0, none⟩)] w fun e w' => e = .returned (.string ⟨l.toArray⟩) ∧ Below B w w' := Any.Builder_String_any Tryz.lays169 Tryz.Builder_Extra_169 B b l w h hBw
def Tryz.lays160_ren : Go.Shelf.Ren := ⟨fun | 160 => 151 | 232 => 167 | 231 => 166 | 227 => 168 | 234 => 170 | 233 => 169 | 236 => 172 | 235 => 171 | 228 => 181 | 271 => 184 | 151 => 183 | 197 => 182 | 120 => 199 | 152 => 198 | 260 => 197 | 137 => 215 | 119 => 216 | 224 => 217 | 225 => 218 | 217 => 224 | 266 => 225 | n => n, fun | 9 => 9 | 4 => 4 | 3 => 3 | 5 => 5 | 117 => 193 | 116 => 192 | 0 => 0 | 124 => 196 | 21 => 21 | 105 => 206 | 46 => 169 | 119 => 239 | 139 => 242 | 138 => 241 | n => n, fun | 3 => 1 | 4 => 2 | n => n⟩
theorem Tryz.lays160 : Go.Proofs.Lays.n160 Tryz.prog Tryz.lays160_ren := {
  mixed := by kernel_rfl
  f119 := Tryz.func216.trans (congrArg some (by kernel_rfl))
  f120 := Tryz.func199.trans (congrArg some (by kernel_rfl))
  f137 := Tryz.func215.trans (congrArg some (by kernel_rfl))
  f151 := Tryz.func183.trans (congrArg some (by kernel_rfl))
  f152 := Tryz.func198.trans (congrArg some (by kernel_rfl))
  f160 := Tryz.func151.trans (congrArg some (by kernel_rfl))
  f197 := Tryz.func182.trans (congrArg some (by kernel_rfl))
  f217 := Tryz.func224.trans (congrArg some (by kernel_rfl))
  f224 := Tryz.func217.trans (congrArg some (by kernel_rfl))
  f225 := Tryz.func218.trans (congrArg some (by kernel_rfl))
  f227 := Tryz.func168.trans (congrArg some (by kernel_rfl))
  f228 := Tryz.func181.trans (congrArg some (by kernel_rfl))
  f231 := Tryz.func166.trans (congrArg some (by kernel_rfl))
  f232 := Tryz.func167.trans (congrArg some (by kernel_rfl))
  f233 := Tryz.func169.trans (congrArg some (by kernel_rfl))
  f234 := Tryz.func170.trans (congrArg some (by kernel_rfl))
  f235 := Tryz.func171.trans (congrArg some (by kernel_rfl))
  f236 := Tryz.func172.trans (congrArg some (by kernel_rfl))
  f260 := Tryz.func197.trans (congrArg some (by kernel_rfl))
  f266 := Tryz.func225.trans (congrArg some (by kernel_rfl))
  f271 := Tryz.func184.trans (congrArg some (by kernel_rfl))
  t0 := Tryz.underlying0
  a0 := Tryz.isAgg0
  z0 := Tryz.sizeOf0
  v0 := Tryz.zeroValue0
  t3 := Tryz.underlying3
  a3 := Tryz.isAgg3
  z3 := Tryz.sizeOf3
  v3 := Tryz.zeroValue3
  t4 := Tryz.underlying4
  a4 := Tryz.isAgg4
  z4 := Tryz.sizeOf4
  v4 := Tryz.zeroValue4
  t5 := Tryz.underlying5
  a5 := Tryz.isAgg5
  z5 := Tryz.sizeOf5
  v5 := Tryz.zeroValue5
  t9 := Tryz.underlying9
  a9 := Tryz.isAgg9
  z9 := Tryz.sizeOf9
  v9 := Tryz.zeroValue9
  t21 := Tryz.underlying21
  a21 := Tryz.isAgg21
  z21 := Tryz.sizeOf21
  v21 := Tryz.zeroValue21
  t46 := Tryz.underlying169
  a46 := Tryz.isAgg169
  z46 := Tryz.sizeOf169
  v46 := Tryz.zeroValue169
  t105 := Tryz.underlying206
  a105 := Tryz.isAgg206
  z105 := Tryz.sizeOf206
  v105 := Tryz.zeroValue206
  t116 := Tryz.underlying192
  a116 := Tryz.isAgg192
  z116 := Tryz.sizeOf192
  t117 := Tryz.underlying193
  a117 := Tryz.isAgg193
  z117 := Tryz.sizeOf193
  v117 := Tryz.zeroValue193
  t119 := Tryz.underlying239
  a119 := Tryz.isAgg239
  z119 := Tryz.sizeOf239
  t124 := Tryz.underlying196
  a124 := Tryz.isAgg196
  z124 := Tryz.sizeOf196
  v124 := Tryz.zeroValue196
  t138 := Tryz.underlying241
  a138 := Tryz.isAgg241
  z138 := Tryz.sizeOf241
  v138 := Tryz.zeroValue241
  t139 := Tryz.underlying242
  a139 := Tryz.isAgg242
  z139 := Tryz.sizeOf242
  v139 := Tryz.zeroValue242
  g3 := by kernel_rfl
  g4 := by kernel_rfl }
def Tryz.laysM171_ren : Go.Shelf.Ren := ⟨fun | 171 => 133 | 243 => 163 | 246 => 180 | 283 => 193 | 284 => 194 | 285 => 195 | 286 => 196 | 129 => 211 | 317 => 210 | 318 => 212 | 319 => 213 | 320 => 214 | 337 => 222 | 338 => 223 | n => n, fun | 3 => 3 | 9 => 9 | 2 => 2 | 4 => 4 | 171 => 219 | 0 => 0 | 53 => 171 | 37 => 110 | 5 => 5 | 173 => 222 | 212 => 236 | 51 => 230 | 20 => 20 | 213 => 237 | 46 => 169 | 232 => 254 | 233 => 255 | n => n, fun | 17 => 0 | 18 => 6 | 19 => 7 | n => n⟩
theorem Tryz.laysM171 : Go.Proofs.LaysM.n171 Tryz.prog Tryz.laysM171_ren := {
  mixed := by kernel_rfl
  f129 := Tryz.func211.trans (congrArg some (by kernel_rfl))
  f171 := Tryz.func133.trans (congrArg some (by kernel_rfl))
  f243 := Tryz.func163.trans (congrArg some (by kernel_rfl))
  f246 := Tryz.func180.trans (congrArg some (by kernel_rfl))
  f283 := Tryz.func193.trans (congrArg some (by kernel_rfl))
  f284 := Tryz.func194.trans (congrArg some (by kernel_rfl))
  f285 := Tryz.func195.trans (congrArg some (by kernel_rfl))
  f286 := Tryz.func196.trans (congrArg some (by kernel_rfl))
  f317 := Tryz.func210.trans (congrArg some (by kernel_rfl))
  f318 := Tryz.func212.trans (congrArg some (by kernel_rfl))
  f319 := Tryz.func213.trans (congrArg some (by kernel_rfl))
  f320 := Tryz.func214.trans (congrArg some (by kernel_rfl))
  f337 := Tryz.func222.trans (congrArg some (by kernel_rfl))
  f338 := Tryz.func223.trans (congrArg some (by kernel_rfl))
  t0 := Tryz.underlying0
  a0 := Tryz.isAgg0
  z0 := Tryz.sizeOf0
  v0 := Tryz.zeroValue0
  t2 := Tryz.underlying2
  a2 := Tryz.isAgg2
  z2 := Tryz.sizeOf2
  v2 := Tryz.zeroValue2
  t3 := Tryz.underlying3
  a3 := Tryz.isAgg3
  z3 := Tryz.sizeOf3
  v3 := Tryz.zeroValue3
  t4 := Tryz.underlying4
  a4 := Tryz.isAgg4
  z4 := Tryz.sizeOf4
  v4 := Tryz.zeroValue4
  t5 := Tryz.underlying5
  a5 := Tryz.isAgg5
  z5 := Tryz.sizeOf5
  v5 := Tryz.zeroValue5
  t9 := Tryz.underlying9
  a9 := Tryz.isAgg9
  z9 := Tryz.sizeOf9
  v9 := Tryz.zeroValue9
  t20 := Tryz.underlying20
  a20 := Tryz.isAgg20
  z20 := Tryz.sizeOf20
  v20 := Tryz.zeroValue20
  t37 := Tryz.underlying110
  a37 := Tryz.isAgg110
  z37 := Tryz.sizeOf110
  v37 := Tryz.zeroValue110
  t46 := Tryz.underlying169
  a46 := Tryz.isAgg169
  z46 := Tryz.sizeOf169
  v46 := Tryz.zeroValue169
  t51 := Tryz.underlying230
  a51 := Tryz.isAgg230
  z51 := Tryz.sizeOf230
  v51 := Tryz.zeroValue230
  t53 := Tryz.underlying171
  a53 := Tryz.isAgg171
  z53 := Tryz.sizeOf171
  v53 := Tryz.zeroValue171
  t171 := Tryz.underlying219
  a171 := Tryz.isAgg219
  z171 := Tryz.sizeOf219
  v171 := Tryz.zeroValue219
  t173 := Tryz.underlying222
  a173 := Tryz.isAgg222
  z173 := Tryz.sizeOf222
  v173 := Tryz.zeroValue222
  t212 := Tryz.underlying236
  a212 := Tryz.isAgg236
  z212 := Tryz.sizeOf236
  v212 := Tryz.zeroValue236
  t213 := Tryz.underlying237
  a213 := Tryz.isAgg237
  z213 := Tryz.sizeOf237
  t232 := Tryz.underlying254
  a232 := Tryz.isAgg254
  z232 := Tryz.sizeOf254
  v232 := Tryz.zeroValue254
  t233 := Tryz.underlying255
  a233 := Tryz.isAgg255
  z233 := Tryz.sizeOf255
  v233 := Tryz.zeroValue255
  g17 := by kernel_rfl
  g18 := by kernel_rfl
  g19 := by kernel_rfl
  i0 := by kernel_rfl
  i2 := by kernel_rfl
  i3 := by kernel_rfl
  i4 := by kernel_rfl
  i5 := by kernel_rfl
  i9 := by kernel_rfl
  i20 := by kernel_rfl
  i37 := by kernel_rfl
  i46 := by kernel_rfl
  i51 := by kernel_rfl
  i53 := by kernel_rfl
  i171 := by kernel_rfl
  i173 := by kernel_rfl
  i212 := by kernel_rfl
  i232 := by kernel_rfl
  i233 := by kernel_rfl
  m17 := by kernel_rfl
  m18 := by kernel_rfl
  m19 := by kernel_rfl }
open Go.RowKit Go.Sort Go.Lib in
theorem Tryz.strconv_Itoa (n : Int) (h0 : -9223372036854775808 ≤ n) (h1 : n ≤ 9223372036854775807) (w : World) (htab : Lib.TabIs Tryz.prog w "internal/strconv.uint64pow10" .u64 Lib.pow10Tab) :
    Calls Tryz.prog 133 #[.int .i64 n] w fun e w' => e = .returned (.string ⟨(Lib.itoa n).toArray⟩) ∧ ∃ k os, w' = grow (w.drewN k) os := Any.strconv_Itoa Tryz.laysM171 n h0 h1 w htab
def Tryz.lays212_ren : Go.Shelf.Ren := ⟨fun | 212 => 189 | 263 => 206 | 264 => 207 | n => n, fun | 46 => 169 | 51 => 230 | 146 => 231 | 53 => 171 | 148 => 233 | n => n, fun | n => n⟩
theorem Tryz.lays212 : Go.Proofs.Lays.n212 Tryz.prog Tryz.lays212_ren := {
  mixed := by kernel_rfl
  f212 := Tryz.func189.trans (congrArg some (by kernel_rfl))
  f263 := Tryz.func206.trans (congrArg some (by kernel_rfl))
  f264 := Tryz.func207.trans (congrArg some (by kernel_rfl))
  t46 := Tryz.underlying169
  a46 := Tryz.isAgg169
  z46 := Tryz.sizeOf169
  v46 := Tryz.zeroValue169
  t51 := Tryz.underlying230
  a51 := Tryz.isAgg230
  z51 := Tryz.sizeOf230
  v51 := Tryz.zeroValue230
  t53 := Tryz.underlying171
  a53 := Tryz.isAgg171
  z53 := Tryz.sizeOf171
  v53 := Tryz.zeroValue171
  t146 := Tryz.underlying231
  a146 := Tryz.isAgg231
  z146 := Tryz.sizeOf231
  v146 := Tryz.zeroValue231
  t148 := Tryz.underlying233
  a148 := Tryz.isAgg233
  z148 := Tryz.sizeOf233
  v148 := Tryz.zeroValue233 }
open Go.RowKit Go.Lib in
theorem Tryz.bits_Mul (x y : Nat) (hx : x < 18446744073709551616) (hy : y < 18446744073709551616) (w : World) :
    Calls Tryz.prog 189 #[.int .u64 x, .int .u64 y] w fun e w' => e = .returned (.tuple #[.int .u64 ((x * y / 18446744073709551616 : Nat) : Int), .int .u64 ((x * y % 18446744073709551616 : Nat) : Int)]) ∧ w' = w := Any.bits_Mul Tryz.lays212 x y hx hy w
def Tryz.laysNm216_ren : Go.Shelf.Ren := ⟨fun | 16 => 135 | n => n, fun | 24 => 26 | 9 => 9 | 4 => 4 | n => n, fun | n => n⟩
theorem Tryz.laysNm216 : Go.Proofs.Lays2.n16 Tryz.prog Tryz.laysNm216_ren := {
  mixed := by kernel_rfl
  f16 := Tryz.func135.trans (congrArg some (by kernel_rfl))
  t4 := Tryz.underlying4
  a4 := Tryz.isAgg4
  z4 := Tryz.sizeOf4
  v4 := Tryz.zeroValue4
  t9 := Tryz.underlying9
  a9 := Tryz.isAgg9
  z9 := Tryz.sizeOf9
  v9 := Tryz.zeroValue9
  t24 := Tryz.underlying26
  a24 := Tryz.isAgg26
  z24 := Tryz.sizeOf26
  v24 := Tryz.zeroValue26
  i9 := by kernel_rfl }
open Go.RowKit Go.Lib in
theorem Tryz.slices_Clone_string (b off n c : Nat) (zs : List ByteArray) (w : World) (hz : n ≤ zs.length) (hbig : n * 16 ≤ 140737488355328) (hc : ∀ j, j < zs.length → w.cell? ⟨b, off + j, none⟩ = some (.string (zs.getD j ByteArray.empty))) :
    Calls Tryz.prog 135 #[.slice (some ⟨b, off, none⟩) n c] w fun e w' => ∃ v', e = .returned v' ∧ w'.ownsRow w.heap.size 9 1 v' n ((zs.take n).map (Value.string)) ∧ v' ≠ .slice none 0 0 ∧ Below w.heap.size w w' := Any.slices_Clone_string Tryz.laysNm216 b off n c zs w hz hbig hc
open Go.RowKit Go.Lib in
theorem Tryz.slices_Clone_string_nil (n c : Nat) (w : World) :
    Calls Tryz.prog 135 #[.slice none n c] w fun e w' => e = .returned (.slice none 0 0) ∧ w' = w := Any.slices_Clone_string_nil Tryz.laysNm216 n c w
open Go.RowKit Go.Lib in
theorem Tryz.slices_Clone_string_zero (a : Addr) (c : Nat) (w : World) :
    Calls Tryz.prog 135 #[.slice (some a) 0 c] w fun e w' => ∃ v', e = .returned v' ∧ w'.ownsRow w.heap.size 9 1 v' 0 [] ∧ v' ≠ .slice none 0 0 ∧ Below w.heap.size w w' := Any.slices_Clone_string_zero Tryz.laysNm216 a c w
end Go.Proofs
end
section
namespace Go.Proofs.YtddikdpbhjgihaaGreatDoor.X
open Go.RowKit
set_option linter.unusedVariables false
def deTab : List Int := [0, 1, 56, 2, 57, 49, 28, 3, 61, 58, 42, 50, 38, 29, 17, 4, 62, 47, 59, 36, 45, 43, 51, 22, 53, 39, 33, 30, 24, 18, 12, 5, 63, 55, 48, 27, 60, 41, 37, 16, 46, 35, 44, 21, 52, 32, 23, 11, 54, 26, 40, 15, 34, 20, 31, 10, 25, 14, 19, 9, 13, 8, 7, 6]
structure GL (w : World) : Prop where
  p10 : Lib.TabBelow Tryz.prog w.heap.size w "internal/strconv.uint64pow10" .u64 Lib.pow10Tab
  de : Lib.TabBelow Tryz.prog w.heap.size w "math/bits.deBruijn64tab" .u8 deTab
theorem GL.mk_ {w : World} (h1 : Lib.TabIs Tryz.prog w "internal/strconv.uint64pow10" .u64 Lib.pow10Tab) (h2 : Lib.TabIs Tryz.prog w "math/bits.deBruijn64tab" .u8 deTab) : GL w :=
  ⟨Lib.tabBelow_of_tabIs h1, Lib.tabBelow_of_tabIs h2⟩
theorem GL.below {w w1 : World} (h : GL w) (hb : Below w.heap.size w w1) : GL w1 :=
  GL.mk_ (h.p10 w1 hb) (h.de w1 hb)
end Go.Proofs.YtddikdpbhjgihaaGreatDoor.X
end
section
namespace Go.Proofs.YtddikdpbhjgihaaGreatDoor.X
open Go.RowKit
set_option linter.unusedVariables false
def strconv_Itoa.f (a0 : Int) : Option ByteArray := if -9223372036854775808 ≤ a0 ∧ a0 ≤ 9223372036854775807 then some ⟨(Lib.itoa a0).toArray⟩ else none
theorem strconv_Itoa.calls (a0 : Int) (r : ByteArray) (w : World) (hgl : GL w) (h : strconv_Itoa.f a0 = some r) :
    Calls Tryz.prog 133 #[.int .i64 a0] w fun e w' => e = .returned (.string r) ∧ Below w.heap.size w w' := by
  unfold strconv_Itoa.f at h
  split at h
  · rename_i hr
    have e := Option.some.inj h
    subst e
    refine (Tryz.strconv_Itoa a0 hr.1 hr.2 w hgl.p10.here).mono ?_
    rintro e w' ⟨rfl, k, os, rfl⟩
    exact ⟨rfl, Lib.below_grow _ w (Nat.le_refl _) k os⟩
  · cases h
end Go.Proofs.YtddikdpbhjgihaaGreatDoor.X
end
section
namespace Go.Proofs.YtddikdpbhjgihaaGreatDoor.X
open Go.RowKit Go.Proofs.YtddikdpbhjgihaaGreatDoorW.PrintWords Go.Proofs.YtddikdpbhjgihaaGreatDoorW.PrintLast Go.Proofs.YtddikdpbhjgihaaGreatDoorW.PrintMore
attribute [local go_sem] max2_int min2_int max_two min_two max_three min_three max_four min_four   -- for this text's walks alone
set_option linter.unusedVariables false
set_option linter.unusedSimpArgs false
theorem eqA25 (d : Nat) (w : World) (x0 y0 : Int) (x1 y1 : Int) :
    (Op.equalIn (d + 2) 25 (.agg #[.int .i64 x0, .int .i64 x1]) (.agg #[.int .i64 y0, .int .i64 y1])).run Tryz.prog w = .ok (x0 == y0 && (x1 == y1)) w := by
  refine eqA_of Tryz.underlying25 (by kernel_rfl) ?_
  refine eqf_cons (by rfl) (by go_simp; rfl) (by go_simp; rfl) (by go_simp) ?_
  exact eqf_last (by rfl) (by go_simp; rfl) (by go_simp; rfl) (by go_simp)
end Go.Proofs.YtddikdpbhjgihaaGreatDoor.X
end
section
namespace Go.Proofs.YtddikdpbhjgihaaGreatDoor.X
open Go.RowKit Go.Proofs.YtddikdpbhjgihaaGreatDoorW.PrintWords Go.Proofs.YtddikdpbhjgihaaGreatDoorW.PrintLast Go.Proofs.YtddikdpbhjgihaaGreatDoorW.PrintMore
attribute [local go_sem] max2_int min2_int max_two min_two max_three min_three max_four min_four   -- for this text's walks alone
set_option linter.unusedVariables false
set_option linter.unusedSimpArgs false
attribute [local go_sem high] eqA25
mutual
def observatoryref01_Is.l0 : Nat → ByteArray → Int → Option (Bool)
  | 0, _, _ => none
  | k + 1, x0, x3 => if x3 < (x0.size : Int) then (observatoryref01_Is.j1 k x0 x3 (decide (x3 < 16))) else (observatoryref01_Is.j1 k x0 x3 false)
def observatoryref01_Is.j1 : Nat → ByteArray → Int → Bool → Option (Bool)
  | 0, _, _, _ => none
  | k + 1, x0, x3, x11 => if x11 = true then (if 0 ≤ x3 then (if x3 < (x0.size : Int) then ((observatoryref01_Digit.f k (bt x0 x3)).bind fun t264 => (if t264 < 0 then (some false) else (observatoryref01_Is.l0 k x0 (wrap64 (x3 + 1))))) else (none)) else (none)) else (some ((x0.size : Int) == 16))
end
def observatoryref01_Is.f (k : Nat) (a0 : ByteArray) : Option (Bool) := observatoryref01_Is.l0 k a0 0
set_option maxHeartbeats 8000000 in
set_option maxRecDepth 100000 in
theorem observatoryref01_Is.calls (k : Nat) (a0 : ByteArray) (r : Bool) (w : World) (h : observatoryref01_Is.f k a0 = some r) :
    Calls Tryz.prog 118 #[.string a0] w fun e w' => e = .returned (.bool r) ∧ Drawn0 w w' := by
  have H : (observatoryref01_Is.l0 k a0 0) = some r := h
  clear h
  have H' := Aside0.mk H
  clear H
  go_enter Tryz.func118, Tryz.ntmps118
  go_wp2
  go_loopg [3] k (fun kq v3 w' => ∃ (x3_1 : Int), v3 = .int .i64 x3_1 ∧ Aside0 (observatoryref01_Is.l0 kq a0 x3_1 = some r) ∧ Aside0 (kq ≤ k) ∧ Drawn0 w w')
  case atStart => exact ⟨(0), (by first | rfl | (simp; done) | (simp [*]; done)), H', ⟨Nat.le_refl _⟩, by repeat (first | exact Drawn0.refl _ | apply Drawn0.step)⟩
  case round =>
    clear H'
    try clear c1
    obtain ⟨x3_1, rfl, HA, HK1, ⟨m1, rfl⟩⟩ := hrel
    cases gk with
    | zero => exact absurd HA.out (by simp [observatoryref01_Is.l0])
    | succ k1 =>
      have H := HA.out
      clear HA
      simp only [observatoryref01_Is.l0] at H
      have HC2 := Aside0.mk H
      clear H
      go_upto_region 2 with (fail)
      go_cut [11] (fun v11 wc => ∃ (kq : Nat) (x11_1 : Bool), v11 = .bool x11_1 ∧ Aside0 (observatoryref01_Is.j1 kq a0 x3_1 x11_1 = some r) ∧ Aside0 (kq ≤ k1) ∧ Drawn0 w wc)
      case first =>
        have H := HC2.out
        clear HC2
        by_cases c3 : x3_1 < (a0.size : Int)
        · rw [if_pos c3] at H
          have c3b0 : decide (x3_1 < (a0.size : Int)) = true := decide_eq_true c3
          clear c3
          (first | rw [c3b0] | (simp only [i64_w, i32_w]; rw [c3b0]) | skip)
          have H' := Aside0.mk H
          clear H
          go_wp2
          go_meet
          case rel => exact ⟨_, (decide (x3_1 < 16)), (by first | rfl | (simp; done) | (simp [*]; done)), H', ⟨by have := HK1.out; first | omega | exact Nat.le_refl _⟩, by repeat (first | exact Drawn0.refl _ | apply Drawn0.step)⟩
        · rw [if_neg c3] at H
          have c3b0 : decide (x3_1 < (a0.size : Int)) = false := decide_eq_false c3
          clear c3
          (first | rw [c3b0] | (simp only [i64_w, i32_w]; rw [c3b0]) | skip)
          have H' := Aside0.mk H
          clear H
          go_wp2
          go_meet
          case rel => exact ⟨_, (false), (by first | rfl | (simp; done) | (simp [*]; done)), H', ⟨by have := HK1.out; first | omega | exact Nat.le_refl _⟩, by repeat (first | exact Drawn0.refl _ | apply Drawn0.step)⟩
      case rest =>
        clear HC2
        try clear c1
        try clear p2
        try clear c3
        try clear c3b0
        obtain ⟨kq, x11_1, rfl, HA, HJ1, ⟨mc1, rfl⟩⟩ := hcut
        cases kq with
        | zero => exact absurd HA.out (by simp [observatoryref01_Is.j1])
        | succ kj1 =>
          have H := HA.out
          clear HA
          simp only [observatoryref01_Is.j1] at H
          by_cases c4 : x11_1 = true
          · subst c4
            have H1 : (if 0 ≤ x3_1 then (if x3_1 < (a0.size : Int) then ((observatoryref01_Digit.f kj1 (bt a0 x3_1)).bind fun t264 => (if t264 < 0 then (some false) else (observatoryref01_Is.l0 kj1 a0 (wrap64 (x3_1 + 1))))) else (none)) else (none)) = some r := by rw [if_pos rfl] at H; exact H
            clear H
            have H := H1
            clear H1
            by_cases c5 : 0 ≤ x3_1
            · rw [if_pos c5] at H
              have c5b0 : decide (0 ≤ x3_1) = true := decide_eq_true c5
              clear c5
              by_cases c6 : x3_1 < (a0.size : Int)
              · rw [if_pos c6] at H
                have c6b0 : decide (x3_1 < (a0.size : Int)) = true := decide_eq_true c6
                clear c6
                replace H := Option.bind_eq_some_iff.mp H
                obtain ⟨t264, A80, H⟩ := H
                replace H : (if t264 < 0 then (some false) else (observatoryref01_Is.l0 kj1 a0 (wrap64 (x3_1 + 1)))) = some r := H
                have A8 := Aside0.mk A80
                clear A80
                by_cases c9 : t264 < 0
                · rw [if_pos c9] at H
                  have c9b0 : decide (t264 < 0) = true := decide_eq_true c9
                  clear c9
                  obtain rfl := Option.some.inj H
                  have p7 : 0 ≤ (x3_1 : Int) := of_decide_eq_true (by first | (with_reducible assumption) | assumption)
                  have q7 : x3_1 < (a0.size : Int) := of_decide_eq_true (by first | (with_reducible assumption) | assumption)
                  have hx7 := bt_at a0 x3_1
                  replace p7 := eq_true p7
                  replace q7 := eq_true q7
                  go_wp2_with (first | ((with_reducible refine gate_callee (f := 152) rfl ?_); refine goesL_ (some 17) rfl rfl Tryz.func152 (by kernel_rfl) rfl #[.int .u8 (bt a0 x3_1)] rfl (by (try simp only [List.map_toArray, List.map_cons, List.map_nil]); first | done | rfl | (simp only [List.length_drop, List.length_take]; rfl)) ?_; (with_reducible refine (observatoryref01_Digit.calls kj1 (bt a0 x3_1) t264 _ A8.out).mono ?_); rintro e w' ⟨rfl, ⟨nd, rfl⟩⟩; refine ⟨_, rfl, ?_⟩))
                  go_ret
                  exact ⟨by first | rfl | (simp; done) | (simp [*]; done), by repeat (first | exact Drawn0.refl _ | apply Drawn0.step)⟩
                · rw [if_neg c9] at H
                  have c9b0 : decide (t264 < 0) = false := decide_eq_false c9
                  clear c9
                  have H' := Aside0.mk H
                  clear H
                  have p7 : 0 ≤ (x3_1 : Int) := of_decide_eq_true (by first | (with_reducible assumption) | assumption)
                  have q7 : x3_1 < (a0.size : Int) := of_decide_eq_true (by first | (with_reducible assumption) | assumption)
                  have hx7 := bt_at a0 x3_1
                  replace p7 := eq_true p7
                  replace q7 := eq_true q7
                  go_wp2_with (first | ((with_reducible refine gate_callee (f := 152) rfl ?_); refine goesL_ (some 17) rfl rfl Tryz.func152 (by kernel_rfl) rfl #[.int .u8 (bt a0 x3_1)] rfl (by (try simp only [List.map_toArray, List.map_cons, List.map_nil]); first | done | rfl | (simp only [List.length_drop, List.length_take]; rfl)) ?_; (with_reducible refine (observatoryref01_Digit.calls kj1 (bt a0 x3_1) t264 _ A8.out).mono ?_); rintro e w' ⟨rfl, ⟨nd, rfl⟩⟩; refine ⟨_, rfl, ?_⟩))
                  go_roundg kj1
                  case measure => have := HK1.out; have := HJ1.out; omega
                  case rel => exact ⟨(wrap64 (x3_1 + 1)), (by first | rfl | (simp; done) | (simp [*]; done)), H', ⟨by have := HK1.out; have := HJ1.out; omega⟩, by repeat (first | exact Drawn0.refl _ | apply Drawn0.step)⟩
              · rw [if_neg c6] at H
                exact absurd H (by simp)
            · rw [if_neg c5] at H
              exact absurd H (by simp)
          · replace c4 := Bool.eq_false_iff.mpr c4
            subst c4
            have H1 : (some ((a0.size : Int) == 16)) = some r := by rw [if_neg (show ¬ (false = true) by decide)] at H; exact H
            clear H
            have H := H1
            clear H1
            obtain rfl := Option.some.inj H
            go_wp2
            go_ret
            exact ⟨by first | rfl | (simp; done) | (simp [*]; done), by repeat (first | exact Drawn0.refl _ | apply Drawn0.step)⟩
def observatoryref02_digests.l0 : Nat → List ByteArray → Int → Option (Bool)
  | 0, _, _ => none
  | k + 1, x0, x3 => if x3 < (x0.length : Int) then (if 0 ≤ x3 then ((observatoryref01_Is.f k (rdOf ByteArray.empty x0 x3)).bind fun t266 => (if t266 = true then (observatoryref02_digests.l0 k x0 (wrap64 (x3 + 1))) else (some false))) else (none)) else (some true)
def observatoryref02_digests.f (k : Nat) (l0 : List ByteArray) : Option (Bool) := observatoryref02_digests.l0 k l0 0
set_option maxHeartbeats 8000000 in
set_option maxRecDepth 100000 in
theorem observatoryref02_digests.calls (k : Nat) (A0 : Option Addr) (c0 : Nat) (l0 : List ByteArray) (r : Bool) (w : World) (hr0 : Kd.C Kd.string w A0 l0.length l0) (hc0 : l0.length ≤ c0) (h : observatoryref02_digests.f k l0 = some r) :
    Calls Tryz.prog 134 #[.slice A0 l0.length c0] w fun e w' => e = .returned (.bool r) ∧ Drawn0 w w' := by
  have HR0 := Aside0.mk hr0
  have HC0 := Aside0.mk hc0
  clear hr0 hc0
  have H : (observatoryref02_digests.l0 k l0 0) = some r := h
  clear h
  have H' := Aside0.mk H
  clear H
  go_enter Tryz.func134, Tryz.ntmps134
  go_wp2
  go_loopg [3] k (fun kq v3 w' => ∃ (x3_1 : Int), v3 = .int .i64 x3_1 ∧ Aside0 (observatoryref02_digests.l0 kq l0 x3_1 = some r) ∧ Aside0 (kq ≤ k) ∧ Drawn0 w w')
  case atStart => exact ⟨(0), (by first | rfl | (simp; done) | (simp [*]; done)), H', ⟨Nat.le_refl _⟩, by repeat (first | exact Drawn0.refl _ | apply Drawn0.step)⟩
  case round =>
    clear H'
    try clear c1
    obtain ⟨x3_1, rfl, HA, HK1, ⟨m1, rfl⟩⟩ := hrel
    cases gk with
    | zero => exact absurd HA.out (by simp [observatoryref02_digests.l0])
    | succ k1 =>
      have H := HA.out
      clear HA
      simp only [observatoryref02_digests.l0] at H
      by_cases c2 : x3_1 < (l0.length : Int)
      · rw [if_pos c2] at H
        have c2b0 : decide (x3_1 < (l0.length : Int)) = true := decide_eq_true c2
        clear c2
        by_cases c3 : 0 ≤ x3_1
        · rw [if_pos c3] at H
          have c3b0 : decide (0 ≤ x3_1) = true := decide_eq_true c3
          clear c3
          replace H := Option.bind_eq_some_iff.mp H
          obtain ⟨t266, A40, H⟩ := H
          replace H : (if t266 = true then (observatoryref02_digests.l0 k1 l0 (wrap64 (x3_1 + 1))) else (some false)) = some r := H
          have A4 := Aside0.mk A40
          clear A40
          by_cases c5 : t266 = true
          · subst c5
            have H1 : (observatoryref02_digests.l0 k1 l0 (wrap64 (x3_1 + 1))) = some r := by rw [if_pos rfl] at H; exact H
            clear H
            have H := H1
            clear H1
            have H' := Aside0.mk H
            clear H
            have p265 : 0 ≤ (x3_1 : Int) := of_decide_eq_true (by first | (with_reducible assumption) | assumption)
            have q265 : x3_1 < (l0.length : Int) := of_decide_eq_true (by first | (with_reducible assumption) | assumption)
            obtain ⟨ad265, e265, hx265_0⟩ := Kd.at_string HR0.out x3_1 p265 q265
            cases e265
            replace p265 := eq_true p265
            replace q265 := eq_true q265
            go_wp2_with (first | ((with_reducible refine gate_callee (f := 118) rfl ?_); refine goesL_ (some 14) rfl rfl Tryz.func118 (by kernel_rfl) rfl #[.string (rdOf ByteArray.empty l0 x3_1)] rfl (by (try simp only [List.map_toArray, List.map_cons, List.map_nil]); first | done | rfl | (simp only [List.length_drop, List.length_take]; rfl)) ?_; (with_reducible refine (observatoryref01_Is.calls k1 (rdOf ByteArray.empty l0 x3_1) true _ A4.out).mono ?_); rintro e w' ⟨rfl, ⟨nd, rfl⟩⟩; refine ⟨_, rfl, ?_⟩))
            go_roundg k1
            case measure => have := HK1.out; omega
            case rel => exact ⟨(wrap64 (x3_1 + 1)), (by first | rfl | (simp; done) | (simp [*]; done)), H', ⟨by have := HK1.out; omega⟩, by repeat (first | exact Drawn0.refl _ | apply Drawn0.step)⟩
          · replace c5 := Bool.eq_false_iff.mpr c5
            subst c5
            have H1 : (some false) = some r := by rw [if_neg (show ¬ (false = true) by decide)] at H; exact H
            clear H
            have H := H1
            clear H1
            obtain rfl := Option.some.inj H
            have p265 : 0 ≤ (x3_1 : Int) := of_decide_eq_true (by first | (with_reducible assumption) | assumption)
            have q265 : x3_1 < (l0.length : Int) := of_decide_eq_true (by first | (with_reducible assumption) | assumption)
            obtain ⟨ad265, e265, hx265_0⟩ := Kd.at_string HR0.out x3_1 p265 q265
            cases e265
            replace p265 := eq_true p265
            replace q265 := eq_true q265
            go_wp2_with (first | ((with_reducible refine gate_callee (f := 118) rfl ?_); refine goesL_ (some 14) rfl rfl Tryz.func118 (by kernel_rfl) rfl #[.string (rdOf ByteArray.empty l0 x3_1)] rfl (by (try simp only [List.map_toArray, List.map_cons, List.map_nil]); first | done | rfl | (simp only [List.length_drop, List.length_take]; rfl)) ?_; (with_reducible refine (observatoryref01_Is.calls k1 (rdOf ByteArray.empty l0 x3_1) false _ A4.out).mono ?_); rintro e w' ⟨rfl, ⟨nd, rfl⟩⟩; refine ⟨_, rfl, ?_⟩))
            go_ret
            exact ⟨by first | rfl | (simp; done) | (simp [*]; done), by repeat (first | exact Drawn0.refl _ | apply Drawn0.step)⟩
        · rw [if_neg c3] at H
          exact absurd H (by simp)
      · rw [if_neg c2] at H
        have c2b0 : decide (x3_1 < (l0.length : Int)) = false := decide_eq_false c2
        clear c2
        obtain rfl := Option.some.inj H
        go_wp2
        go_ret
        exact ⟨by first | rfl | (simp; done) | (simp [*]; done), by repeat (first | exact Drawn0.refl _ | apply Drawn0.step)⟩
def observatoryref07_Same.l0 : Nat → List (S25) → List (S25) → Int → Option (Bool)
  | 0, _, _, _ => none
  | k + 1, x0, x1, x5 => if x5 < (x0.length : Int) then (if 0 ≤ x5 then (if x5 < (x1.length : Int) then (if (!(((rd_T25 x0 x5).f0) == ((rd_T25 x1 x5).f0)) || (!(((rd_T25 x0 x5).f1) == ((rd_T25 x1 x5).f1)))) = true then (some false) else (observatoryref07_Same.l0 k x0 x1 (wrap64 (x5 + 1)))) else (none)) else (none)) else (some true)
def observatoryref07_Same.f (k : Nat) (l0 : List (S25)) (l1 : List (S25)) : Option (Bool) := if (l0.length : Int) = (l1.length : Int) then (observatoryref07_Same.l0 k l0 l1 0) else (some false)
set_option maxHeartbeats 8000000 in
set_option maxRecDepth 100000 in
theorem observatoryref07_Same.calls (k : Nat) (A0 : Option Addr) (c0 : Nat) (l0 : List (S25)) (A1 : Option Addr) (c1 : Nat) (l1 : List (S25)) (r : Bool) (w : World) (hr0 : Kd.C k25 w A0 l0.length l0) (hc0 : l0.length ≤ c0) (hr1 : Kd.C k25 w A1 l1.length l1) (hc1 : l1.length ≤ c1) (h : observatoryref07_Same.f k l0 l1 = some r) :
    Calls Tryz.prog 23 #[.slice A0 l0.length c0, .slice A1 l1.length c1] w fun e w' => e = .returned (.bool r) ∧ Drawn0 w w' := by
  have hu25 := Tryz.underlying25
  have HR0 := Aside0.mk hr0
  have HC0 := Aside0.mk hc0
  clear hr0 hc0
  have HR1 := Aside0.mk hr1
  have HC1 := Aside0.mk hc1
  clear hr1 hc1
  have H : (if (l0.length : Int) = (l1.length : Int) then (observatoryref07_Same.l0 k l0 l1 0) else (some false)) = some r := h
  clear h
  by_cases c3 : (l0.length : Int) = (l1.length : Int)
  · rw [if_pos c3] at H
    have c3b0 : ((l0.length : Int) == (l1.length : Int)) = true := beq_iff_eq.mpr c3
    have c3b1 : ((l0.length : Int) != (l1.length : Int)) = false := bne_eq_false_iff_eq.mpr c3
    have c3b2 : (l0.length == l1.length) = true := by first | simpa using c3 | (simp at c3 ⊢; omega)
    clear c3
    have H' := Aside0.mk H
    clear H
    go_enter Tryz.func23, Tryz.ntmps23
    go_wp2
    repeat (go_quiet (fail); try go_wp2)
    go_loopg [5] k (fun kq v5 w' => ∃ (x5_1 : Int), v5 = .int .i64 x5_1 ∧ Aside0 (observatoryref07_Same.l0 kq l0 l1 x5_1 = some r) ∧ Aside0 (kq ≤ k) ∧ Drawn0 w w')
    case atStart => exact ⟨(0), (by first | rfl | (simp; done) | (simp [*]; done)), H', ⟨Nat.le_refl _⟩, by repeat (first | exact Drawn0.refl _ | apply Drawn0.step)⟩
    case round =>
      clear H'
      try clear c1
      try clear c2
      try clear p2
      try clear c3
      try clear c3b0
      try clear c3b1
      try clear c3b2
      obtain ⟨x5_1, rfl, HA, HK1, ⟨m1, rfl⟩⟩ := hrel
      cases gk with
      | zero => exact absurd HA.out (by simp [observatoryref07_Same.l0])
      | succ k1 =>
        have H := HA.out
        clear HA
        simp only [observatoryref07_Same.l0] at H
        by_cases c4 : x5_1 < (l0.length : Int)
        · rw [if_pos c4] at H
          have c4b0 : decide (x5_1 < (l0.length : Int)) = true := decide_eq_true c4
          clear c4
          by_cases c5 : 0 ≤ x5_1
          · rw [if_pos c5] at H
            have c5b0 : decide (0 ≤ x5_1) = true := decide_eq_true c5
            clear c5
            by_cases c6 : x5_1 < (l1.length : Int)
            · rw [if_pos c6] at H
              have c6b0 : decide (x5_1 < (l1.length : Int)) = true := decide_eq_true c6
              clear c6
              by_cases c7 : (!(((rd_T25 l0 x5_1).f0) == ((rd_T25 l1 x5_1).f0)) || (!(((rd_T25 l0 x5_1).f1) == ((rd_T25 l1 x5_1).f1)))) = true
              · rw [if_pos c7] at H
                have c7b0 : (!(((rd_T25 l0 x5_1).f0) == ((rd_T25 l1 x5_1).f0)) || (!(((rd_T25 l0 x5_1).f1) == ((rd_T25 l1 x5_1).f1)))) = true := c7
                clear c7
                obtain rfl := Option.some.inj H
                have p276 : 0 ≤ (x5_1 : Int) := of_decide_eq_true (by first | (with_reducible assumption) | assumption)
                have q276 : x5_1 < (l0.length : Int) := of_decide_eq_true (by first | (with_reducible assumption) | assumption)
                obtain ⟨ad276, e276, hx276_0, hx276_1⟩ := at_T25 HR0.out x5_1 p276 q276
                cases e276
                replace p276 := eq_true p276
                replace q276 := eq_true q276
                have p277 : 0 ≤ (x5_1 : Int) := of_decide_eq_true (by first | (with_reducible assumption) | assumption)
                have q277 : x5_1 < (l1.length : Int) := of_decide_eq_true (by first | (with_reducible assumption) | assumption)
                obtain ⟨ad277, e277, hx277_0, hx277_1⟩ := at_T25 HR1.out x5_1 p277 q277
                cases e277
                replace p277 := eq_true p277
                replace q277 := eq_true q277
                go_wp2
                repeat (go_quiet (fail); try go_wp2)
                go_ret
                exact ⟨by first | rfl | (simp; done) | (simp [*]; done), by repeat (first | exact Drawn0.refl _ | apply Drawn0.step)⟩
              · rw [if_neg c7] at H
                have c7b0 : (!(((rd_T25 l0 x5_1).f0) == ((rd_T25 l1 x5_1).f0)) || (!(((rd_T25 l0 x5_1).f1) == ((rd_T25 l1 x5_1).f1)))) = false := by simpa using c7
                clear c7
                have H' := Aside0.mk H
                clear H
                have p276 : 0 ≤ (x5_1 : Int) := of_decide_eq_true (by first | (with_reducible assumption) | assumption)
                have q276 : x5_1 < (l0.length : Int) := of_decide_eq_true (by first | (with_reducible assumption) | assumption)
                obtain ⟨ad276, e276, hx276_0, hx276_1⟩ := at_T25 HR0.out x5_1 p276 q276
                cases e276
                replace p276 := eq_true p276
                replace q276 := eq_true q276
                have p277 : 0 ≤ (x5_1 : Int) := of_decide_eq_true (by first | (with_reducible assumption) | assumption)
                have q277 : x5_1 < (l1.length : Int) := of_decide_eq_true (by first | (with_reducible assumption) | assumption)
                obtain ⟨ad277, e277, hx277_0, hx277_1⟩ := at_T25 HR1.out x5_1 p277 q277
                cases e277
                replace p277 := eq_true p277
                replace q277 := eq_true q277
                go_wp2
                repeat (go_quiet (fail); try go_wp2)
                go_roundg k1
                case measure => have := HK1.out; omega
                case rel => exact ⟨(wrap64 (x5_1 + 1)), (by first | rfl | (simp; done) | (simp [*]; done)), H', ⟨by have := HK1.out; omega⟩, by repeat (first | exact Drawn0.refl _ | apply Drawn0.step)⟩
            · rw [if_neg c6] at H
              exact absurd H (by simp)
          · rw [if_neg c5] at H
            exact absurd H (by simp)
        · rw [if_neg c4] at H
          have c4b0 : decide (x5_1 < (l0.length : Int)) = false := decide_eq_false c4
          clear c4
          obtain rfl := Option.some.inj H
          go_wp2
          repeat (go_quiet (fail); try go_wp2)
          go_ret
          exact ⟨by first | rfl | (simp; done) | (simp [*]; done), by repeat (first | exact Drawn0.refl _ | apply Drawn0.step)⟩
  · rw [if_neg c3] at H
    have c3b0 : ((l0.length : Int) == (l1.length : Int)) = false := beq_eq_false_iff_ne.mpr c3
    have c3b1 : ((l0.length : Int) != (l1.length : Int)) = true := bne_iff_ne.mpr c3
    have c3b2 : (l0.length == l1.length) = false := by first | simpa using c3 | (simp at c3 ⊢; omega)
    obtain rfl := Option.some.inj H
    go_enter Tryz.func23, Tryz.ntmps23
    go_wp2
    repeat (go_quiet (fail); try go_wp2)
    go_ret
    exact ⟨by first | rfl | (simp; done) | (simp [*]; done), by repeat (first | exact Drawn0.refl _ | apply Drawn0.step)⟩
def observatoryref02_length.f : Nat → Int → Int → Option (Int)
  | 0, _, _ => none
  | k + 1, a0, a1 => if a0 = 1 then (some 0) else ((observatoryref02_Half.f k a0).bind fun t290 => (if a1 < t290 then ((observatoryref02_length.f k t290 a1).bind fun t291 => (some (wrap64 (1 + t291)))) else ((observatoryref02_length.f k (wrap64 (a0 - t290)) (wrap64 (a1 - t290))).bind fun t292 => (some (wrap64 (1 + t292))))))
set_option maxHeartbeats 8000000 in
set_option maxRecDepth 100000 in
theorem observatoryref02_length.calls (k : Nat) : ∀ (a0 : Int) (a1 : Int) (r : Int) (w : World) (h : observatoryref02_length.f k a0 a1 = some r),
    Calls Tryz.prog 140 #[.int .i64 a0, .int .i64 a1] w fun e w' => e = .returned (.int .i64 r) ∧ Drawn0 w w' := by
  induction k using Nat.strongRecOn with
  | _ k ih =>
  intro a0 a1 r w h
  cases k with
  | zero => exact absurd h (by simp [observatoryref02_length.f])
  | succ k =>
  simp only [observatoryref02_length.f] at h
  have H : (if a0 = 1 then (some 0) else ((observatoryref02_Half.f k a0).bind fun t290 => (if a1 < t290 then ((observatoryref02_length.f k t290 a1).bind fun t291 => (some (wrap64 (1 + t291)))) else ((observatoryref02_length.f k (wrap64 (a0 - t290)) (wrap64 (a1 - t290))).bind fun t292 => (some (wrap64 (1 + t292))))))) = some r := h
  clear h
  by_cases c3 : a0 = 1
  · rw [if_pos c3] at H
    have c3b0 : (a0 == 1) = true := beq_iff_eq.mpr c3
    have c3b1 : (a0 != 1) = false := bne_eq_false_iff_eq.mpr c3
    clear c3
    obtain rfl := Option.some.inj H
    go_enter Tryz.func140, Tryz.ntmps140
    go_wp2
    go_ret
    exact ⟨by first | rfl | (simp; done) | (simp [*]; done), by repeat (first | exact Drawn0.refl _ | apply Drawn0.step)⟩
  · rw [if_neg c3] at H
    have c3b0 : (a0 == 1) = false := beq_eq_false_iff_ne.mpr c3
    have c3b1 : (a0 != 1) = true := bne_iff_ne.mpr c3
    replace H := Option.bind_eq_some_iff.mp H
    obtain ⟨t290, A40, H⟩ := H
    replace H : (if a1 < t290 then ((observatoryref02_length.f k t290 a1).bind fun t291 => (some (wrap64 (1 + t291)))) else ((observatoryref02_length.f k (wrap64 (a0 - t290)) (wrap64 (a1 - t290))).bind fun t292 => (some (wrap64 (1 + t292))))) = some r := H
    have A4 := Aside0.mk A40
    clear A40
    by_cases c5 : a1 < t290
    · rw [if_pos c5] at H
      have c5b0 : decide (a1 < t290) = true := decide_eq_true c5
      clear c5
      replace H := Option.bind_eq_some_iff.mp H
      obtain ⟨t291, A60, H⟩ := H
      replace H : (some (wrap64 (1 + t291))) = some r := H
      have A6 := Aside0.mk A60
      clear A60
      obtain rfl := Option.some.inj H
      go_enter Tryz.func140, Tryz.ntmps140
      go_wp2_with (first | ((with_reducible refine gate_callee (f := 93) rfl ?_); refine goesL_ (some 9) rfl rfl Tryz.func93 (by kernel_rfl) rfl #[.int .i64 a0] rfl (by (try simp only [List.map_toArray, List.map_cons, List.map_nil]); first | done | rfl | (simp only [List.length_drop, List.length_take]; rfl)) ?_; (with_reducible refine (observatoryref02_Half.calls k a0 t290 _ A4.out).mono ?_); rintro e w' ⟨rfl, ⟨nd, rfl⟩⟩; refine ⟨_, rfl, ?_⟩) | ((with_reducible refine gate_callee (f := 140) rfl ?_); refine goesL_ (some 15) rfl rfl Tryz.func140 (by kernel_rfl) rfl #[.int .i64 t290, .int .i64 a1] rfl (by (try simp only [List.map_toArray, List.map_cons, List.map_nil]); first | done | rfl | (simp only [List.length_drop, List.length_take]; rfl)) ?_; (with_reducible refine (ih k (by omega) t290 a1 t291 _ A6.out).mono ?_); rintro e w' ⟨rfl, ⟨nd, rfl⟩⟩; refine ⟨_, rfl, ?_⟩))
      go_ret
      exact ⟨by first | rfl | (simp; done) | (simp [*]; done), by repeat (first | exact Drawn0.refl _ | apply Drawn0.step)⟩
    · rw [if_neg c5] at H
      have c5b0 : decide (a1 < t290) = false := decide_eq_false c5
      clear c5
      replace H := Option.bind_eq_some_iff.mp H
      obtain ⟨t292, A70, H⟩ := H
      replace H : (some (wrap64 (1 + t292))) = some r := H
      have A7 := Aside0.mk A70
      clear A70
      obtain rfl := Option.some.inj H
      go_enter Tryz.func140, Tryz.ntmps140
      go_wp2_with (first | ((with_reducible refine gate_callee (f := 93) rfl ?_); refine goesL_ (some 9) rfl rfl Tryz.func93 (by kernel_rfl) rfl #[.int .i64 a0] rfl (by (try simp only [List.map_toArray, List.map_cons, List.map_nil]); first | done | rfl | (simp only [List.length_drop, List.length_take]; rfl)) ?_; (with_reducible refine (observatoryref02_Half.calls k a0 t290 _ A4.out).mono ?_); rintro e w' ⟨rfl, ⟨nd, rfl⟩⟩; refine ⟨_, rfl, ?_⟩) | ((with_reducible refine gate_callee (f := 140) rfl ?_); refine goesL_ (some 23) rfl rfl Tryz.func140 (by kernel_rfl) rfl #[.int .i64 (wrap64 (a0 - t290)), .int .i64 (wrap64 (a1 - t290))] rfl (by (try simp only [List.map_toArray, List.map_cons, List.map_nil]); first | done | rfl | (simp only [List.length_drop, List.length_take]; rfl)) ?_; (with_reducible refine (ih k (by omega) (wrap64 (a0 - t290)) (wrap64 (a1 - t290)) t292 _ A7.out).mono ?_); rintro e w' ⟨rfl, ⟨nd, rfl⟩⟩; refine ⟨_, rfl, ?_⟩))
      go_ret
      exact ⟨by first | rfl | (simp; done) | (simp [*]; done), by repeat (first | exact Drawn0.refl _ | apply Drawn0.step)⟩
end Go.Proofs.YtddikdpbhjgihaaGreatDoor.X
end
