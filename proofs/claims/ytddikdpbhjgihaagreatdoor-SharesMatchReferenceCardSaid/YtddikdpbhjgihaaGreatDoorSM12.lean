import Derived.Test.YtddikdpbhjgihaaGreatDoorSM11
import Derived.Test.YtddikdpbhjgihaaGreatDoorSM06
import Derived.Test.YtddikdpbhjgihaaGreatDoorSM07
import Derived.Test.YtddikdpbhjgihaaGreatDoorSM10
import Derived.Test.YtddikdpbhjgihaaGreatDoorSM08
import Derived.Test.YtddikdpbhjgihaaGreatDoorSM09
import Derived.Laws.AppendOwn
import Derived.Laws.AppendOwnNone
import Derived.WalkKit
section
namespace Go.Proofs.YtddikdpbhjgihaaGreatDoor.X
open Go.RowKit Go.Proofs.YtddikdpbhjgihaaGreatDoorW.PrintWords Go.Proofs.YtddikdpbhjgihaaGreatDoorW.PrintLast Go.Proofs.YtddikdpbhjgihaaGreatDoorW.PrintMore
open ObsMath (sub inv nv)
open ObsMap
set_option linter.unusedVariables false
set_option linter.unusedSimpArgs false
def inP (a : Int) : Bool := decide (0 ≤ a) && decide (a < 2147483647)
theorem element_eq (a : Int) : field_element.f a = some (inP a) := by
  unfold field_element.f inP
  by_cases h : 0 ≤ a <;> simp [h]
theorem elements_l0 (l : List Int) (hl : l.length ≤ 9223372036854775806) : ∀ (d k i : Nat), l.length - i = d → i ≤ l.length → d < k → field_elements.l0 k l (l.length : Int) (i : Int) = some ((l.drop i).all inP) := by
  intro d
  induction d with
  | zero =>
    intro k i h1 h2 h3
    obtain ⟨k, rfl⟩ : ∃ m, k = m + 1 := ⟨k - 1, by omega⟩
    simp only [field_elements.l0]
    rw [if_neg (by omega), List.drop_eq_nil_of_le (by omega)]; rfl
  | succ d ih =>
    intro k i h1 h2 h3
    obtain ⟨k, rfl⟩ : ∃ m, k = m + 1 := ⟨k - 1, by omega⟩
    have hi : i < l.length := by omega
    have hr : rd l (i : Int) = l[i] := by simp [rd, List.getElem?_eq_getElem hi]
    have hw : wrap64 ((i : Int) + 1) = ((i + 1 : Nat) : Int) := by rw [w64 (by omega) (by omega)]; omega
    simp only [field_elements.l0]
    rw [if_pos (by omega), if_pos (by omega), if_pos (by omega), element_eq, hr, hw, Option.bind_some, ih k (i + 1) (by omega) (by omega) (by omega), List.drop_eq_getElem_cons hi, List.all_cons]
    cases inP l[i] <;> simp
theorem elements_eq (l : List Int) (hl : l.length ≤ 9223372036854775806) (k : Nat) (hk : l.length < k) : field_elements.f k l = some (l.all inP) := by
  have := elements_l0 l hl l.length k 0 (by omega) (by omega) hk
  simpa [field_elements.f] using this
theorem elements_two (a b : Int) : field_elements.f 3 [a, b] = some (inP a && inP b) := by
  rw [elements_eq _ (by simp) _ (by simp)]; simp
theorem two_cells {w : World} {b : Nat} {x y : Int} (h0 : w.cell? ⟨b, 0, none⟩ = some (.int .i64 x)) (h1 : w.cell? ⟨b, 1, none⟩ = some (.int .i64 y)) :
    Kd.C (Kd.int .i64) w (some ⟨b, 0, none⟩) ([x, y] : List Int).length [x, y] := by
  refine ⟨rfl, by simp, fun _ => ⟨_, rfl, fun j p hj => ?_⟩⟩
  match j, hj with
  | 0, hj => simp at hj; subst hj; exact ⟨[.int .i64 x], rfl, rfl, fun i u hu => by match i, hu with | 0, hu => simp at hu; subst hu; exact h0⟩
  | 1, hj => simp at hj; subst hj; exact ⟨[.int .i64 y], rfl, rfl, fun i u hu => by match i, hu with | 0, hu => simp at hu; subst hu; rw [add_plain]; exact h1⟩
theorem zeroB (w : World) : (zeroValue 4).run Tryz.prog w = .ok (.bool false) w := by kernel_rfl
theorem elements_arr (b : Nat) (x y : Int) (r : Bool) (w : World) (h0 : w.cell? ⟨b, 0, none⟩ = some (.int .i64 x)) (h1 : w.cell? ⟨b, 1, none⟩ = some (.int .i64 y)) (hr : (inP x && inP y) = r) :
    Calls Tryz.prog 154 #[.slice (some ⟨b, 0, none⟩) 2 2] w fun e w' => e = .returned (.bool r) ∧ Drawn0 w w' :=
  field_elements.calls 3 (some ⟨b, 0, none⟩) 2 [x, y] r w (two_cells h0 h1) (by simp) (by rw [elements_two, hr])
def dupN (l : List S125) : Nat → Bool
  | 0 => false
  | k + 1 => dupN l k || (l.take k).any (fun p => p.f0 == (rd_T125 l k).f0)
def okP (p : S125) : Bool := inP p.f0 && inP p.f1
def interpF (l : List S125) (x : Int) : Int × Int :=
  if l.length < 1 ∨ l.length > 16 ∨ inP x = false then (0, 1)
  else if l.all okP = false then (0, 1)
  else if dupN l l.length = true then (0, 8)
  else (nv (fun i => (rd_T125 l i).f0) (fun i => (rd_T125 l i).f1) x (l.length - 1) 0, 0)
structure Inv1 (w wr : World) (A : Option Addr) (c : Nat) (l : List S125) (x : Int) (k : Nat) : Prop where
  c2 : wr.cell? ⟨w.heap.size, 0, none⟩ = some (.slice A l.length c)
  c3 : wr.cell? ⟨w.heap.size + 1, 0, none⟩ = some (.int .i64 x)
  mp : ∃ m, IsMap wr (w.heap.size + 1 + 1) m ∧ ∀ z, mlook m z = if (l.take k).any (fun p => p.f0 == z) then some (.bool true) else none
  bl : Below w.heap.size w wr
  sz : w.heap.size + 3 ≤ wr.heap.size
  ok : (l.take k).all okP = true
theorem cell_of_block {w w' : World} {b : Nat} (h : w'.heap[b]? = w.heap[b]?) (o : Nat) : w'.cell? ⟨b, o, none⟩ = w.cell? ⟨b, o, none⟩ := by simp [World.cell?, h]
theorem Inv1.next {w wr w2 : World} {A : Option Addr} {c : Nat} {l : List S125} {x : Int} {k : Nat} {m : List (Int × Value)} {o : Obj} {nd : Nat}
    (hI : Inv1 w wr A c l x k) (hk : k < l.length) (hv : (inP (rd_T125 l k).f0 && inP (rd_T125 l k).f1) = true)
    (hl : ∀ z, mlook m z = if (l.take k).any (fun p => p.f0 == z) then some (.bool true) else none)
    (hm2 : IsMap w2 (w.heap.size + 1 + 1) (mput m (rd_T125 l k).f0 (.bool true))) (hg2 : ((wr.alloc o).drewN nd).grownBy w2 (some (w.heap.size + 1 + 1))) :
    Inv1 w w2 A c l x (k + 1) := by
  have hsz : wr.heap.size + 1 = ((wr.alloc o).drewN nd).heap.size := by show _ = (wr.heap.push o).size; simp
  have hs := hI.sz
  have hblk : ∀ b, b < w.heap.size + 2 → w2.heap[b]? = wr.heap[b]? := by
    intro b hb
    rw [hg2.block b (by omega) (by simp; omega)]
    show (wr.heap.push o)[b]? = _
    rw [Array.getElem?_push, if_neg (by omega)]
  have hr : (rd_T125 l k) = l[k] := by simp [rd_T125, List.getElem?_eq_getElem hk]
  refine ⟨?_, ?_, ⟨_, hm2, ?_⟩, ?_, ?_, ?_⟩
  · rw [cell_of_block (hblk _ (by omega))]; exact hI.c2
  · rw [cell_of_block (hblk _ (by omega))]; exact hI.c3
  · intro z
    rw [mlook_mput, hl, List.take_succ_eq_append_getElem hk, List.any_append, hr]
    by_cases hz : z = l[k].f0
    · subst hz; simp
    · have : ¬ l[k].f0 = z := fun e => hz e.symm
      simp [hz, this]
  · exact pw_below_grown (pw_below_drewN (hI.bl.alloc hI.bl.size o) nd) _ (by omega) hg2 (fun q hq => by injection hq with hq; omega)
  · have := hg2.size; omega
  · rw [List.take_succ_eq_append_getElem hk, List.all_append, hI.ok, ← hr]
    simp [okP, hv]
theorem blk_setCell {w : World} {b o : Nat} {u : Value} {c : Array Value} {t : TypeId} {f : Nat × Nat} (h : w.heap[b]? = some (.cells c t f)) :
    (w.setCell ⟨b, o, none⟩ u).heap[b]? = some (.cells (c.setIfInBounds o u) t f) := by
  have hlt := lt_of_block h
  have h' : w.heap[b] = .cells c t f := by simpa [Array.getElem?_eq_getElem hlt] using h
  show (w.heap.modify b _)[b]? = _
  rw [Array.getElem?_eq_getElem (by simpa using hlt), Array.getElem_modify_self, h']
  rfl
structure Inv2 (w wq : World) (A : Option Addr) (c : Nat) (l : List S125) (x : Int) (B : Nat) (vals : Nat → Int) : Prop where
  c2 : wq.cell? ⟨w.heap.size, 0, none⟩ = some (.slice A l.length c)
  c3 : wq.cell? ⟨w.heap.size + 1, 0, none⟩ = some (.int .i64 x)
  bk : ∃ arr, wq.heap[B]? = some (.cells arr 179 (0, 0)) ∧ ∀ j, j < 16 → arr[j]? = some (.int .i64 (vals j))
  bl : Below w.heap.size w wq
  ge : w.heap.size + 2 ≤ B
theorem Inv2.at_ {w wq : World} {A : Option Addr} {c : Nat} {l : List S125} {x : Int} {B : Nat} {vals : Nat → Int} (h : Inv2 w wq A c l x B vals) (j : Nat) (hj : j < 16) :
    wq.cell? ⟨B, j, none⟩ = some (.int .i64 (vals j)) ∧ wq.frozen? ⟨B, j, none⟩ = false := by
  obtain ⟨arr, hb, ha⟩ := h.bk
  exact ⟨by simp [World.cell?, hb, ha j hj], by simp [World.frozen?, hb]⟩
theorem Inv2.lt {w wq : World} {A : Option Addr} {c : Nat} {l : List S125} {x : Int} {B : Nat} {vals : Nat → Int} (h : Inv2 w wq A c l x B vals) : B < wq.heap.size := by
  obtain ⟨arr, hb, _⟩ := h.bk
  exact lt_of_block hb
theorem Inv2.congr {w wq : World} {A : Option Addr} {c : Nat} {l : List S125} {x : Int} {B : Nat} {vals vals' : Nat → Int} (h : Inv2 w wq A c l x B vals) (he : ∀ j, j < 16 → vals' j = vals j) :
    Inv2 w wq A c l x B vals' := by
  obtain ⟨arr, hb, ha⟩ := h.bk
  exact ⟨h.c2, h.c3, ⟨arr, hb, fun j hj => by rw [he j hj]; exact ha j hj⟩, h.bl, h.ge⟩
theorem Inv2.drawn {w wq : World} {A : Option Addr} {c : Nat} {l : List S125} {x : Int} {B : Nat} {vals : Nat → Int} (h : Inv2 w wq A c l x B vals) (n : Nat) : Inv2 w (wq.drewN n) A c l x B vals :=
  ⟨h.c2, h.c3, h.bk, pw_below_drewN h.bl n, h.ge⟩
theorem Inv2.alloc {w wq : World} {A : Option Addr} {c : Nat} {l : List S125} {x : Int} {B : Nat} {vals : Nat → Int} (h : Inv2 w wq A c l x B vals) (o : Obj) : Inv2 w (wq.alloc o) A c l x B vals := by
  have hlt := h.lt
  have hge := h.ge
  have hblk : ∀ b, b < wq.heap.size → (wq.alloc o).heap[b]? = wq.heap[b]? := by
    intro b hb
    show (wq.heap.push o)[b]? = _
    rw [Array.getElem?_push, if_neg (by omega)]
  obtain ⟨arr, hb, ha⟩ := h.bk
  exact ⟨by rw [cell_of_block (hblk _ (by omega))]; exact h.c2, by rw [cell_of_block (hblk _ (by omega))]; exact h.c3, ⟨arr, by rw [hblk _ hlt]; exact hb, ha⟩, h.bl.alloc h.bl.size o, hge⟩
theorem Inv2.store {w wq : World} {A : Option Addr} {c : Nat} {l : List S125} {x : Int} {B : Nat} {vals : Nat → Int} (h : Inv2 w wq A c l x B vals) (i : Nat) (v : Int) :
    Inv2 w (wq.setCell ⟨B, i, none⟩ (.int .i64 v)) A c l x B (fun j => if j = i then v else vals j) := by
  have hge := h.ge
  have hblk : ∀ b, b ≠ B → (wq.setCell ⟨B, i, none⟩ (.int .i64 v)).heap[b]? = wq.heap[b]? := fun b hb => Below.heap_setCell _ _ _ _ hb
  obtain ⟨arr, hb, ha⟩ := h.bk
  refine ⟨by rw [cell_of_block (hblk _ (by omega))]; exact h.c2, by rw [cell_of_block (hblk _ (by omega))]; exact h.c3, ⟨_, blk_setCell hb, ?_⟩, h.bl.setCell (by show _ ≤ B; omega) _, hge⟩
  intro j hj
  have h16 : j < arr.size := by
    have := ha j hj
    exact (Array.getElem?_eq_some_iff.1 this).1
  by_cases e : j = i
  · subst e; simp [h16]
  · rw [if_neg e, Array.getElem?_setIfInBounds_ne (fun e' => e e'.symm)]; exact ha j hj
def XI (l : List S125) (i : Nat) : Int := (rd_T125 l i).f0
def YI (l : List S125) (i : Nat) : Int := (rd_T125 l i).f1
def vO (l : List S125) (x : Int) (W j : Nat) : Int := if j < l.length then nv (XI l) (YI l) x (min (W - 1) (l.length - 1 - j)) j else 0
def vI (l : List S125) (x : Int) (W i j : Nat) : Int := if j < i then nv (XI l) (YI l) x W j else vO l x W j
theorem vI_zero (l : List S125) (x : Int) (W j : Nat) : vI l x W 0 j = vO l x W j := by simp [vI]
theorem vI_end (l : List S125) (x : Int) (W j : Nat) (h1 : 1 ≤ W) (h2 : W ≤ l.length) : vI l x W (l.length - W) j = vO l x (W + 1) j := by
  unfold vI vO
  by_cases h : j < l.length - W
  · rw [if_pos h, if_pos (by omega), show min (W + 1 - 1) (l.length - 1 - j) = W by omega]
  · rw [if_neg h]
    by_cases h3 : j < l.length
    · rw [if_pos h3, if_pos h3, show min (W - 1) (l.length - 1 - j) = min (W + 1 - 1) (l.length - 1 - j) by omega]
    · rw [if_neg h3, if_neg h3]
theorem vI_at (l : List S125) (x : Int) (W i : Nat) (h1 : 1 ≤ W) (h2 : i < l.length - W) : vI l x W i i = nv (XI l) (YI l) x (W - 1) i := by
  unfold vI vO
  rw [if_neg (by omega), if_pos (by omega), show min (W - 1) (l.length - 1 - i) = W - 1 by omega]
theorem vI_next (l : List S125) (x : Int) (W i : Nat) (h1 : 1 ≤ W) (h2 : i < l.length - W) : vI l x W i (i + 1) = nv (XI l) (YI l) x (W - 1) (i + 1) := by
  unfold vI vO
  rw [if_neg (by omega), if_pos (by omega), show min (W - 1) (l.length - 1 - (i + 1)) = W - 1 by omega]
theorem nv_at (l : List S125) (x : Int) (W i : Nat) (h1 : 1 ≤ W) : nv (XI l) (YI l) x W i =
    sub (sub x (XI l (i + W)) * nv (XI l) (YI l) x (W - 1) i % 2147483647) (sub x (XI l i) * nv (XI l) (YI l) x (W - 1) (i + 1) % 2147483647) * inv (sub (XI l i) (XI l (i + W))) % 2147483647 := by
  obtain ⟨V, rfl⟩ : ∃ V, W = V + 1 := ⟨W - 1, by omega⟩
  rfl
theorem vI_step (l : List S125) (x : Int) (W i j : Nat) (v : Int) (hv : v = nv (XI l) (YI l) x W i) : (if j = i then v else vI l x W i j) = vI l x W (i + 1) j := by
  unfold vI
  by_cases e : j = i
  · subst e; rw [if_pos rfl, if_pos (by omega), hv]
  · rw [if_neg e]
    by_cases h : j < i
    · rw [if_pos h, if_pos (by omega)]
    · rw [if_neg h, if_neg (by omega)]
theorem inP_iff {a : Int} : inP a = true ↔ 0 ≤ a ∧ a < 2147483647 := by simp [inP]
theorem ok_at {l : List S125} (h : l.all okP = true) (i : Nat) : (0 ≤ XI l i ∧ XI l i < 2147483647) ∧ 0 ≤ YI l i ∧ YI l i < 2147483647 := by
  unfold XI YI
  by_cases hi : i < l.length
  · have hr : (rd_T125 l i) = l[i] := by simp [rd_T125, List.getElem?_eq_getElem hi]
    have := List.all_eq_true.1 h _ (List.getElem_mem hi)
    simp only [okP, Bool.and_eq_true] at this
    rw [hr]
    exact ⟨inP_iff.1 this.1, inP_iff.1 this.2⟩
  · have hr : (rd_T125 l i) = z125 := by simp [rd_T125, List.getElem?_eq_none (Nat.le_of_not_lt hi)]
    rw [hr]; simp [z125]
def Post (l : List S125) (x : Int) (w : World) (e : Ending) (w' : World) : Prop :=
  e = .returned (.tuple #[.int .i64 (interpF l x).1, .int .i64 (interpF l x).2]) ∧ Below w.heap.size w w'
theorem interpF_bad {l : List S125} {x : Int} {k : Nat} (hk : k < l.length) (hv : ¬ okP (rd_T125 l k) = true) : interpF l x = (0, 1) := by
  unfold interpF
  split
  · rfl
  · rw [if_pos]
    rw [List.all_eq_false]
    refine ⟨l[k], List.getElem_mem hk, ?_⟩
    have hr : (rd_T125 l k) = l[k] := by simp [rd_T125, List.getElem?_eq_getElem hk]
    rwa [hr] at hv
theorem interpF_dup {l : List S125} {x : Int} (h1 : 1 ≤ l.length) (h2 : l.length ≤ 16) (hx : inP x = true) (ha : l.all okP = true) (hd : dupN l l.length = true) : interpF l x = (0, 8) := by
  unfold interpF
  rw [if_neg (by rintro (h | h | h) <;> first | omega | (rw [hx] at h; cases h)), if_neg (by rw [ha]; simp), if_pos hd]
theorem interpF_ok {l : List S125} {x : Int} (h1 : 1 ≤ l.length) (h2 : l.length ≤ 16) (hx : inP x = true) (ha : l.all okP = true) (hd : dupN l l.length = false) :
    interpF l x = (nv (fun i => (rd_T125 l i).f0) (fun i => (rd_T125 l i).f1) x (l.length - 1) 0, 0) := by
  unfold interpF
  rw [if_neg (by rintro (h | h | h) <;> first | omega | (rw [hx] at h; cases h)), if_neg (by rw [ha]; simp), if_neg (by rw [hd]; simp)]
set_option maxHeartbeats 1000000 in
theorem interp_walk (A : Option Addr) (c : Nat) (l : List S125) (x : Int) (w : World) (hC0 : Kd.C k125 w A l.length l) (hc : l.length ≤ c)
   (h1 : 1 ≤ l.length) (h2 : l.length ≤ 16) (hx : inP x = true) :
   Calls Tryz.prog 130 #[.slice A l.length c, .int .i64 x] w (Post l x w) := by
  have HC := Aside0.mk hC0
  have HX := Aside0.mk hx
  have E1 := Aside0.mk (element_eq x)
  rw [hx] at E1
  clear hx
  clear hC0
  have l1 : ¬ ((l.length : Int) < 1) := by omega
  have l2 : ¬ ((l.length : Int) > 16) := by omega
  have hmm := @run_makeMap Tryz.prog
  go_enter Tryz.func130, Tryz.ntmps130
  go_wp2_with (first | (go_at_call 155; (with_reducible refine (field_element.calls x true _ E1.out).mono ?_); rintro e w' ⟨rfl, ⟨nd, rfl⟩⟩; (try first | exact ⟨rfl, _, World.drewN_drewN _ _ _⟩ | exact ⟨rfl, _, Eq.trans (World.drewN_drewN _ _ _) (congrArg (World.drewN _) (Nat.add_assoc _ _ _))⟩)))
  go_loopg [7, 32] l.length (fun g v7 v32 wr => ∃ k : Nat, k + g = l.length ∧ v32 = .int .i64 k ∧ v7 = .bool (dupN l k) ∧ Inv1 w wr A c l x k)
  case atStart =>
    refine ⟨0, by omega, rfl, rfl, ⟨?_, ?_, ⟨[], ?_, by intro z; simp [mlook]⟩, ?_, ?_, rfl⟩⟩
    · go_simp
    · go_simp
    · refine ⟨#[], 0, ?_, rfl⟩
      show (((w.heap.push _).push _).push _)[_]? = _
      rw [show w.heap.size + 1 + 1 = ((w.heap.push (.cells #[.slice A l.length c] 123)).push (.cells #[.int .i64 x] 3)).size by simp, Array.getElem?_push_size]
    · exact below_alloc (pw_below_drewN (((Below.refl _ _).alloc (Nat.le_refl _) _).alloc (by simp) _) _) _
    · show _ ≤ (((w.heap.push _).push _).push _).size
      simp
  case round =>
    obtain ⟨k, hk, rfl, rfl, hI⟩ := hrel
    have HI := Aside0.mk hI
    by_cases hlt : k < l.length
    · have hlt' : (k : Int) < (l.length : Int) := by omega
      have HCr := Aside0.mk (Kd.C_below HC.out hI.bl)
      have hsz := hI.sz
      clear hI
      obtain ⟨ad, e0, a0, a1⟩ := at_T125 HCr.out (k : Int) (by omega) hlt'
      subst e0
      rw [Int.toNat_natCast] at a0 a1
      by_cases hv : okP (rd_T125 l k) = true
      · have HV := Aside0.mk (show (inP (rd_T125 l k).f0 && inP (rd_T125 l k).f1) = true from hv)
        clear hv
        go_wp2_with fail
        refine (elements_arr _ (rd_T125 l k).f0 (rd_T125 l k).f1 true _ ?_ ?_ HV.out).mono ?_
        · go_simp
        · go_simp
        rintro e w' ⟨rfl, ⟨nd, rfl⟩⟩
        obtain ⟨m, hm, hl⟩ := HI.out.mp
        have hrun := lookup_run (P := Tryz.prog) (t := 175) (kt := 3) (et := 4) Tryz.underlying175 Tryz.underlying3 (zeroB _) ((hm.alloc (.cells #[.int .i64 (rd_T125 l k).f0, .int .i64 (rd_T125 l k).f1] 125)).drawn nd) (rd_T125 l k).f0 false
        obtain ⟨w2, hrun2, hm2, hg2⟩ := update_run (P := Tryz.prog) (t := 175) (kt := 3) (et := 4) Tryz.underlying175 Tryz.underlying3 ((hm.alloc (.cells #[.int .i64 (rd_T125 l k).f0, .int .i64 (rd_T125 l k).f1] 125)).drawn nd) (rd_T125 l k).f0 (.bool true)
        have hs : (mlook m (rd_T125 l k).f0).getD (.bool false) = .bool ((l.take k).any (fun p => p.f0 == (rd_T125 l k).f0)) := by
          rw [hl]; cases (l.take k).any (fun p => p.f0 == (rd_T125 l k).f0) <;> simp
        rw [if_neg (by decide), hs] at hrun
        have HD := Aside0.mk (show dupN l (k + 1) = (dupN l k || (l.take k).any (fun p => p.f0 == (rd_T125 l k).f0)) from rfl)
        have HM := Aside0.mk hm
        have HL := Aside0.mk hl
        have HM2 := Aside0.mk hm2
        have HG2 := Aside0.mk hg2
        clear hm hl hm2 hg2 hs
        generalize (l.take k).any (fun p => p.f0 == (rd_T125 l k).f0) = s at hrun HD
        cases hd : dupN l k with
        | true =>
          have HN := HI.out.next hlt HV.out HL.out HM2.out HG2.out
          rw [hd] at HD
          have HN' := Aside0.mk HN
          clear HN
          go_wp2_with fail
          go_roundg (gk - 1)
          case rel => exact ⟨k + 1, by omega, by go_num, by rw [HD.out]; rfl, HN'.out⟩
          case measure => omega
        | false =>
          have HN := HI.out.next hlt HV.out HL.out HM2.out HG2.out
          rw [hd] at HD
          have HN' := Aside0.mk HN
          clear HN
          go_wp2_with fail
          go_roundg (gk - 1)
          case rel => exact ⟨k + 1, by omega, by go_num, by rw [HD.out]; simp, HN'.out⟩
          case measure => omega
      · have HV := Aside0.mk (show (inP (rd_T125 l k).f0 && inP (rd_T125 l k).f1) = false from by simpa [okP] using hv)
        have HR := Aside0.mk (interpF_bad (x := x) hlt hv)
        clear hv
        go_wp2_with fail
        refine (elements_arr _ (rd_T125 l k).f0 (rd_T125 l k).f1 false _ ?_ ?_ HV.out).mono ?_
        · go_simp
        · go_simp
        rintro e w' ⟨rfl, ⟨nd, rfl⟩⟩
        go_wp2_with fail
        go_ret2
        refine ⟨by rw [HR.out]; rfl, ?_⟩
        exact pw_below_drewN (HI.out.bl.alloc HI.out.bl.size _) nd
    · obtain rfl : k = l.length := by omega
      clear hlt
      have HA := Aside0.mk (show l.all okP = true by have := hI.ok; rwa [List.take_length] at this)
      have c2 := hI.c2
      have c3 := hI.c3
      have z0 : w.heap.size < wr.heap.size := by have := hI.sz; omega
      have z1 : w.heap.size + 1 < wr.heap.size := by have := hI.sz; omega
      clear hI
      cases hd : dupN l l.length with
      | true =>
        have HR := Aside0.mk (interpF_dup (x := x) h1 h2 HX.out HA.out hd)
        go_wp2_with fail
        go_ret2
        exact ⟨by rw [HR.out]; rfl, HI.out.bl⟩
      | false =>
        have HR := Aside0.mk (interpF_ok (x := x) h1 h2 HX.out HA.out hd)
        have HI0 : Aside0 (Inv2 w (wr.alloc (.cells #[.int .i64 0, .int .i64 0, .int .i64 0, .int .i64 0, .int .i64 0, .int .i64 0, .int .i64 0, .int .i64 0, .int .i64 0, .int .i64 0, .int .i64 0, .int .i64 0, .int .i64 0, .int .i64 0, .int .i64 0, .int .i64 0] 179)) A c l x wr.heap.size (fun _ => 0)) := by
          have hsz := HI.out.sz
          refine ⟨⟨?_, ?_, ⟨_, (by show (wr.heap.push _)[wr.heap.size]? = _; rw [Array.getElem?_push_size]), ?_⟩, HI.out.bl.alloc HI.out.bl.size _, by omega⟩⟩
          · rw [cell_of_block (w := wr)]
            · exact HI.out.c2
            · show (wr.heap.push _)[_]? = _; rw [Array.getElem?_push, if_neg (by omega)]
          · rw [cell_of_block (w := wr)]
            · exact HI.out.c3
            · show (wr.heap.push _)[_]? = _; rw [Array.getElem?_push, if_neg (by omega)]
          · intro j hj
            rcases (show j = 0 ∨ j = 1 ∨ j = 2 ∨ j = 3 ∨ j = 4 ∨ j = 5 ∨ j = 6 ∨ j = 7 ∨ j = 8 ∨ j = 9 ∨ j = 10 ∨ j = 11 ∨ j = 12 ∨ j = 13 ∨ j = 14 ∨ j = 15 from by omega) with rfl | rfl | rfl | rfl | rfl | rfl | rfl | rfl | rfl | rfl | rfl | rfl | rfl | rfl | rfl | rfl <;> rfl
        go_wp2_with fail
        obtain ⟨B, hB⟩ : ∃ B, B = wr.heap.size := ⟨_, rfl⟩
        rw [← hB]
        rw [← hB] at HI0
        generalize (wr.alloc (.cells #[.int .i64 0, .int .i64 0, .int .i64 0, .int .i64 0, .int .i64 0, .int .i64 0, .int .i64 0, .int .i64 0, .int .i64 0, .int .i64 0, .int .i64 0, .int .i64 0, .int .i64 0, .int .i64 0, .int .i64 0, .int .i64 0] 179)) = w1 at HI0 ⊢
        clear hB
        clear z0 z1
        go_loopg [53] l.length (fun g v53 wq => ∃ k : Nat, k + g = l.length ∧ v53 = .int .i64 k ∧ Inv2 w wq A c l x B (fun j => if j < k then (rd_T125 l j).f1 else 0))
        case atStart => exact ⟨0, by omega, rfl, HI0.out.congr (fun j _ => by simp)⟩
        case round =>
          obtain ⟨k, hk, rfl, hJ⟩ := hrel
          have HJ := Aside0.mk hJ
          by_cases hlt : k < l.length
          · have hlt' : (k : Int) < (l.length : Int) := by omega
            have h16 : (k : Int) < 16 := by omega
            have HCr := Aside0.mk (Kd.C_below HC.out hJ.bl)
            have hq := hJ.lt
            have hat := hJ.at_ k (by omega)
            obtain ⟨q1, q2⟩ := hat
            clear hJ
            obtain ⟨ad, e0, a0, a1⟩ := at_T125 HCr.out (k : Int) (by omega) hlt'
            subst e0
            rw [Int.toNat_natCast] at a0 a1
            go_wp2_with fail
            go_roundg (gk - 1)
            case rel =>
              refine ⟨k + 1, by omega, by go_num, ((HJ.out.store k _).alloc _).congr fun j hj => ?_⟩
              by_cases e : j = k
              · subst e; simp
              · simp only [e, if_false]
                by_cases e2 : j < k
                · rw [if_pos e2, if_pos (by omega)]
                · rw [if_neg e2, if_neg (by omega)]
            case measure => omega
          · obtain rfl : k = l.length := by omega
            have c2 := hJ.c2
            have c3 := hJ.c3
            clear hJ hlt
            go_wp2_with fail
            go_loopg [14] (l.length - 1) (fun g v14 wq => ∃ W : Nat, W + g = l.length ∧ 1 ≤ W ∧ v14 = .int .i64 W ∧ Inv2 w wq A c l x B (vO l x W))
            case atStart =>
              refine ⟨1, by omega, by omega, rfl, HJ.out.congr fun j hj => ?_⟩
              unfold vO
              by_cases h : j < l.length
              · rw [if_pos h, if_pos h]; simp [nv, YI]
              · rw [if_neg h, if_neg h]
            case round =>
              obtain ⟨W, hW, hW1, rfl, hO⟩ := hrel
              have HO := Aside0.mk hO
              have c2 := hO.c2
              by_cases hlt : W < l.length
              · have hlt' : (W : Int) < (l.length : Int) := by omega
                clear hO
                go_wp2_with fail
                go_loopg [74] (l.length - W) (fun g v74 wi => ∃ i : Nat, i + g = l.length - W ∧ v74 = .int .i64 i ∧ Inv2 w wi A c l x B (vI l x W i))
                case atStart =>
                  refine ⟨0, by omega, rfl, HO.out.congr fun j hj => vI_zero _ _ _ _⟩
                case round =>
                  obtain ⟨i, hi, rfl, hN⟩ := hrel
                  have HN := Aside0.mk hN
                  by_cases hil : i < l.length - W
                  · have hil' : (i : Int) < (l.length : Int) - (W : Int) := by omega
                    have HCr := Aside0.mk (Kd.C_below HC.out hN.bl)
                    have hok := Aside0.mk (And.intro (ok_at HA.out i) (ok_at HA.out (i + W)))
                    have HV := Aside0.mk (And.intro (nv_at l x W i hW1) (And.intro (vI_at l x W i hW1 hil) (vI_next l x W i hW1 hil)))
                    clear hN
                    obtain ⟨ad, e0, a0, _⟩ := at_T125 HCr.out (i : Int) (by omega) (by omega)
                    obtain ⟨ad', e1, b0, _⟩ := at_T125 HCr.out ((i : Int) + (W : Int)) (by omega) (by omega)
                    obtain rfl : ad = ad' := by rw [e0] at e1; injection e1
                    clear e1
                    subst e0
                    go_wp2_with fail
                    have hj := HN.out.at_ i (by omega)
                    have hj2 := HN.out.at_ (i + 1) (by omega)
                    rw [HV.out.2.1] at hj
                    rw [HV.out.2.2] at hj2
                    have hx1 := inP_iff.1 HX.out
                    have hr1 := ObsMath.nv_range (XI l) (YI l) x (fun q => (ok_at HA.out q).2) (W - 1) i
                    have hr2 := ObsMath.nv_range (XI l) (YI l) x (fun q => (ok_at HA.out q).2) (W - 1) (i + 1)
                    refine (interp_join w.heap.size (w.heap.size + 1) B ad l.length c x (i : Int) ((i : Int) + (W : Int)) (XI l i) (XI l (i + W)) (nv (XI l) (YI l) x (W - 1) i) (nv (XI l) (YI l) x (W - 1) (i + 1)) _ HN.out.c2 HN.out.c3 hj.1
                      (by rw [show ((i : Int) + 1).toNat = i + 1 by omega]; exact hj2.1) hj.2 a0 (by rw [b0]; unfold XI; rw [show ((i + W : Nat) : Int) = (i : Int) + (W : Int) by omega]) (by omega) (by omega) (by omega) h2
                      hx1.1 hx1.2 hok.out.1.1.1 hok.out.1.1.2 hok.out.2.1.1 hok.out.2.1.2 hr1.1 hr1.2 hr2.1 hr2.2).mono ?_
                    have HS := Aside0.mk (fun nd => ((HN.out.drawn nd).store i (nv (XI l) (YI l) x W i)).congr (fun j _ => (vI_step l x W i j _ rfl).symm))
                    rw [← HV.out.1, Int.toNat_natCast]
                    clear hj hj2 hx1 hr1 hr2
                    rintro e w' ⟨rfl, nd, rfl⟩
                    go_wp2_with fail
                    go_roundg (l.length - W - (i + 1))
                    case rel => exact ⟨i + 1, by omega, by go_num, HS.out nd⟩
                    case measure => omega
                  · obtain rfl : i = l.length - W := by omega
                    have HE := Aside0.mk (hN.congr (fun j _ => (vI_end l x W j hW1 (by omega)).symm))
                    have hnl : ¬ (((l.length - W : Nat) : Int) < (l.length : Int) - (W : Int)) := by omega
                    clear hN hil
                    go_wp2_with fail
                    go_roundg (l.length - (W + 1))
                    case rel => exact ⟨W + 1, by omega, by omega, by go_num, HE.out⟩
                    case measure => omega
              · obtain rfl : W = l.length := by omega
                have hat := hO.at_ 0 (by omega)
                obtain ⟨q1, q2⟩ := hat
                clear hO hlt
                go_wp2_with fail
                go_ret2
                have hv : vO l x l.length 0 = nv (fun i => (rd_T125 l i).f0) (fun i => (rd_T125 l i).f1) x (l.length - 1) 0 := by
                  unfold vO
                  rw [if_pos (by omega), show min (l.length - 1) (l.length - 1 - 0) = l.length - 1 by omega]
                  rfl
                exact ⟨by rw [HR.out, ← hv]; rfl, HO.out.bl⟩
def field_Interpolate.f (l0 : List S125) (a1 : Int) : Option (Int × Int) := some (interpF l0 a1)
theorem interpF_arg {l : List S125} {x : Int} (h : l.length < 1 ∨ l.length > 16 ∨ inP x = false) : interpF l x = (0, 1) := by
  unfold interpF
  rw [if_pos h]
set_option maxHeartbeats 400000 in
theorem interp_any (A : Option Addr) (c : Nat) (l : List S125) (x : Int) (w : World) (hC : Kd.C k125 w A l.length l) (hc : l.length ≤ c) :
    Calls Tryz.prog 130 #[.slice A l.length c, .int .i64 x] w (Post l x w) := by
  have HC := Aside0.mk hC
  by_cases h1 : l.length < 1
  · have HR := Aside0.mk (interpF_arg (x := x) (.inl h1))
    have h1' : (l.length : Int) < 1 := by omega
    clear hC
    go_enter Tryz.func130, Tryz.ntmps130
    go_wp2_with fail
    go_ret2
    exact ⟨by rw [HR.out]; rfl, ((Below.refl _ _).alloc (Nat.le_refl _) _).alloc (by simp) _⟩
  · by_cases h2 : l.length > 16
    · have HR := Aside0.mk (interpF_arg (x := x) (.inr (.inl h2)))
      have h1' : ¬ (l.length : Int) < 1 := by omega
      have h2' : (l.length : Int) > 16 := by omega
      clear hC
      go_enter Tryz.func130, Tryz.ntmps130
      go_wp2_with fail
      go_ret2
      exact ⟨by rw [HR.out]; rfl, ((Below.refl _ _).alloc (Nat.le_refl _) _).alloc (by simp) _⟩
    · cases hx : inP x with
      | true => exact interp_walk A c l x w hC hc (by omega) (by omega) hx
      | false =>
        have HR := Aside0.mk (interpF_arg (l := l) (.inr (.inr hx)))
        have h1' : ¬ (l.length : Int) < 1 := by omega
        have h2' : ¬ (l.length : Int) > 16 := by omega
        have E1 := Aside0.mk (element_eq x)
        rw [hx] at E1
        clear hC hx
        go_enter Tryz.func130, Tryz.ntmps130
        go_wp2_with (first | (go_at_call 155; (with_reducible refine (field_element.calls x false _ E1.out).mono ?_); rintro e w' ⟨rfl, ⟨nd, rfl⟩⟩; (try first | exact ⟨rfl, _, World.drewN_drewN _ _ _⟩ | exact ⟨rfl, _, Eq.trans (World.drewN_drewN _ _ _) (congrArg (World.drewN _) (Nat.add_assoc _ _ _))⟩)))
        go_ret2
        exact ⟨by rw [HR.out]; rfl, pw_below_drewN (((Below.refl _ _).alloc (Nat.le_refl _) _).alloc (by simp) _) _⟩
theorem field_Interpolate.calls (A0 : Option Addr) (c0 : Nat) (l0 : List S125) (a1 : Int) (r1 : Int) (r2 : Int) (w : World) (hr0 : Kd.C k125 w A0 l0.length l0) (hc0 : l0.length ≤ c0) (h : field_Interpolate.f l0 a1 = some (r1, r2)) :
    Calls Tryz.prog 130 #[.slice A0 l0.length c0, .int .i64 a1] w fun e w' => e = .returned (.tuple #[.int .i64 r1, .int .i64 r2]) ∧ Below w.heap.size w w' := by
  have e : interpF l0 a1 = (r1, r2) := by simpa [field_Interpolate.f] using h
  refine (interp_any A0 c0 l0 a1 w hr0 hc0).mono fun e' w' hp => ?_
  unfold Post at hp
  rw [e] at hp
  exact hp
end Go.Proofs.YtddikdpbhjgihaaGreatDoor.X
end
section
namespace Go.Proofs.YtddikdpbhjgihaaGreatDoor.X
open Go.RowKit Go.Proofs.YtddikdpbhjgihaaGreatDoorW.PrintWords Go.Proofs.YtddikdpbhjgihaaGreatDoorW.PrintLast Go.Proofs.YtddikdpbhjgihaaGreatDoorW.PrintMore
set_option linter.unusedVariables false
set_option linter.unusedSimpArgs false
theorem C_litI {w : World} {b : Nat} (l : List Int) {t : TypeId} {fz : Nat × Nat} (h : w.heap[b]? = some (.cells (l.map (Value.int .i64)).toArray t fz)) (hl : l.length ≤ 9223372036854775807) : Kd.C (Kd.int .i64) w (some ⟨b, 0, none⟩) l.length l := by
  refine ⟨rfl, hl, fun _ => ⟨_, rfl, fun j p hj => ⟨[.int .i64 p], rfl, rfl, fun i u hu => ?_⟩⟩⟩
  rw [add_plain]
  match i, hu with
  | 0, hu =>
    simp at hu; subst hu
    show w.cell? ⟨b, j * 1 + 0, none⟩ = _
    simp [World.cell?, h, hj]
theorem heap_last (w : World) (o : Obj) : (w.alloc o).heap[w.heap.size]? = some o := by show (w.heap.push o)[w.heap.size]? = _; rw [Array.getElem?_push_size]
end Go.Proofs.YtddikdpbhjgihaaGreatDoor.X
end
section
namespace Go.Proofs.YtddikdpbhjgihaaGreatDoor.X
open Go.RowKit Go.Proofs.YtddikdpbhjgihaaGreatDoorW.PrintWords Go.Proofs.YtddikdpbhjgihaaGreatDoorW.PrintLast
open ObsMath
def mulV (a b : Int) : Int := a * b % 2147483647
theorem inP_mulV (a b : Int) : inP (mulV a b) = true := by rw [inP_iff]; unfold mulV; omega
theorem rd_at {l : List Int} {i : Nat} (hi : i < l.length) : rd l (i : Int) = l[i] := by simp [rd, List.getElem?_eq_getElem hi]
theorem w_succ {i : Nat} (h : i < 9223372036854775807) : wrap64 ((i : Int) + 1) = ((i + 1 : Nat) : Int) := by rw [w64 (by omega) (by omega)]; omega
theorem eval_l0 (l : List Int) (x : Int) (hx : inP x = true) (ha : l.all inP = true) (h16 : l.length ≤ 16) : ∀ (d k i : Nat), l.length - i = d → i ≤ l.length → d < k →
    field_Eval.l0 k l x (evI (l.drop (l.length - i)) x) (l.length : Int) (i : Int) = some (evI l x, 0) := by
  intro d
  induction d with
  | zero =>
    intro k i h1 h2 h3
    obtain ⟨k, rfl⟩ : ∃ m, k = m + 1 := ⟨k - 1, by omega⟩
    simp only [field_Eval.l0]
    rw [if_neg (by omega), show l.length - i = 0 by omega, List.drop_zero]
  | succ d ih =>
    intro k i h1 h2 h3
    obtain ⟨k, rfl⟩ : ∃ m, k = m + 1 := ⟨k - 1, by omega⟩
    have hi : l.length - 1 - i < l.length := by omega
    have hj : wrap64 (wrap64 ((l.length : Int) - 1) - (i : Int)) = ((l.length - 1 - i : Nat) : Int) := by
      rw [w64 (n := (l.length : Int) - 1) (by omega) (by omega), w64 (by omega) (by omega)]; omega
    have hx' := inP_iff.1 hx
    have hr := evI_range x (l.drop (l.length - i))
    have hm := mul_range hr.1 hr.2 hx'.1 hx'.2
    have hc : inP l[l.length - 1 - i] = true := List.all_eq_true.1 ha _ (List.getElem_mem hi)
    have hc' := inP_iff.1 hc
    simp only [field_Eval.l0]
    rw [if_pos (by omega), hj, if_pos (by omega), if_pos (by omega), rd_at hi, w_succ (by omega), w64 (n := evI (l.drop (l.length - i)) x * x) (by omega) (by omega), w64 (by omega) (by omega), tm _ (by omega)]
    have e : evI (l.drop (l.length - (i + 1))) x = (evI (l.drop (l.length - i)) x * x + l[l.length - 1 - i]) % 2147483647 := by
      rw [show l.length - (i + 1) = l.length - 1 - i by omega, List.drop_eq_getElem_cons hi, evI, show l.length - 1 - i + 1 = l.length - i by omega]
    rw [← e]
    exact ih k (i + 1) (by omega) (by omega) (by omega)
theorem Eval_ok {k : Nat} {l : List Int} {x : Int} (hk : 18 ≤ k) (h16 : l.length ≤ 16) (ha : l.all inP = true) (hx : inP x = true) : field_Eval.f k l x = some (evI l x, 0) := by
  obtain ⟨k, rfl⟩ : ∃ m, k = m + 1 := ⟨k - 1, by omega⟩
  unfold field_Eval.f
  rw [if_neg (by omega), elements_eq _ (by omega) _ (by omega), Option.bind_some, if_pos ha, element_eq, Option.bind_some, hx]
  simp only [field_Eval.j0]
  rw [if_neg (by simp)]
  have := eval_l0 l x hx ha h16 l.length k 0 (by omega) (by omega) (by omega)
  rw [Nat.sub_zero, List.drop_length] at this
  exact this
theorem Eval_bad {k : Nat} {l : List Int} {x : Int} (hk : 18 ≤ k) (h : l.length > 16 ∨ l.all inP = false ∨ inP x = false) : field_Eval.f k l x = some (0, 1) := by
  obtain ⟨k, rfl⟩ : ∃ m, k = m + 1 := ⟨k - 1, by omega⟩
  unfold field_Eval.f
  by_cases h1 : l.length > 16
  · rw [if_pos (by omega)]; simp only [field_Eval.j0]; rw [if_pos trivial]
  · rw [if_neg (by omega), elements_eq _ (by omega) _ (by omega), Option.bind_some]
    cases h2 : l.all inP with
    | false => rw [if_neg (by simp)]; simp only [field_Eval.j0]; rw [if_pos trivial]
    | true =>
      have h3 : inP x = false := by
        rcases h with h | h | h
        · exact absurd h h1
        · rw [h2] at h; cases h
        · exact h
      rw [if_pos rfl, element_eq, Option.bind_some, h3]
      simp only [field_Eval.j0]; rw [if_pos (by simp)]
end Go.Proofs.YtddikdpbhjgihaaGreatDoor.X
end
section
namespace Go.Proofs.YtddikdpbhjgihaaGreatDoor.X
open Go.RowKit Go.Proofs.YtddikdpbhjgihaaGreatDoorW.PrintWords Go.Proofs.YtddikdpbhjgihaaGreatDoorW.PrintLast
open ObsMath
theorem rd41_at {l : List S125} {i : Nat} (hi : i < l.length) : rd_T125 l (i : Int) = l[i] := by simp [rd_T125, List.getElem?_eq_getElem hi]
theorem dupN_iff (l : List S125) : ∀ n, n ≤ l.length → (dupN l n = false ↔ ∀ i j, i < j → j < n → XI l i ≠ XI l j)
  | 0, _ => by simp [dupN]
  | n + 1, h => by
    have ih := dupN_iff l n (by omega)
    simp only [dupN, Bool.or_eq_false_iff, ih, List.any_eq_false]
    constructor
    · rintro ⟨h1, h2⟩ i j hij hj
      by_cases e : j = n
      · subst e
        have hi : i < l.length := by omega
        have hm : l[i] ∈ l.take j := by
          rw [List.mem_take_iff_getElem]
          exact ⟨i, by omega, rfl⟩
        have := h2 _ hm
        unfold XI
        rw [rd41_at hi]
        simpa using this
      · exact h1 i j hij (by omega)
    · intro h1
      refine ⟨fun i j hij hj => h1 i j hij (by omega), fun p hp => ?_⟩
      obtain ⟨i, hi, rfl⟩ := List.mem_take_iff_getElem.1 hp
      have := h1 i n (by omega) (by omega)
      unfold XI at this
      rw [rd41_at (by omega)] at this
      simpa using this
structure IGood (l : List S125) (x : Int) : Prop where
  n1 : 1 ≤ l.length
  n16 : l.length ≤ 16
  hx : inP x = true
  ok : l.all okP = true
  nd : dupN l l.length = false
theorem IGood.dst {l : List S125} {x : Int} (h : IGood l x) : Dst (XI l) l.length where
  lo i _ := (ok_at h.ok i).1.1
  hi i _ := (ok_at h.ok i).1.2
  inj i j hi hj e := by
    have hd := (dupN_iff l l.length (Nat.le_refl _)).1 h.nd
    rcases Nat.lt_trichotomy i j with h1 | h1 | h1
    · exact absurd e (hd i j h1 hj)
    · exact h1
    · exact absurd e.symm (hd j i h1 hi)
theorem IGood.of_dst {l : List S125} {x : Int} (n1 : 1 ≤ l.length) (n16 : l.length ≤ 16) (hx : inP x = true) (ok : l.all okP = true) (hd : ∀ i j, i < j → j < l.length → XI l i ≠ XI l j) : IGood l x :=
  ⟨n1, n16, hx, ok, (dupN_iff l l.length (Nat.le_refl _)).2 hd⟩
def ival (l : List S125) (x : Int) : Int := nv (XI l) (YI l) x (l.length - 1) 0
theorem IGood.val {l : List S125} {x : Int} (h : IGood l x) : interpF l x = (ival l x, 0) := interpF_ok h.n1 h.n16 h.hx h.ok h.nd
theorem IGood.unique {l : List S125} {x : Int} (h : IGood l x) {f : F → F} (hf : PF l.length f) (hv : ∀ i, i < l.length → f (toF (XI l i)) = toF (YI l i)) (y : Int) : toF (ival l y) = f (toF y) :=
  nv_unique h.n1 h.dst hf hv y
theorem IGood.at_ {l : List S125} {x : Int} (h : IGood l x) (y : Int) (hy : inP y = true) : IGood l y := ⟨h.n1, h.n16, hy, h.ok, h.nd⟩
end Go.Proofs.YtddikdpbhjgihaaGreatDoor.X
end
section
namespace Go.Proofs.YtddikdpbhjgihaaGreatDoor.X
open Go.RowKit Go.Proofs.YtddikdpbhjgihaaGreatDoorW.PrintWords Go.Proofs.YtddikdpbhjgihaaGreatDoorW.PrintLast
open ObsMath
theorem In_eq (a : Int) : observatoryref06_In.f a = some (inP a) := by
  unfold observatoryref06_In.f inP
  by_cases h : 0 ≤ a
  · rw [if_pos h, decide_eq_true h, Bool.true_and]; congr 1; rw [decide_eq_decide]; omega
  · rw [if_neg h, decide_eq_false h, Bool.false_and]
theorem rmul_eq {a b : Int} (ha : inP a = true) (hb : inP b = true) : observatoryref06_mul.f a b = some (mulV a b) := by
  have h1 := inP_iff.1 ha
  have h2 := inP_iff.1 hb
  have h3 := mul_range h1.1 h1.2 h2.1 h2.2
  unfold observatoryref06_mul.f
  rw [w64 (by omega) (by omega), tm _ (by omega)]
  rfl
theorem power_l0 : ∀ (k : Nat) (a n out : Int), n.toNat < k → 0 ≤ n → n ≤ 9223372036854775807 → inP a = true → inP out = true → observatoryref06_power.l0 k a n out = some (pls out a n) := by
  intro k
  induction k with
  | zero => intro a n out h; omega
  | succ k ih =>
    intro a n out h h0 h9 ha ho
    simp only [observatoryref06_power.l0]
    by_cases hn : n > 0
    · rw [if_pos hn, tm _ h0, pls_step out a n hn, td _ h0, w64 (n := n / 2) (by omega) (by omega)]
      by_cases hp : n % 2 = 1
      · rw [if_pos hp, if_pos hp, rmul_eq ho ha, Option.bind_some, rmul_eq ha ha, Option.bind_some, ih _ _ _ (by omega) (by omega) (by omega) (inP_mulV _ _) (inP_mulV _ _)]
        rfl
      · rw [if_neg hp, if_neg hp, rmul_eq ha ha, Option.bind_some, ih _ _ _ (by omega) (by omega) (by omega) (inP_mulV _ _) ho]
        rfl
    · rw [if_neg hn, pls_end _ _ _ hn]
theorem power_eq {k : Nat} {a n : Int} (hk : n.toNat < k) (h0 : 0 ≤ n) (h9 : n ≤ 9223372036854775807) (ha : inP a = true) : observatoryref06_power.f k a n = some (pls 1 a n) :=
  power_l0 k a n 1 hk h0 h9 ha (by decide)
theorem inP_pls {a : Int} (n : Int) : inP (pls 1 a n) = true := inP_iff.2 (pl_range _ 1 a n (by omega) (by omega))
theorem rall_l0 (l : List Int) (hl : l.length ≤ 9223372036854775806) : ∀ (d k i : Nat), l.length - i = d → i ≤ l.length → d < k → observatoryref06_all.l0 k l (i : Int) = some ((l.drop i).all inP) := by
  intro d
  induction d with
  | zero =>
    intro k i h1 h2 h3
    obtain ⟨k, rfl⟩ : ∃ m, k = m + 1 := ⟨k - 1, by omega⟩
    simp only [observatoryref06_all.l0]
    rw [if_neg (by omega), List.drop_eq_nil_of_le (by omega)]; rfl
  | succ d ih =>
    intro k i h1 h2 h3
    obtain ⟨k, rfl⟩ : ∃ m, k = m + 1 := ⟨k - 1, by omega⟩
    have hi : i < l.length := by omega
    simp only [observatoryref06_all.l0]
    rw [if_pos (by omega), if_pos (by omega), rd_at hi, In_eq, Option.bind_some, w_succ (by omega), ih k (i + 1) (by omega) (by omega) (by omega), List.drop_eq_getElem_cons hi, List.all_cons]
    cases inP l[i] <;> simp
theorem rall_eq {l : List Int} {k : Nat} (hl : l.length ≤ 9223372036854775806) (hk : l.length < k) : observatoryref06_all.f k l = some (l.all inP) := by
  have := rall_l0 l hl l.length k 0 (by omega) (by omega) hk
  simpa [observatoryref06_all.f] using this
theorem rEval_l0 (l : List Int) (x : Int) (hx : inP x = true) (ha : l.all inP = true) (h16 : l.length ≤ 16) : ∀ (d k i : Nat), l.length - i = d → i ≤ l.length → d + 20 < k →
    observatoryref06_Eval.l0 k l x (evR (fun i => l.getD i 0) x i) (i : Int) = some (evI l x, 0) := by
  intro d
  induction d with
  | zero =>
    intro k i h1 h2 h3
    obtain ⟨k, rfl⟩ : ∃ m, k = m + 1 := ⟨k - 1, by omega⟩
    obtain rfl : i = l.length := by omega
    simp only [observatoryref06_Eval.l0]
    rw [if_neg (by omega), evR_evI]
  | succ d ih =>
    intro k i h1 h2 h3
    obtain ⟨k, rfl⟩ : ∃ m, k = m + 1 := ⟨k - 1, by omega⟩
    have hi : i < l.length := by omega
    have hc : inP l[i] = true := List.all_eq_true.1 ha _ (List.getElem_mem hi)
    have r1 := evR_range (fun i => l.getD i 0) x i
    have r2 := inP_iff.1 (inP_mulV l[i] (pls 1 x i))
    simp only [observatoryref06_Eval.l0]
    rw [if_pos (by omega), if_pos (by omega), power_eq (by omega) (by omega) (by omega) hx, Option.bind_some, rd_at hi, rmul_eq hc (inP_pls _), Option.bind_some, w64 (n := evR (fun i => l.getD i 0) x i + mulV l[i] (pls 1 x i)) (by omega) (by omega), tm _ (by omega), w_succ (by omega)]
    have e : (evR (fun i => l.getD i 0) x i + mulV l[i] (pls 1 x i)) % 2147483647 = evR (fun i => l.getD i 0) x (i + 1) := by
      simp only [evR, mulV, List.getD_eq_getElem?_getD]
      rw [List.getElem?_eq_getElem hi]; rfl
    rw [e]
    exact ih k (i + 1) (by omega) (by omega) (by omega)
theorem rEval_eq {k : Nat} (l : List Int) (x : Int) (hk : 50 ≤ k) : observatoryref06_Eval.f k l x = field_Eval.f k l x := by
  obtain ⟨k, rfl⟩ : ∃ m, k = m + 1 := ⟨k - 1, by omega⟩
  unfold observatoryref06_Eval.f
  by_cases h1 : l.length > 16
  · rw [if_pos (by omega), Eval_bad (by omega) (.inl h1)]; simp only [observatoryref06_Eval.j0]; rw [if_pos trivial]
  · rw [if_neg (by omega), rall_eq (by omega) (by omega), Option.bind_some]
    cases h2 : l.all inP with
    | false => rw [if_neg (by simp), Eval_bad (by omega) (.inr (.inl h2))]; simp only [observatoryref06_Eval.j0]; rw [if_pos trivial]
    | true =>
      rw [if_pos rfl, In_eq, Option.bind_some]
      cases h3 : inP x with
      | false => rw [Eval_bad (by omega) (.inr (.inr h3))]; simp only [observatoryref06_Eval.j0]; rw [if_pos (by simp)]
      | true =>
        rw [Eval_ok (by omega) (by omega) h2 h3]
        simp only [observatoryref06_Eval.j0]
        rw [if_neg (by simp)]
        exact rEval_l0 l x h3 h2 (by omega) l.length k 0 (by omega) (by omega) (by omega)
theorem rminus_eq {a b : Int} (ha : inP a = true) (hb : inP b = true) : observatoryref06_minus.f a b = some (sub a b) := by
  have h1 := inP_iff.1 ha
  have h2 := inP_iff.1 hb
  unfold observatoryref06_minus.f ObsMath.sub
  rw [w64 (n := a - b) (by omega) (by omega), w64 (by omega) (by omega), tm _ (by omega)]
theorem inP_sub (a b : Int) : inP (sub a b) = true := inP_iff.2 (sub_range a b)
theorem XI_def (l : List S125) (i : Nat) : (rd_T125 l (i : Int)).f0 = XI l i := rfl
theorem YI_def (l : List S125) (i : Nat) : (rd_T125 l (i : Int)).f1 = YI l i := rfl
theorem ri_l0 (l : List S125) (x : Int) (hl : l.length ≤ 16) : ∀ (d k i : Nat), l.length - i = d → i ≤ l.length → d < k →
    observatoryref06_Interpolate.l0 k l x (i : Int) = if (l.drop i).all okP = true then observatoryref06_Interpolate.l1 (k - d - 1) l x 0 0 else some (0, 1) := by
  intro d
  induction d with
  | zero =>
    intro k i h1 h2 h3
    obtain ⟨k, rfl⟩ : ∃ m, k = m + 1 := ⟨k - 1, by omega⟩
    simp only [observatoryref06_Interpolate.l0]
    rw [if_neg (by omega), List.drop_eq_nil_of_le (by omega)]; simp
  | succ d ih =>
    intro k i h1 h2 h3
    obtain ⟨k, rfl⟩ : ∃ m, k = m + 1 := ⟨k - 1, by omega⟩
    have hi : i < l.length := by omega
    simp only [observatoryref06_Interpolate.l0]
    rw [if_pos (by omega), if_pos (by omega), rd41_at hi, In_eq, Option.bind_some, In_eq, Option.bind_some, w_succ (by omega), ih k (i + 1) (by omega) (by omega) (by omega), List.drop_eq_getElem_cons hi, List.all_cons,
      show k + 1 - (d + 1) - 1 = k - d - 1 by omega]
    unfold okP
    cases inP l[i].f0 <;> cases inP l[i].f1 <;> simp
theorem l2_ok (l : List S125) (x s : Int) (i : Nat) (hl : l.length ≤ 16) (hx : inP x = true) (ha : l.all okP = true) (hi : i < l.length) (hs : inP s = true) : ∀ (d k m : Nat), l.length - m = d → m ≤ l.length → d + 2147483650 ≤ k →
    (∀ q, m ≤ q → q < l.length → q ≠ i → XI l q ≠ XI l i) →
    observatoryref06_Interpolate.l2 k l x s (i : Int) (lg (XI l) (YI l i) x i m) (lg (XI l) 1 (XI l i) i m) (m : Int) =
      observatoryref06_Interpolate.l1 (k - d - 1) l x ((s + lg (XI l) (YI l i) x i l.length * pls 1 (lg (XI l) 1 (XI l i) i l.length) 2147483645 % 2147483647) % 2147483647) ((i + 1 : Nat) : Int) := by
  intro d
  have hy := inP_iff.1 (show inP (YI l i) = true from inP_iff.2 (ok_at ha i).2)
  induction d with
  | zero =>
    intro k m h1 h2 h3 h4
    obtain ⟨k, rfl⟩ : ∃ m, k = m + 1 := ⟨k - 1, by omega⟩
    obtain rfl : m = l.length := by omega
    have r1 := inP_iff.2 (lg_range (XI l) (YI l i) x i hy.1 hy.2 l.length)
    have r2 := inP_iff.2 (lg_range (XI l) 1 (XI l i) i (by omega) (by omega) l.length)
    have rs := inP_iff.1 hs
    have rm := inP_iff.1 (inP_mulV (lg (XI l) (YI l i) x i l.length) (pls 1 (lg (XI l) 1 (XI l i) i l.length) 2147483645))
    simp only [observatoryref06_Interpolate.l2]
    rw [if_neg (by omega), power_eq (by omega) (by omega) (by omega) r2, Option.bind_some, rmul_eq r1 (inP_pls _), Option.bind_some, w64 (n := s + _) (by omega) (by omega), tm _ (by omega), w_succ (by omega)]
    rfl
  | succ d ih =>
    intro k m h1 h2 h3 h4
    obtain ⟨k, rfl⟩ : ∃ m, k = m + 1 := ⟨k - 1, by omega⟩
    simp only [observatoryref06_Interpolate.l2]
    rw [if_pos (by omega), w_succ (by omega), show k + 1 - (d + 1) - 1 = k - d - 1 by omega]
    by_cases e : m = i
    · have := ih k (m + 1) (by omega) (by omega) (by omega) (fun q hq => h4 q (by omega))
      simp only [lg, if_pos e] at this
      rw [if_pos (by omega)]
      exact this
    · have r1 := inP_iff.2 (lg_range (XI l) (YI l i) x i hy.1 hy.2 m)
      have r2 := inP_iff.2 (lg_range (XI l) 1 (XI l i) i (by omega) (by omega) m)
      have om := inP_iff.2 (ok_at ha m).1
      have oi := inP_iff.2 (ok_at ha i).1
      have := ih k (m + 1) (by omega) (by omega) (by omega) (fun q hq => h4 q (by omega))
      simp only [lg, if_neg e] at this
      rw [if_neg (by omega), if_pos (by omega), if_pos (by omega), if_pos (by omega), XI_def, XI_def, if_neg (h4 m (Nat.le_refl _) (by omega) e), rminus_eq hx om, Option.bind_some, rmul_eq r1 (inP_sub _ _), Option.bind_some,
        rminus_eq oi om, Option.bind_some, rmul_eq r2 (inP_sub _ _), Option.bind_some]
      exact this
theorem l2_dup (l : List S125) (x s : Int) (i : Nat) (hl : l.length ≤ 16) (hx : inP x = true) (ha : l.all okP = true) (hi : i < l.length) : ∀ (d k m : Nat) (y1 y2 : Int), l.length - m = d → m ≤ l.length → d < k → inP y1 = true → inP y2 = true →
    (∃ q, m ≤ q ∧ q < l.length ∧ q ≠ i ∧ XI l q = XI l i) →
    observatoryref06_Interpolate.l2 k l x s (i : Int) y1 y2 (m : Int) = some (0, 8) := by
  intro d
  induction d with
  | zero => intro k m y1 y2 h1 h2 h3 _ _ ⟨q, g1, g2, _⟩; omega
  | succ d ih =>
    intro k m y1 y2 h1 h2 h3 r1 r2 ⟨q, g1, g2, g3, g4⟩
    obtain ⟨k, rfl⟩ : ∃ m, k = m + 1 := ⟨k - 1, by omega⟩
    simp only [observatoryref06_Interpolate.l2]
    rw [if_pos (by omega), w_succ (by omega)]
    by_cases e : m = i
    · rw [if_pos (by omega)]
      exact ih k (m + 1) _ _ (by omega) (by omega) (by omega) r1 r2 ⟨q, by omega, g2, g3, g4⟩
    · have om := inP_iff.2 (ok_at ha m).1
      have oi := inP_iff.2 (ok_at ha i).1
      rw [if_neg (by omega), if_pos (by omega), if_pos (by omega), if_pos (by omega), XI_def, XI_def]
      by_cases e2 : XI l m = XI l i
      · rw [if_pos e2]
      · have hqm : q ≠ m := fun e3 => e2 (e3 ▸ g4)
        rw [if_neg e2, rminus_eq hx om, Option.bind_some, rmul_eq r1 (inP_sub _ _), Option.bind_some, rminus_eq oi om, Option.bind_some, rmul_eq r2 (inP_sub _ _), Option.bind_some]
        exact ih k (m + 1) _ _ (by omega) (by omega) (by omega) (inP_mulV _ _) (inP_mulV _ _) ⟨q, by omega, g2, g3, g4⟩
theorem l1_ok (l : List S125) (x : Int) (g : IGood l x) : ∀ (d k i : Nat), l.length - i = d → i ≤ l.length → d * 20 + 2147483690 ≤ k →
    observatoryref06_Interpolate.l1 k l x (lsum (XI l) (YI l) l.length x i) (i : Int) = some (ival l x, 0) := by
  intro d
  have hl := g.n16
  induction d with
  | zero =>
    intro k i h1 h2 h3
    obtain ⟨k, rfl⟩ : ∃ m, k = m + 1 := ⟨k - 1, by omega⟩
    obtain rfl : i = l.length := by omega
    simp only [observatoryref06_Interpolate.l1]
    rw [if_neg (by omega), lsum_nv g.n1 g.dst (fun i => (ok_at g.ok i).2)]
    rfl
  | succ d ih =>
    intro k i h1 h2 h3
    obtain ⟨k, rfl⟩ : ∃ m, k = m + 1 := ⟨k - 1, by omega⟩
    have hi : i < l.length := by omega
    have e := l2_ok l x (lsum (XI l) (YI l) l.length x i) i hl g.hx g.ok hi (inP_iff.2 (lsum_range _ _ _ _ _)) l.length k 0 (by omega) (by omega) (by omega)
      (fun q _ hq hqi e => hqi (g.dst.inj q i hq hi e))
    simp only [observatoryref06_Interpolate.l1]
    rw [if_pos (by omega), if_pos (by omega), YI_def]
    refine Eq.trans e ?_
    exact ih (k - l.length - 1) (i + 1) (by omega) (by omega) (by omega)
theorem l1_dup (l : List S125) (x : Int) (h16 : l.length ≤ 16) (hx : inP x = true) (ha : l.all okP = true) (p q : Nat) (hpq : p < q) (hq : q < l.length) (he : XI l p = XI l q) : ∀ (d k i : Nat) (s : Int), p - i = d → i ≤ p → d * 20 + 2147483690 ≤ k → inP s = true →
    observatoryref06_Interpolate.l1 k l x s (i : Int) = some (0, 8) := by
  intro d
  induction d with
  | zero =>
    intro k i s h1 h2 h3 hs
    obtain ⟨k, rfl⟩ : ∃ m, k = m + 1 := ⟨k - 1, by omega⟩
    obtain rfl : i = p := by omega
    simp only [observatoryref06_Interpolate.l1]
    rw [if_pos (by omega), if_pos (by omega), YI_def]
    exact l2_dup l x s i h16 hx ha (by omega) l.length k 0 _ _ (by omega) (by omega) (by omega) (inP_iff.2 (ok_at ha i).2) (by decide) ⟨q, by omega, hq, by omega, he.symm⟩
  | succ d ih =>
    intro k i s h1 h2 h3 hs
    obtain ⟨k, rfl⟩ : ∃ m, k = m + 1 := ⟨k - 1, by omega⟩
    simp only [observatoryref06_Interpolate.l1]
    rw [if_pos (by omega), if_pos (by omega), YI_def]
    by_cases hd : ∃ r, 0 ≤ r ∧ r < l.length ∧ r ≠ i ∧ XI l r = XI l i
    · exact l2_dup l x s i h16 hx ha (by omega) l.length k 0 _ _ (by omega) (by omega) (by omega) (inP_iff.2 (ok_at ha i).2) (by decide) hd
    · have e := l2_ok l x s i h16 hx ha (by omega) hs l.length k 0 (by omega) (by omega) (by omega) (fun r hr hr2 hri e => hd ⟨r, hr, hr2, hri, e⟩)
      refine Eq.trans e ?_
      exact ih (k - l.length - 1) (i + 1) _ (by omega) (by omega) (by omega) (inP_iff.2 (by omega))
theorem rInterp_eq {k : Nat} (l : List S125) (x : Int) (hk : 2147485000 ≤ k) : observatoryref06_Interpolate.f k l x = some (interpF l x) := by
  obtain ⟨k, rfl⟩ : ∃ m, k = m + 1 := ⟨k - 1, by omega⟩
  unfold observatoryref06_Interpolate.f
  by_cases h1 : l.length < 1
  · rw [if_pos (by omega), interpF_arg (.inl h1)]; simp only [observatoryref06_Interpolate.j0]; rw [if_pos trivial]
  rw [if_neg (by omega)]
  by_cases h2 : l.length > 16
  · rw [if_pos (by omega), interpF_arg (.inr (.inl h2))]; simp only [observatoryref06_Interpolate.j0]; rw [if_pos trivial]
  rw [if_neg (by omega), In_eq, Option.bind_some]
  simp only [observatoryref06_Interpolate.j0]
  cases hx : inP x with
  | false => rw [if_pos (by simp), interpF_arg (.inr (.inr hx))]
  | true =>
    have e := ri_l0 l x (by omega) l.length k 0 (by omega) (by omega) (by omega)
    rw [if_neg (by simp)]
    refine Eq.trans e ?_
    rw [List.drop_zero]
    cases ha : l.all okP with
    | false =>
      rw [if_neg (by simp)]
      unfold interpF
      rw [if_neg (by rintro (h | h | h) <;> first | omega | (rw [hx] at h; cases h)), if_pos ha]
    | true =>
      rw [if_pos rfl]
      cases hd : dupN l l.length with
      | false =>
        have g : IGood l x := ⟨by omega, by omega, hx, ha, hd⟩
        rw [g.val]
        exact l1_ok l x g l.length _ 0 (by omega) (by omega) (by omega)
      | true =>
        rw [interpF_dup (by omega) (by omega) hx ha hd]
        have hex : ∃ p q, p < q ∧ q < l.length ∧ XI l p = XI l q := by
          refine Classical.byContradiction fun hc => ?_
          have := (dupN_iff l l.length (Nat.le_refl _)).2 (fun i j hij hj e => hc ⟨i, j, hij, hj, e⟩)
          rw [hd] at this; cases this
        obtain ⟨p, q, hpq, hq, he⟩ := hex
        exact l1_dup l x (by omega) hx ha p q hpq hq he p _ 0 0 (by omega) (by omega) (by omega) (by decide)
end Go.Proofs.YtddikdpbhjgihaaGreatDoor.X
end
section
namespace ObsMap
open Go
theorem append_types {P : Program} {w : World} {t t' ty e e' : TypeId} {args : Array Value} (ht : P.underlying t = some (.slice e)) (ht' : P.underlying t' = some (.slice e')) :
    (Builtin.append_ #[t, t'] ty args).run P w = (Builtin.append_ #[t, t] ty args).run P w := by
  unfold Builtin.append_
  simp only [show (#[t, t'] : Array TypeId)[0]? = some t from rfl, show (#[t, t'] : Array TypeId)[1]? = some t' from rfl, show (#[t, t] : Array TypeId)[0]? = some t from rfl, show (#[t, t] : Array TypeId)[1]? = some t from rfl]
  cases h0 : args[0]? with
  | none => rfl
  | some s =>
    cases h1 : args[1]? with
    | none => rfl
    | some x =>
      simp only [Sem.run_bind, run_underlying ht, Result.andThen]
      cases s <;> try rfl
      simp only [Sem.run_bind]
      cases (Go.sizeOf e).run P w with
      | halt h w1 => rfl
      | ok sz w1 => simp only [Result.andThen, run_underlying ht, run_underlying ht', Sem.run_pure]
theorem wpList_append_of {P : Program} {w : World} {ops : Array Oper} {rest : List Oper} {o : Oper} {a : Act} {Q : Exit → Act → World → Prop} (hgd : o.guard = none) (s x : Operand) (t t' : TypeId)
    (ho : o.op = .call { callee := .builtin .append, args := #[s, x], argTypes := #[t, t'] }) (v1 v2 : Value) (hs : a.eval s = v1) (hx : a.eval x = v2) (v' : Value) (w' : World)
    (hrun : (Builtin.append_ #[t, t'] o.type #[v1, v2]).run P w = .ok v' w') (h : wpList P ops Q rest (a.put o.dst v') w') : wpList P ops Q (o :: rest) a w := by
  refine wpList_plain hgd fun K hK => ?_
  unfold Oper.wp
  simp [execOp, ho, resolve, invoke, builtin, hs, hx, hrun, Result.andThen]
  exact hK _ _ h
end ObsMap
end
