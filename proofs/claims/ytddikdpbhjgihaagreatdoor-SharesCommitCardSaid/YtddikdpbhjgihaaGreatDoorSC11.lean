import Derived.Test.YtddikdpbhjgihaaGreatDoorSC10
import Derived.Test.YtddikdpbhjgihaaGreatDoorSC07
import Derived.Laws.Bits64b
section
namespace Go.Proofs.YtddikdpbhjgihaaGreatDoor.X
open Go.RowKit Go.Proofs.YtddikdpbhjgihaaGreatDoorW.PrintWords Go.Proofs.YtddikdpbhjgihaaGreatDoorW.PrintLast Go.Proofs.YtddikdpbhjgihaaGreatDoorW.PrintMore
open ObsMath (sub inv nv)
open ObsMap
set_option linter.unusedVariables false
set_option linter.unusedSimpArgs false
def inP (a : Int) : Bool := decide (0 ≤ a) && decide (a < 2147483647)
theorem element_eq (a : Int) : field_element.f a = some (inP a) := by
  unfold field_element.f inP
  by_cases h : 0 ≤ a <;> simp [h]
theorem elements_l0 (l : List Int) (hl : l.length ≤ 9223372036854775806) : ∀ (d k i : Nat), l.length - i = d → i ≤ l.length → d < k → field_elements.l0 k l (l.length : Int) (i : Int) = some ((l.drop i).all inP) := by
  intro d
  induction d with
  | zero =>
    intro k i h1 h2 h3
    obtain ⟨k, rfl⟩ : ∃ m, k = m + 1 := ⟨k - 1, by omega⟩
    simp only [field_elements.l0]
    rw [if_neg (by omega), List.drop_eq_nil_of_le (by omega)]; rfl
  | succ d ih =>
    intro k i h1 h2 h3
    obtain ⟨k, rfl⟩ : ∃ m, k = m + 1 := ⟨k - 1, by omega⟩
    have hi : i < l.length := by omega
    have hr : rd l (i : Int) = l[i] := by simp [rd, List.getElem?_eq_getElem hi]
    have hw : wrap64 ((i : Int) + 1) = ((i + 1 : Nat) : Int) := by rw [w64 (by omega) (by omega)]; omega
    simp only [field_elements.l0]
    rw [if_pos (by omega), if_pos (by omega), if_pos (by omega), element_eq, hr, hw, Option.bind_some, ih k (i + 1) (by omega) (by omega) (by omega), List.drop_eq_getElem_cons hi, List.all_cons]
    cases inP l[i] <;> simp
theorem elements_eq (l : List Int) (hl : l.length ≤ 9223372036854775806) (k : Nat) (hk : l.length < k) : field_elements.f k l = some (l.all inP) := by
  have := elements_l0 l hl l.length k 0 (by omega) (by omega) hk
  simpa [field_elements.f] using this
theorem elements_two (a b : Int) : field_elements.f 3 [a, b] = some (inP a && inP b) := by
  rw [elements_eq _ (by simp) _ (by simp)]; simp
theorem two_cells {w : World} {b : Nat} {x y : Int} (h0 : w.cell? ⟨b, 0, none⟩ = some (.int .i64 x)) (h1 : w.cell? ⟨b, 1, none⟩ = some (.int .i64 y)) :
    Kd.C (Kd.int .i64) w (some ⟨b, 0, none⟩) ([x, y] : List Int).length [x, y] := by
  refine ⟨rfl, by simp, fun _ => ⟨_, rfl, fun j p hj => ?_⟩⟩
  match j, hj with
  | 0, hj => simp at hj; subst hj; exact ⟨[.int .i64 x], rfl, rfl, fun i u hu => by match i, hu with | 0, hu => simp at hu; subst hu; exact h0⟩
  | 1, hj => simp at hj; subst hj; exact ⟨[.int .i64 y], rfl, rfl, fun i u hu => by match i, hu with | 0, hu => simp at hu; subst hu; rw [add_plain]; exact h1⟩
theorem zeroB (w : World) : (zeroValue 4).run Tryz.prog w = .ok (.bool false) w := by kernel_rfl
theorem elements_arr (b : Nat) (x y : Int) (r : Bool) (w : World) (h0 : w.cell? ⟨b, 0, none⟩ = some (.int .i64 x)) (h1 : w.cell? ⟨b, 1, none⟩ = some (.int .i64 y)) (hr : (inP x && inP y) = r) :
    Calls Tryz.prog 154 #[.slice (some ⟨b, 0, none⟩) 2 2] w fun e w' => e = .returned (.bool r) ∧ Drawn0 w w' :=
  field_elements.calls 3 (some ⟨b, 0, none⟩) 2 [x, y] r w (two_cells h0 h1) (by simp) (by rw [elements_two, hr])
def dupN (l : List S125) : Nat → Bool
  | 0 => false
  | k + 1 => dupN l k || (l.take k).any (fun p => p.f0 == (rd_T125 l k).f0)
def okP (p : S125) : Bool := inP p.f0 && inP p.f1
def interpF (l : List S125) (x : Int) : Int × Int :=
  if l.length < 1 ∨ l.length > 16 ∨ inP x = false then (0, 1)
  else if l.all okP = false then (0, 1)
  else if dupN l l.length = true then (0, 8)
  else (nv (fun i => (rd_T125 l i).f0) (fun i => (rd_T125 l i).f1) x (l.length - 1) 0, 0)
structure Inv1 (w wr : World) (A : Option Addr) (c : Nat) (l : List S125) (x : Int) (k : Nat) : Prop where
  c2 : wr.cell? ⟨w.heap.size, 0, none⟩ = some (.slice A l.length c)
  c3 : wr.cell? ⟨w.heap.size + 1, 0, none⟩ = some (.int .i64 x)
  mp : ∃ m, IsMap wr (w.heap.size + 1 + 1) m ∧ ∀ z, mlook m z = if (l.take k).any (fun p => p.f0 == z) then some (.bool true) else none
  bl : Below w.heap.size w wr
  sz : w.heap.size + 3 ≤ wr.heap.size
  ok : (l.take k).all okP = true
theorem cell_of_block {w w' : World} {b : Nat} (h : w'.heap[b]? = w.heap[b]?) (o : Nat) : w'.cell? ⟨b, o, none⟩ = w.cell? ⟨b, o, none⟩ := by simp [World.cell?, h]
theorem Inv1.next {w wr w2 : World} {A : Option Addr} {c : Nat} {l : List S125} {x : Int} {k : Nat} {m : List (Int × Value)} {o : Obj} {nd : Nat}
    (hI : Inv1 w wr A c l x k) (hk : k < l.length) (hv : (inP (rd_T125 l k).f0 && inP (rd_T125 l k).f1) = true)
    (hl : ∀ z, mlook m z = if (l.take k).any (fun p => p.f0 == z) then some (.bool true) else none)
    (hm2 : IsMap w2 (w.heap.size + 1 + 1) (mput m (rd_T125 l k).f0 (.bool true))) (hg2 : ((wr.alloc o).drewN nd).grownBy w2 (some (w.heap.size + 1 + 1))) :
    Inv1 w w2 A c l x (k + 1) := by
  have hsz : wr.heap.size + 1 = ((wr.alloc o).drewN nd).heap.size := by show _ = (wr.heap.push o).size; simp
  have hs := hI.sz
  have hblk : ∀ b, b < w.heap.size + 2 → w2.heap[b]? = wr.heap[b]? := by
    intro b hb
    rw [hg2.block b (by omega) (by simp; omega)]
    show (wr.heap.push o)[b]? = _
    rw [Array.getElem?_push, if_neg (by omega)]
  have hr : (rd_T125 l k) = l[k] := by simp [rd_T125, List.getElem?_eq_getElem hk]
  refine ⟨?_, ?_, ⟨_, hm2, ?_⟩, ?_, ?_, ?_⟩
  · rw [cell_of_block (hblk _ (by omega))]; exact hI.c2
  · rw [cell_of_block (hblk _ (by omega))]; exact hI.c3
  · intro z
    rw [mlook_mput, hl, List.take_succ_eq_append_getElem hk, List.any_append, hr]
    by_cases hz : z = l[k].f0
    · subst hz; simp
    · have : ¬ l[k].f0 = z := fun e => hz e.symm
      simp [hz, this]
  · exact pw_below_grown (pw_below_drewN (hI.bl.alloc hI.bl.size o) nd) _ (by omega) hg2 (fun q hq => by injection hq with hq; omega)
  · have := hg2.size; omega
  · rw [List.take_succ_eq_append_getElem hk, List.all_append, hI.ok, ← hr]
    simp [okP, hv]
theorem blk_setCell {w : World} {b o : Nat} {u : Value} {c : Array Value} {t : TypeId} {f : Nat × Nat} (h : w.heap[b]? = some (.cells c t f)) :
    (w.setCell ⟨b, o, none⟩ u).heap[b]? = some (.cells (c.setIfInBounds o u) t f) := by
  have hlt := lt_of_block h
  have h' : w.heap[b] = .cells c t f := by simpa [Array.getElem?_eq_getElem hlt] using h
  show (w.heap.modify b _)[b]? = _
  rw [Array.getElem?_eq_getElem (by simpa using hlt), Array.getElem_modify_self, h']
  rfl
structure Inv2 (w wq : World) (A : Option Addr) (c : Nat) (l : List S125) (x : Int) (B : Nat) (vals : Nat → Int) : Prop where
  c2 : wq.cell? ⟨w.heap.size, 0, none⟩ = some (.slice A l.length c)
  c3 : wq.cell? ⟨w.heap.size + 1, 0, none⟩ = some (.int .i64 x)
  bk : ∃ arr, wq.heap[B]? = some (.cells arr 179 (0, 0)) ∧ ∀ j, j < 16 → arr[j]? = some (.int .i64 (vals j))
  bl : Below w.heap.size w wq
  ge : w.heap.size + 2 ≤ B
theorem Inv2.at_ {w wq : World} {A : Option Addr} {c : Nat} {l : List S125} {x : Int} {B : Nat} {vals : Nat → Int} (h : Inv2 w wq A c l x B vals) (j : Nat) (hj : j < 16) :
    wq.cell? ⟨B, j, none⟩ = some (.int .i64 (vals j)) ∧ wq.frozen? ⟨B, j, none⟩ = false := by
  obtain ⟨arr, hb, ha⟩ := h.bk
  exact ⟨by simp [World.cell?, hb, ha j hj], by simp [World.frozen?, hb]⟩
theorem Inv2.lt {w wq : World} {A : Option Addr} {c : Nat} {l : List S125} {x : Int} {B : Nat} {vals : Nat → Int} (h : Inv2 w wq A c l x B vals) : B < wq.heap.size := by
  obtain ⟨arr, hb, _⟩ := h.bk
  exact lt_of_block hb
theorem Inv2.congr {w wq : World} {A : Option Addr} {c : Nat} {l : List S125} {x : Int} {B : Nat} {vals vals' : Nat → Int} (h : Inv2 w wq A c l x B vals) (he : ∀ j, j < 16 → vals' j = vals j) :
    Inv2 w wq A c l x B vals' := by
  obtain ⟨arr, hb, ha⟩ := h.bk
  exact ⟨h.c2, h.c3, ⟨arr, hb, fun j hj => by rw [he j hj]; exact ha j hj⟩, h.bl, h.ge⟩
theorem Inv2.drawn {w wq : World} {A : Option Addr} {c : Nat} {l : List S125} {x : Int} {B : Nat} {vals : Nat → Int} (h : Inv2 w wq A c l x B vals) (n : Nat) : Inv2 w (wq.drewN n) A c l x B vals :=
  ⟨h.c2, h.c3, h.bk, pw_below_drewN h.bl n, h.ge⟩
theorem Inv2.alloc {w wq : World} {A : Option Addr} {c : Nat} {l : List S125} {x : Int} {B : Nat} {vals : Nat → Int} (h : Inv2 w wq A c l x B vals) (o : Obj) : Inv2 w (wq.alloc o) A c l x B vals := by
  have hlt := h.lt
  have hge := h.ge
  have hblk : ∀ b, b < wq.heap.size → (wq.alloc o).heap[b]? = wq.heap[b]? := by
    intro b hb
    show (wq.heap.push o)[b]? = _
    rw [Array.getElem?_push, if_neg (by omega)]
  obtain ⟨arr, hb, ha⟩ := h.bk
  exact ⟨by rw [cell_of_block (hblk _ (by omega))]; exact h.c2, by rw [cell_of_block (hblk _ (by omega))]; exact h.c3, ⟨arr, by rw [hblk _ hlt]; exact hb, ha⟩, h.bl.alloc h.bl.size o, hge⟩
theorem Inv2.store {w wq : World} {A : Option Addr} {c : Nat} {l : List S125} {x : Int} {B : Nat} {vals : Nat → Int} (h : Inv2 w wq A c l x B vals) (i : Nat) (v : Int) :
    Inv2 w (wq.setCell ⟨B, i, none⟩ (.int .i64 v)) A c l x B (fun j => if j = i then v else vals j) := by
  have hge := h.ge
  have hblk : ∀ b, b ≠ B → (wq.setCell ⟨B, i, none⟩ (.int .i64 v)).heap[b]? = wq.heap[b]? := fun b hb => Below.heap_setCell _ _ _ _ hb
  obtain ⟨arr, hb, ha⟩ := h.bk
  refine ⟨by rw [cell_of_block (hblk _ (by omega))]; exact h.c2, by rw [cell_of_block (hblk _ (by omega))]; exact h.c3, ⟨_, blk_setCell hb, ?_⟩, h.bl.setCell (by show _ ≤ B; omega) _, hge⟩
  intro j hj
  have h16 : j < arr.size := by
    have := ha j hj
    exact (Array.getElem?_eq_some_iff.1 this).1
  by_cases e : j = i
  · subst e; simp [h16]
  · rw [if_neg e, Array.getElem?_setIfInBounds_ne (fun e' => e e'.symm)]; exact ha j hj
def XI (l : List S125) (i : Nat) : Int := (rd_T125 l i).f0
def YI (l : List S125) (i : Nat) : Int := (rd_T125 l i).f1
def vO (l : List S125) (x : Int) (W j : Nat) : Int := if j < l.length then nv (XI l) (YI l) x (min (W - 1) (l.length - 1 - j)) j else 0
def vI (l : List S125) (x : Int) (W i j : Nat) : Int := if j < i then nv (XI l) (YI l) x W j else vO l x W j
theorem vI_zero (l : List S125) (x : Int) (W j : Nat) : vI l x W 0 j = vO l x W j := by simp [vI]
theorem vI_end (l : List S125) (x : Int) (W j : Nat) (h1 : 1 ≤ W) (h2 : W ≤ l.length) : vI l x W (l.length - W) j = vO l x (W + 1) j := by
  unfold vI vO
  by_cases h : j < l.length - W
  · rw [if_pos h, if_pos (by omega), show min (W + 1 - 1) (l.length - 1 - j) = W by omega]
  · rw [if_neg h]
    by_cases h3 : j < l.length
    · rw [if_pos h3, if_pos h3, show min (W - 1) (l.length - 1 - j) = min (W + 1 - 1) (l.length - 1 - j) by omega]
    · rw [if_neg h3, if_neg h3]
theorem vI_at (l : List S125) (x : Int) (W i : Nat) (h1 : 1 ≤ W) (h2 : i < l.length - W) : vI l x W i i = nv (XI l) (YI l) x (W - 1) i := by
  unfold vI vO
  rw [if_neg (by omega), if_pos (by omega), show min (W - 1) (l.length - 1 - i) = W - 1 by omega]
theorem vI_next (l : List S125) (x : Int) (W i : Nat) (h1 : 1 ≤ W) (h2 : i < l.length - W) : vI l x W i (i + 1) = nv (XI l) (YI l) x (W - 1) (i + 1) := by
  unfold vI vO
  rw [if_neg (by omega), if_pos (by omega), show min (W - 1) (l.length - 1 - (i + 1)) = W - 1 by omega]
theorem nv_at (l : List S125) (x : Int) (W i : Nat) (h1 : 1 ≤ W) : nv (XI l) (YI l) x W i =
    sub (sub x (XI l (i + W)) * nv (XI l) (YI l) x (W - 1) i % 2147483647) (sub x (XI l i) * nv (XI l) (YI l) x (W - 1) (i + 1) % 2147483647) * inv (sub (XI l i) (XI l (i + W))) % 2147483647 := by
  obtain ⟨V, rfl⟩ : ∃ V, W = V + 1 := ⟨W - 1, by omega⟩
  rfl
theorem vI_step (l : List S125) (x : Int) (W i j : Nat) (v : Int) (hv : v = nv (XI l) (YI l) x W i) : (if j = i then v else vI l x W i j) = vI l x W (i + 1) j := by
  unfold vI
  by_cases e : j = i
  · subst e; rw [if_pos rfl, if_pos (by omega), hv]
  · rw [if_neg e]
    by_cases h : j < i
    · rw [if_pos h, if_pos (by omega)]
    · rw [if_neg h, if_neg (by omega)]
theorem inP_iff {a : Int} : inP a = true ↔ 0 ≤ a ∧ a < 2147483647 := by simp [inP]
theorem ok_at {l : List S125} (h : l.all okP = true) (i : Nat) : (0 ≤ XI l i ∧ XI l i < 2147483647) ∧ 0 ≤ YI l i ∧ YI l i < 2147483647 := by
  unfold XI YI
  by_cases hi : i < l.length
  · have hr : (rd_T125 l i) = l[i] := by simp [rd_T125, List.getElem?_eq_getElem hi]
    have := List.all_eq_true.1 h _ (List.getElem_mem hi)
    simp only [okP, Bool.and_eq_true] at this
    rw [hr]
    exact ⟨inP_iff.1 this.1, inP_iff.1 this.2⟩
  · have hr : (rd_T125 l i) = z125 := by simp [rd_T125, List.getElem?_eq_none (Nat.le_of_not_lt hi)]
    rw [hr]; simp [z125]
def Post (l : List S125) (x : Int) (w : World) (e : Ending) (w' : World) : Prop :=
  e = .returned (.tuple #[.int .i64 (interpF l x).1, .int .i64 (interpF l x).2]) ∧ Below w.heap.size w w'
theorem interpF_bad {l : List S125} {x : Int} {k : Nat} (hk : k < l.length) (hv : ¬ okP (rd_T125 l k) = true) : interpF l x = (0, 1) := by
  unfold interpF
  split
  · rfl
  · rw [if_pos]
    rw [List.all_eq_false]
    refine ⟨l[k], List.getElem_mem hk, ?_⟩
    have hr : (rd_T125 l k) = l[k] := by simp [rd_T125, List.getElem?_eq_getElem hk]
    rwa [hr] at hv
theorem interpF_dup {l : List S125} {x : Int} (h1 : 1 ≤ l.length) (h2 : l.length ≤ 16) (hx : inP x = true) (ha : l.all okP = true) (hd : dupN l l.length = true) : interpF l x = (0, 8) := by
  unfold interpF
  rw [if_neg (by rintro (h | h | h) <;> first | omega | (rw [hx] at h; cases h)), if_neg (by rw [ha]; simp), if_pos hd]
theorem interpF_ok {l : List S125} {x : Int} (h1 : 1 ≤ l.length) (h2 : l.length ≤ 16) (hx : inP x = true) (ha : l.all okP = true) (hd : dupN l l.length = false) :
    interpF l x = (nv (fun i => (rd_T125 l i).f0) (fun i => (rd_T125 l i).f1) x (l.length - 1) 0, 0) := by
  unfold interpF
  rw [if_neg (by rintro (h | h | h) <;> first | omega | (rw [hx] at h; cases h)), if_neg (by rw [ha]; simp), if_neg (by rw [hd]; simp)]
set_option maxHeartbeats 1000000 in
theorem interp_walk (A : Option Addr) (c : Nat) (l : List S125) (x : Int) (w : World) (hC0 : Kd.C k125 w A l.length l) (hc : l.length ≤ c)
   (h1 : 1 ≤ l.length) (h2 : l.length ≤ 16) (hx : inP x = true) :
   Calls Tryz.prog 130 #[.slice A l.length c, .int .i64 x] w (Post l x w) := by
  have HC := Aside0.mk hC0
  have HX := Aside0.mk hx
  have E1 := Aside0.mk (element_eq x)
  rw [hx] at E1
  clear hx
  clear hC0
  have l1 : ¬ ((l.length : Int) < 1) := by omega
  have l2 : ¬ ((l.length : Int) > 16) := by omega
  have hmm := @run_makeMap Tryz.prog
  go_enter Tryz.func130, Tryz.ntmps130
  go_wp2_with (first | (go_at_call 155; (with_reducible refine (field_element.calls x true _ E1.out).mono ?_); rintro e w' ⟨rfl, ⟨nd, rfl⟩⟩; (try first | exact ⟨rfl, _, World.drewN_drewN _ _ _⟩ | exact ⟨rfl, _, Eq.trans (World.drewN_drewN _ _ _) (congrArg (World.drewN _) (Nat.add_assoc _ _ _))⟩)))
  go_loopg [7, 32] l.length (fun g v7 v32 wr => ∃ k : Nat, k + g = l.length ∧ v32 = .int .i64 k ∧ v7 = .bool (dupN l k) ∧ Inv1 w wr A c l x k)
  case atStart =>
    refine ⟨0, by omega, rfl, rfl, ⟨?_, ?_, ⟨[], ?_, by intro z; simp [mlook]⟩, ?_, ?_, rfl⟩⟩
    · go_simp
    · go_simp
    · refine ⟨#[], 0, ?_, rfl⟩
      show (((w.heap.push _).push _).push _)[_]? = _
      rw [show w.heap.size + 1 + 1 = ((w.heap.push (.cells #[.slice A l.length c] 123)).push (.cells #[.int .i64 x] 3)).size by simp, Array.getElem?_push_size]
    · exact below_alloc (pw_below_drewN (((Below.refl _ _).alloc (Nat.le_refl _) _).alloc (by simp) _) _) _
    · show _ ≤ (((w.heap.push _).push _).push _).size
      simp
  case round =>
    obtain ⟨k, hk, rfl, rfl, hI⟩ := hrel
    have HI := Aside0.mk hI
    by_cases hlt : k < l.length
    · have hlt' : (k : Int) < (l.length : Int) := by omega
      have HCr := Aside0.mk (Kd.C_below HC.out hI.bl)
      have hsz := hI.sz
      clear hI
      obtain ⟨ad, e0, a0, a1⟩ := at_T125 HCr.out (k : Int) (by omega) hlt'
      subst e0
      rw [Int.toNat_natCast] at a0 a1
      by_cases hv : okP (rd_T125 l k) = true
      · have HV := Aside0.mk (show (inP (rd_T125 l k).f0 && inP (rd_T125 l k).f1) = true from hv)
        clear hv
        go_wp2_with fail
        refine (elements_arr _ (rd_T125 l k).f0 (rd_T125 l k).f1 true _ ?_ ?_ HV.out).mono ?_
        · go_simp
        · go_simp
        rintro e w' ⟨rfl, ⟨nd, rfl⟩⟩
        obtain ⟨m, hm, hl⟩ := HI.out.mp
        have hrun := lookup_run (P := Tryz.prog) (t := 175) (kt := 3) (et := 4) Tryz.underlying175 Tryz.underlying3 (zeroB _) ((hm.alloc (.cells #[.int .i64 (rd_T125 l k).f0, .int .i64 (rd_T125 l k).f1] 125)).drawn nd) (rd_T125 l k).f0 false
        obtain ⟨w2, hrun2, hm2, hg2⟩ := update_run (P := Tryz.prog) (t := 175) (kt := 3) (et := 4) Tryz.underlying175 Tryz.underlying3 ((hm.alloc (.cells #[.int .i64 (rd_T125 l k).f0, .int .i64 (rd_T125 l k).f1] 125)).drawn nd) (rd_T125 l k).f0 (.bool true)
        have hs : (mlook m (rd_T125 l k).f0).getD (.bool false) = .bool ((l.take k).any (fun p => p.f0 == (rd_T125 l k).f0)) := by
          rw [hl]; cases (l.take k).any (fun p => p.f0 == (rd_T125 l k).f0) <;> simp
        rw [if_neg (by decide), hs] at hrun
        have HD := Aside0.mk (show dupN l (k + 1) = (dupN l k || (l.take k).any (fun p => p.f0 == (rd_T125 l k).f0)) from rfl)
        have HM := Aside0.mk hm
        have HL := Aside0.mk hl
        have HM2 := Aside0.mk hm2
        have HG2 := Aside0.mk hg2
        clear hm hl hm2 hg2 hs
        generalize (l.take k).any (fun p => p.f0 == (rd_T125 l k).f0) = s at hrun HD
        cases hd : dupN l k with
        | true =>
          have HN := HI.out.next hlt HV.out HL.out HM2.out HG2.out
          rw [hd] at HD
          have HN' := Aside0.mk HN
          clear HN
          go_wp2_with fail
          go_roundg (gk - 1)
          case rel => exact ⟨k + 1, by omega, by go_num, by rw [HD.out]; rfl, HN'.out⟩
          case measure => omega
        | false =>
          have HN := HI.out.next hlt HV.out HL.out HM2.out HG2.out
          rw [hd] at HD
          have HN' := Aside0.mk HN
          clear HN
          go_wp2_with fail
          go_roundg (gk - 1)
          case rel => exact ⟨k + 1, by omega, by go_num, by rw [HD.out]; simp, HN'.out⟩
          case measure => omega
      · have HV := Aside0.mk (show (inP (rd_T125 l k).f0 && inP (rd_T125 l k).f1) = false from by simpa [okP] using hv)
        have HR := Aside0.mk (interpF_bad (x := x) hlt hv)
        clear hv
        go_wp2_with fail
        refine (elements_arr _ (rd_T125 l k).f0 (rd_T125 l k).f1 false _ ?_ ?_ HV.out).mono ?_
        · go_simp
        · go_simp
        rintro e w' ⟨rfl, ⟨nd, rfl⟩⟩
        go_wp2_with fail
        go_ret2
        refine ⟨by rw [HR.out]; rfl, ?_⟩
        exact pw_below_drewN (HI.out.bl.alloc HI.out.bl.size _) nd
    · obtain rfl : k = l.length := by omega
      clear hlt
      have HA := Aside0.mk (show l.all okP = true by have := hI.ok; rwa [List.take_length] at this)
      have c2 := hI.c2
      have c3 := hI.c3
      have z0 : w.heap.size < wr.heap.size := by have := hI.sz; omega
      have z1 : w.heap.size + 1 < wr.heap.size := by have := hI.sz; omega
      clear hI
      cases hd : dupN l l.length with
      | true =>
        have HR := Aside0.mk (interpF_dup (x := x) h1 h2 HX.out HA.out hd)
        go_wp2_with fail
        go_ret2
        exact ⟨by rw [HR.out]; rfl, HI.out.bl⟩
      | false =>
        have HR := Aside0.mk (interpF_ok (x := x) h1 h2 HX.out HA.out hd)
        have HI0 : Aside0 (Inv2 w (wr.alloc (.cells #[.int .i64 0, .int .i64 0, .int .i64 0, .int .i64 0, .int .i64 0, .int .i64 0, .int .i64 0, .int .i64 0, .int .i64 0, .int .i64 0, .int .i64 0, .int .i64 0, .int .i64 0, .int .i64 0, .int .i64 0, .int .i64 0] 179)) A c l x wr.heap.size (fun _ => 0)) := by
          have hsz := HI.out.sz
          refine ⟨⟨?_, ?_, ⟨_, (by show (wr.heap.push _)[wr.heap.size]? = _; rw [Array.getElem?_push_size]), ?_⟩, HI.out.bl.alloc HI.out.bl.size _, by omega⟩⟩
          · rw [cell_of_block (w := wr)]
            · exact HI.out.c2
            · show (wr.heap.push _)[_]? = _; rw [Array.getElem?_push, if_neg (by omega)]
          · rw [cell_of_block (w := wr)]
            · exact HI.out.c3
            · show (wr.heap.push _)[_]? = _; rw [Array.getElem?_push, if_neg (by omega)]
          · intro j hj
            rcases (show j = 0 ∨ j = 1 ∨ j = 2 ∨ j = 3 ∨ j = 4 ∨ j = 5 ∨ j = 6 ∨ j = 7 ∨ j = 8 ∨ j = 9 ∨ j = 10 ∨ j = 11 ∨ j = 12 ∨ j = 13 ∨ j = 14 ∨ j = 15 from by omega) with rfl | rfl | rfl | rfl | rfl | rfl | rfl | rfl | rfl | rfl | rfl | rfl | rfl | rfl | rfl | rfl <;> rfl
        go_wp2_with fail
        obtain ⟨B, hB⟩ : ∃ B, B = wr.heap.size := ⟨_, rfl⟩
        rw [← hB]
        rw [← hB] at HI0
        generalize (wr.alloc (.cells #[.int .i64 0, .int .i64 0, .int .i64 0, .int .i64 0, .int .i64 0, .int .i64 0, .int .i64 0, .int .i64 0, .int .i64 0, .int .i64 0, .int .i64 0, .int .i64 0, .int .i64 0, .int .i64 0, .int .i64 0, .int .i64 0] 179)) = w1 at HI0 ⊢
        clear hB
        clear z0 z1
        go_loopg [53] l.length (fun g v53 wq => ∃ k : Nat, k + g = l.length ∧ v53 = .int .i64 k ∧ Inv2 w wq A c l x B (fun j => if j < k then (rd_T125 l j).f1 else 0))
        case atStart => exact ⟨0, by omega, rfl, HI0.out.congr (fun j _ => by simp)⟩
        case round =>
          obtain ⟨k, hk, rfl, hJ⟩ := hrel
          have HJ := Aside0.mk hJ
          by_cases hlt : k < l.length
          · have hlt' : (k : Int) < (l.length : Int) := by omega
            have h16 : (k : Int) < 16 := by omega
            have HCr := Aside0.mk (Kd.C_below HC.out hJ.bl)
            have hq := hJ.lt
            have hat := hJ.at_ k (by omega)
            obtain ⟨q1, q2⟩ := hat
            clear hJ
            obtain ⟨ad, e0, a0, a1⟩ := at_T125 HCr.out (k : Int) (by omega) hlt'
            subst e0
            rw [Int.toNat_natCast] at a0 a1
            go_wp2_with fail
            go_roundg (gk - 1)
            case rel =>
              refine ⟨k + 1, by omega, by go_num, ((HJ.out.store k _).alloc _).congr fun j hj => ?_⟩
              by_cases e : j = k
              · subst e; simp
              · simp only [e, if_false]
                by_cases e2 : j < k
                · rw [if_pos e2, if_pos (by omega)]
                · rw [if_neg e2, if_neg (by omega)]
            case measure => omega
          · obtain rfl : k = l.length := by omega
            have c2 := hJ.c2
            have c3 := hJ.c3
            clear hJ hlt
            go_wp2_with fail
            go_loopg [14] (l.length - 1) (fun g v14 wq => ∃ W : Nat, W + g = l.length ∧ 1 ≤ W ∧ v14 = .int .i64 W ∧ Inv2 w wq A c l x B (vO l x W))
            case atStart =>
              refine ⟨1, by omega, by omega, rfl, HJ.out.congr fun j hj => ?_⟩
              unfold vO
              by_cases h : j < l.length
              · rw [if_pos h, if_pos h]; simp [nv, YI]
              · rw [if_neg h, if_neg h]
            case round =>
              obtain ⟨W, hW, hW1, rfl, hO⟩ := hrel
              have HO := Aside0.mk hO
              have c2 := hO.c2
              by_cases hlt : W < l.length
              · have hlt' : (W : Int) < (l.length : Int) := by omega
                clear hO
                go_wp2_with fail
                go_loopg [74] (l.length - W) (fun g v74 wi => ∃ i : Nat, i + g = l.length - W ∧ v74 = .int .i64 i ∧ Inv2 w wi A c l x B (vI l x W i))
                case atStart =>
                  refine ⟨0, by omega, rfl, HO.out.congr fun j hj => vI_zero _ _ _ _⟩
                case round =>
                  obtain ⟨i, hi, rfl, hN⟩ := hrel
                  have HN := Aside0.mk hN
                  by_cases hil : i < l.length - W
                  · have hil' : (i : Int) < (l.length : Int) - (W : Int) := by omega
                    have HCr := Aside0.mk (Kd.C_below HC.out hN.bl)
                    have hok := Aside0.mk (And.intro (ok_at HA.out i) (ok_at HA.out (i + W)))
                    have HV := Aside0.mk (And.intro (nv_at l x W i hW1) (And.intro (vI_at l x W i hW1 hil) (vI_next l x W i hW1 hil)))
                    clear hN
                    obtain ⟨ad, e0, a0, _⟩ := at_T125 HCr.out (i : Int) (by omega) (by omega)
                    obtain ⟨ad', e1, b0, _⟩ := at_T125 HCr.out ((i : Int) + (W : Int)) (by omega) (by omega)
                    obtain rfl : ad = ad' := by rw [e0] at e1; injection e1
                    clear e1
                    subst e0
                    go_wp2_with fail
                    have hj := HN.out.at_ i (by omega)
                    have hj2 := HN.out.at_ (i + 1) (by omega)
                    rw [HV.out.2.1] at hj
                    rw [HV.out.2.2] at hj2
                    have hx1 := inP_iff.1 HX.out
                    have hr1 := ObsMath.nv_range (XI l) (YI l) x (fun q => (ok_at HA.out q).2) (W - 1) i
                    have hr2 := ObsMath.nv_range (XI l) (YI l) x (fun q => (ok_at HA.out q).2) (W - 1) (i + 1)
                    refine (interp_join w.heap.size (w.heap.size + 1) B ad l.length c x (i : Int) ((i : Int) + (W : Int)) (XI l i) (XI l (i + W)) (nv (XI l) (YI l) x (W - 1) i) (nv (XI l) (YI l) x (W - 1) (i + 1)) _ HN.out.c2 HN.out.c3 hj.1
                      (by rw [show ((i : Int) + 1).toNat = i + 1 by omega]; exact hj2.1) hj.2 a0 (by rw [b0]; unfold XI; rw [show ((i + W : Nat) : Int) = (i : Int) + (W : Int) by omega]) (by omega) (by omega) (by omega) h2
                      hx1.1 hx1.2 hok.out.1.1.1 hok.out.1.1.2 hok.out.2.1.1 hok.out.2.1.2 hr1.1 hr1.2 hr2.1 hr2.2).mono ?_
                    have HS := Aside0.mk (fun nd => ((HN.out.drawn nd).store i (nv (XI l) (YI l) x W i)).congr (fun j _ => (vI_step l x W i j _ rfl).symm))
                    rw [← HV.out.1, Int.toNat_natCast]
                    clear hj hj2 hx1 hr1 hr2
                    rintro e w' ⟨rfl, nd, rfl⟩
                    go_wp2_with fail
                    go_roundg (l.length - W - (i + 1))
                    case rel => exact ⟨i + 1, by omega, by go_num, HS.out nd⟩
                    case measure => omega
                  · obtain rfl : i = l.length - W := by omega
                    have HE := Aside0.mk (hN.congr (fun j _ => (vI_end l x W j hW1 (by omega)).symm))
                    have hnl : ¬ (((l.length - W : Nat) : Int) < (l.length : Int) - (W : Int)) := by omega
                    clear hN hil
                    go_wp2_with fail
                    go_roundg (l.length - (W + 1))
                    case rel => exact ⟨W + 1, by omega, by omega, by go_num, HE.out⟩
                    case measure => omega
              · obtain rfl : W = l.length := by omega
                have hat := hO.at_ 0 (by omega)
                obtain ⟨q1, q2⟩ := hat
                clear hO hlt
                go_wp2_with fail
                go_ret2
                have hv : vO l x l.length 0 = nv (fun i => (rd_T125 l i).f0) (fun i => (rd_T125 l i).f1) x (l.length - 1) 0 := by
                  unfold vO
                  rw [if_pos (by omega), show min (l.length - 1) (l.length - 1 - 0) = l.length - 1 by omega]
                  rfl
                exact ⟨by rw [HR.out, ← hv]; rfl, HO.out.bl⟩
def field_Interpolate.f (l0 : List S125) (a1 : Int) : Option (Int × Int) := some (interpF l0 a1)
theorem interpF_arg {l : List S125} {x : Int} (h : l.length < 1 ∨ l.length > 16 ∨ inP x = false) : interpF l x = (0, 1) := by
  unfold interpF
  rw [if_pos h]
set_option maxHeartbeats 400000 in
theorem interp_any (A : Option Addr) (c : Nat) (l : List S125) (x : Int) (w : World) (hC : Kd.C k125 w A l.length l) (hc : l.length ≤ c) :
    Calls Tryz.prog 130 #[.slice A l.length c, .int .i64 x] w (Post l x w) := by
  have HC := Aside0.mk hC
  by_cases h1 : l.length < 1
  · have HR := Aside0.mk (interpF_arg (x := x) (.inl h1))
    have h1' : (l.length : Int) < 1 := by omega
    clear hC
    go_enter Tryz.func130, Tryz.ntmps130
    go_wp2_with fail
    go_ret2
    exact ⟨by rw [HR.out]; rfl, ((Below.refl _ _).alloc (Nat.le_refl _) _).alloc (by simp) _⟩
  · by_cases h2 : l.length > 16
    · have HR := Aside0.mk (interpF_arg (x := x) (.inr (.inl h2)))
      have h1' : ¬ (l.length : Int) < 1 := by omega
      have h2' : (l.length : Int) > 16 := by omega
      clear hC
      go_enter Tryz.func130, Tryz.ntmps130
      go_wp2_with fail
      go_ret2
      exact ⟨by rw [HR.out]; rfl, ((Below.refl _ _).alloc (Nat.le_refl _) _).alloc (by simp) _⟩
    · cases hx : inP x with
      | true => exact interp_walk A c l x w hC hc (by omega) (by omega) hx
      | false =>
        have HR := Aside0.mk (interpF_arg (l := l) (.inr (.inr hx)))
        have h1' : ¬ (l.length : Int) < 1 := by omega
        have h2' : ¬ (l.length : Int) > 16 := by omega
        have E1 := Aside0.mk (element_eq x)
        rw [hx] at E1
        clear hC hx
        go_enter Tryz.func130, Tryz.ntmps130
        go_wp2_with (first | (go_at_call 155; (with_reducible refine (field_element.calls x false _ E1.out).mono ?_); rintro e w' ⟨rfl, ⟨nd, rfl⟩⟩; (try first | exact ⟨rfl, _, World.drewN_drewN _ _ _⟩ | exact ⟨rfl, _, Eq.trans (World.drewN_drewN _ _ _) (congrArg (World.drewN _) (Nat.add_assoc _ _ _))⟩)))
        go_ret2
        exact ⟨by rw [HR.out]; rfl, pw_below_drewN (((Below.refl _ _).alloc (Nat.le_refl _) _).alloc (by simp) _) _⟩
theorem field_Interpolate.calls (A0 : Option Addr) (c0 : Nat) (l0 : List S125) (a1 : Int) (r1 : Int) (r2 : Int) (w : World) (hr0 : Kd.C k125 w A0 l0.length l0) (hc0 : l0.length ≤ c0) (h : field_Interpolate.f l0 a1 = some (r1, r2)) :
    Calls Tryz.prog 130 #[.slice A0 l0.length c0, .int .i64 a1] w fun e w' => e = .returned (.tuple #[.int .i64 r1, .int .i64 r2]) ∧ Below w.heap.size w w' := by
  have e : interpF l0 a1 = (r1, r2) := by simpa [field_Interpolate.f] using h
  refine (interp_any A0 c0 l0 a1 w hr0 hc0).mono fun e' w' hp => ?_
  unfold Post at hp
  rw [e] at hp
  exact hp
end Go.Proofs.YtddikdpbhjgihaaGreatDoor.X
end
section
namespace Go.Proofs.YtddikdpbhjgihaaGreatDoor.X
open Go.RowKit
set_option linter.unusedVariables false
def strconv_Itoa.f (a0 : Int) : Option ByteArray := if -9223372036854775808 ≤ a0 ∧ a0 ≤ 9223372036854775807 then some ⟨(Lib.itoa a0).toArray⟩ else none
theorem strconv_Itoa.calls (a0 : Int) (r : ByteArray) (w : World) (hgl : GL w) (h : strconv_Itoa.f a0 = some r) :
    Calls Tryz.prog 133 #[.int .i64 a0] w fun e w' => e = .returned (.string r) ∧ Below w.heap.size w w' := by
  unfold strconv_Itoa.f at h
  split at h
  · rename_i hr
    have e := Option.some.inj h
    subst e
    refine (Tryz.strconv_Itoa a0 hr.1 hr.2 w hgl.p10.here).mono ?_
    rintro e w' ⟨rfl, k, os, rfl⟩
    exact ⟨rfl, Lib.below_grow _ w (Nat.le_refl _) k os⟩
  · cases h
end Go.Proofs.YtddikdpbhjgihaaGreatDoor.X
end
section
namespace Go.Proofs.YtddikdpbhjgihaaGreatDoor.X
open Go.RowKit Go.Proofs.YtddikdpbhjgihaaGreatDoorW.PrintWords Go.Proofs.YtddikdpbhjgihaaGreatDoorW.PrintLast Go.Proofs.YtddikdpbhjgihaaGreatDoorW.PrintMore
set_option linter.unusedVariables false
set_option linter.unusedSimpArgs false
theorem tz16 (w : World) (hgl : GL w) : Calls Tryz.prog 223 #[.int .u64 16] w fun e w' => e = .returned (.int .i64 4) ∧ Drawn0 w w' := by
  have e : (IntKind.u64.wrap (Go.bits BinOp.and IntKind.u64 16 (IntKind.u64.wrap (-16)) * 285870213051353865) / 288230376151711744).toNat = 15 := by decide +kernel
  have hc : w.cell? ⟨7, (IntKind.u64.wrap (Go.bits BinOp.and IntKind.u64 16 (IntKind.u64.wrap (-16)) * 285870213051353865) / 288230376151711744).toNat, none⟩ = some (.int .u8 4) := by
    rw [e]; exact Lib.TabIs.cell hgl.de.here (by kernel_rfl) 15 (by decide)
  have hb : 0 ≤ IntKind.u64.wrap (Go.bits BinOp.and IntKind.u64 16 (IntKind.u64.wrap (-16)) * 285870213051353865) / 288230376151711744 ∧ IntKind.u64.wrap (Go.bits BinOp.and IntKind.u64 16 (IntKind.u64.wrap (-16)) * 285870213051353865) / 288230376151711744 < 64 := by decide +kernel
  clear e
  go_enter Tryz.func223, Tryz.ntmps223
  go_wp2_with fail
  go_ret
  exact ⟨rfl, 0, rfl⟩
theorem tzs16 (w : World) (hgl : GL w) : Calls Tryz.prog 214 #[.int .u64 16] w fun e w' => e = .returned (.int .i64 4) ∧ Drawn0 w w' := by
  have HG := Aside0.mk hgl
  clear hgl
  go_enter Tryz.func214, Tryz.ntmps214
  go_wp2_with (go_at_call 223; refine (tz16 _ HG.out).mono ?_; rintro e w' ⟨rfl, ⟨nd, rfl⟩⟩)
  go_ret
  exact ⟨rfl, _, rfl⟩
theorem pow2_16 (w : World) : Calls Tryz.prog 213 #[.int .i64 16] w fun e w' => e = .returned (.bool true) ∧ Drawn0 w w' := by
  have hb : Go.bits BinOp.and IntKind.i64 16 15 = 0 := by decide +kernel
  go_enter Tryz.func213, Tryz.ntmps213
  go_wp2_with fail
  go_ret
  exact ⟨rfl, 0, rfl⟩
def hexd (d : Nat) : Int := if d < 10 then 48 + (d : Int) else 87 + (d : Int)
def digitsS : ByteArray := ⟨#[48, 49, 50, 51, 52, 53, 54, 55, 56, 57, 97, 98, 99, 100, 101, 102, 103, 104, 105, 106, 107, 108, 109, 110, 111, 112, 113, 114, 115, 116, 117, 118, 119, 120, 121, 122]⟩
theorem hexd_eq (d : Nat) (hd : d < 16) (h : d < digitsS.size) : ((digitsS[d]'h).toNat : Int) = hexd d := by
  have : d = 0 ∨ d = 1 ∨ d = 2 ∨ d = 3 ∨ d = 4 ∨ d = 5 ∨ d = 6 ∨ d = 7 ∨ d = 8 ∨ d = 9 ∨ d = 10 ∨ d = 11 ∨ d = 12 ∨ d = 13 ∨ d = 14 ∨ d = 15 := by omega
  rcases this with h | h | h | h | h | h | h | h | h | h | h | h | h | h | h | h <;> subst h <;> rfl
theorem pow_le15 {u t : Nat} (hu : u < 18446744073709551616) (h : 16 ≤ u / 16 ^ t) : t ≤ 14 := by
  refine Classical.byContradiction fun hn => ?_
  have h1 : 16 ^ 15 ≤ 16 ^ t := Nat.pow_le_pow_right (by decide) (by omega)
  have h2 : 16 * 16 ^ t ≤ u := by
    have := Nat.div_mul_le_self u (16 ^ t)
    have h3 : 16 * 16 ^ t ≤ u / 16 ^ t * 16 ^ t := Nat.mul_le_mul_right _ h
    omega
  omega
theorem and15 (u : Nat) (hu : u < 18446744073709551616) : Go.bits BinOp.and IntKind.u64 (u : Int) 15 = ((u % 16 : Nat) : Int) := by
  have h := bits_and_u64_nat u 15 hu (by decide)
  rw [show ((15 : Nat) : Int) = 15 from rfl] at h
  rw [h, show (15 : Nat) = 2 ^ 4 - 1 from rfl, Nat.and_two_pow_sub_one_eq_mod]
theorem run_cut237 (w : World) (b q : Nat) (hq : q < 65) : (Instr.sliceAt 237 (.pointer (some ⟨b, 0, none⟩)) (some (.int .i64 (q : Int))) none none).run Tryz.prog w = .ok (.slice (some ⟨b, q, none⟩) (65 - q) (65 - q)) w := by
  have h237 := Tryz.underlying237
  have h1 : (q : Int) ≤ 65 := by omega
  have h2 : ¬ (65 = q) := by omega
  unfold Instr.sliceAt
  go_simp
def hexL (u t : Nat) : List Int := (List.range (t + 1)).map (fun i => hexd (u / 16 ^ (t - i) % 16))
structure HI (u : Nat) (w wr : World) (t : Nat) : Prop where
  bl : Below w.heap.size w wr
  bk : ∃ arr, wr.heap[w.heap.size]? = some (.cells arr 237 (0, 0)) ∧ arr.size = 65 ∧ ∀ j, j < t → arr[64 - j]? = some (.int .u8 (hexd (u / 16 ^ j % 16)))
set_option maxRecDepth 100000 in
set_option maxHeartbeats 1000000 in
theorem fmtbits16 (u : Nat) (hu : u < 18446744073709551616) (w : World) (hgl : GL w) :
    Calls Tryz.prog 196 #[.slice none 0 0, .int .u64 (u : Int), .int .i64 16, .bool false, .bool false] w fun e w' => ∃ t, t ≤ 15 ∧ u / 16 ^ t < 16 ∧ e = .returned (.tuple #[.slice none 0 0, .string (strOfNums (hexL u t))]) ∧ Below w.heap.size w w' := by
  have HG := Aside0.mk hgl
  clear hgl
  go_enter Tryz.func196, Tryz.ntmps196
  go_wp2_with fail
  refine (pow2_16 _).mono ?_
  rintro e w1 ⟨rfl, ⟨n1, rfl⟩⟩
  go_wp2_with fail
  refine (tzs16 _ (GL.below HG.out (by repeat (first | exact Below.refl _ _ | apply below_alloc | apply pw_below_drewN)))).mono ?_
  rintro e w1 ⟨rfl, ⟨n2, rfl⟩⟩
  go_wp2_with fail
  go_loopg [1, 13] 15 (fun g v1 v13 wr => ∃ t q : Nat, t + g = 15 ∧ q + t = 64 ∧ v1 = .int .u64 ((u / 16 ^ t : Nat) : Int) ∧ v13 = .int .i64 ((q : Int) + 1) ∧ HI u w wr t)
  case atStart =>
    refine ⟨0, 64, by omega, by omega, by simp, rfl, pw_below_drewN (Below.alloc (Below.refl _ _) (Nat.le_refl _) _) _, ?_⟩
    exact ⟨Tryz.zeroCells237, by show (w.heap.push _)[w.heap.size]? = _; rw [Array.getElem?_push_size], by kernel_rfl, fun j hj => by omega⟩
  case round =>
    obtain ⟨t, q, ht, hq, rfl, rfl, hI⟩ := hrel
    obtain ⟨arr, hb, hs, hd⟩ := hI.bk
    have HB := Aside0.mk hI.bl
    have HD := Aside0.mk hd
    have HBK := Aside0.mk hb
    clear hI hd
    obtain ⟨U, hU⟩ : ∃ U, U = u / 16 ^ t := ⟨_, rfl⟩
    rw [← hU]
    have HU := Aside0.mk hU
    have hU64 : U < 18446744073709551616 := by rw [hU]; exact Nat.lt_of_le_of_lt (Nat.div_le_self _ _) hu
    clear hU
    have hq65 : q < 65 := by omega
    have c1 := cell_of_row wr _ q _ _ _ hb
    rw [Array.getElem?_eq_getElem (by omega)] at c1
    have f1 := frozen_of_row wr _ q _ _ hb
    clear hb
    by_cases h16 : 16 ≤ U
    · have h16' : (16 : Int) ≤ (U : Int) := by omega
      have ha := and15 U hU64
      have hx := hexd_eq (U % 16) (by omega) (show U % 16 < 36 by omega)
      unfold digitsS at hx
      have HX := Aside0.mk hx
      clear hx
      have HT := Aside0.mk (pow_le15 (t := t) hu (by rw [← HU.out]; exact h16))
      go_wp2_with fail
      rw [HX.out]
      go_roundg (gk - 1)
      case rel =>
        have := HT.out
        refine ⟨t + 1, q - 1, by omega, by omega, ?_, ?_, HB.out.setCell (Nat.le_refl _) _, arr.setIfInBounds q _, heap_setCell_same _ _ _ _ _ _ HBK.out, by simpa using hs, ?_⟩
        · rw [Nat.pow_succ, ← Nat.div_div_eq_div_mul, ← HU.out]; rfl
        · congr 1; omega
        · intro j hj
          rw [Array.getElem?_setIfInBounds]
          by_cases h : q = 64 - j
          · have : j = t := by omega
            subst this
            rw [if_pos h, if_pos (by omega), HU.out]
          · rw [if_neg h]
            exact HD.out j (by omega)
      case measure => have := HT.out; omega
    · have h16' : ¬ (16 : Int) ≤ (U : Int) := by omega
      have hx := hexd_eq U (by omega) (show U < 36 by omega)
      unfold digitsS at hx
      have HX := Aside0.mk hx
      clear hx
      have HT := Aside0.mk (show t ≤ 15 by omega)
      go_wp2_with fail
      rw [HX.out, run_cut237 _ _ _ hq65]
      go_wp2_with fail
      rw [run_convert_bytes_arg _ 110 5 Tryz.underlying110 Tryz.underlying5 w.heap.size q (65 - q) (65 - q) (hexL u t) (by simp [hexL]; omega) (fun i hi => ?cells) 9 Tryz.underlying9]
      case cells =>
        rw [cell_of_row _ _ _ _ _ _ (heap_setCell_same _ _ _ _ _ _ HBK.out), Array.getElem?_setIfInBounds]
        have e : (hexL u t).getD i 0 = hexd (u / 16 ^ (t - i) % 16) := by
          simp only [hexL, List.getD_eq_getElem?_getD, List.getElem?_map]
          rw [List.getElem?_range (by omega)]
          rfl
        rw [e]
        by_cases h : i = 0
        · subst h
          rw [if_pos (by omega), if_pos (by omega), Nat.sub_zero, ← HU.out, Nat.mod_eq_of_lt (by omega)]
        · rw [if_neg (by omega), show q + i = 64 - (t - i) by omega]
          exact HD.out (t - i) (by omega)
      go_wp2_with fail
      go_ret2
      exact ⟨t, HT.out, by rw [← HU.out]; omega, rfl, HB.out.setCell (Nat.le_refl _) _⟩
theorem fmtI16 (u : Nat) (hu : u < 18446744073709551616) (w : World) (hgl : GL w) :
    Calls Tryz.prog 188 #[.int .u64 (u : Int), .int .i64 16] w fun e w' => ∃ t, t ≤ 15 ∧ u / 16 ^ t < 16 ∧ e = .returned (.string (strOfNums (hexL u t))) ∧ Below w.heap.size w w' := by
  have HG := Aside0.mk hgl
  clear hgl
  go_enter Tryz.func188, Tryz.ntmps188
  go_wp2_with (go_at_call 196; refine (fmtbits16 u hu _ HG.out).mono ?_; rintro e w' ⟨t, h1, h2, rfl, hb⟩; have H1 := Aside0.mk h1; have H2 := Aside0.mk h2; have HB := Aside0.mk hb; clear h1 h2 hb)
  go_ret
  exact ⟨t, H1.out, H2.out, rfl, HB.out⟩
theorem fmtU16 (u : Nat) (hu : u < 18446744073709551616) (w : World) (hgl : GL w) :
    Calls Tryz.prog 178 #[.int .u64 (u : Int), .int .i64 16] w fun e w' => ∃ t, t ≤ 15 ∧ u / 16 ^ t < 16 ∧ e = .returned (.string (strOfNums (hexL u t))) ∧ Below w.heap.size w w' := by
  have HG := Aside0.mk hgl
  clear hgl
  go_enter Tryz.func178, Tryz.ntmps178
  go_wp2_with (go_at_call 188; refine (fmtI16 u hu _ HG.out).mono ?_; rintro e w' ⟨t, h1, h2, rfl, hb⟩; have H1 := Aside0.mk h1; have H2 := Aside0.mk h2; have HB := Aside0.mk hb; clear h1 h2 hb)
  go_ret
  exact ⟨t, H1.out, H2.out, rfl, HB.out⟩
end Go.Proofs.YtddikdpbhjgihaaGreatDoor.X
end
section
namespace Go.Proofs.YtddikdpbhjgihaaGreatDoor.X
open Go.RowKit Go.Proofs.YtddikdpbhjgihaaGreatDoorW.PrintWords Go.Proofs.YtddikdpbhjgihaaGreatDoorW.PrintLast Go.Proofs.YtddikdpbhjgihaaGreatDoorW.PrintMore
set_option linter.unusedVariables false
set_option linter.unusedSimpArgs false
def hasP (s p : ByteArray) : Bool := (s.extract 0 p.size).toList == p.toList
set_option maxRecDepth 100000 in
theorem hasP_in (s p : ByteArray) (w : World) (h1 : p.size ≤ s.size) (hm : s.size ≤ 1000) : Calls Tryz.prog 208 #[.string s, .string p] w fun e w' => e = .returned (.bool (hasP s p)) ∧ Drawn0 w w' := by
  have h1' : (p.size : Int) ≤ (s.size : Int) := by omega
  go_enter Tryz.func208, Tryz.ntmps208
  go_wp2_with fail
  go_ret
  exact ⟨rfl, 0, rfl⟩
theorem hasP_val (b : Bool) (s p : ByteArray) (w : World) {Q : Ending → World → Prop} (h1 : p.size ≤ s.size) (hm : s.size ≤ 1000) (hb : hasP s p = b)
    (hc : ∀ (s p : ByteArray) (w : World), p.size ≤ s.size → s.size ≤ 1000 → Calls Tryz.prog 190 #[.string s, .string p] w fun e w' => e = .returned (.bool (hasP s p)) ∧ Drawn0 w w')
    (hq : ∀ nd, Q (.returned (.bool b)) (w.drewN nd)) : Calls Tryz.prog 190 #[.string s, .string p] w Q := by
  refine (hc s p w h1 hm).mono ?_
  rintro e w' ⟨rfl, ⟨nd, rfl⟩⟩
  rw [hb]
  exact hq nd
theorem hasP_out (s p : ByteArray) (w : World) (h1 : p.size ≤ s.size) (hm : s.size ≤ 1000) : Calls Tryz.prog 190 #[.string s, .string p] w fun e w' => e = .returned (.bool (hasP s p)) ∧ Drawn0 w w' := by
  go_enter Tryz.func190, Tryz.ntmps190
  go_wp2_with (go_at_call 208; refine (hasP_in s p _ h1 hm).mono ?_; rintro e w' ⟨rfl, ⟨nd, rfl⟩⟩)
  go_ret
  exact ⟨rfl, _, rfl⟩
set_option maxRecDepth 100000 in
set_option maxHeartbeats 1000000 in
theorem rep0 (n : Nat) (hn : 2 ≤ n) (h16 : n ≤ 16) (w : World) : Calls Tryz.prog 179 #[.string ⟨#[48]⟩, .int .i64 (n : Int)] w fun e w' => e = .returned (.string ⟨Array.replicate n 48⟩) ∧ Drawn0 w w' := by
  have h0 : ¬ ((n : Int) = 0) := by omega
  have h1 : ¬ ((n : Int) = 1) := by omega
  have h2 : ¬ ((n : Int) < 0) := by omega
  have e1 : 1 * n / 18446744073709551616 = 0 := by omega
  have e2 : 1 * n % 18446744073709551616 = n := by omega
  go_enter Tryz.func179, Tryz.ntmps179
  have hM := Tryz.bits_Mul 1 n (by decide) (by omega) w
  rw [e1, e2] at hM
  have HM := Aside0.mk hM
  clear hM e1 e2
  go_wp2_with fail
  refine HM.out.mono ?_
  rintro e w' ⟨rfl, rfl⟩
  go_wp2_with fail
  refine hasP_val false _ _ _ (by decide +kernel) (by decide +kernel) (by decide +kernel) hasP_out (fun nd => ?_)
  go_wp2_with fail
  refine hasP_val false _ _ _ (by decide +kernel) (by decide +kernel) (by decide +kernel) hasP_out (fun nd => ?_)
  go_wp2_with fail
  refine hasP_val true _ _ _ (by decide +kernel) (by decide +kernel) (by decide +kernel) hasP_out (fun nd => ?_)
  go_wp2_with fail
  go_ret
  refine ⟨?_, _, rfl⟩
  have hc : n = 2 ∨ n = 3 ∨ n = 4 ∨ n = 5 ∨ n = 6 ∨ n = 7 ∨ n = 8 ∨ n = 9 ∨ n = 10 ∨ n = 11 ∨ n = 12 ∨ n = 13 ∨ n = 14 ∨ n = 15 ∨ n = 16 := by omega
  rcases hc with h | h | h | h | h | h | h | h | h | h | h | h | h | h | h <;> subst h <;> rfl
set_option maxRecDepth 100000 in
theorem rep (n : Nat) (h16 : n ≤ 16) (w : World) : Calls Tryz.prog 179 #[.string ⟨#[48]⟩, .int .i64 (n : Int)] w fun e w' => e = .returned (.string ⟨Array.replicate n 48⟩) ∧ Drawn0 w w' := by
  by_cases h0 : n = 0
  · subst h0
    go_enter Tryz.func179, Tryz.ntmps179
    go_wp2_with fail
    go_ret
    exact ⟨rfl, 0, rfl⟩
  by_cases h1 : n = 1
  · subst h1
    go_enter Tryz.func179, Tryz.ntmps179
    go_wp2_with fail
    go_ret
    exact ⟨rfl, 0, rfl⟩
  exact rep0 n (by omega) h16 w
end Go.Proofs.YtddikdpbhjgihaaGreatDoor.X
end
section
namespace Go.Proofs.YtddikdpbhjgihaaGreatDoor.X
open Go.RowKit Go.Proofs.YtddikdpbhjgihaaGreatDoorW.PrintWords Go.Proofs.YtddikdpbhjgihaaGreatDoorW.PrintLast Go.Proofs.YtddikdpbhjgihaaGreatDoorW.PrintMore
set_option linter.unusedVariables false
set_option linter.unusedSimpArgs false
def blkN (b : List Nat) : Nat → Nat
  | 0 => 0
  | i + 1 => blkN b i * 256 + b.getD i 0
def mixI (a0 : Int) : Int := Go.bits .xor .u64 (IntKind.u64.wrap ((Go.bits .xor .u64 (IntKind.u64.wrap ((Go.bits .xor .u64 a0 (a0 / 2147483648)) * 14029467366897019727)) ((IntKind.u64.wrap ((Go.bits .xor .u64 a0 (a0 / 2147483648)) * 14029467366897019727)) / 134217728)) * 11400714785074694791)) ((IntKind.u64.wrap ((Go.bits .xor .u64 (IntKind.u64.wrap ((Go.bits .xor .u64 a0 (a0 / 2147483648)) * 14029467366897019727)) ((IntKind.u64.wrap ((Go.bits .xor .u64 a0 (a0 / 2147483648)) * 14029467366897019727)) / 134217728)) * 11400714785074694791)) / 8589934592)
theorem mix_eq (a : Int) : observatoryref01_mix.f a = some (mixI a) := rfl
theorem blkN_lt {b : List Nat} (h8 : ∀ x ∈ b, x < 256) : ∀ i, blkN b i < 256 ^ i
  | 0 => by simp [blkN]
  | i + 1 => by
    have ih := blkN_lt h8 i
    have hx : b.getD i 0 < 256 := by
      rw [List.getD_eq_getElem?_getD]
      cases h : b[i]? with
      | none => simp
      | some x => exact h8 x (List.mem_of_getElem? h)
    rw [blkN, Nat.pow_succ]
    omega
theorem or_eq {x y : Nat} (hx : x < 72057594037927936) (hy : y < 256) : Go.bits BinOp.or IntKind.u64 ((x : Int) * 256) (y : Int) = ((x * 256 + y : Nat) : Int) := by
  have h := bits_or_u64_nat (x * 256) y (by omega) (by omega)
  rw [show ((x * 256 : Nat) : Int) = (x : Int) * 256 by omega] at h
  rw [h]
  congr 1
  have := Nat.shiftLeft_add_eq_or_of_lt (show y < 2 ^ 8 by omega) x
  rw [Nat.shiftLeft_eq, show (2 : Nat) ^ 8 = 256 from rfl] at this
  exact this.symm
theorem take_walk (g : Nat) (s : Int) (b : List Nat) (hb : b.length = 8) (h8 : ∀ x ∈ b, x < 256) (w : World) (hg : w.heap[g]? = some (.cells #[.int .u64 s] 199 (0, 0))) :
    Calls Tryz.prog 177 #[.pointer (some ⟨g, 0, none⟩), .agg (b.map (fun (x : Nat) => Value.int .u8 (x : Int))).toArray] w fun e w' => e = .returned (.tuple #[]) ∧ ∃ o, w' = (w.setCell ⟨g, 0, none⟩ (.int .u64 (mixI (Go.bits .xor .u64 s (blkN b 8 : Int))))).alloc o := by
  go_enter Tryz.func177, Tryz.ntmps177
  go_wp2_with fail
  go_loopg [4, 7] 8 (fun gk v4 v7 wr => ∃ i : Nat, i + gk = 8 ∧ v4 = .int .u64 (blkN b i : Int) ∧ v7 = .int .i64 i ∧ wr = w.alloc (.cells (b.map (fun (x : Nat) => Value.int .u8 (x : Int))).toArray 212))
  case atStart => exact ⟨0, by omega, rfl, rfl, rfl⟩
  case round =>
    obtain ⟨i, hi, rfl, rfl, rfl⟩ := hrel
    have hlast : (w.alloc (.cells (b.map (fun (x : Nat) => Value.int .u8 (x : Int))).toArray 212)).heap[w.heap.size]? = some (.cells (b.map (fun (x : Nat) => Value.int .u8 (x : Int))).toArray 212 (0, 0)) := by
      show (w.heap.push _)[w.heap.size]? = _; rw [Array.getElem?_push_size]
    by_cases h : i < 8
    · have hlt : (i : Int) < 8 := by omega
      have hbi : i < b.length := by omega
      have c1 := cell_of_row _ _ i _ _ _ hlast
      rw [List.getElem?_toArray, List.getElem?_map, List.getElem?_eq_getElem hbi] at c1
      have hy : b[i] < 256 := h8 _ (List.getElem_mem hbi)
      have hlt2 : blkN b i < 72057594037927936 := Nat.lt_of_lt_of_le (blkN_lt h8 i) (Nat.pow_le_pow_right (by decide) (show i ≤ 7 by omega))
      have ho := or_eq hlt2 hy
      have hw : IntKind.u64.wrap ((blkN b i : Int) * 256) = (blkN b i : Int) * 256 := by
        rw [IntKind.wrap_u64]; omega
      go_wp2_with fail
      go_roundg (gk - 1)
      case rel =>
        refine ⟨i + 1, by omega, ?_, by go_num, rfl⟩
        rw [blkN, List.getD_eq_getElem?_getD, List.getElem?_eq_getElem hbi]
        congr 1
      case measure => omega
    · obtain rfl : i = 8 := by omega
      have hgl : g < w.heap.size := (Array.getElem?_eq_some_iff.1 hg).1
      have hg2 : (w.alloc (.cells (b.map (fun (x : Nat) => Value.int .u8 (x : Int))).toArray 212)).heap[g]? = some (.cells #[.int .u64 s] 199 (0, 0)) := by
        rw [← hg]; show (w.heap.push _)[g]? = _; rw [Array.getElem?_push_lt hgl, Array.getElem?_eq_getElem hgl]
      have c2 : World.cell? _ ⟨g, 0, none⟩ = some (.int .u64 s) := cell_of_row _ _ 0 _ _ _ hg2
      have f2 := frozen_of_row _ _ 0 _ _ hg2
      go_wp2_with fail
      go_end0
      exact ⟨rfl, _, rfl⟩
end Go.Proofs.YtddikdpbhjgihaaGreatDoor.X
end
