import Derived.Test.YtddikdpbhjgihaaGreatDoorSM18
import Derived.Deep.QuietTactic
import Derived.BigQuiet
import Derived.BigRegion
import Derived.Outline
import Derived.Laws.EntriesVeiled
import Derived.Test.YtddikdpbhjgihaaGreatDoorSM16
section
namespace Go.Proofs.YtddikdpbhjgihaaGreatDoor.X
open Go.RowKit Go.Proofs.YtddikdpbhjgihaaGreatDoorW.PrintWords Go.Proofs.YtddikdpbhjgihaaGreatDoorW.PrintLast Go.Proofs.YtddikdpbhjgihaaGreatDoorW.PrintMore
open ObsMer (joined toL half root plen up)
set_option linter.unusedVariables false
set_option linter.unusedSimpArgs false
def fv136 (Lb Pb Ub : Nat) : Value := .func (.func 136) #[] #[.pointer (some ⟨Lb, 0, none⟩), .pointer (some ⟨Pb, 0, none⟩), .pointer (some ⟨Ub, 0, none⟩)]
structure St (w : World) (Lb Pb Ub Q D : Nat) (leaf : ByteArray) (short : Bool) (A : Option Addr) (cap : Nat) (q : List ByteArray) : Prop where
  lb : w.heap[Lb]? = some (.cells #[.string leaf] 9 (0, 0))
  pb : w.heap[Pb]? = some (.cells #[.pointer (some ⟨Q, 0, none⟩)] 161 (0, 0))
  ub : w.heap[Ub]? = some (.cells #[fv136 Lb Pb Ub] 165 (0, 0))
  qb : w.heap[Q]? = some (.cells #[.pointer (some ⟨D, 0, none⟩), .bool short] 164 (0, 0))
  db : w.heap[D]? = some (.cells #[.slice A q.length cap] 129 (0, 0))
  row : q = [] ∨ ∃ g cur, A = some ⟨g, 0, none⟩ ∧ w.heap[g]? = some (.cells cur 9 (0, 0)) ∧ cur.toList.take q.length = q.map Value.string ∧ q.length ≤ cap
  dg : q.all isDg = true
  len : q.length ≤ 1000000
theorem St.below {w w1 : World} {Lb Pb Ub Q D : Nat} {leaf : ByteArray} {short : Bool} {A : Option Addr} {cap : Nat} {q : List ByteArray} (h : St w Lb Pb Ub Q D leaf short A cap q) (hb : Below w.heap.size w w1) : St w1 Lb Pb Ub Q D leaf short A cap q :=
  ⟨(hb.block _ (heap_lt h.lb)).trans h.lb, (hb.block _ (heap_lt h.pb)).trans h.pb, (hb.block _ (heap_lt h.ub)).trans h.ub, (hb.block _ (heap_lt h.qb)).trans h.qb, (hb.block _ (heap_lt h.db)).trans h.db,
    h.row.imp id (fun ⟨g, cur, e, hg, r⟩ => ⟨g, cur, e, (hb.block _ (heap_lt hg)).trans hg, r⟩), h.dg, h.len⟩
theorem St.drewN {w : World} {Lb Pb Ub Q D : Nat} {leaf : ByteArray} {short : Bool} {A : Option Addr} {cap : Nat} {q : List ByteArray} (h : St w Lb Pb Ub Q D leaf short A cap q) (n : Nat) : St (w.drewN n) Lb Pb Ub Q D leaf short A cap q :=
  ⟨h.lb, h.pb, h.ub, h.qb, h.db, h.row, h.dg, h.len⟩
theorem ne_of_types {w : World} {b c : Nat} {x y : Array Value} {t u : TypeId} {f g : Nat × Nat} (h : w.heap[b]? = some (.cells x t f)) (h2 : w.heap[c]? = some (.cells y u g)) (htu : t ≠ u) : b ≠ c := by
  rintro rfl
  rw [h] at h2
  injection h2 with h2
  injection h2 with _ h2 _
  exact htu h2
theorem set_other {w : World} {b c o : Nat} {v : Value} {x : Option Obj} (h : w.heap[b]? = x) (hne : b ≠ c) : (w.setCell ⟨c, o, none⟩ v).heap[b]? = x :=
  (Below.heap_setCell _ _ _ _ hne).trans h
theorem St.pop {w : World} {Lb Pb Ub Q D : Nat} {leaf : ByteArray} {short : Bool} {A : Option Addr} {cap : Nat} {q : List ByteArray} (h : St w Lb Pb Ub Q D leaf short A cap q) :
    St (w.setCell ⟨D, 0, none⟩ (.slice A q.dropLast.length cap)) Lb Pb Ub Q D leaf short A cap q.dropLast := by
  refine ⟨set_other h.lb (ne_of_types h.lb h.db (by decide)), set_other h.pb (ne_of_types h.pb h.db (by decide)), set_other h.ub (ne_of_types h.ub h.db (by decide)), set_other h.qb (ne_of_types h.qb h.db (by decide)), heap_setCell_same _ _ _ _ _ _ h.db, ?_, ?_, ?_⟩
  · rcases h.row with hq | ⟨g, cur, e, hg, h1, h2⟩
    · exact .inl (by rw [hq]; rfl)
    · refine .inr ⟨g, cur, e, set_other hg (ne_of_types hg h.db (by decide)), ?_, by rw [List.length_dropLast]; omega⟩
      rw [List.map_dropLast, ← h1, List.length_dropLast, List.dropLast_eq_take, List.take_take]
      have : (cur.toList.take q.length).length = q.length := by rw [h1, List.length_map]
      rw [this]
      congr 1
      omega
  · rw [List.all_eq_true]
    intro s hs
    exact List.all_eq_true.1 h.dg s (List.dropLast_subset _ hs)
  · rw [List.length_dropLast]; have := h.len; omega
theorem St.short {w : World} {Lb Pb Ub Q D : Nat} {leaf : ByteArray} {short : Bool} {A : Option Addr} {cap : Nat} {q : List ByteArray} (h : St w Lb Pb Ub Q D leaf short A cap q) (b : Bool) :
    St (w.setCell ⟨Q, 1, none⟩ (.bool b)) Lb Pb Ub Q D leaf b A cap q := by
  refine ⟨set_other h.lb (ne_of_types h.lb h.qb (by decide)), set_other h.pb (ne_of_types h.pb h.qb (by decide)), set_other h.ub (ne_of_types h.ub h.qb (by decide)), heap_setCell_same _ _ _ _ _ _ h.qb, set_other h.db (ne_of_types h.db h.qb (by decide)), ?_, h.dg, h.len⟩
  rcases h.row with hq | ⟨g, cur, e, hg, h1, h2⟩
  · exact .inl hq
  · exact .inr ⟨g, cur, e, set_other hg (ne_of_types hg h.qb (by decide)), h1, h2⟩
theorem St.last {w : World} {Lb Pb Ub Q D : Nat} {leaf : ByteArray} {short : Bool} {A : Option Addr} {cap : Nat} {q : List ByteArray} (h : St w Lb Pb Ub Q D leaf short A cap q) (hq : q ≠ []) :
    ∃ g, A = some ⟨g, 0, none⟩ ∧ w.cell? ⟨g, q.length - 1, none⟩ = some (.string (q.getLastD ByteArray.empty)) ∧ q.length ≤ cap := by
  rcases h.row with h0 | ⟨g, cur, e, hg, h1, h2⟩
  · exact absurd h0 hq
  · refine ⟨g, e, ?_, h2⟩
    have hl : 0 < q.length := List.length_pos_iff.2 hq
    rw [cell_of_row w g _ _ _ _ hg]
    have h5 := congrArg (fun x => x[q.length - 1]?) h1
    simp only [List.getElem?_take, if_pos (show q.length - 1 < q.length by omega), Array.getElem?_toList, List.getElem?_map, List.getElem?_eq_getElem (show q.length - 1 < q.length by omega)] at h5
    rw [h5, List.getLastD_eq_getLast?, List.getLast?_eq_getElem?, List.getElem?_eq_getElem (by omega)]
    rfl
set_option maxRecDepth 100000 in
theorem pop_walk {Lb Pb Ub Q D : Nat} {leaf : ByteArray} {short : Bool} {A : Option Addr} {cap : Nat} {q : List ByteArray} (B : Nat) (hB : B ≤ D) (w : World) (hS : St w Lb Pb Ub Q D leaf short A cap q) :
    Calls Tryz.prog 164 #[.pointer (some ⟨D, 0, none⟩)] w fun e w' => e = .returned (.string (q.getLastD ByteArray.empty)) ∧ St w' Lb Pb Ub Q D leaf short A cap q.dropLast ∧ Below B w w' := by
  have HS := Aside0.mk hS
  have HB := Aside0.mk hB
  have c0 : w.cell? ⟨D, 0, none⟩ = some (.slice A q.length cap) := cell_of_row _ _ 0 _ _ _ hS.db
  have f0 : w.frozen? ⟨D, 0, none⟩ = false := frozen_of_row _ _ 0 _ _ hS.db
  clear hB
  by_cases hq : q = []
  · subst hq
    clear hS
    go_enter Tryz.func164, Tryz.ntmps164
    go_wp2_with fail
    go_ret
    exact ⟨rfl, HS.out, Below.refl _ _⟩
  · obtain ⟨g, rfl, hl, hc⟩ := hS.last hq
    have hn : ((q.length : Int) == 0) = false := beq_eq_false_iff_ne.2 (by have := List.length_pos_iff.2 hq; omega)
    have hp := List.length_pos_iff.2 hq
    have hlen := hS.len
    obtain ⟨n, hnn⟩ : ∃ n, q.length = n + 1 := ⟨q.length - 1, by omega⟩
    rw [hnn] at c0 hl hn hc
    have HN := Aside0.mk hnn
    rw [show n + 1 - 1 = n by omega] at hl
    have HP := Aside0.mk hS.pop
    have hdl : q.dropLast.length = n := by rw [List.length_dropLast]; omega
    rw [hdl] at HP
    have HDL := Aside0.mk hdl
    have e1 : IntKind.i64.wrap (n : Int) = (n : Int) := IntWalk.i64_in _ (by omega)
    have hn2 : ((n : Int) + 1 == 0) = false := beq_eq_false_iff_ne.2 (by omega)
    have b0 : (0 : Int) ≤ (n : Int) := by omega
    have b1 : (n : Int) < (n : Int) + 1 := by omega
    have b2 : (n : Int) ≤ (cap : Int) := by omega
    clear hS hq hp hlen hnn hdl hn
    generalize hd : q.getLastD ByteArray.empty = d at hl
    have HD := Aside0.mk hd
    clear hd
    go_enter Tryz.func164, Tryz.ntmps164
    go_wp2_with fail
    go_quiet (fail)
    go_wp2_with fail
    go_region
    all_goals (go_wp2_with fail; go_ret)
    all_goals exact ⟨rfl, by have := (HS.out.drewN (nq + 1)).pop; rw [HDL.out] at this; exact this, (pw_below_drewN (Below.refl B w) _).setCell (p := ⟨D, 0, none⟩) HB.out _⟩
theorem dg_ne {q : List ByteArray} (hd : q.all isDg = true) (hq : q ≠ []) : (q.getLastD ByteArray.empty).toList.isEmpty = false := by
  have hm : q.getLastD ByteArray.empty ∈ q := by
    rw [List.getLastD_eq_getLast?, List.getLast?_eq_some_getLast hq]
    exact List.getLast_mem hq
  have := isDg_size (List.all_eq_true.1 hd _ hm)
  rw [Go.Lib.toList_data]
  cases h : (q.getLastD ByteArray.empty).data.toList with
  | nil => have h2 := Go.Lib.size_eq (q.getLastD ByteArray.empty); rw [h, List.length_nil] at h2; omega
  | cons _ _ => rfl
theorem getLastD_nil' : (([] : List ByteArray).getLastD ByteArray.empty).toList.isEmpty = true := by
  show ByteArray.empty.toList.isEmpty = true
  rw [Go.Lib.toList_data]; rfl
set_option maxRecDepth 100000 in
theorem next_walk {Lb Pb Ub Q D : Nat} {leaf : ByteArray} {short : Bool} {A : Option Addr} {cap : Nat} {q : List ByteArray} (B : Nat) (hB : B ≤ D) (hB2 : B ≤ Q) (w : World) (hS : St w Lb Pb Ub Q D leaf short A cap q) :
    Calls Tryz.prog 137 #[.pointer (some ⟨Q, 0, none⟩)] w fun e w' => e = .returned (.string (q.getLastD ByteArray.empty)) ∧ St w' Lb Pb Ub Q D leaf (short || q.isEmpty) A cap q.dropLast ∧ Below B w w' := by
  have HS := Aside0.mk hS
  have HB := Aside0.mk hB
  have HB2 := Aside0.mk hB2
  have c0 : w.cell? ⟨Q, 0, none⟩ = some (.pointer (some ⟨D, 0, none⟩)) := cell_of_row _ _ 0 _ _ _ hS.qb
  have HE : Aside0 ((q.getLastD ByteArray.empty).toList.isEmpty = q.isEmpty) := ⟨by
    by_cases hq : q = []
    · subst hq; exact getLastD_nil'
    · rw [dg_ne hS.dg hq]; cases q with
      | nil => exact absurd rfl hq
      | cons _ _ => rfl⟩
  clear hB hB2 hS
  go_enter Tryz.func137, Tryz.ntmps137
  go_wp2_with fail
  refine (pop_walk B HB.out _ HS.out).mono ?_
  rintro e w1 ⟨rfl, hS1, hb1⟩
  have c1 : w1.cell? ⟨Q, 1, none⟩ = some (.bool short) := cell_of_row _ _ 1 _ _ _ hS1.qb
  have f1 : w1.frozen? ⟨Q, 1, none⟩ = false := frozen_of_row _ _ 1 _ _ hS1.qb
  have HS1 := Aside0.mk hS1
  have HB1 := Aside0.mk hb1
  have he := HE.out
  generalize hd : q.getLastD ByteArray.empty = d at he ⊢
  generalize hb : q.isEmpty = b at he
  have HD := Aside0.mk hd
  have HBE := Aside0.mk hb
  clear hS1 hb1 hd hb
  cases short <;> cases b <;> (go_wp2_with fail; go_ret; exact ⟨by rw [HD.out]; rfl, by rw [HBE.out]; exact HS1.out.short _, HB1.out.setCell (p := ⟨Q, 1, none⟩) HB2.out _⟩)
set_option maxRecDepth 100000 in
theorem done_walk {Lb Pb Ub Q D : Nat} {leaf : ByteArray} {short : Bool} {A : Option Addr} {cap : Nat} {q : List ByteArray} (w : World) (hS : St w Lb Pb Ub Q D leaf short A cap q) :
    Calls Tryz.prog 139 #[.pointer (some ⟨Q, 0, none⟩)] w fun e w' => e = .returned (.bool (!short && q.isEmpty)) ∧ w = w' := by
  have c0 : w.cell? ⟨Q, 0, none⟩ = some (.pointer (some ⟨D, 0, none⟩)) := cell_of_row _ _ 0 _ _ _ hS.qb
  have c1 : w.cell? ⟨Q, 1, none⟩ = some (.bool short) := cell_of_row _ _ 1 _ _ _ hS.qb
  have c2 : w.cell? ⟨D, 0, none⟩ = some (.slice A q.length cap) := cell_of_row _ _ 0 _ _ _ hS.db
  clear hS
  cases short with
  | true =>
    go_enter Tryz.func139, Tryz.ntmps139
    go_wp2_with fail
    go_ret
    exact ⟨rfl, rfl⟩
  | false =>
    cases q with
    | nil =>
      go_enter Tryz.func139, Tryz.ntmps139
      go_wp2_with fail
      go_ret
      exact ⟨rfl, rfl⟩
    | cons s q =>
      have hn : (((s :: q).length : Int) == 0) = false := beq_eq_false_iff_ne.2 (by rw [List.length_cons]; omega)
      generalize (s :: q).length = m at c2 hn
      go_enter Tryz.func139, Tryz.ntmps139
      go_wp2_with fail
      go_ret
      exact ⟨rfl, rfl⟩
theorem St.drew {w : World} {Lb Pb Ub Q D : Nat} {leaf : ByteArray} {short : Bool} {A : Option Addr} {cap : Nat} {q : List ByteArray} (h : St w Lb Pb Ub Q D leaf short A cap q) : St w.drew Lb Pb Ub Q D leaf short A cap q :=
  ⟨h.lb, h.pb, h.ub, h.qb, h.db, h.row, h.dg, h.len⟩
def rest (n i : Nat) (q : List ByteArray) : List ByteArray := q.take (q.length - plen n i)
def lacks (n i : Nat) (q : List ByteArray) : Bool := decide (q.length < plen n i)
theorem rest_one {n : Nat} (h : n ≤ 1) (i : Nat) (q : List ByteArray) : rest n i q = q := by unfold rest; rw [ObsMer.plen_one h]; simp
theorem lacks_one {n : Nat} (h : n ≤ 1) (i : Nat) (q : List ByteArray) : lacks n i q = false := by unfold lacks; rw [ObsMer.plen_one h]; simp
theorem rest_step (p : Nat) (q : List ByteArray) : q.dropLast.take (q.dropLast.length - p) = q.take (q.length - (1 + p)) := by
  rw [List.length_dropLast, List.dropLast_eq_take, List.take_take]
  congr 1
  omega
theorem lacks_step (short : Bool) (p : Nat) (q : List ByteArray) : ((short || q.isEmpty) || decide (q.dropLast.length < p)) = (short || decide (q.length < 1 + p)) := by
  rw [List.length_dropLast, Bool.or_assoc]
  congr 1
  cases q with
  | nil => simp; omega
  | cons s q => simp; omega
theorem up_size {leaf : ByteArray} (hl : leaf.size ≤ 1000) (n i : Nat) (q : List ByteArray) : (up sumF n i leaf q).size ≤ 1000 := by
  by_cases h : n ≤ 1
  · rw [ObsMer.up_one sumF h]; exact hl
  · by_cases hi : i < half n
    · rw [ObsMer.up_lo sumF (by omega) hi, sumF_size]; omega
    · rw [ObsMer.up_hi sumF (by omega) (by omega), sumF_size]; omega
theorem last_size {q : List ByteArray} (hd : q.all isDg = true) : (q.getLastD ByteArray.empty).size ≤ 1000 := by
  by_cases hq : q = []
  · subst hq; exact Nat.zero_le _
  · have hm : q.getLastD ByteArray.empty ∈ q := by
      rw [List.getLastD_eq_getLast?, List.getLast?_eq_some_getLast hq]
      exact List.getLast_mem hq
    rw [isDg_size (List.all_eq_true.1 hd _ hm)]; omega
theorem St.cells {w : World} {Lb Pb Ub Q D : Nat} {leaf : ByteArray} {short : Bool} {A : Option Addr} {cap : Nat} {q : List ByteArray} (hS : St w Lb Pb Ub Q D leaf short A cap q) :
    w.cell? ⟨Ub, 0, none⟩ = some (fv136 Lb Pb Ub) ∧ w.cell? ⟨Pb, 0, none⟩ = some (.pointer (some ⟨Q, 0, none⟩)) ∧ w.cell? ⟨Lb, 0, none⟩ = some (.string leaf) :=
  ⟨cell_of_row _ _ 0 _ _ _ hS.ub, cell_of_row _ _ 0 _ _ _ hS.pb, cell_of_row _ _ 0 _ _ _ hS.lb⟩
set_option maxRecDepth 100000 in
set_option maxHeartbeats 2000000 in
theorem up_any {Lb Pb Ub Q D : Nat} {leaf : ByteArray} {A : Option Addr} {cap : Nat} (w0 : World) (hgl : GL w0) (hB : w0.heap.size ≤ D) (hB2 : w0.heap.size ≤ Q) (hleaf : leaf.size ≤ 1000) : ∀ (d n i : Nat) (short : Bool) (q : List ByteArray) (w : World), n ≤ d → i < n → n ≤ 1000000 → Below w0.heap.size w0 w → St w Lb Pb Ub Q D leaf short A cap q →
    Calls Tryz.prog 136 #[.int .i64 (n : Int), .int .i64 (i : Int), .pointer (some ⟨Lb, 0, none⟩), .pointer (some ⟨Pb, 0, none⟩), .pointer (some ⟨Ub, 0, none⟩)] w fun e w' => e = .returned (.string (up sumF n i leaf q)) ∧ St w' Lb Pb Ub Q D leaf (short || lacks n i q) A cap (rest n i q) ∧ Below w0.heap.size w0 w' := by
  intro d
  induction d with
  | zero => intro n i short q w h1 h2; omega
  | succ d ih =>
    intro n i short q w h1 h2 h6 hbl hS
    have HS := Aside0.mk hS
    have HBL := Aside0.mk hbl
    have HGL := Aside0.mk hgl
    obtain ⟨hu, hp, hlf⟩ := hS.cells
    by_cases hn : n = 1
    · subst hn
      have HR := Aside0.mk (show up sumF 1 i leaf q = leaf ∧ rest 1 i q = q ∧ lacks 1 i q = false from ⟨ObsMer.up_one sumF (Nat.le_refl _) _ _ _, rest_one (Nat.le_refl _) _ _, lacks_one (Nat.le_refl _) _ _⟩)
      clear ih hS hbl hgl hp hu
      go_enter Tryz.func136, Tryz.ntmps136
      go_wp2_with fail
      go_ret
      exact ⟨by rw [HR.out.1]; rfl, by rw [HR.out.2.1, HR.out.2.2, Bool.or_false]; exact HS.out, HBL.out⟩
    · have hn' : ((n : Int) == 1) = false := beq_eq_false_iff_ne.2 (by omega)
      have hh := half_eq (k := 100) (n := n) (by omega) (by omega)
      have hl := ObsMer.half_lt (n := n) (by omega)
      have hpos := ObsMer.half_pos n
      have hsz := last_size hS.dg
      obtain ⟨sd, hsd⟩ : ∃ sd, q.getLastD ByteArray.empty = sd := ⟨_, rfl⟩
      rw [hsd] at hsz
      have hlo := fun h => ObsMer.up_lo sumF (n := n) (i := i) (by omega) h leaf q
      have hhi := fun h => ObsMer.up_hi sumF (n := n) (i := i) (by omega) h leaf q
      have plo := fun h => ObsMer.plen_lo (n := n) (i := i) (by omega) h
      have phi := fun h => ObsMer.plen_hi (n := n) (i := i) (by omega) h
      rw [hsd] at hlo hhi
      have HSD := Aside0.mk hsd
      clear hsd
      generalize half n = k at hh hl hpos hlo hhi plo phi
      have HH := Aside0.mk hh
      have HLO := Aside0.mk hlo
      have HHI := Aside0.mk hhi
      have PLO := Aside0.mk plo
      have PHI := Aside0.mk phi
      have HSZ := Aside0.mk hsz
      have HB := Aside0.mk hB
      have HB2 := Aside0.mk hB2
      have IH := Aside0.mk ih
      have HLF := Aside0.mk hleaf
      clear ih hS hbl hgl hu hlf hh hlo hhi plo phi hsz hB hB2 hleaf
      go_enter Tryz.func136, Tryz.ntmps136
      go_wp2_with fail
      go_region_held3 (fun w' => w'.cell? ⟨Pb, 0, none⟩ = some (.pointer (some ⟨Q, 0, none⟩))) (first | go_keep | exact hp1)
        (first | (go_at_call 89; refine (tree_half.calls 100 _ _ _ HH.out).mono ?_; rintro e w' ⟨rfl, ⟨nd, rfl⟩⟩) | (go_at_call 137; refine (next_walk w0.heap.size HB.out HB2.out _ (by repeat (first | exact HS.out | apply St.drewN | apply St.drew))).mono ?_; rintro e w1 ⟨he, hS1, hb⟩; rw [HSD.out] at he; subst he; have hp1 := hS1.cells.2.1; have hu1 := hS1.cells.1; have HS1 := Aside0.mk hS1; have HB1 := Aside0.mk (Below.trans (by repeat (first | exact HBL.out | apply pw_below_drewN | apply below_drew1)) hb); clear hS1 hb))
      clear hp hp1
      unfold fv136 at hu1
      by_cases hik : i < k
      · have hik' : (i : Int) < (k : Int) := by omega
        obtain ⟨u1, e1⟩ : ∃ u1, up sumF k i leaf q.dropLast = u1 := ⟨_, rfl⟩
        have hz := up_size HLF.out k i q.dropLast
        rw [e1] at hz
        have U1 := Aside0.mk e1
        have HZ := Aside0.mk hz
        clear e1 hz
        go_wp2_with fail
        refine (IH.out k i (short || q.isEmpty) q.dropLast w1 (by omega) hik (by omega) HB1.out HS1.out).mono ?_
        rintro e w2 ⟨he, hS2, hb2⟩
        rw [U1.out] at he
        subst he
        have HS2 := Aside0.mk hS2
        have HB3 := Aside0.mk hb2
        clear hS2 hb2
        go_wp2_with fail
        refine (tree_node.calls _ _ _ _ (HGL.out.below HB3.out) (node_ok HZ.out HSZ.out)).mono ?_
        rintro e w3 ⟨rfl, hb⟩
        have HS3 := Aside0.mk (HS2.out.below hb)
        have HB4 := Aside0.mk (below_step HB3.out hb)
        clear hb
        go_wp2_with fail
        go_ret
        refine ⟨by rw [HLO.out hik, U1.out]; rfl, ?_, HB4.out⟩
        have h3 := HS3.out
        unfold lacks rest at h3 ⊢
        rw [lacks_step, rest_step] at h3
        rw [PLO.out hik]
        exact h3
      · have hik' : ¬ ((i : Int) < (k : Int)) := by omega
        obtain ⟨u1, e1⟩ : ∃ u1, up sumF (n - k) (i - k) leaf q.dropLast = u1 := ⟨_, rfl⟩
        have hz := up_size HLF.out (n - k) (i - k) q.dropLast
        rw [e1] at hz
        have U1 := Aside0.mk e1
        have HZ := Aside0.mk hz
        clear e1 hz
        go_wp2_with fail
        rw [show (n : Int) - (k : Int) = ((n - k : Nat) : Int) by omega, show (i : Int) - (k : Int) = ((i - k : Nat) : Int) by omega]
        refine (IH.out (n - k) (i - k) (short || q.isEmpty) q.dropLast w1 (by omega) (by omega) (by omega) HB1.out HS1.out).mono ?_
        rintro e w2 ⟨he, hS2, hb2⟩
        rw [U1.out] at he
        subst he
        have HS2 := Aside0.mk hS2
        have HB3 := Aside0.mk hb2
        clear hS2 hb2
        go_wp2_with fail
        refine (tree_node.calls _ _ _ _ (HGL.out.below HB3.out) (node_ok HSZ.out HZ.out)).mono ?_
        rintro e w3 ⟨rfl, hb⟩
        have HS3 := Aside0.mk (HS2.out.below hb)
        have HB4 := Aside0.mk (below_step HB3.out hb)
        clear hb
        go_wp2_with fail
        go_ret
        refine ⟨by rw [HHI.out (by omega), U1.out]; rfl, ?_, HB4.out⟩
        have h3 := HS3.out
        unfold lacks rest at h3 ⊢
        rw [lacks_step, rest_step] at h3
        rw [PHI.out (by omega)]
        exact h3
end Go.Proofs.YtddikdpbhjgihaaGreatDoor.X
end
section
namespace Go.Proofs.YtddikdpbhjgihaaGreatDoor.X
open Go.RowKit Go.Proofs.YtddikdpbhjgihaaGreatDoorW.PrintWords Go.Proofs.YtddikdpbhjgihaaGreatDoorW.PrintLast Go.Proofs.YtddikdpbhjgihaaGreatDoorW.PrintMore
open ObsMer (joined toL half root plen up)
set_option linter.unusedVariables false
set_option linter.unusedSimpArgs false
def chkF (rt : ByteArray) (n i : Int) (leaf : ByteArray) (path : List ByteArray) : Bool :=
  decide (n ≤ 1000000) && decide (0 ≤ i) && decide (i < n) && path.all isDg && isDg leaf && decide (path.length = plen n.toNat i.toNat) && decide (up sumF n.toNat i.toNat leaf path = rt)
structure Cl (w w' : World) (l : List ByteArray) (A : Option Addr) (cap : Nat) : Prop where
  row : l = [] ∨ ∃ g cur, A = some ⟨g, 0, none⟩ ∧ w'.heap[g]? = some (.cells cur 9 (0, 0)) ∧ cur.toList.take l.length = l.map Value.string ∧ l.length ≤ cap
  C : Kd.C Kd.string w' A l.length l
  hc : l.length ≤ cap
  bl : Below w.heap.size w w'
theorem Cl.of_own {w w' : World} {l : List ByteArray} {v : Value} (h : w'.ownsRow w.heap.size 9 1 v l.length (l.map Value.string)) (hb : Below w.heap.size w w') : ∃ A cap, v = .slice A l.length cap ∧ Cl w w' l A cap := by
  obtain ⟨A, cap, e, hl, hC⟩ := Kd.R_reads (R_of_strs h)
  refine ⟨A, cap, e, ?_, hC, hl, hb⟩
  subst e
  rcases h.2 with ⟨e, h0⟩ | ⟨g, cp, cur, e, hg, hh, h1, h2, h3, h4⟩
  · exact .inl (List.eq_nil_of_length_eq_zero h0)
  · injection e with e1 e2 e3
    subst e1 e3
    exact .inr ⟨g, cur, rfl, hh, by rw [Nat.mul_one] at h4; exact h4, h1⟩
theorem add_off (b off j : Nat) : ({ block := b, off := off } : Addr).add j = ⟨b, off + j, none⟩ := by
  unfold Addr.add
  split <;> simp_all
theorem clone_any (A : Option Addr) (c : Nat) (l : List ByteArray) (w : World) (hC : Kd.C Kd.string w A l.length l) (hl : l.length ≤ 1000000) :
    Calls Tryz.prog 135 #[.slice A l.length c] w fun e w' => ∃ A' cap, e = .returned (.slice A' l.length cap) ∧ Cl w w' l A' cap := by
  match A, hC with
  | none, hC =>
    have hl0 : l = [] := by
      cases l with
      | nil => rfl
      | cons x l =>
        obtain ⟨ad, e, _⟩ := hC.2.2 (by simp)
        cases e
    subst hl0
    refine (Tryz.slices_Clone_string_nil 0 c w).mono ?_
    rintro e w' ⟨rfl, rfl⟩
    exact ⟨none, 0, rfl, .inl rfl, hC, Nat.le_refl _, Below.refl _ _⟩
  | some ad, hC =>
    by_cases h0 : l = []
    · subst h0
      refine (Tryz.slices_Clone_string_zero ad c w).mono ?_
      rintro e w' ⟨v', rfl, ho, _, hb⟩
      obtain ⟨A', cap, rfl, h⟩ := Cl.of_own (l := []) ho hb
      exact ⟨A', cap, rfl, h⟩
    · have hp := List.length_pos_iff.2 h0
      have hcell : ∀ j, j < l.length → w.cell? (ad.add j) = some (.string l[j]!) := by
        intro j hj
        obtain ⟨ad2, e, a2⟩ := Kd.at_string hC (j : Int) (by omega) (by omega)
        obtain rfl := Option.some.inj e
        rw [rdOf_at hj, Int.toNat_natCast] at a2
        rw [a2, getElem!_pos l j hj]
      obtain ⟨b, off, spot⟩ := ad
      have hs : spot = none := by
        have h := hcell 0 hp
        rw [Addr.add_zero'] at h
        cases spot with
        | none => rfl
        | some s => exfalso; simp only [World.cell?] at h; split at h <;> simp at h
      subst hs
      refine (Tryz.slices_Clone_string b off l.length c l w (Nat.le_refl _) (by omega) (fun j hj => ?_)).mono ?_
      · have h := hcell j hj
        rw [add_off] at h
        rw [h, getElem!_pos l j hj, List.getD_eq_getElem?_getD, List.getElem?_eq_getElem hj]
        rfl
      · rintro e w' ⟨v', rfl, ho, _, hb⟩
        rw [List.take_length] at ho
        obtain ⟨A', cap, rfl, h⟩ := Cl.of_own ho hb
        exact ⟨A', cap, rfl, h⟩
theorem St.start {w3 : World} {Lb D cap : Nat} {A : Option Addr} {leaf : ByteArray} {l : List ByteArray} (h1 : w3.heap[Lb]? = some (.cells #[.string leaf] 9 (0, 0))) (h2 : w3.heap[D]? = some (.cells #[.slice A l.length cap] 129 (0, 0)))
    (h3 : l = [] ∨ ∃ g cur, A = some ⟨g, 0, none⟩ ∧ w3.heap[g]? = some (.cells cur 9 (0, 0)) ∧ cur.toList.take l.length = l.map Value.string ∧ l.length ≤ cap) (h4 : l.all isDg = true) (h5 : l.length ≤ 1000000) :
    St (((w3.alloc (.cells #[.pointer (some ⟨D, 0, none⟩), .bool false] 164)).alloc (.cells #[.pointer (some ⟨w3.heap.size, 0, none⟩)] 161)).alloc (.cells #[fv136 Lb (w3.heap.size + 1) (w3.heap.size + 1 + 1)] 165)) Lb (w3.heap.size + 1) (w3.heap.size + 1 + 1) w3.heap.size D leaf false A cap l := by
  have old : ∀ {b : Nat} {o1 o2 o3 x : Obj}, w3.heap[b]? = some x → (((w3.alloc o1).alloc o2).alloc o3).heap[b]? = some x := by
    intro b o1 o2 o3 x h
    have hlt := heap_lt h
    show (((w3.heap.push _).push _).push _)[b]? = _
    rw [Array.getElem?_push, if_neg (by simp; omega), Array.getElem?_push, if_neg (by simp; omega), Array.getElem?_push, if_neg (by omega)]
    exact h
  refine ⟨old h1, ?_, ?_, ?_, old h2, h3.imp id (fun ⟨g, cur, e, hg, r⟩ => ⟨g, cur, e, old hg, r⟩), h4, h5⟩
  · show (((w3.heap.push _).push _).push _)[_]? = _
    rw [Array.getElem?_push, if_neg (by simp), Array.getElem?_push, if_pos (by simp)]
  · show (((w3.heap.push _).push _).push _)[_]? = _
    rw [Array.getElem?_push, if_pos (by simp)]
  · show (((w3.heap.push _).push _).push _)[_]? = _
    rw [Array.getElem?_push, if_neg (by simp; omega), Array.getElem?_push, if_neg (by simp), Array.getElem?_push, if_pos rfl]
theorem end_eq (n i : Nat) (l : List ByteArray) : (!(false || lacks n i l) && (rest n i l).isEmpty) = decide (l.length = plen n i) := by
  unfold lacks rest
  rw [Bool.false_or]
  by_cases h2 : l.length < plen n i
  · rw [decide_eq_true h2, decide_eq_false (by omega : ¬ l.length = plen n i)]; rfl
  · rw [decide_eq_false h2, Bool.not_false, Bool.true_and]
    by_cases h : l.length = plen n i
    · rw [decide_eq_true h, h, Nat.sub_self, List.take_zero]; rfl
    · rw [decide_eq_false h]
      cases e : l.take (l.length - plen n i) with
      | nil =>
        have := congrArg List.length e
        rw [List.length_take] at this
        simp at this
        omega
      | cons _ _ => rfl
theorem chk_bad {rt : ByteArray} {n i : Int} {leaf : ByteArray} {path : List ByteArray} (h : n > 1000000 ∨ i < 0 ∨ i ≥ n ∨ path.all isDg = false ∨ isDg leaf = false) : chkF rt n i leaf path = false := by
  unfold chkF
  rcases h with h | h | h | h | h
  · rw [decide_eq_false (by omega : ¬ n ≤ 1000000)]; simp
  · rw [decide_eq_false (by omega : ¬ 0 ≤ i)]; simp
  · rw [decide_eq_false (by omega : ¬ i < n)]; simp
  · rw [h]; simp
  · rw [h]; simp
set_option maxRecDepth 100000 in
set_option maxHeartbeats 2000000 in
theorem check_few (rt : ByteArray) (n i : Int) (leaf : ByteArray) (A : Option Addr) (c : Nat) (l : List ByteArray) (w : World) (hC : Kd.C Kd.string w A l.length l) (hl : l.length ≤ 1000000) (hb : n > 1000000 ∨ i < 0 ∨ i ≥ n) :
    Calls Tryz.prog 86 #[.string rt, .int .i64 n, .int .i64 i, .string leaf, .slice A l.length c] w fun e w' => e = .returned (.bool false) ∧ Below w.heap.size w w' := by
  have HC := Aside0.mk hC
  have HL := Aside0.mk hl
  clear hC hl
  have HB0 := Aside0.mk (Below.refl w.heap.size w)
  by_cases h1 : n > 1000000
  · clear hb
    go_enter Tryz.func86, Tryz.ntmps86
    go_wp2_with fail
    refine (clone_any A c l _ (Kd.C_alloc HC.out _) HL.out).mono ?_
    rintro e w1 ⟨A', cap, rfl, hcl⟩
    have HB1 := Aside0.mk (below_step (by repeat (first | exact HB0.out | apply below_alloc)) hcl.bl)
    clear hcl
    go_wp2_with fail
    go_ret
    exact ⟨rfl, by repeat (first | exact HB1.out | apply below_alloc)⟩
  · by_cases h2 : i < 0
    · clear hb
      go_enter Tryz.func86, Tryz.ntmps86
      go_wp2_with fail
      refine (clone_any A c l _ (Kd.C_alloc HC.out _) HL.out).mono ?_
      rintro e w1 ⟨A', cap, rfl, hcl⟩
      have HB1 := Aside0.mk (below_step (by repeat (first | exact HB0.out | apply below_alloc)) hcl.bl)
      clear hcl
      go_wp2_with fail
      go_ret
      exact ⟨rfl, by repeat (first | exact HB1.out | apply below_alloc)⟩
    · have h3 : i ≥ n := by rcases hb with h | h | h <;> first | exact absurd h h1 | exact absurd h h2 | exact h
      clear hb
      go_enter Tryz.func86, Tryz.ntmps86
      go_wp2_with fail
      refine (clone_any A c l _ (Kd.C_alloc HC.out _) HL.out).mono ?_
      rintro e w1 ⟨A', cap, rfl, hcl⟩
      have HB1 := Aside0.mk (below_step (by repeat (first | exact HB0.out | apply below_alloc)) hcl.bl)
      clear hcl
      go_wp2_with fail
      go_ret
      exact ⟨rfl, by repeat (first | exact HB1.out | apply below_alloc)⟩
set_option maxRecDepth 100000 in
set_option maxHeartbeats 2000000 in
theorem check_form (rt : ByteArray) (n i : Int) (leaf : ByteArray) (A : Option Addr) (c : Nat) (l : List ByteArray) (w : World) (hC : Kd.C Kd.string w A l.length l) (hl : l.length ≤ 1000000) (h1 : n ≤ 1000000) (h2 : 0 ≤ i) (h3 : i < n) (hb : l.all isDg = false ∨ isDg leaf = false) :
    Calls Tryz.prog 86 #[.string rt, .int .i64 n, .int .i64 i, .string leaf, .slice A l.length c] w fun e w' => e = .returned (.bool false) ∧ Below w.heap.size w w' := by
  have HC := Aside0.mk hC
  have HL := Aside0.mk hl
  clear hC hl
  have HB0 := Aside0.mk (Below.refl w.heap.size w)
  have d1 : ¬ n > 1000000 := by omega
  have d2 : ¬ i < 0 := by omega
  have d3 : ¬ i ≥ n := by omega
  have HBd := Aside0.mk hb
  clear hb
  cases ha : l.all isDg with
  | false =>
    have HA := Aside0.mk (show tree_digests_proper.f l = some false by unfold tree_digests_proper.f; rw [ha])
    clear ha
    go_enter Tryz.func86, Tryz.ntmps86
    go_wp2_with fail
    refine (clone_any A c l _ (Kd.C_alloc HC.out _) HL.out).mono ?_
    rintro e w1 ⟨A', cap, rfl, hcl⟩
    have HB1 := Aside0.mk (below_step (by repeat (first | exact HB0.out | apply below_alloc)) hcl.bl)
    have HCl := Aside0.mk hcl
    clear hcl
    go_wp2_with fail
    refine (tree_digests_proper.calls A' cap l false _ (by repeat (first | exact HCl.out.C | refine Kd.C_alloc ?_ _)) HCl.out.hc HA.out).mono ?_
    rintro e w2 ⟨rfl, hb⟩
    have HB2 := Aside0.mk (below_step (by repeat (first | exact HB1.out | apply below_alloc)) hb)
    clear hb
    go_wp2_with fail
    go_ret
    exact ⟨rfl, HB2.out⟩
  | true =>
    have HA := Aside0.mk (show tree_digests_proper.f l = some true by unfold tree_digests_proper.f; rw [ha])
    have HI := Aside0.mk (show digest_Is.f leaf = some false by
      unfold digest_Is.f
      rcases HBd.out with h | h
      · rw [ha] at h; cases h
      · rw [h])
    clear ha
    go_enter Tryz.func86, Tryz.ntmps86
    go_wp2_with fail
    refine (clone_any A c l _ (Kd.C_alloc HC.out _) HL.out).mono ?_
    rintro e w1 ⟨A', cap, rfl, hcl⟩
    have HB1 := Aside0.mk (below_step (by repeat (first | exact HB0.out | apply below_alloc)) hcl.bl)
    have hlf : w1.heap[w.heap.size]? = some (.cells #[.string leaf] 9 (0, 0)) := (hcl.bl.block _ (by simp)).trans (heap_last w _)
    have HLF := Aside0.mk hlf
    have HCl := Aside0.mk hcl
    clear hcl hlf
    go_wp2_with fail
    refine (tree_digests_proper.calls A' cap l true _ (by repeat (first | exact HCl.out.C | refine Kd.C_alloc ?_ _)) HCl.out.hc HA.out).mono ?_
    rintro e w2 ⟨rfl, hb⟩
    have HB2 := Aside0.mk (below_step (by repeat (first | exact HB1.out | apply below_alloc)) hb)
    have hl2 : w2.heap[w.heap.size]? = some (.cells #[.string leaf] 9 (0, 0)) := (hb.block _ (by have := heap_lt HLF.out; simp; omega)).trans ((Go.Lib.alloc_old _ _ _ (heap_lt HLF.out)).trans HLF.out)
    have c2 := cell_of_row _ _ 0 _ _ _ hl2
    clear hb hl2
    go_wp2_with fail
    refine (digest_Is.calls leaf false _ HI.out).mono ?_
    rintro e w3 ⟨rfl, hb⟩
    have HB3 := Aside0.mk (below_step HB2.out hb)
    clear hb
    go_wp2_with fail
    go_ret
    exact ⟨rfl, HB3.out⟩
set_option maxRecDepth 100000 in
set_option maxHeartbeats 2000000 in
theorem check_good (rt : ByteArray) (n i : Nat) (leaf : ByteArray) (A : Option Addr) (c : Nat) (l : List ByteArray) (w : World) (hgl : GL w) (hC : Kd.C Kd.string w A l.length l) (hl : l.length ≤ 1000000) (h1 : n ≤ 1000000) (h3 : i < n) (ha : l.all isDg = true) (hi : isDg leaf = true) :
    Calls Tryz.prog 86 #[.string rt, .int .i64 (n : Int), .int .i64 (i : Int), .string leaf, .slice A l.length c] w fun e w' => e = .returned (.bool (decide (up sumF n i leaf l = rt) && decide (l.length = plen n i))) ∧ Below w.heap.size w w' := by
  have HGL := Aside0.mk hgl
  have HC := Aside0.mk hC
  have HL := Aside0.mk hl
  have HB0 := Aside0.mk (Below.refl w.heap.size w)
  have d1 : ¬ (n : Int) > 1000000 := by omega
  have d2 : ¬ (i : Int) < 0 := by omega
  have d3 : ¬ (i : Int) ≥ (n : Int) := by omega
  have HA := Aside0.mk (show tree_digests_proper.f l = some true by unfold tree_digests_proper.f; rw [ha])
  have HI := Aside0.mk (show digest_Is.f leaf = some true by unfold digest_Is.f; rw [hi])
  have HD := Aside0.mk ha
  have HZ := Aside0.mk (show leaf.size ≤ 1000 by rw [isDg_size hi]; omega)
  clear hC hl hgl ha hi
  go_enter Tryz.func86, Tryz.ntmps86
  go_wp2_with fail
  refine (clone_any A c l _ (Kd.C_alloc HC.out _) HL.out).mono ?_
  rintro e w1 ⟨A', cap, rfl, hcl⟩
  have HB1 := Aside0.mk (below_step (by repeat (first | exact HB0.out | apply below_alloc)) hcl.bl)
  have hlf : w1.heap[w.heap.size]? = some (.cells #[.string leaf] 9 (0, 0)) := (hcl.bl.block _ (by simp)).trans (heap_last w _)
  have HLF := Aside0.mk hlf
  have HCl := Aside0.mk hcl
  clear hcl hlf
  go_wp2_with fail
  refine (tree_digests_proper.calls A' cap l true _ (by repeat (first | exact HCl.out.C | refine Kd.C_alloc ?_ _)) HCl.out.hc HA.out).mono ?_
  rintro e w2 ⟨rfl, hb⟩
  have HB2 := Aside0.mk (below_step (by repeat (first | exact HB1.out | apply below_alloc)) hb)
  have hl2 : w2.heap[w.heap.size]? = some (.cells #[.string leaf] 9 (0, 0)) := (hb.block _ (by have := heap_lt HLF.out; simp; omega)).trans ((Go.Lib.alloc_old _ _ _ (heap_lt HLF.out)).trans HLF.out)
  have hd2 : w2.heap[w1.heap.size]? = some (.cells #[.slice A' l.length cap] 129 (0, 0)) := (hb.block _ (by simp)).trans (heap_last w1 _)
  have hrow2 : l = [] ∨ ∃ g cur, A' = some ⟨g, 0, none⟩ ∧ w2.heap[g]? = some (.cells cur 9 (0, 0)) ∧ cur.toList.take l.length = l.map Value.string ∧ l.length ≤ cap :=
    HCl.out.row.imp id (fun ⟨g, cur, e, hg, r⟩ => ⟨g, cur, e, (hb.block _ (by have := heap_lt hg; simp; omega)).trans ((Go.Lib.alloc_old _ _ _ (heap_lt hg)).trans hg), r⟩)
  have c2 := cell_of_row _ _ 0 _ _ _ hl2
  have HL2 := Aside0.mk hl2
  have HD2 := Aside0.mk hd2
  have HR2 := Aside0.mk hrow2
  clear hb hl2 hd2 hrow2
  go_wp2_with fail
  refine (digest_Is.calls leaf true _ HI.out).mono ?_
  rintro e w3 ⟨rfl, hb⟩
  have HB3 := Aside0.mk (below_step HB2.out hb)
  have HL3 := Aside0.mk ((hb.block _ (heap_lt HL2.out)).trans HL2.out)
  have HD3 := Aside0.mk ((hb.block _ (heap_lt HD2.out)).trans HD2.out)
  have HR3 := Aside0.mk (HR2.out.imp id (fun ⟨g, cur, e, hg, r⟩ => ⟨g, cur, e, (hb.block _ (heap_lt hg)).trans hg, r⟩) : l = [] ∨ ∃ g cur, A' = some ⟨g, 0, none⟩ ∧ w3.heap[g]? = some (.cells cur 9 (0, 0)) ∧ cur.toList.take l.length = l.map Value.string ∧ l.length ≤ cap)
  clear hb c2
  obtain ⟨u, hu⟩ : ∃ u, up sumF n i leaf l = u := ⟨_, rfl⟩
  have HU := Aside0.mk hu
  clear hu
  have HS := Aside0.mk (St.start HL3.out HD3.out HR3.out HD.out HL.out)
  have HB4 := Aside0.mk (below_alloc (below_alloc (below_alloc HB3.out (.cells #[.pointer (some ⟨w1.heap.size, 0, none⟩), .bool false] 164)) (.cells #[.pointer (some ⟨w3.heap.size, 0, none⟩)] 161)) (.cells #[fv136 w.heap.size (w3.heap.size + 1) (w3.heap.size + 1 + 1)] 165))
  have HG1 := Aside0.mk HB1.out.size
  have HG3 := Aside0.mk HB3.out.size
  go_wp2_with fail
  refine (up_any w HGL.out HG1.out HG3.out HZ.out n n i false l _ (Nat.le_refl _) h3 h1 HB4.out HS.out).mono ?_
  rintro e w4 ⟨he, hS4, hb⟩
  rw [HU.out] at he
  subst he
  have cp := hS4.cells.2.1
  have HS4 := Aside0.mk hS4
  have HB5 := Aside0.mk hb
  clear hS4 hb
  obtain ⟨b, hb⟩ : ∃ b, decide (l.length = plen n i) = b := ⟨_, rfl⟩
  have HBo := Aside0.mk hb
  clear hb
  by_cases hur : u.toList = rt.toList
  · have HE := Aside0.mk (show decide (up sumF n i leaf l = rt) = true from decide_eq_true (by rw [HU.out]; exact ObsMer.toL_inj (by rw [Go.Lib.toList_data, Go.Lib.toList_data] at hur; exact hur)))
    go_wp2_with fail
    refine (done_walk _ HS4.out).mono ?_
    rintro e w5 ⟨he, rfl⟩
    rw [end_eq, HBo.out] at he
    subst he
    go_wp2_with fail
    go_ret
    exact ⟨by rw [HE.out, HBo.out]; rfl, HB5.out⟩
  · have HE := Aside0.mk (show decide (up sumF n i leaf l = rt) = false from decide_eq_false (by rw [HU.out]; intro e; exact hur (by rw [e])))
    have hur2 : (u.toList == rt.toList) = false := beq_eq_false_iff_ne.2 hur
    go_wp2_with fail
    go_ret
    exact ⟨by rw [HE.out]; rfl, HB5.out⟩
def tree_Check.f (a0 : ByteArray) (a1 a2 : Int) (a3 : ByteArray) (l4 : List ByteArray) : Option Bool := if l4.length ≤ 1000000 then some (chkF a0 a1 a2 a3 l4) else none
theorem tree_Check.calls (a0 : ByteArray) (a1 a2 : Int) (a3 : ByteArray) (A4 : Option Addr) (c4 : Nat) (l4 : List ByteArray) (r : Bool) (w : World) (hr4 : Kd.C Kd.string w A4 l4.length l4) (hc4 : l4.length ≤ c4) (hgl : GL w) (h : tree_Check.f a0 a1 a2 a3 l4 = some r) :
    Calls Tryz.prog 86 #[.string a0, .int .i64 a1, .int .i64 a2, .string a3, .slice A4 l4.length c4] w fun e w' => e = .returned (.bool r) ∧ Below w.heap.size w w' := by
  unfold tree_Check.f at h
  split at h
  · rename_i hl
    have e := Option.some.inj h
    by_cases hb : a1 > 1000000 ∨ a2 < 0 ∨ a2 ≥ a1
    · rw [chk_bad (by rcases hb with h | h | h <;> simp [h])] at e
      subst e
      exact check_few a0 a1 a2 a3 A4 c4 l4 w hr4 hl hb
    · by_cases hf : l4.all isDg = false ∨ isDg a3 = false
      · rw [chk_bad (by rcases hf with h | h <;> simp [h])] at e
        subst e
        exact check_form a0 a1 a2 a3 A4 c4 l4 w hr4 hl (by omega) (by omega) (by omega) hf
      · have ha : l4.all isDg = true := by
          cases h : l4.all isDg with
          | true => rfl
          | false => exact absurd (.inl h) hf
        have hi : isDg a3 = true := by
          cases h : isDg a3 with
          | true => rfl
          | false => exact absurd (.inr h) hf
        obtain ⟨i, rfl⟩ := Int.eq_ofNat_of_zero_le (show 0 ≤ a2 by omega)
        obtain ⟨n, rfl⟩ := Int.eq_ofNat_of_zero_le (show 0 ≤ a1 by omega)
        have := check_good a0 n i a3 A4 c4 l4 w hgl hr4 hl (by omega) (by omega) ha hi
        have e2 : chkF a0 (n : Int) (i : Int) a3 l4 = (decide (up sumF n i a3 l4 = a0) && decide (l4.length = plen n i)) := by
          unfold chkF
          rw [ha, hi, decide_eq_true (show (n : Int) ≤ 1000000 by omega), decide_eq_true (show (0 : Int) ≤ (i : Int) by omega), decide_eq_true (show (i : Int) < (n : Int) by omega), Int.toNat_natCast, Int.toNat_natCast]
          simp only [Bool.true_and]
          exact Bool.and_comm _ _
        rw [e2] at e
        rw [e] at this
        exact this
  · cases h
end Go.Proofs.YtddikdpbhjgihaaGreatDoor.X
end
section
namespace Go.Proofs.YtddikdpbhjgihaaGreatDoor.X
open Go.RowKit Go.Proofs.YtddikdpbhjgihaaGreatDoorW.PrintWords Go.Proofs.YtddikdpbhjgihaaGreatDoorW.PrintLast
open ObsMer (joined toL half root nodeT leafT emptyT plen up ptexts pairT itoaB)
set_option linter.unusedVariables false
theorem Joined_ok {l : List ByteArray} (h : jn l ≤ 140737488355328) : observatoryref01_Joined.f l = some (joined l) := by unfold observatoryref01_Joined.f; rw [if_pos h]
theorem List_ref {k : Nat} {l : List ByteArray} (hj : jn l ≤ 100000) (hk : 300000 ≤ k) : observatoryref01_List.f k l = some (listF l) := by
  have hs := joined_jn l (by omega)
  unfold observatoryref01_List.f
  rw [Joined_ok (by omega), Option.bind_some, Sum_eq (by omega) (by omega), Option.bind_some]
  rfl
theorem node_ref {k : Nat} {a b : ByteArray} (ha : a.size ≤ 1000) (hb : b.size ≤ 1000) (hk : 300000 ≤ k) : observatoryref02_node.f k a b = some (sumF (nodeT a b)) := by
  unfold observatoryref02_node.f
  rw [List_ref (by simp [jn]; have : (⟨#[110, 111, 100, 101]⟩ : ByteArray).size = 4 := rfl; omega) hk, Option.bind_some]
  rfl
theorem Leaf_ref {k : Nat} {s : ByteArray} (hs : s.size ≤ 1000) (hk : 300000 ≤ k) : observatoryref02_Leaf.f k s = some (sumF (leafT s)) := by
  unfold observatoryref02_Leaf.f
  rw [List_ref (by simp [jn]; have : (⟨#[108, 101, 97, 102]⟩ : ByteArray).size = 4 := rfl; omega) hk, Option.bind_some]
  rfl
theorem Empty_ref {k : Nat} (hk : 300000 ≤ k) : observatoryref02_Empty.f k = some (sumF emptyT) := by
  unfold observatoryref02_Empty.f
  rw [List_ref (by simp [jn]; have : (⟨#[101, 109, 112, 116, 121]⟩ : ByteArray).size = 5 := rfl; omega) hk, Option.bind_some]
  rfl
theorem tLeaf {s : ByteArray} (hs : s.size ≤ 1000) : tree_Leaf.f s = some (sumF (leafT s)) := by
  unfold tree_Leaf.f
  rw [List_ok, Option.bind_some]
  · rfl
  · have := joined_size [⟨#[108, 101, 97, 102]⟩, s] (by
      intro x hx
      simp only [List.mem_cons, List.not_mem_nil, or_false] at hx
      rcases hx with rfl | rfl
      · decide
      · exact hs)
    simp only [List.length_cons, List.length_nil] at this
    omega
theorem nodeJ {a b : ByteArray} (ha : a.size ≤ 1000) (hb : b.size ≤ 1000) : observatoryref01_Joined.f [⟨#[110, 111, 100, 101]⟩, a, b] = some (nodeT a b) :=
  Joined_ok (by simp [jn]; have : (⟨#[110, 111, 100, 101]⟩ : ByteArray).size = 4 := rfl; omega)
theorem root_ref : ∀ (d k : Nat) (l : List ByteArray), l.length ≤ d → okB l = true → d + 300001 ≤ k → observatoryref02_root.f k l = some (root sumF l) := by
  intro d
  induction d with
  | zero =>
    intro k l h1 h2 hk
    obtain ⟨k, rfl⟩ : ∃ q, k = q + 1 := ⟨k - 1, by omega⟩
    obtain rfl : l = [] := List.eq_nil_of_length_eq_zero (by omega)
    simp only [observatoryref02_root.f]
    rw [if_pos (by simp), Empty_ref (by omega), Option.bind_some, ObsMer.root_nil]
  | succ d ih =>
    intro k l h1 h2 hk
    obtain ⟨k, rfl⟩ : ∃ q, k = q + 1 := ⟨k - 1, by omega⟩
    simp only [observatoryref02_root.f]
    by_cases h0 : l.length = 0
    · obtain rfl : l = [] := List.eq_nil_of_length_eq_zero h0
      rw [if_pos (by simp), Empty_ref (by omega), Option.bind_some, ObsMer.root_nil]
    · rw [if_neg (by omega)]
      by_cases h3 : l.length = 1
      · rw [if_pos (by omega), if_pos (by omega)]
        match l, h3 with
        | [a], _ => rw [ObsMer.root_one]; rfl
      · have hl := ObsMer.half_lt (n := l.length) (by omega)
        have hp := ObsMer.half_pos l.length
        rw [if_neg (by omega), Half_eq (by omega) (by have := okB_len h2; omega), Option.bind_some, if_pos (by omega), if_pos (by omega), Int.toNat_natCast]
        rw [ih k _ (by rw [List.length_take]; omega) (okB_take h2 _) (by omega), Option.bind_some, ih k _ (by rw [List.length_drop]; omega) (okB_drop h2 _) (by omega), Option.bind_some]
        rw [node_ref (root_size (okB_take h2 _) (by rw [List.length_take]; omega)) (root_size (okB_drop h2 _) (by rw [List.length_drop]; omega)) (by omega), Option.bind_some, ← ObsMer.root_two sumF (by omega)]
theorem take_last (p : List ByteArray) (h : p.length ≤ 9223372036854775806) : p.take (wrap64 ((p.length : Int) - 1)).toNat = p.dropLast := by
  rw [w64 (by omega) (by omega), List.dropLast_eq_take]
  congr 1
  omega
theorem rd_last {p : List ByteArray} (h : p.length ≤ 9223372036854775806) (h0 : 1 ≤ p.length) : rdOf ByteArray.empty p (wrap64 ((p.length : Int) - 1)) = p.getLastD ByteArray.empty := by
  rw [w64 (by omega) (by omega), show (p.length : Int) - 1 = ((p.length - 1 : Nat) : Int) by omega, rdB_at (by omega), List.getLastD_eq_getLast?, List.getLast?_eq_getElem?, List.getElem?_eq_getElem (by omega)]
  rfl
theorem dl_dg {p : List ByteArray} (h : p.all isDg = true) : p.dropLast.all isDg = true := by
  rw [List.all_eq_true]
  intro s hs
  exact List.all_eq_true.1 h s (List.dropLast_subset _ hs)
theorem up_ref (leaf : ByteArray) (hleaf : leaf.size ≤ 1000) : ∀ (d k n i : Nat) (p : List ByteArray), n ≤ d → i < n → n ≤ 1000000 → p.all isDg = true → p.length = plen n i → p.length ≤ 1000000 → d + 300001 ≤ k →
    observatoryref02_up.f k (n : Int) (i : Int) leaf p = some (up sumF n i leaf p) ∧ observatoryref02_PathTexts.f k (n : Int) (i : Int) leaf p = some (ptexts sumF n i leaf p) ∧ (ptexts sumF n i leaf p).length ≤ n ∧ observatoryref02_length.f k (n : Int) (i : Int) = some (plen n i : Int) ∧ plen n i ≤ n := by
  intro d
  induction d with
  | zero => intro k n i p h1 h2; omega
  | succ d ih =>
    intro k n i p h1 h2 h3 h4 h5 h6 hk
    obtain ⟨k, rfl⟩ : ∃ q, k = q + 1 := ⟨k - 1, by omega⟩
    simp only [observatoryref02_up.f, observatoryref02_PathTexts.f, observatoryref02_length.f]
    by_cases h0 : n = 1
    · subst h0
      have h1' : ((1 : Nat) : Int) = 1 := rfl
      rw [if_pos h1', if_pos h1', if_pos h1', ObsMer.up_one sumF (Nat.le_refl _), ObsMer.ptexts_one sumF (Nat.le_refl _), ObsMer.plen_one (Nat.le_refl _)]
      exact ⟨rfl, rfl, by simp, rfl, by omega⟩
    · have hl := ObsMer.half_lt (n := n) (by omega)
      have hp := ObsMer.half_pos n
      have hsz := last_size h4
      have hpl : 1 ≤ p.length := by
        rw [h5]
        by_cases hi : i < half n
        · rw [ObsMer.plen_lo (n := n) (i := i) (by omega) hi]; omega
        · rw [ObsMer.plen_hi (n := n) (i := i) (by omega) (by omega)]; omega
      have hdl : p.dropLast.length = p.length - 1 := List.length_dropLast
      have e1 : wrap64 ((p.length : Int) - 1) = (p.length : Int) - 1 := w64 (by omega) (by omega)
      have hT := take_last p (by omega)
      have hR := rd_last (p := p) (by omega) hpl
      have c1 : 0 ≤ (p.length : Int) - 1 := by omega
      have c2 : (p.length : Int) - 1 < (p.length : Int) := by omega
      have c3 : (p.length : Int) - 1 ≤ (p.length : Int) := by omega
      rw [if_neg (by omega), if_neg (by omega), if_neg (by omega), Half_eq (by omega) (by omega), Option.bind_some, Option.bind_some, Option.bind_some, hT, hR, e1, if_pos c1, if_pos c2, if_pos c3, if_pos c1, if_pos c2, if_pos c3]
      by_cases hi : i < half n
      · have hq : p.dropLast.length = plen (half n) i := by rw [hdl, h5, ObsMer.plen_lo (n := n) (i := i) (by omega) hi]; omega
        obtain ⟨g1, g2, g3, g4, g5⟩ := ih k (half n) i p.dropLast (by omega) hi (by omega) (dl_dg h4) hq (by omega) (by omega)
        have hi' : (i : Int) < (half n : Int) := by omega
        have g6 : (ptexts sumF (half n) i leaf p.dropLast).length < 8796093022208 := by omega
        rw [if_pos hi', if_pos hi', if_pos hi', g1, g2, g4, Option.bind_some, Option.bind_some, Option.bind_some, Option.bind_some, node_ref (up_size hleaf _ _ _) hsz (by omega), nodeJ (up_size hleaf _ _ _) hsz, Option.bind_some, Option.bind_some, if_pos g6, ObsMer.up_lo sumF (n := n) (i := i) (by omega) hi, ObsMer.ptexts_lo sumF (n := n) (i := i) (by omega) hi, ObsMer.plen_lo (n := n) (i := i) (by omega) hi, w64 (by omega) (by omega)]
        exact ⟨rfl, rfl, by simp; omega, congrArg some (by omega), by omega⟩
      · have hq : p.dropLast.length = plen (n - half n) (i - half n) := by rw [hdl, h5, ObsMer.plen_hi (n := n) (i := i) (by omega) (by omega)]; omega
        obtain ⟨g1, g2, g3, g4, g5⟩ := ih k (n - half n) (i - half n) p.dropLast (by omega) (by omega) (by omega) (dl_dg h4) hq (by omega) (by omega)
        have e2 : wrap64 ((n : Int) - (half n : Int)) = ((n - half n : Nat) : Int) := by rw [w64 (by omega) (by omega)]; omega
        have e3 : wrap64 ((i : Int) - (half n : Int)) = ((i - half n : Nat) : Int) := by rw [w64 (by omega) (by omega)]; omega
        have hi' : ¬ (i : Int) < (half n : Int) := by omega
        have g6 : (ptexts sumF (n - half n) (i - half n) leaf p.dropLast).length < 8796093022208 := by omega
        rw [if_neg hi', if_neg hi', if_neg hi', e2, e3, g1, g2, g4, Option.bind_some, Option.bind_some, Option.bind_some, Option.bind_some, node_ref hsz (up_size hleaf _ _ _) (by omega), nodeJ hsz (up_size hleaf _ _ _), Option.bind_some, Option.bind_some, if_pos g6, ObsMer.up_hi sumF (n := n) (i := i) (by omega) (by omega), ObsMer.ptexts_hi sumF (n := n) (i := i) (by omega) (by omega), ObsMer.plen_hi (n := n) (i := i) (by omega) (by omega), w64 (by omega) (by omega)]
        exact ⟨rfl, rfl, by simp; omega, congrArg some (by omega), by omega⟩
end Go.Proofs.YtddikdpbhjgihaaGreatDoor.X
end
