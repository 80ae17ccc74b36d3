import Derived.Test.YtddikdpbhjgihaaGreatDoorSM14
import Derived.Test.YtddikdpbhjgihaaGreatDoorSM13
import Derived.Laws.MakeOwn
import Derived.Test.YtddikdpbhjgihaaGreatDoorSM12
import Derived.Outline
import Derived.Test.YtddikdpbhjgihaaGreatDoorSM06
import Derived.Test.YtddikdpbhjgihaaGreatDoorSM10
section
namespace Go.Proofs.YtddikdpbhjgihaaGreatDoor.X
open Go.RowKit Go.Proofs.YtddikdpbhjgihaaGreatDoorW.PrintWords Go.Proofs.YtddikdpbhjgihaaGreatDoorW.PrintLast Go.Proofs.YtddikdpbhjgihaaGreatDoorW.PrintMore
open Go.Lib (byteCells byteCells_length byteCells_one size_eq strCells)
open ObsMer (joined toL toL_append toL_inj toL_joined itoaB)
set_option linter.unusedVariables false
set_option linter.unusedSimpArgs false
def sumF (s : ByteArray) : ByteArray := hex16 (stI s (s.size / 8 + 1)).toNat
def listF (l : List ByteArray) : ByteArray := sumF (joined l)
theorem sumF_size (s : ByteArray) : (sumF s).size = 16 := by
  unfold sumF hex16; rw [strOfNums_size]; simp [hexL]
theorem Sum_ok {s : ByteArray} (h : s.size ≤ 140737488355328) : digest_Sum.f s = some (sumF s) := by unfold digest_Sum.f; rw [if_pos h]; rfl
theorem joined_append : ∀ a b : List ByteArray, toL (joined (a ++ b)) = toL (joined a) ++ toL (joined b)
  | [], b => rfl
  | s :: a, b => by rw [List.cons_append, toL_joined, toL_joined, joined_append a b]; simp
theorem joined_take (l : List ByteArray) (k : Nat) : (joined (l.take k)).size ≤ (joined l).size := by
  have := congrArg List.length (joined_append (l.take k) (l.drop k))
  rw [List.take_append_drop, List.length_append] at this
  rw [← ObsMer.toL_length, ← ObsMer.toL_length]
  omega
theorem joined_step (l : List ByteArray) {k : Nat} (h : k < l.length) : toL (joined (l.take (k + 1))) = toL (joined (l.take k)) ++ (Lib.itoa (l[k].size : Int) ++ 58 :: toL l[k]) := by
  rw [List.take_succ_eq_append_getElem h, joined_append, toL_joined]
  simp [joined, toL]
theorem rdOf_at {l : List ByteArray} {i : Nat} (h : i < l.length) : rdOf ByteArray.empty l (i : Int) = l[i] := by
  simp [rdOf, List.getElem?_eq_getElem h]
theorem bldAt_below {B b : Nat} {p : Value} {bs : List Value} {w w1 : World} (h : Lib.BuilderAt 183 5 B b p bs w) (hb : Below w.heap.size w w1) : Lib.BuilderAt 183 5 B b p bs w1 := by
  obtain ⟨hB, v, hbk, hown, hne⟩ := h
  exact ⟨hB, v, (hb.block b (heap_lt hbk)).trans hbk, own_move hown (fun k hk => hb.block k (own_lt hown k hk)), hne⟩
theorem bld_below {B b : Nat} {bs : List Value} {w w1 : World} (h : Lib.IsBuilder 183 5 B b bs w) (hb : Below w.heap.size w w1) : Lib.IsBuilder 183 5 B b bs w1 :=
  h.imp (fun h => bldAt_below h hb) (fun h => bldAt_below h hb)
structure LI (w wr : World) (l : List ByteArray) (k : Nat) : Prop where
  b : Lib.IsBuilder 183 5 w.heap.size w.heap.size (byteCells (toL (joined (l.take k)))) wr
  bl : Below w.heap.size w wr
def digest_List.f (a0 : List ByteArray) : Option ByteArray := if (joined a0).size ≤ 140737488355328 then some (listF a0) else none
theorem list_cells (t a b : List UInt8) : byteCells t ++ strCells ⟨a.toArray⟩ ++ [.int .u8 58] ++ strCells ⟨b.toArray⟩ = byteCells (t ++ (a ++ 58 :: b)) := by
  simp [byteCells, strCells]
set_option maxRecDepth 100000 in
theorem list_walk (A : Option Addr) (c : Nat) (l : List ByteArray) (w : World) (hC0 : Kd.C Kd.string w A l.length l) (hc : l.length ≤ c) (hgl : GL w) (hj : (joined l).size ≤ 140737488355328) :
    Calls Tryz.prog 132 #[.slice A l.length c] w fun e w' => e = .returned (.string (listF l)) ∧ Below w.heap.size w w' := by
  have HGL := Aside0.mk hgl
  have HC := Aside0.mk hC0
  have HJ := Aside0.mk hj
  have hlen := hC0.2.1
  clear hgl hC0 hj
  go_enter Tryz.func132, Tryz.ntmps132
  go_wp2_with fail
  go_loopg [8] l.length (fun gk v8 wr => ∃ k : Nat, k + gk = l.length ∧ v8 = .int .i64 (k : Int) ∧ LI w wr l k)
  case atStart =>
    refine ⟨0, by omega, rfl, .inl ⟨Nat.le_refl _, .slice none 0 0, by show (w.heap.push _)[w.heap.size]? = _; rw [Array.getElem?_push_size], ⟨rfl, .inl ⟨rfl, rfl⟩⟩, by simp [Value.ownBlock]⟩, (Below.refl _ _).alloc (Nat.le_refl _) _⟩
  case round =>
    obtain ⟨k, hk, rfl, hI⟩ := hrel
    have HI := Aside0.mk hI
    clear hI
    by_cases h : k < l.length
    · have h' : (k : Int) < (l.length : Int) := by omega
      obtain ⟨ad, e0, a0⟩ := Kd.at_string (Kd.C_below HC.out HI.out.bl) (k : Int) (by omega) h'
      subst e0
      rw [rdOf_at h, Int.toNat_natCast] at a0
      have hst := joined_step l h
      have hsz := joined_take l (k + 1)
      rw [← ObsMer.toL_length, hst] at hsz
      simp only [List.length_append, List.length_cons] at hsz
      have HST := Aside0.mk hst
      have HSZ := Aside0.mk hsz
      have hks : l[k].size ≤ 140737488355328 := by have := HJ.out; rw [ObsMer.toL_length l[k]] at hsz; omega
      clear hst hsz
      go_wp2_with fail
      have hi : strconv_Itoa.f (l[k].size : Int) = some ⟨(Lib.itoa (l[k].size : Int)).toArray⟩ := by
        unfold strconv_Itoa.f; rw [if_pos (by omega)]
      refine (strconv_Itoa.calls (l[k].size : Int) _ _ (HGL.out.below HI.out.bl) hi).mono ?_
      rintro e w1 ⟨rfl, hb⟩
      have HB1 := Aside0.mk (below_step HI.out.bl hb)
      have hb1 := bld_below HI.out.b hb
      have hI : ((⟨(Lib.itoa (l[k].size : Int)).toArray⟩ : ByteArray)).size = (Lib.itoa (l[k].size : Int)).length := by rw [size_eq]
      have HB1' := Aside0.mk hb1
      clear hb hi hb1
      go_wp2_with fail
      refine (bWriteString w.heap.size w.heap.size _ _ _ HB1'.out (by rw [byteCells_length, hI]; have := HSZ.out; have := HJ.out; omega) HB1.out.size).mono ?_
      rintro e w2 ⟨rfl, hb2, hl2⟩
      have HB2 := Aside0.mk (HB1.out.trans hl2)
      have HB2' := Aside0.mk hb2
      clear hb2 hl2
      go_wp2_with fail
      refine (bWriteByte w.heap.size w.heap.size _ 58 _ (.inr HB2'.out) (by rw [List.length_append, byteCells_length, Lib.strCells_length, hI]; have := HSZ.out; have := HJ.out; omega) HB2.out.size).mono ?_
      rintro e w3 ⟨rfl, hb3, hl3⟩
      have HB3 := Aside0.mk (HB2.out.trans hl3)
      have HB3' := Aside0.mk hb3
      clear hb3 hl3
      go_wp2_with fail
      refine (bWriteString w.heap.size w.heap.size _ _ _ (.inr HB3'.out) (by rw [List.length_append, List.length_append, byteCells_length, Lib.strCells_length, hI]; have h1 := HSZ.out; have := HJ.out; rw [ObsMer.toL_length l[k]] at h1; simp only [List.length_cons, List.length_nil]; omega) HB3.out.size).mono ?_
      rintro e w4 ⟨rfl, hb4, hl4⟩
      have HB4 := Aside0.mk (HB3.out.trans hl4)
      have HB4' := Aside0.mk hb4
      clear hb4 hl4
      go_wp2_with fail
      go_roundg (gk - 1)
      case rel =>
        refine ⟨k + 1, by omega, by go_num, .inr ?_, HB4.out⟩
        have := HB4'.out
        rw [HST.out, ← list_cells]
        exact this
      case measure => omega
    · obtain rfl : k = l.length := by omega
      have hb := HI.out.b
      rw [List.take_length] at hb
      have HBd := Aside0.mk hb
      clear hb
      go_wp2_with fail
      refine (Tryz.Builder_String_any w.heap.size w.heap.size _ _ HBd.out HI.out.bl.size).mono ?_
      rintro e w1 ⟨rfl, hb⟩
      have HB1 := Aside0.mk (HI.out.bl.trans hb)
      clear hb
      rw [show (⟨(toL (joined l)).toArray⟩ : ByteArray) = joined l from rfl]
      go_wp2_with fail
      refine (digest_Sum.calls (joined l) _ _ (HGL.out.below HB1.out) (Sum_ok HJ.out)).mono ?_
      rintro e w2 ⟨rfl, hb⟩
      have HB2 := Aside0.mk (below_step HB1.out hb)
      clear hb
      go_wp2_with fail
      go_ret
      exact ⟨rfl, HB2.out⟩
theorem digest_List.calls (A0 : Option Addr) (c0 : Nat) (l0 : List ByteArray) (r : ByteArray) (w : World) (hr0 : Kd.C Kd.string w A0 l0.length l0) (hc0 : l0.length ≤ c0) (hgl : GL w) (h : digest_List.f l0 = some r) :
    Calls Tryz.prog 132 #[.slice A0 l0.length c0] w fun e w' => e = .returned (.string r) ∧ Below w.heap.size w w' := by
  unfold digest_List.f at h
  split at h
  · rename_i hs
    have e := Option.some.inj h
    subst e
    exact list_walk A0 c0 l0 w hr0 hc0 hgl hs
  · cases h
theorem List_ok {l : List ByteArray} (h : (joined l).size ≤ 140737488355328) : digest_List.f l = some (listF l) := by unfold digest_List.f; rw [if_pos h]
end Go.Proofs.YtddikdpbhjgihaaGreatDoor.X
end
section
namespace Go.Proofs.YtddikdpbhjgihaaGreatDoor.X
open Go.RowKit Go.Proofs.YtddikdpbhjgihaaGreatDoorW.PrintWords Go.Proofs.YtddikdpbhjgihaaGreatDoorW.PrintLast Go.Proofs.YtddikdpbhjgihaaGreatDoorW.PrintMore
open Go.Lib (byteCells byteCells_length byteCells_one size_eq strCells)
open ObsMer (joined toL toL_append toL_inj toL_joined itoaB)
set_option linter.unusedVariables false
set_option linter.unusedSimpArgs false
theorem strNums_map (l : List UInt8) : strOfNums (l.map fun b => (b.toNat : Int)) = ⟨l.toArray⟩ := by
  unfold strOfNums
  congr 1
  rw [List.map_map]
  congr 1
  have : ∀ b : UInt8, ((fun n : Int => UInt8.ofNat n.toNat) ∘ fun b : UInt8 => (b.toNat : Int)) b = b := fun b => by simp
  rw [List.map_congr_left (fun b _ => this b), List.map_id']
def jn : List ByteArray → Nat
  | [] => 0
  | s :: l => s.size + 21 + jn l
theorem jn_append : ∀ a b, jn (a ++ b) = jn a + jn b
  | [], b => by simp [jn]
  | s :: a, b => by rw [List.cons_append, jn, jn, jn_append a b]; omega
theorem jn_take (l : List ByteArray) (k : Nat) : jn (l.take k) ≤ jn l := by
  have := jn_append (l.take k) (l.drop k)
  rw [List.take_append_drop] at this
  omega
theorem jn_step (l : List ByteArray) {k : Nat} (h : k < l.length) : jn (l.take (k + 1)) = jn (l.take k) + (l[k].size + 21) := by
  rw [List.take_succ_eq_append_getElem h, jn_append]; rfl
theorem itoa_len20 (n : Nat) (h : n ≤ 9223372036854775807) : (Lib.itoa (n : Int)).length ≤ 20 := by
  unfold Lib.itoa
  rw [if_neg (by omega), Int.toNat_natCast, Go.Lib.decDigits_length]
  exact Go.Lib.nDigits_le20 n (by omega)
theorem joined_jn : ∀ l : List ByteArray, jn l ≤ 140737488355328 → (joined l).size ≤ jn l
  | [], _ => by simp [joined]
  | s :: l, h => by
    rw [jn] at h
    have ih := joined_jn l (by omega)
    have := itoa_len20 s.size (by omega)
    rw [← ObsMer.toL_length, toL_joined, List.length_append, List.length_cons, List.length_append, ObsMer.toL_length, ObsMer.toL_length, jn]
    omega
def observatoryref01_Joined.f (l0 : List ByteArray) : Option ByteArray := if jn l0 ≤ 140737488355328 then some (joined l0) else none
structure JI (w wr : World) (v : Value) (l : List ByteArray) (k : Nat) : Prop where
  own : wr.ownsRow w.heap.size 5 1 v (toL (joined (l.take k))).length (byteCells (toL (joined (l.take k))))
  bl : Below w.heap.size w wr
theorem at_again {w w2 : World} {ad : Addr} {n k : Nat} {l : List ByteArray} (h : Kd.C Kd.string w (some ad) n l) (hb : Below w.heap.size w w2) (hk : k < l.length) : w2.cell? (ad.add k) = some (.string l[k]) := by
  have hn := h.1
  obtain ⟨ad2, e, a2⟩ := Kd.at_string (Kd.C_below h hb) (k : Int) (by omega) (by omega)
  obtain rfl := Option.some.inj e
  rw [rdOf_at hk, Int.toNat_natCast] at a2
  exact a2
structure J3 (w wr : World) (v : Value) (l : List ByteArray) (k : Nat) (s : ByteArray) : Prop where
  ex : ∃ v1 w1 v2 w2 v3 w3, (Builtin.append_ #[110, 9] 110 #[v, .string (itoaB (s.size : Int))]).run Tryz.prog wr = .ok v1 w1 ∧
    (Builtin.append_ #[110, 110] 110 #[v1, .slice (some ⟨w1.heap.size, 0, none⟩) 1 1]).run Tryz.prog (w1.alloc (.cells #[.int .u8 58] 5)) = .ok v2 w2 ∧
    (Builtin.append_ #[110, 9] 110 #[v2, .string s]).run Tryz.prog w2 = .ok v3 w3 ∧
    Below w.heap.size w w2 ∧ JI w w3 v3 l (k + 1)
theorem joined_round {w wr : World} {v : Value} {l : List ByteArray} {k nq : Nat} {s : ByteArray} (hI : JI w wr v l k) (hst : toL (joined (l.take (k + 1))) = toL (joined (l.take k)) ++ (Lib.itoa (s.size : Int) ++ 58 :: toL s))
    (hsz : (toL (joined (l.take k))).length + ((Lib.itoa (s.size : Int)).length + (s.size + 1)) ≤ 140737488355328) : J3 w (wr.drewN nq) v l k s := by
  obtain ⟨i0, hi, hz0, hz1, hz2⟩ := info_parts info5
  have hown0 := own_move (w1 := wr.drewN nq) hI.own (fun k hk => rfl)
  have hI' : (itoaB (s.size : Int)).size = (Lib.itoa (s.size : Int)).length := by rw [size_eq]; rfl
  obtain ⟨v1, w1, hr1, ho1, hg1, -⟩ := Lib.run_append_own_string (P := Tryz.prog) (wr.drewN nq) w.heap.size 110 9 110 5 i0 Tryz.underlying110 Tryz.underlying9 hi hz0 hz1 hz2 _ _ _ hown0 (itoaB (s.size : Int)) (by rw [hI']; unfold maxLen; omega) (by rw [hI']; omega) hI.bl.size
  have HBa := pw_below_grown (pw_below_drewN hI.bl nq) _ hI.bl.size hg1 (fun k hk => own_base hown0 k hk)
  obtain ⟨v2, w2, hr2, ho2, hg2, -⟩ := run_append_own (P := Tryz.prog) (w := w1.alloc (.cells #[.int .u8 58] 5)) w.heap.size 110 110 5 i0 (.int .u8 0) 1 1 Tryz.underlying110 hi hz0 hz1 hz2 rfl (by decide) _ _ _ (ho1.alloc _) ⟨w1.heap.size, 0, none⟩ 1 1 [.int .u8 58] rfl (by
    intro j u hj
    match j, hj with
    | 0, hj => simp at hj; subst hj; simp [Addr.add]) (fun u hu => by simp at hu; subst hu; rfl) (by rw [hI']; unfold maxLen; omega) (by rw [hI']; omega) (by have := HBa.size; simp; omega)
  have HBb := pw_below_grown (HBa.alloc HBa.size (.cells #[.int .u8 58] 5)) _ (by have := HBa.size; simp; omega) hg2 (fun k hk => own_base ho1 k hk)
  obtain ⟨v3, w3, hr3, ho3, hg3, -⟩ := Lib.run_append_own_string (P := Tryz.prog) w2 w.heap.size 110 9 110 5 i0 Tryz.underlying110 Tryz.underlying9 hi hz0 hz1 hz2 _ _ _ ho2 s (by rw [hI']; unfold maxLen; omega) (by rw [hI']; omega) HBb.size
  have HBc := pw_below_grown HBb _ HBb.size hg3 (fun k hk => own_base ho2 k hk)
  refine ⟨v1, w1, v2, w2, v3, w3, hr1, hr2, hr3, HBb, ?_, HBc⟩
  have hl : (toL (joined (l.take (k + 1)))).length = (toL (joined (l.take k))).length + (itoaB (s.size : Int)).size + 1 + s.size := by
    rw [hst, hI', List.length_append, List.length_append, List.length_cons, ObsMer.toL_length s]; omega
  rw [hl, hst, ← list_cells]
  exact ho3
set_option maxRecDepth 100000 in
set_option maxHeartbeats 1000000 in
theorem joined_walk (A : Option Addr) (c : Nat) (l : List ByteArray) (w : World) (hC0 : Kd.C Kd.string w A l.length l) (hc : l.length ≤ c) (hj : jn l ≤ 140737488355328) :
    Calls Tryz.prog 30 #[.slice A l.length c] w fun e w' => e = .returned (.string (joined l)) ∧ Below w.heap.size w w' := by
  have HC := Aside0.mk hC0
  have HJ := Aside0.mk hj
  have hlen := hC0.2.1
  clear hC0 hj
  obtain ⟨i0, hi, hz0, hz1, hz2⟩ := info_parts info5
  have HI0 := Aside0.mk hi
  go_enter Tryz.func30, Tryz.ntmps30
  go_wp2_with fail
  go_loopg [3, 4] l.length (fun gk v3 v4 wr => ∃ k : Nat, k + gk = l.length ∧ v4 = .int .i64 (k : Int) ∧ v3 = .int .i64 (jn (l.take k) : Int) ∧ Drawn0 w wr)
  case atStart => exact ⟨0, by omega, rfl, rfl, 0, rfl⟩
  case round =>
    obtain ⟨k, hk, rfl, rfl, nd, rfl⟩ := hrel
    by_cases h : k < l.length
    · have h' : (k : Int) < (l.length : Int) := by omega
      obtain ⟨ad, e0, a0⟩ := Kd.at_string (Kd.C_drewN HC.out nd) (k : Int) (by omega) h'
      subst e0
      rw [rdOf_at h, Int.toNat_natCast] at a0
      have hst := jn_step l h
      have hj1 := jn_take l (k + 1)
      have hJ := HJ.out
      have HST := Aside0.mk hst
      have hb1 : l[k].size ≤ 140737488355328 := by omega
      have hb2 : jn (l.take k) ≤ 140737488355328 := by omega
      clear hst hj1 hJ
      go_wp2_with fail
      go_roundg (gk - 1)
      case rel => exact ⟨k + 1, by omega, by go_num, by rw [HST.out]; go_num, nd, rfl⟩
      case measure => omega
    · obtain rfl : k = l.length := by omega
      rw [List.take_length]
      obtain ⟨w1, hmk, hown, hg⟩ := run_make_own (P := Tryz.prog) (w.drewN nd) w.heap.size 110 5 i0 (.int .u8 0) 1 Tryz.underlying110 hi hz0 hz1 .i64 .i64 (jn l) (by rw [hz2]; have := HJ.out; omega) (by unfold maxLen; have := HJ.out; omega) (Nat.le_refl _)
      have HO1 := Aside0.mk hown
      have HB1 := Aside0.mk (pw_below_grown (pw_below_drewN (Below.refl w.heap.size w) nd) none (Nat.le_refl _) hg (fun k hk => by cases hk))
      clear hown hg
      obtain ⟨v0, hv0⟩ : ∃ v0, v0 = Value.slice (some ⟨(w.drewN nd).heap.size, 0, none⟩) 0 (jn l) := ⟨_, rfl⟩
      rw [← hv0] at hmk HO1
      clear hv0
      go_wp2_with fail
      clear hmk
      go_loopg [5, 6] l.length (fun gk v5 v6 wr => ∃ k : Nat, k + gk = l.length ∧ v6 = .int .i64 (k : Int) ∧ JI w wr v5 l k)
      case atStart => exact ⟨0, by omega, rfl, HO1.out, HB1.out⟩
      case round =>
        obtain ⟨k, hk, rfl, hI⟩ := hrel
        have HI := Aside0.mk hI
        clear hI
        by_cases h : k < l.length
        · have h' : (k : Int) < (l.length : Int) := by omega
          obtain ⟨ad, e0, a0⟩ := Kd.at_string (Kd.C_below HC.out HI.out.bl) (k : Int) (by omega) h'
          subst e0
          rw [rdOf_at h, Int.toNat_natCast] at a0
          have HST := Aside0.mk (joined_step l h)
          have hsz := joined_take l (k + 1)
          have hjj := joined_jn l HJ.out
          have hJ := HJ.out
          rw [← ObsMer.toL_length, HST.out] at hsz
          simp only [List.length_append, List.length_cons] at hsz
          generalize hs : l[k] = s at a0 HST hsz
          have HE := Aside0.mk (show some (Value.string l[k]) = some (.string s) by rw [hs])
          have hsL : (toL s).length = s.size := ObsMer.toL_length s
          have HSZ := Aside0.mk (show (toL (joined (l.take k))).length + ((Lib.itoa (s.size : Int)).length + (s.size + 1)) ≤ 140737488355328 by omega)
          have hs1 : s.size ≤ 140737488355328 := by omega
          have HD := Aside0.mk (Dec_eq (k := 30) (a := (s.size : Int)) (by omega) (by omega) (by omega))
          clear hsz hjj hJ hs hsL
          have HR := Aside0.mk (fun nq => joined_round (nq := nq) HI.out HST.out HSZ.out)
          go_wp2_with (first | ((with_reducible refine gate_callee (f := 92) rfl ?_); refine goesL_ (some 35) rfl rfl Tryz.func92 (by kernel_rfl) rfl #[.int .i64 (s.size : Int)] rfl (by (try simp only [List.map_toArray, List.map_cons, List.map_nil]); first | done | rfl) ?_; (with_reducible refine (observatoryref01_Decimal.calls 30 _ _ _ HD.out).mono ?_); rintro e w' ⟨rfl, ⟨nq, rfl⟩⟩; refine ⟨_, rfl, ?_⟩; obtain ⟨v1, w1, v2, w2, v3, w3, hr1, hr2, hr3, hb2, hj3⟩ := (HR.out nq).ex; have a2 := (at_again HC.out hb2 h).trans HE.out; have HJ3 := Aside0.mk hj3; clear hb2 hj3) | (at_builtin; refine ObsMap.wpList_append_of rfl _ _ 110 9 rfl _ _ rfl rfl _ _ hr1 ?_; clear hr1) | (at_builtin; refine ObsMap.wpList_append_of rfl _ _ 110 110 rfl _ _ rfl rfl _ _ hr2 ?_; clear hr2) | (at_builtin; refine ObsMap.wpList_append_of rfl _ _ 110 9 rfl _ _ rfl rfl _ _ hr3 ?_; clear hr3))
          go_roundg (gk - 1)
          case rel => exact ⟨k + 1, by omega, by go_num, HJ3.out⟩
          case measure => omega
        · obtain rfl : k = l.length := by omega
          have hown := HI.out.own
          rw [List.take_length] at hown
          have hb : byteCells (toL (joined l)) = nums .u8 ((toL (joined l)).map (fun b => (b.toNat : Int))) := by simp [byteCells, nums]
          rw [hb] at hown
          have hcv := own_string (P := Tryz.prog) Tryz.underlying110 Tryz.underlying5 Tryz.underlying9 hown
          rw [strNums_map] at hcv
          have HB := Aside0.mk HI.out.bl
          clear hown hb HI
          go_wp2_with fail
          go_ret
          exact ⟨rfl, HB.out⟩
theorem observatoryref01_Joined.calls (A0 : Option Addr) (c0 : Nat) (l0 : List ByteArray) (r : ByteArray) (w : World) (hr0 : Kd.C Kd.string w A0 l0.length l0) (hc0 : l0.length ≤ c0) (h : observatoryref01_Joined.f l0 = some r) :
    Calls Tryz.prog 30 #[.slice A0 l0.length c0] w fun e w' => e = .returned (.string r) ∧ Below w.heap.size w w' := by
  unfold observatoryref01_Joined.f at h
  split at h
  · rename_i hs
    have e := Option.some.inj h
    subst e
    exact joined_walk A0 c0 l0 w hr0 hc0 hs
  · cases h
end Go.Proofs.YtddikdpbhjgihaaGreatDoor.X
end
section
namespace Go.Proofs.YtddikdpbhjgihaaGreatDoor.X
open Go.RowKit Go.Proofs.YtddikdpbhjgihaaGreatDoorW.PrintWords Go.Proofs.YtddikdpbhjgihaaGreatDoorW.PrintLast Go.Proofs.YtddikdpbhjgihaaGreatDoorW.PrintMore
attribute [local go_sem] max2_int min2_int max_two min_two max_three min_three max_four min_four   -- for this text's walks alone
set_option linter.unusedVariables false
set_option linter.unusedSimpArgs false
def tree_node.f (a0 : ByteArray) (a1 : ByteArray) : Option (ByteArray) := (digest_List.f (([(⟨#[110, 111, 100, 101]⟩ : ByteArray), a0, a1] : List ByteArray))).bind fun t104 => (some t104)
set_option maxHeartbeats 8000000 in
set_option maxRecDepth 100000 in
theorem tree_node.calls (a0 : ByteArray) (a1 : ByteArray) (r : ByteArray) (w : World) (hgl : GL w) (h : tree_node.f a0 a1 = some r) :
    Calls Tryz.prog 138 #[.string a0, .string a1] w fun e w' => e = .returned (.string r) ∧ Below w.heap.size w w' := by
  have HGL := Aside0.mk hgl
  clear hgl
  have HB := Aside0.mk (Below.refl w.heap.size w)
  have H : ((digest_List.f (([(⟨#[110, 111, 100, 101]⟩ : ByteArray), a0, a1] : List ByteArray))).bind fun t104 => (some t104)) = some r := h
  clear h
  obtain ⟨y101, hy101⟩ : ∃ y_ : List ByteArray, y_ = (([(⟨#[110, 111, 100, 101]⟩ : ByteArray), a0, a1] : List ByteArray)) := ⟨_, rfl⟩
  replace H : ((digest_List.f y101).bind fun t104 => (some t104)) = some r := by first | (rw [hy101]; with_reducible exact H) | (have H2_ := (Option.bind_some _ _).symm.trans H; rw [hy101]; with_reducible exact H2_) | (have H2_ := (Option.bind_some _ _).symm.trans H; with_reducible exact H2_) | with_reducible exact H | (rw [hy101]; exact H) | exact H
  have Ny101 := Aside0.mk hy101
  clear hy101
  replace H := Option.bind_eq_some_iff.mp H
  obtain ⟨t104, A30, H⟩ := H
  replace H : (some t104) = some r := H
  have A3 := Aside0.mk A30
  clear A30
  obtain rfl := Option.some.inj H
  go_enter Tryz.func138, Tryz.ntmps138
  go_wp2_with (first | ((with_reducible refine gate_dst (N := 7) rfl ?_); refine Kd.R_lit Kd.string _ 9 ?hg (N := 7) ?hd (xs := ([(⟨#[110, 111, 100, 101]⟩ : ByteArray), a0, a1] : List ByteArray)) (inner := [.string (⟨#[110, 111, 100, 101]⟩ : ByteArray), .string a0, .string a1]) (ok := fun _ => True) (okp := fun _ => True) ?hr ?hp (fun _ hk => hk) trivial (Below.refl _ _) (Nat.le_refl _) (by simp) ?_; (case hd => rfl); (case hg => rfl); (case hr => first | (go_simp; done) | (go_simp; rfl)); (case hp => exact (Reps.one (show Kd.M Kd.string _ _ _ (⟨#[110, 111, 100, 101]⟩ : ByteArray) [.string (⟨#[110, 111, 100, 101]⟩ : ByteArray)] from rfl) (Reps.one (show Kd.M Kd.string _ _ _ a0 [.string a0] from rfl) (Reps.one (show Kd.M Kd.string _ _ _ a1 [.string a1] from rfl) (Reps.none _ _))))); intro v102 w4 ho5 hb hg_ hnew_; clear hg_ hnew_; (first | rw [← Ny101.out] at ho5 | (simp only [Int.reduceToNat] at ho5; rw [← Ny101.out] at ho5)); have n0_ := Aside0.mk (Kd.R_lower ho5 (below_size (by repeat (first | (with_reducible first | exact HB.out | apply below_alloc | apply pw_below_drewN | apply below_drew1) | exact HB.out)))); have n1_ := Aside0.mk (below_step (by repeat (first | (with_reducible first | exact HB.out | apply below_alloc | apply pw_below_drewN | apply below_drew1) | exact HB.out)) hb); clear HB; have HO103 := n0_; have HB := n1_; clear n0_ n1_; clear hb ho5; obtain ⟨Ao6, co6, eo6⟩ := Kd.R_slice HO103.out; subst eo6) | ((with_reducible refine gate_callee (f := 132) rfl ?_); refine goesL_ (some 8) rfl rfl Tryz.func132 (by kernel_rfl) rfl #[.slice Ao6 y101.length co6] rfl (by (try simp only [List.map_toArray, List.map_cons, List.map_nil]); first | done | rfl | (simp only [List.length_drop, List.length_take]; rfl)) ?_; (with_reducible refine (digest_List.calls _ _ y101 t104 _ ?side1 ?side2 ?side3 A3.out).mono ?_); (case side1 => repeat (first | exact (Kd.R_reads' HO103.out).2.2 | (with_reducible refine Kd.C_alloc ?_ _) | (with_reducible refine Kd.C_drewN ?_ _) | (with_reducible refine Kd.C_drew ?_))); (case side2 => exact (Kd.R_reads' HO103.out).2.1); (case side3 => first | (with_reducible exact HGL.out) | exact GL.below HGL.out (by repeat (first | (with_reducible first | exact HB.out | apply below_alloc | apply pw_below_drewN | apply below_drew1) | exact HB.out)) | exact GL.below HGL.out (by repeat (first | exact Below.refl _ _ | exact HB.out | apply below_alloc | apply pw_below_drewN | apply below_drew1))); rintro e w7 ⟨rfl, hb⟩; refine ⟨_, rfl, ?_⟩; have n0_ := Aside0.mk (Kd.R_below (by (with_reducible repeat (first | apply Kd.R_alloc | apply Kd.R_drewN | apply Kd.R_drew)); exact HO103.out) hb); have n1_ := Aside0.mk (below_step (by repeat (first | (with_reducible first | exact HB.out | apply below_alloc | apply pw_below_drewN | apply below_drew1) | exact HB.out)) hb); clear HO103; clear HB; have HO103 := n0_; have HB := n1_; clear n0_ n1_; (try clear hb); (try clear hb2); (try clear hk); (try clear hi)))
  go_ret
  exact ⟨by first | rfl | (simp [errW_none, errW_some] <;> rfl) | (simp [*, errW_none, errW_some] <;> rfl), by repeat (first | (with_reducible first | exact HB.out | apply below_alloc | apply pw_below_drewN | apply below_drew1) | exact HB.out)⟩
def shares_points_at.f (l0 : List (S125)) (a1 : Int) : Option (Int × Int) := (field_Interpolate.f l0 a1).bind fun bt112 => (some (bt112.1, bt112.2))
set_option maxHeartbeats 8000000 in
set_option maxRecDepth 100000 in
theorem shares_points_at.calls (A0 : Option Addr) (c0 : Nat) (l0 : List (S125)) (a1 : Int) (r1 : Int) (r2 : Int) (w : World) (hr0 : Kd.C k125 w A0 l0.length l0) (hc0 : l0.length ≤ c0) (h : shares_points_at.f l0 a1 = some (r1, r2)) :
    Calls Tryz.prog 79 #[.slice A0 l0.length c0, .int .i64 a1] w fun e w' => e = .returned (.tuple #[.int .i64 r1, .int .i64 r2]) ∧ Below w.heap.size w w' := by
  have HR0 := Aside0.mk hr0
  have HC0 := Aside0.mk hc0
  clear hr0 hc0
  have HB := Aside0.mk (Below.refl w.heap.size w)
  have H : ((field_Interpolate.f l0 a1).bind fun bt112 => (some (bt112.1, bt112.2))) = some (r1, r2) := h
  clear h
  replace H := Option.bind_eq_some_iff.mp H
  obtain ⟨⟨t112, t113⟩, A30, H⟩ := H
  replace H : (some (t112, t113)) = some (r1, r2) := H
  have A3 := Aside0.mk A30
  clear A30
  simp only [Option.some.injEq, Prod.mk.injEq] at H
  obtain ⟨rfl, rfl⟩ := H
  go_enter Tryz.func79, Tryz.ntmps79
  go_wp2_with (first | ((with_reducible refine gate_callee (f := 130) rfl ?_); refine goesL_ (some 8) rfl rfl Tryz.func130 (by kernel_rfl) rfl #[.slice A0 l0.length c0, .int .i64 a1] rfl (by (try simp only [List.map_toArray, List.map_cons, List.map_nil]); first | done | rfl | (simp only [List.length_drop, List.length_take]; rfl)) ?_; (with_reducible refine (field_Interpolate.calls _ _ l0 a1 t112 t113 _ ?side1 ?side2 A3.out).mono ?_); (case side1 => repeat (first | exact HR0.out | (with_reducible refine Kd.C_alloc ?_ _) | (with_reducible refine Kd.C_drewN ?_ _) | (with_reducible refine Kd.C_drew ?_))); (case side2 => exact HC0.out); rintro e w4 ⟨rfl, hb⟩; refine ⟨_, rfl, ?_⟩; have n0_ := Aside0.mk (below_step (by repeat (first | (with_reducible first | exact HB.out | apply below_alloc | apply pw_below_drewN | apply below_drew1) | exact HB.out)) hb); clear HB; have HB := n0_; clear n0_; (try clear hb); (try clear hb2); (try clear hk); (try clear hi)))
  go_ret2
  exact ⟨by first | rfl | (simp [errW_none, errW_some] <;> rfl) | (simp [*, errW_none, errW_some] <;> rfl), by repeat (first | (with_reducible first | exact HB.out | apply below_alloc | apply pw_below_drewN | apply below_drew1) | exact HB.out)⟩
def tree_Leaf.f (a0 : ByteArray) : Option (ByteArray) := (digest_List.f (([(⟨#[108, 101, 97, 102]⟩ : ByteArray), a0] : List ByteArray))).bind fun t123 => (some t123)
set_option maxHeartbeats 8000000 in
set_option maxRecDepth 100000 in
theorem tree_Leaf.calls (a0 : ByteArray) (r : ByteArray) (w : World) (hgl : GL w) (h : tree_Leaf.f a0 = some r) :
    Calls Tryz.prog 82 #[.string a0] w fun e w' => e = .returned (.string r) ∧ Below w.heap.size w w' := by
  have HGL := Aside0.mk hgl
  clear hgl
  have HB := Aside0.mk (Below.refl w.heap.size w)
  have H : ((digest_List.f (([(⟨#[108, 101, 97, 102]⟩ : ByteArray), a0] : List ByteArray))).bind fun t123 => (some t123)) = some r := h
  clear h
  obtain ⟨y120, hy120⟩ : ∃ y_ : List ByteArray, y_ = (([(⟨#[108, 101, 97, 102]⟩ : ByteArray), a0] : List ByteArray)) := ⟨_, rfl⟩
  replace H : ((digest_List.f y120).bind fun t123 => (some t123)) = some r := by first | (rw [hy120]; with_reducible exact H) | (have H2_ := (Option.bind_some _ _).symm.trans H; rw [hy120]; with_reducible exact H2_) | (have H2_ := (Option.bind_some _ _).symm.trans H; with_reducible exact H2_) | with_reducible exact H | (rw [hy120]; exact H) | exact H
  have Ny120 := Aside0.mk hy120
  clear hy120
  replace H := Option.bind_eq_some_iff.mp H
  obtain ⟨t123, A20, H⟩ := H
  replace H : (some t123) = some r := H
  have A2 := Aside0.mk A20
  clear A20
  obtain rfl := Option.some.inj H
  go_enter Tryz.func82, Tryz.ntmps82
  go_wp2_with (first | ((with_reducible refine gate_dst (N := 4) rfl ?_); refine Kd.R_lit Kd.string _ 9 ?hg (N := 4) ?hd (xs := ([(⟨#[108, 101, 97, 102]⟩ : ByteArray), a0] : List ByteArray)) (inner := [.string (⟨#[108, 101, 97, 102]⟩ : ByteArray), .string a0]) (ok := fun _ => True) (okp := fun _ => True) ?hr ?hp (fun _ hk => hk) trivial (Below.refl _ _) (Nat.le_refl _) (by simp) ?_; (case hd => rfl); (case hg => rfl); (case hr => first | (go_simp; done) | (go_simp; rfl)); (case hp => exact (Reps.one (show Kd.M Kd.string _ _ _ (⟨#[108, 101, 97, 102]⟩ : ByteArray) [.string (⟨#[108, 101, 97, 102]⟩ : ByteArray)] from rfl) (Reps.one (show Kd.M Kd.string _ _ _ a0 [.string a0] from rfl) (Reps.none _ _)))); intro v121 w3 ho4 hb hg_ hnew_; clear hg_ hnew_; (first | rw [← Ny120.out] at ho4 | (simp only [Int.reduceToNat] at ho4; rw [← Ny120.out] at ho4)); have n0_ := Aside0.mk (Kd.R_lower ho4 (below_size (by repeat (first | (with_reducible first | exact HB.out | apply below_alloc | apply pw_below_drewN | apply below_drew1) | exact HB.out)))); have n1_ := Aside0.mk (below_step (by repeat (first | (with_reducible first | exact HB.out | apply below_alloc | apply pw_below_drewN | apply below_drew1) | exact HB.out)) hb); clear HB; have HO122 := n0_; have HB := n1_; clear n0_ n1_; clear hb ho4; obtain ⟨Ao5, co5, eo5⟩ := Kd.R_slice HO122.out; subst eo5) | ((with_reducible refine gate_callee (f := 132) rfl ?_); refine goesL_ (some 5) rfl rfl Tryz.func132 (by kernel_rfl) rfl #[.slice Ao5 y120.length co5] rfl (by (try simp only [List.map_toArray, List.map_cons, List.map_nil]); first | done | rfl | (simp only [List.length_drop, List.length_take]; rfl)) ?_; (with_reducible refine (digest_List.calls _ _ y120 t123 _ ?side1 ?side2 ?side3 A2.out).mono ?_); (case side1 => repeat (first | exact (Kd.R_reads' HO122.out).2.2 | (with_reducible refine Kd.C_alloc ?_ _) | (with_reducible refine Kd.C_drewN ?_ _) | (with_reducible refine Kd.C_drew ?_))); (case side2 => exact (Kd.R_reads' HO122.out).2.1); (case side3 => first | (with_reducible exact HGL.out) | exact GL.below HGL.out (by repeat (first | (with_reducible first | exact HB.out | apply below_alloc | apply pw_below_drewN | apply below_drew1) | exact HB.out)) | exact GL.below HGL.out (by repeat (first | exact Below.refl _ _ | exact HB.out | apply below_alloc | apply pw_below_drewN | apply below_drew1))); rintro e w6 ⟨rfl, hb⟩; refine ⟨_, rfl, ?_⟩; have n0_ := Aside0.mk (Kd.R_below (by (with_reducible repeat (first | apply Kd.R_alloc | apply Kd.R_drewN | apply Kd.R_drew)); exact HO122.out) hb); have n1_ := Aside0.mk (below_step (by repeat (first | (with_reducible first | exact HB.out | apply below_alloc | apply pw_below_drewN | apply below_drew1) | exact HB.out)) hb); clear HO122; clear HB; have HO122 := n0_; have HB := n1_; clear n0_ n1_; (try clear hb); (try clear hb2); (try clear hk); (try clear hi)))
  go_ret
  exact ⟨by first | rfl | (simp [errW_none, errW_some] <;> rfl) | (simp [*, errW_none, errW_some] <;> rfl), by repeat (first | (with_reducible first | exact HB.out | apply below_alloc | apply pw_below_drewN | apply below_drew1) | exact HB.out)⟩
def shares_text.f (a0_0 : Int) (a0_1 : Int) : Option (ByteArray) := (strconv_Itoa.f a0_0).bind fun t216 => (if t216.size + 1 ≤ 9223372036854775807 then ((strconv_Itoa.f a0_1).bind fun t217 => (if (t216 ++ (⟨#[32]⟩ : ByteArray)).size + t217.size ≤ 9223372036854775807 then (some ((t216 ++ (⟨#[32]⟩ : ByteArray)) ++ t217)) else (none))) else (none))
def shares_text.T1 : Bool × List (List Nat × List Nat) := (true, [([], []), ([0], [0]), ([1], [1]), ([2], [2]), ([], []), ([4], [4]), ([5, 2], [5]), ([3, 6], [3, 6]), ([7, 6, 0, 1, 2, 3, 4, 5, 6, 7], [7])])
def shares_text.B1 : List Nat := [0, 1, 3, 7, 0, 16, 55, 127, 255]
theorem shares_text.tab1 : rtab .any (opsOf Tryz.f83 1) = shares_text.T1 := by kernel_rfl
theorem shares_text.bits1 : waitsOk shares_text.T1.2 shares_text.B1 = true := by kernel_rfl
set_option maxHeartbeats 8000000 in
set_option maxRecDepth 100000 in
theorem shares_text.calls (a0_0 : Int) (a0_1 : Int) (r : ByteArray) (w : World) (hgl : GL w) (h : shares_text.f a0_0 a0_1 = some r) :
    Calls Tryz.prog 83 #[.agg #[.int .i64 a0_0, .int .i64 a0_1]] w fun e w' => e = .returned (.string r) ∧ Below w.heap.size w w' := by
  have hu25 := Tryz.underlying25
  have HGL := Aside0.mk hgl
  clear hgl
  have HB := Aside0.mk (Below.refl w.heap.size w)
  have H : ((strconv_Itoa.f a0_0).bind fun t216 => (if t216.size + 1 ≤ 9223372036854775807 then ((strconv_Itoa.f a0_1).bind fun t217 => (if (t216 ++ (⟨#[32]⟩ : ByteArray)).size + t217.size ≤ 9223372036854775807 then (some ((t216 ++ (⟨#[32]⟩ : ByteArray)) ++ t217)) else (none))) else (none))) = some r := h
  clear h
  replace H := Option.bind_eq_some_iff.mp H
  obtain ⟨t216, A20, H⟩ := H
  replace H : (if t216.size + 1 ≤ 9223372036854775807 then ((strconv_Itoa.f a0_1).bind fun t217 => (if (t216 ++ (⟨#[32]⟩ : ByteArray)).size + t217.size ≤ 9223372036854775807 then (some ((t216 ++ (⟨#[32]⟩ : ByteArray)) ++ t217)) else (none))) else (none)) = some r := H
  have A2 := Aside0.mk A20
  clear A20
  by_cases c3 : t216.size + 1 ≤ 9223372036854775807
  · rw [if_pos c3] at H
    have c3b0 := eq_true c3
    have c3b1 : decide (t216.size + 1 ≤ 9223372036854775807) = true := decide_eq_true c3
    try have c3b2 : (9223372036854775807 < t216.size + 1) = False := eq_false (Nat.not_lt.2 c3)
    replace H := Option.bind_eq_some_iff.mp H
    obtain ⟨t217, A40, H⟩ := H
    replace H : (if (t216 ++ (⟨#[32]⟩ : ByteArray)).size + t217.size ≤ 9223372036854775807 then (some ((t216 ++ (⟨#[32]⟩ : ByteArray)) ++ t217)) else (none)) = some r := H
    have A4 := Aside0.mk A40
    clear A40
    by_cases c5 : (t216 ++ (⟨#[32]⟩ : ByteArray)).size + t217.size ≤ 9223372036854775807
    · rw [if_pos c5] at H
      have c5b0 := eq_true c5
      have c5b1 : decide ((t216 ++ (⟨#[32]⟩ : ByteArray)).size + t217.size ≤ 9223372036854775807) = true := decide_eq_true c5
      try have c5b3 : (9223372036854775807 < t216.size + 1 + t217.size) = False := by have h_ := c5; simp only [ByteArray.size_append] at h_; exact eq_false (Nat.not_lt.2 h_)
      try have c5b2 : (9223372036854775807 < (t216 ++ (⟨#[32]⟩ : ByteArray)).size + t217.size) = False := eq_false (Nat.not_lt.2 c5)
      obtain rfl := Option.some.inj H
      go_enter Tryz.func83, Tryz.ntmps83
      try go_wp2_with (first | ((with_reducible refine gate_dst (N := 1) rfl ?_); refine box_event ?hg (N := 1) ?hd (cs := #[.int .i64 a0_0, .int .i64 a0_1]) (t := 25) ?hr ?_; (case hd => rfl); (case hg => rfl); (case hr => first | (go_simp; done) | (go_simp; rfl)); intro gb215 hg w6 hbox hb; have n0_ := Aside0.mk (below_step (by repeat (first | (with_reducible first | exact HB.out | apply below_alloc | apply pw_below_drewN | apply below_drew1) | exact HB.out)) hb); have n1_ := Aside0.mk (hbox); have n2_ := Aside0.mk ((by rw [hg]; exact (below_size (by repeat (first | (with_reducible first | exact HB.out | apply below_alloc | apply pw_below_drewN | apply below_drew1) | exact HB.out))) : w.heap.size ≤ gb215)); have n3_ := Aside0.mk ((by rw [hg]; exact (below_size (by repeat (first | (with_reducible first | exact HB.out | apply below_alloc | apply pw_below_drewN | apply below_drew1) | exact HB.out))) : w.heap.size ≤ gb215)); clear HB; have HB := n0_; have BK215 := n1_; have GW215 := n2_; have GE215 := n3_; clear n0_ n1_ n2_ n3_; clear hb hbox hg))
      have n0_ := Aside0.mk (blk_drew BK215.out)
      have n1_ := Aside0.mk (below_drew1 HB.out)
      clear BK215
      clear HB
      have BK215 := n0_
      have HB := n1_
      clear n0_ n1_
      refine start_ (n := 9) (S := fun w' => w'.cell? ⟨gb215, 0, none⟩ = some (.int .i64 a0_0) ∧ w'.cell? ⟨gb215, 1, none⟩ = some (.int .i64 a0_1)) (ds := []) #[false, false, false, false, false, false, false, false, false] (by kernel_rfl) rfl rfl ⟨(blk_cell BK215.out 0).trans rfl, (blk_cell BK215.out 1).trans rfl⟩ (fun hHeld => ?_); refine with_tabW shares_text.tab1 shares_text.bits1 (fun HT_ HW_ => ?_)
      generalize w6.drew = w7 at BK215 HB hHeld ⊢
      refine pure_ (i := 0) (N := some 3) (v := ?_) (a' := ?_) #[true, false, false, false, false, false, false, false, false] rfl rfl (any_of HT_.out (by kernel_rfl)) (fun _ _ _ h => h) (Or.inl ⟨by rfl, ?_⟩) ?_ ?_
      rotate_left
      · intro w'
        go_simp
        with_reducible rfl
      rotate_left
      · simp only [Act.put, List.setIfInBounds_toArray, List.set_cons_zero, List.set_cons_succ, i64_w, i32_w]
        rfl
      refine pure_ (i := 4) (N := some 7) (v := ?_) (a' := ?_) #[true, false, false, false, true, false, false, false, false] rfl rfl (any_of HT_.out (by kernel_rfl)) (fun _ _ _ h => h) (Or.inl ⟨by rfl, ?_⟩) ?_ ?_
      rotate_left
      · intro w'
        go_simp
        with_reducible rfl
      rotate_left
      · simp only [Act.put, List.setIfInBounds_toArray, List.set_cons_zero, List.set_cons_succ, i64_w, i32_w]
        rfl
      refine take_ (i := 1) (N := some 4) (v := ?_) (a' := ?_) #[true, true, false, false, true, false, false, false, false] rfl rfl (take_ofW HT_.out HW_.out (by kernel_rfl)) (fun _ _ _ h => h) (Or.inl ⟨by rfl, ?_⟩) hHeld ?_ ?_
      rotate_left
      · rintro w' ⟨s0, s1⟩
        go_simp
        with_reducible rfl
      rotate_left
      · simp only [Act.put, List.setIfInBounds_toArray, List.set_cons_zero, List.set_cons_succ, i64_w, i32_w]
        rfl
      refine take_ (i := 5) (N := some 8) (v := ?_) (a' := ?_) #[true, true, false, false, true, true, false, false, false] rfl rfl (take_ofW HT_.out HW_.out (by kernel_rfl)) (fun _ _ _ h => h) (Or.inl ⟨by rfl, ?_⟩) hHeld ?_ ?_
      rotate_left
      · rintro w' ⟨s0, s1⟩
        go_simp
        with_reducible rfl
      rotate_left
      · simp only [Act.put, List.setIfInBounds_toArray, List.set_cons_zero, List.set_cons_succ, i64_w, i32_w]
        rfl
      refine one_ (i := 2) (N := some 5) #[true, true, true, false, true, true, false, false, false] rfl rfl (one_of HT_.out (by kernel_rfl)) (by decide) (fun K hK => ?_)
      refine goes_ Tryz.func133 (by kernel_rfl) rfl #[.int .i64 a0_0] (by rfl) rfl rfl (by (try simp only [List.map_toArray, List.map_cons, List.map_nil]); first | done | rfl | (simp only [List.length_drop, List.length_take]; rfl)) ?_
      with_reducible refine (strconv_Itoa.calls a0_0 t216 _ ?side1 A2.out).mono ?_
      (case side1 => first | (with_reducible exact HGL.out) | exact GL.below HGL.out (by repeat (first | (with_reducible first | exact HB.out | apply below_alloc | apply pw_below_drewN | apply below_drew1 | refine below_set ?_ GE215.out) | exact HB.out)) | exact GL.below HGL.out (by repeat (first | exact Below.refl _ _ | exact HB.out | apply below_alloc | apply pw_below_drewN | apply below_drew1)))
      rintro e w8 ⟨rfl, hb⟩
      refine ⟨_, rfl, ?_⟩
      have n0_ := Aside0.mk (blk_below (g := gb215) (o := .cells #[.int .i64 a0_0, .int .i64 a0_1] 25 (0, 0)) (by (with_reducible repeat (first | refine blk_drewN ?_ _ | refine blk_drew ?_ | refine blk_alloc ?_ _)); exact BK215.out) hb)
      have n1_ := Aside0.mk (below_step (by repeat (first | (with_reducible first | exact HB.out | apply below_alloc | apply pw_below_drewN | apply below_drew1 | refine below_set ?_ GE215.out) | exact HB.out)) hb)
      clear BK215
      clear HB
      have BK215 := n0_
      have HB := n1_
      clear n0_ n1_
      (try clear hb)
      (try clear hb2)
      (try clear hk)
      (try clear hi)
      refine hK.out _ _ ⟨(blk_cell BK215.out 0).trans rfl, (blk_cell BK215.out 1).trans rfl⟩ (fun hHeld => ?_)
      clear hK K
      refine norm_ (a' := ?_) ?_ ?_
      rotate_left
      · show Act.put _ (some 5) _ = _
        simp only [Act.put, List.setIfInBounds_toArray, List.set_cons_zero, List.set_cons_succ, i64_w, i32_w]
        rfl
      refine pure_ (i := 3) (N := some 6) (v := ?_) (a' := ?_) #[true, true, true, true, true, true, false, false, false] rfl rfl (any_of HT_.out (by kernel_rfl)) (fun _ _ _ h => h) (Or.inl ⟨by rfl, ?_⟩) ?_ ?_
      rotate_left
      · intro w'
        go_simp
        with_reducible rfl
      rotate_left
      · simp only [Act.put, List.setIfInBounds_toArray, List.set_cons_zero, List.set_cons_succ, i64_w, i32_w]
        rfl
      refine one_ (i := 6) (N := some 9) #[true, true, true, true, true, true, true, false, false] rfl rfl (one_of HT_.out (by kernel_rfl)) (by decide) (fun K hK => ?_)
      refine goes_ Tryz.func133 (by kernel_rfl) rfl #[.int .i64 a0_1] (by rfl) rfl rfl (by (try simp only [List.map_toArray, List.map_cons, List.map_nil]); first | done | rfl | (simp only [List.length_drop, List.length_take]; rfl)) ?_
      with_reducible refine (strconv_Itoa.calls a0_1 t217 _ ?side1 A4.out).mono ?_
      (case side1 => first | (with_reducible exact HGL.out) | exact GL.below HGL.out (by repeat (first | (with_reducible first | exact HB.out | apply below_alloc | apply pw_below_drewN | apply below_drew1 | refine below_set ?_ GE215.out) | exact HB.out)) | exact GL.below HGL.out (by repeat (first | exact Below.refl _ _ | exact HB.out | apply below_alloc | apply pw_below_drewN | apply below_drew1)))
      rintro e w9 ⟨rfl, hb⟩
      refine ⟨_, rfl, ?_⟩
      have n0_ := Aside0.mk (blk_below (g := gb215) (o := .cells #[.int .i64 a0_0, .int .i64 a0_1] 25 (0, 0)) (by (with_reducible repeat (first | refine blk_drewN ?_ _ | refine blk_drew ?_ | refine blk_alloc ?_ _)); exact BK215.out) hb)
      have n1_ := Aside0.mk (below_step (by repeat (first | (with_reducible first | exact HB.out | apply below_alloc | apply pw_below_drewN | apply below_drew1 | refine below_set ?_ GE215.out) | exact HB.out)) hb)
      clear BK215
      clear HB
      have BK215 := n0_
      have HB := n1_
      clear n0_ n1_
      (try clear hb)
      (try clear hb2)
      (try clear hk)
      (try clear hi)
      refine hK.out _ _ ⟨(blk_cell BK215.out 0).trans rfl, (blk_cell BK215.out 1).trans rfl⟩ (fun hHeld => ?_)
      clear hK K
      refine norm_ (a' := ?_) ?_ ?_
      rotate_left
      · show Act.put _ (some 9) _ = _
        simp only [Act.put, List.setIfInBounds_toArray, List.set_cons_zero, List.set_cons_succ, i64_w, i32_w]
        rfl
      refine pure_ (i := 7) (N := some 10) (v := ?_) (a' := ?_) #[true, true, true, true, true, true, true, true, false] rfl rfl (any_of HT_.out (by kernel_rfl)) (fun _ _ _ h => h) (Or.inl ⟨by rfl, ?_⟩) ?_ ?_
      rotate_left
      · intro w'
        go_simp
        with_reducible rfl
      rotate_left
      · simp only [Act.put, List.setIfInBounds_toArray, List.set_cons_zero, List.set_cons_succ, i64_w, i32_w]
        rfl
      refine pure_ (i := 8) (N := some 2) (v := ?_) (a' := ?_) #[true, true, true, true, true, true, true, true, true] rfl rfl (any_of HT_.out (by kernel_rfl)) (fun _ _ _ h => h) (Or.inl ⟨by rfl, ?_⟩) ?_ ?_
      rotate_left
      · intro w'
        go_simp
        with_reducible rfl
      rotate_left
      · simp only [Act.put, List.setIfInBounds_toArray, List.set_cons_zero, List.set_cons_succ, i64_w, i32_w]
        rfl
      refine done_ (done_of HT_.out (by kernel_rfl)) ?_
      try go_wp2
      go_ret
      exact ⟨by first | rfl | (simp [errW_none, errW_some] <;> rfl) | (simp [*, errW_none, errW_some] <;> rfl), by repeat (first | (with_reducible first | exact HB.out | apply below_alloc | apply pw_below_drewN | apply below_drew1 | refine below_set ?_ GE215.out) | exact HB.out)⟩
    · rw [if_neg c5] at H
      exact absurd H (by simp)
  · rw [if_neg c3] at H
    exact absurd H (by simp)
def observatoryref01_List.f (k : Nat) (l0 : List ByteArray) : Option (ByteArray) := (observatoryref01_Joined.f l0).bind fun t236 => ((observatoryref01_Sum.f k t236).bind fun t237 => (some t237))
set_option maxHeartbeats 8000000 in
set_option maxRecDepth 100000 in
theorem observatoryref01_List.calls (k : Nat) (A0 : Option Addr) (c0 : Nat) (l0 : List ByteArray) (r : ByteArray) (w : World) (hr0 : Kd.C Kd.string w A0 l0.length l0) (hc0 : l0.length ≤ c0) (h : observatoryref01_List.f k l0 = some r) :
    Calls Tryz.prog 96 #[.slice A0 l0.length c0] w fun e w' => e = .returned (.string r) ∧ Below w.heap.size w w' := by
  have HR0 := Aside0.mk hr0
  have HC0 := Aside0.mk hc0
  clear hr0 hc0
  have HB := Aside0.mk (Below.refl w.heap.size w)
  have H : ((observatoryref01_Joined.f l0).bind fun t236 => ((observatoryref01_Sum.f k t236).bind fun t237 => (some t237))) = some r := h
  clear h
  replace H := Option.bind_eq_some_iff.mp H
  obtain ⟨t236, A20, H⟩ := H
  replace H : ((observatoryref01_Sum.f k t236).bind fun t237 => (some t237)) = some r := H
  have A2 := Aside0.mk A20
  clear A20
  replace H := Option.bind_eq_some_iff.mp H
  obtain ⟨t237, A30, H⟩ := H
  replace H : (some t237) = some r := H
  have A3 := Aside0.mk A30
  clear A30
  obtain rfl := Option.some.inj H
  go_enter Tryz.func96, Tryz.ntmps96
  go_wp2_with (first | ((with_reducible refine gate_callee (f := 30) rfl ?_); refine goesL_ (some 4) rfl rfl Tryz.func30 (by kernel_rfl) rfl #[.slice A0 l0.length c0] rfl (by (try simp only [List.map_toArray, List.map_cons, List.map_nil]); first | done | rfl | (simp only [List.length_drop, List.length_take]; rfl)) ?_; (with_reducible refine (observatoryref01_Joined.calls _ _ l0 t236 _ ?side1 ?side2 A2.out).mono ?_); (case side1 => repeat (first | exact HR0.out | (with_reducible refine Kd.C_alloc ?_ _) | (with_reducible refine Kd.C_drewN ?_ _) | (with_reducible refine Kd.C_drew ?_))); (case side2 => exact HC0.out); rintro e w4 ⟨rfl, hb⟩; refine ⟨_, rfl, ?_⟩; have n0_ := Aside0.mk (below_step (by repeat (first | (with_reducible first | exact HB.out | apply below_alloc | apply pw_below_drewN | apply below_drew1) | exact HB.out)) hb); clear HB; have HB := n0_; clear n0_; (try clear hb); (try clear hb2); (try clear hk); (try clear hi)) | ((with_reducible refine gate_callee (f := 97) rfl ?_); refine goesL_ (some 5) rfl rfl Tryz.func97 (by kernel_rfl) rfl #[.string t236] rfl (by (try simp only [List.map_toArray, List.map_cons, List.map_nil]); first | done | rfl | (simp only [List.length_drop, List.length_take]; rfl)) ?_; (with_reducible refine (observatoryref01_Sum.calls k t236 t237 _ A3.out).mono ?_); rintro e w' ⟨rfl, ⟨nd, rfl⟩⟩; refine ⟨_, rfl, ?_⟩))
  go_ret
  exact ⟨by first | rfl | (simp [errW_none, errW_some] <;> rfl) | (simp [*, errW_none, errW_some] <;> rfl), by repeat (first | (with_reducible first | exact HB.out | apply below_alloc | apply pw_below_drewN | apply below_drew1) | exact HB.out)⟩
def observatoryref02_Leaf.f (k : Nat) (a0 : ByteArray) : Option (ByteArray) := (observatoryref01_List.f k (([(⟨#[108, 101, 97, 102]⟩ : ByteArray), a0] : List ByteArray))).bind fun t241 => (some t241)
set_option maxHeartbeats 8000000 in
set_option maxRecDepth 100000 in
theorem observatoryref02_Leaf.calls (k : Nat) (a0 : ByteArray) (r : ByteArray) (w : World) (h : observatoryref02_Leaf.f k a0 = some r) :
    Calls Tryz.prog 34 #[.string a0] w fun e w' => e = .returned (.string r) ∧ Below w.heap.size w w' := by
  have HB := Aside0.mk (Below.refl w.heap.size w)
  have H : ((observatoryref01_List.f k (([(⟨#[108, 101, 97, 102]⟩ : ByteArray), a0] : List ByteArray))).bind fun t241 => (some t241)) = some r := h
  clear h
  obtain ⟨y238, hy238⟩ : ∃ y_ : List ByteArray, y_ = (([(⟨#[108, 101, 97, 102]⟩ : ByteArray), a0] : List ByteArray)) := ⟨_, rfl⟩
  replace H : ((observatoryref01_List.f k y238).bind fun t241 => (some t241)) = some r := by first | (rw [hy238]; with_reducible exact H) | (have H2_ := (Option.bind_some _ _).symm.trans H; rw [hy238]; with_reducible exact H2_) | (have H2_ := (Option.bind_some _ _).symm.trans H; with_reducible exact H2_) | with_reducible exact H | (rw [hy238]; exact H) | exact H
  have Ny238 := Aside0.mk hy238
  clear hy238
  replace H := Option.bind_eq_some_iff.mp H
  obtain ⟨t241, A20, H⟩ := H
  replace H : (some t241) = some r := H
  have A2 := Aside0.mk A20
  clear A20
  obtain rfl := Option.some.inj H
  go_enter Tryz.func34, Tryz.ntmps34
  go_wp2_with (first | ((with_reducible refine gate_dst (N := 4) rfl ?_); refine Kd.R_lit Kd.string _ 9 ?hg (N := 4) ?hd (xs := ([(⟨#[108, 101, 97, 102]⟩ : ByteArray), a0] : List ByteArray)) (inner := [.string (⟨#[108, 101, 97, 102]⟩ : ByteArray), .string a0]) (ok := fun _ => True) (okp := fun _ => True) ?hr ?hp (fun _ hk => hk) trivial (Below.refl _ _) (Nat.le_refl _) (by simp) ?_; (case hd => rfl); (case hg => rfl); (case hr => first | (go_simp; done) | (go_simp; rfl)); (case hp => exact (Reps.one (show Kd.M Kd.string _ _ _ (⟨#[108, 101, 97, 102]⟩ : ByteArray) [.string (⟨#[108, 101, 97, 102]⟩ : ByteArray)] from rfl) (Reps.one (show Kd.M Kd.string _ _ _ a0 [.string a0] from rfl) (Reps.none _ _)))); intro v239 w3 ho4 hb hg_ hnew_; clear hg_ hnew_; (first | rw [← Ny238.out] at ho4 | (simp only [Int.reduceToNat] at ho4; rw [← Ny238.out] at ho4)); have n0_ := Aside0.mk (Kd.R_lower ho4 (below_size (by repeat (first | (with_reducible first | exact HB.out | apply below_alloc | apply pw_below_drewN | apply below_drew1) | exact HB.out)))); have n1_ := Aside0.mk (below_step (by repeat (first | (with_reducible first | exact HB.out | apply below_alloc | apply pw_below_drewN | apply below_drew1) | exact HB.out)) hb); clear HB; have HO240 := n0_; have HB := n1_; clear n0_ n1_; clear hb ho4; obtain ⟨Ao5, co5, eo5⟩ := Kd.R_slice HO240.out; subst eo5) | ((with_reducible refine gate_callee (f := 96) rfl ?_); refine goesL_ (some 5) rfl rfl Tryz.func96 (by kernel_rfl) rfl #[.slice Ao5 y238.length co5] rfl (by (try simp only [List.map_toArray, List.map_cons, List.map_nil]); first | done | rfl | (simp only [List.length_drop, List.length_take]; rfl)) ?_; (with_reducible refine (observatoryref01_List.calls k _ _ y238 t241 _ ?side1 ?side2 A2.out).mono ?_); (case side1 => repeat (first | exact (Kd.R_reads' HO240.out).2.2 | (with_reducible refine Kd.C_alloc ?_ _) | (with_reducible refine Kd.C_drewN ?_ _) | (with_reducible refine Kd.C_drew ?_))); (case side2 => exact (Kd.R_reads' HO240.out).2.1); rintro e w6 ⟨rfl, hb⟩; refine ⟨_, rfl, ?_⟩; have n0_ := Aside0.mk (Kd.R_below (by (with_reducible repeat (first | apply Kd.R_alloc | apply Kd.R_drewN | apply Kd.R_drew)); exact HO240.out) hb); have n1_ := Aside0.mk (below_step (by repeat (first | (with_reducible first | exact HB.out | apply below_alloc | apply pw_below_drewN | apply below_drew1) | exact HB.out)) hb); clear HO240; clear HB; have HO240 := n0_; have HB := n1_; clear n0_ n1_; (try clear hb); (try clear hb2); (try clear hk); (try clear hi)))
  go_ret
  exact ⟨by first | rfl | (simp [errW_none, errW_some] <;> rfl) | (simp [*, errW_none, errW_some] <;> rfl), by repeat (first | (with_reducible first | exact HB.out | apply below_alloc | apply pw_below_drewN | apply below_drew1) | exact HB.out)⟩
end Go.Proofs.YtddikdpbhjgihaaGreatDoor.X
end
