-- MADE BY wip/xprint.py (this session's own program, over the kit's print): not typed by hand; Lean checks it.
import Derived.Test.YtfkcdhcmbdmcdaaDoorXSw0
import Derived.Test.YtfkcdhcmbdmcdaaDoorXSw4
import Derived.Test.YtfkcdhcmbdmcdaaDoorShelf
import Derived.Test.YtfkcdhcmbdmcdaaDoorBldString
import Derived.Lib.Hide
namespace Go.Proofs.YtfkcdhcmbdmcdaaDoor.XSw
open Go.RowKit Go.Proofs.YtfkcdhcmbdmcdaaDoorW.PrintWords Go.Proofs.YtfkcdhcmbdmcdaaDoorW.PrintLast Go.Proofs.YtfkcdhcmbdmcdaaDoorW.PrintMore
attribute [local go_sem] extract_sub max2_int min2_int max_two min_two max_three min_three max_four min_four   -- for this text's walks alone
set_option linter.unusedVariables false
set_option linter.unusedSimpArgs false

noncomputable section
/-! ### EXT stat_Write: function 19 -/
/-- What may answers, after however many rounds. -/
def stat_Write.mayO (n v : ByteArray) : Option Bool := open Classical in if h : ∃ r k, stat_may.f k n v = some r then some (Classical.choose h) else none
theorem stat_Write.mayO_spec (n v : ByteArray) (b : Bool) (h : stat_Write.mayO n v = some b) : ∃ k, stat_may.f k n v = some b := by
  unfold stat_Write.mayO at h
  split at h
  · rename_i hh
    injection h with h
    obtain ⟨k, hk⟩ := Classical.choose_spec hh
    exact ⟨k, by rw [← h]; exact hk⟩
  · cases h
theorem stat_Write.mayO_of (n v : ByteArray) (b : Bool) (h : Ev (fun k => stat_may.f k n v) b) : stat_Write.mayO n v = some b := by
  obtain ⟨k, hk⟩ := h.rounds
  have hh : ∃ r k, stat_may.f k n v = some r := ⟨b, k, hk⟩
  unfold stat_Write.mayO
  rw [dif_pos hh]
  obtain ⟨k2, hk2⟩ := Classical.choose_spec hh
  obtain ⟨K, hK⟩ := h
  have h1 := at_rounds (stat_may.mono n v) (Nat.le_max_left k2 K) hk2
  rw [show stat_may.f (max k2 K) n v = some b from hK _ (Nat.le_max_right k2 K)] at h1
  injection h1 with h1
  exact congrArg some h1.symm
/-- A pair's line. -/
def stat_Write.line (n v : ByteArray) : ByteArray := (((⟨#[83, 84, 65, 84, 32]⟩ : ByteArray) ++ n) ++ ⟨#[32]⟩ ++ v) ++ ⟨#[13, 10]⟩
theorem stat_Write.line_size (n v : ByteArray) : (stat_Write.line n v).size = n.size + v.size + 8 := by
  unfold stat_Write.line
  rw [ByteArray.size_append, ByteArray.size_append, ByteArray.size_append, ByteArray.size_append]
  show 5 + n.size + 1 + v.size + 2 = _
  omega
def stat_Write.go : List S86 → List UInt8 → Option (ByteArray × Int)
  | [], acc => if acc.length ≤ 1099511627776 then some (⟨(acc ++ [69, 78, 68, 13, 10]).toArray⟩, 0) else none
  | p :: l, acc => if acc.length + p.f0.size + p.f1.size ≤ 1099511627776 then (stat_Write.mayO p.f0 p.f1).bind fun b => (if b = true then stat_Write.go l (acc ++ (stat_Write.line p.f0 p.f1).data.toList) else some (⟨#[]⟩, 6)) else none
def stat_Write.f (a0 : List S86) : Option (ByteArray × Int) := stat_Write.go a0 []
def stat_Write.Rel (l0 : List S86) (r : ByteArray × Int) (w : World) (j : Nat) (acc : List UInt8) (wr : World) : Prop :=
  IsBld w.heap.size w.heap.size acc wr ∧ Below w.heap.size w wr ∧ stat_Write.go (l0.drop j) acc = some r ∧ j ≤ l0.length
theorem stat_Write.more {l0 : List S86} {r : ByteArray × Int} {w wr : World} {j : Nat} {acc : List UInt8} (h : stat_Write.Rel l0 r w j acc wr) (hj : j < l0.length) :
    acc.length + (rd_T86 l0 (j : Int)).f0.size + (rd_T86 l0 (j : Int)).f1.size ≤ 1099511627776 ∧ ∃ b k, stat_may.f k (rd_T86 l0 (j : Int)).f0 (rd_T86 l0 (j : Int)).f1 = some b ∧
      (b = true → stat_Write.go (l0.drop (j + 1)) (acc ++ (stat_Write.line (rd_T86 l0 (j : Int)).f0 (rd_T86 l0 (j : Int)).f1).data.toList) = some r) ∧ (b = false → r = (⟨#[]⟩, 6)) := by
  obtain ⟨_, _, hg, _⟩ := h
  have e : rd_T86 l0 (j : Int) = l0[j] := by
    unfold rd_T86
    rw [Int.toNat_natCast, List.getD_eq_getElem?_getD, List.getElem?_eq_getElem hj]; rfl
  rw [e]
  rw [List.drop_eq_getElem_cons hj] at hg
  simp only [stat_Write.go] at hg
  by_cases hs : acc.length + l0[j].f0.size + l0[j].f1.size ≤ 1099511627776
  · rw [if_pos hs] at hg
    obtain ⟨b, hb, hg⟩ := Option.bind_eq_some_iff.1 hg
    obtain ⟨k, hk⟩ := stat_Write.mayO_spec _ _ _ hb
    refine ⟨hs, b, k, hk, fun h1 => ?_, fun h1 => ?_⟩
    · rw [if_pos h1] at hg; exact hg
    · rw [if_neg (by rw [h1]; exact Bool.false_ne_true)] at hg; exact (Option.some.inj hg).symm
  · rw [if_neg hs] at hg; cases hg
theorem stat_Write.done {l0 : List S86} {r : ByteArray × Int} {w wr : World} {j : Nat} {acc : List UInt8} (h : stat_Write.Rel l0 r w j acc wr) (hj : ¬ j < l0.length) :
    acc.length ≤ 1099511627776 ∧ r = (⟨(acc ++ [69, 78, 68, 13, 10]).toArray⟩, 0) := by
  obtain ⟨_, _, hg, _⟩ := h
  rw [List.drop_of_length_le (by omega)] at hg
  simp only [stat_Write.go] at hg
  by_cases hs : acc.length ≤ 1099511627776
  · rw [if_pos hs] at hg; exact ⟨hs, (Option.some.inj hg).symm⟩
  · rw [if_neg hs] at hg; cases hg
set_option maxHeartbeats 4000000 in
set_option maxRecDepth 100000 in
theorem stat_Write.calls (A0 : Option Addr) (c0 : Nat) (l0 : List S86) (r1 : ByteArray) (r2 : Int) (w : World) (hr0 : Kd.C k86 w A0 l0.length l0) (hc0 : l0.length ≤ c0) (h : stat_Write.f l0 = some (r1, r2)) :
    Calls Tryd.prog 19 #[.slice A0 l0.length c0] w fun e w' => e = .returned (.tuple #[.string r1, .int .i64 r2]) ∧ Below w.heap.size w w' := by
  have hlen := hr0.2.1
  have HR := Aside0.mk hr0
  have H := Aside0.mk h
  clear hr0 h
  go_enter Tryd.func19, Tryd.ntmps19
  go_wp2_with fail
  go_loopw [9] (fun v wr => ∃ (j : Nat) (acc : List UInt8), v = .int .i64 j ∧ stat_Write.Rel l0 (r1, r2) w j acc wr) (fun v _ => l0.length - (intOf v).toNat)
  case atStart => exact ⟨0, [], rfl, isBld_fresh w, (Below.refl _ w).alloc (Nat.le_refl _) _, H.out, Nat.zero_le _⟩
  case round =>
    obtain ⟨j, acc, rfl, hR⟩ := hrel
    by_cases hj : j < l0.length
    · have hji : (j : Int) < (l0.length : Int) := by omega
      obtain ⟨hs, b, k, hk, h1, h2⟩ := stat_Write.more hR hj
      obtain ⟨ad, e, hx0, hx1⟩ := at_T86 HR.out (j : Int) (by omega) hji
      subst e
      rw [Int.toNat_natCast] at hx0 hx1
      have hb := hR.2.1
      replace hx0 := (hb.cell (World.block_lt_of_cell? w _ hx0)).trans hx0
      replace hx1 := (hb.cell (World.block_lt_of_cell? w _ hx1)).trans hx1
      have H1 := Aside0.mk h1
      have H2 := Aside0.mk h2
      have HK := Aside0.mk hk
      have HRel := Aside0.mk hR
      clear h1 h2 hk hR hb
      generalize hn : (rd_T86 l0 (j : Int)).f0 = n at *
      generalize hv : (rd_T86 l0 (j : Int)).f1 = v at *
      clear hn hv
      have s1 : (9223372036854775807 < 5 + n.size) = False := eq_false (by omega)
      have s2 : (9223372036854775807 < 5 + n.size + 1) = False := eq_false (by omega)
      have s3 : (9223372036854775807 < 5 + n.size + 1 + v.size) = False := eq_false (by omega)
      have s4 : (9223372036854775807 < 5 + n.size + 1 + v.size + 2) = False := eq_false (by omega)
      have HS := Aside0.mk hs
      clear hs
      go_wp2_with fail
      refine (stat_may.calls k n v b _ HK.out).mono ?_
      rintro e w1 ⟨rfl, hb1⟩
      have hbk : w1.heap[wr.heap.size]? = some (.cells #[.string n, .string v] 86) := (hb1.block wr.heap.size (by simp)).trans (Go.heap_alloc_new wr _)
      have hp0 : w1.cell? ⟨wr.heap.size, 0, none⟩ = some (.string n) := by rw [Lib.cell_of_heap hbk]; rfl
      have hp1 : w1.cell? ⟨wr.heap.size, 1, none⟩ = some (.string v) := by rw [Lib.cell_of_heap hbk]; rfl
      have hb2 : Below wr.heap.size wr w1 := ((Below.refl _ wr).alloc (Nat.le_refl _) _).trans (hb1.mono (by simp))
      have HB1 := Lib.hid hb2
      clear hb1 hb2 hbk
      cases b with
      | false =>
        have e := H2.out rfl
        injection e with e1 e2
        subst e1 e2
        go_wp2
        go_ret2
        exact ⟨rfl, HRel.out.2.1.trans (HB1.out.mono HRel.out.2.1.size)⟩
      | true =>
        go_wp2_with fail
        refine (bld_string w.heap.size w.heap.size acc (stat_Write.line n v) _ (isBld_below HRel.out.1 HB1.out) (by have := HS.out; rw [stat_Write.line_size]; omega) (by have := HRel.out.2.1.size; have := HB1.out.size; omega)).mono ?_
        rintro e w2 ⟨rfl, hB2, hb2⟩
        have HB2 := Lib.hid hB2
        have Hb2 := Lib.hid hb2
        clear hB2 hb2
        go_wp2
        go_roundw
        case rel => exact ⟨j + 1, _, by go_num, HB2.out, HRel.out.2.1.trans ((HB1.out.mono HRel.out.2.1.size).trans Hb2.out), H1.out (by first | trivial | rfl), by omega⟩
        case measure => simp [intOf]; omega
    · have hji : ¬ (j : Int) < (l0.length : Int) := by omega
      obtain ⟨hs, e⟩ := stat_Write.done hR hj
      injection e with e1 e2
      subst e1 e2
      have HRel := Aside0.mk hR
      have HS := Aside0.mk hs
      clear hR hs
      go_wp2_with fail
      refine (bld_string w.heap.size w.heap.size acc ⟨#[69, 78, 68, 13, 10]⟩ _ HRel.out.1 (by have := HS.out; show acc.length + 5 ≤ _; omega) HRel.out.2.1.size).mono ?_
      rintro e w2 ⟨rfl, hB2, hb2⟩
      have HB2 := Lib.hid hB2
      have Hb2 := Lib.hid hb2
      clear hB2 hb2
      go_wp2_with fail
      refine (Tryd.Builder_String_any_f w.heap.size w.heap.size _ _ HB2.out (Nat.le_trans HRel.out.2.1.size Hb2.out.size)).mono ?_
      rintro e w3 ⟨rfl, _, hb3⟩
      go_wp2
      go_ret2
      exact ⟨rfl, HRel.out.2.1.trans (Hb2.out.trans hb3)⟩

end
end Go.Proofs.YtfkcdhcmbdmcdaaDoor.XSw
