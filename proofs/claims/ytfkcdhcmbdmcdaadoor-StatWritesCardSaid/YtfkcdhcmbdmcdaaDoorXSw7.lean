-- MADE BY wip/xprint.py (this session's own program, over the kit's print): not typed by hand; Lean checks it.
import Derived.Test.YtfkcdhcmbdmcdaaDoorXSw0
namespace Go.Proofs.YtfkcdhcmbdmcdaaDoor.XSw
open Go.RowKit Go.Proofs.YtfkcdhcmbdmcdaaDoorW.PrintWords Go.Proofs.YtfkcdhcmbdmcdaaDoorW.PrintLast Go.Proofs.YtfkcdhcmbdmcdaaDoorW.PrintMore
attribute [local go_sem] extract_sub max2_int min2_int max_two min_two max_three min_three max_four min_four   -- for this text's walks alone
set_option linter.unusedVariables false
set_option linter.unusedSimpArgs false

noncomputable section
/-! ### tallboyref32_may: function 48 -/
mutual
def tallboyref32_may.j0 : Nat → Bool → ByteArray → ByteArray → Option (Bool)
  | 0, _, _, _ => none
  | k + 1, x3, x120000, x120001 => tallboyref32_may.l0 k x3 0 x120000 x120001
def tallboyref32_may.j2 : Nat → Bool → ByteArray → ByteArray → Option (Bool)
  | 0, _, _, _ => none
  | k + 1, x3, x120000, x120001 => tallboyref32_may.l1 k x3 0 x120000 x120001
def tallboyref32_may.l1 : Nat → Bool → Int → ByteArray → ByteArray → Option (Bool)
  | 0, _, _, _, _ => none
  | k + 1, x3, x5, x120000, x120001 => if x5 < (x120001.size : Int) then (if x3 = true then (if 0 ≤ x5 then (if (bt x120001 x5) ≥ 32 then (tallboyref32_may.l1 k (decide ((bt x120001 x5) ≤ 126)) (wrap64 (x5 + 1)) x120000 x120001) else (tallboyref32_may.l1 k false (wrap64 (x5 + 1)) x120000 x120001)) else (none)) else (some false)) else (if x3 = true then (if 0 < (x120001.size : Int) then (if (bt x120001 0) = 32 then (some false) else (if 0 ≤ (wrap64 ((x120001.size : Int) - 1)) then (if (wrap64 ((x120001.size : Int) - 1)) < (x120001.size : Int) then (some ((bt x120001 (wrap64 ((x120001.size : Int) - 1))) != 32)) else (none)) else (none))) else (none)) else (some false))
def tallboyref32_may.l0 : Nat → Bool → Int → ByteArray → ByteArray → Option (Bool)
  | 0, _, _, _, _ => none
  | k + 1, x3, x4, x120000, x120001 => if x4 < (x120000.size : Int) then (if x3 = true then (if 0 ≤ x4 then (if (bt x120000 x4) ≥ 33 then (tallboyref32_may.l0 k (decide ((bt x120000 x4) ≤ 126)) (wrap64 (x4 + 1)) x120000 x120001) else (tallboyref32_may.l0 k false (wrap64 (x4 + 1)) x120000 x120001)) else (none)) else (tallboyref32_may.j2 k x3 x120000 x120001)) else (tallboyref32_may.j2 k x3 x120000 x120001)
end
def tallboyref32_may.f (k : Nat) (a0_0 : ByteArray) (a0_1 : ByteArray) : Option (Bool) := if (a0_0.size : Int) ≥ 1 then (if (a0_0.size : Int) ≤ 64 then (if (a0_1.size : Int) ≥ 1 then (tallboyref32_may.j0 k (decide ((a0_1.size : Int) ≤ 200)) a0_0 a0_1) else (tallboyref32_may.j0 k false a0_0 a0_1)) else (tallboyref32_may.j0 k false a0_0 a0_1)) else (tallboyref32_may.j0 k false a0_0 a0_1)
theorem tallboyref32_may.mono_l : ∀ k, (∀ y0 y1 y2, LeO (tallboyref32_may.j0 k y0 y1 y2) (tallboyref32_may.j0 (k + 1) y0 y1 y2)) ∧ (∀ y0 y1 y2, LeO (tallboyref32_may.j2 k y0 y1 y2) (tallboyref32_may.j2 (k + 1) y0 y1 y2)) ∧ (∀ y0 y1 y2 y3, LeO (tallboyref32_may.l1 k y0 y1 y2 y3) (tallboyref32_may.l1 (k + 1) y0 y1 y2 y3)) ∧ (∀ y0 y1 y2 y3, LeO (tallboyref32_may.l0 k y0 y1 y2 y3) (tallboyref32_may.l0 (k + 1) y0 y1 y2 y3))
  | 0 => ⟨fun _ _ _ r h => by simp [tallboyref32_may.j0] at h, fun _ _ _ r h => by simp [tallboyref32_may.j2] at h, fun _ _ _ _ r h => by simp [tallboyref32_may.l1] at h, fun _ _ _ _ r h => by simp [tallboyref32_may.l0] at h⟩
  | k + 1 => by
    obtain ⟨ih0, ih1, ih2, ih3⟩ := tallboyref32_may.mono_l k
    refine ⟨?_, ?_, ?_, ?_⟩
    · intro y0 y1 y2
      unfold tallboyref32_may.j0
      repeat' first
      | (with_reducible exact ih0 _ _ _)
      | (with_reducible exact ih1 _ _ _)
      | (with_reducible exact ih2 _ _ _ _)
      | (with_reducible exact ih3 _ _ _ _)
      | (with_reducible exact LeO.refl _)
      | (with_reducible exact LeO.none _)
      | (with_reducible refine LeO.ite ?_ ?_)
      | (with_reducible refine LeO.bind ?_ (fun _ => ?_))
      | exact ih0 _ _ _
      | exact ih1 _ _ _
      | exact ih2 _ _ _ _
      | exact ih3 _ _ _ _
      | exact LeO.none _
      | refine LeO.ite ?_ ?_
      | refine LeO.bind ?_ (fun _ => ?_)
    · intro y0 y1 y2
      unfold tallboyref32_may.j2
      repeat' first
      | (with_reducible exact ih0 _ _ _)
      | (with_reducible exact ih1 _ _ _)
      | (with_reducible exact ih2 _ _ _ _)
      | (with_reducible exact ih3 _ _ _ _)
      | (with_reducible exact LeO.refl _)
      | (with_reducible exact LeO.none _)
      | (with_reducible refine LeO.ite ?_ ?_)
      | (with_reducible refine LeO.bind ?_ (fun _ => ?_))
      | exact ih0 _ _ _
      | exact ih1 _ _ _
      | exact ih2 _ _ _ _
      | exact ih3 _ _ _ _
      | exact LeO.none _
      | refine LeO.ite ?_ ?_
      | refine LeO.bind ?_ (fun _ => ?_)
    · intro y0 y1 y2 y3
      unfold tallboyref32_may.l1
      repeat' first
      | (with_reducible exact ih0 _ _ _)
      | (with_reducible exact ih1 _ _ _)
      | (with_reducible exact ih2 _ _ _ _)
      | (with_reducible exact ih3 _ _ _ _)
      | (with_reducible exact LeO.refl _)
      | (with_reducible exact LeO.none _)
      | (with_reducible refine LeO.ite ?_ ?_)
      | (with_reducible refine LeO.bind ?_ (fun _ => ?_))
      | exact ih0 _ _ _
      | exact ih1 _ _ _
      | exact ih2 _ _ _ _
      | exact ih3 _ _ _ _
      | exact LeO.none _
      | refine LeO.ite ?_ ?_
      | refine LeO.bind ?_ (fun _ => ?_)
    · intro y0 y1 y2 y3
      unfold tallboyref32_may.l0
      repeat' first
      | (with_reducible exact ih0 _ _ _)
      | (with_reducible exact ih1 _ _ _)
      | (with_reducible exact ih2 _ _ _ _)
      | (with_reducible exact ih3 _ _ _ _)
      | (with_reducible exact LeO.refl _)
      | (with_reducible exact LeO.none _)
      | (with_reducible refine LeO.ite ?_ ?_)
      | (with_reducible refine LeO.bind ?_ (fun _ => ?_))
      | exact ih0 _ _ _
      | exact ih1 _ _ _
      | exact ih2 _ _ _ _
      | exact ih3 _ _ _ _
      | exact LeO.none _
      | refine LeO.ite ?_ ?_
      | refine LeO.bind ?_ (fun _ => ?_)
theorem tallboyref32_may.mono : ∀ a0 a1 k, LeO (tallboyref32_may.f k a0 a1) (tallboyref32_may.f (k + 1) a0 a1) := by
  intro a0 a1 k
  obtain ⟨ih0, ih1, ih2, ih3⟩ := tallboyref32_may.mono_l k
  unfold tallboyref32_may.f
  repeat' first
      | (with_reducible exact ih0 _ _ _)
      | (with_reducible exact ih1 _ _ _)
      | (with_reducible exact ih2 _ _ _ _)
      | (with_reducible exact ih3 _ _ _ _)
      | (with_reducible exact LeO.refl _)
      | (with_reducible exact LeO.none _)
      | (with_reducible refine LeO.ite ?_ ?_)
      | (with_reducible refine LeO.bind ?_ (fun _ => ?_))
      | exact ih0 _ _ _
      | exact ih1 _ _ _
      | exact ih2 _ _ _ _
      | exact ih3 _ _ _ _
      | exact LeO.none _
      | refine LeO.ite ?_ ?_
      | refine LeO.bind ?_ (fun _ => ?_)
set_option maxHeartbeats 8000000 in
set_option maxRecDepth 100000 in
theorem tallboyref32_may.calls (k : Nat) (a0_0 : ByteArray) (a0_1 : ByteArray) (r : Bool) (w : World) (h : tallboyref32_may.f k a0_0 a0_1 = some r) :
    Calls Tryd.prog 48 #[.agg #[.string a0_0, .string a0_1]] w fun e w' => e = .returned (.bool r) ∧ Below w.heap.size w w' := by
  have hu52 := Tryd.underlying52
  have HB := Aside0.mk (Below.refl w.heap.size w)
  have H : (if (a0_0.size : Int) ≥ 1 then (if (a0_0.size : Int) ≤ 64 then (if (a0_1.size : Int) ≥ 1 then (tallboyref32_may.j0 k (decide ((a0_1.size : Int) ≤ 200)) a0_0 a0_1) else (tallboyref32_may.j0 k false a0_0 a0_1)) else (tallboyref32_may.j0 k false a0_0 a0_1)) else (tallboyref32_may.j0 k false a0_0 a0_1)) = some r := h
  clear h
  have HC2 := Aside0.mk H
  clear H
  go_enter Tryd.func48, Tryd.ntmps48
  go_upto_region 1 with (first | ((with_reducible refine gate_dst (N := 1) rfl ?_); (try (refine gate_guard (by rfl) ?_; dsimp only)); refine box_event ?hg (N := 1) ?hd (cs := #[.string a0_0, .string a0_1]) (t := 52) ?hr ?_; (case hd => rfl); (case hg => rfl); (case hr => first | (go_simp; done) | (go_simp; rfl)); intro gb119 hg w3 hbox hb; have n0_ := Aside0.mk (below_step (by repeat (first | (with_reducible first | exact HB.out | apply below_alloc | apply pw_below_drewN | apply below_drew1) | exact HB.out)) hb); have n1_ := Aside0.mk (hbox); have n2_ := Aside0.mk ((by rw [hg]; exact (below_size (by repeat (first | (with_reducible first | exact HB.out | apply below_alloc | apply pw_below_drewN | apply below_drew1) | exact HB.out))) : w.heap.size ≤ gb119)); have n3_ := Aside0.mk ((by rw [hg]; exact (below_size (by repeat (first | (with_reducible first | exact HB.out | apply below_alloc | apply pw_below_drewN | apply below_drew1) | exact HB.out))) : w.heap.size ≤ gb119)); clear HB; have HB := n0_; have BK119 := n1_; have GW119 := n2_; have GE119 := n3_; clear n0_ n1_ n2_ n3_; clear hb hbox hg))
  (try simp only [Act.put, List.setIfInBounds_toArray, List.set_cons_zero, List.set_cons_succ])
  go_cut [3] (fun v3 wc => ∃ (kq : Nat) (x3_1 : Bool), v3 = .bool x3_1 ∧ Aside0 (tallboyref32_may.j0 kq x3_1 a0_0 a0_1 = some r) ∧ Aside0 (kq ≤ k) ∧ Aside0 (wc.heap[gb119]? = some (.cells #[.string a0_0, .string a0_1] 52 (0, 0))) ∧ Aside0 (Below w.heap.size w wc))
  case first =>
    have H := HC2.out
    clear HC2
    by_cases c4 : (a0_0.size : Int) ≥ 1
    · rw [if_pos c4] at H
      have c4b0 : decide (1 ≤ (a0_0.size : Int)) = true := decide_eq_true c4
      have c4b1 : decide (1 ≤ a0_0.size) = true := decide_eq_true (by omega)
      clear c4
      (first | rw [c4b0] | (simp only [i64_w, i32_w]; rw [c4b0]) | skip)
      by_cases c5 : (a0_0.size : Int) ≤ 64
      · rw [if_pos c5] at H
        have c5b0 : decide ((a0_0.size : Int) ≤ 64) = true := decide_eq_true c5
        have c5b1 : decide (a0_0.size ≤ 64) = true := decide_eq_true (by omega)
        clear c5
        by_cases c6 : (a0_1.size : Int) ≥ 1
        · rw [if_pos c6] at H
          have c6b0 : decide (1 ≤ (a0_1.size : Int)) = true := decide_eq_true c6
          have c6b1 : decide (1 ≤ a0_1.size) = true := decide_eq_true (by omega)
          clear c6
          have H' := Aside0.mk H
          clear H
          have hcz7_0 : w3.cell? ⟨gb119, 0, none⟩ = some (.string a0_0) := (blk_cell BK119.out 0).trans rfl
          have hcz7_1 : w3.cell? ⟨gb119, 1, none⟩ = some (.string a0_1) := (blk_cell BK119.out 1).trans rfl
          have hfz7_0 := blk_frozen BK119.out 0
          have hfz7_1 := blk_frozen BK119.out 1
          go_wp2
          go_meet
          case rel => exact ⟨_, (decide ((a0_1.size : Int) ≤ 200)), (by first | rfl | (simp; done) | (simp [*]; done)), H', ⟨by first | omega | exact Nat.le_refl _⟩, ⟨by (with_reducible repeat (first | refine blk_drewN ?_ _ | refine blk_drew ?_ | refine blk_alloc ?_ _)); exact BK119.out⟩, ⟨by repeat (first | (with_reducible first | exact HB.out | apply below_alloc | apply pw_below_drewN | apply below_drew1 | refine below_set ?_ GE119.out) | exact HB.out)⟩⟩
        · rw [if_neg c6] at H
          have c6b0 : decide (1 ≤ (a0_1.size : Int)) = false := decide_eq_false c6
          have c6b1 : decide (1 ≤ a0_1.size) = false := decide_eq_false (by omega)
          clear c6
          have H' := Aside0.mk H
          clear H
          have hcz8_0 : w3.cell? ⟨gb119, 0, none⟩ = some (.string a0_0) := (blk_cell BK119.out 0).trans rfl
          have hcz8_1 : w3.cell? ⟨gb119, 1, none⟩ = some (.string a0_1) := (blk_cell BK119.out 1).trans rfl
          have hfz8_0 := blk_frozen BK119.out 0
          have hfz8_1 := blk_frozen BK119.out 1
          go_wp2
          go_meet
          case rel => exact ⟨_, (false), (by first | rfl | (simp; done) | (simp [*]; done)), H', ⟨by first | omega | exact Nat.le_refl _⟩, ⟨by (with_reducible repeat (first | refine blk_drewN ?_ _ | refine blk_drew ?_ | refine blk_alloc ?_ _)); exact BK119.out⟩, ⟨by repeat (first | (with_reducible first | exact HB.out | apply below_alloc | apply pw_below_drewN | apply below_drew1 | refine below_set ?_ GE119.out) | exact HB.out)⟩⟩
      · rw [if_neg c5] at H
        have c5b0 : decide ((a0_0.size : Int) ≤ 64) = false := decide_eq_false c5
        have c5b1 : decide (a0_0.size ≤ 64) = false := decide_eq_false (by omega)
        clear c5
        have H' := Aside0.mk H
        clear H
        have hcz9_0 : w3.cell? ⟨gb119, 0, none⟩ = some (.string a0_0) := (blk_cell BK119.out 0).trans rfl
        have hcz9_1 : w3.cell? ⟨gb119, 1, none⟩ = some (.string a0_1) := (blk_cell BK119.out 1).trans rfl
        have hfz9_0 := blk_frozen BK119.out 0
        have hfz9_1 := blk_frozen BK119.out 1
        go_wp2
        go_meet
        case rel => exact ⟨_, (false), (by first | rfl | (simp; done) | (simp [*]; done)), H', ⟨by first | omega | exact Nat.le_refl _⟩, ⟨by (with_reducible repeat (first | refine blk_drewN ?_ _ | refine blk_drew ?_ | refine blk_alloc ?_ _)); exact BK119.out⟩, ⟨by repeat (first | (with_reducible first | exact HB.out | apply below_alloc | apply pw_below_drewN | apply below_drew1 | refine below_set ?_ GE119.out) | exact HB.out)⟩⟩
    · rw [if_neg c4] at H
      have c4b0 : decide (1 ≤ (a0_0.size : Int)) = false := decide_eq_false c4
      have c4b1 : decide (1 ≤ a0_0.size) = false := decide_eq_false (by omega)
      clear c4
      (first | rw [c4b0] | (simp only [i64_w, i32_w]; rw [c4b0]) | skip)
      have H' := Aside0.mk H
      clear H
      have hcz10_0 : w3.cell? ⟨gb119, 0, none⟩ = some (.string a0_0) := (blk_cell BK119.out 0).trans rfl
      have hcz10_1 : w3.cell? ⟨gb119, 1, none⟩ = some (.string a0_1) := (blk_cell BK119.out 1).trans rfl
      have hfz10_0 := blk_frozen BK119.out 0
      have hfz10_1 := blk_frozen BK119.out 1
      go_wp2
      go_meet
      case rel => exact ⟨_, (false), (by first | rfl | (simp; done) | (simp [*]; done)), H', ⟨by first | omega | exact Nat.le_refl _⟩, ⟨by (with_reducible repeat (first | refine blk_drewN ?_ _ | refine blk_drew ?_ | refine blk_alloc ?_ _)); exact BK119.out⟩, ⟨by repeat (first | (with_reducible first | exact HB.out | apply below_alloc | apply pw_below_drewN | apply below_drew1 | refine below_set ?_ GE119.out) | exact HB.out)⟩⟩
  case rest =>
    clear HC2
    try clear p2
    try clear c4
    try clear c4b0
    try clear c4b1
    try clear c5
    try clear c5b0
    try clear c5b1
    try clear c6
    try clear c6b0
    try clear c6b1
    try clear hcz10_0
    try clear hcz10_1
    try clear hcz7_0
    try clear hcz7_1
    try clear hcz8_0
    try clear hcz8_1
    try clear hcz9_0
    try clear hcz9_1
    try clear hfz10_0
    try clear hfz10_1
    try clear hfz7_0
    try clear hfz7_1
    try clear hfz8_0
    try clear hfz8_1
    try clear hfz9_0
    try clear hfz9_1
    obtain ⟨kq, x3_1, rfl, HA, HJ1, BK119, HB⟩ := hcut
    cases kq with
    | zero => exact absurd HA.out (by simp [tallboyref32_may.j0])
    | succ kj1 =>
      have H := HA.out
      clear HA
      simp only [tallboyref32_may.j0] at H
      have HC11 := Aside0.mk H
      clear H
      go_upto_block 0 with (fail)
      go_cut [3] (fun v3 wc => ∃ (kq : Nat) (x3_10 : Bool), v3 = .bool x3_10 ∧ Aside0 (tallboyref32_may.j2 kq x3_10 a0_0 a0_1 = some r) ∧ Aside0 (kq ≤ kj1) ∧ Aside0 (wc.heap[gb119]? = some (.cells #[.string a0_0, .string a0_1] 52 (0, 0))) ∧ Aside0 (Below w.heap.size w wc))
      case first =>
        have H := HC11.out
        clear HC11
        have H' := Aside0.mk H
        clear H
        go_wp2
        go_loopg [3, 4] kj1 (fun kq v3 v4 w' => ∃ (x3_2 : Bool) (x4_2 : Int), v3 = .bool x3_2 ∧ v4 = .int .i64 x4_2 ∧ Aside0 (tallboyref32_may.l0 kq x3_2 x4_2 a0_0 a0_1 = some r) ∧ Aside0 (kq ≤ kj1) ∧ Aside0 (w'.heap[gb119]? = some (.cells #[.string a0_0, .string a0_1] 52 (0, 0))) ∧ Aside0 (Below w.heap.size w w'))
        case atStart => exact ⟨(x3_1), (0), (by first | rfl | (simp; done) | (simp [*]; done)), (by first | rfl | (simp; done) | (simp [*]; done)), H', ⟨Nat.le_refl _⟩, ⟨by (with_reducible repeat (first | refine blk_drewN ?_ _ | refine blk_drew ?_ | refine blk_alloc ?_ _)); exact BK119.out⟩, ⟨by repeat (first | (with_reducible first | exact HB.out | apply below_alloc | apply pw_below_drewN | apply below_drew1 | refine below_set ?_ GE119.out) | exact HB.out)⟩⟩
        case round =>
          clear H'
          try clear p2
          try clear c4
          try clear c4b0
          try clear c4b1
          try clear c5
          try clear c5b0
          try clear c5b1
          try clear c6
          try clear c6b0
          try clear c6b1
          try clear hcz10_0
          try clear hcz10_1
          try clear hcz7_0
          try clear hcz7_1
          try clear hcz8_0
          try clear hcz8_1
          try clear hcz9_0
          try clear hcz9_1
          try clear hfz10_0
          try clear hfz10_1
          try clear hfz7_0
          try clear hfz7_1
          try clear hfz8_0
          try clear hfz8_1
          try clear hfz9_0
          try clear hfz9_1
          try clear p2
          obtain ⟨x3_2, x4_2, rfl, rfl, HA, HK2, BK119, HB⟩ := hrel
          cases gk with
          | zero => exact absurd HA.out (by simp [tallboyref32_may.l0])
          | succ k2 =>
            have H := HA.out
            clear HA
            simp only [tallboyref32_may.l0] at H
            by_cases c12 : x4_2 < (a0_0.size : Int)
            · rw [if_pos c12] at H
              have c12b0 : decide (x4_2 < (a0_0.size : Int)) = true := decide_eq_true c12
              clear c12
              (first | rw [c12b0] | (simp only [i64_w, i32_w]; rw [c12b0]) | skip)
              by_cases c13 : x3_2 = true
              · subst c13
                have H1 : (if 0 ≤ x4_2 then (if (bt a0_0 x4_2) ≥ 33 then (tallboyref32_may.l0 k2 (decide ((bt a0_0 x4_2) ≤ 126)) (wrap64 (x4_2 + 1)) a0_0 a0_1) else (tallboyref32_may.l0 k2 false (wrap64 (x4_2 + 1)) a0_0 a0_1)) else (none)) = some r := by rw [if_pos rfl] at H; exact H
                clear H
                have H := H1
                clear H1
                by_cases c14 : 0 ≤ x4_2
                · rw [if_pos c14] at H
                  have c14b0 : decide (0 ≤ x4_2) = true := decide_eq_true c14
                  clear c14
                  by_cases c16 : (bt a0_0 x4_2) ≥ 33
                  · rw [if_pos c16] at H
                    have c16b0 : decide (33 ≤ (bt a0_0 x4_2)) = true := decide_eq_true c16
                    clear c16
                    have H' := Aside0.mk H
                    clear H
                    have hcz18_0 : wr.cell? ⟨gb119, 0, none⟩ = some (.string a0_0) := (blk_cell BK119.out 0).trans rfl
                    have hcz18_1 : wr.cell? ⟨gb119, 1, none⟩ = some (.string a0_1) := (blk_cell BK119.out 1).trans rfl
                    have hfz18_0 := blk_frozen BK119.out 0
                    have hfz18_1 := blk_frozen BK119.out 1
                    have p15 : 0 ≤ (x4_2 : Int) := of_decide_eq_true (by first | (with_reducible assumption) | assumption)
                    have q15 : x4_2 < (a0_0.size : Int) := of_decide_eq_true (by first | (with_reducible assumption) | assumption)
                    have hx15 := bt_at a0_0 x4_2
                    replace p15 := eq_true p15
                    replace q15 := eq_true q15
                    have p17 : 0 ≤ (x4_2 : Int) := of_decide_eq_true (by first | (with_reducible assumption) | assumption)
                    have q17 : x4_2 < (a0_0.size : Int) := of_decide_eq_true (by first | (with_reducible assumption) | assumption)
                    have hx17 := bt_at a0_0 x4_2
                    replace p17 := eq_true p17
                    replace q17 := eq_true q17
                    go_wp2
                    go_roundg k2
                    case measure => have := HJ1.out; have := HK2.out; omega
                    case rel => exact ⟨(decide ((bt a0_0 x4_2) ≤ 126)), (wrap64 (x4_2 + 1)), (by first | rfl | (simp; done) | (simp [*]; done)), (by first | rfl | (simp; done) | (simp [*]; done)), H', ⟨by have := HJ1.out; have := HK2.out; omega⟩, ⟨by (with_reducible repeat (first | refine blk_drewN ?_ _ | refine blk_drew ?_ | refine blk_alloc ?_ _)); exact BK119.out⟩, ⟨by repeat (first | (with_reducible first | exact HB.out | apply below_alloc | apply pw_below_drewN | apply below_drew1 | refine below_set ?_ GE119.out) | exact HB.out)⟩⟩
                  · rw [if_neg c16] at H
                    have c16b0 : decide (33 ≤ (bt a0_0 x4_2)) = false := decide_eq_false c16
                    clear c16
                    have H' := Aside0.mk H
                    clear H
                    have hcz19_0 : wr.cell? ⟨gb119, 0, none⟩ = some (.string a0_0) := (blk_cell BK119.out 0).trans rfl
                    have hcz19_1 : wr.cell? ⟨gb119, 1, none⟩ = some (.string a0_1) := (blk_cell BK119.out 1).trans rfl
                    have hfz19_0 := blk_frozen BK119.out 0
                    have hfz19_1 := blk_frozen BK119.out 1
                    have p15 : 0 ≤ (x4_2 : Int) := of_decide_eq_true (by first | (with_reducible assumption) | assumption)
                    have q15 : x4_2 < (a0_0.size : Int) := of_decide_eq_true (by first | (with_reducible assumption) | assumption)
                    have hx15 := bt_at a0_0 x4_2
                    replace p15 := eq_true p15
                    replace q15 := eq_true q15
                    go_wp2
                    go_roundg k2
                    case measure => have := HJ1.out; have := HK2.out; omega
                    case rel => exact ⟨(false), (wrap64 (x4_2 + 1)), (by first | rfl | (simp; done) | (simp [*]; done)), (by first | rfl | (simp; done) | (simp [*]; done)), H', ⟨by have := HJ1.out; have := HK2.out; omega⟩, ⟨by (with_reducible repeat (first | refine blk_drewN ?_ _ | refine blk_drew ?_ | refine blk_alloc ?_ _)); exact BK119.out⟩, ⟨by repeat (first | (with_reducible first | exact HB.out | apply below_alloc | apply pw_below_drewN | apply below_drew1 | refine below_set ?_ GE119.out) | exact HB.out)⟩⟩
                · rw [if_neg c14] at H
                  exact absurd H (by simp)
              · replace c13 := Bool.eq_false_iff.mpr c13
                subst c13
                have H1 : (tallboyref32_may.j2 k2 false a0_0 a0_1) = some r := by rw [if_neg (show ¬ (false = true) by decide)] at H; exact H
                clear H
                have H := H1
                clear H1
                have H' := Aside0.mk H
                clear H
                have hcz20_0 : wr.cell? ⟨gb119, 0, none⟩ = some (.string a0_0) := (blk_cell BK119.out 0).trans rfl
                have hcz20_1 : wr.cell? ⟨gb119, 1, none⟩ = some (.string a0_1) := (blk_cell BK119.out 1).trans rfl
                have hfz20_0 := blk_frozen BK119.out 0
                have hfz20_1 := blk_frozen BK119.out 1
                go_wp2
                go_meet
                case rel => exact ⟨_, (false), (by first | rfl | (simp; done) | (simp [*]; done)), H', ⟨by have := HJ1.out; have := HK2.out; first | omega | exact Nat.le_refl _⟩, ⟨by (with_reducible repeat (first | refine blk_drewN ?_ _ | refine blk_drew ?_ | refine blk_alloc ?_ _)); exact BK119.out⟩, ⟨by repeat (first | (with_reducible first | exact HB.out | apply below_alloc | apply pw_below_drewN | apply below_drew1 | refine below_set ?_ GE119.out) | exact HB.out)⟩⟩
            · rw [if_neg c12] at H
              have c12b0 : decide (x4_2 < (a0_0.size : Int)) = false := decide_eq_false c12
              clear c12
              (first | rw [c12b0] | (simp only [i64_w, i32_w]; rw [c12b0]) | skip)
              have H' := Aside0.mk H
              clear H
              have hcz21_0 : wr.cell? ⟨gb119, 0, none⟩ = some (.string a0_0) := (blk_cell BK119.out 0).trans rfl
              have hcz21_1 : wr.cell? ⟨gb119, 1, none⟩ = some (.string a0_1) := (blk_cell BK119.out 1).trans rfl
              have hfz21_0 := blk_frozen BK119.out 0
              have hfz21_1 := blk_frozen BK119.out 1
              go_wp2
              go_meet
              case rel => exact ⟨_, (x3_2), (by first | rfl | (simp; done) | (simp [*]; done)), H', ⟨by have := HJ1.out; have := HK2.out; first | omega | exact Nat.le_refl _⟩, ⟨by (with_reducible repeat (first | refine blk_drewN ?_ _ | refine blk_drew ?_ | refine blk_alloc ?_ _)); exact BK119.out⟩, ⟨by repeat (first | (with_reducible first | exact HB.out | apply below_alloc | apply pw_below_drewN | apply below_drew1 | refine below_set ?_ GE119.out) | exact HB.out)⟩⟩
      case rest =>
        clear HC11
        try clear c1
        try clear p1
        try clear q1
        try clear hx1
        try clear p2
        try clear c4
        try clear c4b0
        try clear c4b1
        try clear c5
        try clear c5b0
        try clear c5b1
        try clear c6
        try clear c6b0
        try clear c6b1
        try clear p6
        try clear c12
        try clear c12b0
        try clear c13
        try clear c14
        try clear c14b0
        try clear p15
        try clear q15
        try clear hx15
        try clear c16
        try clear c16b0
        try clear p17
        try clear q17
        try clear hx17
        try clear hcz10_0
        try clear hcz10_1
        try clear hcz18_0
        try clear hcz18_1
        try clear hcz19_0
        try clear hcz19_1
        try clear hcz20_0
        try clear hcz20_1
        try clear hcz21_0
        try clear hcz21_1
        try clear hcz7_0
        try clear hcz7_1
        try clear hcz8_0
        try clear hcz8_1
        try clear hcz9_0
        try clear hcz9_1
        try clear hfz10_0
        try clear hfz10_1
        try clear hfz18_0
        try clear hfz18_1
        try clear hfz19_0
        try clear hfz19_1
        try clear hfz20_0
        try clear hfz20_1
        try clear hfz21_0
        try clear hfz21_1
        try clear hfz7_0
        try clear hfz7_1
        try clear hfz8_0
        try clear hfz8_1
        try clear hfz9_0
        try clear hfz9_1
        try clear p15
        try clear p17
        try clear p2
        try clear q15
        try clear q17
        obtain ⟨kq, x3_10, rfl, HA, HJ10, BK119, HB⟩ := hcut
        cases kq with
        | zero => exact absurd HA.out (by simp [tallboyref32_may.j2])
        | succ kj10 =>
          have H := HA.out
          clear HA
          simp only [tallboyref32_may.j2] at H
          have H' := Aside0.mk H
          clear H
          go_wp2
          go_loopg [3, 5] kj10 (fun kq v3 v5 w' => ∃ (x3_3 : Bool) (x5_3 : Int), v3 = .bool x3_3 ∧ v5 = .int .i64 x5_3 ∧ Aside0 (tallboyref32_may.l1 kq x3_3 x5_3 a0_0 a0_1 = some r) ∧ Aside0 (kq ≤ kj10) ∧ Aside0 (w'.heap[gb119]? = some (.cells #[.string a0_0, .string a0_1] 52 (0, 0))) ∧ Aside0 (Below w.heap.size w w'))
          case atStart => exact ⟨(x3_10), (0), (by first | rfl | (simp; done) | (simp [*]; done)), (by first | rfl | (simp; done) | (simp [*]; done)), H', ⟨Nat.le_refl _⟩, ⟨by (with_reducible repeat (first | refine blk_drewN ?_ _ | refine blk_drew ?_ | refine blk_alloc ?_ _)); exact BK119.out⟩, ⟨by repeat (first | (with_reducible first | exact HB.out | apply below_alloc | apply pw_below_drewN | apply below_drew1 | refine below_set ?_ GE119.out) | exact HB.out)⟩⟩
          case round =>
            clear H'
            try clear c1
            try clear p1
            try clear q1
            try clear hx1
            try clear p2
            try clear c4
            try clear c4b0
            try clear c4b1
            try clear c5
            try clear c5b0
            try clear c5b1
            try clear c6
            try clear c6b0
            try clear c6b1
            try clear p6
            try clear c12
            try clear c12b0
            try clear c13
            try clear c14
            try clear c14b0
            try clear p15
            try clear q15
            try clear hx15
            try clear c16
            try clear c16b0
            try clear p17
            try clear q17
            try clear hx17
            try clear hcz10_0
            try clear hcz10_1
            try clear hcz18_0
            try clear hcz18_1
            try clear hcz19_0
            try clear hcz19_1
            try clear hcz20_0
            try clear hcz20_1
            try clear hcz21_0
            try clear hcz21_1
            try clear hcz7_0
            try clear hcz7_1
            try clear hcz8_0
            try clear hcz8_1
            try clear hcz9_0
            try clear hcz9_1
            try clear hfz10_0
            try clear hfz10_1
            try clear hfz18_0
            try clear hfz18_1
            try clear hfz19_0
            try clear hfz19_1
            try clear hfz20_0
            try clear hfz20_1
            try clear hfz21_0
            try clear hfz21_1
            try clear hfz7_0
            try clear hfz7_1
            try clear hfz8_0
            try clear hfz8_1
            try clear hfz9_0
            try clear hfz9_1
            try clear p1
            try clear p15
            try clear p17
            try clear p2
            try clear p6
            try clear q1
            try clear q15
            try clear q17
            obtain ⟨x3_3, x5_3, rfl, rfl, HA, HK3, BK119, HB⟩ := hrel
            cases gk with
            | zero => exact absurd HA.out (by simp [tallboyref32_may.l1])
            | succ k3 =>
              have H := HA.out
              clear HA
              simp only [tallboyref32_may.l1] at H
              by_cases c22 : x5_3 < (a0_1.size : Int)
              · rw [if_pos c22] at H
                have c22b0 : decide (x5_3 < (a0_1.size : Int)) = true := decide_eq_true c22
                clear c22
                by_cases c23 : x3_3 = true
                · subst c23
                  have H1 : (if 0 ≤ x5_3 then (if (bt a0_1 x5_3) ≥ 32 then (tallboyref32_may.l1 k3 (decide ((bt a0_1 x5_3) ≤ 126)) (wrap64 (x5_3 + 1)) a0_0 a0_1) else (tallboyref32_may.l1 k3 false (wrap64 (x5_3 + 1)) a0_0 a0_1)) else (none)) = some r := by rw [if_pos rfl] at H; exact H
                  clear H
                  have H := H1
                  clear H1
                  by_cases c24 : 0 ≤ x5_3
                  · rw [if_pos c24] at H
                    have c24b0 : decide (0 ≤ x5_3) = true := decide_eq_true c24
                    clear c24
                    by_cases c26 : (bt a0_1 x5_3) ≥ 32
                    · rw [if_pos c26] at H
                      have c26b0 : decide (32 ≤ (bt a0_1 x5_3)) = true := decide_eq_true c26
                      clear c26
                      have H' := Aside0.mk H
                      clear H
                      have hcz28_0 : wr.cell? ⟨gb119, 0, none⟩ = some (.string a0_0) := (blk_cell BK119.out 0).trans rfl
                      have hcz28_1 : wr.cell? ⟨gb119, 1, none⟩ = some (.string a0_1) := (blk_cell BK119.out 1).trans rfl
                      have hfz28_0 := blk_frozen BK119.out 0
                      have hfz28_1 := blk_frozen BK119.out 1
                      have p25 : 0 ≤ (x5_3 : Int) := of_decide_eq_true (by first | (with_reducible assumption) | assumption)
                      have q25 : x5_3 < (a0_1.size : Int) := of_decide_eq_true (by first | (with_reducible assumption) | assumption)
                      have hx25 := bt_at a0_1 x5_3
                      replace p25 := eq_true p25
                      replace q25 := eq_true q25
                      have p27 : 0 ≤ (x5_3 : Int) := of_decide_eq_true (by first | (with_reducible assumption) | assumption)
                      have q27 : x5_3 < (a0_1.size : Int) := of_decide_eq_true (by first | (with_reducible assumption) | assumption)
                      have hx27 := bt_at a0_1 x5_3
                      replace p27 := eq_true p27
                      replace q27 := eq_true q27
                      go_wp2
                      go_roundg k3
                      case measure => have := HJ1.out; have := HJ10.out; have := HK3.out; omega
                      case rel => exact ⟨(decide ((bt a0_1 x5_3) ≤ 126)), (wrap64 (x5_3 + 1)), (by first | rfl | (simp; done) | (simp [*]; done)), (by first | rfl | (simp; done) | (simp [*]; done)), H', ⟨by have := HJ1.out; have := HJ10.out; have := HK3.out; omega⟩, ⟨by (with_reducible repeat (first | refine blk_drewN ?_ _ | refine blk_drew ?_ | refine blk_alloc ?_ _)); exact BK119.out⟩, ⟨by repeat (first | (with_reducible first | exact HB.out | apply below_alloc | apply pw_below_drewN | apply below_drew1 | refine below_set ?_ GE119.out) | exact HB.out)⟩⟩
                    · rw [if_neg c26] at H
                      have c26b0 : decide (32 ≤ (bt a0_1 x5_3)) = false := decide_eq_false c26
                      clear c26
                      have H' := Aside0.mk H
                      clear H
                      have hcz29_0 : wr.cell? ⟨gb119, 0, none⟩ = some (.string a0_0) := (blk_cell BK119.out 0).trans rfl
                      have hcz29_1 : wr.cell? ⟨gb119, 1, none⟩ = some (.string a0_1) := (blk_cell BK119.out 1).trans rfl
                      have hfz29_0 := blk_frozen BK119.out 0
                      have hfz29_1 := blk_frozen BK119.out 1
                      have p25 : 0 ≤ (x5_3 : Int) := of_decide_eq_true (by first | (with_reducible assumption) | assumption)
                      have q25 : x5_3 < (a0_1.size : Int) := of_decide_eq_true (by first | (with_reducible assumption) | assumption)
                      have hx25 := bt_at a0_1 x5_3
                      replace p25 := eq_true p25
                      replace q25 := eq_true q25
                      go_wp2
                      go_roundg k3
                      case measure => have := HJ1.out; have := HJ10.out; have := HK3.out; omega
                      case rel => exact ⟨(false), (wrap64 (x5_3 + 1)), (by first | rfl | (simp; done) | (simp [*]; done)), (by first | rfl | (simp; done) | (simp [*]; done)), H', ⟨by have := HJ1.out; have := HJ10.out; have := HK3.out; omega⟩, ⟨by (with_reducible repeat (first | refine blk_drewN ?_ _ | refine blk_drew ?_ | refine blk_alloc ?_ _)); exact BK119.out⟩, ⟨by repeat (first | (with_reducible first | exact HB.out | apply below_alloc | apply pw_below_drewN | apply below_drew1 | refine below_set ?_ GE119.out) | exact HB.out)⟩⟩
                  · rw [if_neg c24] at H
                    exact absurd H (by simp)
                · replace c23 := Bool.eq_false_iff.mpr c23
                  subst c23
                  have H1 : (some false) = some r := by rw [if_neg (show ¬ (false = true) by decide)] at H; exact H
                  clear H
                  have H := H1
                  clear H1
                  obtain rfl := Option.some.inj H
                  have hcz30_0 : wr.cell? ⟨gb119, 0, none⟩ = some (.string a0_0) := (blk_cell BK119.out 0).trans rfl
                  have hcz30_1 : wr.cell? ⟨gb119, 1, none⟩ = some (.string a0_1) := (blk_cell BK119.out 1).trans rfl
                  have hfz30_0 := blk_frozen BK119.out 0
                  have hfz30_1 := blk_frozen BK119.out 1
                  go_wp2
                  go_ret
                  exact ⟨by first | rfl | (simp [errW_none, errW_some] <;> rfl) | (simp [*, errW_none, errW_some] <;> rfl), by repeat (first | (with_reducible first | exact HB.out | apply below_alloc | apply pw_below_drewN | apply below_drew1 | refine below_set ?_ GE119.out) | exact HB.out)⟩
              · rw [if_neg c22] at H
                have c22b0 : decide (x5_3 < (a0_1.size : Int)) = false := decide_eq_false c22
                clear c22
                by_cases c31 : x3_3 = true
                · subst c31
                  have H1 : (if 0 < (a0_1.size : Int) then (if (bt a0_1 0) = 32 then (some false) else (if 0 ≤ (wrap64 ((a0_1.size : Int) - 1)) then (if (wrap64 ((a0_1.size : Int) - 1)) < (a0_1.size : Int) then (some ((bt a0_1 (wrap64 ((a0_1.size : Int) - 1))) != 32)) else (none)) else (none))) else (none)) = some r := by rw [if_pos rfl] at H; exact H
                  clear H
                  have H := H1
                  clear H1
                  by_cases c32 : 0 < (a0_1.size : Int)
                  · rw [if_pos c32] at H
                    have c32b0 : decide (0 < (a0_1.size : Int)) = true := decide_eq_true c32
                    have c32b1 : decide (0 < a0_1.size) = true := decide_eq_true (by omega)
                    clear c32
                    by_cases c34 : (bt a0_1 0) = 32
                    · rw [if_pos c34] at H
                      have c34b0 : ((bt a0_1 0) == 32) = true := beq_iff_eq.mpr c34
                      have c34b1 : ((bt a0_1 0) != 32) = false := bne_eq_false_iff_eq.mpr c34
                      clear c34
                      obtain rfl := Option.some.inj H
                      have hcz35_0 : wr.cell? ⟨gb119, 0, none⟩ = some (.string a0_0) := (blk_cell BK119.out 0).trans rfl
                      have hcz35_1 : wr.cell? ⟨gb119, 1, none⟩ = some (.string a0_1) := (blk_cell BK119.out 1).trans rfl
                      have hfz35_0 := blk_frozen BK119.out 0
                      have hfz35_1 := blk_frozen BK119.out 1
                      have p33 : 0 ≤ (0 : Int) := (by omega)
                      have q33 : 0 < a0_1.size := (by have : (0 : Int) < (a0_1.size : Int) := of_decide_eq_true (by first | (with_reducible assumption) | assumption); omega)
                      have hx33 : ∀ h : 0 < a0_1.size, ((a0_1[0]'h).toNat : Int) = bt a0_1 0 := bt_at a0_1 0
                      clear p33
                      have qi33 : (0 < (a0_1.size : Int)) = True := eq_true (of_decide_eq_true (by first | (with_reducible assumption) | assumption))
                      replace q33 := eq_true q33
                      go_wp2
                      go_ret
                      exact ⟨by first | rfl | (simp [errW_none, errW_some] <;> rfl) | (simp [*, errW_none, errW_some] <;> rfl), by repeat (first | (with_reducible first | exact HB.out | apply below_alloc | apply pw_below_drewN | apply below_drew1 | refine below_set ?_ GE119.out) | exact HB.out)⟩
                    · rw [if_neg c34] at H
                      have c34b0 : ((bt a0_1 0) == 32) = false := beq_eq_false_iff_ne.mpr c34
                      have c34b1 : ((bt a0_1 0) != 32) = true := bne_iff_ne.mpr c34
                      obtain ⟨ji36, hji36⟩ : ∃ j_ : Int, (wrap64 ((a0_1.size : Int) - 1)) = j_ := ⟨_, rfl⟩
                      replace H : (if 0 ≤ (ji36) then (if (ji36) < (a0_1.size : Int) then (some ((bt a0_1 (ji36)) != 32)) else (none)) else (none)) = some r := by first | (rw [hji36] at H; exact H) | (simp only [hji36] at H ⊢; exact H)
                      have hji36w : (IntKind.i64.wrap ((a0_1.size : Int) - 1)) = ji36 := (i64_w _).trans hji36
                      by_cases c37 : 0 ≤ (ji36)
                      · rw [if_pos c37] at H
                        have c37b0 : decide (0 ≤ (ji36)) = true := decide_eq_true c37
                        clear c37
                        by_cases c38 : (ji36) < (a0_1.size : Int)
                        · rw [if_pos c38] at H
                          have c38b0 : decide ((ji36) < (a0_1.size : Int)) = true := decide_eq_true c38
                          clear c38
                          obtain rfl := Option.some.inj H
                          have hcz40_0 : wr.cell? ⟨gb119, 0, none⟩ = some (.string a0_0) := (blk_cell BK119.out 0).trans rfl
                          have hcz40_1 : wr.cell? ⟨gb119, 1, none⟩ = some (.string a0_1) := (blk_cell BK119.out 1).trans rfl
                          have hfz40_0 := blk_frozen BK119.out 0
                          have hfz40_1 := blk_frozen BK119.out 1
                          have p33 : 0 ≤ (0 : Int) := (by omega)
                          have q33 : 0 < a0_1.size := (by have : (0 : Int) < (a0_1.size : Int) := of_decide_eq_true (by first | (with_reducible assumption) | assumption); omega)
                          have hx33 : ∀ h : 0 < a0_1.size, ((a0_1[0]'h).toNat : Int) = bt a0_1 0 := bt_at a0_1 0
                          clear p33
                          have qi33 : (0 < (a0_1.size : Int)) = True := eq_true (of_decide_eq_true (by first | (with_reducible assumption) | assumption))
                          replace q33 := eq_true q33
                          have p39 : 0 ≤ ((ji36) : Int) := of_decide_eq_true (by first | (with_reducible assumption) | assumption)
                          have q39 : (ji36) < (a0_1.size : Int) := of_decide_eq_true (by first | (with_reducible assumption) | assumption)
                          have hx39 := bt_at a0_1 (ji36)
                          replace p39 := eq_true p39
                          replace q39 := eq_true q39
                          go_wp2
                          go_ret
                          exact ⟨by first | rfl | (simp [errW_none, errW_some] <;> rfl) | (simp only [← hji36]; first | rfl | (simp [errW_none, errW_some] <;> rfl)) | (simp [*, errW_none, errW_some] <;> rfl), by repeat (first | (with_reducible first | exact HB.out | apply below_alloc | apply pw_below_drewN | apply below_drew1 | refine below_set ?_ GE119.out) | exact HB.out)⟩
                        · rw [if_neg c38] at H
                          exact absurd H (by simp)
                      · rw [if_neg c37] at H
                        exact absurd H (by simp)
                  · rw [if_neg c32] at H
                    exact absurd H (by simp)
                · replace c31 := Bool.eq_false_iff.mpr c31
                  subst c31
                  have H1 : (some false) = some r := by rw [if_neg (show ¬ (false = true) by decide)] at H; exact H
                  clear H
                  have H := H1
                  clear H1
                  obtain rfl := Option.some.inj H
                  have hcz41_0 : wr.cell? ⟨gb119, 0, none⟩ = some (.string a0_0) := (blk_cell BK119.out 0).trans rfl
                  have hcz41_1 : wr.cell? ⟨gb119, 1, none⟩ = some (.string a0_1) := (blk_cell BK119.out 1).trans rfl
                  have hfz41_0 := blk_frozen BK119.out 0
                  have hfz41_1 := blk_frozen BK119.out 1
                  go_wp2
                  go_ret
                  exact ⟨by first | rfl | (simp [errW_none, errW_some] <;> rfl) | (simp [*, errW_none, errW_some] <;> rfl), by repeat (first | (with_reducible first | exact HB.out | apply below_alloc | apply pw_below_drewN | apply below_drew1 | refine below_set ?_ GE119.out) | exact HB.out)⟩

/-! ### tallboyref32_Write: function 21 -/
def tallboyref32_Write.l0 : Nat → List (S52) → ByteArray → Int → Option (ByteArray × Int)
  | 0, _, _, _ => none
  | k + 1, x0, x4, x5 => if x5 < (x0.length : Int) then (if 0 ≤ x5 then ((tallboyref32_may.f k ((rd_T52 x0 x5).f0) ((rd_T52 x0 x5).f1)).bind fun t121 => (if t121 = true then (if x4.size + 5 ≤ 9223372036854775807 then (if (x4 ++ (⟨#[83, 84, 65, 84, 32]⟩ : ByteArray)).size + ((rd_T52 x0 x5).f0).size ≤ 9223372036854775807 then (if ((x4 ++ (⟨#[83, 84, 65, 84, 32]⟩ : ByteArray)) ++ ((rd_T52 x0 x5).f0)).size + 1 ≤ 9223372036854775807 then (if (((x4 ++ (⟨#[83, 84, 65, 84, 32]⟩ : ByteArray)) ++ ((rd_T52 x0 x5).f0)) ++ (⟨#[32]⟩ : ByteArray)).size + ((rd_T52 x0 x5).f1).size ≤ 9223372036854775807 then (if ((((x4 ++ (⟨#[83, 84, 65, 84, 32]⟩ : ByteArray)) ++ ((rd_T52 x0 x5).f0)) ++ (⟨#[32]⟩ : ByteArray)) ++ ((rd_T52 x0 x5).f1)).size + 2 ≤ 9223372036854775807 then (tallboyref32_Write.l0 k x0 (((((x4 ++ (⟨#[83, 84, 65, 84, 32]⟩ : ByteArray)) ++ ((rd_T52 x0 x5).f0)) ++ (⟨#[32]⟩ : ByteArray)) ++ ((rd_T52 x0 x5).f1)) ++ (⟨#[13, 10]⟩ : ByteArray)) (wrap64 (x5 + 1))) else (none)) else (none)) else (none)) else (none)) else (none)) else (some ((⟨#[]⟩ : ByteArray), 6)))) else (none)) else (if x4.size + 5 ≤ 9223372036854775807 then (some (x4 ++ (⟨#[69, 78, 68, 13, 10]⟩ : ByteArray), 0)) else (none))
def tallboyref32_Write.f (k : Nat) (l0 : List (S52)) : Option (ByteArray × Int) := tallboyref32_Write.l0 k l0 (⟨#[]⟩ : ByteArray) 0
theorem tallboyref32_Write.mono_l : ∀ k, (∀ y0 y1 y2, LeO (tallboyref32_Write.l0 k y0 y1 y2) (tallboyref32_Write.l0 (k + 1) y0 y1 y2))
  | 0 => fun _ _ _ r h => by simp [tallboyref32_Write.l0] at h
  | k + 1 => by
    have ih0 := tallboyref32_Write.mono_l k
    · intro y0 y1 y2
      unfold tallboyref32_Write.l0
      repeat' first
      | (with_reducible exact ih0 _ _ _)
      | (with_reducible exact tallboyref32_may.mono _ _ _)
      | (with_reducible exact LeO.refl _)
      | (with_reducible exact LeO.none _)
      | (with_reducible refine LeO.ite ?_ ?_)
      | (with_reducible refine LeO.bind ?_ (fun _ => ?_))
      | exact ih0 _ _ _
      | exact tallboyref32_may.mono _ _ _
      | exact LeO.none _
      | refine LeO.ite ?_ ?_
      | refine LeO.bind ?_ (fun _ => ?_)
theorem tallboyref32_Write.mono : ∀ a0 k, LeO (tallboyref32_Write.f k a0) (tallboyref32_Write.f (k + 1) a0) := by
  intro a0 k
  have ih0 := tallboyref32_Write.mono_l k
  unfold tallboyref32_Write.f
  repeat' first
      | (with_reducible exact ih0 _ _ _)
      | (with_reducible exact tallboyref32_may.mono _ _ _)
      | (with_reducible exact LeO.refl _)
      | (with_reducible exact LeO.none _)
      | (with_reducible refine LeO.ite ?_ ?_)
      | (with_reducible refine LeO.bind ?_ (fun _ => ?_))
      | exact ih0 _ _ _
      | exact tallboyref32_may.mono _ _ _
      | exact LeO.none _
      | refine LeO.ite ?_ ?_
      | refine LeO.bind ?_ (fun _ => ?_)
set_option maxHeartbeats 8000000 in
set_option maxRecDepth 100000 in
theorem tallboyref32_Write.calls (k : Nat) (A0 : Option Addr) (c0 : Nat) (l0 : List (S52)) (r1 : ByteArray) (r2 : Int) (w : World) (hr0 : Kd.C k52 w A0 l0.length l0) (hc0 : l0.length ≤ c0) (h : tallboyref32_Write.f k l0 = some (r1, r2)) :
    Calls Tryd.prog 21 #[.slice A0 l0.length c0] w fun e w' => e = .returned (.tuple #[.string r1, .int .i64 r2]) ∧ Below w.heap.size w w' := by
  have hu52 := Tryd.underlying52
  have HR0 := Aside0.mk hr0
  have HC0 := Aside0.mk hc0
  clear hr0 hc0
  have HB := Aside0.mk (Below.refl w.heap.size w)
  have H : (tallboyref32_Write.l0 k l0 (⟨#[]⟩ : ByteArray) 0) = some (r1, r2) := h
  clear h
  have H' := Aside0.mk H
  clear H
  go_enter Tryd.func21, Tryd.ntmps21
  go_wp2
  repeat (go_quiet (fail); try go_wp2)
  go_loopg [4, 5] k (fun kq v4 v5 w' => ∃ (x4_1 : ByteArray) (x5_1 : Int), v4 = .string x4_1 ∧ v5 = .int .i64 x5_1 ∧ Aside0 (tallboyref32_Write.l0 kq l0 x4_1 x5_1 = some (r1, r2)) ∧ Aside0 (kq ≤ k) ∧ Aside0 (Below w.heap.size w w'))
  case atStart => exact ⟨((⟨#[]⟩ : ByteArray)), (0), (by first | rfl | (simp; done) | (simp [*]; done)), (by first | rfl | (simp; done) | (simp [*]; done)), H', ⟨Nat.le_refl _⟩, ⟨by repeat (first | (with_reducible first | exact HB.out | apply below_alloc | apply pw_below_drewN | apply below_drew1) | exact HB.out)⟩⟩
  case round =>
    clear H'
    obtain ⟨x4_1, x5_1, rfl, rfl, HA, HK1, HB⟩ := hrel
    cases gk with
    | zero => exact absurd HA.out (by simp [tallboyref32_Write.l0])
    | succ k1 =>
      have H := HA.out
      clear HA
      simp only [tallboyref32_Write.l0] at H
      by_cases c2 : x5_1 < (l0.length : Int)
      · rw [if_pos c2] at H
        have c2b0 : decide (x5_1 < (l0.length : Int)) = true := decide_eq_true c2
        clear c2
        by_cases c3 : 0 ≤ x5_1
        · rw [if_pos c3] at H
          have c3b0 : decide (0 ≤ x5_1) = true := decide_eq_true c3
          clear c3
          replace H := Option.bind_eq_some_iff.mp H
          obtain ⟨t121, A40, H⟩ := H
          replace H : (if t121 = true then (if x4_1.size + 5 ≤ 9223372036854775807 then (if (x4_1 ++ (⟨#[83, 84, 65, 84, 32]⟩ : ByteArray)).size + ((rd_T52 l0 x5_1).f0).size ≤ 9223372036854775807 then (if ((x4_1 ++ (⟨#[83, 84, 65, 84, 32]⟩ : ByteArray)) ++ ((rd_T52 l0 x5_1).f0)).size + 1 ≤ 9223372036854775807 then (if (((x4_1 ++ (⟨#[83, 84, 65, 84, 32]⟩ : ByteArray)) ++ ((rd_T52 l0 x5_1).f0)) ++ (⟨#[32]⟩ : ByteArray)).size + ((rd_T52 l0 x5_1).f1).size ≤ 9223372036854775807 then (if ((((x4_1 ++ (⟨#[83, 84, 65, 84, 32]⟩ : ByteArray)) ++ ((rd_T52 l0 x5_1).f0)) ++ (⟨#[32]⟩ : ByteArray)) ++ ((rd_T52 l0 x5_1).f1)).size + 2 ≤ 9223372036854775807 then (tallboyref32_Write.l0 k1 l0 (((((x4_1 ++ (⟨#[83, 84, 65, 84, 32]⟩ : ByteArray)) ++ ((rd_T52 l0 x5_1).f0)) ++ (⟨#[32]⟩ : ByteArray)) ++ ((rd_T52 l0 x5_1).f1)) ++ (⟨#[13, 10]⟩ : ByteArray)) (wrap64 (x5_1 + 1))) else (none)) else (none)) else (none)) else (none)) else (none)) else (some ((⟨#[]⟩ : ByteArray), 6))) = some (r1, r2) := H
          have A4 := Aside0.mk A40
          clear A40
          by_cases c5 : t121 = true
          · subst c5
            have H1 : (if x4_1.size + 5 ≤ 9223372036854775807 then (if (x4_1 ++ (⟨#[83, 84, 65, 84, 32]⟩ : ByteArray)).size + ((rd_T52 l0 x5_1).f0).size ≤ 9223372036854775807 then (if ((x4_1 ++ (⟨#[83, 84, 65, 84, 32]⟩ : ByteArray)) ++ ((rd_T52 l0 x5_1).f0)).size + 1 ≤ 9223372036854775807 then (if (((x4_1 ++ (⟨#[83, 84, 65, 84, 32]⟩ : ByteArray)) ++ ((rd_T52 l0 x5_1).f0)) ++ (⟨#[32]⟩ : ByteArray)).size + ((rd_T52 l0 x5_1).f1).size ≤ 9223372036854775807 then (if ((((x4_1 ++ (⟨#[83, 84, 65, 84, 32]⟩ : ByteArray)) ++ ((rd_T52 l0 x5_1).f0)) ++ (⟨#[32]⟩ : ByteArray)) ++ ((rd_T52 l0 x5_1).f1)).size + 2 ≤ 9223372036854775807 then (tallboyref32_Write.l0 k1 l0 (((((x4_1 ++ (⟨#[83, 84, 65, 84, 32]⟩ : ByteArray)) ++ ((rd_T52 l0 x5_1).f0)) ++ (⟨#[32]⟩ : ByteArray)) ++ ((rd_T52 l0 x5_1).f1)) ++ (⟨#[13, 10]⟩ : ByteArray)) (wrap64 (x5_1 + 1))) else (none)) else (none)) else (none)) else (none)) else (none)) = some (r1, r2) := by rw [if_pos rfl] at H; exact H
            clear H
            have H := H1
            clear H1
            by_cases c6 : x4_1.size + 5 ≤ 9223372036854775807
            · rw [if_pos c6] at H
              have c6b0 := eq_true c6
              have c6b1 : decide (x4_1.size + 5 ≤ 9223372036854775807) = true := decide_eq_true c6
              try have c6b2 : (9223372036854775807 < x4_1.size + 5) = False := eq_false (Nat.not_lt.2 c6)
              by_cases c7 : (x4_1 ++ (⟨#[83, 84, 65, 84, 32]⟩ : ByteArray)).size + ((rd_T52 l0 x5_1).f0).size ≤ 9223372036854775807
              · rw [if_pos c7] at H
                have c7b0 := eq_true c7
                have c7b1 : decide ((x4_1 ++ (⟨#[83, 84, 65, 84, 32]⟩ : ByteArray)).size + ((rd_T52 l0 x5_1).f0).size ≤ 9223372036854775807) = true := decide_eq_true c7
                try have c7b2 : (9223372036854775807 < (x4_1 ++ (⟨#[83, 84, 65, 84, 32]⟩ : ByteArray)).size + ((rd_T52 l0 x5_1).f0).size) = False := eq_false (Nat.not_lt.2 c7)
                try (have c7b3 := c7b2; simp only [ByteArray.size_append', ByteArray.size_mk', List.size_toArray, List.length_cons, List.length_nil, Nat.reduceAdd] at c7b3)
                by_cases c8 : ((x4_1 ++ (⟨#[83, 84, 65, 84, 32]⟩ : ByteArray)) ++ ((rd_T52 l0 x5_1).f0)).size + 1 ≤ 9223372036854775807
                · rw [if_pos c8] at H
                  have c8b0 := eq_true c8
                  have c8b1 : decide (((x4_1 ++ (⟨#[83, 84, 65, 84, 32]⟩ : ByteArray)) ++ ((rd_T52 l0 x5_1).f0)).size + 1 ≤ 9223372036854775807) = true := decide_eq_true c8
                  try have c8b2 : (9223372036854775807 < ((x4_1 ++ (⟨#[83, 84, 65, 84, 32]⟩ : ByteArray)) ++ ((rd_T52 l0 x5_1).f0)).size + 1) = False := eq_false (Nat.not_lt.2 c8)
                  try (have c8b3 := c8b2; simp only [ByteArray.size_append', ByteArray.size_mk', List.size_toArray, List.length_cons, List.length_nil, Nat.reduceAdd] at c8b3)
                  by_cases c9 : (((x4_1 ++ (⟨#[83, 84, 65, 84, 32]⟩ : ByteArray)) ++ ((rd_T52 l0 x5_1).f0)) ++ (⟨#[32]⟩ : ByteArray)).size + ((rd_T52 l0 x5_1).f1).size ≤ 9223372036854775807
                  · rw [if_pos c9] at H
                    have c9b0 := eq_true c9
                    have c9b1 : decide ((((x4_1 ++ (⟨#[83, 84, 65, 84, 32]⟩ : ByteArray)) ++ ((rd_T52 l0 x5_1).f0)) ++ (⟨#[32]⟩ : ByteArray)).size + ((rd_T52 l0 x5_1).f1).size ≤ 9223372036854775807) = true := decide_eq_true c9
                    try have c9b2 : (9223372036854775807 < (((x4_1 ++ (⟨#[83, 84, 65, 84, 32]⟩ : ByteArray)) ++ ((rd_T52 l0 x5_1).f0)) ++ (⟨#[32]⟩ : ByteArray)).size + ((rd_T52 l0 x5_1).f1).size) = False := eq_false (Nat.not_lt.2 c9)
                    try (have c9b3 := c9b2; simp only [ByteArray.size_append', ByteArray.size_mk', List.size_toArray, List.length_cons, List.length_nil, Nat.reduceAdd] at c9b3)
                    by_cases c10 : ((((x4_1 ++ (⟨#[83, 84, 65, 84, 32]⟩ : ByteArray)) ++ ((rd_T52 l0 x5_1).f0)) ++ (⟨#[32]⟩ : ByteArray)) ++ ((rd_T52 l0 x5_1).f1)).size + 2 ≤ 9223372036854775807
                    · rw [if_pos c10] at H
                      have c10b0 := eq_true c10
                      have c10b1 : decide (((((x4_1 ++ (⟨#[83, 84, 65, 84, 32]⟩ : ByteArray)) ++ ((rd_T52 l0 x5_1).f0)) ++ (⟨#[32]⟩ : ByteArray)) ++ ((rd_T52 l0 x5_1).f1)).size + 2 ≤ 9223372036854775807) = true := decide_eq_true c10
                      try have c10b2 : (9223372036854775807 < ((((x4_1 ++ (⟨#[83, 84, 65, 84, 32]⟩ : ByteArray)) ++ ((rd_T52 l0 x5_1).f0)) ++ (⟨#[32]⟩ : ByteArray)) ++ ((rd_T52 l0 x5_1).f1)).size + 2) = False := eq_false (Nat.not_lt.2 c10)
                      try (have c10b3 := c10b2; simp only [ByteArray.size_append', ByteArray.size_mk', List.size_toArray, List.length_cons, List.length_nil, Nat.reduceAdd] at c10b3)
                      have H' := Aside0.mk H
                      clear H
                      have p120 : 0 ≤ (x5_1 : Int) := of_decide_eq_true (by first | (with_reducible assumption) | assumption)
                      have q120 : x5_1 < (l0.length : Int) := of_decide_eq_true (by first | (with_reducible assumption) | assumption)
                      obtain ⟨ad120, e120, hx120_0, hx120_1⟩ := at_T52 HR0.out x5_1 p120 q120
                      cases e120
                      replace hx120_0 := (HB.out.cell (World.block_lt_of_cell? w _ hx120_0)).trans hx120_0
                      replace hx120_1 := (HB.out.cell (World.block_lt_of_cell? w _ hx120_1)).trans hx120_1
                      replace p120 := eq_true p120
                      replace q120 := eq_true q120
                      go_wp2_with (first | (go_at_call 48; (with_reducible refine (tallboyref32_may.calls k1 ((rd_T52 l0 x5_1).f0) ((rd_T52 l0 x5_1).f1) true _ A4.out).mono ?_); rintro e w11 ⟨rfl, hb⟩; have n0_ := Aside0.mk (below_step (by repeat (first | (with_reducible first | exact HB.out | apply below_alloc | apply pw_below_drewN | apply below_drew1) | exact HB.out)) hb); clear HB; have HB := n0_; clear n0_; (try clear hb); (try clear hb2); (try clear hk); (try clear hi); have p122 : 0 ≤ (x5_1 : Int) := of_decide_eq_true (by first | (with_reducible assumption) | assumption); have q122 : x5_1 < (l0.length : Int) := of_decide_eq_true (by first | (with_reducible assumption) | assumption); obtain ⟨ad122, e122, hx122_0, hx122_1⟩ := at_T52 HR0.out x5_1 p122 q122; obtain rfl : ad120 = ad122 := (by injection e122); replace hx122_0 := (HB.out.cell (World.block_lt_of_cell? w _ hx122_0)).trans hx122_0; replace hx122_1 := (HB.out.cell (World.block_lt_of_cell? w _ hx122_1)).trans hx122_1; replace p122 := eq_true p122; replace q122 := eq_true q122; have p123 : 0 ≤ (x5_1 : Int) := of_decide_eq_true (by first | (with_reducible assumption) | assumption); have q123 : x5_1 < (l0.length : Int) := of_decide_eq_true (by first | (with_reducible assumption) | assumption); obtain ⟨ad123, e123, hx123_0, hx123_1⟩ := at_T52 HR0.out x5_1 p123 q123; obtain rfl : ad120 = ad123 := (by injection e123); replace hx123_0 := (HB.out.cell (World.block_lt_of_cell? w _ hx123_0)).trans hx123_0; replace hx123_1 := (HB.out.cell (World.block_lt_of_cell? w _ hx123_1)).trans hx123_1; replace p123 := eq_true p123; replace q123 := eq_true q123))
                      repeat (go_quiet (first | (go_at_call 48; (with_reducible refine (tallboyref32_may.calls k1 ((rd_T52 l0 x5_1).f0) ((rd_T52 l0 x5_1).f1) true _ A4.out).mono ?_); rintro e w11 ⟨rfl, hb⟩; have n0_ := Aside0.mk (below_step (by repeat (first | (with_reducible first | exact HB.out | apply below_alloc | apply pw_below_drewN | apply below_drew1) | exact HB.out)) hb); clear HB; have HB := n0_; clear n0_; (try clear hb); (try clear hb2); (try clear hk); (try clear hi); have p122 : 0 ≤ (x5_1 : Int) := of_decide_eq_true (by first | (with_reducible assumption) | assumption); have q122 : x5_1 < (l0.length : Int) := of_decide_eq_true (by first | (with_reducible assumption) | assumption); obtain ⟨ad122, e122, hx122_0, hx122_1⟩ := at_T52 HR0.out x5_1 p122 q122; obtain rfl : ad120 = ad122 := (by injection e122); replace hx122_0 := (HB.out.cell (World.block_lt_of_cell? w _ hx122_0)).trans hx122_0; replace hx122_1 := (HB.out.cell (World.block_lt_of_cell? w _ hx122_1)).trans hx122_1; replace p122 := eq_true p122; replace q122 := eq_true q122; have p123 : 0 ≤ (x5_1 : Int) := of_decide_eq_true (by first | (with_reducible assumption) | assumption); have q123 : x5_1 < (l0.length : Int) := of_decide_eq_true (by first | (with_reducible assumption) | assumption); obtain ⟨ad123, e123, hx123_0, hx123_1⟩ := at_T52 HR0.out x5_1 p123 q123; obtain rfl : ad120 = ad123 := (by injection e123); replace hx123_0 := (HB.out.cell (World.block_lt_of_cell? w _ hx123_0)).trans hx123_0; replace hx123_1 := (HB.out.cell (World.block_lt_of_cell? w _ hx123_1)).trans hx123_1; replace p123 := eq_true p123; replace q123 := eq_true q123)); try go_wp2_with (first | (go_at_call 48; (with_reducible refine (tallboyref32_may.calls k1 ((rd_T52 l0 x5_1).f0) ((rd_T52 l0 x5_1).f1) true _ A4.out).mono ?_); rintro e w11 ⟨rfl, hb⟩; have n0_ := Aside0.mk (below_step (by repeat (first | (with_reducible first | exact HB.out | apply below_alloc | apply pw_below_drewN | apply below_drew1) | exact HB.out)) hb); clear HB; have HB := n0_; clear n0_; (try clear hb); (try clear hb2); (try clear hk); (try clear hi); have p122 : 0 ≤ (x5_1 : Int) := of_decide_eq_true (by first | (with_reducible assumption) | assumption); have q122 : x5_1 < (l0.length : Int) := of_decide_eq_true (by first | (with_reducible assumption) | assumption); obtain ⟨ad122, e122, hx122_0, hx122_1⟩ := at_T52 HR0.out x5_1 p122 q122; obtain rfl : ad120 = ad122 := (by injection e122); replace hx122_0 := (HB.out.cell (World.block_lt_of_cell? w _ hx122_0)).trans hx122_0; replace hx122_1 := (HB.out.cell (World.block_lt_of_cell? w _ hx122_1)).trans hx122_1; replace p122 := eq_true p122; replace q122 := eq_true q122; have p123 : 0 ≤ (x5_1 : Int) := of_decide_eq_true (by first | (with_reducible assumption) | assumption); have q123 : x5_1 < (l0.length : Int) := of_decide_eq_true (by first | (with_reducible assumption) | assumption); obtain ⟨ad123, e123, hx123_0, hx123_1⟩ := at_T52 HR0.out x5_1 p123 q123; obtain rfl : ad120 = ad123 := (by injection e123); replace hx123_0 := (HB.out.cell (World.block_lt_of_cell? w _ hx123_0)).trans hx123_0; replace hx123_1 := (HB.out.cell (World.block_lt_of_cell? w _ hx123_1)).trans hx123_1; replace p123 := eq_true p123; replace q123 := eq_true q123)))
                      go_roundg k1
                      case measure => have := HK1.out; omega
                      case rel => exact ⟨(((((x4_1 ++ (⟨#[83, 84, 65, 84, 32]⟩ : ByteArray)) ++ ((rd_T52 l0 x5_1).f0)) ++ (⟨#[32]⟩ : ByteArray)) ++ ((rd_T52 l0 x5_1).f1)) ++ (⟨#[13, 10]⟩ : ByteArray)), (wrap64 (x5_1 + 1)), (by first | rfl | (simp; done) | (simp [*]; done)), (by first | rfl | (simp; done) | (simp [*]; done)), H', ⟨by have := HK1.out; omega⟩, ⟨by repeat (first | (with_reducible first | exact HB.out | apply below_alloc | apply pw_below_drewN | apply below_drew1) | exact HB.out)⟩⟩
                    · rw [if_neg c10] at H
                      exact absurd H (by simp)
                  · rw [if_neg c9] at H
                    exact absurd H (by simp)
                · rw [if_neg c8] at H
                  exact absurd H (by simp)
              · rw [if_neg c7] at H
                exact absurd H (by simp)
            · rw [if_neg c6] at H
              exact absurd H (by simp)
          · replace c5 := Bool.eq_false_iff.mpr c5
            subst c5
            have H1 : (some ((⟨#[]⟩ : ByteArray), 6)) = some (r1, r2) := by rw [if_neg (show ¬ (false = true) by decide)] at H; exact H
            clear H
            have H := H1
            clear H1
            simp only [Option.some.injEq, Prod.mk.injEq] at H
            obtain ⟨rfl, rfl⟩ := H
            have p120 : 0 ≤ (x5_1 : Int) := of_decide_eq_true (by first | (with_reducible assumption) | assumption)
            have q120 : x5_1 < (l0.length : Int) := of_decide_eq_true (by first | (with_reducible assumption) | assumption)
            obtain ⟨ad120, e120, hx120_0, hx120_1⟩ := at_T52 HR0.out x5_1 p120 q120
            cases e120
            replace hx120_0 := (HB.out.cell (World.block_lt_of_cell? w _ hx120_0)).trans hx120_0
            replace hx120_1 := (HB.out.cell (World.block_lt_of_cell? w _ hx120_1)).trans hx120_1
            replace p120 := eq_true p120
            replace q120 := eq_true q120
            go_wp2_with (first | (go_at_call 48; (with_reducible refine (tallboyref32_may.calls k1 ((rd_T52 l0 x5_1).f0) ((rd_T52 l0 x5_1).f1) false _ A4.out).mono ?_); rintro e w12 ⟨rfl, hb⟩; have n0_ := Aside0.mk (below_step (by repeat (first | (with_reducible first | exact HB.out | apply below_alloc | apply pw_below_drewN | apply below_drew1) | exact HB.out)) hb); clear HB; have HB := n0_; clear n0_; (try clear hb); (try clear hb2); (try clear hk); (try clear hi)))
            repeat (go_quiet (first | (go_at_call 48; (with_reducible refine (tallboyref32_may.calls k1 ((rd_T52 l0 x5_1).f0) ((rd_T52 l0 x5_1).f1) false _ A4.out).mono ?_); rintro e w12 ⟨rfl, hb⟩; have n0_ := Aside0.mk (below_step (by repeat (first | (with_reducible first | exact HB.out | apply below_alloc | apply pw_below_drewN | apply below_drew1) | exact HB.out)) hb); clear HB; have HB := n0_; clear n0_; (try clear hb); (try clear hb2); (try clear hk); (try clear hi))); try go_wp2_with (first | (go_at_call 48; (with_reducible refine (tallboyref32_may.calls k1 ((rd_T52 l0 x5_1).f0) ((rd_T52 l0 x5_1).f1) false _ A4.out).mono ?_); rintro e w12 ⟨rfl, hb⟩; have n0_ := Aside0.mk (below_step (by repeat (first | (with_reducible first | exact HB.out | apply below_alloc | apply pw_below_drewN | apply below_drew1) | exact HB.out)) hb); clear HB; have HB := n0_; clear n0_; (try clear hb); (try clear hb2); (try clear hk); (try clear hi))))
            go_ret2
            exact ⟨by first | rfl | (simp [errW_none, errW_some] <;> rfl) | (simp [*, errW_none, errW_some] <;> rfl), by repeat (first | (with_reducible first | exact HB.out | apply below_alloc | apply pw_below_drewN | apply below_drew1) | exact HB.out)⟩
        · rw [if_neg c3] at H
          exact absurd H (by simp)
      · rw [if_neg c2] at H
        have c2b0 : decide (x5_1 < (l0.length : Int)) = false := decide_eq_false c2
        clear c2
        by_cases c13 : x4_1.size + 5 ≤ 9223372036854775807
        · rw [if_pos c13] at H
          have c13b0 := eq_true c13
          have c13b1 : decide (x4_1.size + 5 ≤ 9223372036854775807) = true := decide_eq_true c13
          try have c13b2 : (9223372036854775807 < x4_1.size + 5) = False := eq_false (Nat.not_lt.2 c13)
          simp only [Option.some.injEq, Prod.mk.injEq] at H
          obtain ⟨rfl, rfl⟩ := H
          go_wp2
          repeat (go_quiet (fail); try go_wp2)
          go_ret2
          exact ⟨by first | rfl | (simp [errW_none, errW_some] <;> rfl) | (simp [*, errW_none, errW_some] <;> rfl), by repeat (first | (with_reducible first | exact HB.out | apply below_alloc | apply pw_below_drewN | apply below_drew1) | exact HB.out)⟩
        · rw [if_neg c13] at H
          exact absurd H (by simp)

end
end Go.Proofs.YtfkcdhcmbdmcdaaDoor.XSw
