/- Put together by wip/pack.py (this session's own program) out of this session's texts; a kit's tool laid the words and the shelf, of which only what is used stands here. Lean checks it. -/
import Derived.Test.YtfboejlemnfndaaGreatDoorPMr1
import Derived.Lib.Hide
import Derived.Laws.RangeString
import Derived.Laws.RangeAny
import Derived.Maps.OwnSet
import Derived.Maps.OwnOps
import Derived.Below
import Derived.Lib.ItoaMem
import Derived.Lib.AppendIntMem
section
namespace Go.Proofs.YtfboejlemnfndaaGreatDoor.XMr
open Go.RowKit Go.Proofs.YtfboejlemnfndaaGreatDoorW.PrintWords Go.Proofs.YtfboejlemnfndaaGreatDoorW.PrintLast Go.Proofs.YtfboejlemnfndaaGreatDoorW.PrintMore
attribute [local go_sem] extract_sub max2_int min2_int max_two min_two max_three min_three max_four min_four   -- for this text's walks alone
set_option linter.unusedVariables false
set_option linter.unusedSimpArgs false

noncomputable section
def meta_there.f (a0 : Int) : Option (Bool) := if a0 ≥ 1 then (some (decide (a0 ≤ 6))) else (some false)
set_option maxHeartbeats 8000000 in
set_option maxRecDepth 100000 in
theorem meta_there.calls (a0 : Int) (r : Bool) (w : World) (h : meta_there.f a0 = some r) :
 Calls Tryz.prog 58 #[.int .i64 a0] w fun e w' => e = .returned (.bool r) ∧ Drawn0 w w' := by
 have H : (if a0 ≥ 1 then (some (decide (a0 ≤ 6))) else (some false)) = some r := h
 clear h
 by_cases c2 : a0 ≥ 1
 · rw [if_pos c2] at H
   have c2b0 : decide (1 ≤ a0) = true := decide_eq_true c2
   clear c2
   obtain rfl := Option.some.inj H
   go_enter Tryz.func58, Tryz.ntmps58
   go_wp2
   go_ret
   exact ⟨rsA, drA⟩
 rw [if_neg c2] at H
 have c2b0 : decide (1 ≤ a0) = false := decide_eq_false c2
 clear c2
 obtain rfl := Option.some.inj H
 go_enter Tryz.func58, Tryz.ntmps58
 go_wp2
 go_ret
 exact ⟨rsA, drA⟩

mutual
def fnv_Key.j0 : Nat → ByteArray → Bool → Option (Bool)
 | 0, _, _ => none
 | k + 1, x0, x10 => if x10 = true then (some false) else (fnv_Key.l0 k x0 (x0.size : Int) 0)
def fnv_Key.l0 : Nat → ByteArray → Int → Int → Option (Bool)
 | 0, _, _, _ => none
 | k + 1, x0, x12, x13 => if x13 < x12 then (if 0 ≤ x13 then (if x13 < (x0.size : Int) then (if (bt x0 x13) < 33 then (some false) else (if (bt x0 x13) > 126 then (some false) else (fnv_Key.l0 k x0 x12 (wrap64 (x13 + 1))))) else (none)) else (none)) else (some true)
end
def fnv_Key.f (k : Nat) (a0 : ByteArray) : Option (Bool) := if a0.toList = ([] : List UInt8) then (fnv_Key.j0 k a0 true) else (fnv_Key.j0 k a0 (decide ((a0.size : Int) > 32)))
theorem fnv_Key.mono_l : ∀ k, (∀ y0 y1, LeO (fnv_Key.j0 k y0 y1) (fnv_Key.j0 (k + 1) y0 y1)) ∧ (∀ y0 y1 y2, LeO (fnv_Key.l0 k y0 y1 y2) (fnv_Key.l0 (k + 1) y0 y1 y2))
 | 0 => ⟨fun _ _ r h => by simp [fnv_Key.j0] at h, fun _ _ _ r h => by simp [fnv_Key.l0] at h⟩
 | k + 1 => by
  obtain ⟨ih0, ih1⟩ := fnv_Key.mono_l k
  refine ⟨?_, ?_⟩
  all_goals
   intros
   first | unfold fnv_Key.j0 | unfold fnv_Key.l0
   repeat' first
   | (with_reducible exact ih0 _ _)
   | (with_reducible exact ih1 _ _ _)
   | (with_reducible exact LeO.refl _)
   | (with_reducible exact LeO.none _)
   | (with_reducible refine LeO.ite ?_ ?_)
   | (with_reducible refine LeO.bind ?_ (fun _ => ?_))
   | exact ih0 _ _
   | exact ih1 _ _ _
   | exact LeO.none _
   | refine LeO.ite ?_ ?_
   | refine LeO.bind ?_ (fun _ => ?_)
theorem fnv_Key.mono : ∀ a0 k, LeO (fnv_Key.f k a0) (fnv_Key.f (k + 1) a0) := by
 intro a0 k
 obtain ⟨ih0, ih1⟩ := fnv_Key.mono_l k
 unfold fnv_Key.f
 repeat' first
  | (with_reducible exact ih0 _ _)
  | (with_reducible exact ih1 _ _ _)
  | (with_reducible exact LeO.refl _)
  | (with_reducible exact LeO.none _)
  | (with_reducible refine LeO.ite ?_ ?_)
  | (with_reducible refine LeO.bind ?_ (fun _ => ?_))
  | exact ih0 _ _
  | exact ih1 _ _ _
  | exact LeO.none _
  | refine LeO.ite ?_ ?_
  | refine LeO.bind ?_ (fun _ => ?_)
set_option maxHeartbeats 8000000 in
set_option maxRecDepth 100000 in
theorem fnv_Key.calls (k : Nat) (a0 : ByteArray) (r : Bool) (w : World) (h : fnv_Key.f k a0 = some r) :
 Calls Tryz.prog 77 #[.string a0] w fun e w' => e = .returned (.bool r) ∧ Drawn0 w w' := by
 have H : (if a0.toList = ([] : List UInt8) then (fnv_Key.j0 k a0 true) else (fnv_Key.j0 k a0 (decide ((a0.size : Int) > 32)))) = some r := h
 clear h
 have HC2 := Aside0.mk H
 clear H
 go_enter Tryz.func77, Tryz.ntmps77
 go_upto_region 1 with (fail)
 go_cut [10] (fun v10 wc => ∃ (kq : Nat) (x10_1 : Bool), v10 = .bool x10_1 ∧ Aside0 (fnv_Key.j0 kq a0 x10_1 = some r) ∧ Aside0 (kq ≤ k) ∧ Drawn0 w wc)
 case first =>
  have H := HC2.out
  clear HC2
  by_cases c3 : a0.toList = ([] : List UInt8)
  · rw [if_pos c3] at H
    have c3b0 : (a0.toList == ([] : List UInt8)) = true := beq_iff_eq.mpr c3
    have c3e0 : a0.toList.isEmpty = true := by simpa using c3b0
    have c3b1 : (a0.toList != ([] : List UInt8)) = false := bne_eq_false_iff_eq.mpr c3
    clear c3
    (first | rw [c3b0] | rw [c3e0] | (simp only [i64_w, i32_w]; rw [c3b0]) | skip)
    have H' := Aside0.mk H
    clear H
    go_wp2
    go_meet
    case rel => exact ⟨_, (true), rsA, H', ⟨by first | omega | exact Nat.le_refl _⟩, drA⟩
  rw [if_neg c3] at H
  have c3b0 : (a0.toList == ([] : List UInt8)) = false := beq_eq_false_iff_ne.mpr c3
  have c3e0 : a0.toList.isEmpty = false := by simpa using c3b0
  have c3b1 : (a0.toList != ([] : List UInt8)) = true := bne_iff_ne.mpr c3
  (first | rw [c3b0] | rw [c3e0] | (simp only [i64_w, i32_w]; rw [c3b0]) | skip)
  have H' := Aside0.mk H
  clear H
  go_wp2
  go_meet
  case rel => exact ⟨_, (decide ((a0.size : Int) > 32)), rsA, H', ⟨by first | omega | exact Nat.le_refl _⟩, drA⟩
 clear HC2
 (try clear p2); (try clear c3); (try clear c3b0); (try clear c3e0); (try clear c3b1)
 obtain ⟨kq, x10_1, rfl, HA, HJ1, ⟨mc1, rfl⟩⟩ := hcut
 cases kq with
 | zero => exact absurd HA.out (by simp [fnv_Key.j0])
 | succ kj1 =>
  have H := HA.out
  clear HA
  simp only [fnv_Key.j0] at H
  by_cases c4 : x10_1 = true
  · subst c4
    have H1 : (some false) = some r := by rw [if_pos rfl] at H; exact H
    clear H
    have H := H1
    clear H1
    obtain rfl := Option.some.inj H
    go_wp2
    go_ret
    exact ⟨rsA, drA⟩
  replace c4 := Bool.eq_false_iff.mpr c4
  subst c4
  have H1 : (fnv_Key.l0 kj1 a0 (a0.size : Int) 0) = some r := by rw [if_neg (show ¬ (false = true) by decide)] at H; exact H
  clear H
  have H := H1
  clear H1
  have H' := Aside0.mk H
  clear H
  go_wp2
  go_loopg [13] kj1 (fun kq v13 w' => ∃ (x13_2 : Int), v13 = .int .i64 x13_2 ∧ Aside0 (fnv_Key.l0 kq a0 (a0.size : Int) x13_2 = some r) ∧ Aside0 (kq ≤ kj1) ∧ Drawn0 w w')
  case atStart => exact ⟨(0), rsA, H', ⟨Nat.le_refl _⟩, drA⟩
  case round =>
   clear H'
   (try clear c1); (try clear p2); (try clear c3); (try clear c3b0); (try clear c3e0); (try clear c3b1); (try clear c4); (try clear p2)
   obtain ⟨x13_2, rfl, HA, HK2, ⟨m2, rfl⟩⟩ := hrel
   cases gk with
   | zero => exact absurd HA.out (by simp [fnv_Key.l0])
   | succ k2 =>
    have H := HA.out
    clear HA
    simp only [fnv_Key.l0] at H
    by_cases c5 : x13_2 < (a0.size : Int)
    · rw [if_pos c5] at H
      have c5b0 : decide (x13_2 < (a0.size : Int)) = true := decide_eq_true c5
      clear c5
      by_cases c6 : 0 ≤ x13_2
      · rw [if_pos c6] at H
        have c6b0 : decide (0 ≤ x13_2) = true := decide_eq_true c6
        clear c6
        by_cases c7 : x13_2 < (a0.size : Int)
        · rw [if_pos c7] at H
          have c7b0 : decide (x13_2 < (a0.size : Int)) = true := decide_eq_true c7
          clear c7
          by_cases c9 : (bt a0 x13_2) < 33
          · rw [if_pos c9] at H
            have c9b0 : decide ((bt a0 x13_2) < 33) = true := decide_eq_true c9
            clear c9
            obtain rfl := Option.some.inj H
            have p8 : 0 ≤ (x13_2 : Int) := of_decide_eq_true asA
            have q8 : x13_2 < (a0.size : Int) := of_decide_eq_true asA
            have hx8 := bt_at a0 x13_2
            replace p8 := eq_true p8
            replace q8 := eq_true q8
            go_wp2
            go_ret
            exact ⟨rsA, drA⟩
          rw [if_neg c9] at H
          have c9b0 : decide ((bt a0 x13_2) < 33) = false := decide_eq_false c9
          clear c9
          by_cases c11 : (bt a0 x13_2) > 126
          · rw [if_pos c11] at H
            have c11b0 : decide (126 < (bt a0 x13_2)) = true := decide_eq_true c11
            clear c11
            obtain rfl := Option.some.inj H
            have p8 : 0 ≤ (x13_2 : Int) := of_decide_eq_true asA
            have q8 : x13_2 < (a0.size : Int) := of_decide_eq_true asA
            have hx8 := bt_at a0 x13_2
            replace p8 := eq_true p8
            replace q8 := eq_true q8
            have p10 : 0 ≤ (x13_2 : Int) := of_decide_eq_true asA
            have q10 : x13_2 < (a0.size : Int) := of_decide_eq_true asA
            have hx10 := bt_at a0 x13_2
            replace p10 := eq_true p10
            replace q10 := eq_true q10
            go_wp2
            go_ret
            exact ⟨rsA, drA⟩
          rw [if_neg c11] at H
          have c11b0 : decide (126 < (bt a0 x13_2)) = false := decide_eq_false c11
          clear c11
          have H' := Aside0.mk H
          clear H
          have p8 : 0 ≤ (x13_2 : Int) := of_decide_eq_true asA
          have q8 : x13_2 < (a0.size : Int) := of_decide_eq_true asA
          have hx8 := bt_at a0 x13_2
          replace p8 := eq_true p8
          replace q8 := eq_true q8
          have p10 : 0 ≤ (x13_2 : Int) := of_decide_eq_true asA
          have q10 : x13_2 < (a0.size : Int) := of_decide_eq_true asA
          have hx10 := bt_at a0 x13_2
          replace p10 := eq_true p10
          replace q10 := eq_true q10
          go_wp2
          go_roundg k2
          case measure => have := HJ1.out; have := HK2.out; omega
          case rel => exact ⟨(wrap64 (x13_2 + 1)), rsA, H', ⟨by have := HJ1.out; have := HK2.out; omega⟩, drA⟩
        rw [if_neg c7] at H
        exact absurd H (by simp)
      rw [if_neg c6] at H
      exact absurd H (by simp)
    rw [if_neg c5] at H
    have c5b0 : decide (x13_2 < (a0.size : Int)) = false := decide_eq_false c5
    clear c5
    obtain rfl := Option.some.inj H
    go_wp2
    go_ret
    exact ⟨rsA, drA⟩

def meta_key.f (k : Nat) (a0_0 : Int) (a0_1 : ByteArray) (a0_2 : Int) (l0_3 : List (S61)) : Option (Bool) := (meta_Find.f a0_0 a0_1 a0_2 l0_3 98).bind fun bt114 => (if a0_0 = 5 then (some (a0_1.toList == ([] : List UInt8))) else (if bt114.2 = true then (if (a0_1.size : Int) ≥ 1 then (some (decide ((a0_1.size : Int) ≤ 32))) else (some false)) else ((fnv_Key.f k a0_1).bind fun t116 => (some t116))))
theorem meta_key.mono : ∀ a0 a1 a2 a3 k, LeO (meta_key.f k a0 a1 a2 a3) (meta_key.f (k + 1) a0 a1 a2 a3) := by
 intro a0 a1 a2 a3 k
 unfold meta_key.f
 repeat' first
  | (with_reducible exact fnv_Key.mono _ _)
  | (with_reducible exact LeO.refl _)
  | (with_reducible exact LeO.none _)
  | (with_reducible refine LeO.ite ?_ ?_)
  | (with_reducible refine LeO.bind ?_ (fun _ => ?_))
  | exact fnv_Key.mono _ _
  | exact LeO.none _
  | refine LeO.ite ?_ ?_
  | refine LeO.bind ?_ (fun _ => ?_)
set_option maxHeartbeats 8000000 in
set_option maxRecDepth 100000 in
theorem meta_key.calls (k : Nat) (a0_0 : Int) (a0_1 : ByteArray) (a0_2 : Int) (A0_3 : Option Addr) (c0_3 : Nat) (l0_3 : List (S61)) (r : Bool) (w : World) (hr0_3 : Kd.C k61 w A0_3 l0_3.length l0_3) (hc0_3 : l0_3.length ≤ c0_3) (h : meta_key.f k a0_0 a0_1 a0_2 l0_3 = some r) :
 Calls Tryz.prog 59 #[.agg #[.int .i64 a0_0, .string a0_1, .int .i64 a0_2, .slice A0_3 l0_3.length c0_3]] w fun e w' => e = .returned (.bool r) ∧ Below w.heap.size w w' := by
 have hu31 := Tryz.underlying31
 have HR0_3 := Aside0.mk hr0_3
 have HC0_3 := Aside0.mk hc0_3
 clear hr0_3 hc0_3
 have HB := Aside0.mk (Below.refl w.heap.size w)
 have H : ((meta_Find.f a0_0 a0_1 a0_2 l0_3 98).bind fun bt114 => (if a0_0 = 5 then (some (a0_1.toList == ([] : List UInt8))) else (if bt114.2 = true then (if (a0_1.size : Int) ≥ 1 then (some (decide ((a0_1.size : Int) ≤ 32))) else (some false)) else ((fnv_Key.f k a0_1).bind fun t116 => (some t116))))) = some r := h
 clear h
 replace H := Option.bind_eq_some_iff.mp H
 obtain ⟨⟨t114, t115⟩, A20, H⟩ := H
 replace H : (if a0_0 = 5 then (some (a0_1.toList == ([] : List UInt8))) else (if t115 = true then (if (a0_1.size : Int) ≥ 1 then (some (decide ((a0_1.size : Int) ≤ 32))) else (some false)) else ((fnv_Key.f k a0_1).bind fun t116 => (some t116)))) = some r := H
 have A2 := Aside0.mk A20
 clear A20
 by_cases c3 : a0_0 = 5
 · rw [if_pos c3] at H
   have c3b0 : (a0_0 == 5) = true := beq_iff_eq.mpr c3
   have c3b1 : (a0_0 != 5) = false := bne_eq_false_iff_eq.mpr c3
   clear c3
   obtain rfl := Option.some.inj H
   go_enter Tryz.func59, Tryz.ntmps59
   go_wp2_with (first | ((with_reducible refine gate_dst (N := 1) rfl ?_); (try (refine gate_guard (by rfl) ?_; dsimp only)); refine box_event ?hg (N := 1) ?hd (cs := #[.int .i64 a0_0, .string a0_1, .int .i64 a0_2, .slice A0_3 l0_3.length c0_3]) (t := 31) ?hr ?_; (case hd => rfl); (case hg => rfl); (case hr => first | (go_simp; done) | (go_simp; rfl)); intro gb113 hg w4 hbox hb; have n0_ := Aside0.mk (below_step (hbA HB.out) hb); have n1_ := Aside0.mk (hbox); have n2_ := Aside0.mk ((by rw [hg]; exact (below_size (hbA HB.out)) : w.heap.size ≤ gb113)); have n3_ := Aside0.mk ((by rw [hg]; exact (below_size (hbA HB.out)) : w.heap.size ≤ gb113)); clear HB; have HB := n0_; have BK113 := n1_; have GW113 := n2_; have GE113 := n3_; clear n0_ n1_ n2_ n3_; clear hb hbox hg; obtain ⟨hcz5_0, hcz5_1, hcz5_2, hcz5_3, hfz5_0, hfz5_1, hfz5_2, hfz5_3⟩ := blkA4 BK113.out) | ((with_reducible refine gate_callee (f := 15) rfl ?_); refine goesL_ (some 7) rfl rfl Tryz.func15 (by kernel_rfl) rfl #[.agg #[.int .i64 a0_0, .string a0_1, .int .i64 a0_2, .slice A0_3 l0_3.length c0_3], .int .u8 98] rfl argA ?_; (with_reducible refine (meta_Find.calls a0_0 a0_1 a0_2 _ _ l0_3 98 t114 t115 _ ?side1 ?side2 A2.out).mono ?_); (case side1 => repeat (first | exact (Kd.C_below HR0_3.out HB.out) | (with_reducible refine Kd.C_alloc ?_ _) | (with_reducible refine Kd.C_drewN ?_ _) | (with_reducible refine Kd.C_drew ?_))); (case side2 => exact HC0_3.out); rintro e w6 ⟨rfl, hb⟩; refine ⟨_, rfl, ?_⟩; replace BK113 := Aside0.mk (blk_below (g := gb113) (o := .cells #[.int .i64 a0_0, .string a0_1, .int .i64 a0_2, .slice A0_3 l0_3.length c0_3] 31 (0, 0)) (rbA BK113.out) hb); replace HB := Aside0.mk (below_step (hbA HB.out) hb); (try clear hb); (try clear hb2); (try clear hk); (try clear hi); obtain ⟨hcz7_0, hcz7_1, hcz7_2, hcz7_3, hfz7_0, hfz7_1, hfz7_2, hfz7_3⟩ := blkA4 BK113.out))
   go_ret
   exact ⟨reA, hbA HB.out⟩
 rw [if_neg c3] at H
 have c3b0 : (a0_0 == 5) = false := beq_eq_false_iff_ne.mpr c3
 have c3b1 : (a0_0 != 5) = true := bne_iff_ne.mpr c3
 by_cases c8 : t115 = true
 · subst c8
   have H1 : (if (a0_1.size : Int) ≥ 1 then (some (decide ((a0_1.size : Int) ≤ 32))) else (some false)) = some r := by rw [if_pos rfl] at H; exact H
   clear H
   have H := H1
   clear H1
   by_cases c9 : (a0_1.size : Int) ≥ 1
   · rw [if_pos c9] at H
     have c9b0 : decide (1 ≤ (a0_1.size : Int)) = true := decide_eq_true c9
     have c9b1 : decide (1 ≤ a0_1.size) = true := decide_eq_true (by omega)
     clear c9
     obtain rfl := Option.some.inj H
     go_enter Tryz.func59, Tryz.ntmps59
     go_wp2_with (first | ((with_reducible refine gate_dst (N := 1) rfl ?_); (try (refine gate_guard (by rfl) ?_; dsimp only)); refine box_event ?hg (N := 1) ?hd (cs := #[.int .i64 a0_0, .string a0_1, .int .i64 a0_2, .slice A0_3 l0_3.length c0_3]) (t := 31) ?hr ?_; (case hd => rfl); (case hg => rfl); (case hr => first | (go_simp; done) | (go_simp; rfl)); intro gb113 hg w10 hbox hb; have n0_ := Aside0.mk (below_step (hbA HB.out) hb); have n1_ := Aside0.mk (hbox); have n2_ := Aside0.mk ((by rw [hg]; exact (below_size (hbA HB.out)) : w.heap.size ≤ gb113)); have n3_ := Aside0.mk ((by rw [hg]; exact (below_size (hbA HB.out)) : w.heap.size ≤ gb113)); clear HB; have HB := n0_; have BK113 := n1_; have GW113 := n2_; have GE113 := n3_; clear n0_ n1_ n2_ n3_; clear hb hbox hg; obtain ⟨hcz11_0, hcz11_1, hcz11_2, hcz11_3, hfz11_0, hfz11_1, hfz11_2, hfz11_3⟩ := blkA4 BK113.out) | ((with_reducible refine gate_callee (f := 15) rfl ?_); refine goesL_ (some 7) rfl rfl Tryz.func15 (by kernel_rfl) rfl #[.agg #[.int .i64 a0_0, .string a0_1, .int .i64 a0_2, .slice A0_3 l0_3.length c0_3], .int .u8 98] rfl argA ?_; (with_reducible refine (meta_Find.calls a0_0 a0_1 a0_2 _ _ l0_3 98 t114 true _ ?side1 ?side2 A2.out).mono ?_); (case side1 => repeat (first | exact (Kd.C_below HR0_3.out HB.out) | (with_reducible refine Kd.C_alloc ?_ _) | (with_reducible refine Kd.C_drewN ?_ _) | (with_reducible refine Kd.C_drew ?_))); (case side2 => exact HC0_3.out); rintro e w12 ⟨rfl, hb⟩; refine ⟨_, rfl, ?_⟩; replace BK113 := Aside0.mk (blk_below (g := gb113) (o := .cells #[.int .i64 a0_0, .string a0_1, .int .i64 a0_2, .slice A0_3 l0_3.length c0_3] 31 (0, 0)) (rbA BK113.out) hb); replace HB := Aside0.mk (below_step (hbA HB.out) hb); (try clear hb); (try clear hb2); (try clear hk); (try clear hi); obtain ⟨hcz13_0, hcz13_1, hcz13_2, hcz13_3, hfz13_0, hfz13_1, hfz13_2, hfz13_3⟩ := blkA4 BK113.out))
     go_ret
     exact ⟨reA, hbA HB.out⟩
   rw [if_neg c9] at H
   have c9b0 : decide (1 ≤ (a0_1.size : Int)) = false := decide_eq_false c9
   have c9b1 : decide (1 ≤ a0_1.size) = false := decide_eq_false (by omega)
   clear c9
   obtain rfl := Option.some.inj H
   go_enter Tryz.func59, Tryz.ntmps59
   go_wp2_with (first | ((with_reducible refine gate_dst (N := 1) rfl ?_); (try (refine gate_guard (by rfl) ?_; dsimp only)); refine box_event ?hg (N := 1) ?hd (cs := #[.int .i64 a0_0, .string a0_1, .int .i64 a0_2, .slice A0_3 l0_3.length c0_3]) (t := 31) ?hr ?_; (case hd => rfl); (case hg => rfl); (case hr => first | (go_simp; done) | (go_simp; rfl)); intro gb113 hg w14 hbox hb; have n0_ := Aside0.mk (below_step (hbA HB.out) hb); have n1_ := Aside0.mk (hbox); have n2_ := Aside0.mk ((by rw [hg]; exact (below_size (hbA HB.out)) : w.heap.size ≤ gb113)); have n3_ := Aside0.mk ((by rw [hg]; exact (below_size (hbA HB.out)) : w.heap.size ≤ gb113)); clear HB; have HB := n0_; have BK113 := n1_; have GW113 := n2_; have GE113 := n3_; clear n0_ n1_ n2_ n3_; clear hb hbox hg; obtain ⟨hcz15_0, hcz15_1, hcz15_2, hcz15_3, hfz15_0, hfz15_1, hfz15_2, hfz15_3⟩ := blkA4 BK113.out) | ((with_reducible refine gate_callee (f := 15) rfl ?_); refine goesL_ (some 7) rfl rfl Tryz.func15 (by kernel_rfl) rfl #[.agg #[.int .i64 a0_0, .string a0_1, .int .i64 a0_2, .slice A0_3 l0_3.length c0_3], .int .u8 98] rfl argA ?_; (with_reducible refine (meta_Find.calls a0_0 a0_1 a0_2 _ _ l0_3 98 t114 true _ ?side1 ?side2 A2.out).mono ?_); (case side1 => repeat (first | exact (Kd.C_below HR0_3.out HB.out) | (with_reducible refine Kd.C_alloc ?_ _) | (with_reducible refine Kd.C_drewN ?_ _) | (with_reducible refine Kd.C_drew ?_))); (case side2 => exact HC0_3.out); rintro e w16 ⟨rfl, hb⟩; refine ⟨_, rfl, ?_⟩; replace BK113 := Aside0.mk (blk_below (g := gb113) (o := .cells #[.int .i64 a0_0, .string a0_1, .int .i64 a0_2, .slice A0_3 l0_3.length c0_3] 31 (0, 0)) (rbA BK113.out) hb); replace HB := Aside0.mk (below_step (hbA HB.out) hb); (try clear hb); (try clear hb2); (try clear hk); (try clear hi); obtain ⟨hcz17_0, hcz17_1, hcz17_2, hcz17_3, hfz17_0, hfz17_1, hfz17_2, hfz17_3⟩ := blkA4 BK113.out))
   go_ret
   exact ⟨reA, hbA HB.out⟩
 replace c8 := Bool.eq_false_iff.mpr c8
 subst c8
 have H1 : ((fnv_Key.f k a0_1).bind fun t116 => (some t116)) = some r := by rw [if_neg (show ¬ (false = true) by decide)] at H; exact H
 clear H
 have H := H1
 clear H1
 replace H := Option.bind_eq_some_iff.mp H
 obtain ⟨t116, A180, H⟩ := H
 replace H : (some t116) = some r := H
 have A18 := Aside0.mk A180
 clear A180
 obtain rfl := Option.some.inj H
 go_enter Tryz.func59, Tryz.ntmps59
 go_wp2_with (first | ((with_reducible refine gate_dst (N := 1) rfl ?_); (try (refine gate_guard (by rfl) ?_; dsimp only)); refine box_event ?hg (N := 1) ?hd (cs := #[.int .i64 a0_0, .string a0_1, .int .i64 a0_2, .slice A0_3 l0_3.length c0_3]) (t := 31) ?hr ?_; (case hd => rfl); (case hg => rfl); (case hr => first | (go_simp; done) | (go_simp; rfl)); intro gb113 hg w19 hbox hb; have n0_ := Aside0.mk (below_step (hbA HB.out) hb); have n1_ := Aside0.mk (hbox); have n2_ := Aside0.mk ((by rw [hg]; exact (below_size (hbA HB.out)) : w.heap.size ≤ gb113)); have n3_ := Aside0.mk ((by rw [hg]; exact (below_size (hbA HB.out)) : w.heap.size ≤ gb113)); clear HB; have HB := n0_; have BK113 := n1_; have GW113 := n2_; have GE113 := n3_; clear n0_ n1_ n2_ n3_; clear hb hbox hg; obtain ⟨hcz20_0, hcz20_1, hcz20_2, hcz20_3, hfz20_0, hfz20_1, hfz20_2, hfz20_3⟩ := blkA4 BK113.out) | ((with_reducible refine gate_callee (f := 15) rfl ?_); refine goesL_ (some 7) rfl rfl Tryz.func15 (by kernel_rfl) rfl #[.agg #[.int .i64 a0_0, .string a0_1, .int .i64 a0_2, .slice A0_3 l0_3.length c0_3], .int .u8 98] rfl argA ?_; (with_reducible refine (meta_Find.calls a0_0 a0_1 a0_2 _ _ l0_3 98 t114 false _ ?side1 ?side2 A2.out).mono ?_); (case side1 => repeat (first | exact (Kd.C_below HR0_3.out HB.out) | (with_reducible refine Kd.C_alloc ?_ _) | (with_reducible refine Kd.C_drewN ?_ _) | (with_reducible refine Kd.C_drew ?_))); (case side2 => exact HC0_3.out); rintro e w21 ⟨rfl, hb⟩; refine ⟨_, rfl, ?_⟩; replace BK113 := Aside0.mk (blk_below (g := gb113) (o := .cells #[.int .i64 a0_0, .string a0_1, .int .i64 a0_2, .slice A0_3 l0_3.length c0_3] 31 (0, 0)) (rbA BK113.out) hb); replace HB := Aside0.mk (below_step (hbA HB.out) hb); (try clear hb); (try clear hb2); (try clear hk); (try clear hi); obtain ⟨hcz22_0, hcz22_1, hcz22_2, hcz22_3, hfz22_0, hfz22_1, hfz22_2, hfz22_3⟩ := blkA4 BK113.out) | ((with_reducible refine gate_callee (f := 77) rfl ?_); refine goesL_ (some 31) rfl rfl Tryz.func77 (by kernel_rfl) rfl #[.string a0_1] rfl argA ?_; (with_reducible refine (fnv_Key.calls k a0_1 t116 _ A18.out).mono ?_); rintro e w' ⟨rfl, ⟨nd, rfl⟩⟩; refine ⟨_, rfl, ?_⟩))
 go_ret
 exact ⟨reA, hbA HB.out⟩

def meta_ops.f  : Option ((List (S63))) := some (([(⟨(⟨#[]⟩ : ByteArray), (⟨#[]⟩ : ByteArray)⟩ : S63), (⟨(⟨#[109, 103]⟩ : ByteArray), (⟨#[98, 99, 102, 104, 107, 108, 113, 115, 116, 118, 69, 78, 79, 82, 84]⟩ : ByteArray)⟩ : S63), (⟨(⟨#[109, 115]⟩ : ByteArray), (⟨#[98, 99, 107, 113, 67, 69, 70, 73, 77, 79, 84]⟩ : ByteArray)⟩ : S63), (⟨(⟨#[109, 100]⟩ : ByteArray), (⟨#[98, 107, 113, 120, 67, 69, 73, 79, 84]⟩ : ByteArray)⟩ : S63), (⟨(⟨#[109, 97]⟩ : ByteArray), (⟨#[98, 99, 107, 113, 116, 118, 67, 68, 69, 74, 77, 78, 79, 84]⟩ : ByteArray)⟩ : S63), (⟨(⟨#[109, 110]⟩ : ByteArray), (⟨#[]⟩ : ByteArray)⟩ : S63), (⟨(⟨#[109, 101]⟩ : ByteArray), (⟨#[98]⟩ : ByteArray)⟩ : S63)] : List (S63)))
set_option maxHeartbeats 8000000 in
set_option maxRecDepth 100000 in
theorem meta_ops.calls  (r : List (S63)) (w : World) (h : meta_ops.f  = some r) :
 Calls Tryz.prog 29 #[] w fun e w' => ∃ v0_ : Value, e = .returned (v0_) ∧ Kd.R k63 63 w' w.heap.size (fun _ => True) v0_ r ∧ Below w.heap.size w w' := by
 have hu63 := Tryz.underlying63
 have HB := Aside0.mk (Below.refl w.heap.size w)
 have H : (some (([(⟨(⟨#[]⟩ : ByteArray), (⟨#[]⟩ : ByteArray)⟩ : S63), (⟨(⟨#[109, 103]⟩ : ByteArray), (⟨#[98, 99, 102, 104, 107, 108, 113, 115, 116, 118, 69, 78, 79, 82, 84]⟩ : ByteArray)⟩ : S63), (⟨(⟨#[109, 115]⟩ : ByteArray), (⟨#[98, 99, 107, 113, 67, 69, 70, 73, 77, 79, 84]⟩ : ByteArray)⟩ : S63), (⟨(⟨#[109, 100]⟩ : ByteArray), (⟨#[98, 107, 113, 120, 67, 69, 73, 79, 84]⟩ : ByteArray)⟩ : S63), (⟨(⟨#[109, 97]⟩ : ByteArray), (⟨#[98, 99, 107, 113, 116, 118, 67, 68, 69, 74, 77, 78, 79, 84]⟩ : ByteArray)⟩ : S63), (⟨(⟨#[109, 110]⟩ : ByteArray), (⟨#[]⟩ : ByteArray)⟩ : S63), (⟨(⟨#[109, 101]⟩ : ByteArray), (⟨#[98]⟩ : ByteArray)⟩ : S63)] : List (S63)))) = some r := h
 clear h
 obtain ⟨y117, hy117⟩ : ∃ y_ : List (S63), y_ = (([(⟨(⟨#[]⟩ : ByteArray), (⟨#[]⟩ : ByteArray)⟩ : S63), (⟨(⟨#[109, 103]⟩ : ByteArray), (⟨#[98, 99, 102, 104, 107, 108, 113, 115, 116, 118, 69, 78, 79, 82, 84]⟩ : ByteArray)⟩ : S63), (⟨(⟨#[109, 115]⟩ : ByteArray), (⟨#[98, 99, 107, 113, 67, 69, 70, 73, 77, 79, 84]⟩ : ByteArray)⟩ : S63), (⟨(⟨#[109, 100]⟩ : ByteArray), (⟨#[98, 107, 113, 120, 67, 69, 73, 79, 84]⟩ : ByteArray)⟩ : S63), (⟨(⟨#[109, 97]⟩ : ByteArray), (⟨#[98, 99, 107, 113, 116, 118, 67, 68, 69, 74, 77, 78, 79, 84]⟩ : ByteArray)⟩ : S63), (⟨(⟨#[109, 110]⟩ : ByteArray), (⟨#[]⟩ : ByteArray)⟩ : S63), (⟨(⟨#[109, 101]⟩ : ByteArray), (⟨#[98]⟩ : ByteArray)⟩ : S63)] : List (S63))) := ⟨_, rfl⟩
 replace H : (some y117) = some r := by first | (rw [hy117]; with_reducible exact H) | (have H2_ := (Option.bind_some _ _).symm.trans H; rw [hy117]; with_reducible exact H2_) | (have H2_ := (Option.bind_some _ _).symm.trans H; with_reducible exact H2_) | with_reducible exact H | (rw [hy117]; exact H) | exact H
 have Ny117 := Aside0.mk hy117
 clear hy117
 obtain rfl := Option.some.inj H
 go_enter Tryz.func29, Tryz.ntmps29
 go_wp2_with (first | ((with_reducible refine gate_dst (N := 7) rfl ?_); refine Kd.R_lit k63 _ 63 ?hg (N := 7) ?hd (xs := ([(⟨(⟨#[]⟩ : ByteArray), (⟨#[]⟩ : ByteArray)⟩ : S63), (⟨(⟨#[109, 103]⟩ : ByteArray), (⟨#[98, 99, 102, 104, 107, 108, 113, 115, 116, 118, 69, 78, 79, 82, 84]⟩ : ByteArray)⟩ : S63), (⟨(⟨#[109, 115]⟩ : ByteArray), (⟨#[98, 99, 107, 113, 67, 69, 70, 73, 77, 79, 84]⟩ : ByteArray)⟩ : S63), (⟨(⟨#[109, 100]⟩ : ByteArray), (⟨#[98, 107, 113, 120, 67, 69, 73, 79, 84]⟩ : ByteArray)⟩ : S63), (⟨(⟨#[109, 97]⟩ : ByteArray), (⟨#[98, 99, 107, 113, 116, 118, 67, 68, 69, 74, 77, 78, 79, 84]⟩ : ByteArray)⟩ : S63), (⟨(⟨#[109, 110]⟩ : ByteArray), (⟨#[]⟩ : ByteArray)⟩ : S63), (⟨(⟨#[109, 101]⟩ : ByteArray), (⟨#[98]⟩ : ByteArray)⟩ : S63)] : List (S63))) (inner := [.string (⟨#[]⟩ : ByteArray), .string (⟨#[]⟩ : ByteArray), .string (⟨#[109, 103]⟩ : ByteArray), .string (⟨#[98, 99, 102, 104, 107, 108, 113, 115, 116, 118, 69, 78, 79, 82, 84]⟩ : ByteArray), .string (⟨#[109, 115]⟩ : ByteArray), .string (⟨#[98, 99, 107, 113, 67, 69, 70, 73, 77, 79, 84]⟩ : ByteArray), .string (⟨#[109, 100]⟩ : ByteArray), .string (⟨#[98, 107, 113, 120, 67, 69, 73, 79, 84]⟩ : ByteArray), .string (⟨#[109, 97]⟩ : ByteArray), .string (⟨#[98, 99, 107, 113, 116, 118, 67, 68, 69, 74, 77, 78, 79, 84]⟩ : ByteArray), .string (⟨#[109, 110]⟩ : ByteArray), .string (⟨#[]⟩ : ByteArray), .string (⟨#[109, 101]⟩ : ByteArray), .string (⟨#[98]⟩ : ByteArray)]) (ok := fun _ => True) (okp := fun _ => True) ?hr ?hp (fun _ hk => hk) trivial (Below.refl _ _) (Nat.le_refl _) (by simp) ?_; (case hd => rfl); (case hg => rfl); (case hr => first | (go_simp; done) | (go_simp; rfl)); (case hp => exact (Reps.c2 (show Kd.M k63 _ _ _ (⟨(⟨#[]⟩ : ByteArray), (⟨#[]⟩ : ByteArray)⟩ : S63) [.string (⟨#[]⟩ : ByteArray), .string (⟨#[]⟩ : ByteArray)] from (k63_mkM _ _ _ (⟨(⟨#[]⟩ : ByteArray), (⟨#[]⟩ : ByteArray)⟩ : S63) )) (Reps.c2 (show Kd.M k63 _ _ _ (⟨(⟨#[109, 103]⟩ : ByteArray), (⟨#[98, 99, 102, 104, 107, 108, 113, 115, 116, 118, 69, 78, 79, 82, 84]⟩ : ByteArray)⟩ : S63) [.string (⟨#[109, 103]⟩ : ByteArray), .string (⟨#[98, 99, 102, 104, 107, 108, 113, 115, 116, 118, 69, 78, 79, 82, 84]⟩ : ByteArray)] from (k63_mkM _ _ _ (⟨(⟨#[109, 103]⟩ : ByteArray), (⟨#[98, 99, 102, 104, 107, 108, 113, 115, 116, 118, 69, 78, 79, 82, 84]⟩ : ByteArray)⟩ : S63) )) (Reps.c2 (show Kd.M k63 _ _ _ (⟨(⟨#[109, 115]⟩ : ByteArray), (⟨#[98, 99, 107, 113, 67, 69, 70, 73, 77, 79, 84]⟩ : ByteArray)⟩ : S63) [.string (⟨#[109, 115]⟩ : ByteArray), .string (⟨#[98, 99, 107, 113, 67, 69, 70, 73, 77, 79, 84]⟩ : ByteArray)] from (k63_mkM _ _ _ (⟨(⟨#[109, 115]⟩ : ByteArray), (⟨#[98, 99, 107, 113, 67, 69, 70, 73, 77, 79, 84]⟩ : ByteArray)⟩ : S63) )) (Reps.c2 (show Kd.M k63 _ _ _ (⟨(⟨#[109, 100]⟩ : ByteArray), (⟨#[98, 107, 113, 120, 67, 69, 73, 79, 84]⟩ : ByteArray)⟩ : S63) [.string (⟨#[109, 100]⟩ : ByteArray), .string (⟨#[98, 107, 113, 120, 67, 69, 73, 79, 84]⟩ : ByteArray)] from (k63_mkM _ _ _ (⟨(⟨#[109, 100]⟩ : ByteArray), (⟨#[98, 107, 113, 120, 67, 69, 73, 79, 84]⟩ : ByteArray)⟩ : S63) )) (Reps.c2 (show Kd.M k63 _ _ _ (⟨(⟨#[109, 97]⟩ : ByteArray), (⟨#[98, 99, 107, 113, 116, 118, 67, 68, 69, 74, 77, 78, 79, 84]⟩ : ByteArray)⟩ : S63) [.string (⟨#[109, 97]⟩ : ByteArray), .string (⟨#[98, 99, 107, 113, 116, 118, 67, 68, 69, 74, 77, 78, 79, 84]⟩ : ByteArray)] from (k63_mkM _ _ _ (⟨(⟨#[109, 97]⟩ : ByteArray), (⟨#[98, 99, 107, 113, 116, 118, 67, 68, 69, 74, 77, 78, 79, 84]⟩ : ByteArray)⟩ : S63) )) (Reps.c2 (show Kd.M k63 _ _ _ (⟨(⟨#[109, 110]⟩ : ByteArray), (⟨#[]⟩ : ByteArray)⟩ : S63) [.string (⟨#[109, 110]⟩ : ByteArray), .string (⟨#[]⟩ : ByteArray)] from (k63_mkM _ _ _ (⟨(⟨#[109, 110]⟩ : ByteArray), (⟨#[]⟩ : ByteArray)⟩ : S63) )) (Reps.c2 (show Kd.M k63 _ _ _ (⟨(⟨#[109, 101]⟩ : ByteArray), (⟨#[98]⟩ : ByteArray)⟩ : S63) [.string (⟨#[109, 101]⟩ : ByteArray), .string (⟨#[98]⟩ : ByteArray)] from (k63_mkM _ _ _ (⟨(⟨#[109, 101]⟩ : ByteArray), (⟨#[98]⟩ : ByteArray)⟩ : S63) )) (Reps.none _ _))))))))); intro v118 w1 ho2 hb hg_ hnew_; clear hg_ hnew_; (first | rw [← Ny117.out] at ho2 | (simp only [Int.reduceToNat] at ho2; rw [← Ny117.out] at ho2)); have n0_ := Aside0.mk (Kd.R_lower ho2 (below_size (hbA HB.out))); have n1_ := Aside0.mk (below_step (hbA HB.out) hb); clear HB; have HO119 := n0_; have HB := n1_; clear n0_ n1_; clear hb ho2))
 go_ret
 exact ⟨_, reA, by (with_reducible repeat (first | apply Kd.R_alloc | apply Kd.R_drewN | apply Kd.R_drew)); exact HO119.out, hbA HB.out⟩

end
end Go.Proofs.YtfboejlemnfndaaGreatDoor.XMr
end
section
namespace Go.Proofs.YtfboejlemnfndaaGreatDoor.XMr
open Go.RowKit Go.Proofs.YtfboejlemnfndaaGreatDoorW.PrintWords Go.Proofs.YtfboejlemnfndaaGreatDoorW.PrintLast Go.Proofs.YtfboejlemnfndaaGreatDoorW.PrintMore
attribute [local go_sem] extract_sub max2_int min2_int max_two min_two max_three min_three max_four min_four   -- for this text's walks alone
set_option linter.unusedVariables false
set_option linter.unusedSimpArgs false

noncomputable section
def meta_owns.flags (n : Int) : List UInt8 :=
 if n = 1 then [98, 99, 102, 104, 107, 108, 113, 115, 116, 118, 69, 78, 79, 82, 84] else if n = 2 then [98, 99, 107, 113, 67, 69, 70, 73, 77, 79, 84] else if n = 3 then [98, 107, 113, 120, 67, 69, 73, 79, 84] else if n = 4 then [98, 99, 107, 113, 116, 118, 67, 68, 69, 74, 77, 78, 79, 84] else if n = 5 then [] else [98]
def meta_owns.f (a0 : Int) (a1 : Int) : Option Bool := if 1 ≤ a0 ∧ a0 ≤ 6 then some ((meta_owns.flags a0).any fun c => (c.toNat : Int) == a1) else none
theorem meta_owns.table : ∃ L, meta_ops.f = some L ∧ L.length = 7 ∧ ∀ n : Int, 1 ≤ n → n ≤ 6 → (rd_T63 L n).f1 = ⟨(meta_owns.flags n).toArray⟩ := by
 refine ⟨_, rfl, rfl, fun n h1 h2 => ?_⟩
 have hn : n = 1 ∨ n = 2 ∨ n = 3 ∨ n = 4 ∨ n = 5 ∨ n = 6 := by omega
 rcases hn with rfl | rfl | rfl | rfl | rfl | rfl <;> rfl
theorem meta_owns.ascii (n : Int) : ∀ c ∈ meta_owns.flags n, c.toNat < 128 := by
 unfold meta_owns.flags
 repeat' split
 all_goals decide
theorem meta_owns.any_snoc (l : List UInt8) (j : Nat) (c : UInt8) (a1 : Int) (hc : l[j]? = some c) (h : (l.take j).any (fun c => (c.toNat : Int) == a1) = false) (hd : ((c.toNat : Int) == a1) = false) : (l.take (j + 1)).any (fun c => (c.toNat : Int) == a1) = false := by
 rw [List.take_add_one, hc, List.any_append, h]
 simp [hd]
theorem meta_owns.any_hit (l : List UInt8) (j : Nat) (c : UInt8) (a1 : Int) (hc : l[j]? = some c) (hd : ((c.toNat : Int) == a1) = true) : l.any (fun c => (c.toNat : Int) == a1) = true :=
 List.any_eq_true.2 ⟨c, List.mem_of_getElem? hc, hd⟩
set_option maxHeartbeats 4000000 in
set_option maxRecDepth 100000 in
theorem meta_owns.calls (a0 a1 : Int) (r : Bool) (w : World) (h : meta_owns.f a0 a1 = some r) :
 Calls Tryz.prog 60 #[.int .i64 a0, .int .u8 a1] w fun e w' => e = .returned (.bool r) ∧ Below w.heap.size w w' := by
 unfold meta_owns.f at h
 split at h
 · rename_i hh
   injection h with h
   obtain ⟨L, hL, hl7, hfl⟩ := meta_owns.table
   have hfl := hfl a0 hh.1 hh.2
   have hasc := meta_owns.ascii a0
   generalize hg : meta_owns.flags a0 = fl at *
   clear hg
   have HL := Lib.hid hL
   have HF := Lib.hid hfl
   have HA := Aside0.mk hasc
   have H := Lib.hid h
   have H7 := Lib.hid hl7
   obtain ⟨h1, h6⟩ := hh
   clear hL hfl hasc h hl7
   go_enter Tryz.func60, Tryz.ntmps60
   go_wp2_with fail
   refine (meta_ops.calls L w HL.out).mono ?_
   rintro e w1 ⟨v0, rfl, hO, hb1⟩
   obtain ⟨A, c, rfl, hc, hC⟩ := Kd.R_reads hO
   rw [H7.out] at hc
   obtain ⟨ad, e, hx0, hx1⟩ := at_T63 hC a0 (by omega) (by rw [H7.out]; omega)
   subst e
   rw [HF.out] at hx1
   have e7 := H7.out
   rw [e7]
   have hb0 : a0 < ((7 : Nat) : Int) := by omega
   have hb2 : (0 : Int) ≤ a0 := by omega
   have HB1 := Aside0.mk hb1
   clear hO hb1 hC hx0 e7 hc
   have hsz : (⟨fl.toArray⟩ : ByteArray).size = fl.length := rfl
   have HSZ := Lib.hid hsz
   clear hsz
   generalize hs : (⟨fl.toArray⟩ : ByteArray) = s at *
   have hsl : s.data.toList = fl := by rw [← hs]
   have HSL := Lib.hid hsl
   clear hs hsl
   go_wp2
   go_loopw [6] (fun v6 wr => ∃ pos : Nat, wr = w1.iter s pos ∧ pos ≤ s.size ∧ Aside0 ((fl.take pos).any (fun c => (c.toNat : Int) == a1) = false)) (fun _ wr => s.size - wr.iterPos w1.heap.size)
   case atStart => exact ⟨0, rfl, Nat.zero_le _, ⟨rfl⟩⟩
   case round =>
    obtain ⟨pos, rfl, hp, HN⟩ := hrel
    by_cases hlt : pos < s.size
    · have hcj : fl[pos]? = some s[pos] := by
       rw [← HSL.out, List.getElem?_eq_getElem (by rw [Array.length_toList]; exact hlt)]; rfl
      have hlo : s[pos].toNat < 128 := HA.out _ (List.mem_of_getElem? hcj)
      have hnx : ∀ ty, (Instr.next (.pointer (some ⟨w1.heap.size, 0, none⟩)) true ty).run Tryz.prog (w1.iter s pos) = _ := fun ty => run_next_ascii w1 s pos ty hlt hlo
      have hloi : (s[pos].toNat : Int) < 128 := by omega
      have hloi0 : (0 : Int) ≤ (s[pos].toNat : Int) := by omega
      have HCJ := Lib.hid hcj
      clear hcj hlo
      cases hq : ((s[pos].toNat : Int) == a1) with
      | true =>
       have HQ := Lib.hid hq
       have hwr : IntKind.u8.wrap (s[pos].toNat : Int) = (s[pos].toNat : Int) := by rw [IntKind.wrap_u8]; omega
       have hq2 : ((s[pos].toNat : Int) == a1) = true := HQ.out
       clear hq
       go_wp2
       go_ret
       refine ⟨?_, HB1.out.trans ((Below.refl _ w1).alloc HB1.out.size _)⟩
       rw [← H.out, meta_owns.any_hit _ _ _ _ HCJ.out HQ.out]
       rfl
      | false =>
       have HQ := Lib.hid hq
       have hwr : IntKind.u8.wrap (s[pos].toNat : Int) = (s[pos].toNat : Int) := by rw [IntKind.wrap_u8]; omega
       go_wp2
       go_roundw
       case rel => exact ⟨pos + 1, rfl, by omega, ⟨meta_owns.any_snoc _ _ _ _ HCJ.out HN.out HQ.out⟩⟩
       case measure => simp; omega
    have hnx : ∀ ty, (Instr.next (.pointer (some ⟨w1.heap.size, 0, none⟩)) true ty).run Tryz.prog (w1.iter s pos) = _ := fun ty => run_next_end w1 s pos ty hlt
    have hend : fl.any (fun c => (c.toNat : Int) == a1) = false := by
     have := HN.out
     rw [List.take_of_length_le (by rw [← HSZ.out]; omega)] at this
     exact this
    have HE := Lib.hid hend
    clear hend
    go_wp2
    go_ret
    refine ⟨?_, HB1.out.trans ((Below.refl _ w1).alloc HB1.out.size _)⟩
    rw [← H.out, HE.out]
    rfl
 cases h

end
end Go.Proofs.YtfboejlemnfndaaGreatDoor.XMr
end
section
namespace Go.Proofs.YtfboejlemnfndaaGreatDoor.XMr
open Go.RowKit Go.Proofs.YtfboejlemnfndaaGreatDoorW.PrintWords Go.Proofs.YtfboejlemnfndaaGreatDoorW.PrintLast Go.Proofs.YtfboejlemnfndaaGreatDoorW.PrintMore
attribute [local go_sem] extract_sub max2_int min2_int max_two min_two max_three min_three max_four min_four   -- for this text's walks alone
set_option linter.unusedVariables false
set_option linter.unusedSimpArgs false

noncomputable section
mutual
def meta_sortOf.j0 : Nat → Int → Bool → Option (Int)
 | 0, _, _ => none
 | k + 1, x3, x4 => if x4 = true then (some 1) else (if x3 = 70 then (some 2) else (if x3 = 78 then (meta_sortOf.j1 k x3 (x3 == 78)) else (if x3 = 82 then (meta_sortOf.j1 k x3 (x3 == 82)) else (meta_sortOf.j1 k x3 (x3 == 84)))))
def meta_sortOf.j1 : Nat → Int → Bool → Option (Int)
 | 0, _, _ => none
 | k + 1, x3, x11 => if x11 = true then (some 3) else (if x3 = 79 then (some 4) else (if x3 = 77 then (some 5) else (some 0)))
end
def meta_sortOf.f (k : Nat) (a0 : Int) : Option (Int) := if a0 = 67 then (meta_sortOf.j0 k a0 (a0 == 67)) else (if a0 = 68 then (meta_sortOf.j0 k a0 (a0 == 68)) else (if a0 = 69 then (meta_sortOf.j0 k a0 (a0 == 69)) else (meta_sortOf.j0 k a0 (a0 == 74))))
theorem meta_sortOf.mono_l : ∀ k, (∀ y0 y1, LeO (meta_sortOf.j0 k y0 y1) (meta_sortOf.j0 (k + 1) y0 y1)) ∧ (∀ y0 y1, LeO (meta_sortOf.j1 k y0 y1) (meta_sortOf.j1 (k + 1) y0 y1))
 | 0 => ⟨fun _ _ r h => by simp [meta_sortOf.j0] at h, fun _ _ r h => by simp [meta_sortOf.j1] at h⟩
 | k + 1 => by
  obtain ⟨ih0, ih1⟩ := meta_sortOf.mono_l k
  refine ⟨?_, ?_⟩
  all_goals
   intros
   first | unfold meta_sortOf.j0 | unfold meta_sortOf.j1
   repeat' first
   | (with_reducible exact ih0 _ _)
   | (with_reducible exact ih1 _ _)
   | (with_reducible exact LeO.refl _)
   | (with_reducible exact LeO.none _)
   | (with_reducible refine LeO.ite ?_ ?_)
   | (with_reducible refine LeO.bind ?_ (fun _ => ?_))
   | exact ih0 _ _
   | exact ih1 _ _
   | exact LeO.none _
   | refine LeO.ite ?_ ?_
   | refine LeO.bind ?_ (fun _ => ?_)
theorem meta_sortOf.mono : ∀ a0 k, LeO (meta_sortOf.f k a0) (meta_sortOf.f (k + 1) a0) := by
 intro a0 k
 obtain ⟨ih0, ih1⟩ := meta_sortOf.mono_l k
 unfold meta_sortOf.f
 repeat' first
  | (with_reducible exact ih0 _ _)
  | (with_reducible exact ih1 _ _)
  | (with_reducible exact LeO.refl _)
  | (with_reducible exact LeO.none _)
  | (with_reducible refine LeO.ite ?_ ?_)
  | (with_reducible refine LeO.bind ?_ (fun _ => ?_))
  | exact ih0 _ _
  | exact ih1 _ _
  | exact LeO.none _
  | refine LeO.ite ?_ ?_
  | refine LeO.bind ?_ (fun _ => ?_)
set_option maxHeartbeats 8000000 in
set_option maxRecDepth 100000 in
theorem meta_sortOf.calls (k : Nat) (a0 : Int) (r : Int) (w : World) (h : meta_sortOf.f k a0 = some r) :
 Calls Tryz.prog 36 #[.int .u8 a0] w fun e w' => e = .returned (.int .i64 r) ∧ Drawn0 w w' := by
 have H : (if a0 = 67 then (meta_sortOf.j0 k a0 (a0 == 67)) else (if a0 = 68 then (meta_sortOf.j0 k a0 (a0 == 68)) else (if a0 = 69 then (meta_sortOf.j0 k a0 (a0 == 69)) else (meta_sortOf.j0 k a0 (a0 == 74))))) = some r := h
 clear h
 have HC2 := Aside0.mk H
 clear H
 go_enter Tryz.func36, Tryz.ntmps36
 go_upto_if 4 with (fail)
 go_cut [4] (fun v4 wc => ∃ (kq : Nat) (x4_1 : Bool), v4 = .bool x4_1 ∧ Aside0 (meta_sortOf.j0 kq a0 x4_1 = some r) ∧ Aside0 (kq ≤ k) ∧ Drawn0 w wc)
 case first =>
  have H := HC2.out
  clear HC2
  by_cases c3 : a0 = 67
  · rw [if_pos c3] at H
    have c3b0 : (a0 == 67) = true := beq_iff_eq.mpr c3
    have c3b1 : (a0 != 67) = false := bne_eq_false_iff_eq.mpr c3
    clear c3
    (first | rw [c3b0] | (simp only [i64_w, i32_w]; rw [c3b0]) | skip)
    have H' := Aside0.mk H
    clear H
    go_wp2
    go_meet
    case rel => exact ⟨_, ((a0 == 67)), rsA, H', ⟨by first | omega | exact Nat.le_refl _⟩, drA⟩
  rw [if_neg c3] at H
  have c3b0 : (a0 == 67) = false := beq_eq_false_iff_ne.mpr c3
  have c3b1 : (a0 != 67) = true := bne_iff_ne.mpr c3
  (first | rw [c3b0] | (simp only [i64_w, i32_w]; rw [c3b0]) | skip)
  by_cases c4 : a0 = 68
  · rw [if_pos c4] at H
    have c4b0 : (a0 == 68) = true := beq_iff_eq.mpr c4
    have c4b1 : (a0 != 68) = false := bne_eq_false_iff_eq.mpr c4
    clear c4
    have H' := Aside0.mk H
    clear H
    go_wp2
    go_meet
    case rel => exact ⟨_, ((a0 == 68)), rsA, H', ⟨by first | omega | exact Nat.le_refl _⟩, drA⟩
  rw [if_neg c4] at H
  have c4b0 : (a0 == 68) = false := beq_eq_false_iff_ne.mpr c4
  have c4b1 : (a0 != 68) = true := bne_iff_ne.mpr c4
  by_cases c5 : a0 = 69
  · rw [if_pos c5] at H
    have c5b0 : (a0 == 69) = true := beq_iff_eq.mpr c5
    have c5b1 : (a0 != 69) = false := bne_eq_false_iff_eq.mpr c5
    clear c5
    have H' := Aside0.mk H
    clear H
    go_wp2
    go_meet
    case rel => exact ⟨_, ((a0 == 69)), rsA, H', ⟨by first | omega | exact Nat.le_refl _⟩, drA⟩
  rw [if_neg c5] at H
  have c5b0 : (a0 == 69) = false := beq_eq_false_iff_ne.mpr c5
  have c5b1 : (a0 != 69) = true := bne_iff_ne.mpr c5
  have H' := Aside0.mk H
  clear H
  go_wp2
  go_meet
  case rel => exact ⟨_, ((a0 == 74)), rsA, H', ⟨by first | omega | exact Nat.le_refl _⟩, drA⟩
 clear HC2
 (try clear p2); (try clear c3); (try clear c3b0); (try clear c3b1); (try clear c4); (try clear c4b0); (try clear c4b1); (try clear c5); (try clear c5b0); (try clear c5b1)
 obtain ⟨kq, x4_1, rfl, HA, HJ1, ⟨mc1, rfl⟩⟩ := hcut
 cases kq with
 | zero => exact absurd HA.out (by simp [meta_sortOf.j0])
 | succ kj1 =>
  have H := HA.out
  clear HA
  simp only [meta_sortOf.j0] at H
  by_cases c6 : x4_1 = true
  · subst c6
    have H1 : (some 1) = some r := by rw [if_pos rfl] at H; exact H
    clear H
    have H := H1
    clear H1
    obtain rfl := Option.some.inj H
    go_wp2
    go_ret
    exact ⟨rsA, drA⟩
  replace c6 := Bool.eq_false_iff.mpr c6
  subst c6
  have H1 : (if a0 = 70 then (some 2) else (if a0 = 78 then (meta_sortOf.j1 kj1 a0 (a0 == 78)) else (if a0 = 82 then (meta_sortOf.j1 kj1 a0 (a0 == 82)) else (meta_sortOf.j1 kj1 a0 (a0 == 84))))) = some r := by rw [if_neg (show ¬ (false = true) by decide)] at H; exact H
  clear H
  have H := H1
  clear H1
  by_cases c7 : a0 = 70
  · rw [if_pos c7] at H
    have c7b0 : (a0 == 70) = true := beq_iff_eq.mpr c7
    have c7b1 : (a0 != 70) = false := bne_eq_false_iff_eq.mpr c7
    clear c7
    obtain rfl := Option.some.inj H
    go_wp2
    go_ret
    exact ⟨rsA, drA⟩
  rw [if_neg c7] at H
  have c7b0 : (a0 == 70) = false := beq_eq_false_iff_ne.mpr c7
  have c7b1 : (a0 != 70) = true := bne_iff_ne.mpr c7
  have HC8 := Aside0.mk H
  clear H
  go_upto_if 11 with (fail)
  go_cut [11] (fun v11 wc => ∃ (kq : Nat) (x11_7 : Bool), v11 = .bool x11_7 ∧ Aside0 (meta_sortOf.j1 kq a0 x11_7 = some r) ∧ Aside0 (kq ≤ kj1) ∧ Drawn0 w wc)
  case first =>
   have H := HC8.out
   clear HC8
   by_cases c9 : a0 = 78
   · rw [if_pos c9] at H
     have c9b0 : (a0 == 78) = true := beq_iff_eq.mpr c9
     have c9b1 : (a0 != 78) = false := bne_eq_false_iff_eq.mpr c9
     clear c9
     (first | rw [c9b0] | (simp only [i64_w, i32_w]; rw [c9b0]) | skip)
     have H' := Aside0.mk H
     clear H
     go_wp2
     go_meet
     case rel => exact ⟨_, ((a0 == 78)), rsA, H', ⟨by have := HJ1.out; first | omega | exact Nat.le_refl _⟩, drA⟩
   rw [if_neg c9] at H
   have c9b0 : (a0 == 78) = false := beq_eq_false_iff_ne.mpr c9
   have c9b1 : (a0 != 78) = true := bne_iff_ne.mpr c9
   (first | rw [c9b0] | (simp only [i64_w, i32_w]; rw [c9b0]) | skip)
   by_cases c10 : a0 = 82
   · rw [if_pos c10] at H
     have c10b0 : (a0 == 82) = true := beq_iff_eq.mpr c10
     have c10b1 : (a0 != 82) = false := bne_eq_false_iff_eq.mpr c10
     clear c10
     have H' := Aside0.mk H
     clear H
     go_wp2
     go_meet
     case rel => exact ⟨_, ((a0 == 82)), rsA, H', ⟨by have := HJ1.out; first | omega | exact Nat.le_refl _⟩, drA⟩
   rw [if_neg c10] at H
   have c10b0 : (a0 == 82) = false := beq_eq_false_iff_ne.mpr c10
   have c10b1 : (a0 != 82) = true := bne_iff_ne.mpr c10
   have H' := Aside0.mk H
   clear H
   go_wp2
   go_meet
   case rel => exact ⟨_, ((a0 == 84)), rsA, H', ⟨by have := HJ1.out; first | omega | exact Nat.le_refl _⟩, drA⟩
  clear HC8
  (try clear c1); (try clear p2); (try clear c3); (try clear c3b0); (try clear c3b1); (try clear c4); (try clear c4b0); (try clear c4b1); (try clear c5); (try clear c5b0); (try clear c5b1); (try clear c6); (try clear c7); (try clear c7b0); (try clear c7b1); (try clear c9); (try clear c9b0); (try clear c9b1); (try clear c10); (try clear c10b0); (try clear c10b1); (try clear p2)
  obtain ⟨kq, x11_7, rfl, HA, HJ7, ⟨mc7, rfl⟩⟩ := hcut
  cases kq with
  | zero => exact absurd HA.out (by simp [meta_sortOf.j1])
  | succ kj7 =>
   have H := HA.out
   clear HA
   simp only [meta_sortOf.j1] at H
   by_cases c11 : x11_7 = true
   · subst c11
     have H1 : (some 3) = some r := by rw [if_pos rfl] at H; exact H
     clear H
     have H := H1
     clear H1
     obtain rfl := Option.some.inj H
     go_wp2
     go_ret
     exact ⟨rsA, drA⟩
   replace c11 := Bool.eq_false_iff.mpr c11
   subst c11
   have H1 : (if a0 = 79 then (some 4) else (if a0 = 77 then (some 5) else (some 0))) = some r := by rw [if_neg (show ¬ (false = true) by decide)] at H; exact H
   clear H
   have H := H1
   clear H1
   by_cases c12 : a0 = 79
   · rw [if_pos c12] at H
     have c12b0 : (a0 == 79) = true := beq_iff_eq.mpr c12
     have c12b1 : (a0 != 79) = false := bne_eq_false_iff_eq.mpr c12
     clear c12
     obtain rfl := Option.some.inj H
     go_wp2
     go_ret
     exact ⟨rsA, drA⟩
   rw [if_neg c12] at H
   have c12b0 : (a0 == 79) = false := beq_eq_false_iff_ne.mpr c12
   have c12b1 : (a0 != 79) = true := bne_iff_ne.mpr c12
   by_cases c13 : a0 = 77
   · rw [if_pos c13] at H
     have c13b0 : (a0 == 77) = true := beq_iff_eq.mpr c13
     have c13b1 : (a0 != 77) = false := bne_eq_false_iff_eq.mpr c13
     clear c13
     obtain rfl := Option.some.inj H
     go_wp2
     go_ret
     exact ⟨rsA, drA⟩
   rw [if_neg c13] at H
   have c13b0 : (a0 == 77) = false := beq_eq_false_iff_ne.mpr c13
   have c13b1 : (a0 != 77) = true := bne_iff_ne.mpr c13
   obtain rfl := Option.some.inj H
   go_wp2
   go_ret
   exact ⟨rsA, drA⟩

end
end Go.Proofs.YtfboejlemnfndaaGreatDoor.XMr
end
section
namespace Go.Proofs.YtfboejlemnfndaaGreatDoor.XMr
open Go.RowKit Go.Proofs.YtfboejlemnfndaaGreatDoorW.PrintWords Go.Proofs.YtfboejlemnfndaaGreatDoorW.PrintLast Go.Proofs.YtfboejlemnfndaaGreatDoorW.PrintMore
attribute [local go_sem] extract_sub max2_int min2_int max_two min_two max_three min_three max_four min_four   -- for this text's walks alone
set_option linter.unusedVariables false
set_option linter.unusedSimpArgs false

noncomputable section
def digits_Parse.dig (l : List UInt8) : Bool := l.all fun c => decide (48 ≤ c.toNat ∧ c.toNat ≤ 57)
def digits_Parse.val (l : List UInt8) : Int × Int :=
 if digits_Parse.dig l = true then (if l = [] then (0, 6) else if 20 < l.length then (0, 7) else match Lib.parseUintB 64 l with
  | .ok u => ((u : Nat), 0)
  | _ => (0, 1)) else (0, 6)
def digits_Parse.f (a0 : ByteArray) : Option (Int × Int) := if a0.size ≤ 281474976710656 then some (digits_Parse.val a0.data.toList) else none
theorem digits_Parse.ib_all : ∀ n : Fin 256, Lib.indexByte [48, 49, 50, 51, 52, 53, 54, 55, 56, 57] (n.val : Nat).toUInt8 = if 48 ≤ n.val ∧ n.val ≤ 57 then ((n.val - 48 : Nat) : Int) else -1 := by decide +kernel
theorem digits_Parse.ib (b : UInt8) : Lib.indexByte [48, 49, 50, 51, 52, 53, 54, 55, 56, 57] (b.toNat : Int).toNat.toUInt8 = if 48 ≤ b.toNat ∧ b.toNat ≤ 57 then ((b.toNat - 48 : Nat) : Int) else -1 :=
 digits_Parse.ib_all ⟨b.toNat, b.toNat_lt⟩
theorem digits_Parse.byte_yes (b : UInt8) (w : World) (h : 48 ≤ b.toNat ∧ b.toNat ≤ 57) :
 Calls Tryz.prog 68 #[.string ⟨#[48, 49, 50, 51, 52, 53, 54, 55, 56, 57]⟩, .int .u8 (b.toNat : Int)] w fun e w' => e = .returned (.int .i64 ((b.toNat - 48 : Nat) : Int)) ∧ w = w' := by
 refine (Tryz.strings_IndexByte ⟨#[48, 49, 50, 51, 52, 53, 54, 55, 56, 57]⟩ (b.toNat : Int) w).mono fun e w' ⟨he, hw⟩ => ⟨?_, hw.symm⟩
 rw [he, digits_Parse.ib, if_pos h]
theorem digits_Parse.byte_no (b : UInt8) (w : World) (h : ¬ (48 ≤ b.toNat ∧ b.toNat ≤ 57)) :
 Calls Tryz.prog 68 #[.string ⟨#[48, 49, 50, 51, 52, 53, 54, 55, 56, 57]⟩, .int .u8 (b.toNat : Int)] w fun e w' => e = .returned (.int .i64 (-1)) ∧ w = w' := by
 refine (Tryz.strings_IndexByte ⟨#[48, 49, 50, 51, 52, 53, 54, 55, 56, 57]⟩ (b.toNat : Int) w).mono fun e w' ⟨he, hw⟩ => ⟨?_, hw.symm⟩
 rw [he, digits_Parse.ib, if_neg h]
theorem digits_Parse.not_bad : ∀ (l : List UInt8) (acc : Nat), digits_Parse.dig l = true → Lib.parseUintM (2 ^ 64 - 1) acc l ≠ Lib.parseUintB 64 []
 | [], _, _ => by
  unfold Lib.parseUintM Lib.parseUintB
  rw [if_pos rfl]
  intro h
  cases h
 | c :: r, acc, h => by
  unfold digits_Parse.dig at h
  rw [List.all_cons, Bool.and_eq_true] at h
  unfold Lib.parseUintM
  rw [if_pos (of_decide_eq_true h.1)]
  split
  · unfold Lib.parseUintB; rw [if_pos rfl]; intro h; cases h
  split
  · unfold Lib.parseUintB; rw [if_pos rfl]; intro h; cases h
  exact digits_Parse.not_bad r _ h.2
theorem digits_Parse.dig_snoc (l : List UInt8) (j : Nat) (c : UInt8) (hc : l[j]? = some c) (h : digits_Parse.dig (l.take j) = true) (hd : 48 ≤ c.toNat ∧ c.toNat ≤ 57) : digits_Parse.dig (l.take (j + 1)) = true := by
 rw [List.take_add_one, hc]
 unfold digits_Parse.dig at h ⊢
 rw [List.all_append, h]
 simp [hd.1, hd.2]
theorem digits_Parse.dig_not (l : List UInt8) (j : Nat) (c : UInt8) (hc : l[j]? = some c) (hd : ¬ (48 ≤ c.toNat ∧ c.toNat ≤ 57)) : digits_Parse.dig l = false := by
 unfold digits_Parse.dig
 rw [List.all_eq_false]
 exact ⟨c, List.mem_of_getElem? hc, by simpa using hd⟩
theorem digits_Parse.calls_ (a0 : ByteArray) (w : World) (hs : a0.size ≤ 281474976710656) (hv : Vars w) :
 Calls Tryz.prog 38 #[.string a0] w fun e w' => e = .returned (.tuple #[.int .u64 (digits_Parse.val a0.data.toList).1, .int .i64 (digits_Parse.val a0.data.toList).2]) ∧ Below w.heap.size w w' := by
 have HV := Aside0.mk hv
 clear hv
 have hl : a0.data.toList.length = a0.size := Array.length_toList
 have HL := Lib.hid hl
 clear hl
 go_enter Tryz.func38, Tryz.ntmps38
 go_wp2
 go_loop [9] (fun i => ∃ j : Nat, i = .int .i64 j ∧ j ≤ a0.size ∧ Aside0 (digits_Parse.dig (a0.data.toList.take j) = true)) (fun i => a0.size - (intOf i).toNat)
 case atStart => exact ⟨0, rfl, Nat.zero_le _, ⟨rfl⟩⟩
 case round =>
  obtain ⟨j, rfl, hj, HA⟩ := hrel
  by_cases hlt : j < a0.size
  · have hlti : (j : Int) < (a0.size : Int) := by omega
    have hcj : a0.data.toList[j]? = some a0[j] := by
     rw [List.getElem?_eq_getElem (by rw [HL.out]; exact hlt)]; rfl
    have HC := Lib.hid hcj
    clear hcj
    by_cases hd : 48 ≤ a0[j].toNat ∧ a0[j].toNat ≤ 57
    · have HD := Aside0.mk hd
      have hneg : decide (((a0[j].toNat - 48 : Nat) : Int) < 0) = false := decide_eq_false (by omega)
      clear hd
      go_wp2_with (go_at_call 68; refine (digits_Parse.byte_yes _ _ HD.out).mono ?_; rintro e w' ⟨rfl, rfl⟩)
      go_round
      case rel => exact ⟨j + 1, by go_num, by omega, ⟨digits_Parse.dig_snoc _ _ _ HC.out HA.out HD.out⟩⟩
      case measure => simp [intOf]; omega
    have HD := Aside0.mk hd
    clear hd
    go_wp2_with (go_at_call 68; refine (digits_Parse.byte_no _ _ HD.out).mono ?_; rintro e w' ⟨rfl, rfl⟩)
    go_ret2
    refine ⟨?_, Below.refl _ _⟩
    unfold digits_Parse.val
    rw [if_neg (by rw [digits_Parse.dig_not _ _ _ HC.out HD.out]; exact Bool.false_ne_true)]
    rfl
  have hlti : ¬ (j : Int) < (a0.size : Int) := by omega
  have hA : digits_Parse.dig a0.data.toList = true := by
   have := HA.out
   rw [List.take_of_length_le (by rw [HL.out]; omega)] at this
   exact this
  have HA2 := Aside0.mk hA
  clear hA HA
  by_cases h0 : a0.size = 0
  · have hnil : a0.data.toList = [] := List.length_eq_zero_iff.1 (by rw [HL.out, h0])
    have hn1 : a0.toList.isEmpty = true := by rw [ByteArray.toList_eq, hnil]; rfl
    have hn2 : (a0.toList == ([] : List UInt8)) = true := by rw [ByteArray.toList_eq, hnil]; rfl
    have HN := Lib.hid hnil
    clear hnil
    go_wp2
    go_ret2
    refine ⟨?_, Below.refl _ _⟩
    unfold digits_Parse.val
    rw [if_pos HA2.out, if_pos HN.out]
    rfl
  have hne : a0.data.toList ≠ [] := fun q => h0 (by rw [← HL.out, q]; rfl)
  have hn1 : a0.toList.isEmpty = false := by
   rw [ByteArray.toList_eq]
   cases e : a0.data.toList with
   | nil => exact absurd e hne
   | cons _ _ => rfl
  have hn2 : (a0.toList == ([] : List UInt8)) = false := by
   rw [ByteArray.toList_eq]
   exact beq_eq_false_iff_ne.2 hne
  have HNE := Aside0.mk hne
  clear hne
  by_cases h20 : 20 < a0.size
  · have h20i : (20 : Int) < (a0.size : Int) := by omega
    go_wp2
    go_ret2
    refine ⟨?_, Below.refl _ _⟩
    unfold digits_Parse.val
    rw [if_pos HA2.out, if_neg HNE.out, if_pos (by rw [HL.out]; exact h20)]
    rfl
  have h20i : ¬ (20 : Int) < (a0.size : Int) := by omega
  have hval : digits_Parse.val a0.data.toList = match Lib.parseUintB 64 a0.data.toList with
   | .ok u => ((u : Nat), 0)
   | _ => (0, 1) := by
   unfold digits_Parse.val
   rw [if_pos HA2.out, if_neg HNE.out, if_neg (by rw [HL.out]; exact h20)]
  have hns : Lib.parseUintB 64 a0.data.toList ≠ Lib.parseUintB 64 [] := by
   rw [show Lib.parseUintB 64 a0.data.toList = Lib.parseUintM (2 ^ 64 - 1) 0 a0.data.toList from if_neg HNE.out]
   exact digits_Parse.not_bad _ _ HA2.out
  have HVAL := Lib.hid hval
  clear hval
  cases hp : Lib.parseUintB 64 a0.data.toList
  case ok u =>
   have HP := Lib.hid hp
   clear hp hns
   go_wp2_with (go_at_call 69; refine (Tryz.strconv_ParseUint_10_at64_ok a0 (by omega) u HP.out _).mono ?_; rintro e w' ⟨rfl, hw⟩; have HW := Aside0.mk hw; clear hw)
   go_ret2
   refine ⟨?_, ?_⟩
   · rw [HVAL.out, HP.out]
     rfl
   rcases HW.out with h | h
   · rw [h]; exact Below.refl _ _
   rw [h]; exact Lib.bytesWorld_below _ _ _
  case range =>
   have HP := Lib.hid hp
   clear hp hns
   obtain ⟨tp, p, hvr⟩ := HV.out.rng
   have HVR := Aside0.mk hvr
   clear hvr
   go_wp2_with (go_at_call 69; refine (Tryz.strconv_ParseUint_10_at64_range_var a0 hs HP.out tp p _ HVR.out).mono ?_; rintro e w' ⟨N, rfl, _, _, hw⟩; have HW := Aside0.mk hw; clear hw)
   go_ret2
   refine ⟨?_, HW.out⟩
   rw [HVAL.out, HP.out]
   rfl
  all_goals exact absurd (hp.trans rfl) hns
theorem digits_Parse.calls (a0 : ByteArray) (r1 r2 : Int) (w : World) (hv : Vars w) (h : digits_Parse.f a0 = some (r1, r2)) :
 Calls Tryz.prog 38 #[.string a0] w fun e w' => e = .returned (.tuple #[.int .u64 r1, .int .i64 r2]) ∧ Below w.heap.size w w' := by
 unfold digits_Parse.f at h
 split at h
 · rename_i hh
   injection h with h
   have h1 := congrArg Prod.fst h
   have h2 := congrArg Prod.snd h
   subst h1 h2
   exact digits_Parse.calls_ a0 w hh hv
 cases h

end
end Go.Proofs.YtfboejlemnfndaaGreatDoor.XMr
end
section
namespace Go.Proofs.YtfboejlemnfndaaGreatDoor.XMr
open Go.RowKit Go.Proofs.YtfboejlemnfndaaGreatDoorW.PrintWords Go.Proofs.YtfboejlemnfndaaGreatDoorW.PrintLast Go.Proofs.YtfboejlemnfndaaGreatDoorW.PrintMore
attribute [local go_sem] extract_sub max2_int min2_int max_two min_two max_three min_three max_four min_four   -- for this text's walks alone
set_option linter.unusedVariables false
set_option linter.unusedSimpArgs false

noncomputable section
def stringslite_HasPrefix.f (a0 : ByteArray) (a1 : ByteArray) : Option (Bool) := if (a0.size : Int) ≥ (a1.size : Int) then (if 0 ≤ (a1.size : Int) then (if (a1.size : Int) ≤ (a0.size : Int) then (some ((sub a0 0 ((a1.size : Int) : Int).toNat).toList == a1.toList)) else (none)) else (none)) else (some false)
set_option maxHeartbeats 8000000 in
set_option maxRecDepth 100000 in
theorem stringslite_HasPrefix.calls (a0 : ByteArray) (a1 : ByteArray) (r : Bool) (w : World) (h : stringslite_HasPrefix.f a0 a1 = some r) :
 Calls Tryz.prog 102 #[.string a0, .string a1] w fun e w' => e = .returned (.bool r) ∧ Drawn0 w w' := by
 have H : (if (a0.size : Int) ≥ (a1.size : Int) then (if 0 ≤ (a1.size : Int) then (if (a1.size : Int) ≤ (a0.size : Int) then (some ((sub a0 0 ((a1.size : Int) : Int).toNat).toList == a1.toList)) else (none)) else (none)) else (some false)) = some r := h
 clear h
 by_cases c3 : (a0.size : Int) ≥ (a1.size : Int)
 · rw [if_pos c3] at H
   have c3b0 : decide ((a1.size : Int) ≤ (a0.size : Int)) = true := decide_eq_true c3
   have c3b1 : decide (a1.size ≤ a0.size) = true := decide_eq_true (Int.ofNat_le.mp c3)
   clear c3
   by_cases c4 : 0 ≤ (a1.size : Int)
   · rw [if_pos c4] at H
     have c4b0 := eq_true c4
     have c4b1 : decide (0 ≤ (a1.size : Int)) = true := decide_eq_true c4
     clear c4
     by_cases c5 : (a1.size : Int) ≤ (a0.size : Int)
     · rw [if_pos c5] at H
       have c5b0 := eq_true c5
       have c5b1 : decide ((a1.size : Int) ≤ (a0.size : Int)) = true := decide_eq_true c5
       clear c5
       obtain rfl := Option.some.inj H
       go_enter Tryz.func102, Tryz.ntmps102
       go_wp2
       go_ret
       exact ⟨rsA, drA⟩
     rw [if_neg c5] at H
     exact absurd H (by simp)
   rw [if_neg c4] at H
   exact absurd H (by simp)
 rw [if_neg c3] at H
 have c3b0 : decide ((a1.size : Int) ≤ (a0.size : Int)) = false := decide_eq_false c3
 have c3b1 : decide (a1.size ≤ a0.size) = false := decide_eq_false (fun h => c3 (Int.ofNat_le.mpr h))
 clear c3
 obtain rfl := Option.some.inj H
 go_enter Tryz.func102, Tryz.ntmps102
 go_wp2
 go_ret
 exact ⟨rsA, drA⟩

def stringslite_CutPrefix.f (a0 : ByteArray) (a1 : ByteArray) : Option (ByteArray × Bool) := (stringslite_HasPrefix.f a0 a1).bind fun t120 => (if t120 = true then (if 0 ≤ (a1.size : Int) then (if (a1.size : Int) ≤ (a0.size : Int) then (some (sub a0 ((a1.size : Int) : Int).toNat a0.size, true)) else (none)) else (none)) else (some (a0, false)))
set_option maxHeartbeats 8000000 in
set_option maxRecDepth 100000 in
theorem stringslite_CutPrefix.calls (a0 : ByteArray) (a1 : ByteArray) (r1 : ByteArray) (r2 : Bool) (w : World) (h : stringslite_CutPrefix.f a0 a1 = some (r1, r2)) :
 Calls Tryz.prog 83 #[.string a0, .string a1] w fun e w' => e = .returned (.tuple #[.string r1, .bool r2]) ∧ Drawn0 w w' := by
 have H : ((stringslite_HasPrefix.f a0 a1).bind fun t120 => (if t120 = true then (if 0 ≤ (a1.size : Int) then (if (a1.size : Int) ≤ (a0.size : Int) then (some (sub a0 ((a1.size : Int) : Int).toNat a0.size, true)) else (none)) else (none)) else (some (a0, false)))) = some (r1, r2) := h
 clear h
 replace H := Option.bind_eq_some_iff.mp H
 obtain ⟨t120, A30, H⟩ := H
 replace H : (if t120 = true then (if 0 ≤ (a1.size : Int) then (if (a1.size : Int) ≤ (a0.size : Int) then (some (sub a0 ((a1.size : Int) : Int).toNat a0.size, true)) else (none)) else (none)) else (some (a0, false))) = some (r1, r2) := H
 have A3 := Aside0.mk A30
 clear A30
 by_cases c4 : t120 = true
 · subst c4
   have H1 : (if 0 ≤ (a1.size : Int) then (if (a1.size : Int) ≤ (a0.size : Int) then (some (sub a0 ((a1.size : Int) : Int).toNat a0.size, true)) else (none)) else (none)) = some (r1, r2) := by rw [if_pos rfl] at H; exact H
   clear H
   have H := H1
   clear H1
   by_cases c5 : 0 ≤ (a1.size : Int)
   · rw [if_pos c5] at H
     have c5b0 := eq_true c5
     have c5b1 : decide (0 ≤ (a1.size : Int)) = true := decide_eq_true c5
     clear c5
     by_cases c6 : (a1.size : Int) ≤ (a0.size : Int)
     · rw [if_pos c6] at H
       have c6b0 := eq_true c6
       have c6b1 : decide ((a1.size : Int) ≤ (a0.size : Int)) = true := decide_eq_true c6
       clear c6
       simp only [Option.some.injEq, Prod.mk.injEq] at H
       obtain ⟨rfl, rfl⟩ := H
       go_enter Tryz.func83, Tryz.ntmps83
       go_wp2_with (first | ((with_reducible refine gate_callee (f := 102) rfl ?_); refine goesL_ (some 8) rfl rfl Tryz.func102 (by kernel_rfl) rfl #[.string a0, .string a1] rfl argA ?_; (with_reducible refine (stringslite_HasPrefix.calls a0 a1 true _ A3.out).mono ?_); rintro e w' ⟨rfl, ⟨nd, rfl⟩⟩; refine ⟨_, rfl, ?_⟩))
       go_ret2
       exact ⟨rsA, drA⟩
     rw [if_neg c6] at H
     exact absurd H (by simp)
   rw [if_neg c5] at H
   exact absurd H (by simp)
 replace c4 := Bool.eq_false_iff.mpr c4
 subst c4
 have H1 : (some (a0, false)) = some (r1, r2) := by rw [if_neg (show ¬ (false = true) by decide)] at H; exact H
 clear H
 have H := H1
 clear H1
 simp only [Option.some.injEq, Prod.mk.injEq] at H
 obtain ⟨rfl, rfl⟩ := H
 go_enter Tryz.func83, Tryz.ntmps83
 go_wp2_with (first | ((with_reducible refine gate_callee (f := 102) rfl ?_); refine goesL_ (some 8) rfl rfl Tryz.func102 (by kernel_rfl) rfl #[.string a0, .string a1] rfl argA ?_; (with_reducible refine (stringslite_HasPrefix.calls a0 a1 false _ A3.out).mono ?_); rintro e w' ⟨rfl, ⟨nd, rfl⟩⟩; refine ⟨_, rfl, ?_⟩))
 go_ret2
 exact ⟨rsA, drA⟩

def strings_CutPrefix.f (a0 : ByteArray) (a1 : ByteArray) : Option (ByteArray × Bool) := (stringslite_CutPrefix.f a0 a1).bind fun bt121 => (some (bt121.1, bt121.2))
set_option maxHeartbeats 8000000 in
set_option maxRecDepth 100000 in
theorem strings_CutPrefix.calls (a0 : ByteArray) (a1 : ByteArray) (r1 : ByteArray) (r2 : Bool) (w : World) (h : strings_CutPrefix.f a0 a1 = some (r1, r2)) :
 Calls Tryz.prog 67 #[.string a0, .string a1] w fun e w' => e = .returned (.tuple #[.string r1, .bool r2]) ∧ Drawn0 w w' := by
 have H : ((stringslite_CutPrefix.f a0 a1).bind fun bt121 => (some (bt121.1, bt121.2))) = some (r1, r2) := h
 clear h
 replace H := Option.bind_eq_some_iff.mp H
 obtain ⟨⟨t121, t122⟩, A30, H⟩ := H
 replace H : (some (t121, t122)) = some (r1, r2) := H
 have A3 := Aside0.mk A30
 clear A30
 simp only [Option.some.injEq, Prod.mk.injEq] at H
 obtain ⟨rfl, rfl⟩ := H
 go_enter Tryz.func67, Tryz.ntmps67
 go_wp2_with (first | ((with_reducible refine gate_callee (f := 83) rfl ?_); refine goesL_ (some 8) rfl rfl Tryz.func83 (by kernel_rfl) rfl #[.string a0, .string a1] rfl argA ?_; (with_reducible refine (stringslite_CutPrefix.calls a0 a1 t121 t122 _ A3.out).mono ?_); rintro e w' ⟨rfl, ⟨nd, rfl⟩⟩; refine ⟨_, rfl, ?_⟩))
 go_ret2
 exact ⟨rsA, drA⟩

def digits_Signed.j0 : Nat → Bool → Int → Int → Option (Int × Int)
 | 0, _, _, _ => none
 | k + 1, x5, x6, x8 => if x6 > x8 then (some (0, 1)) else (if x5 = true then (some (wrap64 (IntKind.u64.wrap (-x6)), 0)) else (some (wrap64 (x6), 0)))
def digits_Signed.f (k : Nat) (a0 : ByteArray) : Option (Int × Int) := (strings_CutPrefix.f a0 (⟨#[45]⟩ : ByteArray)).bind fun bt123 => ((digits_Parse.f bt123.1).bind fun bt125 => (if bt125.2 = 0 then (if bt123.2 = true then (digits_Signed.j0 k bt123.2 bt125.1 (9223372036854775807 + 1)) else (digits_Signed.j0 k bt123.2 bt125.1 9223372036854775807)) else (some (0, bt125.2))))
theorem digits_Signed.mono_l : ∀ k, (∀ y0 y1 y2, LeO (digits_Signed.j0 k y0 y1 y2) (digits_Signed.j0 (k + 1) y0 y1 y2))
 | 0 => fun _ _ _ r h => by simp [digits_Signed.j0] at h
 | k + 1 => by
  have ih0 := digits_Signed.mono_l k
  · intro y0 y1 y2
    unfold digits_Signed.j0
    repeat' first
    | (with_reducible exact ih0 _ _ _)
    | (with_reducible exact LeO.refl _)
    | (with_reducible exact LeO.none _)
    | (with_reducible refine LeO.ite ?_ ?_)
    | (with_reducible refine LeO.bind ?_ (fun _ => ?_))
    | exact ih0 _ _ _
    | exact LeO.none _
    | refine LeO.ite ?_ ?_
    | refine LeO.bind ?_ (fun _ => ?_)
theorem digits_Signed.mono : ∀ a0 k, LeO (digits_Signed.f k a0) (digits_Signed.f (k + 1) a0) := by
 intro a0 k
 have ih0 := digits_Signed.mono_l k
 unfold digits_Signed.f
 repeat' first
  | (with_reducible exact ih0 _ _ _)
  | (with_reducible exact LeO.refl _)
  | (with_reducible exact LeO.none _)
  | (with_reducible refine LeO.ite ?_ ?_)
  | (with_reducible refine LeO.bind ?_ (fun _ => ?_))
  | exact ih0 _ _ _
  | exact LeO.none _
  | refine LeO.ite ?_ ?_
  | refine LeO.bind ?_ (fun _ => ?_)
set_option maxHeartbeats 8000000 in
set_option maxRecDepth 100000 in
theorem digits_Signed.calls (k : Nat) (a0 : ByteArray) (r1 : Int) (r2 : Int) (w : World) (hv : Vars w) (h : digits_Signed.f k a0 = some (r1, r2)) :
 Calls Tryz.prog 37 #[.string a0] w fun e w' => e = .returned (.tuple #[.int .i64 r1, .int .i64 r2]) ∧ Below w.heap.size w w' := by
 have HV := Aside0.mk hv
 clear hv
 have HB := Aside0.mk (Below.refl w.heap.size w)
 have H : ((strings_CutPrefix.f a0 (⟨#[45]⟩ : ByteArray)).bind fun bt123 => ((digits_Parse.f bt123.1).bind fun bt125 => (if bt125.2 = 0 then (if bt123.2 = true then (digits_Signed.j0 k bt123.2 bt125.1 (9223372036854775807 + 1)) else (digits_Signed.j0 k bt123.2 bt125.1 9223372036854775807)) else (some (0, bt125.2))))) = some (r1, r2) := h
 clear h
 replace H := Option.bind_eq_some_iff.mp H
 obtain ⟨⟨t123, t124⟩, A20, H⟩ := H
 replace H : ((digits_Parse.f t123).bind fun bt125 => (if bt125.2 = 0 then (if t124 = true then (digits_Signed.j0 k t124 bt125.1 (9223372036854775807 + 1)) else (digits_Signed.j0 k t124 bt125.1 9223372036854775807)) else (some (0, bt125.2)))) = some (r1, r2) := H
 have A2 := Aside0.mk A20
 clear A20
 replace H := Option.bind_eq_some_iff.mp H
 obtain ⟨⟨t125, t126⟩, A30, H⟩ := H
 replace H : (if t126 = 0 then (if t124 = true then (digits_Signed.j0 k t124 t125 (9223372036854775807 + 1)) else (digits_Signed.j0 k t124 t125 9223372036854775807)) else (some (0, t126))) = some (r1, r2) := H
 have A3 := Aside0.mk A30
 clear A30
 by_cases c4 : t126 = 0
 · rw [if_pos c4] at H
   have c4b0 : (t126 == 0) = true := beq_iff_eq.mpr c4
   have c4b1 : (t126 != 0) = false := bne_eq_false_iff_eq.mpr c4
   clear c4
   have HC5 := Aside0.mk H
   clear H
   go_enter Tryz.func37, Tryz.ntmps37
   go_upto_if 22 with (first | ((with_reducible refine gate_callee (f := 67) rfl ?_); refine goesL_ (some 11) rfl rfl Tryz.func67 (by kernel_rfl) rfl #[.string a0, .string (⟨#[45]⟩ : ByteArray)] rfl argA ?_; (with_reducible refine (strings_CutPrefix.calls a0 (⟨#[45]⟩ : ByteArray) t123 t124 _ A2.out).mono ?_); rintro e w' ⟨rfl, ⟨nd, rfl⟩⟩; refine ⟨_, rfl, ?_⟩) | ((with_reducible refine gate_callee (f := 38) rfl ?_); refine goesL_ (some 16) rfl rfl Tryz.func38 (by kernel_rfl) rfl #[.string t123] rfl argA ?_; (with_reducible refine (digits_Parse.calls t123 t125 t126 _ ?side1 A3.out).mono ?_); (case side1 => exact Vars.below HV.out (hbA HB.out)); rintro e w6 ⟨rfl, hb⟩; refine ⟨_, rfl, ?_⟩; replace HB := Aside0.mk (below_step (hbA HB.out) hb); (try clear hb); (try clear hb2); (try clear hk); (try clear hi)))
   (try simp only [Act.put, List.setIfInBounds_toArray, List.set_cons_zero, List.set_cons_succ])
   go_cut [8] (fun v8 wc => ∃ (kq : Nat) (x8_4 : Int), v8 = .int .u64 x8_4 ∧ Aside0 (digits_Signed.j0 kq t124 t125 x8_4 = some (r1, r2)) ∧ Aside0 (kq ≤ k) ∧ Aside0 (Below w.heap.size w wc))
   case first =>
    have H := HC5.out
    clear HC5
    by_cases c7 : t124 = true
    · subst c7
      have H1 : (digits_Signed.j0 k true t125 (9223372036854775807 + 1)) = some (r1, r2) := by rw [if_pos rfl] at H; exact H
      clear H
      have H := H1
      clear H1
      have H' := Aside0.mk H
      clear H
      go_wp2
      go_meet
      case rel => exact ⟨_, (9223372036854775807 + 1), rsA, H', ⟨by first | omega | exact Nat.le_refl _⟩, ⟨hbA HB.out⟩⟩
    replace c7 := Bool.eq_false_iff.mpr c7
    subst c7
    have H1 : (digits_Signed.j0 k false t125 9223372036854775807) = some (r1, r2) := by rw [if_neg (show ¬ (false = true) by decide)] at H; exact H
    clear H
    have H := H1
    clear H1
    have H' := Aside0.mk H
    clear H
    go_wp2
    go_meet
    case rel => exact ⟨_, (9223372036854775807), rsA, H', ⟨by first | omega | exact Nat.le_refl _⟩, ⟨hbA HB.out⟩⟩
   clear HC5
   (try clear p2); (try clear c3); (try clear c4); (try clear c4b0); (try clear c4b1); (try clear c6); (try clear c7)
   obtain ⟨kq, x8_4, rfl, HA, HJ4, HB⟩ := hcut
   cases kq with
   | zero => exact absurd HA.out (by simp [digits_Signed.j0])
   | succ kj4 =>
    have H := HA.out
    clear HA
    simp only [digits_Signed.j0] at H
    by_cases c8 : t125 > x8_4
    · rw [if_pos c8] at H
      have c8b0 : decide (x8_4 < t125) = true := decide_eq_true c8
      clear c8
      simp only [Option.some.injEq, Prod.mk.injEq] at H
      obtain ⟨rfl, rfl⟩ := H
      go_wp2
      go_ret2
      exact ⟨reA, hbA HB.out⟩
    rw [if_neg c8] at H
    have c8b0 : decide (x8_4 < t125) = false := decide_eq_false c8
    clear c8
    by_cases c9 : t124 = true
    · subst c9
      have H1 : (some (wrap64 (IntKind.u64.wrap (-t125)), 0)) = some (r1, r2) := by rw [if_pos rfl] at H; exact H
      clear H
      have H := H1
      clear H1
      simp only [Option.some.injEq, Prod.mk.injEq] at H
      obtain ⟨rfl, rfl⟩ := H
      go_wp2
      go_ret2
      exact ⟨reA, hbA HB.out⟩
    replace c9 := Bool.eq_false_iff.mpr c9
    subst c9
    have H1 : (some (wrap64 (t125), 0)) = some (r1, r2) := by rw [if_neg (show ¬ (false = true) by decide)] at H; exact H
    clear H
    have H := H1
    clear H1
    simp only [Option.some.injEq, Prod.mk.injEq] at H
    obtain ⟨rfl, rfl⟩ := H
    go_wp2
    go_ret2
    exact ⟨reA, hbA HB.out⟩
 rw [if_neg c4] at H
 have c4b0 : (t126 == 0) = false := beq_eq_false_iff_ne.mpr c4
 have c4b1 : (t126 != 0) = true := bne_iff_ne.mpr c4
 simp only [Option.some.injEq, Prod.mk.injEq] at H
 obtain ⟨rfl, rfl⟩ := H
 go_enter Tryz.func37, Tryz.ntmps37
 go_wp2_with (first | ((with_reducible refine gate_callee (f := 67) rfl ?_); refine goesL_ (some 11) rfl rfl Tryz.func67 (by kernel_rfl) rfl #[.string a0, .string (⟨#[45]⟩ : ByteArray)] rfl argA ?_; (with_reducible refine (strings_CutPrefix.calls a0 (⟨#[45]⟩ : ByteArray) t123 t124 _ A2.out).mono ?_); rintro e w' ⟨rfl, ⟨nd, rfl⟩⟩; refine ⟨_, rfl, ?_⟩) | ((with_reducible refine gate_callee (f := 38) rfl ?_); refine goesL_ (some 16) rfl rfl Tryz.func38 (by kernel_rfl) rfl #[.string t123] rfl argA ?_; (with_reducible refine (digits_Parse.calls t123 t125 t126 _ ?side1 A3.out).mono ?_); (case side1 => exact Vars.below HV.out (hbA HB.out)); rintro e w10 ⟨rfl, hb⟩; refine ⟨_, rfl, ?_⟩; replace HB := Aside0.mk (below_step (hbA HB.out) hb); (try clear hb); (try clear hb2); (try clear hk); (try clear hi)))
 go_ret2
 exact ⟨reA, hbA HB.out⟩

end
end Go.Proofs.YtfboejlemnfndaaGreatDoor.XMr
end
section
namespace Go.Proofs.YtfboejlemnfndaaGreatDoor.XMr
open Go.RowKit Go.Proofs.YtfboejlemnfndaaGreatDoorW.PrintWords Go.Proofs.YtfboejlemnfndaaGreatDoorW.PrintLast Go.Proofs.YtfboejlemnfndaaGreatDoorW.PrintMore
attribute [local go_sem] extract_sub max2_int min2_int max_two min_two max_three min_three max_four min_four   -- for this text's walks alone
set_option linter.unusedVariables false
set_option linter.unusedSimpArgs false

noncomputable section
def strings_Contains.f (a0 a1 : ByteArray) : Option Bool := if a0.size < 4294967281 then some (Lib.contains a0.data.toList a1.data.toList) else none
theorem strings_Contains.calls (a0 a1 : ByteArray) (r : Bool) (w : World) (hv : Vars w) (h : strings_Contains.f a0 a1 = some r) :
 Calls Tryz.prog 78 #[.string a0, .string a1] w fun e w' => e = .returned (.bool r) ∧ Below w.heap.size w w' := by
 unfold strings_Contains.f at h
 split at h
 · rename_i hh
   injection h with h
   subst h
   obtain ⟨m, hm⟩ := hv.most
   exact (Tryz.strings_Contains a0 a1 m w hh hm).mono fun e w' ⟨he, hw⟩ => ⟨he, by rw [hw]; exact Below.refl _ _⟩
 cases h

end
end Go.Proofs.YtfboejlemnfndaaGreatDoor.XMr
end
section
namespace Go.Proofs.YtfboejlemnfndaaGreatDoor.XMr
open Go.RowKit Go.Proofs.YtfboejlemnfndaaGreatDoorW.PrintWords Go.Proofs.YtfboejlemnfndaaGreatDoorW.PrintLast Go.Proofs.YtfboejlemnfndaaGreatDoorW.PrintMore
attribute [local go_sem] extract_sub max2_int min2_int max_two min_two max_three min_three max_four min_four   -- for this text's walks alone
set_option linter.unusedVariables false
set_option linter.unusedSimpArgs false

noncomputable section
def meta_modes.f (a0 : Int) : Option (ByteArray) := if a0 = 2 then (some (⟨#[65, 69, 80, 82, 83]⟩ : ByteArray)) else (some (⟨#[73, 68]⟩ : ByteArray))
set_option maxHeartbeats 8000000 in
set_option maxRecDepth 100000 in
theorem meta_modes.calls (a0 : Int) (r : ByteArray) (w : World) (h : meta_modes.f a0 = some r) :
 Calls Tryz.prog 79 #[.int .i64 a0] w fun e w' => e = .returned (.string r) ∧ Drawn0 w w' := by
 have H : (if a0 = 2 then (some (⟨#[65, 69, 80, 82, 83]⟩ : ByteArray)) else (some (⟨#[73, 68]⟩ : ByteArray))) = some r := h
 clear h
 by_cases c2 : a0 = 2
 · rw [if_pos c2] at H
   have c2b0 : (a0 == 2) = true := beq_iff_eq.mpr c2
   have c2b1 : (a0 != 2) = false := bne_eq_false_iff_eq.mpr c2
   clear c2
   obtain rfl := Option.some.inj H
   go_enter Tryz.func79, Tryz.ntmps79
   go_wp2
   go_ret
   exact ⟨rsA, drA⟩
 rw [if_neg c2] at H
 have c2b0 : (a0 == 2) = false := beq_eq_false_iff_ne.mpr c2
 have c2b1 : (a0 != 2) = true := bne_iff_ne.mpr c2
 obtain rfl := Option.some.inj H
 go_enter Tryz.func79, Tryz.ntmps79
 go_wp2
 go_ret
 exact ⟨rsA, drA⟩

def meta_right.f (k : Nat) (a0 : Int) (a1_0 : Int) (a1_1 : ByteArray) : Option (Bool) := (meta_sortOf.f k a1_0).bind fun t128 => (if t128 = 1 then ((digits_Parse.f a1_1).bind fun bt129 => (some (bt129.2 == 0))) else (if t128 = 2 then ((digits_Parse.f a1_1).bind fun bt131 => (if bt131.2 = 0 then (some (decide (bt131.1 ≤ 4294967295))) else (some false))) else (if t128 = 3 then ((digits_Signed.f k a1_1).bind fun bt133 => (some (bt133.2 == 0))) else (if t128 = 4 then ((fnv_Key.f k a1_1).bind fun t135 => (some t135)) else (if t128 = 5 then (if (a1_1.size : Int) = 1 then ((meta_modes.f a0).bind fun t136 => ((strings_Contains.f t136 a1_1).bind fun t137 => (some t137))) else (some false)) else (some (a1_1.toList == ([] : List UInt8))))))))
theorem meta_right.mono : ∀ a0 a1 a2 k, LeO (meta_right.f k a0 a1 a2) (meta_right.f (k + 1) a0 a1 a2) := by
 intro a0 a1 a2 k
 unfold meta_right.f
 repeat' first
  | (with_reducible exact digits_Signed.mono _ _)
  | (with_reducible exact fnv_Key.mono _ _)
  | (with_reducible exact meta_sortOf.mono _ _)
  | (with_reducible exact LeO.refl _)
  | (with_reducible exact LeO.none _)
  | (with_reducible refine LeO.ite ?_ ?_)
  | (with_reducible refine LeO.bind ?_ (fun _ => ?_))
  | exact digits_Signed.mono _ _
  | exact fnv_Key.mono _ _
  | exact meta_sortOf.mono _ _
  | exact LeO.none _
  | refine LeO.ite ?_ ?_
  | refine LeO.bind ?_ (fun _ => ?_)
def meta_right.T14 : Bool × List (List Nat × List Nat) := (true, [([], []), ([0], [0]), ([1], [1]), ([2], [2]), ([3], [3]), ([4], [4]), ([5, 4, 4], [4, 5]), ([4], [4]), ([7, 4], [4, 7]), ([6, 8, 6, 4], [4, 6, 8]), ([4, 9], [4, 9]), ([10, 9, 0, 1, 2, 3, 4, 5, 6, 7, 8, 9, 10], [10])])
def meta_right.B14 : List Nat := [0, 1, 3, 7, 15, 31, 63, 31, 159, 511, 1023, 2047]
theorem meta_right.tab14 : rtab .any (opsOf Tryz.f61 14) = meta_right.T14 := by kernel_rfl
theorem meta_right.bits14 : waitsOk meta_right.T14.2 meta_right.B14 = true := by kernel_rfl
set_option maxHeartbeats 8000000 in
set_option maxRecDepth 100000 in
theorem meta_right.calls (k : Nat) (a0 : Int) (a1_0 : Int) (a1_1 : ByteArray) (r : Bool) (w : World) (hv : Vars w) (h : meta_right.f k a0 a1_0 a1_1 = some r) :
 Calls Tryz.prog 61 #[.int .i64 a0, .agg #[.int .u8 a1_0, .string a1_1]] w fun e w' => e = .returned (.bool r) ∧ Below w.heap.size w w' := by
 have hu61 := Tryz.underlying61
 have HV := Aside0.mk hv
 clear hv
 have HB := Aside0.mk (Below.refl w.heap.size w)
 have H : ((meta_sortOf.f k a1_0).bind fun t128 => (if t128 = 1 then ((digits_Parse.f a1_1).bind fun bt129 => (some (bt129.2 == 0))) else (if t128 = 2 then ((digits_Parse.f a1_1).bind fun bt131 => (if bt131.2 = 0 then (some (decide (bt131.1 ≤ 4294967295))) else (some false))) else (if t128 = 3 then ((digits_Signed.f k a1_1).bind fun bt133 => (some (bt133.2 == 0))) else (if t128 = 4 then ((fnv_Key.f k a1_1).bind fun t135 => (some t135)) else (if t128 = 5 then (if (a1_1.size : Int) = 1 then ((meta_modes.f a0).bind fun t136 => ((strings_Contains.f t136 a1_1).bind fun t137 => (some t137))) else (some false)) else (some (a1_1.toList == ([] : List UInt8))))))))) = some r := h
 clear h
 replace H := Option.bind_eq_some_iff.mp H
 obtain ⟨t128, A30, H⟩ := H
 replace H : (if t128 = 1 then ((digits_Parse.f a1_1).bind fun bt129 => (some (bt129.2 == 0))) else (if t128 = 2 then ((digits_Parse.f a1_1).bind fun bt131 => (if bt131.2 = 0 then (some (decide (bt131.1 ≤ 4294967295))) else (some false))) else (if t128 = 3 then ((digits_Signed.f k a1_1).bind fun bt133 => (some (bt133.2 == 0))) else (if t128 = 4 then ((fnv_Key.f k a1_1).bind fun t135 => (some t135)) else (if t128 = 5 then (if (a1_1.size : Int) = 1 then ((meta_modes.f a0).bind fun t136 => ((strings_Contains.f t136 a1_1).bind fun t137 => (some t137))) else (some false)) else (some (a1_1.toList == ([] : List UInt8)))))))) = some r := H
 have A3 := Aside0.mk A30
 clear A30
 by_cases c4 : t128 = 1
 · rw [if_pos c4] at H
   have c4b0 : (t128 == 1) = true := beq_iff_eq.mpr c4
   have c4b1 : (t128 != 1) = false := bne_eq_false_iff_eq.mpr c4
   clear c4
   replace H := Option.bind_eq_some_iff.mp H
   obtain ⟨⟨t129, t130⟩, A50, H⟩ := H
   replace H : (some (t130 == 0)) = some r := H
   have A5 := Aside0.mk A50
   clear A50
   obtain rfl := Option.some.inj H
   go_enter Tryz.func61, Tryz.ntmps61
   go_wp2_with (first | ((with_reducible refine gate_dst (N := 3) rfl ?_); refine box_event ?hg (N := 3) ?hd (cs := #[.int .u8 a1_0, .string a1_1]) (t := 61) ?hr ?_; (case hd => rfl); (case hg => rfl); (case hr => first | (go_simp; done) | (go_simp; rfl)); intro gb127 hg w6 hbox hb; have n0_ := Aside0.mk (below_step (hbA HB.out) hb); have n1_ := Aside0.mk (hbox); have n2_ := Aside0.mk ((by rw [hg]; exact (below_size (hbA HB.out)) : w.heap.size ≤ gb127)); have n3_ := Aside0.mk ((by rw [hg]; exact (below_size (hbA HB.out)) : w.heap.size ≤ gb127)); clear HB; have HB := n0_; have BK127 := n1_; have GW127 := n2_; have GE127 := n3_; clear n0_ n1_ n2_ n3_; clear hb hbox hg; obtain ⟨hcz7_0, hcz7_1, hfz7_0, hfz7_1⟩ := blkA2 BK127.out) | ((with_reducible refine gate_callee (f := 36) rfl ?_); refine goesL_ (some 13) rfl rfl Tryz.func36 (by kernel_rfl) rfl #[.int .u8 a1_0] rfl argA ?_; (with_reducible refine (meta_sortOf.calls k a1_0 t128 _ A3.out).mono ?_); rintro e w' ⟨rfl, ⟨nd, rfl⟩⟩; refine ⟨_, rfl, ?_⟩) | ((with_reducible refine gate_callee (f := 38) rfl ?_); refine goesL_ (some 19) rfl rfl Tryz.func38 (by kernel_rfl) rfl #[.string a1_1] rfl argA ?_; (with_reducible refine (digits_Parse.calls a1_1 t129 t130 _ ?side1 A5.out).mono ?_); (case side1 => exact Vars.below HV.out (hbA HB.out)); rintro e w8 ⟨rfl, hb⟩; refine ⟨_, rfl, ?_⟩; replace BK127 := Aside0.mk (blk_below (g := gb127) (o := .cells #[.int .u8 a1_0, .string a1_1] 61 (0, 0)) (rbA BK127.out) hb); replace HB := Aside0.mk (below_step (hbA HB.out) hb); (try clear hb); (try clear hb2); (try clear hk); (try clear hi)))
   go_ret
   exact ⟨reA, hbA HB.out⟩
 rw [if_neg c4] at H
 have c4b0 : (t128 == 1) = false := beq_eq_false_iff_ne.mpr c4
 have c4b1 : (t128 != 1) = true := bne_iff_ne.mpr c4
 by_cases c9 : t128 = 2
 · rw [if_pos c9] at H
   have c9b0 : (t128 == 2) = true := beq_iff_eq.mpr c9
   have c9b1 : (t128 != 2) = false := bne_eq_false_iff_eq.mpr c9
   clear c9
   replace H := Option.bind_eq_some_iff.mp H
   obtain ⟨⟨t131, t132⟩, A100, H⟩ := H
   replace H : (if t132 = 0 then (some (decide (t131 ≤ 4294967295))) else (some false)) = some r := H
   have A10 := Aside0.mk A100
   clear A100
   by_cases c11 : t132 = 0
   · rw [if_pos c11] at H
     have c11b0 : (t132 == 0) = true := beq_iff_eq.mpr c11
     have c11b1 : (t132 != 0) = false := bne_eq_false_iff_eq.mpr c11
     clear c11
     obtain rfl := Option.some.inj H
     go_enter Tryz.func61, Tryz.ntmps61
     go_wp2_with (first | ((with_reducible refine gate_dst (N := 3) rfl ?_); refine box_event ?hg (N := 3) ?hd (cs := #[.int .u8 a1_0, .string a1_1]) (t := 61) ?hr ?_; (case hd => rfl); (case hg => rfl); (case hr => first | (go_simp; done) | (go_simp; rfl)); intro gb127 hg w12 hbox hb; have n0_ := Aside0.mk (below_step (hbA HB.out) hb); have n1_ := Aside0.mk (hbox); have n2_ := Aside0.mk ((by rw [hg]; exact (below_size (hbA HB.out)) : w.heap.size ≤ gb127)); have n3_ := Aside0.mk ((by rw [hg]; exact (below_size (hbA HB.out)) : w.heap.size ≤ gb127)); clear HB; have HB := n0_; have BK127 := n1_; have GW127 := n2_; have GE127 := n3_; clear n0_ n1_ n2_ n3_; clear hb hbox hg; obtain ⟨hcz13_0, hcz13_1, hfz13_0, hfz13_1⟩ := blkA2 BK127.out) | ((with_reducible refine gate_callee (f := 36) rfl ?_); refine goesL_ (some 13) rfl rfl Tryz.func36 (by kernel_rfl) rfl #[.int .u8 a1_0] rfl argA ?_; (with_reducible refine (meta_sortOf.calls k a1_0 t128 _ A3.out).mono ?_); rintro e w' ⟨rfl, ⟨nd, rfl⟩⟩; refine ⟨_, rfl, ?_⟩) | ((with_reducible refine gate_callee (f := 38) rfl ?_); refine goesL_ (some 29) rfl rfl Tryz.func38 (by kernel_rfl) rfl #[.string a1_1] rfl argA ?_; (with_reducible refine (digits_Parse.calls a1_1 t131 t132 _ ?side1 A10.out).mono ?_); (case side1 => exact Vars.below HV.out (hbA HB.out)); rintro e w14 ⟨rfl, hb⟩; refine ⟨_, rfl, ?_⟩; replace BK127 := Aside0.mk (blk_below (g := gb127) (o := .cells #[.int .u8 a1_0, .string a1_1] 61 (0, 0)) (rbA BK127.out) hb); replace HB := Aside0.mk (below_step (hbA HB.out) hb); (try clear hb); (try clear hb2); (try clear hk); (try clear hi)))
     go_ret
     exact ⟨reA, hbA HB.out⟩
   rw [if_neg c11] at H
   have c11b0 : (t132 == 0) = false := beq_eq_false_iff_ne.mpr c11
   have c11b1 : (t132 != 0) = true := bne_iff_ne.mpr c11
   obtain rfl := Option.some.inj H
   go_enter Tryz.func61, Tryz.ntmps61
   go_wp2_with (first | ((with_reducible refine gate_dst (N := 3) rfl ?_); refine box_event ?hg (N := 3) ?hd (cs := #[.int .u8 a1_0, .string a1_1]) (t := 61) ?hr ?_; (case hd => rfl); (case hg => rfl); (case hr => first | (go_simp; done) | (go_simp; rfl)); intro gb127 hg w15 hbox hb; have n0_ := Aside0.mk (below_step (hbA HB.out) hb); have n1_ := Aside0.mk (hbox); have n2_ := Aside0.mk ((by rw [hg]; exact (below_size (hbA HB.out)) : w.heap.size ≤ gb127)); have n3_ := Aside0.mk ((by rw [hg]; exact (below_size (hbA HB.out)) : w.heap.size ≤ gb127)); clear HB; have HB := n0_; have BK127 := n1_; have GW127 := n2_; have GE127 := n3_; clear n0_ n1_ n2_ n3_; clear hb hbox hg; obtain ⟨hcz16_0, hcz16_1, hfz16_0, hfz16_1⟩ := blkA2 BK127.out) | ((with_reducible refine gate_callee (f := 36) rfl ?_); refine goesL_ (some 13) rfl rfl Tryz.func36 (by kernel_rfl) rfl #[.int .u8 a1_0] rfl argA ?_; (with_reducible refine (meta_sortOf.calls k a1_0 t128 _ A3.out).mono ?_); rintro e w' ⟨rfl, ⟨nd, rfl⟩⟩; refine ⟨_, rfl, ?_⟩) | ((with_reducible refine gate_callee (f := 38) rfl ?_); refine goesL_ (some 29) rfl rfl Tryz.func38 (by kernel_rfl) rfl #[.string a1_1] rfl argA ?_; (with_reducible refine (digits_Parse.calls a1_1 t131 t132 _ ?side1 A10.out).mono ?_); (case side1 => exact Vars.below HV.out (hbA HB.out)); rintro e w17 ⟨rfl, hb⟩; refine ⟨_, rfl, ?_⟩; replace BK127 := Aside0.mk (blk_below (g := gb127) (o := .cells #[.int .u8 a1_0, .string a1_1] 61 (0, 0)) (rbA BK127.out) hb); replace HB := Aside0.mk (below_step (hbA HB.out) hb); (try clear hb); (try clear hb2); (try clear hk); (try clear hi)))
   go_ret
   exact ⟨reA, hbA HB.out⟩
 rw [if_neg c9] at H
 have c9b0 : (t128 == 2) = false := beq_eq_false_iff_ne.mpr c9
 have c9b1 : (t128 != 2) = true := bne_iff_ne.mpr c9
 by_cases c18 : t128 = 3
 · rw [if_pos c18] at H
   have c18b0 : (t128 == 3) = true := beq_iff_eq.mpr c18
   have c18b1 : (t128 != 3) = false := bne_eq_false_iff_eq.mpr c18
   clear c18
   replace H := Option.bind_eq_some_iff.mp H
   obtain ⟨⟨t133, t134⟩, A190, H⟩ := H
   replace H : (some (t134 == 0)) = some r := H
   have A19 := Aside0.mk A190
   clear A190
   obtain rfl := Option.some.inj H
   go_enter Tryz.func61, Tryz.ntmps61
   go_wp2_with (first | ((with_reducible refine gate_dst (N := 3) rfl ?_); refine box_event ?hg (N := 3) ?hd (cs := #[.int .u8 a1_0, .string a1_1]) (t := 61) ?hr ?_; (case hd => rfl); (case hg => rfl); (case hr => first | (go_simp; done) | (go_simp; rfl)); intro gb127 hg w20 hbox hb; have n0_ := Aside0.mk (below_step (hbA HB.out) hb); have n1_ := Aside0.mk (hbox); have n2_ := Aside0.mk ((by rw [hg]; exact (below_size (hbA HB.out)) : w.heap.size ≤ gb127)); have n3_ := Aside0.mk ((by rw [hg]; exact (below_size (hbA HB.out)) : w.heap.size ≤ gb127)); clear HB; have HB := n0_; have BK127 := n1_; have GW127 := n2_; have GE127 := n3_; clear n0_ n1_ n2_ n3_; clear hb hbox hg; obtain ⟨hcz21_0, hcz21_1, hfz21_0, hfz21_1⟩ := blkA2 BK127.out) | ((with_reducible refine gate_callee (f := 36) rfl ?_); refine goesL_ (some 13) rfl rfl Tryz.func36 (by kernel_rfl) rfl #[.int .u8 a1_0] rfl argA ?_; (with_reducible refine (meta_sortOf.calls k a1_0 t128 _ A3.out).mono ?_); rintro e w' ⟨rfl, ⟨nd, rfl⟩⟩; refine ⟨_, rfl, ?_⟩) | ((with_reducible refine gate_callee (f := 37) rfl ?_); refine goesL_ (some 43) rfl rfl Tryz.func37 (by kernel_rfl) rfl #[.string a1_1] rfl argA ?_; (with_reducible refine (digits_Signed.calls k a1_1 t133 t134 _ ?side1 A19.out).mono ?_); (case side1 => exact Vars.below HV.out (hbA HB.out)); rintro e w22 ⟨rfl, hb⟩; refine ⟨_, rfl, ?_⟩; replace BK127 := Aside0.mk (blk_below (g := gb127) (o := .cells #[.int .u8 a1_0, .string a1_1] 61 (0, 0)) (rbA BK127.out) hb); replace HB := Aside0.mk (below_step (hbA HB.out) hb); (try clear hb); (try clear hb2); (try clear hk); (try clear hi)))
   go_ret
   exact ⟨reA, hbA HB.out⟩
 rw [if_neg c18] at H
 have c18b0 : (t128 == 3) = false := beq_eq_false_iff_ne.mpr c18
 have c18b1 : (t128 != 3) = true := bne_iff_ne.mpr c18
 by_cases c23 : t128 = 4
 · rw [if_pos c23] at H
   have c23b0 : (t128 == 4) = true := beq_iff_eq.mpr c23
   have c23b1 : (t128 != 4) = false := bne_eq_false_iff_eq.mpr c23
   clear c23
   replace H := Option.bind_eq_some_iff.mp H
   obtain ⟨t135, A240, H⟩ := H
   replace H : (some t135) = some r := H
   have A24 := Aside0.mk A240
   clear A240
   obtain rfl := Option.some.inj H
   go_enter Tryz.func61, Tryz.ntmps61
   go_wp2_with (first | ((with_reducible refine gate_dst (N := 3) rfl ?_); refine box_event ?hg (N := 3) ?hd (cs := #[.int .u8 a1_0, .string a1_1]) (t := 61) ?hr ?_; (case hd => rfl); (case hg => rfl); (case hr => first | (go_simp; done) | (go_simp; rfl)); intro gb127 hg w25 hbox hb; have n0_ := Aside0.mk (below_step (hbA HB.out) hb); have n1_ := Aside0.mk (hbox); have n2_ := Aside0.mk ((by rw [hg]; exact (below_size (hbA HB.out)) : w.heap.size ≤ gb127)); have n3_ := Aside0.mk ((by rw [hg]; exact (below_size (hbA HB.out)) : w.heap.size ≤ gb127)); clear HB; have HB := n0_; have BK127 := n1_; have GW127 := n2_; have GE127 := n3_; clear n0_ n1_ n2_ n3_; clear hb hbox hg; obtain ⟨hcz26_0, hcz26_1, hfz26_0, hfz26_1⟩ := blkA2 BK127.out) | ((with_reducible refine gate_callee (f := 36) rfl ?_); refine goesL_ (some 13) rfl rfl Tryz.func36 (by kernel_rfl) rfl #[.int .u8 a1_0] rfl argA ?_; (with_reducible refine (meta_sortOf.calls k a1_0 t128 _ A3.out).mono ?_); rintro e w' ⟨rfl, ⟨nd, rfl⟩⟩; refine ⟨_, rfl, ?_⟩) | ((with_reducible refine gate_callee (f := 77) rfl ?_); refine goesL_ (some 52) rfl rfl Tryz.func77 (by kernel_rfl) rfl #[.string a1_1] rfl argA ?_; (with_reducible refine (fnv_Key.calls k a1_1 t135 _ A24.out).mono ?_); rintro e w' ⟨rfl, ⟨nd, rfl⟩⟩; refine ⟨_, rfl, ?_⟩))
   go_ret
   exact ⟨reA, hbA HB.out⟩
 rw [if_neg c23] at H
 have c23b0 : (t128 == 4) = false := beq_eq_false_iff_ne.mpr c23
 have c23b1 : (t128 != 4) = true := bne_iff_ne.mpr c23
 by_cases c27 : t128 = 5
 · rw [if_pos c27] at H
   have c27b0 : (t128 == 5) = true := beq_iff_eq.mpr c27
   have c27b1 : (t128 != 5) = false := bne_eq_false_iff_eq.mpr c27
   clear c27
   by_cases c28 : (a1_1.size : Int) = 1
   · rw [if_pos c28] at H
     have c28b0 : ((a1_1.size : Int) == 1) = true := beq_iff_eq.mpr c28
     have c28b1 : ((a1_1.size : Int) != 1) = false := bne_eq_false_iff_eq.mpr c28
     clear c28
     replace H := Option.bind_eq_some_iff.mp H
     obtain ⟨t136, A290, H⟩ := H
     replace H : ((strings_Contains.f t136 a1_1).bind fun t137 => (some t137)) = some r := H
     have A29 := Aside0.mk A290
     clear A290
     replace H := Option.bind_eq_some_iff.mp H
     obtain ⟨t137, A300, H⟩ := H
     replace H : (some t137) = some r := H
     have A30 := Aside0.mk A300
     clear A300
     obtain rfl := Option.some.inj H
     go_enter Tryz.func61, Tryz.ntmps61
     try go_wp2_with (first | ((with_reducible refine gate_dst (N := 3) rfl ?_); refine box_event ?hg (N := 3) ?hd (cs := #[.int .u8 a1_0, .string a1_1]) (t := 61) ?hr ?_; (case hd => rfl); (case hg => rfl); (case hr => first | (go_simp; done) | (go_simp; rfl)); intro gb127 hg w31 hbox hb; have n0_ := Aside0.mk (below_step (hbA HB.out) hb); have n1_ := Aside0.mk (hbox); have n2_ := Aside0.mk ((by rw [hg]; exact (below_size (hbA HB.out)) : w.heap.size ≤ gb127)); have n3_ := Aside0.mk ((by rw [hg]; exact (below_size (hbA HB.out)) : w.heap.size ≤ gb127)); clear HB; have HB := n0_; have BK127 := n1_; have GW127 := n2_; have GE127 := n3_; clear n0_ n1_ n2_ n3_; clear hb hbox hg; obtain ⟨hcz32_0, hcz32_1, hfz32_0, hfz32_1⟩ := blkA2 BK127.out) | ((with_reducible refine gate_callee (f := 36) rfl ?_); refine goesL_ (some 13) rfl rfl Tryz.func36 (by kernel_rfl) rfl #[.int .u8 a1_0] rfl argA ?_; (with_reducible refine (meta_sortOf.calls k a1_0 t128 _ A3.out).mono ?_); rintro e w' ⟨rfl, ⟨nd, rfl⟩⟩; refine ⟨_, rfl, ?_⟩))
     (try (rw [drewN_self w31]; generalize hq_ : World.drewN w31 _ = w31; have n0_ : Aside0 (w31.heap[gb127]? = some (.cells #[.int .u8 a1_0, .string a1_1] 61 (0, 0))) := ⟨by rw [← hq_]; exact (rbA BK127.out)⟩; have n1_ : Aside0 (Below w.heap.size w w31) := ⟨by rw [← hq_]; exact (hbA HB.out)⟩; clear BK127 HB hq_; have BK127 := n0_; have HB := n1_; clear n0_ n1_))
     replace BK127 := Aside0.mk (blk_drew BK127.out)
     replace HB := Aside0.mk (below_drew1 HB.out)
     refine start_ (n := 12) (S := fun w' => w'.cell? ⟨gb127, 0, none⟩ = some (.int .u8 a1_0) ∧ w'.cell? ⟨gb127, 1, none⟩ = some (.string a1_1)) (ds := []) #[false, false, false, false, false, false, false, false, false, false, false, false] (by kernel_rfl) rfl rfl ⟨(blk_cell BK127.out 0).trans rfl, (blk_cell BK127.out 1).trans rfl⟩ (fun hHeld => ?_); refine with_tabW meta_right.tab14 meta_right.bits14 (fun HT_ HW_ => ?_)
     generalize w31.drew = w33 at BK127 HB hHeld ⊢
     refine pureA_ (i := 0) (N := some 55) #[true, false, false, false, false, false, false, false, false, false, false, false] rfl rfl ?_ (hc := any_of HT_.out (by kernel_rfl))
     refine takeA_ (i := 1) (N := some 56) #[true, true, false, false, false, false, false, false, false, false, false, false] rfl rfl hHeld ?_ (hc := take_ofW HT_.out HW_.out (by kernel_rfl)) (hy := by rintro w' ⟨s0, s1⟩; go_simp; with_reducible rfl)
     refine pureA_ (i := 2) (N := some 57) #[true, true, true, false, false, false, false, false, false, false, false, false] rfl rfl ?_ (hc := any_of HT_.out (by kernel_rfl))
     refine pureA_ (i := 3) (N := some 58) #[true, true, true, true, false, false, false, false, false, false, false, false] rfl rfl ?_ (hc := any_of HT_.out (by kernel_rfl))
     refine pureA_ (i := 4) (N := some 59) #[true, true, true, true, true, false, false, false, false, false, false, false] rfl rfl ?_ (hc := any_of HT_.out (by kernel_rfl))
     refine pureA_ (i := 5) (N := some 60) #[true, true, true, true, true, true, false, false, false, false, false, false] rfl rfl ?_ (hc := any_of HT_.out (by kernel_rfl))
     refine pureA_ (i := 7) (N := some 62) #[true, true, true, true, true, true, false, true, false, false, false, false] rfl rfl ?_ (hc := any_of HT_.out (by kernel_rfl))
     refine takeA_ (i := 8) (N := some 63) #[true, true, true, true, true, true, false, true, true, false, false, false] rfl rfl hHeld ?_ (hc := take_ofW HT_.out HW_.out (by kernel_rfl)) (hy := by rintro w' ⟨s0, s1⟩; go_simp; with_reducible rfl)
     refine one_ (i := 6) (N := some 61) #[true, true, true, true, true, true, true, true, true, false, false, false] rfl rfl (one_of HT_.out (by kernel_rfl)) (by decide) (fun K hK => ?_)
     refine goes_ Tryz.func79 (by kernel_rfl) rfl #[.int .i64 a0] (by rfl) rfl rfl argA ?_
     with_reducible refine (meta_modes.calls a0 t136 _ A29.out).mono ?_
     rintro e w' ⟨rfl, ⟨nd, rfl⟩⟩
     refine ⟨_, rfl, ?_⟩
     refine hK.out _ _ ⟨(blk_cell BK127.out 0).trans rfl, (blk_cell BK127.out 1).trans rfl⟩ (fun hHeld => ?_)
     clear hK K
     refine normA_ ?_
     refine one_ (i := 9) (N := some 64) #[true, true, true, true, true, true, true, true, true, true, false, false] rfl rfl (one_of HT_.out (by kernel_rfl)) (by decide) (fun K hK => ?_)
     refine goes_ Tryz.func78 (by kernel_rfl) rfl #[.string t136, .string a1_1] (by rfl) rfl rfl argA ?_
     with_reducible refine (strings_Contains.calls t136 a1_1 t137 _ ?side1 A30.out).mono ?_
     (case side1 => exact Vars.below HV.out (hbA HB.out))
     rintro e w34 ⟨rfl, hb⟩
     refine ⟨_, rfl, ?_⟩
     replace BK127 := Aside0.mk (blk_below (g := gb127) (o := .cells #[.int .u8 a1_0, .string a1_1] 61 (0, 0)) (rbA BK127.out) hb)
     replace HB := Aside0.mk (below_step (hbA HB.out) hb)
     (try clear hb)
     (try clear hb2)
     (try clear hk)
     (try clear hi)
     refine hK.out _ _ ⟨(blk_cell BK127.out 0).trans rfl, (blk_cell BK127.out 1).trans rfl⟩ (fun hHeld => ?_)
     clear hK K
     refine normA_ ?_
     refine pureA_ (i := 10) (N := some 65) #[true, true, true, true, true, true, true, true, true, true, true, false] rfl rfl ?_ (hc := any_of HT_.out (by kernel_rfl))
     refine pureA_ (i := 11) (N := some 4) #[true, true, true, true, true, true, true, true, true, true, true, true] rfl rfl ?_ (hc := any_of HT_.out (by kernel_rfl))
     refine done_ (done_of HT_.out (by kernel_rfl)) ?_
     try go_wp2
     go_ret
     exact ⟨reA, hbA HB.out⟩
   rw [if_neg c28] at H
   have c28b0 : ((a1_1.size : Int) == 1) = false := beq_eq_false_iff_ne.mpr c28
   have c28b1 : ((a1_1.size : Int) != 1) = true := bne_iff_ne.mpr c28
   obtain rfl := Option.some.inj H
   go_enter Tryz.func61, Tryz.ntmps61
   try go_wp2_with (first | ((with_reducible refine gate_dst (N := 3) rfl ?_); refine box_event ?hg (N := 3) ?hd (cs := #[.int .u8 a1_0, .string a1_1]) (t := 61) ?hr ?_; (case hd => rfl); (case hg => rfl); (case hr => first | (go_simp; done) | (go_simp; rfl)); intro gb127 hg w35 hbox hb; have n0_ := Aside0.mk (below_step (hbA HB.out) hb); have n1_ := Aside0.mk (hbox); have n2_ := Aside0.mk ((by rw [hg]; exact (below_size (hbA HB.out)) : w.heap.size ≤ gb127)); have n3_ := Aside0.mk ((by rw [hg]; exact (below_size (hbA HB.out)) : w.heap.size ≤ gb127)); clear HB; have HB := n0_; have BK127 := n1_; have GW127 := n2_; have GE127 := n3_; clear n0_ n1_ n2_ n3_; clear hb hbox hg; obtain ⟨hcz36_0, hcz36_1, hfz36_0, hfz36_1⟩ := blkA2 BK127.out) | ((with_reducible refine gate_callee (f := 36) rfl ?_); refine goesL_ (some 13) rfl rfl Tryz.func36 (by kernel_rfl) rfl #[.int .u8 a1_0] rfl argA ?_; (with_reducible refine (meta_sortOf.calls k a1_0 t128 _ A3.out).mono ?_); rintro e w' ⟨rfl, ⟨nd, rfl⟩⟩; refine ⟨_, rfl, ?_⟩))
   (try (rw [drewN_self w35]; generalize hq_ : World.drewN w35 _ = w35; have n0_ : Aside0 (w35.heap[gb127]? = some (.cells #[.int .u8 a1_0, .string a1_1] 61 (0, 0))) := ⟨by rw [← hq_]; exact (rbA BK127.out)⟩; have n1_ : Aside0 (Below w.heap.size w w35) := ⟨by rw [← hq_]; exact (hbA HB.out)⟩; clear BK127 HB hq_; have BK127 := n0_; have HB := n1_; clear n0_ n1_))
   replace BK127 := Aside0.mk (blk_drew BK127.out)
   replace HB := Aside0.mk (below_drew1 HB.out)
   refine start_ (n := 12) (S := fun w' => w'.cell? ⟨gb127, 0, none⟩ = some (.int .u8 a1_0) ∧ w'.cell? ⟨gb127, 1, none⟩ = some (.string a1_1)) (ds := []) #[false, false, false, false, false, false, false, false, false, false, false, false] (by kernel_rfl) rfl rfl ⟨(blk_cell BK127.out 0).trans rfl, (blk_cell BK127.out 1).trans rfl⟩ (fun hHeld => ?_); refine with_tabW meta_right.tab14 meta_right.bits14 (fun HT_ HW_ => ?_)
   generalize w35.drew = w37 at BK127 HB hHeld ⊢
   refine pureA_ (i := 0) (N := some 55) #[true, false, false, false, false, false, false, false, false, false, false, false] rfl rfl ?_ (hc := any_of HT_.out (by kernel_rfl))
   refine takeA_ (i := 1) (N := some 56) #[true, true, false, false, false, false, false, false, false, false, false, false] rfl rfl hHeld ?_ (hc := take_ofW HT_.out HW_.out (by kernel_rfl)) (hy := by rintro w' ⟨s0, s1⟩; go_simp; with_reducible rfl)
   refine pureA_ (i := 2) (N := some 57) #[true, true, true, false, false, false, false, false, false, false, false, false] rfl rfl ?_ (hc := any_of HT_.out (by kernel_rfl))
   refine pureA_ (i := 3) (N := some 58) #[true, true, true, true, false, false, false, false, false, false, false, false] rfl rfl ?_ (hc := any_of HT_.out (by kernel_rfl))
   refine pureA_ (i := 4) (N := some 59) #[true, true, true, true, true, false, false, false, false, false, false, false] rfl rfl ?_ (hc := any_of HT_.out (by kernel_rfl))
   refine pure_ (i := 5) (N := some 60) (v := undef) (a' := ?_) #[true, true, true, true, true, true, false, false, false, false, false, false] rfl rfl (any_of HT_.out (by kernel_rfl)) (fun _ _ _ h => h) (Or.inr ⟨by rfl, rfl⟩) ?_ ?_
   rotate_left
   · simp only [Act.put, List.setIfInBounds_toArray, List.set_cons_zero, List.set_cons_succ, i64_w, i32_w]
     rfl
   refine pure_ (i := 6) (N := some 61) (v := undef) (a' := ?_) #[true, true, true, true, true, true, true, false, false, false, false, false] rfl rfl (any_of HT_.out (by kernel_rfl)) (fun _ _ _ h => h) (Or.inr ⟨by rfl, rfl⟩) ?_ ?_
   rotate_left
   · simp only [Act.put, List.setIfInBounds_toArray, List.set_cons_zero, List.set_cons_succ, i64_w, i32_w]
     rfl
   refine pure_ (i := 7) (N := some 62) (v := undef) (a' := ?_) #[true, true, true, true, true, true, true, true, false, false, false, false] rfl rfl (any_of HT_.out (by kernel_rfl)) (fun _ _ _ h => h) (Or.inr ⟨by rfl, rfl⟩) ?_ ?_
   rotate_left
   · simp only [Act.put, List.setIfInBounds_toArray, List.set_cons_zero, List.set_cons_succ, i64_w, i32_w]
     rfl
   refine pure_ (i := 8) (N := some 63) (v := undef) (a' := ?_) #[true, true, true, true, true, true, true, true, true, false, false, false] rfl rfl (any_of HT_.out (by kernel_rfl)) (fun _ _ _ h => h) (Or.inr ⟨by rfl, rfl⟩) ?_ ?_
   rotate_left
   · simp only [Act.put, List.setIfInBounds_toArray, List.set_cons_zero, List.set_cons_succ, i64_w, i32_w]
     rfl
   refine pure_ (i := 9) (N := some 64) (v := undef) (a' := ?_) #[true, true, true, true, true, true, true, true, true, true, false, false] rfl rfl (any_of HT_.out (by kernel_rfl)) (fun _ _ _ h => h) (Or.inr ⟨by rfl, rfl⟩) ?_ ?_
   rotate_left
   · simp only [Act.put, List.setIfInBounds_toArray, List.set_cons_zero, List.set_cons_succ, i64_w, i32_w]
     rfl
   refine pureA_ (i := 10) (N := some 65) #[true, true, true, true, true, true, true, true, true, true, true, false] rfl rfl ?_ (hc := any_of HT_.out (by kernel_rfl))
   refine pureA_ (i := 11) (N := some 4) #[true, true, true, true, true, true, true, true, true, true, true, true] rfl rfl ?_ (hc := any_of HT_.out (by kernel_rfl))
   refine done_ (done_of HT_.out (by kernel_rfl)) ?_
   try go_wp2
   go_ret
   exact ⟨reA, hbA HB.out⟩
 rw [if_neg c27] at H
 have c27b0 : (t128 == 5) = false := beq_eq_false_iff_ne.mpr c27
 have c27b1 : (t128 != 5) = true := bne_iff_ne.mpr c27
 obtain rfl := Option.some.inj H
 go_enter Tryz.func61, Tryz.ntmps61
 go_wp2_with (first | ((with_reducible refine gate_dst (N := 3) rfl ?_); refine box_event ?hg (N := 3) ?hd (cs := #[.int .u8 a1_0, .string a1_1]) (t := 61) ?hr ?_; (case hd => rfl); (case hg => rfl); (case hr => first | (go_simp; done) | (go_simp; rfl)); intro gb127 hg w38 hbox hb; have n0_ := Aside0.mk (below_step (hbA HB.out) hb); have n1_ := Aside0.mk (hbox); have n2_ := Aside0.mk ((by rw [hg]; exact (below_size (hbA HB.out)) : w.heap.size ≤ gb127)); have n3_ := Aside0.mk ((by rw [hg]; exact (below_size (hbA HB.out)) : w.heap.size ≤ gb127)); clear HB; have HB := n0_; have BK127 := n1_; have GW127 := n2_; have GE127 := n3_; clear n0_ n1_ n2_ n3_; clear hb hbox hg; obtain ⟨hcz39_0, hcz39_1, hfz39_0, hfz39_1⟩ := blkA2 BK127.out) | ((with_reducible refine gate_callee (f := 36) rfl ?_); refine goesL_ (some 13) rfl rfl Tryz.func36 (by kernel_rfl) rfl #[.int .u8 a1_0] rfl argA ?_; (with_reducible refine (meta_sortOf.calls k a1_0 t128 _ A3.out).mono ?_); rintro e w' ⟨rfl, ⟨nd, rfl⟩⟩; refine ⟨_, rfl, ?_⟩))
 go_ret
 exact ⟨reA, hbA HB.out⟩

end
end Go.Proofs.YtfboejlemnfndaaGreatDoor.XMr
end
section
namespace Go.Proofs.YtfboejlemnfndaaGreatDoor
open Go.Maps (Keyed)
open Go.RowKit
open Classical in
noncomputable def putF (F : Lit → Option Value) (kl : Lit) (v : Option Value) : Lit → Option Value := fun l => if l = kl then v else F l
theorem putF_same (F : Lit → Option Value) (kl : Lit) (v : Option Value) : putF F kl v kl = v := if_pos rfl
theorem putF_other (F : Lit → Option Value) {kl l : Lit} (v : Option Value) (h : l ≠ kl) : putF F kl v l = F l := if_neg h
def tokR (v : Value) : Option (DataW Value × List MemPlace) := some (.held v, [])
def mapF (w : World) (P : Program) (k : TypeId) (b n : Nat) (F : Lit → Option Value) : Prop :=
  ∃ D : DataW Value, w.ownsMap P k tokR b n D ∧ Maps.IsMap D ∧ ∀ kl, WideAt.IsKeyLit kl → (∀ z, D.atKey kl (.held z) = .held ((F kl).getD z)) ∧ Maps.has D kl = (F kl).isSome
section
variable {P : Program} {k : TypeId} {w w' : World} {b n : Nat} {F : Lit → Option Value}
theorem mapF_made (w : World) (P : Program) (k : TypeId) : mapF (w.alloc (.map #[] 0)) P k w.heap.size 0 (fun _ => none) :=
  ⟨.map [], World.ownsMap_made w P k tokR, ⟨[], rfl⟩, fun _ _ => ⟨fun _ => rfl, rfl⟩⟩
theorem mapF.mono (h : mapF w P k b n F) {n' : Nat} (hn : n ≤ n') : mapF w P k b n' F := by
  obtain ⟨D, ho, h1, h2⟩ := h
  exact ⟨D, ho.mono hn, h1, h2⟩
theorem mapF.lt (h : mapF w P k b n F) : b < w.heap.size := by
  obtain ⟨D, ho, h1, h2⟩ := h
  exact ho.lt
theorem mapF.same (h : mapF w P k b n F) (e : w'.heap[b]? = w.heap[b]?) : mapF w' P k b n F := by
  obtain ⟨D, ⟨es, clock, hb, ho⟩, h1, h2⟩ := h
  exact ⟨D, ⟨es, clock, e.trans hb, ho⟩, h1, h2⟩
theorem mapF.kept {row : Option Nat} (h : mapF w P k b n F) (hg : w.grownBy w' row) (hne : some b ≠ row) : mapF w' P k b n F := h.same (hg.block b h.lt hne)
theorem mapF.alloc (h : mapF w P k b n F) (o : Obj) : mapF (w.alloc o) P k b n F := h.kept (World.grownBy_alloc w o none) (by simp)
theorem mapF.below {B : Nat} (h : mapF w P k b n F) (hb : Below B w w') (hlt : b < B) : mapF w' P k b n F := h.same (hb.block b hlt)
theorem mapF.eq (h : mapF w P k b n F) {G : Lit → Option Value} (e : ∀ kl, WideAt.IsKeyLit kl → F kl = G kl) : mapF w P k b n G := by
  obtain ⟨D, ho, h1, h2⟩ := h
  exact ⟨D, ho, h1, fun kl hk => by rw [← e kl hk]; exact h2 kl hk⟩
theorem tokR_inj {v u : Value} {ps : List MemPlace} (h : tokR v = some (.held u, ps)) : v = u := by
  unfold tokR at h
  injection h with h
  injection h with h1 h2
  injection h1
theorem wpList_lookup_F {ops : Array Oper} {rest : List Oper} {o : Oper} {a : Act} {Q : Exit → Act → World → Prop}
    (hg : o.guard = none) (m x : Operand) (t : TypeId) (hop : o.op = Op.lookup t m x false)
    (k e : TypeId) (K : Keyed P k) (ht : P.underlying t = some (.map k e)) {z : Value} (hz : (zeroValue e).run P w = .ok z w) (b n : Nat) (F : Lit → Option Value)
    (hm : a.eval m = .map (some b)) (hown : mapF w P k b n F) (key : Value) (kl : Lit) (hx : a.eval x = key) (hkey : keyOf P k key = some kl) (v : Value) (hv : (F kl).getD z = v)
    (hK : wpList P ops Q rest (a.put o.dst v) w) : wpList P ops Q (o :: rest) a w := by
  refine wpList_plain hg fun K' hK' => ?_
  obtain ⟨D, ho, h1, h2⟩ := hown
  obtain ⟨u, ps, hrun, hu⟩ := ho.lookup K ht hz (zd := .held z) (zp := []) rfl hkey
  rw [(h2 kl (K.key hkey)).1 z, hv] at hu
  obtain rfl := tokR_inj hu
  unfold Oper.wp
  simp [execOp, hop, hm, hx, hrun, Result.andThen]
  exact hK' _ _ hK
theorem wpList_lookup_ok_F {ops : Array Oper} {rest : List Oper} {o : Oper} {a : Act} {Q : Exit → Act → World → Prop}
    (hg : o.guard = none) (m x : Operand) (t : TypeId) (hop : o.op = Op.lookup t m x true)
    (k e : TypeId) (K : Keyed P k) (ht : P.underlying t = some (.map k e)) {z : Value} (hz : (zeroValue e).run P w = .ok z w) (b n : Nat) (F : Lit → Option Value)
    (hm : a.eval m = .map (some b)) (hown : mapF w P k b n F) (key : Value) (kl : Lit) (hx : a.eval x = key) (hkey : keyOf P k key = some kl) (v : Value) (ok : Bool) (hv : (F kl).getD z = v) (hok : (F kl).isSome = ok)
    (hK : wpList P ops Q rest (a.put o.dst (.tuple #[v, .bool ok])) w) : wpList P ops Q (o :: rest) a w := by
  obtain ⟨D, ho, h1, h2⟩ := hown
  refine wpList_lookup_own_ok w hg m x t hop k e K ht tokR hz (.held z) [] rfl b n D hm ho key kl hx hkey (fun u ps hu => ?_)
  rw [(h2 kl (K.key hkey)).1 z, hv] at hu
  obtain rfl := tokR_inj hu
  rw [(h2 kl (K.key hkey)).2, hok]
  exact hK
theorem wpList_mapUpdate_F {ops : Array Oper} {rest : List Oper} {o : Oper} {a : Act} {Q : Exit → Act → World → Prop}
    (hg : o.guard = none) (m x v : Operand) (t : TypeId) (hop : o.op = Op.mapUpdate t m x v)
    (k e : TypeId) (K : Keyed P k) (ht : P.underlying t = some (.map k e)) (b n : Nat) (F : Lit → Option Value)
    (hm : a.eval m = .map (some b)) (hown : mapF w P k b n F) (hn : n < maxLen) (key val : Value) (kl : Lit) (hx : a.eval x = key) (hv : a.eval v = val) (hkey : keyOf P k key = some kl)
    (hK : ∀ w', mapF w' P k b (n + 1) (putF F kl (some val)) → w.grownBy w' (some b) → wpList P ops Q rest (a.put o.dst undef) w') : wpList P ops Q (o :: rest) a w := by
  obtain ⟨D, ho, h1, h2⟩ := hown
  refine wpList_mapUpdate_own w hg m x v t hop k e K ht tokR b n D hm ho hn key val kl hx hv hkey (.held val) [] rfl (fun w' ho' hg' => ?_)
  refine hK w' ⟨_, ho', h1.put _ _, fun l hl => ?_⟩ hg'
  by_cases e1 : l = kl
  · subst e1
    rw [putF_same]
    exact ⟨fun z => Maps.atKey_put_same h1 hl _ _, Maps.has_put_same h1 hl _⟩
  · rw [putF_other _ _ e1]
    refine ⟨fun z => ?_, ?_⟩
    · rw [Maps.atKey_put_other e1]; exact (h2 l hl).1 z
    · rw [Maps.has_put_other e1]; exact (h2 l hl).2
theorem wpList_delete_F {ops : Array Oper} {rest : List Oper} {o : Oper} {a : Act} {Q : Exit → Act → World → Prop}
    (hg : o.guard = none) (m x : Operand) (t k : TypeId) (hop : o.op = Op.call { callee := Callee.builtin Builtin.delete, args := #[m, x], argTypes := #[t, k] })
    (e : TypeId) (K : Keyed P k) (ht : P.underlying t = some (.map k e)) (b n : Nat) (F : Lit → Option Value)
    (hm : a.eval m = .map (some b)) (hown : mapF w P k b n F) (key : Value) (kl : Lit) (hx : a.eval x = key) (hkey : keyOf P k key = some kl)
    (hK : ∀ w', mapF w' P k b n (putF F kl none) → w.mapTurned w' b → wpList P ops Q rest (a.put o.dst (.tuple #[])) w') : wpList P ops Q (o :: rest) a w := by
  obtain ⟨D, ho, h1, h2⟩ := hown
  refine wpList_delete_own w hg m x t k hop e K ht tokR b n D hm ho key kl hx hkey (fun w' ho' hg' => ?_)
  refine hK w' ⟨_, ho', h1.del _, fun l hl => ?_⟩ hg'
  by_cases e1 : l = kl
  · subst e1
    rw [putF_same]
    exact ⟨fun z => Maps.atKey_del_same _, Maps.has_del_same⟩
  · rw [putF_other _ _ e1]
    refine ⟨fun z => ?_, ?_⟩
    · rw [Maps.atKey_del_other e1]; exact (h2 l hl).1 z
    · rw [Maps.has_del_other e1]; exact (h2 l hl).2
end
end Go.Proofs.YtfboejlemnfndaaGreatDoor
end
section
namespace Go.Proofs.YtfboejlemnfndaaGreatDoor.XMr
open Go.RowKit Go.Proofs.YtfboejlemnfndaaGreatDoorW.PrintWords Go.Proofs.YtfboejlemnfndaaGreatDoorW.PrintLast Go.Proofs.YtfboejlemnfndaaGreatDoorW.PrintMore
attribute [local go_sem] extract_sub max2_int min2_int max_two min_two max_three min_three max_four min_four   -- for this text's walks alone
set_option linter.unusedVariables false
set_option linter.unusedSimpArgs false

noncomputable section
def meta_shape.go (k : Nat) (op : Int) : List S61 → List Int → Option Int
 | [], _ => some 0
 | x :: l, seen => (meta_owns.f op x.f0).bind fun b => if b = true then (if seen.contains x.f0 = true then some 4 else (meta_right.f k op x.f0 x.f1).bind fun q => if q = true then meta_shape.go k op l (x.f0 :: seen) else some 6) else some 3
def meta_shape.f (k : Nat) (a0_0 : Int) (a0_1 : ByteArray) (a0_2 : Int) (l0_3 : List S61) : Option Int :=
 (meta_there.f a0_0).bind fun t => if t = true then (meta_key.f k a0_0 a0_1 a0_2 l0_3).bind fun y => if y = true then (if a0_2 < 0 ∨ a0_2 > 2147483647 ∨ (a0_0 ≠ 2 ∧ a0_2 ≠ 0) then some 6 else meta_shape.go k a0_0 l0_3 []) else some 6 else some 70
theorem meta_shape.go_mono (k : Nat) (op : Int) : ∀ l seen, LeO (meta_shape.go k op l seen) (meta_shape.go (k + 1) op l seen)
 | [], _ => LeO.refl _
 | x :: l, seen => by
  unfold meta_shape.go
  refine LeO.bind (LeO.refl _) (fun _ => LeO.ite (LeO.ite (LeO.refl _) (LeO.bind (meta_right.mono _ _ _ _) (fun _ => LeO.ite (meta_shape.go_mono k op l _) (LeO.refl _)))) (LeO.refl _))
theorem meta_shape.mono : ∀ a0 a1 a2 a3 k, LeO (meta_shape.f k a0 a1 a2 a3) (meta_shape.f (k + 1) a0 a1 a2 a3) := by
 intro a0 a1 a2 a3 k
 unfold meta_shape.f
 exact LeO.bind (LeO.refl _) (fun _ => LeO.ite (LeO.bind (meta_key.mono _ _ _ _ _) (fun _ => LeO.ite (LeO.ite (LeO.refl _) (meta_shape.go_mono k _ _ _)) (LeO.refl _))) (LeO.refl _))
noncomputable def meta_shape.seenF : List Int → Lit → Option Value
 | [] => fun _ => none
 | x :: s => putF (meta_shape.seenF s) (.int .u8 x) (some (.bool true))
theorem meta_shape.seen_at (x : Int) : ∀ s : List Int, (meta_shape.seenF s (.int .u8 x)).getD (.bool false) = .bool (s.contains x)
 | [] => rfl
 | y :: s => by
  unfold meta_shape.seenF
  by_cases h : x = y
  · subst h
    rw [putF_same]
    simp
  rw [putF_other _ _ (by intro e; injection e with _ e; exact h e), meta_shape.seen_at x s]
  have : (x == y) = false := by simpa using h
  rw [List.contains_cons, this, Bool.false_or]
theorem meta_shape.letter {op x : Int} (h : meta_owns.f op x = some true) : (Lit.int .u8 x).wf = true := by
 unfold meta_owns.f at h
 split at h
 · injection h with h
   obtain ⟨c, _, hc⟩ := List.any_eq_true.1 h
   have e : (c.toNat : Int) = x := by simpa using hc
   have := c.toNat_lt
   rw [← e]
   simp [Lit.wf, IntKind.min, IntKind.max, IntKind.signed, IntKind.bits]
   omega
 cases h
theorem meta_shape.law : Maps.Keyed Tryz.prog 5 := Maps.int_keyed Tryz.underlying5
theorem meta_shape.zeroE (w : World) : (zeroValue 4).run Tryz.prog w = .ok (.bool false) w := by kernel_rfl
def meta_shape.Rel (k : Nat) (op : Int) (key : ByteArray) (size : Int) (A : Option Addr) (c : Nat) (l : List S61) (r : Int) (w : World) (Bm j : Nat) (seen : List Int) (wr : World) : Prop :=
 mapF wr Tryz.prog 5 Bm j (meta_shape.seenF seen) ∧ Below w.heap.size w wr ∧ wr.heap[w.heap.size]? = some (.cells #[.int .i64 op, .string key, .int .i64 size, .slice A l.length c] 31) ∧ meta_shape.go k op (l.drop j) seen = some r ∧ w.heap.size < wr.heap.size
set_option maxHeartbeats 8000000 in
set_option maxRecDepth 100000 in
theorem meta_shape.calls (k : Nat) (a0_0 : Int) (a0_1 : ByteArray) (a0_2 : Int) (A0_3 : Option Addr) (c0_3 : Nat) (l0_3 : List S61) (r : Int) (w : World) (hr0_3 : Kd.C k61 w A0_3 l0_3.length l0_3) (hc0_3 : l0_3.length ≤ c0_3) (hv : Vars w) (h : meta_shape.f k a0_0 a0_1 a0_2 l0_3 = some r) :
 Calls Tryz.prog 28 #[.agg #[.int .i64 a0_0, .string a0_1, .int .i64 a0_2, .slice A0_3 l0_3.length c0_3]] w fun e w' => e = .returned (.int .i64 r) ∧ Below w.heap.size w w' := by
 have hlen := hr0_3.2.1
 have HR := Aside0.mk hr0_3
 have HV := Aside0.mk hv
 have hmm := @run_makeMap Tryz.prog
 clear hr0_3 hv
 unfold meta_shape.f at h
 obtain ⟨t, ht, h⟩ := Option.bind_eq_some_iff.1 h
 have HT := Lib.hid ht
 have HH := Lib.hid h
 clear ht h
 go_enter Tryz.func28, Tryz.ntmps28
 go_wp2_with fail
 refine (meta_there.calls a0_0 t _ HT.out).mono ?_
 rintro e w1 ⟨rfl, hd1⟩
 have hb0 : Below w.heap.size w (w.alloc (.cells #[.int .i64 a0_0, .string a0_1, .int .i64 a0_2, .slice A0_3 l0_3.length c0_3] 31)) := (Below.refl _ w).alloc (Nat.le_refl _) _
 have hb1 : Below w.heap.size w w1 := hb0.trans (hd1.below.mono (by simp))
 have hx1 : w1.heap[w.heap.size]? = some (.cells #[.int .i64 a0_0, .string a0_1, .int .i64 a0_2, .slice A0_3 l0_3.length c0_3] 31) := (hd1.below.block w.heap.size (by simp)).trans (Go.heap_alloc_new w _)
 have hs1 : w.heap.size < w1.heap.size := by have := hd1.below.size; simp at this; omega
 have q0 : w1.cell? ⟨w.heap.size, 0, none⟩ = some (.int .i64 a0_0) := by rw [Lib.cell_of_heap hx1]; rfl
 have q1 : w1.cell? ⟨w.heap.size, 1, none⟩ = some (.string a0_1) := by rw [Lib.cell_of_heap hx1]; rfl
 have q2 : w1.cell? ⟨w.heap.size, 2, none⟩ = some (.int .i64 a0_2) := by rw [Lib.cell_of_heap hx1]; rfl
 have q3 : w1.cell? ⟨w.heap.size, 3, none⟩ = some (.slice A0_3 l0_3.length c0_3) := by rw [Lib.cell_of_heap hx1]; rfl
 have HB1 := Aside0.mk hb1
 have HX1 := Lib.hid hx1
 clear hb0 hb1 hd1 hx1
 cases t with
 | false =>
  have e := HH.out
  rw [if_neg Bool.false_ne_true] at e
  obtain rfl := Option.some.inj e
  clear e
  go_wp2
  go_ret
  exact ⟨rfl, HB1.out⟩
 | true =>
  have h := HH.out
  rw [if_pos rfl] at h
  obtain ⟨y, hy, h⟩ := Option.bind_eq_some_iff.1 h
  have HY := Lib.hid hy
  have H2 := Lib.hid h
  clear hy h HH
  go_wp2_with fail
  refine (meta_key.calls k a0_0 a0_1 a0_2 A0_3 c0_3 l0_3 y _ (Kd.C_below HR.out HB1.out) hc0_3 HY.out).mono ?_
  rintro e w2 ⟨rfl, hd2⟩
  clear q0 q1 q2 q3
  have hb2 : Below w.heap.size w w2 := HB1.out.trans (hd2.mono HB1.out.size)
  have hx2 : w2.heap[w.heap.size]? = some (.cells #[.int .i64 a0_0, .string a0_1, .int .i64 a0_2, .slice A0_3 l0_3.length c0_3] 31) := (hd2.block _ hs1).trans HX1.out
  have hs2 : w.heap.size < w2.heap.size := by have := hd2.size; omega
  have q0 : w2.cell? ⟨w.heap.size, 0, none⟩ = some (.int .i64 a0_0) := by rw [Lib.cell_of_heap hx2]; rfl
  have q1 : w2.cell? ⟨w.heap.size, 1, none⟩ = some (.string a0_1) := by rw [Lib.cell_of_heap hx2]; rfl
  have q2 : w2.cell? ⟨w.heap.size, 2, none⟩ = some (.int .i64 a0_2) := by rw [Lib.cell_of_heap hx2]; rfl
  have q3 : w2.cell? ⟨w.heap.size, 3, none⟩ = some (.slice A0_3 l0_3.length c0_3) := by rw [Lib.cell_of_heap hx2]; rfl
  have HB2 := Aside0.mk hb2
  have HX2 := Lib.hid hx2
  clear hb2 hd2 hx2 hs1 HX1 HB1
  cases y with
  | false =>
   have e := H2.out
   rw [if_neg Bool.false_ne_true] at e
   obtain rfl := Option.some.inj e
   clear e
   go_wp2
   go_ret
   exact ⟨rfl, HB2.out⟩
  | true =>
   have h := H2.out
   rw [if_pos rfl] at h
   have HG := Lib.hid h
   clear h H2
   by_cases c1 : a0_2 < 0
   · have e := HG.out
     rw [if_pos (.inl c1)] at e
     obtain rfl := Option.some.inj e
     clear e
     go_wp2
     go_ret
     exact ⟨rfl, HB2.out⟩
   by_cases c2 : a0_2 > 2147483647
   · have e := HG.out
     rw [if_pos (.inr (.inl c2))] at e
     obtain rfl := Option.some.inj e
     clear e
     have c1' : (0 : Int) ≤ a0_2 := by omega
     go_wp2
     go_ret
     exact ⟨rfl, HB2.out⟩
   have c1' : (0 : Int) ≤ a0_2 := by omega
   have c2' : a0_2 ≤ 2147483647 := by omega
   by_cases c3 : a0_0 ≠ 2 ∧ a0_2 ≠ 0
   · have e := HG.out
     rw [if_pos (.inr (.inr c3))] at e
     obtain rfl := Option.some.inj e
     clear e
     have c4 : (a0_0 != 2) = true := bne_iff_ne.2 c3.1
     have c5 : (a0_2 != 0) = true := bne_iff_ne.2 c3.2
     have c6 : (a0_0 == 2) = false := beq_eq_false_iff_ne.2 c3.1
     have c7 : (a0_2 == 0) = false := beq_eq_false_iff_ne.2 c3.2
     clear c3
     go_wp2
     go_ret
     exact ⟨rfl, HB2.out⟩
   have e := HG.out
   rw [if_neg (by rintro (h | h | h); exact c1 h; exact c2 h; exact c3 h)] at e
   have HGO := Lib.hid e
   clear e HG
   have hcc : ((a0_0 != 2) = false ∧ (a0_0 == 2) = true) ∨ ((a0_0 != 2) = true ∧ (a0_0 == 2) = false ∧ (a0_2 != 0) = false ∧ (a0_2 == 0) = true) := by
    by_cases d1 : a0_0 = 2
    · exact .inl ⟨bne_eq_false_iff_eq.2 d1, beq_iff_eq.2 d1⟩
    have d2 : a0_2 = 0 := by
     by_cases d2 : a0_2 = 0
     · exact d2
     exact absurd ⟨d1, d2⟩ c3
    exact .inr ⟨bne_iff_ne.2 d1, beq_eq_false_iff_ne.2 d1, bne_eq_false_iff_eq.2 d2, beq_iff_eq.2 d2⟩
   have hstart : meta_shape.Rel k a0_0 a0_1 a0_2 A0_3 c0_3 l0_3 r w w2.heap.size 0 [] (w2.alloc (.map #[] 0)) :=
    ⟨mapF_made w2 _ _, HB2.out.alloc HB2.out.size _, (((Below.refl _ w2).alloc (Nat.le_refl _) _).block _ hs2).trans HX2.out, HGO.out, by simp; omega⟩
   have HST := Aside0.mk hstart
   clear c1 c2 c3 hstart HGO
   rcases hcc with ⟨c4, c6⟩ | ⟨c4, c6, c5, c7⟩
   all_goals
    go_wp2
    clear q0 q1 q2 q3 c4 c6
    go_loopg [33] l0_3.length (fun gg v33 wr => ∃ (j : Nat) (seen : List Int), j ≤ l0_3.length ∧ l0_3.length - j ≤ gg ∧ v33 = .int .i64 j ∧ Aside0 (meta_shape.Rel k a0_0 a0_1 a0_2 A0_3 c0_3 l0_3 r w w2.heap.size j seen wr))
    case atStart => exact ⟨0, [], Nat.zero_le _, by omega, rfl, HST⟩
    case round =>
     obtain ⟨j, seen, hj, hg, rfl, HRel⟩ := hrel
     clear HST
     by_cases hlt : j < l0_3.length
     · have hji : (j : Int) < (l0_3.length : Int) := by omega
       obtain ⟨hmap, hbw, hbx, hgo, hsz⟩ := HRel.out
       obtain ⟨ad, e, hx0, hx1⟩ := at_T61 HR.out (j : Int) (by omega) hji
       subst e
       have hxj : rd_T61 l0_3 (j : Int) = l0_3[j] := by
        unfold rd_T61
        rw [Int.toNat_natCast, List.getD_eq_getElem?_getD, List.getElem?_eq_getElem hlt]; rfl
       rw [hxj] at hx0 hx1
       clear hxj
       rw [Int.toNat_natCast] at hx0 hx1
       rw [List.drop_eq_getElem_cons hlt] at hgo
       generalize l0_3[j] = x at hx0 hx1 hgo
       replace hx0 := (hbw.cell (World.block_lt_of_cell? w _ hx0)).trans hx0
       replace hx1 := (hbw.cell (World.block_lt_of_cell? w _ hx1)).trans hx1
       have p0 : wr.cell? ⟨w.heap.size, 0, none⟩ = some (.int .i64 a0_0) := by rw [Lib.cell_of_heap hbx]; rfl
       unfold meta_shape.go at hgo
       obtain ⟨b, hb, hgo⟩ := Option.bind_eq_some_iff.1 hgo
       have HOB := Lib.hid hb
       have HG := Lib.hid hgo
       have HMAP := Aside0.mk hmap
       have HBW := Aside0.mk hbw
       have HBX := Lib.hid hbx
       clear hb hgo hmap hbw hbx HRel
       go_wp2_with fail
       refine (meta_owns.calls a0_0 x.f0 b _ HOB.out).mono ?_
       rintro e w3 ⟨rfl, hb3⟩
       have hf3 : w3.heap[wr.heap.size]? = some (.cells #[.int .u8 x.f0, .string x.f1] 61) := (hb3.block wr.heap.size (by simp)).trans (Go.heap_alloc_new wr _)
       have hb03 : Below wr.heap.size wr w3 := ((Below.refl _ wr).alloc (Nat.le_refl _) _).trans (hb3.mono (by simp))
       have hs3 : wr.heap.size < w3.heap.size := by have := hb3.size; simp at this; omega
       have r0 : w3.cell? ⟨wr.heap.size, 0, none⟩ = some (.int .u8 x.f0) := by rw [Lib.cell_of_heap hf3]; rfl
       have r1 : w3.cell? ⟨wr.heap.size, 1, none⟩ = some (.string x.f1) := by rw [Lib.cell_of_heap hf3]; rfl
       have hx3 : w3.heap[w.heap.size]? = _ := (hb03.block _ hsz).trans HBX.out
       have p3 : w3.cell? ⟨w.heap.size, 0, none⟩ = some (.int .i64 a0_0) := by rw [Lib.cell_of_heap hx3]; rfl
       have HM3 := Aside0.mk (HMAP.out.below hb03 HMAP.out.lt)
       have HB3 := Aside0.mk (HBW.out.trans (hb03.mono HBW.out.size))
       have HF3 := Lib.hid hf3
       have HX3 := Lib.hid hx3
       clear hb3 hb03 hf3 hx3 p0 hx0 hx1
       cases b with
       | false =>
        have e := HG.out
        rw [if_neg Bool.false_ne_true] at e
        obtain rfl := Option.some.inj e
        clear e
        go_wp2
        go_ret
        exact ⟨rfl, HB3.out⟩
       | true =>
        have e := HG.out
        rw [if_pos rfl] at e
        have HG2 := Lib.hid e
        have hwf := meta_shape.letter HOB.out
        have hkey := Maps.keyOf_int_mk Tryz.underlying5 hwf
        have HK := Lib.hid hkey
        have hsn := meta_shape.seen_at x.f0 seen
        clear e HG hwf hkey
        cases hc : seen.contains x.f0 with
        | true =>
         rw [hc] at hsn
         have HSN := Lib.hid hsn
         have e := HG2.out
         rw [if_pos hc] at e
         obtain rfl := Option.some.inj e
         clear e hsn hc
         go_wp2_with (at_lookup; refine wpList_lookup_F rfl _ _ 104 rfl 5 4 meta_shape.law Tryz.underlying104 (meta_shape.zeroE _) w2.heap.size j _ rfl HM3.out _ _ rfl HK.out _ HSN.out ?_)
         go_ret
         exact ⟨rfl, HB3.out⟩
        | false =>
         rw [hc] at hsn
         have HSN := Lib.hid hsn
         have e := HG2.out
         rw [if_neg (by rw [hc]; exact Bool.false_ne_true)] at e
         obtain ⟨q, hq, hgo⟩ := Option.bind_eq_some_iff.1 e
         have HQ := Lib.hid hq
         have HG3 := Lib.hid hgo
         clear e hsn hc hq hgo HG2
         go_wp2_with (at_lookup; refine wpList_lookup_F rfl _ _ 104 rfl 5 4 meta_shape.law Tryz.underlying104 (meta_shape.zeroE _) w2.heap.size j _ rfl HM3.out _ _ rfl HK.out _ HSN.out ?_)
         refine (meta_right.calls k a0_0 x.f0 x.f1 q _ (HV.out.below HB3.out) HQ.out).mono ?_
         rintro e w4 ⟨rfl, hb4⟩
         have hf4 : w4.heap[wr.heap.size]? = _ := (hb4.block _ hs3).trans HF3.out
         have r0 : w4.cell? ⟨wr.heap.size, 0, none⟩ = some (.int .u8 x.f0) := by rw [Lib.cell_of_heap hf4]; rfl
         have hx4 : w4.heap[w.heap.size]? = _ := (hb4.block _ (by omega)).trans HX3.out
         have HM4 := Aside0.mk (HM3.out.below hb4 HM3.out.lt)
         have HB4 := Aside0.mk (HB3.out.trans (hb4.mono HB3.out.size))
         have HX4 := Lib.hid hx4
         have hs4 : w.heap.size < w4.heap.size := by have := hb4.size; omega
         clear hb4 hf4 hx4 r1 p3
         cases q with
         | false =>
          have e := HG3.out
          rw [if_neg Bool.false_ne_true] at e
          obtain rfl := Option.some.inj e
          clear e
          go_wp2
          go_ret
          exact ⟨rfl, HB4.out⟩
         | true =>
          have e := HG3.out
          rw [if_pos rfl] at e
          have HG4 := Lib.hid e
          clear e HG3
          go_wp2_with (at_mapUpdate; refine wpList_mapUpdate_F rfl _ _ _ 104 rfl 5 4 meta_shape.law Tryz.underlying104 w2.heap.size j _ rfl HM4.out (by unfold maxLen; omega) _ _ _ rfl rfl HK.out ?_; intro w5 hm5 hg5; have HM5 := Aside0.mk hm5; have HG5 := Aside0.mk hg5; clear hm5 hg5)
          go_roundg (l0_3.length - (j + 1))
          case measure => omega
          case rel => exact ⟨j + 1, x.f0 :: seen, by omega, by omega, by go_num, ⟨HM5.out, pw_below_grown HB4.out _ HB4.out.size HG5.out (fun k e => by injection e with e; omega), (HG5.out.block _ hs4 (fun e => by injection e with e; omega)).trans HX4.out, HG4.out, by have := HG5.out.size; omega⟩⟩
     have hji : ¬ (j : Int) < (l0_3.length : Int) := by omega
     obtain ⟨-, hbw, -, hgo, -⟩ := HRel.out
     rw [List.drop_of_length_le (by omega)] at hgo
     obtain rfl := Option.some.inj hgo
     have HBW := Aside0.mk hbw
     clear hgo hbw HRel
     go_wp2
     go_ret
     exact ⟨rfl, HBW.out⟩

end
end Go.Proofs.YtfboejlemnfndaaGreatDoor.XMr
end
section
namespace Go.Proofs.YtfboejlemnfndaaGreatDoor.XMr
open Go.RowKit Go.Proofs.YtfboejlemnfndaaGreatDoorW.PrintWords Go.Proofs.YtfboejlemnfndaaGreatDoorW.PrintLast Go.Proofs.YtfboejlemnfndaaGreatDoorW.PrintMore
attribute [local go_sem] extract_sub max2_int min2_int max_two min_two max_three min_three max_four min_four   -- for this text's walks alone
set_option linter.unusedVariables false
set_option linter.unusedSimpArgs false

noncomputable section
noncomputable def strconv_FormatUint_80.f (a0 a1 : Int) : Option ByteArray := if 0 ≤ a0 ∧ a0 < 18446744073709551616 ∧ a1 = 10 then some ⟨(Lib.decDigits a0.toNat).toArray⟩ else none
theorem strconv_FormatUint_80.zeros (w : World) (T : TypeId) (nd : Nat) (hs : nd ≤ 24) : Sort.Holds (fun (b : UInt8) => Value.int .u8 (b.toNat : Int)) (w.alloc (.cells Lib.zeros24 T)) w.heap.size 0 (Array.replicate nd (0 : UInt8)) := fun j hj => by
 have hj' : j < nd := by simpa using hj
 refine ⟨?_, World.frozen?_alloc_new _ _ _ _⟩
 rw [World.cell?_alloc_new, Lib.zeros24_at _ (by omega), getElem!_pos _ j hj]
 simp
set_option maxRecDepth 1000000 in
theorem strconv_FormatUint_80.z24 : ∀ w, (zeroValue 137).run Tryz.prog w = .ok (Value.agg Lib.zeros24) w := fun _ => rfl
set_option maxRecDepth 1000000 in
theorem strconv_FormatUint_80.s24 : ∀ w, (Go.sizeOf 137).run Tryz.prog w = .ok 24 w := fun _ => rfl
set_option maxRecDepth 1000000 in
theorem strconv_FormatUint_80.a24 : ∀ w, (isAgg 137).run Tryz.prog w = .ok true w := fun _ => rfl
theorem strconv_FormatUint_80.len24 : Tryz.prog.arrayLen 137 = 24 := by kernel_rfl
set_option maxHeartbeats 4000000 in
set_option maxRecDepth 100000 in
theorem strconv_FormatUint_80.calls (a0 a1 : Int) (r : ByteArray) (w : World) (hv : Vars w) (h : strconv_FormatUint_80.f a0 a1 = some r) :
 Calls Tryz.prog 80 #[.int .u64 a0, .int .i64 a1] w fun e w' => e = .returned (.string r) ∧ Below w.heap.size w w' := by
 unfold strconv_FormatUint_80.f at h
 split at h
 · rename_i hh
   injection h with h
   subst h
   obtain ⟨h0, h1, rfl⟩ := hh
   obtain ⟨u, rfl⟩ : ∃ u : Nat, a0 = u := ⟨a0.toNat, by omega⟩
   rw [Int.toNat_natCast]
   have hu64 : u < 18446744073709551616 := by omega
   by_cases hs : u < 100
   · have hs' : (u : Int) < 100 := by omega
     go_enter Tryz.func80, Tryz.ntmps80
     go_wp2_with (go_at_call 97; refine (Tryz.internal_strconv_small u hs _).mono ?_; rintro e w' ⟨rfl, rfl⟩)
     go_ret
     exact ⟨rfl, Below.refl _ _⟩
   have hs' : ¬ (u : Int) < 100 := by omega
   have htab := hv.pow10
   have hnd20 : Lib.nDigits u ≤ 20 := by have := Lib.numDigits_eq u (by omega) hu64; split at this <;> omega
   have hnd24 : (Lib.nDigits u : Int) ≤ 24 := by omega
   have hsl1 : ∀ W, (Instr.sliceAt 137 (.pointer (some ⟨w.heap.size, 0, none⟩)) none (some (.int .i64 (Lib.nDigits u : Int))) none).run Tryz.prog W = .ok (.slice (some ⟨w.heap.size, 0, none⟩) (Lib.nDigits u) 24) W := fun W => by
    rw [run_sliceAt_array_h W 137 ⟨w.heap.size, 0, none⟩ (by simp [Program.arrayLen, Program.elem, Tryz.underlying137]) .i64 (Lib.nDigits u : Int) (by omega) (by rw [strconv_FormatUint_80.len24]; omega)]
    rw [strconv_FormatUint_80.len24]
    go_simp
   have hH0 := strconv_FormatUint_80.zeros w 137 (Lib.nDigits u) (by omega)
   have hfmt := Tryz.internal_strconv_formatBase10 w.heap.size 0 24 u (Array.replicate (Lib.nDigits u) 0) (w.alloc (.cells Lib.zeros24 137)) hH0 (by rw [Array.size_replicate]; exact Lib.lt_pow_nDigits u) hu64 (by rw [Array.size_replicate]; omega)
   rw [Array.size_replicate] at hfmt
   have HH0 := Lib.hid hH0
   have HF := Lib.hid hfmt
   have hz24 := strconv_FormatUint_80.z24
   have hs24 := strconv_FormatUint_80.s24
   have ha24 := strconv_FormatUint_80.a24
   clear hH0 hfmt
   go_enter Tryz.func80, Tryz.ntmps80
   go_wp2_with (go_at_call 98; refine (Tryz.internal_strconv_numDigits u (by omega) hu64 _ (Lib.tabIs_alloc htab _)).mono ?_; rintro e w' ⟨rfl, rfl⟩)
   go_at_call 99
   refine HF.out.mono ?_
   rintro e w' ⟨rfl, k, v', dk, rfl, hF⟩
   have hcv : (convert 70 9 (.slice (some ⟨w.heap.size, 0, none⟩) (Lib.nDigits u) 24)).run Tryz.prog ((Sort.putRow (fun (b : UInt8) => Value.int .u8 (b.toNat : Int)) (w.alloc (.cells Lib.zeros24 137)) w.heap.size 0 dk).drewN k) = .ok (.string ⟨(Lib.decDigits u).toArray⟩) ((Sort.putRow (fun (b : UInt8) => Value.int .u8 (b.toNat : Int)) (w.alloc (.cells Lib.zeros24 137)) w.heap.size 0 dk).drewN k) := by
    have h := run_convert_bytes_back (P := Tryz.prog) ((Sort.putRow (fun (b : UInt8) => Value.int .u8 (b.toNat : Int)) (w.alloc (.cells Lib.zeros24 137)) w.heap.size 0 dk).drewN k) 70 9 5 ⟨w.heap.size, 0, none⟩ 24 (Lib.decDigits u) Tryz.underlying70 Tryz.underlying5 Tryz.underlying9 (fun j hj => by
     rw [Lib.row_is_numeral hF j hj, Lib.add_plain, World.cell?_drewN]
     exact Sort.cell?_putRow (fun (b : UInt8) => Value.int .u8 (b.toNat : Int)) _ w.heap.size 0 _ dk HH0.out (by rw [hF.size, Array.size_replicate]) j (by rw [hF.size]; rw [Lib.decDigits_length] at hj; exact hj))
    rw [Lib.decDigits_length] at h
    exact h
   go_wp2
   go_ret
   obtain ⟨os, eo⟩ : ∃ os, (Sort.putRow (fun (b : UInt8) => Value.int .u8 (b.toNat : Int)) (w.alloc (.cells Lib.zeros24 137)) w.heap.size 0 dk).drewN k = Sort.grow (w.drewN k) os := by
    rw [Sort.alloc_eq_grow]
    obtain ⟨os', _, e⟩ := Sort.putRow_grow_new (fun (b : UInt8) => Value.int .u8 (b.toNat : Int)) w #[.cells Lib.zeros24 137] w.heap.size 0 dk (Nat.le_refl _)
    exact ⟨os', by rw [e]; rfl⟩
   refine ⟨rfl, ?_⟩
   rw [eo]
   exact Lib.below_grow _ _ (Nat.le_refl _) _ _
 cases h

end
end Go.Proofs.YtfboejlemnfndaaGreatDoor.XMr
end
section
namespace Go.Proofs.YtfboejlemnfndaaGreatDoor.XMr
open Go.RowKit Go.Proofs.YtfboejlemnfndaaGreatDoorW.PrintWords Go.Proofs.YtfboejlemnfndaaGreatDoorW.PrintLast Go.Proofs.YtfboejlemnfndaaGreatDoorW.PrintMore
attribute [local go_sem] extract_sub max2_int min2_int max_two min_two max_three min_three max_four min_four   -- for this text's walks alone
set_option linter.unusedVariables false
set_option linter.unusedSimpArgs false

noncomputable section
def strconv_FormatUint_62.f (a0 : Int) (a1 : Int) : Option (ByteArray) := (strconv_FormatUint_80.f a0 a1).bind fun t138 => (some t138)
set_option maxHeartbeats 8000000 in
set_option maxRecDepth 100000 in
theorem strconv_FormatUint_62.calls (a0 : Int) (a1 : Int) (r : ByteArray) (w : World) (hv : Vars w) (h : strconv_FormatUint_62.f a0 a1 = some r) :
 Calls Tryz.prog 62 #[.int .u64 a0, .int .i64 a1] w fun e w' => e = .returned (.string r) ∧ Below w.heap.size w w' := by
 have HV := Aside0.mk hv
 clear hv
 have HB := Aside0.mk (Below.refl w.heap.size w)
 have H : ((strconv_FormatUint_80.f a0 a1).bind fun t138 => (some t138)) = some r := h
 clear h
 replace H := Option.bind_eq_some_iff.mp H
 obtain ⟨t138, A30, H⟩ := H
 replace H : (some t138) = some r := H
 have A3 := Aside0.mk A30
 clear A30
 obtain rfl := Option.some.inj H
 go_enter Tryz.func62, Tryz.ntmps62
 go_wp2_with (first | ((with_reducible refine gate_callee (f := 80) rfl ?_); refine goesL_ (some 7) rfl rfl Tryz.func80 (by kernel_rfl) rfl #[.int .u64 a0, .int .i64 a1] rfl argA ?_; (with_reducible refine (strconv_FormatUint_80.calls a0 a1 t138 _ ?side1 A3.out).mono ?_); (case side1 => exact Vars.below HV.out (hbA HB.out)); rintro e w4 ⟨rfl, hb⟩; refine ⟨_, rfl, ?_⟩; replace HB := Aside0.mk (below_step (hbA HB.out) hb); (try clear hb); (try clear hb2); (try clear hk); (try clear hi)))
 go_ret
 exact ⟨reA, hbA HB.out⟩

def digits_Text.f (a0 : Int) : Option (ByteArray) := (strconv_FormatUint_62.f a0 10).bind fun t139 => (some t139)
set_option maxHeartbeats 8000000 in
set_option maxRecDepth 100000 in
theorem digits_Text.calls (a0 : Int) (r : ByteArray) (w : World) (hv : Vars w) (h : digits_Text.f a0 = some r) :
 Calls Tryz.prog 30 #[.int .u64 a0] w fun e w' => e = .returned (.string r) ∧ Below w.heap.size w w' := by
 have HV := Aside0.mk hv
 clear hv
 have HB := Aside0.mk (Below.refl w.heap.size w)
 have H : ((strconv_FormatUint_62.f a0 10).bind fun t139 => (some t139)) = some r := h
 clear h
 replace H := Option.bind_eq_some_iff.mp H
 obtain ⟨t139, A20, H⟩ := H
 replace H : (some t139) = some r := H
 have A2 := Aside0.mk A20
 clear A20
 obtain rfl := Option.some.inj H
 go_enter Tryz.func30, Tryz.ntmps30
 go_wp2_with (first | ((with_reducible refine gate_callee (f := 62) rfl ?_); refine goesL_ (some 4) rfl rfl Tryz.func62 (by kernel_rfl) rfl #[.int .u64 a0, .int .i64 10] rfl argA ?_; (with_reducible refine (strconv_FormatUint_62.calls a0 10 t139 _ ?side1 A2.out).mono ?_); (case side1 => exact Vars.below HV.out (hbA HB.out)); rintro e w3 ⟨rfl, hb⟩; refine ⟨_, rfl, ?_⟩; replace HB := Aside0.mk (below_step (hbA HB.out) hb); (try clear hb); (try clear hb2); (try clear hk); (try clear hi)))
 go_ret
 exact ⟨reA, hbA HB.out⟩

end
end Go.Proofs.YtfboejlemnfndaaGreatDoor.XMr
end
section
namespace Go.Proofs.YtfboejlemnfndaaGreatDoor.XMr
open Go.RowKit Go.Proofs.YtfboejlemnfndaaGreatDoorW.PrintWords Go.Proofs.YtfboejlemnfndaaGreatDoorW.PrintLast Go.Proofs.YtfboejlemnfndaaGreatDoorW.PrintMore
attribute [local go_sem] extract_sub max2_int min2_int max_two min_two max_three min_three max_four min_four   -- for this text's walks alone
set_option linter.unusedVariables false
set_option linter.unusedSimpArgs false

noncomputable section
def strings_Join.f (a0 : List ByteArray) (a1 : ByteArray) : Option ByteArray :=
 if a0.length ≤ 140737488355328 ∧ (Lib.join (a0.map (·.data.toList)) a1.data.toList).length ≤ 140737488355328 then some ⟨(Lib.join (a0.map (·.data.toList)) a1.data.toList).toArray⟩ else none
theorem strings_Join.spot (w : World) (ad : Addr) (v : Value) (h : w.cell? ad = some v) : ad.spot = none ∧ ad.block < w.heap.size := by
 refine ⟨?_, cell_lt h⟩
 unfold World.cell? at h
 split at h
 · split at h
   · cases h
   rename_i hs; simpa using hs
 cases h
theorem strings_Join.calls (A0 : Option Addr) (c0 : Nat) (l0 : List ByteArray) (a1 : ByteArray) (r : ByteArray) (w : World) (hr0 : Kd.C Kd.string w A0 l0.length l0) (hc0 : l0.length ≤ c0) (h : strings_Join.f l0 a1 = some r) :
 Calls Tryz.prog 31 #[.slice A0 l0.length c0, .string a1] w fun e w' => e = .returned (.string r) ∧ Below w.heap.size w w' := by
 unfold strings_Join.f at h
 split at h
 · rename_i hh
   injection h with h
   subst h
   cases l0 with
   | nil => exact (Tryz.strings_Join_none A0 c0 a1 w).mono fun e w' ⟨he, hw⟩ => ⟨he, hw ▸ Below.refl _ _⟩
   | cons x rest =>
    obtain ⟨_, _, hA⟩ := hr0
    obtain ⟨ad, rfl, hcell⟩ := hA (by simp)
    have one : ∀ (j : Nat) y, (x :: rest)[j]? = some y → w.cell? (ad.add j) = some (.string y) := by
     intro j y hy
     obtain ⟨c, _, hK, hu⟩ := hcell j y hy
     have hK' : c = [.string y] := hK
     subst hK'
     have e := hu 0 (.string y) rfl
     have es : Kd.string.sz = 1 := rfl
     rw [es, Nat.mul_one, Nat.add_zero] at e
     exact e
    have h0 := one 0 x rfl
    rw [show ad.add 0 = ad from by unfold Addr.add; rw [if_pos rfl]] at h0
    obtain ⟨hs, hb⟩ := strings_Join.spot w ad _ h0
    obtain ⟨b, o, s⟩ := ad
    obtain rfl : s = none := hs
    exact Tryz.strings_Join b o c0 (x :: rest) a1 w (fun j y hy => by rw [← Lib.add_plain]; exact one j y hy) hb hh.1 hc0 hh.2
 cases h

end
end Go.Proofs.YtfboejlemnfndaaGreatDoor.XMr
end
