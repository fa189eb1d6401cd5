/- Put together by wip/pack.py (this session's own program) out of this session's texts; a kit's tool laid the words and the shelf, of which only what is used stands here. Lean checks it. -/
import Derived.Test.YtdihoopofhediaaGreatDoorPWp2
import Derived.Deep.MidRow
import Derived.Deep.WholeRow
import Derived.Lib.BufferWrite
import Derived.Lib.Hide
import Derived.Laws.IdiomStrings
import Derived.Lib.BufferMore
import Derived.Laws.ResultCell
import Derived.Deep.RegionHeld3
import Derived.Deep.DrawnRows
import Derived.Deep.DeepCutAuto
import Derived.WalkSpells
import Derived.StillTactics
import Derived.Deep.QuietTactic
import Derived.BigQuiet
section
namespace Go.Proofs.YtdihoopofhediaaGreatDoor.XMd
open Go.RowKit Go.Proofs.YtdihoopofhediaaGreatDoorW.PrintWords Go.Proofs.YtdihoopofhediaaGreatDoorW.PrintLast Go.Proofs.YtdihoopofhediaaGreatDoorW.PrintMore
attribute [local go_sem] extract_sub max2_int min2_int max_two min_two max_three min_three max_four min_four   -- for this text's walks alone
set_option linter.unusedVariables false
set_option linter.unusedSimpArgs false

noncomputable section
def strconv_FormatUint_68.f (a0 : Int) (a1 : Int) : Option (ByteArray) := (strconv_FormatUint_81.f a0 a1).bind fun t113 => (some t113)
set_option maxHeartbeats 8000000 in
set_option maxRecDepth 100000 in
theorem strconv_FormatUint_68.calls (a0 : Int) (a1 : Int) (r : ByteArray) (w : World) (hv : Vars w) (h : strconv_FormatUint_68.f a0 a1 = some r) :
 Calls Tryz.prog 68 #[.int .u64 a0, .int .i64 a1] w fun e w' => e = .returned (.string r) ∧ Below w.heap.size w w' := by
 have HV := Aside0.mk hv
 clear hv
 have HB := Aside0.mk (Below.refl w.heap.size w)
 have H : ((strconv_FormatUint_81.f a0 a1).bind fun t113 => (some t113)) = some r := h
 clear h
 replace H := Option.bind_eq_some_iff.mp H
 obtain ⟨t113, A30, H⟩ := H
 replace H : (some t113) = some r := H
 have A3 := Aside0.mk A30
 clear A30
 obtain rfl := Option.some.inj H
 go_enter Tryz.func68, Tryz.ntmps68
 go_wp2_with (first | ((with_reducible refine gate_callee (f := 81) rfl ?_); refine goesL_ (some 7) rfl rfl Tryz.func81 (by kernel_rfl) rfl #[.int .u64 a0, .int .i64 a1] rfl argA ?_; (with_reducible refine (strconv_FormatUint_81.calls a0 a1 t113 _ ?side1 A3.out).mono ?_); (case side1 => exact Vars.below HV.out (hbA HB.out)); rintro e w4 ⟨rfl, hb⟩; refine ⟨_, rfl, ?_⟩; replace HB := Aside0.mk (below_step (hbA HB.out) hb); (try clear hb); (try clear hb2); (try clear hk); (try clear hi)))
 go_ret
 exact ⟨reA, hbA HB.out⟩

def digits_Text.f (a0 : Int) : Option (ByteArray) := (strconv_FormatUint_68.f a0 10).bind fun t114 => (some t114)
set_option maxHeartbeats 8000000 in
set_option maxRecDepth 100000 in
theorem digits_Text.calls (a0 : Int) (r : ByteArray) (w : World) (hv : Vars w) (h : digits_Text.f a0 = some r) :
 Calls Tryz.prog 49 #[.int .u64 a0] w fun e w' => e = .returned (.string r) ∧ Below w.heap.size w w' := by
 have HV := Aside0.mk hv
 clear hv
 have HB := Aside0.mk (Below.refl w.heap.size w)
 have H : ((strconv_FormatUint_68.f a0 10).bind fun t114 => (some t114)) = some r := h
 clear h
 replace H := Option.bind_eq_some_iff.mp H
 obtain ⟨t114, A20, H⟩ := H
 replace H : (some t114) = some r := H
 have A2 := Aside0.mk A20
 clear A20
 obtain rfl := Option.some.inj H
 go_enter Tryz.func49, Tryz.ntmps49
 go_wp2_with (first | ((with_reducible refine gate_callee (f := 68) rfl ?_); refine goesL_ (some 4) rfl rfl Tryz.func68 (by kernel_rfl) rfl #[.int .u64 a0, .int .i64 10] rfl argA ?_; (with_reducible refine (strconv_FormatUint_68.calls a0 10 t114 _ ?side1 A2.out).mono ?_); (case side1 => exact Vars.below HV.out (hbA HB.out)); rintro e w3 ⟨rfl, hb⟩; refine ⟨_, rfl, ?_⟩; replace HB := Aside0.mk (below_step (hbA HB.out) hb); (try clear hb); (try clear hb2); (try clear hk); (try clear hi)))
 go_ret
 exact ⟨reA, hbA HB.out⟩

def tallboylaw15_Great.l0 : Nat → Int → Int → Int → List ByteArray → Int → Int → ByteArray → Int → Int → Bool → Option (Bool)
 | 0, _, _, _, _, _, _, _, _, _, _ => none
 | k + 1, x3, x4, x116000, x116001, x116002, x116003, x116004, x116005, x116006, x116007 => if x4 < (x116001.length : Int) then (if x3 < 10000 then (if 0 ≤ x4 then (tallboylaw15_Great.l0 k (wrap64 (x3 + ((rdOf ByteArray.empty x116001 x4).size : Int))) (wrap64 (x4 + 1)) x116000 x116001 x116002 x116003 x116004 x116005 x116006 x116007) else (none)) else (if x3 ≥ 10000 then (some true) else (some (decide ((x116001.length : Int) > 100))))) else (if x3 ≥ 10000 then (some true) else (some (decide ((x116001.length : Int) > 100))))
def tallboylaw15_Great.f (k : Nat) (a0_0 : Int) (l0_1 : List ByteArray) (a0_2 : Int) (a0_3 : Int) (a0_4 : ByteArray) (a0_5 : Int) (a0_6 : Int) (a0_7 : Bool) : Option (Bool) := tallboylaw15_Great.l0 k (a0_4.size : Int) 0 a0_0 l0_1 a0_2 a0_3 a0_4 a0_5 a0_6 a0_7
theorem tallboylaw15_Great.mono_l : ∀ k, (∀ y0 y1 y2 y3 y4 y5 y6 y7 y8 y9, LeO (tallboylaw15_Great.l0 k y0 y1 y2 y3 y4 y5 y6 y7 y8 y9) (tallboylaw15_Great.l0 (k + 1) y0 y1 y2 y3 y4 y5 y6 y7 y8 y9))
 | 0 => fun _ _ _ _ _ _ _ _ _ _ r h => by simp [tallboylaw15_Great.l0] at h
 | k + 1 => by
  have ih0 := tallboylaw15_Great.mono_l k
  · intro y0 y1 y2 y3 y4 y5 y6 y7 y8 y9
    unfold tallboylaw15_Great.l0
    repeat' first
    | (with_reducible exact ih0 _ _ _ _ _ _ _ _ _ _)
    | (with_reducible exact LeO.refl _)
    | (with_reducible exact LeO.none _)
    | (with_reducible refine LeO.ite ?_ ?_)
    | (with_reducible refine LeO.bind ?_ (fun _ => ?_))
    | exact ih0 _ _ _ _ _ _ _ _ _ _
    | exact LeO.none _
    | refine LeO.ite ?_ ?_
    | refine LeO.bind ?_ (fun _ => ?_)
theorem tallboylaw15_Great.mono : ∀ a0 a1 a2 a3 a4 a5 a6 a7 k, LeO (tallboylaw15_Great.f k a0 a1 a2 a3 a4 a5 a6 a7) (tallboylaw15_Great.f (k + 1) a0 a1 a2 a3 a4 a5 a6 a7) := by
 intro a0 a1 a2 a3 a4 a5 a6 a7 k
 have ih0 := tallboylaw15_Great.mono_l k
 unfold tallboylaw15_Great.f
 repeat' first
  | (with_reducible exact ih0 _ _ _ _ _ _ _ _ _ _)
  | (with_reducible exact LeO.refl _)
  | (with_reducible exact LeO.none _)
  | (with_reducible refine LeO.ite ?_ ?_)
  | (with_reducible refine LeO.bind ?_ (fun _ => ?_))
  | exact ih0 _ _ _ _ _ _ _ _ _ _
  | exact LeO.none _
  | refine LeO.ite ?_ ?_
  | refine LeO.bind ?_ (fun _ => ?_)
set_option maxHeartbeats 8000000 in
set_option maxRecDepth 100000 in
theorem tallboylaw15_Great.calls (k : Nat) (a0_0 : Int) (A0_1 : Option Addr) (c0_1 : Nat) (l0_1 : List ByteArray) (a0_2 : Int) (a0_3 : Int) (a0_4 : ByteArray) (a0_5 : Int) (a0_6 : Int) (a0_7 : Bool) (r : Bool) (w : World) (hr0_1 : Kd.C Kd.string w A0_1 l0_1.length l0_1) (hc0_1 : l0_1.length ≤ c0_1) (h : tallboylaw15_Great.f k a0_0 l0_1 a0_2 a0_3 a0_4 a0_5 a0_6 a0_7 = some r) :
 Calls Tryz.prog 11 #[.agg #[.int .i64 a0_0, .slice A0_1 l0_1.length c0_1, .int .u32 a0_2, .int .i64 a0_3, .string a0_4, .int .u64 a0_5, .int .u64 a0_6, .bool a0_7]] w fun e w' => e = .returned (.bool r) ∧ Below w.heap.size w w' := by
 have hu35 := Tryz.underlying35
 have HR0_1 := Aside0.mk hr0_1
 have HC0_1 := Aside0.mk hc0_1
 clear hr0_1 hc0_1
 have HB := Aside0.mk (Below.refl w.heap.size w)
 have H : (tallboylaw15_Great.l0 k (a0_4.size : Int) 0 a0_0 l0_1 a0_2 a0_3 a0_4 a0_5 a0_6 a0_7) = some r := h
 clear h
 have H' := Aside0.mk H
 clear H
 go_enter Tryz.func11, Tryz.ntmps11
 go_wp2_with (first | ((with_reducible refine gate_dst (N := 1) rfl ?_); (try (refine gate_guard (by rfl) ?_; dsimp only)); refine box_event ?hg (N := 1) ?hd (cs := #[.int .i64 a0_0, .slice A0_1 l0_1.length c0_1, .int .u32 a0_2, .int .i64 a0_3, .string a0_4, .int .u64 a0_5, .int .u64 a0_6, .bool a0_7]) (t := 35) ?hr ?_; (case hd => rfl); (case hg => rfl); (case hr => first | (go_simp; done) | (go_simp; rfl)); intro gb115 hg w2 hbox hb; have n0_ := Aside0.mk (below_step (hbA HB.out) hb); have n1_ := Aside0.mk (hbox); have n2_ := Aside0.mk ((by rw [hg]; exact (below_size (hbA HB.out)) : w.heap.size ≤ gb115)); have n3_ := Aside0.mk ((by rw [hg]; exact (below_size (hbA HB.out)) : w.heap.size ≤ gb115)); clear HB; have HB := n0_; have BK115 := n1_; have GW115 := n2_; have GE115 := n3_; clear n0_ n1_ n2_ n3_; clear hb hbox hg; obtain ⟨hcz3_0, hcz3_1, hcz3_2, hcz3_3, hcz3_4, hcz3_5, hcz3_6, hcz3_7, hfz3_0, hfz3_1, hfz3_2, hfz3_3, hfz3_4, hfz3_5, hfz3_6, hfz3_7⟩ := blkA8 BK115.out))
 go_loopg [3, 4] k (fun kq v3 v4 w' => ∃ (x3_1 : Int) (x4_1 : Int), v3 = .int .i64 x3_1 ∧ v4 = .int .i64 x4_1 ∧ Aside0 (tallboylaw15_Great.l0 kq x3_1 x4_1 a0_0 l0_1 a0_2 a0_3 a0_4 a0_5 a0_6 a0_7 = some r) ∧ Aside0 (kq ≤ k) ∧ Aside0 (w'.heap[gb115]? = some (.cells #[.int .i64 a0_0, (.slice A0_1 l0_1.length c0_1), .int .u32 a0_2, .int .i64 a0_3, .string a0_4, .int .u64 a0_5, .int .u64 a0_6, .bool a0_7] 35 (0, 0))) ∧ Aside0 (Below w.heap.size w w'))
 case atStart => exact ⟨((a0_4.size : Int)), (0), rsA, rsA, H', ⟨Nat.le_refl _⟩, ⟨rbA BK115.out⟩, ⟨hbA HB.out⟩⟩
 case round =>
  clear H'
  (try clear c1); (try clear p2); (try clear hcz3_0); (try clear hcz3_1); (try clear hcz3_2); (try clear hcz3_3); (try clear hcz3_4); (try clear hcz3_5); (try clear hcz3_6); (try clear hcz3_7); (try clear hfz3_0); (try clear hfz3_1); (try clear hfz3_2); (try clear hfz3_3); (try clear hfz3_4); (try clear hfz3_5); (try clear hfz3_6); (try clear hfz3_7)
  obtain ⟨x3_1, x4_1, rfl, rfl, HA, HK1, BK115, HB⟩ := hrel
  cases gk with
  | zero => exact absurd HA.out (by simp [tallboylaw15_Great.l0])
  | succ k1 =>
   have H := HA.out
   clear HA
   simp only [tallboylaw15_Great.l0] at H
   by_cases c4 : x4_1 < (l0_1.length : Int)
   · rw [if_pos c4] at H
     have c4b0 : decide (x4_1 < (l0_1.length : Int)) = true := decide_eq_true c4
     clear c4
     by_cases c5 : x3_1 < 10000
     · rw [if_pos c5] at H
       have c5b0 : decide (x3_1 < 10000) = true := decide_eq_true c5
       clear c5
       by_cases c6 : 0 ≤ x4_1
       · rw [if_pos c6] at H
         have c6b0 : decide (0 ≤ x4_1) = true := decide_eq_true c6
         clear c6
         have H' := Aside0.mk H
         clear H
         obtain ⟨hcz7_0, hcz7_1, hcz7_2, hcz7_3, hcz7_4, hcz7_5, hcz7_6, hcz7_7, hfz7_0, hfz7_1, hfz7_2, hfz7_3, hfz7_4, hfz7_5, hfz7_6, hfz7_7⟩ := blkA8 BK115.out
         have p116 : 0 ≤ (x4_1 : Int) := of_decide_eq_true asA
         have q116 : x4_1 < (l0_1.length : Int) := of_decide_eq_true asA
         obtain ⟨ad116, e116, hx116_0⟩ := Kd.at_string HR0_1.out x4_1 p116 q116
         cases e116
         replace hx116_0 := (HB.out.cell (World.block_lt_of_cell? w _ hx116_0)).trans hx116_0
         replace p116 := eq_true p116
         replace q116 := eq_true q116
         go_wp2
         go_roundg k1
         case measure => have := HK1.out; omega
         case rel => exact ⟨(wrap64 (x3_1 + ((rdOf ByteArray.empty l0_1 x4_1).size : Int))), (wrap64 (x4_1 + 1)), rsA, rsA, H', ⟨by have := HK1.out; omega⟩, ⟨rbA BK115.out⟩, ⟨hbA HB.out⟩⟩
       rw [if_neg c6] at H
       exact absurd H (by simp)
     rw [if_neg c5] at H
     have c5b0 : decide (x3_1 < 10000) = false := decide_eq_false c5
     clear c5
     by_cases c8 : x3_1 ≥ 10000
     · rw [if_pos c8] at H
       have c8b0 : decide (10000 ≤ x3_1) = true := decide_eq_true c8
       clear c8
       obtain rfl := Option.some.inj H
       obtain ⟨hcz9_0, hcz9_1, hcz9_2, hcz9_3, hcz9_4, hcz9_5, hcz9_6, hcz9_7, hfz9_0, hfz9_1, hfz9_2, hfz9_3, hfz9_4, hfz9_5, hfz9_6, hfz9_7⟩ := blkA8 BK115.out
       go_wp2
       go_ret
       exact ⟨reA, hbA HB.out⟩
     rw [if_neg c8] at H
     have c8b0 : decide (10000 ≤ x3_1) = false := decide_eq_false c8
     clear c8
     obtain rfl := Option.some.inj H
     obtain ⟨hcz10_0, hcz10_1, hcz10_2, hcz10_3, hcz10_4, hcz10_5, hcz10_6, hcz10_7, hfz10_0, hfz10_1, hfz10_2, hfz10_3, hfz10_4, hfz10_5, hfz10_6, hfz10_7⟩ := blkA8 BK115.out
     go_wp2
     go_ret
     exact ⟨reA, hbA HB.out⟩
   rw [if_neg c4] at H
   have c4b0 : decide (x4_1 < (l0_1.length : Int)) = false := decide_eq_false c4
   clear c4
   by_cases c11 : x3_1 ≥ 10000
   · rw [if_pos c11] at H
     have c11b0 : decide (10000 ≤ x3_1) = true := decide_eq_true c11
     clear c11
     obtain rfl := Option.some.inj H
     obtain ⟨hcz12_0, hcz12_1, hcz12_2, hcz12_3, hcz12_4, hcz12_5, hcz12_6, hcz12_7, hfz12_0, hfz12_1, hfz12_2, hfz12_3, hfz12_4, hfz12_5, hfz12_6, hfz12_7⟩ := blkA8 BK115.out
     go_wp2
     go_ret
     exact ⟨reA, hbA HB.out⟩
   rw [if_neg c11] at H
   have c11b0 : decide (10000 ≤ x3_1) = false := decide_eq_false c11
   clear c11
   obtain rfl := Option.some.inj H
   obtain ⟨hcz13_0, hcz13_1, hcz13_2, hcz13_3, hcz13_4, hcz13_5, hcz13_6, hcz13_7, hfz13_0, hfz13_1, hfz13_2, hfz13_3, hfz13_4, hfz13_5, hfz13_6, hfz13_7⟩ := blkA8 BK115.out
   go_wp2
   go_ret
   exact ⟨reA, hbA HB.out⟩

def tallboylaw15_Own.f (a0_0 : Int) (l0_1 : List ByteArray) (a0_2 : Int) (a0_3 : Int) (a0_4 : ByteArray) (a0_5 : Int) (a0_6 : Int) (a0_7 : Bool) : Option (Int × List ByteArray × Int × Int × ByteArray × Int × Int × Bool) := (some (([] : List ByteArray) : List ByteArray)).bind fun y119 => (if y119.length + l0_1.length < 8796093022208 then (some (a0_0, (y119 ++ l0_1), a0_2, a0_3, a0_4, a0_5, a0_6, a0_7)) else (none))
set_option maxHeartbeats 8000000 in
set_option maxRecDepth 100000 in
theorem tallboylaw15_Own.calls (a0_0 : Int) (A0_1 : Option Addr) (c0_1 : Nat) (l0_1 : List ByteArray) (a0_2 : Int) (a0_3 : Int) (a0_4 : ByteArray) (a0_5 : Int) (a0_6 : Int) (a0_7 : Bool) (r1 : Int) (r2 : List ByteArray) (r3 : Int) (r4 : Int) (r5 : ByteArray) (r6 : Int) (r7 : Int) (r8 : Bool) (w : World) (hr0_1 : Kd.C Kd.string w A0_1 l0_1.length l0_1) (hc0_1 : l0_1.length ≤ c0_1) (h : tallboylaw15_Own.f a0_0 l0_1 a0_2 a0_3 a0_4 a0_5 a0_6 a0_7 = some (r1, r2, r3, r4, r5, r6, r7, r8)) :
 Calls Tryz.prog 16 #[.agg #[.int .i64 a0_0, .slice A0_1 l0_1.length c0_1, .int .u32 a0_2, .int .i64 a0_3, .string a0_4, .int .u64 a0_5, .int .u64 a0_6, .bool a0_7]] w fun e w' => ∃ v1_ : Value, e = .returned (.agg #[.int .i64 r1, v1_, .int .u32 r3, .int .i64 r4, .string r5, .int .u64 r6, .int .u64 r7, .bool r8]) ∧ Kd.R Kd.string 9 w' w.heap.size (fun _ => True) v1_ r2 ∧ Below w.heap.size w w' := by
 have hu35 := Tryz.underlying35
 have HR0_1 := Aside0.mk hr0_1
 have HC0_1 := Aside0.mk hc0_1
 clear hr0_1 hc0_1
 have HB := Aside0.mk (Below.refl w.heap.size w)
 have H : ((some (([] : List ByteArray) : List ByteArray)).bind fun y119 => (if y119.length + l0_1.length < 8796093022208 then (some (a0_0, (y119 ++ l0_1), a0_2, a0_3, a0_4, a0_5, a0_6, a0_7)) else (none))) = some (r1, r2, r3, r4, r5, r6, r7, r8) := h
 clear h
 obtain ⟨y119, hy119⟩ : ∃ y_ : List ByteArray, y_ = (([] : List ByteArray)) := ⟨_, rfl⟩
 replace H : (if y119.length + l0_1.length < 8796093022208 then (some (a0_0, (y119 ++ l0_1), a0_2, a0_3, a0_4, a0_5, a0_6, a0_7)) else (none)) = some (r1, r2, r3, r4, r5, r6, r7, r8) := by first | (rw [hy119]; with_reducible exact H) | (have H2_ := (Option.bind_some _ _).symm.trans H; rw [hy119]; with_reducible exact H2_) | (have H2_ := (Option.bind_some _ _).symm.trans H; with_reducible exact H2_) | with_reducible exact H | (rw [hy119]; exact H) | exact H
 have Ny119 := Aside0.mk hy119
 clear hy119
 by_cases c2 : y119.length + l0_1.length < 8796093022208
 · rw [if_pos c2] at H
   have LMc2 := Aside0.mk c2
   clear c2
   obtain ⟨y122, hy122⟩ : ∃ y_ : List ByteArray, y_ = (y119 ++ l0_1) := ⟨_, rfl⟩
   replace H : (some (a0_0, y122, a0_2, a0_3, a0_4, a0_5, a0_6, a0_7)) = some (r1, r2, r3, r4, r5, r6, r7, r8) := by first | (rw [hy122]; with_reducible exact H) | (have H2_ := (Option.bind_some _ _).symm.trans H; rw [hy122]; with_reducible exact H2_) | (have H2_ := (Option.bind_some _ _).symm.trans H; with_reducible exact H2_) | with_reducible exact H | (rw [hy122]; exact H) | exact H
   have Ny122 := Aside0.mk hy122
   clear hy122
   simp only [Option.some.injEq, Prod.mk.injEq] at H
   obtain ⟨rfl, rfl, rfl, rfl, rfl, rfl, rfl, rfl⟩ := H
   go_enter Tryz.func16, Tryz.ntmps16
   go_wp2_with (first | ((with_reducible refine gate_dst (N := 1) rfl ?_); refine box_event ?hg (N := 1) ?hd (cs := #[.int .i64 a0_0, .slice A0_1 l0_1.length c0_1, .int .u32 a0_2, .int .i64 a0_3, .string a0_4, .int .u64 a0_5, .int .u64 a0_6, .bool a0_7]) (t := 35) ?hr ?_; (case hd => rfl); (case hg => rfl); (case hr => first | (go_simp; done) | (go_simp; rfl)); intro gb117 hg w3 hbox hb; have n0_ := Aside0.mk (below_step (hbA HB.out) hb); have n1_ := Aside0.mk (hbox); have n2_ := Aside0.mk ((by rw [hg]; exact (below_size (hbA HB.out)) : w.heap.size ≤ gb117)); have n3_ := Aside0.mk ((by rw [hg]; exact (below_size (hbA HB.out)) : w.heap.size ≤ gb117)); clear HB; have HB := n0_; have BK117 := n1_; have GW117 := n2_; have GE117 := n3_; clear n0_ n1_ n2_ n3_; clear hb hbox hg) | ((with_reducible refine gate_dst (N := 2) rfl ?_); refine box_event ?hg (N := 2) ?hd (cs := #[.int .i64 0, .slice none 0 0, .int .u32 0, .int .i64 0, .string (⟨#[]⟩ : ByteArray), .int .u64 0, .int .u64 0, .bool false]) (t := 35) ?hr ?_; (case hd => rfl); (case hg => rfl); (case hr => first | (go_simp; done) | (go_simp; rfl)); intro gb118 hg w4 hbox hb; have n0_ := Aside0.mk (blk_below (g := gb117) (o := .cells #[.int .i64 a0_0, .slice A0_1 l0_1.length c0_1, .int .u32 a0_2, .int .i64 a0_3, .string a0_4, .int .u64 a0_5, .int .u64 a0_6, .bool a0_7] 35 (0, 0)) (rbA BK117.out) hb); have n1_ := Aside0.mk (below_step (hbA HB.out) hb); have n2_ := Aside0.mk (hbox); have n3_ := Aside0.mk ((by rw [hg]; exact (below_size (hbA HB.out)) : w.heap.size ≤ gb118)); have n4_ := Aside0.mk ((by rw [hg]; exact (below_size (hbA HB.out)) : w.heap.size ≤ gb118)); have n5_ := Aside0.mk ((by rw [hg]; exact Nat.ne_of_lt (blk_lt (g := gb117) (o := .cells #[.int .i64 a0_0, .slice A0_1 l0_1.length c0_1, .int .u32 a0_2, .int .i64 a0_3, .string a0_4, .int .u64 a0_5, .int .u64 a0_6, .bool a0_7] 35 (0, 0)) (rbA BK117.out)) : gb117 ≠ gb118)); have n6_ := Aside0.mk ((by rw [hg]; exact Nat.ne_of_gt (blk_lt (g := gb117) (o := .cells #[.int .i64 a0_0, .slice A0_1 l0_1.length c0_1, .int .u32 a0_2, .int .i64 a0_3, .string a0_4, .int .u64 a0_5, .int .u64 a0_6, .bool a0_7] 35 (0, 0)) (rbA BK117.out)) : gb118 ≠ gb117)); clear BK117; clear HB; have BK117 := n0_; have HB := n1_; have BK118 := n2_; have GW118 := n3_; have GE118 := n4_; have NB117_118 := n5_; have NB118_117 := n6_; clear n0_ n1_ n2_ n3_ n4_ n5_ n6_; clear hb hbox hg) | ((with_reducible refine gate_dst (N := 3) rfl ?_); refine Kd.R_lit Kd.string _ 9 ?hg (N := 3) ?hd (xs := ([] : List ByteArray)) (inner := []) (ok := fun _ => True) (okp := fun _ => True) ?hr ?hp (fun _ hk => hk) trivial (Below.refl _ _) (Nat.le_refl _) (by simp) ?_; (case hd => rfl); (case hg => rfl); (case hr => first | (go_simp; done) | (go_simp; rfl)); (case hp => exact (Reps.none _ _)); intro v120 w5 ho6 hb hg_ hnew_; clear hg_ hnew_; (first | rw [← Ny119.out] at ho6 | (simp only [Int.reduceToNat] at ho6; rw [← Ny119.out] at ho6)); have n0_ := Aside0.mk (Kd.R_lower ho6 (below_size (hbA HB.out))); have n1_ := Aside0.mk (blk_below (g := gb117) (o := .cells #[.int .i64 a0_0, .slice A0_1 l0_1.length c0_1, .int .u32 a0_2, .int .i64 a0_3, .string a0_4, .int .u64 a0_5, .int .u64 a0_6, .bool a0_7] 35 (0, 0)) (rbA BK117.out) hb); have n2_ := Aside0.mk (blk_below (g := gb118) (o := .cells #[.int .i64 0, .slice none 0 0, .int .u32 0, .int .i64 0, .string (⟨#[]⟩ : ByteArray), .int .u64 0, .int .u64 0, .bool false] 35 (0, 0)) (rbA BK118.out) hb); have n3_ := Aside0.mk (below_step (hbA HB.out) hb); clear BK117; clear BK118; clear HB; have HO121 := n0_; have BK117 := n1_; have BK118 := n2_; have HB := n3_; clear n0_ n1_ n2_ n3_; clear hb ho6; have hnb7 := NB117_118.out; have hnc7 := NB118_117.out; obtain ⟨hcz8_0, hcz8_1, hcz8_2, hcz8_3, hcz8_4, hcz8_5, hcz8_6, hcz8_7, hfz8_0, hfz8_1, hfz8_2, hfz8_3, hfz8_4, hfz8_5, hfz8_6, hfz8_7⟩ := blkA8 BK117.out) | ((with_reducible refine gate_builtin (b := .append) (xs := #[.tmp 3, .tmp 5]) rfl ?_); at_builtin; refine Kd.R_append_rows Kd.string (w0 := w) w.heap.size rfl (.tmp 3) (.tmp 5) 32 9 (.string ⟨#[]⟩) 16 rfl Tryz.underlying32 info9 rfl (by decide) (by omega) v120 y119 l0_1 _ _ _ (fun _ => True) (fun _ => False) rfl rfl ?aO ?aR (fun _ _ h => h) (fun _ h => h.elim) ?aF ?aB ?aS ?aL ?_; (case aR => repeat (first | exact (Kd.C_below HR0_1.out HB.out) | (with_reducible refine Kd.C_alloc ?_ _) | (with_reducible refine Kd.C_drewN ?_ _) | (with_reducible refine Kd.C_drew ?_))); (case aB => exact (hbA HB.out)); (case aF => exact (fun _ _ => trivial)); (case aO => exact (rdA HO121.out)); (case aS => exact (below_size (hbA HB.out))); (case aL => have := LMc2.out; omega); intro v123 w9 ho hb hg hat; rw [← Ny122.out] at ho; have n0_ := Aside0.mk (blk_grown (g := gb117) (o := .cells #[.int .i64 a0_0, .slice A0_1 l0_1.length c0_1, .int .u32 a0_2, .int .i64 a0_3, .string a0_4, .int .u64 a0_5, .int .u64 a0_6, .bool a0_7] 35 (0, 0)) (rbA BK117.out) hg (Kd.R_ne HO121.out BK117.out (by decide))); have n1_ := Aside0.mk (blk_grown (g := gb118) (o := .cells #[.int .i64 0, .slice none 0 0, .int .u32 0, .int .i64 0, .string (⟨#[]⟩ : ByteArray), .int .u64 0, .int .u64 0, .bool false] 35 (0, 0)) (rbA BK118.out) hg (Kd.R_ne HO121.out BK118.out (by decide))); have n2_ := Aside0.mk (hb); have n3_ := Aside0.mk (ho); clear BK117; clear BK118; clear HB; clear HO121; have BK117 := n0_; have BK118 := n1_; have HB := n2_; have HO124 := n3_; clear n0_ n1_ n2_ n3_; clear ho hb hg hat; obtain ⟨Ao10, co10, eo10⟩ := Kd.R_slice HO124.out; subst eo10; obtain ⟨hcz11_0, hcz11_1, hcz11_2, hcz11_3, hcz11_4, hcz11_5, hcz11_6, hcz11_7, hfz11_0, hfz11_1, hfz11_2, hfz11_3, hfz11_4, hfz11_5, hfz11_6, hfz11_7⟩ := blkA8 BK117.out; obtain ⟨hcz12_0, hcz12_1, hcz12_2, hcz12_3, hcz12_4, hcz12_5, hcz12_6, hcz12_7, hfz12_0, hfz12_1, hfz12_2, hfz12_3, hfz12_4, hfz12_5, hfz12_6, hfz12_7⟩ := blkA8 BK118.out))
   refine bodyPost_ret (results_cell_row rfl _ _ gb118 35 #[.int .i64 a0_0, .slice Ao10 y122.length co10, .int .u32 a0_2, .int .i64 a0_3, .string a0_4, .int .u64 a0_5, .int .u64 a0_6, .bool a0_7] (0, 0) _ rfl (by (with_reducible repeat (first | refine blk_drewN ?_ _ | refine blk_drew ?_ | refine blk_alloc ?_ _)); refine blk_put (cs := #[.int .i64 a0_0, .slice Ao10 y122.length co10, .int .u32 a0_2, .int .i64 a0_3, .string a0_4, .int .u64 a0_5, .int .u64 a0_6, .bool false]) ?_ 7 _ rfl; (with_reducible repeat (first | refine blk_drewN ?_ _ | refine blk_drew ?_ | refine blk_alloc ?_ _)); refine blk_put (cs := #[.int .i64 a0_0, .slice Ao10 y122.length co10, .int .u32 a0_2, .int .i64 a0_3, .string a0_4, .int .u64 a0_5, .int .u64 0, .bool false]) ?_ 6 _ rfl; (with_reducible repeat (first | refine blk_drewN ?_ _ | refine blk_drew ?_ | refine blk_alloc ?_ _)); refine blk_put (cs := #[.int .i64 a0_0, .slice Ao10 y122.length co10, .int .u32 a0_2, .int .i64 a0_3, .string a0_4, .int .u64 0, .int .u64 0, .bool false]) ?_ 5 _ rfl; (with_reducible repeat (first | refine blk_drewN ?_ _ | refine blk_drew ?_ | refine blk_alloc ?_ _)); refine blk_put (cs := #[.int .i64 a0_0, .slice Ao10 y122.length co10, .int .u32 a0_2, .int .i64 a0_3, .string (⟨#[]⟩ : ByteArray), .int .u64 0, .int .u64 0, .bool false]) ?_ 4 _ rfl; (with_reducible repeat (first | refine blk_drewN ?_ _ | refine blk_drew ?_ | refine blk_alloc ?_ _)); refine blk_put (cs := #[.int .i64 a0_0, .slice Ao10 y122.length co10, .int .u32 a0_2, .int .i64 0, .string (⟨#[]⟩ : ByteArray), .int .u64 0, .int .u64 0, .bool false]) ?_ 3 _ rfl; (with_reducible repeat (first | refine blk_drewN ?_ _ | refine blk_drew ?_ | refine blk_alloc ?_ _)); refine blk_put (cs := #[.int .i64 a0_0, .slice Ao10 y122.length co10, .int .u32 0, .int .i64 0, .string (⟨#[]⟩ : ByteArray), .int .u64 0, .int .u64 0, .bool false]) ?_ 2 _ rfl; (with_reducible repeat (first | refine blk_drewN ?_ _ | refine blk_drew ?_ | refine blk_alloc ?_ _)); refine blk_put (cs := #[.int .i64 a0_0, .slice none 0 0, .int .u32 0, .int .i64 0, .string (⟨#[]⟩ : ByteArray), .int .u64 0, .int .u64 0, .bool false]) ?_ 1 _ rfl; (with_reducible repeat (first | refine blk_drewN ?_ _ | refine blk_drew ?_ | refine blk_alloc ?_ _)); refine blk_put (cs := #[.int .i64 0, .slice none 0 0, .int .u32 0, .int .i64 0, .string (⟨#[]⟩ : ByteArray), .int .u64 0, .int .u64 0, .bool false]) ?_ 0 _ rfl; (with_reducible repeat (first | refine blk_drewN ?_ _ | refine blk_drew ?_ | refine blk_alloc ?_ _)); refine blk_far ?_ NB118_117.out _; exact rbA BK118.out) Tryz.underlying35 rfl (by kernel_rfl)) rfl ?_
   exact ⟨_, reA, by (with_reducible repeat (first | apply Kd.R_alloc | apply Kd.R_drewN | apply Kd.R_drew)); exact Kd.R_mono (Kd.R_far (p := ⟨gb118, 7, none⟩) (Kd.R_far (p := ⟨gb118, 6, none⟩) (Kd.R_far (p := ⟨gb118, 5, none⟩) (Kd.R_far (p := ⟨gb118, 4, none⟩) (Kd.R_far (p := ⟨gb118, 3, none⟩) (Kd.R_far (p := ⟨gb118, 2, none⟩) (Kd.R_far (p := ⟨gb118, 1, none⟩) (Kd.R_far (p := ⟨gb118, 0, none⟩) (Kd.R_far (p := ⟨gb117, 1, none⟩) (Kd.R_types (Kd.R_types HO124.out BK117.out (by decide)) BK118.out (by decide)) (fun _ hk => hk.1.2) (.slice Ao10 y122.length co10)) (fun _ hk => hk.2) (.int .i64 a0_0)) (fun _ hk => hk.2) (.slice Ao10 y122.length co10)) (fun _ hk => hk.2) (.int .u32 a0_2)) (fun _ hk => hk.2) (.int .i64 a0_3)) (fun _ hk => hk.2) (.string a0_4)) (fun _ hk => hk.2) (.int .u64 a0_5)) (fun _ hk => hk.2) (.int .u64 a0_6)) (fun _ hk => hk.2) (.bool a0_7)) (fun _ hk => trivial), hbA HB.out⟩
 rw [if_neg c2] at H
 exact absurd H (by simp)

def tallboylaw18_Great.l0 : Nat → Int → Int → Int → List (S72) → Int → Option (Bool)
 | 0, _, _, _, _, _ => none
 | k + 1, x3, x4, x126000, x126001, x126002 => if x4 < (x126001.length : Int) then (if x3 < 20000 then (if 0 ≤ x4 then (tallboylaw18_Great.l0 k (wrap64 ((wrap64 ((wrap64 (x3 + 1)) + (((rd_T72 x126001 x4).f0).size : Int))) + (((rd_T72 x126001 x4).f2).size : Int))) (wrap64 (x4 + 1)) x126000 x126001 x126002) else (none)) else (some (decide (x3 ≥ 20000)))) else (some (decide (x3 ≥ 20000)))
def tallboylaw18_Great.f (k : Nat) (a0_0 : Int) (l0_1 : List (S72)) (a0_2 : Int) : Option (Bool) := tallboylaw18_Great.l0 k 0 0 a0_0 l0_1 a0_2
theorem tallboylaw18_Great.mono_l : ∀ k, (∀ y0 y1 y2 y3 y4, LeO (tallboylaw18_Great.l0 k y0 y1 y2 y3 y4) (tallboylaw18_Great.l0 (k + 1) y0 y1 y2 y3 y4))
 | 0 => fun _ _ _ _ _ r h => by simp [tallboylaw18_Great.l0] at h
 | k + 1 => by
  have ih0 := tallboylaw18_Great.mono_l k
  · intro y0 y1 y2 y3 y4
    unfold tallboylaw18_Great.l0
    repeat' first
    | (with_reducible exact ih0 _ _ _ _ _)
    | (with_reducible exact LeO.refl _)
    | (with_reducible exact LeO.none _)
    | (with_reducible refine LeO.ite ?_ ?_)
    | (with_reducible refine LeO.bind ?_ (fun _ => ?_))
    | exact ih0 _ _ _ _ _
    | exact LeO.none _
    | refine LeO.ite ?_ ?_
    | refine LeO.bind ?_ (fun _ => ?_)
theorem tallboylaw18_Great.mono : ∀ a0 a1 a2 k, LeO (tallboylaw18_Great.f k a0 a1 a2) (tallboylaw18_Great.f (k + 1) a0 a1 a2) := by
 intro a0 a1 a2 k
 have ih0 := tallboylaw18_Great.mono_l k
 unfold tallboylaw18_Great.f
 repeat' first
  | (with_reducible exact ih0 _ _ _ _ _)
  | (with_reducible exact LeO.refl _)
  | (with_reducible exact LeO.none _)
  | (with_reducible refine LeO.ite ?_ ?_)
  | (with_reducible refine LeO.bind ?_ (fun _ => ?_))
  | exact ih0 _ _ _ _ _
  | exact LeO.none _
  | refine LeO.ite ?_ ?_
  | refine LeO.bind ?_ (fun _ => ?_)
set_option maxHeartbeats 8000000 in
set_option maxRecDepth 100000 in
theorem tallboylaw18_Great.calls (k : Nat) (a0_0 : Int) (A0_1 : Option Addr) (c0_1 : Nat) (l0_1 : List (S72)) (a0_2 : Int) (r : Bool) (w : World) (hr0_1 : Kd.C k72 w A0_1 l0_1.length l0_1) (hc0_1 : l0_1.length ≤ c0_1) (h : tallboylaw18_Great.f k a0_0 l0_1 a0_2 = some r) :
 Calls Tryz.prog 12 #[.agg #[.int .i64 a0_0, .slice A0_1 l0_1.length c0_1, .int .u64 a0_2]] w fun e w' => e = .returned (.bool r) ∧ Below w.heap.size w w' := by
 have hu57 := Tryz.underlying57
 have HR0_1 := Aside0.mk hr0_1
 have HC0_1 := Aside0.mk hc0_1
 clear hr0_1 hc0_1
 have HB := Aside0.mk (Below.refl w.heap.size w)
 have H : (tallboylaw18_Great.l0 k 0 0 a0_0 l0_1 a0_2) = some r := h
 clear h
 have H' := Aside0.mk H
 clear H
 go_enter Tryz.func12, Tryz.ntmps12
 go_wp2_with (first | ((with_reducible refine gate_dst (N := 1) rfl ?_); refine box_event ?hg (N := 1) ?hd (cs := #[.int .i64 a0_0, .slice A0_1 l0_1.length c0_1, .int .u64 a0_2]) (t := 57) ?hr ?_; (case hd => rfl); (case hg => rfl); (case hr => first | (go_simp; done) | (go_simp; rfl)); intro gb125 hg w2 hbox hb; have n0_ := Aside0.mk (below_step (hbA HB.out) hb); have n1_ := Aside0.mk (hbox); have n2_ := Aside0.mk ((by rw [hg]; exact (below_size (hbA HB.out)) : w.heap.size ≤ gb125)); have n3_ := Aside0.mk ((by rw [hg]; exact (below_size (hbA HB.out)) : w.heap.size ≤ gb125)); clear HB; have HB := n0_; have BK125 := n1_; have GW125 := n2_; have GE125 := n3_; clear n0_ n1_ n2_ n3_; clear hb hbox hg))
 repeat (go_quiet (first | ((with_reducible refine gate_dst (N := 1) rfl ?_); refine box_event ?hg (N := 1) ?hd (cs := #[.int .i64 a0_0, .slice A0_1 l0_1.length c0_1, .int .u64 a0_2]) (t := 57) ?hr ?_; (case hd => rfl); (case hg => rfl); (case hr => first | (go_simp; done) | (go_simp; rfl)); intro gb125 hg w2 hbox hb; have n0_ := Aside0.mk (below_step (hbA HB.out) hb); have n1_ := Aside0.mk (hbox); have n2_ := Aside0.mk ((by rw [hg]; exact (below_size (hbA HB.out)) : w.heap.size ≤ gb125)); have n3_ := Aside0.mk ((by rw [hg]; exact (below_size (hbA HB.out)) : w.heap.size ≤ gb125)); clear HB; have HB := n0_; have BK125 := n1_; have GW125 := n2_; have GE125 := n3_; clear n0_ n1_ n2_ n3_; clear hb hbox hg)); try go_wp2_with (first | ((with_reducible refine gate_dst (N := 1) rfl ?_); refine box_event ?hg (N := 1) ?hd (cs := #[.int .i64 a0_0, .slice A0_1 l0_1.length c0_1, .int .u64 a0_2]) (t := 57) ?hr ?_; (case hd => rfl); (case hg => rfl); (case hr => first | (go_simp; done) | (go_simp; rfl)); intro gb125 hg w2 hbox hb; have n0_ := Aside0.mk (below_step (hbA HB.out) hb); have n1_ := Aside0.mk (hbox); have n2_ := Aside0.mk ((by rw [hg]; exact (below_size (hbA HB.out)) : w.heap.size ≤ gb125)); have n3_ := Aside0.mk ((by rw [hg]; exact (below_size (hbA HB.out)) : w.heap.size ≤ gb125)); clear HB; have HB := n0_; have BK125 := n1_; have GW125 := n2_; have GE125 := n3_; clear n0_ n1_ n2_ n3_; clear hb hbox hg)))
 go_loopg [3, 4] k (fun kq v3 v4 w' => ∃ (x3_1 : Int) (x4_1 : Int), v3 = .int .i64 x3_1 ∧ v4 = .int .i64 x4_1 ∧ Aside0 (tallboylaw18_Great.l0 kq x3_1 x4_1 a0_0 l0_1 a0_2 = some r) ∧ Aside0 (kq ≤ k) ∧ Aside0 (w'.heap[gb125]? = some (.cells #[.int .i64 a0_0, (.slice A0_1 l0_1.length c0_1), .int .u64 a0_2] 57 (0, 0))) ∧ Aside0 (Below w.heap.size w w'))
 case atStart => exact ⟨(0), (0), rsA, rsA, H', ⟨Nat.le_refl _⟩, ⟨rbA BK125.out⟩, ⟨hbA HB.out⟩⟩
 case round =>
  clear H'
  (try clear c1); (try clear p2)
  obtain ⟨x3_1, x4_1, rfl, rfl, HA, HK1, BK125, HB⟩ := hrel
  cases gk with
  | zero => exact absurd HA.out (by simp [tallboylaw18_Great.l0])
  | succ k1 =>
   have H := HA.out
   clear HA
   simp only [tallboylaw18_Great.l0] at H
   by_cases c3 : x4_1 < (l0_1.length : Int)
   · rw [if_pos c3] at H
     have c3b0 : decide (x4_1 < (l0_1.length : Int)) = true := decide_eq_true c3
     clear c3
     by_cases c4 : x3_1 < 20000
     · rw [if_pos c4] at H
       have c4b0 : decide (x3_1 < 20000) = true := decide_eq_true c4
       clear c4
       by_cases c5 : 0 ≤ x4_1
       · rw [if_pos c5] at H
         have c5b0 : decide (0 ≤ x4_1) = true := decide_eq_true c5
         clear c5
         have H' := Aside0.mk H
         clear H
         obtain ⟨hcz6_0, hcz6_1, hcz6_2, hfz6_0, hfz6_1, hfz6_2⟩ := blkA3 BK125.out
         have p126 : 0 ≤ (x4_1 : Int) := of_decide_eq_true asA
         have q126 : x4_1 < (l0_1.length : Int) := of_decide_eq_true asA
         obtain ⟨ad126, e126, hx126_0, hx126_1, hx126_2, hx126_3⟩ := at_T72 HR0_1.out x4_1 p126 q126
         cases e126
         replace hx126_0 := (HB.out.cell (World.block_lt_of_cell? w _ hx126_0)).trans hx126_0
         replace hx126_1 := (HB.out.cell (World.block_lt_of_cell? w _ hx126_1)).trans hx126_1
         replace hx126_2 := (HB.out.cell (World.block_lt_of_cell? w _ hx126_2)).trans hx126_2
         replace hx126_3 := (HB.out.cell (World.block_lt_of_cell? w _ hx126_3)).trans hx126_3
         replace p126 := eq_true p126
         replace q126 := eq_true q126
         have p127 : 0 ≤ (x4_1 : Int) := of_decide_eq_true asA
         have q127 : x4_1 < (l0_1.length : Int) := of_decide_eq_true asA
         obtain ⟨ad127, e127, hx127_0, hx127_1, hx127_2, hx127_3⟩ := at_T72 HR0_1.out x4_1 p127 q127
         obtain rfl : ad126 = ad127 := (by injection e127)
         replace hx127_0 := (HB.out.cell (World.block_lt_of_cell? w _ hx127_0)).trans hx127_0
         replace hx127_1 := (HB.out.cell (World.block_lt_of_cell? w _ hx127_1)).trans hx127_1
         replace hx127_2 := (HB.out.cell (World.block_lt_of_cell? w _ hx127_2)).trans hx127_2
         replace hx127_3 := (HB.out.cell (World.block_lt_of_cell? w _ hx127_3)).trans hx127_3
         replace p127 := eq_true p127
         replace q127 := eq_true q127
         go_wp2
         repeat (go_quiet (fail); try go_wp2)
         go_roundg k1
         case measure => have := HK1.out; omega
         case rel => exact ⟨(wrap64 ((wrap64 ((wrap64 (x3_1 + 1)) + (((rd_T72 l0_1 x4_1).f0).size : Int))) + (((rd_T72 l0_1 x4_1).f2).size : Int))), (wrap64 (x4_1 + 1)), rsA, rsA, H', ⟨by have := HK1.out; omega⟩, ⟨rbA BK125.out⟩, ⟨hbA HB.out⟩⟩
       rw [if_neg c5] at H
       exact absurd H (by simp)
     rw [if_neg c4] at H
     have c4b0 : decide (x3_1 < 20000) = false := decide_eq_false c4
     clear c4
     obtain rfl := Option.some.inj H
     obtain ⟨hcz7_0, hcz7_1, hcz7_2, hfz7_0, hfz7_1, hfz7_2⟩ := blkA3 BK125.out
     go_wp2
     repeat (go_quiet (fail); try go_wp2)
     go_ret
     exact ⟨reA, hbA HB.out⟩
   rw [if_neg c3] at H
   have c3b0 : decide (x4_1 < (l0_1.length : Int)) = false := decide_eq_false c3
   clear c3
   obtain rfl := Option.some.inj H
   obtain ⟨hcz8_0, hcz8_1, hcz8_2, hfz8_0, hfz8_1, hfz8_2⟩ := blkA3 BK125.out
   go_wp2
   repeat (go_quiet (fail); try go_wp2)
   go_ret
   exact ⟨reA, hbA HB.out⟩

def tallboylaw25_Great.l0 : Nat → List (S60) → Int → Option (Bool)
 | 0, _, _ => none
 | k + 1, x0, x3 => if x3 < (x0.length : Int) then (if 0 ≤ x3 then ((tallboylaw15_Great.f k ((rd_T60 x0 x3).f1.f0) ((rd_T60 x0 x3).f1.f1) ((rd_T60 x0 x3).f1.f2) ((rd_T60 x0 x3).f1.f3) ((rd_T60 x0 x3).f1.f4) ((rd_T60 x0 x3).f1.f5) ((rd_T60 x0 x3).f1.f6) ((rd_T60 x0 x3).f1.f7)).bind fun t129 => (if t129 = true then (some true) else ((tallboylaw18_Great.f k ((rd_T60 x0 x3).f3.f0) ((rd_T60 x0 x3).f3.f1) ((rd_T60 x0 x3).f3.f2)).bind fun t131 => (if t131 = true then (some true) else (if (((rd_T60 x0 x3).f4).length : Int) > 100 then (some true) else (tallboylaw25_Great.l0 k x0 (wrap64 (x3 + 1)))))))) else (none)) else (some false)
def tallboylaw25_Great.f (k : Nat) (l0 : List (S60)) : Option (Bool) := if (l0.length : Int) > 200 then (some true) else (tallboylaw25_Great.l0 k l0 0)
theorem tallboylaw25_Great.mono_l : ∀ k, (∀ y0 y1, LeO (tallboylaw25_Great.l0 k y0 y1) (tallboylaw25_Great.l0 (k + 1) y0 y1))
 | 0 => fun _ _ r h => by simp [tallboylaw25_Great.l0] at h
 | k + 1 => by
  have ih0 := tallboylaw25_Great.mono_l k
  · intro y0 y1
    unfold tallboylaw25_Great.l0
    repeat' first
    | (with_reducible exact ih0 _ _)
    | (with_reducible exact tallboylaw15_Great.mono _ _ _ _ _ _ _ _ _)
    | (with_reducible exact tallboylaw18_Great.mono _ _ _ _)
    | (with_reducible exact LeO.refl _)
    | (with_reducible exact LeO.none _)
    | (with_reducible refine LeO.ite ?_ ?_)
    | (with_reducible refine LeO.bind ?_ (fun _ => ?_))
    | exact ih0 _ _
    | exact tallboylaw15_Great.mono _ _ _ _ _ _ _ _ _
    | exact tallboylaw18_Great.mono _ _ _ _
    | exact LeO.none _
    | refine LeO.ite ?_ ?_
    | refine LeO.bind ?_ (fun _ => ?_)
theorem tallboylaw25_Great.mono : ∀ a0 k, LeO (tallboylaw25_Great.f k a0) (tallboylaw25_Great.f (k + 1) a0) := by
 intro a0 k
 have ih0 := tallboylaw25_Great.mono_l k
 unfold tallboylaw25_Great.f
 repeat' first
  | (with_reducible exact ih0 _ _)
  | (with_reducible exact tallboylaw15_Great.mono _ _ _ _ _ _ _ _ _)
  | (with_reducible exact tallboylaw18_Great.mono _ _ _ _)
  | (with_reducible exact LeO.refl _)
  | (with_reducible exact LeO.none _)
  | (with_reducible refine LeO.ite ?_ ?_)
  | (with_reducible refine LeO.bind ?_ (fun _ => ?_))
  | exact ih0 _ _
  | exact tallboylaw15_Great.mono _ _ _ _ _ _ _ _ _
  | exact tallboylaw18_Great.mono _ _ _ _
  | exact LeO.none _
  | refine LeO.ite ?_ ?_
  | refine LeO.bind ?_ (fun _ => ?_)
set_option maxHeartbeats 8000000 in
set_option maxRecDepth 100000 in
theorem tallboylaw25_Great.calls (k : Nat) (A0 : Option Addr) (c0 : Nat) (l0 : List (S60)) (r : Bool) (w : World) (hr0 : Kd.C k60 w A0 l0.length l0) (hc0 : l0.length ≤ c0) (h : tallboylaw25_Great.f k l0 = some r) :
 Calls Tryz.prog 5 #[.slice A0 l0.length c0] w fun e w' => e = .returned (.bool r) ∧ Below w.heap.size w w' := by
 have hu35 := Tryz.underlying35
 have hu57 := Tryz.underlying57
 have HR0 := Aside0.mk hr0
 have HC0 := Aside0.mk hc0
 clear hr0 hc0
 have HB := Aside0.mk (Below.refl w.heap.size w)
 have H : (if (l0.length : Int) > 200 then (some true) else (tallboylaw25_Great.l0 k l0 0)) = some r := h
 clear h
 by_cases c2 : (l0.length : Int) > 200
 · rw [if_pos c2] at H
   have c2b0 : decide (200 < (l0.length : Int)) = true := decide_eq_true c2
   have c2b1 : decide (200 < l0.length) = true := decide_eq_true (by omega)
   clear c2
   obtain rfl := Option.some.inj H
   go_enter Tryz.func5, Tryz.ntmps5
   go_wp2
   go_ret
   exact ⟨reA, hbA HB.out⟩
 rw [if_neg c2] at H
 have c2b0 : decide (200 < (l0.length : Int)) = false := decide_eq_false c2
 have c2b1 : decide (200 < l0.length) = false := decide_eq_false (by omega)
 clear c2
 have H' := Aside0.mk H
 clear H
 go_enter Tryz.func5, Tryz.ntmps5
 go_wp2
 go_loopg [3] k (fun kq v3 w' => ∃ (x3_1 : Int), v3 = .int .i64 x3_1 ∧ Aside0 (tallboylaw25_Great.l0 kq l0 x3_1 = some r) ∧ Aside0 (kq ≤ k) ∧ Aside0 (Below w.heap.size w w'))
 case atStart => exact ⟨(0), rsA, H', ⟨Nat.le_refl _⟩, ⟨hbA HB.out⟩⟩
 case round =>
  clear H'
  (try clear c2); (try clear c2b0); (try clear c2b1); (try clear p2)
  obtain ⟨x3_1, rfl, HA, HK1, HB⟩ := hrel
  cases gk with
  | zero => exact absurd HA.out (by simp [tallboylaw25_Great.l0])
  | succ k1 =>
   have H := HA.out
   clear HA
   simp only [tallboylaw25_Great.l0] at H
   by_cases c3 : x3_1 < (l0.length : Int)
   · rw [if_pos c3] at H
     have c3b0 : decide (x3_1 < (l0.length : Int)) = true := decide_eq_true c3
     clear c3
     by_cases c4 : 0 ≤ x3_1
     · rw [if_pos c4] at H
       have c4b0 : decide (0 ≤ x3_1) = true := decide_eq_true c4
       clear c4
       replace H := Option.bind_eq_some_iff.mp H
       obtain ⟨t129, A50, H⟩ := H
       replace H : (if t129 = true then (some true) else ((tallboylaw18_Great.f k1 ((rd_T60 l0 x3_1).f3.f0) ((rd_T60 l0 x3_1).f3.f1) ((rd_T60 l0 x3_1).f3.f2)).bind fun t131 => (if t131 = true then (some true) else (if (((rd_T60 l0 x3_1).f4).length : Int) > 100 then (some true) else (tallboylaw25_Great.l0 k1 l0 (wrap64 (x3_1 + 1))))))) = some r := H
       have A5 := Aside0.mk A50
       clear A50
       by_cases c6 : t129 = true
       · subst c6
         have H1 : (some true) = some r := by rw [if_pos rfl] at H; exact H
         clear H
         have H := H1
         clear H1
         obtain rfl := Option.some.inj H
         have p128 : 0 ≤ (x3_1 : Int) := of_decide_eq_true asA
         have q128 : x3_1 < (l0.length : Int) := of_decide_eq_true asA
         obtain ⟨ad128, A128_2, c128_2, A128_11, c128_11, A128_13, c128_13, e128, hx128_0, hx128_1, hx128_2, hx128_3, hx128_4, hx128_5, hx128_6, hx128_7, hx128_8, hx128_9, hx128_10, hx128_11, hx128_12, hx128_13, hl128_2, hi128_2, hl128_11, hi128_11, hl128_13, hi128_13⟩ := at_T60 HR0.out x3_1 p128 q128
         cases e128
         replace hx128_0 := (HB.out.cell (World.block_lt_of_cell? w _ hx128_0)).trans hx128_0
         replace hx128_1 := (HB.out.cell (World.block_lt_of_cell? w _ hx128_1)).trans hx128_1
         replace hx128_2 := (HB.out.cell (World.block_lt_of_cell? w _ hx128_2)).trans hx128_2
         replace hx128_3 := (HB.out.cell (World.block_lt_of_cell? w _ hx128_3)).trans hx128_3
         replace hx128_4 := (HB.out.cell (World.block_lt_of_cell? w _ hx128_4)).trans hx128_4
         replace hx128_5 := (HB.out.cell (World.block_lt_of_cell? w _ hx128_5)).trans hx128_5
         replace hx128_6 := (HB.out.cell (World.block_lt_of_cell? w _ hx128_6)).trans hx128_6
         replace hx128_7 := (HB.out.cell (World.block_lt_of_cell? w _ hx128_7)).trans hx128_7
         replace hx128_8 := (HB.out.cell (World.block_lt_of_cell? w _ hx128_8)).trans hx128_8
         replace hx128_9 := (HB.out.cell (World.block_lt_of_cell? w _ hx128_9)).trans hx128_9
         replace hx128_10 := (HB.out.cell (World.block_lt_of_cell? w _ hx128_10)).trans hx128_10
         replace hx128_11 := (HB.out.cell (World.block_lt_of_cell? w _ hx128_11)).trans hx128_11
         replace hx128_12 := (HB.out.cell (World.block_lt_of_cell? w _ hx128_12)).trans hx128_12
         replace hx128_13 := (HB.out.cell (World.block_lt_of_cell? w _ hx128_13)).trans hx128_13
         have HR128_2 := Aside0.mk hi128_2
         have HC128_2 := Aside0.mk hl128_2
         clear hi128_2 hl128_2
         have HR128_11 := Aside0.mk hi128_11
         have HC128_11 := Aside0.mk hl128_11
         clear hi128_11 hl128_11
         have HR128_13 := Aside0.mk hi128_13
         have HC128_13 := Aside0.mk hl128_13
         clear hi128_13 hl128_13
         replace p128 := eq_true p128
         replace q128 := eq_true q128
         go_wp2_with (first | ((with_reducible refine gate_callee (f := 11) rfl ?_); refine goesL_ (some 18) rfl rfl Tryz.func11 (by kernel_rfl) rfl #[.agg #[.int .i64 ((rd_T60 l0 x3_1).f1.f0), .slice A128_2 ((rd_T60 l0 x3_1).f1.f1).length c128_2, .int .u32 ((rd_T60 l0 x3_1).f1.f2), .int .i64 ((rd_T60 l0 x3_1).f1.f3), .string ((rd_T60 l0 x3_1).f1.f4), .int .u64 ((rd_T60 l0 x3_1).f1.f5), .int .u64 ((rd_T60 l0 x3_1).f1.f6), .bool ((rd_T60 l0 x3_1).f1.f7)]] rfl argA ?_; (with_reducible refine (tallboylaw15_Great.calls k1 ((rd_T60 l0 x3_1).f1.f0) _ _ ((rd_T60 l0 x3_1).f1.f1) ((rd_T60 l0 x3_1).f1.f2) ((rd_T60 l0 x3_1).f1.f3) ((rd_T60 l0 x3_1).f1.f4) ((rd_T60 l0 x3_1).f1.f5) ((rd_T60 l0 x3_1).f1.f6) ((rd_T60 l0 x3_1).f1.f7) true _ ?side1 ?side2 A5.out).mono ?_); (case side1 => repeat (first | exact (Kd.C_below HR128_2.out HB.out) | (with_reducible refine Kd.C_alloc ?_ _) | (with_reducible refine Kd.C_drewN ?_ _) | (with_reducible refine Kd.C_drew ?_))); (case side2 => exact HC128_2.out); rintro e w7 ⟨rfl, hb⟩; refine ⟨_, rfl, ?_⟩; replace HB := Aside0.mk (below_step (hbA HB.out) hb); (try clear hb); (try clear hb2); (try clear hk); (try clear hi)))
         go_ret
         exact ⟨reA, hbA HB.out⟩
       replace c6 := Bool.eq_false_iff.mpr c6
       subst c6
       have H1 : ((tallboylaw18_Great.f k1 ((rd_T60 l0 x3_1).f3.f0) ((rd_T60 l0 x3_1).f3.f1) ((rd_T60 l0 x3_1).f3.f2)).bind fun t131 => (if t131 = true then (some true) else (if (((rd_T60 l0 x3_1).f4).length : Int) > 100 then (some true) else (tallboylaw25_Great.l0 k1 l0 (wrap64 (x3_1 + 1)))))) = some r := by rw [if_neg (show ¬ (false = true) by decide)] at H; exact H
       clear H
       have H := H1
       clear H1
       replace H := Option.bind_eq_some_iff.mp H
       obtain ⟨t131, A80, H⟩ := H
       replace H : (if t131 = true then (some true) else (if (((rd_T60 l0 x3_1).f4).length : Int) > 100 then (some true) else (tallboylaw25_Great.l0 k1 l0 (wrap64 (x3_1 + 1))))) = some r := H
       have A8 := Aside0.mk A80
       clear A80
       by_cases c9 : t131 = true
       · subst c9
         have H1 : (some true) = some r := by rw [if_pos rfl] at H; exact H
         clear H
         have H := H1
         clear H1
         obtain rfl := Option.some.inj H
         have p128 : 0 ≤ (x3_1 : Int) := of_decide_eq_true asA
         have q128 : x3_1 < (l0.length : Int) := of_decide_eq_true asA
         obtain ⟨ad128, A128_2, c128_2, A128_11, c128_11, A128_13, c128_13, e128, hx128_0, hx128_1, hx128_2, hx128_3, hx128_4, hx128_5, hx128_6, hx128_7, hx128_8, hx128_9, hx128_10, hx128_11, hx128_12, hx128_13, hl128_2, hi128_2, hl128_11, hi128_11, hl128_13, hi128_13⟩ := at_T60 HR0.out x3_1 p128 q128
         cases e128
         replace hx128_0 := (HB.out.cell (World.block_lt_of_cell? w _ hx128_0)).trans hx128_0
         replace hx128_1 := (HB.out.cell (World.block_lt_of_cell? w _ hx128_1)).trans hx128_1
         replace hx128_2 := (HB.out.cell (World.block_lt_of_cell? w _ hx128_2)).trans hx128_2
         replace hx128_3 := (HB.out.cell (World.block_lt_of_cell? w _ hx128_3)).trans hx128_3
         replace hx128_4 := (HB.out.cell (World.block_lt_of_cell? w _ hx128_4)).trans hx128_4
         replace hx128_5 := (HB.out.cell (World.block_lt_of_cell? w _ hx128_5)).trans hx128_5
         replace hx128_6 := (HB.out.cell (World.block_lt_of_cell? w _ hx128_6)).trans hx128_6
         replace hx128_7 := (HB.out.cell (World.block_lt_of_cell? w _ hx128_7)).trans hx128_7
         replace hx128_8 := (HB.out.cell (World.block_lt_of_cell? w _ hx128_8)).trans hx128_8
         replace hx128_9 := (HB.out.cell (World.block_lt_of_cell? w _ hx128_9)).trans hx128_9
         replace hx128_10 := (HB.out.cell (World.block_lt_of_cell? w _ hx128_10)).trans hx128_10
         replace hx128_11 := (HB.out.cell (World.block_lt_of_cell? w _ hx128_11)).trans hx128_11
         replace hx128_12 := (HB.out.cell (World.block_lt_of_cell? w _ hx128_12)).trans hx128_12
         replace hx128_13 := (HB.out.cell (World.block_lt_of_cell? w _ hx128_13)).trans hx128_13
         have HR128_2 := Aside0.mk hi128_2
         have HC128_2 := Aside0.mk hl128_2
         clear hi128_2 hl128_2
         have HR128_11 := Aside0.mk hi128_11
         have HC128_11 := Aside0.mk hl128_11
         clear hi128_11 hl128_11
         have HR128_13 := Aside0.mk hi128_13
         have HC128_13 := Aside0.mk hl128_13
         clear hi128_13 hl128_13
         replace p128 := eq_true p128
         replace q128 := eq_true q128
         go_wp2_with (first | ((with_reducible refine gate_callee (f := 11) rfl ?_); refine goesL_ (some 18) rfl rfl Tryz.func11 (by kernel_rfl) rfl #[.agg #[.int .i64 ((rd_T60 l0 x3_1).f1.f0), .slice A128_2 ((rd_T60 l0 x3_1).f1.f1).length c128_2, .int .u32 ((rd_T60 l0 x3_1).f1.f2), .int .i64 ((rd_T60 l0 x3_1).f1.f3), .string ((rd_T60 l0 x3_1).f1.f4), .int .u64 ((rd_T60 l0 x3_1).f1.f5), .int .u64 ((rd_T60 l0 x3_1).f1.f6), .bool ((rd_T60 l0 x3_1).f1.f7)]] rfl argA ?_; (with_reducible refine (tallboylaw15_Great.calls k1 ((rd_T60 l0 x3_1).f1.f0) _ _ ((rd_T60 l0 x3_1).f1.f1) ((rd_T60 l0 x3_1).f1.f2) ((rd_T60 l0 x3_1).f1.f3) ((rd_T60 l0 x3_1).f1.f4) ((rd_T60 l0 x3_1).f1.f5) ((rd_T60 l0 x3_1).f1.f6) ((rd_T60 l0 x3_1).f1.f7) false _ ?side1 ?side2 A5.out).mono ?_); (case side1 => repeat (first | exact (Kd.C_below HR128_2.out HB.out) | (with_reducible refine Kd.C_alloc ?_ _) | (with_reducible refine Kd.C_drewN ?_ _) | (with_reducible refine Kd.C_drew ?_))); (case side2 => exact HC128_2.out); rintro e w10 ⟨rfl, hb⟩; refine ⟨_, rfl, ?_⟩; replace HB := Aside0.mk (below_step (hbA HB.out) hb); (try clear hb); (try clear hb2); (try clear hk); (try clear hi); have p130 : 0 ≤ (x3_1 : Int) := of_decide_eq_true asA; have q130 : x3_1 < (l0.length : Int) := of_decide_eq_true asA; obtain ⟨ad130, A130_2, c130_2, A130_11, c130_11, A130_13, c130_13, e130, hx130_0, hx130_1, hx130_2, hx130_3, hx130_4, hx130_5, hx130_6, hx130_7, hx130_8, hx130_9, hx130_10, hx130_11, hx130_12, hx130_13, hl130_2, hi130_2, hl130_11, hi130_11, hl130_13, hi130_13⟩ := at_T60 HR0.out x3_1 p130 q130; obtain rfl : ad128 = ad130 := (by injection e130); replace hx130_0 := (HB.out.cell (World.block_lt_of_cell? w _ hx130_0)).trans hx130_0; replace hx130_1 := (HB.out.cell (World.block_lt_of_cell? w _ hx130_1)).trans hx130_1; replace hx130_2 := (HB.out.cell (World.block_lt_of_cell? w _ hx130_2)).trans hx130_2; replace hx130_3 := (HB.out.cell (World.block_lt_of_cell? w _ hx130_3)).trans hx130_3; replace hx130_4 := (HB.out.cell (World.block_lt_of_cell? w _ hx130_4)).trans hx130_4; replace hx130_5 := (HB.out.cell (World.block_lt_of_cell? w _ hx130_5)).trans hx130_5; replace hx130_6 := (HB.out.cell (World.block_lt_of_cell? w _ hx130_6)).trans hx130_6; replace hx130_7 := (HB.out.cell (World.block_lt_of_cell? w _ hx130_7)).trans hx130_7; replace hx130_8 := (HB.out.cell (World.block_lt_of_cell? w _ hx130_8)).trans hx130_8; replace hx130_9 := (HB.out.cell (World.block_lt_of_cell? w _ hx130_9)).trans hx130_9; replace hx130_10 := (HB.out.cell (World.block_lt_of_cell? w _ hx130_10)).trans hx130_10; replace hx130_11 := (HB.out.cell (World.block_lt_of_cell? w _ hx130_11)).trans hx130_11; replace hx130_12 := (HB.out.cell (World.block_lt_of_cell? w _ hx130_12)).trans hx130_12; replace hx130_13 := (HB.out.cell (World.block_lt_of_cell? w _ hx130_13)).trans hx130_13; have HR130_2 := Aside0.mk hi130_2; have HC130_2 := Aside0.mk hl130_2; clear hi130_2 hl130_2; have HR130_11 := Aside0.mk hi130_11; have HC130_11 := Aside0.mk hl130_11; clear hi130_11 hl130_11; have HR130_13 := Aside0.mk hi130_13; have HC130_13 := Aside0.mk hl130_13; clear hi130_13 hl130_13; replace p130 := eq_true p130; replace q130 := eq_true q130) | (go_at_call 12; (with_reducible refine (tallboylaw18_Great.calls k1 ((rd_T60 l0 x3_1).f3.f0) _ _ ((rd_T60 l0 x3_1).f3.f1) ((rd_T60 l0 x3_1).f3.f2) true _ ?side1 ?side2 A8.out).mono ?_); (case side1 => repeat (first | exact (Kd.C_below HR130_11.out HB.out) | (with_reducible refine Kd.C_alloc ?_ _) | (with_reducible refine Kd.C_drewN ?_ _) | (with_reducible refine Kd.C_drew ?_))); (case side2 => exact HC130_11.out); rintro e w11 ⟨rfl, hb⟩; replace HB := Aside0.mk (below_step (hbA HB.out) hb); (try clear hb); (try clear hb2); (try clear hk); (try clear hi)))
         go_ret
         exact ⟨reA, hbA HB.out⟩
       replace c9 := Bool.eq_false_iff.mpr c9
       subst c9
       have H1 : (if (((rd_T60 l0 x3_1).f4).length : Int) > 100 then (some true) else (tallboylaw25_Great.l0 k1 l0 (wrap64 (x3_1 + 1)))) = some r := by rw [if_neg (show ¬ (false = true) by decide)] at H; exact H
       clear H
       have H := H1
       clear H1
       by_cases c12 : (((rd_T60 l0 x3_1).f4).length : Int) > 100
       · rw [if_pos c12] at H
         have c12b0 : decide (100 < (((rd_T60 l0 x3_1).f4).length : Int)) = true := decide_eq_true c12
         have c12b1 : decide (100 < ((rd_T60 l0 x3_1).f4).length) = true := decide_eq_true (by omega)
         clear c12
         obtain rfl := Option.some.inj H
         have p128 : 0 ≤ (x3_1 : Int) := of_decide_eq_true asA
         have q128 : x3_1 < (l0.length : Int) := of_decide_eq_true asA
         obtain ⟨ad128, A128_2, c128_2, A128_11, c128_11, A128_13, c128_13, e128, hx128_0, hx128_1, hx128_2, hx128_3, hx128_4, hx128_5, hx128_6, hx128_7, hx128_8, hx128_9, hx128_10, hx128_11, hx128_12, hx128_13, hl128_2, hi128_2, hl128_11, hi128_11, hl128_13, hi128_13⟩ := at_T60 HR0.out x3_1 p128 q128
         cases e128
         replace hx128_0 := (HB.out.cell (World.block_lt_of_cell? w _ hx128_0)).trans hx128_0
         replace hx128_1 := (HB.out.cell (World.block_lt_of_cell? w _ hx128_1)).trans hx128_1
         replace hx128_2 := (HB.out.cell (World.block_lt_of_cell? w _ hx128_2)).trans hx128_2
         replace hx128_3 := (HB.out.cell (World.block_lt_of_cell? w _ hx128_3)).trans hx128_3
         replace hx128_4 := (HB.out.cell (World.block_lt_of_cell? w _ hx128_4)).trans hx128_4
         replace hx128_5 := (HB.out.cell (World.block_lt_of_cell? w _ hx128_5)).trans hx128_5
         replace hx128_6 := (HB.out.cell (World.block_lt_of_cell? w _ hx128_6)).trans hx128_6
         replace hx128_7 := (HB.out.cell (World.block_lt_of_cell? w _ hx128_7)).trans hx128_7
         replace hx128_8 := (HB.out.cell (World.block_lt_of_cell? w _ hx128_8)).trans hx128_8
         replace hx128_9 := (HB.out.cell (World.block_lt_of_cell? w _ hx128_9)).trans hx128_9
         replace hx128_10 := (HB.out.cell (World.block_lt_of_cell? w _ hx128_10)).trans hx128_10
         replace hx128_11 := (HB.out.cell (World.block_lt_of_cell? w _ hx128_11)).trans hx128_11
         replace hx128_12 := (HB.out.cell (World.block_lt_of_cell? w _ hx128_12)).trans hx128_12
         replace hx128_13 := (HB.out.cell (World.block_lt_of_cell? w _ hx128_13)).trans hx128_13
         have HR128_2 := Aside0.mk hi128_2
         have HC128_2 := Aside0.mk hl128_2
         clear hi128_2 hl128_2
         have HR128_11 := Aside0.mk hi128_11
         have HC128_11 := Aside0.mk hl128_11
         clear hi128_11 hl128_11
         have HR128_13 := Aside0.mk hi128_13
         have HC128_13 := Aside0.mk hl128_13
         clear hi128_13 hl128_13
         replace p128 := eq_true p128
         replace q128 := eq_true q128
         go_wp2_with (first | ((with_reducible refine gate_callee (f := 11) rfl ?_); refine goesL_ (some 18) rfl rfl Tryz.func11 (by kernel_rfl) rfl #[.agg #[.int .i64 ((rd_T60 l0 x3_1).f1.f0), .slice A128_2 ((rd_T60 l0 x3_1).f1.f1).length c128_2, .int .u32 ((rd_T60 l0 x3_1).f1.f2), .int .i64 ((rd_T60 l0 x3_1).f1.f3), .string ((rd_T60 l0 x3_1).f1.f4), .int .u64 ((rd_T60 l0 x3_1).f1.f5), .int .u64 ((rd_T60 l0 x3_1).f1.f6), .bool ((rd_T60 l0 x3_1).f1.f7)]] rfl argA ?_; (with_reducible refine (tallboylaw15_Great.calls k1 ((rd_T60 l0 x3_1).f1.f0) _ _ ((rd_T60 l0 x3_1).f1.f1) ((rd_T60 l0 x3_1).f1.f2) ((rd_T60 l0 x3_1).f1.f3) ((rd_T60 l0 x3_1).f1.f4) ((rd_T60 l0 x3_1).f1.f5) ((rd_T60 l0 x3_1).f1.f6) ((rd_T60 l0 x3_1).f1.f7) false _ ?side1 ?side2 A5.out).mono ?_); (case side1 => repeat (first | exact (Kd.C_below HR128_2.out HB.out) | (with_reducible refine Kd.C_alloc ?_ _) | (with_reducible refine Kd.C_drewN ?_ _) | (with_reducible refine Kd.C_drew ?_))); (case side2 => exact HC128_2.out); rintro e w13 ⟨rfl, hb⟩; refine ⟨_, rfl, ?_⟩; replace HB := Aside0.mk (below_step (hbA HB.out) hb); (try clear hb); (try clear hb2); (try clear hk); (try clear hi); have p130 : 0 ≤ (x3_1 : Int) := of_decide_eq_true asA; have q130 : x3_1 < (l0.length : Int) := of_decide_eq_true asA; obtain ⟨ad130, A130_2, c130_2, A130_11, c130_11, A130_13, c130_13, e130, hx130_0, hx130_1, hx130_2, hx130_3, hx130_4, hx130_5, hx130_6, hx130_7, hx130_8, hx130_9, hx130_10, hx130_11, hx130_12, hx130_13, hl130_2, hi130_2, hl130_11, hi130_11, hl130_13, hi130_13⟩ := at_T60 HR0.out x3_1 p130 q130; obtain rfl : ad128 = ad130 := (by injection e130); replace hx130_0 := (HB.out.cell (World.block_lt_of_cell? w _ hx130_0)).trans hx130_0; replace hx130_1 := (HB.out.cell (World.block_lt_of_cell? w _ hx130_1)).trans hx130_1; replace hx130_2 := (HB.out.cell (World.block_lt_of_cell? w _ hx130_2)).trans hx130_2; replace hx130_3 := (HB.out.cell (World.block_lt_of_cell? w _ hx130_3)).trans hx130_3; replace hx130_4 := (HB.out.cell (World.block_lt_of_cell? w _ hx130_4)).trans hx130_4; replace hx130_5 := (HB.out.cell (World.block_lt_of_cell? w _ hx130_5)).trans hx130_5; replace hx130_6 := (HB.out.cell (World.block_lt_of_cell? w _ hx130_6)).trans hx130_6; replace hx130_7 := (HB.out.cell (World.block_lt_of_cell? w _ hx130_7)).trans hx130_7; replace hx130_8 := (HB.out.cell (World.block_lt_of_cell? w _ hx130_8)).trans hx130_8; replace hx130_9 := (HB.out.cell (World.block_lt_of_cell? w _ hx130_9)).trans hx130_9; replace hx130_10 := (HB.out.cell (World.block_lt_of_cell? w _ hx130_10)).trans hx130_10; replace hx130_11 := (HB.out.cell (World.block_lt_of_cell? w _ hx130_11)).trans hx130_11; replace hx130_12 := (HB.out.cell (World.block_lt_of_cell? w _ hx130_12)).trans hx130_12; replace hx130_13 := (HB.out.cell (World.block_lt_of_cell? w _ hx130_13)).trans hx130_13; have HR130_2 := Aside0.mk hi130_2; have HC130_2 := Aside0.mk hl130_2; clear hi130_2 hl130_2; have HR130_11 := Aside0.mk hi130_11; have HC130_11 := Aside0.mk hl130_11; clear hi130_11 hl130_11; have HR130_13 := Aside0.mk hi130_13; have HC130_13 := Aside0.mk hl130_13; clear hi130_13 hl130_13; replace p130 := eq_true p130; replace q130 := eq_true q130) | (go_at_call 12; (with_reducible refine (tallboylaw18_Great.calls k1 ((rd_T60 l0 x3_1).f3.f0) _ _ ((rd_T60 l0 x3_1).f3.f1) ((rd_T60 l0 x3_1).f3.f2) false _ ?side1 ?side2 A8.out).mono ?_); (case side1 => repeat (first | exact (Kd.C_below HR130_11.out HB.out) | (with_reducible refine Kd.C_alloc ?_ _) | (with_reducible refine Kd.C_drewN ?_ _) | (with_reducible refine Kd.C_drew ?_))); (case side2 => exact HC130_11.out); rintro e w14 ⟨rfl, hb⟩; replace HB := Aside0.mk (below_step (hbA HB.out) hb); (try clear hb); (try clear hb2); (try clear hk); (try clear hi); have p132 : 0 ≤ (x3_1 : Int) := of_decide_eq_true asA; have q132 : x3_1 < (l0.length : Int) := of_decide_eq_true asA; obtain ⟨ad132, A132_2, c132_2, A132_11, c132_11, A132_13, c132_13, e132, hx132_0, hx132_1, hx132_2, hx132_3, hx132_4, hx132_5, hx132_6, hx132_7, hx132_8, hx132_9, hx132_10, hx132_11, hx132_12, hx132_13, hl132_2, hi132_2, hl132_11, hi132_11, hl132_13, hi132_13⟩ := at_T60 HR0.out x3_1 p132 q132; obtain rfl : ad128 = ad132 := (by injection e132); replace hx132_0 := (HB.out.cell (World.block_lt_of_cell? w _ hx132_0)).trans hx132_0; replace hx132_1 := (HB.out.cell (World.block_lt_of_cell? w _ hx132_1)).trans hx132_1; replace hx132_2 := (HB.out.cell (World.block_lt_of_cell? w _ hx132_2)).trans hx132_2; replace hx132_3 := (HB.out.cell (World.block_lt_of_cell? w _ hx132_3)).trans hx132_3; replace hx132_4 := (HB.out.cell (World.block_lt_of_cell? w _ hx132_4)).trans hx132_4; replace hx132_5 := (HB.out.cell (World.block_lt_of_cell? w _ hx132_5)).trans hx132_5; replace hx132_6 := (HB.out.cell (World.block_lt_of_cell? w _ hx132_6)).trans hx132_6; replace hx132_7 := (HB.out.cell (World.block_lt_of_cell? w _ hx132_7)).trans hx132_7; replace hx132_8 := (HB.out.cell (World.block_lt_of_cell? w _ hx132_8)).trans hx132_8; replace hx132_9 := (HB.out.cell (World.block_lt_of_cell? w _ hx132_9)).trans hx132_9; replace hx132_10 := (HB.out.cell (World.block_lt_of_cell? w _ hx132_10)).trans hx132_10; replace hx132_11 := (HB.out.cell (World.block_lt_of_cell? w _ hx132_11)).trans hx132_11; replace hx132_12 := (HB.out.cell (World.block_lt_of_cell? w _ hx132_12)).trans hx132_12; replace hx132_13 := (HB.out.cell (World.block_lt_of_cell? w _ hx132_13)).trans hx132_13; have HR132_2 := Aside0.mk hi132_2; have HC132_2 := Aside0.mk hl132_2; clear hi132_2 hl132_2; have HR132_11 := Aside0.mk hi132_11; have HC132_11 := Aside0.mk hl132_11; clear hi132_11 hl132_11; have HR132_13 := Aside0.mk hi132_13; have HC132_13 := Aside0.mk hl132_13; clear hi132_13 hl132_13; replace p132 := eq_true p132; replace q132 := eq_true q132))
         go_ret
         exact ⟨reA, hbA HB.out⟩
       rw [if_neg c12] at H
       have c12b0 : decide (100 < (((rd_T60 l0 x3_1).f4).length : Int)) = false := decide_eq_false c12
       have c12b1 : decide (100 < ((rd_T60 l0 x3_1).f4).length) = false := decide_eq_false (by omega)
       clear c12
       have H' := Aside0.mk H
       clear H
       have p128 : 0 ≤ (x3_1 : Int) := of_decide_eq_true asA
       have q128 : x3_1 < (l0.length : Int) := of_decide_eq_true asA
       obtain ⟨ad128, A128_2, c128_2, A128_11, c128_11, A128_13, c128_13, e128, hx128_0, hx128_1, hx128_2, hx128_3, hx128_4, hx128_5, hx128_6, hx128_7, hx128_8, hx128_9, hx128_10, hx128_11, hx128_12, hx128_13, hl128_2, hi128_2, hl128_11, hi128_11, hl128_13, hi128_13⟩ := at_T60 HR0.out x3_1 p128 q128
       cases e128
       replace hx128_0 := (HB.out.cell (World.block_lt_of_cell? w _ hx128_0)).trans hx128_0
       replace hx128_1 := (HB.out.cell (World.block_lt_of_cell? w _ hx128_1)).trans hx128_1
       replace hx128_2 := (HB.out.cell (World.block_lt_of_cell? w _ hx128_2)).trans hx128_2
       replace hx128_3 := (HB.out.cell (World.block_lt_of_cell? w _ hx128_3)).trans hx128_3
       replace hx128_4 := (HB.out.cell (World.block_lt_of_cell? w _ hx128_4)).trans hx128_4
       replace hx128_5 := (HB.out.cell (World.block_lt_of_cell? w _ hx128_5)).trans hx128_5
       replace hx128_6 := (HB.out.cell (World.block_lt_of_cell? w _ hx128_6)).trans hx128_6
       replace hx128_7 := (HB.out.cell (World.block_lt_of_cell? w _ hx128_7)).trans hx128_7
       replace hx128_8 := (HB.out.cell (World.block_lt_of_cell? w _ hx128_8)).trans hx128_8
       replace hx128_9 := (HB.out.cell (World.block_lt_of_cell? w _ hx128_9)).trans hx128_9
       replace hx128_10 := (HB.out.cell (World.block_lt_of_cell? w _ hx128_10)).trans hx128_10
       replace hx128_11 := (HB.out.cell (World.block_lt_of_cell? w _ hx128_11)).trans hx128_11
       replace hx128_12 := (HB.out.cell (World.block_lt_of_cell? w _ hx128_12)).trans hx128_12
       replace hx128_13 := (HB.out.cell (World.block_lt_of_cell? w _ hx128_13)).trans hx128_13
       have HR128_2 := Aside0.mk hi128_2
       have HC128_2 := Aside0.mk hl128_2
       clear hi128_2 hl128_2
       have HR128_11 := Aside0.mk hi128_11
       have HC128_11 := Aside0.mk hl128_11
       clear hi128_11 hl128_11
       have HR128_13 := Aside0.mk hi128_13
       have HC128_13 := Aside0.mk hl128_13
       clear hi128_13 hl128_13
       replace p128 := eq_true p128
       replace q128 := eq_true q128
       go_wp2_with (first | ((with_reducible refine gate_callee (f := 11) rfl ?_); refine goesL_ (some 18) rfl rfl Tryz.func11 (by kernel_rfl) rfl #[.agg #[.int .i64 ((rd_T60 l0 x3_1).f1.f0), .slice A128_2 ((rd_T60 l0 x3_1).f1.f1).length c128_2, .int .u32 ((rd_T60 l0 x3_1).f1.f2), .int .i64 ((rd_T60 l0 x3_1).f1.f3), .string ((rd_T60 l0 x3_1).f1.f4), .int .u64 ((rd_T60 l0 x3_1).f1.f5), .int .u64 ((rd_T60 l0 x3_1).f1.f6), .bool ((rd_T60 l0 x3_1).f1.f7)]] rfl argA ?_; (with_reducible refine (tallboylaw15_Great.calls k1 ((rd_T60 l0 x3_1).f1.f0) _ _ ((rd_T60 l0 x3_1).f1.f1) ((rd_T60 l0 x3_1).f1.f2) ((rd_T60 l0 x3_1).f1.f3) ((rd_T60 l0 x3_1).f1.f4) ((rd_T60 l0 x3_1).f1.f5) ((rd_T60 l0 x3_1).f1.f6) ((rd_T60 l0 x3_1).f1.f7) false _ ?side1 ?side2 A5.out).mono ?_); (case side1 => repeat (first | exact (Kd.C_below HR128_2.out HB.out) | (with_reducible refine Kd.C_alloc ?_ _) | (with_reducible refine Kd.C_drewN ?_ _) | (with_reducible refine Kd.C_drew ?_))); (case side2 => exact HC128_2.out); rintro e w15 ⟨rfl, hb⟩; refine ⟨_, rfl, ?_⟩; replace HB := Aside0.mk (below_step (hbA HB.out) hb); (try clear hb); (try clear hb2); (try clear hk); (try clear hi); have p130 : 0 ≤ (x3_1 : Int) := of_decide_eq_true asA; have q130 : x3_1 < (l0.length : Int) := of_decide_eq_true asA; obtain ⟨ad130, A130_2, c130_2, A130_11, c130_11, A130_13, c130_13, e130, hx130_0, hx130_1, hx130_2, hx130_3, hx130_4, hx130_5, hx130_6, hx130_7, hx130_8, hx130_9, hx130_10, hx130_11, hx130_12, hx130_13, hl130_2, hi130_2, hl130_11, hi130_11, hl130_13, hi130_13⟩ := at_T60 HR0.out x3_1 p130 q130; obtain rfl : ad128 = ad130 := (by injection e130); replace hx130_0 := (HB.out.cell (World.block_lt_of_cell? w _ hx130_0)).trans hx130_0; replace hx130_1 := (HB.out.cell (World.block_lt_of_cell? w _ hx130_1)).trans hx130_1; replace hx130_2 := (HB.out.cell (World.block_lt_of_cell? w _ hx130_2)).trans hx130_2; replace hx130_3 := (HB.out.cell (World.block_lt_of_cell? w _ hx130_3)).trans hx130_3; replace hx130_4 := (HB.out.cell (World.block_lt_of_cell? w _ hx130_4)).trans hx130_4; replace hx130_5 := (HB.out.cell (World.block_lt_of_cell? w _ hx130_5)).trans hx130_5; replace hx130_6 := (HB.out.cell (World.block_lt_of_cell? w _ hx130_6)).trans hx130_6; replace hx130_7 := (HB.out.cell (World.block_lt_of_cell? w _ hx130_7)).trans hx130_7; replace hx130_8 := (HB.out.cell (World.block_lt_of_cell? w _ hx130_8)).trans hx130_8; replace hx130_9 := (HB.out.cell (World.block_lt_of_cell? w _ hx130_9)).trans hx130_9; replace hx130_10 := (HB.out.cell (World.block_lt_of_cell? w _ hx130_10)).trans hx130_10; replace hx130_11 := (HB.out.cell (World.block_lt_of_cell? w _ hx130_11)).trans hx130_11; replace hx130_12 := (HB.out.cell (World.block_lt_of_cell? w _ hx130_12)).trans hx130_12; replace hx130_13 := (HB.out.cell (World.block_lt_of_cell? w _ hx130_13)).trans hx130_13; have HR130_2 := Aside0.mk hi130_2; have HC130_2 := Aside0.mk hl130_2; clear hi130_2 hl130_2; have HR130_11 := Aside0.mk hi130_11; have HC130_11 := Aside0.mk hl130_11; clear hi130_11 hl130_11; have HR130_13 := Aside0.mk hi130_13; have HC130_13 := Aside0.mk hl130_13; clear hi130_13 hl130_13; replace p130 := eq_true p130; replace q130 := eq_true q130) | (go_at_call 12; (with_reducible refine (tallboylaw18_Great.calls k1 ((rd_T60 l0 x3_1).f3.f0) _ _ ((rd_T60 l0 x3_1).f3.f1) ((rd_T60 l0 x3_1).f3.f2) false _ ?side1 ?side2 A8.out).mono ?_); (case side1 => repeat (first | exact (Kd.C_below HR130_11.out HB.out) | (with_reducible refine Kd.C_alloc ?_ _) | (with_reducible refine Kd.C_drewN ?_ _) | (with_reducible refine Kd.C_drew ?_))); (case side2 => exact HC130_11.out); rintro e w16 ⟨rfl, hb⟩; replace HB := Aside0.mk (below_step (hbA HB.out) hb); (try clear hb); (try clear hb2); (try clear hk); (try clear hi); have p132 : 0 ≤ (x3_1 : Int) := of_decide_eq_true asA; have q132 : x3_1 < (l0.length : Int) := of_decide_eq_true asA; obtain ⟨ad132, A132_2, c132_2, A132_11, c132_11, A132_13, c132_13, e132, hx132_0, hx132_1, hx132_2, hx132_3, hx132_4, hx132_5, hx132_6, hx132_7, hx132_8, hx132_9, hx132_10, hx132_11, hx132_12, hx132_13, hl132_2, hi132_2, hl132_11, hi132_11, hl132_13, hi132_13⟩ := at_T60 HR0.out x3_1 p132 q132; obtain rfl : ad128 = ad132 := (by injection e132); replace hx132_0 := (HB.out.cell (World.block_lt_of_cell? w _ hx132_0)).trans hx132_0; replace hx132_1 := (HB.out.cell (World.block_lt_of_cell? w _ hx132_1)).trans hx132_1; replace hx132_2 := (HB.out.cell (World.block_lt_of_cell? w _ hx132_2)).trans hx132_2; replace hx132_3 := (HB.out.cell (World.block_lt_of_cell? w _ hx132_3)).trans hx132_3; replace hx132_4 := (HB.out.cell (World.block_lt_of_cell? w _ hx132_4)).trans hx132_4; replace hx132_5 := (HB.out.cell (World.block_lt_of_cell? w _ hx132_5)).trans hx132_5; replace hx132_6 := (HB.out.cell (World.block_lt_of_cell? w _ hx132_6)).trans hx132_6; replace hx132_7 := (HB.out.cell (World.block_lt_of_cell? w _ hx132_7)).trans hx132_7; replace hx132_8 := (HB.out.cell (World.block_lt_of_cell? w _ hx132_8)).trans hx132_8; replace hx132_9 := (HB.out.cell (World.block_lt_of_cell? w _ hx132_9)).trans hx132_9; replace hx132_10 := (HB.out.cell (World.block_lt_of_cell? w _ hx132_10)).trans hx132_10; replace hx132_11 := (HB.out.cell (World.block_lt_of_cell? w _ hx132_11)).trans hx132_11; replace hx132_12 := (HB.out.cell (World.block_lt_of_cell? w _ hx132_12)).trans hx132_12; replace hx132_13 := (HB.out.cell (World.block_lt_of_cell? w _ hx132_13)).trans hx132_13; have HR132_2 := Aside0.mk hi132_2; have HC132_2 := Aside0.mk hl132_2; clear hi132_2 hl132_2; have HR132_11 := Aside0.mk hi132_11; have HC132_11 := Aside0.mk hl132_11; clear hi132_11 hl132_11; have HR132_13 := Aside0.mk hi132_13; have HC132_13 := Aside0.mk hl132_13; clear hi132_13 hl132_13; replace p132 := eq_true p132; replace q132 := eq_true q132))
       go_roundg k1
       case measure => have := HK1.out; omega
       case rel => exact ⟨(wrap64 (x3_1 + 1)), rsA, H', ⟨by have := HK1.out; omega⟩, ⟨hbA HB.out⟩⟩
     rw [if_neg c4] at H
     exact absurd H (by simp)
   rw [if_neg c3] at H
   have c3b0 : decide (x3_1 < (l0.length : Int)) = false := decide_eq_false c3
   clear c3
   obtain rfl := Option.some.inj H
   go_wp2
   go_ret
   exact ⟨reA, hbA HB.out⟩

def tallboylaw18_To.l0 : Nat → Int → Int → List (S72) → Int → Int → List (S44) → Int → Option (Int × (List (S44)) × Int)
 | 0, _, _, _, _, _, _, _ => none
 | k + 1, x4, x134000, x134001, x134002, x136000, x136001, x136002 => if x4 < (x134001.length : Int) then (if 0 ≤ x4 then (if x136001.length < 2932031007402 then (tallboylaw18_To.l0 k (wrap64 (x4 + 1)) x134000 x134001 x134002 x136000 (x136001 ++ [(⟨(rd_T72 x134001 x4).f0, (rd_T72 x134001 x4).f1, (rd_T72 x134001 x4).f2, (rd_T72 x134001 x4).f3⟩ : S44)]) x136002) else (none)) else (none)) else (some (x136000, x136001, x136002))
def tallboylaw18_To.f (k : Nat) (a0_0 : Int) (l0_1 : List (S72)) (a0_2 : Int) : Option (Int × (List (S44)) × Int) := tallboylaw18_To.l0 k 0 a0_0 l0_1 a0_2 a0_0 ([] : List (S44)) a0_2
theorem tallboylaw18_To.mono_l : ∀ k, (∀ y0 y1 y2 y3 y4 y5 y6, LeO (tallboylaw18_To.l0 k y0 y1 y2 y3 y4 y5 y6) (tallboylaw18_To.l0 (k + 1) y0 y1 y2 y3 y4 y5 y6))
 | 0 => fun _ _ _ _ _ _ _ r h => by simp [tallboylaw18_To.l0] at h
 | k + 1 => by
  have ih0 := tallboylaw18_To.mono_l k
  · intro y0 y1 y2 y3 y4 y5 y6
    unfold tallboylaw18_To.l0
    repeat' first
    | (with_reducible exact ih0 _ _ _ _ _ _ _)
    | (with_reducible exact LeO.refl _)
    | (with_reducible exact LeO.none _)
    | (with_reducible refine LeO.ite ?_ ?_)
    | (with_reducible refine LeO.bind ?_ (fun _ => ?_))
    | exact ih0 _ _ _ _ _ _ _
    | exact LeO.none _
    | refine LeO.ite ?_ ?_
    | refine LeO.bind ?_ (fun _ => ?_)
theorem tallboylaw18_To.mono : ∀ a0 a1 a2 k, LeO (tallboylaw18_To.f k a0 a1 a2) (tallboylaw18_To.f (k + 1) a0 a1 a2) := by
 intro a0 a1 a2 k
 have ih0 := tallboylaw18_To.mono_l k
 unfold tallboylaw18_To.f
 repeat' first
  | (with_reducible exact ih0 _ _ _ _ _ _ _)
  | (with_reducible exact LeO.refl _)
  | (with_reducible exact LeO.none _)
  | (with_reducible refine LeO.ite ?_ ?_)
  | (with_reducible refine LeO.bind ?_ (fun _ => ?_))
  | exact ih0 _ _ _ _ _ _ _
  | exact LeO.none _
  | refine LeO.ite ?_ ?_
  | refine LeO.bind ?_ (fun _ => ?_)
set_option maxHeartbeats 8000000 in
set_option maxRecDepth 100000 in
theorem tallboylaw18_To.calls (k : Nat) (a0_0 : Int) (A0_1 : Option Addr) (c0_1 : Nat) (l0_1 : List (S72)) (a0_2 : Int) (r1 : Int) (r2 : List (S44)) (r3 : Int) (w : World) (hr0_1 : Kd.C k72 w A0_1 l0_1.length l0_1) (hc0_1 : l0_1.length ≤ c0_1) (h : tallboylaw18_To.f k a0_0 l0_1 a0_2 = some (r1, r2, r3)) :
 Calls Tryz.prog 17 #[.agg #[.int .i64 a0_0, .slice A0_1 l0_1.length c0_1, .int .u64 a0_2]] w fun e w' => ∃ v1_ : Value, e = .returned (.agg #[.int .i64 r1, v1_, .int .u64 r3]) ∧ Kd.R k44 44 w' w.heap.size (fun _ => True) v1_ r2 ∧ Below w.heap.size w w' := by
 have hu57 := Tryz.underlying57
 have hu38 := Tryz.underlying38
 have hu72 := Tryz.underlying72
 have hu44 := Tryz.underlying44
 have HR0_1 := Aside0.mk hr0_1
 have HC0_1 := Aside0.mk hc0_1
 clear hr0_1 hc0_1
 have HB := Aside0.mk (Below.refl w.heap.size w)
 have H : (tallboylaw18_To.l0 k 0 a0_0 l0_1 a0_2 a0_0 ([] : List (S44)) a0_2) = some (r1, r2, r3) := h
 clear h
 have H' := Aside0.mk H
 clear H
 go_enter Tryz.func17, Tryz.ntmps17
 go_wp2_with (first | ((with_reducible refine gate_dst (N := 1) rfl ?_); refine box_event ?hg (N := 1) ?hd (cs := #[.int .i64 a0_0, .slice A0_1 l0_1.length c0_1, .int .u64 a0_2]) (t := 57) ?hr ?_; (case hd => rfl); (case hg => rfl); (case hr => first | (go_simp; done) | (go_simp; rfl)); intro gb133 hg w2 hbox hb; have n0_ := Aside0.mk (below_step (hbA HB.out) hb); have n1_ := Aside0.mk (hbox); have n2_ := Aside0.mk ((by rw [hg]; exact (below_size (hbA HB.out)) : w.heap.size ≤ gb133)); have n3_ := Aside0.mk ((by rw [hg]; exact (below_size (hbA HB.out)) : w.heap.size ≤ gb133)); clear HB; have HB := n0_; have BK133 := n1_; have GW133 := n2_; have GE133 := n3_; clear n0_ n1_ n2_ n3_; clear hb hbox hg) | ((with_reducible refine gate_dst (N := 2) rfl ?_); refine box_event ?hg (N := 2) ?hd (cs := #[.int .i64 0, .slice none 0 0, .int .u64 0]) (t := 38) ?hr ?_; (case hd => rfl); (case hg => rfl); (case hr => first | (go_simp; done) | (go_simp; rfl)); intro gb134 hg w3 hbox hb; have n0_ := Aside0.mk (blk_below (g := gb133) (o := .cells #[.int .i64 a0_0, .slice A0_1 l0_1.length c0_1, .int .u64 a0_2] 57 (0, 0)) (rbA BK133.out) hb); have n1_ := Aside0.mk (below_step (hbA HB.out) hb); have n2_ := Aside0.mk (hbox); have n3_ := Aside0.mk ((by rw [hg]; exact (below_size (hbA HB.out)) : w.heap.size ≤ gb134)); have n4_ := Aside0.mk ((by rw [hg]; exact (below_size (hbA HB.out)) : w.heap.size ≤ gb134)); have n5_ := Aside0.mk ((by rw [hg]; exact Nat.ne_of_lt (blk_lt (g := gb133) (o := .cells #[.int .i64 a0_0, .slice A0_1 l0_1.length c0_1, .int .u64 a0_2] 57 (0, 0)) (rbA BK133.out)) : gb133 ≠ gb134)); have n6_ := Aside0.mk ((by rw [hg]; exact Nat.ne_of_gt (blk_lt (g := gb133) (o := .cells #[.int .i64 a0_0, .slice A0_1 l0_1.length c0_1, .int .u64 a0_2] 57 (0, 0)) (rbA BK133.out)) : gb134 ≠ gb133)); clear BK133; clear HB; have BK133 := n0_; have HB := n1_; have BK134 := n2_; have GW134 := n3_; have GE134 := n4_; have NB133_134 := n5_; have NB134_133 := n6_; clear n0_ n1_ n2_ n3_ n4_ n5_ n6_; clear hb hbox hg; have hnb4 := NB133_134.out; have hnc4 := NB134_133.out; obtain ⟨hcz5_0, hcz5_1, hcz5_2, hfz5_0, hfz5_1, hfz5_2⟩ := blkA3 BK133.out) | ((with_reducible refine gate_dst (N := 3) rfl ?_); refine box_event ?hg (N := 3) ?hd (cs := #[.int .i64 0, .slice none 0 0, .int .u64 0]) (t := 38) ?hr ?_; (case hd => rfl); (case hg => rfl); (case hr => first | (go_simp; done) | (go_simp; rfl)); intro gb135 hg w6 hbox hb; have n0_ := Aside0.mk (blk_below (g := gb133) (o := .cells #[.int .i64 a0_0, .slice A0_1 l0_1.length c0_1, .int .u64 a0_2] 57 (0, 0)) (rbA BK133.out) hb); have n1_ := Aside0.mk (blk_below (g := gb134) (o := .cells #[.int .i64 0, .slice none 0 0, .int .u64 0] 38 (0, 0)) (rbA BK134.out) hb); have n2_ := Aside0.mk (below_step (hbA HB.out) hb); have n3_ := Aside0.mk (hbox); have n4_ := Aside0.mk ((by rw [hg]; exact (below_size (hbA HB.out)) : w.heap.size ≤ gb135)); have n5_ := Aside0.mk ((by rw [hg]; exact (below_size (hbA HB.out)) : w.heap.size ≤ gb135)); have n6_ := Aside0.mk ((by rw [hg]; exact Nat.ne_of_lt (blk_lt (g := gb133) (o := .cells #[.int .i64 a0_0, .slice A0_1 l0_1.length c0_1, .int .u64 a0_2] 57 (0, 0)) (rbA BK133.out)) : gb133 ≠ gb135)); have n7_ := Aside0.mk ((by rw [hg]; exact Nat.ne_of_gt (blk_lt (g := gb133) (o := .cells #[.int .i64 a0_0, .slice A0_1 l0_1.length c0_1, .int .u64 a0_2] 57 (0, 0)) (rbA BK133.out)) : gb135 ≠ gb133)); have n8_ := Aside0.mk ((by rw [hg]; exact Nat.ne_of_lt (blk_lt (g := gb134) (o := .cells #[.int .i64 0, .slice none 0 0, .int .u64 0] 38 (0, 0)) (rbA BK134.out)) : gb134 ≠ gb135)); have n9_ := Aside0.mk ((by rw [hg]; exact Nat.ne_of_gt (blk_lt (g := gb134) (o := .cells #[.int .i64 0, .slice none 0 0, .int .u64 0] 38 (0, 0)) (rbA BK134.out)) : gb135 ≠ gb134)); clear BK133; clear BK134; clear HB; have BK133 := n0_; have BK134 := n1_; have HB := n2_; have BK135 := n3_; have GW135 := n4_; have GE135 := n5_; have NB133_135 := n6_; have NB135_133 := n7_; have NB134_135 := n8_; have NB135_134 := n9_; clear n0_ n1_ n2_ n3_ n4_ n5_ n6_ n7_ n8_ n9_; clear hb hbox hg; have hnb7 := NB135_133.out; have hnc7 := NB133_135.out; have hnb8 := NB135_134.out; have hnc8 := NB134_135.out; obtain ⟨hcz9_0, hcz9_1, hcz9_2, hfz9_0, hfz9_1, hfz9_2⟩ := blkA3 BK135.out))
 go_loopg [4] k (fun kq v4 w' => ∃ (x4_1 : Int) (x136001_1 : List (S44)) (u136001 : Value), v4 = .int .i64 x4_1 ∧ Aside0 (tallboylaw18_To.l0 kq x4_1 a0_0 l0_1 a0_2 a0_0 x136001_1 a0_2 = some (r1, r2, r3)) ∧ Aside0 (kq ≤ k) ∧ Aside0 (Kd.R k44 44 w' w.heap.size (fun _ => True) u136001 x136001_1) ∧ Aside0 (w'.heap[gb133]? = some (.cells #[.int .i64 a0_0, (.slice A0_1 l0_1.length c0_1), .int .u64 a0_2] 57 (0, 0))) ∧ Aside0 (w'.heap[gb134]? = some (.cells #[.int .i64 0, (.slice none 0 0), .int .u64 0] 38 (0, 0))) ∧ Aside0 (w'.heap[gb135]? = some (.cells #[.int .i64 a0_0, u136001, .int .u64 a0_2] 38 (0, 0))) ∧ Aside0 (Below w.heap.size w w'))
 case atStart => exact ⟨(0), (([] : List (S44))), (.slice none 0 0), rsA, H', ⟨Nat.le_refl _⟩, ⟨knA⟩, ⟨by (with_reducible repeat (first | refine blk_drewN ?_ _ | refine blk_drew ?_ | refine blk_alloc ?_ _)); refine blk_far ?_ NB133_135.out _; (with_reducible repeat (first | refine blk_drewN ?_ _ | refine blk_drew ?_ | refine blk_alloc ?_ _)); refine blk_far ?_ NB133_135.out _; (with_reducible repeat (first | refine blk_drewN ?_ _ | refine blk_drew ?_ | refine blk_alloc ?_ _)); refine blk_far ?_ NB133_135.out _; (with_reducible repeat (first | refine blk_drewN ?_ _ | refine blk_drew ?_ | refine blk_alloc ?_ _)); exact BK133.out⟩, ⟨by (with_reducible repeat (first | refine blk_drewN ?_ _ | refine blk_drew ?_ | refine blk_alloc ?_ _)); refine blk_far ?_ NB134_135.out _; (with_reducible repeat (first | refine blk_drewN ?_ _ | refine blk_drew ?_ | refine blk_alloc ?_ _)); refine blk_far ?_ NB134_135.out _; (with_reducible repeat (first | refine blk_drewN ?_ _ | refine blk_drew ?_ | refine blk_alloc ?_ _)); refine blk_far ?_ NB134_135.out _; (with_reducible repeat (first | refine blk_drewN ?_ _ | refine blk_drew ?_ | refine blk_alloc ?_ _)); exact BK134.out⟩, ⟨by (with_reducible repeat (first | refine blk_drewN ?_ _ | refine blk_drew ?_ | refine blk_alloc ?_ _)); refine blk_put (cs := #[.int .i64 a0_0, .slice none 0 0, .int .u64 0]) ?_ 2 _ rfl; (with_reducible repeat (first | refine blk_drewN ?_ _ | refine blk_drew ?_ | refine blk_alloc ?_ _)); refine blk_put (cs := #[.int .i64 a0_0, .slice none 0 0, .int .u64 0]) ?_ 1 _ rfl; (with_reducible repeat (first | refine blk_drewN ?_ _ | refine blk_drew ?_ | refine blk_alloc ?_ _)); refine blk_put (cs := #[.int .i64 0, .slice none 0 0, .int .u64 0]) ?_ 0 _ rfl; (with_reducible repeat (first | refine blk_drewN ?_ _ | refine blk_drew ?_ | refine blk_alloc ?_ _)); exact BK135.out⟩, ⟨hbA HB.out⟩⟩
 case round =>
  clear H'
  (try clear c1); (try clear p2); (try clear c4); (try clear c7); (try clear c8); (try clear hcz5_0); (try clear hcz5_1); (try clear hcz5_2); (try clear hcz9_0); (try clear hcz9_1); (try clear hcz9_2); (try clear hfz5_0); (try clear hfz5_1); (try clear hfz5_2); (try clear hfz9_0); (try clear hfz9_1); (try clear hfz9_2)
  obtain ⟨x4_1, x136001_1, u136001, rfl, HA, HK1, HO_136001, BK133, BK134, BK135, HB⟩ := hrel
  cases gk with
  | zero => exact absurd HA.out (by simp [tallboylaw18_To.l0])
  | succ k1 =>
   have H := HA.out
   clear HA
   simp only [tallboylaw18_To.l0] at H
   by_cases c10 : x4_1 < (l0_1.length : Int)
   · rw [if_pos c10] at H
     have c10b0 : decide (x4_1 < (l0_1.length : Int)) = true := decide_eq_true c10
     clear c10
     by_cases c11 : 0 ≤ x4_1
     · rw [if_pos c11] at H
       have c11b0 : decide (0 ≤ x4_1) = true := decide_eq_true c11
       clear c11
       by_cases c12 : x136001_1.length < 2932031007402
       · rw [if_pos c12] at H
         have LMc12 := Aside0.mk c12
         clear c12
         obtain ⟨y138, hy138⟩ : ∃ y_ : List (S44), y_ = (x136001_1 ++ [(⟨(rd_T72 l0_1 x4_1).f0, (rd_T72 l0_1 x4_1).f1, (rd_T72 l0_1 x4_1).f2, (rd_T72 l0_1 x4_1).f3⟩ : S44)]) := ⟨_, rfl⟩
         replace H : (tallboylaw18_To.l0 k1 (wrap64 (x4_1 + 1)) a0_0 l0_1 a0_2 a0_0 y138 a0_2) = some (r1, r2, r3) := by first | (rw [hy138]; with_reducible exact H) | (have H2_ := (Option.bind_some _ _).symm.trans H; rw [hy138]; with_reducible exact H2_) | (have H2_ := (Option.bind_some _ _).symm.trans H; with_reducible exact H2_) | with_reducible exact H | (rw [hy138]; exact H) | exact H
         have Ny138 := Aside0.mk hy138
         clear hy138
         have H' := Aside0.mk H
         clear H
         have hnb13 := NB133_134.out
         have hnc13 := NB134_133.out
         have hnb14 := NB133_135.out
         have hnc14 := NB135_133.out
         obtain ⟨hcz15_0, hcz15_1, hcz15_2, hfz15_0, hfz15_1, hfz15_2⟩ := blkA3 BK133.out
         have p136 : 0 ≤ (x4_1 : Int) := of_decide_eq_true asA
         have q136 : x4_1 < (l0_1.length : Int) := of_decide_eq_true asA
         obtain ⟨ad136, e136, hx136_0, hx136_1, hx136_2, hx136_3⟩ := at_T72 HR0_1.out x4_1 p136 q136
         cases e136
         replace hx136_0 := (HB.out.cell (World.block_lt_of_cell? w _ hx136_0)).trans hx136_0
         replace hx136_1 := (HB.out.cell (World.block_lt_of_cell? w _ hx136_1)).trans hx136_1
         replace hx136_2 := (HB.out.cell (World.block_lt_of_cell? w _ hx136_2)).trans hx136_2
         replace hx136_3 := (HB.out.cell (World.block_lt_of_cell? w _ hx136_3)).trans hx136_3
         replace p136 := eq_true p136
         replace q136 := eq_true q136
         go_wp2_with (first | ((with_reducible refine gate_dst (N := 5) rfl ?_); refine box_event ?hg (N := 5) ?hd (cs := #[.string (⟨#[]⟩ : ByteArray), .int .u32 0, .string (⟨#[]⟩ : ByteArray), .int .u64 0]) (t := 72) ?hr ?_; (case hd => rfl); (case hg => rfl); (case hr => first | (go_simp; done) | (go_simp; rfl)); intro gb137 hg w16 hbox hb; have n0_ := Aside0.mk (Kd.R_below (rdA HO_136001.out) hb); have n1_ := Aside0.mk (blk_below (g := gb133) (o := .cells #[.int .i64 a0_0, .slice (some ad136) l0_1.length c0_1, .int .u64 a0_2] 57 (0, 0)) (rbA BK133.out) hb); have n2_ := Aside0.mk (blk_below (g := gb134) (o := .cells #[.int .i64 0, .slice none 0 0, .int .u64 0] 38 (0, 0)) (rbA BK134.out) hb); have n3_ := Aside0.mk (blk_below (g := gb135) (o := .cells #[.int .i64 a0_0, u136001, .int .u64 a0_2] 38 (0, 0)) (rbA BK135.out) hb); have n4_ := Aside0.mk (below_step (hbA HB.out) hb); have n5_ := Aside0.mk (hbox); have n6_ := Aside0.mk ((by rw [hg]; exact (below_size (hbA HB.out)) : w.heap.size ≤ gb137)); have n7_ := Aside0.mk ((by rw [hg]; exact (below_size (hbA HB.out)) : w.heap.size ≤ gb137)); have n8_ := Aside0.mk ((by rw [hg]; exact Nat.ne_of_lt (blk_lt (g := gb133) (o := .cells #[.int .i64 a0_0, .slice (some ad136) l0_1.length c0_1, .int .u64 a0_2] 57 (0, 0)) (rbA BK133.out)) : gb133 ≠ gb137)); have n9_ := Aside0.mk ((by rw [hg]; exact Nat.ne_of_gt (blk_lt (g := gb133) (o := .cells #[.int .i64 a0_0, .slice (some ad136) l0_1.length c0_1, .int .u64 a0_2] 57 (0, 0)) (rbA BK133.out)) : gb137 ≠ gb133)); have n10_ := Aside0.mk ((by rw [hg]; exact Nat.ne_of_lt (blk_lt (g := gb134) (o := .cells #[.int .i64 0, .slice none 0 0, .int .u64 0] 38 (0, 0)) (rbA BK134.out)) : gb134 ≠ gb137)); have n11_ := Aside0.mk ((by rw [hg]; exact Nat.ne_of_gt (blk_lt (g := gb134) (o := .cells #[.int .i64 0, .slice none 0 0, .int .u64 0] 38 (0, 0)) (rbA BK134.out)) : gb137 ≠ gb134)); have n12_ := Aside0.mk ((by rw [hg]; exact Nat.ne_of_lt (blk_lt (g := gb135) (o := .cells #[.int .i64 a0_0, u136001, .int .u64 a0_2] 38 (0, 0)) (rbA BK135.out)) : gb135 ≠ gb137)); have n13_ := Aside0.mk ((by rw [hg]; exact Nat.ne_of_gt (blk_lt (g := gb135) (o := .cells #[.int .i64 a0_0, u136001, .int .u64 a0_2] 38 (0, 0)) (rbA BK135.out)) : gb137 ≠ gb135)); clear HO_136001; clear BK133; clear BK134; clear BK135; clear HB; have HO_136001 := n0_; have BK133 := n1_; have BK134 := n2_; have BK135 := n3_; have HB := n4_; have BK137 := n5_; have GW137 := n6_; have GE137 := n7_; have NB133_137 := n8_; have NB137_133 := n9_; have NB134_137 := n10_; have NB137_134 := n11_; have NB135_137 := n12_; have NB137_135 := n13_; clear n0_ n1_ n2_ n3_ n4_ n5_ n6_ n7_ n8_ n9_ n10_ n11_ n12_ n13_; clear hb hbox hg; have hnb17 := NB137_133.out; have hnc17 := NB133_137.out; have hnb18 := NB137_134.out; have hnc18 := NB134_137.out; have hnb19 := NB137_135.out; have hnc19 := NB135_137.out; obtain ⟨hcz20_0, hcz20_1, hcz20_2, hcz20_3, hfz20_0, hfz20_1, hfz20_2, hfz20_3⟩ := blkA4 BK137.out; have hnb21 := NB135_134.out; have hnc21 := NB134_135.out; obtain ⟨hcz22_0, hcz22_1, hcz22_2, hfz22_0, hfz22_1, hfz22_2⟩ := blkA3 BK135.out) | ((with_reducible refine gate_builtin (b := .append) (xs := #[.tmp 24, .tmp 34]) rfl ?_); at_builtin; refine Kd.R_append k44 (w0 := w) w.heap.size rfl (.tmp 24) (.tmp 34) 36 44 (.agg #[(.string ⟨#[]⟩), (.int .u32 0), (.string ⟨#[]⟩), (.int .u64 0)]) 48 rfl Tryz.underlying36 info44 rfl (by decide) (by omega) u136001 x136001_1 (⟨(rd_T72 l0_1 x4_1).f0, (rd_T72 l0_1 x4_1).f1, (rd_T72 l0_1 x4_1).f2, (rd_T72 l0_1 x4_1).f3⟩ : S44) [.string ((rd_T72 l0_1 x4_1).f0), .int .u32 ((rd_T72 l0_1 x4_1).f1), .string ((rd_T72 l0_1 x4_1).f2), .int .u64 ((rd_T72 l0_1 x4_1).f3)] (fun _ => True) (fun _ => False) rfl (by first | (go_simp; done) | (go_simp; rfl)) ?aP (fun _ hk => hk.elim) ?aF ?aO ?aB ?aS ?aL ?_; (case aP => exact k44_mkM _ _ _ (⟨(rd_T72 l0_1 x4_1).f0, (rd_T72 l0_1 x4_1).f1, (rd_T72 l0_1 x4_1).f2, (rd_T72 l0_1 x4_1).f3⟩ : S44)); (case aB => exact (hbA HB.out)); (case aF => exact (fun _ _ => trivial)); (case aO => exact (by (with_reducible repeat (first | apply Kd.R_alloc | apply Kd.R_drewN | apply Kd.R_drew)); exact Kd.R_mono (Kd.R_far (p := ⟨gb137, 3, none⟩) (Kd.R_far (p := ⟨gb137, 2, none⟩) (Kd.R_far (p := ⟨gb137, 1, none⟩) (Kd.R_far (p := ⟨gb137, 0, none⟩) (Kd.R_types HO_136001.out BK137.out (by decide)) (fun _ hk => hk.2) (.string ((rd_T72 l0_1 x4_1).f0))) (fun _ hk => hk.2) (.int .u32 ((rd_T72 l0_1 x4_1).f1))) (fun _ hk => hk.2) (.string ((rd_T72 l0_1 x4_1).f2))) (fun _ hk => hk.2) (.int .u64 ((rd_T72 l0_1 x4_1).f3))) (fun _ hk => trivial))); (case aS => exact (below_size (hbA HB.out))); (case aL => have := LMc12.out; omega); intro v139 w23 ho hb hg hat; rw [← Ny138.out] at ho; have n0_ := Aside0.mk (blk_grown (g := gb133) (o := .cells #[.int .i64 a0_0, .slice (some ad136) l0_1.length c0_1, .int .u64 a0_2] 57 (0, 0)) (by (with_reducible repeat (first | refine blk_drewN ?_ _ | refine blk_drew ?_ | refine blk_alloc ?_ _)); refine blk_far ?_ NB133_137.out _; (with_reducible repeat (first | refine blk_drewN ?_ _ | refine blk_drew ?_ | refine blk_alloc ?_ _)); refine blk_far ?_ NB133_137.out _; (with_reducible repeat (first | refine blk_drewN ?_ _ | refine blk_drew ?_ | refine blk_alloc ?_ _)); refine blk_far ?_ NB133_137.out _; (with_reducible repeat (first | refine blk_drewN ?_ _ | refine blk_drew ?_ | refine blk_alloc ?_ _)); refine blk_far ?_ NB133_137.out _; exact rbA BK133.out) hg (Kd.R_ne HO_136001.out BK133.out (by decide))); have n1_ := Aside0.mk (blk_grown (g := gb134) (o := .cells #[.int .i64 0, .slice none 0 0, .int .u64 0] 38 (0, 0)) (by (with_reducible repeat (first | refine blk_drewN ?_ _ | refine blk_drew ?_ | refine blk_alloc ?_ _)); refine blk_far ?_ NB134_137.out _; (with_reducible repeat (first | refine blk_drewN ?_ _ | refine blk_drew ?_ | refine blk_alloc ?_ _)); refine blk_far ?_ NB134_137.out _; (with_reducible repeat (first | refine blk_drewN ?_ _ | refine blk_drew ?_ | refine blk_alloc ?_ _)); refine blk_far ?_ NB134_137.out _; (with_reducible repeat (first | refine blk_drewN ?_ _ | refine blk_drew ?_ | refine blk_alloc ?_ _)); refine blk_far ?_ NB134_137.out _; exact rbA BK134.out) hg (Kd.R_ne HO_136001.out BK134.out (by decide))); have n2_ := Aside0.mk (blk_grown (g := gb135) (o := .cells #[.int .i64 a0_0, u136001, .int .u64 a0_2] 38 (0, 0)) (by (with_reducible repeat (first | refine blk_drewN ?_ _ | refine blk_drew ?_ | refine blk_alloc ?_ _)); refine blk_far ?_ NB135_137.out _; (with_reducible repeat (first | refine blk_drewN ?_ _ | refine blk_drew ?_ | refine blk_alloc ?_ _)); refine blk_far ?_ NB135_137.out _; (with_reducible repeat (first | refine blk_drewN ?_ _ | refine blk_drew ?_ | refine blk_alloc ?_ _)); refine blk_far ?_ NB135_137.out _; (with_reducible repeat (first | refine blk_drewN ?_ _ | refine blk_drew ?_ | refine blk_alloc ?_ _)); refine blk_far ?_ NB135_137.out _; exact rbA BK135.out) hg (Kd.R_ne HO_136001.out BK135.out (by decide))); have n3_ := Aside0.mk (blk_grown (g := gb137) (o := .cells #[.string ((rd_T72 l0_1 x4_1).f0), .int .u32 ((rd_T72 l0_1 x4_1).f1), .string ((rd_T72 l0_1 x4_1).f2), .int .u64 ((rd_T72 l0_1 x4_1).f3)] 72 (0, 0)) (by (with_reducible repeat (first | refine blk_drewN ?_ _ | refine blk_drew ?_ | refine blk_alloc ?_ _)); refine blk_put (cs := #[.string ((rd_T72 l0_1 x4_1).f0), .int .u32 ((rd_T72 l0_1 x4_1).f1), .string ((rd_T72 l0_1 x4_1).f2), .int .u64 0]) ?_ 3 _ rfl; (with_reducible repeat (first | refine blk_drewN ?_ _ | refine blk_drew ?_ | refine blk_alloc ?_ _)); refine blk_put (cs := #[.string ((rd_T72 l0_1 x4_1).f0), .int .u32 ((rd_T72 l0_1 x4_1).f1), .string (⟨#[]⟩ : ByteArray), .int .u64 0]) ?_ 2 _ rfl; (with_reducible repeat (first | refine blk_drewN ?_ _ | refine blk_drew ?_ | refine blk_alloc ?_ _)); refine blk_put (cs := #[.string ((rd_T72 l0_1 x4_1).f0), .int .u32 0, .string (⟨#[]⟩ : ByteArray), .int .u64 0]) ?_ 1 _ rfl; (with_reducible repeat (first | refine blk_drewN ?_ _ | refine blk_drew ?_ | refine blk_alloc ?_ _)); refine blk_put (cs := #[.string (⟨#[]⟩ : ByteArray), .int .u32 0, .string (⟨#[]⟩ : ByteArray), .int .u64 0]) ?_ 0 _ rfl; exact rbA BK137.out) hg (Kd.R_ne HO_136001.out BK137.out (by decide))); have n4_ := Aside0.mk (hb); have n5_ := Aside0.mk (ho); clear BK133; clear BK134; clear BK135; clear BK137; clear HB; clear HO_136001; have BK133 := n0_; have BK134 := n1_; have BK135 := n2_; have BK137 := n3_; have HB := n4_; have HO140 := n5_; clear n0_ n1_ n2_ n3_ n4_ n5_; clear ho hb hg hat; obtain ⟨Ao24, co24, eo24⟩ := Kd.R_slice HO140.out; subst eo24; obtain ⟨hcz25_0, hcz25_1, hcz25_2, hfz25_0, hfz25_1, hfz25_2⟩ := blkA3 BK135.out))
         go_roundg k1
         case measure => have := HK1.out; omega
         case rel => exact ⟨(wrap64 (x4_1 + 1)), (y138), (.slice Ao24 y138.length co24), rsA, H', ⟨by have := HK1.out; omega⟩, ⟨by (with_reducible repeat (first | apply Kd.R_alloc | apply Kd.R_drewN | apply Kd.R_drew)); exact Kd.R_mono (Kd.R_far (p := ⟨gb135, 1, none⟩) (Kd.R_types HO140.out BK135.out (by decide)) (fun _ hk => hk.2) (.slice Ao24 y138.length co24)) (fun _ hk => trivial)⟩, ⟨by (with_reducible repeat (first | refine blk_drewN ?_ _ | refine blk_drew ?_ | refine blk_alloc ?_ _)); refine blk_far ?_ NB133_135.out _; (with_reducible repeat (first | refine blk_drewN ?_ _ | refine blk_drew ?_ | refine blk_alloc ?_ _)); exact BK133.out⟩, ⟨by (with_reducible repeat (first | refine blk_drewN ?_ _ | refine blk_drew ?_ | refine blk_alloc ?_ _)); refine blk_far ?_ NB134_135.out _; (with_reducible repeat (first | refine blk_drewN ?_ _ | refine blk_drew ?_ | refine blk_alloc ?_ _)); exact BK134.out⟩, ⟨by (with_reducible repeat (first | refine blk_drewN ?_ _ | refine blk_drew ?_ | refine blk_alloc ?_ _)); refine blk_put (cs := #[.int .i64 a0_0, u136001, .int .u64 a0_2]) ?_ 1 _ rfl; (with_reducible repeat (first | refine blk_drewN ?_ _ | refine blk_drew ?_ | refine blk_alloc ?_ _)); exact BK135.out⟩, ⟨hbA HB.out⟩⟩
       rw [if_neg c12] at H
       exact absurd H (by simp)
     rw [if_neg c11] at H
     exact absurd H (by simp)
   rw [if_neg c10] at H
   have c10b0 : decide (x4_1 < (l0_1.length : Int)) = false := decide_eq_false c10
   clear c10
   simp only [Option.some.injEq, Prod.mk.injEq] at H
   obtain ⟨rfl, rfl, rfl⟩ := H
   have hnb26 := NB133_134.out
   have hnc26 := NB134_133.out
   have hnb27 := NB133_135.out
   have hnc27 := NB135_133.out
   obtain ⟨hcz28_0, hcz28_1, hcz28_2, hfz28_0, hfz28_1, hfz28_2⟩ := blkA3 BK133.out
   have hnb29 := NB135_134.out
   have hnc29 := NB134_135.out
   obtain ⟨hcz30_0, hcz30_1, hcz30_2, hfz30_0, hfz30_1, hfz30_2⟩ := blkA3 BK135.out
   obtain ⟨hcz31_0, hcz31_1, hcz31_2, hfz31_0, hfz31_1, hfz31_2⟩ := blkA3 BK134.out
   obtain ⟨Ao32, co32, eo32⟩ := Kd.R_slice HO_136001.out
   subst eo32
   go_wp2
   refine bodyPost_ret (results_cell_row rfl _ _ gb134 38 #[.int .i64 a0_0, .slice Ao32 x136001_1.length co32, .int .u64 a0_2] (0, 0) _ rfl (by (with_reducible repeat (first | refine blk_drewN ?_ _ | refine blk_drew ?_ | refine blk_alloc ?_ _)); refine blk_put (cs := #[.int .i64 a0_0, .slice Ao32 x136001_1.length co32, .int .u64 0]) ?_ 2 _ rfl; (with_reducible repeat (first | refine blk_drewN ?_ _ | refine blk_drew ?_ | refine blk_alloc ?_ _)); refine blk_put (cs := #[.int .i64 a0_0, .slice none 0 0, .int .u64 0]) ?_ 1 _ rfl; (with_reducible repeat (first | refine blk_drewN ?_ _ | refine blk_drew ?_ | refine blk_alloc ?_ _)); refine blk_put (cs := #[.int .i64 0, .slice none 0 0, .int .u64 0]) ?_ 0 _ rfl; exact rbA BK134.out) Tryz.underlying38 rfl (by kernel_rfl)) rfl ?_
   exact ⟨_, reA, by (with_reducible repeat (first | apply Kd.R_alloc | apply Kd.R_drewN | apply Kd.R_drew)); exact Kd.R_mono (Kd.R_far (p := ⟨gb134, 2, none⟩) (Kd.R_far (p := ⟨gb134, 1, none⟩) (Kd.R_far (p := ⟨gb134, 0, none⟩) (Kd.R_types HO_136001.out BK134.out (by decide)) (fun _ hk => hk.2) (.int .i64 a0_0)) (fun _ hk => hk.2) (.slice Ao32 x136001_1.length co32)) (fun _ hk => hk.2) (.int .u64 a0_2)) (fun _ hk => trivial), hbA HB.out⟩

end
end Go.Proofs.YtdihoopofhediaaGreatDoor.XMd
end
section
namespace Go.Proofs.YtdihoopofhediaaGreatDoor.XMd
open Go.RowKit Go.Proofs.YtdihoopofhediaaGreatDoorW.PrintWords Go.Proofs.YtdihoopofhediaaGreatDoorW.PrintLast Go.Proofs.YtdihoopofhediaaGreatDoorW.PrintMore
attribute [local go_sem] extract_sub max2_int min2_int max_two min_two max_three min_three max_four min_four   -- for this text's walks alone
set_option linter.unusedVariables false
set_option linter.unusedSimpArgs false

noncomputable section
def tallboylaw25_To.hit (h : S72) : S44 := ⟨h.f0, h.f1, h.f2, h.f3⟩
def tallboylaw25_To.drop (d : S68) : S46 := ⟨d.f0, d.f1⟩
def tallboylaw25_To.ev (x : S60) : S41 := ⟨x.f0, x.f1, x.f2, ⟨x.f3.f0, x.f3.f1.map tallboylaw25_To.hit, x.f3.f2⟩, x.f4.map tallboylaw25_To.drop⟩
def tallboylaw25_To.f (l0 : List S60) : Option (List S41) := some (l0.map tallboylaw25_To.ev)

end
end Go.Proofs.YtdihoopofhediaaGreatDoor.XMd
end
section
namespace Go.Proofs.YtdihoopofhediaaGreatDoor.XMd
open Go.RowKit Go.Proofs.YtdihoopofhediaaGreatDoorW.PrintWords Go.Proofs.YtdihoopofhediaaGreatDoorW.PrintLast Go.Proofs.YtdihoopofhediaaGreatDoorW.PrintMore
attribute [local go_sem] extract_sub max2_int min2_int max_two min_two max_three min_three max_four min_four   -- for this text's walks alone
set_option linter.unusedVariables false
set_option linter.unusedSimpArgs false

noncomputable section
def witness_found.f (a0 : Int) (a1 : Int) : Option (Int × Int) := if a1 = 0 then (some ((-1), 0)) else (some (a0, a1))
set_option maxHeartbeats 8000000 in
set_option maxRecDepth 100000 in
theorem witness_found.calls (a0 : Int) (a1 : Int) (r1 : Int) (r2 : Int) (w : World) (h : witness_found.f a0 a1 = some (r1, r2)) :
 Calls Tryz.prog 14 #[.int .i64 a0, .int .i64 a1] w fun e w' => e = .returned (.agg #[.int .i64 r1, .int .i64 r2]) ∧ Below w.heap.size w w' := by
 have hu27 := Tryz.underlying27
 have HB := Aside0.mk (Below.refl w.heap.size w)
 have H : (if a1 = 0 then (some ((-1), 0)) else (some (a0, a1))) = some (r1, r2) := h
 clear h
 by_cases c3 : a1 = 0
 · rw [if_pos c3] at H
   have c3b0 : (a1 == 0) = true := beq_iff_eq.mpr c3
   have c3b1 : (a1 != 0) = false := bne_eq_false_iff_eq.mpr c3
   clear c3
   simp only [Option.some.injEq, Prod.mk.injEq] at H
   obtain ⟨rfl, rfl⟩ := H
   go_enter Tryz.func14, Tryz.ntmps14
   go_wp2_with (first | ((with_reducible refine gate_dst (N := 4) rfl ?_); refine box_event ?hg (N := 4) ?hd (cs := #[.int .i64 0, .int .i64 0]) (t := 27) ?hr ?_; (case hd => rfl); (case hg => rfl); (case hr => first | (go_simp; done) | (go_simp; rfl)); intro gb141 hg w4 hbox hb; have n0_ := Aside0.mk (below_step (hbA HB.out) hb); have n1_ := Aside0.mk (hbox); have n2_ := Aside0.mk ((by rw [hg]; exact (below_size (hbA HB.out)) : w.heap.size ≤ gb141)); have n3_ := Aside0.mk ((by rw [hg]; exact (below_size (hbA HB.out)) : w.heap.size ≤ gb141)); clear HB; have HB := n0_; have BK141 := n1_; have GW141 := n2_; have GE141 := n3_; clear n0_ n1_ n2_ n3_; clear hb hbox hg; obtain ⟨hcz5_0, hcz5_1, hfz5_0, hfz5_1⟩ := blkA2 BK141.out))
   refine bodyPost_ret (results_cell_row rfl _ _ gb141 27 #[.int .i64 (-1), .int .i64 0] (0, 0) _ rfl (by (with_reducible repeat (first | refine blk_drewN ?_ _ | refine blk_drew ?_ | refine blk_alloc ?_ _)); refine blk_put (cs := #[.int .i64 (-1), .int .i64 0]) ?_ 1 _ rfl; (with_reducible repeat (first | refine blk_drewN ?_ _ | refine blk_drew ?_ | refine blk_alloc ?_ _)); refine blk_put (cs := #[.int .i64 0, .int .i64 0]) ?_ 0 _ rfl; exact rbA BK141.out) Tryz.underlying27 rfl (by kernel_rfl)) rfl ?_
   exact ⟨reA, hbA HB.out⟩
 rw [if_neg c3] at H
 have c3b0 : (a1 == 0) = false := beq_eq_false_iff_ne.mpr c3
 have c3b1 : (a1 != 0) = true := bne_iff_ne.mpr c3
 simp only [Option.some.injEq, Prod.mk.injEq] at H
 obtain ⟨rfl, rfl⟩ := H
 go_enter Tryz.func14, Tryz.ntmps14
 go_wp2_with (first | ((with_reducible refine gate_dst (N := 4) rfl ?_); refine box_event ?hg (N := 4) ?hd (cs := #[.int .i64 0, .int .i64 0]) (t := 27) ?hr ?_; (case hd => rfl); (case hg => rfl); (case hr => first | (go_simp; done) | (go_simp; rfl)); intro gb141 hg w6 hbox hb; have n0_ := Aside0.mk (below_step (hbA HB.out) hb); have n1_ := Aside0.mk (hbox); have n2_ := Aside0.mk ((by rw [hg]; exact (below_size (hbA HB.out)) : w.heap.size ≤ gb141)); have n3_ := Aside0.mk ((by rw [hg]; exact (below_size (hbA HB.out)) : w.heap.size ≤ gb141)); clear HB; have HB := n0_; have BK141 := n1_; have GW141 := n2_; have GE141 := n3_; clear n0_ n1_ n2_ n3_; clear hb hbox hg; obtain ⟨hcz7_0, hcz7_1, hfz7_0, hfz7_1⟩ := blkA2 BK141.out))
 refine bodyPost_ret (results_cell_row rfl _ _ gb141 27 #[.int .i64 a0, .int .i64 a1] (0, 0) _ rfl (by (with_reducible repeat (first | refine blk_drewN ?_ _ | refine blk_drew ?_ | refine blk_alloc ?_ _)); refine blk_put (cs := #[.int .i64 a0, .int .i64 0]) ?_ 1 _ rfl; (with_reducible repeat (first | refine blk_drewN ?_ _ | refine blk_drew ?_ | refine blk_alloc ?_ _)); refine blk_put (cs := #[.int .i64 0, .int .i64 0]) ?_ 0 _ rfl; exact rbA BK141.out) Tryz.underlying27 rfl (by kernel_rfl)) rfl ?_
 exact ⟨reA, hbA HB.out⟩

def slices_Equal_string_string.l0 : Nat → List ByteArray → List ByteArray → Int → Int → Option (Bool)
 | 0, _, _, _, _ => none
 | k + 1, x0, x1, x12, x13 => if x13 < x12 then (if 0 ≤ x13 then (if x13 < (x0.length : Int) then (if x13 < (x1.length : Int) then (if (rdOf ByteArray.empty x0 x13).toList = (rdOf ByteArray.empty x1 x13).toList then (slices_Equal_string_string.l0 k x0 x1 x12 (wrap64 (x13 + 1))) else (some false)) else (none)) else (none)) else (none)) else (some true)
def slices_Equal_string_string.f (k : Nat) (l0 : List ByteArray) (l1 : List ByteArray) : Option (Bool) := if (l0.length : Int) = (l1.length : Int) then (slices_Equal_string_string.l0 k l0 l1 (l0.length : Int) 0) else (some false)
theorem slices_Equal_string_string.mono_l : ∀ k, (∀ y0 y1 y2 y3, LeO (slices_Equal_string_string.l0 k y0 y1 y2 y3) (slices_Equal_string_string.l0 (k + 1) y0 y1 y2 y3))
 | 0 => fun _ _ _ _ r h => by simp [slices_Equal_string_string.l0] at h
 | k + 1 => by
  have ih0 := slices_Equal_string_string.mono_l k
  · intro y0 y1 y2 y3
    unfold slices_Equal_string_string.l0
    repeat' first
    | (with_reducible exact ih0 _ _ _ _)
    | (with_reducible exact LeO.refl _)
    | (with_reducible exact LeO.none _)
    | (with_reducible refine LeO.ite ?_ ?_)
    | (with_reducible refine LeO.bind ?_ (fun _ => ?_))
    | exact ih0 _ _ _ _
    | exact LeO.none _
    | refine LeO.ite ?_ ?_
    | refine LeO.bind ?_ (fun _ => ?_)
theorem slices_Equal_string_string.mono : ∀ a0 a1 k, LeO (slices_Equal_string_string.f k a0 a1) (slices_Equal_string_string.f (k + 1) a0 a1) := by
 intro a0 a1 k
 have ih0 := slices_Equal_string_string.mono_l k
 unfold slices_Equal_string_string.f
 repeat' first
  | (with_reducible exact ih0 _ _ _ _)
  | (with_reducible exact LeO.refl _)
  | (with_reducible exact LeO.none _)
  | (with_reducible refine LeO.ite ?_ ?_)
  | (with_reducible refine LeO.bind ?_ (fun _ => ?_))
  | exact ih0 _ _ _ _
  | exact LeO.none _
  | refine LeO.ite ?_ ?_
  | refine LeO.bind ?_ (fun _ => ?_)
set_option maxHeartbeats 8000000 in
set_option maxRecDepth 100000 in
theorem slices_Equal_string_string.calls (k : Nat) (A0 : Option Addr) (c0 : Nat) (l0 : List ByteArray) (A1 : Option Addr) (c1 : Nat) (l1 : List ByteArray) (r : Bool) (w : World) (hr0 : Kd.C Kd.string w A0 l0.length l0) (hc0 : l0.length ≤ c0) (hr1 : Kd.C Kd.string w A1 l1.length l1) (hc1 : l1.length ≤ c1) (h : slices_Equal_string_string.f k l0 l1 = some r) :
 Calls Tryz.prog 28 #[.slice A0 l0.length c0, .slice A1 l1.length c1] w fun e w' => e = .returned (.bool r) ∧ Drawn0 w w' := by
 have HR0 := Aside0.mk hr0
 have HC0 := Aside0.mk hc0
 clear hr0 hc0
 have HR1 := Aside0.mk hr1
 have HC1 := Aside0.mk hc1
 clear hr1 hc1
 have H : (if (l0.length : Int) = (l1.length : Int) then (slices_Equal_string_string.l0 k l0 l1 (l0.length : Int) 0) else (some false)) = some r := h
 clear h
 by_cases c3 : (l0.length : Int) = (l1.length : Int)
 · rw [if_pos c3] at H
   have c3b0 : ((l0.length : Int) == (l1.length : Int)) = true := beq_iff_eq.mpr c3
   have c3b1 : ((l0.length : Int) != (l1.length : Int)) = false := bne_eq_false_iff_eq.mpr c3
   have c3b2 : (l0.length == l1.length) = true := by first | simpa using c3 | (simp at c3 ⊢; omega)
   clear c3
   have H' := Aside0.mk H
   clear H
   go_enter Tryz.func28, Tryz.ntmps28
   go_wp2
   repeat (go_quiet (fail); try go_wp2)
   go_loopg [13] k (fun kq v13 w' => ∃ (x13_1 : Int), v13 = .int .i64 x13_1 ∧ Aside0 (slices_Equal_string_string.l0 kq l0 l1 (l0.length : Int) x13_1 = some r) ∧ Aside0 (kq ≤ k) ∧ Drawn0 w w')
   case atStart => exact ⟨(0), rsA, H', ⟨Nat.le_refl _⟩, drA⟩
   case round =>
    clear H'
    (try clear c1); (try clear c2); (try clear p2); (try clear c3); (try clear c3b0); (try clear c3b1); (try clear c3b2); (try clear c3b3)
    obtain ⟨x13_1, rfl, HA, HK1, ⟨m1, rfl⟩⟩ := hrel
    cases gk with
    | zero => exact absurd HA.out (by simp [slices_Equal_string_string.l0])
    | succ k1 =>
     have H := HA.out
     clear HA
     simp only [slices_Equal_string_string.l0] at H
     by_cases c4 : x13_1 < (l0.length : Int)
     · rw [if_pos c4] at H
       have c4b0 : decide (x13_1 < (l0.length : Int)) = true := decide_eq_true c4
       clear c4
       by_cases c5 : 0 ≤ x13_1
       · rw [if_pos c5] at H
         have c5b0 : decide (0 ≤ x13_1) = true := decide_eq_true c5
         clear c5
         by_cases c6 : x13_1 < (l0.length : Int)
         · rw [if_pos c6] at H
           have c6b0 : decide (x13_1 < (l0.length : Int)) = true := decide_eq_true c6
           clear c6
           by_cases c7 : x13_1 < (l1.length : Int)
           · rw [if_pos c7] at H
             have c7b0 : decide (x13_1 < (l1.length : Int)) = true := decide_eq_true c7
             clear c7
             by_cases c8 : (rdOf ByteArray.empty l0 x13_1).toList = (rdOf ByteArray.empty l1 x13_1).toList
             · rw [if_pos c8] at H
               have c8b0 : ((rdOf ByteArray.empty l0 x13_1).toList == (rdOf ByteArray.empty l1 x13_1).toList) = true := beq_iff_eq.mpr c8
               have c8b1 : ((rdOf ByteArray.empty l0 x13_1).toList != (rdOf ByteArray.empty l1 x13_1).toList) = false := bne_eq_false_iff_eq.mpr c8
               clear c8
               have H' := Aside0.mk H
               clear H
               have p142 : 0 ≤ (x13_1 : Int) := of_decide_eq_true asA
               have q142 : x13_1 < (l0.length : Int) := of_decide_eq_true asA
               obtain ⟨ad142, e142, hx142_0⟩ := Kd.at_string HR0.out x13_1 p142 q142
               cases e142
               replace p142 := eq_true p142
               replace q142 := eq_true q142
               have p143 : 0 ≤ (x13_1 : Int) := of_decide_eq_true asA
               have q143 : x13_1 < (l1.length : Int) := of_decide_eq_true asA
               obtain ⟨ad143, e143, hx143_0⟩ := Kd.at_string HR1.out x13_1 p143 q143
               cases e143
               replace p143 := eq_true p143
               replace q143 := eq_true q143
               go_wp2
               repeat (go_quiet (fail); try go_wp2)
               go_roundg k1
               case measure => have := HK1.out; omega
               case rel => exact ⟨(wrap64 (x13_1 + 1)), rsA, H', ⟨by have := HK1.out; omega⟩, drA⟩
             rw [if_neg c8] at H
             have c8b0 : ((rdOf ByteArray.empty l0 x13_1).toList == (rdOf ByteArray.empty l1 x13_1).toList) = false := beq_eq_false_iff_ne.mpr c8
             have c8b1 : ((rdOf ByteArray.empty l0 x13_1).toList != (rdOf ByteArray.empty l1 x13_1).toList) = true := bne_iff_ne.mpr c8
             obtain rfl := Option.some.inj H
             have p142 : 0 ≤ (x13_1 : Int) := of_decide_eq_true asA
             have q142 : x13_1 < (l0.length : Int) := of_decide_eq_true asA
             obtain ⟨ad142, e142, hx142_0⟩ := Kd.at_string HR0.out x13_1 p142 q142
             cases e142
             replace p142 := eq_true p142
             replace q142 := eq_true q142
             have p143 : 0 ≤ (x13_1 : Int) := of_decide_eq_true asA
             have q143 : x13_1 < (l1.length : Int) := of_decide_eq_true asA
             obtain ⟨ad143, e143, hx143_0⟩ := Kd.at_string HR1.out x13_1 p143 q143
             cases e143
             replace p143 := eq_true p143
             replace q143 := eq_true q143
             go_wp2
             repeat (go_quiet (fail); try go_wp2)
             go_ret
             exact ⟨rsA, drA⟩
           rw [if_neg c7] at H
           exact absurd H (by simp)
         rw [if_neg c6] at H
         exact absurd H (by simp)
       rw [if_neg c5] at H
       exact absurd H (by simp)
     rw [if_neg c4] at H
     have c4b0 : decide (x13_1 < (l0.length : Int)) = false := decide_eq_false c4
     clear c4
     obtain rfl := Option.some.inj H
     go_wp2
     repeat (go_quiet (fail); try go_wp2)
     go_ret
     exact ⟨rsA, drA⟩
 rw [if_neg c3] at H
 have c3b0 : ((l0.length : Int) == (l1.length : Int)) = false := beq_eq_false_iff_ne.mpr c3
 have c3b1 : ((l0.length : Int) != (l1.length : Int)) = true := bne_iff_ne.mpr c3
 have c3b2 : (l0.length == l1.length) = false := by first | simpa using c3 | (simp at c3 ⊢; omega)
 obtain rfl := Option.some.inj H
 go_enter Tryz.func28, Tryz.ntmps28
 go_wp2
 repeat (go_quiet (fail); try go_wp2)
 go_ret
 exact ⟨rsA, drA⟩

def witness_reason.j0 : Nat → Int → Bool → Int → Int → List ByteArray → Int → Int → ByteArray → Int → Int → Bool → Int → Int → List (S44) → Int → List (S46) → ByteArray → Int → Option (Bool)
 | 0, _, _, _, _, _, _, _, _, _, _, _, _, _, _, _, _, _, _ => none
 | k + 1, x6, x7, x145000, x145001, x145002, x145003, x145004, x145005, x145006, x145007, x145008, x145009, x145010, x145011, x145012, x145013, x146000, x146001 => if x7 = true then (some true) else (if x6 = 3 then (if x145001 = 5 then ((slices_Equal_string_string.f k x145002 (([x146000] : List ByteArray))).bind fun t149 => (if t149 = true then (some (x145010 == 11)) else (some false))) else (some false)) else (some false))
def witness_reason.f (k : Nat) (a0_0 : Int) (a0_1 : Int) (l0_2 : List ByteArray) (a0_3 : Int) (a0_4 : Int) (a0_5 : ByteArray) (a0_6 : Int) (a0_7 : Int) (a0_8 : Bool) (a0_9 : Int) (a0_10 : Int) (l0_11 : List (S44)) (a0_12 : Int) (l0_13 : List (S46)) (a1_0 : ByteArray) (a1_1 : Int) : Option (Bool) := if a1_1 = 1 then (witness_reason.j0 k a1_1 (a1_1 == 1) a0_0 a0_1 l0_2 a0_3 a0_4 a0_5 a0_6 a0_7 a0_8 a0_9 a0_10 l0_11 a0_12 l0_13 a1_0 a1_1) else (witness_reason.j0 k a1_1 (a1_1 == 2) a0_0 a0_1 l0_2 a0_3 a0_4 a0_5 a0_6 a0_7 a0_8 a0_9 a0_10 l0_11 a0_12 l0_13 a1_0 a1_1)
theorem witness_reason.mono_l : ∀ k, (∀ y0 y1 y2 y3 y4 y5 y6 y7 y8 y9 y10 y11 y12 y13 y14 y15 y16 y17, LeO (witness_reason.j0 k y0 y1 y2 y3 y4 y5 y6 y7 y8 y9 y10 y11 y12 y13 y14 y15 y16 y17) (witness_reason.j0 (k + 1) y0 y1 y2 y3 y4 y5 y6 y7 y8 y9 y10 y11 y12 y13 y14 y15 y16 y17))
 | 0 => fun _ _ _ _ _ _ _ _ _ _ _ _ _ _ _ _ _ _ r h => by simp [witness_reason.j0] at h
 | k + 1 => by
  have ih0 := witness_reason.mono_l k
  · intro y0 y1 y2 y3 y4 y5 y6 y7 y8 y9 y10 y11 y12 y13 y14 y15 y16 y17
    unfold witness_reason.j0
    repeat' first
    | (with_reducible exact ih0 _ _ _ _ _ _ _ _ _ _ _ _ _ _ _ _ _ _)
    | (with_reducible exact slices_Equal_string_string.mono _ _ _)
    | (with_reducible exact LeO.refl _)
    | (with_reducible exact LeO.none _)
    | (with_reducible refine LeO.ite ?_ ?_)
    | (with_reducible refine LeO.bind ?_ (fun _ => ?_))
    | exact ih0 _ _ _ _ _ _ _ _ _ _ _ _ _ _ _ _ _ _
    | exact slices_Equal_string_string.mono _ _ _
    | exact LeO.none _
    | refine LeO.ite ?_ ?_
    | refine LeO.bind ?_ (fun _ => ?_)
theorem witness_reason.mono : ∀ a0 a1 a2 a3 a4 a5 a6 a7 a8 a9 a10 a11 a12 a13 a14 a15 k, LeO (witness_reason.f k a0 a1 a2 a3 a4 a5 a6 a7 a8 a9 a10 a11 a12 a13 a14 a15) (witness_reason.f (k + 1) a0 a1 a2 a3 a4 a5 a6 a7 a8 a9 a10 a11 a12 a13 a14 a15) := by
 intro a0 a1 a2 a3 a4 a5 a6 a7 a8 a9 a10 a11 a12 a13 a14 a15 k
 have ih0 := witness_reason.mono_l k
 unfold witness_reason.f
 repeat' first
  | (with_reducible exact ih0 _ _ _ _ _ _ _ _ _ _ _ _ _ _ _ _ _ _)
  | (with_reducible exact slices_Equal_string_string.mono _ _ _)
  | (with_reducible exact LeO.refl _)
  | (with_reducible exact LeO.none _)
  | (with_reducible refine LeO.ite ?_ ?_)
  | (with_reducible refine LeO.bind ?_ (fun _ => ?_))
  | exact ih0 _ _ _ _ _ _ _ _ _ _ _ _ _ _ _ _ _ _
  | exact slices_Equal_string_string.mono _ _ _
  | exact LeO.none _
  | refine LeO.ite ?_ ?_
  | refine LeO.bind ?_ (fun _ => ?_)
set_option maxHeartbeats 8000000 in
set_option maxRecDepth 100000 in
theorem witness_reason.calls (k : Nat) (a0_0 : Int) (a0_1 : Int) (A0_2 : Option Addr) (c0_2 : Nat) (l0_2 : List ByteArray) (a0_3 : Int) (a0_4 : Int) (a0_5 : ByteArray) (a0_6 : Int) (a0_7 : Int) (a0_8 : Bool) (a0_9 : Int) (a0_10 : Int) (A0_11 : Option Addr) (c0_11 : Nat) (l0_11 : List (S44)) (a0_12 : Int) (A0_13 : Option Addr) (c0_13 : Nat) (l0_13 : List (S46)) (a1_0 : ByteArray) (a1_1 : Int) (r : Bool) (w : World) (hr0_2 : Kd.C Kd.string w A0_2 l0_2.length l0_2) (hc0_2 : l0_2.length ≤ c0_2) (hr0_11 : Kd.C k44 w A0_11 l0_11.length l0_11) (hc0_11 : l0_11.length ≤ c0_11) (hr0_13 : Kd.C k46 w A0_13 l0_13.length l0_13) (hc0_13 : l0_13.length ≤ c0_13) (h : witness_reason.f k a0_0 a0_1 l0_2 a0_3 a0_4 a0_5 a0_6 a0_7 a0_8 a0_9 a0_10 l0_11 a0_12 l0_13 a1_0 a1_1 = some r) :
 Calls Tryz.prog 20 #[.agg #[.int .i64 a0_0, .int .i64 a0_1, .slice A0_2 l0_2.length c0_2, .int .u32 a0_3, .int .i64 a0_4, .string a0_5, .int .u64 a0_6, .int .u64 a0_7, .bool a0_8, .int .i64 a0_9, .int .i64 a0_10, .slice A0_11 l0_11.length c0_11, .int .u64 a0_12, .slice A0_13 l0_13.length c0_13], .agg #[.string a1_0, .int .i64 a1_1]] w fun e w' => e = .returned (.bool r) ∧ Below w.heap.size w w' := by
 have hu41 := Tryz.underlying41
 have hu46 := Tryz.underlying46
 have HR0_2 := Aside0.mk hr0_2
 have HC0_2 := Aside0.mk hc0_2
 clear hr0_2 hc0_2
 have HR0_11 := Aside0.mk hr0_11
 have HC0_11 := Aside0.mk hc0_11
 clear hr0_11 hc0_11
 have HR0_13 := Aside0.mk hr0_13
 have HC0_13 := Aside0.mk hc0_13
 clear hr0_13 hc0_13
 have HB := Aside0.mk (Below.refl w.heap.size w)
 have H : (if a1_1 = 1 then (witness_reason.j0 k a1_1 (a1_1 == 1) a0_0 a0_1 l0_2 a0_3 a0_4 a0_5 a0_6 a0_7 a0_8 a0_9 a0_10 l0_11 a0_12 l0_13 a1_0 a1_1) else (witness_reason.j0 k a1_1 (a1_1 == 2) a0_0 a0_1 l0_2 a0_3 a0_4 a0_5 a0_6 a0_7 a0_8 a0_9 a0_10 l0_11 a0_12 l0_13 a1_0 a1_1)) = some r := h
 clear h
 have HC3 := Aside0.mk H
 clear H
 go_enter Tryz.func20, Tryz.ntmps20
 go_upto_if 7 with (first | ((with_reducible refine gate_dst (N := 2) rfl ?_); (try (refine gate_guard (by rfl) ?_; dsimp only)); refine box_event ?hg (N := 2) ?hd (cs := #[.int .i64 a0_0, .int .i64 a0_1, .slice A0_2 l0_2.length c0_2, .int .u32 a0_3, .int .i64 a0_4, .string a0_5, .int .u64 a0_6, .int .u64 a0_7, .bool a0_8, .int .i64 a0_9, .int .i64 a0_10, .slice A0_11 l0_11.length c0_11, .int .u64 a0_12, .slice A0_13 l0_13.length c0_13]) (t := 41) ?hr ?_; (case hd => rfl); (case hg => rfl); (case hr => first | (go_simp; done) | (go_simp; rfl)); intro gb144 hg w4 hbox hb; have n0_ := Aside0.mk (below_step (hbA HB.out) hb); have n1_ := Aside0.mk (hbox); have n2_ := Aside0.mk ((by rw [hg]; exact (below_size (hbA HB.out)) : w.heap.size ≤ gb144)); have n3_ := Aside0.mk ((by rw [hg]; exact (below_size (hbA HB.out)) : w.heap.size ≤ gb144)); clear HB; have HB := n0_; have BK144 := n1_; have GW144 := n2_; have GE144 := n3_; clear n0_ n1_ n2_ n3_; clear hb hbox hg) | ((with_reducible refine gate_dst (N := 3) rfl ?_); (try (refine gate_guard (by rfl) ?_; dsimp only)); refine box_event ?hg (N := 3) ?hd (cs := #[.string a1_0, .int .i64 a1_1]) (t := 46) ?hr ?_; (case hd => rfl); (case hg => rfl); (case hr => first | (go_simp; done) | (go_simp; rfl)); intro gb145 hg w5 hbox hb; have n0_ := Aside0.mk (blk_below (g := gb144) (o := .cells #[.int .i64 a0_0, .int .i64 a0_1, .slice A0_2 l0_2.length c0_2, .int .u32 a0_3, .int .i64 a0_4, .string a0_5, .int .u64 a0_6, .int .u64 a0_7, .bool a0_8, .int .i64 a0_9, .int .i64 a0_10, .slice A0_11 l0_11.length c0_11, .int .u64 a0_12, .slice A0_13 l0_13.length c0_13] 41 (0, 0)) (rbA BK144.out) hb); have n1_ := Aside0.mk (below_step (hbA HB.out) hb); have n2_ := Aside0.mk (hbox); have n3_ := Aside0.mk ((by rw [hg]; exact (below_size (hbA HB.out)) : w.heap.size ≤ gb145)); have n4_ := Aside0.mk ((by rw [hg]; exact (below_size (hbA HB.out)) : w.heap.size ≤ gb145)); have n5_ := Aside0.mk ((by rw [hg]; exact Nat.ne_of_lt (blk_lt (g := gb144) (o := .cells #[.int .i64 a0_0, .int .i64 a0_1, .slice A0_2 l0_2.length c0_2, .int .u32 a0_3, .int .i64 a0_4, .string a0_5, .int .u64 a0_6, .int .u64 a0_7, .bool a0_8, .int .i64 a0_9, .int .i64 a0_10, .slice A0_11 l0_11.length c0_11, .int .u64 a0_12, .slice A0_13 l0_13.length c0_13] 41 (0, 0)) (rbA BK144.out)) : gb144 ≠ gb145)); have n6_ := Aside0.mk ((by rw [hg]; exact Nat.ne_of_gt (blk_lt (g := gb144) (o := .cells #[.int .i64 a0_0, .int .i64 a0_1, .slice A0_2 l0_2.length c0_2, .int .u32 a0_3, .int .i64 a0_4, .string a0_5, .int .u64 a0_6, .int .u64 a0_7, .bool a0_8, .int .i64 a0_9, .int .i64 a0_10, .slice A0_11 l0_11.length c0_11, .int .u64 a0_12, .slice A0_13 l0_13.length c0_13] 41 (0, 0)) (rbA BK144.out)) : gb145 ≠ gb144)); clear BK144; clear HB; have BK144 := n0_; have HB := n1_; have BK145 := n2_; have GW145 := n3_; have GE145 := n4_; have NB144_145 := n5_; have NB145_144 := n6_; clear n0_ n1_ n2_ n3_ n4_ n5_ n6_; clear hb hbox hg; have hnb6 := NB145_144.out; have hnc6 := NB144_145.out; obtain ⟨hcz7_0, hcz7_1, hfz7_0, hfz7_1⟩ := blkA2 BK145.out))
 (try simp only [Act.put, List.setIfInBounds_toArray, List.set_cons_zero, List.set_cons_succ])
 go_cut [7] (fun v7 wc => ∃ (kq : Nat) (x7_2 : Bool), v7 = .bool x7_2 ∧ Aside0 (witness_reason.j0 kq a1_1 x7_2 a0_0 a0_1 l0_2 a0_3 a0_4 a0_5 a0_6 a0_7 a0_8 a0_9 a0_10 l0_11 a0_12 l0_13 a1_0 a1_1 = some r) ∧ Aside0 (kq ≤ k) ∧ Aside0 (wc.heap[gb144]? = some (.cells #[.int .i64 a0_0, .int .i64 a0_1, (.slice A0_2 l0_2.length c0_2), .int .u32 a0_3, .int .i64 a0_4, .string a0_5, .int .u64 a0_6, .int .u64 a0_7, .bool a0_8, .int .i64 a0_9, .int .i64 a0_10, (.slice A0_11 l0_11.length c0_11), .int .u64 a0_12, (.slice A0_13 l0_13.length c0_13)] 41 (0, 0))) ∧ Aside0 (wc.heap[gb145]? = some (.cells #[.string a1_0, .int .i64 a1_1] 46 (0, 0))) ∧ Aside0 (Below w.heap.size w wc))
 case first =>
  have H := HC3.out
  clear HC3
  by_cases c8 : a1_1 = 1
  · rw [if_pos c8] at H
    have c8b0 : (a1_1 == 1) = true := beq_iff_eq.mpr c8
    have c8b1 : (a1_1 != 1) = false := bne_eq_false_iff_eq.mpr c8
    clear c8
    (first | rw [c8b0] | (simp only [i64_w, i32_w]; rw [c8b0]) | skip)
    have H' := Aside0.mk H
    clear H
    go_wp2
    go_meet
    case rel => exact ⟨_, ((a1_1 == 1)), rsA, H', ⟨by first | omega | exact Nat.le_refl _⟩, ⟨rbA BK144.out⟩, ⟨rbA BK145.out⟩, ⟨hbA HB.out⟩⟩
  rw [if_neg c8] at H
  have c8b0 : (a1_1 == 1) = false := beq_eq_false_iff_ne.mpr c8
  have c8b1 : (a1_1 != 1) = true := bne_iff_ne.mpr c8
  (first | rw [c8b0] | (simp only [i64_w, i32_w]; rw [c8b0]) | skip)
  have H' := Aside0.mk H
  clear H
  go_wp2
  go_meet
  case rel => exact ⟨_, ((a1_1 == 2)), rsA, H', ⟨by first | omega | exact Nat.le_refl _⟩, ⟨rbA BK144.out⟩, ⟨rbA BK145.out⟩, ⟨hbA HB.out⟩⟩
 clear HC3
 (try clear c2); (try clear p2); (try clear c6); (try clear c8); (try clear c8b0); (try clear c8b1); (try clear hcz7_0); (try clear hcz7_1); (try clear hfz7_0); (try clear hfz7_1)
 obtain ⟨kq, x7_2, rfl, HA, HJ2, BK144, BK145, HB⟩ := hcut
 cases kq with
 | zero => exact absurd HA.out (by simp [witness_reason.j0])
 | succ kj2 =>
  have H := HA.out
  clear HA
  simp only [witness_reason.j0] at H
  by_cases c9 : x7_2 = true
  · subst c9
    have H1 : (some true) = some r := by rw [if_pos rfl] at H; exact H
    clear H
    have H := H1
    clear H1
    obtain rfl := Option.some.inj H
    go_wp2
    go_ret
    exact ⟨reA, hbA HB.out⟩
  replace c9 := Bool.eq_false_iff.mpr c9
  subst c9
  have H1 : (if a1_1 = 3 then (if a0_1 = 5 then ((slices_Equal_string_string.f kj2 l0_2 (([a1_0] : List ByteArray))).bind fun t149 => (if t149 = true then (some (a0_10 == 11)) else (some false))) else (some false)) else (some false)) = some r := by rw [if_neg (show ¬ (false = true) by decide)] at H; exact H
  clear H
  have H := H1
  clear H1
  by_cases c10 : a1_1 = 3
  · rw [if_pos c10] at H
    have c10b0 : (a1_1 == 3) = true := beq_iff_eq.mpr c10
    have c10b1 : (a1_1 != 3) = false := bne_eq_false_iff_eq.mpr c10
    clear c10
    by_cases c11 : a0_1 = 5
    · rw [if_pos c11] at H
      have c11b0 : (a0_1 == 5) = true := beq_iff_eq.mpr c11
      have c11b1 : (a0_1 != 5) = false := bne_eq_false_iff_eq.mpr c11
      clear c11
      obtain ⟨y146, hy146⟩ : ∃ y_ : List ByteArray, y_ = (([a1_0] : List ByteArray)) := ⟨_, rfl⟩
      replace H : ((slices_Equal_string_string.f kj2 l0_2 y146).bind fun t149 => (if t149 = true then (some (a0_10 == 11)) else (some false))) = some r := by first | (rw [hy146]; with_reducible exact H) | (have H2_ := (Option.bind_some _ _).symm.trans H; rw [hy146]; with_reducible exact H2_) | (have H2_ := (Option.bind_some _ _).symm.trans H; with_reducible exact H2_) | with_reducible exact H | (rw [hy146]; exact H) | exact H
      have Ny146 := Aside0.mk hy146
      clear hy146
      replace H := Option.bind_eq_some_iff.mp H
      obtain ⟨t149, A120, H⟩ := H
      replace H : (if t149 = true then (some (a0_10 == 11)) else (some false)) = some r := H
      have A12 := Aside0.mk A120
      clear A120
      by_cases c13 : t149 = true
      · subst c13
        have H1 : (some (a0_10 == 11)) = some r := by rw [if_pos rfl] at H; exact H
        clear H
        have H := H1
        clear H1
        obtain rfl := Option.some.inj H
        have hnb14 := NB144_145.out
        have hnc14 := NB145_144.out
        have hcz15_0 : wc.cell? ⟨gb144, 0, none⟩ = some (.int .i64 a0_0) := (blk_cell BK144.out 0).trans rfl
        have hcz15_1 : wc.cell? ⟨gb144, 1, none⟩ = some (.int .i64 a0_1) := (blk_cell BK144.out 1).trans rfl
        have hcz15_2 : wc.cell? ⟨gb144, 2, none⟩ = some (.slice A0_2 l0_2.length c0_2) := (blk_cell BK144.out 2).trans rfl
        have hcz15_3 : wc.cell? ⟨gb144, 3, none⟩ = some (.int .u32 a0_3) := (blk_cell BK144.out 3).trans rfl
        have hcz15_4 : wc.cell? ⟨gb144, 4, none⟩ = some (.int .i64 a0_4) := (blk_cell BK144.out 4).trans rfl
        have hcz15_5 : wc.cell? ⟨gb144, 5, none⟩ = some (.string a0_5) := (blk_cell BK144.out 5).trans rfl
        have hcz15_6 : wc.cell? ⟨gb144, 6, none⟩ = some (.int .u64 a0_6) := (blk_cell BK144.out 6).trans rfl
        have hcz15_7 : wc.cell? ⟨gb144, 7, none⟩ = some (.int .u64 a0_7) := (blk_cell BK144.out 7).trans rfl
        have hcz15_8 : wc.cell? ⟨gb144, 8, none⟩ = some (.bool a0_8) := (blk_cell BK144.out 8).trans rfl
        have hcz15_9 : wc.cell? ⟨gb144, 9, none⟩ = some (.int .i64 a0_9) := (blk_cell BK144.out 9).trans rfl
        have hcz15_10 : wc.cell? ⟨gb144, 10, none⟩ = some (.int .i64 a0_10) := (blk_cell BK144.out 10).trans rfl
        have hcz15_11 : wc.cell? ⟨gb144, 11, none⟩ = some (.slice A0_11 l0_11.length c0_11) := (blk_cell BK144.out 11).trans rfl
        have hcz15_12 : wc.cell? ⟨gb144, 12, none⟩ = some (.int .u64 a0_12) := (blk_cell BK144.out 12).trans rfl
        have hcz15_13 : wc.cell? ⟨gb144, 13, none⟩ = some (.slice A0_13 l0_13.length c0_13) := (blk_cell BK144.out 13).trans rfl
        have hfz15_0 := blk_frozen BK144.out 0
        have hfz15_1 := blk_frozen BK144.out 1
        have hfz15_2 := blk_frozen BK144.out 2
        have hfz15_3 := blk_frozen BK144.out 3
        have hfz15_4 := blk_frozen BK144.out 4
        have hfz15_5 := blk_frozen BK144.out 5
        have hfz15_6 := blk_frozen BK144.out 6
        have hfz15_7 := blk_frozen BK144.out 7
        have hfz15_8 := blk_frozen BK144.out 8
        have hfz15_9 := blk_frozen BK144.out 9
        have hfz15_10 := blk_frozen BK144.out 10
        have hfz15_11 := blk_frozen BK144.out 11
        have hfz15_12 := blk_frozen BK144.out 12
        have hfz15_13 := blk_frozen BK144.out 13
        obtain ⟨hcz16_0, hcz16_1, hfz16_0, hfz16_1⟩ := blkA2 BK145.out
        go_wp2_with (first | ((with_reducible refine gate_dst (N := 22) rfl ?_); (try (refine gate_guard (by rfl) ?_; dsimp only)); refine Kd.R_lit Kd.string _ 9 ?hg (N := 22) ?hd (xs := ([a1_0] : List ByteArray)) (inner := [.string a1_0]) (ok := fun _ => True) (okp := fun _ => True) ?hr ?hp (fun _ hk => hk) trivial (Below.refl _ _) (Nat.le_refl _) (by simp) ?_; (case hd => rfl); (case hg => rfl); (case hr => first | (go_simp; done) | (go_simp; rfl)); (case hp => exact (Reps.one (show Kd.M Kd.string _ _ _ a1_0 [.string a1_0] from rfl) (Reps.none _ _))); intro v147 w17 ho18 hb hg_ hnew_; clear hg_ hnew_; (first | rw [← Ny146.out] at ho18 | (simp only [Int.reduceToNat] at ho18; rw [← Ny146.out] at ho18)); have n0_ := Aside0.mk (Kd.R_lower ho18 (below_size (hbA HB.out))); have n1_ := Aside0.mk (blk_below (g := gb144) (o := .cells #[.int .i64 a0_0, .int .i64 a0_1, .slice A0_2 l0_2.length c0_2, .int .u32 a0_3, .int .i64 a0_4, .string a0_5, .int .u64 a0_6, .int .u64 a0_7, .bool a0_8, .int .i64 a0_9, .int .i64 a0_10, .slice A0_11 l0_11.length c0_11, .int .u64 a0_12, .slice A0_13 l0_13.length c0_13] 41 (0, 0)) (rbA BK144.out) hb); have n2_ := Aside0.mk (blk_below (g := gb145) (o := .cells #[.string a1_0, .int .i64 a1_1] 46 (0, 0)) (rbA BK145.out) hb); have n3_ := Aside0.mk (below_step (hbA HB.out) hb); clear BK144; clear BK145; clear HB; have HO148 := n0_; have BK144 := n1_; have BK145 := n2_; have HB := n3_; clear n0_ n1_ n2_ n3_; clear hb ho18; obtain ⟨Ao19, co19, eo19⟩ := Kd.R_slice HO148.out; subst eo19) | (go_at_call 28; (with_reducible refine (slices_Equal_string_string.calls kj2 _ _ l0_2 _ _ y146 true _ ?side1 ?side2 ?side3 ?side4 A12.out).mono ?_); (case side1 => repeat (first | exact (Kd.C_below HR0_2.out HB.out) | (with_reducible refine Kd.C_alloc ?_ _) | (with_reducible refine Kd.C_drewN ?_ _) | (with_reducible refine Kd.C_drew ?_))); (case side2 => exact HC0_2.out); (case side3 => repeat (first | exact (Kd.R_reads' HO148.out).2.2 | (with_reducible refine Kd.C_alloc ?_ _) | (with_reducible refine Kd.C_drewN ?_ _) | (with_reducible refine Kd.C_drew ?_))); (case side4 => exact (Kd.R_reads' HO148.out).2.1); rintro e w' ⟨rfl, ⟨nd, rfl⟩⟩; have hcz20_0 : w17.cell? ⟨gb144, 0, none⟩ = some (.int .i64 a0_0) := (blk_cell BK144.out 0).trans rfl; have hcz20_1 : w17.cell? ⟨gb144, 1, none⟩ = some (.int .i64 a0_1) := (blk_cell BK144.out 1).trans rfl; have hcz20_2 : w17.cell? ⟨gb144, 2, none⟩ = some (.slice A0_2 l0_2.length c0_2) := (blk_cell BK144.out 2).trans rfl; have hcz20_3 : w17.cell? ⟨gb144, 3, none⟩ = some (.int .u32 a0_3) := (blk_cell BK144.out 3).trans rfl; have hcz20_4 : w17.cell? ⟨gb144, 4, none⟩ = some (.int .i64 a0_4) := (blk_cell BK144.out 4).trans rfl; have hcz20_5 : w17.cell? ⟨gb144, 5, none⟩ = some (.string a0_5) := (blk_cell BK144.out 5).trans rfl; have hcz20_6 : w17.cell? ⟨gb144, 6, none⟩ = some (.int .u64 a0_6) := (blk_cell BK144.out 6).trans rfl; have hcz20_7 : w17.cell? ⟨gb144, 7, none⟩ = some (.int .u64 a0_7) := (blk_cell BK144.out 7).trans rfl; have hcz20_8 : w17.cell? ⟨gb144, 8, none⟩ = some (.bool a0_8) := (blk_cell BK144.out 8).trans rfl; have hcz20_9 : w17.cell? ⟨gb144, 9, none⟩ = some (.int .i64 a0_9) := (blk_cell BK144.out 9).trans rfl; have hcz20_10 : w17.cell? ⟨gb144, 10, none⟩ = some (.int .i64 a0_10) := (blk_cell BK144.out 10).trans rfl; have hcz20_11 : w17.cell? ⟨gb144, 11, none⟩ = some (.slice A0_11 l0_11.length c0_11) := (blk_cell BK144.out 11).trans rfl; have hcz20_12 : w17.cell? ⟨gb144, 12, none⟩ = some (.int .u64 a0_12) := (blk_cell BK144.out 12).trans rfl; have hcz20_13 : w17.cell? ⟨gb144, 13, none⟩ = some (.slice A0_13 l0_13.length c0_13) := (blk_cell BK144.out 13).trans rfl; have hfz20_0 := blk_frozen BK144.out 0; have hfz20_1 := blk_frozen BK144.out 1; have hfz20_2 := blk_frozen BK144.out 2; have hfz20_3 := blk_frozen BK144.out 3; have hfz20_4 := blk_frozen BK144.out 4; have hfz20_5 := blk_frozen BK144.out 5; have hfz20_6 := blk_frozen BK144.out 6; have hfz20_7 := blk_frozen BK144.out 7; have hfz20_8 := blk_frozen BK144.out 8; have hfz20_9 := blk_frozen BK144.out 9; have hfz20_10 := blk_frozen BK144.out 10; have hfz20_11 := blk_frozen BK144.out 11; have hfz20_12 := blk_frozen BK144.out 12; have hfz20_13 := blk_frozen BK144.out 13))
        go_ret
        exact ⟨reA, hbA HB.out⟩
      replace c13 := Bool.eq_false_iff.mpr c13
      subst c13
      have H1 : (some false) = some r := by rw [if_neg (show ¬ (false = true) by decide)] at H; exact H
      clear H
      have H := H1
      clear H1
      obtain rfl := Option.some.inj H
      have hnb21 := NB144_145.out
      have hnc21 := NB145_144.out
      have hcz22_0 : wc.cell? ⟨gb144, 0, none⟩ = some (.int .i64 a0_0) := (blk_cell BK144.out 0).trans rfl
      have hcz22_1 : wc.cell? ⟨gb144, 1, none⟩ = some (.int .i64 a0_1) := (blk_cell BK144.out 1).trans rfl
      have hcz22_2 : wc.cell? ⟨gb144, 2, none⟩ = some (.slice A0_2 l0_2.length c0_2) := (blk_cell BK144.out 2).trans rfl
      have hcz22_3 : wc.cell? ⟨gb144, 3, none⟩ = some (.int .u32 a0_3) := (blk_cell BK144.out 3).trans rfl
      have hcz22_4 : wc.cell? ⟨gb144, 4, none⟩ = some (.int .i64 a0_4) := (blk_cell BK144.out 4).trans rfl
      have hcz22_5 : wc.cell? ⟨gb144, 5, none⟩ = some (.string a0_5) := (blk_cell BK144.out 5).trans rfl
      have hcz22_6 : wc.cell? ⟨gb144, 6, none⟩ = some (.int .u64 a0_6) := (blk_cell BK144.out 6).trans rfl
      have hcz22_7 : wc.cell? ⟨gb144, 7, none⟩ = some (.int .u64 a0_7) := (blk_cell BK144.out 7).trans rfl
      have hcz22_8 : wc.cell? ⟨gb144, 8, none⟩ = some (.bool a0_8) := (blk_cell BK144.out 8).trans rfl
      have hcz22_9 : wc.cell? ⟨gb144, 9, none⟩ = some (.int .i64 a0_9) := (blk_cell BK144.out 9).trans rfl
      have hcz22_10 : wc.cell? ⟨gb144, 10, none⟩ = some (.int .i64 a0_10) := (blk_cell BK144.out 10).trans rfl
      have hcz22_11 : wc.cell? ⟨gb144, 11, none⟩ = some (.slice A0_11 l0_11.length c0_11) := (blk_cell BK144.out 11).trans rfl
      have hcz22_12 : wc.cell? ⟨gb144, 12, none⟩ = some (.int .u64 a0_12) := (blk_cell BK144.out 12).trans rfl
      have hcz22_13 : wc.cell? ⟨gb144, 13, none⟩ = some (.slice A0_13 l0_13.length c0_13) := (blk_cell BK144.out 13).trans rfl
      have hfz22_0 := blk_frozen BK144.out 0
      have hfz22_1 := blk_frozen BK144.out 1
      have hfz22_2 := blk_frozen BK144.out 2
      have hfz22_3 := blk_frozen BK144.out 3
      have hfz22_4 := blk_frozen BK144.out 4
      have hfz22_5 := blk_frozen BK144.out 5
      have hfz22_6 := blk_frozen BK144.out 6
      have hfz22_7 := blk_frozen BK144.out 7
      have hfz22_8 := blk_frozen BK144.out 8
      have hfz22_9 := blk_frozen BK144.out 9
      have hfz22_10 := blk_frozen BK144.out 10
      have hfz22_11 := blk_frozen BK144.out 11
      have hfz22_12 := blk_frozen BK144.out 12
      have hfz22_13 := blk_frozen BK144.out 13
      obtain ⟨hcz23_0, hcz23_1, hfz23_0, hfz23_1⟩ := blkA2 BK145.out
      go_wp2_with (first | ((with_reducible refine gate_dst (N := 22) rfl ?_); (try (refine gate_guard (by rfl) ?_; dsimp only)); refine Kd.R_lit Kd.string _ 9 ?hg (N := 22) ?hd (xs := ([a1_0] : List ByteArray)) (inner := [.string a1_0]) (ok := fun _ => True) (okp := fun _ => True) ?hr ?hp (fun _ hk => hk) trivial (Below.refl _ _) (Nat.le_refl _) (by simp) ?_; (case hd => rfl); (case hg => rfl); (case hr => first | (go_simp; done) | (go_simp; rfl)); (case hp => exact (Reps.one (show Kd.M Kd.string _ _ _ a1_0 [.string a1_0] from rfl) (Reps.none _ _))); intro v147 w24 ho25 hb hg_ hnew_; clear hg_ hnew_; (first | rw [← Ny146.out] at ho25 | (simp only [Int.reduceToNat] at ho25; rw [← Ny146.out] at ho25)); have n0_ := Aside0.mk (Kd.R_lower ho25 (below_size (hbA HB.out))); have n1_ := Aside0.mk (blk_below (g := gb144) (o := .cells #[.int .i64 a0_0, .int .i64 a0_1, .slice A0_2 l0_2.length c0_2, .int .u32 a0_3, .int .i64 a0_4, .string a0_5, .int .u64 a0_6, .int .u64 a0_7, .bool a0_8, .int .i64 a0_9, .int .i64 a0_10, .slice A0_11 l0_11.length c0_11, .int .u64 a0_12, .slice A0_13 l0_13.length c0_13] 41 (0, 0)) (rbA BK144.out) hb); have n2_ := Aside0.mk (blk_below (g := gb145) (o := .cells #[.string a1_0, .int .i64 a1_1] 46 (0, 0)) (rbA BK145.out) hb); have n3_ := Aside0.mk (below_step (hbA HB.out) hb); clear BK144; clear BK145; clear HB; have HO148 := n0_; have BK144 := n1_; have BK145 := n2_; have HB := n3_; clear n0_ n1_ n2_ n3_; clear hb ho25; obtain ⟨Ao26, co26, eo26⟩ := Kd.R_slice HO148.out; subst eo26) | (go_at_call 28; (with_reducible refine (slices_Equal_string_string.calls kj2 _ _ l0_2 _ _ y146 false _ ?side1 ?side2 ?side3 ?side4 A12.out).mono ?_); (case side1 => repeat (first | exact (Kd.C_below HR0_2.out HB.out) | (with_reducible refine Kd.C_alloc ?_ _) | (with_reducible refine Kd.C_drewN ?_ _) | (with_reducible refine Kd.C_drew ?_))); (case side2 => exact HC0_2.out); (case side3 => repeat (first | exact (Kd.R_reads' HO148.out).2.2 | (with_reducible refine Kd.C_alloc ?_ _) | (with_reducible refine Kd.C_drewN ?_ _) | (with_reducible refine Kd.C_drew ?_))); (case side4 => exact (Kd.R_reads' HO148.out).2.1); rintro e w' ⟨rfl, ⟨nd, rfl⟩⟩))
      go_ret
      exact ⟨reA, hbA HB.out⟩
    rw [if_neg c11] at H
    have c11b0 : (a0_1 == 5) = false := beq_eq_false_iff_ne.mpr c11
    have c11b1 : (a0_1 != 5) = true := bne_iff_ne.mpr c11
    obtain rfl := Option.some.inj H
    have hnb27 := NB144_145.out
    have hnc27 := NB145_144.out
    have hcz28_0 : wc.cell? ⟨gb144, 0, none⟩ = some (.int .i64 a0_0) := (blk_cell BK144.out 0).trans rfl
    have hcz28_1 : wc.cell? ⟨gb144, 1, none⟩ = some (.int .i64 a0_1) := (blk_cell BK144.out 1).trans rfl
    have hcz28_2 : wc.cell? ⟨gb144, 2, none⟩ = some (.slice A0_2 l0_2.length c0_2) := (blk_cell BK144.out 2).trans rfl
    have hcz28_3 : wc.cell? ⟨gb144, 3, none⟩ = some (.int .u32 a0_3) := (blk_cell BK144.out 3).trans rfl
    have hcz28_4 : wc.cell? ⟨gb144, 4, none⟩ = some (.int .i64 a0_4) := (blk_cell BK144.out 4).trans rfl
    have hcz28_5 : wc.cell? ⟨gb144, 5, none⟩ = some (.string a0_5) := (blk_cell BK144.out 5).trans rfl
    have hcz28_6 : wc.cell? ⟨gb144, 6, none⟩ = some (.int .u64 a0_6) := (blk_cell BK144.out 6).trans rfl
    have hcz28_7 : wc.cell? ⟨gb144, 7, none⟩ = some (.int .u64 a0_7) := (blk_cell BK144.out 7).trans rfl
    have hcz28_8 : wc.cell? ⟨gb144, 8, none⟩ = some (.bool a0_8) := (blk_cell BK144.out 8).trans rfl
    have hcz28_9 : wc.cell? ⟨gb144, 9, none⟩ = some (.int .i64 a0_9) := (blk_cell BK144.out 9).trans rfl
    have hcz28_10 : wc.cell? ⟨gb144, 10, none⟩ = some (.int .i64 a0_10) := (blk_cell BK144.out 10).trans rfl
    have hcz28_11 : wc.cell? ⟨gb144, 11, none⟩ = some (.slice A0_11 l0_11.length c0_11) := (blk_cell BK144.out 11).trans rfl
    have hcz28_12 : wc.cell? ⟨gb144, 12, none⟩ = some (.int .u64 a0_12) := (blk_cell BK144.out 12).trans rfl
    have hcz28_13 : wc.cell? ⟨gb144, 13, none⟩ = some (.slice A0_13 l0_13.length c0_13) := (blk_cell BK144.out 13).trans rfl
    have hfz28_0 := blk_frozen BK144.out 0
    have hfz28_1 := blk_frozen BK144.out 1
    have hfz28_2 := blk_frozen BK144.out 2
    have hfz28_3 := blk_frozen BK144.out 3
    have hfz28_4 := blk_frozen BK144.out 4
    have hfz28_5 := blk_frozen BK144.out 5
    have hfz28_6 := blk_frozen BK144.out 6
    have hfz28_7 := blk_frozen BK144.out 7
    have hfz28_8 := blk_frozen BK144.out 8
    have hfz28_9 := blk_frozen BK144.out 9
    have hfz28_10 := blk_frozen BK144.out 10
    have hfz28_11 := blk_frozen BK144.out 11
    have hfz28_12 := blk_frozen BK144.out 12
    have hfz28_13 := blk_frozen BK144.out 13
    go_wp2
    go_ret
    exact ⟨reA, hbA HB.out⟩
  rw [if_neg c10] at H
  have c10b0 : (a1_1 == 3) = false := beq_eq_false_iff_ne.mpr c10
  have c10b1 : (a1_1 != 3) = true := bne_iff_ne.mpr c10
  obtain rfl := Option.some.inj H
  go_wp2
  go_ret
  exact ⟨reA, hbA HB.out⟩


end
end Go.Proofs.YtdihoopofhediaaGreatDoor.XMd
end
section
namespace Go.Proofs.YtdihoopofhediaaGreatDoor.XMd
open Go.RowKit Go.Proofs.YtdihoopofhediaaGreatDoorW.PrintWords Go.Proofs.YtdihoopofhediaaGreatDoorW.PrintLast Go.Proofs.YtdihoopofhediaaGreatDoorW.PrintMore
attribute [local go_sem] extract_sub max2_int min2_int max_two min_two max_three min_three max_four min_four   -- for this text's walks alone
set_option linter.unusedVariables false
set_option linter.unusedSimpArgs false

noncomputable section
end
end Go.Proofs.YtdihoopofhediaaGreatDoor.XMd
end
section
namespace Go.Proofs.YtdihoopofhediaaGreatDoor.Mdl
open Go.RowKit Go.Proofs.YtdihoopofhediaaGreatDoorW.PrintWords Go.Proofs.YtdihoopofhediaaGreatDoorW.PrintLast Go.Proofs.YtdihoopofhediaaGreatDoorW.PrintMore Go.WideMaps
set_option linter.unusedVariables false
set_option linter.unusedSimpArgs false

theorem run_copy_fill {P : Program} (w : World) (dT sT ty elem : TypeId) (g m : Nat) (s : ByteArray) (cur : Array Value) (t : TypeId)
    (hu : P.underlying dT = some (.slice elem)) (hs : (P.info? elem).map (·.size) = some 1) (hg : w.heap[g]? = some (.cells cur t (0, 0))) (hm : cur.size = m) :
    (Builtin.copy_ #[dT, sT] ty #[.slice (some ⟨g, 0, none⟩) m m, .string s]).run P w =
      .ok (goInt ((min s.size m : Nat) : Int)) (w.setRow g (Lib.byteCells (s.data.toList.take m) ++ cur.toList.drop (min s.size m)).toArray) := by
  have hlen : (Lib.byteCells (s.data.toList.take m)).length = min s.size m := by rw [Lib.byteCells_length, List.length_take, ← Lib.size_eq]; omega
  have hst := run_storeCells_at P g 0 t (Lib.byteCells (s.data.toList.take m)) 0 cur w hg (by rw [hlen]; omega) (Lib.byteCells_one _)
  have hmin : Nat.min s.size m = min s.size m := rfl
  have htk : List.take (min s.size m) (List.map (fun b : UInt8 => Value.int IntKind.u8 (b.toNat : Int)) s.data.toList) = Lib.byteCells (s.data.toList.take m) := by
    unfold Lib.byteCells
    rw [← List.map_take]
    congr 1
    rcases Nat.le_total s.size m with h | h
    · rw [Nat.min_eq_left h, List.take_of_length_le (by rw [← Lib.size_eq]; exact Nat.le_refl _), List.take_of_length_le (by rw [← Lib.size_eq]; exact h)]
    · rw [Nat.min_eq_right h]
  rw [hlen] at hst
  simp only [Nat.add_zero, Nat.zero_add, List.take_zero, List.nil_append] at hst
  cases hq : P.info? elem with
  | none => simp [hq] at hs
  | some i =>
    simp [Builtin.copy_, run_underlying hu, Builtin.lenOf, Builtin.firstCells, sizeOf, typeInfo, hq, hmin]
    rw [htk, hst]
    simp [Result.andThen]
    first | done | (congr 1; omega)
theorem wpList_load_eq {P : Program} {ops : Array Oper} {rest : List Oper} {op : Oper} {a : Act} {w : World} {Q : Exit → Act → World → Prop} (hgd : op.guard = none) (ty : TypeId) (x : Operand) (ho : op.op = .load ty x) {p v : Value} (hx : a.eval x = p) (hrun : (Instr.loadAt ty p).run P w = .ok v w)
    (h : wpList P ops Q rest (a.put op.dst v) w) : wpList P ops Q (op :: rest) a w :=
  wpList_plain hgd fun _ hK => by
    unfold Oper.wp execOp
    simp only [ho, hx, Sem.run_bind, Sem.run_pure, hrun, Result.andThen_ok]
    exact hK _ _ h
theorem wpList_store_eq {P : Program} {ops : Array Oper} {rest : List Oper} {op : Oper} {a : Act} {w w' : World} {Q : Exit → Act → World → Prop} (hgd : op.guard = none) (ty : TypeId) (x y : Operand) (ho : op.op = .store ty x y) {p v : Value} (hx : a.eval x = p) (hy : a.eval y = v) (hrun : (Instr.storeAt ty p v).run P w = .ok () w')
    (h : wpList P ops Q rest (a.put op.dst undef) w') : wpList P ops Q (op :: rest) a w :=
  wpList_plain hgd fun _ hK => by
    unfold Oper.wp execOp
    simp only [ho, hx, hy, Sem.run_bind, Sem.run_pure, hrun, Result.andThen_ok]
    exact hK _ _ h
def zero32 : Array Value := #[.int .u8 0, .int .u8 0, .int .u8 0, .int .u8 0, .int .u8 0, .int .u8 0, .int .u8 0, .int .u8 0, .int .u8 0, .int .u8 0, .int .u8 0, .int .u8 0, .int .u8 0, .int .u8 0, .int .u8 0, .int .u8 0, .int .u8 0, .int .u8 0, .int .u8 0, .int .u8 0, .int .u8 0, .int .u8 0, .int .u8 0, .int .u8 0, .int .u8 0, .int .u8 0, .int .u8 0, .int .u8 0, .int .u8 0, .int .u8 0, .int .u8 0, .int .u8 0]
theorem zero32_is : zero32.toList = List.replicate 32 (.int .u8 0) := rfl
theorem named_cells (key : ByteArray) : (Lib.byteCells (key.data.toList.take 32) ++ zero32.toList.drop (min key.size 32)).toArray = ((nm key).map fun b => Value.int .u8 (b.toNat : Int)).toArray := by
  congr 1
  unfold nm Lib.byteCells
  rw [zero32_is, List.take_append, List.map_append, List.take_replicate, List.map_replicate, List.drop_replicate, ← Lib.size_eq]
  congr 2
  omega
set_option maxHeartbeats 4000000 in
set_option maxRecDepth 100000 in
theorem named_calls (key : ByteArray) (w : World) :
    Calls Tryz.prog 27 #[.string key] w fun e w' => e = .returned (nameV (nm key)) ∧ Below w.heap.size w w' := by
  have hcp := run_copy_fill (P := Tryz.prog) (w.alloc (.cells zero32 83)) 98 9 3 5 w.heap.size 32 key zero32 83 Tryz.underlying98 (by kernel_rfl) (heap_alloc_new w _) rfl
  rw [named_cells, World.setRow_alloc_new] at hcp
  unfold nameV
  have hC : ((nm key).map fun b => Value.int .u8 (b.toNat : Int)).toArray.size = 32 := by simp [nm_len]
  have hC1 : (((nm key).map fun b => Value.int .u8 (b.toNat : Int)).toArray).all (·.oneCell') = true := all_oneCell_toArray (fun v hv => by obtain ⟨b, _, rfl⟩ := List.mem_map.1 hv; rfl)
  generalize ((nm key).map fun b => Value.int .u8 (b.toNat : Int)).toArray = C at hcp hC hC1
  have hinfo : (Tryz.prog.info? 83).map (·.size) = some C.size := by rw [hC]; kernel_rfl
  have hld := run_loadAt_new (P := Tryz.prog) w 83 C _ _ Tryz.underlying83 hinfo
  have hlv := run_loadVar_new (P := Tryz.prog) w 83 C _ _ Tryz.underlying83 hinfo
  have hst := run_storeAt_new (P := Tryz.prog) w 83 C C hinfo rfl hC1
  unfold zero32 at hcp
  go_enter Tryz.func27, Tryz.ntmps27
  go_wp2_with (first | (refine wpList_load_eq rfl 83 _ rfl rfl hld ?_) | (refine wpList_store_eq rfl 83 _ _ rfl rfl rfl hst ?_))
  refine bodyPost_ret (results_cell_row rfl _ _ w.heap.size _ C _ _ rfl (heap_alloc_new w _) Tryz.underlying83 rfl hinfo) rfl ?_
  exact ⟨rfl, (Below.refl _ w).alloc (Nat.le_refl _) _⟩
end Go.Proofs.YtdihoopofhediaaGreatDoor.Mdl
end
section
namespace Go.Proofs.YtdihoopofhediaaGreatDoor.Mdl
open Go.RowKit Go.Proofs.YtdihoopofhediaaGreatDoorW.PrintWords Go.Proofs.YtdihoopofhediaaGreatDoorW.PrintLast Go.Proofs.YtdihoopofhediaaGreatDoorW.PrintMore Go.WideMaps Go.Proofs.YtdihoopofhediaaGreatDoor.XMd
set_option linter.unusedVariables false
set_option linter.unusedSimpArgs false
def strip (l : List UInt8) : List UInt8 := Lib.trimRightB l 0
set_option maxHeartbeats 4000000 in
set_option maxRecDepth 100000 in
theorem key_calls (l : List UInt8) (hl : l.length = 32) (w : World) :
    Calls Tryz.prog 25 #[nameV l] w fun e w' => e = .returned (.string ⟨(strip l).toArray⟩) ∧ Below w.heap.size w w' := by
  unfold nameV
  have hC : (l.map fun b => Value.int .u8 (b.toNat : Int)).toArray.size = 32 := by simp [hl]
  have hcv := run_convert_bytes_back (P := Tryz.prog) (w.alloc (.cells (l.map fun b => Value.int .u8 (b.toNat : Int)).toArray 83)) 98 9 5 ⟨w.heap.size, 0, none⟩ 32 l Tryz.underlying98 Tryz.underlying5 Tryz.underlying9 (fun j hj => by
    rw [Addr.add_mid, Nat.zero_add, cell_of_row _ _ _ _ _ _ (heap_alloc_new w _)]
    simp [hj])
  rw [hl] at hcv
  have hT := strings_TrimRight.calls ⟨l.toArray⟩ ⟨#[0]⟩ ⟨(strip l).toArray⟩ (w.alloc (.cells (l.map fun b => Value.int .u8 (b.toNat : Int)).toArray 83)) (by
    unfold strings_TrimRight.f strip
    rw [show (⟨#[0]⟩ : ByteArray).data.toList = [0] from rfl]
    simp only
    rw [if_pos ⟨by decide, by show l.toArray.size ≤ _; rw [List.size_toArray, hl]; decide⟩])
  generalize (l.map fun b => Value.int .u8 (b.toNat : Int)).toArray = C at hcv hT hC
  go_enter Tryz.func25, Tryz.ntmps25
  go_wp2_with fail
  refine hT.mono ?_
  rintro e w' ⟨rfl, hb'⟩
  go_wp2
  go_ret
  exact ⟨rfl, (((Below.refl _ w).alloc (Nat.le_refl _) _).trans (hb'.below.mono (by simp)))⟩
set_option maxHeartbeats 4000000 in
set_option maxRecDepth 100000 in
theorem New_calls (w : World) :
    Calls Tryz.prog 13 #[] w fun e w' => ∃ g b, e = .returned (.pointer (some ⟨g, 0, none⟩)) ∧ At w' g b 0 (fun _ => none) 0 ∧ w.heap.size ≤ g ∧ w.heap.size ≤ b ∧ Below w.heap.size w w' := by
  have hmm := @run_makeMap Tryz.prog
  go_enter Tryz.func13, Tryz.ntmps13
  go_wp2_with fail
  go_ret
  refine ⟨w.heap.size + 1, w.heap.size, rfl, ⟨?_, ?_, by omega, fun n x h => by cases h⟩, by omega, by omega, ?_⟩
  · refine mapF.alloc ?_ _
    refine (mapF_made w Tryz.prog 83).eq (fun kl _ => ?_)
    cases kl <;> rfl
  · rw [show w.heap.size + 1 = (w.alloc (Obj.map #[] 0)).heap.size from by simp]
    exact heap_alloc_new _ _
  · exact ((Below.refl _ w).alloc (Nat.le_refl _) _).alloc (by simp) _
end Go.Proofs.YtdihoopofhediaaGreatDoor.Mdl
end
section
namespace Go.Proofs.YtdihoopofhediaaGreatDoor.Mdl
open Go.RowKit Go.Proofs.YtdihoopofhediaaGreatDoorW.PrintWords Go.Proofs.YtdihoopofhediaaGreatDoorW.PrintLast Go.Proofs.YtdihoopofhediaaGreatDoorW.PrintMore Go.WideMaps Go.Proofs.YtdihoopofhediaaGreatDoor.XMd
set_option linter.unusedVariables false
set_option linter.unusedSimpArgs false
attribute [local go_sem ↓] Go.wp_at_zero Go.wp_at_succ

def gone (x : Ent) (now : Int) : Bool := decide (0 < x.exp % 4294967296) && decide (x.exp % 4294967296 ≤ now)
theorem gone_is (x : Ent) (now : Int) : clock_Gone.f (x.exp % 4294967296) now = some (gone x now) := by
  unfold clock_Gone.f gone
  by_cases h : x.exp % 4294967296 > 0
  · rw [if_pos h, decide_eq_true (show 0 < x.exp % 4294967296 from h), Bool.true_and, show wrap64 (x.exp % 4294967296) = x.exp % 4294967296 from by unfold wrap64; omega]
  · rw [if_neg h, decide_eq_false (show ¬ 0 < x.exp % 4294967296 from h), Bool.false_and]
def get (E : Tab) (key : ByteArray) (now : Int) : Option Ent := match E (nm key) with
  | none => none
  | some x => if strip (nm key) = key.data.toList ∧ gone x now = false then some x else none
theorem zeroEnt (w : World) : (zeroValue 51).run Tryz.prog w = .ok Ent.z.v w := by kernel_rfl
theorem size_al (w : World) (o : Obj) : (w.alloc o).heap.size = w.heap.size + 1 := by simp
theorem fresh_block {w0 w' : World} {B : Nat} {cs : Array Value} {t : TypeId} (hb : Below (w0.alloc (.cells cs t)).drew.heap.size (w0.alloc (.cells cs t)).drew w') (hB : w0.heap.size = B) : w'.heap[B]? = some (.cells cs t) := by
  subst hB
  exact (hb.block w0.heap.size (by simp)).trans (heap_alloc_new w0 (.cells cs t))
theorem wayA {w0 w' : World} {n : Nat} {Z : Obj} (hb : Below w0.drew.heap.size w0.drew w') (hn : w0.heap.size = n) : (w'.alloc Z).heap[w'.heap.size]? = some Z ∧ n ≤ w'.heap.size ∧ Below n w0 (w'.alloc Z) := by
  subst hn
  have h : Below w0.heap.size w0 w' := ⟨hb.os, hb.tape, hb.output, hb.size, hb.block⟩
  exact ⟨heap_alloc_new _ _, h.size, h.alloc h.size _⟩
theorem wayB {w0 w' : World} {n : Nat} {x0 x1 x2 x3 a b c d : Value} {t : TypeId} (hb : Below (w0.alloc (.cells #[x0, x1, x2, x3] t)).drew.heap.size (w0.alloc (.cells #[x0, x1, x2, x3] t)).drew w') (hn : w0.heap.size = n) :
    ((((w'.setCell ⟨n, 0, none⟩ a).setCell ⟨n, 1, none⟩ b).setCell ⟨n, 2, none⟩ c).setCell ⟨n, 3, none⟩ d).heap[n]? = some (.cells #[a, b, c, d] t) ∧ n ≤ n ∧ Below n w0 ((((w'.setCell ⟨n, 0, none⟩ a).setCell ⟨n, 1, none⟩ b).setCell ⟨n, 2, none⟩ c).setCell ⟨n, 3, none⟩ d) := by
  have hq := fresh_block hb hn
  have h1 := Lib.heap_setCell_same (Lib.heap_setCell_same (Lib.heap_setCell_same (Lib.heap_setCell_same (i := 0) hq a) (i := 1) b) (i := 2) c) (i := 3) d
  subst hn
  have h : Below w0.heap.size w0 w' := ⟨hb.os, hb.tape, hb.output, by have := hb.size; simp at this; omega, fun k hk => by rw [hb.block k (by simp; omega)]; exact Below.heap_alloc w0 _ k hk⟩
  exact ⟨h1, Nat.le_refl _, (((h.setCell (Nat.le_refl _) _).setCell (Nat.le_refl _) _).setCell (Nat.le_refl _) _).setCell (Nat.le_refl _) _⟩
theorem fresh_cell {w : World} {B : Nat} {cs : Array Value} {t : TypeId} (h : w.heap[B]? = some (.cells cs t)) (i : Nat) : w.cell? ⟨B, i, none⟩ = cs[i]? := cell_of_row w B i cs t (0, 0) h
theorem fresh_frozen {w : World} {B : Nat} {cs : Array Value} {t : TypeId} (h : w.heap[B]? = some (.cells cs t)) (i : Nat) : w.frozen? ⟨B, i, none⟩ = false := by
  simp [World.frozen?, h]
theorem At.look {w : World} {g b c : Nat} {E : Tab} {laid : Int} (h : At w g b c E laid) (n : List UInt8) (hn : n.length = 32) (x : Ent) (ok : Bool) (hx : (E n).getD Ent.z = x) (ho : (E n).isSome = ok) :
    At w g b c E laid ∧ w.cell? ⟨g, 0, none⟩ = some (.map (some b)) ∧ (Instr.lookup 73 (.map (some b)) (nameV n) true).run Tryz.prog w = .ok (.tuple #[.agg #[.string x.value, .int .u32 x.flags, .int .i64 x.exp, .int .u64 x.cas], .bool ok]) w := by
  refine ⟨h, by rw [Lib.cell_of_heap h.cell]; rfl, ?_⟩
  obtain ⟨D, ho', h1, h2⟩ := h.map
  obtain ⟨u, ps, hrun, hu⟩ := ho'.look_ok law Tryz.underlying73 (zeroEnt w) (zd := .held Ent.z.v) (zp := []) rfl (key_name n hn)
  rw [(h2 (.string n) trivial).1] at hu
  have e := tokR_inj hu
  have e2 : (litF E (.string n)).getD Ent.z.v = x.v := by
    subst hx
    show ((E n).map Ent.v).getD Ent.z.v = _
    cases E n <;> rfl
  have e3 : (litF E (.string n)).isSome = ok := by
    subst ho
    show ((E n).map Ent.v).isSome = _
    cases E n <;> rfl
  rw [hrun, e, e2, (h2 (.string n) trivial).2, e3]
  rfl
theorem results_cell_tmp_row {P : Program} {fn : Func} {p u : Tmp} {ty : TypeId} (h : fn.results = #[.cell p ty, .tmp u]) (tmps : Array Value) (w : World) (g : Nat) (t : TypeId) (cs : Array Value) (fr : Nat × Nat) (d : TypeDesc)
    (hp : tmps.getD p undef = .pointer (some ⟨g, 0, none⟩)) (hg : w.heap[g]? = some (.cells cs t fr))
    (hu : P.underlying ty = some d) (hd : (match d with | .struct _ | .array _ _ => true | _ => false) = true) (hi : (P.info? ty).map (·.size) = some cs.size) :
    (results fn tmps).run P w = .ok (.tuple #[.agg cs, tmps.getD u undef]) w := by
  rw [results_cell_tmp h, hp]
  simp [asAddr, run_loadVar_row w g t ty cs fr d hg hu hd hi, Result.andThen]
theorem set4 {w : World} {B : Nat} {x0 x1 x2 x3 a b c d : Value} {t : TypeId} (h : w.heap[B]? = some (.cells #[x0, x1, x2, x3] t)) :
    ((((w.setCell ⟨B, 0, none⟩ a).setCell ⟨B, 1, none⟩ b).setCell ⟨B, 2, none⟩ c).setCell ⟨B, 3, none⟩ d).heap[B]? = some (.cells #[a, b, c, d] t) :=
  Lib.heap_setCell_same (Lib.heap_setCell_same (Lib.heap_setCell_same (Lib.heap_setCell_same (i := 0) h a) (i := 1) b) (i := 2) c) (i := 3) d
theorem set4_below {w0 w : World} {n B : Nat} {a b c d : Value} (h : Below n w0 w) (hB : n ≤ B) : Below n w0 ((((w.setCell ⟨B, 0, none⟩ a).setCell ⟨B, 1, none⟩ b).setCell ⟨B, 2, none⟩ c).setCell ⟨B, 3, none⟩ d) :=
  (((h.setCell hB _).setCell hB _).setCell hB _).setCell hB _
theorem below_alloc_out {w wc : World} {o : Obj} (h : Below (w.heap.size + 1) (w.alloc o) wc) : Below w.heap.size w wc := ((Below.refl _ w).alloc (Nat.le_refl _) o).trans (h.mono (by omega))
theorem get_none {E : Tab} {key : ByteArray} {now : Int} (h : (E (nm key)).isSome = false) : get E key now = none := by
  unfold get
  cases he : E (nm key) with
  | none => rfl
  | some x => rw [he] at h; cases h
theorem get_some {E : Tab} {key : ByteArray} {now : Int} {x : Ent} (h : (E (nm key)).isSome = true) (hx : (E (nm key)).getD Ent.z = x) : get E key now = if strip (nm key) = key.data.toList ∧ gone x now = false then some x else none := by
  unfold get
  cases he : E (nm key) with
  | none => rw [he] at h; cases h
  | some y => rw [he] at hx; obtain rfl : y = x := hx; rfl
set_option maxHeartbeats 8000000 in
set_option maxRecDepth 100000 in
theorem Get_calls (w : World) (g b c : Nat) (E : Tab) (laid : Int) (key : ByteArray) (now : Int) (hA : At w g b c E laid) :
    Calls Tryz.prog 19 #[.pointer (some ⟨g, 0, none⟩), .string key, .int .i64 now] w fun e w' => e = .returned (.tuple #[((get E key now).getD Ent.z).v, .bool (get E key now).isSome]) ∧ Below w.heap.size w w' := by
  have hg := hA.lt
  have hgb := hA.ltb
  have H0 := Aside0.mk hA
  obtain ⟨x, hx⟩ : ∃ x, (E (nm key)).getD Ent.z = x := ⟨_, rfl⟩
  obtain ⟨ok, ho⟩ : ∃ ok, (E (nm key)).isSome = ok := ⟨_, rfl⟩
  have HX := Aside0.mk hx
  have HO := Aside0.mk ho
  clear hA hx ho
  go_enter Tryz.func19, Tryz.ntmps19
  go_upto_region 1 with fail
  go_cut [8, 9] (fun v8 v9 wc => ∃ B, v8 = .pointer (some ⟨B, 0, none⟩) ∧ v9 = .bool ok ∧ wc.heap[B]? = some (.cells #[.string x.value, .int .u32 x.flags, .int .i64 x.exp, .int .u64 x.cas] 51) ∧ w.heap.size + 1 ≤ B ∧ Aside0 (At wc g b c E laid) ∧ Aside0 (Below (w.heap.size + 1) (w.alloc (.cells #[.string ⟨#[]⟩, .int .u32 0, .int .i64 0, .int .u64 0] 51)) wc))
  case first =>
    have HS := Aside0.mk ((H0.out.alloc (.cells #[.string ⟨#[]⟩, .int .u32 0, .int .i64 0, .int .u64 0] 51)).look (nm key) (nm_len key) x ok HX.out HO.out)
    go_region_held3 (fun w' => At w' g b c E laid ∧ w'.cell? ⟨g, 0, none⟩ = some (.map (some b)) ∧ (Instr.lookup 73 (.map (some b)) (nameV (nm key)) true).run Tryz.prog w' = .ok (.tuple #[.agg #[.string x.value, .int .u32 x.flags, .int .i64 x.exp, .int .u64 x.cas], .bool ok]) w')
      ((refine At.look (E := E) (laid := laid) (c := c) ?_ _ (nm_len key) _ _ HX.out HO.out; first | exact And.left (by assumption) | exact HS.out.1.drew | exact At.alloc (At.below HS.out.1.drew hb) _ | exact (At.alloc HS.out.1 _).drew | (refine At.below ?_ hb; exact And.left (by assumption)) | (refine At.alloc ?_ _; exact And.left (by assumption)) | (repeat refine At.setCell ?_ (show w.heap.size + 1 ≠ g by omega) (show w.heap.size + 1 ≠ b by omega) _); exact And.left (by assumption)))
      (first | (go_at_call 27; refine (named_calls key _).mono ?_; rintro e w' ⟨rfl, hb⟩; (first | (have hq := fresh_block (B := w.heap.size + 1) hb (size_al w _); have q0 := fresh_cell hq 0; have q1 := fresh_cell hq 1; have q2 := fresh_cell hq 2; have q3 := fresh_cell hq 3; simp only [List.getElem?_toArray, List.getElem?_cons_zero, List.getElem?_cons_succ] at q0 q1 q2 q3; have f0 := fresh_frozen hq 0; have f1 := fresh_frozen hq 1; have f2 := fresh_frozen hq 2; have f3 := fresh_frozen hq 3) | skip)))
    all_goals
      go_wp2_with fail
      go_meet
      case rel =>
        first
          | exact ⟨_, rfl, rfl, (wayA (n := w.heap.size + 1) hb (size_al w _)).1, (wayA (Z := .cells #[] 0) (n := w.heap.size + 1) hb (size_al w _)).2.1, ⟨And.left (by assumption)⟩, ⟨(wayA (n := w.heap.size + 1) hb (size_al w _)).2.2⟩⟩
          | exact ⟨_, rfl, rfl, (wayB (n := w.heap.size + 1) hb (size_al w _)).1, Nat.le_refl _, ⟨And.left (by assumption)⟩, ⟨(wayB (n := w.heap.size + 1) hb (size_al w _)).2.2⟩⟩
  case rest =>
    obtain ⟨B, rfl, rfl, hB, hBn, HA, HW⟩ := hcut
    have hr : wc.heap[w.heap.size]? = some (.cells #[.string ⟨#[]⟩, .int .u32 0, .int .i64 0, .int .u64 0] 51) := (HW.out.block w.heap.size (by omega)).trans (heap_alloc_new w _)
    have hlt : B < wc.heap.size := blk_lt hB
    cases ok with
    | false =>
      have r0 := fresh_cell hr 0
      have r1 := fresh_cell hr 1
      have r2 := fresh_cell hr 2
      have r3 := fresh_cell hr 3
      have f0 := fresh_frozen hr 0
      have f1 := fresh_frozen hr 1
      have f2 := fresh_frozen hr 2
      have f3 := fresh_frozen hr 3
      simp only [List.getElem?_toArray, List.getElem?_cons_zero, List.getElem?_cons_succ] at r0 r1 r2 r3
      go_wp2
      refine bodyPost_ret (results_cell_tmp_row rfl _ _ w.heap.size _ _ _ _ rfl (set4 hr) Tryz.underlying51 rfl (by kernel_rfl)) rfl ?_
      rw [get_none HO.out]
      exact ⟨rfl, set4_below (below_alloc_out HW.out) (Nat.le_refl _)⟩
    | true =>
      go_wp2_with fail
      refine (named_calls key _).mono ?_
      rintro e w1 ⟨rfl, hb1⟩
      go_wp2_with fail
      by_cases hs : strip (nm key) = key.data.toList
      · have hk : (⟨(strip (nm key)).toArray⟩ : ByteArray) = key := by rw [hs]
        have hkc := key_calls _ (nm_len key)
        rw [hk] at hkc
        refine (hkc _).mono ?_
        rintro e w2 ⟨rfl, hb2⟩
        have hb12 : Below wc.heap.size wc w2 := hb1.trans (hb2.mono hb1.size)
        have hB2 := (hb12.block B hlt).trans hB
        have hr2 := (hb12.block w.heap.size (blk_lt hr)).trans hr
        have HW2 := Aside0.mk ((below_alloc_out HW.out).trans (hb12.mono (below_alloc_out HW.out).size))
        have p0 := fresh_cell hB2 0
        have p1 := fresh_cell hB2 1
        have p2 := fresh_cell hB2 2
        have p3 := fresh_cell hB2 3
        simp only [List.getElem?_toArray, List.getElem?_cons_zero, List.getElem?_cons_succ] at p0 p1 p2 p3
        have HR2 := Lib.hid hr2
        have HB2 := Lib.hid hB2
        clear hb1 hb2 hb12 hr hB hkc hk hr2 hB2 hlt HW
        go_wp2_with fail
        refine (clock_Gone.calls _ _ _ _ (gone_is x now)).mono ?_
        rintro e w3 ⟨rfl, hd3⟩
        have hb3 := hd3.below
        have hB3 := (hb3.block B (blk_lt HB2.out)).trans HB2.out
        have hr3 := (hb3.block w.heap.size (blk_lt HR2.out)).trans HR2.out
        have p0 := fresh_cell hB3 0
        have p1 := fresh_cell hB3 1
        have p2 := fresh_cell hB3 2
        have p3 := fresh_cell hB3 3
        have r0 := fresh_cell hr3 0
        have r1 := fresh_cell hr3 1
        have r2 := fresh_cell hr3 2
        have r3 := fresh_cell hr3 3
        have f0 := fresh_frozen hr3 0
        have f1 := fresh_frozen hr3 1
        have f2 := fresh_frozen hr3 2
        have f3 := fresh_frozen hr3 3
        simp only [List.getElem?_toArray, List.getElem?_cons_zero, List.getElem?_cons_succ] at p0 p1 p2 p3 r0 r1 r2 r3
        have HW3 := Aside0.mk (HW2.out.trans (hb3.mono HW2.out.size))
        have HR3 := Lib.hid hr3
        have HS := Lib.hid hs
        have HO' := HO.out
        have HX' := HX.out
        clear hd3 hb3 hB3 hr3 HR2 HB2 HW2 hs
        have hget := get_some (now := now) HO' HX'
        have HGET := Lib.hid hget
        clear hget HO' HX'
        cases hgn : gone x now with
        | true =>
          have HGN := Lib.hid hgn
          clear hgn
          go_wp2
          refine bodyPost_ret (results_cell_tmp_row rfl _ _ w.heap.size _ _ _ _ rfl (set4 HR3.out) Tryz.underlying51 rfl (by kernel_rfl)) rfl ?_
          rw [HGET.out, if_neg (by rw [HGN.out]; rintro ⟨_, h⟩; cases h)]
          exact ⟨rfl, set4_below HW3.out (Nat.le_refl _)⟩
        | false =>
          have HGN := Lib.hid hgn
          clear hgn
          go_wp2
          refine bodyPost_ret (results_cell_tmp_row rfl _ _ w.heap.size _ _ _ _ rfl (set4 HR3.out) Tryz.underlying51 rfl (by kernel_rfl)) rfl ?_
          rw [HGET.out, if_pos ⟨HS.out, HGN.out⟩]
          exact ⟨rfl, set4_below HW3.out (Nat.le_refl _)⟩
      · refine (key_calls _ (nm_len key) _).mono ?_
        rintro e w2 ⟨rfl, hb2⟩
        have hb12 : Below wc.heap.size wc w2 := hb1.trans (hb2.mono hb1.size)
        have hr2 := (hb12.block w.heap.size (blk_lt hr)).trans hr
        have HW2 := Aside0.mk ((below_alloc_out HW.out).trans (hb12.mono (below_alloc_out HW.out).size))
        have r0 := fresh_cell hr2 0
        have r1 := fresh_cell hr2 1
        have r2 := fresh_cell hr2 2
        have r3 := fresh_cell hr2 3
        have f0 := fresh_frozen hr2 0
        have f1 := fresh_frozen hr2 1
        have f2 := fresh_frozen hr2 2
        have f3 := fresh_frozen hr2 3
        simp only [List.getElem?_toArray, List.getElem?_cons_zero, List.getElem?_cons_succ] at r0 r1 r2 r3
        have HR2 := Lib.hid hr2
        have hs' : ¬ strip (nm key) = key.toList := by rw [ByteArray.toList_eq]; exact hs
        have HS := Lib.hid hs
        clear hb1 hb2 hb12 hr hB hr2 hlt HW hs
        go_wp2
        refine bodyPost_ret (results_cell_tmp_row rfl _ _ w.heap.size _ _ _ _ rfl (set4 HR2.out) Tryz.underlying51 rfl (by kernel_rfl)) rfl ?_
        rw [get_some (now := now) HO.out HX.out, if_neg (fun h => HS.out h.1)]
        exact ⟨rfl, set4_below HW2.out (Nat.le_refl _)⟩
end Go.Proofs.YtdihoopofhediaaGreatDoor.Mdl
end
