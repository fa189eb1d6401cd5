/- Put together by wip/pack.py (this session's own program) out of this session's texts; a kit's tool laid the words and the shelf, of which only what is used stands here. Lean checks it. -/
import Derived.Test.YtfboejlemnfndaaGreatDoorPMk7
import Derived.Test.YtfboejlemnfndaaGreatDoorProg
import Derived.Lib.Split
import Derived.Lib.Join
import Derived.Lib.ItoaNum
import Derived.Lib.ParseIntB
import Derived.Lib.IndexBytes
section
namespace Go.Proofs.YtfboejlemnfndaaGreatDoor.XMk
open Go.RowKit Go.Proofs.YtfboejlemnfndaaGreatDoorW.PrintWords Go.Proofs.YtfboejlemnfndaaGreatDoorW.PrintLast Go.Proofs.YtfboejlemnfndaaGreatDoorW.PrintMore
attribute [local go_sem] extract_sub max2_int min2_int max_two min_two max_three min_three max_four min_four   -- for this text's walks alone
set_option linter.unusedVariables false
set_option linter.unusedSimpArgs false

noncomputable section
def tallboylaw27_MetaChecks.f (k : Nat) (a0_0 : Int) (a0_1 : ByteArray) (a0_2 : Int) (l0_3 : List (S59)) (a1 : Int) : Option (Bool) := (tallboylaw27_Great.f k a0_0 a0_1 a0_2 l0_3).bind fun t297 => (if t297 = true then (some true) else ((tallboylaw27_To.f k a0_0 a0_1 a0_2 l0_3).bind fun bt298 => ((meta_Write.f k bt298.1 bt298.2.1 bt298.2.2.1 bt298.2.2.2).bind fun bt304 => ((tallboyref27_Write.f k a0_0 a0_1 a0_2 l0_3).bind fun bt306 => ((tallboylaw27_To.f k a0_0 a0_1 a0_2 l0_3).bind fun bt308 => ((meta_Number.f k bt308.1 bt308.2.1 bt308.2.2.1 bt308.2.2.2 a1).bind fun bt314 => ((tallboyref27_Number.f k a0_0 a0_1 a0_2 l0_3 a1).bind fun bt317 => ((tallboylaw27_To.f k a0_0 a0_1 a0_2 l0_3).bind fun bt320 => ((meta_Find.f bt320.1 bt320.2.1 bt320.2.2.1 bt320.2.2.2 a1).bind fun bt326 => ((tallboyref27_Find.f k a0_0 a0_1 a0_2 l0_3 a1).bind fun bt328 => ((tallboylaw27_To.f k a0_0 a0_1 a0_2 l0_3).bind fun bt330 => ((meta_Check.f k bt330.1 bt330.2.1 bt330.2.2.1 bt330.2.2.2).bind fun t336 => ((tallboyref27_Check.f k a0_0 a0_1 a0_2 l0_3).bind fun t337 => (if t336 = t337 then (if bt304.1.toList = bt306.1.toList then (if bt304.2 = bt306.2 then (if bt314.1 = bt317.1 then (if bt314.2.1 = bt317.2.1 then (if (bt314.2.2 == bt317.2.2) = true then (if bt326.1.toList = bt328.1.toList then (if (bt326.2 == bt328.2) = true then ((tallboylaw27_To.f k a0_0 a0_1 a0_2 l0_3).bind fun bt338 => ((meta_Canon.f bt338.1 bt338.2.1 bt338.2.2.1 bt338.2.2.2).bind fun bt344 => ((tallboylaw27_From.f k bt344.1 bt344.2.1 bt344.2.2.1 bt344.2.2.2).bind fun bt350 => ((tallboyref27_Canon.f k a0_0 a0_1 a0_2 l0_3).bind fun bt356 => ((tallboyref27_Same.f k bt350.1 bt350.2.1 bt350.2.2.1 bt350.2.2.2 bt356.1 bt356.2.1 bt356.2.2.1 bt356.2.2.2).bind fun t362 => (some t362)))))) else (some false)) else (some false)) else (some false)) else (some false)) else (some false)) else (some false)) else (some false)) else (some false)))))))))))))))
theorem tallboylaw27_MetaChecks.mono : ∀ a0 a1 a2 a3 a4 k, LeO (tallboylaw27_MetaChecks.f k a0 a1 a2 a3 a4) (tallboylaw27_MetaChecks.f (k + 1) a0 a1 a2 a3 a4) := by
 intro a0 a1 a2 a3 a4 k
 unfold tallboylaw27_MetaChecks.f
 repeat' first
  | (with_reducible exact meta_Check.mono _ _ _ _ _)
  | (with_reducible exact meta_Number.mono _ _ _ _ _ _)
  | (with_reducible exact meta_Write.mono _ _ _ _ _)
  | (with_reducible exact tallboylaw27_From.mono _ _ _ _ _)
  | (with_reducible exact tallboylaw27_Great.mono _ _ _ _ _)
  | (with_reducible exact tallboylaw27_To.mono _ _ _ _ _)
  | (with_reducible exact tallboyref27_Canon.mono _ _ _ _ _)
  | (with_reducible exact tallboyref27_Check.mono _ _ _ _ _)
  | (with_reducible exact tallboyref27_Find.mono _ _ _ _ _ _)
  | (with_reducible exact tallboyref27_Number.mono _ _ _ _ _ _)
  | (with_reducible exact tallboyref27_Same.mono _ _ _ _ _ _ _ _ _)
  | (with_reducible exact tallboyref27_Write.mono _ _ _ _ _)
  | (with_reducible exact LeO.refl _)
  | (with_reducible exact LeO.none _)
  | (with_reducible refine LeO.ite ?_ ?_)
  | (with_reducible refine LeO.bind ?_ (fun _ => ?_))
  | exact meta_Check.mono _ _ _ _ _
  | exact meta_Number.mono _ _ _ _ _ _
  | exact meta_Write.mono _ _ _ _ _
  | exact tallboylaw27_From.mono _ _ _ _ _
  | exact tallboylaw27_Great.mono _ _ _ _ _
  | exact tallboylaw27_To.mono _ _ _ _ _
  | exact tallboyref27_Canon.mono _ _ _ _ _
  | exact tallboyref27_Check.mono _ _ _ _ _
  | exact tallboyref27_Find.mono _ _ _ _ _ _
  | exact tallboyref27_Number.mono _ _ _ _ _ _
  | exact tallboyref27_Same.mono _ _ _ _ _ _ _ _ _
  | exact tallboyref27_Write.mono _ _ _ _ _
  | exact LeO.none _
  | refine LeO.ite ?_ ?_
  | refine LeO.bind ?_ (fun _ => ?_)
def tallboylaw27_MetaChecks.T9 : Bool × List (List Nat × List Nat) := (true, [([], []), ([0], [0]), ([1, 1], [1]), ([], []), ([3, 2], [3]), ([2, 4], [2, 4]), ([5, 4], [5]), ([6], [6]), ([6], [6]), ([7, 8, 6], [6, 7, 8]), ([6, 9], [6, 9]), ([10, 6], [10]), ([11], [11]), ([11], [11]), ([12, 13, 11], [11, 12, 13]), ([11, 14], [11, 14]), ([15, 11], [15]), ([16], [16]), ([16], [16]), ([17, 18, 16], [16, 17, 18]), ([16, 19], [16, 19]), ([20, 16], [20]), ([21], [21]), ([21], [21]), ([22, 23, 21], [21, 22, 23]), ([21, 24], [21, 24]), ([25, 21], [25]), ([26], [26]), ([26], [26]), ([27, 28, 26], [26, 27, 28]), ([26, 29], [26, 29]), ([30, 26], [30]), ([31], [31]), ([31], [31]), ([32, 33, 31], [31, 32, 33]), ([31, 34], [31, 34]), ([35, 31], [35]), ([36], [36]), ([36], [36]), ([37, 38, 36], [36, 37, 38]), ([36, 39], [36, 39]), ([40, 36], [40]), ([41], [41]), ([42, 41, 41], [41, 42]), ([43, 43, 41], [41, 43]), ([44, 44, 41], [41, 44]), ([41], [41]), ([46, 45, 41], [41, 46]), ([45, 47, 47, 41], [41, 45, 47]), ([41, 48], [41, 48]), ([49, 48, 0, 1, 2, 3, 4, 5, 6, 7, 8, 9, 10, 11, 12, 13, 14, 15, 16, 17, 18, 19, 20, 21, 22, 23, 24, 25, 26, 27, 28, 29, 30, 31, 32, 33, 34, 35, 36, 37, 38, 39, 40, 41, 42, 43, 44, 45, 46, 47, 48, 49], [49])])
def tallboylaw27_MetaChecks.B9 : List Nat := [0, 1, 3, 0, 15, 31, 63, 127, 127, 511, 1023, 2047, 4095, 4095, 16383, 32767, 65535, 131071, 131071, 524287, 1048575, 2097151, 4194303, 4194303, 16777215, 33554431, 67108863, 134217727, 134217727, 536870911, 1073741823, 2147483647, 4294967295, 4294967295, 17179869183, 34359738367, 68719476735, 137438953471, 137438953471, 549755813887, 1099511627775, 2199023255551, 4398046511103, 8796093022207, 17592186044415, 35184372088831, 4398046511103, 140737488355327, 281474976710655, 562949953421311, 1125899906842623]
theorem tallboylaw27_MetaChecks.tab9 : rtab .any (opsOf Tryz.f3 9) = tallboylaw27_MetaChecks.T9 := by kernel_rfl
theorem tallboylaw27_MetaChecks.bits9 : waitsOk tallboylaw27_MetaChecks.T9.2 tallboylaw27_MetaChecks.B9 = true := by kernel_rfl
set_option maxHeartbeats 8000000 in
set_option maxRecDepth 100000 in
theorem tallboylaw27_MetaChecks.calls (k : Nat) (a0_0 : Int) (a0_1 : ByteArray) (a0_2 : Int) (A0_3 : Option Addr) (c0_3 : Nat) (l0_3 : List (S59)) (a1 : Int) (r : Bool) (w : World) (hr0_3 : Kd.C k59 w A0_3 l0_3.length l0_3) (hc0_3 : l0_3.length ≤ c0_3) (hv : Vars w) (h : tallboylaw27_MetaChecks.f k a0_0 a0_1 a0_2 l0_3 a1 = some r) (hrt : r = true) :
 Calls Tryz.prog 3 #[.agg #[.int .i64 a0_0, .string a0_1, .int .i64 a0_2, .slice A0_3 l0_3.length c0_3], .int .u8 a1] w fun e w' => e = .returned (.bool r) ∧ Below w.heap.size w w' := by
 have hu24 := Tryz.underlying24
 have HV := Aside0.mk hv
 clear hv
 have HR0_3 := Aside0.mk hr0_3
 have HC0_3 := Aside0.mk hc0_3
 clear hr0_3 hc0_3
 have HB := Aside0.mk (Below.refl w.heap.size w)
 have H : ((tallboylaw27_Great.f k a0_0 a0_1 a0_2 l0_3).bind fun t297 => (if t297 = true then (some true) else ((tallboylaw27_To.f k a0_0 a0_1 a0_2 l0_3).bind fun bt298 => ((meta_Write.f k bt298.1 bt298.2.1 bt298.2.2.1 bt298.2.2.2).bind fun bt304 => ((tallboyref27_Write.f k a0_0 a0_1 a0_2 l0_3).bind fun bt306 => ((tallboylaw27_To.f k a0_0 a0_1 a0_2 l0_3).bind fun bt308 => ((meta_Number.f k bt308.1 bt308.2.1 bt308.2.2.1 bt308.2.2.2 a1).bind fun bt314 => ((tallboyref27_Number.f k a0_0 a0_1 a0_2 l0_3 a1).bind fun bt317 => ((tallboylaw27_To.f k a0_0 a0_1 a0_2 l0_3).bind fun bt320 => ((meta_Find.f bt320.1 bt320.2.1 bt320.2.2.1 bt320.2.2.2 a1).bind fun bt326 => ((tallboyref27_Find.f k a0_0 a0_1 a0_2 l0_3 a1).bind fun bt328 => ((tallboylaw27_To.f k a0_0 a0_1 a0_2 l0_3).bind fun bt330 => ((meta_Check.f k bt330.1 bt330.2.1 bt330.2.2.1 bt330.2.2.2).bind fun t336 => ((tallboyref27_Check.f k a0_0 a0_1 a0_2 l0_3).bind fun t337 => (if t336 = t337 then (if bt304.1.toList = bt306.1.toList then (if bt304.2 = bt306.2 then (if bt314.1 = bt317.1 then (if bt314.2.1 = bt317.2.1 then (if (bt314.2.2 == bt317.2.2) = true then (if bt326.1.toList = bt328.1.toList then (if (bt326.2 == bt328.2) = true then ((tallboylaw27_To.f k a0_0 a0_1 a0_2 l0_3).bind fun bt338 => ((meta_Canon.f bt338.1 bt338.2.1 bt338.2.2.1 bt338.2.2.2).bind fun bt344 => ((tallboylaw27_From.f k bt344.1 bt344.2.1 bt344.2.2.1 bt344.2.2.2).bind fun bt350 => ((tallboyref27_Canon.f k a0_0 a0_1 a0_2 l0_3).bind fun bt356 => ((tallboyref27_Same.f k bt350.1 bt350.2.1 bt350.2.2.1 bt350.2.2.2 bt356.1 bt356.2.1 bt356.2.2.1 bt356.2.2.2).bind fun t362 => (some t362)))))) else (some false)) else (some false)) else (some false)) else (some false)) else (some false)) else (some false)) else (some false)) else (some false)))))))))))))))) = some r := h
 clear h
 replace H := Option.bind_eq_some_iff.mp H
 obtain ⟨t297, A30, H⟩ := H
 replace H : (if t297 = true then (some true) else ((tallboylaw27_To.f k a0_0 a0_1 a0_2 l0_3).bind fun bt298 => ((meta_Write.f k bt298.1 bt298.2.1 bt298.2.2.1 bt298.2.2.2).bind fun bt304 => ((tallboyref27_Write.f k a0_0 a0_1 a0_2 l0_3).bind fun bt306 => ((tallboylaw27_To.f k a0_0 a0_1 a0_2 l0_3).bind fun bt308 => ((meta_Number.f k bt308.1 bt308.2.1 bt308.2.2.1 bt308.2.2.2 a1).bind fun bt314 => ((tallboyref27_Number.f k a0_0 a0_1 a0_2 l0_3 a1).bind fun bt317 => ((tallboylaw27_To.f k a0_0 a0_1 a0_2 l0_3).bind fun bt320 => ((meta_Find.f bt320.1 bt320.2.1 bt320.2.2.1 bt320.2.2.2 a1).bind fun bt326 => ((tallboyref27_Find.f k a0_0 a0_1 a0_2 l0_3 a1).bind fun bt328 => ((tallboylaw27_To.f k a0_0 a0_1 a0_2 l0_3).bind fun bt330 => ((meta_Check.f k bt330.1 bt330.2.1 bt330.2.2.1 bt330.2.2.2).bind fun t336 => ((tallboyref27_Check.f k a0_0 a0_1 a0_2 l0_3).bind fun t337 => (if t336 = t337 then (if bt304.1.toList = bt306.1.toList then (if bt304.2 = bt306.2 then (if bt314.1 = bt317.1 then (if bt314.2.1 = bt317.2.1 then (if (bt314.2.2 == bt317.2.2) = true then (if bt326.1.toList = bt328.1.toList then (if (bt326.2 == bt328.2) = true then ((tallboylaw27_To.f k a0_0 a0_1 a0_2 l0_3).bind fun bt338 => ((meta_Canon.f bt338.1 bt338.2.1 bt338.2.2.1 bt338.2.2.2).bind fun bt344 => ((tallboylaw27_From.f k bt344.1 bt344.2.1 bt344.2.2.1 bt344.2.2.2).bind fun bt350 => ((tallboyref27_Canon.f k a0_0 a0_1 a0_2 l0_3).bind fun bt356 => ((tallboyref27_Same.f k bt350.1 bt350.2.1 bt350.2.2.1 bt350.2.2.2 bt356.1 bt356.2.1 bt356.2.2.1 bt356.2.2.2).bind fun t362 => (some t362)))))) else (some false)) else (some false)) else (some false)) else (some false)) else (some false)) else (some false)) else (some false)) else (some false))))))))))))))) = some r := H
 have A3 := Aside0.mk A30
 clear A30
 by_cases c4 : t297 = true
 · subst c4
   have H1 : (some true) = some r := by rw [if_pos rfl] at H; exact H
   clear H
   have H := H1
   clear H1
   obtain rfl := Option.some.inj H
   go_enter Tryz.func3, Tryz.ntmps3
   go_wp2_with (first | ((with_reducible refine gate_dst (N := 2) rfl ?_); refine box_event ?hg (N := 2) ?hd (cs := #[.int .i64 a0_0, .string a0_1, .int .i64 a0_2, .slice A0_3 l0_3.length c0_3]) (t := 24) ?hr ?_; (case hd => rfl); (case hg => rfl); (case hr => first | (go_simp; done) | (go_simp; rfl)); intro gb296 hg w5 hbox hb; have n0_ := Aside0.mk (below_step (hbA HB.out) hb); have n1_ := Aside0.mk (hbox); have n2_ := Aside0.mk ((by rw [hg]; exact (below_size (hbA HB.out)) : w.heap.size ≤ gb296)); have n3_ := Aside0.mk ((by rw [hg]; exact (below_size (hbA HB.out)) : w.heap.size ≤ gb296)); clear HB; have HB := n0_; have BK296 := n1_; have GW296 := n2_; have GE296 := n3_; clear n0_ n1_ n2_ n3_; clear hb hbox hg; obtain ⟨hcz6_0, hcz6_1, hcz6_2, hcz6_3, hfz6_0, hfz6_1, hfz6_2, hfz6_3⟩ := blkA4 BK296.out) | ((with_reducible refine gate_callee (f := 9) rfl ?_); refine goesL_ (some 20) rfl rfl Tryz.func9 (by kernel_rfl) rfl #[.agg #[.int .i64 a0_0, .string a0_1, .int .i64 a0_2, .slice A0_3 l0_3.length c0_3]] rfl argA ?_; (with_reducible refine (tallboylaw27_Great.calls k a0_0 a0_1 a0_2 _ _ l0_3 true _ ?side1 ?side2 A3.out).mono ?_); (case side1 => repeat (first | exact (Kd.C_below HR0_3.out HB.out) | (with_reducible refine Kd.C_alloc ?_ _) | (with_reducible refine Kd.C_drewN ?_ _) | (with_reducible refine Kd.C_drew ?_))); (case side2 => exact HC0_3.out); rintro e w7 ⟨rfl, hb⟩; refine ⟨_, rfl, ?_⟩; replace BK296 := Aside0.mk (blk_below (g := gb296) (o := .cells #[.int .i64 a0_0, .string a0_1, .int .i64 a0_2, .slice A0_3 l0_3.length c0_3] 24 (0, 0)) (rbA BK296.out) hb); replace HB := Aside0.mk (below_step (hbA HB.out) hb); (try clear hb); (try clear hb2); (try clear hk); (try clear hi)))
   go_ret
   exact ⟨reA, hbA HB.out⟩
 replace c4 := Bool.eq_false_iff.mpr c4
 subst c4
 have H1 : ((tallboylaw27_To.f k a0_0 a0_1 a0_2 l0_3).bind fun bt298 => ((meta_Write.f k bt298.1 bt298.2.1 bt298.2.2.1 bt298.2.2.2).bind fun bt304 => ((tallboyref27_Write.f k a0_0 a0_1 a0_2 l0_3).bind fun bt306 => ((tallboylaw27_To.f k a0_0 a0_1 a0_2 l0_3).bind fun bt308 => ((meta_Number.f k bt308.1 bt308.2.1 bt308.2.2.1 bt308.2.2.2 a1).bind fun bt314 => ((tallboyref27_Number.f k a0_0 a0_1 a0_2 l0_3 a1).bind fun bt317 => ((tallboylaw27_To.f k a0_0 a0_1 a0_2 l0_3).bind fun bt320 => ((meta_Find.f bt320.1 bt320.2.1 bt320.2.2.1 bt320.2.2.2 a1).bind fun bt326 => ((tallboyref27_Find.f k a0_0 a0_1 a0_2 l0_3 a1).bind fun bt328 => ((tallboylaw27_To.f k a0_0 a0_1 a0_2 l0_3).bind fun bt330 => ((meta_Check.f k bt330.1 bt330.2.1 bt330.2.2.1 bt330.2.2.2).bind fun t336 => ((tallboyref27_Check.f k a0_0 a0_1 a0_2 l0_3).bind fun t337 => (if t336 = t337 then (if bt304.1.toList = bt306.1.toList then (if bt304.2 = bt306.2 then (if bt314.1 = bt317.1 then (if bt314.2.1 = bt317.2.1 then (if (bt314.2.2 == bt317.2.2) = true then (if bt326.1.toList = bt328.1.toList then (if (bt326.2 == bt328.2) = true then ((tallboylaw27_To.f k a0_0 a0_1 a0_2 l0_3).bind fun bt338 => ((meta_Canon.f bt338.1 bt338.2.1 bt338.2.2.1 bt338.2.2.2).bind fun bt344 => ((tallboylaw27_From.f k bt344.1 bt344.2.1 bt344.2.2.1 bt344.2.2.2).bind fun bt350 => ((tallboyref27_Canon.f k a0_0 a0_1 a0_2 l0_3).bind fun bt356 => ((tallboyref27_Same.f k bt350.1 bt350.2.1 bt350.2.2.1 bt350.2.2.2 bt356.1 bt356.2.1 bt356.2.2.1 bt356.2.2.2).bind fun t362 => (some t362)))))) else (some false)) else (some false)) else (some false)) else (some false)) else (some false)) else (some false)) else (some false)) else (some false)))))))))))))) = some r := by rw [if_neg (show ¬ (false = true) by decide)] at H; exact H
 clear H
 have H := H1
 clear H1
 replace H := Option.bind_eq_some_iff.mp H
 obtain ⟨⟨t298, t299, t300, t301⟩, A80, H⟩ := H
 replace H : ((meta_Write.f k t298 t299 t300 t301).bind fun bt304 => ((tallboyref27_Write.f k a0_0 a0_1 a0_2 l0_3).bind fun bt306 => ((tallboylaw27_To.f k a0_0 a0_1 a0_2 l0_3).bind fun bt308 => ((meta_Number.f k bt308.1 bt308.2.1 bt308.2.2.1 bt308.2.2.2 a1).bind fun bt314 => ((tallboyref27_Number.f k a0_0 a0_1 a0_2 l0_3 a1).bind fun bt317 => ((tallboylaw27_To.f k a0_0 a0_1 a0_2 l0_3).bind fun bt320 => ((meta_Find.f bt320.1 bt320.2.1 bt320.2.2.1 bt320.2.2.2 a1).bind fun bt326 => ((tallboyref27_Find.f k a0_0 a0_1 a0_2 l0_3 a1).bind fun bt328 => ((tallboylaw27_To.f k a0_0 a0_1 a0_2 l0_3).bind fun bt330 => ((meta_Check.f k bt330.1 bt330.2.1 bt330.2.2.1 bt330.2.2.2).bind fun t336 => ((tallboyref27_Check.f k a0_0 a0_1 a0_2 l0_3).bind fun t337 => (if t336 = t337 then (if bt304.1.toList = bt306.1.toList then (if bt304.2 = bt306.2 then (if bt314.1 = bt317.1 then (if bt314.2.1 = bt317.2.1 then (if (bt314.2.2 == bt317.2.2) = true then (if bt326.1.toList = bt328.1.toList then (if (bt326.2 == bt328.2) = true then ((tallboylaw27_To.f k a0_0 a0_1 a0_2 l0_3).bind fun bt338 => ((meta_Canon.f bt338.1 bt338.2.1 bt338.2.2.1 bt338.2.2.2).bind fun bt344 => ((tallboylaw27_From.f k bt344.1 bt344.2.1 bt344.2.2.1 bt344.2.2.2).bind fun bt350 => ((tallboyref27_Canon.f k a0_0 a0_1 a0_2 l0_3).bind fun bt356 => ((tallboyref27_Same.f k bt350.1 bt350.2.1 bt350.2.2.1 bt350.2.2.2 bt356.1 bt356.2.1 bt356.2.2.1 bt356.2.2.2).bind fun t362 => (some t362)))))) else (some false)) else (some false)) else (some false)) else (some false)) else (some false)) else (some false)) else (some false)) else (some false))))))))))))) = some r := H
 have A8 := Aside0.mk A80
 clear A80
 replace H := Option.bind_eq_some_iff.mp H
 obtain ⟨⟨t304, t305⟩, A90, H⟩ := H
 replace H : ((tallboyref27_Write.f k a0_0 a0_1 a0_2 l0_3).bind fun bt306 => ((tallboylaw27_To.f k a0_0 a0_1 a0_2 l0_3).bind fun bt308 => ((meta_Number.f k bt308.1 bt308.2.1 bt308.2.2.1 bt308.2.2.2 a1).bind fun bt314 => ((tallboyref27_Number.f k a0_0 a0_1 a0_2 l0_3 a1).bind fun bt317 => ((tallboylaw27_To.f k a0_0 a0_1 a0_2 l0_3).bind fun bt320 => ((meta_Find.f bt320.1 bt320.2.1 bt320.2.2.1 bt320.2.2.2 a1).bind fun bt326 => ((tallboyref27_Find.f k a0_0 a0_1 a0_2 l0_3 a1).bind fun bt328 => ((tallboylaw27_To.f k a0_0 a0_1 a0_2 l0_3).bind fun bt330 => ((meta_Check.f k bt330.1 bt330.2.1 bt330.2.2.1 bt330.2.2.2).bind fun t336 => ((tallboyref27_Check.f k a0_0 a0_1 a0_2 l0_3).bind fun t337 => (if t336 = t337 then (if t304.toList = bt306.1.toList then (if t305 = bt306.2 then (if bt314.1 = bt317.1 then (if bt314.2.1 = bt317.2.1 then (if (bt314.2.2 == bt317.2.2) = true then (if bt326.1.toList = bt328.1.toList then (if (bt326.2 == bt328.2) = true then ((tallboylaw27_To.f k a0_0 a0_1 a0_2 l0_3).bind fun bt338 => ((meta_Canon.f bt338.1 bt338.2.1 bt338.2.2.1 bt338.2.2.2).bind fun bt344 => ((tallboylaw27_From.f k bt344.1 bt344.2.1 bt344.2.2.1 bt344.2.2.2).bind fun bt350 => ((tallboyref27_Canon.f k a0_0 a0_1 a0_2 l0_3).bind fun bt356 => ((tallboyref27_Same.f k bt350.1 bt350.2.1 bt350.2.2.1 bt350.2.2.2 bt356.1 bt356.2.1 bt356.2.2.1 bt356.2.2.2).bind fun t362 => (some t362)))))) else (some false)) else (some false)) else (some false)) else (some false)) else (some false)) else (some false)) else (some false)) else (some false)))))))))))) = some r := H
 have A9 := Aside0.mk A90
 clear A90
 replace H := Option.bind_eq_some_iff.mp H
 obtain ⟨⟨t306, t307⟩, A100, H⟩ := H
 replace H : ((tallboylaw27_To.f k a0_0 a0_1 a0_2 l0_3).bind fun bt308 => ((meta_Number.f k bt308.1 bt308.2.1 bt308.2.2.1 bt308.2.2.2 a1).bind fun bt314 => ((tallboyref27_Number.f k a0_0 a0_1 a0_2 l0_3 a1).bind fun bt317 => ((tallboylaw27_To.f k a0_0 a0_1 a0_2 l0_3).bind fun bt320 => ((meta_Find.f bt320.1 bt320.2.1 bt320.2.2.1 bt320.2.2.2 a1).bind fun bt326 => ((tallboyref27_Find.f k a0_0 a0_1 a0_2 l0_3 a1).bind fun bt328 => ((tallboylaw27_To.f k a0_0 a0_1 a0_2 l0_3).bind fun bt330 => ((meta_Check.f k bt330.1 bt330.2.1 bt330.2.2.1 bt330.2.2.2).bind fun t336 => ((tallboyref27_Check.f k a0_0 a0_1 a0_2 l0_3).bind fun t337 => (if t336 = t337 then (if t304.toList = t306.toList then (if t305 = t307 then (if bt314.1 = bt317.1 then (if bt314.2.1 = bt317.2.1 then (if (bt314.2.2 == bt317.2.2) = true then (if bt326.1.toList = bt328.1.toList then (if (bt326.2 == bt328.2) = true then ((tallboylaw27_To.f k a0_0 a0_1 a0_2 l0_3).bind fun bt338 => ((meta_Canon.f bt338.1 bt338.2.1 bt338.2.2.1 bt338.2.2.2).bind fun bt344 => ((tallboylaw27_From.f k bt344.1 bt344.2.1 bt344.2.2.1 bt344.2.2.2).bind fun bt350 => ((tallboyref27_Canon.f k a0_0 a0_1 a0_2 l0_3).bind fun bt356 => ((tallboyref27_Same.f k bt350.1 bt350.2.1 bt350.2.2.1 bt350.2.2.2 bt356.1 bt356.2.1 bt356.2.2.1 bt356.2.2.2).bind fun t362 => (some t362)))))) else (some false)) else (some false)) else (some false)) else (some false)) else (some false)) else (some false)) else (some false)) else (some false))))))))))) = some r := H
 have A10 := Aside0.mk A100
 clear A100
 replace H := Option.bind_eq_some_iff.mp H
 obtain ⟨⟨t308, t309, t310, t311⟩, A110, H⟩ := H
 replace H : ((meta_Number.f k t308 t309 t310 t311 a1).bind fun bt314 => ((tallboyref27_Number.f k a0_0 a0_1 a0_2 l0_3 a1).bind fun bt317 => ((tallboylaw27_To.f k a0_0 a0_1 a0_2 l0_3).bind fun bt320 => ((meta_Find.f bt320.1 bt320.2.1 bt320.2.2.1 bt320.2.2.2 a1).bind fun bt326 => ((tallboyref27_Find.f k a0_0 a0_1 a0_2 l0_3 a1).bind fun bt328 => ((tallboylaw27_To.f k a0_0 a0_1 a0_2 l0_3).bind fun bt330 => ((meta_Check.f k bt330.1 bt330.2.1 bt330.2.2.1 bt330.2.2.2).bind fun t336 => ((tallboyref27_Check.f k a0_0 a0_1 a0_2 l0_3).bind fun t337 => (if t336 = t337 then (if t304.toList = t306.toList then (if t305 = t307 then (if bt314.1 = bt317.1 then (if bt314.2.1 = bt317.2.1 then (if (bt314.2.2 == bt317.2.2) = true then (if bt326.1.toList = bt328.1.toList then (if (bt326.2 == bt328.2) = true then ((tallboylaw27_To.f k a0_0 a0_1 a0_2 l0_3).bind fun bt338 => ((meta_Canon.f bt338.1 bt338.2.1 bt338.2.2.1 bt338.2.2.2).bind fun bt344 => ((tallboylaw27_From.f k bt344.1 bt344.2.1 bt344.2.2.1 bt344.2.2.2).bind fun bt350 => ((tallboyref27_Canon.f k a0_0 a0_1 a0_2 l0_3).bind fun bt356 => ((tallboyref27_Same.f k bt350.1 bt350.2.1 bt350.2.2.1 bt350.2.2.2 bt356.1 bt356.2.1 bt356.2.2.1 bt356.2.2.2).bind fun t362 => (some t362)))))) else (some false)) else (some false)) else (some false)) else (some false)) else (some false)) else (some false)) else (some false)) else (some false)))))))))) = some r := H
 have A11 := Aside0.mk A110
 clear A110
 replace H := Option.bind_eq_some_iff.mp H
 obtain ⟨⟨t314, t315, t316⟩, A120, H⟩ := H
 replace H : ((tallboyref27_Number.f k a0_0 a0_1 a0_2 l0_3 a1).bind fun bt317 => ((tallboylaw27_To.f k a0_0 a0_1 a0_2 l0_3).bind fun bt320 => ((meta_Find.f bt320.1 bt320.2.1 bt320.2.2.1 bt320.2.2.2 a1).bind fun bt326 => ((tallboyref27_Find.f k a0_0 a0_1 a0_2 l0_3 a1).bind fun bt328 => ((tallboylaw27_To.f k a0_0 a0_1 a0_2 l0_3).bind fun bt330 => ((meta_Check.f k bt330.1 bt330.2.1 bt330.2.2.1 bt330.2.2.2).bind fun t336 => ((tallboyref27_Check.f k a0_0 a0_1 a0_2 l0_3).bind fun t337 => (if t336 = t337 then (if t304.toList = t306.toList then (if t305 = t307 then (if t314 = bt317.1 then (if t315 = bt317.2.1 then (if (t316 == bt317.2.2) = true then (if bt326.1.toList = bt328.1.toList then (if (bt326.2 == bt328.2) = true then ((tallboylaw27_To.f k a0_0 a0_1 a0_2 l0_3).bind fun bt338 => ((meta_Canon.f bt338.1 bt338.2.1 bt338.2.2.1 bt338.2.2.2).bind fun bt344 => ((tallboylaw27_From.f k bt344.1 bt344.2.1 bt344.2.2.1 bt344.2.2.2).bind fun bt350 => ((tallboyref27_Canon.f k a0_0 a0_1 a0_2 l0_3).bind fun bt356 => ((tallboyref27_Same.f k bt350.1 bt350.2.1 bt350.2.2.1 bt350.2.2.2 bt356.1 bt356.2.1 bt356.2.2.1 bt356.2.2.2).bind fun t362 => (some t362)))))) else (some false)) else (some false)) else (some false)) else (some false)) else (some false)) else (some false)) else (some false)) else (some false))))))))) = some r := H
 have A12 := Aside0.mk A120
 clear A120
 replace H := Option.bind_eq_some_iff.mp H
 obtain ⟨⟨t317, t318, t319⟩, A130, H⟩ := H
 replace H : ((tallboylaw27_To.f k a0_0 a0_1 a0_2 l0_3).bind fun bt320 => ((meta_Find.f bt320.1 bt320.2.1 bt320.2.2.1 bt320.2.2.2 a1).bind fun bt326 => ((tallboyref27_Find.f k a0_0 a0_1 a0_2 l0_3 a1).bind fun bt328 => ((tallboylaw27_To.f k a0_0 a0_1 a0_2 l0_3).bind fun bt330 => ((meta_Check.f k bt330.1 bt330.2.1 bt330.2.2.1 bt330.2.2.2).bind fun t336 => ((tallboyref27_Check.f k a0_0 a0_1 a0_2 l0_3).bind fun t337 => (if t336 = t337 then (if t304.toList = t306.toList then (if t305 = t307 then (if t314 = t317 then (if t315 = t318 then (if (t316 == t319) = true then (if bt326.1.toList = bt328.1.toList then (if (bt326.2 == bt328.2) = true then ((tallboylaw27_To.f k a0_0 a0_1 a0_2 l0_3).bind fun bt338 => ((meta_Canon.f bt338.1 bt338.2.1 bt338.2.2.1 bt338.2.2.2).bind fun bt344 => ((tallboylaw27_From.f k bt344.1 bt344.2.1 bt344.2.2.1 bt344.2.2.2).bind fun bt350 => ((tallboyref27_Canon.f k a0_0 a0_1 a0_2 l0_3).bind fun bt356 => ((tallboyref27_Same.f k bt350.1 bt350.2.1 bt350.2.2.1 bt350.2.2.2 bt356.1 bt356.2.1 bt356.2.2.1 bt356.2.2.2).bind fun t362 => (some t362)))))) else (some false)) else (some false)) else (some false)) else (some false)) else (some false)) else (some false)) else (some false)) else (some false)))))))) = some r := H
 have A13 := Aside0.mk A130
 clear A130
 replace H := Option.bind_eq_some_iff.mp H
 obtain ⟨⟨t320, t321, t322, t323⟩, A140, H⟩ := H
 replace H : ((meta_Find.f t320 t321 t322 t323 a1).bind fun bt326 => ((tallboyref27_Find.f k a0_0 a0_1 a0_2 l0_3 a1).bind fun bt328 => ((tallboylaw27_To.f k a0_0 a0_1 a0_2 l0_3).bind fun bt330 => ((meta_Check.f k bt330.1 bt330.2.1 bt330.2.2.1 bt330.2.2.2).bind fun t336 => ((tallboyref27_Check.f k a0_0 a0_1 a0_2 l0_3).bind fun t337 => (if t336 = t337 then (if t304.toList = t306.toList then (if t305 = t307 then (if t314 = t317 then (if t315 = t318 then (if (t316 == t319) = true then (if bt326.1.toList = bt328.1.toList then (if (bt326.2 == bt328.2) = true then ((tallboylaw27_To.f k a0_0 a0_1 a0_2 l0_3).bind fun bt338 => ((meta_Canon.f bt338.1 bt338.2.1 bt338.2.2.1 bt338.2.2.2).bind fun bt344 => ((tallboylaw27_From.f k bt344.1 bt344.2.1 bt344.2.2.1 bt344.2.2.2).bind fun bt350 => ((tallboyref27_Canon.f k a0_0 a0_1 a0_2 l0_3).bind fun bt356 => ((tallboyref27_Same.f k bt350.1 bt350.2.1 bt350.2.2.1 bt350.2.2.2 bt356.1 bt356.2.1 bt356.2.2.1 bt356.2.2.2).bind fun t362 => (some t362)))))) else (some false)) else (some false)) else (some false)) else (some false)) else (some false)) else (some false)) else (some false)) else (some false))))))) = some r := H
 have A14 := Aside0.mk A140
 clear A140
 replace H := Option.bind_eq_some_iff.mp H
 obtain ⟨⟨t326, t327⟩, A150, H⟩ := H
 replace H : ((tallboyref27_Find.f k a0_0 a0_1 a0_2 l0_3 a1).bind fun bt328 => ((tallboylaw27_To.f k a0_0 a0_1 a0_2 l0_3).bind fun bt330 => ((meta_Check.f k bt330.1 bt330.2.1 bt330.2.2.1 bt330.2.2.2).bind fun t336 => ((tallboyref27_Check.f k a0_0 a0_1 a0_2 l0_3).bind fun t337 => (if t336 = t337 then (if t304.toList = t306.toList then (if t305 = t307 then (if t314 = t317 then (if t315 = t318 then (if (t316 == t319) = true then (if t326.toList = bt328.1.toList then (if (t327 == bt328.2) = true then ((tallboylaw27_To.f k a0_0 a0_1 a0_2 l0_3).bind fun bt338 => ((meta_Canon.f bt338.1 bt338.2.1 bt338.2.2.1 bt338.2.2.2).bind fun bt344 => ((tallboylaw27_From.f k bt344.1 bt344.2.1 bt344.2.2.1 bt344.2.2.2).bind fun bt350 => ((tallboyref27_Canon.f k a0_0 a0_1 a0_2 l0_3).bind fun bt356 => ((tallboyref27_Same.f k bt350.1 bt350.2.1 bt350.2.2.1 bt350.2.2.2 bt356.1 bt356.2.1 bt356.2.2.1 bt356.2.2.2).bind fun t362 => (some t362)))))) else (some false)) else (some false)) else (some false)) else (some false)) else (some false)) else (some false)) else (some false)) else (some false)))))) = some r := H
 have A15 := Aside0.mk A150
 clear A150
 replace H := Option.bind_eq_some_iff.mp H
 obtain ⟨⟨t328, t329⟩, A160, H⟩ := H
 replace H : ((tallboylaw27_To.f k a0_0 a0_1 a0_2 l0_3).bind fun bt330 => ((meta_Check.f k bt330.1 bt330.2.1 bt330.2.2.1 bt330.2.2.2).bind fun t336 => ((tallboyref27_Check.f k a0_0 a0_1 a0_2 l0_3).bind fun t337 => (if t336 = t337 then (if t304.toList = t306.toList then (if t305 = t307 then (if t314 = t317 then (if t315 = t318 then (if (t316 == t319) = true then (if t326.toList = t328.toList then (if (t327 == t329) = true then ((tallboylaw27_To.f k a0_0 a0_1 a0_2 l0_3).bind fun bt338 => ((meta_Canon.f bt338.1 bt338.2.1 bt338.2.2.1 bt338.2.2.2).bind fun bt344 => ((tallboylaw27_From.f k bt344.1 bt344.2.1 bt344.2.2.1 bt344.2.2.2).bind fun bt350 => ((tallboyref27_Canon.f k a0_0 a0_1 a0_2 l0_3).bind fun bt356 => ((tallboyref27_Same.f k bt350.1 bt350.2.1 bt350.2.2.1 bt350.2.2.2 bt356.1 bt356.2.1 bt356.2.2.1 bt356.2.2.2).bind fun t362 => (some t362)))))) else (some false)) else (some false)) else (some false)) else (some false)) else (some false)) else (some false)) else (some false)) else (some false))))) = some r := H
 have A16 := Aside0.mk A160
 clear A160
 replace H := Option.bind_eq_some_iff.mp H
 obtain ⟨⟨t330, t331, t332, t333⟩, A170, H⟩ := H
 replace H : ((meta_Check.f k t330 t331 t332 t333).bind fun t336 => ((tallboyref27_Check.f k a0_0 a0_1 a0_2 l0_3).bind fun t337 => (if t336 = t337 then (if t304.toList = t306.toList then (if t305 = t307 then (if t314 = t317 then (if t315 = t318 then (if (t316 == t319) = true then (if t326.toList = t328.toList then (if (t327 == t329) = true then ((tallboylaw27_To.f k a0_0 a0_1 a0_2 l0_3).bind fun bt338 => ((meta_Canon.f bt338.1 bt338.2.1 bt338.2.2.1 bt338.2.2.2).bind fun bt344 => ((tallboylaw27_From.f k bt344.1 bt344.2.1 bt344.2.2.1 bt344.2.2.2).bind fun bt350 => ((tallboyref27_Canon.f k a0_0 a0_1 a0_2 l0_3).bind fun bt356 => ((tallboyref27_Same.f k bt350.1 bt350.2.1 bt350.2.2.1 bt350.2.2.2 bt356.1 bt356.2.1 bt356.2.2.1 bt356.2.2.2).bind fun t362 => (some t362)))))) else (some false)) else (some false)) else (some false)) else (some false)) else (some false)) else (some false)) else (some false)) else (some false)))) = some r := H
 have A17 := Aside0.mk A170
 clear A170
 replace H := Option.bind_eq_some_iff.mp H
 obtain ⟨t336, A180, H⟩ := H
 replace H : ((tallboyref27_Check.f k a0_0 a0_1 a0_2 l0_3).bind fun t337 => (if t336 = t337 then (if t304.toList = t306.toList then (if t305 = t307 then (if t314 = t317 then (if t315 = t318 then (if (t316 == t319) = true then (if t326.toList = t328.toList then (if (t327 == t329) = true then ((tallboylaw27_To.f k a0_0 a0_1 a0_2 l0_3).bind fun bt338 => ((meta_Canon.f bt338.1 bt338.2.1 bt338.2.2.1 bt338.2.2.2).bind fun bt344 => ((tallboylaw27_From.f k bt344.1 bt344.2.1 bt344.2.2.1 bt344.2.2.2).bind fun bt350 => ((tallboyref27_Canon.f k a0_0 a0_1 a0_2 l0_3).bind fun bt356 => ((tallboyref27_Same.f k bt350.1 bt350.2.1 bt350.2.2.1 bt350.2.2.2 bt356.1 bt356.2.1 bt356.2.2.1 bt356.2.2.2).bind fun t362 => (some t362)))))) else (some false)) else (some false)) else (some false)) else (some false)) else (some false)) else (some false)) else (some false)) else (some false))) = some r := H
 have A18 := Aside0.mk A180
 clear A180
 replace H := Option.bind_eq_some_iff.mp H
 obtain ⟨t337, A190, H⟩ := H
 replace H : (if t336 = t337 then (if t304.toList = t306.toList then (if t305 = t307 then (if t314 = t317 then (if t315 = t318 then (if (t316 == t319) = true then (if t326.toList = t328.toList then (if (t327 == t329) = true then ((tallboylaw27_To.f k a0_0 a0_1 a0_2 l0_3).bind fun bt338 => ((meta_Canon.f bt338.1 bt338.2.1 bt338.2.2.1 bt338.2.2.2).bind fun bt344 => ((tallboylaw27_From.f k bt344.1 bt344.2.1 bt344.2.2.1 bt344.2.2.2).bind fun bt350 => ((tallboyref27_Canon.f k a0_0 a0_1 a0_2 l0_3).bind fun bt356 => ((tallboyref27_Same.f k bt350.1 bt350.2.1 bt350.2.2.1 bt350.2.2.2 bt356.1 bt356.2.1 bt356.2.2.1 bt356.2.2.2).bind fun t362 => (some t362)))))) else (some false)) else (some false)) else (some false)) else (some false)) else (some false)) else (some false)) else (some false)) else (some false)) = some r := H
 have A19 := Aside0.mk A190
 clear A190
 by_cases c20 : t336 = t337
 · rw [if_pos c20] at H
   have c20b0 : (t336 == t337) = true := beq_iff_eq.mpr c20
   have c20b1 : (t336 != t337) = false := bne_eq_false_iff_eq.mpr c20
   clear c20
   by_cases c21 : t304.toList = t306.toList
   · rw [if_pos c21] at H
     have c21b0 : (t304.toList == t306.toList) = true := beq_iff_eq.mpr c21
     have c21b1 : (t304.toList != t306.toList) = false := bne_eq_false_iff_eq.mpr c21
     clear c21
     by_cases c22 : t305 = t307
     · rw [if_pos c22] at H
       have c22b0 : (t305 == t307) = true := beq_iff_eq.mpr c22
       have c22b1 : (t305 != t307) = false := bne_eq_false_iff_eq.mpr c22
       clear c22
       by_cases c23 : t314 = t317
       · rw [if_pos c23] at H
         have c23b0 : (t314 == t317) = true := beq_iff_eq.mpr c23
         have c23b1 : (t314 != t317) = false := bne_eq_false_iff_eq.mpr c23
         clear c23
         by_cases c24 : t315 = t318
         · rw [if_pos c24] at H
           have c24b0 : (t315 == t318) = true := beq_iff_eq.mpr c24
           have c24b1 : (t315 != t318) = false := bne_eq_false_iff_eq.mpr c24
           clear c24
           by_cases c25 : (t316 == t319) = true
           · rw [if_pos c25] at H
             have c25b0 : (t316 == t319) = true := c25
             (try (have c25b1 : decide (t316 = t319) = true := by simpa using c25))
             (try (have c25b2 : (t316 == t319) = true := by simpa using c25))
             clear c25
             by_cases c26 : t326.toList = t328.toList
             · rw [if_pos c26] at H
               have c26b0 : (t326.toList == t328.toList) = true := beq_iff_eq.mpr c26
               have c26b1 : (t326.toList != t328.toList) = false := bne_eq_false_iff_eq.mpr c26
               clear c26
               by_cases c27 : (t327 == t329) = true
               · rw [if_pos c27] at H
                 have c27b0 : (t327 == t329) = true := c27
                 (try (have c27b1 : decide (t327 = t329) = true := by simpa using c27))
                 (try (have c27b2 : (t327 == t329) = true := by simpa using c27))
                 clear c27
                 replace H := Option.bind_eq_some_iff.mp H
                 obtain ⟨⟨t338, t339, t340, t341⟩, A280, H⟩ := H
                 replace H : ((meta_Canon.f t338 t339 t340 t341).bind fun bt344 => ((tallboylaw27_From.f k bt344.1 bt344.2.1 bt344.2.2.1 bt344.2.2.2).bind fun bt350 => ((tallboyref27_Canon.f k a0_0 a0_1 a0_2 l0_3).bind fun bt356 => ((tallboyref27_Same.f k bt350.1 bt350.2.1 bt350.2.2.1 bt350.2.2.2 bt356.1 bt356.2.1 bt356.2.2.1 bt356.2.2.2).bind fun t362 => (some t362))))) = some r := H
                 have A28 := Aside0.mk A280
                 clear A280
                 replace H := Option.bind_eq_some_iff.mp H
                 obtain ⟨⟨t344, t345, t346, t347⟩, A290, H⟩ := H
                 replace H : ((tallboylaw27_From.f k t344 t345 t346 t347).bind fun bt350 => ((tallboyref27_Canon.f k a0_0 a0_1 a0_2 l0_3).bind fun bt356 => ((tallboyref27_Same.f k bt350.1 bt350.2.1 bt350.2.2.1 bt350.2.2.2 bt356.1 bt356.2.1 bt356.2.2.1 bt356.2.2.2).bind fun t362 => (some t362)))) = some r := H
                 have A29 := Aside0.mk A290
                 clear A290
                 replace H := Option.bind_eq_some_iff.mp H
                 obtain ⟨⟨t350, t351, t352, t353⟩, A300, H⟩ := H
                 replace H : ((tallboyref27_Canon.f k a0_0 a0_1 a0_2 l0_3).bind fun bt356 => ((tallboyref27_Same.f k t350 t351 t352 t353 bt356.1 bt356.2.1 bt356.2.2.1 bt356.2.2.2).bind fun t362 => (some t362))) = some r := H
                 have A30 := Aside0.mk A300
                 clear A300
                 replace H := Option.bind_eq_some_iff.mp H
                 obtain ⟨⟨t356, t357, t358, t359⟩, A310, H⟩ := H
                 replace H : ((tallboyref27_Same.f k t350 t351 t352 t353 t356 t357 t358 t359).bind fun t362 => (some t362)) = some r := H
                 have A31 := Aside0.mk A310
                 clear A310
                 replace H := Option.bind_eq_some_iff.mp H
                 obtain ⟨t362, A320, H⟩ := H
                 replace H : (some t362) = some r := H
                 have A32 := Aside0.mk A320
                 clear A320
                 obtain rfl := Option.some.inj H
                 go_enter Tryz.func3, Tryz.ntmps3
                 try go_wp2_with (first | ((with_reducible refine gate_dst (N := 2) rfl ?_); refine box_event ?hg (N := 2) ?hd (cs := #[.int .i64 a0_0, .string a0_1, .int .i64 a0_2, .slice A0_3 l0_3.length c0_3]) (t := 24) ?hr ?_; (case hd => rfl); (case hg => rfl); (case hr => first | (go_simp; done) | (go_simp; rfl)); intro gb296 hg w33 hbox hb; have n0_ := Aside0.mk (below_step (hbA HB.out) hb); have n1_ := Aside0.mk (hbox); have n2_ := Aside0.mk ((by rw [hg]; exact (below_size (hbA HB.out)) : w.heap.size ≤ gb296)); have n3_ := Aside0.mk ((by rw [hg]; exact (below_size (hbA HB.out)) : w.heap.size ≤ gb296)); clear HB; have HB := n0_; have BK296 := n1_; have GW296 := n2_; have GE296 := n3_; clear n0_ n1_ n2_ n3_; clear hb hbox hg; obtain ⟨hcz34_0, hcz34_1, hcz34_2, hcz34_3, hfz34_0, hfz34_1, hfz34_2, hfz34_3⟩ := blkA4 BK296.out) | ((with_reducible refine gate_callee (f := 9) rfl ?_); refine goesL_ (some 20) rfl rfl Tryz.func9 (by kernel_rfl) rfl #[.agg #[.int .i64 a0_0, .string a0_1, .int .i64 a0_2, .slice A0_3 l0_3.length c0_3]] rfl argA ?_; (with_reducible refine (tallboylaw27_Great.calls k a0_0 a0_1 a0_2 _ _ l0_3 false _ ?side1 ?side2 A3.out).mono ?_); (case side1 => repeat (first | exact (Kd.C_below HR0_3.out HB.out) | (with_reducible refine Kd.C_alloc ?_ _) | (with_reducible refine Kd.C_drewN ?_ _) | (with_reducible refine Kd.C_drew ?_))); (case side2 => exact HC0_3.out); rintro e w35 ⟨rfl, hb⟩; refine ⟨_, rfl, ?_⟩; replace BK296 := Aside0.mk (blk_below (g := gb296) (o := .cells #[.int .i64 a0_0, .string a0_1, .int .i64 a0_2, .slice A0_3 l0_3.length c0_3] 24 (0, 0)) (rbA BK296.out) hb); replace HB := Aside0.mk (below_step (hbA HB.out) hb); (try clear hb); (try clear hb2); (try clear hk); (try clear hi); obtain ⟨hcz36_0, hcz36_1, hcz36_2, hcz36_3, hfz36_0, hfz36_1, hfz36_2, hfz36_3⟩ := blkA4 BK296.out) | ((with_reducible refine gate_callee (f := 11) rfl ?_); refine goesL_ (some 23) rfl rfl Tryz.func11 (by kernel_rfl) rfl #[.agg #[.int .i64 a0_0, .string a0_1, .int .i64 a0_2, .slice A0_3 l0_3.length c0_3]] rfl argA ?_; (with_reducible refine (tallboylaw27_To.calls k a0_0 a0_1 a0_2 _ _ l0_3 t298 t299 t300 t301 _ ?side1 ?side2 A8.out).mono ?_); (case side1 => repeat (first | exact (Kd.C_below HR0_3.out HB.out) | (with_reducible refine Kd.C_alloc ?_ _) | (with_reducible refine Kd.C_drewN ?_ _) | (with_reducible refine Kd.C_drew ?_))); (case side2 => exact HC0_3.out); rintro e w37 ⟨v302, rfl, ho0, hb⟩; refine ⟨_, rfl, ?_⟩; have n0_ := Aside0.mk (Kd.R_lower ho0 (below_size (hbA HB.out))); have n1_ := Aside0.mk (blk_below (g := gb296) (o := .cells #[.int .i64 a0_0, .string a0_1, .int .i64 a0_2, .slice A0_3 l0_3.length c0_3] 24 (0, 0)) (rbA BK296.out) hb); have n2_ := Aside0.mk (below_step (hbA HB.out) hb); clear BK296; clear HB; have HO303 := n0_; have BK296 := n1_; have HB := n2_; clear n0_ n1_ n2_; (try clear hb); (try clear hb2); (try clear hk); (try clear hi); (try clear ho0); obtain ⟨Ao38, co38, eo38⟩ := Kd.R_slice HO303.out; subst eo38) | ((with_reducible refine gate_callee (f := 10) rfl ?_); refine goesL_ (some 24) rfl rfl Tryz.func10 (by kernel_rfl) rfl #[.agg #[.int .i64 t298, .string t299, .int .i64 t300, .slice Ao38 t301.length co38]] rfl argA ?_; (with_reducible refine (meta_Write.calls k t298 t299 t300 _ _ t301 t304 t305 _ ?side1 ?side2 ?side3 A9.out).mono ?_); (case side1 => repeat (first | exact (Kd.R_reads' HO303.out).2.2 | (with_reducible refine Kd.C_alloc ?_ _) | (with_reducible refine Kd.C_drewN ?_ _) | (with_reducible refine Kd.C_drew ?_))); (case side2 => exact (Kd.R_reads' HO303.out).2.1); (case side3 => exact Vars.below HV.out (hbA HB.out)); rintro e w39 ⟨rfl, hb⟩; refine ⟨_, rfl, ?_⟩; replace HO303 := Aside0.mk (Kd.R_below (rdA HO303.out) hb); replace BK296 := Aside0.mk (blk_below (g := gb296) (o := .cells #[.int .i64 a0_0, .string a0_1, .int .i64 a0_2, .slice A0_3 l0_3.length c0_3] 24 (0, 0)) (rbA BK296.out) hb); replace HB := Aside0.mk (below_step (hbA HB.out) hb); (try clear hb); (try clear hb2); (try clear hk); (try clear hi); obtain ⟨hcz40_0, hcz40_1, hcz40_2, hcz40_3, hfz40_0, hfz40_1, hfz40_2, hfz40_3⟩ := blkA4 BK296.out) | ((with_reducible refine gate_callee (f := 12) rfl ?_); refine goesL_ (some 29) rfl rfl Tryz.func12 (by kernel_rfl) rfl #[.agg #[.int .i64 a0_0, .string a0_1, .int .i64 a0_2, .slice A0_3 l0_3.length c0_3]] rfl argA ?_; (with_reducible refine (tallboyref27_Write.calls k a0_0 a0_1 a0_2 _ _ l0_3 t306 t307 _ ?side1 ?side2 A10.out).mono ?_); (case side1 => repeat (first | exact (Kd.C_below HR0_3.out HB.out) | (with_reducible refine Kd.C_alloc ?_ _) | (with_reducible refine Kd.C_drewN ?_ _) | (with_reducible refine Kd.C_drew ?_))); (case side2 => exact HC0_3.out); rintro e w41 ⟨rfl, hb⟩; refine ⟨_, rfl, ?_⟩; replace HO303 := Aside0.mk (Kd.R_below (rdA HO303.out) hb); replace BK296 := Aside0.mk (blk_below (g := gb296) (o := .cells #[.int .i64 a0_0, .string a0_1, .int .i64 a0_2, .slice A0_3 l0_3.length c0_3] 24 (0, 0)) (rbA BK296.out) hb); replace HB := Aside0.mk (below_step (hbA HB.out) hb); (try clear hb); (try clear hb2); (try clear hk); (try clear hi); obtain ⟨hcz42_0, hcz42_1, hcz42_2, hcz42_3, hfz42_0, hfz42_1, hfz42_2, hfz42_3⟩ := blkA4 BK296.out) | ((with_reducible refine gate_callee (f := 11) rfl ?_); refine goesL_ (some 34) rfl rfl Tryz.func11 (by kernel_rfl) rfl #[.agg #[.int .i64 a0_0, .string a0_1, .int .i64 a0_2, .slice A0_3 l0_3.length c0_3]] rfl argA ?_; (with_reducible refine (tallboylaw27_To.calls k a0_0 a0_1 a0_2 _ _ l0_3 t308 t309 t310 t311 _ ?side1 ?side2 A11.out).mono ?_); (case side1 => repeat (first | exact (Kd.C_below HR0_3.out HB.out) | (with_reducible refine Kd.C_alloc ?_ _) | (with_reducible refine Kd.C_drewN ?_ _) | (with_reducible refine Kd.C_drew ?_))); (case side2 => exact HC0_3.out); rintro e w43 ⟨v312, rfl, ho0, hb⟩; refine ⟨_, rfl, ?_⟩; have n0_ := Aside0.mk (Kd.R_elder' (rdA HO303.out) (Kd.R_base ho0) hb); have n1_ := Aside0.mk (Kd.R_lower (Kd.R_new' ho0 (Kd.R_lt (rdA HO303.out))) (below_size (hbA HB.out))); have n2_ := Aside0.mk (blk_below (g := gb296) (o := .cells #[.int .i64 a0_0, .string a0_1, .int .i64 a0_2, .slice A0_3 l0_3.length c0_3] 24 (0, 0)) (rbA BK296.out) hb); have n3_ := Aside0.mk (below_step (hbA HB.out) hb); clear HO303; clear BK296; clear HB; have HO303 := n0_; have HO313 := n1_; have BK296 := n2_; have HB := n3_; clear n0_ n1_ n2_ n3_; (try clear hb); (try clear hb2); (try clear hk); (try clear hi); (try clear ho0); obtain ⟨Ao44, co44, eo44⟩ := Kd.R_slice HO313.out; subst eo44) | ((with_reducible refine gate_callee (f := 13) rfl ?_); refine goesL_ (some 36) rfl rfl Tryz.func13 (by kernel_rfl) rfl #[.agg #[.int .i64 t308, .string t309, .int .i64 t310, .slice Ao44 t311.length co44], .int .u8 a1] rfl argA ?_; (with_reducible refine (meta_Number.calls k t308 t309 t310 _ _ t311 a1 t314 t315 t316 _ ?side1 ?side2 ?side3 A12.out).mono ?_); (case side1 => repeat (first | exact (Kd.R_reads' HO313.out).2.2 | (with_reducible refine Kd.C_alloc ?_ _) | (with_reducible refine Kd.C_drewN ?_ _) | (with_reducible refine Kd.C_drew ?_))); (case side2 => exact (Kd.R_reads' HO313.out).2.1); (case side3 => exact Vars.below HV.out (hbA HB.out)); rintro e w45 ⟨rfl, hb⟩; refine ⟨_, rfl, ?_⟩; replace HO303 := Aside0.mk (Kd.R_below (rdA HO303.out) hb); replace HO313 := Aside0.mk (Kd.R_below (rdA HO313.out) hb); replace BK296 := Aside0.mk (blk_below (g := gb296) (o := .cells #[.int .i64 a0_0, .string a0_1, .int .i64 a0_2, .slice A0_3 l0_3.length c0_3] 24 (0, 0)) (rbA BK296.out) hb); replace HB := Aside0.mk (below_step (hbA HB.out) hb); (try clear hb); (try clear hb2); (try clear hk); (try clear hi); obtain ⟨hcz46_0, hcz46_1, hcz46_2, hcz46_3, hfz46_0, hfz46_1, hfz46_2, hfz46_3⟩ := blkA4 BK296.out) | ((with_reducible refine gate_callee (f := 14) rfl ?_); refine goesL_ (some 43) rfl rfl Tryz.func14 (by kernel_rfl) rfl #[.agg #[.int .i64 a0_0, .string a0_1, .int .i64 a0_2, .slice A0_3 l0_3.length c0_3], .int .u8 a1] rfl argA ?_; (with_reducible refine (tallboyref27_Number.calls k a0_0 a0_1 a0_2 _ _ l0_3 a1 t317 t318 t319 _ ?side1 ?side2 A13.out).mono ?_); (case side1 => repeat (first | exact (Kd.C_below HR0_3.out HB.out) | (with_reducible refine Kd.C_alloc ?_ _) | (with_reducible refine Kd.C_drewN ?_ _) | (with_reducible refine Kd.C_drew ?_))); (case side2 => exact HC0_3.out); rintro e w47 ⟨rfl, hb⟩; refine ⟨_, rfl, ?_⟩; replace HO303 := Aside0.mk (Kd.R_below (rdA HO303.out) hb); replace HO313 := Aside0.mk (Kd.R_below (rdA HO313.out) hb); replace BK296 := Aside0.mk (blk_below (g := gb296) (o := .cells #[.int .i64 a0_0, .string a0_1, .int .i64 a0_2, .slice A0_3 l0_3.length c0_3] 24 (0, 0)) (rbA BK296.out) hb); replace HB := Aside0.mk (below_step (hbA HB.out) hb); (try clear hb); (try clear hb2); (try clear hk); (try clear hi); obtain ⟨hcz48_0, hcz48_1, hcz48_2, hcz48_3, hfz48_0, hfz48_1, hfz48_2, hfz48_3⟩ := blkA4 BK296.out) | ((with_reducible refine gate_callee (f := 11) rfl ?_); refine goesL_ (some 49) rfl rfl Tryz.func11 (by kernel_rfl) rfl #[.agg #[.int .i64 a0_0, .string a0_1, .int .i64 a0_2, .slice A0_3 l0_3.length c0_3]] rfl argA ?_; (with_reducible refine (tallboylaw27_To.calls k a0_0 a0_1 a0_2 _ _ l0_3 t320 t321 t322 t323 _ ?side1 ?side2 A14.out).mono ?_); (case side1 => repeat (first | exact (Kd.C_below HR0_3.out HB.out) | (with_reducible refine Kd.C_alloc ?_ _) | (with_reducible refine Kd.C_drewN ?_ _) | (with_reducible refine Kd.C_drew ?_))); (case side2 => exact HC0_3.out); rintro e w49 ⟨v324, rfl, ho0, hb⟩; refine ⟨_, rfl, ?_⟩; have n0_ := Aside0.mk (Kd.R_elder' (rdA HO303.out) (Kd.R_base ho0) hb); have n1_ := Aside0.mk (Kd.R_elder' (rdA HO313.out) (Kd.R_base ho0) hb); have n2_ := Aside0.mk (Kd.R_lower (Kd.R_new' (Kd.R_new' ho0 (Kd.R_lt (rdA HO303.out))) (Kd.R_lt (rdA HO313.out))) (below_size (hbA HB.out))); have n3_ := Aside0.mk (blk_below (g := gb296) (o := .cells #[.int .i64 a0_0, .string a0_1, .int .i64 a0_2, .slice A0_3 l0_3.length c0_3] 24 (0, 0)) (rbA BK296.out) hb); have n4_ := Aside0.mk (below_step (hbA HB.out) hb); clear HO303; clear HO313; clear BK296; clear HB; have HO303 := n0_; have HO313 := n1_; have HO325 := n2_; have BK296 := n3_; have HB := n4_; clear n0_ n1_ n2_ n3_ n4_; (try clear hb); (try clear hb2); (try clear hk); (try clear hi); (try clear ho0); obtain ⟨Ao50, co50, eo50⟩ := Kd.R_slice HO325.out; subst eo50) | ((with_reducible refine gate_callee (f := 15) rfl ?_); refine goesL_ (some 51) rfl rfl Tryz.func15 (by kernel_rfl) rfl #[.agg #[.int .i64 t320, .string t321, .int .i64 t322, .slice Ao50 t323.length co50], .int .u8 a1] rfl argA ?_; (with_reducible refine (meta_Find.calls t320 t321 t322 _ _ t323 a1 t326 t327 _ ?side1 ?side2 A15.out).mono ?_); (case side1 => repeat (first | exact (Kd.R_reads' HO325.out).2.2 | (with_reducible refine Kd.C_alloc ?_ _) | (with_reducible refine Kd.C_drewN ?_ _) | (with_reducible refine Kd.C_drew ?_))); (case side2 => exact (Kd.R_reads' HO325.out).2.1); rintro e w51 ⟨rfl, hb⟩; refine ⟨_, rfl, ?_⟩; replace HO303 := Aside0.mk (Kd.R_below (rdA HO303.out) hb); replace HO313 := Aside0.mk (Kd.R_below (rdA HO313.out) hb); replace HO325 := Aside0.mk (Kd.R_below (rdA HO325.out) hb); replace BK296 := Aside0.mk (blk_below (g := gb296) (o := .cells #[.int .i64 a0_0, .string a0_1, .int .i64 a0_2, .slice A0_3 l0_3.length c0_3] 24 (0, 0)) (rbA BK296.out) hb); replace HB := Aside0.mk (below_step (hbA HB.out) hb); (try clear hb); (try clear hb2); (try clear hk); (try clear hi); obtain ⟨hcz52_0, hcz52_1, hcz52_2, hcz52_3, hfz52_0, hfz52_1, hfz52_2, hfz52_3⟩ := blkA4 BK296.out) | ((with_reducible refine gate_callee (f := 16) rfl ?_); refine goesL_ (some 57) rfl rfl Tryz.func16 (by kernel_rfl) rfl #[.agg #[.int .i64 a0_0, .string a0_1, .int .i64 a0_2, .slice A0_3 l0_3.length c0_3], .int .u8 a1] rfl argA ?_; (with_reducible refine (tallboyref27_Find.calls k a0_0 a0_1 a0_2 _ _ l0_3 a1 t328 t329 _ ?side1 ?side2 A16.out).mono ?_); (case side1 => repeat (first | exact (Kd.C_below HR0_3.out HB.out) | (with_reducible refine Kd.C_alloc ?_ _) | (with_reducible refine Kd.C_drewN ?_ _) | (with_reducible refine Kd.C_drew ?_))); (case side2 => exact HC0_3.out); rintro e w53 ⟨rfl, hb⟩; refine ⟨_, rfl, ?_⟩; replace HO303 := Aside0.mk (Kd.R_below (rdA HO303.out) hb); replace HO313 := Aside0.mk (Kd.R_below (rdA HO313.out) hb); replace HO325 := Aside0.mk (Kd.R_below (rdA HO325.out) hb); replace BK296 := Aside0.mk (blk_below (g := gb296) (o := .cells #[.int .i64 a0_0, .string a0_1, .int .i64 a0_2, .slice A0_3 l0_3.length c0_3] 24 (0, 0)) (rbA BK296.out) hb); replace HB := Aside0.mk (below_step (hbA HB.out) hb); (try clear hb); (try clear hb2); (try clear hk); (try clear hi)))
                 replace HO303 := Aside0.mk (Kd.R_drew HO303.out)
                 replace HO313 := Aside0.mk (Kd.R_drew HO313.out)
                 replace HO325 := Aside0.mk (Kd.R_drew HO325.out)
                 replace BK296 := Aside0.mk (blk_drew BK296.out)
                 replace HB := Aside0.mk (below_drew1 HB.out)
                 refine start_ (n := 51) (S := fun w' => w'.cell? ⟨gb296, 0, none⟩ = some (.int .i64 a0_0) ∧ w'.cell? ⟨gb296, 1, none⟩ = some (.string a0_1) ∧ w'.cell? ⟨gb296, 2, none⟩ = some (.int .i64 a0_2) ∧ w'.cell? ⟨gb296, 3, none⟩ = some (.slice A0_3 l0_3.length c0_3)) (ds := []) #[false, false, false, false, false, false, false, false, false, false, false, false, false, false, false, false, false, false, false, false, false, false, false, false, false, false, false, false, false, false, false, false, false, false, false, false, false, false, false, false, false, false, false, false, false, false, false, false, false, false, false] (by kernel_rfl) rfl rfl ⟨(blk_cell BK296.out 0).trans rfl, (blk_cell BK296.out 1).trans rfl, (blk_cell BK296.out 2).trans rfl, (blk_cell BK296.out 3).trans rfl⟩ (fun hHeld => ?_); refine with_tabW tallboylaw27_MetaChecks.tab9 tallboylaw27_MetaChecks.bits9 (fun HT_ HW_ => ?_)
                 generalize w53.drew = w54 at HO303 HO313 HO325 BK296 HB hHeld ⊢
                 refine takeA_ (i := 0) (N := some 60) #[true, false, false, false, false, false, false, false, false, false, false, false, false, false, false, false, false, false, false, false, false, false, false, false, false, false, false, false, false, false, false, false, false, false, false, false, false, false, false, false, false, false, false, false, false, false, false, false, false, false, false] rfl rfl hHeld ?_ (hc := take_ofW HT_.out HW_.out (by kernel_rfl)) (hy := by rintro w' ⟨s0, s1, s2, s3⟩; go_simp; with_reducible rfl)
                 refine takeA_ (i := 3) (N := some 63) #[true, false, false, true, false, false, false, false, false, false, false, false, false, false, false, false, false, false, false, false, false, false, false, false, false, false, false, false, false, false, false, false, false, false, false, false, false, false, false, false, false, false, false, false, false, false, false, false, false, false, false] rfl rfl hHeld ?_ (hc := take_ofW HT_.out HW_.out (by kernel_rfl)) (hy := by rintro w' ⟨s0, s1, s2, s3⟩; go_simp; with_reducible rfl)
                 refine one_ (i := 1) (N := some 61) #[true, true, false, true, false, false, false, false, false, false, false, false, false, false, false, false, false, false, false, false, false, false, false, false, false, false, false, false, false, false, false, false, false, false, false, false, false, false, false, false, false, false, false, false, false, false, false, false, false, false, false] rfl rfl (one_of HT_.out (by kernel_rfl)) (by decide) (fun K hK => ?_)
                 refine goes_ Tryz.func11 (by kernel_rfl) rfl #[.agg #[.int .i64 a0_0, .string a0_1, .int .i64 a0_2, .slice A0_3 l0_3.length c0_3]] (by rfl) rfl rfl argA ?_
                 with_reducible refine (tallboylaw27_To.calls k a0_0 a0_1 a0_2 _ _ l0_3 t330 t331 t332 t333 _ ?side1 ?side2 A17.out).mono ?_
                 (case side1 => repeat (first | exact (Kd.C_below HR0_3.out HB.out) | (with_reducible refine Kd.C_alloc ?_ _) | (with_reducible refine Kd.C_drewN ?_ _) | (with_reducible refine Kd.C_drew ?_)))
                 (case side2 => exact HC0_3.out)
                 rintro e w55 ⟨v334, rfl, ho0, hb⟩
                 refine ⟨_, rfl, ?_⟩
                 have n0_ := Aside0.mk (Kd.R_elder' (rdA HO303.out) (Kd.R_base ho0) hb)
                 have n1_ := Aside0.mk (Kd.R_elder' (rdA HO313.out) (Kd.R_base ho0) hb)
                 have n2_ := Aside0.mk (Kd.R_elder' (rdA HO325.out) (Kd.R_base ho0) hb)
                 have n3_ := Aside0.mk (Kd.R_lower (Kd.R_new' (Kd.R_new' (Kd.R_new' ho0 (Kd.R_lt (rdA HO303.out))) (Kd.R_lt (rdA HO313.out))) (Kd.R_lt (rdA HO325.out))) (below_size (hbA HB.out)))
                 have n4_ := Aside0.mk (blk_below (g := gb296) (o := .cells #[.int .i64 a0_0, .string a0_1, .int .i64 a0_2, .slice A0_3 l0_3.length c0_3] 24 (0, 0)) (rbA BK296.out) hb)
                 have n5_ := Aside0.mk (below_step (hbA HB.out) hb)
                 clear HO303
                 clear HO313
                 clear HO325
                 clear BK296
                 clear HB
                 have HO303 := n0_
                 have HO313 := n1_
                 have HO325 := n2_
                 have HO335 := n3_
                 have BK296 := n4_
                 have HB := n5_
                 clear n0_ n1_ n2_ n3_ n4_ n5_
                 (try clear hb)
                 (try clear hb2)
                 (try clear hk)
                 (try clear hi)
                 (try clear ho0)
                 obtain ⟨Ao56, co56, eo56⟩ := Kd.R_slice HO335.out
                 (first | subst eo56 | (injection eo56 with f1_ f2_ f3_; have f4_ := f1_.symm; have f5_ := f3_.symm; clear f1_ f2_ f3_; subst f4_; subst f5_))
                 refine hK.out _ _ ⟨(blk_cell BK296.out 0).trans rfl, (blk_cell BK296.out 1).trans rfl, (blk_cell BK296.out 2).trans rfl, (blk_cell BK296.out 3).trans rfl⟩ (fun hHeld => ?_)
                 clear hK K
                 refine normA_ ?_
                 refine one_ (i := 2) (N := some 62) #[true, true, true, true, false, false, false, false, false, false, false, false, false, false, false, false, false, false, false, false, false, false, false, false, false, false, false, false, false, false, false, false, false, false, false, false, false, false, false, false, false, false, false, false, false, false, false, false, false, false, false] rfl rfl (one_of HT_.out (by kernel_rfl)) (by decide) (fun K hK => ?_)
                 refine goes_ Tryz.func17 (by kernel_rfl) rfl #[.agg #[.int .i64 t330, .string t331, .int .i64 t332, .slice Ao56 t333.length co56]] (by rfl) rfl rfl argA ?_
                 with_reducible refine (meta_Check.calls k t330 t331 t332 _ _ t333 t336 _ ?side1 ?side2 ?side3 A18.out).mono ?_
                 (case side1 => repeat (first | exact (Kd.R_reads' HO335.out).2.2 | (with_reducible refine Kd.C_alloc ?_ _) | (with_reducible refine Kd.C_drewN ?_ _) | (with_reducible refine Kd.C_drew ?_)))
                 (case side2 => exact (Kd.R_reads' HO335.out).2.1)
                 (case side3 => exact Vars.below HV.out (hbA HB.out))
                 rintro e w57 ⟨rfl, hb⟩
                 refine ⟨_, rfl, ?_⟩
                 replace HO303 := Aside0.mk (Kd.R_below (rdA HO303.out) hb)
                 replace HO313 := Aside0.mk (Kd.R_below (rdA HO313.out) hb)
                 replace HO325 := Aside0.mk (Kd.R_below (rdA HO325.out) hb)
                 replace HO335 := Aside0.mk (Kd.R_below (rdA HO335.out) hb)
                 replace BK296 := Aside0.mk (blk_below (g := gb296) (o := .cells #[.int .i64 a0_0, .string a0_1, .int .i64 a0_2, .slice A0_3 l0_3.length c0_3] 24 (0, 0)) (rbA BK296.out) hb)
                 replace HB := Aside0.mk (below_step (hbA HB.out) hb)
                 (try clear hb)
                 (try clear hb2)
                 (try clear hk)
                 (try clear hi)
                 refine hK.out _ _ ⟨(blk_cell BK296.out 0).trans rfl, (blk_cell BK296.out 1).trans rfl, (blk_cell BK296.out 2).trans rfl, (blk_cell BK296.out 3).trans rfl⟩ (fun hHeld => ?_)
                 clear hK K
                 refine normA_ ?_
                 refine one_ (i := 4) (N := some 64) #[true, true, true, true, true, false, false, false, false, false, false, false, false, false, false, false, false, false, false, false, false, false, false, false, false, false, false, false, false, false, false, false, false, false, false, false, false, false, false, false, false, false, false, false, false, false, false, false, false, false, false] rfl rfl (one_of HT_.out (by kernel_rfl)) (by decide) (fun K hK => ?_)
                 refine goes_ Tryz.func18 (by kernel_rfl) rfl #[.agg #[.int .i64 a0_0, .string a0_1, .int .i64 a0_2, .slice A0_3 l0_3.length c0_3]] (by rfl) rfl rfl argA ?_
                 with_reducible refine (tallboyref27_Check.calls k a0_0 a0_1 a0_2 _ _ l0_3 t337 _ ?side1 ?side2 A19.out).mono ?_
                 (case side1 => repeat (first | exact (Kd.C_below HR0_3.out HB.out) | (with_reducible refine Kd.C_alloc ?_ _) | (with_reducible refine Kd.C_drewN ?_ _) | (with_reducible refine Kd.C_drew ?_)))
                 (case side2 => exact HC0_3.out)
                 rintro e w58 ⟨rfl, hb⟩
                 refine ⟨_, rfl, ?_⟩
                 replace HO303 := Aside0.mk (Kd.R_below (rdA HO303.out) hb)
                 replace HO313 := Aside0.mk (Kd.R_below (rdA HO313.out) hb)
                 replace HO325 := Aside0.mk (Kd.R_below (rdA HO325.out) hb)
                 replace HO335 := Aside0.mk (Kd.R_below (rdA HO335.out) hb)
                 replace BK296 := Aside0.mk (blk_below (g := gb296) (o := .cells #[.int .i64 a0_0, .string a0_1, .int .i64 a0_2, .slice A0_3 l0_3.length c0_3] 24 (0, 0)) (rbA BK296.out) hb)
                 replace HB := Aside0.mk (below_step (hbA HB.out) hb)
                 (try clear hb)
                 (try clear hb2)
                 (try clear hk)
                 (try clear hi)
                 refine hK.out _ _ ⟨(blk_cell BK296.out 0).trans rfl, (blk_cell BK296.out 1).trans rfl, (blk_cell BK296.out 2).trans rfl, (blk_cell BK296.out 3).trans rfl⟩ (fun hHeld => ?_)
                 clear hK K
                 refine normA_ ?_
                 refine pureA_ (i := 5) (N := some 65) #[true, true, true, true, true, true, false, false, false, false, false, false, false, false, false, false, false, false, false, false, false, false, false, false, false, false, false, false, false, false, false, false, false, false, false, false, false, false, false, false, false, false, false, false, false, false, false, false, false, false, false] rfl rfl ?_ (hc := any_of HT_.out (by kernel_rfl))
                 refine pureA_ (i := 6) (N := some 66) #[true, true, true, true, true, true, true, false, false, false, false, false, false, false, false, false, false, false, false, false, false, false, false, false, false, false, false, false, false, false, false, false, false, false, false, false, false, false, false, false, false, false, false, false, false, false, false, false, false, false, false] rfl rfl ?_ (hc := any_of HT_.out (by kernel_rfl))
                 refine pureA_ (i := 7) (N := some 67) #[true, true, true, true, true, true, true, true, false, false, false, false, false, false, false, false, false, false, false, false, false, false, false, false, false, false, false, false, false, false, false, false, false, false, false, false, false, false, false, false, false, false, false, false, false, false, false, false, false, false, false] rfl rfl ?_ (hc := any_of HT_.out (by kernel_rfl))
                 refine pureA_ (i := 8) (N := some 68) #[true, true, true, true, true, true, true, true, true, false, false, false, false, false, false, false, false, false, false, false, false, false, false, false, false, false, false, false, false, false, false, false, false, false, false, false, false, false, false, false, false, false, false, false, false, false, false, false, false, false, false] rfl rfl ?_ (hc := any_of HT_.out (by kernel_rfl))
                 refine pureA_ (i := 9) (N := some 69) #[true, true, true, true, true, true, true, true, true, true, false, false, false, false, false, false, false, false, false, false, false, false, false, false, false, false, false, false, false, false, false, false, false, false, false, false, false, false, false, false, false, false, false, false, false, false, false, false, false, false, false] rfl rfl ?_ (hc := any_of HT_.out (by kernel_rfl))
                 refine pureA_ (i := 10) (N := some 70) #[true, true, true, true, true, true, true, true, true, true, true, false, false, false, false, false, false, false, false, false, false, false, false, false, false, false, false, false, false, false, false, false, false, false, false, false, false, false, false, false, false, false, false, false, false, false, false, false, false, false, false] rfl rfl ?_ (hc := any_of HT_.out (by kernel_rfl))
                 refine pureA_ (i := 11) (N := some 71) #[true, true, true, true, true, true, true, true, true, true, true, true, false, false, false, false, false, false, false, false, false, false, false, false, false, false, false, false, false, false, false, false, false, false, false, false, false, false, false, false, false, false, false, false, false, false, false, false, false, false, false] rfl rfl ?_ (hc := any_of HT_.out (by kernel_rfl))
                 refine pureA_ (i := 12) (N := some 72) #[true, true, true, true, true, true, true, true, true, true, true, true, true, false, false, false, false, false, false, false, false, false, false, false, false, false, false, false, false, false, false, false, false, false, false, false, false, false, false, false, false, false, false, false, false, false, false, false, false, false, false] rfl rfl ?_ (hc := any_of HT_.out (by kernel_rfl))
                 refine pureA_ (i := 13) (N := some 73) #[true, true, true, true, true, true, true, true, true, true, true, true, true, true, false, false, false, false, false, false, false, false, false, false, false, false, false, false, false, false, false, false, false, false, false, false, false, false, false, false, false, false, false, false, false, false, false, false, false, false, false] rfl rfl ?_ (hc := any_of HT_.out (by kernel_rfl))
                 refine pureA_ (i := 14) (N := some 74) #[true, true, true, true, true, true, true, true, true, true, true, true, true, true, true, false, false, false, false, false, false, false, false, false, false, false, false, false, false, false, false, false, false, false, false, false, false, false, false, false, false, false, false, false, false, false, false, false, false, false, false] rfl rfl ?_ (hc := any_of HT_.out (by kernel_rfl))
                 refine pureA_ (i := 15) (N := some 75) #[true, true, true, true, true, true, true, true, true, true, true, true, true, true, true, true, false, false, false, false, false, false, false, false, false, false, false, false, false, false, false, false, false, false, false, false, false, false, false, false, false, false, false, false, false, false, false, false, false, false, false] rfl rfl ?_ (hc := any_of HT_.out (by kernel_rfl))
                 refine pureA_ (i := 16) (N := some 76) #[true, true, true, true, true, true, true, true, true, true, true, true, true, true, true, true, true, false, false, false, false, false, false, false, false, false, false, false, false, false, false, false, false, false, false, false, false, false, false, false, false, false, false, false, false, false, false, false, false, false, false] rfl rfl ?_ (hc := any_of HT_.out (by kernel_rfl))
                 refine pureA_ (i := 17) (N := some 77) #[true, true, true, true, true, true, true, true, true, true, true, true, true, true, true, true, true, true, false, false, false, false, false, false, false, false, false, false, false, false, false, false, false, false, false, false, false, false, false, false, false, false, false, false, false, false, false, false, false, false, false] rfl rfl ?_ (hc := any_of HT_.out (by kernel_rfl))
                 refine pureA_ (i := 18) (N := some 78) #[true, true, true, true, true, true, true, true, true, true, true, true, true, true, true, true, true, true, true, false, false, false, false, false, false, false, false, false, false, false, false, false, false, false, false, false, false, false, false, false, false, false, false, false, false, false, false, false, false, false, false] rfl rfl ?_ (hc := any_of HT_.out (by kernel_rfl))
                 refine pureA_ (i := 19) (N := some 79) #[true, true, true, true, true, true, true, true, true, true, true, true, true, true, true, true, true, true, true, true, false, false, false, false, false, false, false, false, false, false, false, false, false, false, false, false, false, false, false, false, false, false, false, false, false, false, false, false, false, false, false] rfl rfl ?_ (hc := any_of HT_.out (by kernel_rfl))
                 refine pureA_ (i := 20) (N := some 80) #[true, true, true, true, true, true, true, true, true, true, true, true, true, true, true, true, true, true, true, true, true, false, false, false, false, false, false, false, false, false, false, false, false, false, false, false, false, false, false, false, false, false, false, false, false, false, false, false, false, false, false] rfl rfl ?_ (hc := any_of HT_.out (by kernel_rfl))
                 refine pureA_ (i := 21) (N := some 81) #[true, true, true, true, true, true, true, true, true, true, true, true, true, true, true, true, true, true, true, true, true, true, false, false, false, false, false, false, false, false, false, false, false, false, false, false, false, false, false, false, false, false, false, false, false, false, false, false, false, false, false] rfl rfl ?_ (hc := any_of HT_.out (by kernel_rfl))
                 refine pureA_ (i := 22) (N := some 82) #[true, true, true, true, true, true, true, true, true, true, true, true, true, true, true, true, true, true, true, true, true, true, true, false, false, false, false, false, false, false, false, false, false, false, false, false, false, false, false, false, false, false, false, false, false, false, false, false, false, false, false] rfl rfl ?_ (hc := any_of HT_.out (by kernel_rfl))
                 refine pureA_ (i := 23) (N := some 83) #[true, true, true, true, true, true, true, true, true, true, true, true, true, true, true, true, true, true, true, true, true, true, true, true, false, false, false, false, false, false, false, false, false, false, false, false, false, false, false, false, false, false, false, false, false, false, false, false, false, false, false] rfl rfl ?_ (hc := any_of HT_.out (by kernel_rfl))
                 refine pureA_ (i := 24) (N := some 84) #[true, true, true, true, true, true, true, true, true, true, true, true, true, true, true, true, true, true, true, true, true, true, true, true, true, false, false, false, false, false, false, false, false, false, false, false, false, false, false, false, false, false, false, false, false, false, false, false, false, false, false] rfl rfl ?_ (hc := any_of HT_.out (by kernel_rfl))
                 refine pureA_ (i := 25) (N := some 85) #[true, true, true, true, true, true, true, true, true, true, true, true, true, true, true, true, true, true, true, true, true, true, true, true, true, true, false, false, false, false, false, false, false, false, false, false, false, false, false, false, false, false, false, false, false, false, false, false, false, false, false] rfl rfl ?_ (hc := any_of HT_.out (by kernel_rfl))
                 refine pureA_ (i := 26) (N := some 86) #[true, true, true, true, true, true, true, true, true, true, true, true, true, true, true, true, true, true, true, true, true, true, true, true, true, true, true, false, false, false, false, false, false, false, false, false, false, false, false, false, false, false, false, false, false, false, false, false, false, false, false] rfl rfl ?_ (hc := any_of HT_.out (by kernel_rfl))
                 refine pureA_ (i := 27) (N := some 87) #[true, true, true, true, true, true, true, true, true, true, true, true, true, true, true, true, true, true, true, true, true, true, true, true, true, true, true, true, false, false, false, false, false, false, false, false, false, false, false, false, false, false, false, false, false, false, false, false, false, false, false] rfl rfl ?_ (hc := any_of HT_.out (by kernel_rfl))
                 refine pureA_ (i := 28) (N := some 88) #[true, true, true, true, true, true, true, true, true, true, true, true, true, true, true, true, true, true, true, true, true, true, true, true, true, true, true, true, true, false, false, false, false, false, false, false, false, false, false, false, false, false, false, false, false, false, false, false, false, false, false] rfl rfl ?_ (hc := any_of HT_.out (by kernel_rfl))
                 refine pureA_ (i := 29) (N := some 89) #[true, true, true, true, true, true, true, true, true, true, true, true, true, true, true, true, true, true, true, true, true, true, true, true, true, true, true, true, true, true, false, false, false, false, false, false, false, false, false, false, false, false, false, false, false, false, false, false, false, false, false] rfl rfl ?_ (hc := any_of HT_.out (by kernel_rfl))
                 refine pureA_ (i := 30) (N := some 90) #[true, true, true, true, true, true, true, true, true, true, true, true, true, true, true, true, true, true, true, true, true, true, true, true, true, true, true, true, true, true, true, false, false, false, false, false, false, false, false, false, false, false, false, false, false, false, false, false, false, false, false] rfl rfl ?_ (hc := any_of HT_.out (by kernel_rfl))
                 refine pureA_ (i := 31) (N := some 91) #[true, true, true, true, true, true, true, true, true, true, true, true, true, true, true, true, true, true, true, true, true, true, true, true, true, true, true, true, true, true, true, true, false, false, false, false, false, false, false, false, false, false, false, false, false, false, false, false, false, false, false] rfl rfl ?_ (hc := any_of HT_.out (by kernel_rfl))
                 refine pureA_ (i := 32) (N := some 92) #[true, true, true, true, true, true, true, true, true, true, true, true, true, true, true, true, true, true, true, true, true, true, true, true, true, true, true, true, true, true, true, true, true, false, false, false, false, false, false, false, false, false, false, false, false, false, false, false, false, false, false] rfl rfl ?_ (hc := any_of HT_.out (by kernel_rfl))
                 refine pureA_ (i := 33) (N := some 93) #[true, true, true, true, true, true, true, true, true, true, true, true, true, true, true, true, true, true, true, true, true, true, true, true, true, true, true, true, true, true, true, true, true, true, false, false, false, false, false, false, false, false, false, false, false, false, false, false, false, false, false] rfl rfl ?_ (hc := any_of HT_.out (by kernel_rfl))
                 refine pureA_ (i := 34) (N := some 94) #[true, true, true, true, true, true, true, true, true, true, true, true, true, true, true, true, true, true, true, true, true, true, true, true, true, true, true, true, true, true, true, true, true, true, true, false, false, false, false, false, false, false, false, false, false, false, false, false, false, false, false] rfl rfl ?_ (hc := any_of HT_.out (by kernel_rfl))
                 refine pureA_ (i := 35) (N := some 95) #[true, true, true, true, true, true, true, true, true, true, true, true, true, true, true, true, true, true, true, true, true, true, true, true, true, true, true, true, true, true, true, true, true, true, true, true, false, false, false, false, false, false, false, false, false, false, false, false, false, false, false] rfl rfl ?_ (hc := any_of HT_.out (by kernel_rfl))
                 refine pureA_ (i := 36) (N := some 96) #[true, true, true, true, true, true, true, true, true, true, true, true, true, true, true, true, true, true, true, true, true, true, true, true, true, true, true, true, true, true, true, true, true, true, true, true, true, false, false, false, false, false, false, false, false, false, false, false, false, false, false] rfl rfl ?_ (hc := any_of HT_.out (by kernel_rfl))
                 refine pureA_ (i := 37) (N := some 97) #[true, true, true, true, true, true, true, true, true, true, true, true, true, true, true, true, true, true, true, true, true, true, true, true, true, true, true, true, true, true, true, true, true, true, true, true, true, true, false, false, false, false, false, false, false, false, false, false, false, false, false] rfl rfl ?_ (hc := any_of HT_.out (by kernel_rfl))
                 refine pureA_ (i := 38) (N := some 98) #[true, true, true, true, true, true, true, true, true, true, true, true, true, true, true, true, true, true, true, true, true, true, true, true, true, true, true, true, true, true, true, true, true, true, true, true, true, true, true, false, false, false, false, false, false, false, false, false, false, false, false] rfl rfl ?_ (hc := any_of HT_.out (by kernel_rfl))
                 refine pureA_ (i := 39) (N := some 99) #[true, true, true, true, true, true, true, true, true, true, true, true, true, true, true, true, true, true, true, true, true, true, true, true, true, true, true, true, true, true, true, true, true, true, true, true, true, true, true, true, false, false, false, false, false, false, false, false, false, false, false] rfl rfl ?_ (hc := any_of HT_.out (by kernel_rfl))
                 refine pureA_ (i := 40) (N := some 100) #[true, true, true, true, true, true, true, true, true, true, true, true, true, true, true, true, true, true, true, true, true, true, true, true, true, true, true, true, true, true, true, true, true, true, true, true, true, true, true, true, true, false, false, false, false, false, false, false, false, false, false] rfl rfl ?_ (hc := any_of HT_.out (by kernel_rfl))
                 refine pureA_ (i := 41) (N := some 101) #[true, true, true, true, true, true, true, true, true, true, true, true, true, true, true, true, true, true, true, true, true, true, true, true, true, true, true, true, true, true, true, true, true, true, true, true, true, true, true, true, true, true, false, false, false, false, false, false, false, false, false] rfl rfl ?_ (hc := any_of HT_.out (by kernel_rfl))
                 refine takeA_ (i := 42) (N := some 102) #[true, true, true, true, true, true, true, true, true, true, true, true, true, true, true, true, true, true, true, true, true, true, true, true, true, true, true, true, true, true, true, true, true, true, true, true, true, true, true, true, true, true, true, false, false, false, false, false, false, false, false] rfl rfl hHeld ?_ (hc := take_ofW HT_.out HW_.out (by kernel_rfl)) (hy := by rintro w' ⟨s0, s1, s2, s3⟩; go_simp; with_reducible rfl)
                 refine takeA_ (i := 46) (N := some 106) #[true, true, true, true, true, true, true, true, true, true, true, true, true, true, true, true, true, true, true, true, true, true, true, true, true, true, true, true, true, true, true, true, true, true, true, true, true, true, true, true, true, true, true, false, false, false, true, false, false, false, false] rfl rfl hHeld ?_ (hc := take_ofW HT_.out HW_.out (by kernel_rfl)) (hy := by rintro w' ⟨s0, s1, s2, s3⟩; go_simp; with_reducible rfl)
                 refine one_ (i := 43) (N := some 103) #[true, true, true, true, true, true, true, true, true, true, true, true, true, true, true, true, true, true, true, true, true, true, true, true, true, true, true, true, true, true, true, true, true, true, true, true, true, true, true, true, true, true, true, true, false, false, true, false, false, false, false] rfl rfl (one_of HT_.out (by kernel_rfl)) (by decide) (fun K hK => ?_)
                 refine goes_ Tryz.func11 (by kernel_rfl) rfl #[.agg #[.int .i64 a0_0, .string a0_1, .int .i64 a0_2, .slice A0_3 l0_3.length c0_3]] (by rfl) rfl rfl argA ?_
                 with_reducible refine (tallboylaw27_To.calls k a0_0 a0_1 a0_2 _ _ l0_3 t338 t339 t340 t341 _ ?side1 ?side2 A28.out).mono ?_
                 (case side1 => repeat (first | exact (Kd.C_below HR0_3.out HB.out) | (with_reducible refine Kd.C_alloc ?_ _) | (with_reducible refine Kd.C_drewN ?_ _) | (with_reducible refine Kd.C_drew ?_)))
                 (case side2 => exact HC0_3.out)
                 rintro e w59 ⟨v342, rfl, ho0, hb⟩
                 refine ⟨_, rfl, ?_⟩
                 have n0_ := Aside0.mk (Kd.R_elder' (rdA HO303.out) (Kd.R_base ho0) hb)
                 have n1_ := Aside0.mk (Kd.R_elder' (rdA HO313.out) (Kd.R_base ho0) hb)
                 have n2_ := Aside0.mk (Kd.R_elder' (rdA HO325.out) (Kd.R_base ho0) hb)
                 have n3_ := Aside0.mk (Kd.R_elder' (rdA HO335.out) (Kd.R_base ho0) hb)
                 have n4_ := Aside0.mk (Kd.R_lower (Kd.R_new' (Kd.R_new' (Kd.R_new' (Kd.R_new' ho0 (Kd.R_lt (rdA HO303.out))) (Kd.R_lt (rdA HO313.out))) (Kd.R_lt (rdA HO325.out))) (Kd.R_lt (rdA HO335.out))) (below_size (hbA HB.out)))
                 have n5_ := Aside0.mk (blk_below (g := gb296) (o := .cells #[.int .i64 a0_0, .string a0_1, .int .i64 a0_2, .slice A0_3 l0_3.length c0_3] 24 (0, 0)) (rbA BK296.out) hb)
                 have n6_ := Aside0.mk (below_step (hbA HB.out) hb)
                 clear HO303
                 clear HO313
                 clear HO325
                 clear HO335
                 clear BK296
                 clear HB
                 have HO303 := n0_
                 have HO313 := n1_
                 have HO325 := n2_
                 have HO335 := n3_
                 have HO343 := n4_
                 have BK296 := n5_
                 have HB := n6_
                 clear n0_ n1_ n2_ n3_ n4_ n5_ n6_
                 (try clear hb)
                 (try clear hb2)
                 (try clear hk)
                 (try clear hi)
                 (try clear ho0)
                 obtain ⟨Ao60, co60, eo60⟩ := Kd.R_slice HO343.out
                 (first | subst eo60 | (injection eo60 with f1_ f2_ f3_; have f4_ := f1_.symm; have f5_ := f3_.symm; clear f1_ f2_ f3_; subst f4_; subst f5_))
                 refine hK.out _ _ ⟨(blk_cell BK296.out 0).trans rfl, (blk_cell BK296.out 1).trans rfl, (blk_cell BK296.out 2).trans rfl, (blk_cell BK296.out 3).trans rfl⟩ (fun hHeld => ?_)
                 clear hK K
                 refine normA_ ?_
                 refine one_ (i := 44) (N := some 104) #[true, true, true, true, true, true, true, true, true, true, true, true, true, true, true, true, true, true, true, true, true, true, true, true, true, true, true, true, true, true, true, true, true, true, true, true, true, true, true, true, true, true, true, true, true, false, true, false, false, false, false] rfl rfl (one_of HT_.out (by kernel_rfl)) (by decide) (fun K hK => ?_)
                 refine goes_ Tryz.func21 (by kernel_rfl) rfl #[.agg #[.int .i64 t338, .string t339, .int .i64 t340, .slice Ao60 t341.length co60]] (by rfl) rfl rfl argA ?_
                 with_reducible refine (meta_Canon.calls t338 t339 t340 _ _ t341 t344 t345 t346 t347 _ ?side1 ?side2 A29.out).mono ?_
                 (case side1 => repeat (first | exact (Kd.R_reads' HO343.out).2.2 | (with_reducible refine Kd.C_alloc ?_ _) | (with_reducible refine Kd.C_drewN ?_ _) | (with_reducible refine Kd.C_drew ?_)))
                 (case side2 => exact (Kd.R_reads' HO343.out).2.1)
                 rintro e w61 ⟨v348, rfl, ho0, hb⟩
                 refine ⟨_, rfl, ?_⟩
                 have n0_ := Aside0.mk (Kd.R_elder' (rdA HO303.out) (Kd.R_base ho0) hb)
                 have n1_ := Aside0.mk (Kd.R_elder' (rdA HO313.out) (Kd.R_base ho0) hb)
                 have n2_ := Aside0.mk (Kd.R_elder' (rdA HO325.out) (Kd.R_base ho0) hb)
                 have n3_ := Aside0.mk (Kd.R_elder' (rdA HO335.out) (Kd.R_base ho0) hb)
                 have n4_ := Aside0.mk (Kd.R_elder' (rdA HO343.out) (Kd.R_base ho0) hb)
                 have n5_ := Aside0.mk (Kd.R_lower (Kd.R_new' (Kd.R_new' (Kd.R_new' (Kd.R_new' (Kd.R_new' ho0 (Kd.R_lt (rdA HO303.out))) (Kd.R_lt (rdA HO313.out))) (Kd.R_lt (rdA HO325.out))) (Kd.R_lt (rdA HO335.out))) (Kd.R_lt (rdA HO343.out))) (below_size (hbA HB.out)))
                 have n6_ := Aside0.mk (blk_below (g := gb296) (o := .cells #[.int .i64 a0_0, .string a0_1, .int .i64 a0_2, .slice A0_3 l0_3.length c0_3] 24 (0, 0)) (rbA BK296.out) hb)
                 have n7_ := Aside0.mk (below_step (hbA HB.out) hb)
                 clear HO303
                 clear HO313
                 clear HO325
                 clear HO335
                 clear HO343
                 clear BK296
                 clear HB
                 have HO303 := n0_
                 have HO313 := n1_
                 have HO325 := n2_
                 have HO335 := n3_
                 have HO343 := n4_
                 have HO349 := n5_
                 have BK296 := n6_
                 have HB := n7_
                 clear n0_ n1_ n2_ n3_ n4_ n5_ n6_ n7_
                 (try clear hb)
                 (try clear hb2)
                 (try clear hk)
                 (try clear hi)
                 (try clear ho0)
                 obtain ⟨Ao62, co62, eo62⟩ := Kd.R_slice HO349.out
                 (first | subst eo62 | (injection eo62 with f1_ f2_ f3_; have f4_ := f1_.symm; have f5_ := f3_.symm; clear f1_ f2_ f3_; subst f4_; subst f5_))
                 refine hK.out _ _ ⟨(blk_cell BK296.out 0).trans rfl, (blk_cell BK296.out 1).trans rfl, (blk_cell BK296.out 2).trans rfl, (blk_cell BK296.out 3).trans rfl⟩ (fun hHeld => ?_)
                 clear hK K
                 refine normA_ ?_
                 refine one_ (i := 45) (N := some 105) #[true, true, true, true, true, true, true, true, true, true, true, true, true, true, true, true, true, true, true, true, true, true, true, true, true, true, true, true, true, true, true, true, true, true, true, true, true, true, true, true, true, true, true, true, true, true, true, false, false, false, false] rfl rfl (one_of HT_.out (by kernel_rfl)) (by decide) (fun K hK => ?_)
                 refine goes_ Tryz.func20 (by kernel_rfl) rfl #[.agg #[.int .i64 t344, .string t345, .int .i64 t346, .slice Ao62 t347.length co62]] (by rfl) rfl rfl argA ?_
                 with_reducible refine (tallboylaw27_From.calls k t344 t345 t346 _ _ t347 t350 t351 t352 t353 _ ?side1 ?side2 A30.out).mono ?_
                 (case side1 => repeat (first | exact (Kd.R_reads' HO349.out).2.2 | (with_reducible refine Kd.C_alloc ?_ _) | (with_reducible refine Kd.C_drewN ?_ _) | (with_reducible refine Kd.C_drew ?_)))
                 (case side2 => exact (Kd.R_reads' HO349.out).2.1)
                 rintro e w63 ⟨v354, rfl, ho0, hb⟩
                 refine ⟨_, rfl, ?_⟩
                 have n0_ := Aside0.mk (Kd.R_below (rdA HO303.out) hb)
                 have n1_ := Aside0.mk (Kd.R_below (rdA HO313.out) hb)
                 have n2_ := Aside0.mk (Kd.R_below (rdA HO325.out) hb)
                 have n3_ := Aside0.mk (Kd.R_below (rdA HO335.out) hb)
                 have n4_ := Aside0.mk (Kd.R_below (rdA HO343.out) hb)
                 have n5_ := Aside0.mk (Kd.R_below (rdA HO349.out) hb)
                 have n6_ := Aside0.mk (Kd.R_lower ho0 (below_size (hbA HB.out)))
                 have n7_ := Aside0.mk (blk_below (g := gb296) (o := .cells #[.int .i64 a0_0, .string a0_1, .int .i64 a0_2, .slice A0_3 l0_3.length c0_3] 24 (0, 0)) (rbA BK296.out) hb)
                 have n8_ := Aside0.mk (below_step (hbA HB.out) hb)
                 clear HO303
                 clear HO313
                 clear HO325
                 clear HO335
                 clear HO343
                 clear HO349
                 clear BK296
                 clear HB
                 have HO303 := n0_
                 have HO313 := n1_
                 have HO325 := n2_
                 have HO335 := n3_
                 have HO343 := n4_
                 have HO349 := n5_
                 have HO355 := n6_
                 have BK296 := n7_
                 have HB := n8_
                 clear n0_ n1_ n2_ n3_ n4_ n5_ n6_ n7_ n8_
                 (try clear hb)
                 (try clear hb2)
                 (try clear hk)
                 (try clear hi)
                 (try clear ho0)
                 refine hK.out _ _ ⟨(blk_cell BK296.out 0).trans rfl, (blk_cell BK296.out 1).trans rfl, (blk_cell BK296.out 2).trans rfl, (blk_cell BK296.out 3).trans rfl⟩ (fun hHeld => ?_)
                 clear hK K
                 refine normA_ ?_
                 refine one_ (i := 47) (N := some 107) #[true, true, true, true, true, true, true, true, true, true, true, true, true, true, true, true, true, true, true, true, true, true, true, true, true, true, true, true, true, true, true, true, true, true, true, true, true, true, true, true, true, true, true, true, true, true, true, true, false, false, false] rfl rfl (one_of HT_.out (by kernel_rfl)) (by decide) (fun K hK => ?_)
                 refine goes_ Tryz.func22 (by kernel_rfl) rfl #[.agg #[.int .i64 a0_0, .string a0_1, .int .i64 a0_2, .slice A0_3 l0_3.length c0_3]] (by rfl) rfl rfl argA ?_
                 with_reducible refine (tallboyref27_Canon.calls k a0_0 a0_1 a0_2 _ _ l0_3 t356 t357 t358 t359 _ ?side1 ?side2 A31.out).mono ?_
                 (case side1 => repeat (first | exact (Kd.C_below HR0_3.out HB.out) | (with_reducible refine Kd.C_alloc ?_ _) | (with_reducible refine Kd.C_drewN ?_ _) | (with_reducible refine Kd.C_drew ?_)))
                 (case side2 => exact HC0_3.out)
                 rintro e w64 ⟨v360, rfl, ho0, hb⟩
                 refine ⟨_, rfl, ?_⟩
                 have n0_ := Aside0.mk (Kd.R_below (rdA HO303.out) hb)
                 have n1_ := Aside0.mk (Kd.R_below (rdA HO313.out) hb)
                 have n2_ := Aside0.mk (Kd.R_below (rdA HO325.out) hb)
                 have n3_ := Aside0.mk (Kd.R_below (rdA HO335.out) hb)
                 have n4_ := Aside0.mk (Kd.R_below (rdA HO343.out) hb)
                 have n5_ := Aside0.mk (Kd.R_below (rdA HO349.out) hb)
                 have n6_ := Aside0.mk (Kd.R_elder' (rdA HO355.out) (Kd.R_base ho0) hb)
                 have n7_ := Aside0.mk (Kd.R_lower (Kd.R_new' ho0 (Kd.R_lt (rdA HO355.out))) (below_size (hbA HB.out)))
                 have n8_ := Aside0.mk (blk_below (g := gb296) (o := .cells #[.int .i64 a0_0, .string a0_1, .int .i64 a0_2, .slice A0_3 l0_3.length c0_3] 24 (0, 0)) (rbA BK296.out) hb)
                 have n9_ := Aside0.mk (below_step (hbA HB.out) hb)
                 clear HO303
                 clear HO313
                 clear HO325
                 clear HO335
                 clear HO343
                 clear HO349
                 clear HO355
                 clear BK296
                 clear HB
                 have HO303 := n0_
                 have HO313 := n1_
                 have HO325 := n2_
                 have HO335 := n3_
                 have HO343 := n4_
                 have HO349 := n5_
                 have HO355 := n6_
                 have HO361 := n7_
                 have BK296 := n8_
                 have HB := n9_
                 clear n0_ n1_ n2_ n3_ n4_ n5_ n6_ n7_ n8_ n9_
                 (try clear hb)
                 (try clear hb2)
                 (try clear hk)
                 (try clear hi)
                 (try clear ho0)
                 obtain ⟨Ao65, co65, eo65⟩ := Kd.R_slice HO355.out
                 (first | subst eo65 | (injection eo65 with f1_ f2_ f3_; have f4_ := f1_.symm; have f5_ := f3_.symm; clear f1_ f2_ f3_; subst f4_; subst f5_))
                 obtain ⟨Ao66, co66, eo66⟩ := Kd.R_slice HO361.out
                 (first | subst eo66 | (injection eo66 with f1_ f2_ f3_; have f4_ := f1_.symm; have f5_ := f3_.symm; clear f1_ f2_ f3_; subst f4_; subst f5_))
                 refine hK.out _ _ ⟨(blk_cell BK296.out 0).trans rfl, (blk_cell BK296.out 1).trans rfl, (blk_cell BK296.out 2).trans rfl, (blk_cell BK296.out 3).trans rfl⟩ (fun hHeld => ?_)
                 clear hK K
                 refine normA_ ?_
                 refine one_ (i := 48) (N := some 108) #[true, true, true, true, true, true, true, true, true, true, true, true, true, true, true, true, true, true, true, true, true, true, true, true, true, true, true, true, true, true, true, true, true, true, true, true, true, true, true, true, true, true, true, true, true, true, true, true, true, false, false] rfl rfl (one_of HT_.out (by kernel_rfl)) (by decide) (fun K hK => ?_)
                 refine goes_ Tryz.func19 (by kernel_rfl) rfl #[.agg #[.int .i64 t350, .string t351, .int .i64 t352, .slice Ao65 t353.length co65], .agg #[.int .i64 t356, .string t357, .int .i64 t358, .slice Ao66 t359.length co66]] (by rfl) rfl rfl argA ?_
                 with_reducible refine (tallboyref27_Same.calls k t350 t351 t352 _ _ t353 t356 t357 t358 _ _ t359 t362 _ ?side1 ?side2 ?side3 ?side4 A32.out).mono ?_
                 (case side1 => repeat (first | exact (Kd.R_reads' HO355.out).2.2 | (with_reducible refine Kd.C_alloc ?_ _) | (with_reducible refine Kd.C_drewN ?_ _) | (with_reducible refine Kd.C_drew ?_)))
                 (case side2 => exact (Kd.R_reads' HO355.out).2.1)
                 (case side3 => repeat (first | exact (Kd.R_reads' HO361.out).2.2 | (with_reducible refine Kd.C_alloc ?_ _) | (with_reducible refine Kd.C_drewN ?_ _) | (with_reducible refine Kd.C_drew ?_)))
                 (case side4 => exact (Kd.R_reads' HO361.out).2.1)
                 rintro e w67 ⟨rfl, hb⟩
                 refine ⟨_, rfl, ?_⟩
                 replace HO303 := Aside0.mk (Kd.R_below (rdA HO303.out) hb)
                 replace HO313 := Aside0.mk (Kd.R_below (rdA HO313.out) hb)
                 replace HO325 := Aside0.mk (Kd.R_below (rdA HO325.out) hb)
                 replace HO335 := Aside0.mk (Kd.R_below (rdA HO335.out) hb)
                 replace HO343 := Aside0.mk (Kd.R_below (rdA HO343.out) hb)
                 replace HO349 := Aside0.mk (Kd.R_below (rdA HO349.out) hb)
                 replace HO355 := Aside0.mk (Kd.R_below (rdA HO355.out) hb)
                 replace HO361 := Aside0.mk (Kd.R_below (rdA HO361.out) hb)
                 replace BK296 := Aside0.mk (blk_below (g := gb296) (o := .cells #[.int .i64 a0_0, .string a0_1, .int .i64 a0_2, .slice A0_3 l0_3.length c0_3] 24 (0, 0)) (rbA BK296.out) hb)
                 replace HB := Aside0.mk (below_step (hbA HB.out) hb)
                 (try clear hb)
                 (try clear hb2)
                 (try clear hk)
                 (try clear hi)
                 refine hK.out _ _ ⟨(blk_cell BK296.out 0).trans rfl, (blk_cell BK296.out 1).trans rfl, (blk_cell BK296.out 2).trans rfl, (blk_cell BK296.out 3).trans rfl⟩ (fun hHeld => ?_)
                 clear hK K
                 refine normA_ ?_
                 refine pureA_ (i := 49) (N := some 109) #[true, true, true, true, true, true, true, true, true, true, true, true, true, true, true, true, true, true, true, true, true, true, true, true, true, true, true, true, true, true, true, true, true, true, true, true, true, true, true, true, true, true, true, true, true, true, true, true, true, true, false] rfl rfl ?_ (hc := any_of HT_.out (by kernel_rfl))
                 refine pureA_ (i := 50) (N := some 4) #[true, true, true, true, true, true, true, true, true, true, true, true, true, true, true, true, true, true, true, true, true, true, true, true, true, true, true, true, true, true, true, true, true, true, true, true, true, true, true, true, true, true, true, true, true, true, true, true, true, true, true] rfl rfl ?_ (hc := any_of HT_.out (by kernel_rfl))
                 refine done_ (done_of HT_.out (by kernel_rfl)) ?_
                 try go_wp2
                 go_ret
                 exact ⟨reA, hbA HB.out⟩
               rw [if_neg c27] at H
               have c27b0 : (t327 == t329) = false := by simpa using c27
               (try (have c27b1 : decide (t327 = t329) = false := by simpa using c27))
               (try (have c27b2 : (t327 == t329) = false := by simpa using c27))
               (try (have c27b3 : ¬ (t327 = t329) := by simpa using c27))
               clear c27
               exact absurd ((Option.some.inj H).trans hrt) (by decide)
             rw [if_neg c26] at H
             have c26b0 : (t326.toList == t328.toList) = false := beq_eq_false_iff_ne.mpr c26
             have c26b1 : (t326.toList != t328.toList) = true := bne_iff_ne.mpr c26
             exact absurd ((Option.some.inj H).trans hrt) (by decide)
           rw [if_neg c25] at H
           have c25b0 : (t316 == t319) = false := by simpa using c25
           (try (have c25b1 : decide (t316 = t319) = false := by simpa using c25))
           (try (have c25b2 : (t316 == t319) = false := by simpa using c25))
           (try (have c25b3 : ¬ (t316 = t319) := by simpa using c25))
           clear c25
           exact absurd ((Option.some.inj H).trans hrt) (by decide)
         rw [if_neg c24] at H
         have c24b0 : (t315 == t318) = false := beq_eq_false_iff_ne.mpr c24
         have c24b1 : (t315 != t318) = true := bne_iff_ne.mpr c24
         exact absurd ((Option.some.inj H).trans hrt) (by decide)
       rw [if_neg c23] at H
       have c23b0 : (t314 == t317) = false := beq_eq_false_iff_ne.mpr c23
       have c23b1 : (t314 != t317) = true := bne_iff_ne.mpr c23
       exact absurd ((Option.some.inj H).trans hrt) (by decide)
     rw [if_neg c22] at H
     have c22b0 : (t305 == t307) = false := beq_eq_false_iff_ne.mpr c22
     have c22b1 : (t305 != t307) = true := bne_iff_ne.mpr c22
     exact absurd ((Option.some.inj H).trans hrt) (by decide)
   rw [if_neg c21] at H
   have c21b0 : (t304.toList == t306.toList) = false := beq_eq_false_iff_ne.mpr c21
   have c21b1 : (t304.toList != t306.toList) = true := bne_iff_ne.mpr c21
   exact absurd ((Option.some.inj H).trans hrt) (by decide)
 rw [if_neg c20] at H
 have c20b0 : (t336 == t337) = false := beq_eq_false_iff_ne.mpr c20
 have c20b1 : (t336 != t337) = true := bne_iff_ne.mpr c20
 exact absurd ((Option.some.inj H).trans hrt) (by decide)

end
end Go.Proofs.YtfboejlemnfndaaGreatDoor.XMk
end
section
namespace Go.Proofs.YtfboejlemnfndaaGreatDoor.XMk
open Go.RowKit Go.Proofs.YtfboejlemnfndaaGreatDoorW.PrintWords Go.Proofs.YtfboejlemnfndaaGreatDoorW.PrintLast Go.Proofs.YtfboejlemnfndaaGreatDoorW.PrintMore
attribute [local go_sem] extract_sub max2_int min2_int max_two min_two max_three min_three max_four min_four   -- for this text's walks alone
set_option linter.unusedVariables false
set_option linter.unusedSimpArgs false

noncomputable section
end
end Go.Proofs.YtfboejlemnfndaaGreatDoor.XMk
end
section
namespace Go.Proofs.YtfboejlemnfndaaGreatDoor.XMk
open Go.RowKit Go.Proofs.YtfboejlemnfndaaGreatDoorW.PrintWords Go.Proofs.YtfboejlemnfndaaGreatDoorW.PrintLast Go.Proofs.YtfboejlemnfndaaGreatDoorW.PrintMore
set_option linter.unusedVariables false
set_option linter.unusedSimpArgs false

theorem wrap_at (i : Nat) (h : i < 4611686018427387904) : wrap64 ((i : Int) + 1) = ((i + 1 : Nat) : Int) := by unfold wrap64; omega
theorem key_l0 (s : ByteArray) (hs : s.size ≤ 1000) : ∀ (n k i : Nat), n + i = s.size → n < k → ∃ b, fnv_Key.l0 k s (s.size : Int) (i : Int) = some b
  | n, 0, i, _, h => absurd h (by omega)
  | 0, k + 1, i, h, _ => ⟨true, by simp only [fnv_Key.l0]; rw [if_neg (by omega)]⟩
  | n + 1, k + 1, i, h, hk => by
    obtain ⟨b, hb⟩ := key_l0 s hs n k (i + 1) (by omega) (by omega)
    simp only [fnv_Key.l0]
    rw [if_pos (by omega), if_pos (by omega), if_pos (by omega), wrap_at i (by omega), hb]
    split
    · exact ⟨_, rfl⟩
    · split
      · exact ⟨_, rfl⟩
      · exact ⟨_, rfl⟩
theorem key_tot (s : ByteArray) (hs : s.size ≤ 1000) (k : Nat) (hk : 1010 ≤ k) : ∃ b, fnv_Key.f k s = some b := by
  obtain ⟨k, rfl⟩ : ∃ j, k = j + 1 := ⟨k - 1, by omega⟩
  have h0 : ∀ x, ∃ b, fnv_Key.j0 (k + 1) s x = some b := by
    intro x
    cases x
    · obtain ⟨b, hb⟩ := key_l0 s hs s.size k 0 (by omega) (by omega)
      exact ⟨b, by simp only [fnv_Key.j0, Bool.false_eq_true, if_false]; exact hb⟩
    · exact ⟨false, by simp only [fnv_Key.j0, if_true]⟩
  unfold fnv_Key.f
  split
  · exact h0 _
  · exact h0 _
theorem sort_tot (x : Int) (k : Nat) (hk : 10 ≤ k) : ∃ t, meta_sortOf.f k x = some t := by
  obtain ⟨k, rfl⟩ : ∃ j, k = j + 2 := ⟨k - 2, by omega⟩
  have h1 : ∀ y, ∃ t, meta_sortOf.j1 (k + 1) x y = some t := by
    intro y
    simp only [meta_sortOf.j1]
    repeat' split
    all_goals exact ⟨_, rfl⟩
  have h0 : ∀ y, ∃ t, meta_sortOf.j0 (k + 2) x y = some t := by
    intro y
    simp only [meta_sortOf.j0]
    repeat' split
    all_goals first | exact h1 _ | exact ⟨_, rfl⟩
  unfold meta_sortOf.f
  repeat' split
  all_goals exact h0 _
theorem parse_tot (s : ByteArray) (hs : s.size ≤ 1000) : digits_Parse.f s = some (digits_Parse.val s.data.toList) := by
  unfold digits_Parse.f
  rw [if_pos (by omega)]
theorem cut_tot (s : ByteArray) (hs : s.size ≤ 1000) : ∃ r b, strings_CutPrefix.f s ⟨#[45]⟩ = some (r, b) ∧ r.size ≤ 1000 := by
  have hp : ∃ b, stringslite_HasPrefix.f s ⟨#[45]⟩ = some b ∧ (b = true → 1 ≤ s.size) := by
    unfold stringslite_HasPrefix.f
    rw [show ((⟨#[45]⟩ : ByteArray).size : Int) = 1 from rfl]
    split
    · rw [if_pos (by omega)]
      exact ⟨_, rfl, fun _ => by omega⟩
    · exact ⟨_, rfl, fun h => absurd h (by decide)⟩
  obtain ⟨b, hb, h1⟩ := hp
  unfold strings_CutPrefix.f stringslite_CutPrefix.f
  rw [hb]
  simp only [Option.bind_some]
  cases b
  · exact ⟨s, false, rfl, hs⟩
  · have := h1 rfl
    rw [if_pos rfl, if_pos (by decide), if_pos (by rw [show ((⟨#[45]⟩ : ByteArray).size : Int) = 1 from rfl]; omega)]
    refine ⟨_, _, rfl, ?_⟩
    show (s.extract _ _).size ≤ 1000
    rw [ByteArray.size_extract]
    omega
theorem signed_tot (s : ByteArray) (hs : s.size ≤ 1000) (k : Nat) (hk : 10 ≤ k) : ∃ a b, digits_Signed.f k s = some (a, b) := by
  obtain ⟨k, rfl⟩ : ∃ j, k = j + 1 := ⟨k - 1, by omega⟩
  obtain ⟨r, b, hb, hr⟩ := cut_tot s hs
  unfold digits_Signed.f
  rw [hb]
  simp only [Option.bind_some, parse_tot r hr]
  repeat' split
  all_goals first
    | exact ⟨_, _, rfl⟩
    | (simp only [digits_Signed.j0]
       repeat' split
       all_goals exact ⟨_, _, rfl⟩)
theorem right_tot (op x : Int) (s : ByteArray) (hs : s.size ≤ 1000) (k : Nat) (hk : 1010 ≤ k) : ∃ b, meta_right.f k op x s = some b := by
  obtain ⟨t, ht⟩ := sort_tot x k (by omega)
  obtain ⟨a, b, hab⟩ := signed_tot s hs k (by omega)
  obtain ⟨y, hy⟩ := key_tot s hs k hk
  have hm : ∃ m, meta_modes.f op = some m ∧ m.size ≤ 5 := by
    unfold meta_modes.f
    split
    · exact ⟨_, rfl, by decide⟩
    · exact ⟨_, rfl, by decide⟩
  obtain ⟨m, hm, hm5⟩ := hm
  have hc : strings_Contains.f m s = some (Lib.contains m.data.toList s.data.toList) := by
    unfold strings_Contains.f
    rw [if_pos (by omega)]
  unfold meta_right.f
  rw [ht]
  simp only [Option.bind_some, parse_tot s hs, hab, hy, hm, hc]
  repeat' split
  all_goals exact ⟨_, rfl⟩
theorem owns_tot (op x : Int) (h : 1 ≤ op ∧ op ≤ 6) : ∃ b, meta_owns.f op x = some b := by
  unfold meta_owns.f
  rw [if_pos h]
  exact ⟨_, rfl⟩
theorem go_tot (op : Int) (h : 1 ≤ op ∧ op ≤ 6) (k : Nat) (hk : 1010 ≤ k) : ∀ (l : List S61) (seen : List Int), (∀ x ∈ l, x.f1.size ≤ 1000) → ∃ e, meta_shape.go k op l seen = some e
  | [], _, _ => ⟨0, rfl⟩
  | x :: l, seen, hs => by
    obtain ⟨b, hb⟩ := owns_tot op x.f0 h
    obtain ⟨q, hq⟩ := right_tot op x.f0 x.f1 (hs x List.mem_cons_self) k hk
    obtain ⟨e, he⟩ := go_tot op h k hk l (x.f0 :: seen) (fun y hy => hs y (List.mem_cons_of_mem _ hy))
    unfold meta_shape.go
    rw [hb, hq]
    simp only [Option.bind_some, he]
    repeat' split
    all_goals exact ⟨_, rfl⟩
def has (l : List S61) (c : Int) : Bool := l.any fun x => x.f0 == c
theorem find_eq (o : Int) (key : ByteArray) (sz : Int) (l : List S61) (c : Int) : ∃ t, meta_Find.f o key sz l c = some (t, has l c) := by
  unfold meta_Find.f
  cases h : l.find? (fun x => x.f0 == c) with
  | some x =>
    refine ⟨x.f1, ?_⟩
    have : has l c = true := List.any_eq_true.2 ⟨x, List.mem_of_find?_eq_some h, List.find?_some (p := fun x : S61 => x.f0 == c) h⟩
    rw [this]
  | none =>
    refine ⟨⟨#[]⟩, ?_⟩
    have : has l c = false := by
      unfold has
      rw [List.any_eq_false]
      intro x hx
      exact List.find?_eq_none.1 h x hx
    rw [this]
def keyB (k : Nat) (o : Int) (key : ByteArray) (b : Bool) : Option Bool :=
  if o = 5 then some (key.toList == ([] : List UInt8)) else if b = true then (if (key.size : Int) ≥ 1 then some (decide ((key.size : Int) ≤ 32)) else some false) else fnv_Key.f k key
theorem key_eq (k : Nat) (o : Int) (key : ByteArray) (sz : Int) (l : List S61) : meta_key.f k o key sz l = keyB k o key (has l 98) := by
  obtain ⟨t, ht⟩ := find_eq o key sz l 98
  unfold meta_key.f keyB
  rw [ht]
  simp only [Option.bind_some]
  split
  · rfl
  · split
    · rfl
    · cases fnv_Key.f k key <;> rfl
theorem keyB_tot (k : Nat) (o : Int) (key : ByteArray) (b : Bool) (hs : key.size ≤ 1000) (hk : 1010 ≤ k) : ∃ y, keyB k o key b = some y := by
  obtain ⟨y, hy⟩ := key_tot key hs k hk
  unfold keyB
  rw [hy]
  repeat' split
  all_goals exact ⟨_, rfl⟩
theorem there_eq (o : Int) : meta_there.f o = some (decide (1 ≤ o ∧ o ≤ 6)) := by
  unfold meta_there.f
  split
  · congr 1
    rw [decide_eq_decide]
    omega
  · congr 1
    rw [eq_comm, decide_eq_false_iff_not]
    omega
theorem shape_tot (k : Nat) (o : Int) (key : ByteArray) (sz : Int) (l : List S61) (hs : key.size ≤ 1000) (hl : ∀ x ∈ l, x.f1.size ≤ 1000) (hk : 1010 ≤ k) : ∃ e, meta_shape.f k o key sz l = some e := by
  obtain ⟨y, hy⟩ := keyB_tot k o key (has l 98) hs hk
  unfold meta_shape.f
  rw [there_eq, key_eq, hy]
  simp only [Option.bind_some, decide_eq_true_eq]
  split
  · obtain ⟨e, he⟩ := go_tot o (by assumption) k hk l [] hl
    rw [he]
    repeat' split
    all_goals exact ⟨_, rfl⟩
  · exact ⟨_, rfl⟩
theorem check_tot (k : Nat) (o : Int) (key : ByteArray) (sz : Int) (l : List S61) (hs : key.size ≤ 1000) (hl : ∀ x ∈ l, x.f1.size ≤ 1000) (hk : 1010 ≤ k) : ∃ e, meta_Check.f k o key sz l = some e := by
  obtain ⟨e, he⟩ := shape_tot k o key sz l hs hl hk
  unfold meta_Check.f
  rw [he]
  simp only [Option.bind_some]
  repeat' split
  all_goals exact ⟨_, rfl⟩
theorem shape_zero {k : Nat} {o : Int} {key : ByteArray} {sz : Int} {l : List S61} (h : meta_shape.f k o key sz l = some 0) :
    (1 ≤ o ∧ o ≤ 6) ∧ keyB k o key (has l 98) = some true ∧ ¬ (sz < 0 ∨ sz > 2147483647 ∨ (o ≠ 2 ∧ sz ≠ 0)) ∧ meta_shape.go k o l [] = some 0 := by
  unfold meta_shape.f at h
  rw [there_eq, key_eq] at h
  simp only [Option.bind_some, decide_eq_true_eq] at h
  split at h
  · rename_i ho
    cases hy : keyB k o key (has l 98) with
    | none => rw [hy] at h; cases h
    | some y =>
      rw [hy] at h
      simp only [Option.bind_some] at h
      cases y with
      | false => simp at h
      | true =>
        simp only [if_true] at h
        split at h
        · simp at h
        · exact ⟨ho, rfl, by assumption, h⟩
  · simp at h
theorem shape_is {k : Nat} {o : Int} {key : ByteArray} {sz : Int} {l : List S61} (ho : 1 ≤ o ∧ o ≤ 6) {y : Bool} (hy : keyB k o key (has l 98) = some y) (hz : ¬ (sz < 0 ∨ sz > 2147483647 ∨ (o ≠ 2 ∧ sz ≠ 0))) :
    meta_shape.f k o key sz l = if y = true then meta_shape.go k o l [] else some 6 := by
  unfold meta_shape.f
  rw [there_eq, key_eq, hy]
  simp only [Option.bind_some, decide_eq_true_eq]
  rw [if_pos ho]
  cases y
  · rfl
  · simp only [if_true]
    rw [if_neg hz]
theorem go_cons {k : Nat} {op : Int} {x : S61} {l : List S61} {seen : List Int} (h : meta_shape.go k op (x :: l) seen = some 0) :
    meta_owns.f op x.f0 = some true ∧ seen.contains x.f0 = false ∧ meta_right.f k op x.f0 x.f1 = some true ∧ meta_shape.go k op l (x.f0 :: seen) = some 0 := by
  unfold meta_shape.go at h
  cases hb : meta_owns.f op x.f0 with
  | none => rw [hb] at h; cases h
  | some b =>
    rw [hb] at h
    simp only [Option.bind_some] at h
    cases b with
    | false => simp at h
    | true =>
      simp only [if_true] at h
      cases hc : seen.contains x.f0 with
      | true => rw [hc] at h; simp at h
      | false =>
        rw [hc] at h
        simp only [Bool.false_eq_true, if_false] at h
        cases hq : meta_right.f k op x.f0 x.f1 with
        | none => rw [hq] at h; cases h
        | some q =>
          rw [hq] at h
          simp only [Option.bind_some] at h
          cases q with
          | false => simp at h
          | true => simp only [if_true] at h; exact ⟨rfl, rfl, rfl, h⟩
theorem go_mk {k : Nat} {op : Int} {x : S61} {l : List S61} {seen : List Int} (h1 : meta_owns.f op x.f0 = some true) (h2 : seen.contains x.f0 = false) (h3 : meta_right.f k op x.f0 x.f1 = some true) :
    meta_shape.go k op (x :: l) seen = meta_shape.go k op l (x.f0 :: seen) := by
  rw [meta_shape.go, h1]
  simp only [Option.bind_some, if_true]
  rw [h2, h3]
  simp only [Bool.false_eq_true, if_false, Option.bind_some, if_true]
theorem go_fewer {k : Nat} {op : Int} : ∀ {l : List S61} {seen seen' : List Int}, (∀ y, seen'.contains y = true → seen.contains y = true) → meta_shape.go k op l seen = some 0 → meta_shape.go k op l seen' = some 0
  | [], _, _, _, _ => rfl
  | x :: l, seen, seen', hs, h => by
    obtain ⟨h1, h2, h3, h4⟩ := go_cons h
    rw [go_mk h1 (by cases hc : seen'.contains x.f0 with | false => rfl | true => rw [hs _ hc] at h2; cases h2) h3]
    refine go_fewer (fun y hy => ?_) h4
    rw [List.contains_cons, Bool.or_eq_true] at hy ⊢
    rcases hy with hy | hy
    · exact .inl hy
    · exact .inr (hs y hy)
theorem go_less {k : Nat} {op : Int} {f : S61} {b : List S61} : ∀ {a : List S61} {seen : List Int}, meta_shape.go k op (a ++ f :: b) seen = some 0 → meta_shape.go k op (a ++ b) seen = some 0
  | [], seen, h => by
    obtain ⟨_, _, _, h4⟩ := go_cons h
    exact go_fewer (fun y hy => by rw [List.contains_cons, hy, Bool.or_true]) h4
  | x :: a, seen, h => by
    obtain ⟨h1, h2, h3, h4⟩ := go_cons h
    show meta_shape.go k op (x :: (a ++ b)) seen = some 0
    rw [go_mk h1 h2 h3]
    exact go_less h4
theorem go_twice {k : Nat} {op : Int} {f : S61} (hf : meta_owns.f op f.f0 = some true) : ∀ {l : List S61} {seen : List Int}, (seen.contains f.f0 = true ∨ ∃ x ∈ l, x.f0 = f.f0) → meta_shape.go k op l seen = some 0 → meta_shape.go k op (l ++ [f]) seen = some 4
  | [], seen, hs, _ => by
    rcases hs with hs | ⟨x, hx, _⟩
    · show meta_shape.go k op [f] seen = some 4
      rw [meta_shape.go, hf]
      simp only [Option.bind_some, if_true]
      rw [if_pos hs]
    · cases hx
  | x :: l, seen, hs, h => by
    obtain ⟨h1, h2, h3, h4⟩ := go_cons h
    show meta_shape.go k op (x :: (l ++ [f])) seen = some 4
    rw [go_mk h1 h2 h3]
    refine go_twice hf ?_ h4
    rcases hs with hs | ⟨y, hy, e⟩
    · exact .inl (by rw [List.contains_cons, hs, Bool.or_true])
    · rcases List.mem_cons.1 hy with rfl | hy
      · exact .inl (by rw [List.contains_cons, e]; simp)
      · exact .inr ⟨y, hy, e⟩
theorem go_owned {k : Nat} {op : Int} : ∀ {l : List S61} {seen : List Int}, meta_shape.go k op l seen = some 0 → ∀ x ∈ l, meta_owns.f op x.f0 = some true
  | [], _, _, x, hx => by cases hx
  | y :: l, seen, h, x, hx => by
    obtain ⟨h1, _, _, h4⟩ := go_cons h
    rcases List.mem_cons.1 hx with rfl | hx
    · exact h1
    · exact go_owned h4 x hx
def conv (x : S59) : S61 := ⟨x.f0, x.f1⟩
theorem to_l0 (o : Int) (key : ByteArray) (sz : Int) (l : List S59) (hl : l.length ≤ 200) : ∀ (n k i : Nat), n + i = l.length → n < k →
    tallboylaw27_To.l0 k (i : Int) o key sz l o key sz ((l.take i).map conv) = some (o, key, sz, l.map conv)
  | n, 0, i, _, h => absurd h (by omega)
  | 0, k + 1, i, h, _ => by
    simp only [tallboylaw27_To.l0]
    rw [if_neg (by omega), List.take_of_length_le (by omega)]
  | n + 1, k + 1, i, h, hk => by
    have ih := to_l0 o key sz l hl n k (i + 1) (by omega) (by omega)
    have e : (l.take (i + 1)).map conv = (l.take i).map conv ++ [⟨(rd_T59 l (i : Int)).f0, (rd_T59 l (i : Int)).f1⟩] := by
      have hi : i < l.length := by omega
      rw [List.take_add_one, List.getElem?_eq_getElem hi, List.map_append]
      congr 1
      unfold rd_T59
      rw [Int.toNat_natCast, List.getD_eq_getElem?_getD, List.getElem?_eq_getElem hi]
      rfl
    simp only [tallboylaw27_To.l0]
    rw [if_pos (by omega), if_pos (by omega), if_pos (by rw [List.length_map, List.length_take]; omega), wrap_at i (by omega), ← e]
    exact ih
theorem to_eq (o : Int) (key : ByteArray) (sz : Int) (l : List S59) (hl : l.length ≤ 200) (k : Nat) (hk : 210 ≤ k) : tallboylaw27_To.f k o key sz l = some (o, key, sz, l.map conv) :=
  to_l0 o key sz l hl l.length k 0 (by omega) (by omega)
theorem great_l0 (o : Int) (key : ByteArray) (sz : Int) (l : List S59) (hl : l.length ≤ 100) : ∀ (n k i : Nat), n + i = l.length → n < k →
    ∃ g, tallboylaw27_Great.l0 k (i : Int) o key sz l = some g ∧ (g = false → ∀ x ∈ l.drop i, x.f1.size ≤ 1000)
  | n, 0, i, _, h => absurd h (by omega)
  | 0, k + 1, i, h, _ => by
    simp only [tallboylaw27_Great.l0]
    rw [if_neg (by omega)]
    exact ⟨_, rfl, fun _ x hx => by rw [List.drop_of_length_le (by omega)] at hx; cases hx⟩
  | n + 1, k + 1, i, h, hk => by
    obtain ⟨g, hg, ih⟩ := great_l0 o key sz l hl n k (i + 1) (by omega) (by omega)
    have hi : i < l.length := by omega
    have e : rd_T59 l (i : Int) = l[i] := by
      unfold rd_T59
      rw [Int.toNat_natCast, List.getD_eq_getElem?_getD, List.getElem?_eq_getElem hi]
      rfl
    simp only [tallboylaw27_Great.l0]
    rw [if_pos (by omega), if_pos (by omega), wrap_at i (by omega), e]
    split
    · exact ⟨true, rfl, fun h => by cases h⟩
    · refine ⟨g, hg, fun hf x hx => ?_⟩
      rw [List.drop_eq_getElem_cons hi] at hx
      rcases List.mem_cons.1 hx with rfl | hx
      · omega
      · exact ih hf x hx
theorem great_tot (o : Int) (key : ByteArray) (sz : Int) (l : List S59) (k : Nat) (hk : 210 ≤ k) :
    ∃ g, tallboylaw27_Great.f k o key sz l = some g ∧ (g = false → l.length ≤ 100 ∧ key.size ≤ 1000 ∧ ∀ x ∈ l, x.f1.size ≤ 1000) := by
  obtain ⟨k, rfl⟩ : ∃ j, k = j + 1 := ⟨k - 1, by omega⟩
  unfold tallboylaw27_Great.f
  split
  · exact ⟨true, by simp only [tallboylaw27_Great.j0, if_true], fun h => by cases h⟩
  · by_cases h1 : (key.size : Int) > 1000
    · exact ⟨true, by rw [decide_eq_true h1]; simp only [tallboylaw27_Great.j0, if_true], fun h => by cases h⟩
    · obtain ⟨g, hg, h2⟩ := great_l0 o key sz l (by omega) l.length k 0 (by omega) (by omega)
      refine ⟨g, by rw [decide_eq_false h1]; simp only [tallboylaw27_Great.j0, Bool.false_eq_true, if_false]; exact hg, fun h => ⟨by omega, by omega, fun x hx => h2 h x (by simpa using hx)⟩⟩
end Go.Proofs.YtfboejlemnfndaaGreatDoor.XMk
end
section
namespace Go.Proofs.YtfboejlemnfndaaGreatDoor.Text
open Go

theorem ib_hit (c : UInt8) (r : List UInt8) : ∀ x : List UInt8, c ∉ x → Lib.indexByte (x ++ c :: r) c = (x.length : Int)
  | [], _ => by simp [Lib.indexByte]
  | b :: x, h => by
    have h1 : b ≠ c := fun e => h (by rw [e]; exact List.mem_cons_self)
    have h2 := ib_hit c r x (fun hm => h (List.mem_cons_of_mem _ hm))
    show Lib.indexByte (b :: (x ++ c :: r)) c = _
    unfold Lib.indexByte
    rw [if_neg (by simpa using h1), h2, if_neg (by simp)]
    simp
theorem ib_miss (c : UInt8) : ∀ x : List UInt8, c ∉ x → Lib.indexByte x c = -1
  | [], _ => rfl
  | b :: x, h => by
    have h1 : b ≠ c := fun e => h (by rw [e]; exact List.mem_cons_self)
    have h2 := ib_miss c x (fun hm => h (List.mem_cons_of_mem _ hm))
    unfold Lib.indexByte
    rw [if_neg (by simpa using h1), h2]
    rfl
theorem split_join (c : UInt8) : ∀ (r : List (List UInt8)) (x : List UInt8), (∀ y ∈ x :: r, c ∉ y) → Lib.splitK [c] 0 (Lib.count (Lib.join (x :: r) [c]) [c]) (Lib.join (x :: r) [c]) = x :: r
  | [], x, h => by
    have hi : Lib.index x [c] = -1 := by rw [Lib.index_one]; exact ib_miss c x (h x List.mem_cons_self)
    rw [Lib.join_one, Lib.count_miss hi]
    rfl
  | y :: r, x, h => by
    have ih := split_join c r y (fun z hz => h z (List.mem_cons_of_mem _ hz))
    have hj : Lib.join (x :: y :: r) [c] = x ++ c :: Lib.join (y :: r) [c] := by
      rw [Lib.join_cons, Lib.join_cons]
      simp [Lib.joinTail]
    have hi : Lib.index (x ++ c :: Lib.join (y :: r) [c]) [c] = (x.length : Int) := by rw [Lib.index_one]; exact ib_hit c _ x (h x List.mem_cons_self)
    have hd : (x ++ c :: Lib.join (y :: r) [c]).drop (x.length + [c].length) = Lib.join (y :: r) [c] := by
      rw [List.length_singleton, List.drop_append, List.drop_of_length_le (by omega)]
      simp
    rw [hj, Lib.count_hit (by simp) hi, hd, Nat.add_comm]
    have hm : ¬ (Lib.index (x ++ c :: Lib.join (y :: r) [c]) [c] == -1) = true := by rw [hi]; simp
    rw [Lib.splitK, if_neg hm, hi]
    rw [show ((x.length : Int)).toNat = x.length from Int.toNat_natCast _, hd, ih]
    simp
theorem map_data_inj : ∀ (a b : List ByteArray), a.map (·.data.toList) = b.map (·.data.toList) → a = b
  | [], [], _ => rfl
  | [], _ :: _, h => by cases h
  | _ :: _, [], h => by cases h
  | x :: a, y :: b, h => by
    simp only [List.map_cons, List.cons.injEq] at h
    have e : x = y := by
      obtain ⟨x⟩ := x
      obtain ⟨y⟩ := y
      congr 1
      exact Array.toList_inj.1 h.1
    rw [e, map_data_inj a b h.2]
theorem splitB_join (x : ByteArray) (r : List ByteArray) (h : ∀ y ∈ x :: r, (32 : UInt8) ∉ y.data.toList) :
    Lib.splitB ⟨#[32]⟩ 0 (Lib.countB ⟨(Lib.join ((x :: r).map (·.data.toList)) [32]).toArray⟩ ⟨#[32]⟩) ⟨(Lib.join ((x :: r).map (·.data.toList)) [32]).toArray⟩ = x :: r := by
  apply map_data_inj
  rw [Lib.splitB_data]
  show Lib.splitK [32] 0 (Lib.count (Lib.join ((x :: r).map (·.data.toList)) [32]).toArray.toList [32]) (Lib.join ((x :: r).map (·.data.toList)) [32]).toArray.toList = _
  rw [List.toList_toArray, List.map_cons]
  refine split_join 32 _ _ (fun y hy => ?_)
  have hy' : y ∈ (x :: r).map (fun z : ByteArray => z.data.toList) := hy
  obtain ⟨z, hz, rfl⟩ := List.mem_map.1 hy'
  exact h z hz
theorem parse_snoc (M : Nat) (c : UInt8) (hc : 48 ≤ c.toNat ∧ c.toNat ≤ 57) : ∀ (l : List UInt8) (acc u : Nat), Lib.parseUintM M acc l = .ok u → u < 1844674407370955162 → u * 10 + (c.toNat - 48) ≤ M → Lib.parseUintM M acc (l ++ [c]) = .ok (u * 10 + (c.toNat - 48))
  | [], acc, u, h, h1, h2 => by
    obtain rfl : acc = u := by simpa [Lib.parseUintM] using h
    show Lib.parseUintM M acc [c] = _
    unfold Lib.parseUintM
    rw [if_pos hc, if_neg (by omega), if_neg (by omega)]
    rfl
  | b :: l, acc, u, h, h1, h2 => by
    show Lib.parseUintM M acc (b :: (l ++ [c])) = _
    unfold Lib.parseUintM at h ⊢
    split at h
    · rename_i hb
      rw [if_pos hb]
      split at h
      · cases h
      · rename_i ha
        rw [if_neg ha]
        split at h
        · cases h
        · rename_i hm
          rw [if_neg hm]
          exact parse_snoc M c hc l _ u h h1 h2
    · cases h
theorem dec_small (u : Nat) (h : u < 10) : Lib.decDigits u = [UInt8.ofNat (48 + u)] := by rw [Lib.decDigits, dif_pos h]
theorem dec_big (u : Nat) (h : ¬ u < 10) : Lib.decDigits u = Lib.decDigits (u / 10) ++ [UInt8.ofNat (48 + u % 10)] := by rw [Lib.decDigits, dif_neg h]
theorem dig_toNat (d : Nat) (h : d < 10) : (UInt8.ofNat (48 + d)).toNat = 48 + d := by
  show (48 + d) % 256 = 48 + d
  omega
theorem dec_parse : ∀ (n u : Nat), u < n → u < 18446744073709551616 → Lib.parseUintM 18446744073709551615 0 (Lib.decDigits u) = .ok u
  | 0, u, h, _ => absurd h (by omega)
  | n + 1, u, h, hu => by
    by_cases h10 : u < 10
    · rw [dec_small u h10]
      unfold Lib.parseUintM
      rw [dig_toNat u h10, if_pos (by omega), if_neg (by omega), if_neg (by omega)]
      show Lib.NumEnd.ok _ = Lib.NumEnd.ok _
      congr 1
      omega
    · rw [dec_big u h10]
      have ih := dec_parse n (u / 10) (by omega) (by omega)
      have hd := dig_toNat (u % 10) (by omega)
      rw [parse_snoc _ (UInt8.ofNat (48 + u % 10)) (by rw [hd]; omega) _ _ _ ih (by omega) (by rw [hd]; omega), hd]
      congr 1
      omega
theorem dec_dig : ∀ (n u : Nat), u < n → ∀ c ∈ Lib.decDigits u, 48 ≤ c.toNat ∧ c.toNat ≤ 57
  | 0, u, h => absurd h (by omega)
  | n + 1, u, h => by
    intro c hc
    by_cases h10 : u < 10
    · rw [dec_small u h10] at hc
      obtain rfl := List.mem_singleton.1 hc
      rw [dig_toNat u h10]
      omega
    · rw [dec_big u h10] at hc
      rcases List.mem_append.1 hc with hc | hc
      · exact dec_dig n (u / 10) (by omega) c hc
      · obtain rfl := List.mem_singleton.1 hc
        rw [dig_toNat _ (by omega)]
        omega
theorem dec_ne (u : Nat) : Lib.decDigits u ≠ [] := by
  by_cases h10 : u < 10
  · rw [dec_small u h10]; simp
  · rw [dec_big u h10]; simp
theorem dec_len : ∀ (k u : Nat), u < 10 ^ (k + 1) → (Lib.decDigits u).length ≤ k + 1
  | 0, u, h => by rw [dec_small u (by simpa using h)]; simp
  | k + 1, u, h => by
    by_cases h10 : u < 10
    · rw [dec_small u h10]; simp
    · rw [dec_big u h10, List.length_append, List.length_singleton]
      have := dec_len k (u / 10) (by rw [Nat.pow_succ] at h; omega)
      omega
end Go.Proofs.YtfboejlemnfndaaGreatDoor.Text
end
section
namespace Go.Proofs.YtfboejlemnfndaaGreatDoor.XMk
open Go.RowKit Go.Proofs.YtfboejlemnfndaaGreatDoorW.PrintWords Go.Proofs.YtfboejlemnfndaaGreatDoorW.PrintLast Go.Proofs.YtfboejlemnfndaaGreatDoorW.PrintMore
set_option linter.unusedVariables false
set_option linter.unusedSimpArgs false

theorem ba_ext (a b : ByteArray) (h : a.data.toList = b.data.toList) : a = b := by
  obtain ⟨a⟩ := a
  obtain ⟨b⟩ := b
  congr 1
  exact Array.toList_inj.1 h
theorem bt_list (s : ByteArray) (i : Nat) (h : i < s.data.toList.length) : bt s (i : Int) = ((s.data.toList[i]'h).toNat : Int) := by
  have hs : i < s.size := by rw [Lib.size_eq]; exact h
  unfold bt
  rw [dif_pos (by rw [Int.toNat_natCast]; exact hs)]
  simp only [Int.toNat_natCast]
  rfl
def NoSp (s : ByteArray) : Prop := (32 : UInt8) ∉ s.data.toList
theorem nosp_of {s : ByteArray} (h : ∀ c ∈ s.data.toList, c.toNat ≠ 32) : NoSp s := fun hm => h 32 hm rfl
theorem key_l0_true (s : ByteArray) (hs : s.size ≤ 1000) : ∀ (n k i : Nat), n + i = s.size → fnv_Key.l0 k s (s.size : Int) (i : Int) = some true → ∀ c ∈ s.data.toList.drop i, c.toNat ≠ 32
  | n, 0, i, _, h => by simp [fnv_Key.l0] at h
  | 0, k + 1, i, hn, _ => fun c hc => by rw [List.drop_of_length_le (by rw [← Lib.size_eq]; omega)] at hc; cases hc
  | n + 1, k + 1, i, hn, h => by
    have hi : i < s.data.toList.length := by rw [← Lib.size_eq]; omega
    simp only [fnv_Key.l0] at h
    rw [if_pos (by omega), if_pos (by omega), if_pos (by omega), wrap_at i (by omega), bt_list s i hi] at h
    split at h
    · simp at h
    · split at h
      · simp at h
      · intro c hc
        rw [List.drop_eq_getElem_cons hi] at hc
        rcases List.mem_cons.1 hc with rfl | hc
        · omega
        · exact key_l0_true s hs n k (i + 1) (by omega) h c hc
theorem key_nosp (s : ByteArray) (hs : s.size ≤ 1000) (k : Nat) (h : fnv_Key.f k s = some true) : NoSp s := by
  have h0 : ∀ x, fnv_Key.j0 k s x = some true → NoSp s := by
    intro x hx
    cases k with
    | zero => simp [fnv_Key.j0] at hx
    | succ k =>
      cases x with
      | true => simp [fnv_Key.j0] at hx
      | false =>
        simp only [fnv_Key.j0, Bool.false_eq_true, if_false] at hx
        exact nosp_of (by simpa using key_l0_true s hs s.size k 0 (by omega) hx)
  unfold fnv_Key.f at h
  split at h
  · exact h0 _ h
  · exact h0 _ h
theorem dig_nosp (s : ByteArray) (h : (digits_Parse.val s.data.toList).2 = 0) : NoSp s := by
  have hd : digits_Parse.dig s.data.toList = true := by
    cases hd : digits_Parse.dig s.data.toList with
    | true => rfl
    | false =>
      unfold digits_Parse.val at h
      rw [hd] at h
      simp at h
  refine nosp_of (fun c hc => ?_)
  have := List.all_eq_true.1 hd c hc
  have := of_decide_eq_true this
  omega
theorem cut_parts (s r : ByteArray) (b : Bool) (h : strings_CutPrefix.f s ⟨#[45]⟩ = some (r, b)) (hr : NoSp r) : NoSp s := by
  unfold strings_CutPrefix.f stringslite_CutPrefix.f stringslite_HasPrefix.f at h
  rw [show ((⟨#[45]⟩ : ByteArray).size : Int) = 1 from rfl] at h
  by_cases h1 : (s.size : Int) ≥ 1
  · rw [if_pos h1, if_pos (by decide), if_pos (by omega)] at h
    simp only [Option.bind_some] at h
    split at h
    · rename_i hp
      rw [if_pos (by decide)] at h
      simp only [Option.bind_some, Option.some.injEq, Prod.mk.injEq] at h
      have hp' : (sub s 0 ((1 : Int)).toNat).toList = [45] := by simpa using hp
      rw [ByteArray.toList_eq] at hp'
      have e1 : s.data.toList.take 1 = [45] := by
        have : (sub s 0 1).data.toList = [45] := hp'
        rw [show sub s 0 1 = s.extract 0 1 from rfl, Lib.extract_data] at this
        simpa using this
      have e2 : s.data.toList.drop 1 = r.data.toList := by
        rw [← h.1]
        show _ = (s.extract 1 s.size).data.toList
        rw [Lib.extract_to_end]
      intro hm
      rw [← List.take_append_drop 1 s.data.toList, e1, e2] at hm
      rcases List.mem_append.1 hm with hm | hm
      · exact absurd hm (by decide)
      · exact hr hm
    · simp only [Option.bind_some, Option.some.injEq, Prod.mk.injEq] at h
      rw [h.1]
      exact hr
  · rw [if_neg h1] at h
    simp only [Option.bind_some, Bool.false_eq_true, if_false, Option.some.injEq, Prod.mk.injEq] at h
    rw [h.1]
    exact hr
theorem right_nosp (op x : Int) (s : ByteArray) (hs : s.size ≤ 1000) (k : Nat) (hk : 1010 ≤ k) (h : meta_right.f k op x s = some true) : NoSp s := by
  obtain ⟨t, ht⟩ := sort_tot x k (by omega)
  unfold meta_right.f at h
  rw [ht] at h
  simp only [Option.bind_some, parse_tot s hs] at h
  split at h
  · exact dig_nosp s (by simpa using h)
  · split at h
    · split at h
      · exact dig_nosp s (by assumption)
      · simp at h
    · split at h
      · obtain ⟨r, b, hb, hr⟩ := cut_tot s hs
        refine cut_parts s r b hb (dig_nosp r ?_)
        unfold digits_Signed.f at h
        rw [hb] at h
        simp only [Option.bind_some, parse_tot r hr] at h
        split at h
        · assumption
        · simpa using h
      · split at h
        · refine key_nosp s hs k ?_
          cases hf : fnv_Key.f k s with
          | none => rw [hf] at h; cases h
          | some b => rw [hf] at h; simpa using h
        · split at h
          · split at h
            · rename_i h1
              intro hm
              have hl : s.data.toList.length = 1 := by rw [← Lib.size_eq]; omega
              obtain ⟨c, hc⟩ := List.length_eq_one_iff.1 hl
              rw [hc] at hm
              have e : (32 : UInt8) = c := by simpa using hm
              subst e
              have hm2 : ∃ m, meta_modes.f op = some m ∧ m.size < 4294967281 ∧ Lib.contains m.data.toList [32] = false := by
                unfold meta_modes.f
                split
                · exact ⟨_, rfl, by decide, by kernel_rfl⟩
                · exact ⟨_, rfl, by decide, by kernel_rfl⟩
              obtain ⟨m, hm1, hm3, hm4⟩ := hm2
              rw [hm1] at h
              simp only [Option.bind_some] at h
              unfold strings_Contains.f at h
              rw [if_pos hm3, hc, hm4] at h
              simp at h
            · simp at h
          · have : s.toList = [] := by simpa using h
            rw [ByteArray.toList_eq] at this
            exact nosp_of (fun c hc => by rw [this] at hc; cases hc)
theorem letters (n : Int) : ∀ c ∈ meta_owns.flags n, 65 ≤ c.toNat ∧ c.toNat ≤ 122 := by
  unfold meta_owns.flags
  repeat' split
  all_goals decide
theorem owned_letter {op x : Int} (h : meta_owns.f op x = some true) : 65 ≤ x ∧ x ≤ 122 := by
  unfold meta_owns.f at h
  split at h
  · injection h with h
    obtain ⟨c, hc, e⟩ := List.any_eq_true.1 h
    have e' : (c.toNat : Int) = x := by simpa using e
    have := letters op c hc
    omega
  · cases h
theorem enc_nosp : ∀ (n : Nat) (l : List UInt8), l.length ≤ n → ∀ c ∈ B64.enc l, c.toNat ≠ 32 := by
  have h8 : ∀ v, v < 64 → (B64.let8 v).toNat ≠ 32 := fun v hv => by rw [B64.let8_toNat v hv]; have := B64.lt_range v hv; omega
  intro n
  induction n with
  | zero => intro l hl c hc; rw [show l = [] from List.length_eq_zero_iff.1 (by omega)] at hc; cases hc
  | succ n ih =>
    intro l hl c hc
    by_cases h0 : l = []
    · rw [h0] at hc; cases hc
    · rw [B64.enc_step l h0] at hc
      rcases List.mem_append.1 hc with hc | hc
      · have hw := B64.word_lt l
        unfold B64.four at hc
        simp only [List.mem_cons, List.mem_nil_iff, or_false] at hc
        rcases hc with rfl | rfl | rfl | rfl
        · exact h8 _ (by omega)
        · exact h8 _ (by omega)
        · split
          · exact h8 _ (by omega)
          · decide
        · split
          · exact h8 _ (by omega)
          · decide
      · refine ih (l.drop 3) ?_ c hc
        have := List.length_pos_iff.2 h0
        rw [List.length_drop]
        omega
def nameOf (o : Int) : ByteArray := if o = 1 then ⟨#[109, 103]⟩ else if o = 2 then ⟨#[109, 115]⟩ else if o = 3 then ⟨#[109, 100]⟩ else if o = 4 then ⟨#[109, 97]⟩ else if o = 5 then ⟨#[109, 110]⟩ else ⟨#[109, 101]⟩
theorem name_nosp (o : Int) : NoSp (nameOf o) := by
  unfold nameOf NoSp
  repeat' split
  all_goals decide
theorem name_size (o : Int) : (nameOf o).size = 2 := by
  unfold nameOf
  repeat' split
  all_goals rfl
def fw (x : S61) : ByteArray := Utf8.encode (wrap32 x.f0) ++ x.f1
theorem enc_letter (c : Int) (h : 65 ≤ c ∧ c ≤ 122) : Utf8.encode (wrap32 c) = ⟨#[UInt8.ofNat c.toNat]⟩ := by
  have e : wrap32 c = c := by unfold wrap32; omega
  unfold Utf8.encode
  have hv : Utf8.valid c = true := by unfold Utf8.valid; simp; omega
  rw [e, hv]
  simp only [if_true]
  rw [if_pos (by omega)]
theorem enc_size (c : Int) : (Utf8.encode c).size ≤ 4 := by
  unfold Utf8.encode
  simp only []
  repeat' split
  all_goals (first | decide | exact Nat.le_of_ble_eq_true rfl)
theorem fw_list (x : S61) (h : 65 ≤ x.f0 ∧ x.f0 ≤ 122) : (fw x).data.toList = UInt8.ofNat x.f0.toNat :: x.f1.data.toList := by
  unfold fw
  rw [enc_letter _ h, ByteArray.data_append]
  simp
theorem fw_nosp (x : S61) (h : 65 ≤ x.f0 ∧ x.f0 ≤ 122) (ht : NoSp x.f1) : NoSp (fw x) := by
  unfold NoSp
  rw [fw_list x h]
  intro hm
  rcases List.mem_cons.1 hm with e | hm
  · have := congrArg UInt8.toNat e
    rw [show (UInt8.ofNat x.f0.toNat).toNat = x.f0.toNat % 256 from rfl] at this
    have e32 : (32 : UInt8).toNat = 32 := rfl
    omega
  · exact ht hm
def keyW (key : ByteArray) (b : Bool) : ByteArray := if b = true then ⟨(B64.enc key.data.toList).toArray⟩ else key
def restOf (o : Int) (key : ByteArray) (sz : Int) (L : List S61) : List ByteArray :=
  (if o = 5 then [] else [keyW key (has L 98)]) ++ ((if o = 2 then [⟨(Lib.decDigits (IntKind.u64.wrap sz).toNat).toArray⟩] else []) ++ L.map fw)
def lineOf (ws : List ByteArray) : ByteArray := ⟨(Lib.join (ws.map (·.data.toList)) [32]).toArray⟩
end Go.Proofs.YtfboejlemnfndaaGreatDoor.XMk
end
section
namespace Go.Proofs.YtfboejlemnfndaaGreatDoor.XMk
open Go.RowKit Go.Proofs.YtfboejlemnfndaaGreatDoorW.PrintWords Go.Proofs.YtfboejlemnfndaaGreatDoorW.PrintLast Go.Proofs.YtfboejlemnfndaaGreatDoorW.PrintMore
set_option linter.unusedVariables false
set_option linter.unusedSimpArgs false
set_option linter.unusedSectionVars false

theorem ops_tab : ∃ T, meta_ops.f = some T ∧ T.length = 7 ∧ ∀ n : Int, 1 ≤ n → n ≤ 6 → (rd_T63 T n).f0 = nameOf n := by
  refine ⟨_, rfl, rfl, fun n h1 h2 => ?_⟩
  have hn : n = 1 ∨ n = 2 ∨ n = 3 ∨ n = 4 ∨ n = 5 ∨ n = 6 := by omega
  rcases hn with rfl | rfl | rfl | rfl | rfl | rfl <;> rfl
theorem up {α : Type} (f : Nat → Option α) (hm : ∀ k, LeO (f k) (f (k + 1))) {k : Nat} {r : α} (h : f k = some r) : ∀ n, f (k + n) = some r
  | 0 => h
  | n + 1 => hm (k + n) r (up f hm h n)
theorem lens_le (B : Nat) : ∀ xs : List (List UInt8), (∀ x ∈ xs, x.length ≤ B) → Lib.lens xs ≤ B * xs.length
  | [], _ => by simp [Lib.lens]
  | x :: xs, h => by
    have h1 := h x List.mem_cons_self
    have h2 := lens_le B xs (fun y hy => h y (List.mem_cons_of_mem _ hy))
    simp only [Lib.lens, List.map_cons, List.sum_cons, List.length_cons] at h2 ⊢
    rw [Nat.mul_succ]
    omega
theorem join_tot (x : ByteArray) (r : List ByteArray) (hr : r.length ≤ 1000) (hs : ∀ y ∈ x :: r, y.size ≤ 5000) : strings_Join.f (x :: r) ⟨#[32]⟩ = some (lineOf (x :: r)) := by
  have h1 : (Lib.join ((x :: r).map (·.data.toList)) [32]).length ≤ 140737488355328 := by
    rw [List.map_cons, Lib.join_length, ← List.map_cons (f := fun z : ByteArray => z.data.toList)]
    have := lens_le 5000 ((x :: r).map (fun z : ByteArray => z.data.toList)) (fun y hy => by
      obtain ⟨z, hz, rfl⟩ := List.mem_map.1 hy
      have := hs z hz
      rw [Lib.size_eq] at this
      exact this)
    simp only [List.length_map, List.length_cons, List.length_nil, Nat.zero_add, Nat.one_mul] at this ⊢
    omega
  unfold strings_Join.f
  rw [if_pos ⟨by simp; omega, h1⟩]
  rfl
theorem write_l0 (L : List S61) (hL : L.length ≤ 200) (ht : ∀ x ∈ L, x.f1.size ≤ 1000) : ∀ (n k i : Nat) (ws : List ByteArray), n + i = L.length → n < k → ws.length ≤ 10 + i →
    meta_Write.l0 k ws L (L.length : Int) (i : Int) = (strings_Join.f (ws ++ (L.drop i).map fw) ⟨#[32]⟩).bind fun t => if (t.size : Int) > 160 then some (⟨#[]⟩, 7) else some (t, 0)
  | n, 0, i, ws, _, h, _ => absurd h (by omega)
  | 0, k + 1, i, ws, hn, _, _ => by
    simp only [meta_Write.l0]
    rw [if_neg (by omega), List.drop_of_length_le (by omega), List.map_nil, List.append_nil]
  | n + 1, k + 1, i, ws, hn, hk, hw => by
    have hi : i < L.length := by omega
    have e : rd_T61 L (i : Int) = L[i] := by
      unfold rd_T61
      rw [Int.toNat_natCast, List.getD_eq_getElem?_getD, List.getElem?_eq_getElem hi]
      rfl
    have h4 := enc_size (wrap32 (L[i]).f0)
    have h5 := ht _ (List.getElem_mem hi)
    have ih := write_l0 L hL ht n k (i + 1) (ws ++ [fw L[i]]) (by omega) (by omega) (by rw [List.length_append, List.length_singleton]; omega)
    simp only [meta_Write.l0]
    rw [if_pos (by omega), if_pos (by omega), if_pos (by omega), e, if_pos (by omega), if_pos (by omega), wrap_at i (by omega)]
    show meta_Write.l0 k (ws ++ [fw L[i]]) L (L.length : Int) ((i + 1 : Nat) : Int) = _
    rw [ih, List.append_assoc, List.singleton_append, ← List.map_cons, ← List.drop_eq_getElem_cons hi]
section
variable {k : Nat} {o : Int} {key : ByteArray} {sz : Int} {L : List S61} (hk : 3000 ≤ k) (hL : L.length ≤ 200) (hks : key.size ≤ 1000) (hts : ∀ x ∈ L, x.f1.size ≤ 1000) (hs : meta_shape.f k o key sz L = some 0)
include hk hL hks hts hs
theorem enc_is : meta_Encode.f key = some ⟨(B64.enc key.data.toList).toArray⟩ := by
  unfold meta_Encode.f
  rw [if_pos (by omega)]
theorem size_is : IntKind.u64.wrap sz = sz ∧ 0 ≤ sz ∧ sz ≤ 2147483647 := by
  obtain ⟨_, _, hc, _⟩ := shape_zero hs
  rw [IntKind.wrap_u64]
  omega
theorem text_is : digits_Text.f (IntKind.u64.wrap sz) = some ⟨(Lib.decDigits (IntKind.u64.wrap sz).toNat).toArray⟩ := by
  obtain ⟨h1, h2, h3⟩ := size_is hk hL hks hts hs
  unfold digits_Text.f strconv_FormatUint_62.f
  have : strconv_FormatUint_80.f (IntKind.u64.wrap sz) 10 = some ⟨(Lib.decDigits (IntKind.u64.wrap sz).toNat).toArray⟩ := by
    unfold strconv_FormatUint_80.f
    rw [if_pos (by rw [h1]; omega)]
  rw [this]
  rfl
theorem j0_is (ws : List ByteArray) (hw : ws.length ≤ 2) (k' : Nat) (hk' : 2000 ≤ k') :
    meta_Write.j0 k' ws o key sz L = (strings_Join.f (ws ++ ((if o = 2 then [⟨(Lib.decDigits (IntKind.u64.wrap sz).toNat).toArray⟩] else []) ++ L.map fw)) ⟨#[32]⟩).bind fun t => if (t.size : Int) > 160 then some (⟨#[]⟩, 7) else some (t, 0) := by
  obtain ⟨k', rfl⟩ : ∃ j, k' = j + 2 := ⟨k' - 2, by omega⟩
  simp only [meta_Write.j0, text_is hk hL hks hts hs, Option.bind_some]
  split
  · rw [if_pos (by omega)]
    simp only [meta_Write.j1]
    have := write_l0 L (by omega) hts L.length k' 0 (ws ++ [⟨(Lib.decDigits (IntKind.u64.wrap sz).toNat).toArray⟩]) (by omega) (by omega) (by rw [List.length_append, List.length_singleton]; omega)
    rw [show ((0 : Nat) : Int) = 0 from rfl, List.drop_zero] at this
    rw [this, List.append_assoc]
  · simp only [meta_Write.j1]
    have := write_l0 L (by omega) hts L.length k' 0 ws (by omega) (by omega) (by omega)
    rw [show ((0 : Nat) : Int) = 0 from rfl, List.drop_zero] at this
    rw [this, List.nil_append]
theorem write_is : meta_Write.f k o key sz L = (strings_Join.f (nameOf o :: restOf o key sz L) ⟨#[32]⟩).bind fun t => if (t.size : Int) > 160 then some (⟨#[]⟩, 7) else some (t, 0) := by
  obtain ⟨T, hT, hT7, hTn⟩ := ops_tab
  obtain ⟨ho, _⟩ := shape_zero hs
  obtain ⟨t, hf⟩ := find_eq o key sz L 98
  unfold meta_Write.f restOf
  rw [hs]
  simp only [Option.bind_some, if_true, hT, hf, enc_is hk hL hks hts hs]
  rw [if_pos (by omega), if_pos (by omega), hTn o ho.1 ho.2]
  split
  · rw [j0_is hk hL hks hts hs _ (by simp) k (by omega)]
    rfl
  · cases hb : has L 98 with
    | true =>
      simp only [if_true]
      rw [if_pos (by simp), j0_is hk hL hks hts hs _ (by simp) k (by omega)]
      rfl
    | false =>
      simp only [Bool.false_eq_true, if_false]
      rw [if_pos (by simp), j0_is hk hL hks hts hs _ (by simp) k (by omega)]
      rfl
theorem flags_ok : ∀ x ∈ L, (65 ≤ x.f0 ∧ x.f0 ≤ 122) ∧ NoSp x.f1 := by
  obtain ⟨_, _, _, hgo⟩ := shape_zero hs
  have hr : ∀ (l : List S61) (seen : List Int), meta_shape.go k o l seen = some 0 → ∀ x ∈ l, meta_right.f k o x.f0 x.f1 = some true := by
    intro l
    induction l with
    | nil => intro _ _ x hx; cases hx
    | cons y l ih =>
      intro seen h x hx
      obtain ⟨_, _, h3, h4⟩ := go_cons h
      rcases List.mem_cons.1 hx with rfl | hx
      · exact h3
      · exact ih _ h4 x hx
  exact fun x hx => ⟨owned_letter (go_owned hgo x hx), right_nosp o x.f0 x.f1 (hts x hx) k (by omega) (hr L [] hgo x hx)⟩
theorem key_ok : o ≠ 5 → NoSp (keyW key (has L 98)) ∧ (keyW key (has L 98)).size ≤ 2000 := by
  intro h5
  obtain ⟨_, hkb, _, _⟩ := shape_zero hs
  unfold keyB at hkb
  rw [if_neg h5] at hkb
  unfold keyW
  cases hb : has L 98 with
  | true =>
    simp only [if_true]
    refine ⟨nosp_of (enc_nosp _ _ (Nat.le_refl _)), ?_⟩
    show (B64.enc key.data.toList).toArray.size ≤ 2000
    rw [List.size_toArray, B64.enc_length, ← Lib.size_eq]
    omega
  | false =>
    rw [hb] at hkb
    simp only [Bool.false_eq_true, if_false] at hkb ⊢
    exact ⟨key_nosp key hks k hkb, by omega⟩
theorem noop_nil : o = 5 → L = [] := by
  intro h5
  obtain ⟨_, _, _, hgo⟩ := shape_zero hs
  cases L with
  | nil => rfl
  | cons x l =>
    obtain ⟨h1, _⟩ := go_cons hgo
    subst h5
    simp [meta_owns.f, meta_owns.flags] at h1
theorem words_ok : ∀ y ∈ nameOf o :: restOf o key sz L, NoSp y ∧ y.size ≤ 5000 := by
  obtain ⟨h1, h2, h3⟩ := size_is hk hL hks hts hs
  intro y hy
  rcases List.mem_cons.1 hy with rfl | hy
  · exact ⟨name_nosp o, by rw [name_size]; omega⟩
  · unfold restOf at hy
    rcases List.mem_append.1 hy with hy | hy
    · split at hy
      · cases hy
      · rename_i h5
        obtain rfl := List.mem_singleton.1 hy
        have := key_ok hk hL hks hts hs h5
        exact ⟨this.1, by omega⟩
    · rcases List.mem_append.1 hy with hy | hy
      · split at hy
        · obtain rfl := List.mem_singleton.1 hy
          refine ⟨nosp_of (fun c hc => ?_), ?_⟩
          · have := Text.dec_dig _ _ (Nat.lt_succ_self _) c hc
            omega
          · have := Text.dec_len 9 (IntKind.u64.wrap sz).toNat (by rw [h1]; omega)
            show (Lib.decDigits _).toArray.size ≤ 5000
            rw [List.size_toArray]
            omega
        · cases hy
      · obtain ⟨x, hx, rfl⟩ := List.mem_map.1 hy
        have := flags_ok hk hL hks hts hs x hx
        refine ⟨fw_nosp x this.1 this.2, ?_⟩
        have h4 := enc_size (wrap32 x.f0)
        have h5 := hts x hx
        show (Utf8.encode (wrap32 x.f0) ++ x.f1).size ≤ 5000
        rw [ByteArray.size_append]
        omega
theorem rest_len : (restOf o key sz L).length ≤ 1000 := by
  unfold restOf
  rw [List.length_append, List.length_append, List.length_map]
  repeat' split
  all_goals (simp; omega)
theorem write_line : meta_Write.f k o key sz L = if ((lineOf (nameOf o :: restOf o key sz L)).size : Int) > 160 then some (⟨#[]⟩, 7) else some (lineOf (nameOf o :: restOf o key sz L), 0) := by
  rw [write_is hk hL hks hts hs, join_tot _ _ (rest_len hk hL hks hts hs) (fun y hy => (words_ok hk hL hks hts hs y hy).2)]
  rfl
end
namespace D64
abbrev ba (l : List UInt8) : ByteArray := ⟨l.toArray⟩
theorem ba_append (a b : List UInt8) : ba a ++ ba b = ba (a ++ b) := ba_ext _ _ (by rw [ByteArray.data_append]; simp)
theorem ba_size (a : List UInt8) : (ba a).size = a.length := by show a.toArray.size = _; simp
end D64
end Go.Proofs.YtfboejlemnfndaaGreatDoor.XMk
end
section
namespace Go.Proofs.YtfboejlemnfndaaGreatDoor.XMk
open Go.RowKit Go.Proofs.YtfboejlemnfndaaGreatDoorW.PrintWords Go.Proofs.YtfboejlemnfndaaGreatDoorW.PrintLast Go.Proofs.YtfboejlemnfndaaGreatDoorW.PrintMore
set_option linter.unusedVariables false
set_option linter.unusedSimpArgs false

theorem ev_uniq {α : Type} {g : Nat → Option α} {a b : α} (h : Ev g a) (h' : Ev g b) : a = b := by
  obtain ⟨K, h⟩ := h
  obtain ⟨K', h'⟩ := h'
  have h1 := h (max K K') (by omega)
  rw [h' (max K K') (by omega)] at h1
  exact (Option.some.inj h1).symm
theorem ev_end {α : Type} {g : Nat → Option α} {r : α} (h : ∀ k, g (k + 1) = some r) : Ev g r := Ev.step (f := fun _ => some r) h (Ev.now r)
theorem ev_has_l (s : ByteArray) (hs : s.size ≤ 1000000) (c : Int) : ∀ n i : Nat, n + i = s.size → Ev (fun k => tallboyref27_has.l0 k s c (i : Int)) ((s.data.toList.drop i).any fun b => (b.toNat : Int) == c)
  | 0, i, h => by
    rw [List.drop_of_length_le (by rw [← Lib.size_eq]; omega)]
    exact ev_end (fun k => by simp only [tallboyref27_has.l0]; rw [if_neg (by omega)]; rfl)
  | n + 1, i, h => by
    have hi : i < s.data.toList.length := by rw [← Lib.size_eq]; omega
    have ih := ev_has_l s hs c n (i + 1) (by omega)
    rw [List.drop_eq_getElem_cons hi, List.any_cons]
    by_cases hc : ((s.data.toList[i]).toNat : Int) = c
    · rw [show (((s.data.toList[i]).toNat : Int) == c) = true from beq_iff_eq.2 hc, Bool.true_or]
      exact ev_end (fun k => by simp only [tallboyref27_has.l0]; rw [if_pos (by omega), if_pos (by omega), bt_list s i hi, if_pos hc])
    · rw [show (((s.data.toList[i]).toNat : Int) == c) = false from beq_eq_false_iff_ne.2 hc, Bool.false_or]
      exact Ev.step (fun k => by simp only [tallboyref27_has.l0]; rw [if_pos (by omega), if_pos (by omega), bt_list s i hi, if_neg hc, wrap_at i (by omega)]) ih
theorem ev_has (s : ByteArray) (hs : s.size ≤ 1000000) (c : Int) : Ev (fun k => tallboyref27_has.f k s c) (s.data.toList.any fun b => (b.toNat : Int) == c) := by
  have := ev_has_l s hs c s.size 0 (by omega)
  rw [List.drop_zero] at this
  exact this
def keyC (c : UInt8) : Bool := decide (33 ≤ c.toNat ∧ c.toNat ≤ 126)
def keyOk (s : ByteArray) : Bool := decide (1 ≤ s.size ∧ s.size ≤ 32) && s.data.toList.all keyC
theorem ev_key4_l (s : ByteArray) (hs : s.size ≤ 1000000) : ∀ (n i : Nat) (b : Bool), n + i = s.size → Ev (fun k => tallboyref04_Key.l0 k s b (i : Int)) (b && (s.data.toList.drop i).all keyC)
  | 0, i, b, h => by
    rw [List.drop_of_length_le (by rw [← Lib.size_eq]; omega)]
    exact ev_end (fun k => by simp only [tallboyref04_Key.l0]; rw [if_neg (by omega)]; simp)
  | n + 1, i, b, h => by
    have hi : i < s.data.toList.length := by rw [← Lib.size_eq]; omega
    cases b with
    | false => exact ev_end (fun k => by simp only [tallboyref04_Key.l0]; rw [if_pos (by omega)]; simp)
    | true =>
      rw [List.drop_eq_getElem_cons hi, List.all_cons, Bool.true_and]
      have hlt := (s.data.toList[i]).toNat_lt
      by_cases h1 : ((s.data.toList[i]).toNat : Int) ≥ 33
      · have ih := ev_key4_l s hs n (i + 1) (decide (((s.data.toList[i]).toNat : Int) ≤ 126)) (by omega)
        rw [show keyC s.data.toList[i] = decide (((s.data.toList[i]).toNat : Int) ≤ 126) from by unfold keyC; rw [decide_eq_decide]; omega]
        exact Ev.step (fun k => by simp only [tallboyref04_Key.l0]; rw [if_pos (by omega), if_pos trivial, if_pos (by omega), bt_list s i hi, if_pos h1, wrap_at i (by omega)]) ih
      · have ih := ev_key4_l s hs n (i + 1) false (by omega)
        rw [Bool.false_and] at ih
        rw [show keyC s.data.toList[i] = false from by unfold keyC; rw [decide_eq_false_iff_not]; omega, Bool.false_and]
        exact Ev.step (fun k => by simp only [tallboyref04_Key.l0]; rw [if_pos (by omega), if_pos trivial, if_pos (by omega), bt_list s i hi, if_neg h1, wrap_at i (by omega)]) ih
theorem ev_key4 (s : ByteArray) (hs : s.size ≤ 1000000) : Ev (fun k => tallboyref04_Key.f k s) (keyOk s) := by
  have hl : ∀ b, Ev (fun k => tallboyref04_Key.j0 k s b) (b && s.data.toList.all keyC) := by
    intro b
    have := ev_key4_l s hs s.size 0 b (by omega)
    rw [List.drop_zero] at this
    exact Ev.step (fun k => by simp only [tallboyref04_Key.j0]; rfl) this
  by_cases h1 : (s.size : Int) ≥ 1
  · have := hl (decide ((s.size : Int) ≤ 32))
    rw [show decide ((s.size : Int) ≤ 32) = decide (1 ≤ s.size ∧ s.size ≤ 32) from by rw [decide_eq_decide]; omega] at this
    exact Ev.congr (fun k => by unfold tallboyref04_Key.f; rw [if_pos h1, show decide ((s.size : Int) ≤ 32) = decide (1 ≤ s.size ∧ s.size ≤ 32) from by rw [decide_eq_decide]; omega]) this
  · have := hl false
    rw [show false = decide (1 ≤ s.size ∧ s.size ≤ 32) from by rw [eq_comm, decide_eq_false_iff_not]; omega] at this
    exact Ev.congr (fun k => by unfold tallboyref04_Key.f; rw [if_neg h1, show false = decide (1 ≤ s.size ∧ s.size ≤ 32) from by rw [eq_comm, decide_eq_false_iff_not]; omega]) this
theorem ev_keyF_l (s : ByteArray) (hs : s.size ≤ 1000000) : ∀ (n i : Nat), n + i = s.size → Ev (fun k => fnv_Key.l0 k s (s.size : Int) (i : Int)) ((s.data.toList.drop i).all keyC)
  | 0, i, h => by
    rw [List.drop_of_length_le (by rw [← Lib.size_eq]; omega)]
    exact ev_end (fun k => by simp only [fnv_Key.l0]; rw [if_neg (by omega)]; rfl)
  | n + 1, i, h => by
    have hi : i < s.data.toList.length := by rw [← Lib.size_eq]; omega
    have ih := ev_keyF_l s hs n (i + 1) (by omega)
    rw [List.drop_eq_getElem_cons hi, List.all_cons]
    by_cases h1 : ((s.data.toList[i]).toNat : Int) < 33
    · rw [show keyC s.data.toList[i] = false from by unfold keyC; rw [decide_eq_false_iff_not]; omega, Bool.false_and]
      exact ev_end (fun k => by simp only [fnv_Key.l0]; rw [if_pos (by omega), if_pos (by omega), if_pos (by omega), bt_list s i hi, if_pos h1])
    · by_cases h2 : ((s.data.toList[i]).toNat : Int) > 126
      · rw [show keyC s.data.toList[i] = false from by unfold keyC; rw [decide_eq_false_iff_not]; omega, Bool.false_and]
        exact ev_end (fun k => by simp only [fnv_Key.l0]; rw [if_pos (by omega), if_pos (by omega), if_pos (by omega), bt_list s i hi, if_neg h1, if_pos h2])
      · rw [show keyC s.data.toList[i] = true from by unfold keyC; rw [decide_eq_true_eq]; omega, Bool.true_and]
        exact Ev.step (fun k => by simp only [fnv_Key.l0]; rw [if_pos (by omega), if_pos (by omega), if_pos (by omega), bt_list s i hi, if_neg h1, if_neg h2, wrap_at i (by omega)]) ih
theorem ev_keyF (s : ByteArray) (hs : s.size ≤ 1000000) : Ev (fun k => fnv_Key.f k s) (keyOk s) := by
  have hT : Ev (fun k => fnv_Key.j0 k s true) false := ev_end (fun k => by simp only [fnv_Key.j0, if_true])
  have hF : Ev (fun k => fnv_Key.j0 k s false) (s.data.toList.all keyC) := by
    have := ev_keyF_l s hs s.size 0 (by omega)
    rw [List.drop_zero] at this
    exact Ev.step (fun k => by simp only [fnv_Key.j0, Bool.false_eq_true, if_false]; rfl) this
  unfold keyOk
  by_cases h0 : s.toList = ([] : List UInt8)
  · have hz : s.size = 0 := by rw [ByteArray.toList_eq] at h0; rw [Lib.size_eq, h0]; rfl
    rw [show decide (1 ≤ s.size ∧ s.size ≤ 32) = false from by rw [decide_eq_false_iff_not]; omega, Bool.false_and]
    exact Ev.congr (fun k => by unfold fnv_Key.f; rw [if_pos h0]) hT
  · have hz : 1 ≤ s.size := by rw [ByteArray.toList_eq] at h0; rw [Lib.size_eq]; exact List.length_pos_iff.2 h0
    by_cases h1 : (s.size : Int) > 32
    · rw [show decide (1 ≤ s.size ∧ s.size ≤ 32) = false from by rw [decide_eq_false_iff_not]; omega, Bool.false_and]
      exact Ev.congr (fun k => by unfold fnv_Key.f; rw [if_neg h0, decide_eq_true h1]) hT
    · rw [show decide (1 ≤ s.size ∧ s.size ≤ 32) = true from by rw [decide_eq_true_eq]; omega, Bool.true_and]
      exact Ev.congr (fun k => by unfold fnv_Key.f; rw [if_neg h0, decide_eq_false h1]) hF
theorem ev_dig_l (s : ByteArray) (hs : s.size ≤ 1000000) {r : Int × Int} : ∀ (n i : Nat) (b : Bool), n + i = s.size → Ev (fun k => tallboyref02_Parse.j1 k s (b && digits_Parse.dig (s.data.toList.drop i))) r → Ev (fun k => tallboyref02_Parse.l0 k s b (i : Int)) r
  | 0, i, b, h, hr => by
    rw [List.drop_of_length_le (by rw [← Lib.size_eq]; omega), show digits_Parse.dig [] = true from rfl, Bool.and_true] at hr
    exact Ev.step (fun k => by simp only [tallboyref02_Parse.l0]; rw [if_neg (by omega)]) hr
  | n + 1, i, b, h, hr => by
    have hi : i < s.data.toList.length := by rw [← Lib.size_eq]; omega
    cases b with
    | false =>
      rw [Bool.false_and] at hr
      exact Ev.step (fun k => by simp only [tallboyref02_Parse.l0]; rw [if_pos (by omega)]; simp) hr
    | true =>
      rw [Bool.true_and, List.drop_eq_getElem_cons hi, show digits_Parse.dig (s.data.toList[i] :: s.data.toList.drop (i + 1)) = (decide (48 ≤ (s.data.toList[i]).toNat ∧ (s.data.toList[i]).toNat ≤ 57) && digits_Parse.dig (s.data.toList.drop (i + 1))) from rfl] at hr
      by_cases h1 : ((s.data.toList[i]).toNat : Int) ≥ 48
      · have ih := ev_dig_l s hs (r := r) n (i + 1) (decide (((s.data.toList[i]).toNat : Int) ≤ 57)) (by omega)
        rw [show decide (((s.data.toList[i]).toNat : Int) ≤ 57) = decide (48 ≤ (s.data.toList[i]).toNat ∧ (s.data.toList[i]).toNat ≤ 57) from by rw [decide_eq_decide]; omega] at ih
        exact Ev.step (fun k => by simp only [tallboyref02_Parse.l0]; rw [if_pos (by omega), if_pos trivial, if_pos (by omega), bt_list s i hi, if_pos h1, wrap_at i (by omega), show decide (((s.data.toList[i]).toNat : Int) ≤ 57) = decide (48 ≤ (s.data.toList[i]).toNat ∧ (s.data.toList[i]).toNat ≤ 57) from by rw [decide_eq_decide]; omega]) (ih hr)
      · have ih := ev_dig_l s hs (r := r) n (i + 1) false (by omega)
        rw [show decide (48 ≤ (s.data.toList[i]).toNat ∧ (s.data.toList[i]).toNat ≤ 57) = false from by rw [decide_eq_false_iff_not]; omega, Bool.false_and] at hr
        rw [Bool.false_and] at ih
        exact Ev.step (fun k => by simp only [tallboyref02_Parse.l0]; rw [if_pos (by omega), if_pos trivial, if_pos (by omega), bt_list s i hi, if_neg h1, wrap_at i (by omega)]) (ih hr)
def numEnd (e : Lib.NumEnd Nat) : Int × Int := match e with
  | .ok u => ((u : Nat), 0)
  | _ => (0, 1)
theorem ev_num_l (s : ByteArray) (hs : s.size ≤ 1000000) : ∀ (n i u : Nat), n + i = s.size → u < 18446744073709551616 → digits_Parse.dig (s.data.toList.drop i) = true →
    Ev (fun k => tallboyref02_Parse.l1 k s (u : Int) (i : Int)) (numEnd (Lib.parseUintM 18446744073709551615 u (s.data.toList.drop i)))
  | 0, i, u, h, hu, hd => by
    rw [List.drop_of_length_le (by rw [← Lib.size_eq]; omega)]
    exact ev_end (fun k => by simp only [tallboyref02_Parse.l1]; rw [if_neg (by omega)]; rfl)
  | n + 1, i, u, h, hu, hd => by
    have hi : i < s.data.toList.length := by rw [← Lib.size_eq]; omega
    rw [List.drop_eq_getElem_cons hi] at hd ⊢
    rw [show digits_Parse.dig (s.data.toList[i] :: s.data.toList.drop (i + 1)) = (decide (48 ≤ (s.data.toList[i]).toNat ∧ (s.data.toList[i]).toNat ≤ 57) && digits_Parse.dig (s.data.toList.drop (i + 1))) from rfl, Bool.and_eq_true, decide_eq_true_eq] at hd
    obtain ⟨hc, hd⟩ := hd
    have e1 : (((s.data.toList[i]).toNat : Int) - 48) % 256 = (((s.data.toList[i]).toNat - 48 : Nat) : Int) := by omega
    generalize hcc : (s.data.toList[i]).toNat = c at hc e1
    unfold Lib.parseUintM
    rw [hcc, if_pos hc]
    by_cases hov : u * 10 + (c - 48) > 18446744073709551615
    · have hv : ∀ k, tallboyref02_Parse.l1 (k + 1) s (u : Int) (i : Int) = some (0, 1) := fun k => by
        simp only [tallboyref02_Parse.l1]
        rw [if_pos (by omega), if_pos (by omega), bt_list s i hi, hcc, e1, if_pos (by omega)]
      refine ev_end (fun k => ?_)
      rw [hv]
      split
      · rfl
      · rfl
    · have ih := ev_num_l s hs n (i + 1) (u * 10 + (c - 48)) (by omega) (by omega) hd
      rw [if_neg (by omega), if_neg (by omega)]
      refine Ev.step (fun k => ?_) ih
      simp only [tallboyref02_Parse.l1]
      rw [if_pos (by omega), if_pos (by omega), bt_list s i hi, hcc, e1, if_neg (by omega), wrap_at i (by omega), IntKind.wrap_u64, IntKind.wrap_u64]
      congr 1
      omega
theorem ev_digits (s : ByteArray) (hs : s.size ≤ 1000000) : Ev (fun k => tallboyref02_Parse.f k s) (digits_Parse.val s.data.toList) := by
  have hj : Ev (fun k => tallboyref02_Parse.j1 k s (decide ((s.size : Int) > 0) && digits_Parse.dig s.data.toList)) (digits_Parse.val s.data.toList) := by
    unfold digits_Parse.val
    cases hd : digits_Parse.dig s.data.toList with
    | false =>
      rw [Bool.and_false]
      exact ev_end (fun k => by simp only [tallboyref02_Parse.j1]; rfl)
    | true =>
      rw [Bool.and_true]
      by_cases h0 : s.data.toList = []
      · have hz : s.size = 0 := by rw [Lib.size_eq, h0]; rfl
        rw [if_pos rfl, if_pos h0, show decide ((s.size : Int) > 0) = false from by rw [decide_eq_false_iff_not]; omega]
        exact ev_end (fun k => by simp only [tallboyref02_Parse.j1]; rfl)
      · have hz : 1 ≤ s.size := by rw [Lib.size_eq]; exact List.length_pos_iff.2 h0
        rw [if_pos rfl, if_neg h0, show decide ((s.size : Int) > 0) = true from by rw [decide_eq_true_eq]; omega]
        by_cases h20 : 20 < s.data.toList.length
        · rw [if_pos h20]
          exact ev_end (fun k => by simp only [tallboyref02_Parse.j1, if_true]; rw [if_pos (by rw [Lib.size_eq]; omega)])
        · rw [if_neg h20]
          have := ev_num_l s hs s.size 0 0 (by omega) (by omega) (by rw [List.drop_zero]; exact hd)
          rw [List.drop_zero] at this
          have e : Lib.parseUintB 64 s.data.toList = Lib.parseUintM 18446744073709551615 0 s.data.toList := by
            unfold Lib.parseUintB
            rw [if_neg h0]
          rw [e]
          exact Ev.step (fun k => by simp only [tallboyref02_Parse.j1, if_true]; rw [if_neg (by rw [Lib.size_eq]; omega)]; rfl) this
  have := ev_dig_l s hs s.size 0 (decide ((s.size : Int) > 0)) (by omega) (by rw [List.drop_zero]; exact hj)
  exact Ev.congr (fun k => by unfold tallboyref02_Parse.f; rfl) this
end Go.Proofs.YtfboejlemnfndaaGreatDoor.XMk
end
