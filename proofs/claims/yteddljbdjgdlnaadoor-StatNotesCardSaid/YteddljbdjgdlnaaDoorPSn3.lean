/- Put together by wip/pack.py (this session's own program) out of this session's texts; a kit's tool laid the words and the shelf, of which only what is used stands here. Lean checks it. -/
import Derived.Test.YteddljbdjgdlnaaDoorPSn2
import Derived.Test.YteddljbdjgdlnaaDoorProg
import Derived.KernelRfl
import Derived.StringKeys
import Derived.Deep.RegionHeld3
import Derived.Deep.DrawnRows
import Derived.Deep.DeepCutAuto
import Derived.Lib.Split
import Derived.Lib.Join
import Derived.Lib.ItoaNum
import Derived.Lib.ParseIntB
import Derived.Lib.IndexBytes
import Derived.Lib.BufferMore
section
namespace Go.Proofs.YteddljbdjgdlnaaDoor.XSb
open Go.RowKit Go.Proofs.YteddljbdjgdlnaaDoorW.PrintWords Go.Proofs.YteddljbdjgdlnaaDoorW.PrintLast Go.Proofs.YteddljbdjgdlnaaDoorW.PrintMore
attribute [local go_sem] extract_sub max2_int min2_int max_two min_two max_three min_three max_four min_four   -- for this text's walks alone
set_option linter.unusedVariables false
set_option linter.unusedSimpArgs false

noncomputable section
def tallboylaw18_To.l0 : Nat → Int → Int → List (S141) → Int → Int → List (S135) → Int → Option (Int × (List (S135)) × Int)
 | 0, _, _, _, _, _, _, _ => none
 | k + 1, x4, x168000, x168001, x168002, x170000, x170001, x170002 => if x4 < (x168001.length : Int) then (if 0 ≤ x4 then (if x170001.length < 2932031007402 then (tallboylaw18_To.l0 k (wrap64 (x4 + 1)) x168000 x168001 x168002 x170000 (x170001 ++ [(⟨(rd_T141 x168001 x4).f0, (rd_T141 x168001 x4).f1, (rd_T141 x168001 x4).f2, (rd_T141 x168001 x4).f3⟩ : S135)]) x170002) else (none)) else (none)) else (some (x170000, x170001, x170002))
def tallboylaw18_To.f (k : Nat) (a0_0 : Int) (l0_1 : List (S141)) (a0_2 : Int) : Option (Int × (List (S135)) × Int) := tallboylaw18_To.l0 k 0 a0_0 l0_1 a0_2 a0_0 ([] : List (S135)) a0_2
theorem tallboylaw18_To.mono_l : ∀ k, (∀ y0 y1 y2 y3 y4 y5 y6, LeO (tallboylaw18_To.l0 k y0 y1 y2 y3 y4 y5 y6) (tallboylaw18_To.l0 (k + 1) y0 y1 y2 y3 y4 y5 y6))
 | 0 => fun _ _ _ _ _ _ _ r h => by simp [tallboylaw18_To.l0] at h
 | k + 1 => by
  have ih0 := tallboylaw18_To.mono_l k
  · intro y0 y1 y2 y3 y4 y5 y6
    unfold tallboylaw18_To.l0
    repeat' first
    | (with_reducible exact ih0 _ _ _ _ _ _ _)
    | (with_reducible exact LeO.refl _)
    | (with_reducible exact LeO.none _)
    | (with_reducible refine LeO.ite ?_ ?_)
    | (with_reducible refine LeO.bind ?_ (fun _ => ?_))
    | exact ih0 _ _ _ _ _ _ _
    | exact LeO.none _
    | refine LeO.ite ?_ ?_
    | refine LeO.bind ?_ (fun _ => ?_)
theorem tallboylaw18_To.mono : ∀ a0 a1 a2 k, LeO (tallboylaw18_To.f k a0 a1 a2) (tallboylaw18_To.f (k + 1) a0 a1 a2) := by
 intro a0 a1 a2 k
 have ih0 := tallboylaw18_To.mono_l k
 unfold tallboylaw18_To.f
 repeat' first
  | (with_reducible exact ih0 _ _ _ _ _ _ _)
  | (with_reducible exact LeO.refl _)
  | (with_reducible exact LeO.none _)
  | (with_reducible refine LeO.ite ?_ ?_)
  | (with_reducible refine LeO.bind ?_ (fun _ => ?_))
  | exact ih0 _ _ _ _ _ _ _
  | exact LeO.none _
  | refine LeO.ite ?_ ?_
  | refine LeO.bind ?_ (fun _ => ?_)
set_option maxHeartbeats 8000000 in
set_option maxRecDepth 100000 in
theorem tallboylaw18_To.calls (k : Nat) (a0_0 : Int) (A0_1 : Option Addr) (c0_1 : Nat) (l0_1 : List (S141)) (a0_2 : Int) (r1 : Int) (r2 : List (S135)) (r3 : Int) (w : World) (hr0_1 : Kd.C k141 w A0_1 l0_1.length l0_1) (hc0_1 : l0_1.length ≤ c0_1) (h : tallboylaw18_To.f k a0_0 l0_1 a0_2 = some (r1, r2, r3)) :
 Calls Tryd.prog 64 #[.agg #[.int .i64 a0_0, .slice A0_1 l0_1.length c0_1, .int .u64 a0_2]] w fun e w' => ∃ v1_ : Value, e = .returned (.agg #[.int .i64 r1, v1_, .int .u64 r3]) ∧ Kd.R k135 135 w' w.heap.size (fun _ => True) v1_ r2 ∧ Below w.heap.size w w' := by
 have hu39 := Tryd.underlying39
 have hu96 := Tryd.underlying96
 have hu141 := Tryd.underlying141
 have hu135 := Tryd.underlying135
 have HR0_1 := Aside0.mk hr0_1
 have HC0_1 := Aside0.mk hc0_1
 clear hr0_1 hc0_1
 have HB := Aside0.mk (Below.refl w.heap.size w)
 have H : (tallboylaw18_To.l0 k 0 a0_0 l0_1 a0_2 a0_0 ([] : List (S135)) a0_2) = some (r1, r2, r3) := h
 clear h
 have H' := Aside0.mk H
 clear H
 go_enter Tryd.func64, Tryd.ntmps64
 go_wp2_with (first | ((with_reducible refine gate_dst (N := 1) rfl ?_); refine box_event ?hg (N := 1) ?hd (cs := #[.int .i64 a0_0, .slice A0_1 l0_1.length c0_1, .int .u64 a0_2]) (t := 39) ?hr ?_; (case hd => rfl); (case hg => rfl); (case hr => first | (go_simp; done) | (go_simp; rfl)); intro gb167 hg w2 hbox hb; have n0_ := Aside0.mk (below_step (hbA HB.out) hb); have n1_ := Aside0.mk (hbox); have n2_ := Aside0.mk ((by rw [hg]; exact (below_size (hbA HB.out)) : w.heap.size ≤ gb167)); have n3_ := Aside0.mk ((by rw [hg]; exact (below_size (hbA HB.out)) : w.heap.size ≤ gb167)); clear HB; have HB := n0_; have BK167 := n1_; have GW167 := n2_; have GE167 := n3_; clear n0_ n1_ n2_ n3_; clear hb hbox hg) | ((with_reducible refine gate_dst (N := 2) rfl ?_); refine box_event ?hg (N := 2) ?hd (cs := #[.int .i64 0, .slice none 0 0, .int .u64 0]) (t := 96) ?hr ?_; (case hd => rfl); (case hg => rfl); (case hr => first | (go_simp; done) | (go_simp; rfl)); intro gb168 hg w3 hbox hb; have n0_ := Aside0.mk (blk_below (g := gb167) (o := .cells #[.int .i64 a0_0, .slice A0_1 l0_1.length c0_1, .int .u64 a0_2] 39 (0, 0)) (rbA BK167.out) hb); have n1_ := Aside0.mk (below_step (hbA HB.out) hb); have n2_ := Aside0.mk (hbox); have n3_ := Aside0.mk ((by rw [hg]; exact (below_size (hbA HB.out)) : w.heap.size ≤ gb168)); have n4_ := Aside0.mk ((by rw [hg]; exact (below_size (hbA HB.out)) : w.heap.size ≤ gb168)); have n5_ := Aside0.mk ((by rw [hg]; exact Nat.ne_of_lt (blk_lt (g := gb167) (o := .cells #[.int .i64 a0_0, .slice A0_1 l0_1.length c0_1, .int .u64 a0_2] 39 (0, 0)) (rbA BK167.out)) : gb167 ≠ gb168)); have n6_ := Aside0.mk ((by rw [hg]; exact Nat.ne_of_gt (blk_lt (g := gb167) (o := .cells #[.int .i64 a0_0, .slice A0_1 l0_1.length c0_1, .int .u64 a0_2] 39 (0, 0)) (rbA BK167.out)) : gb168 ≠ gb167)); clear BK167; clear HB; have BK167 := n0_; have HB := n1_; have BK168 := n2_; have GW168 := n3_; have GE168 := n4_; have NB167_168 := n5_; have NB168_167 := n6_; clear n0_ n1_ n2_ n3_ n4_ n5_ n6_; clear hb hbox hg; have hnb4 := NB167_168.out; have hnc4 := NB168_167.out; obtain ⟨hcz5_0, hcz5_1, hcz5_2, hfz5_0, hfz5_1, hfz5_2⟩ := blkA3 BK167.out) | ((with_reducible refine gate_dst (N := 3) rfl ?_); refine box_event ?hg (N := 3) ?hd (cs := #[.int .i64 0, .slice none 0 0, .int .u64 0]) (t := 96) ?hr ?_; (case hd => rfl); (case hg => rfl); (case hr => first | (go_simp; done) | (go_simp; rfl)); intro gb169 hg w6 hbox hb; have n0_ := Aside0.mk (blk_below (g := gb167) (o := .cells #[.int .i64 a0_0, .slice A0_1 l0_1.length c0_1, .int .u64 a0_2] 39 (0, 0)) (rbA BK167.out) hb); have n1_ := Aside0.mk (blk_below (g := gb168) (o := .cells #[.int .i64 0, .slice none 0 0, .int .u64 0] 96 (0, 0)) (rbA BK168.out) hb); have n2_ := Aside0.mk (below_step (hbA HB.out) hb); have n3_ := Aside0.mk (hbox); have n4_ := Aside0.mk ((by rw [hg]; exact (below_size (hbA HB.out)) : w.heap.size ≤ gb169)); have n5_ := Aside0.mk ((by rw [hg]; exact (below_size (hbA HB.out)) : w.heap.size ≤ gb169)); have n6_ := Aside0.mk ((by rw [hg]; exact Nat.ne_of_lt (blk_lt (g := gb167) (o := .cells #[.int .i64 a0_0, .slice A0_1 l0_1.length c0_1, .int .u64 a0_2] 39 (0, 0)) (rbA BK167.out)) : gb167 ≠ gb169)); have n7_ := Aside0.mk ((by rw [hg]; exact Nat.ne_of_gt (blk_lt (g := gb167) (o := .cells #[.int .i64 a0_0, .slice A0_1 l0_1.length c0_1, .int .u64 a0_2] 39 (0, 0)) (rbA BK167.out)) : gb169 ≠ gb167)); have n8_ := Aside0.mk ((by rw [hg]; exact Nat.ne_of_lt (blk_lt (g := gb168) (o := .cells #[.int .i64 0, .slice none 0 0, .int .u64 0] 96 (0, 0)) (rbA BK168.out)) : gb168 ≠ gb169)); have n9_ := Aside0.mk ((by rw [hg]; exact Nat.ne_of_gt (blk_lt (g := gb168) (o := .cells #[.int .i64 0, .slice none 0 0, .int .u64 0] 96 (0, 0)) (rbA BK168.out)) : gb169 ≠ gb168)); clear BK167; clear BK168; clear HB; have BK167 := n0_; have BK168 := n1_; have HB := n2_; have BK169 := n3_; have GW169 := n4_; have GE169 := n5_; have NB167_169 := n6_; have NB169_167 := n7_; have NB168_169 := n8_; have NB169_168 := n9_; clear n0_ n1_ n2_ n3_ n4_ n5_ n6_ n7_ n8_ n9_; clear hb hbox hg; have hnb7 := NB169_167.out; have hnc7 := NB167_169.out; have hnb8 := NB169_168.out; have hnc8 := NB168_169.out; obtain ⟨hcz9_0, hcz9_1, hcz9_2, hfz9_0, hfz9_1, hfz9_2⟩ := blkA3 BK169.out))
 go_loopg [4] k (fun kq v4 w' => ∃ (x4_1 : Int) (x170001_1 : List (S135)) (u170001 : Value), v4 = .int .i64 x4_1 ∧ Aside0 (tallboylaw18_To.l0 kq x4_1 a0_0 l0_1 a0_2 a0_0 x170001_1 a0_2 = some (r1, r2, r3)) ∧ Aside0 (kq ≤ k) ∧ Aside0 (Kd.R k135 135 w' w.heap.size (fun _ => True) u170001 x170001_1) ∧ Aside0 (w'.heap[gb167]? = some (.cells #[.int .i64 a0_0, (.slice A0_1 l0_1.length c0_1), .int .u64 a0_2] 39 (0, 0))) ∧ Aside0 (w'.heap[gb168]? = some (.cells #[.int .i64 0, (.slice none 0 0), .int .u64 0] 96 (0, 0))) ∧ Aside0 (w'.heap[gb169]? = some (.cells #[.int .i64 a0_0, u170001, .int .u64 a0_2] 96 (0, 0))) ∧ Aside0 (Below w.heap.size w w'))
 case atStart => exact ⟨(0), (([] : List (S135))), (.slice none 0 0), rsA, H', ⟨Nat.le_refl _⟩, ⟨knA⟩, ⟨by (with_reducible repeat (first | refine blk_drewN ?_ _ | refine blk_drew ?_ | refine blk_alloc ?_ _)); refine blk_far ?_ NB167_169.out _; (with_reducible repeat (first | refine blk_drewN ?_ _ | refine blk_drew ?_ | refine blk_alloc ?_ _)); refine blk_far ?_ NB167_169.out _; (with_reducible repeat (first | refine blk_drewN ?_ _ | refine blk_drew ?_ | refine blk_alloc ?_ _)); refine blk_far ?_ NB167_169.out _; (with_reducible repeat (first | refine blk_drewN ?_ _ | refine blk_drew ?_ | refine blk_alloc ?_ _)); exact BK167.out⟩, ⟨by (with_reducible repeat (first | refine blk_drewN ?_ _ | refine blk_drew ?_ | refine blk_alloc ?_ _)); refine blk_far ?_ NB168_169.out _; (with_reducible repeat (first | refine blk_drewN ?_ _ | refine blk_drew ?_ | refine blk_alloc ?_ _)); refine blk_far ?_ NB168_169.out _; (with_reducible repeat (first | refine blk_drewN ?_ _ | refine blk_drew ?_ | refine blk_alloc ?_ _)); refine blk_far ?_ NB168_169.out _; (with_reducible repeat (first | refine blk_drewN ?_ _ | refine blk_drew ?_ | refine blk_alloc ?_ _)); exact BK168.out⟩, ⟨by (with_reducible repeat (first | refine blk_drewN ?_ _ | refine blk_drew ?_ | refine blk_alloc ?_ _)); refine blk_put (cs := #[.int .i64 a0_0, .slice none 0 0, .int .u64 0]) ?_ 2 _ rfl; (with_reducible repeat (first | refine blk_drewN ?_ _ | refine blk_drew ?_ | refine blk_alloc ?_ _)); refine blk_put (cs := #[.int .i64 a0_0, .slice none 0 0, .int .u64 0]) ?_ 1 _ rfl; (with_reducible repeat (first | refine blk_drewN ?_ _ | refine blk_drew ?_ | refine blk_alloc ?_ _)); refine blk_put (cs := #[.int .i64 0, .slice none 0 0, .int .u64 0]) ?_ 0 _ rfl; (with_reducible repeat (first | refine blk_drewN ?_ _ | refine blk_drew ?_ | refine blk_alloc ?_ _)); exact BK169.out⟩, ⟨hbA HB.out⟩⟩
 case round =>
  clear H'
  (try clear p2); (try clear c4); (try clear c6); (try clear c7); (try clear c8); (try clear hcz5_0); (try clear hcz5_1); (try clear hcz5_2); (try clear hcz9_0); (try clear hcz9_1); (try clear hcz9_2); (try clear hfz5_0); (try clear hfz5_1); (try clear hfz5_2); (try clear hfz9_0); (try clear hfz9_1); (try clear hfz9_2)
  obtain ⟨x4_1, x170001_1, u170001, rfl, HA, HK1, HO_170001, BK167, BK168, BK169, HB⟩ := hrel
  cases gk with
  | zero => exact absurd HA.out (by simp [tallboylaw18_To.l0])
  | succ k1 =>
   have H := HA.out
   clear HA
   simp only [tallboylaw18_To.l0] at H
   by_cases c10 : x4_1 < (l0_1.length : Int)
   · rw [if_pos c10] at H
     have c10b0 : decide (x4_1 < (l0_1.length : Int)) = true := decide_eq_true c10
     clear c10
     by_cases c11 : 0 ≤ x4_1
     · rw [if_pos c11] at H
       have c11b0 : decide (0 ≤ x4_1) = true := decide_eq_true c11
       clear c11
       by_cases c12 : x170001_1.length < 2932031007402
       · rw [if_pos c12] at H
         have LMc12 := Aside0.mk c12
         clear c12
         obtain ⟨y172, hy172⟩ : ∃ y_ : List (S135), y_ = (x170001_1 ++ [(⟨(rd_T141 l0_1 x4_1).f0, (rd_T141 l0_1 x4_1).f1, (rd_T141 l0_1 x4_1).f2, (rd_T141 l0_1 x4_1).f3⟩ : S135)]) := ⟨_, rfl⟩
         replace H : (tallboylaw18_To.l0 k1 (wrap64 (x4_1 + 1)) a0_0 l0_1 a0_2 a0_0 y172 a0_2) = some (r1, r2, r3) := by first | (rw [hy172]; with_reducible exact H) | (have H2_ := (Option.bind_some _ _).symm.trans H; rw [hy172]; with_reducible exact H2_) | (have H2_ := (Option.bind_some _ _).symm.trans H; with_reducible exact H2_) | with_reducible exact H | (rw [hy172]; exact H) | exact H
         have Ny172 := Aside0.mk hy172
         clear hy172
         have H' := Aside0.mk H
         clear H
         have hnb13 := NB167_168.out
         have hnc13 := NB168_167.out
         have hnb14 := NB167_169.out
         have hnc14 := NB169_167.out
         obtain ⟨hcz15_0, hcz15_1, hcz15_2, hfz15_0, hfz15_1, hfz15_2⟩ := blkA3 BK167.out
         have p170 : 0 ≤ (x4_1 : Int) := of_decide_eq_true asA
         have q170 : x4_1 < (l0_1.length : Int) := of_decide_eq_true asA
         obtain ⟨ad170, e170, hx170_0, hx170_1, hx170_2, hx170_3⟩ := at_T141 HR0_1.out x4_1 p170 q170
         cases e170
         replace hx170_0 := (HB.out.cell (World.block_lt_of_cell? w _ hx170_0)).trans hx170_0
         replace hx170_1 := (HB.out.cell (World.block_lt_of_cell? w _ hx170_1)).trans hx170_1
         replace hx170_2 := (HB.out.cell (World.block_lt_of_cell? w _ hx170_2)).trans hx170_2
         replace hx170_3 := (HB.out.cell (World.block_lt_of_cell? w _ hx170_3)).trans hx170_3
         replace p170 := eq_true p170
         replace q170 := eq_true q170
         go_wp2_with (first | ((with_reducible refine gate_dst (N := 5) rfl ?_); refine box_event ?hg (N := 5) ?hd (cs := #[.string (⟨#[]⟩ : ByteArray), .int .u32 0, .string (⟨#[]⟩ : ByteArray), .int .u64 0]) (t := 141) ?hr ?_; (case hd => rfl); (case hg => rfl); (case hr => first | (go_simp; done) | (go_simp; rfl)); intro gb171 hg w16 hbox hb; have n0_ := Aside0.mk (Kd.R_below (rdA HO_170001.out) hb); have n1_ := Aside0.mk (blk_below (g := gb167) (o := .cells #[.int .i64 a0_0, .slice (some ad170) l0_1.length c0_1, .int .u64 a0_2] 39 (0, 0)) (rbA BK167.out) hb); have n2_ := Aside0.mk (blk_below (g := gb168) (o := .cells #[.int .i64 0, .slice none 0 0, .int .u64 0] 96 (0, 0)) (rbA BK168.out) hb); have n3_ := Aside0.mk (blk_below (g := gb169) (o := .cells #[.int .i64 a0_0, u170001, .int .u64 a0_2] 96 (0, 0)) (rbA BK169.out) hb); have n4_ := Aside0.mk (below_step (hbA HB.out) hb); have n5_ := Aside0.mk (hbox); have n6_ := Aside0.mk ((by rw [hg]; exact (below_size (hbA HB.out)) : w.heap.size ≤ gb171)); have n7_ := Aside0.mk ((by rw [hg]; exact (below_size (hbA HB.out)) : w.heap.size ≤ gb171)); have n8_ := Aside0.mk ((by rw [hg]; exact Nat.ne_of_lt (blk_lt (g := gb167) (o := .cells #[.int .i64 a0_0, .slice (some ad170) l0_1.length c0_1, .int .u64 a0_2] 39 (0, 0)) (rbA BK167.out)) : gb167 ≠ gb171)); have n9_ := Aside0.mk ((by rw [hg]; exact Nat.ne_of_gt (blk_lt (g := gb167) (o := .cells #[.int .i64 a0_0, .slice (some ad170) l0_1.length c0_1, .int .u64 a0_2] 39 (0, 0)) (rbA BK167.out)) : gb171 ≠ gb167)); have n10_ := Aside0.mk ((by rw [hg]; exact Nat.ne_of_lt (blk_lt (g := gb168) (o := .cells #[.int .i64 0, .slice none 0 0, .int .u64 0] 96 (0, 0)) (rbA BK168.out)) : gb168 ≠ gb171)); have n11_ := Aside0.mk ((by rw [hg]; exact Nat.ne_of_gt (blk_lt (g := gb168) (o := .cells #[.int .i64 0, .slice none 0 0, .int .u64 0] 96 (0, 0)) (rbA BK168.out)) : gb171 ≠ gb168)); have n12_ := Aside0.mk ((by rw [hg]; exact Nat.ne_of_lt (blk_lt (g := gb169) (o := .cells #[.int .i64 a0_0, u170001, .int .u64 a0_2] 96 (0, 0)) (rbA BK169.out)) : gb169 ≠ gb171)); have n13_ := Aside0.mk ((by rw [hg]; exact Nat.ne_of_gt (blk_lt (g := gb169) (o := .cells #[.int .i64 a0_0, u170001, .int .u64 a0_2] 96 (0, 0)) (rbA BK169.out)) : gb171 ≠ gb169)); clear HO_170001; clear BK167; clear BK168; clear BK169; clear HB; have HO_170001 := n0_; have BK167 := n1_; have BK168 := n2_; have BK169 := n3_; have HB := n4_; have BK171 := n5_; have GW171 := n6_; have GE171 := n7_; have NB167_171 := n8_; have NB171_167 := n9_; have NB168_171 := n10_; have NB171_168 := n11_; have NB169_171 := n12_; have NB171_169 := n13_; clear n0_ n1_ n2_ n3_ n4_ n5_ n6_ n7_ n8_ n9_ n10_ n11_ n12_ n13_; clear hb hbox hg; have hnb17 := NB171_167.out; have hnc17 := NB167_171.out; have hnb18 := NB171_168.out; have hnc18 := NB168_171.out; have hnb19 := NB171_169.out; have hnc19 := NB169_171.out; obtain ⟨hcz20_0, hcz20_1, hcz20_2, hcz20_3, hfz20_0, hfz20_1, hfz20_2, hfz20_3⟩ := blkA4 BK171.out; have hnb21 := NB169_168.out; have hnc21 := NB168_169.out; obtain ⟨hcz22_0, hcz22_1, hcz22_2, hfz22_0, hfz22_1, hfz22_2⟩ := blkA3 BK169.out) | ((with_reducible refine gate_builtin (b := .append) (xs := #[.tmp 24, .tmp 34]) rfl ?_); at_builtin; refine Kd.R_append k135 (w0 := w) w.heap.size rfl (.tmp 24) (.tmp 34) 94 135 (.agg #[(.string ⟨#[]⟩), (.int .u32 0), (.string ⟨#[]⟩), (.int .u64 0)]) 48 rfl Tryd.underlying94 info135 rfl (by decide) (by omega) u170001 x170001_1 (⟨(rd_T141 l0_1 x4_1).f0, (rd_T141 l0_1 x4_1).f1, (rd_T141 l0_1 x4_1).f2, (rd_T141 l0_1 x4_1).f3⟩ : S135) [.string ((rd_T141 l0_1 x4_1).f0), .int .u32 ((rd_T141 l0_1 x4_1).f1), .string ((rd_T141 l0_1 x4_1).f2), .int .u64 ((rd_T141 l0_1 x4_1).f3)] (fun _ => True) (fun _ => False) rfl (by first | (go_simp; done) | (go_simp; rfl)) ?aP (fun _ hk => hk.elim) ?aF ?aO ?aB ?aS ?aL ?_; (case aP => exact k135_mkM _ _ _ (⟨(rd_T141 l0_1 x4_1).f0, (rd_T141 l0_1 x4_1).f1, (rd_T141 l0_1 x4_1).f2, (rd_T141 l0_1 x4_1).f3⟩ : S135)); (case aB => exact (hbA HB.out)); (case aF => exact (fun _ _ => trivial)); (case aO => exact (by (with_reducible repeat (first | apply Kd.R_alloc | apply Kd.R_drewN | apply Kd.R_drew)); exact Kd.R_mono (Kd.R_far (p := ⟨gb171, 3, none⟩) (Kd.R_far (p := ⟨gb171, 2, none⟩) (Kd.R_far (p := ⟨gb171, 1, none⟩) (Kd.R_far (p := ⟨gb171, 0, none⟩) (Kd.R_types HO_170001.out BK171.out (by decide)) (fun _ hk => hk.2) (.string ((rd_T141 l0_1 x4_1).f0))) (fun _ hk => hk.2) (.int .u32 ((rd_T141 l0_1 x4_1).f1))) (fun _ hk => hk.2) (.string ((rd_T141 l0_1 x4_1).f2))) (fun _ hk => hk.2) (.int .u64 ((rd_T141 l0_1 x4_1).f3))) (fun _ hk => trivial))); (case aS => exact (below_size (hbA HB.out))); (case aL => have := LMc12.out; omega); intro v173 w23 ho hb hg hat; rw [← Ny172.out] at ho; have n0_ := Aside0.mk (blk_grown (g := gb167) (o := .cells #[.int .i64 a0_0, .slice (some ad170) l0_1.length c0_1, .int .u64 a0_2] 39 (0, 0)) (by (with_reducible repeat (first | refine blk_drewN ?_ _ | refine blk_drew ?_ | refine blk_alloc ?_ _)); refine blk_far ?_ NB167_171.out _; (with_reducible repeat (first | refine blk_drewN ?_ _ | refine blk_drew ?_ | refine blk_alloc ?_ _)); refine blk_far ?_ NB167_171.out _; (with_reducible repeat (first | refine blk_drewN ?_ _ | refine blk_drew ?_ | refine blk_alloc ?_ _)); refine blk_far ?_ NB167_171.out _; (with_reducible repeat (first | refine blk_drewN ?_ _ | refine blk_drew ?_ | refine blk_alloc ?_ _)); refine blk_far ?_ NB167_171.out _; exact rbA BK167.out) hg (Kd.R_ne HO_170001.out BK167.out (by decide))); have n1_ := Aside0.mk (blk_grown (g := gb168) (o := .cells #[.int .i64 0, .slice none 0 0, .int .u64 0] 96 (0, 0)) (by (with_reducible repeat (first | refine blk_drewN ?_ _ | refine blk_drew ?_ | refine blk_alloc ?_ _)); refine blk_far ?_ NB168_171.out _; (with_reducible repeat (first | refine blk_drewN ?_ _ | refine blk_drew ?_ | refine blk_alloc ?_ _)); refine blk_far ?_ NB168_171.out _; (with_reducible repeat (first | refine blk_drewN ?_ _ | refine blk_drew ?_ | refine blk_alloc ?_ _)); refine blk_far ?_ NB168_171.out _; (with_reducible repeat (first | refine blk_drewN ?_ _ | refine blk_drew ?_ | refine blk_alloc ?_ _)); refine blk_far ?_ NB168_171.out _; exact rbA BK168.out) hg (Kd.R_ne HO_170001.out BK168.out (by decide))); have n2_ := Aside0.mk (blk_grown (g := gb169) (o := .cells #[.int .i64 a0_0, u170001, .int .u64 a0_2] 96 (0, 0)) (by (with_reducible repeat (first | refine blk_drewN ?_ _ | refine blk_drew ?_ | refine blk_alloc ?_ _)); refine blk_far ?_ NB169_171.out _; (with_reducible repeat (first | refine blk_drewN ?_ _ | refine blk_drew ?_ | refine blk_alloc ?_ _)); refine blk_far ?_ NB169_171.out _; (with_reducible repeat (first | refine blk_drewN ?_ _ | refine blk_drew ?_ | refine blk_alloc ?_ _)); refine blk_far ?_ NB169_171.out _; (with_reducible repeat (first | refine blk_drewN ?_ _ | refine blk_drew ?_ | refine blk_alloc ?_ _)); refine blk_far ?_ NB169_171.out _; exact rbA BK169.out) hg (Kd.R_ne HO_170001.out BK169.out (by decide))); have n3_ := Aside0.mk (blk_grown (g := gb171) (o := .cells #[.string ((rd_T141 l0_1 x4_1).f0), .int .u32 ((rd_T141 l0_1 x4_1).f1), .string ((rd_T141 l0_1 x4_1).f2), .int .u64 ((rd_T141 l0_1 x4_1).f3)] 141 (0, 0)) (by (with_reducible repeat (first | refine blk_drewN ?_ _ | refine blk_drew ?_ | refine blk_alloc ?_ _)); refine blk_put (cs := #[.string ((rd_T141 l0_1 x4_1).f0), .int .u32 ((rd_T141 l0_1 x4_1).f1), .string ((rd_T141 l0_1 x4_1).f2), .int .u64 0]) ?_ 3 _ rfl; (with_reducible repeat (first | refine blk_drewN ?_ _ | refine blk_drew ?_ | refine blk_alloc ?_ _)); refine blk_put (cs := #[.string ((rd_T141 l0_1 x4_1).f0), .int .u32 ((rd_T141 l0_1 x4_1).f1), .string (⟨#[]⟩ : ByteArray), .int .u64 0]) ?_ 2 _ rfl; (with_reducible repeat (first | refine blk_drewN ?_ _ | refine blk_drew ?_ | refine blk_alloc ?_ _)); refine blk_put (cs := #[.string ((rd_T141 l0_1 x4_1).f0), .int .u32 0, .string (⟨#[]⟩ : ByteArray), .int .u64 0]) ?_ 1 _ rfl; (with_reducible repeat (first | refine blk_drewN ?_ _ | refine blk_drew ?_ | refine blk_alloc ?_ _)); refine blk_put (cs := #[.string (⟨#[]⟩ : ByteArray), .int .u32 0, .string (⟨#[]⟩ : ByteArray), .int .u64 0]) ?_ 0 _ rfl; exact rbA BK171.out) hg (Kd.R_ne HO_170001.out BK171.out (by decide))); have n4_ := Aside0.mk (hb); have n5_ := Aside0.mk (ho); clear BK167; clear BK168; clear BK169; clear BK171; clear HB; clear HO_170001; have BK167 := n0_; have BK168 := n1_; have BK169 := n2_; have BK171 := n3_; have HB := n4_; have HO174 := n5_; clear n0_ n1_ n2_ n3_ n4_ n5_; clear ho hb hg hat; obtain ⟨Ao24, co24, eo24⟩ := Kd.R_slice HO174.out; subst eo24; obtain ⟨hcz25_0, hcz25_1, hcz25_2, hfz25_0, hfz25_1, hfz25_2⟩ := blkA3 BK169.out))
         go_roundg k1
         case measure => have := HK1.out; omega
         case rel => exact ⟨(wrap64 (x4_1 + 1)), (y172), (.slice Ao24 y172.length co24), rsA, H', ⟨by have := HK1.out; omega⟩, ⟨by (with_reducible repeat (first | apply Kd.R_alloc | apply Kd.R_drewN | apply Kd.R_drew)); exact Kd.R_mono (Kd.R_far (p := ⟨gb169, 1, none⟩) (Kd.R_types HO174.out BK169.out (by decide)) (fun _ hk => hk.2) (.slice Ao24 y172.length co24)) (fun _ hk => trivial)⟩, ⟨by (with_reducible repeat (first | refine blk_drewN ?_ _ | refine blk_drew ?_ | refine blk_alloc ?_ _)); refine blk_far ?_ NB167_169.out _; (with_reducible repeat (first | refine blk_drewN ?_ _ | refine blk_drew ?_ | refine blk_alloc ?_ _)); exact BK167.out⟩, ⟨by (with_reducible repeat (first | refine blk_drewN ?_ _ | refine blk_drew ?_ | refine blk_alloc ?_ _)); refine blk_far ?_ NB168_169.out _; (with_reducible repeat (first | refine blk_drewN ?_ _ | refine blk_drew ?_ | refine blk_alloc ?_ _)); exact BK168.out⟩, ⟨by (with_reducible repeat (first | refine blk_drewN ?_ _ | refine blk_drew ?_ | refine blk_alloc ?_ _)); refine blk_put (cs := #[.int .i64 a0_0, u170001, .int .u64 a0_2]) ?_ 1 _ rfl; (with_reducible repeat (first | refine blk_drewN ?_ _ | refine blk_drew ?_ | refine blk_alloc ?_ _)); exact BK169.out⟩, ⟨hbA HB.out⟩⟩
       rw [if_neg c12] at H
       exact absurd H (by simp)
     rw [if_neg c11] at H
     exact absurd H (by simp)
   rw [if_neg c10] at H
   have c10b0 : decide (x4_1 < (l0_1.length : Int)) = false := decide_eq_false c10
   clear c10
   simp only [Option.some.injEq, Prod.mk.injEq] at H
   obtain ⟨rfl, rfl, rfl⟩ := H
   have hnb26 := NB167_168.out
   have hnc26 := NB168_167.out
   have hnb27 := NB167_169.out
   have hnc27 := NB169_167.out
   obtain ⟨hcz28_0, hcz28_1, hcz28_2, hfz28_0, hfz28_1, hfz28_2⟩ := blkA3 BK167.out
   have hnb29 := NB169_168.out
   have hnc29 := NB168_169.out
   obtain ⟨hcz30_0, hcz30_1, hcz30_2, hfz30_0, hfz30_1, hfz30_2⟩ := blkA3 BK169.out
   obtain ⟨hcz31_0, hcz31_1, hcz31_2, hfz31_0, hfz31_1, hfz31_2⟩ := blkA3 BK168.out
   obtain ⟨Ao32, co32, eo32⟩ := Kd.R_slice HO_170001.out
   subst eo32
   go_wp2
   refine bodyPost_ret (results_cell_row rfl _ _ gb168 96 #[.int .i64 a0_0, .slice Ao32 x170001_1.length co32, .int .u64 a0_2] (0, 0) _ rfl (by (with_reducible repeat (first | refine blk_drewN ?_ _ | refine blk_drew ?_ | refine blk_alloc ?_ _)); refine blk_put (cs := #[.int .i64 a0_0, .slice Ao32 x170001_1.length co32, .int .u64 0]) ?_ 2 _ rfl; (with_reducible repeat (first | refine blk_drewN ?_ _ | refine blk_drew ?_ | refine blk_alloc ?_ _)); refine blk_put (cs := #[.int .i64 a0_0, .slice none 0 0, .int .u64 0]) ?_ 1 _ rfl; (with_reducible repeat (first | refine blk_drewN ?_ _ | refine blk_drew ?_ | refine blk_alloc ?_ _)); refine blk_put (cs := #[.int .i64 0, .slice none 0 0, .int .u64 0]) ?_ 0 _ rfl; exact rbA BK168.out) Tryd.underlying96 rfl (by kernel_rfl)) rfl ?_
   exact ⟨_, reA, by (with_reducible repeat (first | apply Kd.R_alloc | apply Kd.R_drewN | apply Kd.R_drew)); exact Kd.R_mono (Kd.R_far (p := ⟨gb168, 2, none⟩) (Kd.R_far (p := ⟨gb168, 1, none⟩) (Kd.R_far (p := ⟨gb168, 0, none⟩) (Kd.R_types HO_170001.out BK168.out (by decide)) (fun _ hk => hk.2) (.int .i64 a0_0)) (fun _ hk => hk.2) (.slice Ao32 x170001_1.length co32)) (fun _ hk => hk.2) (.int .u64 a0_2)) (fun _ hk => trivial), hbA HB.out⟩

def tallboyref15_Reads.f (a0 : Int) : Option (Bool) := if a0 ≥ 1 then (some (decide (a0 ≤ 4))) else (some false)
set_option maxHeartbeats 8000000 in
set_option maxRecDepth 100000 in
theorem tallboyref15_Reads.calls (a0 : Int) (r : Bool) (w : World) (h : tallboyref15_Reads.f a0 = some r) :
 Calls Tryd.prog 36 #[.int .i64 a0] w fun e w' => e = .returned (.bool r) ∧ Drawn0 w w' := by
 have H : (if a0 ≥ 1 then (some (decide (a0 ≤ 4))) else (some false)) = some r := h
 clear h
 by_cases c2 : a0 ≥ 1
 · rw [if_pos c2] at H
   have c2b0 : decide (1 ≤ a0) = true := decide_eq_true c2
   clear c2
   obtain rfl := Option.some.inj H
   go_enter Tryd.func36, Tryd.ntmps36
   go_wp2
   go_ret
   exact ⟨rsA, drA⟩
 rw [if_neg c2] at H
 have c2b0 : decide (1 ≤ a0) = false := decide_eq_false c2
 clear c2
 obtain rfl := Option.some.inj H
 go_enter Tryd.func36, Tryd.ntmps36
 go_wp2
 go_ret
 exact ⟨rsA, drA⟩

def tallboyref15_Stores.f (a0 : Int) : Option (Bool) := if a0 ≥ 5 then (some (decide (a0 ≤ 10))) else (some false)
set_option maxHeartbeats 8000000 in
set_option maxRecDepth 100000 in
theorem tallboyref15_Stores.calls (a0 : Int) (r : Bool) (w : World) (h : tallboyref15_Stores.f a0 = some r) :
 Calls Tryd.prog 38 #[.int .i64 a0] w fun e w' => e = .returned (.bool r) ∧ Drawn0 w w' := by
 have H : (if a0 ≥ 5 then (some (decide (a0 ≤ 10))) else (some false)) = some r := h
 clear h
 by_cases c2 : a0 ≥ 5
 · rw [if_pos c2] at H
   have c2b0 : decide (5 ≤ a0) = true := decide_eq_true c2
   clear c2
   obtain rfl := Option.some.inj H
   go_enter Tryd.func38, Tryd.ntmps38
   go_wp2
   go_ret
   exact ⟨rsA, drA⟩
 rw [if_neg c2] at H
 have c2b0 : decide (5 ≤ a0) = false := decide_eq_false c2
 clear c2
 obtain rfl := Option.some.inj H
 go_enter Tryd.func38, Tryd.ntmps38
 go_wp2
 go_ret
 exact ⟨rsA, drA⟩

end
end Go.Proofs.YteddljbdjgdlnaaDoor.XSb
end
section
namespace Go.Proofs.YteddljbdjgdlnaaDoor.XSb
open Go.RowKit Go.Proofs.YteddljbdjgdlnaaDoorW.PrintWords Go.Proofs.YteddljbdjgdlnaaDoorW.PrintLast Go.Proofs.YteddljbdjgdlnaaDoorW.PrintMore
attribute [local go_sem] extract_sub max2_int min2_int max_two min_two max_three min_three max_four min_four   -- for this text's walks alone
set_option linter.unusedVariables false
set_option linter.unusedSimpArgs false

noncomputable section
def tallboylaw25_To.hit (h : S141) : S135 := ⟨h.f0, h.f1, h.f2, h.f3⟩
def tallboylaw25_To.drop (d : S104) : S144 := ⟨d.f0, d.f1⟩
def tallboylaw25_To.ev (x : S42) : S99 := ⟨x.f0, x.f1, x.f2, ⟨x.f3.f0, x.f3.f1.map tallboylaw25_To.hit, x.f3.f2⟩, x.f4.map tallboylaw25_To.drop⟩
def tallboylaw25_To.f (l0 : List S42) : Option (List S99) := some (l0.map tallboylaw25_To.ev)

end
end Go.Proofs.YteddljbdjgdlnaaDoor.XSb
end
section
namespace Go.Proofs.YteddljbdjgdlnaaDoor.XSb
open Go.RowKit Go.Proofs.YteddljbdjgdlnaaDoorW.PrintWords Go.Proofs.YteddljbdjgdlnaaDoorW.PrintLast Go.Proofs.YteddljbdjgdlnaaDoorW.PrintMore
attribute [local go_sem] extract_sub max2_int min2_int max_two min_two max_three min_three max_four min_four   -- for this text's walks alone
set_option linter.unusedVariables false
set_option linter.unusedSimpArgs false

noncomputable section
end
end Go.Proofs.YteddljbdjgdlnaaDoor.XSb
end
section
namespace Go.Proofs.YteddljbdjgdlnaaDoor.St
open Go.RowKit Go.Proofs.YteddljbdjgdlnaaDoorW.PrintWords Go.Proofs.YteddljbdjgdlnaaDoorW.PrintLast Go.Proofs.YteddljbdjgdlnaaDoorW.PrintMore Go.WideMaps Go.Proofs.YteddljbdjgdlnaaDoor.XSb
set_option linter.unusedVariables false
set_option linter.unusedSimpArgs false
attribute [local go_sem ↓] Go.wp_at_zero Go.wp_at_succ
theorem size_al (w : World) (o : Obj) : (w.alloc o).heap.size = w.heap.size + 1 := by simp
theorem fresh_cell {w : World} {B : Nat} {cs : Array Value} {t : TypeId} (h : w.heap[B]? = some (.cells cs t)) (i : Nat) : w.cell? ⟨B, i, none⟩ = cs[i]? := cell_of_row w B i cs t (0, 0) h
theorem fresh_frozen {w : World} {B : Nat} {cs : Array Value} {t : TypeId} (h : w.heap[B]? = some (.cells cs t)) (i : Nat) : w.frozen? ⟨B, i, none⟩ = false := by
  simp [World.frozen?, h]
theorem keepC {w w' : World} {a : Addr} {v : Value} (hb : Below w.heap.size w w') (h : w.cell? a = some v) : w'.cell? a = some v := (hb.cell (World.block_lt_of_cell? w a h)).trans h
namespace Nm
def cmd_get : ByteArray := ⟨#[99, 109, 100, 95, 103, 101, 116]⟩
def cmd_set : ByteArray := ⟨#[99, 109, 100, 95, 115, 101, 116]⟩
def cmd_flush : ByteArray := ⟨#[99, 109, 100, 95, 102, 108, 117, 115, 104]⟩
def cmd_touch : ByteArray := ⟨#[99, 109, 100, 95, 116, 111, 117, 99, 104]⟩
def get_hits : ByteArray := ⟨#[103, 101, 116, 95, 104, 105, 116, 115]⟩
def get_misses : ByteArray := ⟨#[103, 101, 116, 95, 109, 105, 115, 115, 101, 115]⟩
def delete_hits : ByteArray := ⟨#[100, 101, 108, 101, 116, 101, 95, 104, 105, 116, 115]⟩
def delete_misses : ByteArray := ⟨#[100, 101, 108, 101, 116, 101, 95, 109, 105, 115, 115, 101, 115]⟩
def incr_hits : ByteArray := ⟨#[105, 110, 99, 114, 95, 104, 105, 116, 115]⟩
def incr_misses : ByteArray := ⟨#[105, 110, 99, 114, 95, 109, 105, 115, 115, 101, 115]⟩
def decr_hits : ByteArray := ⟨#[100, 101, 99, 114, 95, 104, 105, 116, 115]⟩
def decr_misses : ByteArray := ⟨#[100, 101, 99, 114, 95, 109, 105, 115, 115, 101, 115]⟩
def cas_hits : ByteArray := ⟨#[99, 97, 115, 95, 104, 105, 116, 115]⟩
def cas_badval : ByteArray := ⟨#[99, 97, 115, 95, 98, 97, 100, 118, 97, 108]⟩
def cas_misses : ByteArray := ⟨#[99, 97, 115, 95, 109, 105, 115, 115, 101, 115]⟩
def touch_hits : ByteArray := ⟨#[116, 111, 117, 99, 104, 95, 104, 105, 116, 115]⟩
def touch_misses : ByteArray := ⟨#[116, 111, 117, 99, 104, 95, 109, 105, 115, 115, 101, 115]⟩
def not_stored : ByteArray := ⟨#[110, 111, 116, 95, 115, 116, 111, 114, 101, 100]⟩
def too_large : ByteArray := ⟨#[116, 111, 111, 95, 108, 97, 114, 103, 101]⟩
def no_memory : ByteArray := ⟨#[110, 111, 95, 109, 101, 109, 111, 114, 121]⟩
def no_number : ByteArray := ⟨#[110, 111, 95, 110, 117, 109, 98, 101, 114]⟩
def evictions : ByteArray := ⟨#[101, 118, 105, 99, 116, 105, 111, 110, 115]⟩
def moved : ByteArray := ⟨#[109, 111, 118, 101, 100]⟩
def failed : ByteArray := ⟨#[102, 97, 105, 108, 101, 100]⟩
end Nm
def nm24 : List ByteArray := [Nm.cmd_get, Nm.cmd_set, Nm.cmd_flush, Nm.cmd_touch, Nm.get_hits, Nm.get_misses, Nm.delete_hits, Nm.delete_misses, Nm.incr_hits, Nm.incr_misses, Nm.decr_hits, Nm.decr_misses, Nm.cas_hits, Nm.cas_badval, Nm.cas_misses, Nm.touch_hits, Nm.touch_misses, Nm.not_stored, Nm.too_large, Nm.no_memory, Nm.no_number, Nm.evictions, Nm.moved, Nm.failed]
def has (s : ByteArray) (ks : List ByteArray) : Bool := ks.any fun k => k.data.toList == s.data.toList
theorem ba_ext {a b : ByteArray} (h : a.data.toList = b.data.toList) : a = b := by
  cases a
  cases b
  congr 1
  exact Array.toList_inj.1 h
theorem has_same (s : ByteArray) (ks : List ByteArray) : has s (s :: ks) = true := by simp [has]
theorem has_other {s x : ByteArray} (h : x ≠ s) (ks : List ByteArray) : has x (s :: ks) = has x ks := by
  unfold has
  rw [List.any_cons, beq_eq_false_iff_ne.2 (fun e => h (ba_ext e.symm)), Bool.false_or]
theorem has_mem {s : ByteArray} {ks : List ByteArray} (h : has s ks = true) : s ∈ ks := by
  obtain ⟨k, hk, e⟩ := List.any_eq_true.1 h
  rw [← ba_ext (beq_iff_eq.1 e)]
  exact hk
theorem mem_has {s : ByteArray} {ks : List ByteArray} (h : s ∈ ks) : has s ks = true := List.any_eq_true.2 ⟨s, h, beq_self_eq_true _⟩
abbrev Figs := ByteArray → Int
def upd (f : Figs) (s : ByteArray) (n : Int) : Figs := fun x => if x = s then n else f x
theorem upd_same (f : Figs) (s : ByteArray) (n : Int) : upd f s n s = n := if_pos rfl
theorem upd_other (f : Figs) {s x : ByteArray} (n : Int) (h : x ≠ s) : upd f s n x = f x := if_neg h
def addF (f : Figs) (s : ByteArray) (n : Int) : Figs := upd f s ((f s + (if 0 < n then n else 0)) % 18446744073709551616)
def valF (ks : List ByteArray) (f : Figs) (s : ByteArray) : Int := if has s ks = true then f s else 0
def litF (ks : List ByteArray) (f : Figs) : Lit → Option Value
  | .string n => if has ⟨n.toArray⟩ ks = true then some (.int .u64 (f ⟨n.toArray⟩)) else none
  | _ => none
theorem back (s : ByteArray) : (⟨s.data.toList.toArray⟩ : ByteArray) = s := by cases s; simp
theorem litF_at (ks : List ByteArray) (f : Figs) (s : ByteArray) : litF ks f (.string s.data.toList) = if has s ks = true then some (.int .u64 (f s)) else none := by
  unfold litF
  simp only [back]
theorem law : Maps.Keyed Tryd.prog 9 := Maps.string_keyed Tryd.underlying9
theorem key {s : ByteArray} (h : s.size ≤ maxLen) : keyOf Tryd.prog 9 (.string s) = some (.string s.data.toList) := keyOf_string_mk Tryd.underlying9 h
theorem zeroU (w : World) : (zeroValue 28).run Tryd.prog w = .ok (.int .u64 0) w := by kernel_rfl
structure At (w : World) (g b c : Nat) (ks : List ByteArray) (f : Figs) : Prop where
  map : mapF w Tryd.prog 9 b c (litF ks f)
  cell : w.heap[g]? = some (.cells #[.map (some b)] 89)
  ne : g ≠ b
section
variable {w w' : World} {g b c : Nat} {ks : List ByteArray} {f : Figs}
theorem At.lt (h : At w g b c ks f) : g < w.heap.size := blk_lt h.cell
theorem At.ltb (h : At w g b c ks f) : b < w.heap.size := h.map.lt
theorem At.keep (h : At w g b c ks f) (e1 : w'.heap[g]? = w.heap[g]?) (e2 : w'.heap[b]? = w.heap[b]?) : At w' g b c ks f := ⟨h.map.same e2, e1.trans h.cell, h.ne⟩
theorem At.below (h : At w g b c ks f) (hb : Below w.heap.size w w') : At w' g b c ks f := h.keep (hb.block g h.lt) (hb.block b h.ltb)
theorem At.alloc (h : At w g b c ks f) (o : Obj) : At (w.alloc o) g b c ks f := h.below ((Below.refl _ w).alloc (Nat.le_refl _) o)
theorem At.drew (h : At w g b c ks f) : At w.drew g b c ks f := h.below (Below.refl _ w).drew
theorem At.more (h : At w g b c ks f) {c' : Nat} (hc : c ≤ c') : At w g b c' ks f := ⟨h.map.mono hc, h.cell, h.ne⟩
theorem At.mut {p q : Nat} (h : At w g b c ks f) (m : Mut p q w w') (h1 : g ≠ p) (h2 : g ≠ q) (h3 : b ≠ p) (h4 : b ≠ q) : At w' g b c ks f := h.keep (m.block g h.lt h1 h2) (m.block b h.ltb h3 h4)
theorem At.gcell (h : At w g b c ks f) : w.cell? ⟨g, 0, none⟩ = some (.map (some b)) := by rw [fresh_cell h.cell]; rfl
theorem At.eq (h : At w g b c ks f) {ks' : List ByteArray} {f' : Figs} (e1 : ∀ s, has s ks' = has s ks) (e2 : ∀ s, has s ks = true → f' s = f s) : At w g b c ks' f' :=
  ⟨h.map.eq fun kl _ => by
    cases kl with
    | string n =>
      unfold litF
      simp only
      rw [e1]
      by_cases hm : has (⟨n.toArray⟩ : ByteArray) ks = true
      · rw [if_pos hm, if_pos hm, e2 _ hm]
      · rw [if_neg hm, if_neg hm]
    | _ => rfl, h.cell, h.ne⟩
theorem At.look (h : At w g b c ks f) {s : ByteArray} (hs : s.size ≤ maxLen) : (Instr.lookup 87 (.map (some b)) (.string s) false).run Tryd.prog w = .ok (.int .u64 (valF ks f s)) w := by
  obtain ⟨D, ho, _, h2⟩ := h.map
  obtain ⟨v, ps, hrun, hv⟩ := ho.lookup law Tryd.underlying87 (zeroU w) (zd := .held (.int .u64 0)) (zp := []) rfl (key hs)
  rw [(h2 (.string s.data.toList) trivial).1, litF_at] at hv
  have e := tokR_inj hv
  rw [hrun, e]
  unfold valF
  by_cases hm : has s ks = true
  · rw [if_pos hm, if_pos hm]; rfl
  · rw [if_neg hm, if_neg hm]; rfl
theorem At.look2 (h : At w g b c ks f) {s : ByteArray} (hs : s.size ≤ maxLen) : (Instr.lookup 87 (.map (some b)) (.string s) true).run Tryd.prog w = .ok (.tuple #[.int .u64 (valF ks f s), .bool (has s ks)]) w := by
  obtain ⟨D, ho, _, h2⟩ := h.map
  obtain ⟨u, ps, hrun, hu⟩ := ho.look_ok law Tryd.underlying87 (zeroU w) (zd := .held (.int .u64 0)) (zp := []) rfl (key hs)
  rw [(h2 (.string s.data.toList) trivial).1, litF_at] at hu
  have e := tokR_inj hu
  rw [hrun, (h2 (.string s.data.toList) trivial).2, litF_at, e]
  unfold valF
  by_cases hm : has s ks = true
  · rw [if_pos hm, if_pos hm, hm]; rfl
  · rw [if_neg hm, if_neg hm, show has s ks = false by simpa using hm]; rfl
theorem At.put (h : At w g b c ks f) (hc : c < maxLen) {s : ByteArray} (hs : s.size ≤ maxLen) (n : Int) :
    ∃ w', (Instr.mapUpdate 87 (.map (some b)) (.string s) (.int .u64 n)).run Tryd.prog w = .ok () w' ∧ At w' g b (c + 1) (s :: ks) (upd f s n) ∧ Mut g b w w' := by
  obtain ⟨D, ho, h1, h2⟩ := h.map
  obtain ⟨w', hrun, ho', hg'⟩ := ho.update law Tryd.underlying87 hc (key hs) (val := .int .u64 n) (d := .held (.int .u64 n)) (ps := []) rfl
  refine ⟨w', hrun, ⟨?_, (hg'.block g h.lt (fun e => h.ne (by injection e))).trans h.cell, h.ne⟩, (Mut.refl g b w).grown hg' (fun k e => by injection e with e; exact .inr (.inr e.symm))⟩
  have hm : mapF w' Tryd.prog 9 b (c + 1) (putF (litF ks f) (.string s.data.toList) (some (.int .u64 n))) := ⟨_, ho', h1.put _ _, fun l hl => by
    by_cases e1 : l = .string s.data.toList
    · subst e1
      rw [putF_same]
      exact ⟨fun z => Maps.atKey_put_same h1 hl _ _, Maps.has_put_same h1 hl _⟩
    · rw [putF_other _ _ e1]
      refine ⟨fun z => ?_, ?_⟩
      · rw [Maps.atKey_put_other e1]; exact (h2 l hl).1 z
      · rw [Maps.has_put_other e1]; exact (h2 l hl).2⟩
  refine hm.eq fun kl _ => ?_
  by_cases e1 : kl = .string s.data.toList
  · subst e1
    rw [putF_same, litF_at, if_pos (has_same _ _), upd_same]
  · rw [putF_other _ _ e1]
    cases kl with
    | string m =>
      have hne : (⟨m.toArray⟩ : ByteArray) ≠ s := fun e => e1 (by rw [← e])
      unfold litF
      simp only
      rw [upd_other _ _ hne, has_other hne]
    | _ => rfl
end
theorem max_if (n : Int) : max n 0 = if 0 < n then n else 0 := by split <;> omega
set_option maxHeartbeats 1000000 in
theorem more_calls (w : World) (g b c : Nat) (ks : List ByteArray) (f : Figs) (s : ByteArray) (n : Int) (hA : At w g b c ks f) (hc : c < maxLen) (hin : has s ks = true) (hs : s.size ≤ maxLen) (hn : n ≤ 9223372036854775807) :
    Calls Tryd.prog 66 #[.pointer (some ⟨g, 0, none⟩), .string s, .int .i64 n] w fun e w' => e = .returned (.tuple #[]) ∧ At w' g b (c + 1) ks (addF f s n) ∧ Mut g b w w' := by
  have g0 := hA.gcell
  have hl := hA.look hs
  obtain ⟨m, hm⟩ : ∃ m, valF ks f s = m := ⟨_, rfl⟩
  obtain ⟨x, hx⟩ : ∃ x, max n 0 = x := ⟨_, rfl⟩
  have hx0 : 0 ≤ x := by omega
  have hx1 : x ≤ 9223372036854775807 := by omega
  obtain ⟨w', hput, hA', hM⟩ := hA.put hc hs ((m + x) % 18446744073709551616)
  rw [hm] at hl
  have HA' := Aside0.mk hA'
  have HM := Aside0.mk hM
  have HMV := Lib.hid hm
  have hxw : (IntKind.u64.wrap x) = x := by rw [IntKind.wrap_u64]; omega
  have hmw : (IntKind.u64.wrap (m + x)) = (m + x) % 18446744073709551616 := by rw [IntKind.wrap_u64]
  clear hA hA' hM hm
  go_enter Tryd.func66, Tryd.ntmps66
  go_wp2
  go_end0
  refine ⟨rfl, HA'.out.eq (fun y => ?_) (fun y _ => ?_), HM.out⟩
  · by_cases e : y = s
    · rw [e, has_same, hin]
    · rw [has_other e]
  · have e : m = f s := by rw [← HMV.out]; exact if_pos hin
    unfold addF
    rw [e, ← hx, max_if]
set_option maxHeartbeats 1000000 in
theorem Get_calls (w : World) (g b c : Nat) (ks : List ByteArray) (f : Figs) (s : ByteArray) (hA : At w g b c ks f) (hs : s.size ≤ maxLen) :
    Calls Tryd.prog 15 #[.pointer (some ⟨g, 0, none⟩), .string s] w fun e w' => e = .returned (.tuple #[.int .u64 (valF ks f s), .bool (has s ks)]) ∧ w' = w := by
  have g0 := hA.gcell
  have hl := hA.look2 hs
  clear hA
  go_enter Tryd.func15, Tryd.ntmps15
  go_wp2
  go_ret2
  exact ⟨rfl, rfl⟩
theorem names_is : stat_names.f = some nm24 := rfl
theorem at_str {w : World} {A : Option Addr} {l : List ByteArray} (h : Kd.string.C w A l.length l) (j : Nat) (s : ByteArray) (hs : l[j]? = some s) : ∃ ad, A = some ad ∧ w.cell? (ad.add j) = some (.string s) := by
  have hj : j < l.length := (List.getElem?_eq_some_iff.1 hs).1
  obtain ⟨ad, e, hc⟩ := Kd.at_string h (j : Int) (by omega) (by omega)
  have e2 : rdOf ByteArray.empty l (j : Int) = s := by
    unfold rdOf
    simp [hs]
  rw [e2, Int.toNat_natCast] at hc
  exact ⟨ad, e, hc⟩
def Names (w : World) (ad : Addr) : Prop := ∀ (j : Nat) s, nm24[j]? = some s → w.cell? (ad.add j) = some (.string s)
theorem Names.below {w w' : World} {ad : Addr} (h : Names w ad) (hb : Below w.heap.size w w') : Names w' ad := fun j s hs => keepC hb (h j s hs)
theorem Names.mut {g b : Nat} {w w' : World} {ad : Addr} (h : Names w ad) (m : Mut g b w w') (h1 : ad.block ≠ g) (h2 : ad.block ≠ b) : Names w' ad := fun j s hs => m.cell (h j s hs) (by rw [add_block]; exact h1) (by rw [add_block]; exact h2)
theorem names_c (w : World) : Calls Tryd.prog 33 #[] w fun e w' => ∃ ad c, e = .returned (.slice (some ad) 24 c) ∧ 24 ≤ c ∧ w.heap.size ≤ ad.block ∧ Names w' ad ∧ Below w.heap.size w w' :=
  (stat_names.calls nm24 w names_is).mono fun e w' h => by
    obtain ⟨v, rfl, hR, hb⟩ := h
    obtain ⟨A, c, rfl, hc, hC⟩ := Kd.R_reads hR
    obtain ⟨inner, ho⟩ := Kd.R_own hR
    obtain ⟨ad, rfl, h0⟩ := at_str hC 0 Nm.cmd_get rfl
    refine ⟨ad, c, rfl, hc, own_base ho _ rfl, fun j s hs => ?_, hb⟩
    obtain ⟨ad', e, h1⟩ := at_str hC j s hs
    injection e with e
    rw [e]
    exact h1
theorem nm_small {j : Nat} {s : ByteArray} (h : nm24[j]? = some s) : s.size ≤ maxLen := by
  have : ∀ x ∈ nm24, x.size ≤ maxLen := by
    have h : (nm24.all fun x => decide (x.size ≤ maxLen)) = true := by kernel_rfl
    exact fun x hx => of_decide_eq_true (List.all_eq_true.1 h x hx)
  exact this s (List.mem_of_getElem? h)
theorem nm_len : nm24.length = 24 := rfl
theorem has_snoc (x s : ByteArray) (l : List ByteArray) : has x (l ++ [s]) = has x (s :: l) := by simp [has, Bool.or_comm]
theorem take_next {j : Nat} {s : ByteArray} (h : nm24[j]? = some s) (x : ByteArray) : has x (nm24.take (j + 1)) = has x (s :: nm24.take j) := by
  rw [List.take_add_one, h]
  exact has_snoc _ _ _
theorem nm_at {j : Nat} (h : j < 24) : ∃ s, nm24[j]? = some s := ⟨_, List.getElem?_eq_getElem h⟩
structure Nw (w wr : World) (g b j : Nat) (ad : Addr) : Prop where
  st : At wr g b j (nm24.take j) (fun _ => 0)
  bel : Below w.heap.size w wr
  row : Names wr ad
theorem nw_next {w wr w' : World} {g b j : Nat} {ad : Addr} (h : Nw w wr g b j ad) {s : ByteArray} (hs : nm24[j]? = some s) (hA : At w' g b (j + 1) (s :: nm24.take j) (upd (fun _ => 0) s 0)) (hM : Mut g b wr w') (hg : w.heap.size ≤ g) (hb : w.heap.size ≤ b) (h1 : ad.block ≠ g) (h2 : ad.block ≠ b) : Nw w w' g b (j + 1) ad :=
  ⟨hA.eq (take_next hs) (fun x _ => by unfold upd; split <;> rfl), h.bel.trans (hM.below hg hb h.bel.size), h.row.mut hM h1 h2⟩
set_option maxHeartbeats 4000000 in
set_option maxRecDepth 100000 in
theorem New_calls (w : World) :
    Calls Tryd.prog 8 #[] w fun e w' => ∃ g b, e = .returned (.pointer (some ⟨g, 0, none⟩)) ∧ At w' g b 24 nm24 (fun _ => 0) ∧ w.heap.size ≤ g ∧ w.heap.size ≤ b ∧ Below w.heap.size w w' := by
  have hmm := @run_makeMap Tryd.prog
  have HA0 : Aside0 (At ((w.alloc (.map #[] 0)).alloc (.cells #[.map (some w.heap.size)] 89)) (w.heap.size + 1) w.heap.size 0 [] (fun _ => 0)) :=
    ⟨⟨((mapF_made w Tryd.prog 9).eq fun kl _ => by cases kl <;> rfl).alloc _, by have h := heap_alloc_new (w.alloc (.map #[] 0)) (.cells #[.map (some w.heap.size)] 89); rwa [size_al] at h, by omega⟩⟩
  have HB0 : Aside0 (Below w.heap.size w ((w.alloc (.map #[] 0)).alloc (.cells #[.map (some w.heap.size)] 89))) := ⟨((Below.refl _ w).alloc (Nat.le_refl _) _).alloc (by rw [size_al]; omega) _⟩
  go_enter Tryd.func8, Tryd.ntmps8
  go_wp2_with fail
  refine (names_c _).mono ?_
  rintro e w1 ⟨ad, c, rfl, hc, had, hN, hb1⟩
  have hs2 : w.heap.size + 1 + 1 ≤ ad.block := by rw [size_al, size_al] at had; exact had
  have HW : Aside0 (Nw w w1 (w.heap.size + 1) w.heap.size 0 ad) := ⟨⟨HA0.out.below hb1, HB0.out.trans (hb1.mono HB0.out.size), hN⟩⟩
  have n1 : ad.block ≠ w.heap.size + 1 := by omega
  have n2 : ad.block ≠ w.heap.size := by omega
  have hgw : w.heap.size ≤ w.heap.size + 1 := by omega
  obtain ⟨g, hg⟩ : ∃ g, g = w.heap.size + 1 := ⟨_, rfl⟩
  obtain ⟨b, hb⟩ : ∃ b, b = w.heap.size := ⟨_, rfl⟩
  rw [← hg] at HW n1 hgw ⊢
  rw [← hb] at HW n2 ⊢
  have hbw : w.heap.size ≤ b := by omega
  clear hN hb1 HA0 HB0 had hs2 hg hb hmm
  go_wp2_with fail
  go_loopg [9] 24 (fun gg v9 wr => ∃ (j : Nat), v9 = .int .i64 j ∧ j ≤ 24 ∧ 24 - j ≤ gg ∧ Aside0 (Nw w wr g b j ad))
  case atStart => exact ⟨0, rfl, Nat.zero_le _, by omega, HW⟩
  case round =>
    obtain ⟨j, rfl, hj, hgj, HR⟩ := hrel
    by_cases hlt : j < 24
    · have hji : (j : Int) < 24 := by omega
      obtain ⟨s, hs⟩ := nm_at hlt
      have hcell := HR.out.row j s hs
      have g0 := HR.out.st.gcell
      obtain ⟨w', hput, hA', hM⟩ := HR.out.st.put (show j < maxLen by unfold maxLen; omega) (nm_small hs) 0
      have HN := Aside0.mk (nw_next HR.out hs hA' hM hgw hbw n1 n2)
      clear hs hA' hM HR
      go_wp2
      go_roundg (24 - (j + 1))
      case measure => omega
      case rel => exact ⟨j + 1, by go_num, by omega, by omega, HN⟩
    · have hji : ¬ (j : Int) < 24 := by omega
      obtain rfl : j = 24 := by omega
      go_wp2
      go_ret
      first | exact ⟨g, rfl, b, HR.out.st, hgw, hbw, HR.out.bel⟩ | exact ⟨g, rfl, hgw, b, HR.out.st, hbw, HR.out.bel⟩ | exact ⟨g, b, rfl, HR.out.st, hgw, hbw, HR.out.bel⟩
end Go.Proofs.YteddljbdjgdlnaaDoor.St
end
section
namespace Go.Proofs.YteddljbdjgdlnaaDoor.St
open Go.RowKit Go.Proofs.YteddljbdjgdlnaaDoorW.PrintWords Go.Proofs.YteddljbdjgdlnaaDoorW.PrintLast Go.Proofs.YteddljbdjgdlnaaDoorW.PrintMore Go.WideMaps Go.Proofs.YteddljbdjgdlnaaDoor.XSb
set_option linter.unusedVariables false
set_option linter.unusedSimpArgs false
attribute [local go_sem ↓] Go.wp_at_zero Go.wp_at_succ
abbrev Inc := List (ByteArray × Int)
def app (f : Figs) (l : Inc) : Figs := l.foldl (fun f p => addF f p.1 p.2) f
theorem app_nil (f : Figs) : app f [] = f := rfl
theorem app_snoc (f : Figs) (l : Inc) (s : ByteArray) (n : Int) : app f (l ++ [(s, n)]) = addF (app f l) s n := by unfold app; rw [List.foldl_append]; rfl
theorem app_append (f : Figs) (l k : Inc) : app f (l ++ k) = app (app f l) k := by unfold app; rw [List.foldl_append]
structure Did (w0 w : World) (g b c : Nat) (f : Figs) (l : Inc) : Prop where
  at_ : At w g b (c + l.length) nm24 (app f l)
  mov : Mut g b w0 w
theorem Did.start {w : World} {g b c : Nat} {f : Figs} (h : At w g b c nm24 f) : Did w w g b c f [] := ⟨h, Mut.refl g b w⟩
theorem Did.below {w0 w w' : World} {g b c : Nat} {f : Figs} {l : Inc} (h : Did w0 w g b c f l) (hb : Below w.heap.size w w') : Did w0 w' g b c f l := ⟨h.at_.below hb, h.mov.then_below hb⟩
theorem Did.then {w0 w w' : World} {g b c : Nat} {f : Figs} {l k : Inc} (h : Did w0 w g b c f l) (d : Did w w' g b (c + l.length) (app f l) k) : Did w0 w' g b c f (l ++ k) :=
  ⟨by rw [List.length_append, app_append, ← Nat.add_assoc]; exact d.at_, h.mov.trans d.mov⟩
theorem has_small {s : ByteArray} (h : has s nm24 = true) : s.size ≤ maxLen := by
  obtain ⟨j, hj⟩ := List.getElem?_of_mem (has_mem h)
  exact nm_small hj
theorem more_d {w0 w : World} {g b c : Nat} {f : Figs} {l : Inc} (h : Did w0 w g b c f l) (s : ByteArray) (n : Int) (hc : c + l.length < maxLen) (hin : has s nm24 = true) (hn : n ≤ 9223372036854775807) :
    Calls Tryd.prog 66 #[.pointer (some ⟨g, 0, none⟩), .string s, .int .i64 n] w fun e w' => e = .returned (.tuple #[]) ∧ Did w0 w' g b c f (l ++ [(s, n)]) :=
  (more_calls w g b _ nm24 _ s n h.at_ hc hin (has_small hin) hn).mono fun e w' h' => ⟨h'.1, by rw [List.length_append, app_snoc]; exact h'.2.1, h.mov.trans h'.2.2⟩
structure Ev where
  who : Int
  kind : Int
  ka : Option Addr
  nk : Nat
  kc : Nat
  flags : Int
  exp : Int
  value : ByteArray
  cas : Int
  delta : Int
  quiet : Bool
  now : Int
  code : Int
  ha : Option Addr
  nh : Nat
  hc : Nat
  n : Int
  da : Option Addr
  nd : Nat
  dc : Nat
def Ev.cells (e : Ev) : Array Value := #[.int .i64 e.who, .int .i64 e.kind, .slice e.ka e.nk e.kc, .int .u32 e.flags, .int .i64 e.exp, .string e.value, .int .u64 e.cas, .int .u64 e.delta, .bool e.quiet, .int .i64 e.now, .int .i64 e.code, .slice e.ha e.nh e.hc, .int .u64 e.n, .slice e.da e.nd e.dc]
def readsI (kind nk nh : Int) : Inc := [(Nm.cmd_get, nk), (Nm.get_hits, nh), (Nm.get_misses, nk - nh)] ++ if kind = 3 ∨ kind = 4 then [(Nm.cmd_touch, nh), (Nm.touch_hits, nh)] else []
theorem Did.from {w0 w1 w : World} {g b c : Nat} {f : Figs} {l : Inc} (h : Did w1 w g b c f l) (hb : Below w0.heap.size w0 w1) : Did w0 w g b c f l := ⟨h.at_, (Mut.of_below hb).trans h.mov⟩
structure Bx (W0 w : World) (g b c : Nat) (f : Figs) (l : Inc) (T : Nat) (e : Ev) : Prop where
  did : Did W0 w g b c f l
  box : w.heap[T]? = some (.cells e.cells 99)
  n1 : T ≠ g
  n2 : T ≠ b
theorem Bx.start {w : World} {g b c : Nat} {f : Figs} (h : At w g b c nm24 f) (e : Ev) : Bx (w.alloc (.cells e.cells 99)) (w.alloc (.cells e.cells 99)) g b c f [] w.heap.size e :=
  ⟨Did.start (h.alloc _), heap_alloc_new _ _, Nat.ne_of_gt h.lt, Nat.ne_of_gt h.ltb⟩
theorem Bx.then {W0 w w' : World} {g b c : Nat} {f : Figs} {l k : Inc} {T : Nat} {e : Ev} (h : Bx W0 w g b c f l T e) (d : Did w w' g b (c + l.length) (app f l) k) : Bx W0 w' g b c f (l ++ k) T e :=
  ⟨h.did.then d, d.mov.heap h.box h.n1 h.n2, h.n1, h.n2⟩
theorem Bx.below {W0 w w' : World} {g b c : Nat} {f : Figs} {l : Inc} {T : Nat} {e : Ev} (h : Bx W0 w g b c f l T e) (hb : Below w.heap.size w w') : Bx W0 w' g b c f l T e :=
  ⟨h.did.below hb, (hb.block T (blk_lt h.box)).trans h.box, h.n1, h.n2⟩
theorem below_drewN (w : World) (n : Nat) : Below w.heap.size w (w.drewN n) := ⟨rfl, rfl, rfl, Nat.le_refl _, fun _ _ => rfl⟩
theorem Bx.cells {W0 w : World} {g b c : Nat} {f : Figs} {l : Inc} {T : Nat} {e : Ev} (h : Bx W0 w g b c f l T e) :
    w.cell? ⟨T, 0, none⟩ = some (.int .i64 e.who) ∧ w.cell? ⟨T, 1, none⟩ = some (.int .i64 e.kind) ∧ w.cell? ⟨T, 2, none⟩ = some (.slice e.ka e.nk e.kc) ∧ w.cell? ⟨T, 3, none⟩ = some (.int .u32 e.flags) ∧ w.cell? ⟨T, 4, none⟩ = some (.int .i64 e.exp) ∧ w.cell? ⟨T, 5, none⟩ = some (.string e.value) ∧ w.cell? ⟨T, 6, none⟩ = some (.int .u64 e.cas) ∧
    w.cell? ⟨T, 7, none⟩ = some (.int .u64 e.delta) ∧ w.cell? ⟨T, 8, none⟩ = some (.bool e.quiet) ∧ w.cell? ⟨T, 9, none⟩ = some (.int .i64 e.now) ∧ w.cell? ⟨T, 10, none⟩ = some (.int .i64 e.code) ∧ w.cell? ⟨T, 11, none⟩ = some (.slice e.ha e.nh e.hc) ∧ w.cell? ⟨T, 12, none⟩ = some (.int .u64 e.n) ∧ w.cell? ⟨T, 13, none⟩ = some (.slice e.da e.nd e.dc) :=
  ⟨fresh_cell h.box 0, fresh_cell h.box 1, fresh_cell h.box 2, fresh_cell h.box 3, fresh_cell h.box 4, fresh_cell h.box 5, fresh_cell h.box 6, fresh_cell h.box 7, fresh_cell h.box 8, fresh_cell h.box 9, fresh_cell h.box 10, fresh_cell h.box 11, fresh_cell h.box 12, fresh_cell h.box 13⟩
theorem more_b {W0 w : World} {g b c : Nat} {f : Figs} {l : Inc} {T : Nat} {e : Ev} (h : Bx W0 w g b c f l T e) (s : ByteArray) (n : Int) (hc : c + l.length < maxLen) (hin : has s nm24 = true) (hn : n ≤ 9223372036854775807) :
    Calls Tryd.prog 66 #[.pointer (some ⟨g, 0, none⟩), .string s, .int .i64 n] w fun x w' => x = .returned (.tuple #[]) ∧ Bx W0 w' g b c f (l ++ [(s, n)]) T e :=
  (more_d (Did.start h.did.at_) s n hc hin hn).mono fun e w' h' => ⟨h'.1, h.then h'.2⟩
set_option maxHeartbeats 4000000 in
set_option maxRecDepth 100000 in
theorem reads_calls (w : World) (g b c : Nat) (f : Figs) (e : Ev) (hA : At w g b c nm24 f) (hc : c + 100 < maxLen) (hk : e.nk ≤ maxLen) (hh : e.nh ≤ maxLen) :
    Calls Tryd.prog 84 #[.pointer (some ⟨g, 0, none⟩), .agg e.cells] w fun x w' => x = .returned (.tuple #[]) ∧ Did w w' g b c f (readsI e.kind e.nk e.nh) := by
  have B0 := Aside0.mk (Bx.start hA e)
  have HB := Aside0.mk ((Below.refl w.heap.size w).alloc (Nat.le_refl _) (.cells e.cells 99))
  obtain ⟨t0, t1, t2, t3, t4, t5, t6, t7, t8, t9, t10, t11, t12, t13⟩ := B0.out.cells
  have hkb : (e.nk : Int) ≤ 9223372036854775807 := by unfold maxLen at hk; omega
  have hhb : (e.nh : Int) ≤ 9223372036854775807 := by unfold maxLen at hh; omega
  clear hA
  unfold Ev.cells
  go_enter Tryd.func84, Tryd.ntmps84
  go_upto_region 1 with fail
  change Code.wp _ _ _ _ (w.alloc (.cells e.cells 99))
  obtain ⟨W0, hW0⟩ : ∃ W0, W0 = w.alloc (.cells e.cells 99) := ⟨_, rfl⟩
  rw [← hW0] at B0 HB t1 t2 t11 ⊢
  clear hW0 t0 t3 t4 t5 t6 t7 t8 t9 t10 t12 t13 hk hh
  go_quiet (fail)
  go_wp2_with fail
  refine (more_b (B0.out.below (below_drewN _ _)) Nm.cmd_get e.nk (by simp; omega) (by kernel_rfl) (by omega)).mono ?_
  rintro x w1 ⟨rfl, hB⟩
  have B1 := Aside0.mk hB
  clear hB t1 t2 t11 B0
  go_wp2_with fail
  refine (more_b B1.out Nm.get_hits e.nh (by simp; omega) (by kernel_rfl) (by omega)).mono ?_
  rintro x w2 ⟨rfl, hB⟩
  have B2 := Aside0.mk hB
  clear hB B1
  go_wp2_with fail
  refine (more_b B2.out Nm.get_misses (e.nk - e.nh) (by simp; omega) (by kernel_rfl) (by omega)).mono ?_
  rintro x w3 ⟨rfl, hB⟩
  have B3 := Aside0.mk hB
  obtain ⟨t0, t1, t2, t3, t4, t5, t6, t7, t8, t9, t10, t11, t12, t13⟩ := B3.out.cells
  clear hB B2 t0 t2 t3 t4 t5 t6 t7 t8 t9 t10 t11 t12 t13
  by_cases hk : e.kind = 3 ∨ e.kind = 4
  · have hi : readsI e.kind e.nk e.nh = [(Nm.cmd_get, (e.nk : Int)), (Nm.get_hits, (e.nh : Int)), (Nm.get_misses, (e.nk : Int) - e.nh)] ++ [(Nm.cmd_touch, (e.nh : Int)), (Nm.touch_hits, (e.nh : Int))] := by unfold readsI; rw [if_pos hk]
    have HI := Lib.hid hi
    obtain ⟨q1, q2, e1, e2, hqq⟩ : ∃ q1 q2, (e.kind == 3) = q1 ∧ (e.kind == 4) = q2 ∧ (q1 = true ∨ q1 = false ∧ q2 = true) := by
      refine ⟨_, _, rfl, rfl, ?_⟩
      rcases hk with h | h
      · exact .inl (beq_iff_eq.2 h)
      · rw [h]; exact .inr ⟨rfl, rfl⟩
    clear hk hi
    rcases hqq with rfl | ⟨rfl, rfl⟩
    all_goals
      go_wp2_with fail
      refine (more_b B3.out Nm.cmd_touch e.nh (by simp; omega) (by kernel_rfl) (by omega)).mono ?_
      rintro x w4 ⟨rfl, hB⟩
      have B4 := Aside0.mk hB
      clear hB B3 t1
      go_wp2_with fail
      refine (more_b B4.out Nm.touch_hits e.nh (by simp; omega) (by kernel_rfl) (by omega)).mono ?_
      rintro x w5 ⟨rfl, hB⟩
      have B5 := Aside0.mk hB
      clear hB B4
      go_wp2
      go_end0
      rw [HI.out]
      exact ⟨rfl, B5.out.did.from HB.out⟩
  · have hi : readsI e.kind e.nk e.nh = [(Nm.cmd_get, (e.nk : Int)), (Nm.get_hits, (e.nh : Int)), (Nm.get_misses, (e.nk : Int) - e.nh)] := by unfold readsI; rw [if_neg hk, List.append_nil]
    have HI := Lib.hid hi
    have e1 : (e.kind == 3) = false := beq_eq_false_iff_ne.2 (fun h => hk (.inl h))
    have e2 : (e.kind == 4) = false := beq_eq_false_iff_ne.2 (fun h => hk (.inr h))
    clear hk hi
    go_wp2
    go_end0
    rw [HI.out]
    exact ⟨rfl, B3.out.did.from HB.out⟩
end Go.Proofs.YteddljbdjgdlnaaDoor.St
end
section
namespace Go.Proofs.YteddljbdjgdlnaaDoor.St
open Go.RowKit Go.Proofs.YteddljbdjgdlnaaDoorW.PrintWords Go.Proofs.YteddljbdjgdlnaaDoorW.PrintLast Go.Proofs.YteddljbdjgdlnaaDoorW.PrintMore Go.WideMaps Go.Proofs.YteddljbdjgdlnaaDoor.XSb
set_option linter.unusedVariables false
set_option linter.unusedSimpArgs false
attribute [local go_sem ↓] Go.wp_at_zero Go.wp_at_succ
def hits : ByteArray := ⟨#[95, 104, 105, 116, 115]⟩
def misses : ByteArray := ⟨#[95, 109, 105, 115, 115, 101, 115]⟩
def foundI (what : ByteArray) (code hit : Int) : Inc := if code = hit then [(what ++ hits, 1)] else if code = 5 then [(what ++ misses, 1)] else []
theorem found_len (what : ByteArray) (code hit : Int) : (foundI what code hit).length ≤ 1 := by
  unfold foundI
  split
  · exact Nat.le_refl 1
  · split
    · exact Nat.le_refl 1
    · exact Nat.zero_le 1
set_option maxHeartbeats 2000000 in
theorem found_d (w : World) (g b c : Nat) (f : Figs) (what : ByteArray) (code hit : Int) (hA : At w g b c nm24 f) (hc : c + 100 < maxLen) (hw : what.size ≤ 100) (h1 : has (what ++ hits) nm24 = true) (h2 : has (what ++ misses) nm24 = true) :
    Calls Tryd.prog 85 #[.pointer (some ⟨g, 0, none⟩), .string what, .int .i64 code, .int .i64 hit] w fun x w' => x = .returned (.tuple #[]) ∧ Did w w' g b c f (foundI what code hit) := by
  have HD := Aside0.mk (Did.start hA)
  have H1 := Aside0.mk h1
  have H2 := Aside0.mk h2
  have hs1 : (what.size : Int) + 5 ≤ 9223372036854775807 := by omega
  have hs2 : (what.size : Int) + 7 ≤ 9223372036854775807 := by omega
  clear hA h1 h2
  go_enter Tryd.func85, Tryd.ntmps85
  by_cases h : code = hit
  · have HI := Lib.hid (show foundI what code hit = [(what ++ hits, 1)] from if_pos h)
    have e1 : (code == hit) = true := beq_iff_eq.2 h
    clear h
    go_wp2_with fail
    refine (more_d HD.out (what ++ hits) 1 (by simp; omega) H1.out (by omega)).mono ?_
    rintro x w1 ⟨rfl, hB⟩
    have B1 := Aside0.mk hB
    clear hB
    go_wp2
    go_end0
    rw [HI.out]
    exact ⟨rfl, B1.out⟩
  · have e1 : (code == hit) = false := beq_eq_false_iff_ne.2 h
    by_cases h5 : code = 5
    · have HI := Lib.hid (show foundI what code hit = [(what ++ misses, 1)] from (if_neg h).trans (if_pos h5))
      have e2 : (code == 5) = true := beq_iff_eq.2 h5
      clear h h5
      go_wp2_with fail
      refine (more_d HD.out (what ++ misses) 1 (by simp; omega) H2.out (by omega)).mono ?_
      rintro x w1 ⟨rfl, hB⟩
      have B1 := Aside0.mk hB
      clear hB
      go_wp2
      go_end0
      rw [HI.out]
      exact ⟨rfl, B1.out⟩
    · have HI := Lib.hid (show foundI what code hit = [] from (if_neg h).trans (if_neg h5))
      have e2 : (code == 5) = false := beq_eq_false_iff_ne.2 h5
      clear h h5
      go_wp2
      go_end0
      rw [HI.out]
      exact ⟨rfl, HD.out⟩
theorem found_b {W0 w : World} {g b c : Nat} {f : Figs} {l : Inc} {T : Nat} {e : Ev} (h : Bx W0 w g b c f l T e) (what : ByteArray) (code hit : Int) (hc : c + l.length + 100 < maxLen) (hw : what.size ≤ 100) (h1 : has (what ++ hits) nm24 = true) (h2 : has (what ++ misses) nm24 = true) :
    Calls Tryd.prog 85 #[.pointer (some ⟨g, 0, none⟩), .string what, .int .i64 code, .int .i64 hit] w fun x w' => x = .returned (.tuple #[]) ∧ Bx W0 w' g b c f (l ++ foundI what code hit) T e :=
  (found_d w g b _ _ what code hit h.did.at_ hc hw h1 h2).mono fun e w' h' => ⟨h'.1, h.then h'.2⟩
theorem reads_b {W0 w : World} {g b c : Nat} {f : Figs} {l : Inc} {T : Nat} {e : Ev} (h : Bx W0 w g b c f l T e) (e' : Ev) (hc : c + l.length + 100 < maxLen) (hk : e'.nk ≤ maxLen) (hh : e'.nh ≤ maxLen) :
    Calls Tryd.prog 84 #[.pointer (some ⟨g, 0, none⟩), .agg e'.cells] w fun x w' => x = .returned (.tuple #[]) ∧ Bx W0 w' g b c f (l ++ readsI e'.kind e'.nk e'.nh) T e :=
  (reads_calls w g b _ _ e' h.did.at_ hc hk hh).mono fun e w' h' => ⟨h'.1, h.then h'.2⟩
namespace Wt
def cas : ByteArray := ⟨#[99, 97, 115]⟩
def delete : ByteArray := ⟨#[100, 101, 108, 101, 116, 101]⟩
def incr : ByteArray := ⟨#[105, 110, 99, 114]⟩
def decr : ByteArray := ⟨#[100, 101, 99, 114]⟩
def touch : ByteArray := ⟨#[116, 111, 117, 99, 104]⟩
end Wt
def commandI (kind nk nh code : Int) : Inc :=
  if kind = 1 ∨ kind = 2 ∨ kind = 3 ∨ kind = 4 then readsI kind nk nh
  else if kind = 10 then [(Nm.cmd_set, 1)] ++ foundI Wt.cas code 2 ++ if code = 4 then [(Nm.cas_badval, 1)] else []
  else if kind = 5 ∨ kind = 6 ∨ kind = 7 ∨ kind = 8 ∨ kind = 9 then [(Nm.cmd_set, 1)]
  else if kind = 11 then foundI Wt.delete code 6
  else if kind = 12 then foundI Wt.incr code 7
  else if kind = 13 then foundI Wt.decr code 7
  else if kind = 14 then [(Nm.cmd_touch, 1)] ++ foundI Wt.touch code 9
  else if kind = 15 then [(Nm.cmd_flush, 1)]
  else []
def isCmd (kind : Int) : Bool := decide (1 ≤ kind ∧ kind ≤ 15)
theorem command_len (kind nk nh code : Int) : (commandI kind nk nh code).length ≤ 5 := by
  unfold commandI
  have hr : (readsI kind nk nh).length ≤ 5 := by unfold readsI; split <;> simp
  have hf : ∀ x q, (foundI x code q).length ≤ 1 := fun x q => found_len x code q
  have h1 := hf Wt.cas 2
  have h2 := hf Wt.delete 6
  have h3 := hf Wt.incr 7
  have h4 := hf Wt.decr 7
  have h5 := hf Wt.touch 9
  split
  · exact hr
  split
  · rw [List.length_append, List.length_append]
    split <;> simp <;> omega
  split
  · simp
  split
  · omega
  split
  · omega
  split
  · omega
  split
  · rw [List.length_append]; simp; omega
  split
  · simp
  · simp
end Go.Proofs.YteddljbdjgdlnaaDoor.St
end
section
namespace Go.Proofs.YteddljbdjgdlnaaDoor.St
open Go.RowKit Go.Proofs.YteddljbdjgdlnaaDoorW.PrintWords Go.Proofs.YteddljbdjgdlnaaDoorW.PrintLast Go.Proofs.YteddljbdjgdlnaaDoorW.PrintMore Go.WideMaps Go.Proofs.YteddljbdjgdlnaaDoor.XSb
set_option linter.unusedVariables false
set_option linter.unusedSimpArgs false
attribute [local go_sem ↓] Go.wp_at_zero Go.wp_at_succ
set_option maxHeartbeats 16000000 in
set_option maxRecDepth 100000 in
theorem command_calls (w : World) (g b c : Nat) (f : Figs) (e : Ev) (hA : At w g b c nm24 f) (hc : c + 1000 < maxLen) (hk : e.nk ≤ maxLen) (hh : e.nh ≤ maxLen) :
    Calls Tryd.prog 65 #[.pointer (some ⟨g, 0, none⟩), .agg e.cells] w fun x w' => x = .returned (.bool (isCmd e.kind)) ∧ Did w w' g b c f (commandI e.kind e.nk e.nh e.code) := by
  have B0 := Aside0.mk (Bx.start hA e)
  have HB := Aside0.mk ((Below.refl w.heap.size w).alloc (Nat.le_refl _) (.cells e.cells 99))
  obtain ⟨t0, t1, t2, t3, t4, t5, t6, t7, t8, t9, t10, t11, t12, t13⟩ := B0.out.cells
  clear hA
  have hc0 : c + 100 < maxLen := by omega
  have hc1 : c + 1 + 100 < maxLen := by omega
  have hc2 : c + 1 < maxLen := by omega
  have hc3 : ∀ {k : Nat}, k ≤ 1 → c + (1 + k) < maxLen := fun h => by omega
  have hc4 : c < maxLen := by omega
  have hc3' : ∀ code, c + List.length ([] ++ [(Nm.cmd_set, (1 : Int))] ++ foundI Wt.cas code 2) < maxLen := fun code => by
    have := found_len Wt.cas code 2
    simp only [List.nil_append, List.length_append, List.length_singleton]
    omega
  unfold Ev.cells
  go_enter Tryd.func65, Tryd.ntmps65
  go_upto_region 1 with fail
  change Code.wp _ _ _ _ (w.alloc (.cells e.cells 99))
  obtain ⟨W0, hW0⟩ : ∃ W0, W0 = w.alloc (.cells e.cells 99) := ⟨_, rfl⟩
  obtain ⟨T, hT⟩ : ∃ T, T = w.heap.size := ⟨_, rfl⟩
  rw [← hW0] at B0 HB t0 t1 t2 t3 t4 t5 t6 t7 t8 t9 t10 t11 t12 t13 ⊢
  rw [← hT] at B0 t0 t1 t2 t3 t4 t5 t6 t7 t8 t9 t10 t11 t12 t13 ⊢
  clear hW0 hT
  have hcase : e.kind = 1 ∨ e.kind = 2 ∨ e.kind = 3 ∨ e.kind = 4 ∨ e.kind = 5 ∨ e.kind = 6 ∨ e.kind = 7 ∨ e.kind = 8 ∨ e.kind = 9 ∨ e.kind = 10 ∨ e.kind = 11 ∨ e.kind = 12 ∨ e.kind = 13 ∨ e.kind = 14 ∨ e.kind = 15 ∨ ¬ (1 ≤ e.kind ∧ e.kind ≤ 15) := by omega
  rcases hcase with h | h | h | h | h | h | h | h | h | h | h | h | h | h | h | h
  · have HI := Lib.hid (show commandI e.kind e.nk e.nh e.code = readsI 1 e.nk e.nh by unfold commandI; rw [h]; rfl)
    have HK := Lib.hid (show isCmd e.kind = true by rw [h]; rfl)
    have q1 : (e.kind == 1) = true := by rw [h]; rfl
    clear h
    go_wp2_with fail
    refine (reads_b B0.out e hc0 hk hh).mono ?_
    rintro x w1 ⟨rfl, hB⟩
    have B1 := Aside0.mk hB
    obtain ⟨t0, t1, t2, t3, t4, t5, t6, t7, t8, t9, t10, t11, t12, t13⟩ := B1.out.cells
    clear hB B0
    have hh2 : readsI e.kind e.nk e.nh = readsI 1 e.nk e.nh := by rw [beq_iff_eq.1 q1]
    go_wp2
    go_ret
    rw [HI.out, HK.out, ← hh2]
    exact ⟨rfl, B1.out.did.from HB.out⟩
  · have HI := Lib.hid (show commandI e.kind e.nk e.nh e.code = readsI 2 e.nk e.nh by unfold commandI; rw [h]; rfl)
    have HK := Lib.hid (show isCmd e.kind = true by rw [h]; rfl)
    have q1 : (e.kind == 1) = false := by rw [h]; rfl
    have q2 : (e.kind == 2) = true := by rw [h]; rfl
    clear h
    go_wp2_with fail
    refine (reads_b B0.out e hc0 hk hh).mono ?_
    rintro x w1 ⟨rfl, hB⟩
    have B1 := Aside0.mk hB
    obtain ⟨t0, t1, t2, t3, t4, t5, t6, t7, t8, t9, t10, t11, t12, t13⟩ := B1.out.cells
    clear hB B0
    have hh2 : readsI e.kind e.nk e.nh = readsI 2 e.nk e.nh := by rw [beq_iff_eq.1 q2]
    go_wp2
    go_ret
    rw [HI.out, HK.out, ← hh2]
    exact ⟨rfl, B1.out.did.from HB.out⟩
  · have HI := Lib.hid (show commandI e.kind e.nk e.nh e.code = readsI 3 e.nk e.nh by unfold commandI; rw [h]; rfl)
    have HK := Lib.hid (show isCmd e.kind = true by rw [h]; rfl)
    have q1 : (e.kind == 1) = false := by rw [h]; rfl
    have q2 : (e.kind == 2) = false := by rw [h]; rfl
    have q3 : (e.kind == 3) = true := by rw [h]; rfl
    clear h
    go_wp2_with fail
    refine (reads_b B0.out e hc0 hk hh).mono ?_
    rintro x w1 ⟨rfl, hB⟩
    have B1 := Aside0.mk hB
    obtain ⟨t0, t1, t2, t3, t4, t5, t6, t7, t8, t9, t10, t11, t12, t13⟩ := B1.out.cells
    clear hB B0
    have hh2 : readsI e.kind e.nk e.nh = readsI 3 e.nk e.nh := by rw [beq_iff_eq.1 q3]
    go_wp2
    go_ret
    rw [HI.out, HK.out, ← hh2]
    exact ⟨rfl, B1.out.did.from HB.out⟩
  · have HI := Lib.hid (show commandI e.kind e.nk e.nh e.code = readsI 4 e.nk e.nh by unfold commandI; rw [h]; rfl)
    have HK := Lib.hid (show isCmd e.kind = true by rw [h]; rfl)
    have q1 : (e.kind == 1) = false := by rw [h]; rfl
    have q2 : (e.kind == 2) = false := by rw [h]; rfl
    have q3 : (e.kind == 3) = false := by rw [h]; rfl
    have q4 : (e.kind == 4) = true := by rw [h]; rfl
    clear h
    go_wp2_with fail
    refine (reads_b B0.out e hc0 hk hh).mono ?_
    rintro x w1 ⟨rfl, hB⟩
    have B1 := Aside0.mk hB
    obtain ⟨t0, t1, t2, t3, t4, t5, t6, t7, t8, t9, t10, t11, t12, t13⟩ := B1.out.cells
    clear hB B0
    have hh2 : readsI e.kind e.nk e.nh = readsI 4 e.nk e.nh := by rw [beq_iff_eq.1 q4]
    go_wp2
    go_ret
    rw [HI.out, HK.out, ← hh2]
    exact ⟨rfl, B1.out.did.from HB.out⟩
  · have HI := Lib.hid (show commandI e.kind e.nk e.nh e.code = [(Nm.cmd_set, 1)] by unfold commandI; rw [h]; rfl)
    have HK := Lib.hid (show isCmd e.kind = true by rw [h]; rfl)
    have q1 : (e.kind == 1) = false := by rw [h]; rfl
    have q2 : (e.kind == 2) = false := by rw [h]; rfl
    have q3 : (e.kind == 3) = false := by rw [h]; rfl
    have q4 : (e.kind == 4) = false := by rw [h]; rfl
    have q10 : (e.kind == 10) = false := by rw [h]; rfl
    have q5 : (e.kind == 5) = true := by rw [h]; rfl
    clear h
    go_wp2_with fail
    refine (more_b B0.out Nm.cmd_set 1 hc4 (by kernel_rfl) (by decide)).mono ?_
    rintro x w1 ⟨rfl, hB⟩
    have B1 := Aside0.mk hB
    obtain ⟨t0, t1, t2, t3, t4, t5, t6, t7, t8, t9, t10, t11, t12, t13⟩ := B1.out.cells
    clear hB B0
    go_wp2
    go_ret
    rw [HI.out, HK.out]
    exact ⟨rfl, B1.out.did.from HB.out⟩
  · have HI := Lib.hid (show commandI e.kind e.nk e.nh e.code = [(Nm.cmd_set, 1)] by unfold commandI; rw [h]; rfl)
    have HK := Lib.hid (show isCmd e.kind = true by rw [h]; rfl)
    have q1 : (e.kind == 1) = false := by rw [h]; rfl
    have q2 : (e.kind == 2) = false := by rw [h]; rfl
    have q3 : (e.kind == 3) = false := by rw [h]; rfl
    have q4 : (e.kind == 4) = false := by rw [h]; rfl
    have q10 : (e.kind == 10) = false := by rw [h]; rfl
    have q5 : (e.kind == 5) = false := by rw [h]; rfl
    have q6 : (e.kind == 6) = true := by rw [h]; rfl
    clear h
    go_wp2_with fail
    refine (more_b B0.out Nm.cmd_set 1 hc4 (by kernel_rfl) (by decide)).mono ?_
    rintro x w1 ⟨rfl, hB⟩
    have B1 := Aside0.mk hB
    obtain ⟨t0, t1, t2, t3, t4, t5, t6, t7, t8, t9, t10, t11, t12, t13⟩ := B1.out.cells
    clear hB B0
    go_wp2
    go_ret
    rw [HI.out, HK.out]
    exact ⟨rfl, B1.out.did.from HB.out⟩
  · have HI := Lib.hid (show commandI e.kind e.nk e.nh e.code = [(Nm.cmd_set, 1)] by unfold commandI; rw [h]; rfl)
    have HK := Lib.hid (show isCmd e.kind = true by rw [h]; rfl)
    have q1 : (e.kind == 1) = false := by rw [h]; rfl
    have q2 : (e.kind == 2) = false := by rw [h]; rfl
    have q3 : (e.kind == 3) = false := by rw [h]; rfl
    have q4 : (e.kind == 4) = false := by rw [h]; rfl
    have q10 : (e.kind == 10) = false := by rw [h]; rfl
    have q5 : (e.kind == 5) = false := by rw [h]; rfl
    have q6 : (e.kind == 6) = false := by rw [h]; rfl
    have q7 : (e.kind == 7) = true := by rw [h]; rfl
    clear h
    go_wp2_with fail
    refine (more_b B0.out Nm.cmd_set 1 hc4 (by kernel_rfl) (by decide)).mono ?_
    rintro x w1 ⟨rfl, hB⟩
    have B1 := Aside0.mk hB
    obtain ⟨t0, t1, t2, t3, t4, t5, t6, t7, t8, t9, t10, t11, t12, t13⟩ := B1.out.cells
    clear hB B0
    go_wp2
    go_ret
    rw [HI.out, HK.out]
    exact ⟨rfl, B1.out.did.from HB.out⟩
  · have HI := Lib.hid (show commandI e.kind e.nk e.nh e.code = [(Nm.cmd_set, 1)] by unfold commandI; rw [h]; rfl)
    have HK := Lib.hid (show isCmd e.kind = true by rw [h]; rfl)
    have q1 : (e.kind == 1) = false := by rw [h]; rfl
    have q2 : (e.kind == 2) = false := by rw [h]; rfl
    have q3 : (e.kind == 3) = false := by rw [h]; rfl
    have q4 : (e.kind == 4) = false := by rw [h]; rfl
    have q10 : (e.kind == 10) = false := by rw [h]; rfl
    have q5 : (e.kind == 5) = false := by rw [h]; rfl
    have q6 : (e.kind == 6) = false := by rw [h]; rfl
    have q7 : (e.kind == 7) = false := by rw [h]; rfl
    have q8 : (e.kind == 8) = true := by rw [h]; rfl
    clear h
    go_wp2_with fail
    refine (more_b B0.out Nm.cmd_set 1 hc4 (by kernel_rfl) (by decide)).mono ?_
    rintro x w1 ⟨rfl, hB⟩
    have B1 := Aside0.mk hB
    obtain ⟨t0, t1, t2, t3, t4, t5, t6, t7, t8, t9, t10, t11, t12, t13⟩ := B1.out.cells
    clear hB B0
    go_wp2
    go_ret
    rw [HI.out, HK.out]
    exact ⟨rfl, B1.out.did.from HB.out⟩
  · have HI := Lib.hid (show commandI e.kind e.nk e.nh e.code = [(Nm.cmd_set, 1)] by unfold commandI; rw [h]; rfl)
    have HK := Lib.hid (show isCmd e.kind = true by rw [h]; rfl)
    have q1 : (e.kind == 1) = false := by rw [h]; rfl
    have q2 : (e.kind == 2) = false := by rw [h]; rfl
    have q3 : (e.kind == 3) = false := by rw [h]; rfl
    have q4 : (e.kind == 4) = false := by rw [h]; rfl
    have q10 : (e.kind == 10) = false := by rw [h]; rfl
    have q5 : (e.kind == 5) = false := by rw [h]; rfl
    have q6 : (e.kind == 6) = false := by rw [h]; rfl
    have q7 : (e.kind == 7) = false := by rw [h]; rfl
    have q8 : (e.kind == 8) = false := by rw [h]; rfl
    have q9 : (e.kind == 9) = true := by rw [h]; rfl
    clear h
    go_wp2_with fail
    refine (more_b B0.out Nm.cmd_set 1 hc4 (by kernel_rfl) (by decide)).mono ?_
    rintro x w1 ⟨rfl, hB⟩
    have B1 := Aside0.mk hB
    obtain ⟨t0, t1, t2, t3, t4, t5, t6, t7, t8, t9, t10, t11, t12, t13⟩ := B1.out.cells
    clear hB B0
    go_wp2
    go_ret
    rw [HI.out, HK.out]
    exact ⟨rfl, B1.out.did.from HB.out⟩
  · have HI := Lib.hid (show commandI e.kind e.nk e.nh e.code = [(Nm.cmd_set, 1)] ++ foundI Wt.cas e.code 2 ++ if e.code = 4 then [(Nm.cas_badval, 1)] else [] by unfold commandI; rw [h]; rfl)
    have HK := Lib.hid (show isCmd e.kind = true by rw [h]; rfl)
    have q1 : (e.kind == 1) = false := by rw [h]; rfl
    have q2 : (e.kind == 2) = false := by rw [h]; rfl
    have q3 : (e.kind == 3) = false := by rw [h]; rfl
    have q4 : (e.kind == 4) = false := by rw [h]; rfl
    have q10 : (e.kind == 10) = true := by rw [h]; rfl
    clear h
    go_wp2_with fail
    refine (more_b B0.out Nm.cmd_set 1 hc4 (by kernel_rfl) (by decide)).mono ?_
    rintro x w1 ⟨rfl, hB⟩
    have B1 := Aside0.mk hB
    obtain ⟨t0, t1, t2, t3, t4, t5, t6, t7, t8, t9, t10, t11, t12, t13⟩ := B1.out.cells
    clear hB B0
    go_wp2_with fail
    refine (found_b B1.out Wt.cas e.code 2 hc1 (by decide) (by kernel_rfl) (by kernel_rfl)).mono ?_
    rintro x w2 ⟨rfl, hB⟩
    have B2 := Aside0.mk hB
    obtain ⟨t0, t1, t2, t3, t4, t5, t6, t7, t8, t9, t10, t11, t12, t13⟩ := B2.out.cells
    clear hB B1
    by_cases h4 : e.code = 4
    · have r4 : (e.code == 4) = true := beq_iff_eq.2 h4
      rw [if_pos h4] at HI
      clear h4
      go_wp2_with fail
      refine (more_b B2.out Nm.cas_badval 1 (hc3' e.code) (by kernel_rfl) (by decide)).mono ?_
      rintro x w3 ⟨rfl, hB⟩
      have B3 := Aside0.mk hB
      obtain ⟨t0, t1, t2, t3, t4, t5, t6, t7, t8, t9, t10, t11, t12, t13⟩ := B3.out.cells
      clear hB B2
      go_wp2
      go_ret
      rw [HI.out, HK.out]
      exact ⟨rfl, B3.out.did.from HB.out⟩
    · have r4 : (e.code == 4) = false := beq_eq_false_iff_ne.2 h4
      rw [if_neg h4, List.append_nil] at HI
      clear h4
      go_wp2
      go_ret
      rw [HI.out, HK.out]
      exact ⟨rfl, B2.out.did.from HB.out⟩
  · have HI := Lib.hid (show commandI e.kind e.nk e.nh e.code = foundI Wt.delete e.code 6 by unfold commandI; rw [h]; rfl)
    have HK := Lib.hid (show isCmd e.kind = true by rw [h]; rfl)
    have q1 : (e.kind == 1) = false := by rw [h]; rfl
    have q2 : (e.kind == 2) = false := by rw [h]; rfl
    have q3 : (e.kind == 3) = false := by rw [h]; rfl
    have q4 : (e.kind == 4) = false := by rw [h]; rfl
    have q10 : (e.kind == 10) = false := by rw [h]; rfl
    have q5 : (e.kind == 5) = false := by rw [h]; rfl
    have q6 : (e.kind == 6) = false := by rw [h]; rfl
    have q7 : (e.kind == 7) = false := by rw [h]; rfl
    have q8 : (e.kind == 8) = false := by rw [h]; rfl
    have q9 : (e.kind == 9) = false := by rw [h]; rfl
    have q11 : (e.kind == 11) = true := by rw [h]; rfl
    clear h
    go_wp2_with fail
    refine (found_b B0.out Wt.delete e.code 6 hc0 (by decide) (by kernel_rfl) (by kernel_rfl)).mono ?_
    rintro x w1 ⟨rfl, hB⟩
    have B1 := Aside0.mk hB
    obtain ⟨t0, t1, t2, t3, t4, t5, t6, t7, t8, t9, t10, t11, t12, t13⟩ := B1.out.cells
    clear hB B0
    go_wp2
    go_ret
    rw [HI.out, HK.out]
    exact ⟨rfl, B1.out.did.from HB.out⟩
  · have HI := Lib.hid (show commandI e.kind e.nk e.nh e.code = foundI Wt.incr e.code 7 by unfold commandI; rw [h]; rfl)
    have HK := Lib.hid (show isCmd e.kind = true by rw [h]; rfl)
    have q1 : (e.kind == 1) = false := by rw [h]; rfl
    have q2 : (e.kind == 2) = false := by rw [h]; rfl
    have q3 : (e.kind == 3) = false := by rw [h]; rfl
    have q4 : (e.kind == 4) = false := by rw [h]; rfl
    have q10 : (e.kind == 10) = false := by rw [h]; rfl
    have q5 : (e.kind == 5) = false := by rw [h]; rfl
    have q6 : (e.kind == 6) = false := by rw [h]; rfl
    have q7 : (e.kind == 7) = false := by rw [h]; rfl
    have q8 : (e.kind == 8) = false := by rw [h]; rfl
    have q9 : (e.kind == 9) = false := by rw [h]; rfl
    have q11 : (e.kind == 11) = false := by rw [h]; rfl
    have q12 : (e.kind == 12) = true := by rw [h]; rfl
    clear h
    go_wp2_with fail
    refine (found_b B0.out Wt.incr e.code 7 hc0 (by decide) (by kernel_rfl) (by kernel_rfl)).mono ?_
    rintro x w1 ⟨rfl, hB⟩
    have B1 := Aside0.mk hB
    obtain ⟨t0, t1, t2, t3, t4, t5, t6, t7, t8, t9, t10, t11, t12, t13⟩ := B1.out.cells
    clear hB B0
    go_wp2
    go_ret
    rw [HI.out, HK.out]
    exact ⟨rfl, B1.out.did.from HB.out⟩
  · have HI := Lib.hid (show commandI e.kind e.nk e.nh e.code = foundI Wt.decr e.code 7 by unfold commandI; rw [h]; rfl)
    have HK := Lib.hid (show isCmd e.kind = true by rw [h]; rfl)
    have q1 : (e.kind == 1) = false := by rw [h]; rfl
    have q2 : (e.kind == 2) = false := by rw [h]; rfl
    have q3 : (e.kind == 3) = false := by rw [h]; rfl
    have q4 : (e.kind == 4) = false := by rw [h]; rfl
    have q10 : (e.kind == 10) = false := by rw [h]; rfl
    have q5 : (e.kind == 5) = false := by rw [h]; rfl
    have q6 : (e.kind == 6) = false := by rw [h]; rfl
    have q7 : (e.kind == 7) = false := by rw [h]; rfl
    have q8 : (e.kind == 8) = false := by rw [h]; rfl
    have q9 : (e.kind == 9) = false := by rw [h]; rfl
    have q11 : (e.kind == 11) = false := by rw [h]; rfl
    have q12 : (e.kind == 12) = false := by rw [h]; rfl
    have q13 : (e.kind == 13) = true := by rw [h]; rfl
    clear h
    go_wp2_with fail
    refine (found_b B0.out Wt.decr e.code 7 hc0 (by decide) (by kernel_rfl) (by kernel_rfl)).mono ?_
    rintro x w1 ⟨rfl, hB⟩
    have B1 := Aside0.mk hB
    obtain ⟨t0, t1, t2, t3, t4, t5, t6, t7, t8, t9, t10, t11, t12, t13⟩ := B1.out.cells
    clear hB B0
    go_wp2
    go_ret
    rw [HI.out, HK.out]
    exact ⟨rfl, B1.out.did.from HB.out⟩
  · have HI := Lib.hid (show commandI e.kind e.nk e.nh e.code = [(Nm.cmd_touch, 1)] ++ foundI Wt.touch e.code 9 by unfold commandI; rw [h]; rfl)
    have HK := Lib.hid (show isCmd e.kind = true by rw [h]; rfl)
    have q1 : (e.kind == 1) = false := by rw [h]; rfl
    have q2 : (e.kind == 2) = false := by rw [h]; rfl
    have q3 : (e.kind == 3) = false := by rw [h]; rfl
    have q4 : (e.kind == 4) = false := by rw [h]; rfl
    have q10 : (e.kind == 10) = false := by rw [h]; rfl
    have q5 : (e.kind == 5) = false := by rw [h]; rfl
    have q6 : (e.kind == 6) = false := by rw [h]; rfl
    have q7 : (e.kind == 7) = false := by rw [h]; rfl
    have q8 : (e.kind == 8) = false := by rw [h]; rfl
    have q9 : (e.kind == 9) = false := by rw [h]; rfl
    have q11 : (e.kind == 11) = false := by rw [h]; rfl
    have q12 : (e.kind == 12) = false := by rw [h]; rfl
    have q13 : (e.kind == 13) = false := by rw [h]; rfl
    have q14 : (e.kind == 14) = true := by rw [h]; rfl
    clear h
    go_wp2_with fail
    refine (more_b B0.out Nm.cmd_touch 1 hc4 (by kernel_rfl) (by decide)).mono ?_
    rintro x w1 ⟨rfl, hB⟩
    have B1 := Aside0.mk hB
    obtain ⟨t0, t1, t2, t3, t4, t5, t6, t7, t8, t9, t10, t11, t12, t13⟩ := B1.out.cells
    clear hB B0
    go_wp2_with fail
    refine (found_b B1.out Wt.touch e.code 9 hc1 (by decide) (by kernel_rfl) (by kernel_rfl)).mono ?_
    rintro x w2 ⟨rfl, hB⟩
    have B2 := Aside0.mk hB
    obtain ⟨t0, t1, t2, t3, t4, t5, t6, t7, t8, t9, t10, t11, t12, t13⟩ := B2.out.cells
    clear hB B1
    go_wp2
    go_ret
    rw [HI.out, HK.out]
    exact ⟨rfl, B2.out.did.from HB.out⟩
  · have HI := Lib.hid (show commandI e.kind e.nk e.nh e.code = [(Nm.cmd_flush, 1)] by unfold commandI; rw [h]; rfl)
    have HK := Lib.hid (show isCmd e.kind = true by rw [h]; rfl)
    have q1 : (e.kind == 1) = false := by rw [h]; rfl
    have q2 : (e.kind == 2) = false := by rw [h]; rfl
    have q3 : (e.kind == 3) = false := by rw [h]; rfl
    have q4 : (e.kind == 4) = false := by rw [h]; rfl
    have q10 : (e.kind == 10) = false := by rw [h]; rfl
    have q5 : (e.kind == 5) = false := by rw [h]; rfl
    have q6 : (e.kind == 6) = false := by rw [h]; rfl
    have q7 : (e.kind == 7) = false := by rw [h]; rfl
    have q8 : (e.kind == 8) = false := by rw [h]; rfl
    have q9 : (e.kind == 9) = false := by rw [h]; rfl
    have q11 : (e.kind == 11) = false := by rw [h]; rfl
    have q12 : (e.kind == 12) = false := by rw [h]; rfl
    have q13 : (e.kind == 13) = false := by rw [h]; rfl
    have q14 : (e.kind == 14) = false := by rw [h]; rfl
    have q15 : (e.kind == 15) = true := by rw [h]; rfl
    clear h
    go_wp2_with fail
    refine (more_b B0.out Nm.cmd_flush 1 hc4 (by kernel_rfl) (by decide)).mono ?_
    rintro x w1 ⟨rfl, hB⟩
    have B1 := Aside0.mk hB
    obtain ⟨t0, t1, t2, t3, t4, t5, t6, t7, t8, t9, t10, t11, t12, t13⟩ := B1.out.cells
    clear hB B0
    go_wp2
    go_ret
    rw [HI.out, HK.out]
    exact ⟨rfl, B1.out.did.from HB.out⟩
  · have HI := Lib.hid (show commandI e.kind e.nk e.nh e.code = [] by unfold commandI; rw [if_neg (by omega), if_neg (by omega), if_neg (by omega), if_neg (by omega), if_neg (by omega), if_neg (by omega), if_neg (by omega), if_neg (by omega)])
    have HK := Lib.hid (show isCmd e.kind = false from decide_eq_false h)
    have q1 : (e.kind == 1) = false := beq_eq_false_iff_ne.2 (by omega)
    have q2 : (e.kind == 2) = false := beq_eq_false_iff_ne.2 (by omega)
    have q3 : (e.kind == 3) = false := beq_eq_false_iff_ne.2 (by omega)
    have q4 : (e.kind == 4) = false := beq_eq_false_iff_ne.2 (by omega)
    have q10 : (e.kind == 10) = false := beq_eq_false_iff_ne.2 (by omega)
    have q5 : (e.kind == 5) = false := beq_eq_false_iff_ne.2 (by omega)
    have q6 : (e.kind == 6) = false := beq_eq_false_iff_ne.2 (by omega)
    have q7 : (e.kind == 7) = false := beq_eq_false_iff_ne.2 (by omega)
    have q8 : (e.kind == 8) = false := beq_eq_false_iff_ne.2 (by omega)
    have q9 : (e.kind == 9) = false := beq_eq_false_iff_ne.2 (by omega)
    have q11 : (e.kind == 11) = false := beq_eq_false_iff_ne.2 (by omega)
    have q12 : (e.kind == 12) = false := beq_eq_false_iff_ne.2 (by omega)
    have q13 : (e.kind == 13) = false := beq_eq_false_iff_ne.2 (by omega)
    have q14 : (e.kind == 14) = false := beq_eq_false_iff_ne.2 (by omega)
    have q15 : (e.kind == 15) = false := beq_eq_false_iff_ne.2 (by omega)
    clear h
    go_wp2
    go_ret
    rw [HI.out, HK.out]
    exact ⟨rfl, B0.out.did.from HB.out⟩
end Go.Proofs.YteddljbdjgdlnaaDoor.St
end
section
namespace Go.Proofs.YteddljbdjgdlnaaDoor.St
open Go.RowKit Go.Proofs.YteddljbdjgdlnaaDoorW.PrintWords Go.Proofs.YteddljbdjgdlnaaDoorW.PrintLast Go.Proofs.YteddljbdjgdlnaaDoorW.PrintMore Go.WideMaps Go.Proofs.YteddljbdjgdlnaaDoor.XSb
set_option linter.unusedVariables false
set_option linter.unusedSimpArgs false
attribute [local go_sem ↓] Go.wp_at_zero Go.wp_at_succ
def codeI (code : Int) : Inc := if code = 3 then [(Nm.not_stored, 1)] else if code = 12 then [(Nm.too_large, 1)] else if code = 11 then [(Nm.no_memory, 1)] else if code = 8 then [(Nm.no_number, 1)] else []
def tellI (kind code : Int) : Inc := if isCmd kind = true then codeI code else []
def whyI (y : Int) : Inc := if y = 1 then [(Nm.evictions, 1)] else if y = 2 then [(Nm.moved, 1)] else if y = 3 then [(Nm.failed, 1)] else []
theorem why_len (y : Int) : (whyI y).length ≤ 1 := by
  unfold whyI
  repeat' split
  all_goals simp
theorem whys_len : ∀ l : List Int, (l.flatMap whyI).length ≤ l.length
  | [] => Nat.le_refl 0
  | y :: l => by
    rw [List.flatMap_cons, List.length_append, List.length_cons]
    have := why_len y
    have := whys_len l
    omega
theorem tell_len (kind code : Int) : (tellI kind code).length ≤ 1 := by
  unfold tellI codeI
  repeat' split
  all_goals simp
def noteI (kind nk nh code : Int) (whys : List Int) : Inc := commandI kind nk nh code ++ tellI kind code ++ whys.flatMap whyI
theorem note_len (kind nk nh code : Int) (whys : List Int) : (noteI kind nk nh code whys).length ≤ 6 + whys.length := by
  unfold noteI
  rw [List.length_append, List.length_append]
  have := command_len kind nk nh code
  have := tell_len kind code
  have := whys_len whys
  omega
def DropsAt (w : World) (g b : Nat) (A : Option Addr) (whys : List Int) : Prop := ∀ (j : Nat) y, whys[j]? = some y → ∃ ad key, A = some ad ∧ ad.block ≠ g ∧ ad.block ≠ b ∧ w.cell? (ad.add (j * 2)) = some (.string key) ∧ w.cell? ⟨(ad.add (j * 2)).block, (ad.add (j * 2)).off + 1, none⟩ = some (.int .i64 y)
theorem DropsAt.below {w w' : World} {g b : Nat} {A : Option Addr} {l : List Int} (h : DropsAt w g b A l) (hb : Below w.heap.size w w') : DropsAt w' g b A l := fun j y hy => by
  obtain ⟨ad, key, e, h1, h2, h3, h4⟩ := h j y hy
  exact ⟨ad, key, e, h1, h2, keepC hb h3, keepC hb h4⟩
theorem DropsAt.mov {w w' : World} {g b : Nat} {A : Option Addr} {l : List Int} (h : DropsAt w g b A l) (m : Mut g b w w') : DropsAt w' g b A l := fun j y hy => by
  obtain ⟨ad, key, e, h1, h2, h3, h4⟩ := h j y hy
  exact ⟨ad, key, e, h1, h2, m.cell h3 (by rw [add_block]; exact h1) (by rw [add_block]; exact h2), m.cell h4 (by rw [add_block]; exact h1) (by rw [add_block]; exact h2)⟩
theorem command_b {W0 w : World} {g b c : Nat} {f : Figs} {l : Inc} {T : Nat} {e : Ev} (h : Bx W0 w g b c f l T e) (e' : Ev) (hc : c + l.length + 1000 < maxLen) (hk : e'.nk ≤ maxLen) (hh : e'.nh ≤ maxLen) :
    Calls Tryd.prog 65 #[.pointer (some ⟨g, 0, none⟩), .agg e'.cells] w fun x w' => x = .returned (.bool (isCmd e'.kind)) ∧ Bx W0 w' g b c f (l ++ commandI e'.kind e'.nk e'.nh e'.code) T e ∧ Mut g b w w' :=
  (command_calls w g b _ _ e' h.did.at_ hc hk hh).mono fun e w' h' => ⟨h'.1, h.then h'.2, h'.2.mov⟩
theorem more_m {W0 w : World} {g b c : Nat} {f : Figs} {l : Inc} {T : Nat} {e : Ev} (h : Bx W0 w g b c f l T e) (s : ByteArray) (n : Int) (hc : c + l.length < maxLen) (hin : has s nm24 = true) (hn : n ≤ 9223372036854775807) :
    Calls Tryd.prog 66 #[.pointer (some ⟨g, 0, none⟩), .string s, .int .i64 n] w fun x w' => x = .returned (.tuple #[]) ∧ Bx W0 w' g b c f (l ++ [(s, n)]) T e ∧ Mut g b w w' :=
  (more_d (Did.start h.did.at_) s n hc hin hn).mono fun e w' h' => ⟨h'.1, h.then h'.2, h'.2.mov⟩
theorem take_flat {l : List Int} {j : Nat} {y : Int} (h : l[j]? = some y) : (l.take (j + 1)).flatMap whyI = (l.take j).flatMap whyI ++ whyI y := by
  rw [List.take_add_one, h, List.flatMap_append]
  simp
set_option maxHeartbeats 16000000 in
set_option maxRecDepth 100000 in
theorem Note_calls (w : World) (g b c : Nat) (f : Figs) (e : Ev) (whys : List Int) (hA : At w g b c nm24 f) (hl : whys.length = e.nd) (hD : DropsAt w g b e.da whys) (hc : c + 2000 + whys.length < maxLen) (hk : e.nk ≤ maxLen) (hh : e.nh ≤ maxLen) :
    Calls Tryd.prog 35 #[.pointer (some ⟨g, 0, none⟩), .agg e.cells] w fun x w' => x = .returned (.tuple #[]) ∧ Did w w' g b c f (noteI e.kind e.nk e.nh e.code whys) := by
  have B0 := Aside0.mk (Bx.start hA e)
  have HB := Aside0.mk ((Below.refl w.heap.size w).alloc (Nat.le_refl _) (.cells e.cells 99))
  have HD := Aside0.mk (hD.below HB.out)
  obtain ⟨t0, t1, t2, t3, t4, t5, t6, t7, t8, t9, t10, t11, t12, t13⟩ := B0.out.cells
  have hndm : (e.nd : Int) ≤ 9223372036854775807 := by unfold maxLen at hc; omega
  have HL := Lib.hid hl
  clear hA hD hl
  unfold Ev.cells
  go_enter Tryd.func35, Tryd.ntmps35
  go_upto_region 1 with fail
  change Code.wp _ _ _ _ (w.alloc (.cells e.cells 99))
  obtain ⟨W0, hW0⟩ : ∃ W0, W0 = w.alloc (.cells e.cells 99) := ⟨_, rfl⟩
  obtain ⟨T, hT⟩ : ∃ T, T = w.heap.size := ⟨_, rfl⟩
  rw [← hW0] at B0 HB HD t0 t1 t2 t3 t4 t5 t6 t7 t8 t9 t10 t11 t12 t13 ⊢
  rw [← hT] at B0 t0 t1 t2 t3 t4 t5 t6 t7 t8 t9 t10 t11 t12 t13 ⊢
  clear hW0 hT
  go_wp2_with fail
  refine (command_b B0.out e (by simp; omega) hk hh).mono ?_
  rintro x w1 ⟨rfl, hB, hM⟩
  have B1 := Aside0.mk hB
  have HD1 := Aside0.mk (HD.out.mov hM)
  clear hB hM t0 t1 t2 t3 t4 t5 t6 t7 t8 t9 t10 t11 t12 t13 HD B0
  go_upto_if 8 with fail
  go_cut [8] (fun v8 wc => Aside0 (Bx W0 wc g b c f ([] ++ commandI e.kind e.nk e.nh e.code ++ tellI e.kind e.code) T e) ∧ Aside0 (DropsAt wc g b e.da whys))
  case first =>
    obtain ⟨t0, t1, t2, t3, t4, t5, t6, t7, t8, t9, t10, t11, t12, t13⟩ := B1.out.cells
    cases hq : isCmd e.kind with
    | false =>
      have HI := Lib.hid (show tellI e.kind e.code = [] by unfold tellI; rw [hq]; rfl)
      clear hq
      go_wp2_with fail
      go_meet
      case rel =>
        rw [HI.out, List.append_nil]
        exact ⟨B1, HD1⟩
    | true =>
      have HI := Lib.hid (show tellI e.kind e.code = codeI e.code by unfold tellI; rw [hq]; rfl)
      clear hq
      have hcase : e.code = 3 ∨ e.code = 12 ∨ e.code = 11 ∨ e.code = 8 ∨ ¬ (e.code = 3 ∨ e.code = 12 ∨ e.code = 11 ∨ e.code = 8) := by omega
      have hcl : c + ([] ++ commandI e.kind e.nk e.nh e.code).length < maxLen := by have := command_len e.kind e.nk e.nh e.code; rw [List.nil_append]; omega
      rcases hcase with h | h | h | h | h
      · have HJ := Lib.hid (show codeI e.code = [(Nm.not_stored, 1)] by unfold codeI; rw [h]; rfl)
        have q3 : (e.code == 3) = true := by rw [h]; rfl
        clear h
        go_wp2_with fail
        refine (more_m B1.out Nm.not_stored 1 hcl (by kernel_rfl) (by decide)).mono ?_
        rintro x w2 ⟨rfl, hB, hM⟩
        have B2 := Aside0.mk hB
        have HD2 := Aside0.mk (HD1.out.mov hM)
        clear hB hM t0 t1 t2 t3 t4 t5 t6 t7 t8 t9 t10 t11 t12 t13
        go_wp2_with fail
        go_meet
        case rel =>
          rw [HI.out, HJ.out]
          exact ⟨B2, HD2⟩
      · have HJ := Lib.hid (show codeI e.code = [(Nm.too_large, 1)] by unfold codeI; rw [h]; rfl)
        have q3 : (e.code == 3) = false := by rw [h]; rfl
        have q12 : (e.code == 12) = true := by rw [h]; rfl
        clear h
        go_wp2_with fail
        refine (more_m B1.out Nm.too_large 1 hcl (by kernel_rfl) (by decide)).mono ?_
        rintro x w2 ⟨rfl, hB, hM⟩
        have B2 := Aside0.mk hB
        have HD2 := Aside0.mk (HD1.out.mov hM)
        clear hB hM t0 t1 t2 t3 t4 t5 t6 t7 t8 t9 t10 t11 t12 t13
        go_wp2_with fail
        go_meet
        case rel =>
          rw [HI.out, HJ.out]
          exact ⟨B2, HD2⟩
      · have HJ := Lib.hid (show codeI e.code = [(Nm.no_memory, 1)] by unfold codeI; rw [h]; rfl)
        have q3 : (e.code == 3) = false := by rw [h]; rfl
        have q12 : (e.code == 12) = false := by rw [h]; rfl
        have q11 : (e.code == 11) = true := by rw [h]; rfl
        clear h
        go_wp2_with fail
        refine (more_m B1.out Nm.no_memory 1 hcl (by kernel_rfl) (by decide)).mono ?_
        rintro x w2 ⟨rfl, hB, hM⟩
        have B2 := Aside0.mk hB
        have HD2 := Aside0.mk (HD1.out.mov hM)
        clear hB hM t0 t1 t2 t3 t4 t5 t6 t7 t8 t9 t10 t11 t12 t13
        go_wp2_with fail
        go_meet
        case rel =>
          rw [HI.out, HJ.out]
          exact ⟨B2, HD2⟩
      · have HJ := Lib.hid (show codeI e.code = [(Nm.no_number, 1)] by unfold codeI; rw [h]; rfl)
        have q3 : (e.code == 3) = false := by rw [h]; rfl
        have q12 : (e.code == 12) = false := by rw [h]; rfl
        have q11 : (e.code == 11) = false := by rw [h]; rfl
        have q8 : (e.code == 8) = true := by rw [h]; rfl
        clear h
        go_wp2_with fail
        refine (more_m B1.out Nm.no_number 1 hcl (by kernel_rfl) (by decide)).mono ?_
        rintro x w2 ⟨rfl, hB, hM⟩
        have B2 := Aside0.mk hB
        have HD2 := Aside0.mk (HD1.out.mov hM)
        clear hB hM t0 t1 t2 t3 t4 t5 t6 t7 t8 t9 t10 t11 t12 t13
        go_wp2_with fail
        go_meet
        case rel =>
          rw [HI.out, HJ.out]
          exact ⟨B2, HD2⟩
      · have HJ := Lib.hid (show codeI e.code = [] by unfold codeI; rw [if_neg (by omega), if_neg (by omega), if_neg (by omega), if_neg (by omega)])
        have q3 : (e.code == 3) = false := beq_eq_false_iff_ne.2 (by omega)
        have q12 : (e.code == 12) = false := beq_eq_false_iff_ne.2 (by omega)
        have q11 : (e.code == 11) = false := beq_eq_false_iff_ne.2 (by omega)
        have q8 : (e.code == 8) = false := beq_eq_false_iff_ne.2 (by omega)
        clear h
        go_wp2_with fail
        go_meet
        case rel =>
          rw [HI.out, HJ.out, List.append_nil]
          exact ⟨B1, HD1⟩
  case rest =>
    obtain ⟨B2, HD2⟩ := hcut
    clear B1 HD1
    obtain ⟨base, hbase⟩ : ∃ base, base = [] ++ commandI e.kind e.nk e.nh e.code ++ tellI e.kind e.code := ⟨_, rfl⟩
    have hbl : base.length ≤ 6 := by
      have := command_len e.kind e.nk e.nh e.code
      have := tell_len e.kind e.code
      rw [hbase, List.nil_append, List.length_append]
      omega
    have HBASE := Lib.hid hbase
    rw [← hbase] at B2
    clear hbase
    obtain ⟨t0, t1, t2, t3, t4, t5, t6, t7, t8, t9, t10, t11, t12, t13⟩ := B2.out.cells
    have B2' : Aside0 (Bx W0 wc g b c f (base ++ (whys.take 0).flatMap whyI) T e) := ⟨by rw [List.take_zero, List.flatMap_nil, List.append_nil]; exact B2.out⟩
    clear t0 t1 t2 t3 t4 t5 t6 t7 t8 t9 t10 t11 t12 B2
    obtain ⟨A, hda⟩ : ∃ A, A = e.da := ⟨_, rfl⟩
    rw [← hda] at t13 HD2 ⊢
    have HDA := Lib.hid hda
    clear hda
    go_wp2_with fail
    go_loopg [31] e.nd (fun gg v31 wr => ∃ (j : Nat), v31 = .int .i64 j ∧ j ≤ e.nd ∧ e.nd - j ≤ gg ∧ Aside0 (Bx W0 wr g b c f (base ++ (whys.take j).flatMap whyI) T e) ∧ Aside0 (DropsAt wr g b A whys))
    case atStart => exact ⟨0, rfl, Nat.zero_le _, by omega, B2', HD2⟩
    case round =>
      clear B2' HD2 t13
      obtain ⟨j, rfl, hj, hgj, BR, HDR⟩ := hrel
      by_cases hlt : j < e.nd
      · have hji : (j : Int) < (e.nd : Int) := by omega
        obtain ⟨y, hy⟩ : ∃ y, whys[j]? = some y := ⟨_, List.getElem?_eq_getElem (by rw [HL.out]; exact hlt)⟩
        obtain ⟨ad, key, rfl, hn1, hn2, k0, k1⟩ := HDR.out j y hy
        have HFL := Lib.hid (take_flat hy)
        have hcl : c + (base ++ (whys.take j).flatMap whyI).length < maxLen := by
          have := whys_len (whys.take j)
          have h2 : (whys.take j).length ≤ whys.length := List.length_take_le' _ _
          rw [List.length_append]
          omega
        have hcase : y = 1 ∨ y = 2 ∨ y = 3 ∨ ¬ (y = 1 ∨ y = 2 ∨ y = 3) := by omega
        have hal := Aside0.mk ((Below.refl wr.heap.size wr).alloc (Nat.le_refl _) (.cells #[.string key, .int .i64 y] 144))
        have BA := Aside0.mk (BR.out.below hal.out)
        have HDA2 := Aside0.mk (HDR.out.below hal.out)
        clear hy BR HDR
        rcases hcase with h | h | h | h
        · have HJ := Lib.hid (show whyI y = [(Nm.evictions, 1)] by unfold whyI; rw [h]; rfl)
          have q1 : (y == 1) = true := by rw [h]; rfl
          clear h
          go_wp2_with fail
          refine (more_m BA.out Nm.evictions 1 hcl (by kernel_rfl) (by decide)).mono ?_
          rintro x w2 ⟨rfl, hB, hM⟩
          have BN : Aside0 (Bx W0 w2 g b c f (base ++ (whys.take (j + 1)).flatMap whyI) T e) := ⟨by rw [HFL.out, HJ.out, ← List.append_assoc]; exact hB⟩
          have HDN := Aside0.mk (HDA2.out.mov hM)
          clear hB hM k0 k1 BA HDA2
          go_wp2
          go_roundg (e.nd - (j + 1))
          case measure => omega
          case rel => exact ⟨j + 1, by go_num, by omega, by omega, BN, HDN⟩
        · have HJ := Lib.hid (show whyI y = [(Nm.moved, 1)] by unfold whyI; rw [h]; rfl)
          have q1 : (y == 1) = false := by rw [h]; rfl
          have q2 : (y == 2) = true := by rw [h]; rfl
          clear h
          go_wp2_with fail
          refine (more_m BA.out Nm.moved 1 hcl (by kernel_rfl) (by decide)).mono ?_
          rintro x w2 ⟨rfl, hB, hM⟩
          have BN : Aside0 (Bx W0 w2 g b c f (base ++ (whys.take (j + 1)).flatMap whyI) T e) := ⟨by rw [HFL.out, HJ.out, ← List.append_assoc]; exact hB⟩
          have HDN := Aside0.mk (HDA2.out.mov hM)
          clear hB hM k0 k1 BA HDA2
          go_wp2
          go_roundg (e.nd - (j + 1))
          case measure => omega
          case rel => exact ⟨j + 1, by go_num, by omega, by omega, BN, HDN⟩
        · have HJ := Lib.hid (show whyI y = [(Nm.failed, 1)] by unfold whyI; rw [h]; rfl)
          have q1 : (y == 1) = false := by rw [h]; rfl
          have q2 : (y == 2) = false := by rw [h]; rfl
          have q3 : (y == 3) = true := by rw [h]; rfl
          clear h
          go_wp2_with fail
          refine (more_m BA.out Nm.failed 1 hcl (by kernel_rfl) (by decide)).mono ?_
          rintro x w2 ⟨rfl, hB, hM⟩
          have BN : Aside0 (Bx W0 w2 g b c f (base ++ (whys.take (j + 1)).flatMap whyI) T e) := ⟨by rw [HFL.out, HJ.out, ← List.append_assoc]; exact hB⟩
          have HDN := Aside0.mk (HDA2.out.mov hM)
          clear hB hM k0 k1 BA HDA2
          go_wp2
          go_roundg (e.nd - (j + 1))
          case measure => omega
          case rel => exact ⟨j + 1, by go_num, by omega, by omega, BN, HDN⟩
        · have HJ := Lib.hid (show whyI y = [] by unfold whyI; rw [if_neg (by omega), if_neg (by omega), if_neg (by omega)])
          have q1 : (y == 1) = false := beq_eq_false_iff_ne.2 (by omega)
          have q2 : (y == 2) = false := beq_eq_false_iff_ne.2 (by omega)
          have q3 : (y == 3) = false := beq_eq_false_iff_ne.2 (by omega)
          have BN : Aside0 (Bx W0 (wr.alloc (.cells #[.string key, .int .i64 y] 144)) g b c f (base ++ (whys.take (j + 1)).flatMap whyI) T e) := ⟨by rw [HFL.out, HJ.out, List.append_nil]; exact BA.out⟩
          clear h
          go_wp2
          go_roundg (e.nd - (j + 1))
          case measure => omega
          case rel => exact ⟨j + 1, by go_num, by omega, by omega, BN, HDA2⟩
      · have hji : ¬ (j : Int) < (e.nd : Int) := by omega
        have hjn : j = e.nd := by omega
        have hfin : base ++ (whys.take j).flatMap whyI = noteI e.kind e.nk e.nh e.code whys := by
          rw [List.take_of_length_le (by rw [HL.out]; omega), HBASE.out]
          rfl
        have HFIN := Lib.hid hfin
        clear hfin
        go_wp2
        go_end0
        rw [← HFIN.out]
        exact ⟨rfl, BR.out.did.from HB.out⟩
end Go.Proofs.YteddljbdjgdlnaaDoor.St
end
section
namespace Go.Proofs.YteddljbdjgdlnaaDoor.Text
open Go

theorem ib_hit (c : UInt8) (r : List UInt8) : ∀ x : List UInt8, c ∉ x → Lib.indexByte (x ++ c :: r) c = (x.length : Int)
  | [], _ => by simp [Lib.indexByte]
  | b :: x, h => by
    have h1 : b ≠ c := fun e => h (by rw [e]; exact List.mem_cons_self)
    have h2 := ib_hit c r x (fun hm => h (List.mem_cons_of_mem _ hm))
    show Lib.indexByte (b :: (x ++ c :: r)) c = _
    unfold Lib.indexByte
    rw [if_neg (by simpa using h1), h2, if_neg (by simp)]
    simp
theorem ib_miss (c : UInt8) : ∀ x : List UInt8, c ∉ x → Lib.indexByte x c = -1
  | [], _ => rfl
  | b :: x, h => by
    have h1 : b ≠ c := fun e => h (by rw [e]; exact List.mem_cons_self)
    have h2 := ib_miss c x (fun hm => h (List.mem_cons_of_mem _ hm))
    unfold Lib.indexByte
    rw [if_neg (by simpa using h1), h2]
    rfl
theorem split_join (c : UInt8) : ∀ (r : List (List UInt8)) (x : List UInt8), (∀ y ∈ x :: r, c ∉ y) → Lib.splitK [c] 0 (Lib.count (Lib.join (x :: r) [c]) [c]) (Lib.join (x :: r) [c]) = x :: r
  | [], x, h => by
    have hi : Lib.index x [c] = -1 := by rw [Lib.index_one]; exact ib_miss c x (h x List.mem_cons_self)
    rw [Lib.join_one, Lib.count_miss hi]
    rfl
  | y :: r, x, h => by
    have ih := split_join c r y (fun z hz => h z (List.mem_cons_of_mem _ hz))
    have hj : Lib.join (x :: y :: r) [c] = x ++ c :: Lib.join (y :: r) [c] := by
      rw [Lib.join_cons, Lib.join_cons]
      simp [Lib.joinTail]
    have hi : Lib.index (x ++ c :: Lib.join (y :: r) [c]) [c] = (x.length : Int) := by rw [Lib.index_one]; exact ib_hit c _ x (h x List.mem_cons_self)
    have hd : (x ++ c :: Lib.join (y :: r) [c]).drop (x.length + [c].length) = Lib.join (y :: r) [c] := by
      rw [List.length_singleton, List.drop_append, List.drop_of_length_le (by omega)]
      simp
    rw [hj, Lib.count_hit (by simp) hi, hd, Nat.add_comm]
    have hm : ¬ (Lib.index (x ++ c :: Lib.join (y :: r) [c]) [c] == -1) = true := by rw [hi]; simp
    rw [Lib.splitK, if_neg hm, hi]
    rw [show ((x.length : Int)).toNat = x.length from Int.toNat_natCast _, hd, ih]
    simp
theorem map_data_inj : ∀ (a b : List ByteArray), a.map (·.data.toList) = b.map (·.data.toList) → a = b
  | [], [], _ => rfl
  | [], _ :: _, h => by cases h
  | _ :: _, [], h => by cases h
  | x :: a, y :: b, h => by
    simp only [List.map_cons, List.cons.injEq] at h
    have e : x = y := by
      obtain ⟨x⟩ := x
      obtain ⟨y⟩ := y
      congr 1
      exact Array.toList_inj.1 h.1
    rw [e, map_data_inj a b h.2]
theorem splitB_join (x : ByteArray) (r : List ByteArray) (h : ∀ y ∈ x :: r, (32 : UInt8) ∉ y.data.toList) :
    Lib.splitB ⟨#[32]⟩ 0 (Lib.countB ⟨(Lib.join ((x :: r).map (·.data.toList)) [32]).toArray⟩ ⟨#[32]⟩) ⟨(Lib.join ((x :: r).map (·.data.toList)) [32]).toArray⟩ = x :: r := by
  apply map_data_inj
  rw [Lib.splitB_data]
  show Lib.splitK [32] 0 (Lib.count (Lib.join ((x :: r).map (·.data.toList)) [32]).toArray.toList [32]) (Lib.join ((x :: r).map (·.data.toList)) [32]).toArray.toList = _
  rw [List.toList_toArray, List.map_cons]
  refine split_join 32 _ _ (fun y hy => ?_)
  have hy' : y ∈ (x :: r).map (fun z : ByteArray => z.data.toList) := hy
  obtain ⟨z, hz, rfl⟩ := List.mem_map.1 hy'
  exact h z hz
theorem parse_snoc (M : Nat) (c : UInt8) (hc : 48 ≤ c.toNat ∧ c.toNat ≤ 57) : ∀ (l : List UInt8) (acc u : Nat), Lib.parseUintM M acc l = .ok u → u < 1844674407370955162 → u * 10 + (c.toNat - 48) ≤ M → Lib.parseUintM M acc (l ++ [c]) = .ok (u * 10 + (c.toNat - 48))
  | [], acc, u, h, h1, h2 => by
    obtain rfl : acc = u := by simpa [Lib.parseUintM] using h
    show Lib.parseUintM M acc [c] = _
    unfold Lib.parseUintM
    rw [if_pos hc, if_neg (by omega), if_neg (by omega)]
    rfl
  | b :: l, acc, u, h, h1, h2 => by
    show Lib.parseUintM M acc (b :: (l ++ [c])) = _
    unfold Lib.parseUintM at h ⊢
    split at h
    · rename_i hb
      rw [if_pos hb]
      split at h
      · cases h
      · rename_i ha
        rw [if_neg ha]
        split at h
        · cases h
        · rename_i hm
          rw [if_neg hm]
          exact parse_snoc M c hc l _ u h h1 h2
    · cases h
theorem dec_small (u : Nat) (h : u < 10) : Lib.decDigits u = [UInt8.ofNat (48 + u)] := by rw [Lib.decDigits, dif_pos h]
theorem dec_big (u : Nat) (h : ¬ u < 10) : Lib.decDigits u = Lib.decDigits (u / 10) ++ [UInt8.ofNat (48 + u % 10)] := by rw [Lib.decDigits, dif_neg h]
theorem dig_toNat (d : Nat) (h : d < 10) : (UInt8.ofNat (48 + d)).toNat = 48 + d := by
  show (48 + d) % 256 = 48 + d
  omega
theorem dec_parse : ∀ (n u : Nat), u < n → u < 18446744073709551616 → Lib.parseUintM 18446744073709551615 0 (Lib.decDigits u) = .ok u
  | 0, u, h, _ => absurd h (by omega)
  | n + 1, u, h, hu => by
    by_cases h10 : u < 10
    · rw [dec_small u h10]
      unfold Lib.parseUintM
      rw [dig_toNat u h10, if_pos (by omega), if_neg (by omega), if_neg (by omega)]
      show Lib.NumEnd.ok _ = Lib.NumEnd.ok _
      congr 1
      omega
    · rw [dec_big u h10]
      have ih := dec_parse n (u / 10) (by omega) (by omega)
      have hd := dig_toNat (u % 10) (by omega)
      rw [parse_snoc _ (UInt8.ofNat (48 + u % 10)) (by rw [hd]; omega) _ _ _ ih (by omega) (by rw [hd]; omega), hd]
      congr 1
      omega
theorem dec_dig : ∀ (n u : Nat), u < n → ∀ c ∈ Lib.decDigits u, 48 ≤ c.toNat ∧ c.toNat ≤ 57
  | 0, u, h => absurd h (by omega)
  | n + 1, u, h => by
    intro c hc
    by_cases h10 : u < 10
    · rw [dec_small u h10] at hc
      obtain rfl := List.mem_singleton.1 hc
      rw [dig_toNat u h10]
      omega
    · rw [dec_big u h10] at hc
      rcases List.mem_append.1 hc with hc | hc
      · exact dec_dig n (u / 10) (by omega) c hc
      · obtain rfl := List.mem_singleton.1 hc
        rw [dig_toNat _ (by omega)]
        omega
theorem dec_ne (u : Nat) : Lib.decDigits u ≠ [] := by
  by_cases h10 : u < 10
  · rw [dec_small u h10]; simp
  · rw [dec_big u h10]; simp
theorem dec_len : ∀ (k u : Nat), u < 10 ^ (k + 1) → (Lib.decDigits u).length ≤ k + 1
  | 0, u, h => by rw [dec_small u (by simpa using h)]; simp
  | k + 1, u, h => by
    by_cases h10 : u < 10
    · rw [dec_small u h10]; simp
    · rw [dec_big u h10, List.length_append, List.length_singleton]
      have := dec_len k (u / 10) (by rw [Nat.pow_succ] at h; omega)
      omega
end Go.Proofs.YteddljbdjgdlnaaDoor.Text
end
section
namespace Go.Proofs.YteddljbdjgdlnaaDoor.St
open Go.RowKit Go.Proofs.YteddljbdjgdlnaaDoorW.PrintWords Go.Proofs.YteddljbdjgdlnaaDoorW.PrintLast Go.Proofs.YteddljbdjgdlnaaDoorW.PrintMore Go.WideMaps Go.Proofs.YteddljbdjgdlnaaDoor.XSb
set_option linter.unusedVariables false
set_option linter.unusedSimpArgs false
attribute [local go_sem ↓] Go.wp_at_zero Go.wp_at_succ
noncomputable def dec (n : Int) : ByteArray := ⟨(Lib.decDigits n.toNat).toArray⟩
theorem dec_is {n : Int} (h0 : 0 ≤ n) (h1 : n < 18446744073709551616) : digits_Text.f n = some (dec n) := by
  unfold digits_Text.f strconv_FormatUint_68.f strconv_FormatUint_86.f
  rw [if_pos ⟨h0, h1, rfl⟩]
  rfl
def Okf (f : Figs) : Prop := ∀ s, 0 ≤ f s ∧ f s < 18446744073709551616
theorem ok_zero : Okf (fun _ => 0) := fun _ => ⟨Int.le_refl 0, show (0 : Int) < 18446744073709551616 by decide⟩
theorem ok_add {f : Figs} (h : Okf f) (s : ByteArray) (n : Int) : Okf (addF f s n) := fun x => by
  unfold addF upd
  by_cases e : x = s
  · rw [if_pos e]
    have h0 := Int.emod_nonneg (f s + (if 0 < n then n else 0)) (show (18446744073709551616 : Int) ≠ 0 by decide)
    have h1 := Int.emod_lt_of_pos (f s + (if 0 < n then n else 0)) (show (0 : Int) < 18446744073709551616 by decide)
    exact ⟨h0, h1⟩
  · rw [if_neg e]
    exact h x
theorem ok_app {l : Inc} : ∀ {f : Figs}, Okf f → Okf (app f l) := by
  induction l with
  | nil => exact fun h => h
  | cons p l ih => exact fun h => ih (ok_add h p.1 p.2)
noncomputable def genL (f : Figs) (l : List ByteArray) : List S83 := l.map fun s => ⟨s, dec (f s)⟩
theorem gen_next {f : Figs} {j : Nat} {s : ByteArray} (h : nm24[j]? = some s) : genL f (nm24.take (j + 1)) = genL f (nm24.take j) ++ [⟨s, dec (f s)⟩] := by
  unfold genL
  rw [List.take_add_one, h, List.map_append]
  rfl
theorem nm_has {j : Nat} {s : ByteArray} (h : nm24[j]? = some s) : has s nm24 = true := mem_has (List.mem_of_getElem? h)
theorem val_in {f : Figs} {j : Nat} {s : ByteArray} (h : nm24[j]? = some s) : valF nm24 f s = f s := if_pos (nm_has h)
structure Gn (w wr : World) (f : Figs) (j : Nat) (v : Value) (ad : Addr) : Prop where
  row : Kd.R k83 83 wr w.heap.size (fun _ => True) v (genL f (nm24.take j))
  bel : Below w.heap.size w wr
  names : Names wr ad
  away : w.heap.size ≤ ad.block
  kept : ∀ k, v.ownBlock = some k → k ≠ ad.block
set_option maxHeartbeats 8000000 in
set_option maxRecDepth 100000 in
theorem General_calls (w : World) (g b c : Nat) (f : Figs) (hv : Vars w) (hA : At w g b c nm24 f) (hf : Okf f) :
    Calls Tryd.prog 14 #[.pointer (some ⟨g, 0, none⟩)] w fun e w' => ∃ v, e = .returned v ∧ Kd.R k83 83 w' w.heap.size (fun _ => True) v (genL f nm24) ∧ Below w.heap.size w w' := by
  have HV := Aside0.mk hv
  have HA := Aside0.mk hA
  have HF := Aside0.mk hf
  clear hv hA hf
  go_enter Tryd.func14, Tryd.ntmps14
  go_wp2_with fail
  refine (names_c w).mono ?_
  rintro e w1 ⟨ad, c1, rfl, hc1, had, hN, hb1⟩
  have G0 : Aside0 (Gn w w1 f 0 (.slice none 0 0) ad) := ⟨⟨Kd.R_nil _ _ _ _ _, hb1, hN, had, fun k hk => by cases hk⟩⟩
  clear hN hb1 had
  go_wp2_with fail
  go_loopg [3, 8] 24 (fun gg v3 v8 wr => ∃ (j : Nat), v8 = .int .i64 j ∧ j ≤ 24 ∧ 24 - j ≤ gg ∧ Aside0 (Gn w wr f j v3 ad))
  case atStart => exact ⟨0, rfl, Nat.zero_le _, by omega, G0⟩
  case round =>
    clear G0
    obtain ⟨j, rfl, hj, hgj, GR⟩ := hrel
    by_cases hlt : j < 24
    · have hji : (j : Int) < 24 := by omega
      obtain ⟨s, hs⟩ := nm_at hlt
      have hcell := GR.out.names j s hs
      have HAr := HA.out.below GR.out.bel
      have g0 := HAr.gcell
      have hlook := HAr.look (nm_small hs)
      rw [val_in hs] at hlook
      have HS := Lib.hid hs
      have hf0 := (HF.out s).1
      have hf1 := (HF.out s).2
      clear hs HAr
      go_wp2_with fail
      refine (digits_Text.calls (f s) (dec (f s)) wr (HV.out.below GR.out.bel) (dec_is hf0 hf1)).mono ?_
      rintro e w2 ⟨rfl, hb2⟩
      have hB2 : Below w.heap.size w w2 := GR.out.bel.trans (hb2.mono GR.out.bel.size)
      have HR2 := Aside0.mk (Kd.R_below GR.out.row hb2)
      have HB2 := Aside0.mk hB2
      have HN2 := Aside0.mk (GR.out.names.below hb2)
      have had2 : ad.block < w2.heap.size := by
        have h := World.block_lt_of_cell? _ _ (HN2.out 0 _ rfl)
        rw [add_block] at h
        exact h
      have HKEPT := Aside0.mk GR.out.kept
      have HAWAY := Aside0.mk GR.out.away
      clear hb2 hB2 hlook g0 hcell GR
      go_wp2_with (at_builtin; refine Kd.R_append k83 (w0 := w) w.heap.size (by rfl) (.tmp 12) (.tmp 22) 47 83 (.agg #[(.string ⟨#[]⟩), (.string ⟨#[]⟩)]) 32 rfl Tryd.underlying47 info83 rfl (by decide) (by omega) u3 (genL f (nm24.take j)) (⟨s, dec (f s)⟩ : S83) [.string s, .string (dec (f s))] (fun _ => True) (fun _ => False) rfl rfl ?aP (fun _ hk => hk.elim) ?aF ?aO ?aB ?aS ?aL ?_)
      case aP => exact k83_mkM _ _ _ (⟨s, dec (f s)⟩ : S83)
      case aF => exact fun _ _ => trivial
      case aO => exact HR2.out
      case aB => exact HB2.out
      case aS => exact HB2.out.size
      case aL =>
        have : (genL f (nm24.take j)).length ≤ 24 := by unfold genL; rw [List.length_map, List.length_take]; exact Nat.le_trans (Nat.min_le_left _ _) (by omega)
        omega
      intro v1 w3 ho hb3 hg3 hat
      have hN3 : Names w3 ad := fun i x hx => by
        have h := HN2.out i x hx
        exact (World.cell?_of_block (hg3.block _ (World.block_lt_of_cell? _ _ h) (fun e => HKEPT.out _ e.symm (add_block ad i)))).trans h
      have hkept3 : ∀ k, v1.ownBlock = some k → k ≠ ad.block := fun k hk e => by
        rcases hat with h | ⟨q, h, hq⟩
        · exact HKEPT.out k (h.symm.trans hk) e
        · rw [h] at hk
          injection hk with hk
          omega
      have GN : Aside0 (Gn w w3 f (j + 1) v1 ad) := ⟨⟨by rw [gen_next HS.out]; exact ho, hb3, hN3, HAWAY.out, hkept3⟩⟩
      clear ho hb3 hg3 hat hN3 hkept3 HR2 HB2 HN2 HKEPT had2
      go_wp2
      go_roundg (24 - (j + 1))
      case measure => omega
      case rel => exact ⟨j + 1, by go_num, by omega, by omega, GN⟩
    · have hji : ¬ (j : Int) < 24 := by omega
      obtain rfl : j = 24 := by omega
      go_wp2
      go_ret
      exact ⟨_, rfl, GR.out.row, GR.out.bel⟩
structure Two (w wr : World) (g b c g' b' c' : Nat) (f h : Figs) : Prop where
  one : At wr g b c nm24 f
  two : At wr g' b' c' nm24 h
  mov : Mut g b w wr
def addsF (f h : Figs) (l : List ByteArray) : Figs := fun s => if has s l = true then (f s + h s) % 18446744073709551616 else f s
theorem adds_next {f h : Figs} {j : Nat} {s : ByteArray} (hs : nm24[j]? = some s) (hn : has s (nm24.take j) = false) : upd (addsF f h (nm24.take j)) s ((addsF f h (nm24.take j) s + h s) % 18446744073709551616) = addsF f h (nm24.take (j + 1)) := by
  funext x
  unfold upd addsF
  rw [take_next hs, hn]
  by_cases e : x = s
  · rw [if_pos e, e, has_same, if_neg Bool.false_ne_true, if_pos rfl]
  · rw [if_neg e, has_other e]
theorem nm_new : ∀ j : Nat, j < 24 → ∀ s, nm24[j]? = some s → has s (nm24.take j) = false := by
  have h : ((List.range 24).all fun j => match nm24[j]? with | some s => !has s (nm24.take j) | none => true) = true := by kernel_rfl
  intro j hj s hs
  have h2 := List.all_eq_true.1 h j (List.mem_range.2 hj)
  rw [hs] at h2
  simpa using h2
end Go.Proofs.YteddljbdjgdlnaaDoor.St
end
section
namespace Go.Proofs.YteddljbdjgdlnaaDoor.St
open Go.RowKit Go.Proofs.YteddljbdjgdlnaaDoorW.PrintWords Go.Proofs.YteddljbdjgdlnaaDoorW.PrintLast Go.Proofs.YteddljbdjgdlnaaDoorW.PrintMore Go.WideMaps Go.Proofs.YteddljbdjgdlnaaDoor.XSb
set_option linter.unusedVariables false
set_option linter.unusedSimpArgs false
attribute [local go_sem ↓] Go.wp_at_zero Go.wp_at_succ
structure Step (I : Nat → World → Prop) (g b g' b' : Nat) : Prop where
  turn : ∀ j s wr, I j wr → nm24[j]? = some s → wr.cell? ⟨g, 0, none⟩ = some (.map (some b)) ∧ wr.cell? ⟨g', 0, none⟩ = some (.map (some b')) ∧ ∃ x y,
    (Instr.lookup 87 (.map (some b)) (.string s) false).run Tryd.prog wr = .ok (.int .u64 x) wr ∧ (Instr.lookup 87 (.map (some b')) (.string s) false).run Tryd.prog wr = .ok (.int .u64 y) wr ∧
    ∃ w', (Instr.mapUpdate 87 (.map (some b)) (.string s) (.int .u64 ((x + y) % 18446744073709551616))).run Tryd.prog wr = .ok () w' ∧ I (j + 1) w' ∧ Mut g b wr w'
  drew : ∀ j wr, I j wr → I j wr.drew
set_option maxHeartbeats 8000000 in
set_option maxRecDepth 100000 in
theorem Add_walk (w : World) (g b g' b' : Nat) (I : Nat → World → Prop) (hI : Step I g b g' b') (h0 : ∀ w1, Below w.heap.size w w1 → I 0 w1) (hg : g < w.heap.size) (hb : b < w.heap.size) :
    Calls Tryd.prog 30 #[.pointer (some ⟨g, 0, none⟩), .pointer (some ⟨g', 0, none⟩)] w fun e w' => e = .returned (.tuple #[]) ∧ I 24 w' ∧ Mut g b w w' := by
  have HI := Aside0.mk hI
  have H0 := Aside0.mk h0
  clear hI h0
  go_enter Tryd.func30, Tryd.ntmps30
  go_wp2_with fail
  refine (names_c w).mono ?_
  rintro e w1 ⟨ad, c1, rfl, hc1, had, hN, hb1⟩
  have I1 : Aside0 (I 0 w1 ∧ Mut g b w w1 ∧ Names w1 ad) := ⟨H0.out w1 hb1, Mut.of_below hb1, hN⟩
  have n1 : ad.block ≠ g := by omega
  have n2 : ad.block ≠ b := by omega
  clear hN hb1 had H0
  go_wp2_with fail
  go_loopg [8] 24 (fun gg v8 wr => ∃ (j : Nat), v8 = .int .i64 j ∧ j ≤ 24 ∧ 24 - j ≤ gg ∧ Aside0 (I j wr ∧ Mut g b w wr ∧ Names wr ad))
  case atStart => exact ⟨0, rfl, Nat.zero_le _, by omega, I1⟩
  case round =>
    clear I1
    obtain ⟨j, rfl, hj, hgj, IR⟩ := hrel
    by_cases hlt : j < 24
    · have hji : (j : Int) < 24 := by omega
      obtain ⟨s, hs⟩ := nm_at hlt
      have hcell := IR.out.2.2 j s hs
      obtain ⟨g0, g1, x, y, hl1, hl2, w', hput, hI', hM'⟩ := HI.out.turn j s wr.drew (HI.out.drew j wr IR.out.1) hs
      have hxy : IntKind.u64.wrap (x + y) = (x + y) % 18446744073709551616 := by rw [IntKind.wrap_u64]
      have IN : Aside0 (I (j + 1) w' ∧ Mut g b w w' ∧ Names w' ad) := ⟨hI', IR.out.2.1.drew.trans hM', (show Names wr.drew ad from IR.out.2.2).mut hM' n1 n2⟩
      have g0' : wr.cell? ⟨g, 0, none⟩ = some (.map (some b)) := g0
      have g1' : wr.cell? ⟨g', 0, none⟩ = some (.map (some b')) := g1
      clear hs hI' hM' IR g0 g1
      go_upto_region 3 with fail
      go_region
      go_wp2
      go_roundg (24 - (j + 1))
      case measure => omega
      case rel => exact ⟨j + 1, by go_num, by omega, by omega, IN⟩
    · have hji : ¬ (j : Int) < 24 := by omega
      obtain rfl : j = 24 := by omega
      go_wp2
      go_end0
      exact ⟨rfl, IR.out.1, IR.out.2.1⟩
theorem adds_at {f h : Figs} {j : Nat} {s : ByteArray} (hn : has s (nm24.take j) = false) : addsF f h (nm24.take j) s = f s := by
  unfold addsF
  rw [if_neg (by rw [hn]; exact Bool.false_ne_true)]
theorem At.set {w : World} {g b c : Nat} {f : Figs} (h : At w g b c nm24 f) (hc : c < maxLen) {j : Nat} {s : ByteArray} (hs : nm24[j]? = some s) (n : Int) :
    ∃ w', (Instr.mapUpdate 87 (.map (some b)) (.string s) (.int .u64 n)).run Tryd.prog w = .ok () w' ∧ At w' g b (c + 1) nm24 (upd f s n) ∧ Mut g b w w' := by
  obtain ⟨w', h1, h2, h3⟩ := h.put hc (nm_small hs) n
  refine ⟨w', h1, h2.eq (fun y => ?_) (fun _ _ => rfl), h3⟩
  by_cases e : y = s
  · rw [e, has_same, nm_has hs]
  · rw [has_other e]
theorem Add_other (w : World) (g b c g' b' c' : Nat) (f h : Figs) (hA : At w g b c nm24 f) (hA' : At w g' b' c' nm24 h) (hc : c + 24 < maxLen) (h1 : g' ≠ g) (h2 : g' ≠ b) (h3 : b' ≠ g) (h4 : b' ≠ b) :
    Calls Tryd.prog 30 #[.pointer (some ⟨g, 0, none⟩), .pointer (some ⟨g', 0, none⟩)] w fun e w' => e = .returned (.tuple #[]) ∧ (At w' g b (c + 24) nm24 (addsF f h nm24) ∧ At w' g' b' c' nm24 h) ∧ Mut g b w w' := by
  refine Add_walk w g b g' b' (fun j wr => At wr g b (c + j) nm24 (addsF f h (nm24.take j)) ∧ At wr g' b' c' nm24 h) ⟨fun j s wr hI hs => ?_, fun j wr hI => ⟨hI.1.drew, hI.2.drew⟩⟩ (fun w1 hb => ⟨(hA.below hb).eq (fun _ => rfl) (fun s _ => by unfold addsF; rw [if_neg (by simp [has])]), hA'.below hb⟩) hA.lt hA.ltb
  have hj : j < 24 := (List.getElem?_eq_some_iff.1 hs).1
  have hn := nm_new j hj s hs
  have l1 := hI.1.look (nm_small hs)
  have l2 := hI.2.look (nm_small hs)
  rw [val_in hs] at l1 l2
  obtain ⟨w', hp, hA2, hM⟩ := hI.1.set (by omega) hs ((addsF f h (nm24.take j) s + h s) % 18446744073709551616)
  rw [adds_next hs hn] at hA2
  exact ⟨hI.1.gcell, hI.2.gcell, _, _, l1, l2, w', hp, ⟨hA2, hI.2.mut hM h1 h2 h3 h4⟩, hM⟩
theorem Add_self (w : World) (g b c : Nat) (f : Figs) (hA : At w g b c nm24 f) (hc : c + 24 < maxLen) :
    Calls Tryd.prog 30 #[.pointer (some ⟨g, 0, none⟩), .pointer (some ⟨g, 0, none⟩)] w fun e w' => e = .returned (.tuple #[]) ∧ At w' g b (c + 24) nm24 (addsF f f nm24) ∧ Mut g b w w' := by
  refine Add_walk w g b g b (fun j wr => At wr g b (c + j) nm24 (addsF f f (nm24.take j))) ⟨fun j s wr hI hs => ?_, fun j wr hI => hI.drew⟩ (fun w1 hb => (hA.below hb).eq (fun _ => rfl) (fun s _ => by unfold addsF; rw [if_neg (by simp [has])])) hA.lt hA.ltb
  have hj : j < 24 := (List.getElem?_eq_some_iff.1 hs).1
  have hn := nm_new j hj s hs
  have l1 := hI.look (nm_small hs)
  rw [val_in hs] at l1
  obtain ⟨w', hp, hA2, hM⟩ := hI.set (by omega) hs ((addsF f f (nm24.take j) s + addsF f f (nm24.take j) s) % 18446744073709551616)
  have e : upd (addsF f f (nm24.take j)) s ((addsF f f (nm24.take j) s + addsF f f (nm24.take j) s) % 18446744073709551616) = addsF f f (nm24.take (j + 1)) := by
    rw [← adds_next hs hn, adds_at hn]
  rw [e] at hA2
  exact ⟨hI.gcell, hI.gcell, _, _, l1, l1, w', hp, hA2, hM⟩
end Go.Proofs.YteddljbdjgdlnaaDoor.St
end
section
namespace Go.Proofs.YteddljbdjgdlnaaDoor.St
open Go.RowKit Go.Proofs.YteddljbdjgdlnaaDoorW.PrintWords Go.Proofs.YteddljbdjgdlnaaDoorW.PrintLast Go.Proofs.YteddljbdjgdlnaaDoorW.PrintMore Go.WideMaps Go.Proofs.YteddljbdjgdlnaaDoor.XSb
set_option linter.unusedVariables false
set_option linter.unusedSimpArgs false
attribute [local go_sem ↓] Go.wp_at_zero Go.wp_at_succ
abbrev X := S42
abbrev Y := S99
def toY : X → Y := tallboylaw25_To.ev
def toD : S104 → S144 := tallboylaw25_To.drop
def toH : S141 → S135 := tallboylaw25_To.hit
theorem own_is (x : S36) (h : x.f1.length < 8796093022208) : tallboylaw15_Own.f x.f0 x.f1 x.f2 x.f3 x.f4 x.f5 x.f6 x.f7 = some (x.f0, x.f1, x.f2, x.f3, x.f4, x.f5, x.f6, x.f7) := by
  unfold tallboylaw15_Own.f
  simp only [Option.bind_some, List.length_nil, Nat.zero_add, List.nil_append]
  rw [if_pos (by omega)]
theorem to18_loop (code n : Int) (hits : List S141) (hl : hits.length ≤ 2932031007317) : ∀ (d i : Nat), i + d = hits.length → ∀ k, d < k →
    tallboylaw18_To.l0 k (i : Int) code hits n code ((hits.take i).map toH) n = some (code, hits.map toH, n)
  | 0, i, hi, k, hk => by
    obtain ⟨k, rfl⟩ : ∃ m, k = m + 1 := ⟨k - 1, by omega⟩
    unfold tallboylaw18_To.l0
    rw [if_neg (by omega), List.take_of_length_le (by omega)]
  | d + 1, i, hi, k, hk => by
    obtain ⟨k, rfl⟩ : ∃ m, k = m + 1 := ⟨k - 1, by omega⟩
    unfold tallboylaw18_To.l0
    have hlt : i < hits.length := by omega
    rw [if_pos (by omega), if_pos (by omega), if_pos (by rw [List.length_map, List.length_take]; omega)]
    rw [show wrap64 ((i : Int) + 1) = ((i + 1 : Nat) : Int) from by unfold wrap64; omega]
    have e : (hits.take i).map toH ++ [(⟨(rd_T141 hits (i : Int)).f0, (rd_T141 hits (i : Int)).f1, (rd_T141 hits (i : Int)).f2, (rd_T141 hits (i : Int)).f3⟩ : S135)] = (hits.take (i + 1)).map toH := by
      have hr : rd_T141 hits (i : Int) = hits[i] := by
        unfold rd_T141
        rw [Int.toNat_natCast, List.getD_eq_getElem?_getD, List.getElem?_eq_getElem hlt]; rfl
      rw [hr, List.take_add_one, List.getElem?_eq_getElem hlt, List.map_append]
      rfl
    rw [e]
    exact to18_loop code n hits hl d (i + 1) (by omega) k (by omega)
theorem to18_is (x : S39) (hl : x.f1.length ≤ 2932031007317) : tallboylaw18_To.f (x.f1.length + 1) x.f0 x.f1 x.f2 = some (x.f0, x.f1.map toH, x.f2) :=
  to18_loop x.f0 x.f2 x.f1 hl x.f1.length 0 (by omega) _ (by omega)
theorem set14 {w : World} {T : Nat} {x0 x1 x2 x3 x4 x5 x6 x7 x8 x9 x10 x11 x12 x13 a0 a1 a2 a3 a4 a5 a6 a7 a8 a9 a10 a11 a12 a13 : Value} {t : TypeId} (h : w.heap[T]? = some (.cells #[x0, x1, x2, x3, x4, x5, x6, x7, x8, x9, x10, x11, x12, x13] t)) : ((((((((((((((w.setCell ⟨T, 0, none⟩ a0).setCell ⟨T, 1, none⟩ a1).setCell ⟨T, 2, none⟩ a2).setCell ⟨T, 3, none⟩ a3).setCell ⟨T, 4, none⟩ a4).setCell ⟨T, 5, none⟩ a5).setCell ⟨T, 6, none⟩ a6).setCell ⟨T, 7, none⟩ a7).setCell ⟨T, 8, none⟩ a8).setCell ⟨T, 9, none⟩ a9).setCell ⟨T, 10, none⟩ a10).setCell ⟨T, 11, none⟩ a11).setCell ⟨T, 12, none⟩ a12).setCell ⟨T, 13, none⟩ a13).heap[T]? = some (.cells #[a0, a1, a2, a3, a4, a5, a6, a7, a8, a9, a10, a11, a12, a13] t) := by
  have h1 : (w.setCell ⟨T, 0, none⟩ a0).heap[T]? = some (.cells #[a0, x1, x2, x3, x4, x5, x6, x7, x8, x9, x10, x11, x12, x13] t) := Lib.heap_setCell_same (i := 0) h a0
  have h2 : ((w.setCell ⟨T, 0, none⟩ a0).setCell ⟨T, 1, none⟩ a1).heap[T]? = some (.cells #[a0, a1, x2, x3, x4, x5, x6, x7, x8, x9, x10, x11, x12, x13] t) := Lib.heap_setCell_same (i := 1) h1 a1
  have h3 : (((w.setCell ⟨T, 0, none⟩ a0).setCell ⟨T, 1, none⟩ a1).setCell ⟨T, 2, none⟩ a2).heap[T]? = some (.cells #[a0, a1, a2, x3, x4, x5, x6, x7, x8, x9, x10, x11, x12, x13] t) := Lib.heap_setCell_same (i := 2) h2 a2
  have h4 : ((((w.setCell ⟨T, 0, none⟩ a0).setCell ⟨T, 1, none⟩ a1).setCell ⟨T, 2, none⟩ a2).setCell ⟨T, 3, none⟩ a3).heap[T]? = some (.cells #[a0, a1, a2, a3, x4, x5, x6, x7, x8, x9, x10, x11, x12, x13] t) := Lib.heap_setCell_same (i := 3) h3 a3
  have h5 : (((((w.setCell ⟨T, 0, none⟩ a0).setCell ⟨T, 1, none⟩ a1).setCell ⟨T, 2, none⟩ a2).setCell ⟨T, 3, none⟩ a3).setCell ⟨T, 4, none⟩ a4).heap[T]? = some (.cells #[a0, a1, a2, a3, a4, x5, x6, x7, x8, x9, x10, x11, x12, x13] t) := Lib.heap_setCell_same (i := 4) h4 a4
  have h6 : ((((((w.setCell ⟨T, 0, none⟩ a0).setCell ⟨T, 1, none⟩ a1).setCell ⟨T, 2, none⟩ a2).setCell ⟨T, 3, none⟩ a3).setCell ⟨T, 4, none⟩ a4).setCell ⟨T, 5, none⟩ a5).heap[T]? = some (.cells #[a0, a1, a2, a3, a4, a5, x6, x7, x8, x9, x10, x11, x12, x13] t) := Lib.heap_setCell_same (i := 5) h5 a5
  have h7 : (((((((w.setCell ⟨T, 0, none⟩ a0).setCell ⟨T, 1, none⟩ a1).setCell ⟨T, 2, none⟩ a2).setCell ⟨T, 3, none⟩ a3).setCell ⟨T, 4, none⟩ a4).setCell ⟨T, 5, none⟩ a5).setCell ⟨T, 6, none⟩ a6).heap[T]? = some (.cells #[a0, a1, a2, a3, a4, a5, a6, x7, x8, x9, x10, x11, x12, x13] t) := Lib.heap_setCell_same (i := 6) h6 a6
  have h8 : ((((((((w.setCell ⟨T, 0, none⟩ a0).setCell ⟨T, 1, none⟩ a1).setCell ⟨T, 2, none⟩ a2).setCell ⟨T, 3, none⟩ a3).setCell ⟨T, 4, none⟩ a4).setCell ⟨T, 5, none⟩ a5).setCell ⟨T, 6, none⟩ a6).setCell ⟨T, 7, none⟩ a7).heap[T]? = some (.cells #[a0, a1, a2, a3, a4, a5, a6, a7, x8, x9, x10, x11, x12, x13] t) := Lib.heap_setCell_same (i := 7) h7 a7
  have h9 : (((((((((w.setCell ⟨T, 0, none⟩ a0).setCell ⟨T, 1, none⟩ a1).setCell ⟨T, 2, none⟩ a2).setCell ⟨T, 3, none⟩ a3).setCell ⟨T, 4, none⟩ a4).setCell ⟨T, 5, none⟩ a5).setCell ⟨T, 6, none⟩ a6).setCell ⟨T, 7, none⟩ a7).setCell ⟨T, 8, none⟩ a8).heap[T]? = some (.cells #[a0, a1, a2, a3, a4, a5, a6, a7, a8, x9, x10, x11, x12, x13] t) := Lib.heap_setCell_same (i := 8) h8 a8
  have h10 : ((((((((((w.setCell ⟨T, 0, none⟩ a0).setCell ⟨T, 1, none⟩ a1).setCell ⟨T, 2, none⟩ a2).setCell ⟨T, 3, none⟩ a3).setCell ⟨T, 4, none⟩ a4).setCell ⟨T, 5, none⟩ a5).setCell ⟨T, 6, none⟩ a6).setCell ⟨T, 7, none⟩ a7).setCell ⟨T, 8, none⟩ a8).setCell ⟨T, 9, none⟩ a9).heap[T]? = some (.cells #[a0, a1, a2, a3, a4, a5, a6, a7, a8, a9, x10, x11, x12, x13] t) := Lib.heap_setCell_same (i := 9) h9 a9
  have h11 : (((((((((((w.setCell ⟨T, 0, none⟩ a0).setCell ⟨T, 1, none⟩ a1).setCell ⟨T, 2, none⟩ a2).setCell ⟨T, 3, none⟩ a3).setCell ⟨T, 4, none⟩ a4).setCell ⟨T, 5, none⟩ a5).setCell ⟨T, 6, none⟩ a6).setCell ⟨T, 7, none⟩ a7).setCell ⟨T, 8, none⟩ a8).setCell ⟨T, 9, none⟩ a9).setCell ⟨T, 10, none⟩ a10).heap[T]? = some (.cells #[a0, a1, a2, a3, a4, a5, a6, a7, a8, a9, a10, x11, x12, x13] t) := Lib.heap_setCell_same (i := 10) h10 a10
  have h12 : ((((((((((((w.setCell ⟨T, 0, none⟩ a0).setCell ⟨T, 1, none⟩ a1).setCell ⟨T, 2, none⟩ a2).setCell ⟨T, 3, none⟩ a3).setCell ⟨T, 4, none⟩ a4).setCell ⟨T, 5, none⟩ a5).setCell ⟨T, 6, none⟩ a6).setCell ⟨T, 7, none⟩ a7).setCell ⟨T, 8, none⟩ a8).setCell ⟨T, 9, none⟩ a9).setCell ⟨T, 10, none⟩ a10).setCell ⟨T, 11, none⟩ a11).heap[T]? = some (.cells #[a0, a1, a2, a3, a4, a5, a6, a7, a8, a9, a10, a11, x12, x13] t) := Lib.heap_setCell_same (i := 11) h11 a11
  have h13 : (((((((((((((w.setCell ⟨T, 0, none⟩ a0).setCell ⟨T, 1, none⟩ a1).setCell ⟨T, 2, none⟩ a2).setCell ⟨T, 3, none⟩ a3).setCell ⟨T, 4, none⟩ a4).setCell ⟨T, 5, none⟩ a5).setCell ⟨T, 6, none⟩ a6).setCell ⟨T, 7, none⟩ a7).setCell ⟨T, 8, none⟩ a8).setCell ⟨T, 9, none⟩ a9).setCell ⟨T, 10, none⟩ a10).setCell ⟨T, 11, none⟩ a11).setCell ⟨T, 12, none⟩ a12).heap[T]? = some (.cells #[a0, a1, a2, a3, a4, a5, a6, a7, a8, a9, a10, a11, a12, x13] t) := Lib.heap_setCell_same (i := 12) h12 a12
  have h14 : ((((((((((((((w.setCell ⟨T, 0, none⟩ a0).setCell ⟨T, 1, none⟩ a1).setCell ⟨T, 2, none⟩ a2).setCell ⟨T, 3, none⟩ a3).setCell ⟨T, 4, none⟩ a4).setCell ⟨T, 5, none⟩ a5).setCell ⟨T, 6, none⟩ a6).setCell ⟨T, 7, none⟩ a7).setCell ⟨T, 8, none⟩ a8).setCell ⟨T, 9, none⟩ a9).setCell ⟨T, 10, none⟩ a10).setCell ⟨T, 11, none⟩ a11).setCell ⟨T, 12, none⟩ a12).setCell ⟨T, 13, none⟩ a13).heap[T]? = some (.cells #[a0, a1, a2, a3, a4, a5, a6, a7, a8, a9, a10, a11, a12, a13] t) := Lib.heap_setCell_same (i := 13) h13 a13
  exact h14
theorem far14 {w : World} {T : Nat} {a0 a1 a2 a3 a4 a5 a6 a7 a8 a9 a10 a11 a12 a13 : Value} {k : Nat} (h : k ≠ T) : ((((((((((((((w.setCell ⟨T, 0, none⟩ a0).setCell ⟨T, 1, none⟩ a1).setCell ⟨T, 2, none⟩ a2).setCell ⟨T, 3, none⟩ a3).setCell ⟨T, 4, none⟩ a4).setCell ⟨T, 5, none⟩ a5).setCell ⟨T, 6, none⟩ a6).setCell ⟨T, 7, none⟩ a7).setCell ⟨T, 8, none⟩ a8).setCell ⟨T, 9, none⟩ a9).setCell ⟨T, 10, none⟩ a10).setCell ⟨T, 11, none⟩ a11).setCell ⟨T, 12, none⟩ a12).setCell ⟨T, 13, none⟩ a13).heap[k]? = w.heap[k]? :=
  (Below.heap_setCell _ _ _ k h).trans ((Below.heap_setCell _ _ _ k h).trans ((Below.heap_setCell _ _ _ k h).trans ((Below.heap_setCell _ _ _ k h).trans ((Below.heap_setCell _ _ _ k h).trans ((Below.heap_setCell _ _ _ k h).trans ((Below.heap_setCell _ _ _ k h).trans ((Below.heap_setCell _ _ _ k h).trans ((Below.heap_setCell _ _ _ k h).trans ((Below.heap_setCell _ _ _ k h).trans ((Below.heap_setCell _ _ _ k h).trans ((Below.heap_setCell _ _ _ k h).trans ((Below.heap_setCell _ _ _ k h).trans (Below.heap_setCell _ _ _ k h)))))))))))))
theorem below14 {w0 w : World} {B T : Nat} {a0 a1 a2 a3 a4 a5 a6 a7 a8 a9 a10 a11 a12 a13 : Value} (h : Below B w0 w) (hT : B ≤ T) : Below B w0 ((((((((((((((w.setCell ⟨T, 0, none⟩ a0).setCell ⟨T, 1, none⟩ a1).setCell ⟨T, 2, none⟩ a2).setCell ⟨T, 3, none⟩ a3).setCell ⟨T, 4, none⟩ a4).setCell ⟨T, 5, none⟩ a5).setCell ⟨T, 6, none⟩ a6).setCell ⟨T, 7, none⟩ a7).setCell ⟨T, 8, none⟩ a8).setCell ⟨T, 9, none⟩ a9).setCell ⟨T, 10, none⟩ a10).setCell ⟨T, 11, none⟩ a11).setCell ⟨T, 12, none⟩ a12).setCell ⟨T, 13, none⟩ a13) :=
  (((((((((((((h.setCell hT _).setCell hT _).setCell hT _).setCell hT _).setCell hT _).setCell hT _).setCell hT _).setCell hT _).setCell hT _).setCell hT _).setCell hT _).setCell hT _).setCell hT _).setCell hT _
theorem R_up {α : Type} {d : Kd α} {e : Nat} {w : World} {b0 b1 : Nat} {v : Value} {xs : List α} (h : d.R e w b1 (fun _ => True) v xs) (hb : b0 ≤ b1) : d.R e w b0 (fun k => b0 ≤ k) v xs :=
  Kd.R_lower (Kd.R_mono (Kd.R_bound h) (fun k hk => Nat.le_trans hb hk.2.1)) hb
theorem R_new {α : Type} {d : Kd α} {e : Nat} {w : World} {b0 : Nat} {v : Value} {xs : List α} (h : d.R e w b0 (fun k => b0 ≤ k) v xs) (o : Obj) : d.R e (w.alloc o) b0 (fun k => b0 ≤ k ∧ k ≠ w.heap.size) v xs :=
  Kd.R_step (Kd.R_mono (Kd.R_bound h) (fun k hk => ⟨hk.1, by have := hk.2.2.1; omega⟩)) (fun k _ hk => Below.heap_alloc w o k hk)
theorem R_away {α : Type} {d : Kd α} {e : Nat} {w : World} {b0 T : Nat} {ok : Nat → Prop} {v : Value} {xs : List α} {cs : Array Value} {t : TypeId} (h : d.R e w b0 ok v xs) (hT : w.heap[T]? = some (.cells cs t)) (ht : t ∉ e :: d.E) : d.R e w b0 (fun k => ok k ∧ k ≠ T) v xs :=
  Kd.R_mono (Kd.R_bound h) (fun k hk => ⟨hk.1, fun e0 => by
    obtain ⟨_, _, _, q, hq, cs2, hc⟩ := hk
    rw [e0, hT] at hc
    injection hc with hc
    injection hc with _ hc
    exact ht (hc ▸ hq)⟩)
theorem R_put {α : Type} {d : Kd α} {e : Nat} {w : World} {b0 T : Nat} {v : Value} {xs : List α} {cs : Array Value} {t : TypeId} {a0 a1 a2 a3 a4 a5 a6 a7 a8 a9 a10 a11 a12 a13 : Value} (h : d.R e w b0 (fun k => b0 ≤ k) v xs) (hT : w.heap[T]? = some (.cells cs t)) (ht : t ∉ e :: d.E) : d.R e ((((((((((((((w.setCell ⟨T, 0, none⟩ a0).setCell ⟨T, 1, none⟩ a1).setCell ⟨T, 2, none⟩ a2).setCell ⟨T, 3, none⟩ a3).setCell ⟨T, 4, none⟩ a4).setCell ⟨T, 5, none⟩ a5).setCell ⟨T, 6, none⟩ a6).setCell ⟨T, 7, none⟩ a7).setCell ⟨T, 8, none⟩ a8).setCell ⟨T, 9, none⟩ a9).setCell ⟨T, 10, none⟩ a10).setCell ⟨T, 11, none⟩ a11).setCell ⟨T, 12, none⟩ a12).setCell ⟨T, 13, none⟩ a13) b0 (fun k => b0 ≤ k ∧ k ≠ T) v xs :=
  Kd.R_step (R_away h hT ht) (fun k hk _ => far14 hk.2)
abbrev evC (x : X) (v2 v11 v13 : Value) : Array Value := #[.int .i64 x.f0, .int .i64 x.f1.f0, v2, .int .u32 x.f1.f2, .int .i64 x.f1.f3, .string x.f1.f4, .int .u64 x.f1.f5, .int .u64 x.f1.f6, .bool x.f1.f7, .int .i64 x.f2, .int .i64 x.f3.f0, v11, .int .u64 x.f3.f2, v13]
structure Ue (w0 w : World) (x : X) (T : Nat) (v2 v11 v13 : Value) (ds : List S144) : Prop where
  box : w.heap[T]? = some (.cells (evC x v2 v11 v13) 99)
  hT : w0.heap.size ≤ T
  keys : Kd.string.R 9 w w0.heap.size (fun k => w0.heap.size ≤ k ∧ k ≠ T) v2 x.f1.f1
  hits : k135.R 135 w w0.heap.size (fun k => w0.heap.size ≤ k ∧ k ≠ T) v11 (x.f3.f1.map toH)
  drops : k144.R 144 w w0.heap.size (fun k => w0.heap.size ≤ k ∧ k ≠ T) v13 ds
  bel : Below w0.heap.size w0 w
theorem ue_new {wr w : World} {x : X} {v2 v11 : Value} (R2 : Kd.string.R 9 w wr.heap.size (fun k => wr.heap.size ≤ k) v2 x.f1.f1) (R11 : k135.R 135 w wr.heap.size (fun k => wr.heap.size ≤ k) v11 (x.f3.f1.map toH)) (B : Below wr.heap.size wr w) :
    Ue wr (w.alloc (.cells #[Value.int .i64 x.f0, .int .i64 x.f1.f0, v2, .int .u32 x.f1.f2, .int .i64 x.f1.f3, .string x.f1.f4, .int .u64 x.f1.f5, .int .u64 x.f1.f6, .bool x.f1.f7, .int .i64 x.f2, .int .i64 x.f3.f0, v11, .int .u64 x.f3.f2, .slice none 0 0] 99)) x w.heap.size v2 v11 (.slice none 0 0) [] :=
  ⟨heap_alloc_new _ _, B.size, R_new R2 _, R_new R11 _, Kd.R_nil _ _ _ _ _, B.alloc B.size _⟩
theorem ue_set {wr w : World} {x : X} {T : Nat} {v2 v11 : Value} {x0 x1 x2 x3 x4 x5 x6 x7 x8 x9 x10 x11 x12 x13 : Value} (R2 : Kd.string.R 9 w wr.heap.size (fun k => wr.heap.size ≤ k) v2 x.f1.f1) (R11 : k135.R 135 w wr.heap.size (fun k => wr.heap.size ≤ k) v11 (x.f3.f1.map toH)) (B : Below wr.heap.size wr w) (hT : wr.heap.size ≤ T) (hQ : w.heap[T]? = some (.cells #[x0, x1, x2, x3, x4, x5, x6, x7, x8, x9, x10, x11, x12, x13] 99)) :
    Ue wr ((((((((((((((w.setCell ⟨T, 0, none⟩ (Value.int .i64 x.f0)).setCell ⟨T, 1, none⟩ (.int .i64 x.f1.f0)).setCell ⟨T, 2, none⟩ (v2)).setCell ⟨T, 3, none⟩ (.int .u32 x.f1.f2)).setCell ⟨T, 4, none⟩ (.int .i64 x.f1.f3)).setCell ⟨T, 5, none⟩ (.string x.f1.f4)).setCell ⟨T, 6, none⟩ (.int .u64 x.f1.f5)).setCell ⟨T, 7, none⟩ (.int .u64 x.f1.f6)).setCell ⟨T, 8, none⟩ (.bool x.f1.f7)).setCell ⟨T, 9, none⟩ (.int .i64 x.f2)).setCell ⟨T, 10, none⟩ (.int .i64 x.f3.f0)).setCell ⟨T, 11, none⟩ (v11)).setCell ⟨T, 12, none⟩ (.int .u64 x.f3.f2)).setCell ⟨T, 13, none⟩ (.slice none 0 0)) x T v2 v11 (.slice none 0 0) [] :=
  ⟨set14 hQ, hT, R_put R2 hQ (by decide), R_put R11 hQ (by decide), Kd.R_nil _ _ _ _ _, below14 B hT⟩
theorem ue_below {wr w w' : World} {x : X} {T : Nat} {v2 v11 v13 : Value} {ds : List S144} (h : Ue wr w x T v2 v11 v13 ds) (hb : Below w.heap.size w w') : Ue wr w' x T v2 v11 v13 ds :=
  ⟨(hb.block T (blk_lt h.box)).trans h.box, h.hT, Kd.R_below h.keys hb, Kd.R_below h.hits hb, Kd.R_below h.drops hb, h.bel.trans (hb.mono h.bel.size)⟩
theorem R_typed {α : Type} {d : Kd α} {e : Nat} {w w1 : World} {base : Nat} {ok : Nat → Prop} {v : Value} {xs : List α} {row : Option Nat} {t : TypeId} (h : d.R e w base ok v xs) (hg : w.grownBy w1 row) (hrow : ∀ k, row = some k → ∃ cs, w.heap[k]? = some (.cells cs t)) (ht : t ∉ e :: d.E) : d.R e w1 base ok v xs :=
  Kd.R_mono (Kd.R_grown (Kd.R_bound h) hg (fun k hk e0 => by
    obtain ⟨_, _, _, q, hq, cs2, hc⟩ := hk
    obtain ⟨cs, hcs⟩ := hrow k e0.symm
    rw [hcs] at hc
    injection hc with hc
    injection hc with _ hc
    exact ht (hc ▸ hq))) (fun _ hk => hk.1)
theorem ue_next {wr wi w6 : World} {x : X} {T : Nat} {v2 v11 v13 v1 : Value} {ds : List S144} {d : S144} (h : Ue wr wi x T v2 v11 v13 ds) (ho : k144.R 144 w6 wr.heap.size (fun k => wr.heap.size ≤ k ∧ k ≠ T) v1 (ds ++ [d])) (hb : Below wr.heap.size wr w6) (hg : wi.grownBy w6 v13.ownBlock) :
    Ue wr (w6.setCell ⟨T, 13, none⟩ v1) x T v2 v11 v1 (ds ++ [d]) := by
  obtain ⟨inner, hown⟩ := Kd.R_own h.drops
  have hrow : ∀ k, v13.ownBlock = some k → ∃ cs, wi.heap[k]? = some (.cells cs 144) := fun k hk => own_typed hown k hk
  have hne : some T ≠ v13.ownBlock := fun e => (h.drops.1 T e.symm).2 rfl
  have hbox : w6.heap[T]? = some (.cells (evC x v2 v11 v13) 99) := (hg.block T (blk_lt h.box) hne).trans h.box
  refine ⟨Lib.heap_setCell_same (i := 13) hbox v1, h.hT, ?_, ?_, ?_, hb.setCell h.hT _⟩
  · exact Kd.R_far (R_typed h.keys hg hrow (by decide)) (fun k hk => hk.2) _
  · exact Kd.R_far (R_typed h.hits hg hrow (by decide)) (fun k hk => hk.2) _
  · exact Kd.R_far ho (fun k hk => hk.2) _
def cellV (T i : Nat) (w : World) : Value := (w.cell? ⟨T, i, none⟩).getD undef
theorem cellV_is {w : World} {T i : Nat} {v : Value} (h : w.cell? ⟨T, i, none⟩ = some v) : w.cell? ⟨T, i, none⟩ = some (cellV T i w) := by
  unfold cellV
  rw [h]
  rfl
theorem cellV_eq {w : World} {T i : Nat} {v : Value} (h : w.cell? ⟨T, i, none⟩ = some v) : cellV T i w = v := by
  unfold cellV
  rw [h]
  rfl
theorem put13 {w : World} {a : Addr} {v : Value} (h : w.cell? a = some v) (u : Value) : ∃ v', (w.setCell a u).cell? a = some v' := cell?_setCell_some h
theorem keepS {wr w' : World} {T : Nat} {a b : Addr} {b2 : Addr} {u1 u2 u3 : Value} (hT : ∃ v, w'.cell? ⟨T, 13, none⟩ = some v) (h1 : wr.cell? a = some u1) (h2 : wr.cell? b = some u2) (h3 : wr.cell? b2 = some u3) (ha : w'.heap[a.block]? = wr.heap[a.block]?) (hb : w'.heap[b.block]? = wr.heap[b.block]?) (e : b2.block = b.block) :
    w'.cell? ⟨T, 13, none⟩ = some (cellV T 13 w') ∧ w'.cell? a = some u1 ∧ w'.cell? b = some u2 ∧ w'.cell? b2 = some u3 := by
  obtain ⟨v, hv⟩ := hT
  exact ⟨cellV_is hv, (World.cell?_of_block ha).trans h1, (World.cell?_of_block hb).trans h2, (World.cell?_of_block (by rw [e]; exact hb)).trans h3⟩
theorem keep14 {w w' : World} {q : Addr} (hk : ∀ p v, p.block = q.block → w.cell? p = some v → w'.cell? p = some v) {v0 v1 v2 v3 v4 v5 v6 v7 v8 v9 v10 v11 v12 v13 : Value} (h : w.cell? q = some v0 ∧ w.cell? ⟨q.block, q.off + 1, none⟩ = some v1 ∧ w.cell? ⟨q.block, q.off + 2, none⟩ = some v2 ∧ w.cell? ⟨q.block, q.off + 3, none⟩ = some v3 ∧ w.cell? ⟨q.block, q.off + 4, none⟩ = some v4 ∧ w.cell? ⟨q.block, q.off + 5, none⟩ = some v5 ∧ w.cell? ⟨q.block, q.off + 6, none⟩ = some v6 ∧ w.cell? ⟨q.block, q.off + 7, none⟩ = some v7 ∧ w.cell? ⟨q.block, q.off + 8, none⟩ = some v8 ∧ w.cell? ⟨q.block, q.off + 9, none⟩ = some v9 ∧ w.cell? ⟨q.block, q.off + 10, none⟩ = some v10 ∧ w.cell? ⟨q.block, q.off + 11, none⟩ = some v11 ∧ w.cell? ⟨q.block, q.off + 12, none⟩ = some v12 ∧ w.cell? ⟨q.block, q.off + 13, none⟩ = some v13) : w'.cell? q = some v0 ∧ w'.cell? ⟨q.block, q.off + 1, none⟩ = some v1 ∧ w'.cell? ⟨q.block, q.off + 2, none⟩ = some v2 ∧ w'.cell? ⟨q.block, q.off + 3, none⟩ = some v3 ∧ w'.cell? ⟨q.block, q.off + 4, none⟩ = some v4 ∧ w'.cell? ⟨q.block, q.off + 5, none⟩ = some v5 ∧ w'.cell? ⟨q.block, q.off + 6, none⟩ = some v6 ∧ w'.cell? ⟨q.block, q.off + 7, none⟩ = some v7 ∧ w'.cell? ⟨q.block, q.off + 8, none⟩ = some v8 ∧ w'.cell? ⟨q.block, q.off + 9, none⟩ = some v9 ∧ w'.cell? ⟨q.block, q.off + 10, none⟩ = some v10 ∧ w'.cell? ⟨q.block, q.off + 11, none⟩ = some v11 ∧ w'.cell? ⟨q.block, q.off + 12, none⟩ = some v12 ∧ w'.cell? ⟨q.block, q.off + 13, none⟩ = some v13 :=
  ⟨hk _ _ rfl h.1, hk _ _ rfl h.2.1, hk _ _ rfl h.2.2.1, hk _ _ rfl h.2.2.2.1, hk _ _ rfl h.2.2.2.2.1, hk _ _ rfl h.2.2.2.2.2.1, hk _ _ rfl h.2.2.2.2.2.2.1, hk _ _ rfl h.2.2.2.2.2.2.2.1, hk _ _ rfl h.2.2.2.2.2.2.2.2.1, hk _ _ rfl h.2.2.2.2.2.2.2.2.2.1, hk _ _ rfl h.2.2.2.2.2.2.2.2.2.2.1, hk _ _ rfl h.2.2.2.2.2.2.2.2.2.2.2.1, hk _ _ rfl h.2.2.2.2.2.2.2.2.2.2.2.2.1, hk _ _ rfl h.2.2.2.2.2.2.2.2.2.2.2.2.2⟩
theorem keepB {w w' : World} {B : Nat} {q : Addr} (hb : Below B w w') (hq : q.block < B) : ∀ p v, p.block = q.block → w.cell? p = some v → w'.cell? p = some v := fun p v e h => (hb.cell (by rw [e]; exact hq)).trans h
theorem fresh_block {w0 w' : World} {B : Nat} {cs : Array Value} {t : TypeId} (hb : Below (w0.alloc (.cells cs t)).drew.heap.size (w0.alloc (.cells cs t)).drew w') (hB : w0.heap.size = B) : w'.heap[B]? = some (.cells cs t) := by
  subst hB
  exact (hb.block w0.heap.size (by simp)).trans (heap_alloc_new w0 (.cells cs t))
end Go.Proofs.YteddljbdjgdlnaaDoor.St
end
