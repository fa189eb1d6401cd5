/- Put together by wip/pack.py (this session's own program) out of this session's texts; a kit's tool laid the words and the shelf, of which only what is used stands here. Lean checks it. -/
import Derived.Test.YtfboejlemnfndaaGreatDoorPMk2
section
namespace Go.Proofs.YtfboejlemnfndaaGreatDoor.XMk
open Go.RowKit Go.Proofs.YtfboejlemnfndaaGreatDoorW.PrintWords Go.Proofs.YtfboejlemnfndaaGreatDoorW.PrintLast Go.Proofs.YtfboejlemnfndaaGreatDoorW.PrintMore
attribute [local go_sem] extract_sub max2_int min2_int max_two min_two max_three min_three max_four min_four   -- for this text's walks alone
set_option linter.unusedVariables false
set_option linter.unusedSimpArgs false

noncomputable section
def tallboylaw27_To.l0 : Nat → Int → Int → ByteArray → Int → List (S59) → Int → ByteArray → Int → List (S61) → Option (Int × ByteArray × Int × (List (S61)))
 | 0, _, _, _, _, _, _, _, _, _ => none
 | k + 1, x4, x159000, x159001, x159002, x159003, x161000, x161001, x161002, x161003 => if x4 < (x159003.length : Int) then (if 0 ≤ x4 then (if x161003.length < 5864062014805 then (tallboylaw27_To.l0 k (wrap64 (x4 + 1)) x159000 x159001 x159002 x159003 x161000 x161001 x161002 (x161003 ++ [(⟨(rd_T59 x159003 x4).f0, (rd_T59 x159003 x4).f1⟩ : S61)])) else (none)) else (none)) else (some (x161000, x161001, x161002, x161003))
def tallboylaw27_To.f (k : Nat) (a0_0 : Int) (a0_1 : ByteArray) (a0_2 : Int) (l0_3 : List (S59)) : Option (Int × ByteArray × Int × (List (S61))) := tallboylaw27_To.l0 k 0 a0_0 a0_1 a0_2 l0_3 a0_0 a0_1 a0_2 ([] : List (S61))
theorem tallboylaw27_To.mono_l : ∀ k, (∀ y0 y1 y2 y3 y4 y5 y6 y7 y8, LeO (tallboylaw27_To.l0 k y0 y1 y2 y3 y4 y5 y6 y7 y8) (tallboylaw27_To.l0 (k + 1) y0 y1 y2 y3 y4 y5 y6 y7 y8))
 | 0 => fun _ _ _ _ _ _ _ _ _ r h => by simp [tallboylaw27_To.l0] at h
 | k + 1 => by
  have ih0 := tallboylaw27_To.mono_l k
  · intro y0 y1 y2 y3 y4 y5 y6 y7 y8
    unfold tallboylaw27_To.l0
    repeat' first
    | (with_reducible exact ih0 _ _ _ _ _ _ _ _ _)
    | (with_reducible exact LeO.refl _)
    | (with_reducible exact LeO.none _)
    | (with_reducible refine LeO.ite ?_ ?_)
    | (with_reducible refine LeO.bind ?_ (fun _ => ?_))
    | exact ih0 _ _ _ _ _ _ _ _ _
    | exact LeO.none _
    | refine LeO.ite ?_ ?_
    | refine LeO.bind ?_ (fun _ => ?_)
theorem tallboylaw27_To.mono : ∀ a0 a1 a2 a3 k, LeO (tallboylaw27_To.f k a0 a1 a2 a3) (tallboylaw27_To.f (k + 1) a0 a1 a2 a3) := by
 intro a0 a1 a2 a3 k
 have ih0 := tallboylaw27_To.mono_l k
 unfold tallboylaw27_To.f
 repeat' first
  | (with_reducible exact ih0 _ _ _ _ _ _ _ _ _)
  | (with_reducible exact LeO.refl _)
  | (with_reducible exact LeO.none _)
  | (with_reducible refine LeO.ite ?_ ?_)
  | (with_reducible refine LeO.bind ?_ (fun _ => ?_))
  | exact ih0 _ _ _ _ _ _ _ _ _
  | exact LeO.none _
  | refine LeO.ite ?_ ?_
  | refine LeO.bind ?_ (fun _ => ?_)
def tallboylaw27_To.T5 : Bool × List (List Nat × List Nat) := (true, [([], []), ([0], [0]), ([], []), ([2], [2]), ([], []), ([3, 4], [3, 4]), ([5], [5]), ([6], [6]), ([], []), ([8], [8]), ([], []), ([9, 10], [9, 10]), ([11], [11]), ([12], [12]), ([7, 13], [7, 13]), ([14], [14]), ([1, 15], [1, 15]), ([0, 1, 2, 3, 4, 5, 6, 7, 8, 9, 10, 11, 12, 13, 14, 15, 16], []), ([17, 16, 16, 0, 1, 2, 3, 4, 5, 6, 7, 8, 9, 10, 11, 12, 13, 14, 15, 16], [16, 17])])
def tallboylaw27_To.B5 : List Nat := [0, 1, 0, 4, 0, 28, 60, 124, 0, 256, 0, 1792, 3840, 7936, 16380, 32764, 65535, 131071, 262143]
theorem tallboylaw27_To.tab5 : rtab .any (opsOf Tryz.f11 5) = tallboylaw27_To.T5 := by kernel_rfl
theorem tallboylaw27_To.bits5 : waitsOk tallboylaw27_To.T5.2 tallboylaw27_To.B5 = true := by kernel_rfl
set_option maxHeartbeats 8000000 in
set_option maxRecDepth 100000 in
theorem tallboylaw27_To.calls (k : Nat) (a0_0 : Int) (a0_1 : ByteArray) (a0_2 : Int) (A0_3 : Option Addr) (c0_3 : Nat) (l0_3 : List (S59)) (r1 : Int) (r2 : ByteArray) (r3 : Int) (r4 : List (S61)) (w : World) (hr0_3 : Kd.C k59 w A0_3 l0_3.length l0_3) (hc0_3 : l0_3.length ≤ c0_3) (h : tallboylaw27_To.f k a0_0 a0_1 a0_2 l0_3 = some (r1, r2, r3, r4)) :
 Calls Tryz.prog 11 #[.agg #[.int .i64 a0_0, .string a0_1, .int .i64 a0_2, .slice A0_3 l0_3.length c0_3]] w fun e w' => ∃ v3_ : Value, e = .returned (.agg #[.int .i64 r1, .string r2, .int .i64 r3, v3_]) ∧ Kd.R k61 61 w' w.heap.size (fun _ => True) v3_ r4 ∧ Below w.heap.size w w' := by
 have hu24 := Tryz.underlying24
 have hu31 := Tryz.underlying31
 have hu61 := Tryz.underlying61
 have HR0_3 := Aside0.mk hr0_3
 have HC0_3 := Aside0.mk hc0_3
 clear hr0_3 hc0_3
 have HB := Aside0.mk (Below.refl w.heap.size w)
 have H : (tallboylaw27_To.l0 k 0 a0_0 a0_1 a0_2 l0_3 a0_0 a0_1 a0_2 ([] : List (S61))) = some (r1, r2, r3, r4) := h
 clear h
 have H' := Aside0.mk H
 clear H
 go_enter Tryz.func11, Tryz.ntmps11
 go_wp2_with (first | ((with_reducible refine gate_dst (N := 1) rfl ?_); refine box_event ?hg (N := 1) ?hd (cs := #[.int .i64 a0_0, .string a0_1, .int .i64 a0_2, .slice A0_3 l0_3.length c0_3]) (t := 24) ?hr ?_; (case hd => rfl); (case hg => rfl); (case hr => first | (go_simp; done) | (go_simp; rfl)); intro gb158 hg w2 hbox hb; have n0_ := Aside0.mk (below_step (hbA HB.out) hb); have n1_ := Aside0.mk (hbox); have n2_ := Aside0.mk ((by rw [hg]; exact (below_size (hbA HB.out)) : w.heap.size ≤ gb158)); have n3_ := Aside0.mk ((by rw [hg]; exact (below_size (hbA HB.out)) : w.heap.size ≤ gb158)); clear HB; have HB := n0_; have BK158 := n1_; have GW158 := n2_; have GE158 := n3_; clear n0_ n1_ n2_ n3_; clear hb hbox hg) | ((with_reducible refine gate_dst (N := 2) rfl ?_); refine box_event ?hg (N := 2) ?hd (cs := #[.int .i64 0, .string (⟨#[]⟩ : ByteArray), .int .i64 0, .slice none 0 0]) (t := 31) ?hr ?_; (case hd => rfl); (case hg => rfl); (case hr => first | (go_simp; done) | (go_simp; rfl)); intro gb159 hg w3 hbox hb; have n0_ := Aside0.mk (blk_below (g := gb158) (o := .cells #[.int .i64 a0_0, .string a0_1, .int .i64 a0_2, .slice A0_3 l0_3.length c0_3] 24 (0, 0)) (rbA BK158.out) hb); have n1_ := Aside0.mk (below_step (hbA HB.out) hb); have n2_ := Aside0.mk (hbox); have n3_ := Aside0.mk ((by rw [hg]; exact (below_size (hbA HB.out)) : w.heap.size ≤ gb159)); have n4_ := Aside0.mk ((by rw [hg]; exact (below_size (hbA HB.out)) : w.heap.size ≤ gb159)); have n5_ := Aside0.mk ((by rw [hg]; exact Nat.ne_of_lt (blk_lt (g := gb158) (o := .cells #[.int .i64 a0_0, .string a0_1, .int .i64 a0_2, .slice A0_3 l0_3.length c0_3] 24 (0, 0)) (rbA BK158.out)) : gb158 ≠ gb159)); have n6_ := Aside0.mk ((by rw [hg]; exact Nat.ne_of_gt (blk_lt (g := gb158) (o := .cells #[.int .i64 a0_0, .string a0_1, .int .i64 a0_2, .slice A0_3 l0_3.length c0_3] 24 (0, 0)) (rbA BK158.out)) : gb159 ≠ gb158)); clear BK158; clear HB; have BK158 := n0_; have HB := n1_; have BK159 := n2_; have GW159 := n3_; have GE159 := n4_; have NB158_159 := n5_; have NB159_158 := n6_; clear n0_ n1_ n2_ n3_ n4_ n5_ n6_; clear hb hbox hg; have hnb4 := NB158_159.out; have hnc4 := NB159_158.out; obtain ⟨hcz5_0, hcz5_1, hcz5_2, hcz5_3, hfz5_0, hfz5_1, hfz5_2, hfz5_3⟩ := blkA4 BK158.out) | ((with_reducible refine gate_dst (N := 3) rfl ?_); refine box_event ?hg (N := 3) ?hd (cs := #[.int .i64 0, .string (⟨#[]⟩ : ByteArray), .int .i64 0, .slice none 0 0]) (t := 31) ?hr ?_; (case hd => rfl); (case hg => rfl); (case hr => first | (go_simp; done) | (go_simp; rfl)); intro gb160 hg w6 hbox hb; have n0_ := Aside0.mk (blk_below (g := gb158) (o := .cells #[.int .i64 a0_0, .string a0_1, .int .i64 a0_2, .slice A0_3 l0_3.length c0_3] 24 (0, 0)) (rbA BK158.out) hb); have n1_ := Aside0.mk (blk_below (g := gb159) (o := .cells #[.int .i64 0, .string (⟨#[]⟩ : ByteArray), .int .i64 0, .slice none 0 0] 31 (0, 0)) (rbA BK159.out) hb); have n2_ := Aside0.mk (below_step (hbA HB.out) hb); have n3_ := Aside0.mk (hbox); have n4_ := Aside0.mk ((by rw [hg]; exact (below_size (hbA HB.out)) : w.heap.size ≤ gb160)); have n5_ := Aside0.mk ((by rw [hg]; exact (below_size (hbA HB.out)) : w.heap.size ≤ gb160)); have n6_ := Aside0.mk ((by rw [hg]; exact Nat.ne_of_lt (blk_lt (g := gb158) (o := .cells #[.int .i64 a0_0, .string a0_1, .int .i64 a0_2, .slice A0_3 l0_3.length c0_3] 24 (0, 0)) (rbA BK158.out)) : gb158 ≠ gb160)); have n7_ := Aside0.mk ((by rw [hg]; exact Nat.ne_of_gt (blk_lt (g := gb158) (o := .cells #[.int .i64 a0_0, .string a0_1, .int .i64 a0_2, .slice A0_3 l0_3.length c0_3] 24 (0, 0)) (rbA BK158.out)) : gb160 ≠ gb158)); have n8_ := Aside0.mk ((by rw [hg]; exact Nat.ne_of_lt (blk_lt (g := gb159) (o := .cells #[.int .i64 0, .string (⟨#[]⟩ : ByteArray), .int .i64 0, .slice none 0 0] 31 (0, 0)) (rbA BK159.out)) : gb159 ≠ gb160)); have n9_ := Aside0.mk ((by rw [hg]; exact Nat.ne_of_gt (blk_lt (g := gb159) (o := .cells #[.int .i64 0, .string (⟨#[]⟩ : ByteArray), .int .i64 0, .slice none 0 0] 31 (0, 0)) (rbA BK159.out)) : gb160 ≠ gb159)); clear BK158; clear BK159; clear HB; have BK158 := n0_; have BK159 := n1_; have HB := n2_; have BK160 := n3_; have GW160 := n4_; have GE160 := n5_; have NB158_160 := n6_; have NB160_158 := n7_; have NB159_160 := n8_; have NB160_159 := n9_; clear n0_ n1_ n2_ n3_ n4_ n5_ n6_ n7_ n8_ n9_; clear hb hbox hg; have hnb7 := NB160_158.out; have hnc7 := NB158_160.out; have hnb8 := NB160_159.out; have hnc8 := NB159_160.out; obtain ⟨hcz9_0, hcz9_1, hcz9_2, hcz9_3, hfz9_0, hfz9_1, hfz9_2, hfz9_3⟩ := blkA4 BK160.out))
 go_loopg [4] k (fun kq v4 w' => ∃ (x4_1 : Int) (x161003_1 : List (S61)) (u161003 : Value), v4 = .int .i64 x4_1 ∧ Aside0 (tallboylaw27_To.l0 kq x4_1 a0_0 a0_1 a0_2 l0_3 a0_0 a0_1 a0_2 x161003_1 = some (r1, r2, r3, r4)) ∧ Aside0 (kq ≤ k) ∧ Aside0 (Kd.R k61 61 w' w.heap.size (fun _ => True) u161003 x161003_1) ∧ Aside0 (w'.heap[gb158]? = some (.cells #[.int .i64 a0_0, .string a0_1, .int .i64 a0_2, (.slice A0_3 l0_3.length c0_3)] 24 (0, 0))) ∧ Aside0 (w'.heap[gb159]? = some (.cells #[.int .i64 0, .string (⟨#[]⟩ : ByteArray), .int .i64 0, (.slice none 0 0)] 31 (0, 0))) ∧ Aside0 (w'.heap[gb160]? = some (.cells #[.int .i64 a0_0, .string a0_1, .int .i64 a0_2, u161003] 31 (0, 0))) ∧ Aside0 (Below w.heap.size w w'))
 case atStart => exact ⟨(0), (([] : List (S61))), (.slice none 0 0), rsA, H', ⟨Nat.le_refl _⟩, ⟨knA⟩, ⟨by (with_reducible repeat (first | refine blk_drewN ?_ _ | refine blk_drew ?_ | refine blk_alloc ?_ _)); refine blk_far ?_ NB158_160.out _; (with_reducible repeat (first | refine blk_drewN ?_ _ | refine blk_drew ?_ | refine blk_alloc ?_ _)); refine blk_far ?_ NB158_160.out _; (with_reducible repeat (first | refine blk_drewN ?_ _ | refine blk_drew ?_ | refine blk_alloc ?_ _)); refine blk_far ?_ NB158_160.out _; (with_reducible repeat (first | refine blk_drewN ?_ _ | refine blk_drew ?_ | refine blk_alloc ?_ _)); refine blk_far ?_ NB158_160.out _; (with_reducible repeat (first | refine blk_drewN ?_ _ | refine blk_drew ?_ | refine blk_alloc ?_ _)); exact BK158.out⟩, ⟨by (with_reducible repeat (first | refine blk_drewN ?_ _ | refine blk_drew ?_ | refine blk_alloc ?_ _)); refine blk_far ?_ NB159_160.out _; (with_reducible repeat (first | refine blk_drewN ?_ _ | refine blk_drew ?_ | refine blk_alloc ?_ _)); refine blk_far ?_ NB159_160.out _; (with_reducible repeat (first | refine blk_drewN ?_ _ | refine blk_drew ?_ | refine blk_alloc ?_ _)); refine blk_far ?_ NB159_160.out _; (with_reducible repeat (first | refine blk_drewN ?_ _ | refine blk_drew ?_ | refine blk_alloc ?_ _)); refine blk_far ?_ NB159_160.out _; (with_reducible repeat (first | refine blk_drewN ?_ _ | refine blk_drew ?_ | refine blk_alloc ?_ _)); exact BK159.out⟩, ⟨by (with_reducible repeat (first | refine blk_drewN ?_ _ | refine blk_drew ?_ | refine blk_alloc ?_ _)); refine blk_put (cs := #[.int .i64 a0_0, .string a0_1, .int .i64 a0_2, .slice none 0 0]) ?_ 3 _ rfl; (with_reducible repeat (first | refine blk_drewN ?_ _ | refine blk_drew ?_ | refine blk_alloc ?_ _)); refine blk_put (cs := #[.int .i64 a0_0, .string a0_1, .int .i64 0, .slice none 0 0]) ?_ 2 _ rfl; (with_reducible repeat (first | refine blk_drewN ?_ _ | refine blk_drew ?_ | refine blk_alloc ?_ _)); refine blk_put (cs := #[.int .i64 a0_0, .string (⟨#[]⟩ : ByteArray), .int .i64 0, .slice none 0 0]) ?_ 1 _ rfl; (with_reducible repeat (first | refine blk_drewN ?_ _ | refine blk_drew ?_ | refine blk_alloc ?_ _)); refine blk_put (cs := #[.int .i64 0, .string (⟨#[]⟩ : ByteArray), .int .i64 0, .slice none 0 0]) ?_ 0 _ rfl; (with_reducible repeat (first | refine blk_drewN ?_ _ | refine blk_drew ?_ | refine blk_alloc ?_ _)); exact BK160.out⟩, ⟨hbA HB.out⟩⟩
 case round =>
  clear H'
  (try clear c1); (try clear p2); (try clear c4); (try clear c7); (try clear c8); (try clear hcz5_0); (try clear hcz5_1); (try clear hcz5_2); (try clear hcz5_3); (try clear hcz9_0); (try clear hcz9_1); (try clear hcz9_2); (try clear hcz9_3); (try clear hfz5_0); (try clear hfz5_1); (try clear hfz5_2); (try clear hfz5_3); (try clear hfz9_0); (try clear hfz9_1); (try clear hfz9_2); (try clear hfz9_3)
  obtain ⟨x4_1, x161003_1, u161003, rfl, HA, HK1, HO_161003, BK158, BK159, BK160, HB⟩ := hrel
  cases gk with
  | zero => exact absurd HA.out (by simp [tallboylaw27_To.l0])
  | succ k1 =>
   have H := HA.out
   clear HA
   simp only [tallboylaw27_To.l0] at H
   by_cases c10 : x4_1 < (l0_3.length : Int)
   · rw [if_pos c10] at H
     have c10b0 : decide (x4_1 < (l0_3.length : Int)) = true := decide_eq_true c10
     clear c10
     by_cases c11 : 0 ≤ x4_1
     · rw [if_pos c11] at H
       have c11b0 : decide (0 ≤ x4_1) = true := decide_eq_true c11
       clear c11
       by_cases c12 : x161003_1.length < 5864062014805
       · rw [if_pos c12] at H
         have LMc12 := Aside0.mk c12
         clear c12
         obtain ⟨y163, hy163⟩ : ∃ y_ : List (S61), y_ = (x161003_1 ++ [(⟨(rd_T59 l0_3 x4_1).f0, (rd_T59 l0_3 x4_1).f1⟩ : S61)]) := ⟨_, rfl⟩
         replace H : (tallboylaw27_To.l0 k1 (wrap64 (x4_1 + 1)) a0_0 a0_1 a0_2 l0_3 a0_0 a0_1 a0_2 y163) = some (r1, r2, r3, r4) := by first | (rw [hy163]; with_reducible exact H) | (have H2_ := (Option.bind_some _ _).symm.trans H; rw [hy163]; with_reducible exact H2_) | (have H2_ := (Option.bind_some _ _).symm.trans H; with_reducible exact H2_) | with_reducible exact H | (rw [hy163]; exact H) | exact H
         have Ny163 := Aside0.mk hy163
         clear hy163
         have H' := Aside0.mk H
         clear H
         have hnb13 := NB158_159.out
         have hnc13 := NB159_158.out
         have hnb14 := NB158_160.out
         have hnc14 := NB160_158.out
         obtain ⟨hcz15_0, hcz15_1, hcz15_2, hcz15_3, hfz15_0, hfz15_1, hfz15_2, hfz15_3⟩ := blkA4 BK158.out
         try go_wp2
         replace HO_161003 := Aside0.mk (Kd.R_drew HO_161003.out)
         replace BK158 := Aside0.mk (blk_drew BK158.out)
         replace BK159 := Aside0.mk (blk_drew BK159.out)
         replace BK160 := Aside0.mk (blk_drew BK160.out)
         replace HB := Aside0.mk (below_drew1 HB.out)
         have p161 : 0 ≤ (x4_1 : Int) := of_decide_eq_true asA
         have q161 : x4_1 < (l0_3.length : Int) := of_decide_eq_true asA
         obtain ⟨ad161, e161, hx161_0, hx161_1⟩ := at_T59 HR0_3.out x4_1 p161 q161
         have hw161_1 := hx161_1
         have hw161_0 := hx161_0
         cases e161
         replace hx161_0 := (HB.out.cell (World.block_lt_of_cell? w _ hx161_0)).trans hx161_0
         replace hx161_1 := (HB.out.cell (World.block_lt_of_cell? w _ hx161_1)).trans hx161_1
         replace p161 := eq_true p161
         replace q161 := eq_true q161
         have p162 : 0 ≤ (x4_1 : Int) := of_decide_eq_true asA
         have q162 : x4_1 < (l0_3.length : Int) := of_decide_eq_true asA
         obtain ⟨ad162, e162, hx162_0, hx162_1⟩ := at_T59 HR0_3.out x4_1 p162 q162
         have hw162_1 := hx162_1
         have hw162_0 := hx162_0
         obtain rfl : ad161 = ad162 := (by injection e162)
         replace hx162_0 := (HB.out.cell (World.block_lt_of_cell? w _ hx162_0)).trans hx162_0
         replace hx162_1 := (HB.out.cell (World.block_lt_of_cell? w _ hx162_1)).trans hx162_1
         replace p162 := eq_true p162
         replace q162 := eq_true q162
         refine start_ (n := 19) (S := fun w' => w'.cell? ⟨gb160, 0, none⟩ = some (.int .i64 a0_0) ∧ w'.cell? ⟨gb160, 1, none⟩ = some (.string a0_1) ∧ w'.cell? ⟨gb160, 2, none⟩ = some (.int .i64 a0_2) ∧ w'.cell? ⟨gb160, 3, none⟩ = some (u161003) ∧ w'.cell? ⟨gb158, 0, none⟩ = some (.int .i64 a0_0) ∧ w'.cell? ⟨gb158, 1, none⟩ = some (.string a0_1) ∧ w'.cell? ⟨gb158, 2, none⟩ = some (.int .i64 a0_2) ∧ w'.cell? ⟨gb158, 3, none⟩ = some (.slice (some ad161) l0_3.length c0_3) ∧ w'.cell? (ad161.add ((x4_1).toNat * 2)) = some (.int .u8 ((rd_T59 l0_3 x4_1).f0)) ∧ w'.cell? ⟨(ad161.add ((x4_1).toNat * 2)).block, (ad161.add ((x4_1).toNat * 2)).off + 1, none⟩ = some (.string ((rd_T59 l0_3 x4_1).f1)) ∧ w'.cell? (ad161.add ((x4_1).toNat * 2)) = some (.int .u8 ((rd_T59 l0_3 x4_1).f0)) ∧ w'.cell? ⟨(ad161.add ((x4_1).toNat * 2)).block, (ad161.add ((x4_1).toNat * 2)).off + 1, none⟩ = some (.string ((rd_T59 l0_3 x4_1).f1))) (ds := [18]) #[false, false, false, false, false, false, false, false, false, false, false, false, false, false, false, false, false, false, false] (by kernel_rfl) rfl rfl ⟨(blk_cell BK160.out 0).trans rfl, (blk_cell BK160.out 1).trans rfl, (blk_cell BK160.out 2).trans rfl, (blk_cell BK160.out 3).trans rfl, (blk_cell BK158.out 0).trans rfl, (blk_cell BK158.out 1).trans rfl, (blk_cell BK158.out 2).trans rfl, (blk_cell BK158.out 3).trans rfl, ((HB.out.cell (World.block_lt_of_cell? w _ hw161_0)).trans hw161_0), ((HB.out.cell (World.block_lt_of_cell? w _ hw161_1)).trans hw161_1), ((HB.out.cell (World.block_lt_of_cell? w _ hw162_0)).trans hw162_0), ((HB.out.cell (World.block_lt_of_cell? w _ hw162_1)).trans hw162_1)⟩ (fun hHeld => ?_); refine with_tabW tallboylaw27_To.tab5 tallboylaw27_To.bits5 (fun HT_ HW_ => ?_)
         generalize wr.drew = w16 at HO_161003 BK158 BK159 BK160 HB hx161_0 hx161_1 hx162_0 hx162_1 hHeld ⊢
         refine pureA_ (i := 0) (N := some 19) #[true, false, false, false, false, false, false, false, false, false, false, false, false, false, false, false, false, false, false] rfl rfl ?_ (hc := any_of HT_.out (by kernel_rfl))
         refine pureA_ (i := 2) (N := some 21) #[true, false, true, false, false, false, false, false, false, false, false, false, false, false, false, false, false, false, false] rfl rfl ?_ (hc := any_of HT_.out (by kernel_rfl))
         refine pureA_ (i := 4) (N := some 23) #[true, false, true, false, true, false, false, false, false, false, false, false, false, false, false, false, false, false, false] rfl rfl ?_ (hc := any_of HT_.out (by kernel_rfl))
         refine pureA_ (i := 8) (N := some 27) #[true, false, true, false, true, false, false, false, true, false, false, false, false, false, false, false, false, false, false] rfl rfl ?_ (hc := any_of HT_.out (by kernel_rfl))
         refine pureA_ (i := 10) (N := some 29) #[true, false, true, false, true, false, false, false, true, false, true, false, false, false, false, false, false, false, false] rfl rfl ?_ (hc := any_of HT_.out (by kernel_rfl))
         refine takeA_ (i := 1) (N := some 20) #[true, true, true, false, true, false, false, false, true, false, true, false, false, false, false, false, false, false, false] rfl rfl hHeld ?_ (hc := take_ofW HT_.out HW_.out (by kernel_rfl)) (hy := by rintro w' ⟨s0, s1, s2, s3, s4, s5, s6, s7, s8, s9, s10, s11⟩; go_simp; with_reducible rfl)
         refine takeA_ (i := 3) (N := some 22) #[true, true, true, true, true, false, false, false, true, false, true, false, false, false, false, false, false, false, false] rfl rfl hHeld ?_ (hc := take_ofW HT_.out HW_.out (by kernel_rfl)) (hy := by rintro w' ⟨s0, s1, s2, s3, s4, s5, s6, s7, s8, s9, s10, s11⟩; go_simp; with_reducible rfl)
         refine pureA_ (i := 5) (N := some 24) #[true, true, true, true, true, true, false, false, true, false, true, false, false, false, false, false, false, false, false] rfl rfl ?_ (hc := any_of HT_.out (by kernel_rfl))
         refine pureA_ (i := 6) (N := some 25) #[true, true, true, true, true, true, true, false, true, false, true, false, false, false, false, false, false, false, false] rfl rfl ?_ (hc := any_of HT_.out (by kernel_rfl))
         refine takeA_ (i := 7) (N := some 26) #[true, true, true, true, true, true, true, true, true, false, true, false, false, false, false, false, false, false, false] rfl rfl hHeld ?_ (hc := take_ofW HT_.out HW_.out (by kernel_rfl)) (hy := by rintro w' ⟨s0, s1, s2, s3, s4, s5, s6, s7, s8, s9, s10, s11⟩; go_simp; with_reducible rfl)
         refine takeA_ (i := 9) (N := some 28) #[true, true, true, true, true, true, true, true, true, true, true, false, false, false, false, false, false, false, false] rfl rfl hHeld ?_ (hc := take_ofW HT_.out HW_.out (by kernel_rfl)) (hy := by rintro w' ⟨s0, s1, s2, s3, s4, s5, s6, s7, s8, s9, s10, s11⟩; go_simp; with_reducible rfl)
         refine pureA_ (i := 11) (N := some 30) #[true, true, true, true, true, true, true, true, true, true, true, true, false, false, false, false, false, false, false] rfl rfl ?_ (hc := any_of HT_.out (by kernel_rfl))
         refine pureA_ (i := 12) (N := some 31) #[true, true, true, true, true, true, true, true, true, true, true, true, true, false, false, false, false, false, false] rfl rfl ?_ (hc := any_of HT_.out (by kernel_rfl))
         refine takeA_ (i := 13) (N := some 32) #[true, true, true, true, true, true, true, true, true, true, true, true, true, true, false, false, false, false, false] rfl rfl hHeld ?_ (hc := take_ofW HT_.out HW_.out (by kernel_rfl)) (hy := by rintro w' ⟨s0, s1, s2, s3, s4, s5, s6, s7, s8, s9, s10, s11⟩; go_simp; with_reducible rfl)
         refine pureA_ (i := 14) (N := some 33) #[true, true, true, true, true, true, true, true, true, true, true, true, true, true, true, false, false, false, false] rfl rfl ?_ (hc := any_of HT_.out (by kernel_rfl))
         refine one_ (i := 15) (N := some 34) #[true, true, true, true, true, true, true, true, true, true, true, true, true, true, true, true, false, false, false] rfl rfl (one_of HT_.out (by kernel_rfl)) (by decide) (fun K hK => ?_)
         refine value_ (w1 := ?_) (v := ?_) (by rfl) rfl ?_ ?_
         rotate_left 2
         · go_simp
           constructor
           · rfl
           rfl
         refine hK.out _ _ ⟨(blk_cell (blk_alloc BK160.out _) 0).trans rfl, (blk_cell (blk_alloc BK160.out _) 1).trans rfl, (blk_cell (blk_alloc BK160.out _) 2).trans rfl, (blk_cell (blk_alloc BK160.out _) 3).trans rfl, (blk_cell (blk_alloc BK158.out _) 0).trans rfl, (blk_cell (blk_alloc BK158.out _) 1).trans rfl, (blk_cell (blk_alloc BK158.out _) 2).trans rfl, (blk_cell (blk_alloc BK158.out _) 3).trans rfl, (World.cell?_alloc_lt _ _ _ (World.block_lt_of_cell? _ _ (((HB.out.cell (World.block_lt_of_cell? w _ hw161_0)).trans hw161_0)))).trans (((HB.out.cell (World.block_lt_of_cell? w _ hw161_0)).trans hw161_0)), (World.cell?_alloc_lt _ _ _ (World.block_lt_of_cell? _ _ (((HB.out.cell (World.block_lt_of_cell? w _ hw161_1)).trans hw161_1)))).trans (((HB.out.cell (World.block_lt_of_cell? w _ hw161_1)).trans hw161_1)), (World.cell?_alloc_lt _ _ _ (World.block_lt_of_cell? _ _ (((HB.out.cell (World.block_lt_of_cell? w _ hw162_0)).trans hw162_0)))).trans (((HB.out.cell (World.block_lt_of_cell? w _ hw162_0)).trans hw162_0)), (World.cell?_alloc_lt _ _ _ (World.block_lt_of_cell? _ _ (((HB.out.cell (World.block_lt_of_cell? w _ hw162_1)).trans hw162_1)))).trans (((HB.out.cell (World.block_lt_of_cell? w _ hw162_1)).trans hw162_1))⟩ (fun hHeld => ?_)
         clear hK K
         refine normA_ ?_
         refine one_ (i := 16) (N := some 35) #[true, true, true, true, true, true, true, true, true, true, true, true, true, true, true, true, true, false, false] rfl rfl (one_of HT_.out (by kernel_rfl)) (by decide) (fun K hK => ?_)
         refine Kd.R_append_step k61 (w0 := w) w.heap.size (by rfl) (.tmp 20) (.tmp 34) 29 61 (.agg #[(.int .u8 0), (.string ⟨#[]⟩)]) 24 rfl Tryz.underlying29 info61 rfl (by decide) (by omega) u161003 x161003_1 (⟨(rd_T59 l0_3 x4_1).f0, (rd_T59 l0_3 x4_1).f1⟩ : S61) [.int .u8 ((rd_T59 l0_3 x4_1).f0), .string ((rd_T59 l0_3 x4_1).f1)] (fun _ => True) (fun _ => False) rfl rfl ?aP (fun _ hk => hk.elim) ?aF ?aO ?aB ?aS ?aL ?_
         (case aP => exact k61_mkM _ _ _ (⟨(rd_T59 l0_3 x4_1).f0, (rd_T59 l0_3 x4_1).f1⟩ : S61))
         (case aB => exact (hbA HB.out))
         (case aF => exact (fun _ _ => trivial))
         (case aO => exact (rdA HO_161003.out))
         (case aS => exact (below_size (hbA HB.out)))
         (case aL => have := LMc12.out; omega)
         intro v164 w17 ho hb hg hat
         rw [← Ny163.out] at ho
         have n0_ := Aside0.mk (blk_grown (g := gb158) (o := .cells #[.int .i64 a0_0, .string a0_1, .int .i64 a0_2, .slice (some ad161) l0_3.length c0_3] 24 (0, 0)) (rbA BK158.out) hg (Kd.R_ne HO_161003.out BK158.out (by decide)))
         have n1_ := Aside0.mk (blk_grown (g := gb159) (o := .cells #[.int .i64 0, .string (⟨#[]⟩ : ByteArray), .int .i64 0, .slice none 0 0] 31 (0, 0)) (rbA BK159.out) hg (Kd.R_ne HO_161003.out BK159.out (by decide)))
         have n2_ := Aside0.mk (blk_grown (g := gb160) (o := .cells #[.int .i64 a0_0, .string a0_1, .int .i64 a0_2, u161003] 31 (0, 0)) (rbA BK160.out) hg (Kd.R_ne HO_161003.out BK160.out (by decide)))
         have n3_ := Aside0.mk (hb)
         have n4_ := Aside0.mk (ho)
         clear BK158
         clear BK159
         clear BK160
         clear HB
         clear HO_161003
         have BK158 := n0_
         have BK159 := n1_
         have BK160 := n2_
         have HB := n3_
         have HO165 := n4_
         clear n0_ n1_ n2_ n3_ n4_
         clear ho hb hg hat
         obtain ⟨Ao18, co18, eo18⟩ := Kd.R_slice HO165.out
         (first | subst eo18 | (injection eo18 with f1_ f2_ f3_; have f4_ := f1_.symm; have f5_ := f3_.symm; clear f1_ f2_ f3_; subst f4_; subst f5_))
         refine hK.out _ _ ⟨(blk_cell BK160.out 0).trans rfl, (blk_cell BK160.out 1).trans rfl, (blk_cell BK160.out 2).trans rfl, (blk_cell BK160.out 3).trans rfl, (blk_cell BK158.out 0).trans rfl, (blk_cell BK158.out 1).trans rfl, (blk_cell BK158.out 2).trans rfl, (blk_cell BK158.out 3).trans rfl, ((HB.out.cell (World.block_lt_of_cell? w _ hw161_0)).trans hw161_0), ((HB.out.cell (World.block_lt_of_cell? w _ hw161_1)).trans hw161_1), ((HB.out.cell (World.block_lt_of_cell? w _ hw162_0)).trans hw162_0), ((HB.out.cell (World.block_lt_of_cell? w _ hw162_1)).trans hw162_1)⟩ (fun hHeld => ?_)
         clear hK K
         refine normA_ ?_
         refine pureA_ (i := 17) (N := some 36) #[true, true, true, true, true, true, true, true, true, true, true, true, true, true, true, true, true, true, false] rfl rfl ?_ (hc := any_of HT_.out (by kernel_rfl))
         refine last_ (i := 18) (N := none) #[true, true, true, true, true, true, true, true, true, true, true, true, true, true, true, true, true, true, true] rfl rfl (one_of HT_.out (by kernel_rfl)) (by decide) (fun K hK => ?_)
         have hs19 : w17.cell? ⟨gb160, 3, none⟩ = some (u161003) := (blk_cell BK160.out 3).trans rfl
         have hfs19 := blk_frozen BK160.out 3
         have hns19_0 := NB158_160.out
         have hns19_1 := NB159_160.out
         have hms19_0 := NB160_158.out
         have hms19_1 := NB160_159.out
         refine skip_ (w1 := ?_) (by rfl) rfl ?_ ?_
         rotate_left
         · go_simp
           rfl
         refine hK.out _ _ ?_
         clear hK K
         refine done_ (done_of HT_.out (by kernel_rfl)) ?_
         try go_wp2
         go_roundg k1
         case measure => have := HK1.out; omega
         case rel => exact ⟨(wrap64 (x4_1 + 1)), (y163), (.slice Ao18 y163.length co18), rsA, H', ⟨by have := HK1.out; omega⟩, ⟨by (with_reducible repeat (first | apply Kd.R_alloc | apply Kd.R_drewN | apply Kd.R_drew)); exact Kd.R_mono (Kd.R_far (p := ⟨gb160, 3, none⟩) (Kd.R_types HO165.out BK160.out (by decide)) (fun _ hk => hk.2) (.slice Ao18 y163.length co18)) (fun _ hk => trivial)⟩, ⟨by (with_reducible repeat (first | refine blk_drewN ?_ _ | refine blk_drew ?_ | refine blk_alloc ?_ _)); refine blk_far ?_ NB158_160.out _; (with_reducible repeat (first | refine blk_drewN ?_ _ | refine blk_drew ?_ | refine blk_alloc ?_ _)); exact BK158.out⟩, ⟨by (with_reducible repeat (first | refine blk_drewN ?_ _ | refine blk_drew ?_ | refine blk_alloc ?_ _)); refine blk_far ?_ NB159_160.out _; (with_reducible repeat (first | refine blk_drewN ?_ _ | refine blk_drew ?_ | refine blk_alloc ?_ _)); exact BK159.out⟩, ⟨by (with_reducible repeat (first | refine blk_drewN ?_ _ | refine blk_drew ?_ | refine blk_alloc ?_ _)); refine blk_put (cs := #[.int .i64 a0_0, .string a0_1, .int .i64 a0_2, u161003]) ?_ 3 _ rfl; (with_reducible repeat (first | refine blk_drewN ?_ _ | refine blk_drew ?_ | refine blk_alloc ?_ _)); exact BK160.out⟩, ⟨hbA HB.out⟩⟩
       rw [if_neg c12] at H
       exact absurd H (by simp)
     rw [if_neg c11] at H
     exact absurd H (by simp)
   rw [if_neg c10] at H
   have c10b0 : decide (x4_1 < (l0_3.length : Int)) = false := decide_eq_false c10
   clear c10
   simp only [Option.some.injEq, Prod.mk.injEq] at H
   obtain ⟨rfl, rfl, rfl, rfl⟩ := H
   have hnb20 := NB158_159.out
   have hnc20 := NB159_158.out
   have hnb21 := NB158_160.out
   have hnc21 := NB160_158.out
   obtain ⟨hcz22_0, hcz22_1, hcz22_2, hcz22_3, hfz22_0, hfz22_1, hfz22_2, hfz22_3⟩ := blkA4 BK158.out
   have hnb23 := NB160_159.out
   have hnc23 := NB159_160.out
   obtain ⟨hcz24_0, hcz24_1, hcz24_2, hcz24_3, hfz24_0, hfz24_1, hfz24_2, hfz24_3⟩ := blkA4 BK160.out
   obtain ⟨hcz25_0, hcz25_1, hcz25_2, hcz25_3, hfz25_0, hfz25_1, hfz25_2, hfz25_3⟩ := blkA4 BK159.out
   obtain ⟨Ao26, co26, eo26⟩ := Kd.R_slice HO_161003.out
   subst eo26
   go_wp2
   refine bodyPost_ret (results_cell_row rfl _ _ gb159 31 #[.int .i64 a0_0, .string a0_1, .int .i64 a0_2, .slice Ao26 x161003_1.length co26] (0, 0) _ rfl (by (with_reducible repeat (first | refine blk_drewN ?_ _ | refine blk_drew ?_ | refine blk_alloc ?_ _)); refine blk_put (cs := #[.int .i64 a0_0, .string a0_1, .int .i64 a0_2, .slice none 0 0]) ?_ 3 _ rfl; (with_reducible repeat (first | refine blk_drewN ?_ _ | refine blk_drew ?_ | refine blk_alloc ?_ _)); refine blk_put (cs := #[.int .i64 a0_0, .string a0_1, .int .i64 0, .slice none 0 0]) ?_ 2 _ rfl; (with_reducible repeat (first | refine blk_drewN ?_ _ | refine blk_drew ?_ | refine blk_alloc ?_ _)); refine blk_put (cs := #[.int .i64 a0_0, .string (⟨#[]⟩ : ByteArray), .int .i64 0, .slice none 0 0]) ?_ 1 _ rfl; (with_reducible repeat (first | refine blk_drewN ?_ _ | refine blk_drew ?_ | refine blk_alloc ?_ _)); refine blk_put (cs := #[.int .i64 0, .string (⟨#[]⟩ : ByteArray), .int .i64 0, .slice none 0 0]) ?_ 0 _ rfl; exact rbA BK159.out) Tryz.underlying31 rfl (by kernel_rfl)) rfl ?_
   exact ⟨_, reA, by (with_reducible repeat (first | apply Kd.R_alloc | apply Kd.R_drewN | apply Kd.R_drew)); exact Kd.R_mono (Kd.R_far (p := ⟨gb159, 3, none⟩) (Kd.R_far (p := ⟨gb159, 2, none⟩) (Kd.R_far (p := ⟨gb159, 1, none⟩) (Kd.R_far (p := ⟨gb159, 0, none⟩) (Kd.R_types HO_161003.out BK159.out (by decide)) (fun _ hk => hk.2) (.int .i64 a0_0)) (fun _ hk => hk.2) (.string a0_1)) (fun _ hk => hk.2) (.int .i64 a0_2)) (fun _ hk => hk.2) (.slice Ao26 x161003_1.length co26)) (fun _ hk => trivial), hbA HB.out⟩

def tallboyref27_Find.l0 : Nat → Int → Int → Int → ByteArray → Int → List (S59) → Option (ByteArray × Bool)
 | 0, _, _, _, _, _, _ => none
 | k + 1, x1, x6, x167000, x167001, x167002, x167003 => if x6 < (x167003.length : Int) then (if 0 ≤ x6 then (if ((rd_T59 x167003 x6).f0) = x1 then (some ((rd_T59 x167003 x6).f1, true)) else (tallboyref27_Find.l0 k x1 (wrap64 (x6 + 1)) x167000 x167001 x167002 x167003)) else (none)) else (some ((⟨#[]⟩ : ByteArray), false))
def tallboyref27_Find.f (k : Nat) (a0_0 : Int) (a0_1 : ByteArray) (a0_2 : Int) (l0_3 : List (S59)) (a1 : Int) : Option (ByteArray × Bool) := tallboyref27_Find.l0 k a1 0 a0_0 a0_1 a0_2 l0_3
theorem tallboyref27_Find.mono_l : ∀ k, (∀ y0 y1 y2 y3 y4 y5, LeO (tallboyref27_Find.l0 k y0 y1 y2 y3 y4 y5) (tallboyref27_Find.l0 (k + 1) y0 y1 y2 y3 y4 y5))
 | 0 => fun _ _ _ _ _ _ r h => by simp [tallboyref27_Find.l0] at h
 | k + 1 => by
  have ih0 := tallboyref27_Find.mono_l k
  · intro y0 y1 y2 y3 y4 y5
    unfold tallboyref27_Find.l0
    repeat' first
    | (with_reducible exact ih0 _ _ _ _ _ _)
    | (with_reducible exact LeO.refl _)
    | (with_reducible exact LeO.none _)
    | (with_reducible refine LeO.ite ?_ ?_)
    | (with_reducible refine LeO.bind ?_ (fun _ => ?_))
    | exact ih0 _ _ _ _ _ _
    | exact LeO.none _
    | refine LeO.ite ?_ ?_
    | refine LeO.bind ?_ (fun _ => ?_)
theorem tallboyref27_Find.mono : ∀ a0 a1 a2 a3 a4 k, LeO (tallboyref27_Find.f k a0 a1 a2 a3 a4) (tallboyref27_Find.f (k + 1) a0 a1 a2 a3 a4) := by
 intro a0 a1 a2 a3 a4 k
 have ih0 := tallboyref27_Find.mono_l k
 unfold tallboyref27_Find.f
 repeat' first
  | (with_reducible exact ih0 _ _ _ _ _ _)
  | (with_reducible exact LeO.refl _)
  | (with_reducible exact LeO.none _)
  | (with_reducible refine LeO.ite ?_ ?_)
  | (with_reducible refine LeO.bind ?_ (fun _ => ?_))
  | exact ih0 _ _ _ _ _ _
  | exact LeO.none _
  | refine LeO.ite ?_ ?_
  | refine LeO.bind ?_ (fun _ => ?_)
set_option maxHeartbeats 8000000 in
set_option maxRecDepth 100000 in
theorem tallboyref27_Find.calls (k : Nat) (a0_0 : Int) (a0_1 : ByteArray) (a0_2 : Int) (A0_3 : Option Addr) (c0_3 : Nat) (l0_3 : List (S59)) (a1 : Int) (r1 : ByteArray) (r2 : Bool) (w : World) (hr0_3 : Kd.C k59 w A0_3 l0_3.length l0_3) (hc0_3 : l0_3.length ≤ c0_3) (h : tallboyref27_Find.f k a0_0 a0_1 a0_2 l0_3 a1 = some (r1, r2)) :
 Calls Tryz.prog 16 #[.agg #[.int .i64 a0_0, .string a0_1, .int .i64 a0_2, .slice A0_3 l0_3.length c0_3], .int .u8 a1] w fun e w' => e = .returned (.tuple #[.string r1, .bool r2]) ∧ Below w.heap.size w w' := by
 have hu24 := Tryz.underlying24
 have HR0_3 := Aside0.mk hr0_3
 have HC0_3 := Aside0.mk hc0_3
 clear hr0_3 hc0_3
 have HB := Aside0.mk (Below.refl w.heap.size w)
 have H : (tallboyref27_Find.l0 k a1 0 a0_0 a0_1 a0_2 l0_3) = some (r1, r2) := h
 clear h
 have H' := Aside0.mk H
 clear H
 go_enter Tryz.func16, Tryz.ntmps16
 go_wp2_with (first | ((with_reducible refine gate_dst (N := 2) rfl ?_); refine box_event ?hg (N := 2) ?hd (cs := #[.int .i64 a0_0, .string a0_1, .int .i64 a0_2, .slice A0_3 l0_3.length c0_3]) (t := 24) ?hr ?_; (case hd => rfl); (case hg => rfl); (case hr => first | (go_simp; done) | (go_simp; rfl)); intro gb166 hg w3 hbox hb; have n0_ := Aside0.mk (below_step (hbA HB.out) hb); have n1_ := Aside0.mk (hbox); have n2_ := Aside0.mk ((by rw [hg]; exact (below_size (hbA HB.out)) : w.heap.size ≤ gb166)); have n3_ := Aside0.mk ((by rw [hg]; exact (below_size (hbA HB.out)) : w.heap.size ≤ gb166)); clear HB; have HB := n0_; have BK166 := n1_; have GW166 := n2_; have GE166 := n3_; clear n0_ n1_ n2_ n3_; clear hb hbox hg))
 go_loopg [6] k (fun kq v6 w' => ∃ (x6_1 : Int), v6 = .int .i64 x6_1 ∧ Aside0 (tallboyref27_Find.l0 kq a1 x6_1 a0_0 a0_1 a0_2 l0_3 = some (r1, r2)) ∧ Aside0 (kq ≤ k) ∧ Aside0 (w'.heap[gb166]? = some (.cells #[.int .i64 a0_0, .string a0_1, .int .i64 a0_2, (.slice A0_3 l0_3.length c0_3)] 24 (0, 0))) ∧ Aside0 (Below w.heap.size w w'))
 case atStart => exact ⟨(0), rsA, H', ⟨Nat.le_refl _⟩, ⟨rbA BK166.out⟩, ⟨hbA HB.out⟩⟩
 case round =>
  clear H'
  (try clear c1); (try clear p2)
  obtain ⟨x6_1, rfl, HA, HK1, BK166, HB⟩ := hrel
  cases gk with
  | zero => exact absurd HA.out (by simp [tallboyref27_Find.l0])
  | succ k1 =>
   have H := HA.out
   clear HA
   simp only [tallboyref27_Find.l0] at H
   by_cases c4 : x6_1 < (l0_3.length : Int)
   · rw [if_pos c4] at H
     have c4b0 : decide (x6_1 < (l0_3.length : Int)) = true := decide_eq_true c4
     clear c4
     by_cases c5 : 0 ≤ x6_1
     · rw [if_pos c5] at H
       have c5b0 : decide (0 ≤ x6_1) = true := decide_eq_true c5
       clear c5
       by_cases c6 : ((rd_T59 l0_3 x6_1).f0) = a1
       · rw [if_pos c6] at H
         have c6b0 : (((rd_T59 l0_3 x6_1).f0) == a1) = true := beq_iff_eq.mpr c6
         have c6b1 : (((rd_T59 l0_3 x6_1).f0) != a1) = false := bne_eq_false_iff_eq.mpr c6
         clear c6
         simp only [Option.some.injEq, Prod.mk.injEq] at H
         obtain ⟨rfl, rfl⟩ := H
         obtain ⟨hcz7_0, hcz7_1, hcz7_2, hcz7_3, hfz7_0, hfz7_1, hfz7_2, hfz7_3⟩ := blkA4 BK166.out
         have p167 : 0 ≤ (x6_1 : Int) := of_decide_eq_true asA
         have q167 : x6_1 < (l0_3.length : Int) := of_decide_eq_true asA
         obtain ⟨ad167, e167, hx167_0, hx167_1⟩ := at_T59 HR0_3.out x6_1 p167 q167
         cases e167
         replace hx167_0 := (HB.out.cell (World.block_lt_of_cell? w _ hx167_0)).trans hx167_0
         replace hx167_1 := (HB.out.cell (World.block_lt_of_cell? w _ hx167_1)).trans hx167_1
         replace p167 := eq_true p167
         replace q167 := eq_true q167
         have p168 : 0 ≤ (x6_1 : Int) := of_decide_eq_true asA
         have q168 : x6_1 < (l0_3.length : Int) := of_decide_eq_true asA
         obtain ⟨ad168, e168, hx168_0, hx168_1⟩ := at_T59 HR0_3.out x6_1 p168 q168
         obtain rfl : ad167 = ad168 := (by injection e168)
         replace hx168_0 := (HB.out.cell (World.block_lt_of_cell? w _ hx168_0)).trans hx168_0
         replace hx168_1 := (HB.out.cell (World.block_lt_of_cell? w _ hx168_1)).trans hx168_1
         replace p168 := eq_true p168
         replace q168 := eq_true q168
         go_wp2
         go_ret2
         exact ⟨reA, hbA HB.out⟩
       rw [if_neg c6] at H
       have c6b0 : (((rd_T59 l0_3 x6_1).f0) == a1) = false := beq_eq_false_iff_ne.mpr c6
       have c6b1 : (((rd_T59 l0_3 x6_1).f0) != a1) = true := bne_iff_ne.mpr c6
       have H' := Aside0.mk H
       clear H
       obtain ⟨hcz8_0, hcz8_1, hcz8_2, hcz8_3, hfz8_0, hfz8_1, hfz8_2, hfz8_3⟩ := blkA4 BK166.out
       have p167 : 0 ≤ (x6_1 : Int) := of_decide_eq_true asA
       have q167 : x6_1 < (l0_3.length : Int) := of_decide_eq_true asA
       obtain ⟨ad167, e167, hx167_0, hx167_1⟩ := at_T59 HR0_3.out x6_1 p167 q167
       cases e167
       replace hx167_0 := (HB.out.cell (World.block_lt_of_cell? w _ hx167_0)).trans hx167_0
       replace hx167_1 := (HB.out.cell (World.block_lt_of_cell? w _ hx167_1)).trans hx167_1
       replace p167 := eq_true p167
       replace q167 := eq_true q167
       go_wp2
       go_roundg k1
       case measure => have := HK1.out; omega
       case rel => exact ⟨(wrap64 (x6_1 + 1)), rsA, H', ⟨by have := HK1.out; omega⟩, ⟨rbA BK166.out⟩, ⟨hbA HB.out⟩⟩
     rw [if_neg c5] at H
     exact absurd H (by simp)
   rw [if_neg c4] at H
   have c4b0 : decide (x6_1 < (l0_3.length : Int)) = false := decide_eq_false c4
   clear c4
   simp only [Option.some.injEq, Prod.mk.injEq] at H
   obtain ⟨rfl, rfl⟩ := H
   obtain ⟨hcz9_0, hcz9_1, hcz9_2, hcz9_3, hfz9_0, hfz9_1, hfz9_2, hfz9_3⟩ := blkA4 BK166.out
   go_wp2
   go_ret2
   exact ⟨reA, hbA HB.out⟩

def tallboyref27_has.l0 : Nat → ByteArray → Int → Int → Option (Bool)
 | 0, _, _, _ => none
 | k + 1, x0, x1, x5 => if x5 < (x0.size : Int) then (if 0 ≤ x5 then (if (bt x0 x5) = x1 then (some true) else (tallboyref27_has.l0 k x0 x1 (wrap64 (x5 + 1)))) else (none)) else (some false)
def tallboyref27_has.f (k : Nat) (a0 : ByteArray) (a1 : Int) : Option (Bool) := tallboyref27_has.l0 k a0 a1 0
theorem tallboyref27_has.mono_l : ∀ k, (∀ y0 y1 y2, LeO (tallboyref27_has.l0 k y0 y1 y2) (tallboyref27_has.l0 (k + 1) y0 y1 y2))
 | 0 => fun _ _ _ r h => by simp [tallboyref27_has.l0] at h
 | k + 1 => by
  have ih0 := tallboyref27_has.mono_l k
  · intro y0 y1 y2
    unfold tallboyref27_has.l0
    repeat' first
    | (with_reducible exact ih0 _ _ _)
    | (with_reducible exact LeO.refl _)
    | (with_reducible exact LeO.none _)
    | (with_reducible refine LeO.ite ?_ ?_)
    | (with_reducible refine LeO.bind ?_ (fun _ => ?_))
    | exact ih0 _ _ _
    | exact LeO.none _
    | refine LeO.ite ?_ ?_
    | refine LeO.bind ?_ (fun _ => ?_)
theorem tallboyref27_has.mono : ∀ a0 a1 k, LeO (tallboyref27_has.f k a0 a1) (tallboyref27_has.f (k + 1) a0 a1) := by
 intro a0 a1 k
 have ih0 := tallboyref27_has.mono_l k
 unfold tallboyref27_has.f
 repeat' first
  | (with_reducible exact ih0 _ _ _)
  | (with_reducible exact LeO.refl _)
  | (with_reducible exact LeO.none _)
  | (with_reducible refine LeO.ite ?_ ?_)
  | (with_reducible refine LeO.bind ?_ (fun _ => ?_))
  | exact ih0 _ _ _
  | exact LeO.none _
  | refine LeO.ite ?_ ?_
  | refine LeO.bind ?_ (fun _ => ?_)
set_option maxHeartbeats 8000000 in
set_option maxRecDepth 100000 in
theorem tallboyref27_has.calls (k : Nat) (a0 : ByteArray) (a1 : Int) (r : Bool) (w : World) (h : tallboyref27_has.f k a0 a1 = some r) :
 Calls Tryz.prog 39 #[.string a0, .int .u8 a1] w fun e w' => e = .returned (.bool r) ∧ Drawn0 w w' := by
 have H : (tallboyref27_has.l0 k a0 a1 0) = some r := h
 clear h
 have H' := Aside0.mk H
 clear H
 go_enter Tryz.func39, Tryz.ntmps39
 go_wp2
 go_loopg [5] k (fun kq v5 w' => ∃ (x5_1 : Int), v5 = .int .i64 x5_1 ∧ Aside0 (tallboyref27_has.l0 kq a0 a1 x5_1 = some r) ∧ Aside0 (kq ≤ k) ∧ Drawn0 w w')
 case atStart => exact ⟨(0), rsA, H', ⟨Nat.le_refl _⟩, drA⟩
 case round =>
  clear H'
  try clear p2
  obtain ⟨x5_1, rfl, HA, HK1, ⟨m1, rfl⟩⟩ := hrel
  cases gk with
  | zero => exact absurd HA.out (by simp [tallboyref27_has.l0])
  | succ k1 =>
   have H := HA.out
   clear HA
   simp only [tallboyref27_has.l0] at H
   by_cases c3 : x5_1 < (a0.size : Int)
   · rw [if_pos c3] at H
     have c3b0 : decide (x5_1 < (a0.size : Int)) = true := decide_eq_true c3
     clear c3
     by_cases c4 : 0 ≤ x5_1
     · rw [if_pos c4] at H
       have c4b0 : decide (0 ≤ x5_1) = true := decide_eq_true c4
       clear c4
       by_cases c6 : (bt a0 x5_1) = a1
       · rw [if_pos c6] at H
         have c6b0 : ((bt a0 x5_1) == a1) = true := beq_iff_eq.mpr c6
         have c6b1 : ((bt a0 x5_1) != a1) = false := bne_eq_false_iff_eq.mpr c6
         clear c6
         obtain rfl := Option.some.inj H
         have p5 : 0 ≤ (x5_1 : Int) := of_decide_eq_true asA
         have q5 : x5_1 < (a0.size : Int) := of_decide_eq_true asA
         have hx5 := bt_at a0 x5_1
         replace p5 := eq_true p5
         replace q5 := eq_true q5
         go_wp2
         go_ret
         exact ⟨rsA, drA⟩
       rw [if_neg c6] at H
       have c6b0 : ((bt a0 x5_1) == a1) = false := beq_eq_false_iff_ne.mpr c6
       have c6b1 : ((bt a0 x5_1) != a1) = true := bne_iff_ne.mpr c6
       have H' := Aside0.mk H
       clear H
       have p5 : 0 ≤ (x5_1 : Int) := of_decide_eq_true asA
       have q5 : x5_1 < (a0.size : Int) := of_decide_eq_true asA
       have hx5 := bt_at a0 x5_1
       replace p5 := eq_true p5
       replace q5 := eq_true q5
       go_wp2
       go_roundg k1
       case measure => have := HK1.out; omega
       case rel => exact ⟨(wrap64 (x5_1 + 1)), rsA, H', ⟨by have := HK1.out; omega⟩, drA⟩
     rw [if_neg c4] at H
     exact absurd H (by simp)
   rw [if_neg c3] at H
   have c3b0 : decide (x5_1 < (a0.size : Int)) = false := decide_eq_false c3
   clear c3
   obtain rfl := Option.some.inj H
   go_wp2
   go_ret
   exact ⟨rsA, drA⟩

mutual
def tallboyref04_Key.j0 : Nat → ByteArray → Bool → Option (Bool)
 | 0, _, _ => none
 | k + 1, x0, x3 => tallboyref04_Key.l0 k x0 x3 0
def tallboyref04_Key.l0 : Nat → ByteArray → Bool → Int → Option (Bool)
 | 0, _, _, _ => none
 | k + 1, x0, x3, x4 => if x4 < (x0.size : Int) then (if x3 = true then (if 0 ≤ x4 then (if (bt x0 x4) ≥ 33 then (tallboyref04_Key.l0 k x0 (decide ((bt x0 x4) ≤ 126)) (wrap64 (x4 + 1))) else (tallboyref04_Key.l0 k x0 false (wrap64 (x4 + 1)))) else (none)) else (some x3)) else (some x3)
end
def tallboyref04_Key.f (k : Nat) (a0 : ByteArray) : Option (Bool) := if (a0.size : Int) ≥ 1 then (tallboyref04_Key.j0 k a0 (decide ((a0.size : Int) ≤ 32))) else (tallboyref04_Key.j0 k a0 false)
theorem tallboyref04_Key.mono_l : ∀ k, (∀ y0 y1, LeO (tallboyref04_Key.j0 k y0 y1) (tallboyref04_Key.j0 (k + 1) y0 y1)) ∧ (∀ y0 y1 y2, LeO (tallboyref04_Key.l0 k y0 y1 y2) (tallboyref04_Key.l0 (k + 1) y0 y1 y2))
 | 0 => ⟨fun _ _ r h => by simp [tallboyref04_Key.j0] at h, fun _ _ _ r h => by simp [tallboyref04_Key.l0] at h⟩
 | k + 1 => by
  obtain ⟨ih0, ih1⟩ := tallboyref04_Key.mono_l k
  refine ⟨?_, ?_⟩
  all_goals
   intros
   first | unfold tallboyref04_Key.j0 | unfold tallboyref04_Key.l0
   repeat' first
   | (with_reducible exact ih0 _ _)
   | (with_reducible exact ih1 _ _ _)
   | (with_reducible exact LeO.refl _)
   | (with_reducible exact LeO.none _)
   | (with_reducible refine LeO.ite ?_ ?_)
   | (with_reducible refine LeO.bind ?_ (fun _ => ?_))
   | exact ih0 _ _
   | exact ih1 _ _ _
   | exact LeO.none _
   | refine LeO.ite ?_ ?_
   | refine LeO.bind ?_ (fun _ => ?_)
theorem tallboyref04_Key.mono : ∀ a0 k, LeO (tallboyref04_Key.f k a0) (tallboyref04_Key.f (k + 1) a0) := by
 intro a0 k
 obtain ⟨ih0, ih1⟩ := tallboyref04_Key.mono_l k
 unfold tallboyref04_Key.f
 repeat' first
  | (with_reducible exact ih0 _ _)
  | (with_reducible exact ih1 _ _ _)
  | (with_reducible exact LeO.refl _)
  | (with_reducible exact LeO.none _)
  | (with_reducible refine LeO.ite ?_ ?_)
  | (with_reducible refine LeO.bind ?_ (fun _ => ?_))
  | exact ih0 _ _
  | exact ih1 _ _ _
  | exact LeO.none _
  | refine LeO.ite ?_ ?_
  | refine LeO.bind ?_ (fun _ => ?_)
set_option maxHeartbeats 8000000 in
set_option maxRecDepth 100000 in
theorem tallboyref04_Key.calls (k : Nat) (a0 : ByteArray) (r : Bool) (w : World) (h : tallboyref04_Key.f k a0 = some r) :
 Calls Tryz.prog 82 #[.string a0] w fun e w' => e = .returned (.bool r) ∧ Drawn0 w w' := by
 have H : (if (a0.size : Int) ≥ 1 then (tallboyref04_Key.j0 k a0 (decide ((a0.size : Int) ≤ 32))) else (tallboyref04_Key.j0 k a0 false)) = some r := h
 clear h
 have HC2 := Aside0.mk H
 clear H
 go_enter Tryz.func82, Tryz.ntmps82
 go_upto_region 1 with (fail)
 go_cut [3] (fun v3 wc => ∃ (kq : Nat) (x3_1 : Bool), v3 = .bool x3_1 ∧ Aside0 (tallboyref04_Key.j0 kq a0 x3_1 = some r) ∧ Aside0 (kq ≤ k) ∧ Drawn0 w wc)
 case first =>
  have H := HC2.out
  clear HC2
  by_cases c3 : (a0.size : Int) ≥ 1
  · rw [if_pos c3] at H
    have c3b0 : decide (1 ≤ (a0.size : Int)) = true := decide_eq_true c3
    have c3b1 : decide (1 ≤ a0.size) = true := decide_eq_true (by omega)
    clear c3
    (first | rw [c3b0] | (simp only [i64_w, i32_w]; rw [c3b0]) | skip)
    have H' := Aside0.mk H
    clear H
    go_wp2
    go_meet
    case rel => exact ⟨_, (decide ((a0.size : Int) ≤ 32)), rsA, H', ⟨by first | omega | exact Nat.le_refl _⟩, drA⟩
  rw [if_neg c3] at H
  have c3b0 : decide (1 ≤ (a0.size : Int)) = false := decide_eq_false c3
  have c3b1 : decide (1 ≤ a0.size) = false := decide_eq_false (by omega)
  clear c3
  (first | rw [c3b0] | (simp only [i64_w, i32_w]; rw [c3b0]) | skip)
  have H' := Aside0.mk H
  clear H
  go_wp2
  go_meet
  case rel => exact ⟨_, (false), rsA, H', ⟨by first | omega | exact Nat.le_refl _⟩, drA⟩
 clear HC2
 (try clear p2); (try clear c3); (try clear c3b0); (try clear c3b1)
 obtain ⟨kq, x3_1, rfl, HA, HJ1, ⟨mc1, rfl⟩⟩ := hcut
 cases kq with
 | zero => exact absurd HA.out (by simp [tallboyref04_Key.j0])
 | succ kj1 =>
  have H := HA.out
  clear HA
  simp only [tallboyref04_Key.j0] at H
  have H' := Aside0.mk H
  clear H
  go_wp2
  go_loopg [3, 4] kj1 (fun kq v3 v4 w' => ∃ (x3_2 : Bool) (x4_2 : Int), v3 = .bool x3_2 ∧ v4 = .int .i64 x4_2 ∧ Aside0 (tallboyref04_Key.l0 kq a0 x3_2 x4_2 = some r) ∧ Aside0 (kq ≤ kj1) ∧ Drawn0 w w')
  case atStart => exact ⟨(x3_1), (0), rsA, rsA, H', ⟨Nat.le_refl _⟩, drA⟩
  case round =>
   clear H'
   (try clear c1); (try clear p2); (try clear c3); (try clear c3b0); (try clear c3b1); (try clear p2)
   obtain ⟨x3_2, x4_2, rfl, rfl, HA, HK2, ⟨m2, rfl⟩⟩ := hrel
   cases gk with
   | zero => exact absurd HA.out (by simp [tallboyref04_Key.l0])
   | succ k2 =>
    have H := HA.out
    clear HA
    simp only [tallboyref04_Key.l0] at H
    by_cases c4 : x4_2 < (a0.size : Int)
    · rw [if_pos c4] at H
      have c4b0 : decide (x4_2 < (a0.size : Int)) = true := decide_eq_true c4
      clear c4
      by_cases c5 : x3_2 = true
      · subst c5
        have H1 : (if 0 ≤ x4_2 then (if (bt a0 x4_2) ≥ 33 then (tallboyref04_Key.l0 k2 a0 (decide ((bt a0 x4_2) ≤ 126)) (wrap64 (x4_2 + 1))) else (tallboyref04_Key.l0 k2 a0 false (wrap64 (x4_2 + 1)))) else (none)) = some r := by rw [if_pos rfl] at H; exact H
        clear H
        have H := H1
        clear H1
        by_cases c6 : 0 ≤ x4_2
        · rw [if_pos c6] at H
          have c6b0 : decide (0 ≤ x4_2) = true := decide_eq_true c6
          clear c6
          by_cases c8 : (bt a0 x4_2) ≥ 33
          · rw [if_pos c8] at H
            have c8b0 : decide (33 ≤ (bt a0 x4_2)) = true := decide_eq_true c8
            clear c8
            have H' := Aside0.mk H
            clear H
            have p7 : 0 ≤ (x4_2 : Int) := of_decide_eq_true asA
            have q7 : x4_2 < (a0.size : Int) := of_decide_eq_true asA
            have hx7 := bt_at a0 x4_2
            replace p7 := eq_true p7
            replace q7 := eq_true q7
            have p9 : 0 ≤ (x4_2 : Int) := of_decide_eq_true asA
            have q9 : x4_2 < (a0.size : Int) := of_decide_eq_true asA
            have hx9 := bt_at a0 x4_2
            replace p9 := eq_true p9
            replace q9 := eq_true q9
            go_wp2
            go_roundg k2
            case measure => have := HJ1.out; have := HK2.out; omega
            case rel => exact ⟨(decide ((bt a0 x4_2) ≤ 126)), (wrap64 (x4_2 + 1)), rsA, rsA, H', ⟨by have := HJ1.out; have := HK2.out; omega⟩, drA⟩
          rw [if_neg c8] at H
          have c8b0 : decide (33 ≤ (bt a0 x4_2)) = false := decide_eq_false c8
          clear c8
          have H' := Aside0.mk H
          clear H
          have p7 : 0 ≤ (x4_2 : Int) := of_decide_eq_true asA
          have q7 : x4_2 < (a0.size : Int) := of_decide_eq_true asA
          have hx7 := bt_at a0 x4_2
          replace p7 := eq_true p7
          replace q7 := eq_true q7
          go_wp2
          go_roundg k2
          case measure => have := HJ1.out; have := HK2.out; omega
          case rel => exact ⟨(false), (wrap64 (x4_2 + 1)), rsA, rsA, H', ⟨by have := HJ1.out; have := HK2.out; omega⟩, drA⟩
        rw [if_neg c6] at H
        exact absurd H (by simp)
      replace c5 := Bool.eq_false_iff.mpr c5
      subst c5
      have H1 : (some false) = some r := by rw [if_neg (show ¬ (false = true) by decide)] at H; exact H
      clear H
      have H := H1
      clear H1
      obtain rfl := Option.some.inj H
      go_wp2
      go_ret
      exact ⟨rsA, drA⟩
    rw [if_neg c4] at H
    have c4b0 : decide (x4_2 < (a0.size : Int)) = false := decide_eq_false c4
    clear c4
    obtain rfl := Option.some.inj H
    go_wp2
    go_ret
    exact ⟨rsA, drA⟩

end
end Go.Proofs.YtfboejlemnfndaaGreatDoor.XMk
end
section
namespace Go.Proofs.YtfboejlemnfndaaGreatDoor.XMk
open Go.RowKit Go.Proofs.YtfboejlemnfndaaGreatDoorW.PrintWords Go.Proofs.YtfboejlemnfndaaGreatDoorW.PrintLast Go.Proofs.YtfboejlemnfndaaGreatDoorW.PrintMore
attribute [local go_sem] extract_sub max2_int min2_int max_two min_two max_three min_three max_four min_four   -- for this text's walks alone
set_option linter.unusedVariables false
set_option linter.unusedSimpArgs false

noncomputable section
def tallboyref27_key.f (k : Nat) (a0_0 : Int) (a0_1 : ByteArray) (a0_2 : Int) (l0_3 : List (S59)) : Option (Bool) := (tallboyref27_Find.f k a0_0 a0_1 a0_2 l0_3 98).bind fun bt170 => (if a0_0 = 5 then (some (a0_1.toList == ([] : List UInt8))) else (if bt170.2 = true then (if (a0_1.size : Int) ≥ 1 then (some (decide ((a0_1.size : Int) ≤ 32))) else (some false)) else ((tallboyref04_Key.f k a0_1).bind fun t172 => (some t172))))
theorem tallboyref27_key.mono : ∀ a0 a1 a2 a3 k, LeO (tallboyref27_key.f k a0 a1 a2 a3) (tallboyref27_key.f (k + 1) a0 a1 a2 a3) := by
 intro a0 a1 a2 a3 k
 unfold tallboyref27_key.f
 repeat' first
  | (with_reducible exact tallboyref04_Key.mono _ _)
  | (with_reducible exact tallboyref27_Find.mono _ _ _ _ _ _)
  | (with_reducible exact LeO.refl _)
  | (with_reducible exact LeO.none _)
  | (with_reducible refine LeO.ite ?_ ?_)
  | (with_reducible refine LeO.bind ?_ (fun _ => ?_))
  | exact tallboyref04_Key.mono _ _
  | exact tallboyref27_Find.mono _ _ _ _ _ _
  | exact LeO.none _
  | refine LeO.ite ?_ ?_
  | refine LeO.bind ?_ (fun _ => ?_)
set_option maxHeartbeats 8000000 in
set_option maxRecDepth 100000 in
theorem tallboyref27_key.calls (k : Nat) (a0_0 : Int) (a0_1 : ByteArray) (a0_2 : Int) (A0_3 : Option Addr) (c0_3 : Nat) (l0_3 : List (S59)) (r : Bool) (w : World) (hr0_3 : Kd.C k59 w A0_3 l0_3.length l0_3) (hc0_3 : l0_3.length ≤ c0_3) (h : tallboyref27_key.f k a0_0 a0_1 a0_2 l0_3 = some r) :
 Calls Tryz.prog 64 #[.agg #[.int .i64 a0_0, .string a0_1, .int .i64 a0_2, .slice A0_3 l0_3.length c0_3]] w fun e w' => e = .returned (.bool r) ∧ Below w.heap.size w w' := by
 have hu24 := Tryz.underlying24
 have HR0_3 := Aside0.mk hr0_3
 have HC0_3 := Aside0.mk hc0_3
 clear hr0_3 hc0_3
 have HB := Aside0.mk (Below.refl w.heap.size w)
 have H : ((tallboyref27_Find.f k a0_0 a0_1 a0_2 l0_3 98).bind fun bt170 => (if a0_0 = 5 then (some (a0_1.toList == ([] : List UInt8))) else (if bt170.2 = true then (if (a0_1.size : Int) ≥ 1 then (some (decide ((a0_1.size : Int) ≤ 32))) else (some false)) else ((tallboyref04_Key.f k a0_1).bind fun t172 => (some t172))))) = some r := h
 clear h
 replace H := Option.bind_eq_some_iff.mp H
 obtain ⟨⟨t170, t171⟩, A20, H⟩ := H
 replace H : (if a0_0 = 5 then (some (a0_1.toList == ([] : List UInt8))) else (if t171 = true then (if (a0_1.size : Int) ≥ 1 then (some (decide ((a0_1.size : Int) ≤ 32))) else (some false)) else ((tallboyref04_Key.f k a0_1).bind fun t172 => (some t172)))) = some r := H
 have A2 := Aside0.mk A20
 clear A20
 by_cases c3 : a0_0 = 5
 · rw [if_pos c3] at H
   have c3b0 : (a0_0 == 5) = true := beq_iff_eq.mpr c3
   have c3b1 : (a0_0 != 5) = false := bne_eq_false_iff_eq.mpr c3
   clear c3
   obtain rfl := Option.some.inj H
   go_enter Tryz.func64, Tryz.ntmps64
   go_wp2_with (first | ((with_reducible refine gate_dst (N := 1) rfl ?_); (try (refine gate_guard (by rfl) ?_; dsimp only)); refine box_event ?hg (N := 1) ?hd (cs := #[.int .i64 a0_0, .string a0_1, .int .i64 a0_2, .slice A0_3 l0_3.length c0_3]) (t := 24) ?hr ?_; (case hd => rfl); (case hg => rfl); (case hr => first | (go_simp; done) | (go_simp; rfl)); intro gb169 hg w4 hbox hb; have n0_ := Aside0.mk (below_step (hbA HB.out) hb); have n1_ := Aside0.mk (hbox); have n2_ := Aside0.mk ((by rw [hg]; exact (below_size (hbA HB.out)) : w.heap.size ≤ gb169)); have n3_ := Aside0.mk ((by rw [hg]; exact (below_size (hbA HB.out)) : w.heap.size ≤ gb169)); clear HB; have HB := n0_; have BK169 := n1_; have GW169 := n2_; have GE169 := n3_; clear n0_ n1_ n2_ n3_; clear hb hbox hg; obtain ⟨hcz5_0, hcz5_1, hcz5_2, hcz5_3, hfz5_0, hfz5_1, hfz5_2, hfz5_3⟩ := blkA4 BK169.out) | ((with_reducible refine gate_callee (f := 16) rfl ?_); refine goesL_ (some 7) rfl rfl Tryz.func16 (by kernel_rfl) rfl #[.agg #[.int .i64 a0_0, .string a0_1, .int .i64 a0_2, .slice A0_3 l0_3.length c0_3], .int .u8 98] rfl argA ?_; (with_reducible refine (tallboyref27_Find.calls k a0_0 a0_1 a0_2 _ _ l0_3 98 t170 t171 _ ?side1 ?side2 A2.out).mono ?_); (case side1 => repeat (first | exact (Kd.C_below HR0_3.out HB.out) | (with_reducible refine Kd.C_alloc ?_ _) | (with_reducible refine Kd.C_drewN ?_ _) | (with_reducible refine Kd.C_drew ?_))); (case side2 => exact HC0_3.out); rintro e w6 ⟨rfl, hb⟩; refine ⟨_, rfl, ?_⟩; replace BK169 := Aside0.mk (blk_below (g := gb169) (o := .cells #[.int .i64 a0_0, .string a0_1, .int .i64 a0_2, .slice A0_3 l0_3.length c0_3] 24 (0, 0)) (rbA BK169.out) hb); replace HB := Aside0.mk (below_step (hbA HB.out) hb); (try clear hb); (try clear hb2); (try clear hk); (try clear hi); obtain ⟨hcz7_0, hcz7_1, hcz7_2, hcz7_3, hfz7_0, hfz7_1, hfz7_2, hfz7_3⟩ := blkA4 BK169.out))
   go_ret
   exact ⟨reA, hbA HB.out⟩
 rw [if_neg c3] at H
 have c3b0 : (a0_0 == 5) = false := beq_eq_false_iff_ne.mpr c3
 have c3b1 : (a0_0 != 5) = true := bne_iff_ne.mpr c3
 by_cases c8 : t171 = true
 · subst c8
   have H1 : (if (a0_1.size : Int) ≥ 1 then (some (decide ((a0_1.size : Int) ≤ 32))) else (some false)) = some r := by rw [if_pos rfl] at H; exact H
   clear H
   have H := H1
   clear H1
   by_cases c9 : (a0_1.size : Int) ≥ 1
   · rw [if_pos c9] at H
     have c9b0 : decide (1 ≤ (a0_1.size : Int)) = true := decide_eq_true c9
     have c9b1 : decide (1 ≤ a0_1.size) = true := decide_eq_true (by omega)
     clear c9
     obtain rfl := Option.some.inj H
     go_enter Tryz.func64, Tryz.ntmps64
     go_wp2_with (first | ((with_reducible refine gate_dst (N := 1) rfl ?_); (try (refine gate_guard (by rfl) ?_; dsimp only)); refine box_event ?hg (N := 1) ?hd (cs := #[.int .i64 a0_0, .string a0_1, .int .i64 a0_2, .slice A0_3 l0_3.length c0_3]) (t := 24) ?hr ?_; (case hd => rfl); (case hg => rfl); (case hr => first | (go_simp; done) | (go_simp; rfl)); intro gb169 hg w10 hbox hb; have n0_ := Aside0.mk (below_step (hbA HB.out) hb); have n1_ := Aside0.mk (hbox); have n2_ := Aside0.mk ((by rw [hg]; exact (below_size (hbA HB.out)) : w.heap.size ≤ gb169)); have n3_ := Aside0.mk ((by rw [hg]; exact (below_size (hbA HB.out)) : w.heap.size ≤ gb169)); clear HB; have HB := n0_; have BK169 := n1_; have GW169 := n2_; have GE169 := n3_; clear n0_ n1_ n2_ n3_; clear hb hbox hg; obtain ⟨hcz11_0, hcz11_1, hcz11_2, hcz11_3, hfz11_0, hfz11_1, hfz11_2, hfz11_3⟩ := blkA4 BK169.out) | ((with_reducible refine gate_callee (f := 16) rfl ?_); refine goesL_ (some 7) rfl rfl Tryz.func16 (by kernel_rfl) rfl #[.agg #[.int .i64 a0_0, .string a0_1, .int .i64 a0_2, .slice A0_3 l0_3.length c0_3], .int .u8 98] rfl argA ?_; (with_reducible refine (tallboyref27_Find.calls k a0_0 a0_1 a0_2 _ _ l0_3 98 t170 true _ ?side1 ?side2 A2.out).mono ?_); (case side1 => repeat (first | exact (Kd.C_below HR0_3.out HB.out) | (with_reducible refine Kd.C_alloc ?_ _) | (with_reducible refine Kd.C_drewN ?_ _) | (with_reducible refine Kd.C_drew ?_))); (case side2 => exact HC0_3.out); rintro e w12 ⟨rfl, hb⟩; refine ⟨_, rfl, ?_⟩; replace BK169 := Aside0.mk (blk_below (g := gb169) (o := .cells #[.int .i64 a0_0, .string a0_1, .int .i64 a0_2, .slice A0_3 l0_3.length c0_3] 24 (0, 0)) (rbA BK169.out) hb); replace HB := Aside0.mk (below_step (hbA HB.out) hb); (try clear hb); (try clear hb2); (try clear hk); (try clear hi); obtain ⟨hcz13_0, hcz13_1, hcz13_2, hcz13_3, hfz13_0, hfz13_1, hfz13_2, hfz13_3⟩ := blkA4 BK169.out))
     go_ret
     exact ⟨reA, hbA HB.out⟩
   rw [if_neg c9] at H
   have c9b0 : decide (1 ≤ (a0_1.size : Int)) = false := decide_eq_false c9
   have c9b1 : decide (1 ≤ a0_1.size) = false := decide_eq_false (by omega)
   clear c9
   obtain rfl := Option.some.inj H
   go_enter Tryz.func64, Tryz.ntmps64
   go_wp2_with (first | ((with_reducible refine gate_dst (N := 1) rfl ?_); (try (refine gate_guard (by rfl) ?_; dsimp only)); refine box_event ?hg (N := 1) ?hd (cs := #[.int .i64 a0_0, .string a0_1, .int .i64 a0_2, .slice A0_3 l0_3.length c0_3]) (t := 24) ?hr ?_; (case hd => rfl); (case hg => rfl); (case hr => first | (go_simp; done) | (go_simp; rfl)); intro gb169 hg w14 hbox hb; have n0_ := Aside0.mk (below_step (hbA HB.out) hb); have n1_ := Aside0.mk (hbox); have n2_ := Aside0.mk ((by rw [hg]; exact (below_size (hbA HB.out)) : w.heap.size ≤ gb169)); have n3_ := Aside0.mk ((by rw [hg]; exact (below_size (hbA HB.out)) : w.heap.size ≤ gb169)); clear HB; have HB := n0_; have BK169 := n1_; have GW169 := n2_; have GE169 := n3_; clear n0_ n1_ n2_ n3_; clear hb hbox hg; obtain ⟨hcz15_0, hcz15_1, hcz15_2, hcz15_3, hfz15_0, hfz15_1, hfz15_2, hfz15_3⟩ := blkA4 BK169.out) | ((with_reducible refine gate_callee (f := 16) rfl ?_); refine goesL_ (some 7) rfl rfl Tryz.func16 (by kernel_rfl) rfl #[.agg #[.int .i64 a0_0, .string a0_1, .int .i64 a0_2, .slice A0_3 l0_3.length c0_3], .int .u8 98] rfl argA ?_; (with_reducible refine (tallboyref27_Find.calls k a0_0 a0_1 a0_2 _ _ l0_3 98 t170 true _ ?side1 ?side2 A2.out).mono ?_); (case side1 => repeat (first | exact (Kd.C_below HR0_3.out HB.out) | (with_reducible refine Kd.C_alloc ?_ _) | (with_reducible refine Kd.C_drewN ?_ _) | (with_reducible refine Kd.C_drew ?_))); (case side2 => exact HC0_3.out); rintro e w16 ⟨rfl, hb⟩; refine ⟨_, rfl, ?_⟩; replace BK169 := Aside0.mk (blk_below (g := gb169) (o := .cells #[.int .i64 a0_0, .string a0_1, .int .i64 a0_2, .slice A0_3 l0_3.length c0_3] 24 (0, 0)) (rbA BK169.out) hb); replace HB := Aside0.mk (below_step (hbA HB.out) hb); (try clear hb); (try clear hb2); (try clear hk); (try clear hi); obtain ⟨hcz17_0, hcz17_1, hcz17_2, hcz17_3, hfz17_0, hfz17_1, hfz17_2, hfz17_3⟩ := blkA4 BK169.out))
   go_ret
   exact ⟨reA, hbA HB.out⟩
 replace c8 := Bool.eq_false_iff.mpr c8
 subst c8
 have H1 : ((tallboyref04_Key.f k a0_1).bind fun t172 => (some t172)) = some r := by rw [if_neg (show ¬ (false = true) by decide)] at H; exact H
 clear H
 have H := H1
 clear H1
 replace H := Option.bind_eq_some_iff.mp H
 obtain ⟨t172, A180, H⟩ := H
 replace H : (some t172) = some r := H
 have A18 := Aside0.mk A180
 clear A180
 obtain rfl := Option.some.inj H
 go_enter Tryz.func64, Tryz.ntmps64
 go_wp2_with (first | ((with_reducible refine gate_dst (N := 1) rfl ?_); (try (refine gate_guard (by rfl) ?_; dsimp only)); refine box_event ?hg (N := 1) ?hd (cs := #[.int .i64 a0_0, .string a0_1, .int .i64 a0_2, .slice A0_3 l0_3.length c0_3]) (t := 24) ?hr ?_; (case hd => rfl); (case hg => rfl); (case hr => first | (go_simp; done) | (go_simp; rfl)); intro gb169 hg w19 hbox hb; have n0_ := Aside0.mk (below_step (hbA HB.out) hb); have n1_ := Aside0.mk (hbox); have n2_ := Aside0.mk ((by rw [hg]; exact (below_size (hbA HB.out)) : w.heap.size ≤ gb169)); have n3_ := Aside0.mk ((by rw [hg]; exact (below_size (hbA HB.out)) : w.heap.size ≤ gb169)); clear HB; have HB := n0_; have BK169 := n1_; have GW169 := n2_; have GE169 := n3_; clear n0_ n1_ n2_ n3_; clear hb hbox hg; obtain ⟨hcz20_0, hcz20_1, hcz20_2, hcz20_3, hfz20_0, hfz20_1, hfz20_2, hfz20_3⟩ := blkA4 BK169.out) | ((with_reducible refine gate_callee (f := 16) rfl ?_); refine goesL_ (some 7) rfl rfl Tryz.func16 (by kernel_rfl) rfl #[.agg #[.int .i64 a0_0, .string a0_1, .int .i64 a0_2, .slice A0_3 l0_3.length c0_3], .int .u8 98] rfl argA ?_; (with_reducible refine (tallboyref27_Find.calls k a0_0 a0_1 a0_2 _ _ l0_3 98 t170 false _ ?side1 ?side2 A2.out).mono ?_); (case side1 => repeat (first | exact (Kd.C_below HR0_3.out HB.out) | (with_reducible refine Kd.C_alloc ?_ _) | (with_reducible refine Kd.C_drewN ?_ _) | (with_reducible refine Kd.C_drew ?_))); (case side2 => exact HC0_3.out); rintro e w21 ⟨rfl, hb⟩; refine ⟨_, rfl, ?_⟩; replace BK169 := Aside0.mk (blk_below (g := gb169) (o := .cells #[.int .i64 a0_0, .string a0_1, .int .i64 a0_2, .slice A0_3 l0_3.length c0_3] 24 (0, 0)) (rbA BK169.out) hb); replace HB := Aside0.mk (below_step (hbA HB.out) hb); (try clear hb); (try clear hb2); (try clear hk); (try clear hi); obtain ⟨hcz22_0, hcz22_1, hcz22_2, hcz22_3, hfz22_0, hfz22_1, hfz22_2, hfz22_3⟩ := blkA4 BK169.out) | ((with_reducible refine gate_callee (f := 82) rfl ?_); refine goesL_ (some 31) rfl rfl Tryz.func82 (by kernel_rfl) rfl #[.string a0_1] rfl argA ?_; (with_reducible refine (tallboyref04_Key.calls k a0_1 t172 _ A18.out).mono ?_); rintro e w' ⟨rfl, ⟨nd, rfl⟩⟩; refine ⟨_, rfl, ?_⟩))
 go_ret
 exact ⟨reA, hbA HB.out⟩

def tallboyref27_may.f (a0 : Int) : Option (ByteArray) := if a0 = 1 then (some (⟨#[98, 99, 102, 104, 107, 108, 113, 115, 116, 118, 69, 78, 79, 82, 84]⟩ : ByteArray)) else (if a0 = 2 then (some (⟨#[98, 99, 107, 113, 67, 69, 70, 73, 77, 79, 84]⟩ : ByteArray)) else (if a0 = 3 then (some (⟨#[98, 107, 113, 120, 67, 69, 73, 79, 84]⟩ : ByteArray)) else (if a0 = 4 then (some (⟨#[98, 99, 107, 113, 116, 118, 67, 68, 69, 74, 77, 78, 79, 84]⟩ : ByteArray)) else (if a0 = 6 then (some (⟨#[98]⟩ : ByteArray)) else (some (⟨#[]⟩ : ByteArray))))))
set_option maxHeartbeats 8000000 in
set_option maxRecDepth 100000 in
theorem tallboyref27_may.calls (a0 : Int) (r : ByteArray) (w : World) (h : tallboyref27_may.f a0 = some r) :
 Calls Tryz.prog 65 #[.int .i64 a0] w fun e w' => e = .returned (.string r) ∧ Drawn0 w w' := by
 have H : (if a0 = 1 then (some (⟨#[98, 99, 102, 104, 107, 108, 113, 115, 116, 118, 69, 78, 79, 82, 84]⟩ : ByteArray)) else (if a0 = 2 then (some (⟨#[98, 99, 107, 113, 67, 69, 70, 73, 77, 79, 84]⟩ : ByteArray)) else (if a0 = 3 then (some (⟨#[98, 107, 113, 120, 67, 69, 73, 79, 84]⟩ : ByteArray)) else (if a0 = 4 then (some (⟨#[98, 99, 107, 113, 116, 118, 67, 68, 69, 74, 77, 78, 79, 84]⟩ : ByteArray)) else (if a0 = 6 then (some (⟨#[98]⟩ : ByteArray)) else (some (⟨#[]⟩ : ByteArray))))))) = some r := h
 clear h
 by_cases c2 : a0 = 1
 · rw [if_pos c2] at H
   have c2b0 : (a0 == 1) = true := beq_iff_eq.mpr c2
   have c2b1 : (a0 != 1) = false := bne_eq_false_iff_eq.mpr c2
   clear c2
   obtain rfl := Option.some.inj H
   go_enter Tryz.func65, Tryz.ntmps65
   go_wp2
   go_ret
   exact ⟨rsA, drA⟩
 rw [if_neg c2] at H
 have c2b0 : (a0 == 1) = false := beq_eq_false_iff_ne.mpr c2
 have c2b1 : (a0 != 1) = true := bne_iff_ne.mpr c2
 by_cases c3 : a0 = 2
 · rw [if_pos c3] at H
   have c3b0 : (a0 == 2) = true := beq_iff_eq.mpr c3
   have c3b1 : (a0 != 2) = false := bne_eq_false_iff_eq.mpr c3
   clear c3
   obtain rfl := Option.some.inj H
   go_enter Tryz.func65, Tryz.ntmps65
   go_wp2
   go_ret
   exact ⟨rsA, drA⟩
 rw [if_neg c3] at H
 have c3b0 : (a0 == 2) = false := beq_eq_false_iff_ne.mpr c3
 have c3b1 : (a0 != 2) = true := bne_iff_ne.mpr c3
 by_cases c4 : a0 = 3
 · rw [if_pos c4] at H
   have c4b0 : (a0 == 3) = true := beq_iff_eq.mpr c4
   have c4b1 : (a0 != 3) = false := bne_eq_false_iff_eq.mpr c4
   clear c4
   obtain rfl := Option.some.inj H
   go_enter Tryz.func65, Tryz.ntmps65
   go_wp2
   go_ret
   exact ⟨rsA, drA⟩
 rw [if_neg c4] at H
 have c4b0 : (a0 == 3) = false := beq_eq_false_iff_ne.mpr c4
 have c4b1 : (a0 != 3) = true := bne_iff_ne.mpr c4
 by_cases c5 : a0 = 4
 · rw [if_pos c5] at H
   have c5b0 : (a0 == 4) = true := beq_iff_eq.mpr c5
   have c5b1 : (a0 != 4) = false := bne_eq_false_iff_eq.mpr c5
   clear c5
   obtain rfl := Option.some.inj H
   go_enter Tryz.func65, Tryz.ntmps65
   go_wp2
   go_ret
   exact ⟨rsA, drA⟩
 rw [if_neg c5] at H
 have c5b0 : (a0 == 4) = false := beq_eq_false_iff_ne.mpr c5
 have c5b1 : (a0 != 4) = true := bne_iff_ne.mpr c5
 by_cases c6 : a0 = 6
 · rw [if_pos c6] at H
   have c6b0 : (a0 == 6) = true := beq_iff_eq.mpr c6
   have c6b1 : (a0 != 6) = false := bne_eq_false_iff_eq.mpr c6
   clear c6
   obtain rfl := Option.some.inj H
   go_enter Tryz.func65, Tryz.ntmps65
   go_wp2
   go_ret
   exact ⟨rsA, drA⟩
 rw [if_neg c6] at H
 have c6b0 : (a0 == 6) = false := beq_eq_false_iff_ne.mpr c6
 have c6b1 : (a0 != 6) = true := bne_iff_ne.mpr c6
 obtain rfl := Option.some.inj H
 go_enter Tryz.func65, Tryz.ntmps65
 go_wp2
 go_ret
 exact ⟨rsA, drA⟩

mutual
def tallboyref02_Parse.j1 : Nat → ByteArray → Bool → Option (Int × Int)
 | 0, _, _ => none
 | k + 1, x0, x4 => if x4 = true then (if (x0.size : Int) > 20 then (some (0, 7)) else (tallboyref02_Parse.l1 k x0 0 0)) else (some (0, 6))
def tallboyref02_Parse.l1 : Nat → ByteArray → Int → Int → Option (Int × Int)
 | 0, _, _, _ => none
 | k + 1, x0, x6, x7 => if x7 < (x0.size : Int) then (if 0 ≤ x7 then (if x6 > ((18446744073709551615 - (((bt x0 x7) - 48) % 256)) / 10) then (some (0, 1)) else (tallboyref02_Parse.l1 k x0 (IntKind.u64.wrap ((IntKind.u64.wrap (10 * x6)) + (((bt x0 x7) - 48) % 256))) (wrap64 (x7 + 1)))) else (none)) else (some (x6, 0))
def tallboyref02_Parse.l0 : Nat → ByteArray → Bool → Int → Option (Int × Int)
 | 0, _, _, _ => none
 | k + 1, x0, x4, x5 => if x5 < (x0.size : Int) then (if x4 = true then (if 0 ≤ x5 then (if (bt x0 x5) ≥ 48 then (tallboyref02_Parse.l0 k x0 (decide ((bt x0 x5) ≤ 57)) (wrap64 (x5 + 1))) else (tallboyref02_Parse.l0 k x0 false (wrap64 (x5 + 1)))) else (none)) else (tallboyref02_Parse.j1 k x0 x4)) else (tallboyref02_Parse.j1 k x0 x4)
end
def tallboyref02_Parse.f (k : Nat) (a0 : ByteArray) : Option (Int × Int) := tallboyref02_Parse.l0 k a0 (decide ((a0.size : Int) > 0)) 0
theorem tallboyref02_Parse.mono_l : ∀ k, (∀ y0 y1, LeO (tallboyref02_Parse.j1 k y0 y1) (tallboyref02_Parse.j1 (k + 1) y0 y1)) ∧ (∀ y0 y1 y2, LeO (tallboyref02_Parse.l1 k y0 y1 y2) (tallboyref02_Parse.l1 (k + 1) y0 y1 y2)) ∧ (∀ y0 y1 y2, LeO (tallboyref02_Parse.l0 k y0 y1 y2) (tallboyref02_Parse.l0 (k + 1) y0 y1 y2))
 | 0 => ⟨fun _ _ r h => by simp [tallboyref02_Parse.j1] at h, fun _ _ _ r h => by simp [tallboyref02_Parse.l1] at h, fun _ _ _ r h => by simp [tallboyref02_Parse.l0] at h⟩
 | k + 1 => by
  obtain ⟨ih0, ih1, ih2⟩ := tallboyref02_Parse.mono_l k
  refine ⟨?_, ?_, ?_⟩
  all_goals
   intros
   first | unfold tallboyref02_Parse.j1 | unfold tallboyref02_Parse.l1 | unfold tallboyref02_Parse.l0
   repeat' first
   | (with_reducible exact ih0 _ _)
   | (with_reducible exact ih1 _ _ _)
   | (with_reducible exact ih2 _ _ _)
   | (with_reducible exact LeO.refl _)
   | (with_reducible exact LeO.none _)
   | (with_reducible refine LeO.ite ?_ ?_)
   | (with_reducible refine LeO.bind ?_ (fun _ => ?_))
   | exact ih0 _ _
   | exact ih1 _ _ _
   | exact ih2 _ _ _
   | exact LeO.none _
   | refine LeO.ite ?_ ?_
   | refine LeO.bind ?_ (fun _ => ?_)
theorem tallboyref02_Parse.mono : ∀ a0 k, LeO (tallboyref02_Parse.f k a0) (tallboyref02_Parse.f (k + 1) a0) := by
 intro a0 k
 obtain ⟨ih0, ih1, ih2⟩ := tallboyref02_Parse.mono_l k
 unfold tallboyref02_Parse.f
 repeat' first
  | (with_reducible exact ih0 _ _)
  | (with_reducible exact ih1 _ _ _)
  | (with_reducible exact ih2 _ _ _)
  | (with_reducible exact LeO.refl _)
  | (with_reducible exact LeO.none _)
  | (with_reducible refine LeO.ite ?_ ?_)
  | (with_reducible refine LeO.bind ?_ (fun _ => ?_))
  | exact ih0 _ _
  | exact ih1 _ _ _
  | exact ih2 _ _ _
  | exact LeO.none _
  | refine LeO.ite ?_ ?_
  | refine LeO.bind ?_ (fun _ => ?_)
set_option maxHeartbeats 8000000 in
set_option maxRecDepth 100000 in
theorem tallboyref02_Parse.calls (k : Nat) (a0 : ByteArray) (r1 : Int) (r2 : Int) (w : World) (h : tallboyref02_Parse.f k a0 = some (r1, r2)) :
 Calls Tryz.prog 41 #[.string a0] w fun e w' => e = .returned (.tuple #[.int .u64 r1, .int .i64 r2]) ∧ Drawn0 w w' := by
 have H : (tallboyref02_Parse.l0 k a0 (decide ((a0.size : Int) > 0)) 0) = some (r1, r2) := h
 clear h
 have HC2 := Aside0.mk H
 clear H
 go_enter Tryz.func41, Tryz.ntmps41
 go_upto_block 0 with (fail)
 go_cut [4] (fun v4 wc => ∃ (kq : Nat) (x4_1 : Bool), v4 = .bool x4_1 ∧ Aside0 (tallboyref02_Parse.j1 kq a0 x4_1 = some (r1, r2)) ∧ Aside0 (kq ≤ k) ∧ Drawn0 w wc)
 case first =>
  have H := HC2.out
  clear HC2
  have H' := Aside0.mk H
  clear H
  go_wp2
  go_loopg [4, 5] k (fun kq v4 v5 w' => ∃ (x4_1 : Bool) (x5_1 : Int), v4 = .bool x4_1 ∧ v5 = .int .i64 x5_1 ∧ Aside0 (tallboyref02_Parse.l0 kq a0 x4_1 x5_1 = some (r1, r2)) ∧ Aside0 (kq ≤ k) ∧ Drawn0 w w')
  case atStart => exact ⟨(decide ((a0.size : Int) > 0)), (0), rsA, rsA, H', ⟨Nat.le_refl _⟩, drA⟩
  case round =>
   clear H'
   try clear p2
   obtain ⟨x4_1, x5_1, rfl, rfl, HA, HK1, ⟨m1, rfl⟩⟩ := hrel
   cases gk with
   | zero => exact absurd HA.out (by simp [tallboyref02_Parse.l0])
   | succ k1 =>
    have H := HA.out
    clear HA
    simp only [tallboyref02_Parse.l0] at H
    by_cases c3 : x5_1 < (a0.size : Int)
    · rw [if_pos c3] at H
      have c3b0 : decide (x5_1 < (a0.size : Int)) = true := decide_eq_true c3
      clear c3
      (first | rw [c3b0] | (simp only [i64_w, i32_w]; rw [c3b0]) | skip)
      by_cases c4 : x4_1 = true
      · subst c4
        have H1 : (if 0 ≤ x5_1 then (if (bt a0 x5_1) ≥ 48 then (tallboyref02_Parse.l0 k1 a0 (decide ((bt a0 x5_1) ≤ 57)) (wrap64 (x5_1 + 1))) else (tallboyref02_Parse.l0 k1 a0 false (wrap64 (x5_1 + 1)))) else (none)) = some (r1, r2) := by rw [if_pos rfl] at H; exact H
        clear H
        have H := H1
        clear H1
        by_cases c5 : 0 ≤ x5_1
        · rw [if_pos c5] at H
          have c5b0 : decide (0 ≤ x5_1) = true := decide_eq_true c5
          clear c5
          by_cases c7 : (bt a0 x5_1) ≥ 48
          · rw [if_pos c7] at H
            have c7b0 : decide (48 ≤ (bt a0 x5_1)) = true := decide_eq_true c7
            clear c7
            have H' := Aside0.mk H
            clear H
            have p6 : 0 ≤ (x5_1 : Int) := of_decide_eq_true asA
            have q6 : x5_1 < (a0.size : Int) := of_decide_eq_true asA
            have hx6 := bt_at a0 x5_1
            replace p6 := eq_true p6
            replace q6 := eq_true q6
            have p8 : 0 ≤ (x5_1 : Int) := of_decide_eq_true asA
            have q8 : x5_1 < (a0.size : Int) := of_decide_eq_true asA
            have hx8 := bt_at a0 x5_1
            replace p8 := eq_true p8
            replace q8 := eq_true q8
            go_wp2
            go_roundg k1
            case measure => have := HK1.out; omega
            case rel => exact ⟨(decide ((bt a0 x5_1) ≤ 57)), (wrap64 (x5_1 + 1)), rsA, rsA, H', ⟨by have := HK1.out; omega⟩, drA⟩
          rw [if_neg c7] at H
          have c7b0 : decide (48 ≤ (bt a0 x5_1)) = false := decide_eq_false c7
          clear c7
          have H' := Aside0.mk H
          clear H
          have p6 : 0 ≤ (x5_1 : Int) := of_decide_eq_true asA
          have q6 : x5_1 < (a0.size : Int) := of_decide_eq_true asA
          have hx6 := bt_at a0 x5_1
          replace p6 := eq_true p6
          replace q6 := eq_true q6
          go_wp2
          go_roundg k1
          case measure => have := HK1.out; omega
          case rel => exact ⟨(false), (wrap64 (x5_1 + 1)), rsA, rsA, H', ⟨by have := HK1.out; omega⟩, drA⟩
        rw [if_neg c5] at H
        exact absurd H (by simp)
      replace c4 := Bool.eq_false_iff.mpr c4
      subst c4
      have H1 : (tallboyref02_Parse.j1 k1 a0 false) = some (r1, r2) := by rw [if_neg (show ¬ (false = true) by decide)] at H; exact H
      clear H
      have H := H1
      clear H1
      have H' := Aside0.mk H
      clear H
      go_wp2
      go_meet
      case rel => exact ⟨_, (false), rsA, H', ⟨by have := HK1.out; first | omega | exact Nat.le_refl _⟩, drA⟩
    rw [if_neg c3] at H
    have c3b0 : decide (x5_1 < (a0.size : Int)) = false := decide_eq_false c3
    clear c3
    (first | rw [c3b0] | (simp only [i64_w, i32_w]; rw [c3b0]) | skip)
    have H' := Aside0.mk H
    clear H
    go_wp2
    go_meet
    case rel => exact ⟨_, (x4_1), rsA, H', ⟨by have := HK1.out; first | omega | exact Nat.le_refl _⟩, drA⟩
 clear HC2
 (try clear p2); (try clear c3); (try clear c3b0); (try clear c4); (try clear c5); (try clear c5b0); (try clear p6); (try clear q6); (try clear hx6); (try clear c7); (try clear c7b0); (try clear p8); (try clear q8); (try clear hx8); (try clear p2); (try clear p6); (try clear p8); (try clear q6); (try clear q8)
 obtain ⟨kq, x4_1, rfl, HA, HJ1, ⟨mc1, rfl⟩⟩ := hcut
 cases kq with
 | zero => exact absurd HA.out (by simp [tallboyref02_Parse.j1])
 | succ kj1 =>
  have H := HA.out
  clear HA
  simp only [tallboyref02_Parse.j1] at H
  by_cases c9 : x4_1 = true
  · subst c9
    have H1 : (if (a0.size : Int) > 20 then (some (0, 7)) else (tallboyref02_Parse.l1 kj1 a0 0 0)) = some (r1, r2) := by rw [if_pos rfl] at H; exact H
    clear H
    have H := H1
    clear H1
    by_cases c10 : (a0.size : Int) > 20
    · rw [if_pos c10] at H
      have c10b0 : decide (20 < (a0.size : Int)) = true := decide_eq_true c10
      have c10b1 : decide (20 < a0.size) = true := decide_eq_true (by omega)
      clear c10
      simp only [Option.some.injEq, Prod.mk.injEq] at H
      obtain ⟨rfl, rfl⟩ := H
      go_wp2
      go_ret2
      exact ⟨rsA, drA⟩
    rw [if_neg c10] at H
    have c10b0 : decide (20 < (a0.size : Int)) = false := decide_eq_false c10
    have c10b1 : decide (20 < a0.size) = false := decide_eq_false (by omega)
    clear c10
    have H' := Aside0.mk H
    clear H
    go_wp2
    go_loopg [6, 7] kj1 (fun kq v6 v7 w' => ∃ (x6_2 : Int) (x7_2 : Int), v6 = .int .u64 x6_2 ∧ v7 = .int .i64 x7_2 ∧ Aside0 (tallboyref02_Parse.l1 kq a0 x6_2 x7_2 = some (r1, r2)) ∧ Aside0 (kq ≤ kj1) ∧ Drawn0 w w')
    case atStart => exact ⟨(0), (0), rsA, rsA, H', ⟨Nat.le_refl _⟩, drA⟩
    case round =>
     clear H'
     (try clear c1); (try clear p2); (try clear c3); (try clear c3b0); (try clear c4); (try clear c5); (try clear c5b0); (try clear p6); (try clear q6); (try clear hx6); (try clear c7); (try clear c7b0); (try clear p8); (try clear q8); (try clear hx8); (try clear c9); (try clear c10); (try clear c10b0); (try clear c10b1); (try clear p2); (try clear p6); (try clear p8); (try clear q6); (try clear q8)
     obtain ⟨x6_2, x7_2, rfl, rfl, HA, HK2, ⟨m2, rfl⟩⟩ := hrel
     cases gk with
     | zero => exact absurd HA.out (by simp [tallboyref02_Parse.l1])
     | succ k2 =>
      have H := HA.out
      clear HA
      simp only [tallboyref02_Parse.l1] at H
      by_cases c11 : x7_2 < (a0.size : Int)
      · rw [if_pos c11] at H
        have c11b0 : decide (x7_2 < (a0.size : Int)) = true := decide_eq_true c11
        clear c11
        by_cases c12 : 0 ≤ x7_2
        · rw [if_pos c12] at H
          have c12b0 : decide (0 ≤ x7_2) = true := decide_eq_true c12
          clear c12
          by_cases c14 : x6_2 > ((18446744073709551615 - (((bt a0 x7_2) - 48) % 256)) / 10)
          · rw [if_pos c14] at H
            have c14b0 : decide (((18446744073709551615 - (((bt a0 x7_2) - 48) % 256)) / 10) < x6_2) = true := decide_eq_true c14
            clear c14
            simp only [Option.some.injEq, Prod.mk.injEq] at H
            obtain ⟨rfl, rfl⟩ := H
            have p13 : 0 ≤ (x7_2 : Int) := of_decide_eq_true asA
            have q13 : x7_2 < (a0.size : Int) := of_decide_eq_true asA
            have hx13 := bt_at a0 x7_2
            replace p13 := eq_true p13
            replace q13 := eq_true q13
            go_wp2
            go_ret2
            exact ⟨rsA, drA⟩
          rw [if_neg c14] at H
          have c14b0 : decide (((18446744073709551615 - (((bt a0 x7_2) - 48) % 256)) / 10) < x6_2) = false := decide_eq_false c14
          clear c14
          have H' := Aside0.mk H
          clear H
          have p13 : 0 ≤ (x7_2 : Int) := of_decide_eq_true asA
          have q13 : x7_2 < (a0.size : Int) := of_decide_eq_true asA
          have hx13 := bt_at a0 x7_2
          replace p13 := eq_true p13
          replace q13 := eq_true q13
          go_wp2
          go_roundg k2
          case measure => have := HJ1.out; have := HK2.out; omega
          case rel => exact ⟨(IntKind.u64.wrap ((IntKind.u64.wrap (10 * x6_2)) + (((bt a0 x7_2) - 48) % 256))), (wrap64 (x7_2 + 1)), rsA, rsA, H', ⟨by have := HJ1.out; have := HK2.out; omega⟩, drA⟩
        rw [if_neg c12] at H
        exact absurd H (by simp)
      rw [if_neg c11] at H
      have c11b0 : decide (x7_2 < (a0.size : Int)) = false := decide_eq_false c11
      clear c11
      simp only [Option.some.injEq, Prod.mk.injEq] at H
      obtain ⟨rfl, rfl⟩ := H
      go_wp2
      go_ret2
      exact ⟨rsA, drA⟩
  replace c9 := Bool.eq_false_iff.mpr c9
  subst c9
  have H1 : (some (0, 6)) = some (r1, r2) := by rw [if_neg (show ¬ (false = true) by decide)] at H; exact H
  clear H
  have H := H1
  clear H1
  simp only [Option.some.injEq, Prod.mk.injEq] at H
  obtain ⟨rfl, rfl⟩ := H
  go_wp2
  go_ret2
  exact ⟨rsA, drA⟩

end
end Go.Proofs.YtfboejlemnfndaaGreatDoor.XMk
end
section
namespace Go.Proofs.YtfboejlemnfndaaGreatDoor.XMk
open Go.RowKit Go.Proofs.YtfboejlemnfndaaGreatDoorW.PrintWords Go.Proofs.YtfboejlemnfndaaGreatDoorW.PrintLast Go.Proofs.YtfboejlemnfndaaGreatDoorW.PrintMore
attribute [local go_sem] extract_sub max2_int min2_int max_two min_two max_three min_three max_four min_four   -- for this text's walks alone
set_option linter.unusedVariables false
set_option linter.unusedSimpArgs false

noncomputable section
mutual
def tallboyref02_Signed.j0 : Nat → ByteArray → Bool → Option (Int × Int)
 | 0, _, _ => none
 | k + 1, x0, x15 => if x15 = true then (if 1 ≤ (x0.size : Int) then ((tallboyref02_Parse.f k (sub x0 1 x0.size)).bind fun bt173 => (if bt173.2 = 0 then (tallboyref02_Signed.j1 k bt173.1 bt173.2 (decide (bt173.1 > 9223372036854775808))) else (tallboyref02_Signed.j1 k bt173.1 bt173.2 false))) else (none)) else ((tallboyref02_Parse.f k x0).bind fun bt175 => (if bt175.2 = 0 then (tallboyref02_Signed.j3 k bt175.1 bt175.2 (decide (bt175.1 > 9223372036854775807))) else (tallboyref02_Signed.j3 k bt175.1 bt175.2 false)))
def tallboyref02_Signed.j1 : Nat → Int → Int → Bool → Option (Int × Int)
 | 0, _, _, _ => none
 | k + 1, x4, x5, x27 => if x27 = true then (tallboyref02_Signed.j2 k x4 1) else (tallboyref02_Signed.j2 k x4 x5)
def tallboyref02_Signed.j2 : Nat → Int → Int → Option (Int × Int)
 | 0, _, _ => none
 | k + 1, x4, x5 => if x5 = 0 then (if x4 = 9223372036854775808 then (some ((-9223372036854775808), 0)) else (some (wrap64 (-(wrap64 (x4))), 0))) else (some (0, x5))
def tallboyref02_Signed.j3 : Nat → Int → Int → Bool → Option (Int × Int)
 | 0, _, _, _ => none
 | k + 1, x6, x7, x46 => if x46 = true then (if 1 = 0 then (some (wrap64 (x6), 0)) else (some (0, 1))) else (if x7 = 0 then (some (wrap64 (x6), 0)) else (some (0, x7)))
end
def tallboyref02_Signed.f (k : Nat) (a0 : ByteArray) : Option (Int × Int) := if (a0.size : Int) > 0 then (if 0 < (a0.size : Int) then (tallboyref02_Signed.j0 k a0 ((bt a0 0) == 45)) else (none)) else (tallboyref02_Signed.j0 k a0 false)
theorem tallboyref02_Signed.mono_l : ∀ k, (∀ y0 y1, LeO (tallboyref02_Signed.j0 k y0 y1) (tallboyref02_Signed.j0 (k + 1) y0 y1)) ∧ (∀ y0 y1 y2, LeO (tallboyref02_Signed.j1 k y0 y1 y2) (tallboyref02_Signed.j1 (k + 1) y0 y1 y2)) ∧ (∀ y0 y1, LeO (tallboyref02_Signed.j2 k y0 y1) (tallboyref02_Signed.j2 (k + 1) y0 y1)) ∧ (∀ y0 y1 y2, LeO (tallboyref02_Signed.j3 k y0 y1 y2) (tallboyref02_Signed.j3 (k + 1) y0 y1 y2))
 | 0 => ⟨fun _ _ r h => by simp [tallboyref02_Signed.j0] at h, fun _ _ _ r h => by simp [tallboyref02_Signed.j1] at h, fun _ _ r h => by simp [tallboyref02_Signed.j2] at h, fun _ _ _ r h => by simp [tallboyref02_Signed.j3] at h⟩
 | k + 1 => by
  obtain ⟨ih0, ih1, ih2, ih3⟩ := tallboyref02_Signed.mono_l k
  refine ⟨?_, ?_, ?_, ?_⟩
  all_goals
   intros
   first | unfold tallboyref02_Signed.j0 | unfold tallboyref02_Signed.j1 | unfold tallboyref02_Signed.j2 | unfold tallboyref02_Signed.j3
   repeat' first
   | (with_reducible exact ih0 _ _)
   | (with_reducible exact ih1 _ _ _)
   | (with_reducible exact ih2 _ _)
   | (with_reducible exact ih3 _ _ _)
   | (with_reducible exact tallboyref02_Parse.mono _ _)
   | (with_reducible exact LeO.refl _)
   | (with_reducible exact LeO.none _)
   | (with_reducible refine LeO.ite ?_ ?_)
   | (with_reducible refine LeO.bind ?_ (fun _ => ?_))
   | exact ih0 _ _
   | exact ih1 _ _ _
   | exact ih2 _ _
   | exact ih3 _ _ _
   | exact tallboyref02_Parse.mono _ _
   | exact LeO.none _
   | refine LeO.ite ?_ ?_
   | refine LeO.bind ?_ (fun _ => ?_)
theorem tallboyref02_Signed.mono : ∀ a0 k, LeO (tallboyref02_Signed.f k a0) (tallboyref02_Signed.f (k + 1) a0) := by
 intro a0 k
 obtain ⟨ih0, ih1, ih2, ih3⟩ := tallboyref02_Signed.mono_l k
 unfold tallboyref02_Signed.f
 repeat' first
  | (with_reducible exact ih0 _ _)
  | (with_reducible exact ih1 _ _ _)
  | (with_reducible exact ih2 _ _)
  | (with_reducible exact ih3 _ _ _)
  | (with_reducible exact tallboyref02_Parse.mono _ _)
  | (with_reducible exact LeO.refl _)
  | (with_reducible exact LeO.none _)
  | (with_reducible refine LeO.ite ?_ ?_)
  | (with_reducible refine LeO.bind ?_ (fun _ => ?_))
  | exact ih0 _ _
  | exact ih1 _ _ _
  | exact ih2 _ _
  | exact ih3 _ _ _
  | exact tallboyref02_Parse.mono _ _
  | exact LeO.none _
  | refine LeO.ite ?_ ?_
  | refine LeO.bind ?_ (fun _ => ?_)
set_option maxHeartbeats 8000000 in
set_option maxRecDepth 100000 in
theorem tallboyref02_Signed.calls (k : Nat) (a0 : ByteArray) (r1 : Int) (r2 : Int) (w : World) (h : tallboyref02_Signed.f k a0 = some (r1, r2)) :
 Calls Tryz.prog 40 #[.string a0] w fun e w' => e = .returned (.tuple #[.int .i64 r1, .int .i64 r2]) ∧ Drawn0 w w' := by
 have H : (if (a0.size : Int) > 0 then (if 0 < (a0.size : Int) then (tallboyref02_Signed.j0 k a0 ((bt a0 0) == 45)) else (none)) else (tallboyref02_Signed.j0 k a0 false)) = some (r1, r2) := h
 clear h
 have HC2 := Aside0.mk H
 clear H
 go_enter Tryz.func40, Tryz.ntmps40
 go_upto_region 1 with (fail)
 go_cut [15] (fun v15 wc => ∃ (kq : Nat) (x15_1 : Bool), v15 = .bool x15_1 ∧ Aside0 (tallboyref02_Signed.j0 kq a0 x15_1 = some (r1, r2)) ∧ Aside0 (kq ≤ k) ∧ Drawn0 w wc)
 case first =>
  have H := HC2.out
  clear HC2
  by_cases c3 : (a0.size : Int) > 0
  · rw [if_pos c3] at H
    have c3b0 : decide (0 < (a0.size : Int)) = true := decide_eq_true c3
    have c3b1 : decide (0 < a0.size) = true := decide_eq_true (by omega)
    clear c3
    (first | rw [c3b0] | (simp only [i64_w, i32_w]; rw [c3b0]) | skip)
    by_cases c4 : 0 < (a0.size : Int)
    · rw [if_pos c4] at H
      have c4b0 : decide (0 < (a0.size : Int)) = true := decide_eq_true c4
      have c4b1 : decide (0 < a0.size) = true := decide_eq_true (by omega)
      clear c4
      have H' := Aside0.mk H
      clear H
      have p5 : 0 ≤ (0 : Int) := (by omega)
      have q5 : 0 < a0.size := (by have : (0 : Int) < (a0.size : Int) := of_decide_eq_true asA; omega)
      have hx5 : ∀ h : 0 < a0.size, ((a0[0]'h).toNat : Int) = bt a0 0 := bt_at a0 0
      clear p5
      have qi5 : (0 < (a0.size : Int)) = True := eq_true (of_decide_eq_true asA)
      replace q5 := eq_true q5
      go_wp2
      go_meet
      case rel => exact ⟨_, (((bt a0 0) == 45)), rsA, H', ⟨by first | omega | exact Nat.le_refl _⟩, drA⟩
    rw [if_neg c4] at H
    exact absurd H (by simp)
  rw [if_neg c3] at H
  have c3b0 : decide (0 < (a0.size : Int)) = false := decide_eq_false c3
  have c3b1 : decide (0 < a0.size) = false := decide_eq_false (by omega)
  clear c3
  (first | rw [c3b0] | (simp only [i64_w, i32_w]; rw [c3b0]) | skip)
  have H' := Aside0.mk H
  clear H
  go_wp2
  go_meet
  case rel => exact ⟨_, (false), rsA, H', ⟨by first | omega | exact Nat.le_refl _⟩, drA⟩
 clear HC2
 (try clear p2); (try clear c3); (try clear c3b0); (try clear c3b1); (try clear c4); (try clear c4b0); (try clear c4b1); (try clear p5); (try clear q5); (try clear hx5); (try clear qi5); (try clear p5); (try clear q5)
 obtain ⟨kq, x15_1, rfl, HA, HJ1, ⟨mc1, rfl⟩⟩ := hcut
 cases kq with
 | zero => exact absurd HA.out (by simp [tallboyref02_Signed.j0])
 | succ kj1 =>
  have H := HA.out
  clear HA
  simp only [tallboyref02_Signed.j0] at H
  by_cases c6 : x15_1 = true
  · subst c6
    have H1 : (if 1 ≤ (a0.size : Int) then ((tallboyref02_Parse.f kj1 (sub a0 1 a0.size)).bind fun bt173 => (if bt173.2 = 0 then (tallboyref02_Signed.j1 kj1 bt173.1 bt173.2 (decide (bt173.1 > 9223372036854775808))) else (tallboyref02_Signed.j1 kj1 bt173.1 bt173.2 false))) else (none)) = some (r1, r2) := by rw [if_pos rfl] at H; exact H
    clear H
    have H := H1
    clear H1
    by_cases c7 : 1 ≤ (a0.size : Int)
    · rw [if_pos c7] at H
      have c7b0 := eq_true c7
      have c7b1 : decide (1 ≤ (a0.size : Int)) = true := decide_eq_true c7
      clear c7
      replace H := Option.bind_eq_some_iff.mp H
      obtain ⟨⟨t173, t174⟩, A80, H⟩ := H
      replace H : (if t174 = 0 then (tallboyref02_Signed.j1 kj1 t173 t174 (decide (t173 > 9223372036854775808))) else (tallboyref02_Signed.j1 kj1 t173 t174 false)) = some (r1, r2) := H
      have A8 := Aside0.mk A80
      clear A80
      have HC9 := Aside0.mk H
      clear H
      go_upto_region 3 with (first | ((with_reducible refine gate_callee (f := 41) rfl ?_); refine goesL_ (some 19) rfl rfl Tryz.func41 (by kernel_rfl) rfl #[.string (sub a0 1 a0.size)] rfl argA ?_; (with_reducible refine (tallboyref02_Parse.calls kj1 (sub a0 1 a0.size) t173 t174 _ A8.out).mono ?_); rintro e w' ⟨rfl, ⟨nd, rfl⟩⟩; refine ⟨_, rfl, ?_⟩))
      (try simp only [Act.put, List.setIfInBounds_toArray, List.set_cons_zero, List.set_cons_succ])
      go_cut [27] (fun v27 wc => ∃ (kq : Nat) (x27_8 : Bool), v27 = .bool x27_8 ∧ Aside0 (tallboyref02_Signed.j1 kq t173 t174 x27_8 = some (r1, r2)) ∧ Aside0 (kq ≤ kj1) ∧ Drawn0 w wc)
      case first =>
       have H := HC9.out
       clear HC9
       by_cases c10 : t174 = 0
       · rw [if_pos c10] at H
         have c10b0 : (t174 == 0) = true := beq_iff_eq.mpr c10
         have c10b1 : (t174 != 0) = false := bne_eq_false_iff_eq.mpr c10
         clear c10
         (first | rw [c10b0] | (simp only [i64_w, i32_w]; rw [c10b0]) | skip)
         have H' := Aside0.mk H
         clear H
         go_wp2
         go_meet
         case rel => exact ⟨_, (decide (t173 > 9223372036854775808)), rsA, H', ⟨by have := HJ1.out; first | omega | exact Nat.le_refl _⟩, drA⟩
       rw [if_neg c10] at H
       have c10b0 : (t174 == 0) = false := beq_eq_false_iff_ne.mpr c10
       have c10b1 : (t174 != 0) = true := bne_iff_ne.mpr c10
       (first | rw [c10b0] | (simp only [i64_w, i32_w]; rw [c10b0]) | skip)
       have H' := Aside0.mk H
       clear H
       go_wp2
       go_meet
       case rel => exact ⟨_, (false), rsA, H', ⟨by have := HJ1.out; first | omega | exact Nat.le_refl _⟩, drA⟩
      clear HC9
      (try clear c1); (try clear p2); (try clear c3); (try clear c3b0); (try clear c3b1); (try clear c4); (try clear c4b0); (try clear c4b1); (try clear p5); (try clear q5); (try clear hx5); (try clear qi5); (try clear c6); (try clear c7); (try clear c7b0); (try clear c7b1); (try clear c10); (try clear c10b0); (try clear c10b1); (try clear p2); (try clear p5); (try clear q5)
      obtain ⟨kq, x27_8, rfl, HA, HJ8, ⟨mc8, rfl⟩⟩ := hcut
      cases kq with
      | zero => exact absurd HA.out (by simp [tallboyref02_Signed.j1])
      | succ kj8 =>
       have H := HA.out
       clear HA
       simp only [tallboyref02_Signed.j1] at H
       have HC11 := Aside0.mk H
       clear H
       go_upto_if 27 with (fail)
       go_cut [5] (fun v5 wc => ∃ (kq : Nat) (x5_10 : Int), v5 = .int .i64 x5_10 ∧ Aside0 (tallboyref02_Signed.j2 kq t173 x5_10 = some (r1, r2)) ∧ Aside0 (kq ≤ kj8) ∧ Drawn0 w wc)
       case first =>
        have H := HC11.out
        clear HC11
        by_cases c12 : x27_8 = true
        · subst c12
          have H1 : (tallboyref02_Signed.j2 kj8 t173 1) = some (r1, r2) := by rw [if_pos rfl] at H; exact H
          clear H
          have H := H1
          clear H1
          have H' := Aside0.mk H
          clear H
          go_wp2
          go_meet
          case rel => exact ⟨_, (1), rsA, H', ⟨by have := HJ1.out; have := HJ8.out; first | omega | exact Nat.le_refl _⟩, drA⟩
        replace c12 := Bool.eq_false_iff.mpr c12
        subst c12
        have H1 : (tallboyref02_Signed.j2 kj8 t173 t174) = some (r1, r2) := by rw [if_neg (show ¬ (false = true) by decide)] at H; exact H
        clear H
        have H := H1
        clear H1
        have H' := Aside0.mk H
        clear H
        go_wp2
        go_meet
        case rel => exact ⟨_, (t174), rsA, H', ⟨by have := HJ1.out; have := HJ8.out; first | omega | exact Nat.le_refl _⟩, drA⟩
       clear HC11
       (try clear c1); (try clear p2); (try clear c3); (try clear c3b0); (try clear c3b1); (try clear c4); (try clear c4b0); (try clear c4b1); (try clear p5); (try clear q5); (try clear hx5); (try clear qi5); (try clear c6); (try clear c7); (try clear c7b0); (try clear c7b1); (try clear c8); (try clear c10); (try clear c10b0); (try clear c10b1); (try clear c12); (try clear p2); (try clear p5); (try clear q5)
       obtain ⟨kq, x5_10, rfl, HA, HJ10, ⟨mc10, rfl⟩⟩ := hcut
       cases kq with
       | zero => exact absurd HA.out (by simp [tallboyref02_Signed.j2])
       | succ kj10 =>
        have H := HA.out
        clear HA
        simp only [tallboyref02_Signed.j2] at H
        by_cases c13 : x5_10 = 0
        · rw [if_pos c13] at H
          have c13b0 : (x5_10 == 0) = true := beq_iff_eq.mpr c13
          have c13b1 : (x5_10 != 0) = false := bne_eq_false_iff_eq.mpr c13
          clear c13
          by_cases c14 : t173 = 9223372036854775808
          · rw [if_pos c14] at H
            have c14b0 : (t173 == 9223372036854775808) = true := beq_iff_eq.mpr c14
            have c14b1 : (t173 != 9223372036854775808) = false := bne_eq_false_iff_eq.mpr c14
            clear c14
            simp only [Option.some.injEq, Prod.mk.injEq] at H
            obtain ⟨rfl, rfl⟩ := H
            go_wp2
            go_ret2
            exact ⟨rsA, drA⟩
          rw [if_neg c14] at H
          have c14b0 : (t173 == 9223372036854775808) = false := beq_eq_false_iff_ne.mpr c14
          have c14b1 : (t173 != 9223372036854775808) = true := bne_iff_ne.mpr c14
          simp only [Option.some.injEq, Prod.mk.injEq] at H
          obtain ⟨rfl, rfl⟩ := H
          go_wp2
          go_ret2
          exact ⟨rsA, drA⟩
        rw [if_neg c13] at H
        have c13b0 : (x5_10 == 0) = false := beq_eq_false_iff_ne.mpr c13
        have c13b1 : (x5_10 != 0) = true := bne_iff_ne.mpr c13
        simp only [Option.some.injEq, Prod.mk.injEq] at H
        obtain ⟨rfl, rfl⟩ := H
        go_wp2
        go_ret2
        exact ⟨rsA, drA⟩
    rw [if_neg c7] at H
    exact absurd H (by simp)
  replace c6 := Bool.eq_false_iff.mpr c6
  subst c6
  have H1 : ((tallboyref02_Parse.f kj1 a0).bind fun bt175 => (if bt175.2 = 0 then (tallboyref02_Signed.j3 kj1 bt175.1 bt175.2 (decide (bt175.1 > 9223372036854775807))) else (tallboyref02_Signed.j3 kj1 bt175.1 bt175.2 false))) = some (r1, r2) := by rw [if_neg (show ¬ (false = true) by decide)] at H; exact H
  clear H
  have H := H1
  clear H1
  replace H := Option.bind_eq_some_iff.mp H
  obtain ⟨⟨t175, t176⟩, A150, H⟩ := H
  replace H : (if t176 = 0 then (tallboyref02_Signed.j3 kj1 t175 t176 (decide (t175 > 9223372036854775807))) else (tallboyref02_Signed.j3 kj1 t175 t176 false)) = some (r1, r2) := H
  have A15 := Aside0.mk A150
  clear A150
  have HC16 := Aside0.mk H
  clear H
  go_upto_region 11 with (first | ((with_reducible refine gate_callee (f := 41) rfl ?_); refine goesL_ (some 38) rfl rfl Tryz.func41 (by kernel_rfl) rfl #[.string a0] rfl argA ?_; (with_reducible refine (tallboyref02_Parse.calls kj1 a0 t175 t176 _ A15.out).mono ?_); rintro e w' ⟨rfl, ⟨nd, rfl⟩⟩; refine ⟨_, rfl, ?_⟩))
  (try simp only [Act.put, List.setIfInBounds_toArray, List.set_cons_zero, List.set_cons_succ])
  go_cut [46] (fun v46 wc => ∃ (kq : Nat) (x46_15 : Bool), v46 = .bool x46_15 ∧ Aside0 (tallboyref02_Signed.j3 kq t175 t176 x46_15 = some (r1, r2)) ∧ Aside0 (kq ≤ kj1) ∧ Drawn0 w wc)
  case first =>
   have H := HC16.out
   clear HC16
   by_cases c17 : t176 = 0
   · rw [if_pos c17] at H
     have c17b0 : (t176 == 0) = true := beq_iff_eq.mpr c17
     have c17b1 : (t176 != 0) = false := bne_eq_false_iff_eq.mpr c17
     clear c17
     (first | rw [c17b0] | (simp only [i64_w, i32_w]; rw [c17b0]) | skip)
     have H' := Aside0.mk H
     clear H
     go_wp2
     go_meet
     case rel => exact ⟨_, (decide (t175 > 9223372036854775807)), rsA, H', ⟨by have := HJ1.out; first | omega | exact Nat.le_refl _⟩, drA⟩
   rw [if_neg c17] at H
   have c17b0 : (t176 == 0) = false := beq_eq_false_iff_ne.mpr c17
   have c17b1 : (t176 != 0) = true := bne_iff_ne.mpr c17
   (first | rw [c17b0] | (simp only [i64_w, i32_w]; rw [c17b0]) | skip)
   have H' := Aside0.mk H
   clear H
   go_wp2
   go_meet
   case rel => exact ⟨_, (false), rsA, H', ⟨by have := HJ1.out; first | omega | exact Nat.le_refl _⟩, drA⟩
  clear HC16
  (try clear c1); (try clear p2); (try clear c3); (try clear c3b0); (try clear c3b1); (try clear c4); (try clear c4b0); (try clear c4b1); (try clear p5); (try clear q5); (try clear hx5); (try clear qi5); (try clear c6); (try clear c7); (try clear c7b0); (try clear c7b1); (try clear c8); (try clear c10); (try clear c10b0); (try clear c10b1); (try clear c12); (try clear c13); (try clear c13b0); (try clear c13b1); (try clear c14); (try clear c14b0); (try clear c14b1); (try clear c17); (try clear c17b0); (try clear c17b1); (try clear p2); (try clear p5); (try clear q5)
  obtain ⟨kq, x46_15, rfl, HA, HJ15, ⟨mc15, rfl⟩⟩ := hcut
  cases kq with
  | zero => exact absurd HA.out (by simp [tallboyref02_Signed.j3])
  | succ kj15 =>
   have H := HA.out
   clear HA
   simp only [tallboyref02_Signed.j3] at H
   by_cases c18 : x46_15 = true
   · subst c18
     have H1 : (if 1 = 0 then (some (wrap64 (t175), 0)) else (some (0, 1))) = some (r1, r2) := by rw [if_pos rfl] at H; exact H
     clear H
     have H := H1
     clear H1
     by_cases c19 : 1 = 0
     · exact absurd c19 (by decide)
     rw [if_neg c19] at H
     have c19b0 : (1 == 0) = false := beq_eq_false_iff_ne.mpr c19
     have c19b1 : (1 != 0) = true := bne_iff_ne.mpr c19
     simp only [Option.some.injEq, Prod.mk.injEq] at H
     obtain ⟨rfl, rfl⟩ := H
     go_wp2
     go_ret2
     exact ⟨rsA, drA⟩
   replace c18 := Bool.eq_false_iff.mpr c18
   subst c18
   have H1 : (if t176 = 0 then (some (wrap64 (t175), 0)) else (some (0, t176))) = some (r1, r2) := by rw [if_neg (show ¬ (false = true) by decide)] at H; exact H
   clear H
   have H := H1
   clear H1
   by_cases c20 : t176 = 0
   · rw [if_pos c20] at H
     have c20b0 : (t176 == 0) = true := beq_iff_eq.mpr c20
     have c20b1 : (t176 != 0) = false := bne_eq_false_iff_eq.mpr c20
     clear c20
     simp only [Option.some.injEq, Prod.mk.injEq] at H
     obtain ⟨rfl, rfl⟩ := H
     go_wp2
     go_ret2
     exact ⟨rsA, drA⟩
   rw [if_neg c20] at H
   have c20b0 : (t176 == 0) = false := beq_eq_false_iff_ne.mpr c20
   have c20b1 : (t176 != 0) = true := bne_iff_ne.mpr c20
   simp only [Option.some.injEq, Prod.mk.injEq] at H
   obtain ⟨rfl, rfl⟩ := H
   go_wp2
   go_ret2
   exact ⟨rsA, drA⟩

def tallboyref27_token.j0 : Nat → Int → Int → ByteArray → Bool → Option (Bool)
 | 0, _, _, _, _ => none
 | k + 1, x0, x1, x2, x57 => if x57 = true then (if 0 < (x2.size : Int) then ((tallboyref27_has.f k (⟨#[65, 69, 80, 82, 83]⟩ : ByteArray) (bt x2 0)).bind fun t187 => (some t187)) else (none)) else (if x1 = 77 then (if (x2.size : Int) = 1 then (if x0 = 4 then (if 0 < (x2.size : Int) then ((tallboyref27_has.f k (⟨#[73, 68]⟩ : ByteArray) (bt x2 0)).bind fun t188 => (some t188)) else (none)) else (some false)) else (some false)) else (some false))
def tallboyref27_token.f (k : Nat) (a0 : Int) (a1 : Int) (a2 : ByteArray) : Option (Bool) := (tallboyref27_has.f k (⟨#[98, 99, 102, 104, 107, 108, 113, 115, 116, 118, 120, 73]⟩ : ByteArray) a1).bind fun t177 => (if t177 = true then (some (a2.toList == ([] : List UInt8))) else ((tallboyref27_has.f k (⟨#[67, 68, 69, 74]⟩ : ByteArray) a1).bind fun t178 => (if t178 = true then ((tallboyref02_Parse.f k a2).bind fun bt179 => (some (bt179.2 == 0))) else (if a1 = 70 then ((tallboyref02_Parse.f k a2).bind fun bt181 => (if bt181.2 = 0 then (some (decide (bt181.1 < 4294967296))) else (some false))) else ((tallboyref27_has.f k (⟨#[78, 82, 84]⟩ : ByteArray) a1).bind fun t183 => (if t183 = true then ((tallboyref02_Signed.f k a2).bind fun bt184 => (some (bt184.2 == 0))) else (if a1 = 79 then ((tallboyref04_Key.f k a2).bind fun t186 => (some t186)) else (if a1 = 77 then (if (a2.size : Int) = 1 then (tallboyref27_token.j0 k a0 a1 a2 (a0 == 2)) else (tallboyref27_token.j0 k a0 a1 a2 false)) else (tallboyref27_token.j0 k a0 a1 a2 false)))))))))
theorem tallboyref27_token.mono_l : ∀ k, (∀ y0 y1 y2 y3, LeO (tallboyref27_token.j0 k y0 y1 y2 y3) (tallboyref27_token.j0 (k + 1) y0 y1 y2 y3))
 | 0 => fun _ _ _ _ r h => by simp [tallboyref27_token.j0] at h
 | k + 1 => by
  have ih0 := tallboyref27_token.mono_l k
  · intro y0 y1 y2 y3
    unfold tallboyref27_token.j0
    repeat' first
    | (with_reducible exact ih0 _ _ _ _)
    | (with_reducible exact tallboyref02_Parse.mono _ _)
    | (with_reducible exact tallboyref02_Signed.mono _ _)
    | (with_reducible exact tallboyref04_Key.mono _ _)
    | (with_reducible exact tallboyref27_has.mono _ _ _)
    | (with_reducible exact LeO.refl _)
    | (with_reducible exact LeO.none _)
    | (with_reducible refine LeO.ite ?_ ?_)
    | (with_reducible refine LeO.bind ?_ (fun _ => ?_))
    | exact ih0 _ _ _ _
    | exact tallboyref02_Parse.mono _ _
    | exact tallboyref02_Signed.mono _ _
    | exact tallboyref04_Key.mono _ _
    | exact tallboyref27_has.mono _ _ _
    | exact LeO.none _
    | refine LeO.ite ?_ ?_
    | refine LeO.bind ?_ (fun _ => ?_)
theorem tallboyref27_token.mono : ∀ a0 a1 a2 k, LeO (tallboyref27_token.f k a0 a1 a2) (tallboyref27_token.f (k + 1) a0 a1 a2) := by
 intro a0 a1 a2 k
 have ih0 := tallboyref27_token.mono_l k
 unfold tallboyref27_token.f
 repeat' first
  | (with_reducible exact ih0 _ _ _ _)
  | (with_reducible exact tallboyref02_Parse.mono _ _)
  | (with_reducible exact tallboyref02_Signed.mono _ _)
  | (with_reducible exact tallboyref04_Key.mono _ _)
  | (with_reducible exact tallboyref27_has.mono _ _ _)
  | (with_reducible exact LeO.refl _)
  | (with_reducible exact LeO.none _)
  | (with_reducible refine LeO.ite ?_ ?_)
  | (with_reducible refine LeO.bind ?_ (fun _ => ?_))
  | exact ih0 _ _ _ _
  | exact tallboyref02_Parse.mono _ _
  | exact tallboyref02_Signed.mono _ _
  | exact tallboyref04_Key.mono _ _
  | exact tallboyref27_has.mono _ _ _
  | exact LeO.none _
  | refine LeO.ite ?_ ?_
  | refine LeO.bind ?_ (fun _ => ?_)
set_option maxHeartbeats 8000000 in
set_option maxRecDepth 100000 in
theorem tallboyref27_token.calls (k : Nat) (a0 : Int) (a1 : Int) (a2 : ByteArray) (r : Bool) (w : World) (h : tallboyref27_token.f k a0 a1 a2 = some r) :
 Calls Tryz.prog 66 #[.int .i64 a0, .int .u8 a1, .string a2] w fun e w' => e = .returned (.bool r) ∧ Drawn0 w w' := by
 have H : ((tallboyref27_has.f k (⟨#[98, 99, 102, 104, 107, 108, 113, 115, 116, 118, 120, 73]⟩ : ByteArray) a1).bind fun t177 => (if t177 = true then (some (a2.toList == ([] : List UInt8))) else ((tallboyref27_has.f k (⟨#[67, 68, 69, 74]⟩ : ByteArray) a1).bind fun t178 => (if t178 = true then ((tallboyref02_Parse.f k a2).bind fun bt179 => (some (bt179.2 == 0))) else (if a1 = 70 then ((tallboyref02_Parse.f k a2).bind fun bt181 => (if bt181.2 = 0 then (some (decide (bt181.1 < 4294967296))) else (some false))) else ((tallboyref27_has.f k (⟨#[78, 82, 84]⟩ : ByteArray) a1).bind fun t183 => (if t183 = true then ((tallboyref02_Signed.f k a2).bind fun bt184 => (some (bt184.2 == 0))) else (if a1 = 79 then ((tallboyref04_Key.f k a2).bind fun t186 => (some t186)) else (if a1 = 77 then (if (a2.size : Int) = 1 then (tallboyref27_token.j0 k a0 a1 a2 (a0 == 2)) else (tallboyref27_token.j0 k a0 a1 a2 false)) else (tallboyref27_token.j0 k a0 a1 a2 false)))))))))) = some r := h
 clear h
 replace H := Option.bind_eq_some_iff.mp H
 obtain ⟨t177, A40, H⟩ := H
 replace H : (if t177 = true then (some (a2.toList == ([] : List UInt8))) else ((tallboyref27_has.f k (⟨#[67, 68, 69, 74]⟩ : ByteArray) a1).bind fun t178 => (if t178 = true then ((tallboyref02_Parse.f k a2).bind fun bt179 => (some (bt179.2 == 0))) else (if a1 = 70 then ((tallboyref02_Parse.f k a2).bind fun bt181 => (if bt181.2 = 0 then (some (decide (bt181.1 < 4294967296))) else (some false))) else ((tallboyref27_has.f k (⟨#[78, 82, 84]⟩ : ByteArray) a1).bind fun t183 => (if t183 = true then ((tallboyref02_Signed.f k a2).bind fun bt184 => (some (bt184.2 == 0))) else (if a1 = 79 then ((tallboyref04_Key.f k a2).bind fun t186 => (some t186)) else (if a1 = 77 then (if (a2.size : Int) = 1 then (tallboyref27_token.j0 k a0 a1 a2 (a0 == 2)) else (tallboyref27_token.j0 k a0 a1 a2 false)) else (tallboyref27_token.j0 k a0 a1 a2 false))))))))) = some r := H
 have A4 := Aside0.mk A40
 clear A40
 by_cases c5 : t177 = true
 · subst c5
   have H1 : (some (a2.toList == ([] : List UInt8))) = some r := by rw [if_pos rfl] at H; exact H
   clear H
   have H := H1
   clear H1
   obtain rfl := Option.some.inj H
   go_enter Tryz.func66, Tryz.ntmps66
   go_wp2_with (first | ((with_reducible refine gate_callee (f := 39) rfl ?_); refine goesL_ (some 15) rfl rfl Tryz.func39 (by kernel_rfl) rfl #[.string (⟨#[98, 99, 102, 104, 107, 108, 113, 115, 116, 118, 120, 73]⟩ : ByteArray), .int .u8 a1] rfl argA ?_; (with_reducible refine (tallboyref27_has.calls k (⟨#[98, 99, 102, 104, 107, 108, 113, 115, 116, 118, 120, 73]⟩ : ByteArray) a1 true _ A4.out).mono ?_); rintro e w' ⟨rfl, ⟨nd, rfl⟩⟩; refine ⟨_, rfl, ?_⟩))
   go_ret
   exact ⟨rsA, drA⟩
 replace c5 := Bool.eq_false_iff.mpr c5
 subst c5
 have H1 : ((tallboyref27_has.f k (⟨#[67, 68, 69, 74]⟩ : ByteArray) a1).bind fun t178 => (if t178 = true then ((tallboyref02_Parse.f k a2).bind fun bt179 => (some (bt179.2 == 0))) else (if a1 = 70 then ((tallboyref02_Parse.f k a2).bind fun bt181 => (if bt181.2 = 0 then (some (decide (bt181.1 < 4294967296))) else (some false))) else ((tallboyref27_has.f k (⟨#[78, 82, 84]⟩ : ByteArray) a1).bind fun t183 => (if t183 = true then ((tallboyref02_Signed.f k a2).bind fun bt184 => (some (bt184.2 == 0))) else (if a1 = 79 then ((tallboyref04_Key.f k a2).bind fun t186 => (some t186)) else (if a1 = 77 then (if (a2.size : Int) = 1 then (tallboyref27_token.j0 k a0 a1 a2 (a0 == 2)) else (tallboyref27_token.j0 k a0 a1 a2 false)) else (tallboyref27_token.j0 k a0 a1 a2 false)))))))) = some r := by rw [if_neg (show ¬ (false = true) by decide)] at H; exact H
 clear H
 have H := H1
 clear H1
 replace H := Option.bind_eq_some_iff.mp H
 obtain ⟨t178, A60, H⟩ := H
 replace H : (if t178 = true then ((tallboyref02_Parse.f k a2).bind fun bt179 => (some (bt179.2 == 0))) else (if a1 = 70 then ((tallboyref02_Parse.f k a2).bind fun bt181 => (if bt181.2 = 0 then (some (decide (bt181.1 < 4294967296))) else (some false))) else ((tallboyref27_has.f k (⟨#[78, 82, 84]⟩ : ByteArray) a1).bind fun t183 => (if t183 = true then ((tallboyref02_Signed.f k a2).bind fun bt184 => (some (bt184.2 == 0))) else (if a1 = 79 then ((tallboyref04_Key.f k a2).bind fun t186 => (some t186)) else (if a1 = 77 then (if (a2.size : Int) = 1 then (tallboyref27_token.j0 k a0 a1 a2 (a0 == 2)) else (tallboyref27_token.j0 k a0 a1 a2 false)) else (tallboyref27_token.j0 k a0 a1 a2 false))))))) = some r := H
 have A6 := Aside0.mk A60
 clear A60
 by_cases c7 : t178 = true
 · subst c7
   have H1 : ((tallboyref02_Parse.f k a2).bind fun bt179 => (some (bt179.2 == 0))) = some r := by rw [if_pos rfl] at H; exact H
   clear H
   have H := H1
   clear H1
   replace H := Option.bind_eq_some_iff.mp H
   obtain ⟨⟨t179, t180⟩, A80, H⟩ := H
   replace H : (some (t180 == 0)) = some r := H
   have A8 := Aside0.mk A80
   clear A80
   obtain rfl := Option.some.inj H
   go_enter Tryz.func66, Tryz.ntmps66
   go_wp2_with (first | ((with_reducible refine gate_callee (f := 39) rfl ?_); refine goesL_ (some 15) rfl rfl Tryz.func39 (by kernel_rfl) rfl #[.string (⟨#[98, 99, 102, 104, 107, 108, 113, 115, 116, 118, 120, 73]⟩ : ByteArray), .int .u8 a1] rfl argA ?_; (with_reducible refine (tallboyref27_has.calls k (⟨#[98, 99, 102, 104, 107, 108, 113, 115, 116, 118, 120, 73]⟩ : ByteArray) a1 false _ A4.out).mono ?_); rintro e w' ⟨rfl, ⟨nd, rfl⟩⟩; refine ⟨_, rfl, ?_⟩) | ((with_reducible refine gate_callee (f := 39) rfl ?_); refine goesL_ (some 20) rfl rfl Tryz.func39 (by kernel_rfl) rfl #[.string (⟨#[67, 68, 69, 74]⟩ : ByteArray), .int .u8 a1] rfl argA ?_; (with_reducible refine (tallboyref27_has.calls k (⟨#[67, 68, 69, 74]⟩ : ByteArray) a1 true _ A6.out).mono ?_); rintro e w' ⟨rfl, ⟨nd, rfl⟩⟩; refine ⟨_, rfl, ?_⟩) | ((with_reducible refine gate_callee (f := 41) rfl ?_); refine goesL_ (some 23) rfl rfl Tryz.func41 (by kernel_rfl) rfl #[.string a2] rfl argA ?_; (with_reducible refine (tallboyref02_Parse.calls k a2 t179 t180 _ A8.out).mono ?_); rintro e w' ⟨rfl, ⟨nd, rfl⟩⟩; refine ⟨_, rfl, ?_⟩))
   go_ret
   exact ⟨rsA, drA⟩
 replace c7 := Bool.eq_false_iff.mpr c7
 subst c7
 have H1 : (if a1 = 70 then ((tallboyref02_Parse.f k a2).bind fun bt181 => (if bt181.2 = 0 then (some (decide (bt181.1 < 4294967296))) else (some false))) else ((tallboyref27_has.f k (⟨#[78, 82, 84]⟩ : ByteArray) a1).bind fun t183 => (if t183 = true then ((tallboyref02_Signed.f k a2).bind fun bt184 => (some (bt184.2 == 0))) else (if a1 = 79 then ((tallboyref04_Key.f k a2).bind fun t186 => (some t186)) else (if a1 = 77 then (if (a2.size : Int) = 1 then (tallboyref27_token.j0 k a0 a1 a2 (a0 == 2)) else (tallboyref27_token.j0 k a0 a1 a2 false)) else (tallboyref27_token.j0 k a0 a1 a2 false)))))) = some r := by rw [if_neg (show ¬ (false = true) by decide)] at H; exact H
 clear H
 have H := H1
 clear H1
 by_cases c9 : a1 = 70
 · rw [if_pos c9] at H
   have c9b0 : (a1 == 70) = true := beq_iff_eq.mpr c9
   have c9b1 : (a1 != 70) = false := bne_eq_false_iff_eq.mpr c9
   clear c9
   replace H := Option.bind_eq_some_iff.mp H
   obtain ⟨⟨t181, t182⟩, A100, H⟩ := H
   replace H : (if t182 = 0 then (some (decide (t181 < 4294967296))) else (some false)) = some r := H
   have A10 := Aside0.mk A100
   clear A100
   by_cases c11 : t182 = 0
   · rw [if_pos c11] at H
     have c11b0 : (t182 == 0) = true := beq_iff_eq.mpr c11
     have c11b1 : (t182 != 0) = false := bne_eq_false_iff_eq.mpr c11
     clear c11
     obtain rfl := Option.some.inj H
     go_enter Tryz.func66, Tryz.ntmps66
     go_wp2_with (first | ((with_reducible refine gate_callee (f := 39) rfl ?_); refine goesL_ (some 15) rfl rfl Tryz.func39 (by kernel_rfl) rfl #[.string (⟨#[98, 99, 102, 104, 107, 108, 113, 115, 116, 118, 120, 73]⟩ : ByteArray), .int .u8 a1] rfl argA ?_; (with_reducible refine (tallboyref27_has.calls k (⟨#[98, 99, 102, 104, 107, 108, 113, 115, 116, 118, 120, 73]⟩ : ByteArray) a1 false _ A4.out).mono ?_); rintro e w' ⟨rfl, ⟨nd, rfl⟩⟩; refine ⟨_, rfl, ?_⟩) | ((with_reducible refine gate_callee (f := 39) rfl ?_); refine goesL_ (some 20) rfl rfl Tryz.func39 (by kernel_rfl) rfl #[.string (⟨#[67, 68, 69, 74]⟩ : ByteArray), .int .u8 a1] rfl argA ?_; (with_reducible refine (tallboyref27_has.calls k (⟨#[67, 68, 69, 74]⟩ : ByteArray) a1 false _ A6.out).mono ?_); rintro e w' ⟨rfl, ⟨nd, rfl⟩⟩; refine ⟨_, rfl, ?_⟩) | ((with_reducible refine gate_callee (f := 41) rfl ?_); refine goesL_ (some 33) rfl rfl Tryz.func41 (by kernel_rfl) rfl #[.string a2] rfl argA ?_; (with_reducible refine (tallboyref02_Parse.calls k a2 t181 t182 _ A10.out).mono ?_); rintro e w' ⟨rfl, ⟨nd, rfl⟩⟩; refine ⟨_, rfl, ?_⟩))
     go_ret
     exact ⟨rsA, drA⟩
   rw [if_neg c11] at H
   have c11b0 : (t182 == 0) = false := beq_eq_false_iff_ne.mpr c11
   have c11b1 : (t182 != 0) = true := bne_iff_ne.mpr c11
   obtain rfl := Option.some.inj H
   go_enter Tryz.func66, Tryz.ntmps66
   go_wp2_with (first | ((with_reducible refine gate_callee (f := 39) rfl ?_); refine goesL_ (some 15) rfl rfl Tryz.func39 (by kernel_rfl) rfl #[.string (⟨#[98, 99, 102, 104, 107, 108, 113, 115, 116, 118, 120, 73]⟩ : ByteArray), .int .u8 a1] rfl argA ?_; (with_reducible refine (tallboyref27_has.calls k (⟨#[98, 99, 102, 104, 107, 108, 113, 115, 116, 118, 120, 73]⟩ : ByteArray) a1 false _ A4.out).mono ?_); rintro e w' ⟨rfl, ⟨nd, rfl⟩⟩; refine ⟨_, rfl, ?_⟩) | ((with_reducible refine gate_callee (f := 39) rfl ?_); refine goesL_ (some 20) rfl rfl Tryz.func39 (by kernel_rfl) rfl #[.string (⟨#[67, 68, 69, 74]⟩ : ByteArray), .int .u8 a1] rfl argA ?_; (with_reducible refine (tallboyref27_has.calls k (⟨#[67, 68, 69, 74]⟩ : ByteArray) a1 false _ A6.out).mono ?_); rintro e w' ⟨rfl, ⟨nd, rfl⟩⟩; refine ⟨_, rfl, ?_⟩) | ((with_reducible refine gate_callee (f := 41) rfl ?_); refine goesL_ (some 33) rfl rfl Tryz.func41 (by kernel_rfl) rfl #[.string a2] rfl argA ?_; (with_reducible refine (tallboyref02_Parse.calls k a2 t181 t182 _ A10.out).mono ?_); rintro e w' ⟨rfl, ⟨nd, rfl⟩⟩; refine ⟨_, rfl, ?_⟩))
   go_ret
   exact ⟨rsA, drA⟩
 rw [if_neg c9] at H
 have c9b0 : (a1 == 70) = false := beq_eq_false_iff_ne.mpr c9
 have c9b1 : (a1 != 70) = true := bne_iff_ne.mpr c9
 replace H := Option.bind_eq_some_iff.mp H
 obtain ⟨t183, A120, H⟩ := H
 replace H : (if t183 = true then ((tallboyref02_Signed.f k a2).bind fun bt184 => (some (bt184.2 == 0))) else (if a1 = 79 then ((tallboyref04_Key.f k a2).bind fun t186 => (some t186)) else (if a1 = 77 then (if (a2.size : Int) = 1 then (tallboyref27_token.j0 k a0 a1 a2 (a0 == 2)) else (tallboyref27_token.j0 k a0 a1 a2 false)) else (tallboyref27_token.j0 k a0 a1 a2 false)))) = some r := H
 have A12 := Aside0.mk A120
 clear A120
 by_cases c13 : t183 = true
 · subst c13
   have H1 : ((tallboyref02_Signed.f k a2).bind fun bt184 => (some (bt184.2 == 0))) = some r := by rw [if_pos rfl] at H; exact H
   clear H
   have H := H1
   clear H1
   replace H := Option.bind_eq_some_iff.mp H
   obtain ⟨⟨t184, t185⟩, A140, H⟩ := H
   replace H : (some (t185 == 0)) = some r := H
   have A14 := Aside0.mk A140
   clear A140
   obtain rfl := Option.some.inj H
   go_enter Tryz.func66, Tryz.ntmps66
   go_wp2_with (first | ((with_reducible refine gate_callee (f := 39) rfl ?_); refine goesL_ (some 15) rfl rfl Tryz.func39 (by kernel_rfl) rfl #[.string (⟨#[98, 99, 102, 104, 107, 108, 113, 115, 116, 118, 120, 73]⟩ : ByteArray), .int .u8 a1] rfl argA ?_; (with_reducible refine (tallboyref27_has.calls k (⟨#[98, 99, 102, 104, 107, 108, 113, 115, 116, 118, 120, 73]⟩ : ByteArray) a1 false _ A4.out).mono ?_); rintro e w' ⟨rfl, ⟨nd, rfl⟩⟩; refine ⟨_, rfl, ?_⟩) | ((with_reducible refine gate_callee (f := 39) rfl ?_); refine goesL_ (some 20) rfl rfl Tryz.func39 (by kernel_rfl) rfl #[.string (⟨#[67, 68, 69, 74]⟩ : ByteArray), .int .u8 a1] rfl argA ?_; (with_reducible refine (tallboyref27_has.calls k (⟨#[67, 68, 69, 74]⟩ : ByteArray) a1 false _ A6.out).mono ?_); rintro e w' ⟨rfl, ⟨nd, rfl⟩⟩; refine ⟨_, rfl, ?_⟩) | ((with_reducible refine gate_callee (f := 39) rfl ?_); refine goesL_ (some 44) rfl rfl Tryz.func39 (by kernel_rfl) rfl #[.string (⟨#[78, 82, 84]⟩ : ByteArray), .int .u8 a1] rfl argA ?_; (with_reducible refine (tallboyref27_has.calls k (⟨#[78, 82, 84]⟩ : ByteArray) a1 true _ A12.out).mono ?_); rintro e w' ⟨rfl, ⟨nd, rfl⟩⟩; refine ⟨_, rfl, ?_⟩) | ((with_reducible refine gate_callee (f := 40) rfl ?_); refine goesL_ (some 47) rfl rfl Tryz.func40 (by kernel_rfl) rfl #[.string a2] rfl argA ?_; (with_reducible refine (tallboyref02_Signed.calls k a2 t184 t185 _ A14.out).mono ?_); rintro e w' ⟨rfl, ⟨nd, rfl⟩⟩; refine ⟨_, rfl, ?_⟩))
   go_ret
   exact ⟨rsA, drA⟩
 replace c13 := Bool.eq_false_iff.mpr c13
 subst c13
 have H1 : (if a1 = 79 then ((tallboyref04_Key.f k a2).bind fun t186 => (some t186)) else (if a1 = 77 then (if (a2.size : Int) = 1 then (tallboyref27_token.j0 k a0 a1 a2 (a0 == 2)) else (tallboyref27_token.j0 k a0 a1 a2 false)) else (tallboyref27_token.j0 k a0 a1 a2 false))) = some r := by rw [if_neg (show ¬ (false = true) by decide)] at H; exact H
 clear H
 have H := H1
 clear H1
 by_cases c15 : a1 = 79
 · rw [if_pos c15] at H
   have c15b0 : (a1 == 79) = true := beq_iff_eq.mpr c15
   have c15b1 : (a1 != 79) = false := bne_eq_false_iff_eq.mpr c15
   clear c15
   replace H := Option.bind_eq_some_iff.mp H
   obtain ⟨t186, A160, H⟩ := H
   replace H : (some t186) = some r := H
   have A16 := Aside0.mk A160
   clear A160
   obtain rfl := Option.some.inj H
   go_enter Tryz.func66, Tryz.ntmps66
   go_wp2_with (first | ((with_reducible refine gate_callee (f := 39) rfl ?_); refine goesL_ (some 15) rfl rfl Tryz.func39 (by kernel_rfl) rfl #[.string (⟨#[98, 99, 102, 104, 107, 108, 113, 115, 116, 118, 120, 73]⟩ : ByteArray), .int .u8 a1] rfl argA ?_; (with_reducible refine (tallboyref27_has.calls k (⟨#[98, 99, 102, 104, 107, 108, 113, 115, 116, 118, 120, 73]⟩ : ByteArray) a1 false _ A4.out).mono ?_); rintro e w' ⟨rfl, ⟨nd, rfl⟩⟩; refine ⟨_, rfl, ?_⟩) | ((with_reducible refine gate_callee (f := 39) rfl ?_); refine goesL_ (some 20) rfl rfl Tryz.func39 (by kernel_rfl) rfl #[.string (⟨#[67, 68, 69, 74]⟩ : ByteArray), .int .u8 a1] rfl argA ?_; (with_reducible refine (tallboyref27_has.calls k (⟨#[67, 68, 69, 74]⟩ : ByteArray) a1 false _ A6.out).mono ?_); rintro e w' ⟨rfl, ⟨nd, rfl⟩⟩; refine ⟨_, rfl, ?_⟩) | ((with_reducible refine gate_callee (f := 39) rfl ?_); refine goesL_ (some 44) rfl rfl Tryz.func39 (by kernel_rfl) rfl #[.string (⟨#[78, 82, 84]⟩ : ByteArray), .int .u8 a1] rfl argA ?_; (with_reducible refine (tallboyref27_has.calls k (⟨#[78, 82, 84]⟩ : ByteArray) a1 false _ A12.out).mono ?_); rintro e w' ⟨rfl, ⟨nd, rfl⟩⟩; refine ⟨_, rfl, ?_⟩) | ((with_reducible refine gate_callee (f := 82) rfl ?_); refine goesL_ (some 56) rfl rfl Tryz.func82 (by kernel_rfl) rfl #[.string a2] rfl argA ?_; (with_reducible refine (tallboyref04_Key.calls k a2 t186 _ A16.out).mono ?_); rintro e w' ⟨rfl, ⟨nd, rfl⟩⟩; refine ⟨_, rfl, ?_⟩))
   go_ret
   exact ⟨rsA, drA⟩
 rw [if_neg c15] at H
 have c15b0 : (a1 == 79) = false := beq_eq_false_iff_ne.mpr c15
 have c15b1 : (a1 != 79) = true := bne_iff_ne.mpr c15
 have HC17 := Aside0.mk H
 clear H
 go_enter Tryz.func66, Tryz.ntmps66
 go_upto_region 14 with (first | ((with_reducible refine gate_callee (f := 39) rfl ?_); refine goesL_ (some 15) rfl rfl Tryz.func39 (by kernel_rfl) rfl #[.string (⟨#[98, 99, 102, 104, 107, 108, 113, 115, 116, 118, 120, 73]⟩ : ByteArray), .int .u8 a1] rfl argA ?_; (with_reducible refine (tallboyref27_has.calls k (⟨#[98, 99, 102, 104, 107, 108, 113, 115, 116, 118, 120, 73]⟩ : ByteArray) a1 false _ A4.out).mono ?_); rintro e w' ⟨rfl, ⟨nd, rfl⟩⟩; refine ⟨_, rfl, ?_⟩) | ((with_reducible refine gate_callee (f := 39) rfl ?_); refine goesL_ (some 20) rfl rfl Tryz.func39 (by kernel_rfl) rfl #[.string (⟨#[67, 68, 69, 74]⟩ : ByteArray), .int .u8 a1] rfl argA ?_; (with_reducible refine (tallboyref27_has.calls k (⟨#[67, 68, 69, 74]⟩ : ByteArray) a1 false _ A6.out).mono ?_); rintro e w' ⟨rfl, ⟨nd, rfl⟩⟩; refine ⟨_, rfl, ?_⟩) | ((with_reducible refine gate_callee (f := 39) rfl ?_); refine goesL_ (some 44) rfl rfl Tryz.func39 (by kernel_rfl) rfl #[.string (⟨#[78, 82, 84]⟩ : ByteArray), .int .u8 a1] rfl argA ?_; (with_reducible refine (tallboyref27_has.calls k (⟨#[78, 82, 84]⟩ : ByteArray) a1 false _ A12.out).mono ?_); rintro e w' ⟨rfl, ⟨nd, rfl⟩⟩; refine ⟨_, rfl, ?_⟩))
 (try simp only [Act.put, List.setIfInBounds_toArray, List.set_cons_zero, List.set_cons_succ])
 go_cut [57] (fun v57 wc => ∃ (kq : Nat) (x57_16 : Bool), v57 = .bool x57_16 ∧ Aside0 (tallboyref27_token.j0 kq a0 a1 a2 x57_16 = some r) ∧ Aside0 (kq ≤ k) ∧ Drawn0 w wc)
 case first =>
  have H := HC17.out
  clear HC17
  by_cases c18 : a1 = 77
  · rw [if_pos c18] at H
    have c18b0 : (a1 == 77) = true := beq_iff_eq.mpr c18
    have c18b1 : (a1 != 77) = false := bne_eq_false_iff_eq.mpr c18
    clear c18
    (first | rw [c18b0] | (simp only [i64_w, i32_w]; rw [c18b0]) | skip)
    by_cases c19 : (a2.size : Int) = 1
    · rw [if_pos c19] at H
      have c19b0 : ((a2.size : Int) == 1) = true := beq_iff_eq.mpr c19
      have c19b1 : ((a2.size : Int) != 1) = false := bne_eq_false_iff_eq.mpr c19
      clear c19
      have H' := Aside0.mk H
      clear H
      go_wp2
      go_meet
      case rel => exact ⟨_, ((a0 == 2)), rsA, H', ⟨by first | omega | exact Nat.le_refl _⟩, drA⟩
    rw [if_neg c19] at H
    have c19b0 : ((a2.size : Int) == 1) = false := beq_eq_false_iff_ne.mpr c19
    have c19b1 : ((a2.size : Int) != 1) = true := bne_iff_ne.mpr c19
    have H' := Aside0.mk H
    clear H
    go_wp2
    go_meet
    case rel => exact ⟨_, (false), rsA, H', ⟨by first | omega | exact Nat.le_refl _⟩, drA⟩
  rw [if_neg c18] at H
  have c18b0 : (a1 == 77) = false := beq_eq_false_iff_ne.mpr c18
  have c18b1 : (a1 != 77) = true := bne_iff_ne.mpr c18
  (first | rw [c18b0] | (simp only [i64_w, i32_w]; rw [c18b0]) | skip)
  have H' := Aside0.mk H
  clear H
  go_wp2
  go_meet
  case rel => exact ⟨_, (false), rsA, H', ⟨by first | omega | exact Nat.le_refl _⟩, drA⟩
 clear HC17
 (try clear c1); (try clear p2); (try clear c3); (try clear c4); (try clear c5); (try clear c6); (try clear c7); (try clear c8); (try clear c9); (try clear c9b0); (try clear c9b1); (try clear c11); (try clear c11b0); (try clear c11b1); (try clear c13); (try clear c15); (try clear c15b0); (try clear c15b1); (try clear c18); (try clear c18b0); (try clear c18b1); (try clear c19); (try clear c19b0); (try clear c19b1)
 obtain ⟨kq, x57_16, rfl, HA, HJ16, ⟨mc16, rfl⟩⟩ := hcut
 cases kq with
 | zero => exact absurd HA.out (by simp [tallboyref27_token.j0])
 | succ kj16 =>
  have H := HA.out
  clear HA
  simp only [tallboyref27_token.j0] at H
  by_cases c20 : x57_16 = true
  · subst c20
    have H1 : (if 0 < (a2.size : Int) then ((tallboyref27_has.f kj16 (⟨#[65, 69, 80, 82, 83]⟩ : ByteArray) (bt a2 0)).bind fun t187 => (some t187)) else (none)) = some r := by rw [if_pos rfl] at H; exact H
    clear H
    have H := H1
    clear H1
    by_cases c21 : 0 < (a2.size : Int)
    · rw [if_pos c21] at H
      have c21b0 : decide (0 < (a2.size : Int)) = true := decide_eq_true c21
      have c21b1 : decide (0 < a2.size) = true := decide_eq_true (by omega)
      clear c21
      replace H := Option.bind_eq_some_iff.mp H
      obtain ⟨t187, A230, H⟩ := H
      replace H : (some t187) = some r := H
      have A23 := Aside0.mk A230
      clear A230
      obtain rfl := Option.some.inj H
      have p22 : 0 ≤ (0 : Int) := (by omega)
      have q22 : 0 < a2.size := (by have : (0 : Int) < (a2.size : Int) := of_decide_eq_true asA; omega)
      have hx22 : ∀ h : 0 < a2.size, ((a2[0]'h).toNat : Int) = bt a2 0 := bt_at a2 0
      clear p22
      have qi22 : (0 < (a2.size : Int)) = True := eq_true (of_decide_eq_true asA)
      replace q22 := eq_true q22
      go_wp2_with (first | ((with_reducible refine gate_callee (f := 39) rfl ?_); refine goesL_ (some 71) rfl rfl Tryz.func39 (by kernel_rfl) rfl #[.string (⟨#[65, 69, 80, 82, 83]⟩ : ByteArray), .int .u8 (bt a2 0)] rfl argA ?_; (with_reducible refine (tallboyref27_has.calls kj16 (⟨#[65, 69, 80, 82, 83]⟩ : ByteArray) (bt a2 0) t187 _ A23.out).mono ?_); rintro e w' ⟨rfl, ⟨nd, rfl⟩⟩; refine ⟨_, rfl, ?_⟩))
      go_ret
      exact ⟨rsA, drA⟩
    rw [if_neg c21] at H
    exact absurd H (by simp)
  replace c20 := Bool.eq_false_iff.mpr c20
  subst c20
  have H1 : (if a1 = 77 then (if (a2.size : Int) = 1 then (if a0 = 4 then (if 0 < (a2.size : Int) then ((tallboyref27_has.f kj16 (⟨#[73, 68]⟩ : ByteArray) (bt a2 0)).bind fun t188 => (some t188)) else (none)) else (some false)) else (some false)) else (some false)) = some r := by rw [if_neg (show ¬ (false = true) by decide)] at H; exact H
  clear H
  have H := H1
  clear H1
  by_cases c24 : a1 = 77
  · rw [if_pos c24] at H
    have c24b0 : (a1 == 77) = true := beq_iff_eq.mpr c24
    have c24b1 : (a1 != 77) = false := bne_eq_false_iff_eq.mpr c24
    clear c24
    by_cases c25 : (a2.size : Int) = 1
    · rw [if_pos c25] at H
      have c25b0 : ((a2.size : Int) == 1) = true := beq_iff_eq.mpr c25
      have c25b1 : ((a2.size : Int) != 1) = false := bne_eq_false_iff_eq.mpr c25
      clear c25
      by_cases c26 : a0 = 4
      · rw [if_pos c26] at H
        have c26b0 : (a0 == 4) = true := beq_iff_eq.mpr c26
        have c26b1 : (a0 != 4) = false := bne_eq_false_iff_eq.mpr c26
        clear c26
        by_cases c27 : 0 < (a2.size : Int)
        · rw [if_pos c27] at H
          have c27b0 : decide (0 < (a2.size : Int)) = true := decide_eq_true c27
          have c27b1 : decide (0 < a2.size) = true := decide_eq_true (by omega)
          clear c27
          replace H := Option.bind_eq_some_iff.mp H
          obtain ⟨t188, A290, H⟩ := H
          replace H : (some t188) = some r := H
          have A29 := Aside0.mk A290
          clear A290
          obtain rfl := Option.some.inj H
          have p28 : 0 ≤ (0 : Int) := (by omega)
          have q28 : 0 < a2.size := (by have : (0 : Int) < (a2.size : Int) := of_decide_eq_true asA; omega)
          have hx28 : ∀ h : 0 < a2.size, ((a2[0]'h).toNat : Int) = bt a2 0 := bt_at a2 0
          clear p28
          have qi28 : (0 < (a2.size : Int)) = True := eq_true (of_decide_eq_true asA)
          replace q28 := eq_true q28
          go_wp2_with (first | ((with_reducible refine gate_callee (f := 39) rfl ?_); refine goesL_ (some 86) rfl rfl Tryz.func39 (by kernel_rfl) rfl #[.string (⟨#[73, 68]⟩ : ByteArray), .int .u8 (bt a2 0)] rfl argA ?_; (with_reducible refine (tallboyref27_has.calls kj16 (⟨#[73, 68]⟩ : ByteArray) (bt a2 0) t188 _ A29.out).mono ?_); rintro e w' ⟨rfl, ⟨nd, rfl⟩⟩; refine ⟨_, rfl, ?_⟩))
          go_ret
          exact ⟨rsA, drA⟩
        rw [if_neg c27] at H
        exact absurd H (by simp)
      rw [if_neg c26] at H
      have c26b0 : (a0 == 4) = false := beq_eq_false_iff_ne.mpr c26
      have c26b1 : (a0 != 4) = true := bne_iff_ne.mpr c26
      obtain rfl := Option.some.inj H
      go_wp2
      go_ret
      exact ⟨rsA, drA⟩
    rw [if_neg c25] at H
    have c25b0 : ((a2.size : Int) == 1) = false := beq_eq_false_iff_ne.mpr c25
    have c25b1 : ((a2.size : Int) != 1) = true := bne_iff_ne.mpr c25
    obtain rfl := Option.some.inj H
    go_wp2
    go_ret
    exact ⟨rsA, drA⟩
  rw [if_neg c24] at H
  have c24b0 : (a1 == 77) = false := beq_eq_false_iff_ne.mpr c24
  have c24b1 : (a1 != 77) = true := bne_iff_ne.mpr c24
  obtain rfl := Option.some.inj H
  go_wp2
  go_ret
  exact ⟨rsA, drA⟩

end
end Go.Proofs.YtfboejlemnfndaaGreatDoor.XMk
end
