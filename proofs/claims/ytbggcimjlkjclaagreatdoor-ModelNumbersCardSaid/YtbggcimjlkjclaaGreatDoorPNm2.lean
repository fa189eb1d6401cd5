/- Put together by wip/pack.py (this session's own program) out of this session's texts; a kit's tool laid the words and the shelf, of which only what is used stands here. Lean checks it. -/
import Derived.Test.YtbggcimjlkjclaaGreatDoorPNm1
import Derived.Deep.MidRow
import Derived.Deep.WholeRow
import Derived.Lib.BufferWrite
import Derived.Lib.Hide
import Derived.Laws.IdiomStrings
import Derived.Lib.BufferMore
import Derived.Laws.ResultCell
import Derived.Deep.RegionHeld3
import Derived.Deep.DrawnRows
import Derived.Deep.DeepCutAuto
import Derived.WalkSpells
import Derived.StillTactics
import Derived.Deep.QuietTactic
import Derived.BigQuiet
import Derived.Test.YtbggcimjlkjclaaGreatDoorProg
import Derived.Lib.Split
import Derived.Lib.Join
import Derived.Lib.ItoaNum
import Derived.Lib.ParseIntB
import Derived.Lib.IndexBytes
section
namespace Go.Proofs.YtbggcimjlkjclaaGreatDoor.XMd
open Go.RowKit Go.Proofs.YtbggcimjlkjclaaGreatDoorW.PrintWords Go.Proofs.YtbggcimjlkjclaaGreatDoorW.PrintLast Go.Proofs.YtbggcimjlkjclaaGreatDoorW.PrintMore
attribute [local go_sem] extract_sub max2_int min2_int max_two min_two max_three min_three max_four min_four   -- for this text's walks alone
set_option linter.unusedVariables false
set_option linter.unusedSimpArgs false

noncomputable section
def strconv_FormatUint_41.f (a0 : Int) (a1 : Int) : Option (ByteArray) := (strconv_FormatUint_60.f a0 a1).bind fun t113 => (some t113)
set_option maxHeartbeats 8000000 in
set_option maxRecDepth 100000 in
theorem strconv_FormatUint_41.calls (a0 : Int) (a1 : Int) (r : ByteArray) (w : World) (hv : Vars w) (h : strconv_FormatUint_41.f a0 a1 = some r) :
 Calls Tryz.prog 41 #[.int .u64 a0, .int .i64 a1] w fun e w' => e = .returned (.string r) ∧ Below w.heap.size w w' := by
 have HV := Aside0.mk hv
 clear hv
 have HB := Aside0.mk (Below.refl w.heap.size w)
 have H : ((strconv_FormatUint_60.f a0 a1).bind fun t113 => (some t113)) = some r := h
 clear h
 replace H := Option.bind_eq_some_iff.mp H
 obtain ⟨t113, A30, H⟩ := H
 replace H : (some t113) = some r := H
 have A3 := Aside0.mk A30
 clear A30
 obtain rfl := Option.some.inj H
 go_enter Tryz.func41, Tryz.ntmps41
 go_wp2_with (first | ((with_reducible refine gate_callee (f := 60) rfl ?_); refine goesL_ (some 7) rfl rfl Tryz.func60 (by kernel_rfl) rfl #[.int .u64 a0, .int .i64 a1] rfl argA ?_; (with_reducible refine (strconv_FormatUint_60.calls a0 a1 t113 _ ?side1 A3.out).mono ?_); (case side1 => exact Vars.below HV.out (hbA HB.out)); rintro e w4 ⟨rfl, hb⟩; refine ⟨_, rfl, ?_⟩; replace HB := Aside0.mk (below_step (hbA HB.out) hb); (try clear hb); (try clear hb2); (try clear hk); (try clear hi)))
 go_ret
 exact ⟨reA, hbA HB.out⟩

def digits_Text.f (a0 : Int) : Option (ByteArray) := (strconv_FormatUint_41.f a0 10).bind fun t114 => (some t114)
set_option maxHeartbeats 8000000 in
set_option maxRecDepth 100000 in
theorem digits_Text.calls (a0 : Int) (r : ByteArray) (w : World) (hv : Vars w) (h : digits_Text.f a0 = some r) :
 Calls Tryz.prog 34 #[.int .u64 a0] w fun e w' => e = .returned (.string r) ∧ Below w.heap.size w w' := by
 have HV := Aside0.mk hv
 clear hv
 have HB := Aside0.mk (Below.refl w.heap.size w)
 have H : ((strconv_FormatUint_41.f a0 10).bind fun t114 => (some t114)) = some r := h
 clear h
 replace H := Option.bind_eq_some_iff.mp H
 obtain ⟨t114, A20, H⟩ := H
 replace H : (some t114) = some r := H
 have A2 := Aside0.mk A20
 clear A20
 obtain rfl := Option.some.inj H
 go_enter Tryz.func34, Tryz.ntmps34
 go_wp2_with (first | ((with_reducible refine gate_callee (f := 41) rfl ?_); refine goesL_ (some 4) rfl rfl Tryz.func41 (by kernel_rfl) rfl #[.int .u64 a0, .int .i64 10] rfl argA ?_; (with_reducible refine (strconv_FormatUint_41.calls a0 10 t114 _ ?side1 A2.out).mono ?_); (case side1 => exact Vars.below HV.out (hbA HB.out)); rintro e w3 ⟨rfl, hb⟩; refine ⟨_, rfl, ?_⟩; replace HB := Aside0.mk (below_step (hbA HB.out) hb); (try clear hb); (try clear hb2); (try clear hk); (try clear hi)))
 go_ret
 exact ⟨reA, hbA HB.out⟩

def tallboylaw15_Own.f (a0_0 : Int) (l0_1 : List ByteArray) (a0_2 : Int) (a0_3 : Int) (a0_4 : ByteArray) (a0_5 : Int) (a0_6 : Int) (a0_7 : Bool) : Option (Int × List ByteArray × Int × Int × ByteArray × Int × Int × Bool) := (some (([] : List ByteArray) : List ByteArray)).bind fun y117 => (if y117.length + l0_1.length < 8796093022208 then (some (a0_0, (y117 ++ l0_1), a0_2, a0_3, a0_4, a0_5, a0_6, a0_7)) else (none))
set_option maxHeartbeats 8000000 in
set_option maxRecDepth 100000 in
theorem tallboylaw15_Own.calls (a0_0 : Int) (A0_1 : Option Addr) (c0_1 : Nat) (l0_1 : List ByteArray) (a0_2 : Int) (a0_3 : Int) (a0_4 : ByteArray) (a0_5 : Int) (a0_6 : Int) (a0_7 : Bool) (r1 : Int) (r2 : List ByteArray) (r3 : Int) (r4 : Int) (r5 : ByteArray) (r6 : Int) (r7 : Int) (r8 : Bool) (w : World) (hr0_1 : Kd.C Kd.string w A0_1 l0_1.length l0_1) (hc0_1 : l0_1.length ≤ c0_1) (h : tallboylaw15_Own.f a0_0 l0_1 a0_2 a0_3 a0_4 a0_5 a0_6 a0_7 = some (r1, r2, r3, r4, r5, r6, r7, r8)) :
 Calls Tryz.prog 8 #[.agg #[.int .i64 a0_0, .slice A0_1 l0_1.length c0_1, .int .u32 a0_2, .int .i64 a0_3, .string a0_4, .int .u64 a0_5, .int .u64 a0_6, .bool a0_7]] w fun e w' => ∃ v1_ : Value, e = .returned (.agg #[.int .i64 r1, v1_, .int .u32 r3, .int .i64 r4, .string r5, .int .u64 r6, .int .u64 r7, .bool r8]) ∧ Kd.R Kd.string 9 w' w.heap.size (fun _ => True) v1_ r2 ∧ Below w.heap.size w w' := by
 have hu31 := Tryz.underlying31
 have HR0_1 := Aside0.mk hr0_1
 have HC0_1 := Aside0.mk hc0_1
 clear hr0_1 hc0_1
 have HB := Aside0.mk (Below.refl w.heap.size w)
 have H : ((some (([] : List ByteArray) : List ByteArray)).bind fun y117 => (if y117.length + l0_1.length < 8796093022208 then (some (a0_0, (y117 ++ l0_1), a0_2, a0_3, a0_4, a0_5, a0_6, a0_7)) else (none))) = some (r1, r2, r3, r4, r5, r6, r7, r8) := h
 clear h
 obtain ⟨y117, hy117⟩ : ∃ y_ : List ByteArray, y_ = (([] : List ByteArray)) := ⟨_, rfl⟩
 replace H : (if y117.length + l0_1.length < 8796093022208 then (some (a0_0, (y117 ++ l0_1), a0_2, a0_3, a0_4, a0_5, a0_6, a0_7)) else (none)) = some (r1, r2, r3, r4, r5, r6, r7, r8) := by first | (rw [hy117]; with_reducible exact H) | (have H2_ := (Option.bind_some _ _).symm.trans H; rw [hy117]; with_reducible exact H2_) | (have H2_ := (Option.bind_some _ _).symm.trans H; with_reducible exact H2_) | with_reducible exact H | (rw [hy117]; exact H) | exact H
 have Ny117 := Aside0.mk hy117
 clear hy117
 by_cases c2 : y117.length + l0_1.length < 8796093022208
 · rw [if_pos c2] at H
   have LMc2 := Aside0.mk c2
   clear c2
   obtain ⟨y120, hy120⟩ : ∃ y_ : List ByteArray, y_ = (y117 ++ l0_1) := ⟨_, rfl⟩
   replace H : (some (a0_0, y120, a0_2, a0_3, a0_4, a0_5, a0_6, a0_7)) = some (r1, r2, r3, r4, r5, r6, r7, r8) := by first | (rw [hy120]; with_reducible exact H) | (have H2_ := (Option.bind_some _ _).symm.trans H; rw [hy120]; with_reducible exact H2_) | (have H2_ := (Option.bind_some _ _).symm.trans H; with_reducible exact H2_) | with_reducible exact H | (rw [hy120]; exact H) | exact H
   have Ny120 := Aside0.mk hy120
   clear hy120
   simp only [Option.some.injEq, Prod.mk.injEq] at H
   obtain ⟨rfl, rfl, rfl, rfl, rfl, rfl, rfl, rfl⟩ := H
   go_enter Tryz.func8, Tryz.ntmps8
   go_wp2_with (first | ((with_reducible refine gate_dst (N := 1) rfl ?_); refine box_event ?hg (N := 1) ?hd (cs := #[.int .i64 a0_0, .slice A0_1 l0_1.length c0_1, .int .u32 a0_2, .int .i64 a0_3, .string a0_4, .int .u64 a0_5, .int .u64 a0_6, .bool a0_7]) (t := 31) ?hr ?_; (case hd => rfl); (case hg => rfl); (case hr => first | (go_simp; done) | (go_simp; rfl)); intro gb115 hg w3 hbox hb; have n0_ := Aside0.mk (below_step (hbA HB.out) hb); have n1_ := Aside0.mk (hbox); have n2_ := Aside0.mk ((by rw [hg]; exact (below_size (hbA HB.out)) : w.heap.size ≤ gb115)); have n3_ := Aside0.mk ((by rw [hg]; exact (below_size (hbA HB.out)) : w.heap.size ≤ gb115)); clear HB; have HB := n0_; have BK115 := n1_; have GW115 := n2_; have GE115 := n3_; clear n0_ n1_ n2_ n3_; clear hb hbox hg) | ((with_reducible refine gate_dst (N := 2) rfl ?_); refine box_event ?hg (N := 2) ?hd (cs := #[.int .i64 0, .slice none 0 0, .int .u32 0, .int .i64 0, .string (⟨#[]⟩ : ByteArray), .int .u64 0, .int .u64 0, .bool false]) (t := 31) ?hr ?_; (case hd => rfl); (case hg => rfl); (case hr => first | (go_simp; done) | (go_simp; rfl)); intro gb116 hg w4 hbox hb; have n0_ := Aside0.mk (blk_below (g := gb115) (o := .cells #[.int .i64 a0_0, .slice A0_1 l0_1.length c0_1, .int .u32 a0_2, .int .i64 a0_3, .string a0_4, .int .u64 a0_5, .int .u64 a0_6, .bool a0_7] 31 (0, 0)) (rbA BK115.out) hb); have n1_ := Aside0.mk (below_step (hbA HB.out) hb); have n2_ := Aside0.mk (hbox); have n3_ := Aside0.mk ((by rw [hg]; exact (below_size (hbA HB.out)) : w.heap.size ≤ gb116)); have n4_ := Aside0.mk ((by rw [hg]; exact (below_size (hbA HB.out)) : w.heap.size ≤ gb116)); have n5_ := Aside0.mk ((by rw [hg]; exact Nat.ne_of_lt (blk_lt (g := gb115) (o := .cells #[.int .i64 a0_0, .slice A0_1 l0_1.length c0_1, .int .u32 a0_2, .int .i64 a0_3, .string a0_4, .int .u64 a0_5, .int .u64 a0_6, .bool a0_7] 31 (0, 0)) (rbA BK115.out)) : gb115 ≠ gb116)); have n6_ := Aside0.mk ((by rw [hg]; exact Nat.ne_of_gt (blk_lt (g := gb115) (o := .cells #[.int .i64 a0_0, .slice A0_1 l0_1.length c0_1, .int .u32 a0_2, .int .i64 a0_3, .string a0_4, .int .u64 a0_5, .int .u64 a0_6, .bool a0_7] 31 (0, 0)) (rbA BK115.out)) : gb116 ≠ gb115)); clear BK115; clear HB; have BK115 := n0_; have HB := n1_; have BK116 := n2_; have GW116 := n3_; have GE116 := n4_; have NB115_116 := n5_; have NB116_115 := n6_; clear n0_ n1_ n2_ n3_ n4_ n5_ n6_; clear hb hbox hg) | ((with_reducible refine gate_dst (N := 3) rfl ?_); refine Kd.R_lit Kd.string _ 9 ?hg (N := 3) ?hd (xs := ([] : List ByteArray)) (inner := []) (ok := fun _ => True) (okp := fun _ => True) ?hr ?hp (fun _ hk => hk) trivial (Below.refl _ _) (Nat.le_refl _) (by simp) ?_; (case hd => rfl); (case hg => rfl); (case hr => first | (go_simp; done) | (go_simp; rfl)); (case hp => exact (Reps.none _ _)); intro v118 w5 ho6 hb hg_ hnew_; clear hg_ hnew_; (first | rw [← Ny117.out] at ho6 | (simp only [Int.reduceToNat] at ho6; rw [← Ny117.out] at ho6)); have n0_ := Aside0.mk (Kd.R_lower ho6 (below_size (hbA HB.out))); have n1_ := Aside0.mk (blk_below (g := gb115) (o := .cells #[.int .i64 a0_0, .slice A0_1 l0_1.length c0_1, .int .u32 a0_2, .int .i64 a0_3, .string a0_4, .int .u64 a0_5, .int .u64 a0_6, .bool a0_7] 31 (0, 0)) (rbA BK115.out) hb); have n2_ := Aside0.mk (blk_below (g := gb116) (o := .cells #[.int .i64 0, .slice none 0 0, .int .u32 0, .int .i64 0, .string (⟨#[]⟩ : ByteArray), .int .u64 0, .int .u64 0, .bool false] 31 (0, 0)) (rbA BK116.out) hb); have n3_ := Aside0.mk (below_step (hbA HB.out) hb); clear BK115; clear BK116; clear HB; have HO119 := n0_; have BK115 := n1_; have BK116 := n2_; have HB := n3_; clear n0_ n1_ n2_ n3_; clear hb ho6; have hnb7 := NB115_116.out; have hnc7 := NB116_115.out; obtain ⟨hcz8_0, hcz8_1, hcz8_2, hcz8_3, hcz8_4, hcz8_5, hcz8_6, hcz8_7, hfz8_0, hfz8_1, hfz8_2, hfz8_3, hfz8_4, hfz8_5, hfz8_6, hfz8_7⟩ := blkA8 BK115.out) | ((with_reducible refine gate_builtin (b := .append) (xs := #[.tmp 3, .tmp 5]) rfl ?_); at_builtin; refine Kd.R_append_rows Kd.string (w0 := w) w.heap.size rfl (.tmp 3) (.tmp 5) 28 9 (.string ⟨#[]⟩) 16 rfl Tryz.underlying28 info9 rfl (by decide) (by omega) v118 y117 l0_1 _ _ _ (fun _ => True) (fun _ => False) rfl rfl ?aO ?aR (fun _ _ h => h) (fun _ h => h.elim) ?aF ?aB ?aS ?aL ?_; (case aR => repeat (first | exact (Kd.C_below HR0_1.out HB.out) | (with_reducible refine Kd.C_alloc ?_ _) | (with_reducible refine Kd.C_drewN ?_ _) | (with_reducible refine Kd.C_drew ?_))); (case aB => exact (hbA HB.out)); (case aF => exact (fun _ _ => trivial)); (case aO => exact (rdA HO119.out)); (case aS => exact (below_size (hbA HB.out))); (case aL => have := LMc2.out; omega); intro v121 w9 ho hb hg hat; rw [← Ny120.out] at ho; have n0_ := Aside0.mk (blk_grown (g := gb115) (o := .cells #[.int .i64 a0_0, .slice A0_1 l0_1.length c0_1, .int .u32 a0_2, .int .i64 a0_3, .string a0_4, .int .u64 a0_5, .int .u64 a0_6, .bool a0_7] 31 (0, 0)) (rbA BK115.out) hg (Kd.R_ne HO119.out BK115.out (by decide))); have n1_ := Aside0.mk (blk_grown (g := gb116) (o := .cells #[.int .i64 0, .slice none 0 0, .int .u32 0, .int .i64 0, .string (⟨#[]⟩ : ByteArray), .int .u64 0, .int .u64 0, .bool false] 31 (0, 0)) (rbA BK116.out) hg (Kd.R_ne HO119.out BK116.out (by decide))); have n2_ := Aside0.mk (hb); have n3_ := Aside0.mk (ho); clear BK115; clear BK116; clear HB; clear HO119; have BK115 := n0_; have BK116 := n1_; have HB := n2_; have HO122 := n3_; clear n0_ n1_ n2_ n3_; clear ho hb hg hat; obtain ⟨Ao10, co10, eo10⟩ := Kd.R_slice HO122.out; subst eo10; obtain ⟨hcz11_0, hcz11_1, hcz11_2, hcz11_3, hcz11_4, hcz11_5, hcz11_6, hcz11_7, hfz11_0, hfz11_1, hfz11_2, hfz11_3, hfz11_4, hfz11_5, hfz11_6, hfz11_7⟩ := blkA8 BK115.out; obtain ⟨hcz12_0, hcz12_1, hcz12_2, hcz12_3, hcz12_4, hcz12_5, hcz12_6, hcz12_7, hfz12_0, hfz12_1, hfz12_2, hfz12_3, hfz12_4, hfz12_5, hfz12_6, hfz12_7⟩ := blkA8 BK116.out))
   refine bodyPost_ret (results_cell_row rfl _ _ gb116 31 #[.int .i64 a0_0, .slice Ao10 y120.length co10, .int .u32 a0_2, .int .i64 a0_3, .string a0_4, .int .u64 a0_5, .int .u64 a0_6, .bool a0_7] (0, 0) _ rfl (by (with_reducible repeat (first | refine blk_drewN ?_ _ | refine blk_drew ?_ | refine blk_alloc ?_ _)); refine blk_put (cs := #[.int .i64 a0_0, .slice Ao10 y120.length co10, .int .u32 a0_2, .int .i64 a0_3, .string a0_4, .int .u64 a0_5, .int .u64 a0_6, .bool false]) ?_ 7 _ rfl; (with_reducible repeat (first | refine blk_drewN ?_ _ | refine blk_drew ?_ | refine blk_alloc ?_ _)); refine blk_put (cs := #[.int .i64 a0_0, .slice Ao10 y120.length co10, .int .u32 a0_2, .int .i64 a0_3, .string a0_4, .int .u64 a0_5, .int .u64 0, .bool false]) ?_ 6 _ rfl; (with_reducible repeat (first | refine blk_drewN ?_ _ | refine blk_drew ?_ | refine blk_alloc ?_ _)); refine blk_put (cs := #[.int .i64 a0_0, .slice Ao10 y120.length co10, .int .u32 a0_2, .int .i64 a0_3, .string a0_4, .int .u64 0, .int .u64 0, .bool false]) ?_ 5 _ rfl; (with_reducible repeat (first | refine blk_drewN ?_ _ | refine blk_drew ?_ | refine blk_alloc ?_ _)); refine blk_put (cs := #[.int .i64 a0_0, .slice Ao10 y120.length co10, .int .u32 a0_2, .int .i64 a0_3, .string (⟨#[]⟩ : ByteArray), .int .u64 0, .int .u64 0, .bool false]) ?_ 4 _ rfl; (with_reducible repeat (first | refine blk_drewN ?_ _ | refine blk_drew ?_ | refine blk_alloc ?_ _)); refine blk_put (cs := #[.int .i64 a0_0, .slice Ao10 y120.length co10, .int .u32 a0_2, .int .i64 0, .string (⟨#[]⟩ : ByteArray), .int .u64 0, .int .u64 0, .bool false]) ?_ 3 _ rfl; (with_reducible repeat (first | refine blk_drewN ?_ _ | refine blk_drew ?_ | refine blk_alloc ?_ _)); refine blk_put (cs := #[.int .i64 a0_0, .slice Ao10 y120.length co10, .int .u32 0, .int .i64 0, .string (⟨#[]⟩ : ByteArray), .int .u64 0, .int .u64 0, .bool false]) ?_ 2 _ rfl; (with_reducible repeat (first | refine blk_drewN ?_ _ | refine blk_drew ?_ | refine blk_alloc ?_ _)); refine blk_put (cs := #[.int .i64 a0_0, .slice none 0 0, .int .u32 0, .int .i64 0, .string (⟨#[]⟩ : ByteArray), .int .u64 0, .int .u64 0, .bool false]) ?_ 1 _ rfl; (with_reducible repeat (first | refine blk_drewN ?_ _ | refine blk_drew ?_ | refine blk_alloc ?_ _)); refine blk_put (cs := #[.int .i64 0, .slice none 0 0, .int .u32 0, .int .i64 0, .string (⟨#[]⟩ : ByteArray), .int .u64 0, .int .u64 0, .bool false]) ?_ 0 _ rfl; (with_reducible repeat (first | refine blk_drewN ?_ _ | refine blk_drew ?_ | refine blk_alloc ?_ _)); refine blk_far ?_ NB116_115.out _; exact rbA BK116.out) Tryz.underlying31 rfl (by kernel_rfl)) rfl ?_
   exact ⟨_, reA, by (with_reducible repeat (first | apply Kd.R_alloc | apply Kd.R_drewN | apply Kd.R_drew)); exact Kd.R_mono (Kd.R_far (p := ⟨gb116, 7, none⟩) (Kd.R_far (p := ⟨gb116, 6, none⟩) (Kd.R_far (p := ⟨gb116, 5, none⟩) (Kd.R_far (p := ⟨gb116, 4, none⟩) (Kd.R_far (p := ⟨gb116, 3, none⟩) (Kd.R_far (p := ⟨gb116, 2, none⟩) (Kd.R_far (p := ⟨gb116, 1, none⟩) (Kd.R_far (p := ⟨gb116, 0, none⟩) (Kd.R_far (p := ⟨gb115, 1, none⟩) (Kd.R_types (Kd.R_types HO122.out BK115.out (by decide)) BK116.out (by decide)) (fun _ hk => hk.1.2) (.slice Ao10 y120.length co10)) (fun _ hk => hk.2) (.int .i64 a0_0)) (fun _ hk => hk.2) (.slice Ao10 y120.length co10)) (fun _ hk => hk.2) (.int .u32 a0_2)) (fun _ hk => hk.2) (.int .i64 a0_3)) (fun _ hk => hk.2) (.string a0_4)) (fun _ hk => hk.2) (.int .u64 a0_5)) (fun _ hk => hk.2) (.int .u64 a0_6)) (fun _ hk => hk.2) (.bool a0_7)) (fun _ hk => trivial), hbA HB.out⟩
 rw [if_neg c2] at H
 exact absurd H (by simp)

def tallboylaw15_Great.l0 : Nat → Int → Int → Int → List ByteArray → Int → Int → ByteArray → Int → Int → Bool → Option (Bool)
 | 0, _, _, _, _, _, _, _, _, _, _ => none
 | k + 1, x3, x4, x124000, x124001, x124002, x124003, x124004, x124005, x124006, x124007 => if x4 < (x124001.length : Int) then (if x3 < 10000 then (if 0 ≤ x4 then (tallboylaw15_Great.l0 k (wrap64 (x3 + ((rdOf ByteArray.empty x124001 x4).size : Int))) (wrap64 (x4 + 1)) x124000 x124001 x124002 x124003 x124004 x124005 x124006 x124007) else (none)) else (if x3 ≥ 10000 then (some true) else (some (decide ((x124001.length : Int) > 100))))) else (if x3 ≥ 10000 then (some true) else (some (decide ((x124001.length : Int) > 100))))
def tallboylaw15_Great.f (k : Nat) (a0_0 : Int) (l0_1 : List ByteArray) (a0_2 : Int) (a0_3 : Int) (a0_4 : ByteArray) (a0_5 : Int) (a0_6 : Int) (a0_7 : Bool) : Option (Bool) := tallboylaw15_Great.l0 k (a0_4.size : Int) 0 a0_0 l0_1 a0_2 a0_3 a0_4 a0_5 a0_6 a0_7
theorem tallboylaw15_Great.mono_l : ∀ k, (∀ y0 y1 y2 y3 y4 y5 y6 y7 y8 y9, LeO (tallboylaw15_Great.l0 k y0 y1 y2 y3 y4 y5 y6 y7 y8 y9) (tallboylaw15_Great.l0 (k + 1) y0 y1 y2 y3 y4 y5 y6 y7 y8 y9))
 | 0 => fun _ _ _ _ _ _ _ _ _ _ r h => by simp [tallboylaw15_Great.l0] at h
 | k + 1 => by
  have ih0 := tallboylaw15_Great.mono_l k
  · intro y0 y1 y2 y3 y4 y5 y6 y7 y8 y9
    unfold tallboylaw15_Great.l0
    repeat' first
    | (with_reducible exact ih0 _ _ _ _ _ _ _ _ _ _)
    | (with_reducible exact LeO.refl _)
    | (with_reducible exact LeO.none _)
    | (with_reducible refine LeO.ite ?_ ?_)
    | (with_reducible refine LeO.bind ?_ (fun _ => ?_))
    | exact ih0 _ _ _ _ _ _ _ _ _ _
    | exact LeO.none _
    | refine LeO.ite ?_ ?_
    | refine LeO.bind ?_ (fun _ => ?_)
theorem tallboylaw15_Great.mono : ∀ a0 a1 a2 a3 a4 a5 a6 a7 k, LeO (tallboylaw15_Great.f k a0 a1 a2 a3 a4 a5 a6 a7) (tallboylaw15_Great.f (k + 1) a0 a1 a2 a3 a4 a5 a6 a7) := by
 intro a0 a1 a2 a3 a4 a5 a6 a7 k
 have ih0 := tallboylaw15_Great.mono_l k
 unfold tallboylaw15_Great.f
 repeat' first
  | (with_reducible exact ih0 _ _ _ _ _ _ _ _ _ _)
  | (with_reducible exact LeO.refl _)
  | (with_reducible exact LeO.none _)
  | (with_reducible refine LeO.ite ?_ ?_)
  | (with_reducible refine LeO.bind ?_ (fun _ => ?_))
  | exact ih0 _ _ _ _ _ _ _ _ _ _
  | exact LeO.none _
  | refine LeO.ite ?_ ?_
  | refine LeO.bind ?_ (fun _ => ?_)
set_option maxHeartbeats 8000000 in
set_option maxRecDepth 100000 in
theorem tallboylaw15_Great.calls (k : Nat) (a0_0 : Int) (A0_1 : Option Addr) (c0_1 : Nat) (l0_1 : List ByteArray) (a0_2 : Int) (a0_3 : Int) (a0_4 : ByteArray) (a0_5 : Int) (a0_6 : Int) (a0_7 : Bool) (r : Bool) (w : World) (hr0_1 : Kd.C Kd.string w A0_1 l0_1.length l0_1) (hc0_1 : l0_1.length ≤ c0_1) (h : tallboylaw15_Great.f k a0_0 l0_1 a0_2 a0_3 a0_4 a0_5 a0_6 a0_7 = some r) :
 Calls Tryz.prog 6 #[.agg #[.int .i64 a0_0, .slice A0_1 l0_1.length c0_1, .int .u32 a0_2, .int .i64 a0_3, .string a0_4, .int .u64 a0_5, .int .u64 a0_6, .bool a0_7]] w fun e w' => e = .returned (.bool r) ∧ Below w.heap.size w w' := by
 have hu31 := Tryz.underlying31
 have HR0_1 := Aside0.mk hr0_1
 have HC0_1 := Aside0.mk hc0_1
 clear hr0_1 hc0_1
 have HB := Aside0.mk (Below.refl w.heap.size w)
 have H : (tallboylaw15_Great.l0 k (a0_4.size : Int) 0 a0_0 l0_1 a0_2 a0_3 a0_4 a0_5 a0_6 a0_7) = some r := h
 clear h
 have H' := Aside0.mk H
 clear H
 go_enter Tryz.func6, Tryz.ntmps6
 go_wp2_with (first | ((with_reducible refine gate_dst (N := 1) rfl ?_); (try (refine gate_guard (by rfl) ?_; dsimp only)); refine box_event ?hg (N := 1) ?hd (cs := #[.int .i64 a0_0, .slice A0_1 l0_1.length c0_1, .int .u32 a0_2, .int .i64 a0_3, .string a0_4, .int .u64 a0_5, .int .u64 a0_6, .bool a0_7]) (t := 31) ?hr ?_; (case hd => rfl); (case hg => rfl); (case hr => first | (go_simp; done) | (go_simp; rfl)); intro gb123 hg w2 hbox hb; have n0_ := Aside0.mk (below_step (hbA HB.out) hb); have n1_ := Aside0.mk (hbox); have n2_ := Aside0.mk ((by rw [hg]; exact (below_size (hbA HB.out)) : w.heap.size ≤ gb123)); have n3_ := Aside0.mk ((by rw [hg]; exact (below_size (hbA HB.out)) : w.heap.size ≤ gb123)); clear HB; have HB := n0_; have BK123 := n1_; have GW123 := n2_; have GE123 := n3_; clear n0_ n1_ n2_ n3_; clear hb hbox hg; obtain ⟨hcz3_0, hcz3_1, hcz3_2, hcz3_3, hcz3_4, hcz3_5, hcz3_6, hcz3_7, hfz3_0, hfz3_1, hfz3_2, hfz3_3, hfz3_4, hfz3_5, hfz3_6, hfz3_7⟩ := blkA8 BK123.out))
 go_loopg [3, 4] k (fun kq v3 v4 w' => ∃ (x3_1 : Int) (x4_1 : Int), v3 = .int .i64 x3_1 ∧ v4 = .int .i64 x4_1 ∧ Aside0 (tallboylaw15_Great.l0 kq x3_1 x4_1 a0_0 l0_1 a0_2 a0_3 a0_4 a0_5 a0_6 a0_7 = some r) ∧ Aside0 (kq ≤ k) ∧ Aside0 (w'.heap[gb123]? = some (.cells #[.int .i64 a0_0, (.slice A0_1 l0_1.length c0_1), .int .u32 a0_2, .int .i64 a0_3, .string a0_4, .int .u64 a0_5, .int .u64 a0_6, .bool a0_7] 31 (0, 0))) ∧ Aside0 (Below w.heap.size w w'))
 case atStart => exact ⟨((a0_4.size : Int)), (0), rsA, rsA, H', ⟨Nat.le_refl _⟩, ⟨rbA BK123.out⟩, ⟨hbA HB.out⟩⟩
 case round =>
  clear H'
  (try clear p2); (try clear hcz3_0); (try clear hcz3_1); (try clear hcz3_2); (try clear hcz3_3); (try clear hcz3_4); (try clear hcz3_5); (try clear hcz3_6); (try clear hcz3_7); (try clear hfz3_0); (try clear hfz3_1); (try clear hfz3_2); (try clear hfz3_3); (try clear hfz3_4); (try clear hfz3_5); (try clear hfz3_6); (try clear hfz3_7)
  obtain ⟨x3_1, x4_1, rfl, rfl, HA, HK1, BK123, HB⟩ := hrel
  cases gk with
  | zero => exact absurd HA.out (by simp [tallboylaw15_Great.l0])
  | succ k1 =>
   have H := HA.out
   clear HA
   simp only [tallboylaw15_Great.l0] at H
   by_cases c4 : x4_1 < (l0_1.length : Int)
   · rw [if_pos c4] at H
     have c4b0 : decide (x4_1 < (l0_1.length : Int)) = true := decide_eq_true c4
     clear c4
     by_cases c5 : x3_1 < 10000
     · rw [if_pos c5] at H
       have c5b0 : decide (x3_1 < 10000) = true := decide_eq_true c5
       clear c5
       by_cases c6 : 0 ≤ x4_1
       · rw [if_pos c6] at H
         have c6b0 : decide (0 ≤ x4_1) = true := decide_eq_true c6
         clear c6
         have H' := Aside0.mk H
         clear H
         obtain ⟨hcz7_0, hcz7_1, hcz7_2, hcz7_3, hcz7_4, hcz7_5, hcz7_6, hcz7_7, hfz7_0, hfz7_1, hfz7_2, hfz7_3, hfz7_4, hfz7_5, hfz7_6, hfz7_7⟩ := blkA8 BK123.out
         have p124 : 0 ≤ (x4_1 : Int) := of_decide_eq_true asA
         have q124 : x4_1 < (l0_1.length : Int) := of_decide_eq_true asA
         obtain ⟨ad124, e124, hx124_0⟩ := Kd.at_string HR0_1.out x4_1 p124 q124
         cases e124
         replace hx124_0 := (HB.out.cell (World.block_lt_of_cell? w _ hx124_0)).trans hx124_0
         replace p124 := eq_true p124
         replace q124 := eq_true q124
         go_wp2
         go_roundg k1
         case measure => have := HK1.out; omega
         case rel => exact ⟨(wrap64 (x3_1 + ((rdOf ByteArray.empty l0_1 x4_1).size : Int))), (wrap64 (x4_1 + 1)), rsA, rsA, H', ⟨by have := HK1.out; omega⟩, ⟨rbA BK123.out⟩, ⟨hbA HB.out⟩⟩
       rw [if_neg c6] at H
       exact absurd H (by simp)
     rw [if_neg c5] at H
     have c5b0 : decide (x3_1 < 10000) = false := decide_eq_false c5
     clear c5
     by_cases c8 : x3_1 ≥ 10000
     · rw [if_pos c8] at H
       have c8b0 : decide (10000 ≤ x3_1) = true := decide_eq_true c8
       clear c8
       obtain rfl := Option.some.inj H
       obtain ⟨hcz9_0, hcz9_1, hcz9_2, hcz9_3, hcz9_4, hcz9_5, hcz9_6, hcz9_7, hfz9_0, hfz9_1, hfz9_2, hfz9_3, hfz9_4, hfz9_5, hfz9_6, hfz9_7⟩ := blkA8 BK123.out
       go_wp2
       go_ret
       exact ⟨reA, hbA HB.out⟩
     rw [if_neg c8] at H
     have c8b0 : decide (10000 ≤ x3_1) = false := decide_eq_false c8
     clear c8
     obtain rfl := Option.some.inj H
     obtain ⟨hcz10_0, hcz10_1, hcz10_2, hcz10_3, hcz10_4, hcz10_5, hcz10_6, hcz10_7, hfz10_0, hfz10_1, hfz10_2, hfz10_3, hfz10_4, hfz10_5, hfz10_6, hfz10_7⟩ := blkA8 BK123.out
     go_wp2
     go_ret
     exact ⟨reA, hbA HB.out⟩
   rw [if_neg c4] at H
   have c4b0 : decide (x4_1 < (l0_1.length : Int)) = false := decide_eq_false c4
   clear c4
   by_cases c11 : x3_1 ≥ 10000
   · rw [if_pos c11] at H
     have c11b0 : decide (10000 ≤ x3_1) = true := decide_eq_true c11
     clear c11
     obtain rfl := Option.some.inj H
     obtain ⟨hcz12_0, hcz12_1, hcz12_2, hcz12_3, hcz12_4, hcz12_5, hcz12_6, hcz12_7, hfz12_0, hfz12_1, hfz12_2, hfz12_3, hfz12_4, hfz12_5, hfz12_6, hfz12_7⟩ := blkA8 BK123.out
     go_wp2
     go_ret
     exact ⟨reA, hbA HB.out⟩
   rw [if_neg c11] at H
   have c11b0 : decide (10000 ≤ x3_1) = false := decide_eq_false c11
   clear c11
   obtain rfl := Option.some.inj H
   obtain ⟨hcz13_0, hcz13_1, hcz13_2, hcz13_3, hcz13_4, hcz13_5, hcz13_6, hcz13_7, hfz13_0, hfz13_1, hfz13_2, hfz13_3, hfz13_4, hfz13_5, hfz13_6, hfz13_7⟩ := blkA8 BK123.out
   go_wp2
   go_ret
   exact ⟨reA, hbA HB.out⟩

def tallboylaw16_set.f (a0 : ByteArray) (a1 : ByteArray) : Option (Int × List ByteArray × Int × Int × ByteArray × Int × Int × Bool) := some (5, (([a0] : List ByteArray)), 0, 0, a1, 0, 0, false)
set_option maxHeartbeats 8000000 in
set_option maxRecDepth 100000 in
theorem tallboylaw16_set.calls (a0 : ByteArray) (a1 : ByteArray) (r1 : Int) (r2 : List ByteArray) (r3 : Int) (r4 : Int) (r5 : ByteArray) (r6 : Int) (r7 : Int) (r8 : Bool) (w : World) (h : tallboylaw16_set.f a0 a1 = some (r1, r2, r3, r4, r5, r6, r7, r8)) :
 Calls Tryz.prog 11 #[.string a0, .string a1] w fun e w' => ∃ v1_ : Value, e = .returned (.agg #[.int .i64 r1, v1_, .int .u32 r3, .int .i64 r4, .string r5, .int .u64 r6, .int .u64 r7, .bool r8]) ∧ Kd.R Kd.string 9 w' w.heap.size (fun _ => True) v1_ r2 ∧ Below w.heap.size w w' := by
 have hu31 := Tryz.underlying31
 have HB := Aside0.mk (Below.refl w.heap.size w)
 have H : (some (5, (([a0] : List ByteArray)), 0, 0, a1, 0, 0, false)) = some (r1, r2, r3, r4, r5, r6, r7, r8) := h
 clear h
 obtain ⟨y126, hy126⟩ : ∃ y_ : List ByteArray, y_ = (([a0] : List ByteArray)) := ⟨_, rfl⟩
 replace H : (some (5, y126, 0, 0, a1, 0, 0, false)) = some (r1, r2, r3, r4, r5, r6, r7, r8) := by first | (rw [hy126]; with_reducible exact H) | (have H2_ := (Option.bind_some _ _).symm.trans H; rw [hy126]; with_reducible exact H2_) | (have H2_ := (Option.bind_some _ _).symm.trans H; with_reducible exact H2_) | with_reducible exact H | (rw [hy126]; exact H) | exact H
 have Ny126 := Aside0.mk hy126
 clear hy126
 simp only [Option.some.injEq, Prod.mk.injEq] at H
 obtain ⟨rfl, rfl, rfl, rfl, rfl, rfl, rfl, rfl⟩ := H
 go_enter Tryz.func11, Tryz.ntmps11
 go_wp2_with (first | ((with_reducible refine gate_dst (N := 4) rfl ?_); refine box_event ?hg (N := 4) ?hd (cs := #[.int .i64 0, .slice none 0 0, .int .u32 0, .int .i64 0, .string (⟨#[]⟩ : ByteArray), .int .u64 0, .int .u64 0, .bool false]) (t := 31) ?hr ?_; (case hd => rfl); (case hg => rfl); (case hr => first | (go_simp; done) | (go_simp; rfl)); intro gb125 hg w3 hbox hb; have n0_ := Aside0.mk (below_step (hbA HB.out) hb); have n1_ := Aside0.mk (hbox); have n2_ := Aside0.mk ((by rw [hg]; exact (below_size (hbA HB.out)) : w.heap.size ≤ gb125)); have n3_ := Aside0.mk ((by rw [hg]; exact (below_size (hbA HB.out)) : w.heap.size ≤ gb125)); clear HB; have HB := n0_; have BK125 := n1_; have GW125 := n2_; have GE125 := n3_; clear n0_ n1_ n2_ n3_; clear hb hbox hg) | ((with_reducible refine gate_dst (N := 6) rfl ?_); refine Kd.R_lit Kd.string _ 9 ?hg (N := 6) ?hd (xs := ([a0] : List ByteArray)) (inner := [.string a0]) (ok := fun _ => True) (okp := fun _ => True) ?hr ?hp (fun _ hk => hk) trivial (Below.refl _ _) (Nat.le_refl _) (by simp) ?_; (case hd => rfl); (case hg => rfl); (case hr => first | (go_simp; done) | (go_simp; rfl)); (case hp => exact (Reps.one (show Kd.M Kd.string _ _ _ a0 [.string a0] from rfl) (Reps.none _ _))); intro v127 w4 ho5 hb hg_ hnew_; clear hg_ hnew_; (first | rw [← Ny126.out] at ho5 | (simp only [Int.reduceToNat] at ho5; rw [← Ny126.out] at ho5)); have n0_ := Aside0.mk (Kd.R_lower ho5 (below_size (hbA HB.out))); have n1_ := Aside0.mk (blk_below (g := gb125) (o := .cells #[.int .i64 0, .slice none 0 0, .int .u32 0, .int .i64 0, .string (⟨#[]⟩ : ByteArray), .int .u64 0, .int .u64 0, .bool false] 31 (0, 0)) (rbA BK125.out) hb); have n2_ := Aside0.mk (below_step (hbA HB.out) hb); clear BK125; clear HB; have HO128 := n0_; have BK125 := n1_; have HB := n2_; clear n0_ n1_ n2_; clear hb ho5; obtain ⟨Ao6, co6, eo6⟩ := Kd.R_slice HO128.out; subst eo6; obtain ⟨hcz7_0, hcz7_1, hcz7_2, hcz7_3, hcz7_4, hcz7_5, hcz7_6, hcz7_7, hfz7_0, hfz7_1, hfz7_2, hfz7_3, hfz7_4, hfz7_5, hfz7_6, hfz7_7⟩ := blkA8 BK125.out))
 refine bodyPost_ret (results_cell_row rfl _ _ gb125 31 #[.int .i64 5, .slice Ao6 y126.length co6, .int .u32 0, .int .i64 0, .string a1, .int .u64 0, .int .u64 0, .bool false] (0, 0) _ rfl (by (with_reducible repeat (first | refine blk_drewN ?_ _ | refine blk_drew ?_ | refine blk_alloc ?_ _)); refine blk_put (cs := #[.int .i64 5, .slice Ao6 y126.length co6, .int .u32 0, .int .i64 0, .string a1, .int .u64 0, .int .u64 0, .bool false]) ?_ 7 _ rfl; (with_reducible repeat (first | refine blk_drewN ?_ _ | refine blk_drew ?_ | refine blk_alloc ?_ _)); refine blk_put (cs := #[.int .i64 5, .slice Ao6 y126.length co6, .int .u32 0, .int .i64 0, .string a1, .int .u64 0, .int .u64 0, .bool false]) ?_ 6 _ rfl; (with_reducible repeat (first | refine blk_drewN ?_ _ | refine blk_drew ?_ | refine blk_alloc ?_ _)); refine blk_put (cs := #[.int .i64 5, .slice Ao6 y126.length co6, .int .u32 0, .int .i64 0, .string a1, .int .u64 0, .int .u64 0, .bool false]) ?_ 5 _ rfl; (with_reducible repeat (first | refine blk_drewN ?_ _ | refine blk_drew ?_ | refine blk_alloc ?_ _)); refine blk_put (cs := #[.int .i64 5, .slice Ao6 y126.length co6, .int .u32 0, .int .i64 0, .string (⟨#[]⟩ : ByteArray), .int .u64 0, .int .u64 0, .bool false]) ?_ 4 _ rfl; (with_reducible repeat (first | refine blk_drewN ?_ _ | refine blk_drew ?_ | refine blk_alloc ?_ _)); refine blk_put (cs := #[.int .i64 5, .slice Ao6 y126.length co6, .int .u32 0, .int .i64 0, .string (⟨#[]⟩ : ByteArray), .int .u64 0, .int .u64 0, .bool false]) ?_ 3 _ rfl; (with_reducible repeat (first | refine blk_drewN ?_ _ | refine blk_drew ?_ | refine blk_alloc ?_ _)); refine blk_put (cs := #[.int .i64 5, .slice Ao6 y126.length co6, .int .u32 0, .int .i64 0, .string (⟨#[]⟩ : ByteArray), .int .u64 0, .int .u64 0, .bool false]) ?_ 2 _ rfl; (with_reducible repeat (first | refine blk_drewN ?_ _ | refine blk_drew ?_ | refine blk_alloc ?_ _)); refine blk_put (cs := #[.int .i64 5, .slice none 0 0, .int .u32 0, .int .i64 0, .string (⟨#[]⟩ : ByteArray), .int .u64 0, .int .u64 0, .bool false]) ?_ 1 _ rfl; (with_reducible repeat (first | refine blk_drewN ?_ _ | refine blk_drew ?_ | refine blk_alloc ?_ _)); refine blk_put (cs := #[.int .i64 0, .slice none 0 0, .int .u32 0, .int .i64 0, .string (⟨#[]⟩ : ByteArray), .int .u64 0, .int .u64 0, .bool false]) ?_ 0 _ rfl; exact rbA BK125.out) Tryz.underlying31 rfl (by kernel_rfl)) rfl ?_
 exact ⟨_, reA, by (with_reducible repeat (first | apply Kd.R_alloc | apply Kd.R_drewN | apply Kd.R_drew)); exact Kd.R_mono (Kd.R_far (p := ⟨gb125, 7, none⟩) (Kd.R_far (p := ⟨gb125, 6, none⟩) (Kd.R_far (p := ⟨gb125, 5, none⟩) (Kd.R_far (p := ⟨gb125, 4, none⟩) (Kd.R_far (p := ⟨gb125, 3, none⟩) (Kd.R_far (p := ⟨gb125, 2, none⟩) (Kd.R_far (p := ⟨gb125, 1, none⟩) (Kd.R_far (p := ⟨gb125, 0, none⟩) (Kd.R_types HO128.out BK125.out (by decide)) (fun _ hk => hk.2) (.int .i64 5)) (fun _ hk => hk.2) (.slice Ao6 y126.length co6)) (fun _ hk => hk.2) (.int .u32 0)) (fun _ hk => hk.2) (.int .i64 0)) (fun _ hk => hk.2) (.string a1)) (fun _ hk => hk.2) (.int .u64 0)) (fun _ hk => hk.2) (.int .u64 0)) (fun _ hk => hk.2) (.bool false)) (fun _ hk => trivial), hbA HB.out⟩

end
end Go.Proofs.YtbggcimjlkjclaaGreatDoor.XMd
end
section
namespace Go.Proofs.YtbggcimjlkjclaaGreatDoor.XMd
open Go.RowKit Go.Proofs.YtbggcimjlkjclaaGreatDoorW.PrintWords Go.Proofs.YtbggcimjlkjclaaGreatDoorW.PrintLast Go.Proofs.YtbggcimjlkjclaaGreatDoorW.PrintMore
attribute [local go_sem] extract_sub max2_int min2_int max_two min_two max_three min_three max_four min_four   -- for this text's walks alone
set_option linter.unusedVariables false
set_option linter.unusedSimpArgs false

noncomputable section
end
end Go.Proofs.YtbggcimjlkjclaaGreatDoor.XMd
end
section
namespace Go.Proofs.YtbggcimjlkjclaaGreatDoor.Mdl
open Go.RowKit Go.Proofs.YtbggcimjlkjclaaGreatDoorW.PrintWords Go.Proofs.YtbggcimjlkjclaaGreatDoorW.PrintLast Go.Proofs.YtbggcimjlkjclaaGreatDoorW.PrintMore Go.WideMaps
set_option linter.unusedVariables false
set_option linter.unusedSimpArgs false

theorem run_copy_fill {P : Program} (w : World) (dT sT ty elem : TypeId) (g m : Nat) (s : ByteArray) (cur : Array Value) (t : TypeId)
    (hu : P.underlying dT = some (.slice elem)) (hs : (P.info? elem).map (·.size) = some 1) (hg : w.heap[g]? = some (.cells cur t (0, 0))) (hm : cur.size = m) :
    (Builtin.copy_ #[dT, sT] ty #[.slice (some ⟨g, 0, none⟩) m m, .string s]).run P w =
      .ok (goInt ((min s.size m : Nat) : Int)) (w.setRow g (Lib.byteCells (s.data.toList.take m) ++ cur.toList.drop (min s.size m)).toArray) := by
  have hlen : (Lib.byteCells (s.data.toList.take m)).length = min s.size m := by rw [Lib.byteCells_length, List.length_take, ← Lib.size_eq]; omega
  have hst := run_storeCells_at P g 0 t (Lib.byteCells (s.data.toList.take m)) 0 cur w hg (by rw [hlen]; omega) (Lib.byteCells_one _)
  have hmin : Nat.min s.size m = min s.size m := rfl
  have htk : List.take (min s.size m) (List.map (fun b : UInt8 => Value.int IntKind.u8 (b.toNat : Int)) s.data.toList) = Lib.byteCells (s.data.toList.take m) := by
    unfold Lib.byteCells
    rw [← List.map_take]
    congr 1
    rcases Nat.le_total s.size m with h | h
    · rw [Nat.min_eq_left h, List.take_of_length_le (by rw [← Lib.size_eq]; exact Nat.le_refl _), List.take_of_length_le (by rw [← Lib.size_eq]; exact h)]
    · rw [Nat.min_eq_right h]
  rw [hlen] at hst
  simp only [Nat.add_zero, Nat.zero_add, List.take_zero, List.nil_append] at hst
  cases hq : P.info? elem with
  | none => simp [hq] at hs
  | some i =>
    simp [Builtin.copy_, run_underlying hu, Builtin.lenOf, Builtin.firstCells, sizeOf, typeInfo, hq, hmin]
    rw [htk, hst]
    simp [Result.andThen]
    first | done | (congr 1; omega)
theorem wpList_load_eq {P : Program} {ops : Array Oper} {rest : List Oper} {op : Oper} {a : Act} {w : World} {Q : Exit → Act → World → Prop} (hgd : op.guard = none) (ty : TypeId) (x : Operand) (ho : op.op = .load ty x) {p v : Value} (hx : a.eval x = p) (hrun : (Instr.loadAt ty p).run P w = .ok v w)
    (h : wpList P ops Q rest (a.put op.dst v) w) : wpList P ops Q (op :: rest) a w :=
  wpList_plain hgd fun _ hK => by
    unfold Oper.wp execOp
    simp only [ho, hx, Sem.run_bind, Sem.run_pure, hrun, Result.andThen_ok]
    exact hK _ _ h
theorem wpList_store_eq {P : Program} {ops : Array Oper} {rest : List Oper} {op : Oper} {a : Act} {w w' : World} {Q : Exit → Act → World → Prop} (hgd : op.guard = none) (ty : TypeId) (x y : Operand) (ho : op.op = .store ty x y) {p v : Value} (hx : a.eval x = p) (hy : a.eval y = v) (hrun : (Instr.storeAt ty p v).run P w = .ok () w')
    (h : wpList P ops Q rest (a.put op.dst undef) w') : wpList P ops Q (op :: rest) a w :=
  wpList_plain hgd fun _ hK => by
    unfold Oper.wp execOp
    simp only [ho, hx, hy, Sem.run_bind, Sem.run_pure, hrun, Result.andThen_ok]
    exact hK _ _ h
def zero32 : Array Value := #[.int .u8 0, .int .u8 0, .int .u8 0, .int .u8 0, .int .u8 0, .int .u8 0, .int .u8 0, .int .u8 0, .int .u8 0, .int .u8 0, .int .u8 0, .int .u8 0, .int .u8 0, .int .u8 0, .int .u8 0, .int .u8 0, .int .u8 0, .int .u8 0, .int .u8 0, .int .u8 0, .int .u8 0, .int .u8 0, .int .u8 0, .int .u8 0, .int .u8 0, .int .u8 0, .int .u8 0, .int .u8 0, .int .u8 0, .int .u8 0, .int .u8 0, .int .u8 0]
theorem zero32_is : zero32.toList = List.replicate 32 (.int .u8 0) := rfl
theorem named_cells (key : ByteArray) : (Lib.byteCells (key.data.toList.take 32) ++ zero32.toList.drop (min key.size 32)).toArray = ((nm key).map fun b => Value.int .u8 (b.toNat : Int)).toArray := by
  congr 1
  unfold nm Lib.byteCells
  rw [zero32_is, List.take_append, List.map_append, List.take_replicate, List.map_replicate, List.drop_replicate, ← Lib.size_eq]
  congr 2
  omega
set_option maxHeartbeats 4000000 in
set_option maxRecDepth 100000 in
theorem named_calls (key : ByteArray) (w : World) :
    Calls Tryz.prog 18 #[.string key] w fun e w' => e = .returned (nameV (nm key)) ∧ Below w.heap.size w w' := by
  have hcp := run_copy_fill (P := Tryz.prog) (w.alloc (.cells zero32 64)) 74 9 3 5 w.heap.size 32 key zero32 64 Tryz.underlying74 (by kernel_rfl) (heap_alloc_new w _) rfl
  rw [named_cells, World.setRow_alloc_new] at hcp
  unfold nameV
  have hC : ((nm key).map fun b => Value.int .u8 (b.toNat : Int)).toArray.size = 32 := by simp [nm_len]
  have hC1 : (((nm key).map fun b => Value.int .u8 (b.toNat : Int)).toArray).all (·.oneCell') = true := all_oneCell_toArray (fun v hv => by obtain ⟨b, _, rfl⟩ := List.mem_map.1 hv; rfl)
  generalize ((nm key).map fun b => Value.int .u8 (b.toNat : Int)).toArray = C at hcp hC hC1
  have hinfo : (Tryz.prog.info? 64).map (·.size) = some C.size := by rw [hC]; kernel_rfl
  have hld := run_loadAt_new (P := Tryz.prog) w 64 C _ _ Tryz.underlying64 hinfo
  have hlv := run_loadVar_new (P := Tryz.prog) w 64 C _ _ Tryz.underlying64 hinfo
  have hst := run_storeAt_new (P := Tryz.prog) w 64 C C hinfo rfl hC1
  unfold zero32 at hcp
  go_enter Tryz.func18, Tryz.ntmps18
  go_wp2_with (first | (refine wpList_load_eq rfl 64 _ rfl rfl hld ?_) | (refine wpList_store_eq rfl 64 _ _ rfl rfl rfl hst ?_))
  refine bodyPost_ret (results_cell_row rfl _ _ w.heap.size _ C _ _ rfl (heap_alloc_new w _) Tryz.underlying64 rfl hinfo) rfl ?_
  exact ⟨rfl, (Below.refl _ w).alloc (Nat.le_refl _) _⟩
end Go.Proofs.YtbggcimjlkjclaaGreatDoor.Mdl
end
section
namespace Go.Proofs.YtbggcimjlkjclaaGreatDoor.Mdl
open Go.RowKit Go.Proofs.YtbggcimjlkjclaaGreatDoorW.PrintWords Go.Proofs.YtbggcimjlkjclaaGreatDoorW.PrintLast Go.Proofs.YtbggcimjlkjclaaGreatDoorW.PrintMore Go.WideMaps Go.Proofs.YtbggcimjlkjclaaGreatDoor.XMd
set_option linter.unusedVariables false
set_option linter.unusedSimpArgs false
def strip (l : List UInt8) : List UInt8 := Lib.trimRightB l 0
set_option maxHeartbeats 4000000 in
set_option maxRecDepth 100000 in
theorem key_calls (l : List UInt8) (hl : l.length = 32) (w : World) :
    Calls Tryz.prog 21 #[nameV l] w fun e w' => e = .returned (.string ⟨(strip l).toArray⟩) ∧ Below w.heap.size w w' := by
  unfold nameV
  have hC : (l.map fun b => Value.int .u8 (b.toNat : Int)).toArray.size = 32 := by simp [hl]
  have hcv := run_convert_bytes_back (P := Tryz.prog) (w.alloc (.cells (l.map fun b => Value.int .u8 (b.toNat : Int)).toArray 64)) 74 9 5 ⟨w.heap.size, 0, none⟩ 32 l Tryz.underlying74 Tryz.underlying5 Tryz.underlying9 (fun j hj => by
    rw [Addr.add_mid, Nat.zero_add, cell_of_row _ _ _ _ _ _ (heap_alloc_new w _)]
    simp [hj])
  rw [hl] at hcv
  have hT := strings_TrimRight.calls ⟨l.toArray⟩ ⟨#[0]⟩ ⟨(strip l).toArray⟩ (w.alloc (.cells (l.map fun b => Value.int .u8 (b.toNat : Int)).toArray 64)) (by
    unfold strings_TrimRight.f strip
    rw [show (⟨#[0]⟩ : ByteArray).data.toList = [0] from rfl]
    simp only
    rw [if_pos ⟨by decide, by show l.toArray.size ≤ _; rw [List.size_toArray, hl]; decide⟩])
  generalize (l.map fun b => Value.int .u8 (b.toNat : Int)).toArray = C at hcv hT hC
  go_enter Tryz.func21, Tryz.ntmps21
  go_wp2_with fail
  refine hT.mono ?_
  rintro e w' ⟨rfl, hb'⟩
  go_wp2
  go_ret
  exact ⟨rfl, (((Below.refl _ w).alloc (Nat.le_refl _) _).trans (hb'.below.mono (by simp)))⟩
set_option maxHeartbeats 4000000 in
set_option maxRecDepth 100000 in
theorem New_calls (w : World) :
    Calls Tryz.prog 5 #[] w fun e w' => ∃ g b, e = .returned (.pointer (some ⟨g, 0, none⟩)) ∧ At w' g b 0 (fun _ => none) 0 ∧ w.heap.size ≤ g ∧ w.heap.size ≤ b ∧ Below w.heap.size w w' := by
  have hmm := @run_makeMap Tryz.prog
  go_enter Tryz.func5, Tryz.ntmps5
  go_wp2_with fail
  go_ret
  refine ⟨w.heap.size + 1, w.heap.size, rfl, ⟨?_, ?_, by omega, fun n x h => by cases h⟩, by omega, by omega, ?_⟩
  · refine mapF.alloc ?_ _
    refine (mapF_made w Tryz.prog 64).eq (fun kl _ => ?_)
    cases kl <;> rfl
  · rw [show w.heap.size + 1 = (w.alloc (Obj.map #[] 0)).heap.size from by simp]
    exact heap_alloc_new _ _
  · exact ((Below.refl _ w).alloc (Nat.le_refl _) _).alloc (by simp) _
end Go.Proofs.YtbggcimjlkjclaaGreatDoor.Mdl
end
section
namespace Go.Proofs.YtbggcimjlkjclaaGreatDoor.Mdl
open Go.RowKit Go.Proofs.YtbggcimjlkjclaaGreatDoorW.PrintWords Go.Proofs.YtbggcimjlkjclaaGreatDoorW.PrintLast Go.Proofs.YtbggcimjlkjclaaGreatDoorW.PrintMore Go.WideMaps Go.Proofs.YtbggcimjlkjclaaGreatDoor.XMd
set_option linter.unusedVariables false
set_option linter.unusedSimpArgs false
attribute [local go_sem ↓] Go.wp_at_zero Go.wp_at_succ

def gone (x : Ent) (now : Int) : Bool := decide (0 < x.exp % 4294967296) && decide (x.exp % 4294967296 ≤ now)
theorem gone_is (x : Ent) (now : Int) : clock_Gone.f (x.exp % 4294967296) now = some (gone x now) := by
  unfold clock_Gone.f gone
  by_cases h : x.exp % 4294967296 > 0
  · rw [if_pos h, decide_eq_true (show 0 < x.exp % 4294967296 from h), Bool.true_and, show wrap64 (x.exp % 4294967296) = x.exp % 4294967296 from by unfold wrap64; omega]
  · rw [if_neg h, decide_eq_false (show ¬ 0 < x.exp % 4294967296 from h), Bool.false_and]
def get (E : Tab) (key : ByteArray) (now : Int) : Option Ent := match E (nm key) with
  | none => none
  | some x => if strip (nm key) = key.data.toList ∧ gone x now = false then some x else none
theorem zeroEnt (w : World) : (zeroValue 44).run Tryz.prog w = .ok Ent.z.v w := by kernel_rfl
theorem size_al (w : World) (o : Obj) : (w.alloc o).heap.size = w.heap.size + 1 := by simp
theorem fresh_block {w0 w' : World} {B : Nat} {cs : Array Value} {t : TypeId} (hb : Below (w0.alloc (.cells cs t)).drew.heap.size (w0.alloc (.cells cs t)).drew w') (hB : w0.heap.size = B) : w'.heap[B]? = some (.cells cs t) := by
  subst hB
  exact (hb.block w0.heap.size (by simp)).trans (heap_alloc_new w0 (.cells cs t))
theorem wayA {w0 w' : World} {n : Nat} {Z : Obj} (hb : Below w0.drew.heap.size w0.drew w') (hn : w0.heap.size = n) : (w'.alloc Z).heap[w'.heap.size]? = some Z ∧ n ≤ w'.heap.size ∧ Below n w0 (w'.alloc Z) := by
  subst hn
  have h : Below w0.heap.size w0 w' := ⟨hb.os, hb.tape, hb.output, hb.size, hb.block⟩
  exact ⟨heap_alloc_new _ _, h.size, h.alloc h.size _⟩
theorem wayB {w0 w' : World} {n : Nat} {x0 x1 x2 x3 a b c d : Value} {t : TypeId} (hb : Below (w0.alloc (.cells #[x0, x1, x2, x3] t)).drew.heap.size (w0.alloc (.cells #[x0, x1, x2, x3] t)).drew w') (hn : w0.heap.size = n) :
    ((((w'.setCell ⟨n, 0, none⟩ a).setCell ⟨n, 1, none⟩ b).setCell ⟨n, 2, none⟩ c).setCell ⟨n, 3, none⟩ d).heap[n]? = some (.cells #[a, b, c, d] t) ∧ n ≤ n ∧ Below n w0 ((((w'.setCell ⟨n, 0, none⟩ a).setCell ⟨n, 1, none⟩ b).setCell ⟨n, 2, none⟩ c).setCell ⟨n, 3, none⟩ d) := by
  have hq := fresh_block hb hn
  have h1 := Lib.heap_setCell_same (Lib.heap_setCell_same (Lib.heap_setCell_same (Lib.heap_setCell_same (i := 0) hq a) (i := 1) b) (i := 2) c) (i := 3) d
  subst hn
  have h : Below w0.heap.size w0 w' := ⟨hb.os, hb.tape, hb.output, by have := hb.size; simp at this; omega, fun k hk => by rw [hb.block k (by simp; omega)]; exact Below.heap_alloc w0 _ k hk⟩
  exact ⟨h1, Nat.le_refl _, (((h.setCell (Nat.le_refl _) _).setCell (Nat.le_refl _) _).setCell (Nat.le_refl _) _).setCell (Nat.le_refl _) _⟩
theorem fresh_cell {w : World} {B : Nat} {cs : Array Value} {t : TypeId} (h : w.heap[B]? = some (.cells cs t)) (i : Nat) : w.cell? ⟨B, i, none⟩ = cs[i]? := cell_of_row w B i cs t (0, 0) h
theorem fresh_frozen {w : World} {B : Nat} {cs : Array Value} {t : TypeId} (h : w.heap[B]? = some (.cells cs t)) (i : Nat) : w.frozen? ⟨B, i, none⟩ = false := by
  simp [World.frozen?, h]
theorem At.look {w : World} {g b c : Nat} {E : Tab} {laid : Int} (h : At w g b c E laid) (n : List UInt8) (hn : n.length = 32) (x : Ent) (ok : Bool) (hx : (E n).getD Ent.z = x) (ho : (E n).isSome = ok) :
    At w g b c E laid ∧ w.cell? ⟨g, 0, none⟩ = some (.map (some b)) ∧ (Instr.lookup 51 (.map (some b)) (nameV n) true).run Tryz.prog w = .ok (.tuple #[.agg #[.string x.value, .int .u32 x.flags, .int .i64 x.exp, .int .u64 x.cas], .bool ok]) w := by
  refine ⟨h, by rw [Lib.cell_of_heap h.cell]; rfl, ?_⟩
  obtain ⟨D, ho', h1, h2⟩ := h.map
  obtain ⟨u, ps, hrun, hu⟩ := ho'.look_ok law Tryz.underlying51 (zeroEnt w) (zd := .held Ent.z.v) (zp := []) rfl (key_name n hn)
  rw [(h2 (.string n) trivial).1] at hu
  have e := tokR_inj hu
  have e2 : (litF E (.string n)).getD Ent.z.v = x.v := by
    subst hx
    show ((E n).map Ent.v).getD Ent.z.v = _
    cases E n <;> rfl
  have e3 : (litF E (.string n)).isSome = ok := by
    subst ho
    show ((E n).map Ent.v).isSome = _
    cases E n <;> rfl
  rw [hrun, e, e2, (h2 (.string n) trivial).2, e3]
  rfl
theorem results_cell_tmp_row {P : Program} {fn : Func} {p u : Tmp} {ty : TypeId} (h : fn.results = #[.cell p ty, .tmp u]) (tmps : Array Value) (w : World) (g : Nat) (t : TypeId) (cs : Array Value) (fr : Nat × Nat) (d : TypeDesc)
    (hp : tmps.getD p undef = .pointer (some ⟨g, 0, none⟩)) (hg : w.heap[g]? = some (.cells cs t fr))
    (hu : P.underlying ty = some d) (hd : (match d with | .struct _ | .array _ _ => true | _ => false) = true) (hi : (P.info? ty).map (·.size) = some cs.size) :
    (results fn tmps).run P w = .ok (.tuple #[.agg cs, tmps.getD u undef]) w := by
  rw [results_cell_tmp h, hp]
  simp [asAddr, run_loadVar_row w g t ty cs fr d hg hu hd hi, Result.andThen]
theorem set4 {w : World} {B : Nat} {x0 x1 x2 x3 a b c d : Value} {t : TypeId} (h : w.heap[B]? = some (.cells #[x0, x1, x2, x3] t)) :
    ((((w.setCell ⟨B, 0, none⟩ a).setCell ⟨B, 1, none⟩ b).setCell ⟨B, 2, none⟩ c).setCell ⟨B, 3, none⟩ d).heap[B]? = some (.cells #[a, b, c, d] t) :=
  Lib.heap_setCell_same (Lib.heap_setCell_same (Lib.heap_setCell_same (Lib.heap_setCell_same (i := 0) h a) (i := 1) b) (i := 2) c) (i := 3) d
theorem set4_below {w0 w : World} {n B : Nat} {a b c d : Value} (h : Below n w0 w) (hB : n ≤ B) : Below n w0 ((((w.setCell ⟨B, 0, none⟩ a).setCell ⟨B, 1, none⟩ b).setCell ⟨B, 2, none⟩ c).setCell ⟨B, 3, none⟩ d) :=
  (((h.setCell hB _).setCell hB _).setCell hB _).setCell hB _
theorem below_alloc_out {w wc : World} {o : Obj} (h : Below (w.heap.size + 1) (w.alloc o) wc) : Below w.heap.size w wc := ((Below.refl _ w).alloc (Nat.le_refl _) o).trans (h.mono (by omega))
theorem get_none {E : Tab} {key : ByteArray} {now : Int} (h : (E (nm key)).isSome = false) : get E key now = none := by
  unfold get
  cases he : E (nm key) with
  | none => rfl
  | some x => rw [he] at h; cases h
theorem get_some {E : Tab} {key : ByteArray} {now : Int} {x : Ent} (h : (E (nm key)).isSome = true) (hx : (E (nm key)).getD Ent.z = x) : get E key now = if strip (nm key) = key.data.toList ∧ gone x now = false then some x else none := by
  unfold get
  cases he : E (nm key) with
  | none => rw [he] at h; cases h
  | some y => rw [he] at hx; obtain rfl : y = x := hx; rfl
set_option maxHeartbeats 8000000 in
set_option maxRecDepth 100000 in
theorem Get_calls (w : World) (g b c : Nat) (E : Tab) (laid : Int) (key : ByteArray) (now : Int) (hA : At w g b c E laid) :
    Calls Tryz.prog 10 #[.pointer (some ⟨g, 0, none⟩), .string key, .int .i64 now] w fun e w' => e = .returned (.tuple #[((get E key now).getD Ent.z).v, .bool (get E key now).isSome]) ∧ Below w.heap.size w w' := by
  have hg := hA.lt
  have hgb := hA.ltb
  have H0 := Aside0.mk hA
  obtain ⟨x, hx⟩ : ∃ x, (E (nm key)).getD Ent.z = x := ⟨_, rfl⟩
  obtain ⟨ok, ho⟩ : ∃ ok, (E (nm key)).isSome = ok := ⟨_, rfl⟩
  have HX := Aside0.mk hx
  have HO := Aside0.mk ho
  clear hA hx ho
  go_enter Tryz.func10, Tryz.ntmps10
  go_upto_region 1 with fail
  go_cut [8, 9] (fun v8 v9 wc => ∃ B, v8 = .pointer (some ⟨B, 0, none⟩) ∧ v9 = .bool ok ∧ wc.heap[B]? = some (.cells #[.string x.value, .int .u32 x.flags, .int .i64 x.exp, .int .u64 x.cas] 44) ∧ w.heap.size + 1 ≤ B ∧ Aside0 (At wc g b c E laid) ∧ Aside0 (Below (w.heap.size + 1) (w.alloc (.cells #[.string ⟨#[]⟩, .int .u32 0, .int .i64 0, .int .u64 0] 44)) wc))
  case first =>
    have HS := Aside0.mk ((H0.out.alloc (.cells #[.string ⟨#[]⟩, .int .u32 0, .int .i64 0, .int .u64 0] 44)).look (nm key) (nm_len key) x ok HX.out HO.out)
    go_region_held3 (fun w' => At w' g b c E laid ∧ w'.cell? ⟨g, 0, none⟩ = some (.map (some b)) ∧ (Instr.lookup 51 (.map (some b)) (nameV (nm key)) true).run Tryz.prog w' = .ok (.tuple #[.agg #[.string x.value, .int .u32 x.flags, .int .i64 x.exp, .int .u64 x.cas], .bool ok]) w')
      ((refine At.look (E := E) (laid := laid) (c := c) ?_ _ (nm_len key) _ _ HX.out HO.out; first | exact And.left (by assumption) | exact HS.out.1.drew | exact At.alloc (At.below HS.out.1.drew hb) _ | exact (At.alloc HS.out.1 _).drew | (refine At.below ?_ hb; exact And.left (by assumption)) | (refine At.alloc ?_ _; exact And.left (by assumption)) | (repeat refine At.setCell ?_ (show w.heap.size + 1 ≠ g by omega) (show w.heap.size + 1 ≠ b by omega) _); exact And.left (by assumption)))
      (first | (go_at_call 18; refine (named_calls key _).mono ?_; rintro e w' ⟨rfl, hb⟩; (first | (have hq := fresh_block (B := w.heap.size + 1) hb (size_al w _); have q0 := fresh_cell hq 0; have q1 := fresh_cell hq 1; have q2 := fresh_cell hq 2; have q3 := fresh_cell hq 3; simp only [List.getElem?_toArray, List.getElem?_cons_zero, List.getElem?_cons_succ] at q0 q1 q2 q3; have f0 := fresh_frozen hq 0; have f1 := fresh_frozen hq 1; have f2 := fresh_frozen hq 2; have f3 := fresh_frozen hq 3) | skip)))
    all_goals
      go_wp2_with fail
      go_meet
      case rel =>
        first
          | exact ⟨_, rfl, rfl, (wayA (n := w.heap.size + 1) hb (size_al w _)).1, (wayA (Z := .cells #[] 0) (n := w.heap.size + 1) hb (size_al w _)).2.1, ⟨And.left (by assumption)⟩, ⟨(wayA (n := w.heap.size + 1) hb (size_al w _)).2.2⟩⟩
          | exact ⟨_, rfl, rfl, (wayB (n := w.heap.size + 1) hb (size_al w _)).1, Nat.le_refl _, ⟨And.left (by assumption)⟩, ⟨(wayB (n := w.heap.size + 1) hb (size_al w _)).2.2⟩⟩
  case rest =>
    obtain ⟨B, rfl, rfl, hB, hBn, HA, HW⟩ := hcut
    have hr : wc.heap[w.heap.size]? = some (.cells #[.string ⟨#[]⟩, .int .u32 0, .int .i64 0, .int .u64 0] 44) := (HW.out.block w.heap.size (by omega)).trans (heap_alloc_new w _)
    have hlt : B < wc.heap.size := blk_lt hB
    cases ok with
    | false =>
      have r0 := fresh_cell hr 0
      have r1 := fresh_cell hr 1
      have r2 := fresh_cell hr 2
      have r3 := fresh_cell hr 3
      have f0 := fresh_frozen hr 0
      have f1 := fresh_frozen hr 1
      have f2 := fresh_frozen hr 2
      have f3 := fresh_frozen hr 3
      simp only [List.getElem?_toArray, List.getElem?_cons_zero, List.getElem?_cons_succ] at r0 r1 r2 r3
      go_wp2
      refine bodyPost_ret (results_cell_tmp_row rfl _ _ w.heap.size _ _ _ _ rfl (set4 hr) Tryz.underlying44 rfl (by kernel_rfl)) rfl ?_
      rw [get_none HO.out]
      exact ⟨rfl, set4_below (below_alloc_out HW.out) (Nat.le_refl _)⟩
    | true =>
      go_wp2_with fail
      refine (named_calls key _).mono ?_
      rintro e w1 ⟨rfl, hb1⟩
      go_wp2_with fail
      by_cases hs : strip (nm key) = key.data.toList
      · have hk : (⟨(strip (nm key)).toArray⟩ : ByteArray) = key := by rw [hs]
        have hkc := key_calls _ (nm_len key)
        rw [hk] at hkc
        refine (hkc _).mono ?_
        rintro e w2 ⟨rfl, hb2⟩
        have hb12 : Below wc.heap.size wc w2 := hb1.trans (hb2.mono hb1.size)
        have hB2 := (hb12.block B hlt).trans hB
        have hr2 := (hb12.block w.heap.size (blk_lt hr)).trans hr
        have HW2 := Aside0.mk ((below_alloc_out HW.out).trans (hb12.mono (below_alloc_out HW.out).size))
        have p0 := fresh_cell hB2 0
        have p1 := fresh_cell hB2 1
        have p2 := fresh_cell hB2 2
        have p3 := fresh_cell hB2 3
        simp only [List.getElem?_toArray, List.getElem?_cons_zero, List.getElem?_cons_succ] at p0 p1 p2 p3
        have HR2 := Lib.hid hr2
        have HB2 := Lib.hid hB2
        clear hb1 hb2 hb12 hr hB hkc hk hr2 hB2 hlt HW
        go_wp2_with fail
        refine (clock_Gone.calls _ _ _ _ (gone_is x now)).mono ?_
        rintro e w3 ⟨rfl, hd3⟩
        have hb3 := hd3.below
        have hB3 := (hb3.block B (blk_lt HB2.out)).trans HB2.out
        have hr3 := (hb3.block w.heap.size (blk_lt HR2.out)).trans HR2.out
        have p0 := fresh_cell hB3 0
        have p1 := fresh_cell hB3 1
        have p2 := fresh_cell hB3 2
        have p3 := fresh_cell hB3 3
        have r0 := fresh_cell hr3 0
        have r1 := fresh_cell hr3 1
        have r2 := fresh_cell hr3 2
        have r3 := fresh_cell hr3 3
        have f0 := fresh_frozen hr3 0
        have f1 := fresh_frozen hr3 1
        have f2 := fresh_frozen hr3 2
        have f3 := fresh_frozen hr3 3
        simp only [List.getElem?_toArray, List.getElem?_cons_zero, List.getElem?_cons_succ] at p0 p1 p2 p3 r0 r1 r2 r3
        have HW3 := Aside0.mk (HW2.out.trans (hb3.mono HW2.out.size))
        have HR3 := Lib.hid hr3
        have HS := Lib.hid hs
        have HO' := HO.out
        have HX' := HX.out
        clear hd3 hb3 hB3 hr3 HR2 HB2 HW2 hs
        have hget := get_some (now := now) HO' HX'
        have HGET := Lib.hid hget
        clear hget HO' HX'
        cases hgn : gone x now with
        | true =>
          have HGN := Lib.hid hgn
          clear hgn
          go_wp2
          refine bodyPost_ret (results_cell_tmp_row rfl _ _ w.heap.size _ _ _ _ rfl (set4 HR3.out) Tryz.underlying44 rfl (by kernel_rfl)) rfl ?_
          rw [HGET.out, if_neg (by rw [HGN.out]; rintro ⟨_, h⟩; cases h)]
          exact ⟨rfl, set4_below HW3.out (Nat.le_refl _)⟩
        | false =>
          have HGN := Lib.hid hgn
          clear hgn
          go_wp2
          refine bodyPost_ret (results_cell_tmp_row rfl _ _ w.heap.size _ _ _ _ rfl (set4 HR3.out) Tryz.underlying44 rfl (by kernel_rfl)) rfl ?_
          rw [HGET.out, if_pos ⟨HS.out, HGN.out⟩]
          exact ⟨rfl, set4_below HW3.out (Nat.le_refl _)⟩
      · refine (key_calls _ (nm_len key) _).mono ?_
        rintro e w2 ⟨rfl, hb2⟩
        have hb12 : Below wc.heap.size wc w2 := hb1.trans (hb2.mono hb1.size)
        have hr2 := (hb12.block w.heap.size (blk_lt hr)).trans hr
        have HW2 := Aside0.mk ((below_alloc_out HW.out).trans (hb12.mono (below_alloc_out HW.out).size))
        have r0 := fresh_cell hr2 0
        have r1 := fresh_cell hr2 1
        have r2 := fresh_cell hr2 2
        have r3 := fresh_cell hr2 3
        have f0 := fresh_frozen hr2 0
        have f1 := fresh_frozen hr2 1
        have f2 := fresh_frozen hr2 2
        have f3 := fresh_frozen hr2 3
        simp only [List.getElem?_toArray, List.getElem?_cons_zero, List.getElem?_cons_succ] at r0 r1 r2 r3
        have HR2 := Lib.hid hr2
        have hs' : ¬ strip (nm key) = key.toList := by rw [ByteArray.toList_eq]; exact hs
        have HS := Lib.hid hs
        clear hb1 hb2 hb12 hr hB hr2 hlt HW hs
        go_wp2
        refine bodyPost_ret (results_cell_tmp_row rfl _ _ w.heap.size _ _ _ _ rfl (set4 HR2.out) Tryz.underlying44 rfl (by kernel_rfl)) rfl ?_
        rw [get_some (now := now) HO.out HX.out, if_neg (fun h => HS.out h.1)]
        exact ⟨rfl, set4_below HW2.out (Nat.le_refl _)⟩
end Go.Proofs.YtbggcimjlkjclaaGreatDoor.Mdl
end
section
namespace Go.Proofs.YtbggcimjlkjclaaGreatDoor.Mdl
open Go.RowKit Go.Proofs.YtbggcimjlkjclaaGreatDoorW.PrintWords Go.Proofs.YtbggcimjlkjclaaGreatDoorW.PrintLast Go.Proofs.YtbggcimjlkjclaaGreatDoorW.PrintMore Go.WideMaps Go.Proofs.YtbggcimjlkjclaaGreatDoor.XMd
set_option linter.unusedVariables false
set_option linter.unusedSimpArgs false
attribute [local go_sem ↓] Go.wp_at_zero Go.wp_at_succ

section
variable {w : World} {g b c : Nat} {E : Tab} {laid : Int}
theorem At.gcell (h : At w g b c E laid) : w.cell? ⟨g, 0, none⟩ = some (.map (some b)) := by rw [Lib.cell_of_heap h.cell]; rfl
theorem At.lcell (h : At w g b c E laid) : w.cell? ⟨g, 1, none⟩ = some (.int .u64 laid) := by rw [Lib.cell_of_heap h.cell]; rfl
theorem small_put (h : ∀ n x, E n = some x → x.value.size ≤ 2000) (n : List UInt8) (x : Option Ent) (hx : ∀ y, x = some y → y.value.size ≤ 2000) : ∀ m y, putT E n x m = some y → y.value.size ≤ 2000 := fun m y hy => by
  unfold putT at hy
  split at hy
  · exact hx y hy
  · exact h m y hy
theorem At.put (h : At w g b c E laid) (hc : c < maxLen) (n : List UInt8) (hn : n.length = 32) (x : Ent) (hx : x.value.size ≤ 2000) :
    ∃ w', (Instr.mapUpdate 51 (.map (some b)) (nameV n) (.agg #[.string x.value, .int .u32 x.flags, .int .i64 x.exp, .int .u64 x.cas])).run Tryz.prog w = .ok () w' ∧ At w' g b (c + 1) (putT E n (some x)) laid ∧ Mut g b w w' := by
  obtain ⟨D, ho, h1, h2⟩ := h.map
  obtain ⟨w', hrun, ho', hg'⟩ := ho.update law Tryz.underlying51 hc (key_name n hn) (val := x.v) (d := .held x.v) (ps := []) rfl
  refine ⟨w', hrun, ⟨?_, (hg'.block g h.lt (fun e => h.ne (by injection e))).trans h.cell, h.ne, small_put h.small n _ (fun y hy => by injection hy with hy; rw [← hy]; exact hx)⟩, (Mut.refl g b w).grown hg' (fun k e => by injection e with e; exact .inr (.inr e.symm))⟩
  have hm : mapF w' Tryz.prog 64 b (c + 1) (putF (litF E) (.string n) (some x.v)) := ⟨_, ho', h1.put _ _, fun l hl => by
    by_cases e1 : l = .string n
    · subst e1
      rw [putF_same]
      exact ⟨fun z => Maps.atKey_put_same h1 hl _ _, Maps.has_put_same h1 hl _⟩
    · rw [putF_other _ _ e1]
      refine ⟨fun z => ?_, ?_⟩
      · rw [Maps.atKey_put_other e1]; exact (h2 l hl).1 z
      · rw [Maps.has_put_other e1]; exact (h2 l hl).2⟩
  rw [← litF_put E n (some x)]
  exact hm
theorem At.del (h : At w g b c E laid) (n : List UInt8) (hn : n.length = 32) (ty : TypeId) :
    ∃ w', (Builtin.delete_ #[51, 64] ty #[.map (some b), nameV n]).run Tryz.prog w = .ok (.tuple #[]) w' ∧ At w' g b c (putT E n none) laid ∧ Mut g b w w' := by
  obtain ⟨D, ho, h1, h2⟩ := h.map
  obtain ⟨w', hrun, ho', es, clock, es', clock', hbk, rfl⟩ := ho.drop law Tryz.underlying51 (key_name n hn) ty
  have hother : ∀ i, i ≠ b → (Go.ChangeMaps.setBlock w b (.map es' clock')).heap[i]? = w.heap[i]? := fun i hi => Go.ChangeMaps.heap_setBlock_other hbk _ hi
  refine ⟨_, hrun, ⟨?_, (hother g h.ne).trans h.cell, h.ne, small_put h.small n _ (fun y hy => by cases hy)⟩, ⟨rfl, rfl, rfl, by simp [Go.ChangeMaps.setBlock], fun i _ _ hi => hother i hi⟩⟩
  have hm : mapF (Go.ChangeMaps.setBlock w b (.map es' clock')) Tryz.prog 64 b c (putF (litF E) (.string n) none) := ⟨_, ho', h1.del _, fun l hl => by
    by_cases e1 : l = .string n
    · subst e1
      rw [putF_same]
      exact ⟨fun z => Maps.atKey_del_same _, Maps.has_del_same⟩
    · rw [putF_other _ _ e1]
      refine ⟨fun z => ?_, ?_⟩
      · rw [Maps.atKey_del_other e1]; exact (h2 l hl).1 z
      · rw [Maps.has_del_other e1]; exact (h2 l hl).2⟩
  rw [← litF_put E n none]
  exact hm
end
def dropB (E : Tab) (key : ByteArray) : Bool := (E (nm key)).isSome && decide (strip (nm key) = key.data.toList)
def dropT (E : Tab) (key : ByteArray) : Tab := if dropB E key = true then putT E (nm key) none else E
set_option maxHeartbeats 8000000 in
set_option maxRecDepth 100000 in
theorem Drop_calls (w : World) (g b c : Nat) (E : Tab) (laid : Int) (key : ByteArray) (hA : At w g b c E laid) :
    Calls Tryz.prog 17 #[.pointer (some ⟨g, 0, none⟩), .string key] w fun e w' => e = .returned (.bool (dropB E key)) ∧ At w' g b c (dropT E key) laid ∧ Mut g b w w' := by
  have hg := hA.lt
  have hgb := hA.ltb
  have H0 := Aside0.mk hA
  obtain ⟨x, hx⟩ : ∃ x, (E (nm key)).getD Ent.z = x := ⟨_, rfl⟩
  obtain ⟨ok, ho⟩ : ∃ ok, (E (nm key)).isSome = ok := ⟨_, rfl⟩
  have HX := Aside0.mk hx
  have HO := Aside0.mk ho
  clear hA hx ho
  go_enter Tryz.func17, Tryz.ntmps17
  go_upto_region 1 with fail
  go_cut [6] (fun v6 wc => v6 = .bool ok ∧ Aside0 (At wc g b c E laid) ∧ Aside0 (Below w.heap.size w wc))
  case first =>
    have HS := Aside0.mk (H0.out.look (nm key) (nm_len key) x ok HX.out HO.out)
    go_region_held3 (fun w' => At w' g b c E laid ∧ w'.cell? ⟨g, 0, none⟩ = some (.map (some b)) ∧ (Instr.lookup 51 (.map (some b)) (nameV (nm key)) true).run Tryz.prog w' = .ok (.tuple #[.agg #[.string x.value, .int .u32 x.flags, .int .i64 x.exp, .int .u64 x.cas], .bool ok]) w')
      ((refine At.look (E := E) (laid := laid) (c := c) ?_ _ (nm_len key) _ _ HX.out HO.out; first | exact And.left (by assumption) | exact HS.out.1.drew | exact At.alloc (At.below HS.out.1.drew hb) _ | exact (At.alloc HS.out.1 _).drew | (refine At.below ?_ hb; exact And.left (by assumption)) | (refine At.alloc ?_ _; exact And.left (by assumption)) | (repeat refine At.setCell ?_ (show w.heap.size ≠ g by omega) (show w.heap.size ≠ b by omega) _); exact And.left (by assumption)))
      (first | (go_at_call 18; refine (named_calls key _).mono ?_; rintro e w' ⟨rfl, hb⟩; (first | (have hq := fresh_block (B := w.heap.size) hb rfl; have q0 := fresh_cell hq 0; have q1 := fresh_cell hq 1; have q2 := fresh_cell hq 2; have q3 := fresh_cell hq 3; simp only [List.getElem?_toArray, List.getElem?_cons_zero, List.getElem?_cons_succ] at q0 q1 q2 q3; have f0 := fresh_frozen hq 0; have f1 := fresh_frozen hq 1; have f2 := fresh_frozen hq 2; have f3 := fresh_frozen hq 3) | skip)))
    all_goals
      go_wp2_with fail
      go_meet
      case rel =>
        first
          | exact ⟨rfl, ⟨And.left (by assumption)⟩, ⟨(wayA hb rfl).2.2⟩⟩
          | exact ⟨rfl, ⟨And.left (by assumption)⟩, ⟨(wayB hb rfl).2.2⟩⟩
  case rest =>
    obtain ⟨rfl, HA, HW⟩ := hcut
    cases ok with
    | false =>
      go_wp2
      go_ret
      have e : dropB E key = false := by unfold dropB; rw [HO.out]; rfl
      unfold dropT
      rw [e, if_neg Bool.false_ne_true]
      exact ⟨rfl, HA.out, .of_below HW.out⟩
    | true =>
      go_wp2_with fail
      refine (named_calls key _).mono ?_
      rintro e w1 ⟨rfl, hb1⟩
      go_wp2_with fail
      by_cases hs : strip (nm key) = key.data.toList
      · have hk : (⟨(strip (nm key)).toArray⟩ : ByteArray) = key := by rw [hs]
        have hkc := key_calls _ (nm_len key)
        rw [hk] at hkc
        refine (hkc _).mono ?_
        rintro e w2 ⟨rfl, hb2⟩
        have hb12 : Below wc.heap.size wc w2 := hb1.trans (hb2.mono hb1.size)
        have HA2 := Aside0.mk (HA.out.below hb12)
        have HW2 := Aside0.mk (HW.out.trans (hb12.mono HW.out.size))
        have q0 := HA2.out.gcell
        have HS := Lib.hid hs
        clear hb1 hb2 hb12 hkc hk hs HA HW
        go_upto_region 4 with fail
        go_region_held3 (fun w' => w'.cell? ⟨g, 0, none⟩ = some (.map (some b)))
          ((first | exact HA2.out.drew.gcell | exact HA3.out.gcell | exact HA4.gcell))
          (first | (go_at_call 18; refine (named_calls key _).mono ?_; rintro e w3 ⟨rfl, hb3⟩; have HA3 := Aside0.mk (HA2.out.drew.below hb3); obtain ⟨w4, hr4, HA4, HM4⟩ := HA3.out.del (nm key) (nm_len key) 0))
        go_wp2
        go_ret
        have e : dropB E key = true := by unfold dropB; rw [HO.out, decide_eq_true HS.out]; rfl
        unfold dropT
        rw [e, if_pos rfl]
        exact ⟨rfl, HA4, (((Mut.of_below HW2.out).drew).then_below hb3).trans HM4⟩
      · refine (key_calls _ (nm_len key) _).mono ?_
        rintro e w2 ⟨rfl, hb2⟩
        have hb12 : Below wc.heap.size wc w2 := hb1.trans (hb2.mono hb1.size)
        have HA2 := Aside0.mk (HA.out.below hb12)
        have HW2 := Aside0.mk (HW.out.trans (hb12.mono HW.out.size))
        have hs' : (strip (nm key) == key.toList) = false := beq_eq_false_iff_ne.2 (by rw [ByteArray.toList_eq]; exact hs)
        have HS := Lib.hid hs
        clear hb1 hb2 hb12 HW hs HA
        go_wp2
        go_ret
        have e : dropB E key = false := by unfold dropB; rw [decide_eq_false HS.out, Bool.and_false]
        unfold dropT
        rw [e, if_neg Bool.false_ne_true]
        exact ⟨rfl, HA2.out, .of_below HW2.out⟩
end Go.Proofs.YtbggcimjlkjclaaGreatDoor.Mdl
end
section
namespace Go.Proofs.YtbggcimjlkjclaaGreatDoor.Mdl
open Go.RowKit Go.Proofs.YtbggcimjlkjclaaGreatDoorW.PrintWords Go.Proofs.YtbggcimjlkjclaaGreatDoorW.PrintLast Go.Proofs.YtbggcimjlkjclaaGreatDoorW.PrintMore Go.WideMaps Go.Proofs.YtbggcimjlkjclaaGreatDoor.XMd
set_option linter.unusedVariables false
set_option linter.unusedSimpArgs false
attribute [local go_sem ↓] Go.wp_at_zero Go.wp_at_succ

structure Cmd where
  kind : Int
  keys : List ByteArray
  flags : Int
  exp : Int
  value : ByteArray
  cas : Int
  delta : Int
  quiet : Bool
def ActAt (w : World) (a g : Nat) (k : Cmd) (A : Option Addr) (cap : Nat) (now ends : Int) (failed : Bool) (old : Ent) (is : Bool) : Prop :=
  w.heap[a]? = some (.cells #[.pointer (some ⟨g, 0, none⟩), .int .i64 k.kind, .slice A k.keys.length cap, .int .u32 k.flags, .int .i64 k.exp, .string k.value, .int .u64 k.cas, .int .u64 k.delta, .bool k.quiet, .int .i64 now, .int .i64 ends, .bool failed, .string old.value, .int .u32 old.flags, .int .i64 old.exp, .int .u64 old.cas, .bool is] 59)
def KeyAt (w : World) (g b : Nat) (A : Option Addr) (k : Cmd) (key : ByteArray) : Prop := 0 < k.keys.length ∧ ∃ ad, A = some ad ∧ w.cell? ad = some (.string key) ∧ ad.block ≠ g ∧ ad.block ≠ b
theorem set3 {w : World} {B : Nat} {x0 x1 x2 a b c : Value} {t : TypeId} (h : w.heap[B]? = some (.cells #[x0, x1, x2] t)) :
    (((w.setCell ⟨B, 0, none⟩ a).setCell ⟨B, 1, none⟩ b).setCell ⟨B, 2, none⟩ c).heap[B]? = some (.cells #[a, b, c] t) :=
  Lib.heap_setCell_same (Lib.heap_setCell_same (Lib.heap_setCell_same (i := 0) h a) (i := 1) b) (i := 2) c
theorem keepC {w w' : World} {a : Addr} {v : Value} (hb : Below w.heap.size w w') (h : w.cell? a = some v) : w'.cell? a = some v := (hb.cell (World.block_lt_of_cell? w a h)).trans h
theorem keepA {w : World} {a : Addr} {v : Value} (h : w.cell? a = some v) (o : Obj) : (w.alloc o).drew.cell? a = some v := keepC ((Below.refl _ w).alloc (Nat.le_refl _) o).drew h
theorem At.setLaid {w : World} {g b c : Nat} {E : Tab} {laid : Int} (h : At w g b c E laid) (n : Int) : At (w.setCell ⟨g, 1, none⟩ (.int .u64 n)) g b c E n :=
  ⟨h.map.same (Below.heap_setCell w _ _ b h.ne.symm), Lib.heap_setCell_same (i := 1) h.cell _, h.ne, h.small⟩
def layT (E : Tab) (laid : Int) (key : ByteArray) (x : Ent) (failed : Bool) : Tab := if failed = true then E else putT E (nm key) (some { x with cas := (laid + 1) % 18446744073709551616 })
def layN (laid : Int) (failed : Bool) : Int := if failed = true then laid else (laid + 1) % 18446744073709551616
set_option maxHeartbeats 8000000 in
set_option maxRecDepth 100000 in
theorem lay_calls (w : World) (g b c a : Nat) (E : Tab) (laid : Int) (k : Cmd) (A : Option Addr) (cap : Nat) (now ends : Int) (failed : Bool) (old : Ent) (is : Bool) (key : ByteArray) (x : Ent) (code : Int)
    (hA : At w g b c E laid) (hc : c < maxLen) (ha : ActAt w a g k A cap now ends failed old is) (hag : a ≠ g) (hab : a ≠ b) (hk : KeyAt w g b A k key) (hx : x.value.size ≤ 2000) :
    Calls Tryz.prog 32 #[.pointer (some ⟨a, 0, none⟩), .agg #[.string x.value, .int .u32 x.flags, .int .i64 x.exp, .int .u64 x.cas], .int .i64 code] w fun e w' =>
      e = .returned (.agg #[.int .i64 (if failed = true then 11 else code), .slice none 0 0, .int .u64 0]) ∧ At w' g b (c + 1) (layT E laid key x failed) (layN laid failed) ∧ Mut g b w w' := by
  have hg := hA.lt
  have hgb := hA.ltb
  have hal : a < w.heap.size := blk_lt ha
  obtain ⟨hk0, ad, rfl, hkc, hk1, hk2⟩ := hk
  have hkl := World.block_lt_of_cell? w ad hkc
  have a0 := fresh_cell ha 0
  have a2 := fresh_cell ha 2
  have a11 := fresh_cell ha 11
  simp only [List.getElem?_toArray, List.getElem?_cons_zero, List.getElem?_cons_succ] at a0 a2 a11
  have g0 := hA.gcell
  have g1 := hA.lcell
  have gf := fresh_frozen hA.cell 1
  have H0 := Aside0.mk hA
  have HAct := Lib.hid ha
  clear hA ha
  go_enter Tryz.func32, Tryz.ntmps32
  cases failed with
  | true =>
    go_wp2
    refine bodyPost_ret (results_cell_row rfl _ _ (w.heap.size + 1) 36 #[.int .i64 11, .slice none 0 0, .int .u64 0] (0, 0) _ rfl ?_ Tryz.underlying36 rfl (by kernel_rfl)) rfl ?_
    · rw [← size_al w (.cells #[.string x.value, .int .u32 x.flags, .int .i64 x.exp, .int .u64 x.cas] 44)]
      exact heap_alloc_new _ _
    · exact ⟨rfl, ((H0.out.alloc _).alloc _).more (by omega), ((Mut.refl g b w).alloc _).alloc _⟩
  | false =>
    go_upto_region 5 with fail
    rw [IntKind.wrap_u64]
    obtain ⟨n, hn⟩ : ∃ n, n = (laid + 1) % 18446744073709551616 := ⟨_, rfl⟩
    rw [← hn]
    have HN := Lib.hid hn
    have hA1 := H0.out.setLaid n
    have hM1 := (Mut.refl g b w).setCell (p := ⟨g, 1, none⟩) (.inr (.inl rfl)) (.int .u64 n)
    have hsz : (w.setCell ⟨g, 1, none⟩ (.int .u64 n)).heap.size = w.heap.size := by simp [World.setCell]
    have hb1 := heap_alloc_new (w.setCell ⟨g, 1, none⟩ (.int .u64 n)) (.cells #[.string x.value, .int .u32 x.flags, .int .i64 x.exp, .int .u64 n] 44)
    have hb2 := heap_alloc_new ((w.setCell ⟨g, 1, none⟩ (.int .u64 n)).alloc (.cells #[.string x.value, .int .u32 x.flags, .int .i64 x.exp, .int .u64 n] 44)) (.cells #[.int .i64 0, .slice none 0 0, .int .u64 0] 36)
    rw [hsz] at hb1
    rw [size_al, hsz] at hb2
    have hb1' := (Below.heap_alloc ((w.setCell ⟨g, 1, none⟩ (.int .u64 n)).alloc (.cells #[.string x.value, .int .u32 x.flags, .int .i64 x.exp, .int .u64 n] 44)) (.cells #[.int .i64 0, .slice none 0 0, .int .u64 0] 36) w.heap.size (by rw [size_al, hsz]; omega)).trans hb1
    have hA2 := (hA1.alloc (.cells #[.string x.value, .int .u32 x.flags, .int .i64 x.exp, .int .u64 n] 44)).alloc (.cells #[.int .i64 0, .slice none 0 0, .int .u64 0] 36)
    have hM2 := (hM1.alloc (.cells #[.string x.value, .int .u32 x.flags, .int .i64 x.exp, .int .u64 n] 44)).alloc (.cells #[.int .i64 0, .slice none 0 0, .int .u64 0] 36)
    generalize ((w.setCell ⟨g, 1, none⟩ (.int .u64 n)).alloc (.cells #[.string x.value, .int .u32 x.flags, .int .i64 x.exp, .int .u64 n] 44)).alloc (.cells #[.int .i64 0, .slice none 0 0, .int .u64 0] 36) = W at hb1' hb2 hA2 hM2 ⊢
    clear hn hA1 hM1 hsz hb1 g0 g1 gf a11
    have c0 := hM2.cell a0 hag hab
    have c2 := hM2.cell a2 hag hab
    have ck := hM2.cell hkc hk1 hk2
    have g0 := hA2.gcell
    have x0 := fresh_cell hb1' 0
    have x1 := fresh_cell hb1' 1
    have x2 := fresh_cell hb1' 2
    have x3 := fresh_cell hb1' 3
    simp only [List.getElem?_toArray, List.getElem?_cons_zero, List.getElem?_cons_succ] at x0 x1 x2 x3
    have HA2 := Aside0.mk hA2
    have HM2 := Aside0.mk hM2
    have HB2 := Lib.hid hb2
    have HF := Lib.hid (show _ ∧ _ ∧ _ ∧ _ ∧ _ ∧ _ ∧ _ ∧ _ from ⟨c0, g0, c2, ck, x0, x1, x2, x3⟩)
    clear a0 a2 hkc hA2 hM2 hb1' hb2 c0 c2 ck g0 x0 x1 x2 x3
    have hk0' : (0 : Int) < (k.keys.length : Int) := by omega
    go_region_held3 (fun w' => w'.cell? ⟨a, 0, none⟩ = some (.pointer (some ⟨g, 0, none⟩)) ∧ w'.cell? ⟨g, 0, none⟩ = some (.map (some b)) ∧ w'.cell? ⟨a, 2, none⟩ = some (.slice (some ad) k.keys.length cap) ∧ w'.cell? ad = some (.string key) ∧
        w'.cell? ⟨w.heap.size, 0, none⟩ = some (.string x.value) ∧ w'.cell? ⟨w.heap.size, 1, none⟩ = some (.int .u32 x.flags) ∧ w'.cell? ⟨w.heap.size, 2, none⟩ = some (.int .i64 x.exp) ∧ w'.cell? ⟨w.heap.size, 3, none⟩ = some (.int .u64 n))
      ((first | exact HF.out | exact HF3.out | exact HF4.out))
      (first | (go_at_call 18; refine (named_calls key _).mono ?_; rintro e w3 ⟨rfl, hb3⟩; have HA3 := Aside0.mk (HA2.out.drew.below hb3); have HF3 := Lib.hid (show _ ∧ _ ∧ _ ∧ _ ∧ _ ∧ _ ∧ _ ∧ _ from ⟨keepC hb3 HF.out.1, keepC hb3 HF.out.2.1, keepC hb3 HF.out.2.2.1, keepC hb3 HF.out.2.2.2.1, keepC hb3 HF.out.2.2.2.2.1, keepC hb3 HF.out.2.2.2.2.2.1, keepC hb3 HF.out.2.2.2.2.2.2.1, keepC hb3 HF.out.2.2.2.2.2.2.2⟩); obtain ⟨w4, hr4, HA4, HM4⟩ := HA3.out.put hc (nm key) (nm_len key) ⟨x.value, x.flags, x.exp, n⟩ hx; have HF4 := Lib.hid (show _ ∧ _ ∧ _ ∧ _ ∧ _ ∧ _ ∧ _ ∧ _ from ⟨HM4.cell HF3.out.1 hag hab, HA4.gcell, HM4.cell HF3.out.2.2.1 hag hab, HM4.cell HF3.out.2.2.2.1 hk1 hk2, HM4.cell HF3.out.2.2.2.2.1 (by simp; omega) (by simp; omega), HM4.cell HF3.out.2.2.2.2.2.1 (by simp; omega) (by simp; omega), HM4.cell HF3.out.2.2.2.2.2.2.1 (by simp; omega) (by simp; omega), HM4.cell HF3.out.2.2.2.2.2.2.2 (by simp; omega) (by simp; omega)⟩)))
    have hr4b := HM4.heap ((hb3.block _ (blk_lt HB2.out)).trans HB2.out) (by omega) (by omega)
    have r0 := fresh_cell hr4b 0
    have r1 := fresh_cell hr4b 1
    have r2 := fresh_cell hr4b 2
    have f0 := fresh_frozen hr4b 0
    have f1 := fresh_frozen hr4b 1
    have f2 := fresh_frozen hr4b 2
    simp only [List.getElem?_toArray, List.getElem?_cons_zero, List.getElem?_cons_succ] at r0 r1 r2
    have HR4 := Lib.hid hr4b
    clear hr4b
    go_wp2
    refine bodyPost_ret (results_cell_row rfl _ _ (w.heap.size + 1) _ _ _ _ rfl (set3 HR4.out) Tryz.underlying36 rfl (by kernel_rfl)) rfl ?_
    have e1 : layT E laid key x false = putT E (nm key) (some ⟨x.value, x.flags, x.exp, n⟩) := by unfold layT; rw [if_neg Bool.false_ne_true, HN.out]
    have e2 : layN laid false = n := by unfold layN; rw [if_neg Bool.false_ne_true, HN.out]
    rw [e1, e2]
    refine ⟨rfl, ?_, ?_⟩
    · exact ((HA4.setCell (by simp; omega) (by simp; omega) _).setCell (by simp; omega) (by simp; omega) _).setCell (by simp; omega) (by simp; omega) _
    · exact ((((HM2.out.drew.then_below hb3).trans HM4).setCell (.inl (by simp)) _).setCell (.inl (by simp)) _).setCell (.inl (by simp)) _
end Go.Proofs.YtbggcimjlkjclaaGreatDoor.Mdl
end
section
namespace Go.Proofs.YtbggcimjlkjclaaGreatDoor.Mdl
open Go.RowKit Go.Proofs.YtbggcimjlkjclaaGreatDoorW.PrintWords Go.Proofs.YtbggcimjlkjclaaGreatDoorW.PrintLast Go.Proofs.YtbggcimjlkjclaaGreatDoorW.PrintMore Go.WideMaps Go.Proofs.YtbggcimjlkjclaaGreatDoor.XMd
set_option linter.unusedVariables false
set_option linter.unusedSimpArgs false
attribute [local go_sem ↓] Go.wp_at_zero Go.wp_at_succ

def mayC (k : Cmd) (is : Bool) (old : Ent) : Int :=
  if k.kind = 6 then (if is = true then 3 else 0) else if k.kind = 7 ∨ k.kind = 8 ∨ k.kind = 9 then (if is = true then 0 else 3)
  else if k.kind = 10 then (if is = true then (if old.cas = k.cas then 0 else 4) else 5) else 0
def mayT (E : Tab) (key : ByteArray) (k : Cmd) (failed : Bool) : Tab := if k.kind = 5 ∧ failed = true then dropT E key else E
set_option maxHeartbeats 8000000 in
set_option maxRecDepth 100000 in
theorem may_calls (w : World) (g b c a : Nat) (E : Tab) (laid : Int) (k : Cmd) (A : Option Addr) (cap : Nat) (now ends : Int) (failed : Bool) (old : Ent) (is : Bool) (key : ByteArray)
    (hA : At w g b c E laid) (ha : ActAt w a g k A cap now ends failed old is) (hag : a ≠ g) (hab : a ≠ b) (hk : KeyAt w g b A k key) (hkind : 5 ≤ k.kind ∧ k.kind ≤ 10) :
    Calls Tryz.prog 31 #[.pointer (some ⟨a, 0, none⟩)] w fun e w' => e = .returned (.int .i64 (mayC k is old)) ∧ At w' g b c (mayT E key k failed) laid ∧ Mut g b w w' := by
  have hg := hA.lt
  have hgb := hA.ltb
  have hal : a < w.heap.size := blk_lt ha
  obtain ⟨hk0, ad, rfl, hkc, hk1, hk2⟩ := hk
  obtain ⟨kind, keys, kflags, kexp, kvalue, kcas, kdelta, kquiet⟩ := k
  have a0 := fresh_cell ha 0
  have a1 := fresh_cell ha 1
  have a2 := fresh_cell ha 2
  have a6 := fresh_cell ha 6
  have a11 := fresh_cell ha 11
  have a15 := fresh_cell ha 15
  have a16 := fresh_cell ha 16
  simp only [List.getElem?_toArray, List.getElem?_cons_zero, List.getElem?_cons_succ] at a0 a1 a2 a6 a11 a15 a16
  have H0 := Aside0.mk hA
  have hkk : kind = 5 ∨ kind = 6 ∨ kind = 7 ∨ kind = 8 ∨ kind = 9 ∨ kind = 10 := by have := hkind; simp only at this; omega
  have hk0' : (0 : Int) < (keys.length : Int) := by have := hk0; simp only at this; omega
  have hk0n : 0 < keys.length := by omega
  clear hA ha hkind hk0
  go_enter Tryz.func31, Tryz.ntmps31
  rcases hkk with rfl | rfl | rfl | rfl | rfl | rfl
  · cases failed with
    | false =>
      go_wp2
      go_ret
      exact ⟨rfl, H0.out, Mut.refl g b w⟩
    | true =>
      go_upto_region 17 with fail
      have HF := Lib.hid (show _ ∧ _ ∧ _ from ⟨a0, a2, hkc⟩)
      clear a0 a1 a2 a6 a11 a15 a16 hkc
      go_region_held3 (fun w' => w'.cell? ⟨a, 0, none⟩ = some (.pointer (some ⟨g, 0, none⟩)) ∧ w'.cell? ⟨a, 2, none⟩ = some (.slice (some ad) keys.length cap) ∧ w'.cell? ad = some (.string key))
        ((first | exact HF.out | exact HF4.out))
        (first | (go_at_call 17; refine (Drop_calls _ g b c E laid key H0.out.drew).mono ?_; rintro e w4 ⟨rfl, HA4, HM4⟩; have HF4 := Lib.hid (show _ ∧ _ ∧ _ from ⟨HM4.cell HF.out.1 hag hab, HM4.cell HF.out.2.1 hag hab, HM4.cell HF.out.2.2 hk1 hk2⟩)))
      go_wp2
      go_ret
      exact ⟨rfl, HA4, (Mut.refl g b w).drew.trans HM4⟩
  · cases is
    · go_wp2
      go_ret
      exact ⟨rfl, H0.out, Mut.refl g b w⟩
    · go_wp2
      go_ret
      exact ⟨rfl, H0.out, Mut.refl g b w⟩
  · cases is
    · go_wp2
      go_ret
      exact ⟨rfl, H0.out, Mut.refl g b w⟩
    · go_wp2
      go_ret
      exact ⟨rfl, H0.out, Mut.refl g b w⟩
  · cases is
    · go_wp2
      go_ret
      exact ⟨rfl, H0.out, Mut.refl g b w⟩
    · go_wp2
      go_ret
      exact ⟨rfl, H0.out, Mut.refl g b w⟩
  · cases is
    · go_wp2
      go_ret
      exact ⟨rfl, H0.out, Mut.refl g b w⟩
    · go_wp2
      go_ret
      exact ⟨rfl, H0.out, Mut.refl g b w⟩
  · cases is
    · go_wp2
      go_ret
      exact ⟨rfl, H0.out, Mut.refl g b w⟩
    · by_cases hcas : old.cas = kcas
      · have e1 : (old.cas != kcas) = false := bne_eq_false_iff_eq.2 hcas
        have HC := Lib.hid hcas
        clear hcas
        go_wp2_with fail
        go_quiet (fail)
        go_wp2
        go_ret
        have e : mayC ⟨10, keys, kflags, kexp, kvalue, kcas, kdelta, kquiet⟩ true old = 0 := by simp [mayC, HC.out]
        rw [e]
        exact ⟨rfl, H0.out.below ⟨rfl, rfl, rfl, Nat.le_refl _, fun _ _ => rfl⟩, (Mut.refl g b w).drewN _⟩
      · have e1 : (old.cas != kcas) = true := bne_iff_ne.2 hcas
        have HC := Lib.hid hcas
        clear hcas
        go_wp2_with fail
        go_quiet (fail)
        go_wp2
        go_ret
        have e : mayC ⟨10, keys, kflags, kexp, kvalue, kcas, kdelta, kquiet⟩ true old = 4 := by simp [mayC, HC.out]
        rw [e]
        exact ⟨rfl, H0.out.below ⟨rfl, rfl, rfl, Nat.le_refl _, fun _ _ => rfl⟩, (Mut.refl g b w).drewN _⟩
end Go.Proofs.YtbggcimjlkjclaaGreatDoor.Mdl
end
section
namespace Go.Proofs.YtbggcimjlkjclaaGreatDoor.Mdl
open Go.RowKit Go.Proofs.YtbggcimjlkjclaaGreatDoorW.PrintWords Go.Proofs.YtbggcimjlkjclaaGreatDoorW.PrintLast Go.Proofs.YtbggcimjlkjclaaGreatDoorW.PrintMore Go.WideMaps Go.Proofs.YtbggcimjlkjclaaGreatDoor.XMd
set_option linter.unusedVariables false
set_option linter.unusedSimpArgs false
attribute [local go_sem ↓] Go.wp_at_zero Go.wp_at_succ

def newEnt (k : Cmd) (old : Ent) (ends : Int) : Ent :=
  if k.kind = 8 then { old with value := old.value ++ k.value } else if k.kind = 9 then { old with value := k.value ++ old.value } else ⟨k.value, k.flags, ends, 0⟩
def storeR (k : Cmd) (is : Bool) (old : Ent) (ends : Int) (failed : Bool) (key : ByteArray) (E : Tab) (laid : Int) : Int × Tab × Int :=
  if mayC k is old ≠ 0 then (mayC k is old, mayT E key k failed, laid)
  else if 2000 < (newEnt k old ends).value.size then (12, mayT E key k failed, laid)
  else (if failed = true then 11 else 2, layT (mayT E key k failed) laid key (newEnt k old ends) failed, layN laid failed)
set_option maxHeartbeats 8000000 in
set_option maxRecDepth 100000 in
theorem store_calls (w : World) (g b c a : Nat) (E : Tab) (laid : Int) (k : Cmd) (A : Option Addr) (cap : Nat) (now ends : Int) (failed : Bool) (old : Ent) (is : Bool) (key : ByteArray)
    (hA : At w g b c E laid) (hc : c < maxLen) (ha : ActAt w a g k A cap now ends failed old is) (hag : a ≠ g) (hab : a ≠ b) (hk : KeyAt w g b A k key) (hkind : 5 ≤ k.kind ∧ k.kind ≤ 10) (hkv : k.value.size ≤ 2000) (hov : old.value.size ≤ 2000) :
    Calls Tryz.prog 16 #[.pointer (some ⟨a, 0, none⟩)] w fun e w' =>
      e = .returned (.agg #[.int .i64 (storeR k is old ends failed key E laid).1, .slice none 0 0, .int .u64 0]) ∧ At w' g b (c + 1) (storeR k is old ends failed key E laid).2.1 (storeR k is old ends failed key E laid).2.2 ∧ Mut g b w w' := by
  have hg := hA.lt
  have hgb := hA.ltb
  have hal : a < w.heap.size := blk_lt ha
  have H0 := Aside0.mk hA
  have HAct := Lib.hid ha
  have HK := Lib.hid hk
  have HKind := Lib.hid hkind
  clear hA ha hk hkind
  go_enter Tryz.func16, Tryz.ntmps16
  go_wp2_with fail
  have hA1 := H0.out.alloc (.cells #[.int .i64 0, .slice none 0 0, .int .u64 0] 36)
  have hM1 := (Mut.refl g b w).alloc (.cells #[.int .i64 0, .slice none 0 0, .int .u64 0] 36)
  have ha1 : ActAt (w.alloc (.cells #[.int .i64 0, .slice none 0 0, .int .u64 0] 36)) a g k A cap now ends failed old is := hM1.heap HAct.out hag hab
  have hk1 : KeyAt (w.alloc (.cells #[.int .i64 0, .slice none 0 0, .int .u64 0] 36)) g b A k key := by
    obtain ⟨h1, ad, h2, h3, h4, h5⟩ := HK.out
    exact ⟨h1, ad, h2, hM1.cell h3 h4 h5, h4, h5⟩
  refine (may_calls _ g b c a E laid k A cap now ends failed old is key hA1 ha1 hag hab hk1 HKind.out).mono ?_
  rintro e w1 ⟨rfl, hA2, hM2⟩
  have hr2 := hM2.heap (heap_alloc_new w (.cells #[.int .i64 0, .slice none 0 0, .int .u64 0] 36)) (by omega) (by omega)
  have ha2 : ActAt w1 a g k A cap now ends failed old is := hM2.heap ha1 hag hab
  have hk2 : KeyAt w1 g b A k key := by
    obtain ⟨h1, ad, h2, h3, h4, h5⟩ := hk1
    exact ⟨h1, ad, h2, hM2.cell h3 h4 h5, h4, h5⟩
  have HM := Aside0.mk (hM1.trans hM2)
  have HA := Aside0.mk hA2
  have hws : w.heap.size < w1.heap.size := by have := hM2.size; rw [size_al] at this; omega
  clear HAct HK hA1 hM1 ha1 hk1 hA2 hM2 H0
  obtain ⟨code, hcode⟩ : ∃ code, mayC k is old = code := ⟨_, rfl⟩
  rw [hcode]
  have HC := Lib.hid hcode
  clear hcode
  by_cases h0 : code = 0
  · subst h0
    have HR := Lib.hid hr2
    have HAct := Lib.hid ha2
    have HK := Lib.hid hk2
    have a0 := fresh_cell ha2 0
    have a3 := fresh_cell ha2 3
    have a5 := fresh_cell ha2 5
    have a10 := fresh_cell ha2 10
    simp only [List.getElem?_toArray, List.getElem?_cons_zero, List.getElem?_cons_succ] at a0 a3 a5 a10
    clear hr2 ha2 hk2
    go_upto_region 4 with fail
    have HF := Lib.hid (show _ ∧ _ ∧ _ from ⟨a5, a3, a10⟩)
    clear a0 a3 a5 a10
    go_region_held3 (fun w' => w'.cell? ⟨a, 5, none⟩ = some (.string k.value) ∧ w'.cell? ⟨a, 3, none⟩ = some (.int .u32 k.flags) ∧ w'.cell? ⟨a, 10, none⟩ = some (.int .i64 ends))
      ((first | exact HF.out | exact ⟨keepA HF.out.1 _, keepA HF.out.2.1 _, keepA HF.out.2.2 _⟩))
      (fail)
    have hA3 := (HA.out.alloc (.cells #[.string k.value, .int .u32 k.flags, .int .i64 ends, .int .u64 0] 44)).drew
    have hM3 := (HM.out.alloc (.cells #[.string k.value, .int .u32 k.flags, .int .i64 ends, .int .u64 0] 44)).drew
    have hB3 : (w1.alloc (.cells #[.string k.value, .int .u32 k.flags, .int .i64 ends, .int .u64 0] 44)).drew.heap[w1.heap.size]? = some (.cells #[.string k.value, .int .u32 k.flags, .int .i64 ends, .int .u64 0] 44) := heap_alloc_new _ _
    have hk3 : KeyAt (w1.alloc (.cells #[.string k.value, .int .u32 k.flags, .int .i64 ends, .int .u64 0] 44)).drew g b A k key := by
      obtain ⟨h1, ad, h2, h3, h4, h5⟩ := HK.out
      exact ⟨h1, ad, h2, keepA h3 _, h4, h5⟩
    have ha3 : ActAt (w1.alloc (.cells #[.string k.value, .int .u32 k.flags, .int .i64 ends, .int .u64 0] 44)).drew a g k A cap now ends failed old is := (Below.heap_alloc w1 _ a (blk_lt HAct.out)).trans HAct.out
    have hr3 : (w1.alloc (.cells #[.string k.value, .int .u32 k.flags, .int .i64 ends, .int .u64 0] 44)).drew.heap[w.heap.size]? = some (.cells #[.int .i64 0, .slice none 0 0, .int .u64 0] 36) := (Below.heap_alloc w1 _ _ hws).trans HR.out
    have HK0 : Hid (∀ ad, A = some ad → w1.cell? ad = some (.string key)) := Lib.hid (fun ad e => by obtain ⟨h1, ad', h2, h3, h4, h5⟩ := HK.out; rw [h2] at e; injection e with e; rw [← e]; exact h3)
    obtain ⟨B, hBe⟩ : ∃ B, B = w1.heap.size := ⟨_, rfl⟩
    have hBg : B ≠ g := by have := HA.out.lt; omega
    have hBb : B ≠ b := by have := HA.out.ltb; omega
    have hBa : B ≠ a := by have := blk_lt HAct.out; omega
    have hBr : B ≠ w.heap.size := by omega
    have hBw : w.heap.size ≤ B := by omega
    rw [← hBe] at hB3 ⊢
    generalize (w1.alloc (.cells #[.string k.value, .int .u32 k.flags, .int .i64 ends, .int .u64 0] 44)).drew = W at hA3 hM3 hB3 hk3 ha3 hr3 ⊢
    have HBe := Lib.hid hBe
    clear HA HM HR HAct HK HF hws hBe
    have a0 := fresh_cell ha3 0
    have a1 := fresh_cell ha3 1
    have a5 := fresh_cell ha3 5
    have a12 := fresh_cell ha3 12
    have a13 := fresh_cell ha3 13
    have a14 := fresh_cell ha3 14
    have a15 := fresh_cell ha3 15
    have b0 := fresh_cell hB3 0
    have b1 := fresh_cell hB3 1
    have b2 := fresh_cell hB3 2
    have b3 := fresh_cell hB3 3
    have f0 := fresh_frozen hB3 0
    have f1 := fresh_frozen hB3 1
    have f2 := fresh_frozen hB3 2
    have f3 := fresh_frozen hB3 3
    simp only [List.getElem?_toArray, List.getElem?_cons_zero, List.getElem?_cons_succ] at a0 a1 a5 a12 a13 a14 a15 b0 b1 b2 b3
    have hs1 : old.value.size + k.value.size ≤ 9223372036854775807 := by omega
    have hs2 : k.value.size + old.value.size ≤ 9223372036854775807 := by omega
    have HA := Aside0.mk hA3
    have HM := Aside0.mk hM3
    have HB := Lib.hid hB3
    have HK := Lib.hid hk3
    have HAct := Lib.hid ha3
    have HR := Lib.hid hr3
    clear hA3 hM3 hB3 hk3 ha3 hr3
    have HKO : Hid (∀ ad, A = some ad → w1.cell? ad = some (.string key)) := HK0
    clear HK0
    by_cases k8 : k.kind = 8
    · have k8' : (k.kind == 8) = true := beq_iff_eq.2 k8
      go_upto_region 8 with fail
      go_region
      go_upto_region 12 with fail
      have o : Only B W ((((((W.setCell ⟨B, 0, none⟩ (.string old.value)).setCell ⟨B, 1, none⟩ (.int .u32 old.flags)).setCell ⟨B, 2, none⟩ (.int .i64 old.exp)).setCell ⟨B, 3, none⟩ (.int .u64 old.cas)).setCell ⟨B, 0, none⟩ (.string (old.value ++ k.value))).drew) := (((((Only.refl B W).setCell 0 _).setCell 1 _).setCell 2 _).setCell 3 _).setCell 0 _ |>.drew
      have hV : ((((((W.setCell ⟨B, 0, none⟩ (.string old.value)).setCell ⟨B, 1, none⟩ (.int .u32 old.flags)).setCell ⟨B, 2, none⟩ (.int .i64 old.exp)).setCell ⟨B, 3, none⟩ (.int .u64 old.cas)).setCell ⟨B, 0, none⟩ (.string (old.value ++ k.value))).drew).heap[B]? = some (.cells #[.string (newEnt k old ends).value, .int .u32 (newEnt k old ends).flags, .int .i64 (newEnt k old ends).exp, .int .u64 (newEnt k old ends).cas] 44) := by
        have e : newEnt k old ends = ⟨old.value ++ k.value, old.flags, old.exp, old.cas⟩ := by unfold newEnt; rw [if_pos k8]
        rw [e]
        exact Lib.heap_setCell_same (i := 0) (set4 HB.out) _
      generalize (((((W.setCell ⟨B, 0, none⟩ (.string old.value)).setCell ⟨B, 1, none⟩ (.int .u32 old.flags)).setCell ⟨B, 2, none⟩ (.int .i64 old.exp)).setCell ⟨B, 3, none⟩ (.int .u64 old.cas)).setCell ⟨B, 0, none⟩ (.string (old.value ++ k.value))).drew = V at o hV ⊢
      have hVr := o.heap HR.out hBr.symm
      have hVa : ActAt V a g k A cap now ends failed old is := o.heap HAct.out hBa.symm
      have hVk : KeyAt V g b A k key := by
        obtain ⟨h1, ad, h2, h3, h4, h5⟩ := HK.out
        exact ⟨h1, ad, h2, o.cell h3 (by have := World.block_lt_of_cell? w1 ad (HKO.out ad h2); have := HBe.out; omega), h4, h5⟩
      have HA := Aside0.mk (HA.out.only o hBg hBb)
      have HM := Aside0.mk (HM.out.only o hBw)
      have HVr := Lib.hid hVr
      have HVa := Lib.hid hVa
      have HVk := Lib.hid hVk
      clear hVr hVa hVk o HR HAct HK HB a0 a1 a5 a12 a13 a14 a15 b0 b1 b2 b3 f0 f1 f2 f3
      have b0 := fresh_cell hV 0
      have b1 := fresh_cell hV 1
      have b2 := fresh_cell hV 2
      have b3 := fresh_cell hV 3
      simp only [List.getElem?_toArray, List.getElem?_cons_zero, List.getElem?_cons_succ] at b0 b1 b2 b3
      clear hV
      obtain ⟨x, hx⟩ : ∃ x, newEnt k old ends = x := ⟨_, rfl⟩
      rw [hx] at b0 b1 b2 b3
      have HX := Lib.hid hx
      clear hx
      by_cases hlen : 2000 < x.value.size
      · have hl' : (2000 : Int) < (x.value.size : Int) := by omega
        have r0 := fresh_cell HVr.out 0
        have r1 := fresh_cell HVr.out 1
        have r2 := fresh_cell HVr.out 2
        have f0 := fresh_frozen HVr.out 0
        have f1 := fresh_frozen HVr.out 1
        have f2 := fresh_frozen HVr.out 2
        simp only [List.getElem?_toArray, List.getElem?_cons_zero, List.getElem?_cons_succ] at r0 r1 r2
        have HL := Lib.hid hlen
        clear hlen
        go_wp2
        refine bodyPost_ret (results_cell_row rfl _ _ w.heap.size _ _ _ _ rfl (set3 HVr.out) Tryz.underlying36 rfl (by kernel_rfl)) rfl ?_
        have e : storeR k is old ends failed key E laid = (12, mayT E key k failed, laid) := by unfold storeR; rw [HC.out, if_neg (by omega), HX.out, if_pos HL.out]
        rw [e]
        exact ⟨rfl, (((HA.out.setCell (by simp; omega) (by simp; omega) _).setCell (by simp; omega) (by simp; omega) _).setCell (by simp; omega) (by simp; omega) _).more (by omega), ((HM.out.setCell (.inl (by simp)) _).setCell (.inl (by simp)) _).setCell (.inl (by simp)) _⟩
      · have hl' : ¬ (2000 : Int) < (x.value.size : Int) := by omega
        have HL := Lib.hid hlen
        have hx2 : x.value.size ≤ 2000 := by omega
        clear hlen
        go_wp2_with fail
        have hlay := lay_calls _ g b c a _ laid k A cap now ends failed old is key x 2 HA.out hc HVa.out hag hab HVk.out hx2
        obtain ⟨cd, hcd⟩ : ∃ cd : Int, (if failed = true then 11 else 2) = cd := ⟨_, rfl⟩
        rw [hcd] at hlay
        have HCD := Lib.hid hcd
        clear hcd
        refine hlay.mono ?_
        clear hlay
        rintro e V2 ⟨rfl, hA4, hM4⟩
        have hr4 := hM4.heap HVr.out (by omega) (by omega)
        have r0 := fresh_cell hr4 0
        have r1 := fresh_cell hr4 1
        have r2 := fresh_cell hr4 2
        have f0 := fresh_frozen hr4 0
        have f1 := fresh_frozen hr4 1
        have f2 := fresh_frozen hr4 2
        simp only [List.getElem?_toArray, List.getElem?_cons_zero, List.getElem?_cons_succ] at r0 r1 r2
        have HR4 := Lib.hid hr4
        have HA4 := Aside0.mk hA4
        have HM4 := Aside0.mk (HM.out.trans hM4)
        clear hr4 hA4 hM4 b0 b1 b2 b3
        go_wp2
        refine bodyPost_ret (results_cell_row rfl _ _ w.heap.size _ _ _ _ rfl (set3 HR4.out) Tryz.underlying36 rfl (by kernel_rfl)) rfl ?_
        have e : storeR k is old ends failed key E laid = (cd, layT (mayT E key k failed) laid key x failed, layN laid failed) := by unfold storeR; rw [HC.out, if_neg (by omega), HX.out, if_neg HL.out, HCD.out]
        rw [e]
        exact ⟨rfl, ((HA4.out.setCell (by simp; omega) (by simp; omega) _).setCell (by simp; omega) (by simp; omega) _).setCell (by simp; omega) (by simp; omega) _, ((HM4.out.setCell (.inl (by simp)) _).setCell (.inl (by simp)) _).setCell (.inl (by simp)) _⟩
    · have k8' : (k.kind == 8) = false := beq_eq_false_iff_ne.2 k8
      by_cases k9 : k.kind = 9
      · have k9' : (k.kind == 9) = true := beq_iff_eq.2 k9
        go_upto_region 11 with fail
        go_region
        go_upto_region 12 with fail
        have o : Only B W ((((((W.setCell ⟨B, 0, none⟩ (.string old.value)).setCell ⟨B, 1, none⟩ (.int .u32 old.flags)).setCell ⟨B, 2, none⟩ (.int .i64 old.exp)).setCell ⟨B, 3, none⟩ (.int .u64 old.cas)).setCell ⟨B, 0, none⟩ (.string (k.value ++ old.value))).drew) := (((((Only.refl B W).setCell 0 _).setCell 1 _).setCell 2 _).setCell 3 _).setCell 0 _ |>.drew
        have hV : ((((((W.setCell ⟨B, 0, none⟩ (.string old.value)).setCell ⟨B, 1, none⟩ (.int .u32 old.flags)).setCell ⟨B, 2, none⟩ (.int .i64 old.exp)).setCell ⟨B, 3, none⟩ (.int .u64 old.cas)).setCell ⟨B, 0, none⟩ (.string (k.value ++ old.value))).drew).heap[B]? = some (.cells #[.string (newEnt k old ends).value, .int .u32 (newEnt k old ends).flags, .int .i64 (newEnt k old ends).exp, .int .u64 (newEnt k old ends).cas] 44) := by
          have e : newEnt k old ends = ⟨k.value ++ old.value, old.flags, old.exp, old.cas⟩ := by unfold newEnt; rw [if_neg k8, if_pos k9]
          rw [e]
          exact Lib.heap_setCell_same (i := 0) (set4 HB.out) _
        generalize (((((W.setCell ⟨B, 0, none⟩ (.string old.value)).setCell ⟨B, 1, none⟩ (.int .u32 old.flags)).setCell ⟨B, 2, none⟩ (.int .i64 old.exp)).setCell ⟨B, 3, none⟩ (.int .u64 old.cas)).setCell ⟨B, 0, none⟩ (.string (k.value ++ old.value))).drew = V at o hV ⊢
        have hVr := o.heap HR.out hBr.symm
        have hVa : ActAt V a g k A cap now ends failed old is := o.heap HAct.out hBa.symm
        have hVk : KeyAt V g b A k key := by
          obtain ⟨h1, ad, h2, h3, h4, h5⟩ := HK.out
          exact ⟨h1, ad, h2, o.cell h3 (by have := World.block_lt_of_cell? w1 ad (HKO.out ad h2); have := HBe.out; omega), h4, h5⟩
        have HA := Aside0.mk (HA.out.only o hBg hBb)
        have HM := Aside0.mk (HM.out.only o hBw)
        have HVr := Lib.hid hVr
        have HVa := Lib.hid hVa
        have HVk := Lib.hid hVk
        clear hVr hVa hVk o HR HAct HK HB a0 a1 a5 a12 a13 a14 a15 b0 b1 b2 b3 f0 f1 f2 f3
        have b0 := fresh_cell hV 0
        have b1 := fresh_cell hV 1
        have b2 := fresh_cell hV 2
        have b3 := fresh_cell hV 3
        simp only [List.getElem?_toArray, List.getElem?_cons_zero, List.getElem?_cons_succ] at b0 b1 b2 b3
        clear hV
        obtain ⟨x, hx⟩ : ∃ x, newEnt k old ends = x := ⟨_, rfl⟩
        rw [hx] at b0 b1 b2 b3
        have HX := Lib.hid hx
        clear hx
        by_cases hlen : 2000 < x.value.size
        · have hl' : (2000 : Int) < (x.value.size : Int) := by omega
          have r0 := fresh_cell HVr.out 0
          have r1 := fresh_cell HVr.out 1
          have r2 := fresh_cell HVr.out 2
          have f0 := fresh_frozen HVr.out 0
          have f1 := fresh_frozen HVr.out 1
          have f2 := fresh_frozen HVr.out 2
          simp only [List.getElem?_toArray, List.getElem?_cons_zero, List.getElem?_cons_succ] at r0 r1 r2
          have HL := Lib.hid hlen
          clear hlen
          go_wp2
          refine bodyPost_ret (results_cell_row rfl _ _ w.heap.size _ _ _ _ rfl (set3 HVr.out) Tryz.underlying36 rfl (by kernel_rfl)) rfl ?_
          have e : storeR k is old ends failed key E laid = (12, mayT E key k failed, laid) := by unfold storeR; rw [HC.out, if_neg (by omega), HX.out, if_pos HL.out]
          rw [e]
          exact ⟨rfl, (((HA.out.setCell (by simp; omega) (by simp; omega) _).setCell (by simp; omega) (by simp; omega) _).setCell (by simp; omega) (by simp; omega) _).more (by omega), ((HM.out.setCell (.inl (by simp)) _).setCell (.inl (by simp)) _).setCell (.inl (by simp)) _⟩
        · have hl' : ¬ (2000 : Int) < (x.value.size : Int) := by omega
          have HL := Lib.hid hlen
          have hx2 : x.value.size ≤ 2000 := by omega
          clear hlen
          go_wp2_with fail
          have hlay := lay_calls _ g b c a _ laid k A cap now ends failed old is key x 2 HA.out hc HVa.out hag hab HVk.out hx2
          obtain ⟨cd, hcd⟩ : ∃ cd : Int, (if failed = true then 11 else 2) = cd := ⟨_, rfl⟩
          rw [hcd] at hlay
          have HCD := Lib.hid hcd
          clear hcd
          refine hlay.mono ?_
          clear hlay
          rintro e V2 ⟨rfl, hA4, hM4⟩
          have hr4 := hM4.heap HVr.out (by omega) (by omega)
          have r0 := fresh_cell hr4 0
          have r1 := fresh_cell hr4 1
          have r2 := fresh_cell hr4 2
          have f0 := fresh_frozen hr4 0
          have f1 := fresh_frozen hr4 1
          have f2 := fresh_frozen hr4 2
          simp only [List.getElem?_toArray, List.getElem?_cons_zero, List.getElem?_cons_succ] at r0 r1 r2
          have HR4 := Lib.hid hr4
          have HA4 := Aside0.mk hA4
          have HM4 := Aside0.mk (HM.out.trans hM4)
          clear hr4 hA4 hM4 b0 b1 b2 b3
          go_wp2
          refine bodyPost_ret (results_cell_row rfl _ _ w.heap.size _ _ _ _ rfl (set3 HR4.out) Tryz.underlying36 rfl (by kernel_rfl)) rfl ?_
          have e : storeR k is old ends failed key E laid = (cd, layT (mayT E key k failed) laid key x failed, layN laid failed) := by unfold storeR; rw [HC.out, if_neg (by omega), HX.out, if_neg HL.out, HCD.out]
          rw [e]
          exact ⟨rfl, ((HA4.out.setCell (by simp; omega) (by simp; omega) _).setCell (by simp; omega) (by simp; omega) _).setCell (by simp; omega) (by simp; omega) _, ((HM4.out.setCell (.inl (by simp)) _).setCell (.inl (by simp)) _).setCell (.inl (by simp)) _⟩
      · have k9' : (k.kind == 9) = false := beq_eq_false_iff_ne.2 k9
        go_upto_region 12 with fail
        have o : Only B W W := Only.refl B W
        have hV : W.heap[B]? = some (.cells #[.string (newEnt k old ends).value, .int .u32 (newEnt k old ends).flags, .int .i64 (newEnt k old ends).exp, .int .u64 (newEnt k old ends).cas] 44) := by
          have e : newEnt k old ends = ⟨k.value, k.flags, ends, 0⟩ := by unfold newEnt; rw [if_neg k8, if_neg k9]
          rw [e]
          exact HB.out
        obtain ⟨V, hVe⟩ : ∃ V, V = W := ⟨_, rfl⟩
        rw [← hVe] at hV
        have o : Only B W V := by rw [hVe]; exact o
        rw [← hVe]
        clear hVe
        have hVr := o.heap HR.out hBr.symm
        have hVa : ActAt V a g k A cap now ends failed old is := o.heap HAct.out hBa.symm
        have hVk : KeyAt V g b A k key := by
          obtain ⟨h1, ad, h2, h3, h4, h5⟩ := HK.out
          exact ⟨h1, ad, h2, o.cell h3 (by have := World.block_lt_of_cell? w1 ad (HKO.out ad h2); have := HBe.out; omega), h4, h5⟩
        have HA := Aside0.mk (HA.out.only o hBg hBb)
        have HM := Aside0.mk (HM.out.only o hBw)
        have HVr := Lib.hid hVr
        have HVa := Lib.hid hVa
        have HVk := Lib.hid hVk
        clear hVr hVa hVk o HR HAct HK HB a0 a1 a5 a12 a13 a14 a15 b0 b1 b2 b3 f0 f1 f2 f3
        have b0 := fresh_cell hV 0
        have b1 := fresh_cell hV 1
        have b2 := fresh_cell hV 2
        have b3 := fresh_cell hV 3
        simp only [List.getElem?_toArray, List.getElem?_cons_zero, List.getElem?_cons_succ] at b0 b1 b2 b3
        clear hV
        obtain ⟨x, hx⟩ : ∃ x, newEnt k old ends = x := ⟨_, rfl⟩
        rw [hx] at b0 b1 b2 b3
        have HX := Lib.hid hx
        clear hx
        by_cases hlen : 2000 < x.value.size
        · have hl' : (2000 : Int) < (x.value.size : Int) := by omega
          have r0 := fresh_cell HVr.out 0
          have r1 := fresh_cell HVr.out 1
          have r2 := fresh_cell HVr.out 2
          have f0 := fresh_frozen HVr.out 0
          have f1 := fresh_frozen HVr.out 1
          have f2 := fresh_frozen HVr.out 2
          simp only [List.getElem?_toArray, List.getElem?_cons_zero, List.getElem?_cons_succ] at r0 r1 r2
          have HL := Lib.hid hlen
          clear hlen
          go_wp2
          refine bodyPost_ret (results_cell_row rfl _ _ w.heap.size _ _ _ _ rfl (set3 HVr.out) Tryz.underlying36 rfl (by kernel_rfl)) rfl ?_
          have e : storeR k is old ends failed key E laid = (12, mayT E key k failed, laid) := by unfold storeR; rw [HC.out, if_neg (by omega), HX.out, if_pos HL.out]
          rw [e]
          exact ⟨rfl, (((HA.out.setCell (by simp; omega) (by simp; omega) _).setCell (by simp; omega) (by simp; omega) _).setCell (by simp; omega) (by simp; omega) _).more (by omega), ((HM.out.setCell (.inl (by simp)) _).setCell (.inl (by simp)) _).setCell (.inl (by simp)) _⟩
        · have hl' : ¬ (2000 : Int) < (x.value.size : Int) := by omega
          have HL := Lib.hid hlen
          have hx2 : x.value.size ≤ 2000 := by omega
          clear hlen
          go_wp2_with fail
          have hlay := lay_calls _ g b c a _ laid k A cap now ends failed old is key x 2 HA.out hc HVa.out hag hab HVk.out hx2
          obtain ⟨cd, hcd⟩ : ∃ cd : Int, (if failed = true then 11 else 2) = cd := ⟨_, rfl⟩
          rw [hcd] at hlay
          have HCD := Lib.hid hcd
          clear hcd
          refine hlay.mono ?_
          clear hlay
          rintro e V2 ⟨rfl, hA4, hM4⟩
          have hr4 := hM4.heap HVr.out (by omega) (by omega)
          have r0 := fresh_cell hr4 0
          have r1 := fresh_cell hr4 1
          have r2 := fresh_cell hr4 2
          have f0 := fresh_frozen hr4 0
          have f1 := fresh_frozen hr4 1
          have f2 := fresh_frozen hr4 2
          simp only [List.getElem?_toArray, List.getElem?_cons_zero, List.getElem?_cons_succ] at r0 r1 r2
          have HR4 := Lib.hid hr4
          have HA4 := Aside0.mk hA4
          have HM4 := Aside0.mk (HM.out.trans hM4)
          clear hr4 hA4 hM4 b0 b1 b2 b3
          go_wp2
          refine bodyPost_ret (results_cell_row rfl _ _ w.heap.size _ _ _ _ rfl (set3 HR4.out) Tryz.underlying36 rfl (by kernel_rfl)) rfl ?_
          have e : storeR k is old ends failed key E laid = (cd, layT (mayT E key k failed) laid key x failed, layN laid failed) := by unfold storeR; rw [HC.out, if_neg (by omega), HX.out, if_neg HL.out, HCD.out]
          rw [e]
          exact ⟨rfl, ((HA4.out.setCell (by simp; omega) (by simp; omega) _).setCell (by simp; omega) (by simp; omega) _).setCell (by simp; omega) (by simp; omega) _, ((HM4.out.setCell (.inl (by simp)) _).setCell (.inl (by simp)) _).setCell (.inl (by simp)) _⟩
  · have h0' : (code != 0) = true := bne_iff_ne.2 h0
    have r0 := fresh_cell hr2 0
    have r1 := fresh_cell hr2 1
    have r2 := fresh_cell hr2 2
    have f0 := fresh_frozen hr2 0
    have f1 := fresh_frozen hr2 1
    have f2 := fresh_frozen hr2 2
    simp only [List.getElem?_toArray, List.getElem?_cons_zero, List.getElem?_cons_succ] at r0 r1 r2
    have HR := Lib.hid hr2
    have H0 := Lib.hid h0
    clear hr2 h0 ha2 hk2
    go_wp2
    refine bodyPost_ret (results_cell_row rfl _ _ w.heap.size _ _ _ _ rfl (set3 HR.out) Tryz.underlying36 rfl (by kernel_rfl)) rfl ?_
    have e : storeR k is old ends failed key E laid = (code, mayT E key k failed, laid) := by unfold storeR; rw [HC.out, if_pos H0.out]
    rw [e]
    exact ⟨rfl, (((HA.out.setCell (by simp; omega) (by simp; omega) _).setCell (by simp; omega) (by simp; omega) _).setCell (by simp; omega) (by simp; omega) _).more (by omega), ((HM.out.setCell (.inl (by simp)) _).setCell (.inl (by simp)) _).setCell (.inl (by simp)) _⟩
end Go.Proofs.YtbggcimjlkjclaaGreatDoor.Mdl
end
section
namespace Go.Proofs.YtbggcimjlkjclaaGreatDoor.Text
open Go

theorem ib_hit (c : UInt8) (r : List UInt8) : ∀ x : List UInt8, c ∉ x → Lib.indexByte (x ++ c :: r) c = (x.length : Int)
  | [], _ => by simp [Lib.indexByte]
  | b :: x, h => by
    have h1 : b ≠ c := fun e => h (by rw [e]; exact List.mem_cons_self)
    have h2 := ib_hit c r x (fun hm => h (List.mem_cons_of_mem _ hm))
    show Lib.indexByte (b :: (x ++ c :: r)) c = _
    unfold Lib.indexByte
    rw [if_neg (by simpa using h1), h2, if_neg (by simp)]
    simp
theorem ib_miss (c : UInt8) : ∀ x : List UInt8, c ∉ x → Lib.indexByte x c = -1
  | [], _ => rfl
  | b :: x, h => by
    have h1 : b ≠ c := fun e => h (by rw [e]; exact List.mem_cons_self)
    have h2 := ib_miss c x (fun hm => h (List.mem_cons_of_mem _ hm))
    unfold Lib.indexByte
    rw [if_neg (by simpa using h1), h2]
    rfl
theorem split_join (c : UInt8) : ∀ (r : List (List UInt8)) (x : List UInt8), (∀ y ∈ x :: r, c ∉ y) → Lib.splitK [c] 0 (Lib.count (Lib.join (x :: r) [c]) [c]) (Lib.join (x :: r) [c]) = x :: r
  | [], x, h => by
    have hi : Lib.index x [c] = -1 := by rw [Lib.index_one]; exact ib_miss c x (h x List.mem_cons_self)
    rw [Lib.join_one, Lib.count_miss hi]
    rfl
  | y :: r, x, h => by
    have ih := split_join c r y (fun z hz => h z (List.mem_cons_of_mem _ hz))
    have hj : Lib.join (x :: y :: r) [c] = x ++ c :: Lib.join (y :: r) [c] := by
      rw [Lib.join_cons, Lib.join_cons]
      simp [Lib.joinTail]
    have hi : Lib.index (x ++ c :: Lib.join (y :: r) [c]) [c] = (x.length : Int) := by rw [Lib.index_one]; exact ib_hit c _ x (h x List.mem_cons_self)
    have hd : (x ++ c :: Lib.join (y :: r) [c]).drop (x.length + [c].length) = Lib.join (y :: r) [c] := by
      rw [List.length_singleton, List.drop_append, List.drop_of_length_le (by omega)]
      simp
    rw [hj, Lib.count_hit (by simp) hi, hd, Nat.add_comm]
    have hm : ¬ (Lib.index (x ++ c :: Lib.join (y :: r) [c]) [c] == -1) = true := by rw [hi]; simp
    rw [Lib.splitK, if_neg hm, hi]
    rw [show ((x.length : Int)).toNat = x.length from Int.toNat_natCast _, hd, ih]
    simp
theorem map_data_inj : ∀ (a b : List ByteArray), a.map (·.data.toList) = b.map (·.data.toList) → a = b
  | [], [], _ => rfl
  | [], _ :: _, h => by cases h
  | _ :: _, [], h => by cases h
  | x :: a, y :: b, h => by
    simp only [List.map_cons, List.cons.injEq] at h
    have e : x = y := by
      obtain ⟨x⟩ := x
      obtain ⟨y⟩ := y
      congr 1
      exact Array.toList_inj.1 h.1
    rw [e, map_data_inj a b h.2]
theorem splitB_join (x : ByteArray) (r : List ByteArray) (h : ∀ y ∈ x :: r, (32 : UInt8) ∉ y.data.toList) :
    Lib.splitB ⟨#[32]⟩ 0 (Lib.countB ⟨(Lib.join ((x :: r).map (·.data.toList)) [32]).toArray⟩ ⟨#[32]⟩) ⟨(Lib.join ((x :: r).map (·.data.toList)) [32]).toArray⟩ = x :: r := by
  apply map_data_inj
  rw [Lib.splitB_data]
  show Lib.splitK [32] 0 (Lib.count (Lib.join ((x :: r).map (·.data.toList)) [32]).toArray.toList [32]) (Lib.join ((x :: r).map (·.data.toList)) [32]).toArray.toList = _
  rw [List.toList_toArray, List.map_cons]
  refine split_join 32 _ _ (fun y hy => ?_)
  have hy' : y ∈ (x :: r).map (fun z : ByteArray => z.data.toList) := hy
  obtain ⟨z, hz, rfl⟩ := List.mem_map.1 hy'
  exact h z hz
theorem parse_snoc (M : Nat) (c : UInt8) (hc : 48 ≤ c.toNat ∧ c.toNat ≤ 57) : ∀ (l : List UInt8) (acc u : Nat), Lib.parseUintM M acc l = .ok u → u < 1844674407370955162 → u * 10 + (c.toNat - 48) ≤ M → Lib.parseUintM M acc (l ++ [c]) = .ok (u * 10 + (c.toNat - 48))
  | [], acc, u, h, h1, h2 => by
    obtain rfl : acc = u := by simpa [Lib.parseUintM] using h
    show Lib.parseUintM M acc [c] = _
    unfold Lib.parseUintM
    rw [if_pos hc, if_neg (by omega), if_neg (by omega)]
    rfl
  | b :: l, acc, u, h, h1, h2 => by
    show Lib.parseUintM M acc (b :: (l ++ [c])) = _
    unfold Lib.parseUintM at h ⊢
    split at h
    · rename_i hb
      rw [if_pos hb]
      split at h
      · cases h
      · rename_i ha
        rw [if_neg ha]
        split at h
        · cases h
        · rename_i hm
          rw [if_neg hm]
          exact parse_snoc M c hc l _ u h h1 h2
    · cases h
theorem dec_small (u : Nat) (h : u < 10) : Lib.decDigits u = [UInt8.ofNat (48 + u)] := by rw [Lib.decDigits, dif_pos h]
theorem dec_big (u : Nat) (h : ¬ u < 10) : Lib.decDigits u = Lib.decDigits (u / 10) ++ [UInt8.ofNat (48 + u % 10)] := by rw [Lib.decDigits, dif_neg h]
theorem dig_toNat (d : Nat) (h : d < 10) : (UInt8.ofNat (48 + d)).toNat = 48 + d := by
  show (48 + d) % 256 = 48 + d
  omega
theorem dec_parse : ∀ (n u : Nat), u < n → u < 18446744073709551616 → Lib.parseUintM 18446744073709551615 0 (Lib.decDigits u) = .ok u
  | 0, u, h, _ => absurd h (by omega)
  | n + 1, u, h, hu => by
    by_cases h10 : u < 10
    · rw [dec_small u h10]
      unfold Lib.parseUintM
      rw [dig_toNat u h10, if_pos (by omega), if_neg (by omega), if_neg (by omega)]
      show Lib.NumEnd.ok _ = Lib.NumEnd.ok _
      congr 1
      omega
    · rw [dec_big u h10]
      have ih := dec_parse n (u / 10) (by omega) (by omega)
      have hd := dig_toNat (u % 10) (by omega)
      rw [parse_snoc _ (UInt8.ofNat (48 + u % 10)) (by rw [hd]; omega) _ _ _ ih (by omega) (by rw [hd]; omega), hd]
      congr 1
      omega
theorem dec_dig : ∀ (n u : Nat), u < n → ∀ c ∈ Lib.decDigits u, 48 ≤ c.toNat ∧ c.toNat ≤ 57
  | 0, u, h => absurd h (by omega)
  | n + 1, u, h => by
    intro c hc
    by_cases h10 : u < 10
    · rw [dec_small u h10] at hc
      obtain rfl := List.mem_singleton.1 hc
      rw [dig_toNat u h10]
      omega
    · rw [dec_big u h10] at hc
      rcases List.mem_append.1 hc with hc | hc
      · exact dec_dig n (u / 10) (by omega) c hc
      · obtain rfl := List.mem_singleton.1 hc
        rw [dig_toNat _ (by omega)]
        omega
theorem dec_ne (u : Nat) : Lib.decDigits u ≠ [] := by
  by_cases h10 : u < 10
  · rw [dec_small u h10]; simp
  · rw [dec_big u h10]; simp
theorem dec_len : ∀ (k u : Nat), u < 10 ^ (k + 1) → (Lib.decDigits u).length ≤ k + 1
  | 0, u, h => by rw [dec_small u (by simpa using h)]; simp
  | k + 1, u, h => by
    by_cases h10 : u < 10
    · rw [dec_small u h10]; simp
    · rw [dec_big u h10, List.length_append, List.length_singleton]
      have := dec_len k (u / 10) (by rw [Nat.pow_succ] at h; omega)
      omega
end Go.Proofs.YtbggcimjlkjclaaGreatDoor.Text
end
section
namespace Go.Proofs.YtbggcimjlkjclaaGreatDoor.Mdl
open Go.RowKit Go.Proofs.YtbggcimjlkjclaaGreatDoorW.PrintWords Go.Proofs.YtbggcimjlkjclaaGreatDoorW.PrintLast Go.Proofs.YtbggcimjlkjclaaGreatDoorW.PrintMore Go.WideMaps Go.Proofs.YtbggcimjlkjclaaGreatDoor.XMd
set_option linter.unusedVariables false
set_option linter.unusedSimpArgs false
attribute [local go_sem ↓] Go.wp_at_zero Go.wp_at_succ

def countN (k : Cmd) (n : Int) : Int := if k.kind = 12 then IntKind.u64.wrap (n + k.delta) else n - min n k.delta
def numText (n : Int) : ByteArray := ⟨(Lib.decDigits n.toNat).toArray⟩
def countR (k : Cmd) (old : Ent) (failed : Bool) (key : ByteArray) (E : Tab) (laid : Int) : Int × Int × Tab × Int :=
  if (digits_Parse.val old.value.data.toList).2 ≠ 0 then (8, 0, E, laid)
  else (if failed = true then 11 else 7, if failed = true then 0 else countN k (digits_Parse.val old.value.data.toList).1,
    layT E laid key { old with value := numText (countN k (digits_Parse.val old.value.data.toList).1) } failed, layN laid failed)
theorem val_nn (l : List UInt8) : 0 ≤ (digits_Parse.val l).1 := by
  unfold digits_Parse.val
  repeat' split
  all_goals first | exact Int.natCast_nonneg _ | exact Int.le_refl _
theorem uintM_le (m : Nat) : ∀ (s : List UInt8) (n u : Nat), Lib.parseUintM m n s = .ok u → n ≤ m → u ≤ m
  | [], n, u, h, hn => by unfold Lib.parseUintM at h; injection h with h; omega
  | x :: s, n, u, h, hn => by
    unfold Lib.parseUintM at h
    split at h
    · split at h
      · cases h
      · split at h
        · cases h
        · exact uintM_le m s _ u h (by omega)
    · cases h
theorem val_lt (l : List UInt8) : (digits_Parse.val l).1 < 18446744073709551616 := by
  have h0 : (0 : Int) < 18446744073709551616 := by decide
  unfold digits_Parse.val
  split
  · split
    · exact h0
    · split
      · exact h0
      · cases hp : Lib.parseUintB 64 l with
        | ok u =>
          have h2 : u ≤ 18446744073709551615 := by
            unfold Lib.parseUintB at hp
            split at hp
            · cases hp
            · exact uintM_le _ l 0 u hp (by decide)
          show (u : Int) < _
          omega
        | _ => exact h0
  · exact h0
theorem numText_small (m : Int) (h1 : m < 18446744073709551616) : (numText m).size ≤ 2000 := by
  show (Lib.decDigits m.toNat).toArray.size ≤ 2000
  rw [List.size_toArray]
  have := Text.dec_len 19 m.toNat (by have : (10 : Nat) ^ (19 + 1) = 100000000000000000000 := by decide
                                      omega)
  omega
theorem text_is (m : Int) (h0 : 0 ≤ m) (h1 : m < 18446744073709551616) : digits_Text.f m = some (numText m) := by
  unfold digits_Text.f strconv_FormatUint_41.f strconv_FormatUint_60.f
  rw [if_pos ⟨h0, h1, rfl⟩]
  rfl
set_option maxHeartbeats 8000000 in
set_option maxRecDepth 100000 in
theorem count_calls (w : World) (g b c a : Nat) (E : Tab) (laid : Int) (k : Cmd) (A : Option Addr) (cap : Nat) (now ends : Int) (failed : Bool) (old : Ent) (is : Bool) (key : ByteArray)
    (hv : Vars w) (hA : At w g b c E laid) (hc : c < maxLen) (ha : ActAt w a g k A cap now ends failed old is) (hag : a ≠ g) (hab : a ≠ b) (hk : KeyAt w g b A k key) (hkind : k.kind = 12 ∨ k.kind = 13) (hd : 0 ≤ k.delta) (hov : old.value.size ≤ 2000) :
    Calls Tryz.prog 19 #[.pointer (some ⟨a, 0, none⟩)] w fun e w' =>
      e = .returned (.agg #[.int .i64 (countR k old failed key E laid).1, .slice none 0 0, .int .u64 (countR k old failed key E laid).2.1]) ∧ At w' g b (c + 1) (countR k old failed key E laid).2.2.1 (countR k old failed key E laid).2.2.2 ∧ Mut g b w w' := by
  have hg := hA.lt
  have hgb := hA.ltb
  have hal : a < w.heap.size := blk_lt ha
  have a12 := fresh_cell ha 12
  simp only [List.getElem?_toArray, List.getElem?_cons_zero, List.getElem?_cons_succ] at a12
  have H0 := Aside0.mk hA
  have HAct := Lib.hid ha
  have HK := Lib.hid hk
  have HV := Aside0.mk hv
  have HKind := Lib.hid hkind
  clear hA ha hk hv hkind
  go_enter Tryz.func19, Tryz.ntmps19
  go_wp2_with fail
  have hA1 := H0.out.alloc (.cells #[.int .i64 0, .slice none 0 0, .int .u64 0] 36)
  have hb1 : Below w.heap.size w (w.alloc (.cells #[.int .i64 0, .slice none 0 0, .int .u64 0] 36)) := (Below.refl _ w).alloc (Nat.le_refl _) _
  obtain ⟨n, hn⟩ : ∃ n, (digits_Parse.val old.value.data.toList).1 = n := ⟨_, rfl⟩
  obtain ⟨er, her⟩ : ∃ er, (digits_Parse.val old.value.data.toList).2 = er := ⟨_, rfl⟩
  have hnn : 0 ≤ n := by rw [← hn]; exact val_nn _
  have hnl : n < 18446744073709551616 := by rw [← hn]; exact val_lt _
  have hp : digits_Parse.f old.value = some (n, er) := by unfold digits_Parse.f; rw [if_pos (by omega), ← hn, ← her]
  refine (digits_Parse.calls old.value n er _ (HV.out.below hb1) hp).mono ?_
  rintro e w1 ⟨rfl, hb2⟩
  have hb12 : Below w.heap.size w w1 := hb1.trans (hb2.mono hb1.size)
  have hr1 := (hb2.block w.heap.size (by simp)).trans (heap_alloc_new w (.cells #[.int .i64 0, .slice none 0 0, .int .u64 0] 36))
  have hA1' := H0.out.below hb12
  have ha1 : ActAt w1 a g k A cap now ends failed old is := (hb12.block a hal).trans HAct.out
  have hk1 : KeyAt w1 g b A k key := by
    obtain ⟨h1, ad, h2, h3, h4, h5⟩ := HK.out
    exact ⟨h1, ad, h2, keepC hb12 h3, h4, h5⟩
  have hws : w.heap.size < w1.heap.size := blk_lt hr1
  have HN := Lib.hid hn
  have HER := Lib.hid her
  have HV1 := Aside0.mk (HV.out.below hb12)
  have HB := Aside0.mk hb12
  have HA := Aside0.mk hA1'
  clear hA1 hb1 hn her hp hb2 hb12 hA1' HV a12 HAct HK H0
  by_cases he : er = 0
  · subst he
    have a0 := fresh_cell ha1 0
    have a1 := fresh_cell ha1 1
    have a7 := fresh_cell ha1 7
    have a12 := fresh_cell ha1 12
    have a13 := fresh_cell ha1 13
    have a14 := fresh_cell ha1 14
    have a15 := fresh_cell ha1 15
    simp only [List.getElem?_toArray, List.getElem?_cons_zero, List.getElem?_cons_succ] at a0 a1 a7 a12 a13 a14 a15
    have HR := Lib.hid hr1
    have HAct := Lib.hid ha1
    have HK := Lib.hid hk1
    clear hr1 ha1 hk1
    by_cases k12 : k.kind = 12
    · have k12' : (k.kind == 12) = true := beq_iff_eq.2 k12
      go_upto_region 8 with fail
      have hm : countN k n = IntKind.u64.wrap (n + k.delta) := by unfold countN; rw [if_pos k12]
      have hm0 : 0 ≤ IntKind.u64.wrap (n + k.delta) := by rw [IntKind.wrap_u64]; omega
      have hm1 : IntKind.u64.wrap (n + k.delta) < 18446744073709551616 := by rw [IntKind.wrap_u64]; omega
      generalize IntKind.u64.wrap (n + k.delta) = m at hm hm0 hm1 ⊢
      have HM := Lib.hid hm
      have hW := (Below.refl _ w1).alloc (Nat.le_refl _) (.cells #[.string old.value, .int .u32 old.flags, .int .i64 old.exp, .int .u64 old.cas] 44)
      have hB1 := heap_alloc_new w1 (.cells #[.string old.value, .int .u32 old.flags, .int .i64 old.exp, .int .u64 old.cas] 44)
      go_wp2_with fail
      refine (digits_Text.calls m (numText m) _ (HV1.out.below hW) (text_is m hm0 hm1)).mono ?_
      rintro e w2 ⟨rfl, hb3⟩
      have hb13 : Below w1.heap.size w1 w2 := hW.trans (hb3.mono hW.size)
      have hB2 := (hb3.block w1.heap.size (by simp)).trans hB1
      obtain ⟨B, hBe⟩ : ∃ B, B = w1.heap.size := ⟨_, rfl⟩
      have hBg : B ≠ g := by have := HA.out.lt; omega
      have hBb : B ≠ b := by have := HA.out.ltb; omega
      have hBa : B ≠ a := by have := blk_lt HAct.out; omega
      have hBr : B ≠ w.heap.size := by omega
      have hBw : w.heap.size ≤ B := by omega
      rw [← hBe] at hB2 ⊢
      have hr2 := (hb13.block _ hws).trans HR.out
      have ha2 : ActAt w2 a g k A cap now ends failed old is := (hb13.block a (blk_lt HAct.out)).trans HAct.out
      have o : Only B w2 (w2.setCell ⟨B, 0, none⟩ (.string (numText m))) := (Only.refl B w2).setCell 0 _
      have hA3 := (HA.out.below hb13).only o hBg hBb
      have hM3 := (Mut.of_below (g := g) (b := b) (HB.out.trans (hb13.mono HB.out.size))).only o hBw
      have ha3 : ActAt (w2.setCell ⟨B, 0, none⟩ (.string (numText m))) a g k A cap now ends failed old is := o.heap ha2 hBa.symm
      have hr3 := o.heap hr2 hBr.symm
      have hk3 : KeyAt (w2.setCell ⟨B, 0, none⟩ (.string (numText m))) g b A k key := by
        obtain ⟨h1, ad, h2, h3, h4, h5⟩ := HK.out
        exact ⟨h1, ad, h2, o.cell (keepC hb13 h3) (by have := World.block_lt_of_cell? w1 ad h3; omega), h4, h5⟩
      have b0 := fresh_cell hB2 0
      have b1 := fresh_cell hB2 1
      have b2 := fresh_cell hB2 2
      have b3 := fresh_cell hB2 3
      have f0 := fresh_frozen hB2 0
      simp only [List.getElem?_toArray, List.getElem?_cons_zero, List.getElem?_cons_succ] at b0 b1 b2 b3
      have HA3 := Aside0.mk hA3
      have HM3 := Aside0.mk hM3
      have Ha3 := Lib.hid ha3
      have Hr3 := Lib.hid hr3
      have Hk3 := Lib.hid hk3
      clear hW hB1 hb3 hb13 hB2 hr2 ha2 o hA3 hM3 ha3 hr3 hk3 hBe a0 a1 a7 a12 a13 a14 a15 HA HB HAct HK HR HV1 hm hws
      go_wp2_with fail
      refine (lay_calls _ g b c a E laid k A cap now ends failed old is key { old with value := numText m } 7 HA3.out hc Ha3.out hag hab Hk3.out (numText_small m hm1)).mono ?_
      rintro e V ⟨rfl, hA4, hM4⟩
      have hr4 := hM4.heap Hr3.out (by omega) (by omega)
      have HA4 := Aside0.mk hA4
      have HM4 := Aside0.mk (HM3.out.trans hM4)
      have HR4 := Lib.hid hr4
      have hws4 : w.heap.size < V.heap.size := blk_lt hr4
      clear hr4 hA4 hM4 b0 b1 b2 b3
      obtain ⟨cd, hcd⟩ : ∃ cd : Int, (if failed = true then 11 else 7) = cd := ⟨_, rfl⟩
      rw [hcd]
      go_upto_region 10 with fail
      have hA5 := HA4.out.alloc (.cells #[.int .i64 cd, .slice none 0 0, .int .u64 0] 36)
      have hM5 := HM4.out.alloc (.cells #[.int .i64 cd, .slice none 0 0, .int .u64 0] 36)
      have hC5 := heap_alloc_new V (.cells #[.int .i64 cd, .slice none 0 0, .int .u64 0] 36)
      have hr5 := (Below.heap_alloc V (.cells #[.int .i64 cd, .slice none 0 0, .int .u64 0] 36) _ hws4).trans HR4.out
      obtain ⟨C, hCe⟩ : ∃ C, C = V.heap.size := ⟨_, rfl⟩
      have hCg : C ≠ g := by have := HA4.out.lt; omega
      have hCb : C ≠ b := by have := HA4.out.ltb; omega
      have hCr : C ≠ w.heap.size := by omega
      have hCw : w.heap.size ≤ C := by omega
      rw [← hCe] at hC5 ⊢
      generalize V.alloc (.cells #[.int .i64 cd, .slice none 0 0, .int .u64 0] 36) = U at hA5 hM5 hC5 hr5 ⊢
      have c0 := fresh_cell hC5 0
      have c1 := fresh_cell hC5 1
      have c2 := fresh_cell hC5 2
      have cf2 := fresh_frozen hC5 2
      simp only [List.getElem?_toArray, List.getElem?_cons_zero, List.getElem?_cons_succ] at c0 c1 c2
      have HA5 := Aside0.mk hA5
      have HM5 := Aside0.mk hM5
      have HC5 := Lib.hid hC5
      have HR5 := Lib.hid hr5
      have HCD := Lib.hid hcd
      clear hA5 hM5 hC5 hr5 hCe hws4 hcd HA4 HM4 HR4
      cases failed with
      | true =>
        obtain rfl : (11 : Int) = cd := HCD.out
        have r0 := fresh_cell HR5.out 0
        have r1 := fresh_cell HR5.out 1
        have r2 := fresh_cell HR5.out 2
        have f0 := fresh_frozen HR5.out 0
        have f1 := fresh_frozen HR5.out 1
        have f2 := fresh_frozen HR5.out 2
        simp only [List.getElem?_toArray, List.getElem?_cons_zero, List.getElem?_cons_succ] at r0 r1 r2
        go_wp2
        refine bodyPost_ret (results_cell_row rfl _ _ w.heap.size _ _ _ _ rfl (set3 HR5.out) Tryz.underlying36 rfl (by kernel_rfl)) rfl ?_
        have e : countR k old true key E laid = (11, 0, layT E laid key { old with value := numText m } true, layN laid true) := by unfold countR; rw [HER.out, if_neg (by omega), HN.out, HM.out, if_pos rfl, if_pos rfl]
        rw [e]
        exact ⟨rfl, ((HA5.out.setCell (by simp; omega) (by simp; omega) _).setCell (by simp; omega) (by simp; omega) _).setCell (by simp; omega) (by simp; omega) _, ((HM5.out.setCell (.inl (by simp)) _).setCell (.inl (by simp)) _).setCell (.inl (by simp)) _⟩
      | false =>
        obtain rfl : (7 : Int) = cd := HCD.out
        go_upto_region 12 with fail
        have o5 : Only C U (U.setCell ⟨C, 2, none⟩ (.int .u64 m)) := (Only.refl C U).setCell 2 _
        have hC6 := Lib.heap_setCell_same (i := 2) HC5.out (.int .u64 m)
        have hr6 := o5.heap HR5.out hCr.symm
        have HA6 := Aside0.mk (HA5.out.only o5 hCg hCb)
        have HM6 := Aside0.mk (HM5.out.only o5 hCw)
        generalize U.setCell ⟨C, 2, none⟩ (.int .u64 m) = U6 at o5 hC6 hr6 HA6 HM6 ⊢
        clear c0 c1 c2 cf2 o5
        have c0 := fresh_cell hC6 0
        have c1 := fresh_cell hC6 1
        have c2 := fresh_cell hC6 2
        have r0 := fresh_cell hr6 0
        have r1 := fresh_cell hr6 1
        have r2 := fresh_cell hr6 2
        have f0 := fresh_frozen hr6 0
        have f1 := fresh_frozen hr6 1
        have f2 := fresh_frozen hr6 2
        simp only [List.setIfInBounds_toArray, List.set_cons_zero, List.set_cons_succ, List.getElem?_toArray, List.getElem?_cons_zero, List.getElem?_cons_succ] at c0 c1 c2 r0 r1 r2
        have HR6 := Lib.hid hr6
        clear hr6 hC6
        go_wp2
        refine bodyPost_ret (results_cell_row rfl _ _ w.heap.size _ _ _ _ rfl (set3 HR6.out) Tryz.underlying36 rfl (by kernel_rfl)) rfl ?_
        have e : countR k old false key E laid = (7, m, layT E laid key { old with value := numText m } false, layN laid false) := by unfold countR; rw [HER.out, if_neg (by omega), HN.out, HM.out, if_neg Bool.false_ne_true, if_neg Bool.false_ne_true]
        rw [e]
        exact ⟨rfl, ((HA6.out.setCell (by simp; omega) (by simp; omega) _).setCell (by simp; omega) (by simp; omega) _).setCell (by simp; omega) (by simp; omega) _, ((HM6.out.setCell (.inl (by simp)) _).setCell (.inl (by simp)) _).setCell (.inl (by simp)) _⟩
    · have k12' : (k.kind == 12) = false := beq_eq_false_iff_ne.2 k12
      go_upto_region 8 with fail
      have hm : countN k n = n - min n k.delta := by unfold countN; rw [if_neg k12]
      have hm0 : 0 ≤ n - min n k.delta := by omega
      have hm1 : n - min n k.delta < 18446744073709551616 := by omega
      generalize n - min n k.delta = m at hm hm0 hm1 ⊢
      have HM := Lib.hid hm
      have hW := (Below.refl _ w1).alloc (Nat.le_refl _) (.cells #[.string old.value, .int .u32 old.flags, .int .i64 old.exp, .int .u64 old.cas] 44)
      have hB1 := heap_alloc_new w1 (.cells #[.string old.value, .int .u32 old.flags, .int .i64 old.exp, .int .u64 old.cas] 44)
      go_wp2_with fail
      refine (digits_Text.calls m (numText m) _ (HV1.out.below hW) (text_is m hm0 hm1)).mono ?_
      rintro e w2 ⟨rfl, hb3⟩
      have hb13 : Below w1.heap.size w1 w2 := hW.trans (hb3.mono hW.size)
      have hB2 := (hb3.block w1.heap.size (by simp)).trans hB1
      obtain ⟨B, hBe⟩ : ∃ B, B = w1.heap.size := ⟨_, rfl⟩
      have hBg : B ≠ g := by have := HA.out.lt; omega
      have hBb : B ≠ b := by have := HA.out.ltb; omega
      have hBa : B ≠ a := by have := blk_lt HAct.out; omega
      have hBr : B ≠ w.heap.size := by omega
      have hBw : w.heap.size ≤ B := by omega
      rw [← hBe] at hB2 ⊢
      have hr2 := (hb13.block _ hws).trans HR.out
      have ha2 : ActAt w2 a g k A cap now ends failed old is := (hb13.block a (blk_lt HAct.out)).trans HAct.out
      have o : Only B w2 (w2.setCell ⟨B, 0, none⟩ (.string (numText m))) := (Only.refl B w2).setCell 0 _
      have hA3 := (HA.out.below hb13).only o hBg hBb
      have hM3 := (Mut.of_below (g := g) (b := b) (HB.out.trans (hb13.mono HB.out.size))).only o hBw
      have ha3 : ActAt (w2.setCell ⟨B, 0, none⟩ (.string (numText m))) a g k A cap now ends failed old is := o.heap ha2 hBa.symm
      have hr3 := o.heap hr2 hBr.symm
      have hk3 : KeyAt (w2.setCell ⟨B, 0, none⟩ (.string (numText m))) g b A k key := by
        obtain ⟨h1, ad, h2, h3, h4, h5⟩ := HK.out
        exact ⟨h1, ad, h2, o.cell (keepC hb13 h3) (by have := World.block_lt_of_cell? w1 ad h3; omega), h4, h5⟩
      have b0 := fresh_cell hB2 0
      have b1 := fresh_cell hB2 1
      have b2 := fresh_cell hB2 2
      have b3 := fresh_cell hB2 3
      have f0 := fresh_frozen hB2 0
      simp only [List.getElem?_toArray, List.getElem?_cons_zero, List.getElem?_cons_succ] at b0 b1 b2 b3
      have HA3 := Aside0.mk hA3
      have HM3 := Aside0.mk hM3
      have Ha3 := Lib.hid ha3
      have Hr3 := Lib.hid hr3
      have Hk3 := Lib.hid hk3
      clear hW hB1 hb3 hb13 hB2 hr2 ha2 o hA3 hM3 ha3 hr3 hk3 hBe a0 a1 a7 a12 a13 a14 a15 HA HB HAct HK HR HV1 hm hws
      go_wp2_with fail
      refine (lay_calls _ g b c a E laid k A cap now ends failed old is key { old with value := numText m } 7 HA3.out hc Ha3.out hag hab Hk3.out (numText_small m hm1)).mono ?_
      rintro e V ⟨rfl, hA4, hM4⟩
      have hr4 := hM4.heap Hr3.out (by omega) (by omega)
      have HA4 := Aside0.mk hA4
      have HM4 := Aside0.mk (HM3.out.trans hM4)
      have HR4 := Lib.hid hr4
      have hws4 : w.heap.size < V.heap.size := blk_lt hr4
      clear hr4 hA4 hM4 b0 b1 b2 b3
      obtain ⟨cd, hcd⟩ : ∃ cd : Int, (if failed = true then 11 else 7) = cd := ⟨_, rfl⟩
      rw [hcd]
      go_upto_region 10 with fail
      have hA5 := HA4.out.alloc (.cells #[.int .i64 cd, .slice none 0 0, .int .u64 0] 36)
      have hM5 := HM4.out.alloc (.cells #[.int .i64 cd, .slice none 0 0, .int .u64 0] 36)
      have hC5 := heap_alloc_new V (.cells #[.int .i64 cd, .slice none 0 0, .int .u64 0] 36)
      have hr5 := (Below.heap_alloc V (.cells #[.int .i64 cd, .slice none 0 0, .int .u64 0] 36) _ hws4).trans HR4.out
      obtain ⟨C, hCe⟩ : ∃ C, C = V.heap.size := ⟨_, rfl⟩
      have hCg : C ≠ g := by have := HA4.out.lt; omega
      have hCb : C ≠ b := by have := HA4.out.ltb; omega
      have hCr : C ≠ w.heap.size := by omega
      have hCw : w.heap.size ≤ C := by omega
      rw [← hCe] at hC5 ⊢
      generalize V.alloc (.cells #[.int .i64 cd, .slice none 0 0, .int .u64 0] 36) = U at hA5 hM5 hC5 hr5 ⊢
      have c0 := fresh_cell hC5 0
      have c1 := fresh_cell hC5 1
      have c2 := fresh_cell hC5 2
      have cf2 := fresh_frozen hC5 2
      simp only [List.getElem?_toArray, List.getElem?_cons_zero, List.getElem?_cons_succ] at c0 c1 c2
      have HA5 := Aside0.mk hA5
      have HM5 := Aside0.mk hM5
      have HC5 := Lib.hid hC5
      have HR5 := Lib.hid hr5
      have HCD := Lib.hid hcd
      clear hA5 hM5 hC5 hr5 hCe hws4 hcd HA4 HM4 HR4
      cases failed with
      | true =>
        obtain rfl : (11 : Int) = cd := HCD.out
        have r0 := fresh_cell HR5.out 0
        have r1 := fresh_cell HR5.out 1
        have r2 := fresh_cell HR5.out 2
        have f0 := fresh_frozen HR5.out 0
        have f1 := fresh_frozen HR5.out 1
        have f2 := fresh_frozen HR5.out 2
        simp only [List.getElem?_toArray, List.getElem?_cons_zero, List.getElem?_cons_succ] at r0 r1 r2
        go_wp2
        refine bodyPost_ret (results_cell_row rfl _ _ w.heap.size _ _ _ _ rfl (set3 HR5.out) Tryz.underlying36 rfl (by kernel_rfl)) rfl ?_
        have e : countR k old true key E laid = (11, 0, layT E laid key { old with value := numText m } true, layN laid true) := by unfold countR; rw [HER.out, if_neg (by omega), HN.out, HM.out, if_pos rfl, if_pos rfl]
        rw [e]
        exact ⟨rfl, ((HA5.out.setCell (by simp; omega) (by simp; omega) _).setCell (by simp; omega) (by simp; omega) _).setCell (by simp; omega) (by simp; omega) _, ((HM5.out.setCell (.inl (by simp)) _).setCell (.inl (by simp)) _).setCell (.inl (by simp)) _⟩
      | false =>
        obtain rfl : (7 : Int) = cd := HCD.out
        go_upto_region 12 with fail
        have o5 : Only C U (U.setCell ⟨C, 2, none⟩ (.int .u64 m)) := (Only.refl C U).setCell 2 _
        have hC6 := Lib.heap_setCell_same (i := 2) HC5.out (.int .u64 m)
        have hr6 := o5.heap HR5.out hCr.symm
        have HA6 := Aside0.mk (HA5.out.only o5 hCg hCb)
        have HM6 := Aside0.mk (HM5.out.only o5 hCw)
        generalize U.setCell ⟨C, 2, none⟩ (.int .u64 m) = U6 at o5 hC6 hr6 HA6 HM6 ⊢
        clear c0 c1 c2 cf2 o5
        have c0 := fresh_cell hC6 0
        have c1 := fresh_cell hC6 1
        have c2 := fresh_cell hC6 2
        have r0 := fresh_cell hr6 0
        have r1 := fresh_cell hr6 1
        have r2 := fresh_cell hr6 2
        have f0 := fresh_frozen hr6 0
        have f1 := fresh_frozen hr6 1
        have f2 := fresh_frozen hr6 2
        simp only [List.setIfInBounds_toArray, List.set_cons_zero, List.set_cons_succ, List.getElem?_toArray, List.getElem?_cons_zero, List.getElem?_cons_succ] at c0 c1 c2 r0 r1 r2
        have HR6 := Lib.hid hr6
        clear hr6 hC6
        go_wp2
        refine bodyPost_ret (results_cell_row rfl _ _ w.heap.size _ _ _ _ rfl (set3 HR6.out) Tryz.underlying36 rfl (by kernel_rfl)) rfl ?_
        have e : countR k old false key E laid = (7, m, layT E laid key { old with value := numText m } false, layN laid false) := by unfold countR; rw [HER.out, if_neg (by omega), HN.out, HM.out, if_neg Bool.false_ne_true, if_neg Bool.false_ne_true]
        rw [e]
        exact ⟨rfl, ((HA6.out.setCell (by simp; omega) (by simp; omega) _).setCell (by simp; omega) (by simp; omega) _).setCell (by simp; omega) (by simp; omega) _, ((HM6.out.setCell (.inl (by simp)) _).setCell (.inl (by simp)) _).setCell (.inl (by simp)) _⟩
  · have he' : (er != 0) = true := bne_iff_ne.2 he
    have r0 := fresh_cell hr1 0
    have r1 := fresh_cell hr1 1
    have r2 := fresh_cell hr1 2
    have f0 := fresh_frozen hr1 0
    have f1 := fresh_frozen hr1 1
    have f2 := fresh_frozen hr1 2
    simp only [List.getElem?_toArray, List.getElem?_cons_zero, List.getElem?_cons_succ] at r0 r1 r2
    have HR := Lib.hid hr1
    have HE := Lib.hid he
    clear hr1 he ha1 hk1
    go_wp2
    refine bodyPost_ret (results_cell_row rfl _ _ w.heap.size _ _ _ _ rfl (set3 HR.out) Tryz.underlying36 rfl (by kernel_rfl)) rfl ?_
    have e : countR k old failed key E laid = (8, 0, E, laid) := by unfold countR; rw [HER.out, if_pos HE.out]
    rw [e]
    exact ⟨rfl, (((HA.out.setCell (by simp; omega) (by simp; omega) _).setCell (by simp; omega) (by simp; omega) _).setCell (by simp; omega) (by simp; omega) _).more (by omega), (((Mut.of_below HB.out).setCell (.inl (by simp)) _).setCell (.inl (by simp)) _).setCell (.inl (by simp)) _⟩
end Go.Proofs.YtbggcimjlkjclaaGreatDoor.Mdl
end
