/- Put together by wip/pack.py (this session's own program) out of this session's texts; a kit's tool laid the words and the shelf, of which only what is used stands here. Lean checks it. -/
import Derived.Test.YtfboejlemnfndaaGreatDoorPMr7
import Derived.Test.YtfboejlemnfndaaGreatDoorProg
import Derived.Lib.Split
import Derived.Lib.Join
import Derived.Lib.ItoaNum
import Derived.Lib.ParseIntB
import Derived.Lib.IndexBytes
section
namespace Go.Proofs.YtfboejlemnfndaaGreatDoor.XMr
open Go.RowKit Go.Proofs.YtfboejlemnfndaaGreatDoorW.PrintWords Go.Proofs.YtfboejlemnfndaaGreatDoorW.PrintLast Go.Proofs.YtfboejlemnfndaaGreatDoorW.PrintMore
attribute [local go_sem] extract_sub max2_int min2_int max_two min_two max_three min_three max_four min_four   -- for this text's walks alone
set_option linter.unusedVariables false
set_option linter.unusedSimpArgs false

noncomputable section
def tallboylaw27_MetaReads.f (k : Nat) (a0 : ByteArray) : Option (Bool) := if (a0.size : Int) > 5000 then (some true) else ((meta_Parse.f k a0).bind fun bt305 => ((tallboyref27_Parse.f k a0).bind fun bt313 => ((tallboylaw27_From.f k bt305.1 bt305.2.1 bt305.2.2.1 bt305.2.2.2.1).bind fun bt321 => ((tallboyref27_Same.f k bt321.1 bt321.2.1 bt321.2.2.1 bt321.2.2.2 bt313.1 bt313.2.1 bt313.2.2.1 bt313.2.2.2.1).bind fun t327 => (if t327 = true then (some (bt305.2.2.2.2 == bt313.2.2.2.2)) else (some false))))))
theorem tallboylaw27_MetaReads.mono : ∀ a0 k, LeO (tallboylaw27_MetaReads.f k a0) (tallboylaw27_MetaReads.f (k + 1) a0) := by
 intro a0 k
 unfold tallboylaw27_MetaReads.f
 repeat' first
  | (with_reducible exact meta_Parse.mono _ _)
  | (with_reducible exact tallboylaw27_From.mono _ _ _ _ _)
  | (with_reducible exact tallboyref27_Parse.mono _ _)
  | (with_reducible exact tallboyref27_Same.mono _ _ _ _ _ _ _ _ _)
  | (with_reducible exact LeO.refl _)
  | (with_reducible exact LeO.none _)
  | (with_reducible refine LeO.ite ?_ ?_)
  | (with_reducible refine LeO.bind ?_ (fun _ => ?_))
  | exact meta_Parse.mono _ _
  | exact tallboylaw27_From.mono _ _ _ _ _
  | exact tallboyref27_Parse.mono _ _
  | exact tallboyref27_Same.mono _ _ _ _ _ _ _ _ _
  | exact LeO.none _
  | refine LeO.ite ?_ ?_
  | refine LeO.bind ?_ (fun _ => ?_)
def tallboylaw27_MetaReads.T5 : Bool × List (List Nat × List Nat) := (true, [([], []), ([0], [0]), ([], []), ([1, 2, 1], [1, 2]), ([3, 3], [3]), ([4], [4]), ([4], [4]), ([5, 6, 4], [4, 5, 6]), ([4, 7], [4, 7]), ([8, 4, 0, 1, 2, 3, 4, 5, 6, 7, 8], [8])])
def tallboylaw27_MetaReads.B5 : List Nat := [0, 1, 0, 7, 15, 31, 31, 127, 255, 511]
theorem tallboylaw27_MetaReads.tab5 : rtab .any (opsOf Tryz.f4 5) = tallboylaw27_MetaReads.T5 := by kernel_rfl
theorem tallboylaw27_MetaReads.bits5 : waitsOk tallboylaw27_MetaReads.T5.2 tallboylaw27_MetaReads.B5 = true := by kernel_rfl
set_option maxHeartbeats 8000000 in
set_option maxRecDepth 100000 in
theorem tallboylaw27_MetaReads.calls (k : Nat) (a0 : ByteArray) (r : Bool) (w : World) (hv : Vars w) (h : tallboylaw27_MetaReads.f k a0 = some r) :
 Calls Tryz.prog 4 #[.string a0] w fun e w' => e = .returned (.bool r) ∧ Below w.heap.size w w' := by
 have hu31 := Tryz.underlying31
 have hu24 := Tryz.underlying24
 have HV := Aside0.mk hv
 clear hv
 have HB := Aside0.mk (Below.refl w.heap.size w)
 have H : (if (a0.size : Int) > 5000 then (some true) else ((meta_Parse.f k a0).bind fun bt305 => ((tallboyref27_Parse.f k a0).bind fun bt313 => ((tallboylaw27_From.f k bt305.1 bt305.2.1 bt305.2.2.1 bt305.2.2.2.1).bind fun bt321 => ((tallboyref27_Same.f k bt321.1 bt321.2.1 bt321.2.2.1 bt321.2.2.2 bt313.1 bt313.2.1 bt313.2.2.1 bt313.2.2.2.1).bind fun t327 => (if t327 = true then (some (bt305.2.2.2.2 == bt313.2.2.2.2)) else (some false))))))) = some r := h
 clear h
 by_cases c2 : (a0.size : Int) > 5000
 · rw [if_pos c2] at H
   have c2b0 : decide (5000 < (a0.size : Int)) = true := decide_eq_true c2
   have c2b1 : decide (5000 < a0.size) = true := decide_eq_true (by omega)
   clear c2
   obtain rfl := Option.some.inj H
   go_enter Tryz.func4, Tryz.ntmps4
   go_wp2
   go_ret
   exact ⟨reA, hbA HB.out⟩
 rw [if_neg c2] at H
 have c2b0 : decide (5000 < (a0.size : Int)) = false := decide_eq_false c2
 have c2b1 : decide (5000 < a0.size) = false := decide_eq_false (by omega)
 clear c2
 replace H := Option.bind_eq_some_iff.mp H
 obtain ⟨⟨t305, t306, t307, t308, t311⟩, A30, H⟩ := H
 replace H : ((tallboyref27_Parse.f k a0).bind fun bt313 => ((tallboylaw27_From.f k t305 t306 t307 t308).bind fun bt321 => ((tallboyref27_Same.f k bt321.1 bt321.2.1 bt321.2.2.1 bt321.2.2.2 bt313.1 bt313.2.1 bt313.2.2.1 bt313.2.2.2.1).bind fun t327 => (if t327 = true then (some (t311 == bt313.2.2.2.2)) else (some false))))) = some r := H
 have A3 := Aside0.mk A30
 clear A30
 replace H := Option.bind_eq_some_iff.mp H
 obtain ⟨⟨t313, t314, t315, t316, t319⟩, A40, H⟩ := H
 replace H : ((tallboylaw27_From.f k t305 t306 t307 t308).bind fun bt321 => ((tallboyref27_Same.f k bt321.1 bt321.2.1 bt321.2.2.1 bt321.2.2.2 t313 t314 t315 t316).bind fun t327 => (if t327 = true then (some (t311 == t319)) else (some false)))) = some r := H
 have A4 := Aside0.mk A40
 clear A40
 replace H := Option.bind_eq_some_iff.mp H
 obtain ⟨⟨t321, t322, t323, t324⟩, A50, H⟩ := H
 replace H : ((tallboyref27_Same.f k t321 t322 t323 t324 t313 t314 t315 t316).bind fun t327 => (if t327 = true then (some (t311 == t319)) else (some false))) = some r := H
 have A5 := Aside0.mk A50
 clear A50
 replace H := Option.bind_eq_some_iff.mp H
 obtain ⟨t327, A60, H⟩ := H
 replace H : (if t327 = true then (some (t311 == t319)) else (some false)) = some r := H
 have A6 := Aside0.mk A60
 clear A60
 by_cases c7 : t327 = true
 · subst c7
   have H1 : (some (t311 == t319)) = some r := by rw [if_pos rfl] at H; exact H
   clear H
   have H := H1
   clear H1
   obtain rfl := Option.some.inj H
   go_enter Tryz.func4, Tryz.ntmps4
   try go_wp2_with (first | ((with_reducible refine gate_callee (f := 23) rfl ?_); refine goesL_ (some 12) rfl rfl Tryz.func23 (by kernel_rfl) rfl #[.string a0] rfl argA ?_; (with_reducible refine (meta_Parse.calls k a0 t305 t306 t307 t308 t311 _ ?side1 A3.out).mono ?_); (case side1 => exact Vars.below HV.out (hbA HB.out)); rintro e w8 ⟨v309, rfl, ho0, hb⟩; refine ⟨_, rfl, ?_⟩; have n0_ := Aside0.mk (Kd.R_lower ho0 (below_size (hbA HB.out))); have n1_ := Aside0.mk (below_step (hbA HB.out) hb); clear HB; have HO310 := n0_; have HB := n1_; clear n0_ n1_; (try clear hb); (try clear hb2); (try clear hk); (try clear hi); (try clear ho0)) | ((with_reducible refine gate_dst (N := 3) rfl ?_); refine box_event ?hg (N := 3) ?hd (cs := #[.int .i64 0, .string (⟨#[]⟩ : ByteArray), .int .i64 0, .slice none 0 0]) (t := 31) ?hr ?_; (case hd => rfl); (case hg => rfl); (case hr => first | (go_simp; done) | (go_simp; rfl)); intro gb312 hg w9 hbox hb; have n0_ := Aside0.mk (Kd.R_below (rdA HO310.out) hb); have n1_ := Aside0.mk (below_step (hbA HB.out) hb); have n2_ := Aside0.mk (hbox); have n3_ := Aside0.mk ((by rw [hg]; exact (below_size (hbA HB.out)) : w.heap.size ≤ gb312)); have n4_ := Aside0.mk ((by rw [hg]; exact (below_size (hbA HB.out)) : w.heap.size ≤ gb312)); clear HO310; clear HB; have HO310 := n0_; have HB := n1_; have BK312 := n2_; have GW312 := n3_; have GE312 := n4_; clear n0_ n1_ n2_ n3_ n4_; clear hb hbox hg; obtain ⟨hcz10_0, hcz10_1, hcz10_2, hcz10_3, hfz10_0, hfz10_1, hfz10_2, hfz10_3⟩ := blkA4 BK312.out; obtain ⟨Ao11, co11, eo11⟩ := Kd.R_slice HO310.out; subst eo11) | ((with_reducible refine gate_callee (f := 24) rfl ?_); refine goesL_ (some 17) rfl rfl Tryz.func24 (by kernel_rfl) rfl #[.string a0] rfl argA ?_; (with_reducible refine (tallboyref27_Parse.calls k a0 t313 t314 t315 t316 t319 _ A4.out).mono ?_); rintro e w12 ⟨v317, rfl, ho0, hb⟩; refine ⟨_, rfl, ?_⟩; have n0_ := Aside0.mk (Kd.R_below (by (with_reducible repeat (first | apply Kd.R_alloc | apply Kd.R_drewN | apply Kd.R_drew)); exact (Kd.R_mono (Kd.R_far (p := ⟨gb312, 3, none⟩) (Kd.R_far (p := ⟨gb312, 2, none⟩) (Kd.R_far (p := ⟨gb312, 1, none⟩) (Kd.R_far (p := ⟨gb312, 0, none⟩) (Kd.R_types HO310.out BK312.out (by decide)) (fun _ hk => hk.2) (.int .i64 t305)) (fun _ hk => hk.2) (.string t306)) (fun _ hk => hk.2) (.int .i64 t307)) (fun _ hk => hk.2) (.slice Ao11 t308.length co11)) (fun _ h_ => h_.1))) hb); have n1_ := Aside0.mk (Kd.R_lower ho0 (below_size (hbA HB.out))); have n2_ := Aside0.mk (blk_below (g := gb312) (o := .cells #[.int .i64 t305, .string t306, .int .i64 t307, .slice Ao11 t308.length co11] 31 (0, 0)) (by (with_reducible repeat (first | refine blk_drewN ?_ _ | refine blk_drew ?_ | refine blk_alloc ?_ _)); refine blk_put (cs := #[.int .i64 t305, .string t306, .int .i64 t307, .slice none 0 0]) ?_ 3 _ rfl; (with_reducible repeat (first | refine blk_drewN ?_ _ | refine blk_drew ?_ | refine blk_alloc ?_ _)); refine blk_put (cs := #[.int .i64 t305, .string t306, .int .i64 0, .slice none 0 0]) ?_ 2 _ rfl; (with_reducible repeat (first | refine blk_drewN ?_ _ | refine blk_drew ?_ | refine blk_alloc ?_ _)); refine blk_put (cs := #[.int .i64 t305, .string (⟨#[]⟩ : ByteArray), .int .i64 0, .slice none 0 0]) ?_ 1 _ rfl; (with_reducible repeat (first | refine blk_drewN ?_ _ | refine blk_drew ?_ | refine blk_alloc ?_ _)); refine blk_put (cs := #[.int .i64 0, .string (⟨#[]⟩ : ByteArray), .int .i64 0, .slice none 0 0]) ?_ 0 _ rfl; exact rbA BK312.out) hb); have n3_ := Aside0.mk (below_step (hbA HB.out) hb); clear HO310; clear BK312; clear HB; have HO310 := n0_; have HO318 := n1_; have BK312 := n2_; have HB := n3_; clear n0_ n1_ n2_ n3_; (try clear hb); (try clear hb2); (try clear hk); (try clear hi); (try clear ho0)) | ((with_reducible refine gate_dst (N := 5) rfl ?_); refine box_event ?hg (N := 5) ?hd (cs := #[.int .i64 0, .string (⟨#[]⟩ : ByteArray), .int .i64 0, .slice none 0 0]) (t := 24) ?hr ?_; (case hd => rfl); (case hg => rfl); (case hr => first | (go_simp; done) | (go_simp; rfl)); intro gb320 hg w13 hbox hb; have n0_ := Aside0.mk (Kd.R_below (rdA HO310.out) hb); have n1_ := Aside0.mk (Kd.R_below (rdA HO318.out) hb); have n2_ := Aside0.mk (blk_below (g := gb312) (o := .cells #[.int .i64 t305, .string t306, .int .i64 t307, .slice Ao11 t308.length co11] 31 (0, 0)) (rbA BK312.out) hb); have n3_ := Aside0.mk (below_step (hbA HB.out) hb); have n4_ := Aside0.mk (hbox); have n5_ := Aside0.mk ((by rw [hg]; exact (below_size (hbA HB.out)) : w.heap.size ≤ gb320)); have n6_ := Aside0.mk ((by rw [hg]; exact (below_size (hbA HB.out)) : w.heap.size ≤ gb320)); have n7_ := Aside0.mk ((by rw [hg]; exact Nat.ne_of_lt (blk_lt (g := gb312) (o := .cells #[.int .i64 t305, .string t306, .int .i64 t307, .slice Ao11 t308.length co11] 31 (0, 0)) (rbA BK312.out)) : gb312 ≠ gb320)); have n8_ := Aside0.mk ((by rw [hg]; exact Nat.ne_of_gt (blk_lt (g := gb312) (o := .cells #[.int .i64 t305, .string t306, .int .i64 t307, .slice Ao11 t308.length co11] 31 (0, 0)) (rbA BK312.out)) : gb320 ≠ gb312)); clear HO310; clear HO318; clear BK312; clear HB; have HO310 := n0_; have HO318 := n1_; have BK312 := n2_; have HB := n3_; have BK320 := n4_; have GW320 := n5_; have GE320 := n6_; have NB312_320 := n7_; have NB320_312 := n8_; clear n0_ n1_ n2_ n3_ n4_ n5_ n6_ n7_ n8_; clear hb hbox hg; have hnb14 := NB320_312.out; have hnc14 := NB312_320.out; obtain ⟨hcz15_0, hcz15_1, hcz15_2, hcz15_3, hfz15_0, hfz15_1, hfz15_2, hfz15_3⟩ := blkA4 BK320.out; obtain ⟨Ao16, co16, eo16⟩ := Kd.R_slice HO318.out; subst eo16))
   have n0_ : Aside0 (Kd.R k61 61 ((((w13.setCell ⟨gb320, 0, none⟩ (.int .i64 t313)).setCell ⟨gb320, 1, none⟩ (.string t314)).setCell ⟨gb320, 2, none⟩ (.int .i64 t315)).setCell ⟨gb320, 3, none⟩ (.slice Ao16 t316.length co16)) w.heap.size (fun _ => True) (.slice Ao11 t308.length co11) t308) := ⟨by (with_reducible repeat (first | apply Kd.R_alloc | apply Kd.R_drewN | apply Kd.R_drew)); exact Kd.R_mono (Kd.R_far (p := ⟨gb320, 3, none⟩) (Kd.R_far (p := ⟨gb320, 2, none⟩) (Kd.R_far (p := ⟨gb320, 1, none⟩) (Kd.R_far (p := ⟨gb320, 0, none⟩) (Kd.R_types HO310.out BK320.out (by decide)) (fun _ hk => hk.2) (.int .i64 t313)) (fun _ hk => hk.2) (.string t314)) (fun _ hk => hk.2) (.int .i64 t315)) (fun _ hk => hk.2) (.slice Ao16 t316.length co16)) (fun _ hk => trivial)⟩
   have n1_ : Aside0 (Kd.R k59 59 ((((w13.setCell ⟨gb320, 0, none⟩ (.int .i64 t313)).setCell ⟨gb320, 1, none⟩ (.string t314)).setCell ⟨gb320, 2, none⟩ (.int .i64 t315)).setCell ⟨gb320, 3, none⟩ (.slice Ao16 t316.length co16)) w.heap.size (fun _ => True) (.slice Ao16 t316.length co16) t316) := ⟨by (with_reducible repeat (first | apply Kd.R_alloc | apply Kd.R_drewN | apply Kd.R_drew)); exact Kd.R_mono (Kd.R_far (p := ⟨gb320, 3, none⟩) (Kd.R_far (p := ⟨gb320, 2, none⟩) (Kd.R_far (p := ⟨gb320, 1, none⟩) (Kd.R_far (p := ⟨gb320, 0, none⟩) (Kd.R_types HO318.out BK320.out (by decide)) (fun _ hk => hk.2) (.int .i64 t313)) (fun _ hk => hk.2) (.string t314)) (fun _ hk => hk.2) (.int .i64 t315)) (fun _ hk => hk.2) (.slice Ao16 t316.length co16)) (fun _ hk => trivial)⟩
   have n2_ : Aside0 (((((w13.setCell ⟨gb320, 0, none⟩ (.int .i64 t313)).setCell ⟨gb320, 1, none⟩ (.string t314)).setCell ⟨gb320, 2, none⟩ (.int .i64 t315)).setCell ⟨gb320, 3, none⟩ (.slice Ao16 t316.length co16)).heap[gb312]? = some (.cells #[.int .i64 t305, .string t306, .int .i64 t307, .slice Ao11 t308.length co11] 31 (0, 0))) := ⟨by (with_reducible repeat (first | refine blk_drewN ?_ _ | refine blk_drew ?_ | refine blk_alloc ?_ _)); refine blk_far ?_ NB312_320.out _; (with_reducible repeat (first | refine blk_drewN ?_ _ | refine blk_drew ?_ | refine blk_alloc ?_ _)); refine blk_far ?_ NB312_320.out _; (with_reducible repeat (first | refine blk_drewN ?_ _ | refine blk_drew ?_ | refine blk_alloc ?_ _)); refine blk_far ?_ NB312_320.out _; (with_reducible repeat (first | refine blk_drewN ?_ _ | refine blk_drew ?_ | refine blk_alloc ?_ _)); refine blk_far ?_ NB312_320.out _; (with_reducible repeat (first | refine blk_drewN ?_ _ | refine blk_drew ?_ | refine blk_alloc ?_ _)); exact BK312.out⟩
   have n3_ : Aside0 (((((w13.setCell ⟨gb320, 0, none⟩ (.int .i64 t313)).setCell ⟨gb320, 1, none⟩ (.string t314)).setCell ⟨gb320, 2, none⟩ (.int .i64 t315)).setCell ⟨gb320, 3, none⟩ (.slice Ao16 t316.length co16)).heap[gb320]? = some (.cells #[.int .i64 t313, .string t314, .int .i64 t315, .slice Ao16 t316.length co16] 24 (0, 0))) := ⟨by (with_reducible repeat (first | refine blk_drewN ?_ _ | refine blk_drew ?_ | refine blk_alloc ?_ _)); refine blk_put (cs := #[.int .i64 t313, .string t314, .int .i64 t315, .slice none 0 0]) ?_ 3 _ rfl; (with_reducible repeat (first | refine blk_drewN ?_ _ | refine blk_drew ?_ | refine blk_alloc ?_ _)); refine blk_put (cs := #[.int .i64 t313, .string t314, .int .i64 0, .slice none 0 0]) ?_ 2 _ rfl; (with_reducible repeat (first | refine blk_drewN ?_ _ | refine blk_drew ?_ | refine blk_alloc ?_ _)); refine blk_put (cs := #[.int .i64 t313, .string (⟨#[]⟩ : ByteArray), .int .i64 0, .slice none 0 0]) ?_ 1 _ rfl; (with_reducible repeat (first | refine blk_drewN ?_ _ | refine blk_drew ?_ | refine blk_alloc ?_ _)); refine blk_put (cs := #[.int .i64 0, .string (⟨#[]⟩ : ByteArray), .int .i64 0, .slice none 0 0]) ?_ 0 _ rfl; (with_reducible repeat (first | refine blk_drewN ?_ _ | refine blk_drew ?_ | refine blk_alloc ?_ _)); exact BK320.out⟩
   have n4_ : Aside0 (Below w.heap.size w ((((w13.setCell ⟨gb320, 0, none⟩ (.int .i64 t313)).setCell ⟨gb320, 1, none⟩ (.string t314)).setCell ⟨gb320, 2, none⟩ (.int .i64 t315)).setCell ⟨gb320, 3, none⟩ (.slice Ao16 t316.length co16))) := ⟨hbA HB.out⟩
   (try clear HO310)
   (try clear HO318)
   (try clear BK312)
   (try clear BK320)
   (try clear HB)
   generalize ((((w13.setCell ⟨gb320, 0, none⟩ (.int .i64 t313)).setCell ⟨gb320, 1, none⟩ (.string t314)).setCell ⟨gb320, 2, none⟩ (.int .i64 t315)).setCell ⟨gb320, 3, none⟩ (.slice Ao16 t316.length co16)) = w17 at n0_ n1_ n2_ n3_ n4_ ⊢
   have HO310 := n0_
   have HO318 := n1_
   have BK312 := n2_
   have BK320 := n3_
   have HB := n4_
   clear n0_ n1_ n2_ n3_ n4_
   replace HO310 := Aside0.mk (Kd.R_drew HO310.out)
   replace HO318 := Aside0.mk (Kd.R_drew HO318.out)
   replace BK312 := Aside0.mk (blk_drew BK312.out)
   replace BK320 := Aside0.mk (blk_drew BK320.out)
   replace HB := Aside0.mk (below_drew1 HB.out)
   refine start_ (n := 10) (S := fun w' => w'.cell? ⟨gb312, 0, none⟩ = some (.int .i64 t305) ∧ w'.cell? ⟨gb312, 1, none⟩ = some (.string t306) ∧ w'.cell? ⟨gb312, 2, none⟩ = some (.int .i64 t307) ∧ w'.cell? ⟨gb312, 3, none⟩ = some (.slice Ao11 t308.length co11) ∧ w'.cell? ⟨gb320, 0, none⟩ = some (.int .i64 t313) ∧ w'.cell? ⟨gb320, 1, none⟩ = some (.string t314) ∧ w'.cell? ⟨gb320, 2, none⟩ = some (.int .i64 t315) ∧ w'.cell? ⟨gb320, 3, none⟩ = some (.slice Ao16 t316.length co16)) (ds := []) #[false, false, false, false, false, false, false, false, false, false] (by kernel_rfl) rfl rfl ⟨(blk_cell BK312.out 0).trans rfl, (blk_cell BK312.out 1).trans rfl, (blk_cell BK312.out 2).trans rfl, (blk_cell BK312.out 3).trans rfl, (blk_cell BK320.out 0).trans rfl, (blk_cell BK320.out 1).trans rfl, (blk_cell BK320.out 2).trans rfl, (blk_cell BK320.out 3).trans rfl⟩ (fun hHeld => ?_); refine with_tabW tallboylaw27_MetaReads.tab5 tallboylaw27_MetaReads.bits5 (fun HT_ HW_ => ?_)
   generalize w17.drew = w18 at HO310 HO318 BK312 BK320 HB hHeld ⊢
   refine takeA_ (i := 0) (N := some 20) #[true, false, false, false, false, false, false, false, false, false] rfl rfl hHeld ?_ (hc := take_ofW HT_.out HW_.out (by kernel_rfl)) (hy := by rintro w' ⟨s0, s1, s2, s3, s4, s5, s6, s7⟩; go_simp; with_reducible rfl)
   refine takeA_ (i := 2) (N := some 22) #[true, false, true, false, false, false, false, false, false, false] rfl rfl hHeld ?_ (hc := take_ofW HT_.out HW_.out (by kernel_rfl)) (hy := by rintro w' ⟨s0, s1, s2, s3, s4, s5, s6, s7⟩; go_simp; with_reducible rfl)
   refine one_ (i := 1) (N := some 21) #[true, true, true, false, false, false, false, false, false, false] rfl rfl (one_of HT_.out (by kernel_rfl)) (by decide) (fun K hK => ?_)
   refine goes_ Tryz.func20 (by kernel_rfl) rfl #[.agg #[.int .i64 t305, .string t306, .int .i64 t307, .slice Ao11 t308.length co11]] (by rfl) rfl rfl argA ?_
   with_reducible refine (tallboylaw27_From.calls k t305 t306 t307 _ _ t308 t321 t322 t323 t324 _ ?side1 ?side2 A5.out).mono ?_
   (case side1 => repeat (first | exact (Kd.R_reads' HO310.out).2.2 | (with_reducible refine Kd.C_alloc ?_ _) | (with_reducible refine Kd.C_drewN ?_ _) | (with_reducible refine Kd.C_drew ?_)))
   (case side2 => exact (Kd.R_reads' HO310.out).2.1)
   rintro e w19 ⟨v325, rfl, ho0, hb⟩
   refine ⟨_, rfl, ?_⟩
   have n0_ := Aside0.mk (Kd.R_below (rdA HO310.out) hb)
   have n1_ := Aside0.mk (Kd.R_elder' (rdA HO318.out) (Kd.R_base ho0) hb)
   have n2_ := Aside0.mk (Kd.R_lower (Kd.R_new' ho0 (Kd.R_lt (rdA HO318.out))) (below_size (hbA HB.out)))
   have n3_ := Aside0.mk (blk_below (g := gb312) (o := .cells #[.int .i64 t305, .string t306, .int .i64 t307, .slice Ao11 t308.length co11] 31 (0, 0)) (rbA BK312.out) hb)
   have n4_ := Aside0.mk (blk_below (g := gb320) (o := .cells #[.int .i64 t313, .string t314, .int .i64 t315, .slice Ao16 t316.length co16] 24 (0, 0)) (rbA BK320.out) hb)
   have n5_ := Aside0.mk (below_step (hbA HB.out) hb)
   clear HO310
   clear HO318
   clear BK312
   clear BK320
   clear HB
   have HO310 := n0_
   have HO318 := n1_
   have HO326 := n2_
   have BK312 := n3_
   have BK320 := n4_
   have HB := n5_
   clear n0_ n1_ n2_ n3_ n4_ n5_
   (try clear hb)
   (try clear hb2)
   (try clear hk)
   (try clear hi)
   (try clear ho0)
   obtain ⟨Ao20, co20, eo20⟩ := Kd.R_slice HO326.out
   (first | subst eo20 | (injection eo20 with f1_ f2_ f3_; have f4_ := f1_.symm; have f5_ := f3_.symm; clear f1_ f2_ f3_; subst f4_; subst f5_))
   refine hK.out _ _ ⟨(blk_cell BK312.out 0).trans rfl, (blk_cell BK312.out 1).trans rfl, (blk_cell BK312.out 2).trans rfl, (blk_cell BK312.out 3).trans rfl, (blk_cell BK320.out 0).trans rfl, (blk_cell BK320.out 1).trans rfl, (blk_cell BK320.out 2).trans rfl, (blk_cell BK320.out 3).trans rfl⟩ (fun hHeld => ?_)
   clear hK K
   refine normA_ ?_
   refine one_ (i := 3) (N := some 23) #[true, true, true, true, false, false, false, false, false, false] rfl rfl (one_of HT_.out (by kernel_rfl)) (by decide) (fun K hK => ?_)
   refine goes_ Tryz.func19 (by kernel_rfl) rfl #[.agg #[.int .i64 t321, .string t322, .int .i64 t323, .slice Ao20 t324.length co20], .agg #[.int .i64 t313, .string t314, .int .i64 t315, .slice Ao16 t316.length co16]] (by rfl) rfl rfl argA ?_
   with_reducible refine (tallboyref27_Same.calls k t321 t322 t323 _ _ t324 t313 t314 t315 _ _ t316 true _ ?side1 ?side2 ?side3 ?side4 A6.out).mono ?_
   (case side1 => repeat (first | exact (Kd.R_reads' HO326.out).2.2 | (with_reducible refine Kd.C_alloc ?_ _) | (with_reducible refine Kd.C_drewN ?_ _) | (with_reducible refine Kd.C_drew ?_)))
   (case side2 => exact (Kd.R_reads' HO326.out).2.1)
   (case side3 => repeat (first | exact (Kd.R_reads' HO318.out).2.2 | (with_reducible refine Kd.C_alloc ?_ _) | (with_reducible refine Kd.C_drewN ?_ _) | (with_reducible refine Kd.C_drew ?_)))
   (case side4 => exact (Kd.R_reads' HO318.out).2.1)
   rintro e w21 ⟨rfl, hb⟩
   refine ⟨_, rfl, ?_⟩
   replace HO310 := Aside0.mk (Kd.R_below (rdA HO310.out) hb)
   replace HO318 := Aside0.mk (Kd.R_below (rdA HO318.out) hb)
   replace HO326 := Aside0.mk (Kd.R_below (rdA HO326.out) hb)
   replace BK312 := Aside0.mk (blk_below (g := gb312) (o := .cells #[.int .i64 t305, .string t306, .int .i64 t307, .slice Ao11 t308.length co11] 31 (0, 0)) (rbA BK312.out) hb)
   replace BK320 := Aside0.mk (blk_below (g := gb320) (o := .cells #[.int .i64 t313, .string t314, .int .i64 t315, .slice Ao16 t316.length co16] 24 (0, 0)) (rbA BK320.out) hb)
   replace HB := Aside0.mk (below_step (hbA HB.out) hb)
   (try clear hb)
   (try clear hb2)
   (try clear hk)
   (try clear hi)
   refine hK.out _ _ ⟨(blk_cell BK312.out 0).trans rfl, (blk_cell BK312.out 1).trans rfl, (blk_cell BK312.out 2).trans rfl, (blk_cell BK312.out 3).trans rfl, (blk_cell BK320.out 0).trans rfl, (blk_cell BK320.out 1).trans rfl, (blk_cell BK320.out 2).trans rfl, (blk_cell BK320.out 3).trans rfl⟩ (fun hHeld => ?_)
   clear hK K
   refine normA_ ?_
   refine pureA_ (i := 4) (N := some 24) #[true, true, true, true, true, false, false, false, false, false] rfl rfl ?_ (hc := any_of HT_.out (by kernel_rfl))
   refine pureA_ (i := 5) (N := some 25) #[true, true, true, true, true, true, false, false, false, false] rfl rfl ?_ (hc := any_of HT_.out (by kernel_rfl))
   refine pureA_ (i := 6) (N := some 26) #[true, true, true, true, true, true, true, false, false, false] rfl rfl ?_ (hc := any_of HT_.out (by kernel_rfl))
   refine pureA_ (i := 7) (N := some 27) #[true, true, true, true, true, true, true, true, false, false] rfl rfl ?_ (hc := any_of HT_.out (by kernel_rfl))
   refine pureA_ (i := 8) (N := some 28) #[true, true, true, true, true, true, true, true, true, false] rfl rfl ?_ (hc := any_of HT_.out (by kernel_rfl))
   refine pureA_ (i := 9) (N := some 2) #[true, true, true, true, true, true, true, true, true, true] rfl rfl ?_ (hc := any_of HT_.out (by kernel_rfl))
   refine done_ (done_of HT_.out (by kernel_rfl)) ?_
   try go_wp2
   go_ret
   exact ⟨reA, hbA HB.out⟩
 replace c7 := Bool.eq_false_iff.mpr c7
 subst c7
 have H1 : (some false) = some r := by rw [if_neg (show ¬ (false = true) by decide)] at H; exact H
 clear H
 have H := H1
 clear H1
 obtain rfl := Option.some.inj H
 go_enter Tryz.func4, Tryz.ntmps4
 try go_wp2_with (first | ((with_reducible refine gate_callee (f := 23) rfl ?_); refine goesL_ (some 12) rfl rfl Tryz.func23 (by kernel_rfl) rfl #[.string a0] rfl argA ?_; (with_reducible refine (meta_Parse.calls k a0 t305 t306 t307 t308 t311 _ ?side1 A3.out).mono ?_); (case side1 => exact Vars.below HV.out (hbA HB.out)); rintro e w22 ⟨v309, rfl, ho0, hb⟩; refine ⟨_, rfl, ?_⟩; have n0_ := Aside0.mk (Kd.R_lower ho0 (below_size (hbA HB.out))); have n1_ := Aside0.mk (below_step (hbA HB.out) hb); clear HB; have HO310 := n0_; have HB := n1_; clear n0_ n1_; (try clear hb); (try clear hb2); (try clear hk); (try clear hi); (try clear ho0)) | ((with_reducible refine gate_dst (N := 3) rfl ?_); refine box_event ?hg (N := 3) ?hd (cs := #[.int .i64 0, .string (⟨#[]⟩ : ByteArray), .int .i64 0, .slice none 0 0]) (t := 31) ?hr ?_; (case hd => rfl); (case hg => rfl); (case hr => first | (go_simp; done) | (go_simp; rfl)); intro gb312 hg w23 hbox hb; have n0_ := Aside0.mk (Kd.R_below (rdA HO310.out) hb); have n1_ := Aside0.mk (below_step (hbA HB.out) hb); have n2_ := Aside0.mk (hbox); have n3_ := Aside0.mk ((by rw [hg]; exact (below_size (hbA HB.out)) : w.heap.size ≤ gb312)); have n4_ := Aside0.mk ((by rw [hg]; exact (below_size (hbA HB.out)) : w.heap.size ≤ gb312)); clear HO310; clear HB; have HO310 := n0_; have HB := n1_; have BK312 := n2_; have GW312 := n3_; have GE312 := n4_; clear n0_ n1_ n2_ n3_ n4_; clear hb hbox hg; obtain ⟨hcz24_0, hcz24_1, hcz24_2, hcz24_3, hfz24_0, hfz24_1, hfz24_2, hfz24_3⟩ := blkA4 BK312.out; obtain ⟨Ao25, co25, eo25⟩ := Kd.R_slice HO310.out; subst eo25) | ((with_reducible refine gate_callee (f := 24) rfl ?_); refine goesL_ (some 17) rfl rfl Tryz.func24 (by kernel_rfl) rfl #[.string a0] rfl argA ?_; (with_reducible refine (tallboyref27_Parse.calls k a0 t313 t314 t315 t316 t319 _ A4.out).mono ?_); rintro e w26 ⟨v317, rfl, ho0, hb⟩; refine ⟨_, rfl, ?_⟩; have n0_ := Aside0.mk (Kd.R_below (by (with_reducible repeat (first | apply Kd.R_alloc | apply Kd.R_drewN | apply Kd.R_drew)); exact (Kd.R_mono (Kd.R_far (p := ⟨gb312, 3, none⟩) (Kd.R_far (p := ⟨gb312, 2, none⟩) (Kd.R_far (p := ⟨gb312, 1, none⟩) (Kd.R_far (p := ⟨gb312, 0, none⟩) (Kd.R_types HO310.out BK312.out (by decide)) (fun _ hk => hk.2) (.int .i64 t305)) (fun _ hk => hk.2) (.string t306)) (fun _ hk => hk.2) (.int .i64 t307)) (fun _ hk => hk.2) (.slice Ao25 t308.length co25)) (fun _ h_ => h_.1))) hb); have n1_ := Aside0.mk (Kd.R_lower ho0 (below_size (hbA HB.out))); have n2_ := Aside0.mk (blk_below (g := gb312) (o := .cells #[.int .i64 t305, .string t306, .int .i64 t307, .slice Ao25 t308.length co25] 31 (0, 0)) (by (with_reducible repeat (first | refine blk_drewN ?_ _ | refine blk_drew ?_ | refine blk_alloc ?_ _)); refine blk_put (cs := #[.int .i64 t305, .string t306, .int .i64 t307, .slice none 0 0]) ?_ 3 _ rfl; (with_reducible repeat (first | refine blk_drewN ?_ _ | refine blk_drew ?_ | refine blk_alloc ?_ _)); refine blk_put (cs := #[.int .i64 t305, .string t306, .int .i64 0, .slice none 0 0]) ?_ 2 _ rfl; (with_reducible repeat (first | refine blk_drewN ?_ _ | refine blk_drew ?_ | refine blk_alloc ?_ _)); refine blk_put (cs := #[.int .i64 t305, .string (⟨#[]⟩ : ByteArray), .int .i64 0, .slice none 0 0]) ?_ 1 _ rfl; (with_reducible repeat (first | refine blk_drewN ?_ _ | refine blk_drew ?_ | refine blk_alloc ?_ _)); refine blk_put (cs := #[.int .i64 0, .string (⟨#[]⟩ : ByteArray), .int .i64 0, .slice none 0 0]) ?_ 0 _ rfl; exact rbA BK312.out) hb); have n3_ := Aside0.mk (below_step (hbA HB.out) hb); clear HO310; clear BK312; clear HB; have HO310 := n0_; have HO318 := n1_; have BK312 := n2_; have HB := n3_; clear n0_ n1_ n2_ n3_; (try clear hb); (try clear hb2); (try clear hk); (try clear hi); (try clear ho0)) | ((with_reducible refine gate_dst (N := 5) rfl ?_); refine box_event ?hg (N := 5) ?hd (cs := #[.int .i64 0, .string (⟨#[]⟩ : ByteArray), .int .i64 0, .slice none 0 0]) (t := 24) ?hr ?_; (case hd => rfl); (case hg => rfl); (case hr => first | (go_simp; done) | (go_simp; rfl)); intro gb320 hg w27 hbox hb; have n0_ := Aside0.mk (Kd.R_below (rdA HO310.out) hb); have n1_ := Aside0.mk (Kd.R_below (rdA HO318.out) hb); have n2_ := Aside0.mk (blk_below (g := gb312) (o := .cells #[.int .i64 t305, .string t306, .int .i64 t307, .slice Ao25 t308.length co25] 31 (0, 0)) (rbA BK312.out) hb); have n3_ := Aside0.mk (below_step (hbA HB.out) hb); have n4_ := Aside0.mk (hbox); have n5_ := Aside0.mk ((by rw [hg]; exact (below_size (hbA HB.out)) : w.heap.size ≤ gb320)); have n6_ := Aside0.mk ((by rw [hg]; exact (below_size (hbA HB.out)) : w.heap.size ≤ gb320)); have n7_ := Aside0.mk ((by rw [hg]; exact Nat.ne_of_lt (blk_lt (g := gb312) (o := .cells #[.int .i64 t305, .string t306, .int .i64 t307, .slice Ao25 t308.length co25] 31 (0, 0)) (rbA BK312.out)) : gb312 ≠ gb320)); have n8_ := Aside0.mk ((by rw [hg]; exact Nat.ne_of_gt (blk_lt (g := gb312) (o := .cells #[.int .i64 t305, .string t306, .int .i64 t307, .slice Ao25 t308.length co25] 31 (0, 0)) (rbA BK312.out)) : gb320 ≠ gb312)); clear HO310; clear HO318; clear BK312; clear HB; have HO310 := n0_; have HO318 := n1_; have BK312 := n2_; have HB := n3_; have BK320 := n4_; have GW320 := n5_; have GE320 := n6_; have NB312_320 := n7_; have NB320_312 := n8_; clear n0_ n1_ n2_ n3_ n4_ n5_ n6_ n7_ n8_; clear hb hbox hg; have hnb28 := NB320_312.out; have hnc28 := NB312_320.out; obtain ⟨hcz29_0, hcz29_1, hcz29_2, hcz29_3, hfz29_0, hfz29_1, hfz29_2, hfz29_3⟩ := blkA4 BK320.out; obtain ⟨Ao30, co30, eo30⟩ := Kd.R_slice HO318.out; subst eo30))
 have n0_ : Aside0 (Kd.R k61 61 ((((w27.setCell ⟨gb320, 0, none⟩ (.int .i64 t313)).setCell ⟨gb320, 1, none⟩ (.string t314)).setCell ⟨gb320, 2, none⟩ (.int .i64 t315)).setCell ⟨gb320, 3, none⟩ (.slice Ao30 t316.length co30)) w.heap.size (fun _ => True) (.slice Ao25 t308.length co25) t308) := ⟨by (with_reducible repeat (first | apply Kd.R_alloc | apply Kd.R_drewN | apply Kd.R_drew)); exact Kd.R_mono (Kd.R_far (p := ⟨gb320, 3, none⟩) (Kd.R_far (p := ⟨gb320, 2, none⟩) (Kd.R_far (p := ⟨gb320, 1, none⟩) (Kd.R_far (p := ⟨gb320, 0, none⟩) (Kd.R_types HO310.out BK320.out (by decide)) (fun _ hk => hk.2) (.int .i64 t313)) (fun _ hk => hk.2) (.string t314)) (fun _ hk => hk.2) (.int .i64 t315)) (fun _ hk => hk.2) (.slice Ao30 t316.length co30)) (fun _ hk => trivial)⟩
 have n1_ : Aside0 (Kd.R k59 59 ((((w27.setCell ⟨gb320, 0, none⟩ (.int .i64 t313)).setCell ⟨gb320, 1, none⟩ (.string t314)).setCell ⟨gb320, 2, none⟩ (.int .i64 t315)).setCell ⟨gb320, 3, none⟩ (.slice Ao30 t316.length co30)) w.heap.size (fun _ => True) (.slice Ao30 t316.length co30) t316) := ⟨by (with_reducible repeat (first | apply Kd.R_alloc | apply Kd.R_drewN | apply Kd.R_drew)); exact Kd.R_mono (Kd.R_far (p := ⟨gb320, 3, none⟩) (Kd.R_far (p := ⟨gb320, 2, none⟩) (Kd.R_far (p := ⟨gb320, 1, none⟩) (Kd.R_far (p := ⟨gb320, 0, none⟩) (Kd.R_types HO318.out BK320.out (by decide)) (fun _ hk => hk.2) (.int .i64 t313)) (fun _ hk => hk.2) (.string t314)) (fun _ hk => hk.2) (.int .i64 t315)) (fun _ hk => hk.2) (.slice Ao30 t316.length co30)) (fun _ hk => trivial)⟩
 have n2_ : Aside0 (((((w27.setCell ⟨gb320, 0, none⟩ (.int .i64 t313)).setCell ⟨gb320, 1, none⟩ (.string t314)).setCell ⟨gb320, 2, none⟩ (.int .i64 t315)).setCell ⟨gb320, 3, none⟩ (.slice Ao30 t316.length co30)).heap[gb312]? = some (.cells #[.int .i64 t305, .string t306, .int .i64 t307, .slice Ao25 t308.length co25] 31 (0, 0))) := ⟨by (with_reducible repeat (first | refine blk_drewN ?_ _ | refine blk_drew ?_ | refine blk_alloc ?_ _)); refine blk_far ?_ NB312_320.out _; (with_reducible repeat (first | refine blk_drewN ?_ _ | refine blk_drew ?_ | refine blk_alloc ?_ _)); refine blk_far ?_ NB312_320.out _; (with_reducible repeat (first | refine blk_drewN ?_ _ | refine blk_drew ?_ | refine blk_alloc ?_ _)); refine blk_far ?_ NB312_320.out _; (with_reducible repeat (first | refine blk_drewN ?_ _ | refine blk_drew ?_ | refine blk_alloc ?_ _)); refine blk_far ?_ NB312_320.out _; (with_reducible repeat (first | refine blk_drewN ?_ _ | refine blk_drew ?_ | refine blk_alloc ?_ _)); exact BK312.out⟩
 have n3_ : Aside0 (((((w27.setCell ⟨gb320, 0, none⟩ (.int .i64 t313)).setCell ⟨gb320, 1, none⟩ (.string t314)).setCell ⟨gb320, 2, none⟩ (.int .i64 t315)).setCell ⟨gb320, 3, none⟩ (.slice Ao30 t316.length co30)).heap[gb320]? = some (.cells #[.int .i64 t313, .string t314, .int .i64 t315, .slice Ao30 t316.length co30] 24 (0, 0))) := ⟨by (with_reducible repeat (first | refine blk_drewN ?_ _ | refine blk_drew ?_ | refine blk_alloc ?_ _)); refine blk_put (cs := #[.int .i64 t313, .string t314, .int .i64 t315, .slice none 0 0]) ?_ 3 _ rfl; (with_reducible repeat (first | refine blk_drewN ?_ _ | refine blk_drew ?_ | refine blk_alloc ?_ _)); refine blk_put (cs := #[.int .i64 t313, .string t314, .int .i64 0, .slice none 0 0]) ?_ 2 _ rfl; (with_reducible repeat (first | refine blk_drewN ?_ _ | refine blk_drew ?_ | refine blk_alloc ?_ _)); refine blk_put (cs := #[.int .i64 t313, .string (⟨#[]⟩ : ByteArray), .int .i64 0, .slice none 0 0]) ?_ 1 _ rfl; (with_reducible repeat (first | refine blk_drewN ?_ _ | refine blk_drew ?_ | refine blk_alloc ?_ _)); refine blk_put (cs := #[.int .i64 0, .string (⟨#[]⟩ : ByteArray), .int .i64 0, .slice none 0 0]) ?_ 0 _ rfl; (with_reducible repeat (first | refine blk_drewN ?_ _ | refine blk_drew ?_ | refine blk_alloc ?_ _)); exact BK320.out⟩
 have n4_ : Aside0 (Below w.heap.size w ((((w27.setCell ⟨gb320, 0, none⟩ (.int .i64 t313)).setCell ⟨gb320, 1, none⟩ (.string t314)).setCell ⟨gb320, 2, none⟩ (.int .i64 t315)).setCell ⟨gb320, 3, none⟩ (.slice Ao30 t316.length co30))) := ⟨hbA HB.out⟩
 (try clear HO310)
 (try clear HO318)
 (try clear BK312)
 (try clear BK320)
 (try clear HB)
 generalize ((((w27.setCell ⟨gb320, 0, none⟩ (.int .i64 t313)).setCell ⟨gb320, 1, none⟩ (.string t314)).setCell ⟨gb320, 2, none⟩ (.int .i64 t315)).setCell ⟨gb320, 3, none⟩ (.slice Ao30 t316.length co30)) = w31 at n0_ n1_ n2_ n3_ n4_ ⊢
 have HO310 := n0_
 have HO318 := n1_
 have BK312 := n2_
 have BK320 := n3_
 have HB := n4_
 clear n0_ n1_ n2_ n3_ n4_
 replace HO310 := Aside0.mk (Kd.R_drew HO310.out)
 replace HO318 := Aside0.mk (Kd.R_drew HO318.out)
 replace BK312 := Aside0.mk (blk_drew BK312.out)
 replace BK320 := Aside0.mk (blk_drew BK320.out)
 replace HB := Aside0.mk (below_drew1 HB.out)
 refine start_ (n := 10) (S := fun w' => w'.cell? ⟨gb312, 0, none⟩ = some (.int .i64 t305) ∧ w'.cell? ⟨gb312, 1, none⟩ = some (.string t306) ∧ w'.cell? ⟨gb312, 2, none⟩ = some (.int .i64 t307) ∧ w'.cell? ⟨gb312, 3, none⟩ = some (.slice Ao25 t308.length co25) ∧ w'.cell? ⟨gb320, 0, none⟩ = some (.int .i64 t313) ∧ w'.cell? ⟨gb320, 1, none⟩ = some (.string t314) ∧ w'.cell? ⟨gb320, 2, none⟩ = some (.int .i64 t315) ∧ w'.cell? ⟨gb320, 3, none⟩ = some (.slice Ao30 t316.length co30)) (ds := []) #[false, false, false, false, false, false, false, false, false, false] (by kernel_rfl) rfl rfl ⟨(blk_cell BK312.out 0).trans rfl, (blk_cell BK312.out 1).trans rfl, (blk_cell BK312.out 2).trans rfl, (blk_cell BK312.out 3).trans rfl, (blk_cell BK320.out 0).trans rfl, (blk_cell BK320.out 1).trans rfl, (blk_cell BK320.out 2).trans rfl, (blk_cell BK320.out 3).trans rfl⟩ (fun hHeld => ?_); refine with_tabW tallboylaw27_MetaReads.tab5 tallboylaw27_MetaReads.bits5 (fun HT_ HW_ => ?_)
 generalize w31.drew = w32 at HO310 HO318 BK312 BK320 HB hHeld ⊢
 refine takeA_ (i := 0) (N := some 20) #[true, false, false, false, false, false, false, false, false, false] rfl rfl hHeld ?_ (hc := take_ofW HT_.out HW_.out (by kernel_rfl)) (hy := by rintro w' ⟨s0, s1, s2, s3, s4, s5, s6, s7⟩; go_simp; with_reducible rfl)
 refine takeA_ (i := 2) (N := some 22) #[true, false, true, false, false, false, false, false, false, false] rfl rfl hHeld ?_ (hc := take_ofW HT_.out HW_.out (by kernel_rfl)) (hy := by rintro w' ⟨s0, s1, s2, s3, s4, s5, s6, s7⟩; go_simp; with_reducible rfl)
 refine one_ (i := 1) (N := some 21) #[true, true, true, false, false, false, false, false, false, false] rfl rfl (one_of HT_.out (by kernel_rfl)) (by decide) (fun K hK => ?_)
 refine goes_ Tryz.func20 (by kernel_rfl) rfl #[.agg #[.int .i64 t305, .string t306, .int .i64 t307, .slice Ao25 t308.length co25]] (by rfl) rfl rfl argA ?_
 with_reducible refine (tallboylaw27_From.calls k t305 t306 t307 _ _ t308 t321 t322 t323 t324 _ ?side1 ?side2 A5.out).mono ?_
 (case side1 => repeat (first | exact (Kd.R_reads' HO310.out).2.2 | (with_reducible refine Kd.C_alloc ?_ _) | (with_reducible refine Kd.C_drewN ?_ _) | (with_reducible refine Kd.C_drew ?_)))
 (case side2 => exact (Kd.R_reads' HO310.out).2.1)
 rintro e w33 ⟨v325, rfl, ho0, hb⟩
 refine ⟨_, rfl, ?_⟩
 have n0_ := Aside0.mk (Kd.R_below (rdA HO310.out) hb)
 have n1_ := Aside0.mk (Kd.R_elder' (rdA HO318.out) (Kd.R_base ho0) hb)
 have n2_ := Aside0.mk (Kd.R_lower (Kd.R_new' ho0 (Kd.R_lt (rdA HO318.out))) (below_size (hbA HB.out)))
 have n3_ := Aside0.mk (blk_below (g := gb312) (o := .cells #[.int .i64 t305, .string t306, .int .i64 t307, .slice Ao25 t308.length co25] 31 (0, 0)) (rbA BK312.out) hb)
 have n4_ := Aside0.mk (blk_below (g := gb320) (o := .cells #[.int .i64 t313, .string t314, .int .i64 t315, .slice Ao30 t316.length co30] 24 (0, 0)) (rbA BK320.out) hb)
 have n5_ := Aside0.mk (below_step (hbA HB.out) hb)
 clear HO310
 clear HO318
 clear BK312
 clear BK320
 clear HB
 have HO310 := n0_
 have HO318 := n1_
 have HO326 := n2_
 have BK312 := n3_
 have BK320 := n4_
 have HB := n5_
 clear n0_ n1_ n2_ n3_ n4_ n5_
 (try clear hb)
 (try clear hb2)
 (try clear hk)
 (try clear hi)
 (try clear ho0)
 obtain ⟨Ao34, co34, eo34⟩ := Kd.R_slice HO326.out
 (first | subst eo34 | (injection eo34 with f1_ f2_ f3_; have f4_ := f1_.symm; have f5_ := f3_.symm; clear f1_ f2_ f3_; subst f4_; subst f5_))
 refine hK.out _ _ ⟨(blk_cell BK312.out 0).trans rfl, (blk_cell BK312.out 1).trans rfl, (blk_cell BK312.out 2).trans rfl, (blk_cell BK312.out 3).trans rfl, (blk_cell BK320.out 0).trans rfl, (blk_cell BK320.out 1).trans rfl, (blk_cell BK320.out 2).trans rfl, (blk_cell BK320.out 3).trans rfl⟩ (fun hHeld => ?_)
 clear hK K
 refine normA_ ?_
 refine one_ (i := 3) (N := some 23) #[true, true, true, true, false, false, false, false, false, false] rfl rfl (one_of HT_.out (by kernel_rfl)) (by decide) (fun K hK => ?_)
 refine goes_ Tryz.func19 (by kernel_rfl) rfl #[.agg #[.int .i64 t321, .string t322, .int .i64 t323, .slice Ao34 t324.length co34], .agg #[.int .i64 t313, .string t314, .int .i64 t315, .slice Ao30 t316.length co30]] (by rfl) rfl rfl argA ?_
 with_reducible refine (tallboyref27_Same.calls k t321 t322 t323 _ _ t324 t313 t314 t315 _ _ t316 false _ ?side1 ?side2 ?side3 ?side4 A6.out).mono ?_
 (case side1 => repeat (first | exact (Kd.R_reads' HO326.out).2.2 | (with_reducible refine Kd.C_alloc ?_ _) | (with_reducible refine Kd.C_drewN ?_ _) | (with_reducible refine Kd.C_drew ?_)))
 (case side2 => exact (Kd.R_reads' HO326.out).2.1)
 (case side3 => repeat (first | exact (Kd.R_reads' HO318.out).2.2 | (with_reducible refine Kd.C_alloc ?_ _) | (with_reducible refine Kd.C_drewN ?_ _) | (with_reducible refine Kd.C_drew ?_)))
 (case side4 => exact (Kd.R_reads' HO318.out).2.1)
 rintro e w35 ⟨rfl, hb⟩
 refine ⟨_, rfl, ?_⟩
 replace HO310 := Aside0.mk (Kd.R_below (rdA HO310.out) hb)
 replace HO318 := Aside0.mk (Kd.R_below (rdA HO318.out) hb)
 replace HO326 := Aside0.mk (Kd.R_below (rdA HO326.out) hb)
 replace BK312 := Aside0.mk (blk_below (g := gb312) (o := .cells #[.int .i64 t305, .string t306, .int .i64 t307, .slice Ao25 t308.length co25] 31 (0, 0)) (rbA BK312.out) hb)
 replace BK320 := Aside0.mk (blk_below (g := gb320) (o := .cells #[.int .i64 t313, .string t314, .int .i64 t315, .slice Ao30 t316.length co30] 24 (0, 0)) (rbA BK320.out) hb)
 replace HB := Aside0.mk (below_step (hbA HB.out) hb)
 (try clear hb)
 (try clear hb2)
 (try clear hk)
 (try clear hi)
 refine hK.out _ _ ⟨(blk_cell BK312.out 0).trans rfl, (blk_cell BK312.out 1).trans rfl, (blk_cell BK312.out 2).trans rfl, (blk_cell BK312.out 3).trans rfl, (blk_cell BK320.out 0).trans rfl, (blk_cell BK320.out 1).trans rfl, (blk_cell BK320.out 2).trans rfl, (blk_cell BK320.out 3).trans rfl⟩ (fun hHeld => ?_)
 clear hK K
 refine normA_ ?_
 refine pureA_ (i := 4) (N := some 24) #[true, true, true, true, true, false, false, false, false, false] rfl rfl ?_ (hc := any_of HT_.out (by kernel_rfl))
 refine pure_ (i := 5) (N := some 25) (v := undef) (a' := ?_) #[true, true, true, true, true, true, false, false, false, false] rfl rfl (any_of HT_.out (by kernel_rfl)) (fun _ _ _ h => h) (Or.inr ⟨by rfl, rfl⟩) ?_ ?_
 rotate_left
 · simp only [Act.put, List.setIfInBounds_toArray, List.set_cons_zero, List.set_cons_succ, i64_w, i32_w]
   rfl
 refine pure_ (i := 6) (N := some 26) (v := undef) (a' := ?_) #[true, true, true, true, true, true, true, false, false, false] rfl rfl (any_of HT_.out (by kernel_rfl)) (fun _ _ _ h => h) (Or.inr ⟨by rfl, rfl⟩) ?_ ?_
 rotate_left
 · simp only [Act.put, List.setIfInBounds_toArray, List.set_cons_zero, List.set_cons_succ, i64_w, i32_w]
   rfl
 refine pure_ (i := 7) (N := some 27) (v := undef) (a' := ?_) #[true, true, true, true, true, true, true, true, false, false] rfl rfl (any_of HT_.out (by kernel_rfl)) (fun _ _ _ h => h) (Or.inr ⟨by rfl, rfl⟩) ?_ ?_
 rotate_left
 · simp only [Act.put, List.setIfInBounds_toArray, List.set_cons_zero, List.set_cons_succ, i64_w, i32_w]
   rfl
 refine pureA_ (i := 8) (N := some 28) #[true, true, true, true, true, true, true, true, true, false] rfl rfl ?_ (hc := any_of HT_.out (by kernel_rfl))
 refine pureA_ (i := 9) (N := some 2) #[true, true, true, true, true, true, true, true, true, true] rfl rfl ?_ (hc := any_of HT_.out (by kernel_rfl))
 refine done_ (done_of HT_.out (by kernel_rfl)) ?_
 try go_wp2
 go_ret
 exact ⟨reA, hbA HB.out⟩

end
end Go.Proofs.YtfboejlemnfndaaGreatDoor.XMr
end
section
namespace Go.Proofs.YtfboejlemnfndaaGreatDoor.XMr
open Go.RowKit Go.Proofs.YtfboejlemnfndaaGreatDoorW.PrintWords Go.Proofs.YtfboejlemnfndaaGreatDoorW.PrintLast Go.Proofs.YtfboejlemnfndaaGreatDoorW.PrintMore
attribute [local go_sem] extract_sub max2_int min2_int max_two min_two max_three min_three max_four min_four   -- for this text's walks alone
set_option linter.unusedVariables false
set_option linter.unusedSimpArgs false

noncomputable section
end
end Go.Proofs.YtfboejlemnfndaaGreatDoor.XMr
end
section
namespace Go.Proofs.YtfboejlemnfndaaGreatDoor.XMr
open Go.RowKit Go.Proofs.YtfboejlemnfndaaGreatDoorW.PrintWords Go.Proofs.YtfboejlemnfndaaGreatDoorW.PrintLast Go.Proofs.YtfboejlemnfndaaGreatDoorW.PrintMore
set_option linter.unusedVariables false
set_option linter.unusedSimpArgs false

theorem wrap_at (i : Nat) (h : i < 4611686018427387904) : wrap64 ((i : Int) + 1) = ((i + 1 : Nat) : Int) := by unfold wrap64; omega
theorem key_l0 (s : ByteArray) (hs : s.size ≤ 1000) : ∀ (n k i : Nat), n + i = s.size → n < k → ∃ b, fnv_Key.l0 k s (s.size : Int) (i : Int) = some b
  | n, 0, i, _, h => absurd h (by omega)
  | 0, k + 1, i, h, _ => ⟨true, by simp only [fnv_Key.l0]; rw [if_neg (by omega)]⟩
  | n + 1, k + 1, i, h, hk => by
    obtain ⟨b, hb⟩ := key_l0 s hs n k (i + 1) (by omega) (by omega)
    simp only [fnv_Key.l0]
    rw [if_pos (by omega), if_pos (by omega), if_pos (by omega), wrap_at i (by omega), hb]
    split
    · exact ⟨_, rfl⟩
    · split
      · exact ⟨_, rfl⟩
      · exact ⟨_, rfl⟩
theorem key_tot (s : ByteArray) (hs : s.size ≤ 1000) (k : Nat) (hk : 1010 ≤ k) : ∃ b, fnv_Key.f k s = some b := by
  obtain ⟨k, rfl⟩ : ∃ j, k = j + 1 := ⟨k - 1, by omega⟩
  have h0 : ∀ x, ∃ b, fnv_Key.j0 (k + 1) s x = some b := by
    intro x
    cases x
    · obtain ⟨b, hb⟩ := key_l0 s hs s.size k 0 (by omega) (by omega)
      exact ⟨b, by simp only [fnv_Key.j0, Bool.false_eq_true, if_false]; exact hb⟩
    · exact ⟨false, by simp only [fnv_Key.j0, if_true]⟩
  unfold fnv_Key.f
  split
  · exact h0 _
  · exact h0 _
theorem sort_tot (x : Int) (k : Nat) (hk : 10 ≤ k) : ∃ t, meta_sortOf.f k x = some t := by
  obtain ⟨k, rfl⟩ : ∃ j, k = j + 2 := ⟨k - 2, by omega⟩
  have h1 : ∀ y, ∃ t, meta_sortOf.j1 (k + 1) x y = some t := by
    intro y
    simp only [meta_sortOf.j1]
    repeat' split
    all_goals exact ⟨_, rfl⟩
  have h0 : ∀ y, ∃ t, meta_sortOf.j0 (k + 2) x y = some t := by
    intro y
    simp only [meta_sortOf.j0]
    repeat' split
    all_goals first | exact h1 _ | exact ⟨_, rfl⟩
  unfold meta_sortOf.f
  repeat' split
  all_goals exact h0 _
theorem parse_tot (s : ByteArray) (hs : s.size ≤ 1000) : digits_Parse.f s = some (digits_Parse.val s.data.toList) := by
  unfold digits_Parse.f
  rw [if_pos (by omega)]
theorem cut_tot (s : ByteArray) (hs : s.size ≤ 1000) : ∃ r b, strings_CutPrefix.f s ⟨#[45]⟩ = some (r, b) ∧ r.size ≤ 1000 := by
  have hp : ∃ b, stringslite_HasPrefix.f s ⟨#[45]⟩ = some b ∧ (b = true → 1 ≤ s.size) := by
    unfold stringslite_HasPrefix.f
    rw [show ((⟨#[45]⟩ : ByteArray).size : Int) = 1 from rfl]
    split
    · rw [if_pos (by omega)]
      exact ⟨_, rfl, fun _ => by omega⟩
    · exact ⟨_, rfl, fun h => absurd h (by decide)⟩
  obtain ⟨b, hb, h1⟩ := hp
  unfold strings_CutPrefix.f stringslite_CutPrefix.f
  rw [hb]
  simp only [Option.bind_some]
  cases b
  · exact ⟨s, false, rfl, hs⟩
  · have := h1 rfl
    rw [if_pos rfl, if_pos (by decide), if_pos (by rw [show ((⟨#[45]⟩ : ByteArray).size : Int) = 1 from rfl]; omega)]
    refine ⟨_, _, rfl, ?_⟩
    show (s.extract _ _).size ≤ 1000
    rw [ByteArray.size_extract]
    omega
theorem signed_tot (s : ByteArray) (hs : s.size ≤ 1000) (k : Nat) (hk : 10 ≤ k) : ∃ a b, digits_Signed.f k s = some (a, b) := by
  obtain ⟨k, rfl⟩ : ∃ j, k = j + 1 := ⟨k - 1, by omega⟩
  obtain ⟨r, b, hb, hr⟩ := cut_tot s hs
  unfold digits_Signed.f
  rw [hb]
  simp only [Option.bind_some, parse_tot r hr]
  repeat' split
  all_goals first
    | exact ⟨_, _, rfl⟩
    | (simp only [digits_Signed.j0]
       repeat' split
       all_goals exact ⟨_, _, rfl⟩)
theorem right_tot (op x : Int) (s : ByteArray) (hs : s.size ≤ 1000) (k : Nat) (hk : 1010 ≤ k) : ∃ b, meta_right.f k op x s = some b := by
  obtain ⟨t, ht⟩ := sort_tot x k (by omega)
  obtain ⟨a, b, hab⟩ := signed_tot s hs k (by omega)
  obtain ⟨y, hy⟩ := key_tot s hs k hk
  have hm : ∃ m, meta_modes.f op = some m ∧ m.size ≤ 5 := by
    unfold meta_modes.f
    split
    · exact ⟨_, rfl, by decide⟩
    · exact ⟨_, rfl, by decide⟩
  obtain ⟨m, hm, hm5⟩ := hm
  have hc : strings_Contains.f m s = some (Lib.contains m.data.toList s.data.toList) := by
    unfold strings_Contains.f
    rw [if_pos (by omega)]
  unfold meta_right.f
  rw [ht]
  simp only [Option.bind_some, parse_tot s hs, hab, hy, hm, hc]
  repeat' split
  all_goals exact ⟨_, rfl⟩
theorem owns_tot (op x : Int) (h : 1 ≤ op ∧ op ≤ 6) : ∃ b, meta_owns.f op x = some b := by
  unfold meta_owns.f
  rw [if_pos h]
  exact ⟨_, rfl⟩
theorem go_tot (op : Int) (h : 1 ≤ op ∧ op ≤ 6) (k : Nat) (hk : 1010 ≤ k) : ∀ (l : List S61) (seen : List Int), (∀ x ∈ l, x.f1.size ≤ 1000) → ∃ e, meta_shape.go k op l seen = some e
  | [], _, _ => ⟨0, rfl⟩
  | x :: l, seen, hs => by
    obtain ⟨b, hb⟩ := owns_tot op x.f0 h
    obtain ⟨q, hq⟩ := right_tot op x.f0 x.f1 (hs x List.mem_cons_self) k hk
    obtain ⟨e, he⟩ := go_tot op h k hk l (x.f0 :: seen) (fun y hy => hs y (List.mem_cons_of_mem _ hy))
    unfold meta_shape.go
    rw [hb, hq]
    simp only [Option.bind_some, he]
    repeat' split
    all_goals exact ⟨_, rfl⟩
def has (l : List S61) (c : Int) : Bool := l.any fun x => x.f0 == c
theorem find_eq (o : Int) (key : ByteArray) (sz : Int) (l : List S61) (c : Int) : ∃ t, meta_Find.f o key sz l c = some (t, has l c) := by
  unfold meta_Find.f
  cases h : l.find? (fun x => x.f0 == c) with
  | some x =>
    refine ⟨x.f1, ?_⟩
    have : has l c = true := List.any_eq_true.2 ⟨x, List.mem_of_find?_eq_some h, List.find?_some (p := fun x : S61 => x.f0 == c) h⟩
    rw [this]
  | none =>
    refine ⟨⟨#[]⟩, ?_⟩
    have : has l c = false := by
      unfold has
      rw [List.any_eq_false]
      intro x hx
      exact List.find?_eq_none.1 h x hx
    rw [this]
def keyB (k : Nat) (o : Int) (key : ByteArray) (b : Bool) : Option Bool :=
  if o = 5 then some (key.toList == ([] : List UInt8)) else if b = true then (if (key.size : Int) ≥ 1 then some (decide ((key.size : Int) ≤ 32)) else some false) else fnv_Key.f k key
theorem key_eq (k : Nat) (o : Int) (key : ByteArray) (sz : Int) (l : List S61) : meta_key.f k o key sz l = keyB k o key (has l 98) := by
  obtain ⟨t, ht⟩ := find_eq o key sz l 98
  unfold meta_key.f keyB
  rw [ht]
  simp only [Option.bind_some]
  split
  · rfl
  · split
    · rfl
    · cases fnv_Key.f k key <;> rfl
theorem keyB_tot (k : Nat) (o : Int) (key : ByteArray) (b : Bool) (hs : key.size ≤ 1000) (hk : 1010 ≤ k) : ∃ y, keyB k o key b = some y := by
  obtain ⟨y, hy⟩ := key_tot key hs k hk
  unfold keyB
  rw [hy]
  repeat' split
  all_goals exact ⟨_, rfl⟩
theorem there_eq (o : Int) : meta_there.f o = some (decide (1 ≤ o ∧ o ≤ 6)) := by
  unfold meta_there.f
  split
  · congr 1
    rw [decide_eq_decide]
    omega
  · congr 1
    rw [eq_comm, decide_eq_false_iff_not]
    omega
theorem shape_tot (k : Nat) (o : Int) (key : ByteArray) (sz : Int) (l : List S61) (hs : key.size ≤ 1000) (hl : ∀ x ∈ l, x.f1.size ≤ 1000) (hk : 1010 ≤ k) : ∃ e, meta_shape.f k o key sz l = some e := by
  obtain ⟨y, hy⟩ := keyB_tot k o key (has l 98) hs hk
  unfold meta_shape.f
  rw [there_eq, key_eq, hy]
  simp only [Option.bind_some, decide_eq_true_eq]
  split
  · obtain ⟨e, he⟩ := go_tot o (by assumption) k hk l [] hl
    rw [he]
    repeat' split
    all_goals exact ⟨_, rfl⟩
  · exact ⟨_, rfl⟩
theorem shape_zero {k : Nat} {o : Int} {key : ByteArray} {sz : Int} {l : List S61} (h : meta_shape.f k o key sz l = some 0) :
    (1 ≤ o ∧ o ≤ 6) ∧ keyB k o key (has l 98) = some true ∧ ¬ (sz < 0 ∨ sz > 2147483647 ∨ (o ≠ 2 ∧ sz ≠ 0)) ∧ meta_shape.go k o l [] = some 0 := by
  unfold meta_shape.f at h
  rw [there_eq, key_eq] at h
  simp only [Option.bind_some, decide_eq_true_eq] at h
  split at h
  · rename_i ho
    cases hy : keyB k o key (has l 98) with
    | none => rw [hy] at h; cases h
    | some y =>
      rw [hy] at h
      simp only [Option.bind_some] at h
      cases y with
      | false => simp at h
      | true =>
        simp only [if_true] at h
        split at h
        · simp at h
        · exact ⟨ho, rfl, by assumption, h⟩
  · simp at h
theorem shape_is {k : Nat} {o : Int} {key : ByteArray} {sz : Int} {l : List S61} (ho : 1 ≤ o ∧ o ≤ 6) {y : Bool} (hy : keyB k o key (has l 98) = some y) (hz : ¬ (sz < 0 ∨ sz > 2147483647 ∨ (o ≠ 2 ∧ sz ≠ 0))) :
    meta_shape.f k o key sz l = if y = true then meta_shape.go k o l [] else some 6 := by
  unfold meta_shape.f
  rw [there_eq, key_eq, hy]
  simp only [Option.bind_some, decide_eq_true_eq]
  rw [if_pos ho]
  cases y
  · rfl
  · simp only [if_true]
    rw [if_neg hz]
theorem go_cons {k : Nat} {op : Int} {x : S61} {l : List S61} {seen : List Int} (h : meta_shape.go k op (x :: l) seen = some 0) :
    meta_owns.f op x.f0 = some true ∧ seen.contains x.f0 = false ∧ meta_right.f k op x.f0 x.f1 = some true ∧ meta_shape.go k op l (x.f0 :: seen) = some 0 := by
  unfold meta_shape.go at h
  cases hb : meta_owns.f op x.f0 with
  | none => rw [hb] at h; cases h
  | some b =>
    rw [hb] at h
    simp only [Option.bind_some] at h
    cases b with
    | false => simp at h
    | true =>
      simp only [if_true] at h
      cases hc : seen.contains x.f0 with
      | true => rw [hc] at h; simp at h
      | false =>
        rw [hc] at h
        simp only [Bool.false_eq_true, if_false] at h
        cases hq : meta_right.f k op x.f0 x.f1 with
        | none => rw [hq] at h; cases h
        | some q =>
          rw [hq] at h
          simp only [Option.bind_some] at h
          cases q with
          | false => simp at h
          | true => simp only [if_true] at h; exact ⟨rfl, rfl, rfl, h⟩
theorem go_mk {k : Nat} {op : Int} {x : S61} {l : List S61} {seen : List Int} (h1 : meta_owns.f op x.f0 = some true) (h2 : seen.contains x.f0 = false) (h3 : meta_right.f k op x.f0 x.f1 = some true) :
    meta_shape.go k op (x :: l) seen = meta_shape.go k op l (x.f0 :: seen) := by
  rw [meta_shape.go, h1]
  simp only [Option.bind_some, if_true]
  rw [h2, h3]
  simp only [Bool.false_eq_true, if_false, Option.bind_some, if_true]
theorem go_fewer {k : Nat} {op : Int} : ∀ {l : List S61} {seen seen' : List Int}, (∀ y, seen'.contains y = true → seen.contains y = true) → meta_shape.go k op l seen = some 0 → meta_shape.go k op l seen' = some 0
  | [], _, _, _, _ => rfl
  | x :: l, seen, seen', hs, h => by
    obtain ⟨h1, h2, h3, h4⟩ := go_cons h
    rw [go_mk h1 (by cases hc : seen'.contains x.f0 with | false => rfl | true => rw [hs _ hc] at h2; cases h2) h3]
    refine go_fewer (fun y hy => ?_) h4
    rw [List.contains_cons, Bool.or_eq_true] at hy ⊢
    rcases hy with hy | hy
    · exact .inl hy
    · exact .inr (hs y hy)
theorem go_less {k : Nat} {op : Int} {f : S61} {b : List S61} : ∀ {a : List S61} {seen : List Int}, meta_shape.go k op (a ++ f :: b) seen = some 0 → meta_shape.go k op (a ++ b) seen = some 0
  | [], seen, h => by
    obtain ⟨_, _, _, h4⟩ := go_cons h
    exact go_fewer (fun y hy => by rw [List.contains_cons, hy, Bool.or_true]) h4
  | x :: a, seen, h => by
    obtain ⟨h1, h2, h3, h4⟩ := go_cons h
    show meta_shape.go k op (x :: (a ++ b)) seen = some 0
    rw [go_mk h1 h2 h3]
    exact go_less h4
theorem go_twice {k : Nat} {op : Int} {f : S61} (hf : meta_owns.f op f.f0 = some true) : ∀ {l : List S61} {seen : List Int}, (seen.contains f.f0 = true ∨ ∃ x ∈ l, x.f0 = f.f0) → meta_shape.go k op l seen = some 0 → meta_shape.go k op (l ++ [f]) seen = some 4
  | [], seen, hs, _ => by
    rcases hs with hs | ⟨x, hx, _⟩
    · show meta_shape.go k op [f] seen = some 4
      rw [meta_shape.go, hf]
      simp only [Option.bind_some, if_true]
      rw [if_pos hs]
    · cases hx
  | x :: l, seen, hs, h => by
    obtain ⟨h1, h2, h3, h4⟩ := go_cons h
    show meta_shape.go k op (x :: (l ++ [f])) seen = some 4
    rw [go_mk h1 h2 h3]
    refine go_twice hf ?_ h4
    rcases hs with hs | ⟨y, hy, e⟩
    · exact .inl (by rw [List.contains_cons, hs, Bool.or_true])
    · rcases List.mem_cons.1 hy with rfl | hy
      · exact .inl (by rw [List.contains_cons, e]; simp)
      · exact .inr ⟨y, hy, e⟩
theorem go_owned {k : Nat} {op : Int} : ∀ {l : List S61} {seen : List Int}, meta_shape.go k op l seen = some 0 → ∀ x ∈ l, meta_owns.f op x.f0 = some true
  | [], _, _, x, hx => by cases hx
  | y :: l, seen, h, x, hx => by
    obtain ⟨h1, _, _, h4⟩ := go_cons h
    rcases List.mem_cons.1 hx with rfl | hx
    · exact h1
    · exact go_owned h4 x hx
end Go.Proofs.YtfboejlemnfndaaGreatDoor.XMr
end
section
namespace Go.Proofs.YtfboejlemnfndaaGreatDoor.Text
open Go

theorem ib_hit (c : UInt8) (r : List UInt8) : ∀ x : List UInt8, c ∉ x → Lib.indexByte (x ++ c :: r) c = (x.length : Int)
  | [], _ => by simp [Lib.indexByte]
  | b :: x, h => by
    have h1 : b ≠ c := fun e => h (by rw [e]; exact List.mem_cons_self)
    have h2 := ib_hit c r x (fun hm => h (List.mem_cons_of_mem _ hm))
    show Lib.indexByte (b :: (x ++ c :: r)) c = _
    unfold Lib.indexByte
    rw [if_neg (by simpa using h1), h2, if_neg (by simp)]
    simp
theorem ib_miss (c : UInt8) : ∀ x : List UInt8, c ∉ x → Lib.indexByte x c = -1
  | [], _ => rfl
  | b :: x, h => by
    have h1 : b ≠ c := fun e => h (by rw [e]; exact List.mem_cons_self)
    have h2 := ib_miss c x (fun hm => h (List.mem_cons_of_mem _ hm))
    unfold Lib.indexByte
    rw [if_neg (by simpa using h1), h2]
    rfl
theorem split_join (c : UInt8) : ∀ (r : List (List UInt8)) (x : List UInt8), (∀ y ∈ x :: r, c ∉ y) → Lib.splitK [c] 0 (Lib.count (Lib.join (x :: r) [c]) [c]) (Lib.join (x :: r) [c]) = x :: r
  | [], x, h => by
    have hi : Lib.index x [c] = -1 := by rw [Lib.index_one]; exact ib_miss c x (h x List.mem_cons_self)
    rw [Lib.join_one, Lib.count_miss hi]
    rfl
  | y :: r, x, h => by
    have ih := split_join c r y (fun z hz => h z (List.mem_cons_of_mem _ hz))
    have hj : Lib.join (x :: y :: r) [c] = x ++ c :: Lib.join (y :: r) [c] := by
      rw [Lib.join_cons, Lib.join_cons]
      simp [Lib.joinTail]
    have hi : Lib.index (x ++ c :: Lib.join (y :: r) [c]) [c] = (x.length : Int) := by rw [Lib.index_one]; exact ib_hit c _ x (h x List.mem_cons_self)
    have hd : (x ++ c :: Lib.join (y :: r) [c]).drop (x.length + [c].length) = Lib.join (y :: r) [c] := by
      rw [List.length_singleton, List.drop_append, List.drop_of_length_le (by omega)]
      simp
    rw [hj, Lib.count_hit (by simp) hi, hd, Nat.add_comm]
    have hm : ¬ (Lib.index (x ++ c :: Lib.join (y :: r) [c]) [c] == -1) = true := by rw [hi]; simp
    rw [Lib.splitK, if_neg hm, hi]
    rw [show ((x.length : Int)).toNat = x.length from Int.toNat_natCast _, hd, ih]
    simp
theorem map_data_inj : ∀ (a b : List ByteArray), a.map (·.data.toList) = b.map (·.data.toList) → a = b
  | [], [], _ => rfl
  | [], _ :: _, h => by cases h
  | _ :: _, [], h => by cases h
  | x :: a, y :: b, h => by
    simp only [List.map_cons, List.cons.injEq] at h
    have e : x = y := by
      obtain ⟨x⟩ := x
      obtain ⟨y⟩ := y
      congr 1
      exact Array.toList_inj.1 h.1
    rw [e, map_data_inj a b h.2]
theorem splitB_join (x : ByteArray) (r : List ByteArray) (h : ∀ y ∈ x :: r, (32 : UInt8) ∉ y.data.toList) :
    Lib.splitB ⟨#[32]⟩ 0 (Lib.countB ⟨(Lib.join ((x :: r).map (·.data.toList)) [32]).toArray⟩ ⟨#[32]⟩) ⟨(Lib.join ((x :: r).map (·.data.toList)) [32]).toArray⟩ = x :: r := by
  apply map_data_inj
  rw [Lib.splitB_data]
  show Lib.splitK [32] 0 (Lib.count (Lib.join ((x :: r).map (·.data.toList)) [32]).toArray.toList [32]) (Lib.join ((x :: r).map (·.data.toList)) [32]).toArray.toList = _
  rw [List.toList_toArray, List.map_cons]
  refine split_join 32 _ _ (fun y hy => ?_)
  have hy' : y ∈ (x :: r).map (fun z : ByteArray => z.data.toList) := hy
  obtain ⟨z, hz, rfl⟩ := List.mem_map.1 hy'
  exact h z hz
theorem parse_snoc (M : Nat) (c : UInt8) (hc : 48 ≤ c.toNat ∧ c.toNat ≤ 57) : ∀ (l : List UInt8) (acc u : Nat), Lib.parseUintM M acc l = .ok u → u < 1844674407370955162 → u * 10 + (c.toNat - 48) ≤ M → Lib.parseUintM M acc (l ++ [c]) = .ok (u * 10 + (c.toNat - 48))
  | [], acc, u, h, h1, h2 => by
    obtain rfl : acc = u := by simpa [Lib.parseUintM] using h
    show Lib.parseUintM M acc [c] = _
    unfold Lib.parseUintM
    rw [if_pos hc, if_neg (by omega), if_neg (by omega)]
    rfl
  | b :: l, acc, u, h, h1, h2 => by
    show Lib.parseUintM M acc (b :: (l ++ [c])) = _
    unfold Lib.parseUintM at h ⊢
    split at h
    · rename_i hb
      rw [if_pos hb]
      split at h
      · cases h
      · rename_i ha
        rw [if_neg ha]
        split at h
        · cases h
        · rename_i hm
          rw [if_neg hm]
          exact parse_snoc M c hc l _ u h h1 h2
    · cases h
theorem dec_small (u : Nat) (h : u < 10) : Lib.decDigits u = [UInt8.ofNat (48 + u)] := by rw [Lib.decDigits, dif_pos h]
theorem dec_big (u : Nat) (h : ¬ u < 10) : Lib.decDigits u = Lib.decDigits (u / 10) ++ [UInt8.ofNat (48 + u % 10)] := by rw [Lib.decDigits, dif_neg h]
theorem dig_toNat (d : Nat) (h : d < 10) : (UInt8.ofNat (48 + d)).toNat = 48 + d := by
  show (48 + d) % 256 = 48 + d
  omega
theorem dec_parse : ∀ (n u : Nat), u < n → u < 18446744073709551616 → Lib.parseUintM 18446744073709551615 0 (Lib.decDigits u) = .ok u
  | 0, u, h, _ => absurd h (by omega)
  | n + 1, u, h, hu => by
    by_cases h10 : u < 10
    · rw [dec_small u h10]
      unfold Lib.parseUintM
      rw [dig_toNat u h10, if_pos (by omega), if_neg (by omega), if_neg (by omega)]
      show Lib.NumEnd.ok _ = Lib.NumEnd.ok _
      congr 1
      omega
    · rw [dec_big u h10]
      have ih := dec_parse n (u / 10) (by omega) (by omega)
      have hd := dig_toNat (u % 10) (by omega)
      rw [parse_snoc _ (UInt8.ofNat (48 + u % 10)) (by rw [hd]; omega) _ _ _ ih (by omega) (by rw [hd]; omega), hd]
      congr 1
      omega
theorem dec_dig : ∀ (n u : Nat), u < n → ∀ c ∈ Lib.decDigits u, 48 ≤ c.toNat ∧ c.toNat ≤ 57
  | 0, u, h => absurd h (by omega)
  | n + 1, u, h => by
    intro c hc
    by_cases h10 : u < 10
    · rw [dec_small u h10] at hc
      obtain rfl := List.mem_singleton.1 hc
      rw [dig_toNat u h10]
      omega
    · rw [dec_big u h10] at hc
      rcases List.mem_append.1 hc with hc | hc
      · exact dec_dig n (u / 10) (by omega) c hc
      · obtain rfl := List.mem_singleton.1 hc
        rw [dig_toNat _ (by omega)]
        omega
theorem dec_ne (u : Nat) : Lib.decDigits u ≠ [] := by
  by_cases h10 : u < 10
  · rw [dec_small u h10]; simp
  · rw [dec_big u h10]; simp
theorem dec_len : ∀ (k u : Nat), u < 10 ^ (k + 1) → (Lib.decDigits u).length ≤ k + 1
  | 0, u, h => by rw [dec_small u (by simpa using h)]; simp
  | k + 1, u, h => by
    by_cases h10 : u < 10
    · rw [dec_small u h10]; simp
    · rw [dec_big u h10, List.length_append, List.length_singleton]
      have := dec_len k (u / 10) (by rw [Nat.pow_succ] at h; omega)
      omega
end Go.Proofs.YtfboejlemnfndaaGreatDoor.Text
end
section
namespace Go.Proofs.YtfboejlemnfndaaGreatDoor.XMr
open Go.RowKit Go.Proofs.YtfboejlemnfndaaGreatDoorW.PrintWords Go.Proofs.YtfboejlemnfndaaGreatDoorW.PrintLast Go.Proofs.YtfboejlemnfndaaGreatDoorW.PrintMore
set_option linter.unusedVariables false
set_option linter.unusedSimpArgs false

theorem ba_ext (a b : ByteArray) (h : a.data.toList = b.data.toList) : a = b := by
  obtain ⟨a⟩ := a
  obtain ⟨b⟩ := b
  congr 1
  exact Array.toList_inj.1 h
theorem bt_list (s : ByteArray) (i : Nat) (h : i < s.data.toList.length) : bt s (i : Int) = ((s.data.toList[i]'h).toNat : Int) := by
  have hs : i < s.size := by rw [Lib.size_eq]; exact h
  unfold bt
  rw [dif_pos (by rw [Int.toNat_natCast]; exact hs)]
  simp only [Int.toNat_natCast]
  rfl
def NoSp (s : ByteArray) : Prop := (32 : UInt8) ∉ s.data.toList
theorem nosp_of {s : ByteArray} (h : ∀ c ∈ s.data.toList, c.toNat ≠ 32) : NoSp s := fun hm => h 32 hm rfl
theorem key_l0_true (s : ByteArray) (hs : s.size ≤ 1000) : ∀ (n k i : Nat), n + i = s.size → fnv_Key.l0 k s (s.size : Int) (i : Int) = some true → ∀ c ∈ s.data.toList.drop i, c.toNat ≠ 32
  | n, 0, i, _, h => by simp [fnv_Key.l0] at h
  | 0, k + 1, i, hn, _ => fun c hc => by rw [List.drop_of_length_le (by rw [← Lib.size_eq]; omega)] at hc; cases hc
  | n + 1, k + 1, i, hn, h => by
    have hi : i < s.data.toList.length := by rw [← Lib.size_eq]; omega
    simp only [fnv_Key.l0] at h
    rw [if_pos (by omega), if_pos (by omega), if_pos (by omega), wrap_at i (by omega), bt_list s i hi] at h
    split at h
    · simp at h
    · split at h
      · simp at h
      · intro c hc
        rw [List.drop_eq_getElem_cons hi] at hc
        rcases List.mem_cons.1 hc with rfl | hc
        · omega
        · exact key_l0_true s hs n k (i + 1) (by omega) h c hc
theorem key_nosp (s : ByteArray) (hs : s.size ≤ 1000) (k : Nat) (h : fnv_Key.f k s = some true) : NoSp s := by
  have h0 : ∀ x, fnv_Key.j0 k s x = some true → NoSp s := by
    intro x hx
    cases k with
    | zero => simp [fnv_Key.j0] at hx
    | succ k =>
      cases x with
      | true => simp [fnv_Key.j0] at hx
      | false =>
        simp only [fnv_Key.j0, Bool.false_eq_true, if_false] at hx
        exact nosp_of (by simpa using key_l0_true s hs s.size k 0 (by omega) hx)
  unfold fnv_Key.f at h
  split at h
  · exact h0 _ h
  · exact h0 _ h
theorem dig_nosp (s : ByteArray) (h : (digits_Parse.val s.data.toList).2 = 0) : NoSp s := by
  have hd : digits_Parse.dig s.data.toList = true := by
    cases hd : digits_Parse.dig s.data.toList with
    | true => rfl
    | false =>
      unfold digits_Parse.val at h
      rw [hd] at h
      simp at h
  refine nosp_of (fun c hc => ?_)
  have := List.all_eq_true.1 hd c hc
  have := of_decide_eq_true this
  omega
theorem cut_parts (s r : ByteArray) (b : Bool) (h : strings_CutPrefix.f s ⟨#[45]⟩ = some (r, b)) (hr : NoSp r) : NoSp s := by
  unfold strings_CutPrefix.f stringslite_CutPrefix.f stringslite_HasPrefix.f at h
  rw [show ((⟨#[45]⟩ : ByteArray).size : Int) = 1 from rfl] at h
  by_cases h1 : (s.size : Int) ≥ 1
  · rw [if_pos h1, if_pos (by decide), if_pos (by omega)] at h
    simp only [Option.bind_some] at h
    split at h
    · rename_i hp
      rw [if_pos (by decide)] at h
      simp only [Option.bind_some, Option.some.injEq, Prod.mk.injEq] at h
      have hp' : (sub s 0 ((1 : Int)).toNat).toList = [45] := by simpa using hp
      rw [ByteArray.toList_eq] at hp'
      have e1 : s.data.toList.take 1 = [45] := by
        have : (sub s 0 1).data.toList = [45] := hp'
        rw [show sub s 0 1 = s.extract 0 1 from rfl, Lib.extract_data] at this
        simpa using this
      have e2 : s.data.toList.drop 1 = r.data.toList := by
        rw [← h.1]
        show _ = (s.extract 1 s.size).data.toList
        rw [Lib.extract_to_end]
      intro hm
      rw [← List.take_append_drop 1 s.data.toList, e1, e2] at hm
      rcases List.mem_append.1 hm with hm | hm
      · exact absurd hm (by decide)
      · exact hr hm
    · simp only [Option.bind_some, Option.some.injEq, Prod.mk.injEq] at h
      rw [h.1]
      exact hr
  · rw [if_neg h1] at h
    simp only [Option.bind_some, Bool.false_eq_true, if_false, Option.some.injEq, Prod.mk.injEq] at h
    rw [h.1]
    exact hr
theorem right_nosp (op x : Int) (s : ByteArray) (hs : s.size ≤ 1000) (k : Nat) (hk : 1010 ≤ k) (h : meta_right.f k op x s = some true) : NoSp s := by
  obtain ⟨t, ht⟩ := sort_tot x k (by omega)
  unfold meta_right.f at h
  rw [ht] at h
  simp only [Option.bind_some, parse_tot s hs] at h
  split at h
  · exact dig_nosp s (by simpa using h)
  · split at h
    · split at h
      · exact dig_nosp s (by assumption)
      · simp at h
    · split at h
      · obtain ⟨r, b, hb, hr⟩ := cut_tot s hs
        refine cut_parts s r b hb (dig_nosp r ?_)
        unfold digits_Signed.f at h
        rw [hb] at h
        simp only [Option.bind_some, parse_tot r hr] at h
        split at h
        · assumption
        · simpa using h
      · split at h
        · refine key_nosp s hs k ?_
          cases hf : fnv_Key.f k s with
          | none => rw [hf] at h; cases h
          | some b => rw [hf] at h; simpa using h
        · split at h
          · split at h
            · rename_i h1
              intro hm
              have hl : s.data.toList.length = 1 := by rw [← Lib.size_eq]; omega
              obtain ⟨c, hc⟩ := List.length_eq_one_iff.1 hl
              rw [hc] at hm
              have e : (32 : UInt8) = c := by simpa using hm
              subst e
              have hm2 : ∃ m, meta_modes.f op = some m ∧ m.size < 4294967281 ∧ Lib.contains m.data.toList [32] = false := by
                unfold meta_modes.f
                split
                · exact ⟨_, rfl, by decide, by kernel_rfl⟩
                · exact ⟨_, rfl, by decide, by kernel_rfl⟩
              obtain ⟨m, hm1, hm3, hm4⟩ := hm2
              rw [hm1] at h
              simp only [Option.bind_some] at h
              unfold strings_Contains.f at h
              rw [if_pos hm3, hc, hm4] at h
              simp at h
            · simp at h
          · have : s.toList = [] := by simpa using h
            rw [ByteArray.toList_eq] at this
            exact nosp_of (fun c hc => by rw [this] at hc; cases hc)
theorem letters (n : Int) : ∀ c ∈ meta_owns.flags n, 65 ≤ c.toNat ∧ c.toNat ≤ 122 := by
  unfold meta_owns.flags
  repeat' split
  all_goals decide
theorem owned_letter {op x : Int} (h : meta_owns.f op x = some true) : 65 ≤ x ∧ x ≤ 122 := by
  unfold meta_owns.f at h
  split at h
  · injection h with h
    obtain ⟨c, hc, e⟩ := List.any_eq_true.1 h
    have e' : (c.toNat : Int) = x := by simpa using e
    have := letters op c hc
    omega
  · cases h
theorem enc_nosp : ∀ (n : Nat) (l : List UInt8), l.length ≤ n → ∀ c ∈ B64.enc l, c.toNat ≠ 32 := by
  have h8 : ∀ v, v < 64 → (B64.let8 v).toNat ≠ 32 := fun v hv => by rw [B64.let8_toNat v hv]; have := B64.lt_range v hv; omega
  intro n
  induction n with
  | zero => intro l hl c hc; rw [show l = [] from List.length_eq_zero_iff.1 (by omega)] at hc; cases hc
  | succ n ih =>
    intro l hl c hc
    by_cases h0 : l = []
    · rw [h0] at hc; cases hc
    · rw [B64.enc_step l h0] at hc
      rcases List.mem_append.1 hc with hc | hc
      · have hw := B64.word_lt l
        unfold B64.four at hc
        simp only [List.mem_cons, List.mem_nil_iff, or_false] at hc
        rcases hc with rfl | rfl | rfl | rfl
        · exact h8 _ (by omega)
        · exact h8 _ (by omega)
        · split
          · exact h8 _ (by omega)
          · decide
        · split
          · exact h8 _ (by omega)
          · decide
      · refine ih (l.drop 3) ?_ c hc
        have := List.length_pos_iff.2 h0
        rw [List.length_drop]
        omega
def nameOf (o : Int) : ByteArray := if o = 1 then ⟨#[109, 103]⟩ else if o = 2 then ⟨#[109, 115]⟩ else if o = 3 then ⟨#[109, 100]⟩ else if o = 4 then ⟨#[109, 97]⟩ else if o = 5 then ⟨#[109, 110]⟩ else ⟨#[109, 101]⟩
theorem name_nosp (o : Int) : NoSp (nameOf o) := by
  unfold nameOf NoSp
  repeat' split
  all_goals decide
theorem name_size (o : Int) : (nameOf o).size = 2 := by
  unfold nameOf
  repeat' split
  all_goals rfl
def fw (x : S61) : ByteArray := Utf8.encode (wrap32 x.f0) ++ x.f1
theorem enc_letter (c : Int) (h : 65 ≤ c ∧ c ≤ 122) : Utf8.encode (wrap32 c) = ⟨#[UInt8.ofNat c.toNat]⟩ := by
  have e : wrap32 c = c := by unfold wrap32; omega
  unfold Utf8.encode
  have hv : Utf8.valid c = true := by unfold Utf8.valid; simp; omega
  rw [e, hv]
  simp only [if_true]
  rw [if_pos (by omega)]
theorem enc_size (c : Int) : (Utf8.encode c).size ≤ 4 := by
  unfold Utf8.encode
  simp only []
  repeat' split
  all_goals (first | decide | exact Nat.le_of_ble_eq_true rfl)
theorem fw_list (x : S61) (h : 65 ≤ x.f0 ∧ x.f0 ≤ 122) : (fw x).data.toList = UInt8.ofNat x.f0.toNat :: x.f1.data.toList := by
  unfold fw
  rw [enc_letter _ h, ByteArray.data_append]
  simp
theorem fw_nosp (x : S61) (h : 65 ≤ x.f0 ∧ x.f0 ≤ 122) (ht : NoSp x.f1) : NoSp (fw x) := by
  unfold NoSp
  rw [fw_list x h]
  intro hm
  rcases List.mem_cons.1 hm with e | hm
  · have := congrArg UInt8.toNat e
    rw [show (UInt8.ofNat x.f0.toNat).toNat = x.f0.toNat % 256 from rfl] at this
    have e32 : (32 : UInt8).toNat = 32 := rfl
    omega
  · exact ht hm
def keyW (key : ByteArray) (b : Bool) : ByteArray := if b = true then ⟨(B64.enc key.data.toList).toArray⟩ else key
def restOf (o : Int) (key : ByteArray) (sz : Int) (L : List S61) : List ByteArray :=
  (if o = 5 then [] else [keyW key (has L 98)]) ++ ((if o = 2 then [⟨(Lib.decDigits (IntKind.u64.wrap sz).toNat).toArray⟩] else []) ++ L.map fw)
def lineOf (ws : List ByteArray) : ByteArray := ⟨(Lib.join (ws.map (·.data.toList)) [32]).toArray⟩
end Go.Proofs.YtfboejlemnfndaaGreatDoor.XMr
end
section
namespace Go.Proofs.YtfboejlemnfndaaGreatDoor.XMr
open Go.RowKit Go.Proofs.YtfboejlemnfndaaGreatDoorW.PrintWords Go.Proofs.YtfboejlemnfndaaGreatDoorW.PrintLast Go.Proofs.YtfboejlemnfndaaGreatDoorW.PrintMore
set_option linter.unusedVariables false
set_option linter.unusedSimpArgs false
set_option linter.unusedSectionVars false

theorem ops_tab : ∃ T, meta_ops.f = some T ∧ T.length = 7 ∧ ∀ n : Int, 1 ≤ n → n ≤ 6 → (rd_T63 T n).f0 = nameOf n := by
  refine ⟨_, rfl, rfl, fun n h1 h2 => ?_⟩
  have hn : n = 1 ∨ n = 2 ∨ n = 3 ∨ n = 4 ∨ n = 5 ∨ n = 6 := by omega
  rcases hn with rfl | rfl | rfl | rfl | rfl | rfl <;> rfl
theorem named_1 : meta_named.f 20 (nameOf 1) = some 1 := by kernel_rfl
theorem named_2 : meta_named.f 20 (nameOf 2) = some 2 := by kernel_rfl
theorem named_3 : meta_named.f 20 (nameOf 3) = some 3 := by kernel_rfl
theorem named_4 : meta_named.f 20 (nameOf 4) = some 4 := by kernel_rfl
theorem named_5 : meta_named.f 20 (nameOf 5) = some 5 := by kernel_rfl
theorem named_6 : meta_named.f 20 (nameOf 6) = some 6 := by kernel_rfl
theorem named_is (o : Int) (ho : 1 ≤ o ∧ o ≤ 6) : meta_named.f 20 (nameOf o) = some o := by
  have hn : o = 1 ∨ o = 2 ∨ o = 3 ∨ o = 4 ∨ o = 5 ∨ o = 6 := by omega
  rcases hn with rfl | rfl | rfl | rfl | rfl | rfl
  · exact named_1
  · exact named_2
  · exact named_3
  · exact named_4
  · exact named_5
  · exact named_6
theorem up {α : Type} (f : Nat → Option α) (hm : ∀ k, LeO (f k) (f (k + 1))) {k : Nat} {r : α} (h : f k = some r) : ∀ n, f (k + n) = some r
  | 0 => h
  | n + 1 => hm (k + n) r (up f hm h n)
theorem named_up (o : Int) (ho : 1 ≤ o ∧ o ≤ 6) (k : Nat) (hk : 20 ≤ k) : meta_named.f k (nameOf o) = some o := by
  have := up (fun k => meta_named.f k (nameOf o)) (fun k => meta_named.mono _ k) (named_is o ho) (k - 20)
  rwa [show 20 + (k - 20) = k from by omega] at this
theorem lens_le (B : Nat) : ∀ xs : List (List UInt8), (∀ x ∈ xs, x.length ≤ B) → Lib.lens xs ≤ B * xs.length
  | [], _ => by simp [Lib.lens]
  | x :: xs, h => by
    have h1 := h x List.mem_cons_self
    have h2 := lens_le B xs (fun y hy => h y (List.mem_cons_of_mem _ hy))
    simp only [Lib.lens, List.map_cons, List.sum_cons, List.length_cons] at h2 ⊢
    rw [Nat.mul_succ]
    omega
theorem join_tot (x : ByteArray) (r : List ByteArray) (hr : r.length ≤ 1000) (hs : ∀ y ∈ x :: r, y.size ≤ 5000) : strings_Join.f (x :: r) ⟨#[32]⟩ = some (lineOf (x :: r)) := by
  have h1 : (Lib.join ((x :: r).map (·.data.toList)) [32]).length ≤ 140737488355328 := by
    rw [List.map_cons, Lib.join_length, ← List.map_cons (f := fun z : ByteArray => z.data.toList)]
    have := lens_le 5000 ((x :: r).map (fun z : ByteArray => z.data.toList)) (fun y hy => by
      obtain ⟨z, hz, rfl⟩ := List.mem_map.1 hy
      have := hs z hz
      rw [Lib.size_eq] at this
      exact this)
    simp only [List.length_map, List.length_cons, List.length_nil, Nat.zero_add, Nat.one_mul] at this ⊢
    omega
  unfold strings_Join.f
  rw [if_pos ⟨by simp; omega, h1⟩]
  rfl
theorem write_l0 (L : List S61) (hL : L.length ≤ 200) (ht : ∀ x ∈ L, x.f1.size ≤ 1000) : ∀ (n k i : Nat) (ws : List ByteArray), n + i = L.length → n < k → ws.length ≤ 10 + i →
    meta_Write.l0 k ws L (L.length : Int) (i : Int) = (strings_Join.f (ws ++ (L.drop i).map fw) ⟨#[32]⟩).bind fun t => if (t.size : Int) > 160 then some (⟨#[]⟩, 7) else some (t, 0)
  | n, 0, i, ws, _, h, _ => absurd h (by omega)
  | 0, k + 1, i, ws, hn, _, _ => by
    simp only [meta_Write.l0]
    rw [if_neg (by omega), List.drop_of_length_le (by omega), List.map_nil, List.append_nil]
  | n + 1, k + 1, i, ws, hn, hk, hw => by
    have hi : i < L.length := by omega
    have e : rd_T61 L (i : Int) = L[i] := by
      unfold rd_T61
      rw [Int.toNat_natCast, List.getD_eq_getElem?_getD, List.getElem?_eq_getElem hi]
      rfl
    have h4 := enc_size (wrap32 (L[i]).f0)
    have h5 := ht _ (List.getElem_mem hi)
    have ih := write_l0 L hL ht n k (i + 1) (ws ++ [fw L[i]]) (by omega) (by omega) (by rw [List.length_append, List.length_singleton]; omega)
    simp only [meta_Write.l0]
    rw [if_pos (by omega), if_pos (by omega), if_pos (by omega), e, if_pos (by omega), if_pos (by omega), wrap_at i (by omega)]
    show meta_Write.l0 k (ws ++ [fw L[i]]) L (L.length : Int) ((i + 1 : Nat) : Int) = _
    rw [ih, List.append_assoc, List.singleton_append, ← List.map_cons, ← List.drop_eq_getElem_cons hi]
section
variable {k : Nat} {o : Int} {key : ByteArray} {sz : Int} {L : List S61} (hk : 3000 ≤ k) (hL : L.length ≤ 200) (hks : key.size ≤ 1000) (hts : ∀ x ∈ L, x.f1.size ≤ 1000) (hs : meta_shape.f k o key sz L = some 0)
include hk hL hks hts hs
theorem enc_is : meta_Encode.f key = some ⟨(B64.enc key.data.toList).toArray⟩ := by
  unfold meta_Encode.f
  rw [if_pos (by omega)]
theorem size_is : IntKind.u64.wrap sz = sz ∧ 0 ≤ sz ∧ sz ≤ 2147483647 := by
  obtain ⟨_, _, hc, _⟩ := shape_zero hs
  rw [IntKind.wrap_u64]
  omega
theorem text_is : digits_Text.f (IntKind.u64.wrap sz) = some ⟨(Lib.decDigits (IntKind.u64.wrap sz).toNat).toArray⟩ := by
  obtain ⟨h1, h2, h3⟩ := size_is hk hL hks hts hs
  unfold digits_Text.f strconv_FormatUint_62.f
  have : strconv_FormatUint_80.f (IntKind.u64.wrap sz) 10 = some ⟨(Lib.decDigits (IntKind.u64.wrap sz).toNat).toArray⟩ := by
    unfold strconv_FormatUint_80.f
    rw [if_pos (by rw [h1]; omega)]
  rw [this]
  rfl
theorem j0_is (ws : List ByteArray) (hw : ws.length ≤ 2) (k' : Nat) (hk' : 2000 ≤ k') :
    meta_Write.j0 k' ws o key sz L = (strings_Join.f (ws ++ ((if o = 2 then [⟨(Lib.decDigits (IntKind.u64.wrap sz).toNat).toArray⟩] else []) ++ L.map fw)) ⟨#[32]⟩).bind fun t => if (t.size : Int) > 160 then some (⟨#[]⟩, 7) else some (t, 0) := by
  obtain ⟨k', rfl⟩ : ∃ j, k' = j + 2 := ⟨k' - 2, by omega⟩
  simp only [meta_Write.j0, text_is hk hL hks hts hs, Option.bind_some]
  split
  · rw [if_pos (by omega)]
    simp only [meta_Write.j1]
    have := write_l0 L (by omega) hts L.length k' 0 (ws ++ [⟨(Lib.decDigits (IntKind.u64.wrap sz).toNat).toArray⟩]) (by omega) (by omega) (by rw [List.length_append, List.length_singleton]; omega)
    rw [show ((0 : Nat) : Int) = 0 from rfl, List.drop_zero] at this
    rw [this, List.append_assoc]
  · simp only [meta_Write.j1]
    have := write_l0 L (by omega) hts L.length k' 0 ws (by omega) (by omega) (by omega)
    rw [show ((0 : Nat) : Int) = 0 from rfl, List.drop_zero] at this
    rw [this, List.nil_append]
theorem write_is : meta_Write.f k o key sz L = (strings_Join.f (nameOf o :: restOf o key sz L) ⟨#[32]⟩).bind fun t => if (t.size : Int) > 160 then some (⟨#[]⟩, 7) else some (t, 0) := by
  obtain ⟨T, hT, hT7, hTn⟩ := ops_tab
  obtain ⟨ho, _⟩ := shape_zero hs
  obtain ⟨t, hf⟩ := find_eq o key sz L 98
  unfold meta_Write.f restOf
  rw [hs]
  simp only [Option.bind_some, if_true, hT, hf, enc_is hk hL hks hts hs]
  rw [if_pos (by omega), if_pos (by omega), hTn o ho.1 ho.2]
  split
  · rw [j0_is hk hL hks hts hs _ (by simp) k (by omega)]
    rfl
  · cases hb : has L 98 with
    | true =>
      simp only [if_true]
      rw [if_pos (by simp), j0_is hk hL hks hts hs _ (by simp) k (by omega)]
      rfl
    | false =>
      simp only [Bool.false_eq_true, if_false]
      rw [if_pos (by simp), j0_is hk hL hks hts hs _ (by simp) k (by omega)]
      rfl
theorem flags_ok : ∀ x ∈ L, (65 ≤ x.f0 ∧ x.f0 ≤ 122) ∧ NoSp x.f1 := by
  obtain ⟨_, _, _, hgo⟩ := shape_zero hs
  have hr : ∀ (l : List S61) (seen : List Int), meta_shape.go k o l seen = some 0 → ∀ x ∈ l, meta_right.f k o x.f0 x.f1 = some true := by
    intro l
    induction l with
    | nil => intro _ _ x hx; cases hx
    | cons y l ih =>
      intro seen h x hx
      obtain ⟨_, _, h3, h4⟩ := go_cons h
      rcases List.mem_cons.1 hx with rfl | hx
      · exact h3
      · exact ih _ h4 x hx
  exact fun x hx => ⟨owned_letter (go_owned hgo x hx), right_nosp o x.f0 x.f1 (hts x hx) k (by omega) (hr L [] hgo x hx)⟩
theorem key_ok : o ≠ 5 → NoSp (keyW key (has L 98)) ∧ (keyW key (has L 98)).size ≤ 2000 := by
  intro h5
  obtain ⟨_, hkb, _, _⟩ := shape_zero hs
  unfold keyB at hkb
  rw [if_neg h5] at hkb
  unfold keyW
  cases hb : has L 98 with
  | true =>
    simp only [if_true]
    refine ⟨nosp_of (enc_nosp _ _ (Nat.le_refl _)), ?_⟩
    show (B64.enc key.data.toList).toArray.size ≤ 2000
    rw [List.size_toArray, B64.enc_length, ← Lib.size_eq]
    omega
  | false =>
    rw [hb] at hkb
    simp only [Bool.false_eq_true, if_false] at hkb ⊢
    exact ⟨key_nosp key hks k hkb, by omega⟩
theorem noop_nil : o = 5 → L = [] := by
  intro h5
  obtain ⟨_, _, _, hgo⟩ := shape_zero hs
  cases L with
  | nil => rfl
  | cons x l =>
    obtain ⟨h1, _⟩ := go_cons hgo
    subst h5
    simp [meta_owns.f, meta_owns.flags] at h1
theorem words_ok : ∀ y ∈ nameOf o :: restOf o key sz L, NoSp y ∧ y.size ≤ 5000 := by
  obtain ⟨h1, h2, h3⟩ := size_is hk hL hks hts hs
  intro y hy
  rcases List.mem_cons.1 hy with rfl | hy
  · exact ⟨name_nosp o, by rw [name_size]; omega⟩
  · unfold restOf at hy
    rcases List.mem_append.1 hy with hy | hy
    · split at hy
      · cases hy
      · rename_i h5
        obtain rfl := List.mem_singleton.1 hy
        have := key_ok hk hL hks hts hs h5
        exact ⟨this.1, by omega⟩
    · rcases List.mem_append.1 hy with hy | hy
      · split at hy
        · obtain rfl := List.mem_singleton.1 hy
          refine ⟨nosp_of (fun c hc => ?_), ?_⟩
          · have := Text.dec_dig _ _ (Nat.lt_succ_self _) c hc
            omega
          · have := Text.dec_len 9 (IntKind.u64.wrap sz).toNat (by rw [h1]; omega)
            show (Lib.decDigits _).toArray.size ≤ 5000
            rw [List.size_toArray]
            omega
        · cases hy
      · obtain ⟨x, hx, rfl⟩ := List.mem_map.1 hy
        have := flags_ok hk hL hks hts hs x hx
        refine ⟨fw_nosp x this.1 this.2, ?_⟩
        have h4 := enc_size (wrap32 x.f0)
        have h5 := hts x hx
        show (Utf8.encode (wrap32 x.f0) ++ x.f1).size ≤ 5000
        rw [ByteArray.size_append]
        omega
theorem rest_len : (restOf o key sz L).length ≤ 1000 := by
  unfold restOf
  rw [List.length_append, List.length_append, List.length_map]
  repeat' split
  all_goals (simp; omega)
theorem write_line : meta_Write.f k o key sz L = if ((lineOf (nameOf o :: restOf o key sz L)).size : Int) > 160 then some (⟨#[]⟩, 7) else some (lineOf (nameOf o :: restOf o key sz L), 0) := by
  rw [write_is hk hL hks hts hs, join_tot _ _ (rest_len hk hL hks hts hs) (fun y hy => (words_ok hk hL hks hts hs y hy).2)]
  rfl
theorem split_line (h : (lineOf (nameOf o :: restOf o key sz L)).size ≤ 160) : strings_Split.f (lineOf (nameOf o :: restOf o key sz L)) ⟨#[32]⟩ = some (nameOf o :: restOf o key sz L) := by
  unfold strings_Split.f
  rw [if_pos ⟨by omega, by decide⟩]
  congr 1
  exact Text.splitB_join _ _ (fun y hy => (words_ok hk hL hks hts hs y hy).1)
end
end Go.Proofs.YtfboejlemnfndaaGreatDoor.XMr
end
section
namespace Go.Proofs.YtfboejlemnfndaaGreatDoor.XMr
open Go.RowKit Go.Proofs.YtfboejlemnfndaaGreatDoorW.PrintWords Go.Proofs.YtfboejlemnfndaaGreatDoorW.PrintLast Go.Proofs.YtfboejlemnfndaaGreatDoorW.PrintMore
set_option linter.unusedVariables false
set_option linter.unusedSimpArgs false
set_option linter.unusedSectionVars false

theorem fw_read (x : S61) (h : 65 ≤ x.f0 ∧ x.f0 ≤ 122) : (⟨bt (fw x) 0, sub (fw x) 1 (fw x).size⟩ : S61) = x := by
  have e := fw_list x h
  have h0 : bt (fw x) 0 = x.f0 := by
    have := bt_list (fw x) 0 (by rw [e]; simp)
    rw [show ((0 : Nat) : Int) = 0 from rfl] at this
    rw [this]
    simp only [e, List.getElem_cons_zero]
    rw [show (UInt8.ofNat x.f0.toNat).toNat = x.f0.toNat % 256 from rfl]
    omega
  have h1 : sub (fw x) 1 (fw x).size = x.f1 := ba_ext _ _ (by
    show ((fw x).extract 1 (fw x).size).data.toList = _
    rw [Lib.extract_to_end, e]
    rfl)
  rw [h0, h1]
theorem words_l0 (o : Int) (key : ByteArray) (sz : Int) (L : List S61) (hL : L.length ≤ 200) (hg : ∀ x ∈ L, 65 ≤ x.f0 ∧ x.f0 ≤ 122) : ∀ (n j i : Nat), n + i = L.length →
    meta_words.l0 (n + 1 + j) o (L.map fw) (L.length : Int) (i : Int) o key sz (L.take i) = (meta_Find.f o key sz L 98).bind fun b => if b.2 = true then meta_words.j5 j (o != 5) o key sz L else meta_words.j5 j false o key sz L
  | 0, j, i, hn => by
    rw [show 0 + 1 + j = j + 1 from by omega]
    simp only [meta_words.l0]
    rw [if_neg (by omega), List.take_of_length_le (by omega)]
  | n + 1, j, i, hn => by
    have hi : i < L.length := by omega
    have hgi := hg _ (List.getElem_mem hi)
    have e : rdOf ByteArray.empty (L.map fw) (i : Int) = fw L[i] := by
      unfold rdOf
      rw [Int.toNat_natCast, List.getD_eq_getElem?_getD, List.getElem?_map, List.getElem?_eq_getElem hi]
      rfl
    have hne : (fw L[i]).toList ≠ [] := by rw [ByteArray.toList_eq, fw_list _ hgi]; simp
    have hsz : 1 ≤ (fw L[i]).size := by rw [Lib.size_eq, fw_list _ hgi]; simp
    have ih := words_l0 o key sz L hL hg n j (i + 1) (by omega)
    rw [show n + 1 + 1 + j = (n + 1 + j) + 1 from by omega]
    simp only [meta_words.l0]
    rw [if_pos (by omega), if_pos (by omega), if_pos (by rw [List.length_map]; omega), e, if_neg hne, if_pos (by omega), if_pos (by omega), if_pos (by rw [List.length_take]; omega), fw_read _ hgi, wrap_at i (by omega)]
    rw [← ih]
    congr 1
    rw [List.take_add_one, List.getElem?_eq_getElem hi]
    rfl
theorem dec_key (b : ByteArray) (h : b.size ≤ 2000) : meta_Decode.f ⟨(B64.enc b.data.toList).toArray⟩ = some (b, 0) := by
  have e : (⟨(B64.enc b.data.toList).toArray⟩ : ByteArray).size = (b.size + 2) / 3 * 4 := by
    show (B64.enc b.data.toList).toArray.size = _
    rw [List.size_toArray, B64.enc_length, ← Lib.size_eq]
  unfold meta_Decode.f
  rw [if_pos (by rw [e]; omega), B64.dec_of _ b.data.toList rfl]
theorem size_read (z : Int) (h : 0 ≤ z ∧ z ≤ 2147483647) : meta_size.f ⟨(Lib.decDigits z.toNat).toArray⟩ = some (z, true) := by
  have hl := Text.dec_len 9 z.toNat (by omega)
  have hv : digits_Parse.val (Lib.decDigits z.toNat) = (z, 0) := by
    unfold digits_Parse.val
    have hd : digits_Parse.dig (Lib.decDigits z.toNat) = true := List.all_eq_true.2 (fun c hc => decide_eq_true (Text.dec_dig _ _ (Nat.lt_succ_self _) c hc))
    have hp : Lib.parseUintB 64 (Lib.decDigits z.toNat) = .ok z.toNat := by
      unfold Lib.parseUintB
      rw [if_neg (Text.dec_ne _)]
      exact Text.dec_parse _ _ (Nat.lt_succ_self _) (by omega)
    rw [if_pos hd, if_neg (Text.dec_ne _), if_neg (by omega), hp]
    show (((z.toNat : Nat) : Int), (0 : Int)) = _
    congr 1
    omega
  unfold meta_size.f
  rw [parse_tot _ (by show (Lib.decDigits _).toArray.size ≤ 1000; rw [List.size_toArray]; omega)]
  show (some (digits_Parse.val (Lib.decDigits z.toNat))).bind _ = _
  rw [hv]
  simp only [Option.bind_some, if_true]
  rw [show wrap64 z = z from by unfold wrap64; omega, decide_eq_true (by omega)]
section
variable {k : Nat} {o : Int} {key : ByteArray} {sz : Int} {L : List S61} (hk : 3000 ≤ k) (hL : L.length ≤ 200) (hks : key.size ≤ 1000) (hts : ∀ x ∈ L, x.f1.size ≤ 1000) (hs : meta_shape.f k o key sz L = some 0)
include hk hL hks hts hs
theorem j3_is (h5 : o ≠ 5) (k' : Nat) (hk' : 1000 ≤ k') : meta_words.j3 k' o (L.map fw) o (keyW key (has L 98)) sz = some (o, key, sz, L, true) := by
  obtain ⟨j, rfl⟩ : ∃ j, k' = (L.length + 1 + (j + 1)) + 1 := ⟨k' - L.length - 3, by omega⟩
  have hg : ∀ x ∈ L, 65 ≤ x.f0 ∧ x.f0 ≤ 122 := fun x hx => (flags_ok hk hL hks hts hs x hx).1
  obtain ⟨t, hf⟩ := find_eq o (keyW key (has L 98)) sz L 98
  have := words_l0 o (keyW key (has L 98)) sz L hL hg L.length (j + 1) 0 (by omega)
  simp only [meta_words.j3, List.length_map]
  rw [show ((0 : Nat) : Int) = 0 from rfl, List.take_zero] at this
  rw [this, hf]
  simp only [Option.bind_some]
  unfold keyW
  cases hb : has L 98 with
  | true =>
    simp only [if_true, meta_words.j5]
    rw [show (o != 5) = true from bne_iff_ne.2 h5, dec_key key (by omega)]
    simp only [if_true, Option.bind_some]
  | false =>
    simp only [Bool.false_eq_true, if_false, meta_words.j5]
theorem words_is : meta_words.f k o (restOf o key sz L) = some (o, key, sz, L, true) := by
  obtain ⟨hw1, hw2, hw3⟩ := size_is hk hL hks hts hs
  obtain ⟨j, rfl⟩ : ∃ j, k = j + 3 := ⟨k - 3, by omega⟩
  unfold meta_words.f
  by_cases h5 : o = 5
  · have hn := noop_nil hk hL hks hts hs h5
    obtain ⟨_, hkb, hc, _⟩ := shape_zero hs
    have hz : sz = 0 := by omega
    have hkey : key = ⟨#[]⟩ := by
      unfold keyB at hkb
      rw [if_pos h5] at hkb
      have : key.toList = [] := by simpa using hkb
      rw [ByteArray.toList_eq] at this
      exact ba_ext _ _ this
    subst hn hz hkey h5
    rw [if_pos rfl]
    obtain ⟨j, rfl⟩ : ∃ i, j = i + 3 := ⟨j - 3, by omega⟩
    rfl
  · rw [if_neg h5]
    have hr : restOf o key sz L = keyW key (has L 98) :: ((if o = 2 then [⟨(Lib.decDigits (IntKind.u64.wrap sz).toNat).toArray⟩] else []) ++ L.map fw) := by
      unfold restOf
      rw [if_neg h5]
      rfl
    rw [hr, decide_eq_true (by simp <;> omega)]
    simp only [meta_words.j0, if_true]
    rw [if_pos (by simp <;> omega), if_pos (by simp <;> omega), List.drop_one, List.tail_cons, show rdOf ByteArray.empty (keyW key (has L 98) :: ((if o = 2 then [⟨(Lib.decDigits (IntKind.u64.wrap sz).toNat).toArray⟩] else []) ++ L.map fw)) 0 = keyW key (has L 98) from rfl]
    simp only [meta_words.j1]
    by_cases h2 : o = 2
    · rw [if_pos h2, if_pos h2, decide_eq_true (by simp <;> omega)]
      simp only [meta_words.j2, if_true]
      rw [if_pos (by simp <;> omega), show rdOf ByteArray.empty ([⟨(Lib.decDigits (IntKind.u64.wrap sz).toNat).toArray⟩] ++ L.map fw) 0 = ⟨(Lib.decDigits (IntKind.u64.wrap sz).toNat).toArray⟩ from rfl, hw1, size_read sz ⟨hw2, hw3⟩]
      simp only [Option.bind_some, if_true]
      rw [if_pos (by simp <;> omega)]
      exact j3_is hk hL hks hts hs h5 j (by omega)
    · have hz : sz = 0 := by
        obtain ⟨_, _, hc, _⟩ := shape_zero hs
        omega
      rw [if_neg h2, if_neg h2, List.nil_append]
      simp only [meta_words.j2, Bool.false_eq_true, if_false]
      have := j3_is hk hL hks hts hs h5 j (by omega)
      rw [hz] at this ⊢
      exact this
theorem parse_line (h : (lineOf (nameOf o :: restOf o key sz L)).size ≤ 160) : meta_Parse.f k (lineOf (nameOf o :: restOf o key sz L)) = some (o, key, sz, L, 0) := by
  obtain ⟨ho, _⟩ := shape_zero hs
  unfold meta_Parse.f
  rw [if_neg (by omega), split_line hk hL hks hts hs h]
  simp only [Option.bind_some]
  rw [named_up o ho k (by omega)]
  simp only [Option.bind_some]
  rw [if_neg (by omega), words_is hk hL hks hts hs]
  simp only [Option.bind_some, if_true]
  rw [write_line hk hL hks hts hs, if_neg (by omega)]
  simp only [Option.bind_some, and_self, if_true]
end
end Go.Proofs.YtfboejlemnfndaaGreatDoor.XMr
end
section
namespace Go.Proofs.YtfboejlemnfndaaGreatDoor.XMr
open Go.RowKit Go.Proofs.YtfboejlemnfndaaGreatDoorW.PrintWords Go.Proofs.YtfboejlemnfndaaGreatDoorW.PrintLast Go.Proofs.YtfboejlemnfndaaGreatDoorW.PrintMore
set_option linter.unusedVariables false
set_option linter.unusedSimpArgs false

def Small (r : Int × ByteArray × Int × List S61 × Bool) : Prop := r.2.1.size ≤ 1000 ∧ r.2.2.2.1.length ≤ 200 ∧ ∀ x ∈ r.2.2.2.1, x.f1.size ≤ 1000
theorem none_small (b : Bool) : Small (0, ⟨#[]⟩, 0, [], b) := ⟨show (⟨#[]⟩ : ByteArray).size ≤ 1000 by decide, by simp, fun x hx => by cases hx⟩
theorem dec_tot (s : ByteArray) (h : s.size ≤ 1000) : ∃ b e, meta_Decode.f s = some (b, e) ∧ b.size ≤ 1000 := by
  unfold meta_Decode.f
  rw [if_pos (by omega)]
  cases hd : B64.dec s.data.toList with
  | none => exact ⟨_, _, rfl, by decide⟩
  | some b =>
    refine ⟨_, _, rfl, ?_⟩
    have e := B64.dec_some _ _ hd
    have hl := B64.enc_length b
    rw [e, ← Lib.size_eq] at hl
    show b.toArray.size ≤ 1000
    rw [List.size_toArray]
    omega
theorem j5_tot (o : Int) (key : ByteArray) (sz : Int) (L : List S61) (hk : key.size ≤ 1000) (hL : L.length ≤ 200) (ht : ∀ x ∈ L, x.f1.size ≤ 1000) (j : Nat) (b : Bool) : ∃ r, meta_words.j5 (j + 1) b o key sz L = some r ∧ Small r := by
  simp only [meta_words.j5]
  cases b with
  | false => exact ⟨_, rfl, hk, hL, ht⟩
  | true =>
    obtain ⟨d, e, hd, hds⟩ := dec_tot key hk
    simp only [if_true, hd, Option.bind_some]
    split
    · exact ⟨_, rfl, hds, hL, ht⟩
    · exact ⟨_, rfl, none_small _⟩
theorem l0_tot (o : Int) (key : ByteArray) (sz : Int) (ws : List ByteArray) (hk : key.size ≤ 1000) (hw : ws.length ≤ 200) (hs : ∀ w ∈ ws, w.size ≤ 1000) : ∀ (n j i : Nat) (L : List S61), n + i = ws.length → L.length ≤ i → (∀ x ∈ L, x.f1.size ≤ 1000) →
    ∃ r, meta_words.l0 (n + 2 + j) o ws (ws.length : Int) (i : Int) o key sz L = some r ∧ Small r
  | 0, j, i, L, hn, hL, ht => by
    rw [show 0 + 2 + j = (j + 1) + 1 from by omega]
    obtain ⟨t, hf⟩ := find_eq o key sz L 98
    simp only [meta_words.l0]
    rw [if_neg (by omega), hf]
    simp only [Option.bind_some]
    split
    · exact j5_tot o key sz L hk (by omega) ht j _
    · exact j5_tot o key sz L hk (by omega) ht j _
  | n + 1, j, i, L, hn, hL, ht => by
    have hi : i < ws.length := by omega
    have e : rdOf ByteArray.empty ws (i : Int) = ws[i] := by
      unfold rdOf
      rw [Int.toNat_natCast, List.getD_eq_getElem?_getD, List.getElem?_eq_getElem hi]
      rfl
    have hwi := hs _ (List.getElem_mem hi)
    rw [show n + 1 + 2 + j = (n + 2 + j) + 1 from by omega]
    simp only [meta_words.l0]
    rw [if_pos (by omega), if_pos (by omega), if_pos (by omega), e]
    split
    · exact ⟨_, rfl, none_small _⟩
    · rename_i hne
      have h1 : 1 ≤ (ws[i]).size := by
        rw [ByteArray.toList_eq] at hne
        rw [Lib.size_eq]
        exact List.length_pos_iff.2 hne
      rw [if_pos (by omega), if_pos (by omega), if_pos (by omega), wrap_at i (by omega)]
      refine l0_tot o key sz ws hk hw hs n j (i + 1) _ (by omega) (by rw [List.length_append, List.length_singleton]; omega) (fun x hx => ?_)
      rcases List.mem_append.1 hx with hx | hx
      · exact ht x hx
      · obtain rfl := List.mem_singleton.1 hx
        show ((ws[i]).extract 1 (ws[i]).size).size ≤ 1000
        rw [ByteArray.size_extract]
        omega
theorem j3_tot (o : Int) (key : ByteArray) (sz : Int) (ws : List ByteArray) (hk : key.size ≤ 1000) (hw : ws.length ≤ 200) (hs : ∀ w ∈ ws, w.size ≤ 1000) (k : Nat) (h : 500 ≤ k) : ∃ r, meta_words.j3 k o ws o key sz = some r ∧ Small r := by
  obtain ⟨j, rfl⟩ : ∃ j, k = (ws.length + 2 + j) + 1 := ⟨k - ws.length - 3, by omega⟩
  simp only [meta_words.j3]
  exact l0_tot o key sz ws hk hw hs ws.length j 0 [] (by omega) (by simp) (fun x hx => by cases hx)
theorem size_tot (s : ByteArray) (hs : s.size ≤ 1000) : ∃ a b, meta_size.f s = some (a, b) := by
  unfold meta_size.f
  rw [parse_tot s hs]
  simp only [Option.bind_some]
  split
  · exact ⟨_, _, rfl⟩
  · exact ⟨_, _, rfl⟩
theorem j1_tot (o : Int) (key : ByteArray) (ws : List ByteArray) (hk : key.size ≤ 1000) (hw : ws.length ≤ 200) (hs : ∀ w ∈ ws, w.size ≤ 1000) (k : Nat) (h : 600 ≤ k) : ∃ r, meta_words.j1 k o ws o key 0 = some r ∧ Small r := by
  obtain ⟨k, rfl⟩ : ∃ j, k = j + 2 := ⟨k - 2, by omega⟩
  simp only [meta_words.j1]
  split
  · cases ws with
    | nil =>
      simp only [List.length_nil, meta_words.j2]
      exact j3_tot o key 0 [] hk hw hs k (by omega)
    | cons w ws =>
      rw [decide_eq_true (by simp <;> omega)]
      simp only [meta_words.j2, if_true]
      rw [if_pos (by simp <;> omega), show rdOf ByteArray.empty (w :: ws) 0 = w from rfl]
      obtain ⟨a, b, hab⟩ := size_tot w (hs w List.mem_cons_self)
      rw [hab]
      simp only [Option.bind_some]
      cases b with
      | false => exact ⟨_, rfl, none_small _⟩
      | true =>
        simp only [if_true]
        rw [if_pos (by simp <;> omega)]
        exact j3_tot o key a ws hk (by simp at hw; omega) (fun x hx => hs x (List.mem_cons_of_mem _ hx)) k (by omega)
  · simp only [meta_words.j2, Bool.false_eq_true, if_false]
    exact j3_tot o key 0 ws hk hw hs k (by omega)
theorem words_tot (o : Int) (ws : List ByteArray) (hw : ws.length ≤ 200) (hs : ∀ w ∈ ws, w.size ≤ 1000) (k : Nat) (h : 700 ≤ k) : ∃ r, meta_words.f k o ws = some r ∧ Small r := by
  obtain ⟨k, rfl⟩ : ∃ j, k = j + 1 := ⟨k - 1, by omega⟩
  have h0 : (⟨#[]⟩ : ByteArray).size ≤ 1000 := by decide
  unfold meta_words.f
  split
  · simp only [meta_words.j0, Bool.false_eq_true, if_false]
    exact j1_tot o _ ws h0 hw hs k (by omega)
  · cases ws with
    | nil =>
      simp only [List.length_nil, meta_words.j0]
      exact j1_tot o _ [] h0 hw hs k (by omega)
    | cons w ws =>
      rw [decide_eq_true (by simp <;> omega)]
      simp only [meta_words.j0, if_true]
      rw [if_pos (by simp <;> omega), if_pos (by simp <;> omega), show rdOf ByteArray.empty (w :: ws) 0 = w from rfl]
      exact j1_tot o w ws (hs w List.mem_cons_self) (by simp at hw; omega) (fun x hx => hs x (List.mem_cons_of_mem _ hx)) k (by omega)
theorem named_l0 (s : ByteArray) (T : List S63) (hT : T.length = 7) : ∀ (n k i : Nat), n + i = 7 → n < k → ∃ r, meta_named.l0 k s T (T.length : Int) (i : Int) = some r
  | n, 0, i, _, h => absurd h (by omega)
  | 0, k + 1, i, hn, _ => by
    simp only [meta_named.l0]
    rw [if_neg (by omega)]
    exact ⟨_, rfl⟩
  | n + 1, k + 1, i, hn, hk => by
    obtain ⟨r, hr⟩ := named_l0 s T hT n k (i + 1) (by omega) (by omega)
    simp only [meta_named.l0]
    rw [if_pos (by omega), if_pos (by omega), if_pos (by omega), wrap_at i (by omega), hr]
    repeat' split
    all_goals exact ⟨_, rfl⟩
theorem named_tot (s : ByteArray) (k : Nat) (h : 20 ≤ k) : ∃ r, meta_named.f k s = some r := by
  obtain ⟨T, hT, hT7, _⟩ := ops_tab
  unfold meta_named.f
  rw [hT]
  exact named_l0 s T hT7 7 k 0 (by omega) (by omega)
theorem split_sizes (sep : ByteArray) (B : Nat) : ∀ (n : Nat) (s : ByteArray), s.size ≤ B → ∀ w ∈ Lib.splitB sep 0 n s, w.size ≤ B
  | 0, s, h, w, hw => by
    obtain rfl := List.mem_singleton.1 hw
    exact h
  | n + 1, s, h, w, hw => by
    unfold Lib.splitB at hw
    split at hw
    · obtain rfl := List.mem_singleton.1 hw
      exact h
    · rcases List.mem_cons.1 hw with rfl | hw
      · rw [ByteArray.size_extract]; omega
      · exact split_sizes sep B n _ (by rw [ByteArray.size_extract]; omega) w hw
theorem split_ne (sep : ByteArray) (n : Nat) (s : ByteArray) : Lib.splitB sep 0 n s ≠ [] := by
  cases n with
  | zero => simp [Lib.splitB]
  | succ n => unfold Lib.splitB; split <;> simp
theorem write_tot (o : Int) (key : ByteArray) (sz : Int) (L : List S61) (hk : key.size ≤ 1000) (hL : L.length ≤ 200) (ht : ∀ x ∈ L, x.f1.size ≤ 1000) (k : Nat) (h : 3000 ≤ k) :
    ∃ t e, meta_Write.f k o key sz L = some (t, e) ∧ (e = 0 → meta_shape.f k o key sz L = some 0) := by
  obtain ⟨e, he⟩ := shape_tot k o key sz L hk ht (by omega)
  by_cases h0 : e = 0
  · subst h0
    rw [write_line h hL hk ht he]
    split
    · exact ⟨_, _, rfl, fun h => absurd h (by decide)⟩
    · exact ⟨_, _, rfl, fun _ => he⟩
  · refine ⟨⟨#[]⟩, e, ?_, fun h => absurd h h0⟩
    unfold meta_Write.f
    rw [he]
    simp only [Option.bind_some]
    rw [if_neg h0]
theorem parse_all (s : ByteArray) (k : Nat) (h : 3000 ≤ k) : ∃ o key sz L e, meta_Parse.f k s = some (o, key, sz, L, e) ∧
    (e = 0 → L.length ≤ 200 ∧ key.size ≤ 1000 ∧ (∀ x ∈ L, x.f1.size ≤ 1000) ∧ meta_Write.f k o key sz L = some (s, 0) ∧ meta_shape.f k o key sz L = some 0) ∧ (e ≠ 0 → o = 0 ∧ key = ⟨#[]⟩ ∧ sz = 0 ∧ L = []) := by
  unfold meta_Parse.f
  split
  · exact ⟨_, _, _, _, _, rfl, fun h => absurd h (by decide), fun _ => ⟨rfl, rfl, rfl, rfl⟩⟩
  · rename_i hs
    have hsp : strings_Split.f s ⟨#[32]⟩ = some (Lib.splitB ⟨#[32]⟩ 0 (Lib.countB s ⟨#[32]⟩) s) := by
      unfold strings_Split.f
      rw [if_pos ⟨by omega, by decide⟩]
    have hne := split_ne ⟨#[32]⟩ (Lib.countB s ⟨#[32]⟩) s
    have hsz := split_sizes ⟨#[32]⟩ 1000 (Lib.countB s ⟨#[32]⟩) s (by omega)
    have hlen : (Lib.splitB ⟨#[32]⟩ 0 (Lib.countB s ⟨#[32]⟩) s).length ≤ 200 := by
      have h1 := Lib.splitB_length_le ⟨#[32]⟩ 0 (Lib.countB s ⟨#[32]⟩) s
      have h2 := Lib.count_le s.data.toList (⟨#[32]⟩ : ByteArray).data.toList
      have h3 : Lib.countB s ⟨#[32]⟩ ≤ s.data.toList.length + 1 := h2
      rw [← Lib.size_eq] at h3
      omega
    rw [hsp]
    simp only [Option.bind_some]
    cases hws : Lib.splitB ⟨#[32]⟩ 0 (Lib.countB s ⟨#[32]⟩) s with
    | nil => exact absurd hws hne
    | cons w0 rest =>
      rw [hws] at hsz hlen
      obtain ⟨n, hn⟩ := named_tot w0 k (by omega)
      simp only [hn, Option.bind_some]
      split
      · exact ⟨_, _, _, _, _, rfl, fun h => absurd h (by decide), fun _ => ⟨rfl, rfl, rfl, rfl⟩⟩
      · obtain ⟨⟨m1, m2, m3, m4, m5⟩, hm, hs1, hs2, hs3⟩ := words_tot n rest (by simp at hlen; omega) (fun w hw => hsz w (List.mem_cons_of_mem _ hw)) k (by omega)
        rw [hm]
        simp only [Option.bind_some]
        split
        · obtain ⟨t, e, ht, he⟩ := write_tot m1 m2 m3 m4 hs1 hs2 hs3 k h
          rw [ht]
          simp only [Option.bind_some]
          split
          · rename_i hc
            obtain ⟨rfl, rfl⟩ := hc
            exact ⟨_, _, _, _, _, rfl, fun _ => ⟨hs2, hs1, hs3, ht, he rfl⟩, fun h => absurd rfl h⟩
          · exact ⟨_, _, _, _, _, rfl, fun h => absurd h (by decide), fun _ => ⟨rfl, rfl, rfl, rfl⟩⟩
        · exact ⟨_, _, _, _, _, rfl, fun h => absurd h (by decide), fun _ => ⟨rfl, rfl, rfl, rfl⟩⟩
end Go.Proofs.YtfboejlemnfndaaGreatDoor.XMr
end
section
namespace Go.Proofs.YtfboejlemnfndaaGreatDoor.XMr.D64
open Go.RowKit Go.Proofs.YtfboejlemnfndaaGreatDoorW.PrintWords Go.Proofs.YtfboejlemnfndaaGreatDoorW.PrintLast Go.Proofs.YtfboejlemnfndaaGreatDoorW.PrintMore
open meta_Decode (vl vl_lt vl_range dsz')
set_option linter.unusedVariables false

abbrev ba (l : List UInt8) : ByteArray := ⟨l.toArray⟩
theorem ba_append (a b : List UInt8) : ba a ++ ba b = ba (a ++ b) := meta_Decode.ba_ext _ _ (by rw [ByteArray.data_append]; simp)
theorem ba_size (a : List UInt8) : (ba a).size = a.length := by show a.toArray.size = _; simp
theorem ba_take (a : List UInt8) (n : Nat) : (ba a).extract 0 n = ba (a.take n) := meta_Decode.ba_ext _ _ (by rw [Lib.extract_data]; simp)
theorem bt_letter : ∀ n : Fin 64, bt (⟨#[65, 66, 67, 68, 69, 70, 71, 72, 73, 74, 75, 76, 77, 78, 79, 80, 81, 82, 83, 84, 85, 86, 87, 88, 89, 90, 97, 98, 99, 100, 101, 102, 103, 104, 105, 106, 107, 108, 109, 110, 111, 112, 113, 114, 115, 116, 117, 118, 119, 120, 121, 122, 48, 49, 50, 51, 52, 53, 54, 55, 56, 57, 43, 47]⟩ : ByteArray) (n.val : Int) = ((B64.lt n.val : Nat) : Int) := by decide +kernel
theorem bt_at_ (n : Nat) (h : n < 64) : bt (⟨#[65, 66, 67, 68, 69, 70, 71, 72, 73, 74, 75, 76, 77, 78, 79, 80, 81, 82, 83, 84, 85, 86, 87, 88, 89, 90, 97, 98, 99, 100, 101, 102, 103, 104, 105, 106, 107, 108, 109, 110, 111, 112, 113, 114, 115, 116, 117, 118, 119, 120, 121, 122, 48, 49, 50, 51, 52, 53, 54, 55, 56, 57, 43, 47]⟩ : ByteArray) (n : Int) = ((B64.lt n : Nat) : Int) := bt_letter ⟨n, h⟩
theorem tdiv_nat (a b : Nat) : Int.tdiv (a : Int) (b : Int) = ((a / b : Nat) : Int) := rfl
theorem tmod_nat (a b : Nat) : Int.tmod (a : Int) (b : Int) = ((a % b : Nat) : Int) := rfl
theorem wrap_nat (a : Nat) (h : a < 4611686018427387904) : wrap64 (a : Int) = (a : Int) := by unfold wrap64; omega
theorem wrap_succ (a : Nat) (h : a < 4611686018427387904) : wrap64 ((a : Int) + 1) = ((a + 1 : Nat) : Int) := by unfold wrap64; omega

theorem ref_encode (b : ByteArray) (hb : b.size ≤ 1099511627776) : Ev (fun _ => tallboyref27_Encode.f b) (ba (B64.enc b.data.toList)) := ⟨0, fun _ _ => by unfold tallboyref27_Encode.f; rw [if_pos hb]⟩
theorem lt_of_vl (c v : Nat) (h : vl c = some v) : B64.lt v = c := by
  unfold vl at h
  unfold B64.lt
  split at h
  · injection h with h; subst h; rw [if_pos (by omega)]; omega
  · split at h
    · injection h with h; subst h; rw [if_neg (by omega), if_pos (by omega)]; omega
    · split at h
      · injection h with h; subst h; rw [if_neg (by omega), if_neg (by omega), if_pos (by omega)]; omega
      · split at h
        · injection h with h; subst h; rw [if_neg (by omega), if_neg (by omega), if_neg (by omega), if_pos rfl]; omega
        · split at h
          · injection h with h; subst h; rw [if_neg (by omega), if_neg (by omega), if_neg (by omega), if_neg (by omega)]; omega
          · cases h
def seen (c j : Nat) : Int := match vl c with
  | some v => if v < j then (v : Int) else -1
  | none => -1
theorem seen_yes (c j : Nat) (h : vl c = some j) : seen c (j + 1) = (j : Int) := by unfold seen; rw [h]; simp
theorem seen_no (c j : Nat) (h : vl c ≠ some j) : seen c (j + 1) = seen c j := by
  unfold seen
  cases hv : vl c with
  | none => rfl
  | some v =>
    have : v ≠ j := fun e => h (by rw [hv, e])
    by_cases h1 : v < j
    · simp only; rw [if_pos (by omega), if_pos h1]
    · simp only; rw [if_neg (by omega), if_neg h1]
def nums (l : List UInt8) : List Int := l.map fun b => (b.toNat : Int)
theorem str_nums (l : List UInt8) : strOfNums (nums l) = ba l := by
  unfold strOfNums nums ba
  congr 1
  rw [List.map_map]
  congr 1
  conv => rhs; rw [← List.map_id l]
  apply List.map_congr_left
  intro b _
  show UInt8.ofNat ((b.toNat : Int)).toNat = b
  rw [Int.toNat_natCast, UInt8.ofNat_toNat]
theorem nums_length (l : List UInt8) : (nums l).length = l.length := by unfold nums; rw [List.length_map]
theorem nums_append (a b : List UInt8) : nums a ++ nums b = nums (a ++ b) := by unfold nums; rw [List.map_append]
theorem num_of (n : Nat) (h : n < 256) : ((UInt8.ofNat n).toNat : Int) = (n : Int) := by rw [UInt8.toNat_ofNat']; omega

section
variable (s : ByteArray) (hs : s.size ≤ 1099511627000)
include hs
omit hs in
theorem find_loop (x4 : List Int) (x5 x6 : Int) (i : Nat) (c : UInt8) (hc : s.data.toList[i]? = some c) (hi : i < s.size) {r : ByteArray × Int}
    (h : Ev (fun k => tallboyref27_Decode.l1 k s x4 x5 x6 (i : Int) (seen c.toNat 64) ((64 : Nat) : Int)) r) (d : Nat) : ∀ j, j + d = 64 → Ev (fun k => tallboyref27_Decode.l1 k s x4 x5 x6 (i : Int) (seen c.toNat j) (j : Int)) r := by
  induction d with
  | zero =>
    intro j hj
    obtain rfl : j = 64 := by omega
    exact h
  | succ d ih =>
    intro j hj
    refine Ev.step (fun k => ?_) (ih (j + 1) (by omega))
    simp only [tallboyref27_Decode.l1]
    rw [if_pos (by omega), if_pos (by omega), if_pos (by omega), if_pos (by omega), bt_at_ j (by omega), meta_Decode.bt_list s i c hc, wrap_succ j (by omega)]
    by_cases hv : vl c.toNat = some j
    · have := lt_of_vl _ _ hv
      rw [if_pos (by omega), seen_yes _ _ hv]
    · have : B64.lt j ≠ c.toNat := fun e => hv (by rw [← e]; exact vl_lt j (by omega))
      rw [if_neg (by omega), seen_no _ _ hv]
def Inv (s : ByteArray) (i : Nat) (ys : List UInt8) (n k : Nat) : Prop := ∀ B, B64.enc B = s.data.toList →
  ∃ j, i = 4 * j + k ∧ ys = B.take (3 * j) ∧ 3 * j ≤ B.length ∧ n = B64.word (B.drop (3 * j)) / 64 ^ (4 - k) ∧ (0 < k → 3 * j < B.length ∧ k ≤ B.length - 3 * j + 1)
omit hs in
theorem enc_at (B : List UInt8) (j k : Nat) (hj : 3 * j < B.length) (hk : k < 4) : (B64.enc B)[4 * j + k]? = (B64.four (B.drop (3 * j)))[k]? := by
  have ht : (B.take (3 * j)).length = 3 * j := by rw [List.length_take]; omega
  have e := B64.enc_append (B.take (3 * j)) (B.drop (3 * j)) (by rw [ht]; omega)
  rw [List.take_append_drop] at e
  have hl : (B64.enc (B.take (3 * j))).length = 4 * j := by rw [B64.enc_length, ht]; omega
  rw [e, List.getElem?_append_right (by omega), hl, show 4 * j + k - 4 * j = k from by omega]
  rw [B64.enc_step _ (by intro e0; have := congrArg List.length e0; rw [List.length_drop] at this; simp at this; omega), List.getElem?_append_left (by rw [B64.four_length]; exact hk)]
omit hs in
theorem right_at (B : List UInt8) (hB : B64.enc B = s.data.toList) (j k : Nat) (c : UInt8) (hk : k < 4) (h3 : 3 * j ≤ B.length) (hc : s.data.toList[4 * j + k]? = some c) :
    3 * j < B.length ∧ (B64.four (B.drop (3 * j)))[k]? = some c := by
  have hl : 4 * j + k < s.data.toList.length := by
    rcases Nat.lt_or_ge (4 * j + k) s.data.toList.length with h | h
    · exact h
    · rw [List.getElem?_eq_none h] at hc; cases hc
  rw [← hB, B64.enc_length] at hl
  have h3' : 3 * j < B.length := by omega
  refine ⟨h3', ?_⟩
  rw [← enc_at B j k h3' hk, hB]
  exact hc
omit hs in
theorem four_letter (l : List UInt8) (k : Nat) (c : UInt8) (hk : k < 4) (hl : 1 ≤ l.length) (h : (B64.four l)[k]? = some c) (hc : c ≠ 61) : c = B64.let8 (B64.word l / 64 ^ (3 - k) % 64) ∧ k ≤ l.length := by
  have hw := B64.word_lt l
  have : k = 0 ∨ k = 1 ∨ k = 2 ∨ k = 3 := by omega
  rcases this with rfl | rfl | rfl | rfl
  · have e : (B64.four l)[0]? = some (B64.let8 (B64.word l / 262144)) := rfl
    rw [e] at h; injection h with h
    exact ⟨by rw [← h]; congr 1; rw [show (64 ^ (3 - 0) : Nat) = 262144 from rfl]; omega, by omega⟩
  · have e : (B64.four l)[1]? = some (B64.let8 (B64.word l / 4096 % 64)) := rfl
    rw [e] at h; injection h with h
    exact ⟨h.symm, by omega⟩
  · have e : (B64.four l)[2]? = some (if 1 < l.length then B64.let8 (B64.word l / 64 % 64) else 61) := rfl
    rw [e] at h; injection h with h
    by_cases h1 : 1 < l.length
    · rw [if_pos h1] at h
      exact ⟨h.symm, by omega⟩
    · rw [if_neg h1] at h; exact absurd h.symm hc
  · have e : (B64.four l)[3]? = some (if 2 < l.length then B64.let8 (B64.word l % 64) else 61) := rfl
    rw [e] at h; injection h with h
    by_cases h1 : 2 < l.length
    · rw [if_pos h1] at h
      exact ⟨by rw [← h]; congr 1; rw [show (64 ^ (3 - 3) : Nat) = 1 from rfl]; omega, by omega⟩
    · rw [if_neg h1] at h; exact absurd h.symm hc
omit hs in
theorem four_fill (l : List UInt8) (k : Nat) (hk : k < 4) (hl : 1 ≤ l.length) (h : (B64.four l)[k]? = some 61) (hkl : k ≤ l.length + 1) : k = l.length + 1 := by
  have hw := B64.word_lt l
  have : k = 0 ∨ k = 1 ∨ k = 2 ∨ k = 3 := by omega
  rcases this with rfl | rfl | rfl | rfl
  · have e : (B64.four l)[0]? = some (B64.let8 (B64.word l / 262144)) := rfl
    rw [e] at h; injection h with h; exact absurd h (B64.let8_ne _ (by omega))
  · have e : (B64.four l)[1]? = some (B64.let8 (B64.word l / 4096 % 64)) := rfl
    rw [e] at h; injection h with h; exact absurd h (B64.let8_ne _ (by omega))
  · have e : (B64.four l)[2]? = some (if 1 < l.length then B64.let8 (B64.word l / 64 % 64) else 61) := rfl
    rw [e] at h; injection h with h
    by_cases h1 : 1 < l.length
    · rw [if_pos h1] at h; exact absurd h (B64.let8_ne _ (by omega))
    · omega
  · have e : (B64.four l)[3]? = some (if 2 < l.length then B64.let8 (B64.word l % 64) else 61) := rfl
    rw [e] at h; injection h with h
    by_cases h1 : 2 < l.length
    · rw [if_pos h1] at h; exact absurd h (B64.let8_ne _ (by omega))
    · omega
noncomputable def told (s : ByteArray) : ByteArray × Int := match B64.dec s.data.toList with
  | some b => (ba b, 0)
  | none => (⟨#[]⟩, 6)
omit hs in
theorem end_ev (y : List UInt8) (hy : y.length ≤ 1099511627776) (h : ∀ B, B64.enc B = s.data.toList → y = B) :
    Ev (fun k => (tallboyref27_Encode.f (ba y)).bind fun t => (if t.toList = s.toList then (some (ba y, 0)) else (some ((⟨#[]⟩ : ByteArray), 6)))) (told s) := by
  have he := ref_encode (ba y) (by rw [ba_size]; exact hy)
  refine Ev.bind he ?_
  unfold told
  by_cases hB : ∃ B, B64.enc B = s.data.toList
  · obtain ⟨B, hB⟩ := hB
    obtain rfl := h B hB
    rw [B64.dec_of _ _ hB]
    refine ⟨0, fun _ _ => ?_⟩
    rw [if_pos]
    rw [ByteArray.toList_eq, ByteArray.toList_eq, ← hB]
  · rw [B64.dec_none _ hB]
    refine ⟨0, fun _ _ => ?_⟩
    rw [if_neg]
    intro e
    rw [ByteArray.toList_eq, ByteArray.toList_eq] at e
    refine hB ⟨y, ?_⟩
    rw [← e]
omit hs in
theorem drop_bytes (B : List UInt8) (j : Nat) : B64.word (B.drop (3 * j)) = (B.getD (3 * j) 0).toNat * 65536 + (B.getD (3 * j + 1) 0).toNat * 256 + (B.getD (3 * j + 2) 0).toNat := by
  unfold B64.word
  rw [List.getD_eq_getElem?_getD, List.getD_eq_getElem?_getD, List.getD_eq_getElem?_getD, List.getElem?_drop, List.getElem?_drop, List.getElem?_drop,
    ← List.getD_eq_getElem?_getD, ← List.getD_eq_getElem?_getD, ← List.getD_eq_getElem?_getD]
  rfl
omit hs in
theorem take_one (B : List UInt8) (n : Nat) (h : n < B.length) (u : Nat) (e : u = (B.getD n 0).toNat) : B.take n ++ [UInt8.ofNat u] = B.take (n + 1) := by
  rw [List.take_add_one, List.getElem?_eq_getElem h, e, List.getD_eq_getElem?_getD, List.getElem?_eq_getElem h]
  show _ ++ [UInt8.ofNat (B[n]).toNat] = _ ++ [B[n]]
  rw [UInt8.ofNat_toNat]
omit hs in
theorem inv_letter (i : Nat) (ys : List UInt8) (n k v : Nat) (c : UInt8) (hk : k < 4) (hc : s.data.toList[i]? = some c) (hv : vl c.toNat = some v) (hI : Inv s i ys n k) :
    ∀ B, B64.enc B = s.data.toList → ∃ j, i = 4 * j + k ∧ ys = B.take (3 * j) ∧ 3 * j < B.length ∧ k ≤ B.length - 3 * j ∧ n * 64 + v = B64.word (B.drop (3 * j)) / 64 ^ (3 - k) := by
  intro B hB
  obtain ⟨j, rfl, rfl, h3, rfl, hp⟩ := hI B hB
  obtain ⟨h3', hf⟩ := right_at s B hB j k c hk h3 hc
  have hne : c ≠ 61 := by intro e; rw [e] at hv; exact absurd hv (show vl 61 ≠ some v by rw [show vl 61 = none from rfl]; exact fun h => by cases h)
  have hl : (B.drop (3 * j)).length = B.length - 3 * j := List.length_drop ..
  obtain ⟨he, hkl⟩ := four_letter (B.drop (3 * j)) k c hk (by omega) hf hne
  refine ⟨j, rfl, rfl, h3', by omega, ?_⟩
  have hw := B64.word_lt (B.drop (3 * j))
  have hv' : v = B64.word (B.drop (3 * j)) / 64 ^ (3 - k) % 64 := by
    have hm : B64.word (B.drop (3 * j)) / 64 ^ (3 - k) % 64 < 64 := Nat.mod_lt _ (by decide)
    rw [he, B64.let8_toNat _ hm, vl_lt _ hm] at hv
    injection hv with hv; exact hv.symm
  rw [hv', show 4 - k = (3 - k) + 1 from by omega, Nat.pow_succ, ← Nat.div_div_eq_div_mul]
  omega
omit hs in
theorem inv_next (i : Nat) (ys : List UInt8) (n k v : Nat) (c : UInt8) (hk : k < 3) (hc : s.data.toList[i]? = some c) (hv : vl c.toNat = some v) (hI : Inv s i ys n k) :
    Inv s (i + 1) ys (n * 64 + v) (k + 1) := by
  intro B hB
  obtain ⟨j, rfl, rfl, h3, hkl, e⟩ := inv_letter s i ys n k v c (by omega) hc hv hI B hB
  exact ⟨j, by omega, rfl, by omega, by rw [e, show 4 - (k + 1) = 3 - k from by omega], fun _ => ⟨h3, by omega⟩⟩
omit hs in
theorem inv_four (i : Nat) (ys : List UInt8) (n v : Nat) (c : UInt8) (hc : s.data.toList[i]? = some c) (hv : vl c.toNat = some v) (hI : Inv s i ys n 3) :
    Inv s (i + 1) (ys ++ [UInt8.ofNat ((n * 64 + v) / 65536 % 256), UInt8.ofNat ((n * 64 + v) / 256 % 256), UInt8.ofNat ((n * 64 + v) % 256)]) 0 0 := by
  intro B hB
  obtain ⟨j, rfl, rfl, h3, hkl, e⟩ := inv_letter s i ys n 3 v c (by omega) hc hv hI B hB
  rw [show (64 ^ (3 - 3) : Nat) = 1 from rfl, Nat.div_one, drop_bytes B j] at e
  have b0 := (B.getD (3 * j) 0).toNat_lt
  have b1 := (B.getD (3 * j + 1) 0).toNat_lt
  have b2 := (B.getD (3 * j + 2) 0).toNat_lt
  refine ⟨j + 1, by omega, ?_, by omega, ?_, fun h => absurd h (by omega)⟩
  · rw [e, show 3 * (j + 1) = 3 * j + 2 + 1 from by omega,
      ← take_one B (3 * j + 2) (by omega) _ (show ((B.getD (3 * j) 0).toNat * 65536 + (B.getD (3 * j + 1) 0).toNat * 256 + (B.getD (3 * j + 2) 0).toNat) % 256 = _ by omega),
      ← take_one B (3 * j + 1) (by omega) _ (show ((B.getD (3 * j) 0).toNat * 65536 + (B.getD (3 * j + 1) 0).toNat * 256 + (B.getD (3 * j + 2) 0).toNat) / 256 % 256 = _ by omega),
      ← take_one B (3 * j) (by omega) _ (show ((B.getD (3 * j) 0).toNat * 65536 + (B.getD (3 * j + 1) 0).toNat * 256 + (B.getD (3 * j + 2) 0).toNat) / 65536 % 256 = _ by omega),
      List.append_assoc, List.append_assoc]
    rfl
  · have := B64.word_lt (B.drop (3 * (j + 1)))
    rw [show (64 ^ (4 - 0) : Nat) = 16777216 from rfl]; omega
def fin (ys : List UInt8) (n k : Nat) : List UInt8 := if k = 2 then ys ++ [UInt8.ofNat (n / 16 % 256)] else if k = 3 then ys ++ [UInt8.ofNat (n / 1024 % 256), UInt8.ofNat (n / 4 % 256)] else ys
omit hs in
theorem inv_stop (i : Nat) (ys : List UInt8) (n k : Nat) (hk : k < 4) (hst : s.data.toList[i]? = some 61 ∨ i = s.size) (hI : Inv s i ys n k) :
    ∀ B, B64.enc B = s.data.toList → fin ys n k = B := by
  intro B hB
  obtain ⟨j, rfl, rfl, h3, rfl, hp⟩ := hI B hB
  have hl : (B.drop (3 * j)).length = B.length - 3 * j := List.length_drop ..
  have b0 := (B.getD (3 * j) 0).toNat_lt
  have b1 := (B.getD (3 * j + 1) 0).toNat_lt
  have b2 := (B.getD (3 * j + 2) 0).toNat_lt
  rcases hst with hst | hst
  · obtain ⟨h3', hf⟩ := right_at s B hB j k 61 hk h3 hst
    have hq := four_fill (B.drop (3 * j)) k hk (by omega) hf (by
      rcases Nat.eq_zero_or_pos k with h0 | h0
      · omega
      · have := hp h0; omega)
    have : k = 2 ∨ k = 3 := by omega
    unfold fin
    rcases this with rfl | rfl
    · rw [if_pos rfl, drop_bytes B j, show (64 ^ (4 - 2) : Nat) = 4096 from rfl]
      rw [take_one B (3 * j) (by omega) _ (by omega), List.take_of_length_le (by omega)]
    · rw [if_neg (by omega), if_pos rfl, drop_bytes B j, show (64 ^ (4 - 3) : Nat) = 64 from rfl]
      have t1 := take_one B (3 * j) (by omega) (((B.getD (3 * j) 0).toNat * 65536 + (B.getD (3 * j + 1) 0).toNat * 256 + (B.getD (3 * j + 2) 0).toNat) / 64 / 1024 % 256) (by omega)
      have t2 := take_one B (3 * j + 1) (by omega) (((B.getD (3 * j) 0).toNat * 65536 + (B.getD (3 * j + 1) 0).toNat * 256 + (B.getD (3 * j + 2) 0).toNat) / 64 / 4 % 256) (by omega)
      rw [show ∀ (l : List UInt8) (x y : UInt8), l ++ [x, y] = (l ++ [x]) ++ [y] from fun l x y => by rw [List.append_assoc]; rfl, t1, t2, List.take_of_length_le (by omega)]
  · have hlen : s.size = (B.length + 2) / 3 * 4 := by rw [← dsz', ← hB, B64.enc_length]
    have : k = 0 := by omega
    subst this
    unfold fin
    rw [if_neg (by omega), if_neg (by omega), List.take_of_length_le (by omega)]
theorem fin_ev (i : Nat) (ys : List UInt8) (n k : Nat) (hk : k < 4) (hy : ys.length ≤ i) (hi : i ≤ s.size) (hn : n < 16777216) (hst : s.data.toList[i]? = some 61 ∨ i = s.size) (hI : Inv s i ys n k) :
    Ev (fun q => tallboyref27_Decode.j1 q s (nums ys) (n : Int) (k : Int) (i : Int) false) (told s) := by
  have hfin := inv_stop s i ys n k hk hst hI
  have hlen : (fin ys n k).length ≤ ys.length + 2 := by
    unfold fin
    split
    · rw [List.length_append]; simp
    · split
      · rw [List.length_append]; simp
      · omega
  have hend := end_ev s (fin ys n k) (by omega) hfin
  refine Ev.step (fun q => ?_) hend
  simp only [tallboyref27_Decode.j1]
  rw [if_neg Bool.false_ne_true]
  unfold fin
  by_cases h2 : k = 2
  · subst h2
    rw [if_pos (by rfl), if_pos rfl, nums_length, if_pos (by omega), show Int.tdiv (n : Int) 16 = ((n / 16 : Nat) : Int) from rfl, wrap_nat _ (by omega)]
    rw [show (nums ys ++ [((n / 16 : Nat) : Int) % 256]) = nums (ys ++ [UInt8.ofNat (n / 16 % 256)]) from by
      rw [← nums_append]; congr 1; show _ = [((UInt8.ofNat (n / 16 % 256)).toNat : Int)]; rw [num_of _ (by omega)]; rfl]
    rw [Option.bind_some, str_nums]
  · rw [if_neg (by omega), if_neg h2]
    by_cases h3 : k = 3
    · subst h3
      rw [if_pos (by rfl), if_pos rfl, Option.bind_some, nums_length, if_pos (by show ys.length + 2 < _; omega), show Int.tdiv (n : Int) 1024 = ((n / 1024 : Nat) : Int) from rfl, show Int.tdiv (n : Int) 4 = ((n / 4 : Nat) : Int) from rfl, wrap_nat _ (by omega), wrap_nat _ (by omega)]
      rw [show (nums ys ++ [((n / 1024 : Nat) : Int) % 256, Int.tmod ((n / 4 : Nat) : Int) 256 % 256]) = nums (ys ++ [UInt8.ofNat (n / 1024 % 256), UInt8.ofNat (n / 4 % 256)]) from by
        rw [← nums_append]; congr 1; show _ = [((UInt8.ofNat (n / 1024 % 256)).toNat : Int), ((UInt8.ofNat (n / 4 % 256)).toNat : Int)]; rw [num_of _ (by omega), num_of _ (by omega)]
        rw [show Int.tmod ((n / 4 : Nat) : Int) 256 = ((n / 4 % 256 : Nat) : Int) from rfl]
        congr 1; congr 1; omega]
      rw [Option.bind_some, str_nums]
    · rw [if_neg (by omega), if_neg h3, str_nums]
omit hs in
theorem nv (n v : Nat) (h : n < 262144) (hv : v < 64) : n * 64 + v < 16777216 := by omega
omit hs in
theorem nv2 (n v P : Nat) (h : n < P) (hv : v < 64) : n * 64 + v < P * 64 := by omega
omit hs in
theorem lt_pow3 (n k : Nat) (hk : k < 4) (h : n < 64 ^ k) : n < 262144 := Nat.lt_of_lt_of_le h (Nat.pow_le_pow_right (by decide) (show k ≤ 3 by omega))
omit hs in
theorem w_mul (n : Nat) (h : n < 262144) : wrap64 ((n : Int) * 64) = ((n * 64 : Nat) : Int) := by unfold wrap64; omega
omit hs in
theorem w_add (n v : Nat) (h : n < 262144) (hv : v < 64) : wrap64 (((n * 64 : Nat) : Int) + (v : Int)) = ((n * 64 + v : Nat) : Int) := by unfold wrap64; omega
omit hs in
theorem w_34 : wrap64 (((3 : Nat) : Int) + 1) = 4 := by unfold wrap64; omega
omit hs in
theorem len3 (ys : List UInt8) (i : Nat) (a b c : UInt8) (h : ys.length ≤ i) : (ys ++ [a, b, c]).length ≤ i + 1 + 2 := by rw [List.length_append]; show ys.length + 3 ≤ _; omega
theorem ref_dec_loop (d : Nat) : ∀ (i : Nat) (ys : List UInt8) (n k : Nat), i + d = s.size → k < 4 → ys.length + k ≤ i → n < 64 ^ k → Inv s i ys n k →
    Ev (fun q => tallboyref27_Decode.l0 q s (nums ys) (n : Int) (k : Int) (i : Int)) (told s) := by
  induction d with
  | zero =>
    intro i ys n k hi hk hy hn hI
    have hn' : n < 16777216 := Nat.lt_of_lt_of_le (lt_pow3 n k hk hn) (by decide)
    refine Ev.step (fun q => ?_) (fin_ev s hs i ys n k hk (by omega) (by omega) hn' (Or.inr (by omega)) hI)
    simp only [tallboyref27_Decode.l0]
    rw [if_neg (by omega)]
  | succ d ih =>
    intro i ys n k hi hk hy hn hI
    have hn' : n < 262144 := lt_pow3 n k hk hn
    have hil : i < s.data.toList.length := by rw [dsz']; omega
    have hc := List.getElem?_eq_getElem hil
    generalize s.data.toList[i] = c at hc
    by_cases hq : c = 61
    · subst hq
      refine Ev.step (fun q => ?_) (fin_ev s hs i ys n k hk (by omega) (by omega) (by omega) (Or.inl hc) hI)
      simp only [tallboyref27_Decode.l0]
      rw [if_pos (by omega), if_pos (by omega), meta_Decode.bt_list s i 61 hc]
      rfl
    · have hq' : (((c.toNat : Int)) != 61) = true := by
        rw [bne_iff_ne]; intro e; apply hq; apply UInt8.toNat_inj.mp; show c.toNat = 61; omega
      refine Ev.step (f := fun q => tallboyref27_Decode.j1 q s (nums ys) (n : Int) (k : Int) (i : Int) true) (fun q => ?_) ?_
      · simp only [tallboyref27_Decode.l0]
        rw [if_pos (by omega), if_pos (by omega), meta_Decode.bt_list s i c hc, hq']
      refine Ev.step (f := fun q => tallboyref27_Decode.l1 q s (nums ys) (n : Int) (k : Int) (i : Int) (seen c.toNat 0) ((0 : Nat) : Int)) (fun q => ?_) ?_
      · simp only [tallboyref27_Decode.j1]
        rw [if_pos trivial]
        have : seen c.toNat 0 = -1 := by
          unfold seen; cases vl c.toNat with
          | none => rfl
          | some v => exact if_neg (by omega)
        rw [this]; rfl
      refine find_loop s (nums ys) (n : Int) (k : Int) i c hc (by omega) ?_ 64 0 rfl
      cases hv : vl c.toNat with
      | none =>
        have hse : seen c.toNat 64 = -1 := by unfold seen; rw [hv]
        rw [hse]
        refine ⟨1, fun q hq1 => ?_⟩
        obtain ⟨q, rfl⟩ : ∃ m, q = m + 1 := ⟨q - 1, by omega⟩
        simp only [tallboyref27_Decode.l1]
        rw [if_neg (by omega), if_pos (by omega)]
        have hno : ¬ ∃ B, B64.enc B = s.data.toList := by
          rintro ⟨B, hB⟩
          obtain ⟨j, rfl, rfl, h3, rfl, hp⟩ := hI B hB
          obtain ⟨h3', hf⟩ := right_at s B hB j k c hk h3 hc
          have hl : (B.drop (3 * j)).length = B.length - 3 * j := List.length_drop ..
          obtain ⟨he, hkl⟩ := four_letter (B.drop (3 * j)) k c hk (by omega) hf hq
          have hm : B64.word (B.drop (3 * j)) / 64 ^ (3 - k) % 64 < 64 := Nat.mod_lt _ (by decide)
          rw [he, B64.let8_toNat _ hm, vl_lt _ hm] at hv
          cases hv
        unfold told
        rw [B64.dec_none _ hno]
      | some v =>
        have hv64 := vl_range _ _ hv
        have hse : seen c.toNat 64 = (v : Int) := by unfold seen; rw [hv]; exact if_pos hv64
        rw [hse]
        have w1 := w_mul n hn'
        have w2 := w_add n v hn' hv64
        have hW : n * 64 + v < 16777216 := nv n v hn' hv64
        by_cases h3 : k = 3
        · subst h3
          have hI' := inv_four s i ys n v c hc hv hI
          generalize n * 64 + v = W at *
          refine Ev.step (fun q => ?_) (ih (i + 1) _ 0 0 (by omega) (by omega) (by have := len3 ys (i - 3) (UInt8.ofNat (W / 65536 % 256)) (UInt8.ofNat (W / 256 % 256)) (UInt8.ofNat (W % 256)) (by omega); omega) (by decide) hI')
          simp only [tallboyref27_Decode.l1, w1, w2]
          rw [if_neg (by omega), if_neg (by omega), if_pos w_34, Option.bind_some, nums_length, if_pos (by show ys.length + 3 < _; omega), wrap_succ i (by omega)]
          rw [show Int.tdiv (W : Int) 65536 = ((W / 65536 : Nat) : Int) from rfl, show Int.tdiv (W : Int) 256 = ((W / 256 : Nat) : Int) from rfl, wrap_nat _ (by omega), wrap_nat _ (by omega)]
          rw [← nums_append]
          have hb : nums [UInt8.ofNat (W / 65536 % 256), UInt8.ofNat (W / 256 % 256), UInt8.ofNat (W % 256)] = [((W / 65536 : Nat) : Int) % 256, Int.tmod ((W / 256 : Nat) : Int) 256 % 256, Int.tmod (W : Int) 256 % 256] := by
            show [((UInt8.ofNat (W / 65536 % 256)).toNat : Int), ((UInt8.ofNat (W / 256 % 256)).toNat : Int), ((UInt8.ofNat (W % 256)).toNat : Int)] = _
            rw [num_of _ (by omega), num_of _ (by omega), num_of _ (by omega)]
            rw [show Int.tmod ((W / 256 : Nat) : Int) 256 = ((W / 256 % 256 : Nat) : Int) from rfl, show Int.tmod (W : Int) 256 = ((W % 256 : Nat) : Int) from rfl]
            congr 1; congr 1
            · omega
            · congr 1; omega
          rw [hb]; rfl
        · have hI' := inv_next s i ys n k v c (by omega) hc hv hI
          have hn2 : n * 64 + v < 64 ^ (k + 1) := by rw [Nat.pow_succ]; exact nv2 n v _ hn hv64
          generalize n * 64 + v = W at *
          refine Ev.step (fun q => ?_) (ih (i + 1) ys W (k + 1) (by omega) (by omega) (by omega) hn2 hI')
          simp only [tallboyref27_Decode.l1, w1, w2]
          rw [if_neg (by omega), if_neg (by omega), wrap_succ k (by omega), if_neg (by omega), wrap_succ i (by omega)]
theorem ref_decode : Ev (fun k => tallboyref27_Decode.f k s) (told s) :=
  ref_dec_loop s hs s.size 0 [] 0 0 (by omega) (by omega) (by simp) (by decide) (by
    intro B hB
    exact ⟨0, rfl, rfl, by omega, by have := B64.word_lt (B.drop (3 * 0)); rw [show (64 ^ (4 - 0) : Nat) = 16777216 from rfl]; omega, fun h => absurd h (by omega)⟩)
end
theorem meta_decode (s : ByteArray) (hs : s.size ≤ 1000000) : meta_Decode.f s = some (told s) := by
  unfold meta_Decode.f told
  rw [if_pos (by omega)]
  cases B64.dec s.data.toList <;> rfl
end Go.Proofs.YtfboejlemnfndaaGreatDoor.XMr.D64
end
section
namespace Go.Proofs.YtfboejlemnfndaaGreatDoor.XMr
open Go.RowKit Go.Proofs.YtfboejlemnfndaaGreatDoorW.PrintWords Go.Proofs.YtfboejlemnfndaaGreatDoorW.PrintLast Go.Proofs.YtfboejlemnfndaaGreatDoorW.PrintMore
set_option linter.unusedVariables false
set_option linter.unusedSimpArgs false

theorem ev_uniq {α : Type} {g : Nat → Option α} {a b : α} (h : Ev g a) (h' : Ev g b) : a = b := by
  obtain ⟨K, h⟩ := h
  obtain ⟨K', h'⟩ := h'
  have h1 := h (max K K') (by omega)
  rw [h' (max K K') (by omega)] at h1
  exact (Option.some.inj h1).symm
theorem ev_end {α : Type} {g : Nat → Option α} {r : α} (h : ∀ k, g (k + 1) = some r) : Ev g r := Ev.step (f := fun _ => some r) h (Ev.now r)
theorem ev_has_l (s : ByteArray) (hs : s.size ≤ 1000000) (c : Int) : ∀ n i : Nat, n + i = s.size → Ev (fun k => tallboyref27_has.l0 k s c (i : Int)) ((s.data.toList.drop i).any fun b => (b.toNat : Int) == c)
  | 0, i, h => by
    rw [List.drop_of_length_le (by rw [← Lib.size_eq]; omega)]
    exact ev_end (fun k => by simp only [tallboyref27_has.l0]; rw [if_neg (by omega)]; rfl)
  | n + 1, i, h => by
    have hi : i < s.data.toList.length := by rw [← Lib.size_eq]; omega
    have ih := ev_has_l s hs c n (i + 1) (by omega)
    rw [List.drop_eq_getElem_cons hi, List.any_cons]
    by_cases hc : ((s.data.toList[i]).toNat : Int) = c
    · rw [show (((s.data.toList[i]).toNat : Int) == c) = true from beq_iff_eq.2 hc, Bool.true_or]
      exact ev_end (fun k => by simp only [tallboyref27_has.l0]; rw [if_pos (by omega), if_pos (by omega), bt_list s i hi, if_pos hc])
    · rw [show (((s.data.toList[i]).toNat : Int) == c) = false from beq_eq_false_iff_ne.2 hc, Bool.false_or]
      exact Ev.step (fun k => by simp only [tallboyref27_has.l0]; rw [if_pos (by omega), if_pos (by omega), bt_list s i hi, if_neg hc, wrap_at i (by omega)]) ih
theorem ev_has (s : ByteArray) (hs : s.size ≤ 1000000) (c : Int) : Ev (fun k => tallboyref27_has.f k s c) (s.data.toList.any fun b => (b.toNat : Int) == c) := by
  have := ev_has_l s hs c s.size 0 (by omega)
  rw [List.drop_zero] at this
  exact this
def keyC (c : UInt8) : Bool := decide (33 ≤ c.toNat ∧ c.toNat ≤ 126)
def keyOk (s : ByteArray) : Bool := decide (1 ≤ s.size ∧ s.size ≤ 32) && s.data.toList.all keyC
theorem ev_key4_l (s : ByteArray) (hs : s.size ≤ 1000000) : ∀ (n i : Nat) (b : Bool), n + i = s.size → Ev (fun k => tallboyref04_Key.l0 k s b (i : Int)) (b && (s.data.toList.drop i).all keyC)
  | 0, i, b, h => by
    rw [List.drop_of_length_le (by rw [← Lib.size_eq]; omega)]
    exact ev_end (fun k => by simp only [tallboyref04_Key.l0]; rw [if_neg (by omega)]; simp)
  | n + 1, i, b, h => by
    have hi : i < s.data.toList.length := by rw [← Lib.size_eq]; omega
    cases b with
    | false => exact ev_end (fun k => by simp only [tallboyref04_Key.l0]; rw [if_pos (by omega)]; simp)
    | true =>
      rw [List.drop_eq_getElem_cons hi, List.all_cons, Bool.true_and]
      have hlt := (s.data.toList[i]).toNat_lt
      by_cases h1 : ((s.data.toList[i]).toNat : Int) ≥ 33
      · have ih := ev_key4_l s hs n (i + 1) (decide (((s.data.toList[i]).toNat : Int) ≤ 126)) (by omega)
        rw [show keyC s.data.toList[i] = decide (((s.data.toList[i]).toNat : Int) ≤ 126) from by unfold keyC; rw [decide_eq_decide]; omega]
        exact Ev.step (fun k => by simp only [tallboyref04_Key.l0]; rw [if_pos (by omega), if_pos trivial, if_pos (by omega), bt_list s i hi, if_pos h1, wrap_at i (by omega)]) ih
      · have ih := ev_key4_l s hs n (i + 1) false (by omega)
        rw [Bool.false_and] at ih
        rw [show keyC s.data.toList[i] = false from by unfold keyC; rw [decide_eq_false_iff_not]; omega, Bool.false_and]
        exact Ev.step (fun k => by simp only [tallboyref04_Key.l0]; rw [if_pos (by omega), if_pos trivial, if_pos (by omega), bt_list s i hi, if_neg h1, wrap_at i (by omega)]) ih
theorem ev_key4 (s : ByteArray) (hs : s.size ≤ 1000000) : Ev (fun k => tallboyref04_Key.f k s) (keyOk s) := by
  have hl : ∀ b, Ev (fun k => tallboyref04_Key.j0 k s b) (b && s.data.toList.all keyC) := by
    intro b
    have := ev_key4_l s hs s.size 0 b (by omega)
    rw [List.drop_zero] at this
    exact Ev.step (fun k => by simp only [tallboyref04_Key.j0]; rfl) this
  by_cases h1 : (s.size : Int) ≥ 1
  · have := hl (decide ((s.size : Int) ≤ 32))
    rw [show decide ((s.size : Int) ≤ 32) = decide (1 ≤ s.size ∧ s.size ≤ 32) from by rw [decide_eq_decide]; omega] at this
    exact Ev.congr (fun k => by unfold tallboyref04_Key.f; rw [if_pos h1, show decide ((s.size : Int) ≤ 32) = decide (1 ≤ s.size ∧ s.size ≤ 32) from by rw [decide_eq_decide]; omega]) this
  · have := hl false
    rw [show false = decide (1 ≤ s.size ∧ s.size ≤ 32) from by rw [eq_comm, decide_eq_false_iff_not]; omega] at this
    exact Ev.congr (fun k => by unfold tallboyref04_Key.f; rw [if_neg h1, show false = decide (1 ≤ s.size ∧ s.size ≤ 32) from by rw [eq_comm, decide_eq_false_iff_not]; omega]) this
theorem ev_keyF_l (s : ByteArray) (hs : s.size ≤ 1000000) : ∀ (n i : Nat), n + i = s.size → Ev (fun k => fnv_Key.l0 k s (s.size : Int) (i : Int)) ((s.data.toList.drop i).all keyC)
  | 0, i, h => by
    rw [List.drop_of_length_le (by rw [← Lib.size_eq]; omega)]
    exact ev_end (fun k => by simp only [fnv_Key.l0]; rw [if_neg (by omega)]; rfl)
  | n + 1, i, h => by
    have hi : i < s.data.toList.length := by rw [← Lib.size_eq]; omega
    have ih := ev_keyF_l s hs n (i + 1) (by omega)
    rw [List.drop_eq_getElem_cons hi, List.all_cons]
    by_cases h1 : ((s.data.toList[i]).toNat : Int) < 33
    · rw [show keyC s.data.toList[i] = false from by unfold keyC; rw [decide_eq_false_iff_not]; omega, Bool.false_and]
      exact ev_end (fun k => by simp only [fnv_Key.l0]; rw [if_pos (by omega), if_pos (by omega), if_pos (by omega), bt_list s i hi, if_pos h1])
    · by_cases h2 : ((s.data.toList[i]).toNat : Int) > 126
      · rw [show keyC s.data.toList[i] = false from by unfold keyC; rw [decide_eq_false_iff_not]; omega, Bool.false_and]
        exact ev_end (fun k => by simp only [fnv_Key.l0]; rw [if_pos (by omega), if_pos (by omega), if_pos (by omega), bt_list s i hi, if_neg h1, if_pos h2])
      · rw [show keyC s.data.toList[i] = true from by unfold keyC; rw [decide_eq_true_eq]; omega, Bool.true_and]
        exact Ev.step (fun k => by simp only [fnv_Key.l0]; rw [if_pos (by omega), if_pos (by omega), if_pos (by omega), bt_list s i hi, if_neg h1, if_neg h2, wrap_at i (by omega)]) ih
theorem ev_keyF (s : ByteArray) (hs : s.size ≤ 1000000) : Ev (fun k => fnv_Key.f k s) (keyOk s) := by
  have hT : Ev (fun k => fnv_Key.j0 k s true) false := ev_end (fun k => by simp only [fnv_Key.j0, if_true])
  have hF : Ev (fun k => fnv_Key.j0 k s false) (s.data.toList.all keyC) := by
    have := ev_keyF_l s hs s.size 0 (by omega)
    rw [List.drop_zero] at this
    exact Ev.step (fun k => by simp only [fnv_Key.j0, Bool.false_eq_true, if_false]; rfl) this
  unfold keyOk
  by_cases h0 : s.toList = ([] : List UInt8)
  · have hz : s.size = 0 := by rw [ByteArray.toList_eq] at h0; rw [Lib.size_eq, h0]; rfl
    rw [show decide (1 ≤ s.size ∧ s.size ≤ 32) = false from by rw [decide_eq_false_iff_not]; omega, Bool.false_and]
    exact Ev.congr (fun k => by unfold fnv_Key.f; rw [if_pos h0]) hT
  · have hz : 1 ≤ s.size := by rw [ByteArray.toList_eq] at h0; rw [Lib.size_eq]; exact List.length_pos_iff.2 h0
    by_cases h1 : (s.size : Int) > 32
    · rw [show decide (1 ≤ s.size ∧ s.size ≤ 32) = false from by rw [decide_eq_false_iff_not]; omega, Bool.false_and]
      exact Ev.congr (fun k => by unfold fnv_Key.f; rw [if_neg h0, decide_eq_true h1]) hT
    · rw [show decide (1 ≤ s.size ∧ s.size ≤ 32) = true from by rw [decide_eq_true_eq]; omega, Bool.true_and]
      exact Ev.congr (fun k => by unfold fnv_Key.f; rw [if_neg h0, decide_eq_false h1]) hF
theorem ev_dig_l (s : ByteArray) (hs : s.size ≤ 1000000) {r : Int × Int} : ∀ (n i : Nat) (b : Bool), n + i = s.size → Ev (fun k => tallboyref02_Parse.j1 k s (b && digits_Parse.dig (s.data.toList.drop i))) r → Ev (fun k => tallboyref02_Parse.l0 k s b (i : Int)) r
  | 0, i, b, h, hr => by
    rw [List.drop_of_length_le (by rw [← Lib.size_eq]; omega), show digits_Parse.dig [] = true from rfl, Bool.and_true] at hr
    exact Ev.step (fun k => by simp only [tallboyref02_Parse.l0]; rw [if_neg (by omega)]) hr
  | n + 1, i, b, h, hr => by
    have hi : i < s.data.toList.length := by rw [← Lib.size_eq]; omega
    cases b with
    | false =>
      rw [Bool.false_and] at hr
      exact Ev.step (fun k => by simp only [tallboyref02_Parse.l0]; rw [if_pos (by omega)]; simp) hr
    | true =>
      rw [Bool.true_and, List.drop_eq_getElem_cons hi, show digits_Parse.dig (s.data.toList[i] :: s.data.toList.drop (i + 1)) = (decide (48 ≤ (s.data.toList[i]).toNat ∧ (s.data.toList[i]).toNat ≤ 57) && digits_Parse.dig (s.data.toList.drop (i + 1))) from rfl] at hr
      by_cases h1 : ((s.data.toList[i]).toNat : Int) ≥ 48
      · have ih := ev_dig_l s hs (r := r) n (i + 1) (decide (((s.data.toList[i]).toNat : Int) ≤ 57)) (by omega)
        rw [show decide (((s.data.toList[i]).toNat : Int) ≤ 57) = decide (48 ≤ (s.data.toList[i]).toNat ∧ (s.data.toList[i]).toNat ≤ 57) from by rw [decide_eq_decide]; omega] at ih
        exact Ev.step (fun k => by simp only [tallboyref02_Parse.l0]; rw [if_pos (by omega), if_pos trivial, if_pos (by omega), bt_list s i hi, if_pos h1, wrap_at i (by omega), show decide (((s.data.toList[i]).toNat : Int) ≤ 57) = decide (48 ≤ (s.data.toList[i]).toNat ∧ (s.data.toList[i]).toNat ≤ 57) from by rw [decide_eq_decide]; omega]) (ih hr)
      · have ih := ev_dig_l s hs (r := r) n (i + 1) false (by omega)
        rw [show decide (48 ≤ (s.data.toList[i]).toNat ∧ (s.data.toList[i]).toNat ≤ 57) = false from by rw [decide_eq_false_iff_not]; omega, Bool.false_and] at hr
        rw [Bool.false_and] at ih
        exact Ev.step (fun k => by simp only [tallboyref02_Parse.l0]; rw [if_pos (by omega), if_pos trivial, if_pos (by omega), bt_list s i hi, if_neg h1, wrap_at i (by omega)]) (ih hr)
def numEnd (e : Lib.NumEnd Nat) : Int × Int := match e with
  | .ok u => ((u : Nat), 0)
  | _ => (0, 1)
theorem ev_num_l (s : ByteArray) (hs : s.size ≤ 1000000) : ∀ (n i u : Nat), n + i = s.size → u < 18446744073709551616 → digits_Parse.dig (s.data.toList.drop i) = true →
    Ev (fun k => tallboyref02_Parse.l1 k s (u : Int) (i : Int)) (numEnd (Lib.parseUintM 18446744073709551615 u (s.data.toList.drop i)))
  | 0, i, u, h, hu, hd => by
    rw [List.drop_of_length_le (by rw [← Lib.size_eq]; omega)]
    exact ev_end (fun k => by simp only [tallboyref02_Parse.l1]; rw [if_neg (by omega)]; rfl)
  | n + 1, i, u, h, hu, hd => by
    have hi : i < s.data.toList.length := by rw [← Lib.size_eq]; omega
    rw [List.drop_eq_getElem_cons hi] at hd ⊢
    rw [show digits_Parse.dig (s.data.toList[i] :: s.data.toList.drop (i + 1)) = (decide (48 ≤ (s.data.toList[i]).toNat ∧ (s.data.toList[i]).toNat ≤ 57) && digits_Parse.dig (s.data.toList.drop (i + 1))) from rfl, Bool.and_eq_true, decide_eq_true_eq] at hd
    obtain ⟨hc, hd⟩ := hd
    have e1 : (((s.data.toList[i]).toNat : Int) - 48) % 256 = (((s.data.toList[i]).toNat - 48 : Nat) : Int) := by omega
    generalize hcc : (s.data.toList[i]).toNat = c at hc e1
    unfold Lib.parseUintM
    rw [hcc, if_pos hc]
    by_cases hov : u * 10 + (c - 48) > 18446744073709551615
    · have hv : ∀ k, tallboyref02_Parse.l1 (k + 1) s (u : Int) (i : Int) = some (0, 1) := fun k => by
        simp only [tallboyref02_Parse.l1]
        rw [if_pos (by omega), if_pos (by omega), bt_list s i hi, hcc, e1, if_pos (by omega)]
      refine ev_end (fun k => ?_)
      rw [hv]
      split
      · rfl
      · rfl
    · have ih := ev_num_l s hs n (i + 1) (u * 10 + (c - 48)) (by omega) (by omega) hd
      rw [if_neg (by omega), if_neg (by omega)]
      refine Ev.step (fun k => ?_) ih
      simp only [tallboyref02_Parse.l1]
      rw [if_pos (by omega), if_pos (by omega), bt_list s i hi, hcc, e1, if_neg (by omega), wrap_at i (by omega), IntKind.wrap_u64, IntKind.wrap_u64]
      congr 1
      omega
theorem ev_digits (s : ByteArray) (hs : s.size ≤ 1000000) : Ev (fun k => tallboyref02_Parse.f k s) (digits_Parse.val s.data.toList) := by
  have hj : Ev (fun k => tallboyref02_Parse.j1 k s (decide ((s.size : Int) > 0) && digits_Parse.dig s.data.toList)) (digits_Parse.val s.data.toList) := by
    unfold digits_Parse.val
    cases hd : digits_Parse.dig s.data.toList with
    | false =>
      rw [Bool.and_false]
      exact ev_end (fun k => by simp only [tallboyref02_Parse.j1]; rfl)
    | true =>
      rw [Bool.and_true]
      by_cases h0 : s.data.toList = []
      · have hz : s.size = 0 := by rw [Lib.size_eq, h0]; rfl
        rw [if_pos rfl, if_pos h0, show decide ((s.size : Int) > 0) = false from by rw [decide_eq_false_iff_not]; omega]
        exact ev_end (fun k => by simp only [tallboyref02_Parse.j1]; rfl)
      · have hz : 1 ≤ s.size := by rw [Lib.size_eq]; exact List.length_pos_iff.2 h0
        rw [if_pos rfl, if_neg h0, show decide ((s.size : Int) > 0) = true from by rw [decide_eq_true_eq]; omega]
        by_cases h20 : 20 < s.data.toList.length
        · rw [if_pos h20]
          exact ev_end (fun k => by simp only [tallboyref02_Parse.j1, if_true]; rw [if_pos (by rw [Lib.size_eq]; omega)])
        · rw [if_neg h20]
          have := ev_num_l s hs s.size 0 0 (by omega) (by omega) (by rw [List.drop_zero]; exact hd)
          rw [List.drop_zero] at this
          have e : Lib.parseUintB 64 s.data.toList = Lib.parseUintM 18446744073709551615 0 s.data.toList := by
            unfold Lib.parseUintB
            rw [if_neg h0]
          rw [e]
          exact Ev.step (fun k => by simp only [tallboyref02_Parse.j1, if_true]; rw [if_neg (by rw [Lib.size_eq]; omega)]; rfl) this
  have := ev_dig_l s hs s.size 0 (decide ((s.size : Int) > 0)) (by omega) (by rw [List.drop_zero]; exact hj)
  exact Ev.congr (fun k => by unfold tallboyref02_Parse.f; rfl) this
end Go.Proofs.YtfboejlemnfndaaGreatDoor.XMr
end
