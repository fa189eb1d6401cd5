/- Put together by wip/pack.py (this session's own program) out of this session's texts; a kit's tool laid the words and the shelf, of which only what is used stands here. Lean checks it. -/
import Derived.Test.YtfboejlemnfndaaGreatDoorPMo5
import Derived.OpenShut
import Derived.ChangeArms
import Derived.DataReads
import Derived.DataElems
section
namespace Go.Proofs.YtfboejlemnfndaaGreatDoor.XMo
open Go.RowKit Go.Proofs.YtfboejlemnfndaaGreatDoorW.PrintWords Go.Proofs.YtfboejlemnfndaaGreatDoorW.PrintLast Go.Proofs.YtfboejlemnfndaaGreatDoorW.PrintMore
attribute [local go_sem] extract_sub max2_int min2_int max_two min_two max_three min_three max_four min_four   -- for this text's walks alone
set_option linter.unusedVariables false
set_option linter.unusedSimpArgs false

noncomputable section
mutual
def tallboylaw27_MetaOrder.j0 : Nat → Int → Bool → Int → ByteArray → Int → List (S59) → Int → ByteArray → Int → List (S61) → Option (Bool)
 | 0, _, _, _, _, _, _, _, _, _, _ => none
 | k + 1, x1, x33, x228000, x228001, x228002, x228003, x243000, x243001, x243002, x243003 => if x33 = true then (some false) else (tallboylaw27_MetaOrder.l0 k x1 1 x228000 x228001 x228002 x228003 x243000 x243001 x243002 x243003)
def tallboylaw27_MetaOrder.l0 : Nat → Int → Int → Int → ByteArray → Int → List (S59) → Int → ByteArray → Int → List (S61) → Option (Bool)
 | 0, _, _, _, _, _, _, _, _, _, _ => none
 | k + 1, x1, x6, x228000, x228001, x228002, x228003, x243000, x243001, x243002, x243003 => if x6 < (x243003.length : Int) then (if 0 ≤ x6 then (if 0 ≤ (wrap64 (x6 - 1)) then (if (wrap64 (x6 - 1)) < (x243003.length : Int) then (if ((rd_T61 x243003 x6).f0) < ((rd_T61 x243003 (wrap64 (x6 - 1))).f0) then (some false) else (tallboylaw27_MetaOrder.l0 k x1 (wrap64 (x6 + 1)) x228000 x228001 x228002 x228003 x243000 x243001 x243002 x243003)) else (none)) else (none)) else (none)) else ((meta_Find.f x243000 x243001 x243002 x243003 x1).bind fun bt264 => ((tallboylaw27_To.f k x228000 x228001 x228002 x228003).bind fun bt266 => ((meta_Find.f bt266.1 bt266.2.1 bt266.2.2.1 bt266.2.2.2 x1).bind fun bt272 => (if bt264.1.toList = bt272.1.toList then (if (bt264.2 == bt272.2) = true then ((meta_Check.f k x243000 x243001 x243002 x243003).bind fun t274 => ((tallboylaw27_To.f k x228000 x228001 x228002 x228003).bind fun bt275 => ((meta_Check.f k bt275.1 bt275.2.1 bt275.2.2.1 bt275.2.2.2).bind fun t281 => (some ((t274 == 0) == (t281 == 0)))))) else (some false)) else (some false)))))
end
def tallboylaw27_MetaOrder.f (k : Nat) (a0_0 : Int) (a0_1 : ByteArray) (a0_2 : Int) (l0_3 : List (S59)) (a1 : Int) : Option (Bool) := (tallboylaw27_works.f).bind fun t228 => (if t228 = true then ((tallboylaw27_Great.f k a0_0 a0_1 a0_2 l0_3).bind fun t229 => (if t229 = true then (some true) else ((tallboylaw27_To.f k a0_0 a0_1 a0_2 l0_3).bind fun bt230 => ((meta_Canon.f bt230.1 bt230.2.1 bt230.2.2.1 bt230.2.2.2).bind fun bt236 => (if (bt236.2.2.2.length : Int) = (l0_3.length : Int) then ((meta_Canon.f bt236.1 bt236.2.1 bt236.2.2.1 bt236.2.2.2).bind fun bt243 => ((tallboylaw27_From.f k bt243.1 bt243.2.1 bt243.2.2.1 bt243.2.2.2).bind fun bt249 => ((tallboylaw27_From.f k bt236.1 bt236.2.1 bt236.2.2.1 bt236.2.2.2).bind fun bt255 => ((tallboyref27_Same.f k bt249.1 bt249.2.1 bt249.2.2.1 bt249.2.2.2 bt255.1 bt255.2.1 bt255.2.2.1 bt255.2.2.2).bind fun t261 => (tallboylaw27_MetaOrder.j0 k a1 (!t261) a0_0 a0_1 a0_2 l0_3 bt236.1 bt236.2.1 bt236.2.2.1 bt236.2.2.2))))) else (tallboylaw27_MetaOrder.j0 k a1 true a0_0 a0_1 a0_2 l0_3 bt236.1 bt236.2.1 bt236.2.2.1 bt236.2.2.2)))))) else (some false))
theorem tallboylaw27_MetaOrder.mono_l : ∀ k, (∀ y0 y1 y2 y3 y4 y5 y6 y7 y8 y9, LeO (tallboylaw27_MetaOrder.j0 k y0 y1 y2 y3 y4 y5 y6 y7 y8 y9) (tallboylaw27_MetaOrder.j0 (k + 1) y0 y1 y2 y3 y4 y5 y6 y7 y8 y9)) ∧ (∀ y0 y1 y2 y3 y4 y5 y6 y7 y8 y9, LeO (tallboylaw27_MetaOrder.l0 k y0 y1 y2 y3 y4 y5 y6 y7 y8 y9) (tallboylaw27_MetaOrder.l0 (k + 1) y0 y1 y2 y3 y4 y5 y6 y7 y8 y9))
 | 0 => ⟨fun _ _ _ _ _ _ _ _ _ _ r h => by simp [tallboylaw27_MetaOrder.j0] at h, fun _ _ _ _ _ _ _ _ _ _ r h => by simp [tallboylaw27_MetaOrder.l0] at h⟩
 | k + 1 => by
  obtain ⟨ih0, ih1⟩ := tallboylaw27_MetaOrder.mono_l k
  refine ⟨?_, ?_⟩
  all_goals
   intros
   first | unfold tallboylaw27_MetaOrder.j0 | unfold tallboylaw27_MetaOrder.l0
   repeat' first
   | (with_reducible exact ih0 _ _ _ _ _ _ _ _ _ _)
   | (with_reducible exact ih1 _ _ _ _ _ _ _ _ _ _)
   | (with_reducible exact meta_Check.mono _ _ _ _ _)
   | (with_reducible exact tallboylaw27_From.mono _ _ _ _ _)
   | (with_reducible exact tallboylaw27_Great.mono _ _ _ _ _)
   | (with_reducible exact tallboylaw27_To.mono _ _ _ _ _)
   | (with_reducible exact tallboyref27_Same.mono _ _ _ _ _ _ _ _ _)
   | (with_reducible exact LeO.refl _)
   | (with_reducible exact LeO.none _)
   | (with_reducible refine LeO.ite ?_ ?_)
   | (with_reducible refine LeO.bind ?_ (fun _ => ?_))
   | exact ih0 _ _ _ _ _ _ _ _ _ _
   | exact ih1 _ _ _ _ _ _ _ _ _ _
   | exact meta_Check.mono _ _ _ _ _
   | exact tallboylaw27_From.mono _ _ _ _ _
   | exact tallboylaw27_Great.mono _ _ _ _ _
   | exact tallboylaw27_To.mono _ _ _ _ _
   | exact tallboyref27_Same.mono _ _ _ _ _ _ _ _ _
   | exact LeO.none _
   | refine LeO.ite ?_ ?_
   | refine LeO.bind ?_ (fun _ => ?_)
theorem tallboylaw27_MetaOrder.mono : ∀ a0 a1 a2 a3 a4 k, LeO (tallboylaw27_MetaOrder.f k a0 a1 a2 a3 a4) (tallboylaw27_MetaOrder.f (k + 1) a0 a1 a2 a3 a4) := by
 intro a0 a1 a2 a3 a4 k
 obtain ⟨ih0, ih1⟩ := tallboylaw27_MetaOrder.mono_l k
 unfold tallboylaw27_MetaOrder.f
 repeat' first
  | (with_reducible exact ih0 _ _ _ _ _ _ _ _ _ _)
  | (with_reducible exact ih1 _ _ _ _ _ _ _ _ _ _)
  | (with_reducible exact meta_Check.mono _ _ _ _ _)
  | (with_reducible exact tallboylaw27_From.mono _ _ _ _ _)
  | (with_reducible exact tallboylaw27_Great.mono _ _ _ _ _)
  | (with_reducible exact tallboylaw27_To.mono _ _ _ _ _)
  | (with_reducible exact tallboyref27_Same.mono _ _ _ _ _ _ _ _ _)
  | (with_reducible exact LeO.refl _)
  | (with_reducible exact LeO.none _)
  | (with_reducible refine LeO.ite ?_ ?_)
  | (with_reducible refine LeO.bind ?_ (fun _ => ?_))
  | exact ih0 _ _ _ _ _ _ _ _ _ _
  | exact ih1 _ _ _ _ _ _ _ _ _ _
  | exact meta_Check.mono _ _ _ _ _
  | exact tallboylaw27_From.mono _ _ _ _ _
  | exact tallboylaw27_Great.mono _ _ _ _ _
  | exact tallboylaw27_To.mono _ _ _ _ _
  | exact tallboyref27_Same.mono _ _ _ _ _ _ _ _ _
  | exact LeO.none _
  | refine LeO.ite ?_ ?_
  | refine LeO.bind ?_ (fun _ => ?_)
def tallboylaw27_MetaOrder.T6 : Bool × List (List Nat × List Nat) := (true, [([], []), ([0], [0]), ([1], [1]), ([], []), ([3], [3]), ([4], [4]), ([2, 5], [2, 5]), ([6], [6]), ([7], [7]), ([8, 7, 7], [7, 8]), ([9, 9, 7], [7, 9]), ([7], [7]), ([11, 10, 7], [7, 11]), ([10, 12, 12, 7], [7, 10, 12]), ([13, 7], [7, 13]), ([7, 14], [7, 14])])
def tallboylaw27_MetaOrder.B6 : List Nat := [0, 1, 3, 0, 8, 24, 63, 127, 255, 511, 1023, 255, 4095, 8191, 16383, 32767]
theorem tallboylaw27_MetaOrder.tab6 : rtab .any (opsOf Tryz.f8 6) = tallboylaw27_MetaOrder.T6 := by kernel_rfl
theorem tallboylaw27_MetaOrder.bits6 : waitsOk tallboylaw27_MetaOrder.T6.2 tallboylaw27_MetaOrder.B6 = true := by kernel_rfl
def tallboylaw27_MetaOrder.T11 : Bool × List (List Nat × List Nat) := (true, [([], []), ([0], [0]), ([], []), ([1, 2], [1, 2]), ([3], [3]), ([4], [4]), ([], []), ([6], [6]), ([], []), ([8], [8]), ([7, 9], [7, 9]), ([10], [10]), ([11], [11]), ([5, 12], [5, 12])])
def tallboylaw27_MetaOrder.B11 : List Nat := [0, 1, 0, 7, 15, 31, 0, 64, 0, 256, 960, 1984, 4032, 8191]
theorem tallboylaw27_MetaOrder.tab11 : rtab .any (opsOf Tryz.f8 11) = tallboylaw27_MetaOrder.T11 := by kernel_rfl
theorem tallboylaw27_MetaOrder.bits11 : waitsOk tallboylaw27_MetaOrder.T11.2 tallboylaw27_MetaOrder.B11 = true := by kernel_rfl
def tallboylaw27_MetaOrder.T15 : Bool × List (List Nat × List Nat) := (true, [([], []), ([], []), ([0, 1], [0, 1]), ([2], [2]), ([3], [3]), ([3], [3]), ([4, 5, 3], [3, 4, 5]), ([3, 6], [3, 6]), ([7, 3], [7]), ([8], [8]), ([9, 8, 8], [8, 9]), ([10, 8], [8, 10]), ([8], [8]), ([12, 10, 8], [8, 12]), ([13, 13, 8], [8, 13]), ([14, 8], [8, 14]), ([11, 15, 8], [8, 11, 15]), ([8, 16], [8, 16]), ([17, 14, 0, 1, 2, 3, 4, 5, 6, 7, 8, 9, 10, 11, 12, 13, 14, 15, 16, 17], [17])])
def tallboylaw27_MetaOrder.B15 : List Nat := [0, 0, 3, 7, 15, 15, 63, 127, 255, 511, 1023, 2047, 511, 6143, 14335, 30719, 65535, 131071, 262143]
theorem tallboylaw27_MetaOrder.tab15 : rtab .any (opsOf Tryz.f8 15) = tallboylaw27_MetaOrder.T15 := by kernel_rfl
theorem tallboylaw27_MetaOrder.bits15 : waitsOk tallboylaw27_MetaOrder.T15.2 tallboylaw27_MetaOrder.B15 = true := by kernel_rfl
set_option maxHeartbeats 8000000 in
set_option maxRecDepth 100000 in
theorem tallboylaw27_MetaOrder.calls (k : Nat) (a0_0 : Int) (a0_1 : ByteArray) (a0_2 : Int) (A0_3 : Option Addr) (c0_3 : Nat) (l0_3 : List (S59)) (a1 : Int) (r : Bool) (w : World) (hr0_3 : Kd.C k59 w A0_3 l0_3.length l0_3) (hc0_3 : l0_3.length ≤ c0_3) (hv : Vars w) (h : tallboylaw27_MetaOrder.f k a0_0 a0_1 a0_2 l0_3 a1 = some r) :
 Calls Tryz.prog 8 #[.agg #[.int .i64 a0_0, .string a0_1, .int .i64 a0_2, .slice A0_3 l0_3.length c0_3], .int .u8 a1] w fun e w' => e = .returned (.bool r) ∧ Below w.heap.size w w' := by
 have hu24 := Tryz.underlying24
 have hu31 := Tryz.underlying31
 have HV := Aside0.mk hv
 clear hv
 have HR0_3 := Aside0.mk hr0_3
 have HC0_3 := Aside0.mk hc0_3
 clear hr0_3 hc0_3
 have HB := Aside0.mk (Below.refl w.heap.size w)
 have H : ((tallboylaw27_works.f).bind fun t228 => (if t228 = true then ((tallboylaw27_Great.f k a0_0 a0_1 a0_2 l0_3).bind fun t229 => (if t229 = true then (some true) else ((tallboylaw27_To.f k a0_0 a0_1 a0_2 l0_3).bind fun bt230 => ((meta_Canon.f bt230.1 bt230.2.1 bt230.2.2.1 bt230.2.2.2).bind fun bt236 => (if (bt236.2.2.2.length : Int) = (l0_3.length : Int) then ((meta_Canon.f bt236.1 bt236.2.1 bt236.2.2.1 bt236.2.2.2).bind fun bt243 => ((tallboylaw27_From.f k bt243.1 bt243.2.1 bt243.2.2.1 bt243.2.2.2).bind fun bt249 => ((tallboylaw27_From.f k bt236.1 bt236.2.1 bt236.2.2.1 bt236.2.2.2).bind fun bt255 => ((tallboyref27_Same.f k bt249.1 bt249.2.1 bt249.2.2.1 bt249.2.2.2 bt255.1 bt255.2.1 bt255.2.2.1 bt255.2.2.2).bind fun t261 => (tallboylaw27_MetaOrder.j0 k a1 (!t261) a0_0 a0_1 a0_2 l0_3 bt236.1 bt236.2.1 bt236.2.2.1 bt236.2.2.2))))) else (tallboylaw27_MetaOrder.j0 k a1 true a0_0 a0_1 a0_2 l0_3 bt236.1 bt236.2.1 bt236.2.2.1 bt236.2.2.2)))))) else (some false))) = some r := h
 clear h
 replace H := Option.bind_eq_some_iff.mp H
 obtain ⟨t228, A30, H⟩ := H
 replace H : (if t228 = true then ((tallboylaw27_Great.f k a0_0 a0_1 a0_2 l0_3).bind fun t229 => (if t229 = true then (some true) else ((tallboylaw27_To.f k a0_0 a0_1 a0_2 l0_3).bind fun bt230 => ((meta_Canon.f bt230.1 bt230.2.1 bt230.2.2.1 bt230.2.2.2).bind fun bt236 => (if (bt236.2.2.2.length : Int) = (l0_3.length : Int) then ((meta_Canon.f bt236.1 bt236.2.1 bt236.2.2.1 bt236.2.2.2).bind fun bt243 => ((tallboylaw27_From.f k bt243.1 bt243.2.1 bt243.2.2.1 bt243.2.2.2).bind fun bt249 => ((tallboylaw27_From.f k bt236.1 bt236.2.1 bt236.2.2.1 bt236.2.2.2).bind fun bt255 => ((tallboyref27_Same.f k bt249.1 bt249.2.1 bt249.2.2.1 bt249.2.2.2 bt255.1 bt255.2.1 bt255.2.2.1 bt255.2.2.2).bind fun t261 => (tallboylaw27_MetaOrder.j0 k a1 (!t261) a0_0 a0_1 a0_2 l0_3 bt236.1 bt236.2.1 bt236.2.2.1 bt236.2.2.2))))) else (tallboylaw27_MetaOrder.j0 k a1 true a0_0 a0_1 a0_2 l0_3 bt236.1 bt236.2.1 bt236.2.2.1 bt236.2.2.2)))))) else (some false)) = some r := H
 have A3 := Aside0.mk A30
 clear A30
 by_cases c4 : t228 = true
 · subst c4
   have H1 : ((tallboylaw27_Great.f k a0_0 a0_1 a0_2 l0_3).bind fun t229 => (if t229 = true then (some true) else ((tallboylaw27_To.f k a0_0 a0_1 a0_2 l0_3).bind fun bt230 => ((meta_Canon.f bt230.1 bt230.2.1 bt230.2.2.1 bt230.2.2.2).bind fun bt236 => (if (bt236.2.2.2.length : Int) = (l0_3.length : Int) then ((meta_Canon.f bt236.1 bt236.2.1 bt236.2.2.1 bt236.2.2.2).bind fun bt243 => ((tallboylaw27_From.f k bt243.1 bt243.2.1 bt243.2.2.1 bt243.2.2.2).bind fun bt249 => ((tallboylaw27_From.f k bt236.1 bt236.2.1 bt236.2.2.1 bt236.2.2.2).bind fun bt255 => ((tallboyref27_Same.f k bt249.1 bt249.2.1 bt249.2.2.1 bt249.2.2.2 bt255.1 bt255.2.1 bt255.2.2.1 bt255.2.2.2).bind fun t261 => (tallboylaw27_MetaOrder.j0 k a1 (!t261) a0_0 a0_1 a0_2 l0_3 bt236.1 bt236.2.1 bt236.2.2.1 bt236.2.2.2))))) else (tallboylaw27_MetaOrder.j0 k a1 true a0_0 a0_1 a0_2 l0_3 bt236.1 bt236.2.1 bt236.2.2.1 bt236.2.2.2)))))) = some r := by rw [if_pos rfl] at H; exact H
   clear H
   have H := H1
   clear H1
   replace H := Option.bind_eq_some_iff.mp H
   obtain ⟨t229, A50, H⟩ := H
   replace H : (if t229 = true then (some true) else ((tallboylaw27_To.f k a0_0 a0_1 a0_2 l0_3).bind fun bt230 => ((meta_Canon.f bt230.1 bt230.2.1 bt230.2.2.1 bt230.2.2.2).bind fun bt236 => (if (bt236.2.2.2.length : Int) = (l0_3.length : Int) then ((meta_Canon.f bt236.1 bt236.2.1 bt236.2.2.1 bt236.2.2.2).bind fun bt243 => ((tallboylaw27_From.f k bt243.1 bt243.2.1 bt243.2.2.1 bt243.2.2.2).bind fun bt249 => ((tallboylaw27_From.f k bt236.1 bt236.2.1 bt236.2.2.1 bt236.2.2.2).bind fun bt255 => ((tallboyref27_Same.f k bt249.1 bt249.2.1 bt249.2.2.1 bt249.2.2.2 bt255.1 bt255.2.1 bt255.2.2.1 bt255.2.2.2).bind fun t261 => (tallboylaw27_MetaOrder.j0 k a1 (!t261) a0_0 a0_1 a0_2 l0_3 bt236.1 bt236.2.1 bt236.2.2.1 bt236.2.2.2))))) else (tallboylaw27_MetaOrder.j0 k a1 true a0_0 a0_1 a0_2 l0_3 bt236.1 bt236.2.1 bt236.2.2.1 bt236.2.2.2))))) = some r := H
   have A5 := Aside0.mk A50
   clear A50
   by_cases c6 : t229 = true
   · subst c6
     have H1 : (some true) = some r := by rw [if_pos rfl] at H; exact H
     clear H
     have H := H1
     clear H1
     obtain rfl := Option.some.inj H
     go_enter Tryz.func8, Tryz.ntmps8
     go_wp2_with (first | ((with_reducible refine gate_dst (N := 2) rfl ?_); refine box_event ?hg (N := 2) ?hd (cs := #[.int .i64 a0_0, .string a0_1, .int .i64 a0_2, .slice A0_3 l0_3.length c0_3]) (t := 24) ?hr ?_; (case hd => rfl); (case hg => rfl); (case hr => first | (go_simp; done) | (go_simp; rfl)); intro gb227 hg w7 hbox hb; have n0_ := Aside0.mk (below_step (hbA HB.out) hb); have n1_ := Aside0.mk (hbox); have n2_ := Aside0.mk ((by rw [hg]; exact (below_size (hbA HB.out)) : w.heap.size ≤ gb227)); have n3_ := Aside0.mk ((by rw [hg]; exact (below_size (hbA HB.out)) : w.heap.size ≤ gb227)); clear HB; have HB := n0_; have BK227 := n1_; have GW227 := n2_; have GE227 := n3_; clear n0_ n1_ n2_ n3_; clear hb hbox hg) | ((with_reducible refine gate_callee (f := 25) rfl ?_); refine goesL_ (some 11) rfl rfl Tryz.func25 (by kernel_rfl) rfl #[] rfl argA ?_; (with_reducible refine (tallboylaw27_works.calls  true _ ?side1 A3.out).mono ?_); (case side1 => exact Vars.below HV.out (hbA HB.out)); rintro e w8 ⟨rfl, hb⟩; refine ⟨_, rfl, ?_⟩; replace BK227 := Aside0.mk (blk_below (g := gb227) (o := .cells #[.int .i64 a0_0, .string a0_1, .int .i64 a0_2, .slice A0_3 l0_3.length c0_3] 24 (0, 0)) (rbA BK227.out) hb); replace HB := Aside0.mk (below_step (hbA HB.out) hb); (try clear hb); (try clear hb2); (try clear hk); (try clear hi); obtain ⟨hcz9_0, hcz9_1, hcz9_2, hcz9_3, hfz9_0, hfz9_1, hfz9_2, hfz9_3⟩ := blkA4 BK227.out) | ((with_reducible refine gate_callee (f := 9) rfl ?_); refine goesL_ (some 14) rfl rfl Tryz.func9 (by kernel_rfl) rfl #[.agg #[.int .i64 a0_0, .string a0_1, .int .i64 a0_2, .slice A0_3 l0_3.length c0_3]] rfl argA ?_; (with_reducible refine (tallboylaw27_Great.calls k a0_0 a0_1 a0_2 _ _ l0_3 true _ ?side1 ?side2 A5.out).mono ?_); (case side1 => repeat (first | exact (Kd.C_below HR0_3.out HB.out) | (with_reducible refine Kd.C_alloc ?_ _) | (with_reducible refine Kd.C_drewN ?_ _) | (with_reducible refine Kd.C_drew ?_))); (case side2 => exact HC0_3.out); rintro e w10 ⟨rfl, hb⟩; refine ⟨_, rfl, ?_⟩; replace BK227 := Aside0.mk (blk_below (g := gb227) (o := .cells #[.int .i64 a0_0, .string a0_1, .int .i64 a0_2, .slice A0_3 l0_3.length c0_3] 24 (0, 0)) (rbA BK227.out) hb); replace HB := Aside0.mk (below_step (hbA HB.out) hb); (try clear hb); (try clear hb2); (try clear hk); (try clear hi)))
     go_ret
     exact ⟨reA, hbA HB.out⟩
   replace c6 := Bool.eq_false_iff.mpr c6
   subst c6
   have H1 : ((tallboylaw27_To.f k a0_0 a0_1 a0_2 l0_3).bind fun bt230 => ((meta_Canon.f bt230.1 bt230.2.1 bt230.2.2.1 bt230.2.2.2).bind fun bt236 => (if (bt236.2.2.2.length : Int) = (l0_3.length : Int) then ((meta_Canon.f bt236.1 bt236.2.1 bt236.2.2.1 bt236.2.2.2).bind fun bt243 => ((tallboylaw27_From.f k bt243.1 bt243.2.1 bt243.2.2.1 bt243.2.2.2).bind fun bt249 => ((tallboylaw27_From.f k bt236.1 bt236.2.1 bt236.2.2.1 bt236.2.2.2).bind fun bt255 => ((tallboyref27_Same.f k bt249.1 bt249.2.1 bt249.2.2.1 bt249.2.2.2 bt255.1 bt255.2.1 bt255.2.2.1 bt255.2.2.2).bind fun t261 => (tallboylaw27_MetaOrder.j0 k a1 (!t261) a0_0 a0_1 a0_2 l0_3 bt236.1 bt236.2.1 bt236.2.2.1 bt236.2.2.2))))) else (tallboylaw27_MetaOrder.j0 k a1 true a0_0 a0_1 a0_2 l0_3 bt236.1 bt236.2.1 bt236.2.2.1 bt236.2.2.2)))) = some r := by rw [if_neg (show ¬ (false = true) by decide)] at H; exact H
   clear H
   have H := H1
   clear H1
   replace H := Option.bind_eq_some_iff.mp H
   obtain ⟨⟨t230, t231, t232, t233⟩, A110, H⟩ := H
   replace H : ((meta_Canon.f t230 t231 t232 t233).bind fun bt236 => (if (bt236.2.2.2.length : Int) = (l0_3.length : Int) then ((meta_Canon.f bt236.1 bt236.2.1 bt236.2.2.1 bt236.2.2.2).bind fun bt243 => ((tallboylaw27_From.f k bt243.1 bt243.2.1 bt243.2.2.1 bt243.2.2.2).bind fun bt249 => ((tallboylaw27_From.f k bt236.1 bt236.2.1 bt236.2.2.1 bt236.2.2.2).bind fun bt255 => ((tallboyref27_Same.f k bt249.1 bt249.2.1 bt249.2.2.1 bt249.2.2.2 bt255.1 bt255.2.1 bt255.2.2.1 bt255.2.2.2).bind fun t261 => (tallboylaw27_MetaOrder.j0 k a1 (!t261) a0_0 a0_1 a0_2 l0_3 bt236.1 bt236.2.1 bt236.2.2.1 bt236.2.2.2))))) else (tallboylaw27_MetaOrder.j0 k a1 true a0_0 a0_1 a0_2 l0_3 bt236.1 bt236.2.1 bt236.2.2.1 bt236.2.2.2))) = some r := H
   have A11 := Aside0.mk A110
   clear A110
   replace H := Option.bind_eq_some_iff.mp H
   obtain ⟨⟨t236, t237, t238, t239⟩, A120, H⟩ := H
   replace H : (if (t239.length : Int) = (l0_3.length : Int) then ((meta_Canon.f t236 t237 t238 t239).bind fun bt243 => ((tallboylaw27_From.f k bt243.1 bt243.2.1 bt243.2.2.1 bt243.2.2.2).bind fun bt249 => ((tallboylaw27_From.f k t236 t237 t238 t239).bind fun bt255 => ((tallboyref27_Same.f k bt249.1 bt249.2.1 bt249.2.2.1 bt249.2.2.2 bt255.1 bt255.2.1 bt255.2.2.1 bt255.2.2.2).bind fun t261 => (tallboylaw27_MetaOrder.j0 k a1 (!t261) a0_0 a0_1 a0_2 l0_3 t236 t237 t238 t239))))) else (tallboylaw27_MetaOrder.j0 k a1 true a0_0 a0_1 a0_2 l0_3 t236 t237 t238 t239)) = some r := H
   have A12 := Aside0.mk A120
   clear A120
   have HC13 := Aside0.mk H
   clear H
   go_enter Tryz.func8, Tryz.ntmps8
   go_upto_region 6 with (first | ((with_reducible refine gate_dst (N := 2) rfl ?_); refine box_event ?hg (N := 2) ?hd (cs := #[.int .i64 a0_0, .string a0_1, .int .i64 a0_2, .slice A0_3 l0_3.length c0_3]) (t := 24) ?hr ?_; (case hd => rfl); (case hg => rfl); (case hr => first | (go_simp; done) | (go_simp; rfl)); intro gb227 hg w14 hbox hb; have n0_ := Aside0.mk (below_step (hbA HB.out) hb); have n1_ := Aside0.mk (hbox); have n2_ := Aside0.mk ((by rw [hg]; exact (below_size (hbA HB.out)) : w.heap.size ≤ gb227)); have n3_ := Aside0.mk ((by rw [hg]; exact (below_size (hbA HB.out)) : w.heap.size ≤ gb227)); clear HB; have HB := n0_; have BK227 := n1_; have GW227 := n2_; have GE227 := n3_; clear n0_ n1_ n2_ n3_; clear hb hbox hg) | ((with_reducible refine gate_callee (f := 25) rfl ?_); refine goesL_ (some 11) rfl rfl Tryz.func25 (by kernel_rfl) rfl #[] rfl argA ?_; (with_reducible refine (tallboylaw27_works.calls  true _ ?side1 A3.out).mono ?_); (case side1 => exact Vars.below HV.out (hbA HB.out)); rintro e w15 ⟨rfl, hb⟩; refine ⟨_, rfl, ?_⟩; replace BK227 := Aside0.mk (blk_below (g := gb227) (o := .cells #[.int .i64 a0_0, .string a0_1, .int .i64 a0_2, .slice A0_3 l0_3.length c0_3] 24 (0, 0)) (rbA BK227.out) hb); replace HB := Aside0.mk (below_step (hbA HB.out) hb); (try clear hb); (try clear hb2); (try clear hk); (try clear hi); obtain ⟨hcz16_0, hcz16_1, hcz16_2, hcz16_3, hfz16_0, hfz16_1, hfz16_2, hfz16_3⟩ := blkA4 BK227.out) | ((with_reducible refine gate_callee (f := 9) rfl ?_); refine goesL_ (some 14) rfl rfl Tryz.func9 (by kernel_rfl) rfl #[.agg #[.int .i64 a0_0, .string a0_1, .int .i64 a0_2, .slice A0_3 l0_3.length c0_3]] rfl argA ?_; (with_reducible refine (tallboylaw27_Great.calls k a0_0 a0_1 a0_2 _ _ l0_3 false _ ?side1 ?side2 A5.out).mono ?_); (case side1 => repeat (first | exact (Kd.C_below HR0_3.out HB.out) | (with_reducible refine Kd.C_alloc ?_ _) | (with_reducible refine Kd.C_drewN ?_ _) | (with_reducible refine Kd.C_drew ?_))); (case side2 => exact HC0_3.out); rintro e w17 ⟨rfl, hb⟩; refine ⟨_, rfl, ?_⟩; replace BK227 := Aside0.mk (blk_below (g := gb227) (o := .cells #[.int .i64 a0_0, .string a0_1, .int .i64 a0_2, .slice A0_3 l0_3.length c0_3] 24 (0, 0)) (rbA BK227.out) hb); replace HB := Aside0.mk (below_step (hbA HB.out) hb); (try clear hb); (try clear hb2); (try clear hk); (try clear hi); obtain ⟨hcz18_0, hcz18_1, hcz18_2, hcz18_3, hfz18_0, hfz18_1, hfz18_2, hfz18_3⟩ := blkA4 BK227.out) | ((with_reducible refine gate_callee (f := 11) rfl ?_); refine goesL_ (some 16) rfl rfl Tryz.func11 (by kernel_rfl) rfl #[.agg #[.int .i64 a0_0, .string a0_1, .int .i64 a0_2, .slice A0_3 l0_3.length c0_3]] rfl argA ?_; (with_reducible refine (tallboylaw27_To.calls k a0_0 a0_1 a0_2 _ _ l0_3 t230 t231 t232 t233 _ ?side1 ?side2 A11.out).mono ?_); (case side1 => repeat (first | exact (Kd.C_below HR0_3.out HB.out) | (with_reducible refine Kd.C_alloc ?_ _) | (with_reducible refine Kd.C_drewN ?_ _) | (with_reducible refine Kd.C_drew ?_))); (case side2 => exact HC0_3.out); rintro e w19 ⟨v234, rfl, ho0, hb⟩; refine ⟨_, rfl, ?_⟩; have n0_ := Aside0.mk (Kd.R_lower ho0 (below_size (hbA HB.out))); have n1_ := Aside0.mk (blk_below (g := gb227) (o := .cells #[.int .i64 a0_0, .string a0_1, .int .i64 a0_2, .slice A0_3 l0_3.length c0_3] 24 (0, 0)) (rbA BK227.out) hb); have n2_ := Aside0.mk (below_step (hbA HB.out) hb); clear BK227; clear HB; have HO235 := n0_; have BK227 := n1_; have HB := n2_; clear n0_ n1_ n2_; (try clear hb); (try clear hb2); (try clear hk); (try clear hi); (try clear ho0); obtain ⟨Ao20, co20, eo20⟩ := Kd.R_slice HO235.out; subst eo20) | ((with_reducible refine gate_callee (f := 21) rfl ?_); refine goesL_ (some 17) rfl rfl Tryz.func21 (by kernel_rfl) rfl #[.agg #[.int .i64 t230, .string t231, .int .i64 t232, .slice Ao20 t233.length co20]] rfl argA ?_; (with_reducible refine (meta_Canon.calls t230 t231 t232 _ _ t233 t236 t237 t238 t239 _ ?side1 ?side2 A12.out).mono ?_); (case side1 => repeat (first | exact (Kd.R_reads' HO235.out).2.2 | (with_reducible refine Kd.C_alloc ?_ _) | (with_reducible refine Kd.C_drewN ?_ _) | (with_reducible refine Kd.C_drew ?_))); (case side2 => exact (Kd.R_reads' HO235.out).2.1); rintro e w21 ⟨v240, rfl, ho0, hb⟩; refine ⟨_, rfl, ?_⟩; have n0_ := Aside0.mk (Kd.R_elder' (rdA HO235.out) (Kd.R_base ho0) hb); have n1_ := Aside0.mk (Kd.R_lower (Kd.R_new' ho0 (Kd.R_lt (rdA HO235.out))) (below_size (hbA HB.out))); have n2_ := Aside0.mk (blk_below (g := gb227) (o := .cells #[.int .i64 a0_0, .string a0_1, .int .i64 a0_2, .slice A0_3 l0_3.length c0_3] 24 (0, 0)) (rbA BK227.out) hb); have n3_ := Aside0.mk (below_step (hbA HB.out) hb); clear HO235; clear BK227; clear HB; have HO235 := n0_; have HO241 := n1_; have BK227 := n2_; have HB := n3_; clear n0_ n1_ n2_ n3_; (try clear hb); (try clear hb2); (try clear hk); (try clear hi); (try clear ho0)) | ((with_reducible refine gate_dst (N := 5) rfl ?_); refine box_event ?hg (N := 5) ?hd (cs := #[.int .i64 0, .string (⟨#[]⟩ : ByteArray), .int .i64 0, .slice none 0 0]) (t := 31) ?hr ?_; (case hd => rfl); (case hg => rfl); (case hr => first | (go_simp; done) | (go_simp; rfl)); intro gb242 hg w22 hbox hb; have n0_ := Aside0.mk (Kd.R_below (rdA HO235.out) hb); have n1_ := Aside0.mk (Kd.R_below (rdA HO241.out) hb); have n2_ := Aside0.mk (blk_below (g := gb227) (o := .cells #[.int .i64 a0_0, .string a0_1, .int .i64 a0_2, .slice A0_3 l0_3.length c0_3] 24 (0, 0)) (rbA BK227.out) hb); have n3_ := Aside0.mk (below_step (hbA HB.out) hb); have n4_ := Aside0.mk (hbox); have n5_ := Aside0.mk ((by rw [hg]; exact (below_size (hbA HB.out)) : w.heap.size ≤ gb242)); have n6_ := Aside0.mk ((by rw [hg]; exact (below_size (hbA HB.out)) : w.heap.size ≤ gb242)); have n7_ := Aside0.mk ((by rw [hg]; exact Nat.ne_of_lt (blk_lt (g := gb227) (o := .cells #[.int .i64 a0_0, .string a0_1, .int .i64 a0_2, .slice A0_3 l0_3.length c0_3] 24 (0, 0)) (rbA BK227.out)) : gb227 ≠ gb242)); have n8_ := Aside0.mk ((by rw [hg]; exact Nat.ne_of_gt (blk_lt (g := gb227) (o := .cells #[.int .i64 a0_0, .string a0_1, .int .i64 a0_2, .slice A0_3 l0_3.length c0_3] 24 (0, 0)) (rbA BK227.out)) : gb242 ≠ gb227)); clear HO235; clear HO241; clear BK227; clear HB; have HO235 := n0_; have HO241 := n1_; have BK227 := n2_; have HB := n3_; have BK242 := n4_; have GW242 := n5_; have GE242 := n6_; have NB227_242 := n7_; have NB242_227 := n8_; clear n0_ n1_ n2_ n3_ n4_ n5_ n6_ n7_ n8_; clear hb hbox hg; have hnb23 := NB242_227.out; have hnc23 := NB227_242.out; obtain ⟨hcz24_0, hcz24_1, hcz24_2, hcz24_3, hfz24_0, hfz24_1, hfz24_2, hfz24_3⟩ := blkA4 BK242.out; obtain ⟨Ao25, co25, eo25⟩ := Kd.R_slice HO241.out; subst eo25))
   (try simp only [Act.put, List.setIfInBounds_toArray, List.set_cons_zero, List.set_cons_succ])
   go_cut [33] (fun v33 wc => ∃ (kq : Nat) (x33_12 : Bool), v33 = .bool x33_12 ∧ Aside0 (tallboylaw27_MetaOrder.j0 kq a1 x33_12 a0_0 a0_1 a0_2 l0_3 t236 t237 t238 t239 = some r) ∧ Aside0 (kq ≤ k) ∧ Aside0 (Kd.R k61 61 wc w.heap.size (fun _ => True) (.slice Ao25 t239.length co25) t239) ∧ Aside0 (wc.heap[gb227]? = some (.cells #[.int .i64 a0_0, .string a0_1, .int .i64 a0_2, (.slice A0_3 l0_3.length c0_3)] 24 (0, 0))) ∧ Aside0 (wc.heap[gb242]? = some (.cells #[.int .i64 t236, .string t237, .int .i64 t238, (.slice Ao25 t239.length co25)] 31 (0, 0))) ∧ Aside0 (Below w.heap.size w wc))
   case first =>
    have H := HC13.out
    clear HC13
    by_cases c26 : (t239.length : Int) = (l0_3.length : Int)
    · rw [if_pos c26] at H
      have c26b0 : ((t239.length : Int) == (l0_3.length : Int)) = true := beq_iff_eq.mpr c26
      have c26b1 : ((t239.length : Int) != (l0_3.length : Int)) = false := bne_eq_false_iff_eq.mpr c26
      have c26b2 : (t239.length == l0_3.length) = true := by first | simpa using c26 | (simp at c26 ⊢; omega)
      clear c26
      (first | rw [c26b0] | (simp only [i64_w, i32_w]; rw [c26b0]) | skip)
      replace H := Option.bind_eq_some_iff.mp H
      obtain ⟨⟨t243, t244, t245, t246⟩, A270, H⟩ := H
      replace H : ((tallboylaw27_From.f k t243 t244 t245 t246).bind fun bt249 => ((tallboylaw27_From.f k t236 t237 t238 t239).bind fun bt255 => ((tallboyref27_Same.f k bt249.1 bt249.2.1 bt249.2.2.1 bt249.2.2.2 bt255.1 bt255.2.1 bt255.2.2.1 bt255.2.2.2).bind fun t261 => (tallboylaw27_MetaOrder.j0 k a1 (!t261) a0_0 a0_1 a0_2 l0_3 t236 t237 t238 t239)))) = some r := H
      have A27 := Aside0.mk A270
      clear A270
      replace H := Option.bind_eq_some_iff.mp H
      obtain ⟨⟨t249, t250, t251, t252⟩, A280, H⟩ := H
      replace H : ((tallboylaw27_From.f k t236 t237 t238 t239).bind fun bt255 => ((tallboyref27_Same.f k t249 t250 t251 t252 bt255.1 bt255.2.1 bt255.2.2.1 bt255.2.2.2).bind fun t261 => (tallboylaw27_MetaOrder.j0 k a1 (!t261) a0_0 a0_1 a0_2 l0_3 t236 t237 t238 t239))) = some r := H
      have A28 := Aside0.mk A280
      clear A280
      replace H := Option.bind_eq_some_iff.mp H
      obtain ⟨⟨t255, t256, t257, t258⟩, A290, H⟩ := H
      replace H : ((tallboyref27_Same.f k t249 t250 t251 t252 t255 t256 t257 t258).bind fun t261 => (tallboylaw27_MetaOrder.j0 k a1 (!t261) a0_0 a0_1 a0_2 l0_3 t236 t237 t238 t239)) = some r := H
      have A29 := Aside0.mk A290
      clear A290
      replace H := Option.bind_eq_some_iff.mp H
      obtain ⟨t261, A300, H⟩ := H
      replace H : (tallboylaw27_MetaOrder.j0 k a1 (!t261) a0_0 a0_1 a0_2 l0_3 t236 t237 t238 t239) = some r := H
      have A30 := Aside0.mk A300
      clear A300
      have H' := Aside0.mk H
      clear H
      try go_wp2
      have n0_ : Aside0 (Kd.R k61 61 ((((w22.setCell ⟨gb242, 0, none⟩ (.int .i64 t236)).setCell ⟨gb242, 1, none⟩ (.string t237)).setCell ⟨gb242, 2, none⟩ (.int .i64 t238)).setCell ⟨gb242, 3, none⟩ (.slice Ao25 t239.length co25)) w.heap.size (fun k_ => some k_ ≠ (.slice Ao25 t239.length co25 : Value).ownBlock) (.slice Ao20 t233.length co20) t233) := ⟨by (with_reducible repeat (first | apply Kd.R_alloc | apply Kd.R_drewN | apply Kd.R_drew)); exact Kd.R_mono (Kd.R_far (p := ⟨gb242, 3, none⟩) (Kd.R_far (p := ⟨gb242, 2, none⟩) (Kd.R_far (p := ⟨gb242, 1, none⟩) (Kd.R_far (p := ⟨gb242, 0, none⟩) (Kd.R_types HO235.out BK242.out (by decide)) (fun _ hk => hk.2) (.int .i64 t236)) (fun _ hk => hk.2) (.string t237)) (fun _ hk => hk.2) (.int .i64 t238)) (fun _ hk => hk.2) (.slice Ao25 t239.length co25)) (fun _ hk => hk.1.2)⟩
      have n1_ : Aside0 (Kd.R k61 61 ((((w22.setCell ⟨gb242, 0, none⟩ (.int .i64 t236)).setCell ⟨gb242, 1, none⟩ (.string t237)).setCell ⟨gb242, 2, none⟩ (.int .i64 t238)).setCell ⟨gb242, 3, none⟩ (.slice Ao25 t239.length co25)) w.heap.size (fun k_ => some k_ ≠ (.slice Ao20 t233.length co20 : Value).ownBlock) (.slice Ao25 t239.length co25) t239) := ⟨by (with_reducible repeat (first | apply Kd.R_alloc | apply Kd.R_drewN | apply Kd.R_drew)); exact Kd.R_mono (Kd.R_far (p := ⟨gb242, 3, none⟩) (Kd.R_far (p := ⟨gb242, 2, none⟩) (Kd.R_far (p := ⟨gb242, 1, none⟩) (Kd.R_far (p := ⟨gb242, 0, none⟩) (Kd.R_types HO241.out BK242.out (by decide)) (fun _ hk => hk.2) (.int .i64 t236)) (fun _ hk => hk.2) (.string t237)) (fun _ hk => hk.2) (.int .i64 t238)) (fun _ hk => hk.2) (.slice Ao25 t239.length co25)) (fun _ hk => hk.1.2)⟩
      have n2_ : Aside0 (((((w22.setCell ⟨gb242, 0, none⟩ (.int .i64 t236)).setCell ⟨gb242, 1, none⟩ (.string t237)).setCell ⟨gb242, 2, none⟩ (.int .i64 t238)).setCell ⟨gb242, 3, none⟩ (.slice Ao25 t239.length co25)).heap[gb227]? = some (.cells #[.int .i64 a0_0, .string a0_1, .int .i64 a0_2, .slice A0_3 l0_3.length c0_3] 24 (0, 0))) := ⟨by (with_reducible repeat (first | refine blk_drewN ?_ _ | refine blk_drew ?_ | refine blk_alloc ?_ _)); refine blk_far ?_ NB227_242.out _; (with_reducible repeat (first | refine blk_drewN ?_ _ | refine blk_drew ?_ | refine blk_alloc ?_ _)); refine blk_far ?_ NB227_242.out _; (with_reducible repeat (first | refine blk_drewN ?_ _ | refine blk_drew ?_ | refine blk_alloc ?_ _)); refine blk_far ?_ NB227_242.out _; (with_reducible repeat (first | refine blk_drewN ?_ _ | refine blk_drew ?_ | refine blk_alloc ?_ _)); refine blk_far ?_ NB227_242.out _; (with_reducible repeat (first | refine blk_drewN ?_ _ | refine blk_drew ?_ | refine blk_alloc ?_ _)); exact BK227.out⟩
      have n3_ : Aside0 (((((w22.setCell ⟨gb242, 0, none⟩ (.int .i64 t236)).setCell ⟨gb242, 1, none⟩ (.string t237)).setCell ⟨gb242, 2, none⟩ (.int .i64 t238)).setCell ⟨gb242, 3, none⟩ (.slice Ao25 t239.length co25)).heap[gb242]? = some (.cells #[.int .i64 t236, .string t237, .int .i64 t238, .slice Ao25 t239.length co25] 31 (0, 0))) := ⟨by (with_reducible repeat (first | refine blk_drewN ?_ _ | refine blk_drew ?_ | refine blk_alloc ?_ _)); refine blk_put (cs := #[.int .i64 t236, .string t237, .int .i64 t238, .slice none 0 0]) ?_ 3 _ rfl; (with_reducible repeat (first | refine blk_drewN ?_ _ | refine blk_drew ?_ | refine blk_alloc ?_ _)); refine blk_put (cs := #[.int .i64 t236, .string t237, .int .i64 0, .slice none 0 0]) ?_ 2 _ rfl; (with_reducible repeat (first | refine blk_drewN ?_ _ | refine blk_drew ?_ | refine blk_alloc ?_ _)); refine blk_put (cs := #[.int .i64 t236, .string (⟨#[]⟩ : ByteArray), .int .i64 0, .slice none 0 0]) ?_ 1 _ rfl; (with_reducible repeat (first | refine blk_drewN ?_ _ | refine blk_drew ?_ | refine blk_alloc ?_ _)); refine blk_put (cs := #[.int .i64 0, .string (⟨#[]⟩ : ByteArray), .int .i64 0, .slice none 0 0]) ?_ 0 _ rfl; (with_reducible repeat (first | refine blk_drewN ?_ _ | refine blk_drew ?_ | refine blk_alloc ?_ _)); exact BK242.out⟩
      have n4_ : Aside0 (Below w.heap.size w ((((w22.setCell ⟨gb242, 0, none⟩ (.int .i64 t236)).setCell ⟨gb242, 1, none⟩ (.string t237)).setCell ⟨gb242, 2, none⟩ (.int .i64 t238)).setCell ⟨gb242, 3, none⟩ (.slice Ao25 t239.length co25))) := ⟨hbA HB.out⟩
      (try clear HO235)
      (try clear HO241)
      (try clear BK227)
      (try clear BK242)
      (try clear HB)
      generalize ((((w22.setCell ⟨gb242, 0, none⟩ (.int .i64 t236)).setCell ⟨gb242, 1, none⟩ (.string t237)).setCell ⟨gb242, 2, none⟩ (.int .i64 t238)).setCell ⟨gb242, 3, none⟩ (.slice Ao25 t239.length co25)) = w31 at n0_ n1_ n2_ n3_ n4_ ⊢
      have HO235 := n0_
      have HO241 := n1_
      have BK227 := n2_
      have BK242 := n3_
      have HB := n4_
      clear n0_ n1_ n2_ n3_ n4_
      replace HO235 := Aside0.mk (Kd.R_drew HO235.out)
      replace HO241 := Aside0.mk (Kd.R_drew HO241.out)
      replace BK227 := Aside0.mk (blk_drew BK227.out)
      replace BK242 := Aside0.mk (blk_drew BK242.out)
      replace HB := Aside0.mk (below_drew1 HB.out)
      refine start_ (n := 16) (S := fun w' => w'.cell? ⟨gb242, 0, none⟩ = some (.int .i64 t236) ∧ w'.cell? ⟨gb242, 1, none⟩ = some (.string t237) ∧ w'.cell? ⟨gb242, 2, none⟩ = some (.int .i64 t238) ∧ w'.cell? ⟨gb242, 3, none⟩ = some (.slice Ao25 t239.length co25) ∧ w'.cell? ⟨gb227, 0, none⟩ = some (.int .i64 a0_0) ∧ w'.cell? ⟨gb227, 1, none⟩ = some (.string a0_1) ∧ w'.cell? ⟨gb227, 2, none⟩ = some (.int .i64 a0_2) ∧ w'.cell? ⟨gb227, 3, none⟩ = some (.slice A0_3 l0_3.length c0_3)) (ds := []) #[false, false, false, false, false, false, false, false, false, false, false, false, false, false, false, false] (by kernel_rfl) rfl rfl ⟨(blk_cell BK242.out 0).trans rfl, (blk_cell BK242.out 1).trans rfl, (blk_cell BK242.out 2).trans rfl, (blk_cell BK242.out 3).trans rfl, (blk_cell BK227.out 0).trans rfl, (blk_cell BK227.out 1).trans rfl, (blk_cell BK227.out 2).trans rfl, (blk_cell BK227.out 3).trans rfl⟩ (fun hHeld => ?_); refine with_tabW tallboylaw27_MetaOrder.tab6 tallboylaw27_MetaOrder.bits6 (fun HT_ HW_ => ?_)
      generalize w31.drew = w32 at HO235 HO241 BK227 BK242 HB hHeld ⊢
      refine pureA_ (i := 0) (N := some 18) #[true, false, false, false, false, false, false, false, false, false, false, false, false, false, false, false] rfl rfl ?_ (hc := any_of HT_.out (by kernel_rfl))
      refine pureA_ (i := 3) (N := some 21) #[true, false, false, true, false, false, false, false, false, false, false, false, false, false, false, false] rfl rfl ?_ (hc := any_of HT_.out (by kernel_rfl))
      refine takeA_ (i := 1) (N := some 19) #[true, true, false, true, false, false, false, false, false, false, false, false, false, false, false, false] rfl rfl hHeld ?_ (hc := take_ofW HT_.out HW_.out (by kernel_rfl)) (hy := by rintro w' ⟨s0, s1, s2, s3, s4, s5, s6, s7⟩; go_simp; with_reducible rfl)
      refine pureA_ (i := 2) (N := some 20) #[true, true, true, true, false, false, false, false, false, false, false, false, false, false, false, false] rfl rfl ?_ (hc := any_of HT_.out (by kernel_rfl))
      refine takeA_ (i := 4) (N := some 22) #[true, true, true, true, true, false, false, false, false, false, false, false, false, false, false, false] rfl rfl hHeld ?_ (hc := take_ofW HT_.out HW_.out (by kernel_rfl)) (hy := by rintro w' ⟨s0, s1, s2, s3, s4, s5, s6, s7⟩; go_simp; with_reducible rfl)
      refine pureA_ (i := 5) (N := some 23) #[true, true, true, true, true, true, false, false, false, false, false, false, false, false, false, false] rfl rfl ?_ (hc := any_of HT_.out (by kernel_rfl))
      refine pureA_ (i := 6) (N := some 24) #[true, true, true, true, true, true, true, false, false, false, false, false, false, false, false, false] rfl rfl ?_ (hc := any_of HT_.out (by kernel_rfl))
      refine pureA_ (i := 7) (N := some 25) #[true, true, true, true, true, true, true, true, false, false, false, false, false, false, false, false] rfl rfl ?_ (hc := any_of HT_.out (by kernel_rfl))
      refine takeA_ (i := 8) (N := some 26) #[true, true, true, true, true, true, true, true, true, false, false, false, false, false, false, false] rfl rfl hHeld ?_ (hc := take_ofW HT_.out HW_.out (by kernel_rfl)) (hy := by rintro w' ⟨s0, s1, s2, s3, s4, s5, s6, s7⟩; go_simp; with_reducible rfl)
      refine takeA_ (i := 11) (N := some 29) #[true, true, true, true, true, true, true, true, true, false, false, true, false, false, false, false] rfl rfl hHeld ?_ (hc := take_ofW HT_.out HW_.out (by kernel_rfl)) (hy := by rintro w' ⟨s0, s1, s2, s3, s4, s5, s6, s7⟩; go_simp; with_reducible rfl)
      refine one_ (i := 9) (N := some 27) #[true, true, true, true, true, true, true, true, true, true, false, true, false, false, false, false] rfl rfl (one_of HT_.out (by kernel_rfl)) (by decide) (fun K hK => ?_)
      refine goes_ Tryz.func21 (by kernel_rfl) rfl #[.agg #[.int .i64 t236, .string t237, .int .i64 t238, .slice Ao25 t239.length co25]] (by rfl) rfl rfl argA ?_
      with_reducible refine (meta_Canon.calls t236 t237 t238 _ _ t239 t243 t244 t245 t246 _ ?side1 ?side2 A27.out).mono ?_
      (case side1 => repeat (first | exact (Kd.R_reads' HO241.out).2.2 | (with_reducible refine Kd.C_alloc ?_ _) | (with_reducible refine Kd.C_drewN ?_ _) | (with_reducible refine Kd.C_drew ?_)))
      (case side2 => exact (Kd.R_reads' HO241.out).2.1)
      rintro e w33 ⟨v247, rfl, ho0, hb⟩
      refine ⟨_, rfl, ?_⟩
      have n0_ := Aside0.mk (Kd.R_elder' (rdA HO235.out) (Kd.R_base ho0) hb)
      have n1_ := Aside0.mk (Kd.R_elder' (rdA HO241.out) (Kd.R_base ho0) hb)
      have n2_ := Aside0.mk (Kd.R_lower (Kd.R_new' (Kd.R_new' ho0 (Kd.R_lt (rdA HO235.out))) (Kd.R_lt (rdA HO241.out))) (below_size (hbA HB.out)))
      have n3_ := Aside0.mk (blk_below (g := gb227) (o := .cells #[.int .i64 a0_0, .string a0_1, .int .i64 a0_2, .slice A0_3 l0_3.length c0_3] 24 (0, 0)) (rbA BK227.out) hb)
      have n4_ := Aside0.mk (blk_below (g := gb242) (o := .cells #[.int .i64 t236, .string t237, .int .i64 t238, .slice Ao25 t239.length co25] 31 (0, 0)) (rbA BK242.out) hb)
      have n5_ := Aside0.mk (below_step (hbA HB.out) hb)
      clear HO235
      clear HO241
      clear BK227
      clear BK242
      clear HB
      have HO235 := n0_
      have HO241 := n1_
      have HO248 := n2_
      have BK227 := n3_
      have BK242 := n4_
      have HB := n5_
      clear n0_ n1_ n2_ n3_ n4_ n5_
      (try clear hb)
      (try clear hb2)
      (try clear hk)
      (try clear hi)
      (try clear ho0)
      obtain ⟨Ao34, co34, eo34⟩ := Kd.R_slice HO248.out
      (first | subst eo34 | (injection eo34 with f1_ f2_ f3_; have f4_ := f1_.symm; have f5_ := f3_.symm; clear f1_ f2_ f3_; subst f4_; subst f5_))
      refine hK.out _ _ ⟨(blk_cell BK242.out 0).trans rfl, (blk_cell BK242.out 1).trans rfl, (blk_cell BK242.out 2).trans rfl, (blk_cell BK242.out 3).trans rfl, (blk_cell BK227.out 0).trans rfl, (blk_cell BK227.out 1).trans rfl, (blk_cell BK227.out 2).trans rfl, (blk_cell BK227.out 3).trans rfl⟩ (fun hHeld => ?_)
      clear hK K
      refine normA_ ?_
      refine one_ (i := 10) (N := some 28) #[true, true, true, true, true, true, true, true, true, true, true, true, false, false, false, false] rfl rfl (one_of HT_.out (by kernel_rfl)) (by decide) (fun K hK => ?_)
      refine goes_ Tryz.func20 (by kernel_rfl) rfl #[.agg #[.int .i64 t243, .string t244, .int .i64 t245, .slice Ao34 t246.length co34]] (by rfl) rfl rfl argA ?_
      with_reducible refine (tallboylaw27_From.calls k t243 t244 t245 _ _ t246 t249 t250 t251 t252 _ ?side1 ?side2 A28.out).mono ?_
      (case side1 => repeat (first | exact (Kd.R_reads' HO248.out).2.2 | (with_reducible refine Kd.C_alloc ?_ _) | (with_reducible refine Kd.C_drewN ?_ _) | (with_reducible refine Kd.C_drew ?_)))
      (case side2 => exact (Kd.R_reads' HO248.out).2.1)
      rintro e w35 ⟨v253, rfl, ho0, hb⟩
      refine ⟨_, rfl, ?_⟩
      have n0_ := Aside0.mk (Kd.R_below (rdA HO235.out) hb)
      have n1_ := Aside0.mk (Kd.R_below (rdA HO241.out) hb)
      have n2_ := Aside0.mk (Kd.R_below (rdA HO248.out) hb)
      have n3_ := Aside0.mk (Kd.R_lower ho0 (below_size (hbA HB.out)))
      have n4_ := Aside0.mk (blk_below (g := gb227) (o := .cells #[.int .i64 a0_0, .string a0_1, .int .i64 a0_2, .slice A0_3 l0_3.length c0_3] 24 (0, 0)) (rbA BK227.out) hb)
      have n5_ := Aside0.mk (blk_below (g := gb242) (o := .cells #[.int .i64 t236, .string t237, .int .i64 t238, .slice Ao25 t239.length co25] 31 (0, 0)) (rbA BK242.out) hb)
      have n6_ := Aside0.mk (below_step (hbA HB.out) hb)
      clear HO235
      clear HO241
      clear HO248
      clear BK227
      clear BK242
      clear HB
      have HO235 := n0_
      have HO241 := n1_
      have HO248 := n2_
      have HO254 := n3_
      have BK227 := n4_
      have BK242 := n5_
      have HB := n6_
      clear n0_ n1_ n2_ n3_ n4_ n5_ n6_
      (try clear hb)
      (try clear hb2)
      (try clear hk)
      (try clear hi)
      (try clear ho0)
      refine hK.out _ _ ⟨(blk_cell BK242.out 0).trans rfl, (blk_cell BK242.out 1).trans rfl, (blk_cell BK242.out 2).trans rfl, (blk_cell BK242.out 3).trans rfl, (blk_cell BK227.out 0).trans rfl, (blk_cell BK227.out 1).trans rfl, (blk_cell BK227.out 2).trans rfl, (blk_cell BK227.out 3).trans rfl⟩ (fun hHeld => ?_)
      clear hK K
      refine normA_ ?_
      refine one_ (i := 12) (N := some 30) #[true, true, true, true, true, true, true, true, true, true, true, true, true, false, false, false] rfl rfl (one_of HT_.out (by kernel_rfl)) (by decide) (fun K hK => ?_)
      refine goes_ Tryz.func20 (by kernel_rfl) rfl #[.agg #[.int .i64 t236, .string t237, .int .i64 t238, .slice Ao25 t239.length co25]] (by rfl) rfl rfl argA ?_
      with_reducible refine (tallboylaw27_From.calls k t236 t237 t238 _ _ t239 t255 t256 t257 t258 _ ?side1 ?side2 A29.out).mono ?_
      (case side1 => repeat (first | exact (Kd.R_reads' HO241.out).2.2 | (with_reducible refine Kd.C_alloc ?_ _) | (with_reducible refine Kd.C_drewN ?_ _) | (with_reducible refine Kd.C_drew ?_)))
      (case side2 => exact (Kd.R_reads' HO241.out).2.1)
      rintro e w36 ⟨v259, rfl, ho0, hb⟩
      refine ⟨_, rfl, ?_⟩
      have n0_ := Aside0.mk (Kd.R_below (rdA HO235.out) hb)
      have n1_ := Aside0.mk (Kd.R_below (rdA HO241.out) hb)
      have n2_ := Aside0.mk (Kd.R_below (rdA HO248.out) hb)
      have n3_ := Aside0.mk (Kd.R_elder' (rdA HO254.out) (Kd.R_base ho0) hb)
      have n4_ := Aside0.mk (Kd.R_lower (Kd.R_new' ho0 (Kd.R_lt (rdA HO254.out))) (below_size (hbA HB.out)))
      have n5_ := Aside0.mk (blk_below (g := gb227) (o := .cells #[.int .i64 a0_0, .string a0_1, .int .i64 a0_2, .slice A0_3 l0_3.length c0_3] 24 (0, 0)) (rbA BK227.out) hb)
      have n6_ := Aside0.mk (blk_below (g := gb242) (o := .cells #[.int .i64 t236, .string t237, .int .i64 t238, .slice Ao25 t239.length co25] 31 (0, 0)) (rbA BK242.out) hb)
      have n7_ := Aside0.mk (below_step (hbA HB.out) hb)
      clear HO235
      clear HO241
      clear HO248
      clear HO254
      clear BK227
      clear BK242
      clear HB
      have HO235 := n0_
      have HO241 := n1_
      have HO248 := n2_
      have HO254 := n3_
      have HO260 := n4_
      have BK227 := n5_
      have BK242 := n6_
      have HB := n7_
      clear n0_ n1_ n2_ n3_ n4_ n5_ n6_ n7_
      (try clear hb)
      (try clear hb2)
      (try clear hk)
      (try clear hi)
      (try clear ho0)
      obtain ⟨Ao37, co37, eo37⟩ := Kd.R_slice HO254.out
      (first | subst eo37 | (injection eo37 with f1_ f2_ f3_; have f4_ := f1_.symm; have f5_ := f3_.symm; clear f1_ f2_ f3_; subst f4_; subst f5_))
      obtain ⟨Ao38, co38, eo38⟩ := Kd.R_slice HO260.out
      (first | subst eo38 | (injection eo38 with f1_ f2_ f3_; have f4_ := f1_.symm; have f5_ := f3_.symm; clear f1_ f2_ f3_; subst f4_; subst f5_))
      refine hK.out _ _ ⟨(blk_cell BK242.out 0).trans rfl, (blk_cell BK242.out 1).trans rfl, (blk_cell BK242.out 2).trans rfl, (blk_cell BK242.out 3).trans rfl, (blk_cell BK227.out 0).trans rfl, (blk_cell BK227.out 1).trans rfl, (blk_cell BK227.out 2).trans rfl, (blk_cell BK227.out 3).trans rfl⟩ (fun hHeld => ?_)
      clear hK K
      refine normA_ ?_
      refine one_ (i := 13) (N := some 31) #[true, true, true, true, true, true, true, true, true, true, true, true, true, true, false, false] rfl rfl (one_of HT_.out (by kernel_rfl)) (by decide) (fun K hK => ?_)
      refine goes_ Tryz.func19 (by kernel_rfl) rfl #[.agg #[.int .i64 t249, .string t250, .int .i64 t251, .slice Ao37 t252.length co37], .agg #[.int .i64 t255, .string t256, .int .i64 t257, .slice Ao38 t258.length co38]] (by rfl) rfl rfl argA ?_
      with_reducible refine (tallboyref27_Same.calls k t249 t250 t251 _ _ t252 t255 t256 t257 _ _ t258 t261 _ ?side1 ?side2 ?side3 ?side4 A30.out).mono ?_
      (case side1 => repeat (first | exact (Kd.R_reads' HO254.out).2.2 | (with_reducible refine Kd.C_alloc ?_ _) | (with_reducible refine Kd.C_drewN ?_ _) | (with_reducible refine Kd.C_drew ?_)))
      (case side2 => exact (Kd.R_reads' HO254.out).2.1)
      (case side3 => repeat (first | exact (Kd.R_reads' HO260.out).2.2 | (with_reducible refine Kd.C_alloc ?_ _) | (with_reducible refine Kd.C_drewN ?_ _) | (with_reducible refine Kd.C_drew ?_)))
      (case side4 => exact (Kd.R_reads' HO260.out).2.1)
      rintro e w39 ⟨rfl, hb⟩
      refine ⟨_, rfl, ?_⟩
      replace HO235 := Aside0.mk (Kd.R_below (rdA HO235.out) hb)
      replace HO241 := Aside0.mk (Kd.R_below (rdA HO241.out) hb)
      replace HO248 := Aside0.mk (Kd.R_below (rdA HO248.out) hb)
      replace HO254 := Aside0.mk (Kd.R_below (rdA HO254.out) hb)
      replace HO260 := Aside0.mk (Kd.R_below (rdA HO260.out) hb)
      replace BK227 := Aside0.mk (blk_below (g := gb227) (o := .cells #[.int .i64 a0_0, .string a0_1, .int .i64 a0_2, .slice A0_3 l0_3.length c0_3] 24 (0, 0)) (rbA BK227.out) hb)
      replace BK242 := Aside0.mk (blk_below (g := gb242) (o := .cells #[.int .i64 t236, .string t237, .int .i64 t238, .slice Ao25 t239.length co25] 31 (0, 0)) (rbA BK242.out) hb)
      replace HB := Aside0.mk (below_step (hbA HB.out) hb)
      (try clear hb)
      (try clear hb2)
      (try clear hk)
      (try clear hi)
      refine hK.out _ _ ⟨(blk_cell BK242.out 0).trans rfl, (blk_cell BK242.out 1).trans rfl, (blk_cell BK242.out 2).trans rfl, (blk_cell BK242.out 3).trans rfl, (blk_cell BK227.out 0).trans rfl, (blk_cell BK227.out 1).trans rfl, (blk_cell BK227.out 2).trans rfl, (blk_cell BK227.out 3).trans rfl⟩ (fun hHeld => ?_)
      clear hK K
      refine normA_ ?_
      refine pureA_ (i := 14) (N := some 32) #[true, true, true, true, true, true, true, true, true, true, true, true, true, true, true, false] rfl rfl ?_ (hc := any_of HT_.out (by kernel_rfl))
      refine pureA_ (i := 15) (N := some 33) #[true, true, true, true, true, true, true, true, true, true, true, true, true, true, true, true] rfl rfl ?_ (hc := any_of HT_.out (by kernel_rfl))
      refine done_ (done_of HT_.out (by kernel_rfl)) ?_
      try go_wp2
      go_meet
      case rel => exact ⟨_, (!t261), rsA, H', ⟨by first | omega | exact Nat.le_refl _⟩, ⟨by (with_reducible repeat (first | apply Kd.R_alloc | apply Kd.R_drewN | apply Kd.R_drew)); exact Kd.R_mono HO241.out (fun _ hk => trivial)⟩, ⟨rbA BK227.out⟩, ⟨rbA BK242.out⟩, ⟨hbA HB.out⟩⟩
    rw [if_neg c26] at H
    have c26b0 : ((t239.length : Int) == (l0_3.length : Int)) = false := beq_eq_false_iff_ne.mpr c26
    have c26b1 : ((t239.length : Int) != (l0_3.length : Int)) = true := bne_iff_ne.mpr c26
    have c26b2 : (t239.length == l0_3.length) = false := by first | simpa using c26 | (simp at c26 ⊢; omega)
    (first | rw [c26b0] | (simp only [i64_w, i32_w]; rw [c26b0]) | skip)
    have H' := Aside0.mk H
    clear H
    try go_wp2
    have n0_ : Aside0 (Kd.R k61 61 ((((w22.setCell ⟨gb242, 0, none⟩ (.int .i64 t236)).setCell ⟨gb242, 1, none⟩ (.string t237)).setCell ⟨gb242, 2, none⟩ (.int .i64 t238)).setCell ⟨gb242, 3, none⟩ (.slice Ao25 t239.length co25)) w.heap.size (fun k_ => some k_ ≠ (.slice Ao25 t239.length co25 : Value).ownBlock) (.slice Ao20 t233.length co20) t233) := ⟨by (with_reducible repeat (first | apply Kd.R_alloc | apply Kd.R_drewN | apply Kd.R_drew)); exact Kd.R_mono (Kd.R_far (p := ⟨gb242, 3, none⟩) (Kd.R_far (p := ⟨gb242, 2, none⟩) (Kd.R_far (p := ⟨gb242, 1, none⟩) (Kd.R_far (p := ⟨gb242, 0, none⟩) (Kd.R_types HO235.out BK242.out (by decide)) (fun _ hk => hk.2) (.int .i64 t236)) (fun _ hk => hk.2) (.string t237)) (fun _ hk => hk.2) (.int .i64 t238)) (fun _ hk => hk.2) (.slice Ao25 t239.length co25)) (fun _ hk => hk.1.2)⟩
    have n1_ : Aside0 (Kd.R k61 61 ((((w22.setCell ⟨gb242, 0, none⟩ (.int .i64 t236)).setCell ⟨gb242, 1, none⟩ (.string t237)).setCell ⟨gb242, 2, none⟩ (.int .i64 t238)).setCell ⟨gb242, 3, none⟩ (.slice Ao25 t239.length co25)) w.heap.size (fun k_ => some k_ ≠ (.slice Ao20 t233.length co20 : Value).ownBlock) (.slice Ao25 t239.length co25) t239) := ⟨by (with_reducible repeat (first | apply Kd.R_alloc | apply Kd.R_drewN | apply Kd.R_drew)); exact Kd.R_mono (Kd.R_far (p := ⟨gb242, 3, none⟩) (Kd.R_far (p := ⟨gb242, 2, none⟩) (Kd.R_far (p := ⟨gb242, 1, none⟩) (Kd.R_far (p := ⟨gb242, 0, none⟩) (Kd.R_types HO241.out BK242.out (by decide)) (fun _ hk => hk.2) (.int .i64 t236)) (fun _ hk => hk.2) (.string t237)) (fun _ hk => hk.2) (.int .i64 t238)) (fun _ hk => hk.2) (.slice Ao25 t239.length co25)) (fun _ hk => hk.1.2)⟩
    have n2_ : Aside0 (((((w22.setCell ⟨gb242, 0, none⟩ (.int .i64 t236)).setCell ⟨gb242, 1, none⟩ (.string t237)).setCell ⟨gb242, 2, none⟩ (.int .i64 t238)).setCell ⟨gb242, 3, none⟩ (.slice Ao25 t239.length co25)).heap[gb227]? = some (.cells #[.int .i64 a0_0, .string a0_1, .int .i64 a0_2, .slice A0_3 l0_3.length c0_3] 24 (0, 0))) := ⟨by (with_reducible repeat (first | refine blk_drewN ?_ _ | refine blk_drew ?_ | refine blk_alloc ?_ _)); refine blk_far ?_ NB227_242.out _; (with_reducible repeat (first | refine blk_drewN ?_ _ | refine blk_drew ?_ | refine blk_alloc ?_ _)); refine blk_far ?_ NB227_242.out _; (with_reducible repeat (first | refine blk_drewN ?_ _ | refine blk_drew ?_ | refine blk_alloc ?_ _)); refine blk_far ?_ NB227_242.out _; (with_reducible repeat (first | refine blk_drewN ?_ _ | refine blk_drew ?_ | refine blk_alloc ?_ _)); refine blk_far ?_ NB227_242.out _; (with_reducible repeat (first | refine blk_drewN ?_ _ | refine blk_drew ?_ | refine blk_alloc ?_ _)); exact BK227.out⟩
    have n3_ : Aside0 (((((w22.setCell ⟨gb242, 0, none⟩ (.int .i64 t236)).setCell ⟨gb242, 1, none⟩ (.string t237)).setCell ⟨gb242, 2, none⟩ (.int .i64 t238)).setCell ⟨gb242, 3, none⟩ (.slice Ao25 t239.length co25)).heap[gb242]? = some (.cells #[.int .i64 t236, .string t237, .int .i64 t238, .slice Ao25 t239.length co25] 31 (0, 0))) := ⟨by (with_reducible repeat (first | refine blk_drewN ?_ _ | refine blk_drew ?_ | refine blk_alloc ?_ _)); refine blk_put (cs := #[.int .i64 t236, .string t237, .int .i64 t238, .slice none 0 0]) ?_ 3 _ rfl; (with_reducible repeat (first | refine blk_drewN ?_ _ | refine blk_drew ?_ | refine blk_alloc ?_ _)); refine blk_put (cs := #[.int .i64 t236, .string t237, .int .i64 0, .slice none 0 0]) ?_ 2 _ rfl; (with_reducible repeat (first | refine blk_drewN ?_ _ | refine blk_drew ?_ | refine blk_alloc ?_ _)); refine blk_put (cs := #[.int .i64 t236, .string (⟨#[]⟩ : ByteArray), .int .i64 0, .slice none 0 0]) ?_ 1 _ rfl; (with_reducible repeat (first | refine blk_drewN ?_ _ | refine blk_drew ?_ | refine blk_alloc ?_ _)); refine blk_put (cs := #[.int .i64 0, .string (⟨#[]⟩ : ByteArray), .int .i64 0, .slice none 0 0]) ?_ 0 _ rfl; (with_reducible repeat (first | refine blk_drewN ?_ _ | refine blk_drew ?_ | refine blk_alloc ?_ _)); exact BK242.out⟩
    have n4_ : Aside0 (Below w.heap.size w ((((w22.setCell ⟨gb242, 0, none⟩ (.int .i64 t236)).setCell ⟨gb242, 1, none⟩ (.string t237)).setCell ⟨gb242, 2, none⟩ (.int .i64 t238)).setCell ⟨gb242, 3, none⟩ (.slice Ao25 t239.length co25))) := ⟨hbA HB.out⟩
    (try clear HO235)
    (try clear HO241)
    (try clear BK227)
    (try clear BK242)
    (try clear HB)
    generalize ((((w22.setCell ⟨gb242, 0, none⟩ (.int .i64 t236)).setCell ⟨gb242, 1, none⟩ (.string t237)).setCell ⟨gb242, 2, none⟩ (.int .i64 t238)).setCell ⟨gb242, 3, none⟩ (.slice Ao25 t239.length co25)) = w40 at n0_ n1_ n2_ n3_ n4_ ⊢
    have HO235 := n0_
    have HO241 := n1_
    have BK227 := n2_
    have BK242 := n3_
    have HB := n4_
    clear n0_ n1_ n2_ n3_ n4_
    replace HO235 := Aside0.mk (Kd.R_drew HO235.out)
    replace HO241 := Aside0.mk (Kd.R_drew HO241.out)
    replace BK227 := Aside0.mk (blk_drew BK227.out)
    replace BK242 := Aside0.mk (blk_drew BK242.out)
    replace HB := Aside0.mk (below_drew1 HB.out)
    refine start_ (n := 16) (S := fun w' => w'.cell? ⟨gb242, 0, none⟩ = some (.int .i64 t236) ∧ w'.cell? ⟨gb242, 1, none⟩ = some (.string t237) ∧ w'.cell? ⟨gb242, 2, none⟩ = some (.int .i64 t238) ∧ w'.cell? ⟨gb242, 3, none⟩ = some (.slice Ao25 t239.length co25) ∧ w'.cell? ⟨gb227, 0, none⟩ = some (.int .i64 a0_0) ∧ w'.cell? ⟨gb227, 1, none⟩ = some (.string a0_1) ∧ w'.cell? ⟨gb227, 2, none⟩ = some (.int .i64 a0_2) ∧ w'.cell? ⟨gb227, 3, none⟩ = some (.slice A0_3 l0_3.length c0_3)) (ds := []) #[false, false, false, false, false, false, false, false, false, false, false, false, false, false, false, false] (by kernel_rfl) rfl rfl ⟨(blk_cell BK242.out 0).trans rfl, (blk_cell BK242.out 1).trans rfl, (blk_cell BK242.out 2).trans rfl, (blk_cell BK242.out 3).trans rfl, (blk_cell BK227.out 0).trans rfl, (blk_cell BK227.out 1).trans rfl, (blk_cell BK227.out 2).trans rfl, (blk_cell BK227.out 3).trans rfl⟩ (fun hHeld => ?_); refine with_tabW tallboylaw27_MetaOrder.tab6 tallboylaw27_MetaOrder.bits6 (fun HT_ HW_ => ?_)
    generalize w40.drew = w41 at HO235 HO241 BK227 BK242 HB hHeld ⊢
    refine pureA_ (i := 0) (N := some 18) #[true, false, false, false, false, false, false, false, false, false, false, false, false, false, false, false] rfl rfl ?_ (hc := any_of HT_.out (by kernel_rfl))
    refine pureA_ (i := 3) (N := some 21) #[true, false, false, true, false, false, false, false, false, false, false, false, false, false, false, false] rfl rfl ?_ (hc := any_of HT_.out (by kernel_rfl))
    refine takeA_ (i := 1) (N := some 19) #[true, true, false, true, false, false, false, false, false, false, false, false, false, false, false, false] rfl rfl hHeld ?_ (hc := take_ofW HT_.out HW_.out (by kernel_rfl)) (hy := by rintro w' ⟨s0, s1, s2, s3, s4, s5, s6, s7⟩; go_simp; with_reducible rfl)
    refine pureA_ (i := 2) (N := some 20) #[true, true, true, true, false, false, false, false, false, false, false, false, false, false, false, false] rfl rfl ?_ (hc := any_of HT_.out (by kernel_rfl))
    refine takeA_ (i := 4) (N := some 22) #[true, true, true, true, true, false, false, false, false, false, false, false, false, false, false, false] rfl rfl hHeld ?_ (hc := take_ofW HT_.out HW_.out (by kernel_rfl)) (hy := by rintro w' ⟨s0, s1, s2, s3, s4, s5, s6, s7⟩; go_simp; with_reducible rfl)
    refine pureA_ (i := 5) (N := some 23) #[true, true, true, true, true, true, false, false, false, false, false, false, false, false, false, false] rfl rfl ?_ (hc := any_of HT_.out (by kernel_rfl))
    refine pureA_ (i := 6) (N := some 24) #[true, true, true, true, true, true, true, false, false, false, false, false, false, false, false, false] rfl rfl ?_ (hc := any_of HT_.out (by kernel_rfl))
    refine pureA_ (i := 7) (N := some 25) #[true, true, true, true, true, true, true, true, false, false, false, false, false, false, false, false] rfl rfl ?_ (hc := any_of HT_.out (by kernel_rfl))
    refine pure_ (i := 8) (N := some 26) (v := undef) (a' := ?_) #[true, true, true, true, true, true, true, true, true, false, false, false, false, false, false, false] rfl rfl (any_of HT_.out (by kernel_rfl)) (fun _ _ _ h => h) (Or.inr ⟨by rfl, rfl⟩) ?_ ?_
    rotate_left
    · simp only [Act.put, List.setIfInBounds_toArray, List.set_cons_zero, List.set_cons_succ, i64_w, i32_w]
      rfl
    refine pure_ (i := 9) (N := some 27) (v := undef) (a' := ?_) #[true, true, true, true, true, true, true, true, true, true, false, false, false, false, false, false] rfl rfl (any_of HT_.out (by kernel_rfl)) (fun _ _ _ h => h) (Or.inr ⟨by rfl, rfl⟩) ?_ ?_
    rotate_left
    · simp only [Act.put, List.setIfInBounds_toArray, List.set_cons_zero, List.set_cons_succ, i64_w, i32_w]
      rfl
    refine pure_ (i := 10) (N := some 28) (v := undef) (a' := ?_) #[true, true, true, true, true, true, true, true, true, true, true, false, false, false, false, false] rfl rfl (any_of HT_.out (by kernel_rfl)) (fun _ _ _ h => h) (Or.inr ⟨by rfl, rfl⟩) ?_ ?_
    rotate_left
    · simp only [Act.put, List.setIfInBounds_toArray, List.set_cons_zero, List.set_cons_succ, i64_w, i32_w]
      rfl
    refine pure_ (i := 11) (N := some 29) (v := undef) (a' := ?_) #[true, true, true, true, true, true, true, true, true, true, true, true, false, false, false, false] rfl rfl (any_of HT_.out (by kernel_rfl)) (fun _ _ _ h => h) (Or.inr ⟨by rfl, rfl⟩) ?_ ?_
    rotate_left
    · simp only [Act.put, List.setIfInBounds_toArray, List.set_cons_zero, List.set_cons_succ, i64_w, i32_w]
      rfl
    refine pure_ (i := 12) (N := some 30) (v := undef) (a' := ?_) #[true, true, true, true, true, true, true, true, true, true, true, true, true, false, false, false] rfl rfl (any_of HT_.out (by kernel_rfl)) (fun _ _ _ h => h) (Or.inr ⟨by rfl, rfl⟩) ?_ ?_
    rotate_left
    · simp only [Act.put, List.setIfInBounds_toArray, List.set_cons_zero, List.set_cons_succ, i64_w, i32_w]
      rfl
    refine pure_ (i := 13) (N := some 31) (v := undef) (a' := ?_) #[true, true, true, true, true, true, true, true, true, true, true, true, true, true, false, false] rfl rfl (any_of HT_.out (by kernel_rfl)) (fun _ _ _ h => h) (Or.inr ⟨by rfl, rfl⟩) ?_ ?_
    rotate_left
    · simp only [Act.put, List.setIfInBounds_toArray, List.set_cons_zero, List.set_cons_succ, i64_w, i32_w]
      rfl
    refine pure_ (i := 14) (N := some 32) (v := undef) (a' := ?_) #[true, true, true, true, true, true, true, true, true, true, true, true, true, true, true, false] rfl rfl (any_of HT_.out (by kernel_rfl)) (fun _ _ _ h => h) (Or.inr ⟨by rfl, rfl⟩) ?_ ?_
    rotate_left
    · simp only [Act.put, List.setIfInBounds_toArray, List.set_cons_zero, List.set_cons_succ, i64_w, i32_w]
      rfl
    refine pureA_ (i := 15) (N := some 33) #[true, true, true, true, true, true, true, true, true, true, true, true, true, true, true, true] rfl rfl ?_ (hc := any_of HT_.out (by kernel_rfl))
    refine done_ (done_of HT_.out (by kernel_rfl)) ?_
    try go_wp2
    go_meet
    case rel => exact ⟨_, (true), rsA, H', ⟨by first | omega | exact Nat.le_refl _⟩, ⟨by (with_reducible repeat (first | apply Kd.R_alloc | apply Kd.R_drewN | apply Kd.R_drew)); exact Kd.R_mono HO241.out (fun _ hk => trivial)⟩, ⟨rbA BK227.out⟩, ⟨rbA BK242.out⟩, ⟨hbA HB.out⟩⟩
   clear HC13
   (try clear c1); (try clear c2); (try clear p2); (try clear c4); (try clear c6); (try clear c8); (try clear c9); (try clear c11); (try clear c19); (try clear c20); (try clear c21); (try clear c23); (try clear c25); (try clear c26); (try clear c26b0); (try clear c26b1); (try clear c26b2); (try clear c26b3); (try clear hcz16_0); (try clear hcz16_1); (try clear hcz16_2); (try clear hcz16_3); (try clear hcz18_0); (try clear hcz18_1); (try clear hcz18_2); (try clear hcz18_3); (try clear hcz24_0); (try clear hcz24_1); (try clear hcz24_2); (try clear hcz24_3); (try clear hcz9_0); (try clear hcz9_1); (try clear hcz9_2); (try clear hcz9_3); (try clear hfz16_0); (try clear hfz16_1); (try clear hfz16_2); (try clear hfz16_3); (try clear hfz18_0); (try clear hfz18_1); (try clear hfz18_2); (try clear hfz18_3); (try clear hfz24_0); (try clear hfz24_1); (try clear hfz24_2); (try clear hfz24_3); (try clear hfz9_0); (try clear hfz9_1); (try clear hfz9_2); (try clear hfz9_3)
   obtain ⟨kq, x33_12, rfl, HA, HJ12, HO_243003, BK227, BK242, HB⟩ := hcut
   cases kq with
   | zero => exact absurd HA.out (by simp [tallboylaw27_MetaOrder.j0])
   | succ kj12 =>
    have H := HA.out
    clear HA
    simp only [tallboylaw27_MetaOrder.j0] at H
    by_cases c42 : x33_12 = true
    · subst c42
      have H1 : (some false) = some r := by rw [if_pos rfl] at H; exact H
      clear H
      have H := H1
      clear H1
      obtain rfl := Option.some.inj H
      go_wp2
      go_ret
      exact ⟨reA, hbA HB.out⟩
    replace c42 := Bool.eq_false_iff.mpr c42
    subst c42
    have H1 : (tallboylaw27_MetaOrder.l0 kj12 a1 1 a0_0 a0_1 a0_2 l0_3 t236 t237 t238 t239) = some r := by rw [if_neg (show ¬ (false = true) by decide)] at H; exact H
    clear H
    have H := H1
    clear H1
    have H' := Aside0.mk H
    clear H
    go_wp2
    go_loopg [6] kj12 (fun kq v6 w' => ∃ (x6_2 : Int), v6 = .int .i64 x6_2 ∧ Aside0 (tallboylaw27_MetaOrder.l0 kq a1 x6_2 a0_0 a0_1 a0_2 l0_3 t236 t237 t238 t239 = some r) ∧ Aside0 (kq ≤ kj12) ∧ Aside0 (Kd.R k61 61 w' w.heap.size (fun _ => True) (.slice Ao25 t239.length co25) t239) ∧ Aside0 (w'.heap[gb227]? = some (.cells #[.int .i64 a0_0, .string a0_1, .int .i64 a0_2, (.slice A0_3 l0_3.length c0_3)] 24 (0, 0))) ∧ Aside0 (w'.heap[gb242]? = some (.cells #[.int .i64 t236, .string t237, .int .i64 t238, (.slice Ao25 t239.length co25)] 31 (0, 0))) ∧ Aside0 (Below w.heap.size w w'))
    case atStart => exact ⟨(1), rsA, H', ⟨Nat.le_refl _⟩, ⟨rdA HO_243003.out⟩, ⟨rbA BK227.out⟩, ⟨rbA BK242.out⟩, ⟨hbA HB.out⟩⟩
    case round =>
     clear H'
     (try clear c1); (try clear c2); (try clear p2); (try clear c4); (try clear c6); (try clear c8); (try clear c9); (try clear c11); (try clear c19); (try clear c20); (try clear c21); (try clear c23); (try clear c25); (try clear c26); (try clear c26b0); (try clear c26b1); (try clear c26b2); (try clear c26b3); (try clear c42); (try clear hcz16_0); (try clear hcz16_1); (try clear hcz16_2); (try clear hcz16_3); (try clear hcz18_0); (try clear hcz18_1); (try clear hcz18_2); (try clear hcz18_3); (try clear hcz24_0); (try clear hcz24_1); (try clear hcz24_2); (try clear hcz24_3); (try clear hcz9_0); (try clear hcz9_1); (try clear hcz9_2); (try clear hcz9_3); (try clear hfz16_0); (try clear hfz16_1); (try clear hfz16_2); (try clear hfz16_3); (try clear hfz18_0); (try clear hfz18_1); (try clear hfz18_2); (try clear hfz18_3); (try clear hfz24_0); (try clear hfz24_1); (try clear hfz24_2); (try clear hfz24_3); (try clear hfz9_0); (try clear hfz9_1); (try clear hfz9_2); (try clear hfz9_3); (try clear p2)
     obtain ⟨x6_2, rfl, HA, HK2, HO_243003, BK227, BK242, HB⟩ := hrel
     cases gk with
     | zero => exact absurd HA.out (by simp [tallboylaw27_MetaOrder.l0])
     | succ k2 =>
      have H := HA.out
      clear HA
      simp only [tallboylaw27_MetaOrder.l0] at H
      by_cases c43 : x6_2 < (t239.length : Int)
      · rw [if_pos c43] at H
        have c43b0 : decide (x6_2 < (t239.length : Int)) = true := decide_eq_true c43
        clear c43
        by_cases c44 : 0 ≤ x6_2
        · rw [if_pos c44] at H
          have c44b0 : decide (0 ≤ x6_2) = true := decide_eq_true c44
          clear c44
          obtain ⟨ji45, hji45⟩ : ∃ j_ : Int, (wrap64 (x6_2 - 1)) = j_ := ⟨_, rfl⟩
          replace H : (if 0 ≤ (ji45) then (if (ji45) < (t239.length : Int) then (if ((rd_T61 t239 x6_2).f0) < ((rd_T61 t239 (ji45)).f0) then (some false) else (tallboylaw27_MetaOrder.l0 k2 a1 (wrap64 (x6_2 + 1)) a0_0 a0_1 a0_2 l0_3 t236 t237 t238 t239)) else (none)) else (none)) = some r := by first | (rw [hji45] at H; exact H) | (simp only [hji45] at H ⊢; exact H)
          have hji45w : (IntKind.i64.wrap (x6_2 - 1)) = ji45 := (i64_w _).trans hji45
          by_cases c46 : 0 ≤ (ji45)
          · rw [if_pos c46] at H
            have c46b0 : decide (0 ≤ (ji45)) = true := decide_eq_true c46
            clear c46
            by_cases c47 : (ji45) < (t239.length : Int)
            · rw [if_pos c47] at H
              have c47b0 : decide ((ji45) < (t239.length : Int)) = true := decide_eq_true c47
              clear c47
              by_cases c48 : ((rd_T61 t239 x6_2).f0) < ((rd_T61 t239 (ji45)).f0)
              · rw [if_pos c48] at H
                have c48b0 : decide (((rd_T61 t239 x6_2).f0) < ((rd_T61 t239 (ji45)).f0)) = true := decide_eq_true c48
                clear c48
                obtain rfl := Option.some.inj H
                have hnb49 := NB242_227.out
                have hnc49 := NB227_242.out
                obtain ⟨hcz50_0, hcz50_1, hcz50_2, hcz50_3, hfz50_0, hfz50_1, hfz50_2, hfz50_3⟩ := blkA4 BK242.out
                try go_wp2
                replace HO_243003 := Aside0.mk (Kd.R_drew HO_243003.out)
                replace BK227 := Aside0.mk (blk_drew BK227.out)
                replace BK242 := Aside0.mk (blk_drew BK242.out)
                replace HB := Aside0.mk (below_drew1 HB.out)
                have p262 : 0 ≤ (x6_2 : Int) := of_decide_eq_true asA
                have q262 : x6_2 < (t239.length : Int) := of_decide_eq_true asA
                obtain ⟨ad262, e262, hx262_0, hx262_1⟩ := at_T61 (Kd.R_reads' HO_243003.out).2.2 x6_2 p262 q262
                cases e262
                replace p262 := eq_true p262
                replace q262 := eq_true q262
                have p263 : 0 ≤ ((ji45) : Int) := of_decide_eq_true asA
                have q263 : (ji45) < (t239.length : Int) := of_decide_eq_true asA
                obtain ⟨ad263, e263, hx263_0, hx263_1⟩ := at_T61 (Kd.R_reads' HO_243003.out).2.2 (ji45) p263 q263
                obtain rfl : ad262 = ad263 := (by injection e263)
                replace p263 := eq_true p263
                replace q263 := eq_true q263
                refine start_ (n := 14) (S := fun w' => w'.cell? ⟨gb242, 0, none⟩ = some (.int .i64 t236) ∧ w'.cell? ⟨gb242, 1, none⟩ = some (.string t237) ∧ w'.cell? ⟨gb242, 2, none⟩ = some (.int .i64 t238) ∧ w'.cell? ⟨gb242, 3, none⟩ = some (.slice (some ad262) t239.length co25) ∧ w'.cell? (ad262.add ((x6_2).toNat * 2)) = some (.int .u8 ((rd_T61 t239 x6_2).f0)) ∧ w'.cell? ⟨(ad262.add ((x6_2).toNat * 2)).block, (ad262.add ((x6_2).toNat * 2)).off + 1, none⟩ = some (.string ((rd_T61 t239 x6_2).f1)) ∧ w'.cell? (ad262.add (((ji45)).toNat * 2)) = some (.int .u8 ((rd_T61 t239 (ji45)).f0)) ∧ w'.cell? ⟨(ad262.add (((ji45)).toNat * 2)).block, (ad262.add (((ji45)).toNat * 2)).off + 1, none⟩ = some (.string ((rd_T61 t239 (ji45)).f1))) (ds := []) #[false, false, false, false, false, false, false, false, false, false, false, false, false, false] (by kernel_rfl) rfl rfl ⟨(blk_cell BK242.out 0).trans rfl, (blk_cell BK242.out 1).trans rfl, (blk_cell BK242.out 2).trans rfl, (blk_cell BK242.out 3).trans rfl, hx262_0, hx262_1, hx263_0, hx263_1⟩ (fun hHeld => ?_); refine with_tabW tallboylaw27_MetaOrder.tab11 tallboylaw27_MetaOrder.bits11 (fun HT_ HW_ => ?_)
                generalize wr.drew = w51 at HO_243003 BK227 BK242 HB hx262_0 hx262_1 hx263_0 hx263_1 hHeld ⊢
                refine pureA_ (i := 0) (N := some 41) #[true, false, false, false, false, false, false, false, false, false, false, false, false, false] rfl rfl ?_ (hc := any_of HT_.out (by kernel_rfl))
                refine pureA_ (i := 2) (N := some 43) #[true, false, true, false, false, false, false, false, false, false, false, false, false, false] rfl rfl ?_ (hc := any_of HT_.out (by kernel_rfl))
                refine pureA_ (i := 6) (N := some 47) #[true, false, true, false, false, false, true, false, false, false, false, false, false, false] rfl rfl ?_ (hc := any_of HT_.out (by kernel_rfl))
                refine pureA_ (i := 8) (N := some 49) #[true, false, true, false, false, false, true, false, true, false, false, false, false, false] rfl rfl ?_ (hc := any_of HT_.out (by kernel_rfl))
                refine pureA_ (i := 9) (N := some 50) #[true, false, true, false, false, false, true, false, true, true, false, false, false, false] rfl rfl ?_ (hc := any_of HT_.out (by kernel_rfl))
                refine takeA_ (i := 1) (N := some 42) #[true, true, true, false, false, false, true, false, true, true, false, false, false, false] rfl rfl hHeld ?_ (hc := take_ofW HT_.out HW_.out (by kernel_rfl)) (hy := by rintro w' ⟨s0, s1, s2, s3, s4, s5, s6, s7⟩; go_simp; with_reducible rfl)
                refine pureA_ (i := 3) (N := some 44) #[true, true, true, true, false, false, true, false, true, true, false, false, false, false] rfl rfl ?_ (hc := any_of HT_.out (by kernel_rfl))
                refine pureA_ (i := 4) (N := some 45) #[true, true, true, true, true, false, true, false, true, true, false, false, false, false] rfl rfl ?_ (hc := any_of HT_.out (by kernel_rfl))
                refine takeA_ (i := 5) (N := some 46) #[true, true, true, true, true, true, true, false, true, true, false, false, false, false] rfl rfl hHeld ?_ (hc := take_ofW HT_.out HW_.out (by kernel_rfl)) (hy := by rintro w' ⟨s0, s1, s2, s3, s4, s5, s6, s7⟩; go_simp; with_reducible rfl)
                refine takeA_ (i := 7) (N := some 48) #[true, true, true, true, true, true, true, true, true, true, false, false, false, false] rfl rfl hHeld ?_ (hc := take_ofW HT_.out HW_.out (by kernel_rfl)) (hy := by rintro w' ⟨s0, s1, s2, s3, s4, s5, s6, s7⟩; go_simp; with_reducible rfl)
                refine pureA_ (i := 10) (N := some 51) #[true, true, true, true, true, true, true, true, true, true, true, false, false, false] rfl rfl ?_ (hc := any_of HT_.out (by kernel_rfl))
                refine pureA_ (i := 11) (N := some 52) #[true, true, true, true, true, true, true, true, true, true, true, true, false, false] rfl rfl ?_ (hc := any_of HT_.out (by kernel_rfl))
                refine takeA_ (i := 12) (N := some 53) #[true, true, true, true, true, true, true, true, true, true, true, true, true, false] rfl rfl hHeld ?_ (hc := take_ofW HT_.out HW_.out (by kernel_rfl)) (hy := by rintro w' ⟨s0, s1, s2, s3, s4, s5, s6, s7⟩; go_simp; with_reducible rfl)
                refine pureA_ (i := 13) (N := some 54) #[true, true, true, true, true, true, true, true, true, true, true, true, true, true] rfl rfl ?_ (hc := any_of HT_.out (by kernel_rfl))
                refine done_ (done_of HT_.out (by kernel_rfl)) ?_
                try go_wp2
                go_ret
                exact ⟨by first | rfl | (simp [errW_none, errW_some] <;> rfl) | (simp only [← hji45]; first | rfl | (simp [errW_none, errW_some] <;> rfl)) | (simp [*, errW_none, errW_some] <;> rfl), hbA HB.out⟩
              rw [if_neg c48] at H
              have c48b0 : decide (((rd_T61 t239 x6_2).f0) < ((rd_T61 t239 (ji45)).f0)) = false := decide_eq_false c48
              clear c48
              have H' := Aside0.mk H
              clear H
              have hnb52 := NB242_227.out
              have hnc52 := NB227_242.out
              obtain ⟨hcz53_0, hcz53_1, hcz53_2, hcz53_3, hfz53_0, hfz53_1, hfz53_2, hfz53_3⟩ := blkA4 BK242.out
              try go_wp2
              replace HO_243003 := Aside0.mk (Kd.R_drew HO_243003.out)
              replace BK227 := Aside0.mk (blk_drew BK227.out)
              replace BK242 := Aside0.mk (blk_drew BK242.out)
              replace HB := Aside0.mk (below_drew1 HB.out)
              have p262 : 0 ≤ (x6_2 : Int) := of_decide_eq_true asA
              have q262 : x6_2 < (t239.length : Int) := of_decide_eq_true asA
              obtain ⟨ad262, e262, hx262_0, hx262_1⟩ := at_T61 (Kd.R_reads' HO_243003.out).2.2 x6_2 p262 q262
              cases e262
              replace p262 := eq_true p262
              replace q262 := eq_true q262
              have p263 : 0 ≤ ((ji45) : Int) := of_decide_eq_true asA
              have q263 : (ji45) < (t239.length : Int) := of_decide_eq_true asA
              obtain ⟨ad263, e263, hx263_0, hx263_1⟩ := at_T61 (Kd.R_reads' HO_243003.out).2.2 (ji45) p263 q263
              obtain rfl : ad262 = ad263 := (by injection e263)
              replace p263 := eq_true p263
              replace q263 := eq_true q263
              refine start_ (n := 14) (S := fun w' => w'.cell? ⟨gb242, 0, none⟩ = some (.int .i64 t236) ∧ w'.cell? ⟨gb242, 1, none⟩ = some (.string t237) ∧ w'.cell? ⟨gb242, 2, none⟩ = some (.int .i64 t238) ∧ w'.cell? ⟨gb242, 3, none⟩ = some (.slice (some ad262) t239.length co25) ∧ w'.cell? (ad262.add ((x6_2).toNat * 2)) = some (.int .u8 ((rd_T61 t239 x6_2).f0)) ∧ w'.cell? ⟨(ad262.add ((x6_2).toNat * 2)).block, (ad262.add ((x6_2).toNat * 2)).off + 1, none⟩ = some (.string ((rd_T61 t239 x6_2).f1)) ∧ w'.cell? (ad262.add (((ji45)).toNat * 2)) = some (.int .u8 ((rd_T61 t239 (ji45)).f0)) ∧ w'.cell? ⟨(ad262.add (((ji45)).toNat * 2)).block, (ad262.add (((ji45)).toNat * 2)).off + 1, none⟩ = some (.string ((rd_T61 t239 (ji45)).f1))) (ds := []) #[false, false, false, false, false, false, false, false, false, false, false, false, false, false] (by kernel_rfl) rfl rfl ⟨(blk_cell BK242.out 0).trans rfl, (blk_cell BK242.out 1).trans rfl, (blk_cell BK242.out 2).trans rfl, (blk_cell BK242.out 3).trans rfl, hx262_0, hx262_1, hx263_0, hx263_1⟩ (fun hHeld => ?_); refine with_tabW tallboylaw27_MetaOrder.tab11 tallboylaw27_MetaOrder.bits11 (fun HT_ HW_ => ?_)
              generalize wr.drew = w54 at HO_243003 BK227 BK242 HB hx262_0 hx262_1 hx263_0 hx263_1 hHeld ⊢
              refine pureA_ (i := 0) (N := some 41) #[true, false, false, false, false, false, false, false, false, false, false, false, false, false] rfl rfl ?_ (hc := any_of HT_.out (by kernel_rfl))
              refine pureA_ (i := 2) (N := some 43) #[true, false, true, false, false, false, false, false, false, false, false, false, false, false] rfl rfl ?_ (hc := any_of HT_.out (by kernel_rfl))
              refine pureA_ (i := 6) (N := some 47) #[true, false, true, false, false, false, true, false, false, false, false, false, false, false] rfl rfl ?_ (hc := any_of HT_.out (by kernel_rfl))
              refine pureA_ (i := 8) (N := some 49) #[true, false, true, false, false, false, true, false, true, false, false, false, false, false] rfl rfl ?_ (hc := any_of HT_.out (by kernel_rfl))
              refine pureA_ (i := 9) (N := some 50) #[true, false, true, false, false, false, true, false, true, true, false, false, false, false] rfl rfl ?_ (hc := any_of HT_.out (by kernel_rfl))
              refine takeA_ (i := 1) (N := some 42) #[true, true, true, false, false, false, true, false, true, true, false, false, false, false] rfl rfl hHeld ?_ (hc := take_ofW HT_.out HW_.out (by kernel_rfl)) (hy := by rintro w' ⟨s0, s1, s2, s3, s4, s5, s6, s7⟩; go_simp; with_reducible rfl)
              refine pureA_ (i := 3) (N := some 44) #[true, true, true, true, false, false, true, false, true, true, false, false, false, false] rfl rfl ?_ (hc := any_of HT_.out (by kernel_rfl))
              refine pureA_ (i := 4) (N := some 45) #[true, true, true, true, true, false, true, false, true, true, false, false, false, false] rfl rfl ?_ (hc := any_of HT_.out (by kernel_rfl))
              refine takeA_ (i := 5) (N := some 46) #[true, true, true, true, true, true, true, false, true, true, false, false, false, false] rfl rfl hHeld ?_ (hc := take_ofW HT_.out HW_.out (by kernel_rfl)) (hy := by rintro w' ⟨s0, s1, s2, s3, s4, s5, s6, s7⟩; go_simp; with_reducible rfl)
              refine takeA_ (i := 7) (N := some 48) #[true, true, true, true, true, true, true, true, true, true, false, false, false, false] rfl rfl hHeld ?_ (hc := take_ofW HT_.out HW_.out (by kernel_rfl)) (hy := by rintro w' ⟨s0, s1, s2, s3, s4, s5, s6, s7⟩; go_simp; with_reducible rfl)
              refine pureA_ (i := 10) (N := some 51) #[true, true, true, true, true, true, true, true, true, true, true, false, false, false] rfl rfl ?_ (hc := any_of HT_.out (by kernel_rfl))
              refine pureA_ (i := 11) (N := some 52) #[true, true, true, true, true, true, true, true, true, true, true, true, false, false] rfl rfl ?_ (hc := any_of HT_.out (by kernel_rfl))
              refine takeA_ (i := 12) (N := some 53) #[true, true, true, true, true, true, true, true, true, true, true, true, true, false] rfl rfl hHeld ?_ (hc := take_ofW HT_.out HW_.out (by kernel_rfl)) (hy := by rintro w' ⟨s0, s1, s2, s3, s4, s5, s6, s7⟩; go_simp; with_reducible rfl)
              refine pureA_ (i := 13) (N := some 54) #[true, true, true, true, true, true, true, true, true, true, true, true, true, true] rfl rfl ?_ (hc := any_of HT_.out (by kernel_rfl))
              refine done_ (done_of HT_.out (by kernel_rfl)) ?_
              try go_wp2
              go_roundg k2
              case measure => have := HJ12.out; have := HK2.out; omega
              case rel => exact ⟨(wrap64 (x6_2 + 1)), rsA, H', ⟨by have := HJ12.out; have := HK2.out; omega⟩, ⟨rdA HO_243003.out⟩, ⟨rbA BK227.out⟩, ⟨rbA BK242.out⟩, ⟨hbA HB.out⟩⟩
            rw [if_neg c47] at H
            exact absurd H (by simp)
          rw [if_neg c46] at H
          exact absurd H (by simp)
        rw [if_neg c44] at H
        exact absurd H (by simp)
      rw [if_neg c43] at H
      have c43b0 : decide (x6_2 < (t239.length : Int)) = false := decide_eq_false c43
      clear c43
      replace H := Option.bind_eq_some_iff.mp H
      obtain ⟨⟨t264, t265⟩, A550, H⟩ := H
      replace H : ((tallboylaw27_To.f k2 a0_0 a0_1 a0_2 l0_3).bind fun bt266 => ((meta_Find.f bt266.1 bt266.2.1 bt266.2.2.1 bt266.2.2.2 a1).bind fun bt272 => (if t264.toList = bt272.1.toList then (if (t265 == bt272.2) = true then ((meta_Check.f k2 t236 t237 t238 t239).bind fun t274 => ((tallboylaw27_To.f k2 a0_0 a0_1 a0_2 l0_3).bind fun bt275 => ((meta_Check.f k2 bt275.1 bt275.2.1 bt275.2.2.1 bt275.2.2.2).bind fun t281 => (some ((t274 == 0) == (t281 == 0)))))) else (some false)) else (some false)))) = some r := H
      have A55 := Aside0.mk A550
      clear A550
      replace H := Option.bind_eq_some_iff.mp H
      obtain ⟨⟨t266, t267, t268, t269⟩, A560, H⟩ := H
      replace H : ((meta_Find.f t266 t267 t268 t269 a1).bind fun bt272 => (if t264.toList = bt272.1.toList then (if (t265 == bt272.2) = true then ((meta_Check.f k2 t236 t237 t238 t239).bind fun t274 => ((tallboylaw27_To.f k2 a0_0 a0_1 a0_2 l0_3).bind fun bt275 => ((meta_Check.f k2 bt275.1 bt275.2.1 bt275.2.2.1 bt275.2.2.2).bind fun t281 => (some ((t274 == 0) == (t281 == 0)))))) else (some false)) else (some false))) = some r := H
      have A56 := Aside0.mk A560
      clear A560
      replace H := Option.bind_eq_some_iff.mp H
      obtain ⟨⟨t272, t273⟩, A570, H⟩ := H
      replace H : (if t264.toList = t272.toList then (if (t265 == t273) = true then ((meta_Check.f k2 t236 t237 t238 t239).bind fun t274 => ((tallboylaw27_To.f k2 a0_0 a0_1 a0_2 l0_3).bind fun bt275 => ((meta_Check.f k2 bt275.1 bt275.2.1 bt275.2.2.1 bt275.2.2.2).bind fun t281 => (some ((t274 == 0) == (t281 == 0)))))) else (some false)) else (some false)) = some r := H
      have A57 := Aside0.mk A570
      clear A570
      by_cases c58 : t264.toList = t272.toList
      · rw [if_pos c58] at H
        have c58b0 : (t264.toList == t272.toList) = true := beq_iff_eq.mpr c58
        have c58b1 : (t264.toList != t272.toList) = false := bne_eq_false_iff_eq.mpr c58
        clear c58
        by_cases c59 : (t265 == t273) = true
        · rw [if_pos c59] at H
          have c59b0 : (t265 == t273) = true := c59
          (try (have c59b1 : decide (t265 = t273) = true := by simpa using c59))
          (try (have c59b2 : (t265 == t273) = true := by simpa using c59))
          clear c59
          replace H := Option.bind_eq_some_iff.mp H
          obtain ⟨t274, A600, H⟩ := H
          replace H : ((tallboylaw27_To.f k2 a0_0 a0_1 a0_2 l0_3).bind fun bt275 => ((meta_Check.f k2 bt275.1 bt275.2.1 bt275.2.2.1 bt275.2.2.2).bind fun t281 => (some ((t274 == 0) == (t281 == 0))))) = some r := H
          have A60 := Aside0.mk A600
          clear A600
          replace H := Option.bind_eq_some_iff.mp H
          obtain ⟨⟨t275, t276, t277, t278⟩, A610, H⟩ := H
          replace H : ((meta_Check.f k2 t275 t276 t277 t278).bind fun t281 => (some ((t274 == 0) == (t281 == 0)))) = some r := H
          have A61 := Aside0.mk A610
          clear A610
          replace H := Option.bind_eq_some_iff.mp H
          obtain ⟨t281, A620, H⟩ := H
          replace H : (some ((t274 == 0) == (t281 == 0))) = some r := H
          have A62 := Aside0.mk A620
          clear A620
          obtain rfl := Option.some.inj H
          have hnb63 := NB242_227.out
          have hnc63 := NB227_242.out
          obtain ⟨hcz64_0, hcz64_1, hcz64_2, hcz64_3, hfz64_0, hfz64_1, hfz64_2, hfz64_3⟩ := blkA4 BK242.out
          try go_wp2_with (first | ((with_reducible refine gate_callee (f := 15) rfl ?_); refine goesL_ (some 58) rfl rfl Tryz.func15 (by kernel_rfl) rfl #[.agg #[.int .i64 t236, .string t237, .int .i64 t238, .slice Ao25 t239.length co25], .int .u8 a1] rfl argA ?_; (with_reducible refine (meta_Find.calls t236 t237 t238 _ _ t239 a1 t264 t265 _ ?side1 ?side2 A55.out).mono ?_); (case side1 => repeat (first | exact (Kd.R_reads' HO_243003.out).2.2 | (with_reducible refine Kd.C_alloc ?_ _) | (with_reducible refine Kd.C_drewN ?_ _) | (with_reducible refine Kd.C_drew ?_))); (case side2 => exact (Kd.R_reads' HO_243003.out).2.1); rintro e w65 ⟨rfl, hb⟩; refine ⟨_, rfl, ?_⟩; replace HO_243003 := Aside0.mk (Kd.R_below (rdA HO_243003.out) hb); replace BK227 := Aside0.mk (blk_below (g := gb227) (o := .cells #[.int .i64 a0_0, .string a0_1, .int .i64 a0_2, .slice A0_3 l0_3.length c0_3] 24 (0, 0)) (rbA BK227.out) hb); replace BK242 := Aside0.mk (blk_below (g := gb242) (o := .cells #[.int .i64 t236, .string t237, .int .i64 t238, .slice Ao25 t239.length co25] 31 (0, 0)) (rbA BK242.out) hb); replace HB := Aside0.mk (below_step (hbA HB.out) hb); (try clear hb); (try clear hb2); (try clear hk); (try clear hi); obtain ⟨hcz66_0, hcz66_1, hcz66_2, hcz66_3, hfz66_0, hfz66_1, hfz66_2, hfz66_3⟩ := blkA4 BK227.out) | ((with_reducible refine gate_callee (f := 11) rfl ?_); refine goesL_ (some 63) rfl rfl Tryz.func11 (by kernel_rfl) rfl #[.agg #[.int .i64 a0_0, .string a0_1, .int .i64 a0_2, .slice A0_3 l0_3.length c0_3]] rfl argA ?_; (with_reducible refine (tallboylaw27_To.calls k2 a0_0 a0_1 a0_2 _ _ l0_3 t266 t267 t268 t269 _ ?side1 ?side2 A56.out).mono ?_); (case side1 => repeat (first | exact (Kd.C_below HR0_3.out HB.out) | (with_reducible refine Kd.C_alloc ?_ _) | (with_reducible refine Kd.C_drewN ?_ _) | (with_reducible refine Kd.C_drew ?_))); (case side2 => exact HC0_3.out); rintro e w67 ⟨v270, rfl, ho0, hb⟩; refine ⟨_, rfl, ?_⟩; have n0_ := Aside0.mk (Kd.R_elder' (rdA HO_243003.out) (Kd.R_base ho0) hb); have n1_ := Aside0.mk (Kd.R_lower (Kd.R_new' ho0 (Kd.R_lt (rdA HO_243003.out))) (below_size (hbA HB.out))); have n2_ := Aside0.mk (blk_below (g := gb227) (o := .cells #[.int .i64 a0_0, .string a0_1, .int .i64 a0_2, .slice A0_3 l0_3.length c0_3] 24 (0, 0)) (rbA BK227.out) hb); have n3_ := Aside0.mk (blk_below (g := gb242) (o := .cells #[.int .i64 t236, .string t237, .int .i64 t238, .slice Ao25 t239.length co25] 31 (0, 0)) (rbA BK242.out) hb); have n4_ := Aside0.mk (below_step (hbA HB.out) hb); clear HO_243003; clear BK227; clear BK242; clear HB; have HO_243003 := n0_; have HO271 := n1_; have BK227 := n2_; have BK242 := n3_; have HB := n4_; clear n0_ n1_ n2_ n3_ n4_; (try clear hb); (try clear hb2); (try clear hk); (try clear hi); (try clear ho0); obtain ⟨Ao68, co68, eo68⟩ := Kd.R_slice HO271.out; subst eo68) | ((with_reducible refine gate_callee (f := 15) rfl ?_); refine goesL_ (some 65) rfl rfl Tryz.func15 (by kernel_rfl) rfl #[.agg #[.int .i64 t266, .string t267, .int .i64 t268, .slice Ao68 t269.length co68], .int .u8 a1] rfl argA ?_; (with_reducible refine (meta_Find.calls t266 t267 t268 _ _ t269 a1 t272 t273 _ ?side1 ?side2 A57.out).mono ?_); (case side1 => repeat (first | exact (Kd.R_reads' HO271.out).2.2 | (with_reducible refine Kd.C_alloc ?_ _) | (with_reducible refine Kd.C_drewN ?_ _) | (with_reducible refine Kd.C_drew ?_))); (case side2 => exact (Kd.R_reads' HO271.out).2.1); rintro e w69 ⟨rfl, hb⟩; refine ⟨_, rfl, ?_⟩; replace HO_243003 := Aside0.mk (Kd.R_below (rdA HO_243003.out) hb); replace HO271 := Aside0.mk (Kd.R_below (rdA HO271.out) hb); replace BK227 := Aside0.mk (blk_below (g := gb227) (o := .cells #[.int .i64 a0_0, .string a0_1, .int .i64 a0_2, .slice A0_3 l0_3.length c0_3] 24 (0, 0)) (rbA BK227.out) hb); replace BK242 := Aside0.mk (blk_below (g := gb242) (o := .cells #[.int .i64 t236, .string t237, .int .i64 t238, .slice Ao25 t239.length co25] 31 (0, 0)) (rbA BK242.out) hb); replace HB := Aside0.mk (below_step (hbA HB.out) hb); (try clear hb); (try clear hb2); (try clear hk); (try clear hi)))
          replace HO_243003 := Aside0.mk (Kd.R_drew HO_243003.out)
          replace HO271 := Aside0.mk (Kd.R_drew HO271.out)
          replace BK227 := Aside0.mk (blk_drew BK227.out)
          replace BK242 := Aside0.mk (blk_drew BK242.out)
          replace HB := Aside0.mk (below_drew1 HB.out)
          refine start_ (n := 19) (S := fun w' => w'.cell? ⟨gb242, 0, none⟩ = some (.int .i64 t236) ∧ w'.cell? ⟨gb242, 1, none⟩ = some (.string t237) ∧ w'.cell? ⟨gb242, 2, none⟩ = some (.int .i64 t238) ∧ w'.cell? ⟨gb242, 3, none⟩ = some (.slice Ao25 t239.length co25) ∧ w'.cell? ⟨gb227, 0, none⟩ = some (.int .i64 a0_0) ∧ w'.cell? ⟨gb227, 1, none⟩ = some (.string a0_1) ∧ w'.cell? ⟨gb227, 2, none⟩ = some (.int .i64 a0_2) ∧ w'.cell? ⟨gb227, 3, none⟩ = some (.slice A0_3 l0_3.length c0_3)) (ds := []) #[false, false, false, false, false, false, false, false, false, false, false, false, false, false, false, false, false, false, false] (by kernel_rfl) rfl rfl ⟨(blk_cell BK242.out 0).trans rfl, (blk_cell BK242.out 1).trans rfl, (blk_cell BK242.out 2).trans rfl, (blk_cell BK242.out 3).trans rfl, (blk_cell BK227.out 0).trans rfl, (blk_cell BK227.out 1).trans rfl, (blk_cell BK227.out 2).trans rfl, (blk_cell BK227.out 3).trans rfl⟩ (fun hHeld => ?_); refine with_tabW tallboylaw27_MetaOrder.tab15 tallboylaw27_MetaOrder.bits15 (fun HT_ HW_ => ?_)
          generalize w69.drew = w70 at HO_243003 HO271 BK227 BK242 HB hHeld ⊢
          refine pureA_ (i := 0) (N := some 68) #[true, false, false, false, false, false, false, false, false, false, false, false, false, false, false, false, false, false, false] rfl rfl ?_ (hc := any_of HT_.out (by kernel_rfl))
          refine pureA_ (i := 1) (N := some 69) #[true, true, false, false, false, false, false, false, false, false, false, false, false, false, false, false, false, false, false] rfl rfl ?_ (hc := any_of HT_.out (by kernel_rfl))
          refine pureA_ (i := 2) (N := some 70) #[true, true, true, false, false, false, false, false, false, false, false, false, false, false, false, false, false, false, false] rfl rfl ?_ (hc := any_of HT_.out (by kernel_rfl))
          refine pureA_ (i := 3) (N := some 71) #[true, true, true, true, false, false, false, false, false, false, false, false, false, false, false, false, false, false, false] rfl rfl ?_ (hc := any_of HT_.out (by kernel_rfl))
          refine pureA_ (i := 4) (N := some 72) #[true, true, true, true, true, false, false, false, false, false, false, false, false, false, false, false, false, false, false] rfl rfl ?_ (hc := any_of HT_.out (by kernel_rfl))
          refine pureA_ (i := 5) (N := some 73) #[true, true, true, true, true, true, false, false, false, false, false, false, false, false, false, false, false, false, false] rfl rfl ?_ (hc := any_of HT_.out (by kernel_rfl))
          refine pureA_ (i := 6) (N := some 74) #[true, true, true, true, true, true, true, false, false, false, false, false, false, false, false, false, false, false, false] rfl rfl ?_ (hc := any_of HT_.out (by kernel_rfl))
          refine pureA_ (i := 7) (N := some 75) #[true, true, true, true, true, true, true, true, false, false, false, false, false, false, false, false, false, false, false] rfl rfl ?_ (hc := any_of HT_.out (by kernel_rfl))
          refine pureA_ (i := 8) (N := some 76) #[true, true, true, true, true, true, true, true, true, false, false, false, false, false, false, false, false, false, false] rfl rfl ?_ (hc := any_of HT_.out (by kernel_rfl))
          refine takeA_ (i := 9) (N := some 77) #[true, true, true, true, true, true, true, true, true, true, false, false, false, false, false, false, false, false, false] rfl rfl hHeld ?_ (hc := take_ofW HT_.out HW_.out (by kernel_rfl)) (hy := by rintro w' ⟨s0, s1, s2, s3, s4, s5, s6, s7⟩; go_simp; with_reducible rfl)
          refine takeA_ (i := 12) (N := some 80) #[true, true, true, true, true, true, true, true, true, true, false, false, true, false, false, false, false, false, false] rfl rfl hHeld ?_ (hc := take_ofW HT_.out HW_.out (by kernel_rfl)) (hy := by rintro w' ⟨s0, s1, s2, s3, s4, s5, s6, s7⟩; go_simp; with_reducible rfl)
          refine one_ (i := 10) (N := some 78) #[true, true, true, true, true, true, true, true, true, true, true, false, true, false, false, false, false, false, false] rfl rfl (one_of HT_.out (by kernel_rfl)) (by decide) (fun K hK => ?_)
          refine goes_ Tryz.func17 (by kernel_rfl) rfl #[.agg #[.int .i64 t236, .string t237, .int .i64 t238, .slice Ao25 t239.length co25]] (by rfl) rfl rfl argA ?_
          with_reducible refine (meta_Check.calls k2 t236 t237 t238 _ _ t239 t274 _ ?side1 ?side2 ?side3 A60.out).mono ?_
          (case side1 => repeat (first | exact (Kd.R_reads' HO_243003.out).2.2 | (with_reducible refine Kd.C_alloc ?_ _) | (with_reducible refine Kd.C_drewN ?_ _) | (with_reducible refine Kd.C_drew ?_)))
          (case side2 => exact (Kd.R_reads' HO_243003.out).2.1)
          (case side3 => exact Vars.below HV.out (hbA HB.out))
          rintro e w71 ⟨rfl, hb⟩
          refine ⟨_, rfl, ?_⟩
          replace HO_243003 := Aside0.mk (Kd.R_below (rdA HO_243003.out) hb)
          replace HO271 := Aside0.mk (Kd.R_below (rdA HO271.out) hb)
          replace BK227 := Aside0.mk (blk_below (g := gb227) (o := .cells #[.int .i64 a0_0, .string a0_1, .int .i64 a0_2, .slice A0_3 l0_3.length c0_3] 24 (0, 0)) (rbA BK227.out) hb)
          replace BK242 := Aside0.mk (blk_below (g := gb242) (o := .cells #[.int .i64 t236, .string t237, .int .i64 t238, .slice Ao25 t239.length co25] 31 (0, 0)) (rbA BK242.out) hb)
          replace HB := Aside0.mk (below_step (hbA HB.out) hb)
          (try clear hb)
          (try clear hb2)
          (try clear hk)
          (try clear hi)
          refine hK.out _ _ ⟨(blk_cell BK242.out 0).trans rfl, (blk_cell BK242.out 1).trans rfl, (blk_cell BK242.out 2).trans rfl, (blk_cell BK242.out 3).trans rfl, (blk_cell BK227.out 0).trans rfl, (blk_cell BK227.out 1).trans rfl, (blk_cell BK227.out 2).trans rfl, (blk_cell BK227.out 3).trans rfl⟩ (fun hHeld => ?_)
          clear hK K
          refine normA_ ?_
          refine pureA_ (i := 11) (N := some 79) #[true, true, true, true, true, true, true, true, true, true, true, true, true, false, false, false, false, false, false] rfl rfl ?_ (hc := any_of HT_.out (by kernel_rfl))
          refine one_ (i := 13) (N := some 81) #[true, true, true, true, true, true, true, true, true, true, true, true, true, true, false, false, false, false, false] rfl rfl (one_of HT_.out (by kernel_rfl)) (by decide) (fun K hK => ?_)
          refine goes_ Tryz.func11 (by kernel_rfl) rfl #[.agg #[.int .i64 a0_0, .string a0_1, .int .i64 a0_2, .slice A0_3 l0_3.length c0_3]] (by rfl) rfl rfl argA ?_
          with_reducible refine (tallboylaw27_To.calls k2 a0_0 a0_1 a0_2 _ _ l0_3 t275 t276 t277 t278 _ ?side1 ?side2 A61.out).mono ?_
          (case side1 => repeat (first | exact (Kd.C_below HR0_3.out HB.out) | (with_reducible refine Kd.C_alloc ?_ _) | (with_reducible refine Kd.C_drewN ?_ _) | (with_reducible refine Kd.C_drew ?_)))
          (case side2 => exact HC0_3.out)
          rintro e w72 ⟨v279, rfl, ho0, hb⟩
          refine ⟨_, rfl, ?_⟩
          have n0_ := Aside0.mk (Kd.R_elder' (rdA HO_243003.out) (Kd.R_base ho0) hb)
          have n1_ := Aside0.mk (Kd.R_elder' (rdA HO271.out) (Kd.R_base ho0) hb)
          have n2_ := Aside0.mk (Kd.R_lower (Kd.R_new' (Kd.R_new' ho0 (Kd.R_lt (rdA HO_243003.out))) (Kd.R_lt (rdA HO271.out))) (below_size (hbA HB.out)))
          have n3_ := Aside0.mk (blk_below (g := gb227) (o := .cells #[.int .i64 a0_0, .string a0_1, .int .i64 a0_2, .slice A0_3 l0_3.length c0_3] 24 (0, 0)) (rbA BK227.out) hb)
          have n4_ := Aside0.mk (blk_below (g := gb242) (o := .cells #[.int .i64 t236, .string t237, .int .i64 t238, .slice Ao25 t239.length co25] 31 (0, 0)) (rbA BK242.out) hb)
          have n5_ := Aside0.mk (below_step (hbA HB.out) hb)
          clear HO_243003
          clear HO271
          clear BK227
          clear BK242
          clear HB
          have HO_243003 := n0_
          have HO271 := n1_
          have HO280 := n2_
          have BK227 := n3_
          have BK242 := n4_
          have HB := n5_
          clear n0_ n1_ n2_ n3_ n4_ n5_
          (try clear hb)
          (try clear hb2)
          (try clear hk)
          (try clear hi)
          (try clear ho0)
          obtain ⟨Ao73, co73, eo73⟩ := Kd.R_slice HO280.out
          (first | subst eo73 | (injection eo73 with f1_ f2_ f3_; have f4_ := f1_.symm; have f5_ := f3_.symm; clear f1_ f2_ f3_; subst f4_; subst f5_))
          refine hK.out _ _ ⟨(blk_cell BK242.out 0).trans rfl, (blk_cell BK242.out 1).trans rfl, (blk_cell BK242.out 2).trans rfl, (blk_cell BK242.out 3).trans rfl, (blk_cell BK227.out 0).trans rfl, (blk_cell BK227.out 1).trans rfl, (blk_cell BK227.out 2).trans rfl, (blk_cell BK227.out 3).trans rfl⟩ (fun hHeld => ?_)
          clear hK K
          refine normA_ ?_
          refine one_ (i := 14) (N := some 82) #[true, true, true, true, true, true, true, true, true, true, true, true, true, true, true, false, false, false, false] rfl rfl (one_of HT_.out (by kernel_rfl)) (by decide) (fun K hK => ?_)
          refine goes_ Tryz.func17 (by kernel_rfl) rfl #[.agg #[.int .i64 t275, .string t276, .int .i64 t277, .slice Ao73 t278.length co73]] (by rfl) rfl rfl argA ?_
          with_reducible refine (meta_Check.calls k2 t275 t276 t277 _ _ t278 t281 _ ?side1 ?side2 ?side3 A62.out).mono ?_
          (case side1 => repeat (first | exact (Kd.R_reads' HO280.out).2.2 | (with_reducible refine Kd.C_alloc ?_ _) | (with_reducible refine Kd.C_drewN ?_ _) | (with_reducible refine Kd.C_drew ?_)))
          (case side2 => exact (Kd.R_reads' HO280.out).2.1)
          (case side3 => exact Vars.below HV.out (hbA HB.out))
          rintro e w74 ⟨rfl, hb⟩
          refine ⟨_, rfl, ?_⟩
          replace HO_243003 := Aside0.mk (Kd.R_below (rdA HO_243003.out) hb)
          replace HO271 := Aside0.mk (Kd.R_below (rdA HO271.out) hb)
          replace HO280 := Aside0.mk (Kd.R_below (rdA HO280.out) hb)
          replace BK227 := Aside0.mk (blk_below (g := gb227) (o := .cells #[.int .i64 a0_0, .string a0_1, .int .i64 a0_2, .slice A0_3 l0_3.length c0_3] 24 (0, 0)) (rbA BK227.out) hb)
          replace BK242 := Aside0.mk (blk_below (g := gb242) (o := .cells #[.int .i64 t236, .string t237, .int .i64 t238, .slice Ao25 t239.length co25] 31 (0, 0)) (rbA BK242.out) hb)
          replace HB := Aside0.mk (below_step (hbA HB.out) hb)
          (try clear hb)
          (try clear hb2)
          (try clear hk)
          (try clear hi)
          refine hK.out _ _ ⟨(blk_cell BK242.out 0).trans rfl, (blk_cell BK242.out 1).trans rfl, (blk_cell BK242.out 2).trans rfl, (blk_cell BK242.out 3).trans rfl, (blk_cell BK227.out 0).trans rfl, (blk_cell BK227.out 1).trans rfl, (blk_cell BK227.out 2).trans rfl, (blk_cell BK227.out 3).trans rfl⟩ (fun hHeld => ?_)
          clear hK K
          refine normA_ ?_
          refine pureA_ (i := 15) (N := some 83) #[true, true, true, true, true, true, true, true, true, true, true, true, true, true, true, true, false, false, false] rfl rfl ?_ (hc := any_of HT_.out (by kernel_rfl))
          refine pureA_ (i := 16) (N := some 84) #[true, true, true, true, true, true, true, true, true, true, true, true, true, true, true, true, true, false, false] rfl rfl ?_ (hc := any_of HT_.out (by kernel_rfl))
          refine pureA_ (i := 17) (N := some 85) #[true, true, true, true, true, true, true, true, true, true, true, true, true, true, true, true, true, true, false] rfl rfl ?_ (hc := any_of HT_.out (by kernel_rfl))
          refine pureA_ (i := 18) (N := some 4) #[true, true, true, true, true, true, true, true, true, true, true, true, true, true, true, true, true, true, true] rfl rfl ?_ (hc := any_of HT_.out (by kernel_rfl))
          refine done_ (done_of HT_.out (by kernel_rfl)) ?_
          try go_wp2
          go_ret
          exact ⟨reA, hbA HB.out⟩
        rw [if_neg c59] at H
        have c59b0 : (t265 == t273) = false := by simpa using c59
        (try (have c59b1 : decide (t265 = t273) = false := by simpa using c59))
        (try (have c59b2 : (t265 == t273) = false := by simpa using c59))
        (try (have c59b3 : ¬ (t265 = t273) := by simpa using c59))
        clear c59
        obtain rfl := Option.some.inj H
        have hnb75 := NB242_227.out
        have hnc75 := NB227_242.out
        obtain ⟨hcz76_0, hcz76_1, hcz76_2, hcz76_3, hfz76_0, hfz76_1, hfz76_2, hfz76_3⟩ := blkA4 BK242.out
        try go_wp2_with (first | ((with_reducible refine gate_callee (f := 15) rfl ?_); refine goesL_ (some 58) rfl rfl Tryz.func15 (by kernel_rfl) rfl #[.agg #[.int .i64 t236, .string t237, .int .i64 t238, .slice Ao25 t239.length co25], .int .u8 a1] rfl argA ?_; (with_reducible refine (meta_Find.calls t236 t237 t238 _ _ t239 a1 t264 t265 _ ?side1 ?side2 A55.out).mono ?_); (case side1 => repeat (first | exact (Kd.R_reads' HO_243003.out).2.2 | (with_reducible refine Kd.C_alloc ?_ _) | (with_reducible refine Kd.C_drewN ?_ _) | (with_reducible refine Kd.C_drew ?_))); (case side2 => exact (Kd.R_reads' HO_243003.out).2.1); rintro e w77 ⟨rfl, hb⟩; refine ⟨_, rfl, ?_⟩; replace HO_243003 := Aside0.mk (Kd.R_below (rdA HO_243003.out) hb); replace BK227 := Aside0.mk (blk_below (g := gb227) (o := .cells #[.int .i64 a0_0, .string a0_1, .int .i64 a0_2, .slice A0_3 l0_3.length c0_3] 24 (0, 0)) (rbA BK227.out) hb); replace BK242 := Aside0.mk (blk_below (g := gb242) (o := .cells #[.int .i64 t236, .string t237, .int .i64 t238, .slice Ao25 t239.length co25] 31 (0, 0)) (rbA BK242.out) hb); replace HB := Aside0.mk (below_step (hbA HB.out) hb); (try clear hb); (try clear hb2); (try clear hk); (try clear hi); obtain ⟨hcz78_0, hcz78_1, hcz78_2, hcz78_3, hfz78_0, hfz78_1, hfz78_2, hfz78_3⟩ := blkA4 BK227.out) | ((with_reducible refine gate_callee (f := 11) rfl ?_); refine goesL_ (some 63) rfl rfl Tryz.func11 (by kernel_rfl) rfl #[.agg #[.int .i64 a0_0, .string a0_1, .int .i64 a0_2, .slice A0_3 l0_3.length c0_3]] rfl argA ?_; (with_reducible refine (tallboylaw27_To.calls k2 a0_0 a0_1 a0_2 _ _ l0_3 t266 t267 t268 t269 _ ?side1 ?side2 A56.out).mono ?_); (case side1 => repeat (first | exact (Kd.C_below HR0_3.out HB.out) | (with_reducible refine Kd.C_alloc ?_ _) | (with_reducible refine Kd.C_drewN ?_ _) | (with_reducible refine Kd.C_drew ?_))); (case side2 => exact HC0_3.out); rintro e w79 ⟨v270, rfl, ho0, hb⟩; refine ⟨_, rfl, ?_⟩; have n0_ := Aside0.mk (Kd.R_elder' (rdA HO_243003.out) (Kd.R_base ho0) hb); have n1_ := Aside0.mk (Kd.R_lower (Kd.R_new' ho0 (Kd.R_lt (rdA HO_243003.out))) (below_size (hbA HB.out))); have n2_ := Aside0.mk (blk_below (g := gb227) (o := .cells #[.int .i64 a0_0, .string a0_1, .int .i64 a0_2, .slice A0_3 l0_3.length c0_3] 24 (0, 0)) (rbA BK227.out) hb); have n3_ := Aside0.mk (blk_below (g := gb242) (o := .cells #[.int .i64 t236, .string t237, .int .i64 t238, .slice Ao25 t239.length co25] 31 (0, 0)) (rbA BK242.out) hb); have n4_ := Aside0.mk (below_step (hbA HB.out) hb); clear HO_243003; clear BK227; clear BK242; clear HB; have HO_243003 := n0_; have HO271 := n1_; have BK227 := n2_; have BK242 := n3_; have HB := n4_; clear n0_ n1_ n2_ n3_ n4_; (try clear hb); (try clear hb2); (try clear hk); (try clear hi); (try clear ho0); obtain ⟨Ao80, co80, eo80⟩ := Kd.R_slice HO271.out; subst eo80) | ((with_reducible refine gate_callee (f := 15) rfl ?_); refine goesL_ (some 65) rfl rfl Tryz.func15 (by kernel_rfl) rfl #[.agg #[.int .i64 t266, .string t267, .int .i64 t268, .slice Ao80 t269.length co80], .int .u8 a1] rfl argA ?_; (with_reducible refine (meta_Find.calls t266 t267 t268 _ _ t269 a1 t272 t273 _ ?side1 ?side2 A57.out).mono ?_); (case side1 => repeat (first | exact (Kd.R_reads' HO271.out).2.2 | (with_reducible refine Kd.C_alloc ?_ _) | (with_reducible refine Kd.C_drewN ?_ _) | (with_reducible refine Kd.C_drew ?_))); (case side2 => exact (Kd.R_reads' HO271.out).2.1); rintro e w81 ⟨rfl, hb⟩; refine ⟨_, rfl, ?_⟩; replace HO_243003 := Aside0.mk (Kd.R_below (rdA HO_243003.out) hb); replace HO271 := Aside0.mk (Kd.R_below (rdA HO271.out) hb); replace BK227 := Aside0.mk (blk_below (g := gb227) (o := .cells #[.int .i64 a0_0, .string a0_1, .int .i64 a0_2, .slice A0_3 l0_3.length c0_3] 24 (0, 0)) (rbA BK227.out) hb); replace BK242 := Aside0.mk (blk_below (g := gb242) (o := .cells #[.int .i64 t236, .string t237, .int .i64 t238, .slice Ao25 t239.length co25] 31 (0, 0)) (rbA BK242.out) hb); replace HB := Aside0.mk (below_step (hbA HB.out) hb); (try clear hb); (try clear hb2); (try clear hk); (try clear hi)))
        replace HO_243003 := Aside0.mk (Kd.R_drew HO_243003.out)
        replace HO271 := Aside0.mk (Kd.R_drew HO271.out)
        replace BK227 := Aside0.mk (blk_drew BK227.out)
        replace BK242 := Aside0.mk (blk_drew BK242.out)
        replace HB := Aside0.mk (below_drew1 HB.out)
        refine start_ (n := 19) (S := fun w' => True) (ds := []) #[false, false, false, false, false, false, false, false, false, false, false, false, false, false, false, false, false, false, false] (by kernel_rfl) rfl rfl trivial (fun hHeld => ?_); refine with_tabW tallboylaw27_MetaOrder.tab15 tallboylaw27_MetaOrder.bits15 (fun HT_ HW_ => ?_)
        generalize w81.drew = w82 at HO_243003 HO271 BK227 BK242 HB hHeld ⊢
        refine pureA_ (i := 0) (N := some 68) #[true, false, false, false, false, false, false, false, false, false, false, false, false, false, false, false, false, false, false] rfl rfl ?_ (hc := any_of HT_.out (by kernel_rfl))
        refine pureA_ (i := 1) (N := some 69) #[true, true, false, false, false, false, false, false, false, false, false, false, false, false, false, false, false, false, false] rfl rfl ?_ (hc := any_of HT_.out (by kernel_rfl))
        refine pureA_ (i := 2) (N := some 70) #[true, true, true, false, false, false, false, false, false, false, false, false, false, false, false, false, false, false, false] rfl rfl ?_ (hc := any_of HT_.out (by kernel_rfl))
        refine pureA_ (i := 3) (N := some 71) #[true, true, true, true, false, false, false, false, false, false, false, false, false, false, false, false, false, false, false] rfl rfl ?_ (hc := any_of HT_.out (by kernel_rfl))
        refine pureA_ (i := 4) (N := some 72) #[true, true, true, true, true, false, false, false, false, false, false, false, false, false, false, false, false, false, false] rfl rfl ?_ (hc := any_of HT_.out (by kernel_rfl))
        refine pureA_ (i := 5) (N := some 73) #[true, true, true, true, true, true, false, false, false, false, false, false, false, false, false, false, false, false, false] rfl rfl ?_ (hc := any_of HT_.out (by kernel_rfl))
        refine pureA_ (i := 6) (N := some 74) #[true, true, true, true, true, true, true, false, false, false, false, false, false, false, false, false, false, false, false] rfl rfl ?_ (hc := any_of HT_.out (by kernel_rfl))
        refine pureA_ (i := 7) (N := some 75) #[true, true, true, true, true, true, true, true, false, false, false, false, false, false, false, false, false, false, false] rfl rfl ?_ (hc := any_of HT_.out (by kernel_rfl))
        refine pureA_ (i := 8) (N := some 76) #[true, true, true, true, true, true, true, true, true, false, false, false, false, false, false, false, false, false, false] rfl rfl ?_ (hc := any_of HT_.out (by kernel_rfl))
        refine pure_ (i := 9) (N := some 77) (v := undef) (a' := ?_) #[true, true, true, true, true, true, true, true, true, true, false, false, false, false, false, false, false, false, false] rfl rfl (any_of HT_.out (by kernel_rfl)) (fun _ _ _ h => h) (Or.inr ⟨by rfl, rfl⟩) ?_ ?_
        rotate_left
        · simp only [Act.put, List.setIfInBounds_toArray, List.set_cons_zero, List.set_cons_succ, i64_w, i32_w]
          rfl
        refine pure_ (i := 10) (N := some 78) (v := undef) (a' := ?_) #[true, true, true, true, true, true, true, true, true, true, true, false, false, false, false, false, false, false, false] rfl rfl (any_of HT_.out (by kernel_rfl)) (fun _ _ _ h => h) (Or.inr ⟨by rfl, rfl⟩) ?_ ?_
        rotate_left
        · simp only [Act.put, List.setIfInBounds_toArray, List.set_cons_zero, List.set_cons_succ, i64_w, i32_w]
          rfl
        refine pure_ (i := 11) (N := some 79) (v := undef) (a' := ?_) #[true, true, true, true, true, true, true, true, true, true, true, true, false, false, false, false, false, false, false] rfl rfl (any_of HT_.out (by kernel_rfl)) (fun _ _ _ h => h) (Or.inr ⟨by rfl, rfl⟩) ?_ ?_
        rotate_left
        · simp only [Act.put, List.setIfInBounds_toArray, List.set_cons_zero, List.set_cons_succ, i64_w, i32_w]
          rfl
        refine pure_ (i := 12) (N := some 80) (v := undef) (a' := ?_) #[true, true, true, true, true, true, true, true, true, true, true, true, true, false, false, false, false, false, false] rfl rfl (any_of HT_.out (by kernel_rfl)) (fun _ _ _ h => h) (Or.inr ⟨by rfl, rfl⟩) ?_ ?_
        rotate_left
        · simp only [Act.put, List.setIfInBounds_toArray, List.set_cons_zero, List.set_cons_succ, i64_w, i32_w]
          rfl
        refine pure_ (i := 13) (N := some 81) (v := undef) (a' := ?_) #[true, true, true, true, true, true, true, true, true, true, true, true, true, true, false, false, false, false, false] rfl rfl (any_of HT_.out (by kernel_rfl)) (fun _ _ _ h => h) (Or.inr ⟨by rfl, rfl⟩) ?_ ?_
        rotate_left
        · simp only [Act.put, List.setIfInBounds_toArray, List.set_cons_zero, List.set_cons_succ, i64_w, i32_w]
          rfl
        refine pure_ (i := 14) (N := some 82) (v := undef) (a' := ?_) #[true, true, true, true, true, true, true, true, true, true, true, true, true, true, true, false, false, false, false] rfl rfl (any_of HT_.out (by kernel_rfl)) (fun _ _ _ h => h) (Or.inr ⟨by rfl, rfl⟩) ?_ ?_
        rotate_left
        · simp only [Act.put, List.setIfInBounds_toArray, List.set_cons_zero, List.set_cons_succ, i64_w, i32_w]
          rfl
        refine pure_ (i := 15) (N := some 83) (v := undef) (a' := ?_) #[true, true, true, true, true, true, true, true, true, true, true, true, true, true, true, true, false, false, false] rfl rfl (any_of HT_.out (by kernel_rfl)) (fun _ _ _ h => h) (Or.inr ⟨by rfl, rfl⟩) ?_ ?_
        rotate_left
        · simp only [Act.put, List.setIfInBounds_toArray, List.set_cons_zero, List.set_cons_succ, i64_w, i32_w]
          rfl
        refine pure_ (i := 16) (N := some 84) (v := undef) (a' := ?_) #[true, true, true, true, true, true, true, true, true, true, true, true, true, true, true, true, true, false, false] rfl rfl (any_of HT_.out (by kernel_rfl)) (fun _ _ _ h => h) (Or.inr ⟨by rfl, rfl⟩) ?_ ?_
        rotate_left
        · simp only [Act.put, List.setIfInBounds_toArray, List.set_cons_zero, List.set_cons_succ, i64_w, i32_w]
          rfl
        refine pureA_ (i := 17) (N := some 85) #[true, true, true, true, true, true, true, true, true, true, true, true, true, true, true, true, true, true, false] rfl rfl ?_ (hc := any_of HT_.out (by kernel_rfl))
        refine pureA_ (i := 18) (N := some 4) #[true, true, true, true, true, true, true, true, true, true, true, true, true, true, true, true, true, true, true] rfl rfl ?_ (hc := any_of HT_.out (by kernel_rfl))
        refine done_ (done_of HT_.out (by kernel_rfl)) ?_
        try go_wp2
        go_ret
        exact ⟨reA, hbA HB.out⟩
      rw [if_neg c58] at H
      have c58b0 : (t264.toList == t272.toList) = false := beq_eq_false_iff_ne.mpr c58
      have c58b1 : (t264.toList != t272.toList) = true := bne_iff_ne.mpr c58
      obtain rfl := Option.some.inj H
      have hnb83 := NB242_227.out
      have hnc83 := NB227_242.out
      obtain ⟨hcz84_0, hcz84_1, hcz84_2, hcz84_3, hfz84_0, hfz84_1, hfz84_2, hfz84_3⟩ := blkA4 BK242.out
      try go_wp2_with (first | ((with_reducible refine gate_callee (f := 15) rfl ?_); refine goesL_ (some 58) rfl rfl Tryz.func15 (by kernel_rfl) rfl #[.agg #[.int .i64 t236, .string t237, .int .i64 t238, .slice Ao25 t239.length co25], .int .u8 a1] rfl argA ?_; (with_reducible refine (meta_Find.calls t236 t237 t238 _ _ t239 a1 t264 t265 _ ?side1 ?side2 A55.out).mono ?_); (case side1 => repeat (first | exact (Kd.R_reads' HO_243003.out).2.2 | (with_reducible refine Kd.C_alloc ?_ _) | (with_reducible refine Kd.C_drewN ?_ _) | (with_reducible refine Kd.C_drew ?_))); (case side2 => exact (Kd.R_reads' HO_243003.out).2.1); rintro e w85 ⟨rfl, hb⟩; refine ⟨_, rfl, ?_⟩; replace HO_243003 := Aside0.mk (Kd.R_below (rdA HO_243003.out) hb); replace BK227 := Aside0.mk (blk_below (g := gb227) (o := .cells #[.int .i64 a0_0, .string a0_1, .int .i64 a0_2, .slice A0_3 l0_3.length c0_3] 24 (0, 0)) (rbA BK227.out) hb); replace BK242 := Aside0.mk (blk_below (g := gb242) (o := .cells #[.int .i64 t236, .string t237, .int .i64 t238, .slice Ao25 t239.length co25] 31 (0, 0)) (rbA BK242.out) hb); replace HB := Aside0.mk (below_step (hbA HB.out) hb); (try clear hb); (try clear hb2); (try clear hk); (try clear hi); obtain ⟨hcz86_0, hcz86_1, hcz86_2, hcz86_3, hfz86_0, hfz86_1, hfz86_2, hfz86_3⟩ := blkA4 BK227.out) | ((with_reducible refine gate_callee (f := 11) rfl ?_); refine goesL_ (some 63) rfl rfl Tryz.func11 (by kernel_rfl) rfl #[.agg #[.int .i64 a0_0, .string a0_1, .int .i64 a0_2, .slice A0_3 l0_3.length c0_3]] rfl argA ?_; (with_reducible refine (tallboylaw27_To.calls k2 a0_0 a0_1 a0_2 _ _ l0_3 t266 t267 t268 t269 _ ?side1 ?side2 A56.out).mono ?_); (case side1 => repeat (first | exact (Kd.C_below HR0_3.out HB.out) | (with_reducible refine Kd.C_alloc ?_ _) | (with_reducible refine Kd.C_drewN ?_ _) | (with_reducible refine Kd.C_drew ?_))); (case side2 => exact HC0_3.out); rintro e w87 ⟨v270, rfl, ho0, hb⟩; refine ⟨_, rfl, ?_⟩; have n0_ := Aside0.mk (Kd.R_elder' (rdA HO_243003.out) (Kd.R_base ho0) hb); have n1_ := Aside0.mk (Kd.R_lower (Kd.R_new' ho0 (Kd.R_lt (rdA HO_243003.out))) (below_size (hbA HB.out))); have n2_ := Aside0.mk (blk_below (g := gb227) (o := .cells #[.int .i64 a0_0, .string a0_1, .int .i64 a0_2, .slice A0_3 l0_3.length c0_3] 24 (0, 0)) (rbA BK227.out) hb); have n3_ := Aside0.mk (blk_below (g := gb242) (o := .cells #[.int .i64 t236, .string t237, .int .i64 t238, .slice Ao25 t239.length co25] 31 (0, 0)) (rbA BK242.out) hb); have n4_ := Aside0.mk (below_step (hbA HB.out) hb); clear HO_243003; clear BK227; clear BK242; clear HB; have HO_243003 := n0_; have HO271 := n1_; have BK227 := n2_; have BK242 := n3_; have HB := n4_; clear n0_ n1_ n2_ n3_ n4_; (try clear hb); (try clear hb2); (try clear hk); (try clear hi); (try clear ho0); obtain ⟨Ao88, co88, eo88⟩ := Kd.R_slice HO271.out; subst eo88) | ((with_reducible refine gate_callee (f := 15) rfl ?_); refine goesL_ (some 65) rfl rfl Tryz.func15 (by kernel_rfl) rfl #[.agg #[.int .i64 t266, .string t267, .int .i64 t268, .slice Ao88 t269.length co88], .int .u8 a1] rfl argA ?_; (with_reducible refine (meta_Find.calls t266 t267 t268 _ _ t269 a1 t272 t273 _ ?side1 ?side2 A57.out).mono ?_); (case side1 => repeat (first | exact (Kd.R_reads' HO271.out).2.2 | (with_reducible refine Kd.C_alloc ?_ _) | (with_reducible refine Kd.C_drewN ?_ _) | (with_reducible refine Kd.C_drew ?_))); (case side2 => exact (Kd.R_reads' HO271.out).2.1); rintro e w89 ⟨rfl, hb⟩; refine ⟨_, rfl, ?_⟩; replace HO_243003 := Aside0.mk (Kd.R_below (rdA HO_243003.out) hb); replace HO271 := Aside0.mk (Kd.R_below (rdA HO271.out) hb); replace BK227 := Aside0.mk (blk_below (g := gb227) (o := .cells #[.int .i64 a0_0, .string a0_1, .int .i64 a0_2, .slice A0_3 l0_3.length c0_3] 24 (0, 0)) (rbA BK227.out) hb); replace BK242 := Aside0.mk (blk_below (g := gb242) (o := .cells #[.int .i64 t236, .string t237, .int .i64 t238, .slice Ao25 t239.length co25] 31 (0, 0)) (rbA BK242.out) hb); replace HB := Aside0.mk (below_step (hbA HB.out) hb); (try clear hb); (try clear hb2); (try clear hk); (try clear hi)))
      replace HO_243003 := Aside0.mk (Kd.R_drew HO_243003.out)
      replace HO271 := Aside0.mk (Kd.R_drew HO271.out)
      replace BK227 := Aside0.mk (blk_drew BK227.out)
      replace BK242 := Aside0.mk (blk_drew BK242.out)
      replace HB := Aside0.mk (below_drew1 HB.out)
      refine start_ (n := 19) (S := fun w' => True) (ds := []) #[false, false, false, false, false, false, false, false, false, false, false, false, false, false, false, false, false, false, false] (by kernel_rfl) rfl rfl trivial (fun hHeld => ?_); refine with_tabW tallboylaw27_MetaOrder.tab15 tallboylaw27_MetaOrder.bits15 (fun HT_ HW_ => ?_)
      generalize w89.drew = w90 at HO_243003 HO271 BK227 BK242 HB hHeld ⊢
      refine pureA_ (i := 0) (N := some 68) #[true, false, false, false, false, false, false, false, false, false, false, false, false, false, false, false, false, false, false] rfl rfl ?_ (hc := any_of HT_.out (by kernel_rfl))
      refine pureA_ (i := 1) (N := some 69) #[true, true, false, false, false, false, false, false, false, false, false, false, false, false, false, false, false, false, false] rfl rfl ?_ (hc := any_of HT_.out (by kernel_rfl))
      refine pureA_ (i := 2) (N := some 70) #[true, true, true, false, false, false, false, false, false, false, false, false, false, false, false, false, false, false, false] rfl rfl ?_ (hc := any_of HT_.out (by kernel_rfl))
      refine pureA_ (i := 3) (N := some 71) #[true, true, true, true, false, false, false, false, false, false, false, false, false, false, false, false, false, false, false] rfl rfl ?_ (hc := any_of HT_.out (by kernel_rfl))
      refine pure_ (i := 4) (N := some 72) (v := undef) (a' := ?_) #[true, true, true, true, true, false, false, false, false, false, false, false, false, false, false, false, false, false, false] rfl rfl (any_of HT_.out (by kernel_rfl)) (fun _ _ _ h => h) (Or.inr ⟨by rfl, rfl⟩) ?_ ?_
      rotate_left
      · simp only [Act.put, List.setIfInBounds_toArray, List.set_cons_zero, List.set_cons_succ, i64_w, i32_w]
        rfl
      refine pure_ (i := 5) (N := some 73) (v := undef) (a' := ?_) #[true, true, true, true, true, true, false, false, false, false, false, false, false, false, false, false, false, false, false] rfl rfl (any_of HT_.out (by kernel_rfl)) (fun _ _ _ h => h) (Or.inr ⟨by rfl, rfl⟩) ?_ ?_
      rotate_left
      · simp only [Act.put, List.setIfInBounds_toArray, List.set_cons_zero, List.set_cons_succ, i64_w, i32_w]
        rfl
      refine pure_ (i := 6) (N := some 74) (v := undef) (a' := ?_) #[true, true, true, true, true, true, true, false, false, false, false, false, false, false, false, false, false, false, false] rfl rfl (any_of HT_.out (by kernel_rfl)) (fun _ _ _ h => h) (Or.inr ⟨by rfl, rfl⟩) ?_ ?_
      rotate_left
      · simp only [Act.put, List.setIfInBounds_toArray, List.set_cons_zero, List.set_cons_succ, i64_w, i32_w]
        rfl
      refine pureA_ (i := 7) (N := some 75) #[true, true, true, true, true, true, true, true, false, false, false, false, false, false, false, false, false, false, false] rfl rfl ?_ (hc := any_of HT_.out (by kernel_rfl))
      refine pureA_ (i := 8) (N := some 76) #[true, true, true, true, true, true, true, true, true, false, false, false, false, false, false, false, false, false, false] rfl rfl ?_ (hc := any_of HT_.out (by kernel_rfl))
      refine pure_ (i := 9) (N := some 77) (v := undef) (a' := ?_) #[true, true, true, true, true, true, true, true, true, true, false, false, false, false, false, false, false, false, false] rfl rfl (any_of HT_.out (by kernel_rfl)) (fun _ _ _ h => h) (Or.inr ⟨by rfl, rfl⟩) ?_ ?_
      rotate_left
      · simp only [Act.put, List.setIfInBounds_toArray, List.set_cons_zero, List.set_cons_succ, i64_w, i32_w]
        rfl
      refine pure_ (i := 10) (N := some 78) (v := undef) (a' := ?_) #[true, true, true, true, true, true, true, true, true, true, true, false, false, false, false, false, false, false, false] rfl rfl (any_of HT_.out (by kernel_rfl)) (fun _ _ _ h => h) (Or.inr ⟨by rfl, rfl⟩) ?_ ?_
      rotate_left
      · simp only [Act.put, List.setIfInBounds_toArray, List.set_cons_zero, List.set_cons_succ, i64_w, i32_w]
        rfl
      refine pure_ (i := 11) (N := some 79) (v := undef) (a' := ?_) #[true, true, true, true, true, true, true, true, true, true, true, true, false, false, false, false, false, false, false] rfl rfl (any_of HT_.out (by kernel_rfl)) (fun _ _ _ h => h) (Or.inr ⟨by rfl, rfl⟩) ?_ ?_
      rotate_left
      · simp only [Act.put, List.setIfInBounds_toArray, List.set_cons_zero, List.set_cons_succ, i64_w, i32_w]
        rfl
      refine pure_ (i := 12) (N := some 80) (v := undef) (a' := ?_) #[true, true, true, true, true, true, true, true, true, true, true, true, true, false, false, false, false, false, false] rfl rfl (any_of HT_.out (by kernel_rfl)) (fun _ _ _ h => h) (Or.inr ⟨by rfl, rfl⟩) ?_ ?_
      rotate_left
      · simp only [Act.put, List.setIfInBounds_toArray, List.set_cons_zero, List.set_cons_succ, i64_w, i32_w]
        rfl
      refine pure_ (i := 13) (N := some 81) (v := undef) (a' := ?_) #[true, true, true, true, true, true, true, true, true, true, true, true, true, true, false, false, false, false, false] rfl rfl (any_of HT_.out (by kernel_rfl)) (fun _ _ _ h => h) (Or.inr ⟨by rfl, rfl⟩) ?_ ?_
      rotate_left
      · simp only [Act.put, List.setIfInBounds_toArray, List.set_cons_zero, List.set_cons_succ, i64_w, i32_w]
        rfl
      refine pure_ (i := 14) (N := some 82) (v := undef) (a' := ?_) #[true, true, true, true, true, true, true, true, true, true, true, true, true, true, true, false, false, false, false] rfl rfl (any_of HT_.out (by kernel_rfl)) (fun _ _ _ h => h) (Or.inr ⟨by rfl, rfl⟩) ?_ ?_
      rotate_left
      · simp only [Act.put, List.setIfInBounds_toArray, List.set_cons_zero, List.set_cons_succ, i64_w, i32_w]
        rfl
      refine pure_ (i := 15) (N := some 83) (v := undef) (a' := ?_) #[true, true, true, true, true, true, true, true, true, true, true, true, true, true, true, true, false, false, false] rfl rfl (any_of HT_.out (by kernel_rfl)) (fun _ _ _ h => h) (Or.inr ⟨by rfl, rfl⟩) ?_ ?_
      rotate_left
      · simp only [Act.put, List.setIfInBounds_toArray, List.set_cons_zero, List.set_cons_succ, i64_w, i32_w]
        rfl
      refine pure_ (i := 16) (N := some 84) (v := undef) (a' := ?_) #[true, true, true, true, true, true, true, true, true, true, true, true, true, true, true, true, true, false, false] rfl rfl (any_of HT_.out (by kernel_rfl)) (fun _ _ _ h => h) (Or.inr ⟨by rfl, rfl⟩) ?_ ?_
      rotate_left
      · simp only [Act.put, List.setIfInBounds_toArray, List.set_cons_zero, List.set_cons_succ, i64_w, i32_w]
        rfl
      refine pureA_ (i := 17) (N := some 85) #[true, true, true, true, true, true, true, true, true, true, true, true, true, true, true, true, true, true, false] rfl rfl ?_ (hc := any_of HT_.out (by kernel_rfl))
      refine pureA_ (i := 18) (N := some 4) #[true, true, true, true, true, true, true, true, true, true, true, true, true, true, true, true, true, true, true] rfl rfl ?_ (hc := any_of HT_.out (by kernel_rfl))
      refine done_ (done_of HT_.out (by kernel_rfl)) ?_
      try go_wp2
      go_ret
      exact ⟨reA, hbA HB.out⟩
 replace c4 := Bool.eq_false_iff.mpr c4
 subst c4
 have H1 : (some false) = some r := by rw [if_neg (show ¬ (false = true) by decide)] at H; exact H
 clear H
 have H := H1
 clear H1
 obtain rfl := Option.some.inj H
 go_enter Tryz.func8, Tryz.ntmps8
 go_wp2_with (first | ((with_reducible refine gate_dst (N := 2) rfl ?_); refine box_event ?hg (N := 2) ?hd (cs := #[.int .i64 a0_0, .string a0_1, .int .i64 a0_2, .slice A0_3 l0_3.length c0_3]) (t := 24) ?hr ?_; (case hd => rfl); (case hg => rfl); (case hr => first | (go_simp; done) | (go_simp; rfl)); intro gb227 hg w91 hbox hb; have n0_ := Aside0.mk (below_step (hbA HB.out) hb); have n1_ := Aside0.mk (hbox); have n2_ := Aside0.mk ((by rw [hg]; exact (below_size (hbA HB.out)) : w.heap.size ≤ gb227)); have n3_ := Aside0.mk ((by rw [hg]; exact (below_size (hbA HB.out)) : w.heap.size ≤ gb227)); clear HB; have HB := n0_; have BK227 := n1_; have GW227 := n2_; have GE227 := n3_; clear n0_ n1_ n2_ n3_; clear hb hbox hg) | ((with_reducible refine gate_callee (f := 25) rfl ?_); refine goesL_ (some 11) rfl rfl Tryz.func25 (by kernel_rfl) rfl #[] rfl argA ?_; (with_reducible refine (tallboylaw27_works.calls  false _ ?side1 A3.out).mono ?_); (case side1 => exact Vars.below HV.out (hbA HB.out)); rintro e w92 ⟨rfl, hb⟩; refine ⟨_, rfl, ?_⟩; replace BK227 := Aside0.mk (blk_below (g := gb227) (o := .cells #[.int .i64 a0_0, .string a0_1, .int .i64 a0_2, .slice A0_3 l0_3.length c0_3] 24 (0, 0)) (rbA BK227.out) hb); replace HB := Aside0.mk (below_step (hbA HB.out) hb); (try clear hb); (try clear hb2); (try clear hk); (try clear hi)))
 go_ret
 exact ⟨reA, hbA HB.out⟩

end
end Go.Proofs.YtfboejlemnfndaaGreatDoor.XMo
end
section
namespace Go.Proofs.YtfboejlemnfndaaGreatDoor.XMo
open Go.RowKit Go.Proofs.YtfboejlemnfndaaGreatDoorW.PrintWords Go.Proofs.YtfboejlemnfndaaGreatDoorW.PrintLast Go.Proofs.YtfboejlemnfndaaGreatDoorW.PrintMore
attribute [local go_sem] extract_sub max2_int min2_int max_two min_two max_three min_three max_four min_four   -- for this text's walks alone
set_option linter.unusedVariables false
set_option linter.unusedSimpArgs false

noncomputable section
end
end Go.Proofs.YtfboejlemnfndaaGreatDoor.XMo
end
section
namespace Go.Proofs.YtfboejlemnfndaaGreatDoor.XMo
open Go.RowKit Go.Proofs.YtfboejlemnfndaaGreatDoorW.PrintWords Go.Proofs.YtfboejlemnfndaaGreatDoorW.PrintLast Go.Proofs.YtfboejlemnfndaaGreatDoorW.PrintMore
set_option linter.unusedVariables false
set_option linter.unusedSimpArgs false

theorem wrap_at (i : Nat) (h : i < 4611686018427387904) : wrap64 ((i : Int) + 1) = ((i + 1 : Nat) : Int) := by unfold wrap64; omega
theorem key_l0 (s : ByteArray) (hs : s.size ≤ 1000) : ∀ (n k i : Nat), n + i = s.size → n < k → ∃ b, fnv_Key.l0 k s (s.size : Int) (i : Int) = some b
  | n, 0, i, _, h => absurd h (by omega)
  | 0, k + 1, i, h, _ => ⟨true, by simp only [fnv_Key.l0]; rw [if_neg (by omega)]⟩
  | n + 1, k + 1, i, h, hk => by
    obtain ⟨b, hb⟩ := key_l0 s hs n k (i + 1) (by omega) (by omega)
    simp only [fnv_Key.l0]
    rw [if_pos (by omega), if_pos (by omega), if_pos (by omega), wrap_at i (by omega), hb]
    split
    · exact ⟨_, rfl⟩
    · split
      · exact ⟨_, rfl⟩
      · exact ⟨_, rfl⟩
theorem key_tot (s : ByteArray) (hs : s.size ≤ 1000) (k : Nat) (hk : 1010 ≤ k) : ∃ b, fnv_Key.f k s = some b := by
  obtain ⟨k, rfl⟩ : ∃ j, k = j + 1 := ⟨k - 1, by omega⟩
  have h0 : ∀ x, ∃ b, fnv_Key.j0 (k + 1) s x = some b := by
    intro x
    cases x
    · obtain ⟨b, hb⟩ := key_l0 s hs s.size k 0 (by omega) (by omega)
      exact ⟨b, by simp only [fnv_Key.j0, Bool.false_eq_true, if_false]; exact hb⟩
    · exact ⟨false, by simp only [fnv_Key.j0, if_true]⟩
  unfold fnv_Key.f
  split
  · exact h0 _
  · exact h0 _
theorem sort_tot (x : Int) (k : Nat) (hk : 10 ≤ k) : ∃ t, meta_sortOf.f k x = some t := by
  obtain ⟨k, rfl⟩ : ∃ j, k = j + 2 := ⟨k - 2, by omega⟩
  have h1 : ∀ y, ∃ t, meta_sortOf.j1 (k + 1) x y = some t := by
    intro y
    simp only [meta_sortOf.j1]
    repeat' split
    all_goals exact ⟨_, rfl⟩
  have h0 : ∀ y, ∃ t, meta_sortOf.j0 (k + 2) x y = some t := by
    intro y
    simp only [meta_sortOf.j0]
    repeat' split
    all_goals first | exact h1 _ | exact ⟨_, rfl⟩
  unfold meta_sortOf.f
  repeat' split
  all_goals exact h0 _
theorem parse_tot (s : ByteArray) (hs : s.size ≤ 1000) : digits_Parse.f s = some (digits_Parse.val s.data.toList) := by
  unfold digits_Parse.f
  rw [if_pos (by omega)]
theorem cut_tot (s : ByteArray) (hs : s.size ≤ 1000) : ∃ r b, strings_CutPrefix.f s ⟨#[45]⟩ = some (r, b) ∧ r.size ≤ 1000 := by
  have hp : ∃ b, stringslite_HasPrefix.f s ⟨#[45]⟩ = some b ∧ (b = true → 1 ≤ s.size) := by
    unfold stringslite_HasPrefix.f
    rw [show ((⟨#[45]⟩ : ByteArray).size : Int) = 1 from rfl]
    split
    · rw [if_pos (by omega)]
      exact ⟨_, rfl, fun _ => by omega⟩
    · exact ⟨_, rfl, fun h => absurd h (by decide)⟩
  obtain ⟨b, hb, h1⟩ := hp
  unfold strings_CutPrefix.f stringslite_CutPrefix.f
  rw [hb]
  simp only [Option.bind_some]
  cases b
  · exact ⟨s, false, rfl, hs⟩
  · have := h1 rfl
    rw [if_pos rfl, if_pos (by decide), if_pos (by rw [show ((⟨#[45]⟩ : ByteArray).size : Int) = 1 from rfl]; omega)]
    refine ⟨_, _, rfl, ?_⟩
    show (s.extract _ _).size ≤ 1000
    rw [ByteArray.size_extract]
    omega
theorem signed_tot (s : ByteArray) (hs : s.size ≤ 1000) (k : Nat) (hk : 10 ≤ k) : ∃ a b, digits_Signed.f k s = some (a, b) := by
  obtain ⟨k, rfl⟩ : ∃ j, k = j + 1 := ⟨k - 1, by omega⟩
  obtain ⟨r, b, hb, hr⟩ := cut_tot s hs
  unfold digits_Signed.f
  rw [hb]
  simp only [Option.bind_some, parse_tot r hr]
  repeat' split
  all_goals first
    | exact ⟨_, _, rfl⟩
    | (simp only [digits_Signed.j0]
       repeat' split
       all_goals exact ⟨_, _, rfl⟩)
theorem right_tot (op x : Int) (s : ByteArray) (hs : s.size ≤ 1000) (k : Nat) (hk : 1010 ≤ k) : ∃ b, meta_right.f k op x s = some b := by
  obtain ⟨t, ht⟩ := sort_tot x k (by omega)
  obtain ⟨a, b, hab⟩ := signed_tot s hs k (by omega)
  obtain ⟨y, hy⟩ := key_tot s hs k hk
  have hm : ∃ m, meta_modes.f op = some m ∧ m.size ≤ 5 := by
    unfold meta_modes.f
    split
    · exact ⟨_, rfl, by decide⟩
    · exact ⟨_, rfl, by decide⟩
  obtain ⟨m, hm, hm5⟩ := hm
  have hc : strings_Contains.f m s = some (Lib.contains m.data.toList s.data.toList) := by
    unfold strings_Contains.f
    rw [if_pos (by omega)]
  unfold meta_right.f
  rw [ht]
  simp only [Option.bind_some, parse_tot s hs, hab, hy, hm, hc]
  repeat' split
  all_goals exact ⟨_, rfl⟩
theorem owns_tot (op x : Int) (h : 1 ≤ op ∧ op ≤ 6) : ∃ b, meta_owns.f op x = some b := by
  unfold meta_owns.f
  rw [if_pos h]
  exact ⟨_, rfl⟩
theorem go_tot (op : Int) (h : 1 ≤ op ∧ op ≤ 6) (k : Nat) (hk : 1010 ≤ k) : ∀ (l : List S61) (seen : List Int), (∀ x ∈ l, x.f1.size ≤ 1000) → ∃ e, meta_shape.go k op l seen = some e
  | [], _, _ => ⟨0, rfl⟩
  | x :: l, seen, hs => by
    obtain ⟨b, hb⟩ := owns_tot op x.f0 h
    obtain ⟨q, hq⟩ := right_tot op x.f0 x.f1 (hs x List.mem_cons_self) k hk
    obtain ⟨e, he⟩ := go_tot op h k hk l (x.f0 :: seen) (fun y hy => hs y (List.mem_cons_of_mem _ hy))
    unfold meta_shape.go
    rw [hb, hq]
    simp only [Option.bind_some, he]
    repeat' split
    all_goals exact ⟨_, rfl⟩
def has (l : List S61) (c : Int) : Bool := l.any fun x => x.f0 == c
theorem find_eq (o : Int) (key : ByteArray) (sz : Int) (l : List S61) (c : Int) : ∃ t, meta_Find.f o key sz l c = some (t, has l c) := by
  unfold meta_Find.f
  cases h : l.find? (fun x => x.f0 == c) with
  | some x =>
    refine ⟨x.f1, ?_⟩
    have : has l c = true := List.any_eq_true.2 ⟨x, List.mem_of_find?_eq_some h, List.find?_some (p := fun x : S61 => x.f0 == c) h⟩
    rw [this]
  | none =>
    refine ⟨⟨#[]⟩, ?_⟩
    have : has l c = false := by
      unfold has
      rw [List.any_eq_false]
      intro x hx
      exact List.find?_eq_none.1 h x hx
    rw [this]
def keyB (k : Nat) (o : Int) (key : ByteArray) (b : Bool) : Option Bool :=
  if o = 5 then some (key.toList == ([] : List UInt8)) else if b = true then (if (key.size : Int) ≥ 1 then some (decide ((key.size : Int) ≤ 32)) else some false) else fnv_Key.f k key
theorem key_eq (k : Nat) (o : Int) (key : ByteArray) (sz : Int) (l : List S61) : meta_key.f k o key sz l = keyB k o key (has l 98) := by
  obtain ⟨t, ht⟩ := find_eq o key sz l 98
  unfold meta_key.f keyB
  rw [ht]
  simp only [Option.bind_some]
  split
  · rfl
  · split
    · rfl
    · cases fnv_Key.f k key <;> rfl
theorem keyB_tot (k : Nat) (o : Int) (key : ByteArray) (b : Bool) (hs : key.size ≤ 1000) (hk : 1010 ≤ k) : ∃ y, keyB k o key b = some y := by
  obtain ⟨y, hy⟩ := key_tot key hs k hk
  unfold keyB
  rw [hy]
  repeat' split
  all_goals exact ⟨_, rfl⟩
theorem there_eq (o : Int) : meta_there.f o = some (decide (1 ≤ o ∧ o ≤ 6)) := by
  unfold meta_there.f
  split
  · congr 1
    rw [decide_eq_decide]
    omega
  · congr 1
    rw [eq_comm, decide_eq_false_iff_not]
    omega
theorem shape_tot (k : Nat) (o : Int) (key : ByteArray) (sz : Int) (l : List S61) (hs : key.size ≤ 1000) (hl : ∀ x ∈ l, x.f1.size ≤ 1000) (hk : 1010 ≤ k) : ∃ e, meta_shape.f k o key sz l = some e := by
  obtain ⟨y, hy⟩ := keyB_tot k o key (has l 98) hs hk
  unfold meta_shape.f
  rw [there_eq, key_eq, hy]
  simp only [Option.bind_some, decide_eq_true_eq]
  split
  · obtain ⟨e, he⟩ := go_tot o (by assumption) k hk l [] hl
    rw [he]
    repeat' split
    all_goals exact ⟨_, rfl⟩
  · exact ⟨_, rfl⟩
theorem check_tot (k : Nat) (o : Int) (key : ByteArray) (sz : Int) (l : List S61) (hs : key.size ≤ 1000) (hl : ∀ x ∈ l, x.f1.size ≤ 1000) (hk : 1010 ≤ k) : ∃ e, meta_Check.f k o key sz l = some e := by
  obtain ⟨e, he⟩ := shape_tot k o key sz l hs hl hk
  unfold meta_Check.f
  rw [he]
  simp only [Option.bind_some]
  repeat' split
  all_goals exact ⟨_, rfl⟩
theorem shape_zero {k : Nat} {o : Int} {key : ByteArray} {sz : Int} {l : List S61} (h : meta_shape.f k o key sz l = some 0) :
    (1 ≤ o ∧ o ≤ 6) ∧ keyB k o key (has l 98) = some true ∧ ¬ (sz < 0 ∨ sz > 2147483647 ∨ (o ≠ 2 ∧ sz ≠ 0)) ∧ meta_shape.go k o l [] = some 0 := by
  unfold meta_shape.f at h
  rw [there_eq, key_eq] at h
  simp only [Option.bind_some, decide_eq_true_eq] at h
  split at h
  · rename_i ho
    cases hy : keyB k o key (has l 98) with
    | none => rw [hy] at h; cases h
    | some y =>
      rw [hy] at h
      simp only [Option.bind_some] at h
      cases y with
      | false => simp at h
      | true =>
        simp only [if_true] at h
        split at h
        · simp at h
        · exact ⟨ho, rfl, by assumption, h⟩
  · simp at h
theorem shape_is {k : Nat} {o : Int} {key : ByteArray} {sz : Int} {l : List S61} (ho : 1 ≤ o ∧ o ≤ 6) {y : Bool} (hy : keyB k o key (has l 98) = some y) (hz : ¬ (sz < 0 ∨ sz > 2147483647 ∨ (o ≠ 2 ∧ sz ≠ 0))) :
    meta_shape.f k o key sz l = if y = true then meta_shape.go k o l [] else some 6 := by
  unfold meta_shape.f
  rw [there_eq, key_eq, hy]
  simp only [Option.bind_some, decide_eq_true_eq]
  rw [if_pos ho]
  cases y
  · rfl
  · simp only [if_true]
    rw [if_neg hz]
theorem go_cons {k : Nat} {op : Int} {x : S61} {l : List S61} {seen : List Int} (h : meta_shape.go k op (x :: l) seen = some 0) :
    meta_owns.f op x.f0 = some true ∧ seen.contains x.f0 = false ∧ meta_right.f k op x.f0 x.f1 = some true ∧ meta_shape.go k op l (x.f0 :: seen) = some 0 := by
  unfold meta_shape.go at h
  cases hb : meta_owns.f op x.f0 with
  | none => rw [hb] at h; cases h
  | some b =>
    rw [hb] at h
    simp only [Option.bind_some] at h
    cases b with
    | false => simp at h
    | true =>
      simp only [if_true] at h
      cases hc : seen.contains x.f0 with
      | true => rw [hc] at h; simp at h
      | false =>
        rw [hc] at h
        simp only [Bool.false_eq_true, if_false] at h
        cases hq : meta_right.f k op x.f0 x.f1 with
        | none => rw [hq] at h; cases h
        | some q =>
          rw [hq] at h
          simp only [Option.bind_some] at h
          cases q with
          | false => simp at h
          | true => simp only [if_true] at h; exact ⟨rfl, rfl, rfl, h⟩
theorem go_mk {k : Nat} {op : Int} {x : S61} {l : List S61} {seen : List Int} (h1 : meta_owns.f op x.f0 = some true) (h2 : seen.contains x.f0 = false) (h3 : meta_right.f k op x.f0 x.f1 = some true) :
    meta_shape.go k op (x :: l) seen = meta_shape.go k op l (x.f0 :: seen) := by
  rw [meta_shape.go, h1]
  simp only [Option.bind_some, if_true]
  rw [h2, h3]
  simp only [Bool.false_eq_true, if_false, Option.bind_some, if_true]
theorem go_fewer {k : Nat} {op : Int} : ∀ {l : List S61} {seen seen' : List Int}, (∀ y, seen'.contains y = true → seen.contains y = true) → meta_shape.go k op l seen = some 0 → meta_shape.go k op l seen' = some 0
  | [], _, _, _, _ => rfl
  | x :: l, seen, seen', hs, h => by
    obtain ⟨h1, h2, h3, h4⟩ := go_cons h
    rw [go_mk h1 (by cases hc : seen'.contains x.f0 with | false => rfl | true => rw [hs _ hc] at h2; cases h2) h3]
    refine go_fewer (fun y hy => ?_) h4
    rw [List.contains_cons, Bool.or_eq_true] at hy ⊢
    rcases hy with hy | hy
    · exact .inl hy
    · exact .inr (hs y hy)
theorem go_less {k : Nat} {op : Int} {f : S61} {b : List S61} : ∀ {a : List S61} {seen : List Int}, meta_shape.go k op (a ++ f :: b) seen = some 0 → meta_shape.go k op (a ++ b) seen = some 0
  | [], seen, h => by
    obtain ⟨_, _, _, h4⟩ := go_cons h
    exact go_fewer (fun y hy => by rw [List.contains_cons, hy, Bool.or_true]) h4
  | x :: a, seen, h => by
    obtain ⟨h1, h2, h3, h4⟩ := go_cons h
    show meta_shape.go k op (x :: (a ++ b)) seen = some 0
    rw [go_mk h1 h2 h3]
    exact go_less h4
theorem go_twice {k : Nat} {op : Int} {f : S61} (hf : meta_owns.f op f.f0 = some true) : ∀ {l : List S61} {seen : List Int}, (seen.contains f.f0 = true ∨ ∃ x ∈ l, x.f0 = f.f0) → meta_shape.go k op l seen = some 0 → meta_shape.go k op (l ++ [f]) seen = some 4
  | [], seen, hs, _ => by
    rcases hs with hs | ⟨x, hx, _⟩
    · show meta_shape.go k op [f] seen = some 4
      rw [meta_shape.go, hf]
      simp only [Option.bind_some, if_true]
      rw [if_pos hs]
    · cases hx
  | x :: l, seen, hs, h => by
    obtain ⟨h1, h2, h3, h4⟩ := go_cons h
    show meta_shape.go k op (x :: (l ++ [f])) seen = some 4
    rw [go_mk h1 h2 h3]
    refine go_twice hf ?_ h4
    rcases hs with hs | ⟨y, hy, e⟩
    · exact .inl (by rw [List.contains_cons, hs, Bool.or_true])
    · rcases List.mem_cons.1 hy with rfl | hy
      · exact .inl (by rw [List.contains_cons, e]; simp)
      · exact .inr ⟨y, hy, e⟩
theorem go_owned {k : Nat} {op : Int} : ∀ {l : List S61} {seen : List Int}, meta_shape.go k op l seen = some 0 → ∀ x ∈ l, meta_owns.f op x.f0 = some true
  | [], _, _, x, hx => by cases hx
  | y :: l, seen, h, x, hx => by
    obtain ⟨h1, _, _, h4⟩ := go_cons h
    rcases List.mem_cons.1 hx with rfl | hx
    · exact h1
    · exact go_owned h4 x hx
def conv (x : S59) : S61 := ⟨x.f0, x.f1⟩
theorem to_l0 (o : Int) (key : ByteArray) (sz : Int) (l : List S59) (hl : l.length ≤ 200) : ∀ (n k i : Nat), n + i = l.length → n < k →
    tallboylaw27_To.l0 k (i : Int) o key sz l o key sz ((l.take i).map conv) = some (o, key, sz, l.map conv)
  | n, 0, i, _, h => absurd h (by omega)
  | 0, k + 1, i, h, _ => by
    simp only [tallboylaw27_To.l0]
    rw [if_neg (by omega), List.take_of_length_le (by omega)]
  | n + 1, k + 1, i, h, hk => by
    have ih := to_l0 o key sz l hl n k (i + 1) (by omega) (by omega)
    have e : (l.take (i + 1)).map conv = (l.take i).map conv ++ [⟨(rd_T59 l (i : Int)).f0, (rd_T59 l (i : Int)).f1⟩] := by
      have hi : i < l.length := by omega
      rw [List.take_add_one, List.getElem?_eq_getElem hi, List.map_append]
      congr 1
      unfold rd_T59
      rw [Int.toNat_natCast, List.getD_eq_getElem?_getD, List.getElem?_eq_getElem hi]
      rfl
    simp only [tallboylaw27_To.l0]
    rw [if_pos (by omega), if_pos (by omega), if_pos (by rw [List.length_map, List.length_take]; omega), wrap_at i (by omega), ← e]
    exact ih
theorem to_eq (o : Int) (key : ByteArray) (sz : Int) (l : List S59) (hl : l.length ≤ 200) (k : Nat) (hk : 210 ≤ k) : tallboylaw27_To.f k o key sz l = some (o, key, sz, l.map conv) :=
  to_l0 o key sz l hl l.length k 0 (by omega) (by omega)
theorem great_l0 (o : Int) (key : ByteArray) (sz : Int) (l : List S59) (hl : l.length ≤ 100) : ∀ (n k i : Nat), n + i = l.length → n < k →
    ∃ g, tallboylaw27_Great.l0 k (i : Int) o key sz l = some g ∧ (g = false → ∀ x ∈ l.drop i, x.f1.size ≤ 1000)
  | n, 0, i, _, h => absurd h (by omega)
  | 0, k + 1, i, h, _ => by
    simp only [tallboylaw27_Great.l0]
    rw [if_neg (by omega)]
    exact ⟨_, rfl, fun _ x hx => by rw [List.drop_of_length_le (by omega)] at hx; cases hx⟩
  | n + 1, k + 1, i, h, hk => by
    obtain ⟨g, hg, ih⟩ := great_l0 o key sz l hl n k (i + 1) (by omega) (by omega)
    have hi : i < l.length := by omega
    have e : rd_T59 l (i : Int) = l[i] := by
      unfold rd_T59
      rw [Int.toNat_natCast, List.getD_eq_getElem?_getD, List.getElem?_eq_getElem hi]
      rfl
    simp only [tallboylaw27_Great.l0]
    rw [if_pos (by omega), if_pos (by omega), wrap_at i (by omega), e]
    split
    · exact ⟨true, rfl, fun h => by cases h⟩
    · refine ⟨g, hg, fun hf x hx => ?_⟩
      rw [List.drop_eq_getElem_cons hi] at hx
      rcases List.mem_cons.1 hx with rfl | hx
      · omega
      · exact ih hf x hx
theorem great_tot (o : Int) (key : ByteArray) (sz : Int) (l : List S59) (k : Nat) (hk : 210 ≤ k) :
    ∃ g, tallboylaw27_Great.f k o key sz l = some g ∧ (g = false → l.length ≤ 100 ∧ key.size ≤ 1000 ∧ ∀ x ∈ l, x.f1.size ≤ 1000) := by
  obtain ⟨k, rfl⟩ : ∃ j, k = j + 1 := ⟨k - 1, by omega⟩
  unfold tallboylaw27_Great.f
  split
  · exact ⟨true, by simp only [tallboylaw27_Great.j0, if_true], fun h => by cases h⟩
  · by_cases h1 : (key.size : Int) > 1000
    · exact ⟨true, by rw [decide_eq_true h1]; simp only [tallboylaw27_Great.j0, if_true], fun h => by cases h⟩
    · obtain ⟨g, hg, h2⟩ := great_l0 o key sz l (by omega) l.length k 0 (by omega) (by omega)
      refine ⟨g, by rw [decide_eq_false h1]; simp only [tallboylaw27_Great.j0, Bool.false_eq_true, if_false]; exact hg, fun h => ⟨by omega, by omega, fun x hx => h2 h x (by simpa using hx)⟩⟩
end Go.Proofs.YtfboejlemnfndaaGreatDoor.XMo
end
section
namespace Go.Proofs.YtfboejlemnfndaaGreatDoor.XMo
open Go.RowKit Go.Proofs.YtfboejlemnfndaaGreatDoorW.PrintWords Go.Proofs.YtfboejlemnfndaaGreatDoorW.PrintLast Go.Proofs.YtfboejlemnfndaaGreatDoorW.PrintMore
set_option linter.unusedVariables false
set_option linter.unusedSimpArgs false

def back (x : S61) : S59 := ⟨x.f0, x.f1⟩
theorem from_l0 (o : Int) (key : ByteArray) (sz : Int) (l : List S61) (hl : l.length ≤ 200) : ∀ (n k i : Nat), n + i = l.length → n < k →
    tallboylaw27_From.l0 k (i : Int) o key sz l o key sz ((l.take i).map back) = some (o, key, sz, l.map back)
  | n, 0, i, _, h => absurd h (by omega)
  | 0, k + 1, i, h, _ => by
    simp only [tallboylaw27_From.l0]
    rw [if_neg (by omega), List.take_of_length_le (by omega)]
  | n + 1, k + 1, i, h, hk => by
    have ih := from_l0 o key sz l hl n k (i + 1) (by omega) (by omega)
    have e : (l.take (i + 1)).map back = (l.take i).map back ++ [⟨(rd_T61 l (i : Int)).f0, (rd_T61 l (i : Int)).f1⟩] := by
      have hi : i < l.length := by omega
      rw [List.take_add_one, List.getElem?_eq_getElem hi, List.map_append]
      congr 1
      unfold rd_T61
      rw [Int.toNat_natCast, List.getD_eq_getElem?_getD, List.getElem?_eq_getElem hi]
      rfl
    simp only [tallboylaw27_From.l0]
    rw [if_pos (by omega), if_pos (by omega), if_pos (by rw [List.length_map, List.length_take]; omega), wrap_at i (by omega), ← e]
    exact ih
theorem from_eq (o : Int) (key : ByteArray) (sz : Int) (l : List S61) (hl : l.length ≤ 200) (k : Nat) (hk : 210 ≤ k) : tallboylaw27_From.f k o key sz l = some (o, key, sz, l.map back) :=
  from_l0 o key sz l hl l.length k 0 (by omega) (by omega)
theorem same_l0 (o : Int) (key : ByteArray) (sz : Int) (l : List S59) (hl : l.length ≤ 200) : ∀ (n k i : Nat), n + i = l.length → n < k → tallboyref27_Same.l0 k (i : Int) o key sz l o key sz l = some true
  | n, 0, i, _, h => absurd h (by omega)
  | 0, k + 1, i, h, _ => by
    simp only [tallboyref27_Same.l0]
    rw [if_neg (by omega)]
  | n + 1, k + 1, i, h, hk => by
    have ih := same_l0 o key sz l hl n k (i + 1) (by omega) (by omega)
    simp only [tallboyref27_Same.l0]
    rw [if_pos (by omega), if_pos (by omega), if_pos (by omega), if_neg (by simp), wrap_at i (by omega)]
    exact ih
theorem same_self (o : Int) (key : ByteArray) (sz : Int) (l : List S59) (hl : l.length ≤ 200) (k : Nat) (hk : 210 ≤ k) : tallboyref27_Same.f k o key sz l o key sz l = some true := by
  obtain ⟨k, rfl⟩ : ∃ j, k = j + 1 := ⟨k - 1, by omega⟩
  unfold tallboyref27_Same.f
  rw [if_pos rfl, if_pos rfl, if_pos rfl, show ((l.length : Int) != (l.length : Int)) = false from by simp]
  simp only [tallboyref27_Same.j0, Bool.false_eq_true, if_false]
  exact same_l0 o key sz l hl l.length k 0 (by omega) (by omega)
theorem check_of_shape {k : Nat} {o : Int} {key : ByteArray} {sz : Int} {L : List S61} (h : meta_shape.f k o key sz L = some 0) : meta_Check.f k o key sz L = some (if sz > 2000 then 1 else 0) := by
  unfold meta_Check.f
  rw [h]
  simp only [Option.bind_some, if_true]
  split
  · rfl
  · rfl
abbrev ltr : S61 → Int := fun z => z.f0
def Once (l : List S61) : Prop := ∀ c : Int, (l.filter (fun x => ltr x == c)).length ≤ 1
theorem go_iff {k : Nat} {op : Int} : ∀ {l : List S61} {seen : List Int}, meta_shape.go k op l seen = some 0 ↔ (∀ x ∈ l, meta_owns.f op x.f0 = some true ∧ meta_right.f k op x.f0 x.f1 = some true ∧ seen.contains x.f0 = false) ∧ Once l
  | [], seen => ⟨fun _ => ⟨fun x hx => (by cases hx), fun c => (by simp)⟩, fun _ => rfl⟩
  | x :: l, seen => by
    constructor
    · intro h
      obtain ⟨h1, h2, h3, h4⟩ := go_cons h
      obtain ⟨g1, g2⟩ := go_iff.1 h4
      have hs : ∀ y ∈ l, (y.f0 == x.f0) = false ∧ seen.contains y.f0 = false := fun y hy => by
        have := (g1 y hy).2.2
        rw [List.contains_cons, Bool.or_eq_false_iff] at this
        exact this
      refine ⟨fun y hy => ?_, fun c => ?_⟩
      · rcases List.mem_cons.1 hy with rfl | hy
        · exact ⟨h1, h3, h2⟩
        · exact ⟨(g1 y hy).1, (g1 y hy).2.1, (hs y hy).2⟩
      · by_cases e : x.f0 = c
        · rw [List.filter_cons_of_pos (by simpa using e)]
          have h0 : l.filter (fun y => ltr y == c) = [] := Srt.filter_none (key := ltr) (fun y hy e2 => by
            have := (hs y hy).1
            rw [beq_eq_false_iff_ne] at this
            exact this (by rw [e]; exact e2))
          rw [h0]
          simp
        · rw [List.filter_cons_of_neg (by simpa using e)]
          exact g2 c
    · rintro ⟨h1, h2⟩
      obtain ⟨a1, a2, a3⟩ := h1 x List.mem_cons_self
      rw [go_mk a1 a3 a2]
      have hx := h2 x.f0
      rw [List.filter_cons_of_pos (by simp), List.length_cons] at hx
      have h0 : l.filter (fun y => ltr y == x.f0) = [] := List.length_eq_zero_iff.1 (by omega)
      rw [List.filter_eq_nil_iff] at h0
      refine go_iff.2 ⟨fun y hy => ⟨(h1 y (List.mem_cons_of_mem _ hy)).1, (h1 y (List.mem_cons_of_mem _ hy)).2.1, ?_⟩, fun c => ?_⟩
      · rw [List.contains_cons, (h1 y (List.mem_cons_of_mem _ hy)).2.2, Bool.or_false]
        have := h0 y hy
        simpa using this
      · have := h2 c
        by_cases e : x.f0 = c
        · rw [List.filter_cons_of_pos (by simpa using e), List.length_cons] at this
          omega
        · rw [List.filter_cons_of_neg (by simpa using e)] at this
          exact this
theorem go_same {k : Nat} {op : Int} {l l' : List S61} (h : Srt.Same ltr l l') (hg : meta_shape.go k op l [] = some 0) : meta_shape.go k op l' [] = some 0 := by
  obtain ⟨h1, h2⟩ := go_iff.1 hg
  exact go_iff.2 ⟨fun x hx => h1 x (h.mem hx), fun c => by rw [← h c]; exact h2 c⟩
theorem has_same {l l' : List S61} (h : Srt.Same ltr l l') (c : Int) : has l c = has l' c := by
  unfold has
  rw [Bool.eq_iff_iff, List.any_eq_true, List.any_eq_true]
  exact ⟨fun ⟨x, hx, e⟩ => ⟨x, h.symm.mem hx, e⟩, fun ⟨x, hx, e⟩ => ⟨x, h.mem hx, e⟩⟩
theorem find_same {l l' : List S61} (h : Srt.Same ltr l l') (o : Int) (key : ByteArray) (sz : Int) (c : Int) : meta_Find.f o key sz l c = meta_Find.f o key sz l' c := by
  unfold meta_Find.f
  rw [← List.head?_filter, ← List.head?_filter, h c]
theorem shape_same {k : Nat} {o : Int} {key : ByteArray} {sz : Int} {l l' : List S61} (h : Srt.Same ltr l l') (hs : meta_shape.f k o key sz l = some 0) : meta_shape.f k o key sz l' = some 0 := by
  obtain ⟨h1, h2, h3, h4⟩ := shape_zero hs
  rw [has_same h] at h2
  rw [shape_is h1 h2 h3]
  exact go_same h h4
theorem check_zero {k : Nat} {o : Int} {key : ByteArray} {sz : Int} {l l' : List S61} (h : Srt.Same ltr l l') {t t' : Int} (ht : meta_Check.f k o key sz l = some t) (ht' : meta_Check.f k o key sz l' = some t') : (t == 0) = (t' == 0) := by
  have one : ∀ {l l' : List S61} {t t' : Int}, Srt.Same ltr l l' → meta_Check.f k o key sz l = some t → meta_Check.f k o key sz l' = some t' → t = 0 → t' = 0 := by
    intro l l' t t' h ht ht' h0
    subst h0
    cases he : meta_shape.f k o key sz l with
    | none => unfold meta_Check.f at ht; rw [he] at ht; cases ht
    | some e =>
      by_cases e0 : e = 0
      · subst e0
        have h1 := check_of_shape he
        have h2 := check_of_shape (shape_same h he)
        rw [ht] at h1
        rw [ht'] at h2
        injection h1 with h1
        injection h2 with h2
        rw [h2, ← h1]
      · unfold meta_Check.f at ht
        rw [he] at ht
        simp only [Option.bind_some] at ht
        rw [if_neg e0] at ht
        injection ht with ht
        exact absurd ht e0
  rw [Bool.eq_iff_iff, beq_iff_eq, beq_iff_eq]
  exact ⟨one h ht ht', one h.symm ht' ht⟩
theorem rising_loop (a1 o : Int) (key : ByteArray) (sz : Int) (l : List S59) (S : List S61) (hS : S.length ≤ 200) (hr : Srt.Rising ltr S) (K : Nat) (hend : ∀ k, K ≤ k → ∀ i : Nat, S.length ≤ i → tallboylaw27_MetaOrder.l0 (k + 1) a1 (i : Int) o key sz l o key sz S = some true) : ∀ (n i k : Nat), S.length ≤ n + i → 1 ≤ i → K + n ≤ k → tallboylaw27_MetaOrder.l0 (k + 1) a1 (i : Int) o key sz l o key sz S = some true
  | 0, i, k, h, _, hk => hend k (by omega) i (by omega)
  | n + 1, i, k, h, h1, hk => by
    by_cases hi : i < S.length
    · obtain ⟨k, rfl⟩ : ∃ j, k = j + 1 := ⟨k - 1, by omega⟩
      have ih := rising_loop a1 o key sz l S hS hr K hend n (i + 1) k (by omega) (by omega) (by omega)
      have rd : ∀ j (hj : j < S.length), rd_T61 S (j : Int) = S[j] := fun j hj => by
        unfold rd_T61
        rw [Int.toNat_natCast, List.getD_eq_getElem?_getD, List.getElem?_eq_getElem hj]
        rfl
      have hm : wrap64 ((i : Int) - 1) = ((i - 1 : Nat) : Int) := by unfold wrap64; omega
      have hle := Srt.rising_le hr (i := i - 1) (j := i) (by omega) hi
      simp only [tallboylaw27_MetaOrder.l0]
      rw [if_pos (by omega), if_pos (by omega), hm, if_pos (by omega), if_pos (by omega), rd i hi, rd (i - 1) (by omega), if_neg (by show ¬ (S[i]).f0 < (S[i - 1]).f0; have : (S[i - 1]).f0 ≤ (S[i]).f0 := hle; omega), wrap_at i (by omega)]
      exact ih
    · exact hend k (by omega) i (by omega)
theorem law_true (o : Int) (key : ByteArray) (sz : Int) (l : List S59) (a1 : Int) : tallboylaw27_MetaOrder.f 4000 o key sz l a1 = some true := by
  obtain ⟨g, hg, hG⟩ := great_tot o key sz l 4000 (by omega)
  unfold tallboylaw27_MetaOrder.f
  rw [show tallboylaw27_works.f = some true from rfl, hg]
  simp only [Option.bind_some, if_true]
  cases g with
  | true => simp only [if_true]
  | false =>
    obtain ⟨hl, hks, hts⟩ := hG rfl
    simp only [Bool.false_eq_true, if_false]
    rw [to_eq o key sz l (by omega) 4000 (by omega)]
    simp only [Option.bind_some]
    have hL : (l.map conv).length ≤ 200 := by rw [List.length_map]; omega
    have hm : ∀ x ∈ l.map conv, x.f1.size ≤ 1000 := fun x hx => by
      obtain ⟨y, hy, rfl⟩ := List.mem_map.1 hx
      exact hts y hy
    obtain ⟨hr, hs⟩ := meta_Canon.srt_ok (l.map conv)
    have hlen : (meta_Canon.srt (l.map conv)).length = l.length := hs.length (List.length_map ..)
    have hc1 : meta_Canon.f o key sz (l.map conv) = some (o, key, sz, meta_Canon.srt (l.map conv)) := by
      unfold meta_Canon.f
      rw [if_pos (by omega)]
    have hss : meta_Canon.srt (meta_Canon.srt (l.map conv)) = meta_Canon.srt (l.map conv) := by
      obtain ⟨h1, h2⟩ := meta_Canon.srt_ok (meta_Canon.srt (l.map conv))
      exact (Srt.unique (key := ltr) _ rfl hr h1 h2).symm
    have hc2 : meta_Canon.f o key sz (meta_Canon.srt (l.map conv)) = some (o, key, sz, meta_Canon.srt (l.map conv)) := by
      unfold meta_Canon.f
      rw [if_pos (by omega), hss]
    have hmS : ∀ x ∈ meta_Canon.srt (l.map conv), x.f1.size ≤ 1000 := fun x hx => hm x (hs.mem hx)
    generalize meta_Canon.srt (l.map conv) = S at hr hs hlen hc1 hc2 hmS
    have hS2 : S.length ≤ 200 := by omega
    rw [hc1]
    simp only [Option.bind_some]
    rw [if_pos (by rw [hlen]), hc2]
    simp only [Option.bind_some]
    rw [from_eq o key sz S hS2 4000 (by omega)]
    simp only [Option.bind_some]
    rw [same_self o key sz (S.map back) (by rw [List.length_map]; exact hS2) 4000 (by omega)]
    simp only [Option.bind_some, tallboylaw27_MetaOrder.j0, Bool.not_true, Bool.false_eq_true, if_false]
    have := rising_loop a1 o key sz l S hS2 hr 3000 (fun k hk i hi => ?_) 200 1 3998 (by omega) (Nat.le_refl _) (by omega)
    · exact this
    · obtain ⟨t, ht⟩ := check_tot k o key sz S hks hmS (by omega)
      obtain ⟨t', ht'⟩ := check_tot k o key sz (l.map conv) hks hm (by omega)
      obtain ⟨f, hf⟩ := find_eq o key sz (l.map conv) a1
      simp only [tallboylaw27_MetaOrder.l0]
      rw [if_neg (by omega), find_same hs.symm, hf, to_eq o key sz l (by omega) k (by omega)]
      simp only [Option.bind_some, hf, if_true, beq_self_eq_true]
      rw [ht]
      simp only [Option.bind_some]
      rw [ht']
      simp only [Option.bind_some]
      rw [check_zero hs.symm ht ht']
      simp
end Go.Proofs.YtfboejlemnfndaaGreatDoor.XMo
end
section
namespace Go.Proofs.YtfboejlemnfndaaGreatDoor
open Go.RowKit Go.Proofs.YtfboejlemnfndaaGreatDoorW.PrintWords

def Opens (P : Program) (t : TypeId) {α : Type} (d : Kd α) (Q : α → Prop) : Prop :=
  ∀ (H : Type) (enc : TypeId × Value → H) (w : World) (base : Nat) (spare : Nat → Bool) (held : Bool) (fuel : Nat) (cs : List Value) (x : DataW H × List MemPlace),
    DataW.trod enc P w base spare held fuel t cs = some x → ∃ v, d.K w v cs ∧ Q v
def OpensAt (P : Program) (fs : List Field) (off : Nat) {α : Type} (d : Kd α) (Q : α → Prop) : Prop :=
  ∀ (H : Type) (enc : TypeId × Value → H) (w : World) (base : Nat) (spare : Nat → Bool) (held : Bool) (n : Nat) (cs : List Value), cs.length = off + d.sz →
    (∀ f ∈ fs, ∃ x, DataW.trod enc P w base spare held n f.type ((cs.drop f.offset).take (P.cellsOf f.type)) = some x) → ∃ v, d.K w v (cs.drop off) ∧ Q v
section
variable {P : Program} {t e : TypeId} {α β : Type} {d : Kd α} {d0 : Kd α} {d1 : Kd β} {Q : α → Prop} {Q1 : β → Prop}
theorem opens_int {k : IntKind} (ht : P.underlying t = some (.int k)) : Opens P t (Kd.int k) (fun n => (Lit.int k n).wf = true) := by
  intro H enc w base spare held fuel cs x h
  obtain ⟨n, rfl, _, hw⟩ := DataW.trod_int ht h
  exact ⟨n, rfl, hw⟩
theorem opens_bool (ht : P.underlying t = some .bool) : Opens P t Kd.bool (fun _ => True) := by
  intro H enc w base spare held fuel cs x h
  obtain ⟨n, rfl, _⟩ := DataW.trod_bool ht h
  exact ⟨n, rfl, trivial⟩
theorem opens_string (ht : P.underlying t = some .string) : Opens P t Kd.string (fun s => s.size ≤ maxLen) := by
  intro H enc w base spare held fuel cs x h
  obtain ⟨s, rfl, _, hs⟩ := DataW.trod_string ht h
  exact ⟨s, rfl, hs⟩
theorem opens_iso {γ : Type} (h : Opens P t d Q) (f : γ → α) (g : α → γ) (hg : ∀ a, f (g a) = a) : Opens P t (Kd.iso d f) (fun b => Q (f b)) := by
  intro H enc w base spare held fuel cs x hx
  obtain ⟨v, hv, hq⟩ := h H enc w base spare held fuel cs x hx
  exact ⟨g v, (show d.K w (f (g v)) cs by rw [hg]; exact hv), show Q (f (g v)) by rw [hg]; exact hq⟩
theorem opensAt_one {f : Field} {off : Nat} (ho : f.offset = off) (hc : P.cellsOf f.type = d.sz) (h : Opens P f.type d Q) : OpensAt P [f] off d Q := by
  intro H enc w base spare held n cs hl hf
  obtain ⟨x, hx⟩ := hf f List.mem_cons_self
  rw [ho, hc, List.take_of_length_le (by rw [List.length_drop]; omega)] at hx
  exact h H enc w base spare held n _ x hx
theorem opensAt_cons {f : Field} {fs : List Field} {off : Nat} (ho : f.offset = off) (hc : P.cellsOf f.type = d0.sz) (h0 : Opens P f.type d0 Q) (h1 : OpensAt P fs (off + d0.sz) d1 Q1) :
    OpensAt P (f :: fs) off (Kd.pair d0 d1) (fun v => Q v.1 ∧ Q1 v.2) := by
  intro H enc w base spare held n cs hl hf
  have hsz : (Kd.pair d0 d1).sz = d0.sz + d1.sz := rfl
  obtain ⟨x, hx⟩ := hf f List.mem_cons_self
  rw [ho, hc] at hx
  obtain ⟨a, ha, hq⟩ := h0 H enc w base spare held n _ x hx
  obtain ⟨b, hb, hq1⟩ := h1 H enc w base spare held n cs (by omega) (fun g hg => hf g (List.mem_cons_of_mem _ hg))
  refine ⟨(a, b), ⟨_, _, ?_, ha, hb⟩, hq, hq1⟩
  rw [← List.drop_drop]
  exact (List.take_append_drop _ _).symm
theorem opens_struct {fs : List Field} (ht : P.underlying t = some (.struct fs.toArray)) (hc : P.cellsOf t = d.sz) (h : OpensAt P fs 0 d Q) : Opens P t d Q := by
  intro H enc w base spare held fuel cs x hx
  obtain ⟨xs, n, _, _, hl, hlen, hf⟩ := DataW.trod_struct ht hx
  have := h H enc w base spare held n cs (by omega) (by
    intro f hm
    obtain ⟨i, hi, rfl⟩ := List.mem_iff_getElem.1 hm
    have e := hf i fs[i] (by rw [List.getElem?_toArray, List.getElem?_eq_getElem hi])
    rw [List.size_toArray] at hlen
    rw [List.getElem?_eq_getElem (by omega)] at e
    exact ⟨_, e⟩)
  simpa using this
theorem list_of {R : Nat → α → Prop} : ∀ n : Nat, (∀ i, i < n → ∃ v, R i v) → ∃ xs : List α, xs.length = n ∧ ∀ i v, xs[i]? = some v → R i v
  | 0, _ => ⟨[], rfl, fun i v h => by simp at h⟩
  | n + 1, h => by
    obtain ⟨xs, hl, hx⟩ := list_of n fun i hi => h i (by omega)
    obtain ⟨v, hv⟩ := h n (by omega)
    refine ⟨xs ++ [v], by rw [List.length_append, hl]; rfl, fun i u hu => ?_⟩
    rcases Nat.lt_or_ge i xs.length with hi | hi
    · rw [List.getElem?_append_left hi] at hu; exact hx i u hu
    · rw [List.getElem?_append_right hi] at hu
      rcases Nat.eq_zero_or_pos (i - xs.length) with h0 | h0
      · rw [h0] at hu
        obtain rfl : v = u := by simpa using hu
        rw [show i = n from by omega]; exact hv
      · rw [List.getElem?_eq_none (by simp; omega)] at hu; cases hu
theorem opens_slice (ht : P.underlying t = some (.slice e)) (hc : P.cellsOf e = d.sz) (h : Opens P e d Q) : Opens P t (Kd.slice e d) (fun xs => (∀ x ∈ xs, Q x) ∧ xs.length ≤ maxLen) := by
  intro H enc w base spare held fuel cs x hx
  rcases DataW.trod_slice ht hx with ⟨rfl, _⟩ | ⟨a, len, cap, elems, rest, n, _, rfl, rfl, hb, hl, hm, hlen, hel, _, _⟩
  · exact ⟨[], ⟨none, 0, rfl, Nat.le_refl _, rfl, Nat.zero_le _, fun h => absurd h (Nat.lt_irrefl 0)⟩, fun x hx => absurd hx List.not_mem_nil, Nat.zero_le _⟩
  · obtain ⟨xs, hxl, hxs⟩ := list_of (R := fun i v => (∃ c : List Value, c.length = d.sz ∧ d.K w v c ∧ ∀ j u, c[j]? = some u → w.cell? (a.add (i * d.sz + j)) = some u) ∧ Q v) len (by
      intro i hi
      have e1 := hel i hi
      rw [List.getElem?_eq_getElem (by omega)] at e1
      obtain ⟨c, hcs, hcd⟩ := Option.bind_eq_some_iff.1 e1
      obtain ⟨v, hv, hq⟩ := h H enc w base spare held n c _ hcd
      obtain ⟨q1, q2, q3⟩ := World.cells?_some hcs
      refine ⟨v, ⟨c, by rw [← hc]; exact q2, hv, fun j u hu => ?_⟩, hq⟩
      have hj : j < P.cellsOf e := by
        rcases Nat.lt_or_ge j c.length with h' | h'
        · omega
        · rw [List.getElem?_eq_none h'] at hu; cases hu
      have := q3 j hj
      rw [Addr.add_add, hc] at this
      rw [this, hu])
    refine ⟨xs, ⟨some a, cap, by rw [hxl], by omega, rfl, by rw [hxl]; unfold maxLen at hm; omega, fun _ => ⟨a, rfl, fun j p hp => (hxs j p hp).1⟩⟩, fun x hx => ?_, by omega⟩
    obtain ⟨i, hi, rfl⟩ := List.mem_iff_getElem.1 hx
    exact (hxs i _ (List.getElem?_eq_getElem hi)).2
end
end Go.Proofs.YtfboejlemnfndaaGreatDoor
end
