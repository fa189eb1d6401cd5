/- Put together by wip/pack.py (this session's own program) out of this session's texts; a kit's tool laid the words and the shelf, of which only what is used stands here. Lean checks it. -/
import Derived.Test.YtfboejlemnfndaaGreatDoorPMr6
section
namespace Go.Proofs.YtfboejlemnfndaaGreatDoor.XMr
open Go.RowKit Go.Proofs.YtfboejlemnfndaaGreatDoorW.PrintWords Go.Proofs.YtfboejlemnfndaaGreatDoorW.PrintLast Go.Proofs.YtfboejlemnfndaaGreatDoorW.PrintMore
attribute [local go_sem] extract_sub max2_int min2_int max_two min_two max_three min_three max_four min_four   -- for this text's walks alone
set_option linter.unusedVariables false
set_option linter.unusedSimpArgs false

noncomputable section
mutual
def tallboyref27_Parse.l0 : Nat → ByteArray → List ByteArray → Int → Int → ByteArray → Int → Option (Int × ByteArray × Int × (List (S59)) × Int)
 | 0, _, _, _, _, _, _ => none
 | k + 1, x0, x4, x6, x285000, x285001, x285002 => if x6 ≤ 6 then ((tallboyref27_name.f x6).bind fun t285 => (if 0 < (x4.length : Int) then (if t285.toList = (rdOf ByteArray.empty x4 0).toList then (tallboyref27_Parse.l0 k x0 x4 (wrap64 (x6 + 1)) x6 x285001 x285002) else (tallboyref27_Parse.l0 k x0 x4 (wrap64 (x6 + 1)) x285000 x285001 x285002)) else (none))) else (if x285000 = 0 then (some (0, (⟨#[]⟩ : ByteArray), 0, ([] : List (S59)), 70)) else (if x285000 = 5 then (tallboyref27_Parse.j1 k x0 x4 1 false x285000 x285001 x285002) else (tallboyref27_Parse.j1 k x0 x4 1 (decide ((x4.length : Int) > 1)) x285000 x285001 x285002)))
def tallboyref27_Parse.j1 : Nat → ByteArray → List ByteArray → Int → Bool → Int → ByteArray → Int → Option (Int × ByteArray × Int × (List (S59)) × Int)
 | 0, _, _, _, _, _, _, _ => none
 | k + 1, x0, x4, x7, x47, x285000, x285001, x285002 => if x47 = true then (if 1 < (x4.length : Int) then (tallboyref27_Parse.j2 k x0 x4 2 x285000 (rdOf ByteArray.empty x4 1) x285002) else (none)) else (tallboyref27_Parse.j2 k x0 x4 x7 x285000 x285001 x285002)
def tallboyref27_Parse.j2 : Nat → ByteArray → List ByteArray → Int → Int → ByteArray → Int → Option (Int × ByteArray × Int × (List (S59)) × Int)
 | 0, _, _, _, _, _, _ => none
 | k + 1, x0, x4, x7, x285000, x285001, x285002 => if x285000 = 2 then (tallboyref27_Parse.j3 k x0 x4 x7 (decide ((x4.length : Int) > 2)) x285000 x285001 x285002) else (tallboyref27_Parse.j3 k x0 x4 x7 false x285000 x285001 x285002)
def tallboyref27_Parse.j3 : Nat → ByteArray → List ByteArray → Int → Bool → Int → ByteArray → Int → Option (Int × ByteArray × Int × (List (S59)) × Int)
 | 0, _, _, _, _, _, _, _ => none
 | k + 1, x0, x4, x7, x59, x285000, x285001, x285002 => if x59 = true then (if 2 < (x4.length : Int) then ((tallboyref02_Parse.f k (rdOf ByteArray.empty x4 2)).bind fun bt289 => (if bt289.2 = 0 then (if bt289.1 > 2147483647 then (some (0, (⟨#[]⟩ : ByteArray), 0, ([] : List (S59)), 6)) else (tallboyref27_Parse.j4 k x0 x4 3 x285000 x285001 (wrap64 (bt289.1)))) else (some (0, (⟨#[]⟩ : ByteArray), 0, ([] : List (S59)), 6)))) else (none)) else (tallboyref27_Parse.j4 k x0 x4 x7 x285000 x285001 x285002)
def tallboyref27_Parse.j4 : Nat → ByteArray → List ByteArray → Int → Int → ByteArray → Int → Option (Int × ByteArray × Int × (List (S59)) × Int)
 | 0, _, _, _, _, _, _ => none
 | k + 1, x0, x4, x7, x285000, x285001, x285002 => tallboyref27_Parse.l1 k x0 x4 x7 x285000 x285001 x285002 ([] : List (S59))
def tallboyref27_Parse.l1 : Nat → ByteArray → List ByteArray → Int → Int → ByteArray → Int → List (S59) → Option (Int × ByteArray × Int × (List (S59)) × Int)
 | 0, _, _, _, _, _, _, _ => none
 | k + 1, x0, x4, x10, x285000, x285001, x285002, x285003 => if x10 < (x4.length : Int) then (if 0 ≤ x10 then (if (rdOf ByteArray.empty x4 x10).toList = ([] : List UInt8) then (some (0, (⟨#[]⟩ : ByteArray), 0, ([] : List (S59)), 6)) else (if 0 < ((rdOf ByteArray.empty x4 x10).size : Int) then (if 1 ≤ ((rdOf ByteArray.empty x4 x10).size : Int) then (if x285003.length < 5864062014805 then (tallboyref27_Parse.l1 k x0 x4 (wrap64 (x10 + 1)) x285000 x285001 x285002 (x285003 ++ [(⟨bt (rdOf ByteArray.empty x4 x10) 0, sub (rdOf ByteArray.empty x4 x10) 1 (rdOf ByteArray.empty x4 x10).size⟩ : S59)])) else (none)) else (none)) else (none))) else (none)) else ((tallboyref27_Find.f k x285000 x285001 x285002 x285003 98).bind fun bt297 => (if bt297.2 = true then (tallboyref27_Parse.j6 k x0 (x285000 != 5) x285000 x285001 x285002 x285003) else (tallboyref27_Parse.j6 k x0 false x285000 x285001 x285002 x285003)))
def tallboyref27_Parse.j6 : Nat → ByteArray → Bool → Int → ByteArray → Int → List (S59) → Option (Int × ByteArray × Int × (List (S59)) × Int)
 | 0, _, _, _, _, _, _ => none
 | k + 1, x0, x116, x285000, x285001, x285002, x285003 => if x116 = true then ((tallboyref27_Decode.f k x285001).bind fun bt299 => (if bt299.2 = 0 then ((tallboyref27_Write.f k x285000 bt299.1 x285002 x285003).bind fun bt301 => (if bt301.2 = 0 then (if bt301.1.toList = x0.toList then (some (x285000, bt299.1, x285002, x285003, 0)) else (some (0, (⟨#[]⟩ : ByteArray), 0, ([] : List (S59)), 6))) else (some (0, (⟨#[]⟩ : ByteArray), 0, ([] : List (S59)), 6)))) else (some (0, (⟨#[]⟩ : ByteArray), 0, ([] : List (S59)), bt299.2)))) else ((tallboyref27_Write.f k x285000 x285001 x285002 x285003).bind fun bt303 => (if bt303.2 = 0 then (if bt303.1.toList = x0.toList then (some (x285000, x285001, x285002, x285003, 0)) else (some (0, (⟨#[]⟩ : ByteArray), 0, ([] : List (S59)), 6))) else (some (0, (⟨#[]⟩ : ByteArray), 0, ([] : List (S59)), 6))))
end
def tallboyref27_Parse.f (k : Nat) (a0 : ByteArray) : Option (Int × ByteArray × Int × (List (S59)) × Int) := if (a0.size : Int) > 160 then (some (0, (⟨#[]⟩ : ByteArray), 0, ([] : List (S59)), 7)) else ((tallboyref27_cut.f k a0).bind fun t281 => (tallboyref27_Parse.l0 k a0 t281 1 0 (⟨#[]⟩ : ByteArray) 0))
theorem tallboyref27_Parse.mono_l : ∀ k, (∀ y0 y1 y2 y3 y4 y5, LeO (tallboyref27_Parse.l0 k y0 y1 y2 y3 y4 y5) (tallboyref27_Parse.l0 (k + 1) y0 y1 y2 y3 y4 y5)) ∧ (∀ y0 y1 y2 y3 y4 y5 y6, LeO (tallboyref27_Parse.j1 k y0 y1 y2 y3 y4 y5 y6) (tallboyref27_Parse.j1 (k + 1) y0 y1 y2 y3 y4 y5 y6)) ∧ (∀ y0 y1 y2 y3 y4 y5, LeO (tallboyref27_Parse.j2 k y0 y1 y2 y3 y4 y5) (tallboyref27_Parse.j2 (k + 1) y0 y1 y2 y3 y4 y5)) ∧ (∀ y0 y1 y2 y3 y4 y5 y6, LeO (tallboyref27_Parse.j3 k y0 y1 y2 y3 y4 y5 y6) (tallboyref27_Parse.j3 (k + 1) y0 y1 y2 y3 y4 y5 y6)) ∧ (∀ y0 y1 y2 y3 y4 y5, LeO (tallboyref27_Parse.j4 k y0 y1 y2 y3 y4 y5) (tallboyref27_Parse.j4 (k + 1) y0 y1 y2 y3 y4 y5)) ∧ (∀ y0 y1 y2 y3 y4 y5 y6, LeO (tallboyref27_Parse.l1 k y0 y1 y2 y3 y4 y5 y6) (tallboyref27_Parse.l1 (k + 1) y0 y1 y2 y3 y4 y5 y6)) ∧ (∀ y0 y1 y2 y3 y4 y5, LeO (tallboyref27_Parse.j6 k y0 y1 y2 y3 y4 y5) (tallboyref27_Parse.j6 (k + 1) y0 y1 y2 y3 y4 y5))
 | 0 => ⟨fun _ _ _ _ _ _ r h => by simp [tallboyref27_Parse.l0] at h, fun _ _ _ _ _ _ _ r h => by simp [tallboyref27_Parse.j1] at h, fun _ _ _ _ _ _ r h => by simp [tallboyref27_Parse.j2] at h, fun _ _ _ _ _ _ _ r h => by simp [tallboyref27_Parse.j3] at h, fun _ _ _ _ _ _ r h => by simp [tallboyref27_Parse.j4] at h, fun _ _ _ _ _ _ _ r h => by simp [tallboyref27_Parse.l1] at h, fun _ _ _ _ _ _ r h => by simp [tallboyref27_Parse.j6] at h⟩
 | k + 1 => by
  obtain ⟨ih0, ih1, ih2, ih3, ih4, ih5, ih6⟩ := tallboyref27_Parse.mono_l k
  refine ⟨?_, ?_, ?_, ?_, ?_, ?_, ?_⟩
  all_goals
   intros
   first | unfold tallboyref27_Parse.l0 | unfold tallboyref27_Parse.j1 | unfold tallboyref27_Parse.j2 | unfold tallboyref27_Parse.j3 | unfold tallboyref27_Parse.j4 | unfold tallboyref27_Parse.l1 | unfold tallboyref27_Parse.j6
   repeat' first
   | (with_reducible exact ih0 _ _ _ _ _ _)
   | (with_reducible exact ih1 _ _ _ _ _ _ _)
   | (with_reducible exact ih2 _ _ _ _ _ _)
   | (with_reducible exact ih3 _ _ _ _ _ _ _)
   | (with_reducible exact ih4 _ _ _ _ _ _)
   | (with_reducible exact ih5 _ _ _ _ _ _ _)
   | (with_reducible exact ih6 _ _ _ _ _ _)
   | (with_reducible exact tallboyref02_Parse.mono _ _)
   | (with_reducible exact tallboyref27_Decode.mono _ _)
   | (with_reducible exact tallboyref27_Find.mono _ _ _ _ _ _)
   | (with_reducible exact tallboyref27_Write.mono _ _ _ _ _)
   | (with_reducible exact tallboyref27_cut.mono _ _)
   | (with_reducible exact LeO.refl _)
   | (with_reducible exact LeO.none _)
   | (with_reducible refine LeO.ite ?_ ?_)
   | (with_reducible refine LeO.bind ?_ (fun _ => ?_))
   | exact ih0 _ _ _ _ _ _
   | exact ih1 _ _ _ _ _ _ _
   | exact ih2 _ _ _ _ _ _
   | exact ih3 _ _ _ _ _ _ _
   | exact ih4 _ _ _ _ _ _
   | exact ih5 _ _ _ _ _ _ _
   | exact ih6 _ _ _ _ _ _
   | exact tallboyref02_Parse.mono _ _
   | exact tallboyref27_Decode.mono _ _
   | exact tallboyref27_Find.mono _ _ _ _ _ _
   | exact tallboyref27_Write.mono _ _ _ _ _
   | exact tallboyref27_cut.mono _ _
   | exact LeO.none _
   | refine LeO.ite ?_ ?_
   | refine LeO.bind ?_ (fun _ => ?_)
theorem tallboyref27_Parse.mono : ∀ a0 k, LeO (tallboyref27_Parse.f k a0) (tallboyref27_Parse.f (k + 1) a0) := by
 intro a0 k
 obtain ⟨ih0, ih1, ih2, ih3, ih4, ih5, ih6⟩ := tallboyref27_Parse.mono_l k
 unfold tallboyref27_Parse.f
 repeat' first
  | (with_reducible exact ih0 _ _ _ _ _ _)
  | (with_reducible exact ih1 _ _ _ _ _ _ _)
  | (with_reducible exact ih2 _ _ _ _ _ _)
  | (with_reducible exact ih3 _ _ _ _ _ _ _)
  | (with_reducible exact ih4 _ _ _ _ _ _)
  | (with_reducible exact ih5 _ _ _ _ _ _ _)
  | (with_reducible exact ih6 _ _ _ _ _ _)
  | (with_reducible exact tallboyref02_Parse.mono _ _)
  | (with_reducible exact tallboyref27_Decode.mono _ _)
  | (with_reducible exact tallboyref27_Find.mono _ _ _ _ _ _)
  | (with_reducible exact tallboyref27_Write.mono _ _ _ _ _)
  | (with_reducible exact tallboyref27_cut.mono _ _)
  | (with_reducible exact LeO.refl _)
  | (with_reducible exact LeO.none _)
  | (with_reducible refine LeO.ite ?_ ?_)
  | (with_reducible refine LeO.bind ?_ (fun _ => ?_))
  | exact ih0 _ _ _ _ _ _
  | exact ih1 _ _ _ _ _ _ _
  | exact ih2 _ _ _ _ _ _
  | exact ih3 _ _ _ _ _ _ _
  | exact ih4 _ _ _ _ _ _
  | exact ih5 _ _ _ _ _ _ _
  | exact ih6 _ _ _ _ _ _
  | exact tallboyref02_Parse.mono _ _
  | exact tallboyref27_Decode.mono _ _
  | exact tallboyref27_Find.mono _ _ _ _ _ _
  | exact tallboyref27_Write.mono _ _ _ _ _
  | exact tallboyref27_cut.mono _ _
  | exact LeO.none _
  | refine LeO.ite ?_ ?_
  | refine LeO.bind ?_ (fun _ => ?_)
def tallboyref27_Parse.T27 : Bool × List (List Nat × List Nat) := (true, [([], []), ([0], [0]), ([], []), ([], []), ([2, 3], [2, 3]), ([4], [4]), ([5], [5]), ([], []), ([], []), ([7, 8], [7, 8]), ([9], [9]), ([10], [10]), ([6, 11], [6, 11]), ([12], [12]), ([1, 13], [1, 13]), ([0, 1, 2, 3, 4, 5, 6, 7, 8, 9, 10, 11, 12, 13, 14], []), ([15, 14, 14, 0, 1, 2, 3, 4, 5, 6, 7, 8, 9, 10, 11, 12, 13, 14], [14, 15])])
def tallboyref27_Parse.B27 : List Nat := [0, 1, 0, 0, 12, 28, 60, 0, 0, 384, 896, 1920, 4092, 8188, 16383, 32767, 65535]
theorem tallboyref27_Parse.tab27 : rtab .any (opsOf Tryz.f24 27) = tallboyref27_Parse.T27 := by kernel_rfl
theorem tallboyref27_Parse.bits27 : waitsOk tallboyref27_Parse.T27.2 tallboyref27_Parse.B27 = true := by kernel_rfl
set_option maxHeartbeats 8000000 in
set_option maxRecDepth 100000 in
theorem tallboyref27_Parse.calls (k : Nat) (a0 : ByteArray) (r1 : Int) (r2 : ByteArray) (r3 : Int) (r4 : List (S59)) (r5 : Int) (w : World) (h : tallboyref27_Parse.f k a0 = some (r1, r2, r3, r4, r5)) :
 Calls Tryz.prog 24 #[.string a0] w fun e w' => ∃ v3_ : Value, e = .returned (.tuple #[.agg #[.int .i64 r1, .string r2, .int .i64 r3, v3_], .int .i64 r5]) ∧ Kd.R k59 59 w' w.heap.size (fun _ => True) v3_ r4 ∧ Below w.heap.size w w' := by
 have hu24 := Tryz.underlying24
 have hu59 := Tryz.underlying59
 have HB := Aside0.mk (Below.refl w.heap.size w)
 have H : (if (a0.size : Int) > 160 then (some (0, (⟨#[]⟩ : ByteArray), 0, ([] : List (S59)), 7)) else ((tallboyref27_cut.f k a0).bind fun t281 => (tallboyref27_Parse.l0 k a0 t281 1 0 (⟨#[]⟩ : ByteArray) 0))) = some (r1, r2, r3, r4, r5) := h
 clear h
 by_cases c2 : (a0.size : Int) > 160
 · rw [if_pos c2] at H
   have c2b0 : decide (160 < (a0.size : Int)) = true := decide_eq_true c2
   have c2b1 : decide (160 < a0.size) = true := decide_eq_true (by omega)
   clear c2
   simp only [Option.some.injEq, Prod.mk.injEq] at H
   obtain ⟨rfl, rfl, rfl, rfl, rfl⟩ := H
   go_enter Tryz.func24, Tryz.ntmps24
   go_wp2_with (first | ((with_reducible refine gate_dst (N := 2) rfl ?_); (try (refine gate_guard (by rfl) ?_; dsimp only)); refine box_event ?hg (N := 2) ?hd (cs := #[.int .i64 0, .string (⟨#[]⟩ : ByteArray), .int .i64 0, .slice none 0 0]) (t := 24) ?hr ?_; (case hd => rfl); (case hg => rfl); (case hr => first | (go_simp; done) | (go_simp; rfl)); intro gb280 hg w3 hbox hb; have n0_ := Aside0.mk (below_step (hbA HB.out) hb); have n1_ := Aside0.mk (hbox); have n2_ := Aside0.mk ((by rw [hg]; exact (below_size (hbA HB.out)) : w.heap.size ≤ gb280)); have n3_ := Aside0.mk ((by rw [hg]; exact (below_size (hbA HB.out)) : w.heap.size ≤ gb280)); clear HB; have HB := n0_; have BK280 := n1_; have GW280 := n2_; have GE280 := n3_; clear n0_ n1_ n2_ n3_; clear hb hbox hg; obtain ⟨hcz4_0, hcz4_1, hcz4_2, hcz4_3, hfz4_0, hfz4_1, hfz4_2, hfz4_3⟩ := blkA4 BK280.out))
   refine bodyPost_ret (results_ct rfl _ _ gb280 24 #[.int .i64 0, .string (⟨#[]⟩ : ByteArray), .int .i64 0, .slice none 0 0] (0, 0) _ rfl (by (with_reducible repeat (first | refine blk_drewN ?_ _ | refine blk_drew ?_ | refine blk_alloc ?_ _)); refine blk_put (cs := #[.int .i64 0, .string (⟨#[]⟩ : ByteArray), .int .i64 0, .slice none 0 0]) ?_ 3 _ rfl; (with_reducible repeat (first | refine blk_drewN ?_ _ | refine blk_drew ?_ | refine blk_alloc ?_ _)); refine blk_put (cs := #[.int .i64 0, .string (⟨#[]⟩ : ByteArray), .int .i64 0, .slice none 0 0]) ?_ 2 _ rfl; (with_reducible repeat (first | refine blk_drewN ?_ _ | refine blk_drew ?_ | refine blk_alloc ?_ _)); refine blk_put (cs := #[.int .i64 0, .string (⟨#[]⟩ : ByteArray), .int .i64 0, .slice none 0 0]) ?_ 1 _ rfl; (with_reducible repeat (first | refine blk_drewN ?_ _ | refine blk_drew ?_ | refine blk_alloc ?_ _)); refine blk_put (cs := #[.int .i64 0, .string (⟨#[]⟩ : ByteArray), .int .i64 0, .slice none 0 0]) ?_ 0 _ rfl; exact rbA BK280.out) Tryz.underlying24 rfl (by kernel_rfl)) rfl ?_
   exact ⟨_, reA, knA, hbA HB.out⟩
 rw [if_neg c2] at H
 have c2b0 : decide (160 < (a0.size : Int)) = false := decide_eq_false c2
 have c2b1 : decide (160 < a0.size) = false := decide_eq_false (by omega)
 clear c2
 replace H := Option.bind_eq_some_iff.mp H
 obtain ⟨t281, A50, H⟩ := H
 replace H : (tallboyref27_Parse.l0 k a0 t281 1 0 (⟨#[]⟩ : ByteArray) 0) = some (r1, r2, r3, r4, r5) := H
 have A5 := Aside0.mk A50
 clear A50
 have H' := Aside0.mk H
 clear H
 go_enter Tryz.func24, Tryz.ntmps24
 go_wp2_with (first | ((with_reducible refine gate_dst (N := 2) rfl ?_); (try (refine gate_guard (by rfl) ?_; dsimp only)); refine box_event ?hg (N := 2) ?hd (cs := #[.int .i64 0, .string (⟨#[]⟩ : ByteArray), .int .i64 0, .slice none 0 0]) (t := 24) ?hr ?_; (case hd => rfl); (case hg => rfl); (case hr => first | (go_simp; done) | (go_simp; rfl)); intro gb280 hg w6 hbox hb; have n0_ := Aside0.mk (below_step (hbA HB.out) hb); have n1_ := Aside0.mk (hbox); have n2_ := Aside0.mk ((by rw [hg]; exact (below_size (hbA HB.out)) : w.heap.size ≤ gb280)); have n3_ := Aside0.mk ((by rw [hg]; exact (below_size (hbA HB.out)) : w.heap.size ≤ gb280)); clear HB; have HB := n0_; have BK280 := n1_; have GW280 := n2_; have GE280 := n3_; clear n0_ n1_ n2_ n3_; clear hb hbox hg) | ((with_reducible refine gate_callee (f := 51) rfl ?_); refine goesL_ (some 22) rfl rfl Tryz.func51 (by kernel_rfl) rfl #[.string a0] rfl argA ?_; (with_reducible refine (tallboyref27_cut.calls k a0 t281 _ A5.out).mono ?_); rintro e w7 ⟨v282, rfl, ho0, hb⟩; refine ⟨_, rfl, ?_⟩; have n0_ := Aside0.mk (Kd.R_lower ho0 (below_size (hbA HB.out))); have n1_ := Aside0.mk (blk_below (g := gb280) (o := .cells #[.int .i64 0, .string (⟨#[]⟩ : ByteArray), .int .i64 0, .slice none 0 0] 24 (0, 0)) (rbA BK280.out) hb); have n2_ := Aside0.mk (below_step (hbA HB.out) hb); clear BK280; clear HB; have HO283 := n0_; have BK280 := n1_; have HB := n2_; clear n0_ n1_ n2_; (try clear hb); (try clear hb2); (try clear hk); (try clear hi); (try clear ho0)) | ((with_reducible refine gate_dst (N := 5) rfl ?_); (try (refine gate_guard (by rfl) ?_; dsimp only)); refine box_event ?hg (N := 5) ?hd (cs := #[.int .i64 0, .string (⟨#[]⟩ : ByteArray), .int .i64 0, .slice none 0 0]) (t := 24) ?hr ?_; (case hd => rfl); (case hg => rfl); (case hr => first | (go_simp; done) | (go_simp; rfl)); intro gb284 hg w8 hbox hb; have n0_ := Aside0.mk (Kd.R_below (rdA HO283.out) hb); have n1_ := Aside0.mk (blk_below (g := gb280) (o := .cells #[.int .i64 0, .string (⟨#[]⟩ : ByteArray), .int .i64 0, .slice none 0 0] 24 (0, 0)) (rbA BK280.out) hb); have n2_ := Aside0.mk (below_step (hbA HB.out) hb); have n3_ := Aside0.mk (hbox); have n4_ := Aside0.mk ((by rw [hg]; exact (below_size (hbA HB.out)) : w.heap.size ≤ gb284)); have n5_ := Aside0.mk ((by rw [hg]; exact (below_size (hbA HB.out)) : w.heap.size ≤ gb284)); have n6_ := Aside0.mk ((by rw [hg]; exact Nat.ne_of_lt (blk_lt (g := gb280) (o := .cells #[.int .i64 0, .string (⟨#[]⟩ : ByteArray), .int .i64 0, .slice none 0 0] 24 (0, 0)) (rbA BK280.out)) : gb280 ≠ gb284)); have n7_ := Aside0.mk ((by rw [hg]; exact Nat.ne_of_gt (blk_lt (g := gb280) (o := .cells #[.int .i64 0, .string (⟨#[]⟩ : ByteArray), .int .i64 0, .slice none 0 0] 24 (0, 0)) (rbA BK280.out)) : gb284 ≠ gb280)); clear HO283; clear BK280; clear HB; have HO283 := n0_; have BK280 := n1_; have HB := n2_; have BK284 := n3_; have GW284 := n4_; have GE284 := n5_; have NB280_284 := n6_; have NB284_280 := n7_; clear n0_ n1_ n2_ n3_ n4_ n5_ n6_ n7_; clear hb hbox hg; have hnb9 := NB284_280.out; have hnc9 := NB280_284.out; obtain ⟨hcz10_0, hcz10_1, hcz10_2, hcz10_3, hfz10_0, hfz10_1, hfz10_2, hfz10_3⟩ := blkA4 BK284.out))
 go_loopg [6] k (fun kq v6 w' => ∃ (x6_1 : Int) (x285000_1 : Int), v6 = .int .i64 x6_1 ∧ Aside0 (tallboyref27_Parse.l0 kq a0 t281 x6_1 x285000_1 (⟨#[]⟩ : ByteArray) 0 = some (r1, r2, r3, r4, r5)) ∧ Aside0 (kq ≤ k) ∧ Aside0 (Kd.R Kd.string 9 w' w.heap.size (fun _ => True) v282 t281) ∧ Aside0 (w'.heap[gb280]? = some (.cells #[.int .i64 0, .string (⟨#[]⟩ : ByteArray), .int .i64 0, (.slice none 0 0)] 24 (0, 0))) ∧ Aside0 (w'.heap[gb284]? = some (.cells #[.int .i64 x285000_1, .string (⟨#[]⟩ : ByteArray), .int .i64 0, (.slice none 0 0)] 24 (0, 0))) ∧ Aside0 (Below w.heap.size w w'))
 case atStart => exact ⟨(1), (0), rsA, H', ⟨Nat.le_refl _⟩, ⟨by (with_reducible repeat (first | apply Kd.R_alloc | apply Kd.R_drewN | apply Kd.R_drew)); exact Kd.R_mono (Kd.R_far (p := ⟨gb284, 3, none⟩) (Kd.R_far (p := ⟨gb284, 2, none⟩) (Kd.R_far (p := ⟨gb284, 1, none⟩) (Kd.R_far (p := ⟨gb284, 0, none⟩) (Kd.R_types HO283.out BK284.out (by decide)) (fun _ hk => hk.2) (.int .i64 0)) (fun _ hk => hk.2) (.string (⟨#[]⟩ : ByteArray))) (fun _ hk => hk.2) (.int .i64 0)) (fun _ hk => hk.2) (.slice none 0 0)) (fun _ hk => trivial)⟩, ⟨by (with_reducible repeat (first | refine blk_drewN ?_ _ | refine blk_drew ?_ | refine blk_alloc ?_ _)); refine blk_far ?_ NB280_284.out _; (with_reducible repeat (first | refine blk_drewN ?_ _ | refine blk_drew ?_ | refine blk_alloc ?_ _)); refine blk_far ?_ NB280_284.out _; (with_reducible repeat (first | refine blk_drewN ?_ _ | refine blk_drew ?_ | refine blk_alloc ?_ _)); refine blk_far ?_ NB280_284.out _; (with_reducible repeat (first | refine blk_drewN ?_ _ | refine blk_drew ?_ | refine blk_alloc ?_ _)); refine blk_far ?_ NB280_284.out _; (with_reducible repeat (first | refine blk_drewN ?_ _ | refine blk_drew ?_ | refine blk_alloc ?_ _)); exact BK280.out⟩, ⟨by (with_reducible repeat (first | refine blk_drewN ?_ _ | refine blk_drew ?_ | refine blk_alloc ?_ _)); refine blk_put (cs := #[.int .i64 0, .string (⟨#[]⟩ : ByteArray), .int .i64 0, .slice none 0 0]) ?_ 3 _ rfl; (with_reducible repeat (first | refine blk_drewN ?_ _ | refine blk_drew ?_ | refine blk_alloc ?_ _)); refine blk_put (cs := #[.int .i64 0, .string (⟨#[]⟩ : ByteArray), .int .i64 0, .slice none 0 0]) ?_ 2 _ rfl; (with_reducible repeat (first | refine blk_drewN ?_ _ | refine blk_drew ?_ | refine blk_alloc ?_ _)); refine blk_put (cs := #[.int .i64 0, .string (⟨#[]⟩ : ByteArray), .int .i64 0, .slice none 0 0]) ?_ 1 _ rfl; (with_reducible repeat (first | refine blk_drewN ?_ _ | refine blk_drew ?_ | refine blk_alloc ?_ _)); refine blk_put (cs := #[.int .i64 0, .string (⟨#[]⟩ : ByteArray), .int .i64 0, .slice none 0 0]) ?_ 0 _ rfl; (with_reducible repeat (first | refine blk_drewN ?_ _ | refine blk_drew ?_ | refine blk_alloc ?_ _)); exact BK284.out⟩, ⟨hbA HB.out⟩⟩
 case round =>
  clear H'
  (try clear c2); (try clear c2b0); (try clear c2b1); (try clear p2); (try clear c5); (try clear c9); (try clear hcz10_0 hcz10_1 hcz10_2 hcz10_3); (try clear hcz4_0 hcz4_1 hcz4_2 hcz4_3); (try clear hfz10_0 hfz10_1 hfz10_2 hfz10_3); (try clear hfz4_0 hfz4_1 hfz4_2 hfz4_3)
  obtain ⟨x6_1, x285000_1, rfl, HA, HK1, HO_4, BK280, BK284, HB⟩ := hrel
  cases gk with
  | zero => exact absurd HA.out (by simp [tallboyref27_Parse.l0])
  | succ k1 =>
   have H := HA.out
   clear HA
   simp only [tallboyref27_Parse.l0] at H
   by_cases c11 : x6_1 ≤ 6
   · rw [if_pos c11] at H
     have c11b0 : decide (x6_1 ≤ 6) = true := decide_eq_true c11
     clear c11
     replace H := Option.bind_eq_some_iff.mp H
     obtain ⟨t285, A120, H⟩ := H
     replace H : (if 0 < (t281.length : Int) then (if t285.toList = (rdOf ByteArray.empty t281 0).toList then (tallboyref27_Parse.l0 k1 a0 t281 (wrap64 (x6_1 + 1)) x6_1 (⟨#[]⟩ : ByteArray) 0) else (tallboyref27_Parse.l0 k1 a0 t281 (wrap64 (x6_1 + 1)) x285000_1 (⟨#[]⟩ : ByteArray) 0)) else (none)) = some (r1, r2, r3, r4, r5) := H
     have A12 := Aside0.mk A120
     clear A120
     by_cases c13 : 0 < (t281.length : Int)
     · rw [if_pos c13] at H
       have c13b0 : decide (0 < (t281.length : Int)) = true := decide_eq_true c13
       have c13b1 : decide (0 < t281.length) = true := decide_eq_true (by omega)
       clear c13
       by_cases c14 : t285.toList = (rdOf ByteArray.empty t281 0).toList
       · rw [if_pos c14] at H
         have c14b0 : (t285.toList == (rdOf ByteArray.empty t281 0).toList) = true := beq_iff_eq.mpr c14
         have c14b1 : (t285.toList != (rdOf ByteArray.empty t281 0).toList) = false := bne_eq_false_iff_eq.mpr c14
         clear c14
         have H' := Aside0.mk H
         clear H
         try go_wp2
         replace HO_4 := Aside0.mk (Kd.R_drew HO_4.out)
         replace BK280 := Aside0.mk (blk_drew BK280.out)
         replace BK284 := Aside0.mk (blk_drew BK284.out)
         replace HB := Aside0.mk (below_drew1 HB.out)
         obtain ⟨Ao16, co16, eo16⟩ := Kd.R_slice HO_4.out
         (first | subst eo16 | (injection eo16 with f1_ f2_ f3_; have f4_ := f1_.symm; have f5_ := f3_.symm; clear f1_ f2_ f3_; subst f4_; subst f5_))
         have p286 : 0 ≤ (0 : Int) := (by omega)
         have q286 : 0 < (t281.length : Int) := of_decide_eq_true asA
         obtain ⟨ad286, e286, hx286_0⟩ := Kd.at_string (Kd.R_reads' HO_4.out).2.2 0 p286 q286
         cases e286
         have qi286 : (0 < t281.length) = True := eq_true (by omega)
         (try rw [show ((0 : Int)).toNat = 0 from rfl] at hx286_0)
         (try rw [Addr.add_zero'] at hx286_0)
         replace p286 := eq_true p286
         replace q286 := eq_true q286
         refine start_ (n := 6) (S := fun w' => w'.cell? ad286 = some (.string (rdOf ByteArray.empty t281 0))) (ds := []) #[false, false, false, false, false, false] (by kernel_rfl) rfl rfl (hx286_0) (fun hHeld => ?_)
         generalize wr.drew = w15 at HO_4 BK280 BK284 HB hx286_0 hHeld ⊢
         refine pureA_ (i := 0) (N := some 28) #[true, false, false, false, false, false] rfl rfl ?_
         refine pureA_ (i := 2) (N := some 30) #[true, false, true, false, false, false] rfl rfl ?_
         refine pureA_ (i := 3) (N := some 31) #[true, false, true, true, false, false] rfl rfl ?_
         refine takeA_ (i := 4) (N := some 32) #[true, false, true, true, true, false] rfl rfl hHeld ?_
         refine one_ (i := 1) (N := some 29) #[true, true, true, true, true, false] rfl rfl (by kernel_rfl) (by decide) (fun K hK => ?_)
         refine goes_ Tryz.func33 (by kernel_rfl) rfl #[.int .i64 x6_1] (by rfl) rfl rfl argA ?_
         with_reducible refine (tallboyref27_name.calls x6_1 t285 _ A12.out).mono ?_
         rintro e w' ⟨rfl, ⟨nd, rfl⟩⟩
         refine ⟨_, rfl, ?_⟩
         refine hK.out _ _ (hHeld) (fun hHeld => ?_)
         clear hK K
         refine normA_ ?_
         refine pureA_ (i := 5) (N := some 33) #[true, true, true, true, true, true] rfl rfl ?_
         refine done_ (by kernel_rfl) ?_
         have hnb17 := NB284_280.out
         have hnc17 := NB280_284.out
         obtain ⟨hcz18_0, hcz18_1, hcz18_2, hcz18_3, hfz18_0, hfz18_1, hfz18_2, hfz18_3⟩ := blkA4 BK284.out
         try go_wp2
         go_roundg k1
         case measure => have := HK1.out; omega
         case rel => exact ⟨(wrap64 (x6_1 + 1)), (x6_1), rsA, H', ⟨by have := HK1.out; omega⟩, ⟨by (with_reducible repeat (first | apply Kd.R_alloc | apply Kd.R_drewN | apply Kd.R_drew)); exact Kd.R_mono (Kd.R_far (p := ⟨gb284, 0, none⟩) (Kd.R_types HO_4.out BK284.out (by decide)) (fun _ hk => hk.2) (.int .i64 x6_1)) (fun _ hk => trivial)⟩, ⟨by (with_reducible repeat (first | refine blk_drewN ?_ _ | refine blk_drew ?_ | refine blk_alloc ?_ _)); refine blk_far ?_ NB280_284.out _; (with_reducible repeat (first | refine blk_drewN ?_ _ | refine blk_drew ?_ | refine blk_alloc ?_ _)); exact BK280.out⟩, ⟨by (with_reducible repeat (first | refine blk_drewN ?_ _ | refine blk_drew ?_ | refine blk_alloc ?_ _)); refine blk_put (cs := #[.int .i64 x285000_1, .string (⟨#[]⟩ : ByteArray), .int .i64 0, .slice none 0 0]) ?_ 0 _ rfl; (with_reducible repeat (first | refine blk_drewN ?_ _ | refine blk_drew ?_ | refine blk_alloc ?_ _)); exact BK284.out⟩, ⟨hbA HB.out⟩⟩
       rw [if_neg c14] at H
       have c14b0 : (t285.toList == (rdOf ByteArray.empty t281 0).toList) = false := beq_eq_false_iff_ne.mpr c14
       have c14b1 : (t285.toList != (rdOf ByteArray.empty t281 0).toList) = true := bne_iff_ne.mpr c14
       have H' := Aside0.mk H
       clear H
       try go_wp2
       replace HO_4 := Aside0.mk (Kd.R_drew HO_4.out)
       replace BK280 := Aside0.mk (blk_drew BK280.out)
       replace BK284 := Aside0.mk (blk_drew BK284.out)
       replace HB := Aside0.mk (below_drew1 HB.out)
       obtain ⟨Ao20, co20, eo20⟩ := Kd.R_slice HO_4.out
       (first | subst eo20 | (injection eo20 with f1_ f2_ f3_; have f4_ := f1_.symm; have f5_ := f3_.symm; clear f1_ f2_ f3_; subst f4_; subst f5_))
       have p286 : 0 ≤ (0 : Int) := (by omega)
       have q286 : 0 < (t281.length : Int) := of_decide_eq_true asA
       obtain ⟨ad286, e286, hx286_0⟩ := Kd.at_string (Kd.R_reads' HO_4.out).2.2 0 p286 q286
       cases e286
       have qi286 : (0 < t281.length) = True := eq_true (by omega)
       (try rw [show ((0 : Int)).toNat = 0 from rfl] at hx286_0)
       (try rw [Addr.add_zero'] at hx286_0)
       replace p286 := eq_true p286
       replace q286 := eq_true q286
       refine start_ (n := 6) (S := fun w' => w'.cell? ad286 = some (.string (rdOf ByteArray.empty t281 0))) (ds := []) #[false, false, false, false, false, false] (by kernel_rfl) rfl rfl (hx286_0) (fun hHeld => ?_)
       generalize wr.drew = w19 at HO_4 BK280 BK284 HB hx286_0 hHeld ⊢
       refine pureA_ (i := 0) (N := some 28) #[true, false, false, false, false, false] rfl rfl ?_
       refine pureA_ (i := 2) (N := some 30) #[true, false, true, false, false, false] rfl rfl ?_
       refine pureA_ (i := 3) (N := some 31) #[true, false, true, true, false, false] rfl rfl ?_
       refine takeA_ (i := 4) (N := some 32) #[true, false, true, true, true, false] rfl rfl hHeld ?_
       refine one_ (i := 1) (N := some 29) #[true, true, true, true, true, false] rfl rfl (by kernel_rfl) (by decide) (fun K hK => ?_)
       refine goes_ Tryz.func33 (by kernel_rfl) rfl #[.int .i64 x6_1] (by rfl) rfl rfl argA ?_
       with_reducible refine (tallboyref27_name.calls x6_1 t285 _ A12.out).mono ?_
       rintro e w' ⟨rfl, ⟨nd, rfl⟩⟩
       refine ⟨_, rfl, ?_⟩
       refine hK.out _ _ (hHeld) (fun hHeld => ?_)
       clear hK K
       refine normA_ ?_
       refine pureA_ (i := 5) (N := some 33) #[true, true, true, true, true, true] rfl rfl ?_
       refine done_ (by kernel_rfl) ?_
       try go_wp2
       go_roundg k1
       case measure => have := HK1.out; omega
       case rel => exact ⟨(wrap64 (x6_1 + 1)), (x285000_1), rsA, H', ⟨by have := HK1.out; omega⟩, ⟨rdA HO_4.out⟩, ⟨rbA BK280.out⟩, ⟨rbA BK284.out⟩, ⟨hbA HB.out⟩⟩
     rw [if_neg c13] at H
     exact absurd H (by simp)
   rw [if_neg c11] at H
   have c11b0 : decide (x6_1 ≤ 6) = false := decide_eq_false c11
   clear c11
   by_cases c21 : x285000_1 = 0
   · rw [if_pos c21] at H
     have c21b0 : (x285000_1 == 0) = true := beq_iff_eq.mpr c21
     have c21b1 : (x285000_1 != 0) = false := bne_eq_false_iff_eq.mpr c21
     clear c21
     simp only [Option.some.injEq, Prod.mk.injEq] at H
     obtain ⟨rfl, rfl, rfl, rfl, rfl⟩ := H
     have hnb22 := NB284_280.out
     have hnc22 := NB280_284.out
     obtain ⟨hcz23_0, hcz23_1, hcz23_2, hcz23_3, hfz23_0, hfz23_1, hfz23_2, hfz23_3⟩ := blkA4 BK284.out
     obtain ⟨hcz24_0, hcz24_1, hcz24_2, hcz24_3, hfz24_0, hfz24_1, hfz24_2, hfz24_3⟩ := blkA4 BK280.out
     go_wp2
     refine bodyPost_ret (results_ct rfl _ _ gb280 24 #[.int .i64 0, .string (⟨#[]⟩ : ByteArray), .int .i64 0, .slice none 0 0] (0, 0) _ rfl (by (with_reducible repeat (first | refine blk_drewN ?_ _ | refine blk_drew ?_ | refine blk_alloc ?_ _)); refine blk_put (cs := #[.int .i64 0, .string (⟨#[]⟩ : ByteArray), .int .i64 0, .slice none 0 0]) ?_ 3 _ rfl; (with_reducible repeat (first | refine blk_drewN ?_ _ | refine blk_drew ?_ | refine blk_alloc ?_ _)); refine blk_put (cs := #[.int .i64 0, .string (⟨#[]⟩ : ByteArray), .int .i64 0, .slice none 0 0]) ?_ 2 _ rfl; (with_reducible repeat (first | refine blk_drewN ?_ _ | refine blk_drew ?_ | refine blk_alloc ?_ _)); refine blk_put (cs := #[.int .i64 0, .string (⟨#[]⟩ : ByteArray), .int .i64 0, .slice none 0 0]) ?_ 1 _ rfl; (with_reducible repeat (first | refine blk_drewN ?_ _ | refine blk_drew ?_ | refine blk_alloc ?_ _)); refine blk_put (cs := #[.int .i64 0, .string (⟨#[]⟩ : ByteArray), .int .i64 0, .slice none 0 0]) ?_ 0 _ rfl; exact rbA BK280.out) Tryz.underlying24 rfl (by kernel_rfl)) rfl ?_
     exact ⟨_, reA, knA, hbA HB.out⟩
   rw [if_neg c21] at H
   have c21b0 : (x285000_1 == 0) = false := beq_eq_false_iff_ne.mpr c21
   have c21b1 : (x285000_1 != 0) = true := bne_iff_ne.mpr c21
   have HC25 := Aside0.mk H
   clear H
   have hnb26 := NB284_280.out
   have hnc26 := NB280_284.out
   obtain ⟨hcz27_0, hcz27_1, hcz27_2, hcz27_3, hfz27_0, hfz27_1, hfz27_2, hfz27_3⟩ := blkA4 BK284.out
   go_upto_region 13 with (fail)
   go_cut [47] (fun v47 wc => ∃ (kq : Nat) (x47_24 : Bool), v47 = .bool x47_24 ∧ Aside0 (tallboyref27_Parse.j1 kq a0 t281 1 x47_24 x285000_1 (⟨#[]⟩ : ByteArray) 0 = some (r1, r2, r3, r4, r5)) ∧ Aside0 (kq ≤ k1) ∧ Aside0 (Kd.R Kd.string 9 wc w.heap.size (fun _ => True) v282 t281) ∧ Aside0 (wc.heap[gb280]? = some (.cells #[.int .i64 0, .string (⟨#[]⟩ : ByteArray), .int .i64 0, (.slice none 0 0)] 24 (0, 0))) ∧ Aside0 (wc.heap[gb284]? = some (.cells #[.int .i64 x285000_1, .string (⟨#[]⟩ : ByteArray), .int .i64 0, (.slice none 0 0)] 24 (0, 0))) ∧ Aside0 (Below w.heap.size w wc))
   case first =>
    have H := HC25.out
    clear HC25
    by_cases c28 : x285000_1 = 5
    · rw [if_pos c28] at H
      have c28b0 : (x285000_1 == 5) = true := beq_iff_eq.mpr c28
      have c28b1 : (x285000_1 != 5) = false := bne_eq_false_iff_eq.mpr c28
      clear c28
      (first | rw [c28b0] | (simp only [i64_w, i32_w]; rw [c28b0]) | skip)
      have H' := Aside0.mk H
      clear H
      have hnb29 := NB284_280.out
      have hnc29 := NB280_284.out
      obtain ⟨hcz30_0, hcz30_1, hcz30_2, hcz30_3, hfz30_0, hfz30_1, hfz30_2, hfz30_3⟩ := blkA4 BK284.out
      go_wp2
      go_meet
      case rel => exact ⟨_, (false), rsA, H', ⟨by have := HK1.out; first | omega | exact Nat.le_refl _⟩, ⟨rdA HO_4.out⟩, ⟨rbA BK280.out⟩, ⟨rbA BK284.out⟩, ⟨hbA HB.out⟩⟩
    rw [if_neg c28] at H
    have c28b0 : (x285000_1 == 5) = false := beq_eq_false_iff_ne.mpr c28
    have c28b1 : (x285000_1 != 5) = true := bne_iff_ne.mpr c28
    (first | rw [c28b0] | (simp only [i64_w, i32_w]; rw [c28b0]) | skip)
    have H' := Aside0.mk H
    clear H
    have hnb31 := NB284_280.out
    have hnc31 := NB280_284.out
    obtain ⟨hcz32_0, hcz32_1, hcz32_2, hcz32_3, hfz32_0, hfz32_1, hfz32_2, hfz32_3⟩ := blkA4 BK284.out
    obtain ⟨Ao33, co33, eo33⟩ := Kd.R_slice HO_4.out
    subst eo33
    go_wp2
    go_meet
    case rel => exact ⟨_, (decide ((t281.length : Int) > 1)), rsA, H', ⟨by have := HK1.out; first | omega | exact Nat.le_refl _⟩, ⟨rdA HO_4.out⟩, ⟨rbA BK280.out⟩, ⟨rbA BK284.out⟩, ⟨hbA HB.out⟩⟩
   clear HC25
   (try clear c1); (try clear c2); (try clear c2b0); (try clear c2b1); (try clear p2); (try clear q2); (try clear hx2); (try clear qi2); (try clear c3); (try clear c5); (try clear p6); (try clear c9); (try clear c11); (try clear c11b0); (try clear c13); (try clear c13b0); (try clear c13b1); (try clear c14); (try clear c14b0); (try clear c14b1); (try clear c17); (try clear c21); (try clear c21b0); (try clear c21b1); (try clear c22); (try clear c24); (try clear c26); (try clear c28); (try clear c28b0); (try clear c28b1); (try clear p28); (try clear q28); (try clear hx28); (try clear qi28); (try clear c29); (try clear c31); (try clear c33); (try clear hcz10_0 hcz10_1 hcz10_2 hcz10_3); (try clear hcz18_0 hcz18_1 hcz18_2 hcz18_3); (try clear hcz23_0 hcz23_1 hcz23_2 hcz23_3); (try clear hcz24_0 hcz24_1 hcz24_2 hcz24_3); (try clear hcz27_0 hcz27_1 hcz27_2 hcz27_3); (try clear hcz30_0 hcz30_1 hcz30_2 hcz30_3); (try clear hcz32_0 hcz32_1 hcz32_2 hcz32_3); (try clear hcz4_0 hcz4_1 hcz4_2 hcz4_3); (try clear hfz10_0 hfz10_1 hfz10_2 hfz10_3); (try clear hfz18_0 hfz18_1 hfz18_2 hfz18_3); (try clear hfz23_0 hfz23_1 hfz23_2 hfz23_3); (try clear hfz24_0 hfz24_1 hfz24_2 hfz24_3); (try clear hfz27_0 hfz27_1 hfz27_2 hfz27_3); (try clear hfz30_0 hfz30_1 hfz30_2 hfz30_3); (try clear hfz32_0 hfz32_1 hfz32_2 hfz32_3); (try clear hfz4_0 hfz4_1 hfz4_2 hfz4_3); (try clear hx286_0); (try clear p2); (try clear p286); (try clear q286)
   obtain ⟨kq, x47_24, rfl, HA, HJ24, HO_4, BK280, BK284, HB⟩ := hcut
   cases kq with
   | zero => exact absurd HA.out (by simp [tallboyref27_Parse.j1])
   | succ kj24 =>
    have H := HA.out
    clear HA
    simp only [tallboyref27_Parse.j1] at H
    have HC34 := Aside0.mk H
    clear H
    go_upto_if 47 with (fail)
    go_cut [7] (fun v7 wc => ∃ (kq : Nat) (x7_33 : Int) (x285001_33 : ByteArray), v7 = .int .i64 x7_33 ∧ Aside0 (tallboyref27_Parse.j2 kq a0 t281 x7_33 x285000_1 x285001_33 0 = some (r1, r2, r3, r4, r5)) ∧ Aside0 (kq ≤ kj24) ∧ Aside0 (Kd.R Kd.string 9 wc w.heap.size (fun _ => True) v282 t281) ∧ Aside0 (wc.heap[gb280]? = some (.cells #[.int .i64 0, .string (⟨#[]⟩ : ByteArray), .int .i64 0, (.slice none 0 0)] 24 (0, 0))) ∧ Aside0 (wc.heap[gb284]? = some (.cells #[.int .i64 x285000_1, .string x285001_33, .int .i64 0, (.slice none 0 0)] 24 (0, 0))) ∧ Aside0 (Below w.heap.size w wc))
    case first =>
     have H := HC34.out
     clear HC34
     by_cases c35 : x47_24 = true
     · subst c35
       have H1 : (if 1 < (t281.length : Int) then (tallboyref27_Parse.j2 kj24 a0 t281 2 x285000_1 (rdOf ByteArray.empty t281 1) 0) else (none)) = some (r1, r2, r3, r4, r5) := by rw [if_pos rfl] at H; exact H
       clear H
       have H := H1
       clear H1
       by_cases c36 : 1 < (t281.length : Int)
       · rw [if_pos c36] at H
         have c36b0 : decide (1 < (t281.length : Int)) = true := decide_eq_true c36
         have c36b1 : decide (1 < t281.length) = true := decide_eq_true (by omega)
         clear c36
         (first | rw [c36b0] | (simp only [i64_w, i32_w]; rw [c36b0]) | skip)
         have H' := Aside0.mk H
         clear H
         obtain ⟨Ao37, co37, eo37⟩ := Kd.R_slice HO_4.out
         subst eo37
         have p287 : 0 ≤ (1 : Int) := (by omega)
         have q287 : 1 < (t281.length : Int) := of_decide_eq_true asA
         obtain ⟨ad287, e287, hx287_0⟩ := Kd.at_string (Kd.R_reads' HO_4.out).2.2 1 p287 q287
         cases e287
         (try simp only [show (1 : Int).toNat = 1 from rfl, Nat.reduceMul, Nat.reduceEqDiff, Go.Addr.add, ↓reduceIte] at hx287_0)
         have qi287 : (1 < t281.length) = True := eq_true (by omega)
         (try rw [show ((1 : Int)).toNat = 1 from rfl] at hx287_0)
         replace p287 := eq_true p287
         replace q287 := eq_true q287
         have hnb38 := NB284_280.out
         have hnc38 := NB280_284.out
         obtain ⟨hcz39_0, hcz39_1, hcz39_2, hcz39_3, hfz39_0, hfz39_1, hfz39_2, hfz39_3⟩ := blkA4 BK284.out
         go_wp2
         go_meet
         case rel => exact ⟨_, (2), (rdOf ByteArray.empty t281 1), rsA, H', ⟨by have := HK1.out; have := HJ24.out; first | omega | exact Nat.le_refl _⟩, ⟨by (with_reducible repeat (first | apply Kd.R_alloc | apply Kd.R_drewN | apply Kd.R_drew)); exact Kd.R_mono (Kd.R_far (p := ⟨gb284, 1, none⟩) (Kd.R_types HO_4.out BK284.out (by decide)) (fun _ hk => hk.2) (.string (rdOf ByteArray.empty t281 1))) (fun _ hk => trivial)⟩, ⟨by (with_reducible repeat (first | refine blk_drewN ?_ _ | refine blk_drew ?_ | refine blk_alloc ?_ _)); refine blk_far ?_ NB280_284.out _; (with_reducible repeat (first | refine blk_drewN ?_ _ | refine blk_drew ?_ | refine blk_alloc ?_ _)); exact BK280.out⟩, ⟨by (with_reducible repeat (first | refine blk_drewN ?_ _ | refine blk_drew ?_ | refine blk_alloc ?_ _)); refine blk_put (cs := #[.int .i64 x285000_1, .string (⟨#[]⟩ : ByteArray), .int .i64 0, .slice none 0 0]) ?_ 1 _ rfl; (with_reducible repeat (first | refine blk_drewN ?_ _ | refine blk_drew ?_ | refine blk_alloc ?_ _)); exact BK284.out⟩, ⟨hbA HB.out⟩⟩
       rw [if_neg c36] at H
       exact absurd H (by simp)
     replace c35 := Bool.eq_false_iff.mpr c35
     subst c35
     have H1 : (tallboyref27_Parse.j2 kj24 a0 t281 1 x285000_1 (⟨#[]⟩ : ByteArray) 0) = some (r1, r2, r3, r4, r5) := by rw [if_neg (show ¬ (false = true) by decide)] at H; exact H
     clear H
     have H := H1
     clear H1
     have H' := Aside0.mk H
     clear H
     go_wp2
     go_meet
     case rel => exact ⟨_, (1), ((⟨#[]⟩ : ByteArray)), rsA, H', ⟨by have := HK1.out; have := HJ24.out; first | omega | exact Nat.le_refl _⟩, ⟨rdA HO_4.out⟩, ⟨rbA BK280.out⟩, ⟨rbA BK284.out⟩, ⟨hbA HB.out⟩⟩
    clear HC34
    (try clear c1); (try clear c2); (try clear c2b0); (try clear c2b1); (try clear p2); (try clear q2); (try clear hx2); (try clear qi2); (try clear c3); (try clear c5); (try clear p6); (try clear c9); (try clear c11); (try clear c11b0); (try clear c13); (try clear c13b0); (try clear c13b1); (try clear c14); (try clear c14b0); (try clear c14b1); (try clear c17); (try clear c21); (try clear c21b0); (try clear c21b1); (try clear c22); (try clear c24); (try clear c26); (try clear c28); (try clear c28b0); (try clear c28b1); (try clear p28); (try clear q28); (try clear hx28); (try clear qi28); (try clear c29); (try clear c31); (try clear c33); (try clear c35); (try clear c36); (try clear c36b0); (try clear c36b1); (try clear c38); (try clear hcz10_0 hcz10_1 hcz10_2 hcz10_3); (try clear hcz18_0 hcz18_1 hcz18_2 hcz18_3); (try clear hcz23_0 hcz23_1 hcz23_2 hcz23_3); (try clear hcz24_0 hcz24_1 hcz24_2 hcz24_3); (try clear hcz27_0 hcz27_1 hcz27_2 hcz27_3); (try clear hcz30_0 hcz30_1 hcz30_2 hcz30_3); (try clear hcz32_0 hcz32_1 hcz32_2 hcz32_3); (try clear hcz39_0 hcz39_1 hcz39_2 hcz39_3); (try clear hcz4_0 hcz4_1 hcz4_2 hcz4_3); (try clear hfz10_0 hfz10_1 hfz10_2 hfz10_3); (try clear hfz18_0 hfz18_1 hfz18_2 hfz18_3); (try clear hfz23_0 hfz23_1 hfz23_2 hfz23_3); (try clear hfz24_0 hfz24_1 hfz24_2 hfz24_3); (try clear hfz27_0 hfz27_1 hfz27_2 hfz27_3); (try clear hfz30_0 hfz30_1 hfz30_2 hfz30_3); (try clear hfz32_0 hfz32_1 hfz32_2 hfz32_3); (try clear hfz39_0 hfz39_1 hfz39_2 hfz39_3); (try clear hfz4_0 hfz4_1 hfz4_2 hfz4_3); (try clear hx286_0); (try clear hx287_0); (try clear p2); (try clear p28); (try clear p286); (try clear p287); (try clear p6); (try clear q2); (try clear q28); (try clear q286); (try clear q287)
    obtain ⟨kq, x7_33, x285001_33, rfl, HA, HJ33, HO_4, BK280, BK284, HB⟩ := hcut
    cases kq with
    | zero => exact absurd HA.out (by simp [tallboyref27_Parse.j2])
    | succ kj33 =>
     have H := HA.out
     clear HA
     simp only [tallboyref27_Parse.j2] at H
     have HC40 := Aside0.mk H
     clear H
     go_upto_region 16 with (fail)
     go_cut [59] (fun v59 wc => ∃ (kq : Nat) (x59_39 : Bool), v59 = .bool x59_39 ∧ Aside0 (tallboyref27_Parse.j3 kq a0 t281 x7_33 x59_39 x285000_1 x285001_33 0 = some (r1, r2, r3, r4, r5)) ∧ Aside0 (kq ≤ kj33) ∧ Aside0 (Kd.R Kd.string 9 wc w.heap.size (fun _ => True) v282 t281) ∧ Aside0 (wc.heap[gb280]? = some (.cells #[.int .i64 0, .string (⟨#[]⟩ : ByteArray), .int .i64 0, (.slice none 0 0)] 24 (0, 0))) ∧ Aside0 (wc.heap[gb284]? = some (.cells #[.int .i64 x285000_1, .string x285001_33, .int .i64 0, (.slice none 0 0)] 24 (0, 0))) ∧ Aside0 (Below w.heap.size w wc))
     case first =>
      have H := HC40.out
      clear HC40
      by_cases c41 : x285000_1 = 2
      · rw [if_pos c41] at H
        have c41b0 : (x285000_1 == 2) = true := beq_iff_eq.mpr c41
        have c41b1 : (x285000_1 != 2) = false := bne_eq_false_iff_eq.mpr c41
        clear c41
        (first | rw [c41b0] | (simp only [i64_w, i32_w]; rw [c41b0]) | skip)
        have H' := Aside0.mk H
        clear H
        have hnb42 := NB284_280.out
        have hnc42 := NB280_284.out
        obtain ⟨hcz43_0, hcz43_1, hcz43_2, hcz43_3, hfz43_0, hfz43_1, hfz43_2, hfz43_3⟩ := blkA4 BK284.out
        obtain ⟨Ao44, co44, eo44⟩ := Kd.R_slice HO_4.out
        subst eo44
        go_wp2
        go_meet
        case rel => exact ⟨_, (decide ((t281.length : Int) > 2)), rsA, H', ⟨by have := HK1.out; have := HJ24.out; have := HJ33.out; first | omega | exact Nat.le_refl _⟩, ⟨rdA HO_4.out⟩, ⟨rbA BK280.out⟩, ⟨rbA BK284.out⟩, ⟨hbA HB.out⟩⟩
      rw [if_neg c41] at H
      have c41b0 : (x285000_1 == 2) = false := beq_eq_false_iff_ne.mpr c41
      have c41b1 : (x285000_1 != 2) = true := bne_iff_ne.mpr c41
      (first | rw [c41b0] | (simp only [i64_w, i32_w]; rw [c41b0]) | skip)
      have H' := Aside0.mk H
      clear H
      have hnb45 := NB284_280.out
      have hnc45 := NB280_284.out
      obtain ⟨hcz46_0, hcz46_1, hcz46_2, hcz46_3, hfz46_0, hfz46_1, hfz46_2, hfz46_3⟩ := blkA4 BK284.out
      go_wp2
      go_meet
      case rel => exact ⟨_, (false), rsA, H', ⟨by have := HK1.out; have := HJ24.out; have := HJ33.out; first | omega | exact Nat.le_refl _⟩, ⟨rdA HO_4.out⟩, ⟨rbA BK280.out⟩, ⟨rbA BK284.out⟩, ⟨hbA HB.out⟩⟩
     clear HC40
     (try clear c1); (try clear c2); (try clear c2b0); (try clear c2b1); (try clear p2); (try clear q2); (try clear hx2); (try clear qi2); (try clear c3); (try clear c4); (try clear c5); (try clear p6); (try clear c9); (try clear c11); (try clear c11b0); (try clear c13); (try clear c13b0); (try clear c13b1); (try clear c14); (try clear c14b0); (try clear c14b1); (try clear c17); (try clear c21); (try clear c21b0); (try clear c21b1); (try clear c22); (try clear c24); (try clear c26); (try clear c28); (try clear c28b0); (try clear c28b1); (try clear p28); (try clear q28); (try clear hx28); (try clear qi28); (try clear c29); (try clear c31); (try clear c33); (try clear c35); (try clear c36); (try clear c36b0); (try clear c36b1); (try clear c38); (try clear c41); (try clear c41b0); (try clear c41b1); (try clear c42); (try clear c45); (try clear hcz10_0 hcz10_1 hcz10_2 hcz10_3); (try clear hcz18_0 hcz18_1 hcz18_2 hcz18_3); (try clear hcz23_0 hcz23_1 hcz23_2 hcz23_3); (try clear hcz24_0 hcz24_1 hcz24_2 hcz24_3); (try clear hcz27_0 hcz27_1 hcz27_2 hcz27_3); (try clear hcz30_0 hcz30_1 hcz30_2 hcz30_3); (try clear hcz32_0 hcz32_1 hcz32_2 hcz32_3); (try clear hcz39_0 hcz39_1 hcz39_2 hcz39_3); (try clear hcz43_0 hcz43_1 hcz43_2 hcz43_3); (try clear hcz46_0 hcz46_1 hcz46_2 hcz46_3); (try clear hcz4_0 hcz4_1 hcz4_2 hcz4_3); (try clear hfz10_0 hfz10_1 hfz10_2 hfz10_3); (try clear hfz18_0 hfz18_1 hfz18_2 hfz18_3); (try clear hfz23_0 hfz23_1 hfz23_2 hfz23_3); (try clear hfz24_0 hfz24_1 hfz24_2 hfz24_3); (try clear hfz27_0 hfz27_1 hfz27_2 hfz27_3); (try clear hfz30_0 hfz30_1 hfz30_2 hfz30_3); (try clear hfz32_0 hfz32_1 hfz32_2 hfz32_3); (try clear hfz39_0 hfz39_1 hfz39_2 hfz39_3); (try clear hfz43_0 hfz43_1 hfz43_2 hfz43_3); (try clear hfz46_0 hfz46_1 hfz46_2 hfz46_3); (try clear hfz4_0 hfz4_1 hfz4_2 hfz4_3); (try clear hx286_0); (try clear hx287_0); (try clear p2); (try clear p28); (try clear p286); (try clear p287); (try clear p6); (try clear q2); (try clear q28); (try clear q286); (try clear q287)
     obtain ⟨kq, x59_39, rfl, HA, HJ39, HO_4, BK280, BK284, HB⟩ := hcut
     cases kq with
     | zero => exact absurd HA.out (by simp [tallboyref27_Parse.j3])
     | succ kj39 =>
      have H := HA.out
      clear HA
      simp only [tallboyref27_Parse.j3] at H
      have HC47 := Aside0.mk H
      clear H
      go_upto_if 59 with (fail)
      go_cut [7] (fun v7 wc => ∃ (kq : Nat) (x7_46 : Int) (x281000_46 : Int) (x281001_46 : ByteArray) (x281002_46 : Int) (x285002_46 : Int), v7 = .int .i64 x7_46 ∧ Aside0 (tallboyref27_Parse.j4 kq a0 t281 x7_46 x285000_1 x285001_33 x285002_46 = some (r1, r2, r3, r4, r5)) ∧ Aside0 (kq ≤ kj39) ∧ Aside0 (Kd.R Kd.string 9 wc w.heap.size (fun _ => True) v282 t281) ∧ Aside0 (wc.heap[gb280]? = some (.cells #[.int .i64 x281000_46, .string x281001_46, .int .i64 x281002_46, (.slice none 0 0)] 24 (0, 0))) ∧ Aside0 (wc.heap[gb284]? = some (.cells #[.int .i64 x285000_1, .string x285001_33, .int .i64 x285002_46, (.slice none 0 0)] 24 (0, 0))) ∧ Aside0 (Below w.heap.size w wc))
      case first =>
       have H := HC47.out
       clear HC47
       by_cases c48 : x59_39 = true
       · subst c48
         have H1 : (if 2 < (t281.length : Int) then ((tallboyref02_Parse.f kj39 (rdOf ByteArray.empty t281 2)).bind fun bt289 => (if bt289.2 = 0 then (if bt289.1 > 2147483647 then (some (0, (⟨#[]⟩ : ByteArray), 0, ([] : List (S59)), 6)) else (tallboyref27_Parse.j4 kj39 a0 t281 3 x285000_1 x285001_33 (wrap64 (bt289.1)))) else (some (0, (⟨#[]⟩ : ByteArray), 0, ([] : List (S59)), 6)))) else (none)) = some (r1, r2, r3, r4, r5) := by rw [if_pos rfl] at H; exact H
         clear H
         have H := H1
         clear H1
         by_cases c49 : 2 < (t281.length : Int)
         · rw [if_pos c49] at H
           have c49b0 : decide (2 < (t281.length : Int)) = true := decide_eq_true c49
           have c49b1 : decide (2 < t281.length) = true := decide_eq_true (by omega)
           clear c49
           (first | rw [c49b0] | (simp only [i64_w, i32_w]; rw [c49b0]) | skip)
           replace H := Option.bind_eq_some_iff.mp H
           obtain ⟨⟨t289, t290⟩, A500, H⟩ := H
           replace H : (if t290 = 0 then (if t289 > 2147483647 then (some (0, (⟨#[]⟩ : ByteArray), 0, ([] : List (S59)), 6)) else (tallboyref27_Parse.j4 kj39 a0 t281 3 x285000_1 x285001_33 (wrap64 (t289)))) else (some (0, (⟨#[]⟩ : ByteArray), 0, ([] : List (S59)), 6))) = some (r1, r2, r3, r4, r5) := H
           have A50 := Aside0.mk A500
           clear A500
           by_cases c51 : t290 = 0
           · rw [if_pos c51] at H
             have c51b0 : (t290 == 0) = true := beq_iff_eq.mpr c51
             have c51b1 : (t290 != 0) = false := bne_eq_false_iff_eq.mpr c51
             clear c51
             by_cases c52 : t289 > 2147483647
             · rw [if_pos c52] at H
               have c52b0 : decide (2147483647 < t289) = true := decide_eq_true c52
               clear c52
               simp only [Option.some.injEq, Prod.mk.injEq] at H
               obtain ⟨rfl, rfl, rfl, rfl, rfl⟩ := H
               obtain ⟨Ao53, co53, eo53⟩ := Kd.R_slice HO_4.out
               subst eo53
               have p288 : 0 ≤ (2 : Int) := (by omega)
               have q288 : 2 < (t281.length : Int) := of_decide_eq_true asA
               obtain ⟨ad288, e288, hx288_0⟩ := Kd.at_string (Kd.R_reads' HO_4.out).2.2 2 p288 q288
               cases e288
               (try simp only [show (2 : Int).toNat = 2 from rfl, Nat.reduceMul, Nat.reduceEqDiff, Go.Addr.add, ↓reduceIte] at hx288_0)
               have qi288 : (2 < t281.length) = True := eq_true (by omega)
               (try rw [show ((2 : Int)).toNat = 2 from rfl] at hx288_0)
               replace p288 := eq_true p288
               replace q288 := eq_true q288
               go_wp2_with (first | ((with_reducible refine gate_callee (f := 41) rfl ?_); refine goesL_ (some 64) rfl rfl Tryz.func41 (by kernel_rfl) rfl #[.string (rdOf ByteArray.empty t281 2)] rfl argA ?_; (with_reducible refine (tallboyref02_Parse.calls kj39 (rdOf ByteArray.empty t281 2) t289 t290 _ A50.out).mono ?_); rintro e w' ⟨rfl, ⟨nd, rfl⟩⟩; refine ⟨_, rfl, ?_⟩; (try (rw [drewN_self wc]; generalize hq_ : World.drewN wc _ = wc; have n0_ : Aside0 (Kd.R Kd.string 9 wc w.heap.size (fun _ => True) (.slice (some ad288) t281.length co53) t281) := ⟨by rw [← hq_]; exact (rdA HO_4.out)⟩; have n1_ : Aside0 (wc.heap[gb280]? = some (.cells #[.int .i64 0, .string (⟨#[]⟩ : ByteArray), .int .i64 0, .slice none 0 0] 24 (0, 0))) := ⟨by rw [← hq_]; exact (rbA BK280.out)⟩; have n2_ : Aside0 (wc.heap[gb284]? = some (.cells #[.int .i64 x285000_1, .string x285001_33, .int .i64 0, .slice none 0 0] 24 (0, 0))) := ⟨by rw [← hq_]; exact (rbA BK284.out)⟩; have n3_ : Aside0 (Below w.heap.size w wc) := ⟨by rw [← hq_]; exact (hbA HB.out)⟩; clear HO_4 BK280 BK284 HB hq_; have HO_4 := n0_; have BK280 := n1_; have BK284 := n2_; have HB := n3_; clear n0_ n1_ n2_ n3_)); have hnb54 := NB280_284.out; have hnc54 := NB284_280.out; obtain ⟨hcz55_0, hcz55_1, hcz55_2, hcz55_3, hfz55_0, hfz55_1, hfz55_2, hfz55_3⟩ := blkA4 BK280.out))
               refine bodyPost_ret (results_ct rfl _ _ gb280 24 #[.int .i64 0, .string (⟨#[]⟩ : ByteArray), .int .i64 0, .slice none 0 0] (0, 0) _ rfl (by (with_reducible repeat (first | refine blk_drewN ?_ _ | refine blk_drew ?_ | refine blk_alloc ?_ _)); refine blk_put (cs := #[.int .i64 0, .string (⟨#[]⟩ : ByteArray), .int .i64 0, .slice none 0 0]) ?_ 3 _ rfl; (with_reducible repeat (first | refine blk_drewN ?_ _ | refine blk_drew ?_ | refine blk_alloc ?_ _)); refine blk_put (cs := #[.int .i64 0, .string (⟨#[]⟩ : ByteArray), .int .i64 0, .slice none 0 0]) ?_ 2 _ rfl; (with_reducible repeat (first | refine blk_drewN ?_ _ | refine blk_drew ?_ | refine blk_alloc ?_ _)); refine blk_put (cs := #[.int .i64 0, .string (⟨#[]⟩ : ByteArray), .int .i64 0, .slice none 0 0]) ?_ 1 _ rfl; (with_reducible repeat (first | refine blk_drewN ?_ _ | refine blk_drew ?_ | refine blk_alloc ?_ _)); refine blk_put (cs := #[.int .i64 0, .string (⟨#[]⟩ : ByteArray), .int .i64 0, .slice none 0 0]) ?_ 0 _ rfl; exact rbA BK280.out) Tryz.underlying24 rfl (by kernel_rfl)) rfl ?_
               exact ⟨_, reA, knA, hbA HB.out⟩
             rw [if_neg c52] at H
             have c52b0 : decide (2147483647 < t289) = false := decide_eq_false c52
             clear c52
             have H' := Aside0.mk H
             clear H
             obtain ⟨Ao56, co56, eo56⟩ := Kd.R_slice HO_4.out
             subst eo56
             have p288 : 0 ≤ (2 : Int) := (by omega)
             have q288 : 2 < (t281.length : Int) := of_decide_eq_true asA
             obtain ⟨ad288, e288, hx288_0⟩ := Kd.at_string (Kd.R_reads' HO_4.out).2.2 2 p288 q288
             cases e288
             (try simp only [show (2 : Int).toNat = 2 from rfl, Nat.reduceMul, Nat.reduceEqDiff, Go.Addr.add, ↓reduceIte] at hx288_0)
             have qi288 : (2 < t281.length) = True := eq_true (by omega)
             (try rw [show ((2 : Int)).toNat = 2 from rfl] at hx288_0)
             replace p288 := eq_true p288
             replace q288 := eq_true q288
             go_wp2_with (first | ((with_reducible refine gate_callee (f := 41) rfl ?_); refine goesL_ (some 64) rfl rfl Tryz.func41 (by kernel_rfl) rfl #[.string (rdOf ByteArray.empty t281 2)] rfl argA ?_; (with_reducible refine (tallboyref02_Parse.calls kj39 (rdOf ByteArray.empty t281 2) t289 t290 _ A50.out).mono ?_); rintro e w' ⟨rfl, ⟨nd, rfl⟩⟩; refine ⟨_, rfl, ?_⟩; (try (rw [drewN_self wc]; generalize hq_ : World.drewN wc _ = wc; have n0_ : Aside0 (Kd.R Kd.string 9 wc w.heap.size (fun _ => True) (.slice (some ad288) t281.length co56) t281) := ⟨by rw [← hq_]; exact (rdA HO_4.out)⟩; have n1_ : Aside0 (wc.heap[gb280]? = some (.cells #[.int .i64 0, .string (⟨#[]⟩ : ByteArray), .int .i64 0, .slice none 0 0] 24 (0, 0))) := ⟨by rw [← hq_]; exact (rbA BK280.out)⟩; have n2_ : Aside0 (wc.heap[gb284]? = some (.cells #[.int .i64 x285000_1, .string x285001_33, .int .i64 0, .slice none 0 0] 24 (0, 0))) := ⟨by rw [← hq_]; exact (rbA BK284.out)⟩; have n3_ : Aside0 (Below w.heap.size w wc) := ⟨by rw [← hq_]; exact (hbA HB.out)⟩; clear HO_4 BK280 BK284 HB hq_; have HO_4 := n0_; have BK280 := n1_; have BK284 := n2_; have HB := n3_; clear n0_ n1_ n2_ n3_)); have hnb57 := NB284_280.out; have hnc57 := NB280_284.out; obtain ⟨hcz58_0, hcz58_1, hcz58_2, hcz58_3, hfz58_0, hfz58_1, hfz58_2, hfz58_3⟩ := blkA4 BK284.out))
             go_meet
             case rel => exact ⟨_, (3), (0), ((⟨#[]⟩ : ByteArray)), (0), (wrap64 (t289)), rsA, H', ⟨by have := HK1.out; have := HJ24.out; have := HJ33.out; have := HJ39.out; first | omega | exact Nat.le_refl _⟩, ⟨by (with_reducible repeat (first | apply Kd.R_alloc | apply Kd.R_drewN | apply Kd.R_drew)); exact Kd.R_mono (Kd.R_far (p := ⟨gb284, 2, none⟩) (Kd.R_types HO_4.out BK284.out (by decide)) (fun _ hk => hk.2) (.int .i64 (wrap64 (t289)))) (fun _ hk => trivial)⟩, ⟨by (with_reducible repeat (first | refine blk_drewN ?_ _ | refine blk_drew ?_ | refine blk_alloc ?_ _)); refine blk_far ?_ NB280_284.out _; (with_reducible repeat (first | refine blk_drewN ?_ _ | refine blk_drew ?_ | refine blk_alloc ?_ _)); exact BK280.out⟩, ⟨by (with_reducible repeat (first | refine blk_drewN ?_ _ | refine blk_drew ?_ | refine blk_alloc ?_ _)); refine blk_put (cs := #[.int .i64 x285000_1, .string x285001_33, .int .i64 0, .slice none 0 0]) ?_ 2 _ rfl; (with_reducible repeat (first | refine blk_drewN ?_ _ | refine blk_drew ?_ | refine blk_alloc ?_ _)); exact BK284.out⟩, ⟨hbA HB.out⟩⟩
           rw [if_neg c51] at H
           have c51b0 : (t290 == 0) = false := beq_eq_false_iff_ne.mpr c51
           have c51b1 : (t290 != 0) = true := bne_iff_ne.mpr c51
           simp only [Option.some.injEq, Prod.mk.injEq] at H
           obtain ⟨rfl, rfl, rfl, rfl, rfl⟩ := H
           obtain ⟨Ao59, co59, eo59⟩ := Kd.R_slice HO_4.out
           subst eo59
           have p288 : 0 ≤ (2 : Int) := (by omega)
           have q288 : 2 < (t281.length : Int) := of_decide_eq_true asA
           obtain ⟨ad288, e288, hx288_0⟩ := Kd.at_string (Kd.R_reads' HO_4.out).2.2 2 p288 q288
           cases e288
           (try simp only [show (2 : Int).toNat = 2 from rfl, Nat.reduceMul, Nat.reduceEqDiff, Go.Addr.add, ↓reduceIte] at hx288_0)
           have qi288 : (2 < t281.length) = True := eq_true (by omega)
           (try rw [show ((2 : Int)).toNat = 2 from rfl] at hx288_0)
           replace p288 := eq_true p288
           replace q288 := eq_true q288
           go_wp2_with (first | ((with_reducible refine gate_callee (f := 41) rfl ?_); refine goesL_ (some 64) rfl rfl Tryz.func41 (by kernel_rfl) rfl #[.string (rdOf ByteArray.empty t281 2)] rfl argA ?_; (with_reducible refine (tallboyref02_Parse.calls kj39 (rdOf ByteArray.empty t281 2) t289 t290 _ A50.out).mono ?_); rintro e w' ⟨rfl, ⟨nd, rfl⟩⟩; refine ⟨_, rfl, ?_⟩; (try (rw [drewN_self wc]; generalize hq_ : World.drewN wc _ = wc; have n0_ : Aside0 (Kd.R Kd.string 9 wc w.heap.size (fun _ => True) (.slice (some ad288) t281.length co59) t281) := ⟨by rw [← hq_]; exact (rdA HO_4.out)⟩; have n1_ : Aside0 (wc.heap[gb280]? = some (.cells #[.int .i64 0, .string (⟨#[]⟩ : ByteArray), .int .i64 0, .slice none 0 0] 24 (0, 0))) := ⟨by rw [← hq_]; exact (rbA BK280.out)⟩; have n2_ : Aside0 (wc.heap[gb284]? = some (.cells #[.int .i64 x285000_1, .string x285001_33, .int .i64 0, .slice none 0 0] 24 (0, 0))) := ⟨by rw [← hq_]; exact (rbA BK284.out)⟩; have n3_ : Aside0 (Below w.heap.size w wc) := ⟨by rw [← hq_]; exact (hbA HB.out)⟩; clear HO_4 BK280 BK284 HB hq_; have HO_4 := n0_; have BK280 := n1_; have BK284 := n2_; have HB := n3_; clear n0_ n1_ n2_ n3_)); have hnb60 := NB280_284.out; have hnc60 := NB284_280.out; obtain ⟨hcz61_0, hcz61_1, hcz61_2, hcz61_3, hfz61_0, hfz61_1, hfz61_2, hfz61_3⟩ := blkA4 BK280.out))
           refine bodyPost_ret (results_ct rfl _ _ gb280 24 #[.int .i64 0, .string (⟨#[]⟩ : ByteArray), .int .i64 0, .slice none 0 0] (0, 0) _ rfl (by (with_reducible repeat (first | refine blk_drewN ?_ _ | refine blk_drew ?_ | refine blk_alloc ?_ _)); refine blk_put (cs := #[.int .i64 0, .string (⟨#[]⟩ : ByteArray), .int .i64 0, .slice none 0 0]) ?_ 3 _ rfl; (with_reducible repeat (first | refine blk_drewN ?_ _ | refine blk_drew ?_ | refine blk_alloc ?_ _)); refine blk_put (cs := #[.int .i64 0, .string (⟨#[]⟩ : ByteArray), .int .i64 0, .slice none 0 0]) ?_ 2 _ rfl; (with_reducible repeat (first | refine blk_drewN ?_ _ | refine blk_drew ?_ | refine blk_alloc ?_ _)); refine blk_put (cs := #[.int .i64 0, .string (⟨#[]⟩ : ByteArray), .int .i64 0, .slice none 0 0]) ?_ 1 _ rfl; (with_reducible repeat (first | refine blk_drewN ?_ _ | refine blk_drew ?_ | refine blk_alloc ?_ _)); refine blk_put (cs := #[.int .i64 0, .string (⟨#[]⟩ : ByteArray), .int .i64 0, .slice none 0 0]) ?_ 0 _ rfl; exact rbA BK280.out) Tryz.underlying24 rfl (by kernel_rfl)) rfl ?_
           exact ⟨_, reA, knA, hbA HB.out⟩
         rw [if_neg c49] at H
         exact absurd H (by simp)
       replace c48 := Bool.eq_false_iff.mpr c48
       subst c48
       have H1 : (tallboyref27_Parse.j4 kj39 a0 t281 x7_33 x285000_1 x285001_33 0) = some (r1, r2, r3, r4, r5) := by rw [if_neg (show ¬ (false = true) by decide)] at H; exact H
       clear H
       have H := H1
       clear H1
       have H' := Aside0.mk H
       clear H
       go_wp2
       go_meet
       case rel => exact ⟨_, (x7_33), (0), ((⟨#[]⟩ : ByteArray)), (0), (0), rsA, H', ⟨by have := HK1.out; have := HJ24.out; have := HJ33.out; have := HJ39.out; first | omega | exact Nat.le_refl _⟩, ⟨rdA HO_4.out⟩, ⟨rbA BK280.out⟩, ⟨rbA BK284.out⟩, ⟨hbA HB.out⟩⟩
      clear HC47
      (try clear c1); (try clear c2); (try clear c2b0); (try clear c2b1); (try clear p2); (try clear q2); (try clear hx2); (try clear qi2); (try clear c3); (try clear c4); (try clear c5); (try clear c6); (try clear p6); (try clear c9); (try clear c11); (try clear c11b0); (try clear c13); (try clear c13b0); (try clear c13b1); (try clear c14); (try clear c14b0); (try clear c14b1); (try clear c17); (try clear c21); (try clear c21b0); (try clear c21b1); (try clear c22); (try clear c24); (try clear c26); (try clear c28); (try clear c28b0); (try clear c28b1); (try clear p28); (try clear q28); (try clear hx28); (try clear qi28); (try clear c29); (try clear c31); (try clear c33); (try clear c35); (try clear c36); (try clear c36b0); (try clear c36b1); (try clear c38); (try clear c41); (try clear c41b0); (try clear c41b1); (try clear c42); (try clear c45); (try clear c48); (try clear c49); (try clear c49b0); (try clear c49b1); (try clear c51); (try clear c51b0); (try clear c51b1); (try clear c52); (try clear c52b0); (try clear c54); (try clear c57); (try clear c60); (try clear hcz10_0 hcz10_1 hcz10_2 hcz10_3); (try clear hcz18_0 hcz18_1 hcz18_2 hcz18_3); (try clear hcz23_0 hcz23_1 hcz23_2 hcz23_3); (try clear hcz24_0 hcz24_1 hcz24_2 hcz24_3); (try clear hcz27_0 hcz27_1 hcz27_2 hcz27_3); (try clear hcz30_0 hcz30_1 hcz30_2 hcz30_3); (try clear hcz32_0 hcz32_1 hcz32_2 hcz32_3); (try clear hcz39_0 hcz39_1 hcz39_2 hcz39_3); (try clear hcz43_0 hcz43_1 hcz43_2 hcz43_3); (try clear hcz46_0 hcz46_1 hcz46_2 hcz46_3); (try clear hcz4_0 hcz4_1 hcz4_2 hcz4_3); (try clear hcz55_0 hcz55_1 hcz55_2 hcz55_3); (try clear hcz58_0 hcz58_1 hcz58_2 hcz58_3); (try clear hcz61_0 hcz61_1 hcz61_2 hcz61_3); (try clear hfz10_0 hfz10_1 hfz10_2 hfz10_3); (try clear hfz18_0 hfz18_1 hfz18_2 hfz18_3); (try clear hfz23_0 hfz23_1 hfz23_2 hfz23_3); (try clear hfz24_0 hfz24_1 hfz24_2 hfz24_3); (try clear hfz27_0 hfz27_1 hfz27_2 hfz27_3); (try clear hfz30_0 hfz30_1 hfz30_2 hfz30_3); (try clear hfz32_0 hfz32_1 hfz32_2 hfz32_3); (try clear hfz39_0 hfz39_1 hfz39_2 hfz39_3); (try clear hfz43_0 hfz43_1 hfz43_2 hfz43_3); (try clear hfz46_0 hfz46_1 hfz46_2 hfz46_3); (try clear hfz4_0 hfz4_1 hfz4_2 hfz4_3); (try clear hfz55_0 hfz55_1 hfz55_2 hfz55_3); (try clear hfz58_0 hfz58_1 hfz58_2 hfz58_3); (try clear hfz61_0 hfz61_1 hfz61_2 hfz61_3); (try clear hx286_0); (try clear hx287_0); (try clear hx288_0); (try clear p2); (try clear p28); (try clear p286); (try clear p287); (try clear p288); (try clear p6); (try clear q2); (try clear q28); (try clear q286); (try clear q287); (try clear q288)
      obtain ⟨kq, x7_46, x281000_46, x281001_46, x281002_46, x285002_46, rfl, HA, HJ46, HO_4, BK280, BK284, HB⟩ := hcut
      cases kq with
      | zero => exact absurd HA.out (by simp [tallboyref27_Parse.j4])
      | succ kj46 =>
       have H := HA.out
       clear HA
       simp only [tallboyref27_Parse.j4] at H
       have H' := Aside0.mk H
       clear H
       go_wp2
       go_loopg [10] kj46 (fun kq v10 w' => ∃ (x10_6 : Int) (x281000_6 : Int) (x281001_6 : ByteArray) (x281002_6 : Int) (x285003_6 : List (S59)) (u285003 : Value), v10 = .int .i64 x10_6 ∧ Aside0 (tallboyref27_Parse.l1 kq a0 t281 x10_6 x285000_1 x285001_33 x285002_46 x285003_6 = some (r1, r2, r3, r4, r5)) ∧ Aside0 (kq ≤ kj46) ∧ Aside0 (Kd.R Kd.string 9 w' w.heap.size (fun _ => True) v282 t281) ∧ Aside0 (Kd.R k59 59 w' w.heap.size (fun _ => True) u285003 x285003_6) ∧ Aside0 (w'.heap[gb280]? = some (.cells #[.int .i64 x281000_6, .string x281001_6, .int .i64 x281002_6, (.slice none 0 0)] 24 (0, 0))) ∧ Aside0 (w'.heap[gb284]? = some (.cells #[.int .i64 x285000_1, .string x285001_33, .int .i64 x285002_46, u285003] 24 (0, 0))) ∧ Aside0 (Below w.heap.size w w'))
       case atStart => exact ⟨(x7_46), (x281000_46), (x281001_46), (x281002_46), (([] : List (S59))), (.slice none 0 0), rsA, H', ⟨Nat.le_refl _⟩, ⟨rdA HO_4.out⟩, ⟨knA⟩, ⟨rbA BK280.out⟩, ⟨rbA BK284.out⟩, ⟨hbA HB.out⟩⟩
       case round =>
        clear H'
        (try clear c1); (try clear c2); (try clear c2b0); (try clear c2b1); (try clear p2); (try clear q2); (try clear hx2); (try clear qi2); (try clear c3); (try clear c4); (try clear c5); (try clear c6); (try clear p6); (try clear c9); (try clear c11); (try clear c11b0); (try clear c13); (try clear c13b0); (try clear c13b1); (try clear c14); (try clear c14b0); (try clear c14b1); (try clear c17); (try clear c21); (try clear c21b0); (try clear c21b1); (try clear c22); (try clear c24); (try clear c26); (try clear c28); (try clear c28b0); (try clear c28b1); (try clear p28); (try clear q28); (try clear hx28); (try clear qi28); (try clear c29); (try clear c31); (try clear c33); (try clear c35); (try clear c36); (try clear c36b0); (try clear c36b1); (try clear c38); (try clear c41); (try clear c41b0); (try clear c41b1); (try clear c42); (try clear c45); (try clear c48); (try clear c49); (try clear c49b0); (try clear c49b1); (try clear c51); (try clear c51b0); (try clear c51b1); (try clear c52); (try clear c52b0); (try clear c54); (try clear c57); (try clear c60); (try clear hcz10_0 hcz10_1 hcz10_2 hcz10_3); (try clear hcz18_0 hcz18_1 hcz18_2 hcz18_3); (try clear hcz23_0 hcz23_1 hcz23_2 hcz23_3); (try clear hcz24_0 hcz24_1 hcz24_2 hcz24_3); (try clear hcz27_0 hcz27_1 hcz27_2 hcz27_3); (try clear hcz30_0 hcz30_1 hcz30_2 hcz30_3); (try clear hcz32_0 hcz32_1 hcz32_2 hcz32_3); (try clear hcz39_0 hcz39_1 hcz39_2 hcz39_3); (try clear hcz43_0 hcz43_1 hcz43_2 hcz43_3); (try clear hcz46_0 hcz46_1 hcz46_2 hcz46_3); (try clear hcz4_0 hcz4_1 hcz4_2 hcz4_3); (try clear hcz55_0 hcz55_1 hcz55_2 hcz55_3); (try clear hcz58_0 hcz58_1 hcz58_2 hcz58_3); (try clear hcz61_0 hcz61_1 hcz61_2 hcz61_3); (try clear hfz10_0 hfz10_1 hfz10_2 hfz10_3); (try clear hfz18_0 hfz18_1 hfz18_2 hfz18_3); (try clear hfz23_0 hfz23_1 hfz23_2 hfz23_3); (try clear hfz24_0 hfz24_1 hfz24_2 hfz24_3); (try clear hfz27_0 hfz27_1 hfz27_2 hfz27_3); (try clear hfz30_0 hfz30_1 hfz30_2 hfz30_3); (try clear hfz32_0 hfz32_1 hfz32_2 hfz32_3); (try clear hfz39_0 hfz39_1 hfz39_2 hfz39_3); (try clear hfz43_0 hfz43_1 hfz43_2 hfz43_3); (try clear hfz46_0 hfz46_1 hfz46_2 hfz46_3); (try clear hfz4_0 hfz4_1 hfz4_2 hfz4_3); (try clear hfz55_0 hfz55_1 hfz55_2 hfz55_3); (try clear hfz58_0 hfz58_1 hfz58_2 hfz58_3); (try clear hfz61_0 hfz61_1 hfz61_2 hfz61_3); (try clear hx286_0); (try clear hx287_0); (try clear hx288_0); (try clear p2); (try clear p28); (try clear p286); (try clear p287); (try clear p288); (try clear p6); (try clear q2); (try clear q28); (try clear q286); (try clear q287); (try clear q288)
        obtain ⟨x10_6, x281000_6, x281001_6, x281002_6, x285003_6, u285003, rfl, HA, HK6, HO_4, HO_285003, BK280, BK284, HB⟩ := hrel
        cases gk with
        | zero => exact absurd HA.out (by simp [tallboyref27_Parse.l1])
        | succ k6 =>
         have H := HA.out
         clear HA
         simp only [tallboyref27_Parse.l1] at H
         by_cases c62 : x10_6 < (t281.length : Int)
         · rw [if_pos c62] at H
           have c62b0 : decide (x10_6 < (t281.length : Int)) = true := decide_eq_true c62
           clear c62
           by_cases c63 : 0 ≤ x10_6
           · rw [if_pos c63] at H
             have c63b0 : decide (0 ≤ x10_6) = true := decide_eq_true c63
             clear c63
             by_cases c64 : (rdOf ByteArray.empty t281 x10_6).toList = ([] : List UInt8)
             · rw [if_pos c64] at H
               have c64b0 : ((rdOf ByteArray.empty t281 x10_6).toList == ([] : List UInt8)) = true := beq_iff_eq.mpr c64
               have c64e0 : (rdOf ByteArray.empty t281 x10_6).toList.isEmpty = true := by simpa using c64b0
               have c64b1 : ((rdOf ByteArray.empty t281 x10_6).toList != ([] : List UInt8)) = false := bne_eq_false_iff_eq.mpr c64
               clear c64
               simp only [Option.some.injEq, Prod.mk.injEq] at H
               obtain ⟨rfl, rfl, rfl, rfl, rfl⟩ := H
               obtain ⟨Ao65, co65, eo65⟩ := Kd.R_slice HO_4.out
               subst eo65
               have p291 : 0 ≤ (x10_6 : Int) := of_decide_eq_true asA
               have q291 : x10_6 < (t281.length : Int) := of_decide_eq_true asA
               obtain ⟨ad291, e291, hx291_0⟩ := Kd.at_string (Kd.R_reads' HO_4.out).2.2 x10_6 p291 q291
               cases e291
               replace p291 := eq_true p291
               replace q291 := eq_true q291
               have hnb66 := NB280_284.out
               have hnc66 := NB284_280.out
               obtain ⟨hcz67_0, hcz67_1, hcz67_2, hcz67_3, hfz67_0, hfz67_1, hfz67_2, hfz67_3⟩ := blkA4 BK280.out
               go_wp2
               refine bodyPost_ret (results_ct rfl _ _ gb280 24 #[.int .i64 0, .string (⟨#[]⟩ : ByteArray), .int .i64 0, .slice none 0 0] (0, 0) _ rfl (by (with_reducible repeat (first | refine blk_drewN ?_ _ | refine blk_drew ?_ | refine blk_alloc ?_ _)); refine blk_put (cs := #[.int .i64 0, .string (⟨#[]⟩ : ByteArray), .int .i64 0, .slice none 0 0]) ?_ 3 _ rfl; (with_reducible repeat (first | refine blk_drewN ?_ _ | refine blk_drew ?_ | refine blk_alloc ?_ _)); refine blk_put (cs := #[.int .i64 0, .string (⟨#[]⟩ : ByteArray), .int .i64 x281002_6, .slice none 0 0]) ?_ 2 _ rfl; (with_reducible repeat (first | refine blk_drewN ?_ _ | refine blk_drew ?_ | refine blk_alloc ?_ _)); refine blk_put (cs := #[.int .i64 0, .string x281001_6, .int .i64 x281002_6, .slice none 0 0]) ?_ 1 _ rfl; (with_reducible repeat (first | refine blk_drewN ?_ _ | refine blk_drew ?_ | refine blk_alloc ?_ _)); refine blk_put (cs := #[.int .i64 x281000_6, .string x281001_6, .int .i64 x281002_6, .slice none 0 0]) ?_ 0 _ rfl; exact rbA BK280.out) Tryz.underlying24 rfl (by kernel_rfl)) rfl ?_
               exact ⟨_, reA, knA, hbA HB.out⟩
             rw [if_neg c64] at H
             have c64b0 : ((rdOf ByteArray.empty t281 x10_6).toList == ([] : List UInt8)) = false := beq_eq_false_iff_ne.mpr c64
             have c64e0 : (rdOf ByteArray.empty t281 x10_6).toList.isEmpty = false := by simpa using c64b0
             have c64b1 : ((rdOf ByteArray.empty t281 x10_6).toList != ([] : List UInt8)) = true := bne_iff_ne.mpr c64
             by_cases c68 : 0 < ((rdOf ByteArray.empty t281 x10_6).size : Int)
             · rw [if_pos c68] at H
               have c68b0 : decide (0 < ((rdOf ByteArray.empty t281 x10_6).size : Int)) = true := decide_eq_true c68
               have c68b1 : decide (0 < (rdOf ByteArray.empty t281 x10_6).size) = true := decide_eq_true (by omega)
               clear c68
               by_cases c70 : 1 ≤ ((rdOf ByteArray.empty t281 x10_6).size : Int)
               · rw [if_pos c70] at H
                 have c70b0 := eq_true c70
                 have c70b1 : decide (1 ≤ ((rdOf ByteArray.empty t281 x10_6).size : Int)) = true := decide_eq_true c70
                 clear c70
                 by_cases c71 : x285003_6.length < 5864062014805
                 · rw [if_pos c71] at H
                   have LMc71 := Aside0.mk c71
                   clear c71
                   obtain ⟨y294, hy294⟩ : ∃ y_ : List (S59), y_ = (x285003_6 ++ [(⟨bt (rdOf ByteArray.empty t281 x10_6) 0, sub (rdOf ByteArray.empty t281 x10_6) 1 (rdOf ByteArray.empty t281 x10_6).size⟩ : S59)]) := ⟨_, rfl⟩
                   replace H : (tallboyref27_Parse.l1 k6 a0 t281 (wrap64 (x10_6 + 1)) x285000_1 x285001_33 x285002_46 y294) = some (r1, r2, r3, r4, r5) := by first | (rw [hy294]; with_reducible exact H) | (have H2_ := (Option.bind_some _ _).symm.trans H; rw [hy294]; with_reducible exact H2_) | (have H2_ := (Option.bind_some _ _).symm.trans H; with_reducible exact H2_) | with_reducible exact H | (rw [hy294]; exact H) | exact H
                   have Ny294 := Aside0.mk hy294
                   clear hy294
                   have H' := Aside0.mk H
                   clear H
                   obtain ⟨Ao72, co72, eo72⟩ := Kd.R_slice HO_4.out
                   subst eo72
                   have p291 : 0 ≤ (x10_6 : Int) := of_decide_eq_true asA
                   have q291 : x10_6 < (t281.length : Int) := of_decide_eq_true asA
                   obtain ⟨ad291, e291, hx291_0⟩ := Kd.at_string (Kd.R_reads' HO_4.out).2.2 x10_6 p291 q291
                   cases e291
                   replace p291 := eq_true p291
                   replace q291 := eq_true q291
                   try go_wp2
                   replace HO_4 := Aside0.mk (Kd.R_drew HO_4.out)
                   replace HO_285003 := Aside0.mk (Kd.R_drew HO_285003.out)
                   replace BK280 := Aside0.mk (blk_drew BK280.out)
                   replace BK284 := Aside0.mk (blk_drew BK284.out)
                   replace HB := Aside0.mk (below_drew1 HB.out)
                   have p292 : 0 ≤ (x10_6 : Int) := of_decide_eq_true asA
                   have q292 : x10_6 < (t281.length : Int) := of_decide_eq_true asA
                   obtain ⟨ad292, e292, hx292_0⟩ := Kd.at_string (Kd.R_reads' HO_4.out).2.2 x10_6 p292 q292
                   obtain rfl : ad291 = ad292 := (by injection e292)
                   replace p292 := eq_true p292
                   replace q292 := eq_true q292
                   have p69 : 0 ≤ (0 : Int) := (by omega)
                   have q69 : 0 < (rdOf ByteArray.empty t281 x10_6).size := (by have : (0 : Int) < ((rdOf ByteArray.empty t281 x10_6).size : Int) := of_decide_eq_true asA; omega)
                   have hx69 : ∀ h : 0 < (rdOf ByteArray.empty t281 x10_6).size, (((rdOf ByteArray.empty t281 x10_6)[0]'h).toNat : Int) = bt (rdOf ByteArray.empty t281 x10_6) 0 := bt_at (rdOf ByteArray.empty t281 x10_6) 0
                   clear p69
                   have qi69 : (0 < ((rdOf ByteArray.empty t281 x10_6).size : Int)) = True := eq_true (of_decide_eq_true asA)
                   replace q69 := eq_true q69
                   have p293 : 0 ≤ (x10_6 : Int) := of_decide_eq_true asA
                   have q293 : x10_6 < (t281.length : Int) := of_decide_eq_true asA
                   obtain ⟨ad293, e293, hx293_0⟩ := Kd.at_string (Kd.R_reads' HO_4.out).2.2 x10_6 p293 q293
                   obtain rfl : ad291 = ad293 := (by injection e293)
                   replace p293 := eq_true p293
                   replace q293 := eq_true q293
                   refine start_ (n := 17) (S := fun w' => w'.cell? ⟨gb284, 0, none⟩ = some (.int .i64 x285000_1) ∧ w'.cell? ⟨gb284, 1, none⟩ = some (.string x285001_33) ∧ w'.cell? ⟨gb284, 2, none⟩ = some (.int .i64 x285002_46) ∧ w'.cell? ⟨gb284, 3, none⟩ = some (u285003) ∧ w'.cell? (ad291.add (x10_6).toNat) = some (.string (rdOf ByteArray.empty t281 x10_6)) ∧ w'.cell? (ad291.add (x10_6).toNat) = some (.string (rdOf ByteArray.empty t281 x10_6))) (ds := [14, 16]) #[false, false, false, false, false, false, false, false, false, false, false, false, false, false, false, false, false] (by kernel_rfl) rfl rfl ⟨(blk_cell BK284.out 0).trans rfl, (blk_cell BK284.out 1).trans rfl, (blk_cell BK284.out 2).trans rfl, (blk_cell BK284.out 3).trans rfl, hx292_0, hx293_0⟩ (fun hHeld => ?_); refine with_tabW tallboyref27_Parse.tab27 tallboyref27_Parse.bits27 (fun HT_ HW_ => ?_)
                   generalize wr.drew = w73 at HO_4 HO_285003 BK280 BK284 HB hx292_0 hx293_0 hHeld ⊢
                   refine pureA_ (i := 0) (N := some 90) #[true, false, false, false, false, false, false, false, false, false, false, false, false, false, false, false, false] rfl rfl ?_ (hc := any_of HT_.out (by kernel_rfl))
                   refine pureA_ (i := 2) (N := some 92) #[true, false, true, false, false, false, false, false, false, false, false, false, false, false, false, false, false] rfl rfl ?_ (hc := any_of HT_.out (by kernel_rfl))
                   refine pureA_ (i := 3) (N := some 93) #[true, false, true, true, false, false, false, false, false, false, false, false, false, false, false, false, false] rfl rfl ?_ (hc := any_of HT_.out (by kernel_rfl))
                   refine pureA_ (i := 4) (N := some 94) #[true, false, true, true, true, false, false, false, false, false, false, false, false, false, false, false, false] rfl rfl ?_ (hc := any_of HT_.out (by kernel_rfl))
                   refine pureA_ (i := 7) (N := some 97) #[true, false, true, true, true, false, false, true, false, false, false, false, false, false, false, false, false] rfl rfl ?_ (hc := any_of HT_.out (by kernel_rfl))
                   refine pureA_ (i := 8) (N := some 98) #[true, false, true, true, true, false, false, true, true, false, false, false, false, false, false, false, false] rfl rfl ?_ (hc := any_of HT_.out (by kernel_rfl))
                   refine pureA_ (i := 9) (N := some 99) #[true, false, true, true, true, false, false, true, true, true, false, false, false, false, false, false, false] rfl rfl ?_ (hc := any_of HT_.out (by kernel_rfl))
                   refine takeA_ (i := 1) (N := some 91) #[true, true, true, true, true, false, false, true, true, true, false, false, false, false, false, false, false] rfl rfl hHeld ?_ (hc := take_ofW HT_.out HW_.out (by kernel_rfl)) (hy := by rintro w' ⟨s0, s1, s2, s3, s4, s5⟩; go_simp; with_reducible rfl)
                   refine takeA_ (i := 5) (N := some 95) #[true, true, true, true, true, true, false, true, true, true, false, false, false, false, false, false, false] rfl rfl hHeld ?_ (hc := take_ofW HT_.out HW_.out (by kernel_rfl)) (hy := by rintro w' ⟨s0, s1, s2, s3, s4, s5⟩; go_simp; with_reducible rfl)
                   refine takeA_ (i := 6) (N := some 96) #[true, true, true, true, true, true, true, true, true, true, false, false, false, false, false, false, false] rfl rfl hHeld ?_ (hc := take_ofW HT_.out HW_.out (by kernel_rfl)) (hy := by rintro w' ⟨s0, s1, s2, s3, s4, s5⟩; go_simp; with_reducible rfl)
                   refine takeA_ (i := 10) (N := some 100) #[true, true, true, true, true, true, true, true, true, true, true, false, false, false, false, false, false] rfl rfl hHeld ?_ (hc := take_ofW HT_.out HW_.out (by kernel_rfl)) (hy := by rintro w' ⟨s0, s1, s2, s3, s4, s5⟩; go_simp; with_reducible rfl)
                   refine pureA_ (i := 11) (N := some 101) #[true, true, true, true, true, true, true, true, true, true, true, true, false, false, false, false, false] rfl rfl ?_ (hc := any_of HT_.out (by kernel_rfl))
                   refine pureA_ (i := 12) (N := some 102) #[true, true, true, true, true, true, true, true, true, true, true, true, true, false, false, false, false] rfl rfl ?_ (hc := any_of HT_.out (by kernel_rfl))
                   refine one_ (i := 13) (N := some 103) #[true, true, true, true, true, true, true, true, true, true, true, true, true, true, false, false, false] rfl rfl (one_of HT_.out (by kernel_rfl)) (by decide) (fun K hK => ?_)
                   refine value_ (w1 := ?_) (v := ?_) (by rfl) rfl ?_ ?_
                   rotate_left 2
                   · go_simp
                     constructor
                     · rfl
                     rfl
                   refine hK.out _ _ ⟨(blk_cell (blk_alloc BK284.out _) 0).trans rfl, (blk_cell (blk_alloc BK284.out _) 1).trans rfl, (blk_cell (blk_alloc BK284.out _) 2).trans rfl, (blk_cell (blk_alloc BK284.out _) 3).trans rfl, (World.cell?_alloc_lt _ _ _ (World.block_lt_of_cell? _ _ (hHeld.2.2.2.2.1))).trans (hHeld.2.2.2.2.1), (World.cell?_alloc_lt _ _ _ (World.block_lt_of_cell? _ _ (hHeld.2.2.2.2.2))).trans (hHeld.2.2.2.2.2)⟩ (fun hHeld => ?_)
                   clear hK K
                   refine normA_ ?_
                   refine last_ (i := 14) (N := some 104) #[true, true, true, true, true, true, true, true, true, true, true, true, true, true, true, false, false] rfl rfl (one_of HT_.out (by kernel_rfl)) (by decide) (fun K hK => ?_)
                   refine Kd.R_append_step k59 (w0 := w) w.heap.size (by rfl) (.tmp 91) (.tmp 103) 22 59 (.agg #[(.int .u8 0), (.string ⟨#[]⟩)]) 24 rfl Tryz.underlying22 info59 rfl (by decide) (by omega) u285003 x285003_6 (⟨bt (rdOf ByteArray.empty t281 x10_6) 0, sub (rdOf ByteArray.empty t281 x10_6) 1 (rdOf ByteArray.empty t281 x10_6).size⟩ : S59) [.int .u8 (bt (rdOf ByteArray.empty t281 x10_6) 0), .string (sub (rdOf ByteArray.empty t281 x10_6) 1 (rdOf ByteArray.empty t281 x10_6).size)] (fun _ => True) (fun _ => False) rfl rfl ?aP (fun _ hk => hk.elim) ?aF ?aO ?aB ?aS ?aL ?_
                   (case aP => exact k59_mkM _ _ _ (⟨bt (rdOf ByteArray.empty t281 x10_6) 0, sub (rdOf ByteArray.empty t281 x10_6) 1 (rdOf ByteArray.empty t281 x10_6).size⟩ : S59))
                   (case aB => exact (hbA HB.out))
                   (case aF => exact (fun _ _ => trivial))
                   (case aO => exact (rdA HO_285003.out))
                   (case aS => exact (below_size (hbA HB.out)))
                   (case aL => have := LMc71.out; omega)
                   intro v295 w74 ho hb hg hat
                   rw [← Ny294.out] at ho
                   have n0_ := Aside0.mk (Kd.R_over' (rdA HO_4.out) (Kd.R_typed (rdA HO_285003.out)) (by decide) hg)
                   have n1_ := Aside0.mk (blk_grown (g := gb280) (o := .cells #[.int .i64 x281000_6, .string x281001_6, .int .i64 x281002_6, .slice none 0 0] 24 (0, 0)) (rbA BK280.out) hg (Kd.R_ne HO_285003.out BK280.out (by decide)))
                   have n2_ := Aside0.mk (blk_grown (g := gb284) (o := .cells #[.int .i64 x285000_1, .string x285001_33, .int .i64 x285002_46, u285003] 24 (0, 0)) (rbA BK284.out) hg (Kd.R_ne HO_285003.out BK284.out (by decide)))
                   have n3_ := Aside0.mk (hb)
                   have n4_ := Aside0.mk (ho)
                   clear HO_4
                   clear BK280
                   clear BK284
                   clear HB
                   clear HO_285003
                   have HO_4 := n0_
                   have BK280 := n1_
                   have BK284 := n2_
                   have HB := n3_
                   have HO296 := n4_
                   clear n0_ n1_ n2_ n3_ n4_
                   clear ho hb hg hat
                   obtain ⟨Ao75, co75, eo75⟩ := Kd.R_slice HO296.out
                   (first | subst eo75 | (injection eo75 with f1_ f2_ f3_; have f4_ := f1_.symm; have f5_ := f3_.symm; clear f1_ f2_ f3_; subst f4_; subst f5_))
                   refine hK.out _ _ ?_
                   clear hK K
                   refine normA_ ?_
                   refine pureA_ (i := 15) (N := some 105) #[true, true, true, true, true, true, true, true, true, true, true, true, true, true, true, true, false] rfl rfl ?_ (hc := any_of HT_.out (by kernel_rfl))
                   refine last_ (i := 16) (N := none) #[true, true, true, true, true, true, true, true, true, true, true, true, true, true, true, true, true] rfl rfl (one_of HT_.out (by kernel_rfl)) (by decide) (fun K hK => ?_)
                   have hs76 : w74.cell? ⟨gb284, 3, none⟩ = some (u285003) := (blk_cell BK284.out 3).trans rfl
                   have hfs76 := blk_frozen BK284.out 3
                   have hns76_0 := NB280_284.out
                   have hms76_0 := NB284_280.out
                   refine skip_ (w1 := ?_) (by rfl) rfl ?_ ?_
                   rotate_left
                   · go_simp
                     rfl
                   refine hK.out _ _ ?_
                   clear hK K
                   refine done_ (done_of HT_.out (by kernel_rfl)) ?_
                   try go_wp2
                   go_roundg k6
                   case measure => have := HK1.out; have := HJ24.out; have := HJ33.out; have := HJ39.out; have := HJ46.out; have := HK6.out; omega
                   case rel => exact ⟨(wrap64 (x10_6 + 1)), (x281000_6), (x281001_6), (x281002_6), (y294), (.slice Ao75 y294.length co75), rsA, H', ⟨by have := HK1.out; have := HJ24.out; have := HJ33.out; have := HJ39.out; have := HJ46.out; have := HK6.out; omega⟩, ⟨by (with_reducible repeat (first | apply Kd.R_alloc | apply Kd.R_drewN | apply Kd.R_drew)); exact Kd.R_mono (Kd.R_far (p := ⟨gb284, 3, none⟩) (Kd.R_types HO_4.out BK284.out (by decide)) (fun _ hk => hk.2) (.slice Ao75 y294.length co75)) (fun _ hk => trivial)⟩, ⟨by (with_reducible repeat (first | apply Kd.R_alloc | apply Kd.R_drewN | apply Kd.R_drew)); exact Kd.R_mono (Kd.R_far (p := ⟨gb284, 3, none⟩) (Kd.R_types HO296.out BK284.out (by decide)) (fun _ hk => hk.2) (.slice Ao75 y294.length co75)) (fun _ hk => trivial)⟩, ⟨by (with_reducible repeat (first | refine blk_drewN ?_ _ | refine blk_drew ?_ | refine blk_alloc ?_ _)); refine blk_far ?_ NB280_284.out _; (with_reducible repeat (first | refine blk_drewN ?_ _ | refine blk_drew ?_ | refine blk_alloc ?_ _)); exact BK280.out⟩, ⟨by (with_reducible repeat (first | refine blk_drewN ?_ _ | refine blk_drew ?_ | refine blk_alloc ?_ _)); refine blk_put (cs := #[.int .i64 x285000_1, .string x285001_33, .int .i64 x285002_46, u285003]) ?_ 3 _ rfl; (with_reducible repeat (first | refine blk_drewN ?_ _ | refine blk_drew ?_ | refine blk_alloc ?_ _)); exact BK284.out⟩, ⟨hbA HB.out⟩⟩
                 rw [if_neg c71] at H
                 exact absurd H (by simp)
               rw [if_neg c70] at H
               exact absurd H (by simp)
             rw [if_neg c68] at H
             exact absurd H (by simp)
           rw [if_neg c63] at H
           exact absurd H (by simp)
         rw [if_neg c62] at H
         have c62b0 : decide (x10_6 < (t281.length : Int)) = false := decide_eq_false c62
         clear c62
         replace H := Option.bind_eq_some_iff.mp H
         obtain ⟨⟨t297, t298⟩, A770, H⟩ := H
         replace H : (if t298 = true then (tallboyref27_Parse.j6 k6 a0 (x285000_1 != 5) x285000_1 x285001_33 x285002_46 x285003_6) else (tallboyref27_Parse.j6 k6 a0 false x285000_1 x285001_33 x285002_46 x285003_6)) = some (r1, r2, r3, r4, r5) := H
         have A77 := Aside0.mk A770
         clear A770
         have HC78 := Aside0.mk H
         clear H
         obtain ⟨Ao79, co79, eo79⟩ := Kd.R_slice HO_4.out
         subst eo79
         have hnb80 := NB284_280.out
         have hnc80 := NB280_284.out
         obtain ⟨hcz81_0, hcz81_1, hcz81_2, hcz81_3, hfz81_0, hfz81_1, hfz81_2, hfz81_3⟩ := blkA4 BK284.out
         obtain ⟨Ao82, co82, eo82⟩ := Kd.R_slice HO_285003.out
         subst eo82
         go_upto_region 29 with (first | ((with_reducible refine gate_callee (f := 16) rfl ?_); refine goesL_ (some 108) rfl rfl Tryz.func16 (by kernel_rfl) rfl #[.agg #[.int .i64 x285000_1, .string x285001_33, .int .i64 x285002_46, .slice Ao82 x285003_6.length co82], .int .u8 98] rfl argA ?_; (with_reducible refine (tallboyref27_Find.calls k6 x285000_1 x285001_33 x285002_46 _ _ x285003_6 98 t297 t298 _ ?side1 ?side2 A77.out).mono ?_); (case side1 => repeat (first | exact (Kd.R_reads' HO_285003.out).2.2 | (with_reducible refine Kd.C_alloc ?_ _) | (with_reducible refine Kd.C_drewN ?_ _) | (with_reducible refine Kd.C_drew ?_))); (case side2 => exact (Kd.R_reads' HO_285003.out).2.1); rintro e w83 ⟨rfl, hb⟩; refine ⟨_, rfl, ?_⟩; replace HO_4 := Aside0.mk (Kd.R_below (rdA HO_4.out) hb); replace HO_285003 := Aside0.mk (Kd.R_below (rdA HO_285003.out) hb); replace BK280 := Aside0.mk (blk_below (g := gb280) (o := .cells #[.int .i64 x281000_6, .string x281001_6, .int .i64 x281002_6, .slice none 0 0] 24 (0, 0)) (rbA BK280.out) hb); replace BK284 := Aside0.mk (blk_below (g := gb284) (o := .cells #[.int .i64 x285000_1, .string x285001_33, .int .i64 x285002_46, .slice Ao82 x285003_6.length co82] 24 (0, 0)) (rbA BK284.out) hb); replace HB := Aside0.mk (below_step (hbA HB.out) hb); (try clear hb); (try clear hb2); (try clear hk); (try clear hi)))
         (try simp only [Act.put, List.setIfInBounds_toArray, List.set_cons_zero, List.set_cons_succ])
         go_cut [116] (fun v116 wc => ∃ (kq : Nat) (x116_77 : Bool), v116 = .bool x116_77 ∧ Aside0 (tallboyref27_Parse.j6 kq a0 x116_77 x285000_1 x285001_33 x285002_46 x285003_6 = some (r1, r2, r3, r4, r5)) ∧ Aside0 (kq ≤ k6) ∧ Aside0 (Kd.R k59 59 wc w.heap.size (fun _ => True) (.slice Ao82 x285003_6.length co82) x285003_6) ∧ Aside0 (wc.heap[gb280]? = some (.cells #[.int .i64 x281000_6, .string x281001_6, .int .i64 x281002_6, (.slice none 0 0)] 24 (0, 0))) ∧ Aside0 (wc.heap[gb284]? = some (.cells #[.int .i64 x285000_1, .string x285001_33, .int .i64 x285002_46, (.slice Ao82 x285003_6.length co82)] 24 (0, 0))) ∧ Aside0 (Below w.heap.size w wc))
         case first =>
          have H := HC78.out
          clear HC78
          by_cases c84 : t298 = true
          · subst c84
            have H1 : (tallboyref27_Parse.j6 k6 a0 (x285000_1 != 5) x285000_1 x285001_33 x285002_46 x285003_6) = some (r1, r2, r3, r4, r5) := by rw [if_pos rfl] at H; exact H
            clear H
            have H := H1
            clear H1
            have H' := Aside0.mk H
            clear H
            have hnb85 := NB284_280.out
            have hnc85 := NB280_284.out
            obtain ⟨hcz86_0, hcz86_1, hcz86_2, hcz86_3, hfz86_0, hfz86_1, hfz86_2, hfz86_3⟩ := blkA4 BK284.out
            go_wp2
            go_meet
            case rel => exact ⟨_, ((x285000_1 != 5)), rsA, H', ⟨by have := HK1.out; have := HJ24.out; have := HJ33.out; have := HJ39.out; have := HJ46.out; have := HK6.out; first | omega | exact Nat.le_refl _⟩, ⟨rdA HO_285003.out⟩, ⟨rbA BK280.out⟩, ⟨rbA BK284.out⟩, ⟨hbA HB.out⟩⟩
          replace c84 := Bool.eq_false_iff.mpr c84
          subst c84
          have H1 : (tallboyref27_Parse.j6 k6 a0 false x285000_1 x285001_33 x285002_46 x285003_6) = some (r1, r2, r3, r4, r5) := by rw [if_neg (show ¬ (false = true) by decide)] at H; exact H
          clear H
          have H := H1
          clear H1
          have H' := Aside0.mk H
          clear H
          go_wp2
          go_meet
          case rel => exact ⟨_, (false), rsA, H', ⟨by have := HK1.out; have := HJ24.out; have := HJ33.out; have := HJ39.out; have := HJ46.out; have := HK6.out; first | omega | exact Nat.le_refl _⟩, ⟨rdA HO_285003.out⟩, ⟨rbA BK280.out⟩, ⟨rbA BK284.out⟩, ⟨hbA HB.out⟩⟩
         clear HC78
         (try clear c1); (try clear c2); (try clear c2b0); (try clear c2b1); (try clear p2); (try clear q2); (try clear hx2); (try clear qi2); (try clear c3); (try clear c4); (try clear c5); (try clear c6); (try clear p6); (try clear q6); (try clear hx6); (try clear qi6); (try clear c7); (try clear c8); (try clear c9); (try clear c11); (try clear c11b0); (try clear c13); (try clear c13b0); (try clear c13b1); (try clear c14); (try clear c14b0); (try clear c14b1); (try clear c16); (try clear c17); (try clear c21); (try clear c21b0); (try clear c21b1); (try clear c22); (try clear c24); (try clear c26); (try clear c28); (try clear c28b0); (try clear c28b1); (try clear p28); (try clear q28); (try clear hx28); (try clear qi28); (try clear c29); (try clear p29); (try clear q29); (try clear hx29); (try clear c31); (try clear c33); (try clear c35); (try clear c36); (try clear c36b0); (try clear c36b1); (try clear c38); (try clear c41); (try clear c41b0); (try clear c41b1); (try clear c42); (try clear c45); (try clear c48); (try clear c49); (try clear c49b0); (try clear c49b1); (try clear c51); (try clear c51b0); (try clear c51b1); (try clear c52); (try clear c52b0); (try clear c54); (try clear c57); (try clear c60); (try clear c62); (try clear c62b0); (try clear c63); (try clear c63b0); (try clear c64); (try clear c64b0); (try clear c64e0); (try clear c64b1); (try clear p64); (try clear c66); (try clear c68); (try clear c68b0); (try clear c68b1); (try clear p69); (try clear q69); (try clear hx69); (try clear qi69); (try clear c70); (try clear c70b0); (try clear c70b1); (try clear c71); (try clear c80); (try clear c84); (try clear c85); (try clear hcz10_0 hcz10_1 hcz10_2 hcz10_3); (try clear hcz18_0 hcz18_1 hcz18_2 hcz18_3); (try clear hcz23_0 hcz23_1 hcz23_2 hcz23_3); (try clear hcz24_0 hcz24_1 hcz24_2 hcz24_3); (try clear hcz27_0 hcz27_1 hcz27_2 hcz27_3); (try clear hcz30_0 hcz30_1 hcz30_2 hcz30_3); (try clear hcz32_0 hcz32_1 hcz32_2 hcz32_3); (try clear hcz39_0 hcz39_1 hcz39_2 hcz39_3); (try clear hcz43_0 hcz43_1 hcz43_2 hcz43_3); (try clear hcz46_0 hcz46_1 hcz46_2 hcz46_3); (try clear hcz4_0 hcz4_1 hcz4_2 hcz4_3); (try clear hcz55_0 hcz55_1 hcz55_2 hcz55_3); (try clear hcz58_0 hcz58_1 hcz58_2 hcz58_3); (try clear hcz61_0 hcz61_1 hcz61_2 hcz61_3); (try clear hcz67_0 hcz67_1 hcz67_2 hcz67_3); (try clear hcz81_0 hcz81_1 hcz81_2 hcz81_3); (try clear hcz86_0 hcz86_1 hcz86_2 hcz86_3); (try clear hfz10_0 hfz10_1 hfz10_2 hfz10_3); (try clear hfz18_0 hfz18_1 hfz18_2 hfz18_3); (try clear hfz23_0 hfz23_1 hfz23_2 hfz23_3); (try clear hfz24_0 hfz24_1 hfz24_2 hfz24_3); (try clear hfz27_0 hfz27_1 hfz27_2 hfz27_3); (try clear hfz30_0 hfz30_1 hfz30_2 hfz30_3); (try clear hfz32_0 hfz32_1 hfz32_2 hfz32_3); (try clear hfz39_0 hfz39_1 hfz39_2 hfz39_3); (try clear hfz43_0 hfz43_1 hfz43_2 hfz43_3); (try clear hfz46_0 hfz46_1 hfz46_2 hfz46_3); (try clear hfz4_0 hfz4_1 hfz4_2 hfz4_3); (try clear hfz55_0 hfz55_1 hfz55_2 hfz55_3); (try clear hfz58_0 hfz58_1 hfz58_2 hfz58_3); (try clear hfz61_0 hfz61_1 hfz61_2 hfz61_3); (try clear hfz67_0 hfz67_1 hfz67_2 hfz67_3); (try clear hfz81_0 hfz81_1 hfz81_2 hfz81_3); (try clear hfz86_0 hfz86_1 hfz86_2 hfz86_3); (try clear hx286_0); (try clear hx287_0); (try clear hx288_0); (try clear hx291_0); (try clear hx292_0); (try clear hx293_0); (try clear p2); (try clear p28); (try clear p286); (try clear p287); (try clear p288); (try clear p291); (try clear p292); (try clear p293); (try clear p6); (try clear p69); (try clear q2); (try clear q28); (try clear q286); (try clear q287); (try clear q288); (try clear q291); (try clear q292); (try clear q293); (try clear q69)
         obtain ⟨kq, x116_77, rfl, HA, HJ77, HO_285003, BK280, BK284, HB⟩ := hcut
         cases kq with
         | zero => exact absurd HA.out (by simp [tallboyref27_Parse.j6])
         | succ kj77 =>
          have H := HA.out
          clear HA
          simp only [tallboyref27_Parse.j6] at H
          by_cases c87 : x116_77 = true
          · subst c87
            have H1 : ((tallboyref27_Decode.f kj77 x285001_33).bind fun bt299 => (if bt299.2 = 0 then ((tallboyref27_Write.f kj77 x285000_1 bt299.1 x285002_46 x285003_6).bind fun bt301 => (if bt301.2 = 0 then (if bt301.1.toList = a0.toList then (some (x285000_1, bt299.1, x285002_46, x285003_6, 0)) else (some (0, (⟨#[]⟩ : ByteArray), 0, ([] : List (S59)), 6))) else (some (0, (⟨#[]⟩ : ByteArray), 0, ([] : List (S59)), 6)))) else (some (0, (⟨#[]⟩ : ByteArray), 0, ([] : List (S59)), bt299.2)))) = some (r1, r2, r3, r4, r5) := by rw [if_pos rfl] at H; exact H
            clear H
            have H := H1
            clear H1
            replace H := Option.bind_eq_some_iff.mp H
            obtain ⟨⟨t299, t300⟩, A880, H⟩ := H
            replace H : (if t300 = 0 then ((tallboyref27_Write.f kj77 x285000_1 t299 x285002_46 x285003_6).bind fun bt301 => (if bt301.2 = 0 then (if bt301.1.toList = a0.toList then (some (x285000_1, t299, x285002_46, x285003_6, 0)) else (some (0, (⟨#[]⟩ : ByteArray), 0, ([] : List (S59)), 6))) else (some (0, (⟨#[]⟩ : ByteArray), 0, ([] : List (S59)), 6)))) else (some (0, (⟨#[]⟩ : ByteArray), 0, ([] : List (S59)), t300))) = some (r1, r2, r3, r4, r5) := H
            have A88 := Aside0.mk A880
            clear A880
            by_cases c89 : t300 = 0
            · rw [if_pos c89] at H
              have c89b0 : (t300 == 0) = true := beq_iff_eq.mpr c89
              have c89b1 : (t300 != 0) = false := bne_eq_false_iff_eq.mpr c89
              clear c89
              replace H := Option.bind_eq_some_iff.mp H
              obtain ⟨⟨t301, t302⟩, A900, H⟩ := H
              replace H : (if t302 = 0 then (if t301.toList = a0.toList then (some (x285000_1, t299, x285002_46, x285003_6, 0)) else (some (0, (⟨#[]⟩ : ByteArray), 0, ([] : List (S59)), 6))) else (some (0, (⟨#[]⟩ : ByteArray), 0, ([] : List (S59)), 6))) = some (r1, r2, r3, r4, r5) := H
              have A90 := Aside0.mk A900
              clear A900
              by_cases c91 : t302 = 0
              · rw [if_pos c91] at H
                have c91b0 : (t302 == 0) = true := beq_iff_eq.mpr c91
                have c91b1 : (t302 != 0) = false := bne_eq_false_iff_eq.mpr c91
                clear c91
                by_cases c92 : t301.toList = a0.toList
                · rw [if_pos c92] at H
                  have c92b0 : (t301.toList == a0.toList) = true := beq_iff_eq.mpr c92
                  have c92b1 : (t301.toList != a0.toList) = false := bne_eq_false_iff_eq.mpr c92
                  clear c92
                  simp only [Option.some.injEq, Prod.mk.injEq] at H
                  obtain ⟨rfl, rfl, rfl, rfl, rfl⟩ := H
                  have hnb93 := NB284_280.out
                  have hnc93 := NB280_284.out
                  obtain ⟨hcz94_0, hcz94_1, hcz94_2, hcz94_3, hfz94_0, hfz94_1, hfz94_2, hfz94_3⟩ := blkA4 BK284.out
                  go_wp2_with (first | ((with_reducible refine gate_callee (f := 52) rfl ?_); refine goesL_ (some 120) rfl rfl Tryz.func52 (by kernel_rfl) rfl #[.string x285001_33] rfl argA ?_; (with_reducible refine (tallboyref27_Decode.calls kj77 x285001_33 t299 t300 _ A88.out).mono ?_); rintro e w95 ⟨rfl, hb⟩; refine ⟨_, rfl, ?_⟩; replace HO_285003 := Aside0.mk (Kd.R_below (rdA HO_285003.out) hb); replace BK280 := Aside0.mk (blk_below (g := gb280) (o := .cells #[.int .i64 x281000_6, .string x281001_6, .int .i64 x281002_6, .slice none 0 0] 24 (0, 0)) (rbA BK280.out) hb); replace BK284 := Aside0.mk (blk_below (g := gb284) (o := .cells #[.int .i64 x285000_1, .string x285001_33, .int .i64 x285002_46, .slice Ao82 x285003_6.length co82] 24 (0, 0)) (rbA BK284.out) hb); replace HB := Aside0.mk (below_step (hbA HB.out) hb); (try clear hb); (try clear hb2); (try clear hk); (try clear hi); obtain ⟨hcz96_0, hcz96_1, hcz96_2, hcz96_3, hfz96_0, hfz96_1, hfz96_2, hfz96_3⟩ := blkA4 BK284.out) | ((with_reducible refine gate_callee (f := 12) rfl ?_); refine goesL_ (some 131) rfl rfl Tryz.func12 (by kernel_rfl) rfl #[.agg #[.int .i64 x285000_1, .string t299, .int .i64 x285002_46, .slice Ao82 x285003_6.length co82]] rfl argA ?_; (with_reducible refine (tallboyref27_Write.calls kj77 x285000_1 t299 x285002_46 _ _ x285003_6 t301 t302 _ ?side1 ?side2 A90.out).mono ?_); (case side1 => refine (Kd.R_reads' (e := 59) (base := w.heap.size) (ok := fun k_ => True) (n := x285003_6.length) (c := co82) ?_).2.2; exact (by (with_reducible repeat (first | apply Kd.R_alloc | apply Kd.R_drewN | apply Kd.R_drew)); exact (Kd.R_mono (Kd.R_far (p := ⟨gb284, 1, none⟩) (Kd.R_types HO_285003.out BK284.out (by decide)) (fun _ hk => hk.2) (.string t299)) (fun _ h_ => h_.1)))); (case side2 => exact (Kd.R_reads' HO_285003.out).2.1); rintro e w97 ⟨rfl, hb⟩; refine ⟨_, rfl, ?_⟩; have n0_ := Aside0.mk (Kd.R_below (by (with_reducible repeat (first | apply Kd.R_alloc | apply Kd.R_drewN | apply Kd.R_drew)); exact (Kd.R_mono (Kd.R_far (p := ⟨gb284, 1, none⟩) (Kd.R_types HO_285003.out BK284.out (by decide)) (fun _ hk => hk.2) (.string t299)) (fun _ h_ => h_.1))) hb); have n1_ := Aside0.mk (blk_below (g := gb280) (o := .cells #[.int .i64 x281000_6, .string x281001_6, .int .i64 x281002_6, .slice none 0 0] 24 (0, 0)) (by (with_reducible repeat (first | refine blk_drewN ?_ _ | refine blk_drew ?_ | refine blk_alloc ?_ _)); refine blk_far ?_ NB280_284.out _; exact rbA BK280.out) hb); have n2_ := Aside0.mk (blk_below (g := gb284) (o := .cells #[.int .i64 x285000_1, .string t299, .int .i64 x285002_46, .slice Ao82 x285003_6.length co82] 24 (0, 0)) (by (with_reducible repeat (first | refine blk_drewN ?_ _ | refine blk_drew ?_ | refine blk_alloc ?_ _)); refine blk_put (cs := #[.int .i64 x285000_1, .string x285001_33, .int .i64 x285002_46, .slice Ao82 x285003_6.length co82]) ?_ 1 _ rfl; exact rbA BK284.out) hb); have n3_ := Aside0.mk (below_step (hbA HB.out) hb); clear HO_285003; clear BK280; clear BK284; clear HB; have HO_285003 := n0_; have BK280 := n1_; have BK284 := n2_; have HB := n3_; clear n0_ n1_ n2_ n3_; (try clear hb); (try clear hb2); (try clear hk); (try clear hi); obtain ⟨hcz98_0, hcz98_1, hcz98_2, hcz98_3, hfz98_0, hfz98_1, hfz98_2, hfz98_3⟩ := blkA4 BK284.out; obtain ⟨hcz99_0, hcz99_1, hcz99_2, hcz99_3, hfz99_0, hfz99_1, hfz99_2, hfz99_3⟩ := blkA4 BK280.out))
                  refine bodyPost_ret (results_ct rfl _ _ gb280 24 #[.int .i64 x285000_1, .string t299, .int .i64 x285002_46, .slice Ao82 x285003_6.length co82] (0, 0) _ rfl (by (with_reducible repeat (first | refine blk_drewN ?_ _ | refine blk_drew ?_ | refine blk_alloc ?_ _)); refine blk_put (cs := #[.int .i64 x285000_1, .string t299, .int .i64 x285002_46, .slice none 0 0]) ?_ 3 _ rfl; (with_reducible repeat (first | refine blk_drewN ?_ _ | refine blk_drew ?_ | refine blk_alloc ?_ _)); refine blk_put (cs := #[.int .i64 x285000_1, .string t299, .int .i64 x281002_6, .slice none 0 0]) ?_ 2 _ rfl; (with_reducible repeat (first | refine blk_drewN ?_ _ | refine blk_drew ?_ | refine blk_alloc ?_ _)); refine blk_put (cs := #[.int .i64 x285000_1, .string x281001_6, .int .i64 x281002_6, .slice none 0 0]) ?_ 1 _ rfl; (with_reducible repeat (first | refine blk_drewN ?_ _ | refine blk_drew ?_ | refine blk_alloc ?_ _)); refine blk_put (cs := #[.int .i64 x281000_6, .string x281001_6, .int .i64 x281002_6, .slice none 0 0]) ?_ 0 _ rfl; exact rbA BK280.out) Tryz.underlying24 rfl (by kernel_rfl)) rfl ?_
                  exact ⟨_, reA, by (with_reducible repeat (first | apply Kd.R_alloc | apply Kd.R_drewN | apply Kd.R_drew)); exact Kd.R_mono (Kd.R_far (p := ⟨gb280, 3, none⟩) (Kd.R_far (p := ⟨gb280, 2, none⟩) (Kd.R_far (p := ⟨gb280, 1, none⟩) (Kd.R_far (p := ⟨gb280, 0, none⟩) (Kd.R_types HO_285003.out BK280.out (by decide)) (fun _ hk => hk.2) (.int .i64 x285000_1)) (fun _ hk => hk.2) (.string t299)) (fun _ hk => hk.2) (.int .i64 x285002_46)) (fun _ hk => hk.2) (.slice Ao82 x285003_6.length co82)) (fun _ hk => trivial), hbA HB.out⟩
                rw [if_neg c92] at H
                have c92b0 : (t301.toList == a0.toList) = false := beq_eq_false_iff_ne.mpr c92
                have c92b1 : (t301.toList != a0.toList) = true := bne_iff_ne.mpr c92
                simp only [Option.some.injEq, Prod.mk.injEq] at H
                obtain ⟨rfl, rfl, rfl, rfl, rfl⟩ := H
                have hnb100 := NB284_280.out
                have hnc100 := NB280_284.out
                obtain ⟨hcz101_0, hcz101_1, hcz101_2, hcz101_3, hfz101_0, hfz101_1, hfz101_2, hfz101_3⟩ := blkA4 BK284.out
                go_wp2_with (first | ((with_reducible refine gate_callee (f := 52) rfl ?_); refine goesL_ (some 120) rfl rfl Tryz.func52 (by kernel_rfl) rfl #[.string x285001_33] rfl argA ?_; (with_reducible refine (tallboyref27_Decode.calls kj77 x285001_33 t299 t300 _ A88.out).mono ?_); rintro e w102 ⟨rfl, hb⟩; refine ⟨_, rfl, ?_⟩; replace HO_285003 := Aside0.mk (Kd.R_below (rdA HO_285003.out) hb); replace BK280 := Aside0.mk (blk_below (g := gb280) (o := .cells #[.int .i64 x281000_6, .string x281001_6, .int .i64 x281002_6, .slice none 0 0] 24 (0, 0)) (rbA BK280.out) hb); replace BK284 := Aside0.mk (blk_below (g := gb284) (o := .cells #[.int .i64 x285000_1, .string x285001_33, .int .i64 x285002_46, .slice Ao82 x285003_6.length co82] 24 (0, 0)) (rbA BK284.out) hb); replace HB := Aside0.mk (below_step (hbA HB.out) hb); (try clear hb); (try clear hb2); (try clear hk); (try clear hi); obtain ⟨hcz103_0, hcz103_1, hcz103_2, hcz103_3, hfz103_0, hfz103_1, hfz103_2, hfz103_3⟩ := blkA4 BK284.out) | ((with_reducible refine gate_callee (f := 12) rfl ?_); refine goesL_ (some 131) rfl rfl Tryz.func12 (by kernel_rfl) rfl #[.agg #[.int .i64 x285000_1, .string t299, .int .i64 x285002_46, .slice Ao82 x285003_6.length co82]] rfl argA ?_; (with_reducible refine (tallboyref27_Write.calls kj77 x285000_1 t299 x285002_46 _ _ x285003_6 t301 t302 _ ?side1 ?side2 A90.out).mono ?_); (case side1 => refine (Kd.R_reads' (e := 59) (base := w.heap.size) (ok := fun k_ => True) (n := x285003_6.length) (c := co82) ?_).2.2; exact (by (with_reducible repeat (first | apply Kd.R_alloc | apply Kd.R_drewN | apply Kd.R_drew)); exact (Kd.R_mono (Kd.R_far (p := ⟨gb284, 1, none⟩) (Kd.R_types HO_285003.out BK284.out (by decide)) (fun _ hk => hk.2) (.string t299)) (fun _ h_ => h_.1)))); (case side2 => exact (Kd.R_reads' HO_285003.out).2.1); rintro e w104 ⟨rfl, hb⟩; refine ⟨_, rfl, ?_⟩; have n0_ := Aside0.mk (Kd.R_below (by (with_reducible repeat (first | apply Kd.R_alloc | apply Kd.R_drewN | apply Kd.R_drew)); exact (Kd.R_mono (Kd.R_far (p := ⟨gb284, 1, none⟩) (Kd.R_types HO_285003.out BK284.out (by decide)) (fun _ hk => hk.2) (.string t299)) (fun _ h_ => h_.1))) hb); have n1_ := Aside0.mk (blk_below (g := gb280) (o := .cells #[.int .i64 x281000_6, .string x281001_6, .int .i64 x281002_6, .slice none 0 0] 24 (0, 0)) (by (with_reducible repeat (first | refine blk_drewN ?_ _ | refine blk_drew ?_ | refine blk_alloc ?_ _)); refine blk_far ?_ NB280_284.out _; exact rbA BK280.out) hb); have n2_ := Aside0.mk (blk_below (g := gb284) (o := .cells #[.int .i64 x285000_1, .string t299, .int .i64 x285002_46, .slice Ao82 x285003_6.length co82] 24 (0, 0)) (by (with_reducible repeat (first | refine blk_drewN ?_ _ | refine blk_drew ?_ | refine blk_alloc ?_ _)); refine blk_put (cs := #[.int .i64 x285000_1, .string x285001_33, .int .i64 x285002_46, .slice Ao82 x285003_6.length co82]) ?_ 1 _ rfl; exact rbA BK284.out) hb); have n3_ := Aside0.mk (below_step (hbA HB.out) hb); clear HO_285003; clear BK280; clear BK284; clear HB; have HO_285003 := n0_; have BK280 := n1_; have BK284 := n2_; have HB := n3_; clear n0_ n1_ n2_ n3_; (try clear hb); (try clear hb2); (try clear hk); (try clear hi); obtain ⟨hcz105_0, hcz105_1, hcz105_2, hcz105_3, hfz105_0, hfz105_1, hfz105_2, hfz105_3⟩ := blkA4 BK280.out))
                refine bodyPost_ret (results_ct rfl _ _ gb280 24 #[.int .i64 0, .string (⟨#[]⟩ : ByteArray), .int .i64 0, .slice none 0 0] (0, 0) _ rfl (by (with_reducible repeat (first | refine blk_drewN ?_ _ | refine blk_drew ?_ | refine blk_alloc ?_ _)); refine blk_put (cs := #[.int .i64 0, .string (⟨#[]⟩ : ByteArray), .int .i64 0, .slice none 0 0]) ?_ 3 _ rfl; (with_reducible repeat (first | refine blk_drewN ?_ _ | refine blk_drew ?_ | refine blk_alloc ?_ _)); refine blk_put (cs := #[.int .i64 0, .string (⟨#[]⟩ : ByteArray), .int .i64 x281002_6, .slice none 0 0]) ?_ 2 _ rfl; (with_reducible repeat (first | refine blk_drewN ?_ _ | refine blk_drew ?_ | refine blk_alloc ?_ _)); refine blk_put (cs := #[.int .i64 0, .string x281001_6, .int .i64 x281002_6, .slice none 0 0]) ?_ 1 _ rfl; (with_reducible repeat (first | refine blk_drewN ?_ _ | refine blk_drew ?_ | refine blk_alloc ?_ _)); refine blk_put (cs := #[.int .i64 x281000_6, .string x281001_6, .int .i64 x281002_6, .slice none 0 0]) ?_ 0 _ rfl; exact rbA BK280.out) Tryz.underlying24 rfl (by kernel_rfl)) rfl ?_
                exact ⟨_, reA, knA, hbA HB.out⟩
              rw [if_neg c91] at H
              have c91b0 : (t302 == 0) = false := beq_eq_false_iff_ne.mpr c91
              have c91b1 : (t302 != 0) = true := bne_iff_ne.mpr c91
              simp only [Option.some.injEq, Prod.mk.injEq] at H
              obtain ⟨rfl, rfl, rfl, rfl, rfl⟩ := H
              have hnb106 := NB284_280.out
              have hnc106 := NB280_284.out
              obtain ⟨hcz107_0, hcz107_1, hcz107_2, hcz107_3, hfz107_0, hfz107_1, hfz107_2, hfz107_3⟩ := blkA4 BK284.out
              go_wp2_with (first | ((with_reducible refine gate_callee (f := 52) rfl ?_); refine goesL_ (some 120) rfl rfl Tryz.func52 (by kernel_rfl) rfl #[.string x285001_33] rfl argA ?_; (with_reducible refine (tallboyref27_Decode.calls kj77 x285001_33 t299 t300 _ A88.out).mono ?_); rintro e w108 ⟨rfl, hb⟩; refine ⟨_, rfl, ?_⟩; replace HO_285003 := Aside0.mk (Kd.R_below (rdA HO_285003.out) hb); replace BK280 := Aside0.mk (blk_below (g := gb280) (o := .cells #[.int .i64 x281000_6, .string x281001_6, .int .i64 x281002_6, .slice none 0 0] 24 (0, 0)) (rbA BK280.out) hb); replace BK284 := Aside0.mk (blk_below (g := gb284) (o := .cells #[.int .i64 x285000_1, .string x285001_33, .int .i64 x285002_46, .slice Ao82 x285003_6.length co82] 24 (0, 0)) (rbA BK284.out) hb); replace HB := Aside0.mk (below_step (hbA HB.out) hb); (try clear hb); (try clear hb2); (try clear hk); (try clear hi); obtain ⟨hcz109_0, hcz109_1, hcz109_2, hcz109_3, hfz109_0, hfz109_1, hfz109_2, hfz109_3⟩ := blkA4 BK284.out) | ((with_reducible refine gate_callee (f := 12) rfl ?_); refine goesL_ (some 131) rfl rfl Tryz.func12 (by kernel_rfl) rfl #[.agg #[.int .i64 x285000_1, .string t299, .int .i64 x285002_46, .slice Ao82 x285003_6.length co82]] rfl argA ?_; (with_reducible refine (tallboyref27_Write.calls kj77 x285000_1 t299 x285002_46 _ _ x285003_6 t301 t302 _ ?side1 ?side2 A90.out).mono ?_); (case side1 => refine (Kd.R_reads' (e := 59) (base := w.heap.size) (ok := fun k_ => True) (n := x285003_6.length) (c := co82) ?_).2.2; exact (by (with_reducible repeat (first | apply Kd.R_alloc | apply Kd.R_drewN | apply Kd.R_drew)); exact (Kd.R_mono (Kd.R_far (p := ⟨gb284, 1, none⟩) (Kd.R_types HO_285003.out BK284.out (by decide)) (fun _ hk => hk.2) (.string t299)) (fun _ h_ => h_.1)))); (case side2 => exact (Kd.R_reads' HO_285003.out).2.1); rintro e w110 ⟨rfl, hb⟩; refine ⟨_, rfl, ?_⟩; have n0_ := Aside0.mk (Kd.R_below (by (with_reducible repeat (first | apply Kd.R_alloc | apply Kd.R_drewN | apply Kd.R_drew)); exact (Kd.R_mono (Kd.R_far (p := ⟨gb284, 1, none⟩) (Kd.R_types HO_285003.out BK284.out (by decide)) (fun _ hk => hk.2) (.string t299)) (fun _ h_ => h_.1))) hb); have n1_ := Aside0.mk (blk_below (g := gb280) (o := .cells #[.int .i64 x281000_6, .string x281001_6, .int .i64 x281002_6, .slice none 0 0] 24 (0, 0)) (by (with_reducible repeat (first | refine blk_drewN ?_ _ | refine blk_drew ?_ | refine blk_alloc ?_ _)); refine blk_far ?_ NB280_284.out _; exact rbA BK280.out) hb); have n2_ := Aside0.mk (blk_below (g := gb284) (o := .cells #[.int .i64 x285000_1, .string t299, .int .i64 x285002_46, .slice Ao82 x285003_6.length co82] 24 (0, 0)) (by (with_reducible repeat (first | refine blk_drewN ?_ _ | refine blk_drew ?_ | refine blk_alloc ?_ _)); refine blk_put (cs := #[.int .i64 x285000_1, .string x285001_33, .int .i64 x285002_46, .slice Ao82 x285003_6.length co82]) ?_ 1 _ rfl; exact rbA BK284.out) hb); have n3_ := Aside0.mk (below_step (hbA HB.out) hb); clear HO_285003; clear BK280; clear BK284; clear HB; have HO_285003 := n0_; have BK280 := n1_; have BK284 := n2_; have HB := n3_; clear n0_ n1_ n2_ n3_; (try clear hb); (try clear hb2); (try clear hk); (try clear hi); obtain ⟨hcz111_0, hcz111_1, hcz111_2, hcz111_3, hfz111_0, hfz111_1, hfz111_2, hfz111_3⟩ := blkA4 BK280.out))
              refine bodyPost_ret (results_ct rfl _ _ gb280 24 #[.int .i64 0, .string (⟨#[]⟩ : ByteArray), .int .i64 0, .slice none 0 0] (0, 0) _ rfl (by (with_reducible repeat (first | refine blk_drewN ?_ _ | refine blk_drew ?_ | refine blk_alloc ?_ _)); refine blk_put (cs := #[.int .i64 0, .string (⟨#[]⟩ : ByteArray), .int .i64 0, .slice none 0 0]) ?_ 3 _ rfl; (with_reducible repeat (first | refine blk_drewN ?_ _ | refine blk_drew ?_ | refine blk_alloc ?_ _)); refine blk_put (cs := #[.int .i64 0, .string (⟨#[]⟩ : ByteArray), .int .i64 x281002_6, .slice none 0 0]) ?_ 2 _ rfl; (with_reducible repeat (first | refine blk_drewN ?_ _ | refine blk_drew ?_ | refine blk_alloc ?_ _)); refine blk_put (cs := #[.int .i64 0, .string x281001_6, .int .i64 x281002_6, .slice none 0 0]) ?_ 1 _ rfl; (with_reducible repeat (first | refine blk_drewN ?_ _ | refine blk_drew ?_ | refine blk_alloc ?_ _)); refine blk_put (cs := #[.int .i64 x281000_6, .string x281001_6, .int .i64 x281002_6, .slice none 0 0]) ?_ 0 _ rfl; exact rbA BK280.out) Tryz.underlying24 rfl (by kernel_rfl)) rfl ?_
              exact ⟨_, reA, knA, hbA HB.out⟩
            rw [if_neg c89] at H
            have c89b0 : (t300 == 0) = false := beq_eq_false_iff_ne.mpr c89
            have c89b1 : (t300 != 0) = true := bne_iff_ne.mpr c89
            simp only [Option.some.injEq, Prod.mk.injEq] at H
            obtain ⟨rfl, rfl, rfl, rfl, rfl⟩ := H
            have hnb112 := NB284_280.out
            have hnc112 := NB280_284.out
            obtain ⟨hcz113_0, hcz113_1, hcz113_2, hcz113_3, hfz113_0, hfz113_1, hfz113_2, hfz113_3⟩ := blkA4 BK284.out
            go_wp2_with (first | ((with_reducible refine gate_callee (f := 52) rfl ?_); refine goesL_ (some 120) rfl rfl Tryz.func52 (by kernel_rfl) rfl #[.string x285001_33] rfl argA ?_; (with_reducible refine (tallboyref27_Decode.calls kj77 x285001_33 t299 t300 _ A88.out).mono ?_); rintro e w114 ⟨rfl, hb⟩; refine ⟨_, rfl, ?_⟩; replace HO_285003 := Aside0.mk (Kd.R_below (rdA HO_285003.out) hb); replace BK280 := Aside0.mk (blk_below (g := gb280) (o := .cells #[.int .i64 x281000_6, .string x281001_6, .int .i64 x281002_6, .slice none 0 0] 24 (0, 0)) (rbA BK280.out) hb); replace BK284 := Aside0.mk (blk_below (g := gb284) (o := .cells #[.int .i64 x285000_1, .string x285001_33, .int .i64 x285002_46, .slice Ao82 x285003_6.length co82] 24 (0, 0)) (rbA BK284.out) hb); replace HB := Aside0.mk (below_step (hbA HB.out) hb); (try clear hb); (try clear hb2); (try clear hk); (try clear hi); obtain ⟨hcz115_0, hcz115_1, hcz115_2, hcz115_3, hfz115_0, hfz115_1, hfz115_2, hfz115_3⟩ := blkA4 BK280.out))
            refine bodyPost_ret (results_ct rfl _ _ gb280 24 #[.int .i64 0, .string (⟨#[]⟩ : ByteArray), .int .i64 0, .slice none 0 0] (0, 0) _ rfl (by (with_reducible repeat (first | refine blk_drewN ?_ _ | refine blk_drew ?_ | refine blk_alloc ?_ _)); refine blk_put (cs := #[.int .i64 0, .string (⟨#[]⟩ : ByteArray), .int .i64 0, .slice none 0 0]) ?_ 3 _ rfl; (with_reducible repeat (first | refine blk_drewN ?_ _ | refine blk_drew ?_ | refine blk_alloc ?_ _)); refine blk_put (cs := #[.int .i64 0, .string (⟨#[]⟩ : ByteArray), .int .i64 x281002_6, .slice none 0 0]) ?_ 2 _ rfl; (with_reducible repeat (first | refine blk_drewN ?_ _ | refine blk_drew ?_ | refine blk_alloc ?_ _)); refine blk_put (cs := #[.int .i64 0, .string x281001_6, .int .i64 x281002_6, .slice none 0 0]) ?_ 1 _ rfl; (with_reducible repeat (first | refine blk_drewN ?_ _ | refine blk_drew ?_ | refine blk_alloc ?_ _)); refine blk_put (cs := #[.int .i64 x281000_6, .string x281001_6, .int .i64 x281002_6, .slice none 0 0]) ?_ 0 _ rfl; exact rbA BK280.out) Tryz.underlying24 rfl (by kernel_rfl)) rfl ?_
            exact ⟨_, reA, knA, hbA HB.out⟩
          replace c87 := Bool.eq_false_iff.mpr c87
          subst c87
          have H1 : ((tallboyref27_Write.f kj77 x285000_1 x285001_33 x285002_46 x285003_6).bind fun bt303 => (if bt303.2 = 0 then (if bt303.1.toList = a0.toList then (some (x285000_1, x285001_33, x285002_46, x285003_6, 0)) else (some (0, (⟨#[]⟩ : ByteArray), 0, ([] : List (S59)), 6))) else (some (0, (⟨#[]⟩ : ByteArray), 0, ([] : List (S59)), 6)))) = some (r1, r2, r3, r4, r5) := by rw [if_neg (show ¬ (false = true) by decide)] at H; exact H
          clear H
          have H := H1
          clear H1
          replace H := Option.bind_eq_some_iff.mp H
          obtain ⟨⟨t303, t304⟩, A1160, H⟩ := H
          replace H : (if t304 = 0 then (if t303.toList = a0.toList then (some (x285000_1, x285001_33, x285002_46, x285003_6, 0)) else (some (0, (⟨#[]⟩ : ByteArray), 0, ([] : List (S59)), 6))) else (some (0, (⟨#[]⟩ : ByteArray), 0, ([] : List (S59)), 6))) = some (r1, r2, r3, r4, r5) := H
          have A116 := Aside0.mk A1160
          clear A1160
          by_cases c117 : t304 = 0
          · rw [if_pos c117] at H
            have c117b0 : (t304 == 0) = true := beq_iff_eq.mpr c117
            have c117b1 : (t304 != 0) = false := bne_eq_false_iff_eq.mpr c117
            clear c117
            by_cases c118 : t303.toList = a0.toList
            · rw [if_pos c118] at H
              have c118b0 : (t303.toList == a0.toList) = true := beq_iff_eq.mpr c118
              have c118b1 : (t303.toList != a0.toList) = false := bne_eq_false_iff_eq.mpr c118
              clear c118
              simp only [Option.some.injEq, Prod.mk.injEq] at H
              obtain ⟨rfl, rfl, rfl, rfl, rfl⟩ := H
              have hnb119 := NB284_280.out
              have hnc119 := NB280_284.out
              obtain ⟨hcz120_0, hcz120_1, hcz120_2, hcz120_3, hfz120_0, hfz120_1, hfz120_2, hfz120_3⟩ := blkA4 BK284.out
              go_wp2_with (first | ((with_reducible refine gate_callee (f := 12) rfl ?_); refine goesL_ (some 131) rfl rfl Tryz.func12 (by kernel_rfl) rfl #[.agg #[.int .i64 x285000_1, .string x285001_33, .int .i64 x285002_46, .slice Ao82 x285003_6.length co82]] rfl argA ?_; (with_reducible refine (tallboyref27_Write.calls kj77 x285000_1 x285001_33 x285002_46 _ _ x285003_6 t303 t304 _ ?side1 ?side2 A116.out).mono ?_); (case side1 => repeat (first | exact (Kd.R_reads' HO_285003.out).2.2 | (with_reducible refine Kd.C_alloc ?_ _) | (with_reducible refine Kd.C_drewN ?_ _) | (with_reducible refine Kd.C_drew ?_))); (case side2 => exact (Kd.R_reads' HO_285003.out).2.1); rintro e w121 ⟨rfl, hb⟩; refine ⟨_, rfl, ?_⟩; replace HO_285003 := Aside0.mk (Kd.R_below (rdA HO_285003.out) hb); replace BK280 := Aside0.mk (blk_below (g := gb280) (o := .cells #[.int .i64 x281000_6, .string x281001_6, .int .i64 x281002_6, .slice none 0 0] 24 (0, 0)) (rbA BK280.out) hb); replace BK284 := Aside0.mk (blk_below (g := gb284) (o := .cells #[.int .i64 x285000_1, .string x285001_33, .int .i64 x285002_46, .slice Ao82 x285003_6.length co82] 24 (0, 0)) (rbA BK284.out) hb); replace HB := Aside0.mk (below_step (hbA HB.out) hb); (try clear hb); (try clear hb2); (try clear hk); (try clear hi); obtain ⟨hcz122_0, hcz122_1, hcz122_2, hcz122_3, hfz122_0, hfz122_1, hfz122_2, hfz122_3⟩ := blkA4 BK284.out; obtain ⟨hcz123_0, hcz123_1, hcz123_2, hcz123_3, hfz123_0, hfz123_1, hfz123_2, hfz123_3⟩ := blkA4 BK280.out))
              refine bodyPost_ret (results_ct rfl _ _ gb280 24 #[.int .i64 x285000_1, .string x285001_33, .int .i64 x285002_46, .slice Ao82 x285003_6.length co82] (0, 0) _ rfl (by (with_reducible repeat (first | refine blk_drewN ?_ _ | refine blk_drew ?_ | refine blk_alloc ?_ _)); refine blk_put (cs := #[.int .i64 x285000_1, .string x285001_33, .int .i64 x285002_46, .slice none 0 0]) ?_ 3 _ rfl; (with_reducible repeat (first | refine blk_drewN ?_ _ | refine blk_drew ?_ | refine blk_alloc ?_ _)); refine blk_put (cs := #[.int .i64 x285000_1, .string x285001_33, .int .i64 x281002_6, .slice none 0 0]) ?_ 2 _ rfl; (with_reducible repeat (first | refine blk_drewN ?_ _ | refine blk_drew ?_ | refine blk_alloc ?_ _)); refine blk_put (cs := #[.int .i64 x285000_1, .string x281001_6, .int .i64 x281002_6, .slice none 0 0]) ?_ 1 _ rfl; (with_reducible repeat (first | refine blk_drewN ?_ _ | refine blk_drew ?_ | refine blk_alloc ?_ _)); refine blk_put (cs := #[.int .i64 x281000_6, .string x281001_6, .int .i64 x281002_6, .slice none 0 0]) ?_ 0 _ rfl; exact rbA BK280.out) Tryz.underlying24 rfl (by kernel_rfl)) rfl ?_
              exact ⟨_, reA, by (with_reducible repeat (first | apply Kd.R_alloc | apply Kd.R_drewN | apply Kd.R_drew)); exact Kd.R_mono (Kd.R_far (p := ⟨gb280, 3, none⟩) (Kd.R_far (p := ⟨gb280, 2, none⟩) (Kd.R_far (p := ⟨gb280, 1, none⟩) (Kd.R_far (p := ⟨gb280, 0, none⟩) (Kd.R_types HO_285003.out BK280.out (by decide)) (fun _ hk => hk.2) (.int .i64 x285000_1)) (fun _ hk => hk.2) (.string x285001_33)) (fun _ hk => hk.2) (.int .i64 x285002_46)) (fun _ hk => hk.2) (.slice Ao82 x285003_6.length co82)) (fun _ hk => trivial), hbA HB.out⟩
            rw [if_neg c118] at H
            have c118b0 : (t303.toList == a0.toList) = false := beq_eq_false_iff_ne.mpr c118
            have c118b1 : (t303.toList != a0.toList) = true := bne_iff_ne.mpr c118
            simp only [Option.some.injEq, Prod.mk.injEq] at H
            obtain ⟨rfl, rfl, rfl, rfl, rfl⟩ := H
            have hnb124 := NB284_280.out
            have hnc124 := NB280_284.out
            obtain ⟨hcz125_0, hcz125_1, hcz125_2, hcz125_3, hfz125_0, hfz125_1, hfz125_2, hfz125_3⟩ := blkA4 BK284.out
            go_wp2_with (first | ((with_reducible refine gate_callee (f := 12) rfl ?_); refine goesL_ (some 131) rfl rfl Tryz.func12 (by kernel_rfl) rfl #[.agg #[.int .i64 x285000_1, .string x285001_33, .int .i64 x285002_46, .slice Ao82 x285003_6.length co82]] rfl argA ?_; (with_reducible refine (tallboyref27_Write.calls kj77 x285000_1 x285001_33 x285002_46 _ _ x285003_6 t303 t304 _ ?side1 ?side2 A116.out).mono ?_); (case side1 => repeat (first | exact (Kd.R_reads' HO_285003.out).2.2 | (with_reducible refine Kd.C_alloc ?_ _) | (with_reducible refine Kd.C_drewN ?_ _) | (with_reducible refine Kd.C_drew ?_))); (case side2 => exact (Kd.R_reads' HO_285003.out).2.1); rintro e w126 ⟨rfl, hb⟩; refine ⟨_, rfl, ?_⟩; replace HO_285003 := Aside0.mk (Kd.R_below (rdA HO_285003.out) hb); replace BK280 := Aside0.mk (blk_below (g := gb280) (o := .cells #[.int .i64 x281000_6, .string x281001_6, .int .i64 x281002_6, .slice none 0 0] 24 (0, 0)) (rbA BK280.out) hb); replace BK284 := Aside0.mk (blk_below (g := gb284) (o := .cells #[.int .i64 x285000_1, .string x285001_33, .int .i64 x285002_46, .slice Ao82 x285003_6.length co82] 24 (0, 0)) (rbA BK284.out) hb); replace HB := Aside0.mk (below_step (hbA HB.out) hb); (try clear hb); (try clear hb2); (try clear hk); (try clear hi); obtain ⟨hcz127_0, hcz127_1, hcz127_2, hcz127_3, hfz127_0, hfz127_1, hfz127_2, hfz127_3⟩ := blkA4 BK280.out))
            refine bodyPost_ret (results_ct rfl _ _ gb280 24 #[.int .i64 0, .string (⟨#[]⟩ : ByteArray), .int .i64 0, .slice none 0 0] (0, 0) _ rfl (by (with_reducible repeat (first | refine blk_drewN ?_ _ | refine blk_drew ?_ | refine blk_alloc ?_ _)); refine blk_put (cs := #[.int .i64 0, .string (⟨#[]⟩ : ByteArray), .int .i64 0, .slice none 0 0]) ?_ 3 _ rfl; (with_reducible repeat (first | refine blk_drewN ?_ _ | refine blk_drew ?_ | refine blk_alloc ?_ _)); refine blk_put (cs := #[.int .i64 0, .string (⟨#[]⟩ : ByteArray), .int .i64 x281002_6, .slice none 0 0]) ?_ 2 _ rfl; (with_reducible repeat (first | refine blk_drewN ?_ _ | refine blk_drew ?_ | refine blk_alloc ?_ _)); refine blk_put (cs := #[.int .i64 0, .string x281001_6, .int .i64 x281002_6, .slice none 0 0]) ?_ 1 _ rfl; (with_reducible repeat (first | refine blk_drewN ?_ _ | refine blk_drew ?_ | refine blk_alloc ?_ _)); refine blk_put (cs := #[.int .i64 x281000_6, .string x281001_6, .int .i64 x281002_6, .slice none 0 0]) ?_ 0 _ rfl; exact rbA BK280.out) Tryz.underlying24 rfl (by kernel_rfl)) rfl ?_
            exact ⟨_, reA, knA, hbA HB.out⟩
          rw [if_neg c117] at H
          have c117b0 : (t304 == 0) = false := beq_eq_false_iff_ne.mpr c117
          have c117b1 : (t304 != 0) = true := bne_iff_ne.mpr c117
          simp only [Option.some.injEq, Prod.mk.injEq] at H
          obtain ⟨rfl, rfl, rfl, rfl, rfl⟩ := H
          have hnb128 := NB284_280.out
          have hnc128 := NB280_284.out
          obtain ⟨hcz129_0, hcz129_1, hcz129_2, hcz129_3, hfz129_0, hfz129_1, hfz129_2, hfz129_3⟩ := blkA4 BK284.out
          go_wp2_with (first | ((with_reducible refine gate_callee (f := 12) rfl ?_); refine goesL_ (some 131) rfl rfl Tryz.func12 (by kernel_rfl) rfl #[.agg #[.int .i64 x285000_1, .string x285001_33, .int .i64 x285002_46, .slice Ao82 x285003_6.length co82]] rfl argA ?_; (with_reducible refine (tallboyref27_Write.calls kj77 x285000_1 x285001_33 x285002_46 _ _ x285003_6 t303 t304 _ ?side1 ?side2 A116.out).mono ?_); (case side1 => repeat (first | exact (Kd.R_reads' HO_285003.out).2.2 | (with_reducible refine Kd.C_alloc ?_ _) | (with_reducible refine Kd.C_drewN ?_ _) | (with_reducible refine Kd.C_drew ?_))); (case side2 => exact (Kd.R_reads' HO_285003.out).2.1); rintro e w130 ⟨rfl, hb⟩; refine ⟨_, rfl, ?_⟩; replace HO_285003 := Aside0.mk (Kd.R_below (rdA HO_285003.out) hb); replace BK280 := Aside0.mk (blk_below (g := gb280) (o := .cells #[.int .i64 x281000_6, .string x281001_6, .int .i64 x281002_6, .slice none 0 0] 24 (0, 0)) (rbA BK280.out) hb); replace BK284 := Aside0.mk (blk_below (g := gb284) (o := .cells #[.int .i64 x285000_1, .string x285001_33, .int .i64 x285002_46, .slice Ao82 x285003_6.length co82] 24 (0, 0)) (rbA BK284.out) hb); replace HB := Aside0.mk (below_step (hbA HB.out) hb); (try clear hb); (try clear hb2); (try clear hk); (try clear hi); obtain ⟨hcz131_0, hcz131_1, hcz131_2, hcz131_3, hfz131_0, hfz131_1, hfz131_2, hfz131_3⟩ := blkA4 BK280.out))
          refine bodyPost_ret (results_ct rfl _ _ gb280 24 #[.int .i64 0, .string (⟨#[]⟩ : ByteArray), .int .i64 0, .slice none 0 0] (0, 0) _ rfl (by (with_reducible repeat (first | refine blk_drewN ?_ _ | refine blk_drew ?_ | refine blk_alloc ?_ _)); refine blk_put (cs := #[.int .i64 0, .string (⟨#[]⟩ : ByteArray), .int .i64 0, .slice none 0 0]) ?_ 3 _ rfl; (with_reducible repeat (first | refine blk_drewN ?_ _ | refine blk_drew ?_ | refine blk_alloc ?_ _)); refine blk_put (cs := #[.int .i64 0, .string (⟨#[]⟩ : ByteArray), .int .i64 x281002_6, .slice none 0 0]) ?_ 2 _ rfl; (with_reducible repeat (first | refine blk_drewN ?_ _ | refine blk_drew ?_ | refine blk_alloc ?_ _)); refine blk_put (cs := #[.int .i64 0, .string x281001_6, .int .i64 x281002_6, .slice none 0 0]) ?_ 1 _ rfl; (with_reducible repeat (first | refine blk_drewN ?_ _ | refine blk_drew ?_ | refine blk_alloc ?_ _)); refine blk_put (cs := #[.int .i64 x281000_6, .string x281001_6, .int .i64 x281002_6, .slice none 0 0]) ?_ 0 _ rfl; exact rbA BK280.out) Tryz.underlying24 rfl (by kernel_rfl)) rfl ?_
          exact ⟨_, reA, knA, hbA HB.out⟩

end
end Go.Proofs.YtfboejlemnfndaaGreatDoor.XMr
end
