/- Put together by wip/pack.py (this session's own program) out of this session's texts; a kit's tool laid the words and the shelf, of which only what is used stands here. Lean checks it. -/
import Derived.Test.YtfboejlemnfndaaGreatDoorPMo3
import Derived.Lib.Hide
import Derived.Lib.Strings
import Derived.Laws.Strings
section
namespace Go.Proofs.YtfboejlemnfndaaGreatDoor.XMo
open Go.RowKit Go.Proofs.YtfboejlemnfndaaGreatDoorW.PrintWords Go.Proofs.YtfboejlemnfndaaGreatDoorW.PrintLast Go.Proofs.YtfboejlemnfndaaGreatDoorW.PrintMore
attribute [local go_sem] extract_sub max2_int min2_int max_two min_two max_three min_three max_four min_four   -- for this text's walks alone
set_option linter.unusedVariables false
set_option linter.unusedSimpArgs false

noncomputable section
mutual
def meta_Write.j0 : Nat → List ByteArray → Int → ByteArray → Int → List (S61) → Option (ByteArray × Int)
 | 0, _, _, _, _, _ => none
 | k + 1, x5, x155000, x155001, x155002, x155003 => if x155000 = 2 then ((digits_Text.f (IntKind.u64.wrap (x155002))).bind fun t172 => (if x5.length < 8796093022208 then (meta_Write.j1 k (x5 ++ [t172]) x155000 x155001 x155002 x155003) else (none))) else (meta_Write.j1 k x5 x155000 x155001 x155002 x155003)
def meta_Write.j1 : Nat → List ByteArray → Int → ByteArray → Int → List (S61) → Option (ByteArray × Int)
 | 0, _, _, _, _, _ => none
 | k + 1, x5, x155000, x155001, x155002, x155003 => meta_Write.l0 k x5 x155003 (x155003.length : Int) 0
def meta_Write.l0 : Nat → List ByteArray → List (S61) → Int → Int → Option (ByteArray × Int)
 | 0, _, _, _, _ => none
 | k + 1, x5, x52, x53, x54 => if x54 < x53 then (if 0 ≤ x54 then (if x54 < (x52.length : Int) then (if (Utf8.encode (wrap32 ((rd_T61 x52 x54).f0))).size + ((rd_T61 x52 x54).f1).size ≤ 9223372036854775807 then (if x5.length < 8796093022208 then (meta_Write.l0 k (x5 ++ [(Utf8.encode (wrap32 ((rd_T61 x52 x54).f0))) ++ ((rd_T61 x52 x54).f1)]) x52 x53 (wrap64 (x54 + 1))) else (none)) else (none)) else (none)) else (none)) else ((strings_Join.f x5 (⟨#[32]⟩ : ByteArray)).bind fun t181 => (if (t181.size : Int) > 160 then (some ((⟨#[]⟩ : ByteArray), 7)) else (some (t181, 0))))
end
def meta_Write.f (k : Nat) (a0_0 : Int) (a0_1 : ByteArray) (a0_2 : Int) (l0_3 : List (S61)) : Option (ByteArray × Int) := (meta_shape.f k a0_0 a0_1 a0_2 l0_3).bind fun t155 => (if t155 = 0 then ((meta_ops.f).bind fun t156 => (if 0 ≤ a0_0 then (if a0_0 < (t156.length : Int) then ((some (([(rd_T63 t156 a0_0).f0] : List ByteArray) : List ByteArray)).bind fun y160 => (if a0_0 = 5 then (meta_Write.j0 k y160 a0_0 a0_1 a0_2 l0_3) else ((meta_Find.f a0_0 a0_1 a0_2 l0_3 98).bind fun bt163 => (if bt163.2 = true then ((meta_Encode.f a0_1).bind fun t165 => (if y160.length < 8796093022208 then (meta_Write.j0 k (y160 ++ [t165]) a0_0 a0_1 a0_2 l0_3) else (none))) else (if y160.length < 8796093022208 then (meta_Write.j0 k (y160 ++ [a0_1]) a0_0 a0_1 a0_2 l0_3) else (none)))))) else (none)) else (none))) else (some ((⟨#[]⟩ : ByteArray), t155)))
theorem meta_Write.mono_l : ∀ k, (∀ y0 y1 y2 y3 y4, LeO (meta_Write.j0 k y0 y1 y2 y3 y4) (meta_Write.j0 (k + 1) y0 y1 y2 y3 y4)) ∧ (∀ y0 y1 y2 y3 y4, LeO (meta_Write.j1 k y0 y1 y2 y3 y4) (meta_Write.j1 (k + 1) y0 y1 y2 y3 y4)) ∧ (∀ y0 y1 y2 y3, LeO (meta_Write.l0 k y0 y1 y2 y3) (meta_Write.l0 (k + 1) y0 y1 y2 y3))
 | 0 => ⟨fun _ _ _ _ _ r h => by simp [meta_Write.j0] at h, fun _ _ _ _ _ r h => by simp [meta_Write.j1] at h, fun _ _ _ _ r h => by simp [meta_Write.l0] at h⟩
 | k + 1 => by
  obtain ⟨ih0, ih1, ih2⟩ := meta_Write.mono_l k
  refine ⟨?_, ?_, ?_⟩
  all_goals
   intros
   first | unfold meta_Write.j0 | unfold meta_Write.j1 | unfold meta_Write.l0
   repeat' first
   | (with_reducible exact ih0 _ _ _ _ _)
   | (with_reducible exact ih1 _ _ _ _ _)
   | (with_reducible exact ih2 _ _ _ _)
   | (with_reducible exact meta_shape.mono _ _ _ _ _)
   | (with_reducible exact LeO.refl _)
   | (with_reducible exact LeO.none _)
   | (with_reducible refine LeO.ite ?_ ?_)
   | (with_reducible refine LeO.bind ?_ (fun _ => ?_))
   | exact ih0 _ _ _ _ _
   | exact ih1 _ _ _ _ _
   | exact ih2 _ _ _ _
   | exact meta_shape.mono _ _ _ _ _
   | exact LeO.none _
   | refine LeO.ite ?_ ?_
   | refine LeO.bind ?_ (fun _ => ?_)
theorem meta_Write.mono : ∀ a0 a1 a2 a3 k, LeO (meta_Write.f k a0 a1 a2 a3) (meta_Write.f (k + 1) a0 a1 a2 a3) := by
 intro a0 a1 a2 a3 k
 obtain ⟨ih0, ih1, ih2⟩ := meta_Write.mono_l k
 unfold meta_Write.f
 repeat' first
  | (with_reducible exact ih0 _ _ _ _ _)
  | (with_reducible exact ih1 _ _ _ _ _)
  | (with_reducible exact ih2 _ _ _ _)
  | (with_reducible exact meta_shape.mono _ _ _ _ _)
  | (with_reducible exact LeO.refl _)
  | (with_reducible exact LeO.none _)
  | (with_reducible refine LeO.ite ?_ ?_)
  | (with_reducible refine LeO.bind ?_ (fun _ => ?_))
  | exact ih0 _ _ _ _ _
  | exact ih1 _ _ _ _ _
  | exact ih2 _ _ _ _
  | exact meta_shape.mono _ _ _ _ _
  | exact LeO.none _
  | refine LeO.ite ?_ ?_
  | refine LeO.bind ?_ (fun _ => ?_)
def meta_Write.T4 : Bool × List (List Nat × List Nat) := (true, [([], []), ([], []), ([1], [1]), ([0, 2], [0, 2]), ([3], [3]), ([4], [4]), ([5], [5]), ([6, 0, 0, 1, 2, 3, 4, 5, 6], [6])])
def meta_Write.B4 : List Nat := [0, 0, 2, 7, 15, 31, 63, 127]
theorem meta_Write.tab4 : rtab .any (opsOf Tryz.f10 4) = meta_Write.T4 := by kernel_rfl
theorem meta_Write.bits4 : waitsOk meta_Write.T4.2 meta_Write.B4 = true := by kernel_rfl
set_option maxHeartbeats 8000000 in
set_option maxRecDepth 100000 in
theorem meta_Write.calls (k : Nat) (a0_0 : Int) (a0_1 : ByteArray) (a0_2 : Int) (A0_3 : Option Addr) (c0_3 : Nat) (l0_3 : List (S61)) (r1 : ByteArray) (r2 : Int) (w : World) (hr0_3 : Kd.C k61 w A0_3 l0_3.length l0_3) (hc0_3 : l0_3.length ≤ c0_3) (hv : Vars w) (h : meta_Write.f k a0_0 a0_1 a0_2 l0_3 = some (r1, r2)) :
 Calls Tryz.prog 10 #[.agg #[.int .i64 a0_0, .string a0_1, .int .i64 a0_2, .slice A0_3 l0_3.length c0_3]] w fun e w' => e = .returned (.tuple #[.string r1, .int .i64 r2]) ∧ Below w.heap.size w w' := by
 have hu31 := Tryz.underlying31
 have hu61 := Tryz.underlying61
 have HV := Aside0.mk hv
 clear hv
 have HR0_3 := Aside0.mk hr0_3
 have HC0_3 := Aside0.mk hc0_3
 clear hr0_3 hc0_3
 have HB := Aside0.mk (Below.refl w.heap.size w)
 have H : ((meta_shape.f k a0_0 a0_1 a0_2 l0_3).bind fun t155 => (if t155 = 0 then ((meta_ops.f).bind fun t156 => (if 0 ≤ a0_0 then (if a0_0 < (t156.length : Int) then ((some (([(rd_T63 t156 a0_0).f0] : List ByteArray) : List ByteArray)).bind fun y160 => (if a0_0 = 5 then (meta_Write.j0 k y160 a0_0 a0_1 a0_2 l0_3) else ((meta_Find.f a0_0 a0_1 a0_2 l0_3 98).bind fun bt163 => (if bt163.2 = true then ((meta_Encode.f a0_1).bind fun t165 => (if y160.length < 8796093022208 then (meta_Write.j0 k (y160 ++ [t165]) a0_0 a0_1 a0_2 l0_3) else (none))) else (if y160.length < 8796093022208 then (meta_Write.j0 k (y160 ++ [a0_1]) a0_0 a0_1 a0_2 l0_3) else (none)))))) else (none)) else (none))) else (some ((⟨#[]⟩ : ByteArray), t155)))) = some (r1, r2) := h
 clear h
 replace H := Option.bind_eq_some_iff.mp H
 obtain ⟨t155, A20, H⟩ := H
 replace H : (if t155 = 0 then ((meta_ops.f).bind fun t156 => (if 0 ≤ a0_0 then (if a0_0 < (t156.length : Int) then ((some (([(rd_T63 t156 a0_0).f0] : List ByteArray) : List ByteArray)).bind fun y160 => (if a0_0 = 5 then (meta_Write.j0 k y160 a0_0 a0_1 a0_2 l0_3) else ((meta_Find.f a0_0 a0_1 a0_2 l0_3 98).bind fun bt163 => (if bt163.2 = true then ((meta_Encode.f a0_1).bind fun t165 => (if y160.length < 8796093022208 then (meta_Write.j0 k (y160 ++ [t165]) a0_0 a0_1 a0_2 l0_3) else (none))) else (if y160.length < 8796093022208 then (meta_Write.j0 k (y160 ++ [a0_1]) a0_0 a0_1 a0_2 l0_3) else (none)))))) else (none)) else (none))) else (some ((⟨#[]⟩ : ByteArray), t155))) = some (r1, r2) := H
 have A2 := Aside0.mk A20
 clear A20
 by_cases c3 : t155 = 0
 · rw [if_pos c3] at H
   have c3b0 : (t155 == 0) = true := beq_iff_eq.mpr c3
   have c3b1 : (t155 != 0) = false := bne_eq_false_iff_eq.mpr c3
   clear c3
   replace H := Option.bind_eq_some_iff.mp H
   obtain ⟨t156, A40, H⟩ := H
   replace H : (if 0 ≤ a0_0 then (if a0_0 < (t156.length : Int) then ((some (([(rd_T63 t156 a0_0).f0] : List ByteArray) : List ByteArray)).bind fun y160 => (if a0_0 = 5 then (meta_Write.j0 k y160 a0_0 a0_1 a0_2 l0_3) else ((meta_Find.f a0_0 a0_1 a0_2 l0_3 98).bind fun bt163 => (if bt163.2 = true then ((meta_Encode.f a0_1).bind fun t165 => (if y160.length < 8796093022208 then (meta_Write.j0 k (y160 ++ [t165]) a0_0 a0_1 a0_2 l0_3) else (none))) else (if y160.length < 8796093022208 then (meta_Write.j0 k (y160 ++ [a0_1]) a0_0 a0_1 a0_2 l0_3) else (none)))))) else (none)) else (none)) = some (r1, r2) := H
   have A4 := Aside0.mk A40
   clear A40
   by_cases c5 : 0 ≤ a0_0
   · rw [if_pos c5] at H
     have c5b0 : decide (0 ≤ a0_0) = true := decide_eq_true c5
     clear c5
     by_cases c6 : a0_0 < (t156.length : Int)
     · rw [if_pos c6] at H
       have c6b0 : decide (a0_0 < (t156.length : Int)) = true := decide_eq_true c6
       clear c6
       obtain ⟨y160, hy160⟩ : ∃ y_ : List ByteArray, y_ = (([(rd_T63 t156 a0_0).f0] : List ByteArray)) := ⟨_, rfl⟩
       replace H : (if a0_0 = 5 then (meta_Write.j0 k y160 a0_0 a0_1 a0_2 l0_3) else ((meta_Find.f a0_0 a0_1 a0_2 l0_3 98).bind fun bt163 => (if bt163.2 = true then ((meta_Encode.f a0_1).bind fun t165 => (if y160.length < 8796093022208 then (meta_Write.j0 k (y160 ++ [t165]) a0_0 a0_1 a0_2 l0_3) else (none))) else (if y160.length < 8796093022208 then (meta_Write.j0 k (y160 ++ [a0_1]) a0_0 a0_1 a0_2 l0_3) else (none))))) = some (r1, r2) := by first | (rw [hy160]; with_reducible exact H) | (have H2_ := (Option.bind_some _ _).symm.trans H; rw [hy160]; with_reducible exact H2_) | (have H2_ := (Option.bind_some _ _).symm.trans H; with_reducible exact H2_) | with_reducible exact H | (rw [hy160]; exact H) | exact H
       have Ny160 := Aside0.mk hy160
       clear hy160
       have HC7 := Aside0.mk H
       clear H
       go_enter Tryz.func10, Tryz.ntmps10
       try go_wp2_with (first | ((with_reducible refine gate_dst (N := 1) rfl ?_); refine box_event ?hg (N := 1) ?hd (cs := #[.int .i64 a0_0, .string a0_1, .int .i64 a0_2, .slice A0_3 l0_3.length c0_3]) (t := 31) ?hr ?_; (case hd => rfl); (case hg => rfl); (case hr => first | (go_simp; done) | (go_simp; rfl)); intro gb154 hg w8 hbox hb; have n0_ := Aside0.mk (below_step (hbA HB.out) hb); have n1_ := Aside0.mk (hbox); have n2_ := Aside0.mk ((by rw [hg]; exact (below_size (hbA HB.out)) : w.heap.size ≤ gb154)); have n3_ := Aside0.mk ((by rw [hg]; exact (below_size (hbA HB.out)) : w.heap.size ≤ gb154)); clear HB; have HB := n0_; have BK154 := n1_; have GW154 := n2_; have GE154 := n3_; clear n0_ n1_ n2_ n3_; clear hb hbox hg; obtain ⟨hcz9_0, hcz9_1, hcz9_2, hcz9_3, hfz9_0, hfz9_1, hfz9_2, hfz9_3⟩ := blkA4 BK154.out) | ((with_reducible refine gate_callee (f := 28) rfl ?_); refine goesL_ (some 13) rfl rfl Tryz.func28 (by kernel_rfl) rfl #[.agg #[.int .i64 a0_0, .string a0_1, .int .i64 a0_2, .slice A0_3 l0_3.length c0_3]] rfl argA ?_; (with_reducible refine (meta_shape.calls k a0_0 a0_1 a0_2 _ _ l0_3 t155 _ ?side1 ?side2 ?side3 A2.out).mono ?_); (case side1 => repeat (first | exact (Kd.C_below HR0_3.out HB.out) | (with_reducible refine Kd.C_alloc ?_ _) | (with_reducible refine Kd.C_drewN ?_ _) | (with_reducible refine Kd.C_drew ?_))); (case side2 => exact HC0_3.out); (case side3 => exact Vars.below HV.out (hbA HB.out)); rintro e w10 ⟨rfl, hb⟩; refine ⟨_, rfl, ?_⟩; replace BK154 := Aside0.mk (blk_below (g := gb154) (o := .cells #[.int .i64 a0_0, .string a0_1, .int .i64 a0_2, .slice A0_3 l0_3.length c0_3] 31 (0, 0)) (rbA BK154.out) hb); replace HB := Aside0.mk (below_step (hbA HB.out) hb); (try clear hb); (try clear hb2); (try clear hk); (try clear hi)))
       replace BK154 := Aside0.mk (blk_drew BK154.out)
       replace HB := Aside0.mk (below_drew1 HB.out)
       refine start_ (n := 8) (S := fun w' => w'.cell? ⟨gb154, 0, none⟩ = some (.int .i64 a0_0) ∧ w'.cell? ⟨gb154, 1, none⟩ = some (.string a0_1) ∧ w'.cell? ⟨gb154, 2, none⟩ = some (.int .i64 a0_2) ∧ w'.cell? ⟨gb154, 3, none⟩ = some (.slice A0_3 l0_3.length c0_3)) (ds := []) #[false, false, false, false, false, false, false, false] (by kernel_rfl) rfl rfl ⟨(blk_cell BK154.out 0).trans rfl, (blk_cell BK154.out 1).trans rfl, (blk_cell BK154.out 2).trans rfl, (blk_cell BK154.out 3).trans rfl⟩ (fun hHeld => ?_); refine with_tabW meta_Write.tab4 meta_Write.bits4 (fun HT_ HW_ => ?_)
       generalize w10.drew = w11 at BK154 HB hHeld ⊢
       refine pureA_ (i := 1) (N := some 18) #[false, true, false, false, false, false, false, false] rfl rfl ?_ (hc := any_of HT_.out (by kernel_rfl))
       refine takeA_ (i := 2) (N := some 19) #[false, true, true, false, false, false, false, false] rfl rfl hHeld ?_ (hc := take_ofW HT_.out HW_.out (by kernel_rfl)) (hy := by rintro w' ⟨s0, s1, s2, s3⟩; go_simp; with_reducible rfl)
       refine one_ (i := 0) (N := some 17) #[true, true, true, false, false, false, false, false] rfl rfl (one_of HT_.out (by kernel_rfl)) (by decide) (fun K hK => ?_)
       refine goes_ Tryz.func29 (by kernel_rfl) rfl #[] (by rfl) rfl rfl argA ?_
       with_reducible refine (meta_ops.calls  t156 _ A4.out).mono ?_
       rintro e w12 ⟨v157, rfl, ho0, hb⟩
       refine ⟨_, rfl, ?_⟩
       have n0_ := Aside0.mk (Kd.R_lower ho0 (below_size (hbA HB.out)))
       have n1_ := Aside0.mk (blk_below (g := gb154) (o := .cells #[.int .i64 a0_0, .string a0_1, .int .i64 a0_2, .slice A0_3 l0_3.length c0_3] 31 (0, 0)) (rbA BK154.out) hb)
       have n2_ := Aside0.mk (below_step (hbA HB.out) hb)
       clear BK154
       clear HB
       have HO158 := n0_
       have BK154 := n1_
       have HB := n2_
       clear n0_ n1_ n2_
       (try clear hb)
       (try clear hb2)
       (try clear hk)
       (try clear hi)
       (try clear ho0)
       obtain ⟨Ao13, co13, eo13⟩ := Kd.R_slice HO158.out
       (first | subst eo13 | (injection eo13 with f1_ f2_ f3_; have f4_ := f1_.symm; have f5_ := f3_.symm; clear f1_ f2_ f3_; subst f4_; subst f5_))
       have p159 : 0 ≤ (a0_0 : Int) := of_decide_eq_true asA
       have q159 : a0_0 < (t156.length : Int) := of_decide_eq_true asA
       obtain ⟨ad159, e159, hx159_0, hx159_1⟩ := at_T63 (Kd.R_reads' HO158.out).2.2 a0_0 p159 q159
       cases e159
       replace p159 := eq_true p159
       replace q159 := eq_true q159
       refine hK.out _ _ ⟨(blk_cell BK154.out 0).trans rfl, (blk_cell BK154.out 1).trans rfl, (blk_cell BK154.out 2).trans rfl, (blk_cell BK154.out 3).trans rfl⟩ (fun hHeld => ?_)
       clear hK K
       refine normA_ ?_
       refine pureA_ (i := 3) (N := some 20) #[true, true, true, true, false, false, false, false] rfl rfl ?_ (hc := any_of HT_.out (by kernel_rfl))
       refine pureA_ (i := 4) (N := some 21) #[true, true, true, true, true, false, false, false] rfl rfl ?_ (hc := any_of HT_.out (by kernel_rfl))
       refine one_ (i := 5) (N := some 22) #[true, true, true, true, true, true, false, false] rfl rfl (one_of HT_.out (by kernel_rfl)) (by decide) (fun K hK => ?_)
       refine read_step (v := ?_) rfl ?_ ?_
       rotate_left
       · go_simp
         with_reducible rfl
       refine hK.out _ _ ⟨(blk_cell BK154.out 0).trans rfl, (blk_cell BK154.out 1).trans rfl, (blk_cell BK154.out 2).trans rfl, (blk_cell BK154.out 3).trans rfl⟩ (fun hHeld => ?_)
       clear hK K
       refine normA_ ?_
       refine one_ (i := 6) (N := some 23) #[true, true, true, true, true, true, true, false] rfl rfl (one_of HT_.out (by kernel_rfl)) (by decide) (fun K hK => ?_)
       refine Kd.R_lit_step Kd.string _ 9 ?hg (N := 23) ?hd (xs := ([(rd_T63 t156 a0_0).f0] : List ByteArray)) (inner := [.string ((rd_T63 t156 a0_0).f0)]) (ok := fun _ => True) (okp := fun _ => True) ?hr ?hp (fun _ hk => hk) trivial (Below.refl _ _) (Nat.le_refl _) (by simp) ?_; (case hd => rfl); (case hg => rfl); (case hr => first | (go_simp; done) | (go_simp; rfl)); (case hp => exact (Reps.one (show Kd.M Kd.string _ _ _ ((rd_T63 t156 a0_0).f0) [.string ((rd_T63 t156 a0_0).f0)] from rfl) (Reps.none _ _)))
       intro v161 w14 ho15 hb hg_ hnew_
       clear hg_ hnew_
       (first | rw [← Ny160.out] at ho15 | (simp only [Int.reduceToNat] at ho15; rw [← Ny160.out] at ho15))
       have n0_ := Aside0.mk (Kd.R_below (rdA HO158.out) hb)
       have n1_ := Aside0.mk (Kd.R_lower ho15 (below_size (hbA HB.out)))
       have n2_ := Aside0.mk (blk_below (g := gb154) (o := .cells #[.int .i64 a0_0, .string a0_1, .int .i64 a0_2, .slice A0_3 l0_3.length c0_3] 31 (0, 0)) (rbA BK154.out) hb)
       have n3_ := Aside0.mk (below_step (hbA HB.out) hb)
       clear HO158
       clear BK154
       clear HB
       have HO158 := n0_
       have HO162 := n1_
       have BK154 := n2_
       have HB := n3_
       clear n0_ n1_ n2_ n3_
       clear hb ho15
       refine hK.out _ _ ⟨(blk_cell BK154.out 0).trans rfl, (blk_cell BK154.out 1).trans rfl, (blk_cell BK154.out 2).trans rfl, (blk_cell BK154.out 3).trans rfl⟩ (fun hHeld => ?_)
       clear hK K
       refine normA_ ?_
       refine pureA_ (i := 7) (N := some 5) #[true, true, true, true, true, true, true, true] rfl rfl ?_ (hc := any_of HT_.out (by kernel_rfl))
       refine done_ (done_of HT_.out (by kernel_rfl)) ?_
       obtain ⟨hcz16_0, hcz16_1, hcz16_2, hcz16_3, hfz16_0, hfz16_1, hfz16_2, hfz16_3⟩ := blkA4 BK154.out
       go_upto_if 26 with (fail)
       go_cut [5] (fun v5 wc => ∃ (kq : Nat) (x5_6 : List ByteArray), Aside0 (meta_Write.j0 kq x5_6 a0_0 a0_1 a0_2 l0_3 = some (r1, r2)) ∧ Aside0 (kq ≤ k) ∧ Aside0 (Kd.R Kd.string 9 wc w.heap.size (fun _ => True) v5 x5_6) ∧ Aside0 (wc.heap[gb154]? = some (.cells #[.int .i64 a0_0, .string a0_1, .int .i64 a0_2, (.slice A0_3 l0_3.length c0_3)] 31 (0, 0))) ∧ Aside0 (Below w.heap.size w wc))
       case first =>
        have H := HC7.out
        clear HC7
        by_cases c17 : a0_0 = 5
        · rw [if_pos c17] at H
          have c17b0 : (a0_0 == 5) = true := beq_iff_eq.mpr c17
          have c17b1 : (a0_0 != 5) = false := bne_eq_false_iff_eq.mpr c17
          clear c17
          (first | rw [c17b0] | (simp only [i64_w, i32_w]; rw [c17b0]) | skip)
          have H' := Aside0.mk H
          clear H
          go_wp2
          go_meet
          case rel => exact ⟨_, (y160), H', ⟨by first | omega | exact Nat.le_refl _⟩, ⟨rdA HO162.out⟩, ⟨rbA BK154.out⟩, ⟨hbA HB.out⟩⟩
        rw [if_neg c17] at H
        have c17b0 : (a0_0 == 5) = false := beq_eq_false_iff_ne.mpr c17
        have c17b1 : (a0_0 != 5) = true := bne_iff_ne.mpr c17
        (first | rw [c17b0] | (simp only [i64_w, i32_w]; rw [c17b0]) | skip)
        replace H := Option.bind_eq_some_iff.mp H
        obtain ⟨⟨t163, t164⟩, A180, H⟩ := H
        replace H : (if t164 = true then ((meta_Encode.f a0_1).bind fun t165 => (if y160.length < 8796093022208 then (meta_Write.j0 k (y160 ++ [t165]) a0_0 a0_1 a0_2 l0_3) else (none))) else (if y160.length < 8796093022208 then (meta_Write.j0 k (y160 ++ [a0_1]) a0_0 a0_1 a0_2 l0_3) else (none))) = some (r1, r2) := H
        have A18 := Aside0.mk A180
        clear A180
        by_cases c19 : t164 = true
        · subst c19
          have H1 : ((meta_Encode.f a0_1).bind fun t165 => (if y160.length < 8796093022208 then (meta_Write.j0 k (y160 ++ [t165]) a0_0 a0_1 a0_2 l0_3) else (none))) = some (r1, r2) := by rw [if_pos rfl] at H; exact H
          clear H
          have H := H1
          clear H1
          replace H := Option.bind_eq_some_iff.mp H
          obtain ⟨t165, A200, H⟩ := H
          replace H : (if y160.length < 8796093022208 then (meta_Write.j0 k (y160 ++ [t165]) a0_0 a0_1 a0_2 l0_3) else (none)) = some (r1, r2) := H
          have A20 := Aside0.mk A200
          clear A200
          by_cases c21 : y160.length < 8796093022208
          · rw [if_pos c21] at H
            have LMc21 := Aside0.mk c21
            clear c21
            obtain ⟨y166, hy166⟩ : ∃ y_ : List ByteArray, y_ = (y160 ++ [t165]) := ⟨_, rfl⟩
            replace H : (meta_Write.j0 k y166 a0_0 a0_1 a0_2 l0_3) = some (r1, r2) := by first | (rw [hy166]; with_reducible exact H) | (have H2_ := (Option.bind_some _ _).symm.trans H; rw [hy166]; with_reducible exact H2_) | (have H2_ := (Option.bind_some _ _).symm.trans H; with_reducible exact H2_) | with_reducible exact H | (rw [hy166]; exact H) | exact H
            have Ny166 := Aside0.mk hy166
            clear hy166
            have H' := Aside0.mk H
            clear H
            obtain ⟨hcz22_0, hcz22_1, hcz22_2, hcz22_3, hfz22_0, hfz22_1, hfz22_2, hfz22_3⟩ := blkA4 BK154.out
            go_wp2_with (first | ((with_reducible refine gate_callee (f := 15) rfl ?_); refine goesL_ (some 31) rfl rfl Tryz.func15 (by kernel_rfl) rfl #[.agg #[.int .i64 a0_0, .string a0_1, .int .i64 a0_2, .slice A0_3 l0_3.length c0_3], .int .u8 98] rfl argA ?_; (with_reducible refine (meta_Find.calls a0_0 a0_1 a0_2 _ _ l0_3 98 t163 true _ ?side1 ?side2 A18.out).mono ?_); (case side1 => repeat (first | exact (Kd.C_below HR0_3.out HB.out) | (with_reducible refine Kd.C_alloc ?_ _) | (with_reducible refine Kd.C_drewN ?_ _) | (with_reducible refine Kd.C_drew ?_))); (case side2 => exact HC0_3.out); rintro e w23 ⟨rfl, hb⟩; refine ⟨_, rfl, ?_⟩; replace HO158 := Aside0.mk (Kd.R_below (rdA HO158.out) hb); replace HO162 := Aside0.mk (Kd.R_below (rdA HO162.out) hb); replace BK154 := Aside0.mk (blk_below (g := gb154) (o := .cells #[.int .i64 a0_0, .string a0_1, .int .i64 a0_2, .slice A0_3 l0_3.length c0_3] 31 (0, 0)) (rbA BK154.out) hb); replace HB := Aside0.mk (below_step (hbA HB.out) hb); (try clear hb); (try clear hb2); (try clear hk); (try clear hi)) | ((with_reducible refine gate_callee (f := 26) rfl ?_); refine goesL_ (some 36) rfl rfl Tryz.func26 (by kernel_rfl) rfl #[.string a0_1] rfl argA ?_; (with_reducible refine (meta_Encode.calls a0_1 t165 _ A20.out).mono ?_); rintro e w24 ⟨rfl, hb⟩; refine ⟨_, rfl, ?_⟩; replace HO158 := Aside0.mk (Kd.R_below (rdA HO158.out) hb); replace HO162 := Aside0.mk (Kd.R_below (rdA HO162.out) hb); replace BK154 := Aside0.mk (blk_below (g := gb154) (o := .cells #[.int .i64 a0_0, .string a0_1, .int .i64 a0_2, .slice A0_3 l0_3.length c0_3] 31 (0, 0)) (rbA BK154.out) hb); replace HB := Aside0.mk (below_step (hbA HB.out) hb); (try clear hb); (try clear hb2); (try clear hk); (try clear hi)) | ((with_reducible refine gate_builtin (b := .append) (xs := #[.tmp 37, .tmp 39]) rfl ?_); at_builtin; refine Kd.R_append Kd.string (w0 := w) w.heap.size rfl (.tmp 37) (.tmp 39) 66 9 (.string ⟨#[]⟩) 16 rfl Tryz.underlying66 info9 rfl (by decide) (by omega) v161 y160 t165 [.string t165] (fun _ => True) (fun _ => False) rfl rfl ?aP (fun _ hk => hk.elim) ?aF ?aO ?aB ?aS ?aL ?_; (case aP => exact rfl); (case aB => exact (hbA HB.out)); (case aF => exact (fun _ _ => trivial)); (case aO => exact (rdA HO162.out)); (case aS => exact (below_size (hbA HB.out))); (case aL => have := LMc21.out; omega); intro v167 w25 ho hb hg hat; rw [← Ny166.out] at ho; have n0_ := Aside0.mk (blk_grown (g := gb154) (o := .cells #[.int .i64 a0_0, .string a0_1, .int .i64 a0_2, .slice A0_3 l0_3.length c0_3] 31 (0, 0)) (rbA BK154.out) hg (Kd.R_ne HO162.out BK154.out (by decide))); have n1_ := Aside0.mk (Kd.R_over' (rdA HO158.out) (Kd.R_typed (rdA HO162.out)) (by decide) hg); have n2_ := Aside0.mk (hb); have n3_ := Aside0.mk (ho); clear BK154; clear HO158; clear HB; clear HO162; have BK154 := n0_; have HO158 := n1_; have HB := n2_; have HO168 := n3_; clear n0_ n1_ n2_ n3_; clear ho hb hg hat))
            go_meet
            case rel => exact ⟨_, (y166), H', ⟨by first | omega | exact Nat.le_refl _⟩, ⟨rdA HO168.out⟩, ⟨rbA BK154.out⟩, ⟨hbA HB.out⟩⟩
          rw [if_neg c21] at H
          exact absurd H (by simp)
        replace c19 := Bool.eq_false_iff.mpr c19
        subst c19
        have H1 : (if y160.length < 8796093022208 then (meta_Write.j0 k (y160 ++ [a0_1]) a0_0 a0_1 a0_2 l0_3) else (none)) = some (r1, r2) := by rw [if_neg (show ¬ (false = true) by decide)] at H; exact H
        clear H
        have H := H1
        clear H1
        by_cases c26 : y160.length < 8796093022208
        · rw [if_pos c26] at H
          have LMc26 := Aside0.mk c26
          clear c26
          obtain ⟨y169, hy169⟩ : ∃ y_ : List ByteArray, y_ = (y160 ++ [a0_1]) := ⟨_, rfl⟩
          replace H : (meta_Write.j0 k y169 a0_0 a0_1 a0_2 l0_3) = some (r1, r2) := by first | (rw [hy169]; with_reducible exact H) | (have H2_ := (Option.bind_some _ _).symm.trans H; rw [hy169]; with_reducible exact H2_) | (have H2_ := (Option.bind_some _ _).symm.trans H; with_reducible exact H2_) | with_reducible exact H | (rw [hy169]; exact H) | exact H
          have Ny169 := Aside0.mk hy169
          clear hy169
          have H' := Aside0.mk H
          clear H
          obtain ⟨hcz27_0, hcz27_1, hcz27_2, hcz27_3, hfz27_0, hfz27_1, hfz27_2, hfz27_3⟩ := blkA4 BK154.out
          go_wp2_with (first | ((with_reducible refine gate_callee (f := 15) rfl ?_); refine goesL_ (some 31) rfl rfl Tryz.func15 (by kernel_rfl) rfl #[.agg #[.int .i64 a0_0, .string a0_1, .int .i64 a0_2, .slice A0_3 l0_3.length c0_3], .int .u8 98] rfl argA ?_; (with_reducible refine (meta_Find.calls a0_0 a0_1 a0_2 _ _ l0_3 98 t163 false _ ?side1 ?side2 A18.out).mono ?_); (case side1 => repeat (first | exact (Kd.C_below HR0_3.out HB.out) | (with_reducible refine Kd.C_alloc ?_ _) | (with_reducible refine Kd.C_drewN ?_ _) | (with_reducible refine Kd.C_drew ?_))); (case side2 => exact HC0_3.out); rintro e w28 ⟨rfl, hb⟩; refine ⟨_, rfl, ?_⟩; replace HO158 := Aside0.mk (Kd.R_below (rdA HO158.out) hb); replace HO162 := Aside0.mk (Kd.R_below (rdA HO162.out) hb); replace BK154 := Aside0.mk (blk_below (g := gb154) (o := .cells #[.int .i64 a0_0, .string a0_1, .int .i64 a0_2, .slice A0_3 l0_3.length c0_3] 31 (0, 0)) (rbA BK154.out) hb); replace HB := Aside0.mk (below_step (hbA HB.out) hb); (try clear hb); (try clear hb2); (try clear hk); (try clear hi)) | ((with_reducible refine gate_builtin (b := .append) (xs := #[.tmp 37, .tmp 39]) rfl ?_); at_builtin; refine Kd.R_append Kd.string (w0 := w) w.heap.size rfl (.tmp 37) (.tmp 39) 66 9 (.string ⟨#[]⟩) 16 rfl Tryz.underlying66 info9 rfl (by decide) (by omega) v161 y160 a0_1 [.string a0_1] (fun _ => True) (fun _ => False) rfl rfl ?aP (fun _ hk => hk.elim) ?aF ?aO ?aB ?aS ?aL ?_; (case aP => exact rfl); (case aB => exact (hbA HB.out)); (case aF => exact (fun _ _ => trivial)); (case aO => exact (rdA HO162.out)); (case aS => exact (below_size (hbA HB.out))); (case aL => have := LMc26.out; omega); intro v170 w29 ho hb hg hat; rw [← Ny169.out] at ho; have n0_ := Aside0.mk (blk_grown (g := gb154) (o := .cells #[.int .i64 a0_0, .string a0_1, .int .i64 a0_2, .slice A0_3 l0_3.length c0_3] 31 (0, 0)) (rbA BK154.out) hg (Kd.R_ne HO162.out BK154.out (by decide))); have n1_ := Aside0.mk (Kd.R_over' (rdA HO158.out) (Kd.R_typed (rdA HO162.out)) (by decide) hg); have n2_ := Aside0.mk (hb); have n3_ := Aside0.mk (ho); clear BK154; clear HO158; clear HB; clear HO162; have BK154 := n0_; have HO158 := n1_; have HB := n2_; have HO171 := n3_; clear n0_ n1_ n2_ n3_; clear ho hb hg hat))
          go_meet
          case rel => exact ⟨_, (y169), H', ⟨by first | omega | exact Nat.le_refl _⟩, ⟨rdA HO171.out⟩, ⟨rbA BK154.out⟩, ⟨hbA HB.out⟩⟩
        rw [if_neg c26] at H
        exact absurd H (by simp)
       clear HC7
       (try clear c1); (try clear p1); (try clear q1); (try clear hx1); (try clear c2); (try clear p2); (try clear c3); (try clear c3b0); (try clear c3b1); (try clear c5); (try clear c5b0); (try clear c6); (try clear c6b0); (try clear c10); (try clear c15); (try clear p15); (try clear q15); (try clear hx15); (try clear c17); (try clear c17b0); (try clear c17b1); (try clear c19); (try clear c21); (try clear c26); (try clear c28); (try clear c29); (try clear hcz16_0); (try clear hcz16_1); (try clear hcz16_2); (try clear hcz16_3); (try clear hcz22_0); (try clear hcz22_1); (try clear hcz22_2); (try clear hcz22_3); (try clear hcz27_0); (try clear hcz27_1); (try clear hcz27_2); (try clear hcz27_3); (try clear hcz9_0); (try clear hcz9_1); (try clear hcz9_2); (try clear hcz9_3); (try clear hfz16_0); (try clear hfz16_1); (try clear hfz16_2); (try clear hfz16_3); (try clear hfz22_0); (try clear hfz22_1); (try clear hfz22_2); (try clear hfz22_3); (try clear hfz27_0); (try clear hfz27_1); (try clear hfz27_2); (try clear hfz27_3); (try clear hfz9_0); (try clear hfz9_1); (try clear hfz9_2); (try clear hfz9_3); (try clear hx159_0); (try clear hx159_1); (try clear p159); (try clear q159)
       obtain ⟨kq, x5_6, HA, HJ6, HO_5, BK154, HB⟩ := hcut
       cases kq with
       | zero => exact absurd HA.out (by simp [meta_Write.j0])
       | succ kj6 =>
        have H := HA.out
        clear HA
        simp only [meta_Write.j0] at H
        have HC30 := Aside0.mk H
        clear H
        obtain ⟨hcz31_0, hcz31_1, hcz31_2, hcz31_3, hfz31_0, hfz31_1, hfz31_2, hfz31_3⟩ := blkA4 BK154.out
        go_upto_if 43 with (fail)
        go_cut [5] (fun v5 wc => ∃ (kq : Nat) (x5_29 : List ByteArray), Aside0 (meta_Write.j1 kq x5_29 a0_0 a0_1 a0_2 l0_3 = some (r1, r2)) ∧ Aside0 (kq ≤ kj6) ∧ Aside0 (Kd.R Kd.string 9 wc w.heap.size (fun _ => True) v5 x5_29) ∧ Aside0 (wc.heap[gb154]? = some (.cells #[.int .i64 a0_0, .string a0_1, .int .i64 a0_2, (.slice A0_3 l0_3.length c0_3)] 31 (0, 0))) ∧ Aside0 (Below w.heap.size w wc))
        case first =>
         have H := HC30.out
         clear HC30
         by_cases c32 : a0_0 = 2
         · rw [if_pos c32] at H
           have c32b0 : (a0_0 == 2) = true := beq_iff_eq.mpr c32
           have c32b1 : (a0_0 != 2) = false := bne_eq_false_iff_eq.mpr c32
           clear c32
           (first | rw [c32b0] | (simp only [i64_w, i32_w]; rw [c32b0]) | skip)
           replace H := Option.bind_eq_some_iff.mp H
           obtain ⟨t172, A330, H⟩ := H
           replace H : (if x5_6.length < 8796093022208 then (meta_Write.j1 kj6 (x5_6 ++ [t172]) a0_0 a0_1 a0_2 l0_3) else (none)) = some (r1, r2) := H
           have A33 := Aside0.mk A330
           clear A330
           by_cases c34 : x5_6.length < 8796093022208
           · rw [if_pos c34] at H
             have LMc34 := Aside0.mk c34
             clear c34
             obtain ⟨y173, hy173⟩ : ∃ y_ : List ByteArray, y_ = (x5_6 ++ [t172]) := ⟨_, rfl⟩
             replace H : (meta_Write.j1 kj6 y173 a0_0 a0_1 a0_2 l0_3) = some (r1, r2) := by first | (rw [hy173]; with_reducible exact H) | (have H2_ := (Option.bind_some _ _).symm.trans H; rw [hy173]; with_reducible exact H2_) | (have H2_ := (Option.bind_some _ _).symm.trans H; with_reducible exact H2_) | with_reducible exact H | (rw [hy173]; exact H) | exact H
             have Ny173 := Aside0.mk hy173
             clear hy173
             have H' := Aside0.mk H
             clear H
             obtain ⟨hcz35_0, hcz35_1, hcz35_2, hcz35_3, hfz35_0, hfz35_1, hfz35_2, hfz35_3⟩ := blkA4 BK154.out
             go_wp2_with (first | ((with_reducible refine gate_callee (f := 30) rfl ?_); refine goesL_ (some 48) rfl rfl Tryz.func30 (by kernel_rfl) rfl #[.int .u64 (IntKind.u64.wrap (a0_2))] rfl argA ?_; (with_reducible refine (digits_Text.calls (IntKind.u64.wrap (a0_2)) t172 _ ?side1 A33.out).mono ?_); (case side1 => exact Vars.below HV.out (hbA HB.out)); rintro e w36 ⟨rfl, hb⟩; refine ⟨_, rfl, ?_⟩; replace HO_5 := Aside0.mk (Kd.R_below (rdA HO_5.out) hb); replace BK154 := Aside0.mk (blk_below (g := gb154) (o := .cells #[.int .i64 a0_0, .string a0_1, .int .i64 a0_2, .slice A0_3 l0_3.length c0_3] 31 (0, 0)) (rbA BK154.out) hb); replace HB := Aside0.mk (below_step (hbA HB.out) hb); (try clear hb); (try clear hb2); (try clear hk); (try clear hi)) | ((with_reducible refine gate_builtin (b := .append) (xs := #[.tmp 44, .tmp 49]) rfl ?_); at_builtin; refine Kd.R_append Kd.string (w0 := w) w.heap.size rfl (.tmp 44) (.tmp 49) 66 9 (.string ⟨#[]⟩) 16 rfl Tryz.underlying66 info9 rfl (by decide) (by omega) u5 x5_6 t172 [.string t172] (fun _ => True) (fun _ => False) rfl rfl ?aP (fun _ hk => hk.elim) ?aF ?aO ?aB ?aS ?aL ?_; (case aP => exact rfl); (case aB => exact (hbA HB.out)); (case aF => exact (fun _ _ => trivial)); (case aO => exact (rdA HO_5.out)); (case aS => exact (below_size (hbA HB.out))); (case aL => have := LMc34.out; omega); intro v174 w37 ho hb hg hat; rw [← Ny173.out] at ho; have n0_ := Aside0.mk (blk_grown (g := gb154) (o := .cells #[.int .i64 a0_0, .string a0_1, .int .i64 a0_2, .slice A0_3 l0_3.length c0_3] 31 (0, 0)) (rbA BK154.out) hg (Kd.R_ne HO_5.out BK154.out (by decide))); have n1_ := Aside0.mk (hb); have n2_ := Aside0.mk (ho); clear BK154; clear HB; clear HO_5; have BK154 := n0_; have HB := n1_; have HO175 := n2_; clear n0_ n1_ n2_; clear ho hb hg hat))
             go_meet
             case rel => exact ⟨_, (y173), H', ⟨by have := HJ6.out; first | omega | exact Nat.le_refl _⟩, ⟨rdA HO175.out⟩, ⟨rbA BK154.out⟩, ⟨hbA HB.out⟩⟩
           rw [if_neg c34] at H
           exact absurd H (by simp)
         rw [if_neg c32] at H
         have c32b0 : (a0_0 == 2) = false := beq_eq_false_iff_ne.mpr c32
         have c32b1 : (a0_0 != 2) = true := bne_iff_ne.mpr c32
         (first | rw [c32b0] | (simp only [i64_w, i32_w]; rw [c32b0]) | skip)
         have H' := Aside0.mk H
         clear H
         go_wp2
         go_meet
         case rel => exact ⟨_, (x5_6), H', ⟨by have := HJ6.out; first | omega | exact Nat.le_refl _⟩, ⟨rdA HO_5.out⟩, ⟨rbA BK154.out⟩, ⟨hbA HB.out⟩⟩
        clear HC30
        (try clear c1); (try clear p1); (try clear q1); (try clear hx1); (try clear c2); (try clear p2); (try clear c3); (try clear c3b0); (try clear c3b1); (try clear c5); (try clear c5b0); (try clear c6); (try clear c6b0); (try clear c10); (try clear c15); (try clear p15); (try clear q15); (try clear hx15); (try clear c17); (try clear c17b0); (try clear c17b1); (try clear c19); (try clear c21); (try clear c26); (try clear c28); (try clear c29); (try clear c30); (try clear c32); (try clear c32b0); (try clear c32b1); (try clear c34); (try clear hcz16_0); (try clear hcz16_1); (try clear hcz16_2); (try clear hcz16_3); (try clear hcz22_0); (try clear hcz22_1); (try clear hcz22_2); (try clear hcz22_3); (try clear hcz27_0); (try clear hcz27_1); (try clear hcz27_2); (try clear hcz27_3); (try clear hcz31_0); (try clear hcz31_1); (try clear hcz31_2); (try clear hcz31_3); (try clear hcz35_0); (try clear hcz35_1); (try clear hcz35_2); (try clear hcz35_3); (try clear hcz9_0); (try clear hcz9_1); (try clear hcz9_2); (try clear hcz9_3); (try clear hfz16_0); (try clear hfz16_1); (try clear hfz16_2); (try clear hfz16_3); (try clear hfz22_0); (try clear hfz22_1); (try clear hfz22_2); (try clear hfz22_3); (try clear hfz27_0); (try clear hfz27_1); (try clear hfz27_2); (try clear hfz27_3); (try clear hfz31_0); (try clear hfz31_1); (try clear hfz31_2); (try clear hfz31_3); (try clear hfz35_0); (try clear hfz35_1); (try clear hfz35_2); (try clear hfz35_3); (try clear hfz9_0); (try clear hfz9_1); (try clear hfz9_2); (try clear hfz9_3); (try clear hx159_0); (try clear hx159_1); (try clear p1); (try clear p15); (try clear p159); (try clear p2); (try clear q1); (try clear q15); (try clear q159)
        obtain ⟨kq, x5_29, HA, HJ29, HO_5, BK154, HB⟩ := hcut
        cases kq with
        | zero => exact absurd HA.out (by simp [meta_Write.j1])
        | succ kj29 =>
         have H := HA.out
         clear HA
         simp only [meta_Write.j1] at H
         have H' := Aside0.mk H
         clear H
         obtain ⟨hcz38_0, hcz38_1, hcz38_2, hcz38_3, hfz38_0, hfz38_1, hfz38_2, hfz38_3⟩ := blkA4 BK154.out
         go_wp2
         go_loopg [5, 54] kj29 (fun kq v5 v54 w' => ∃ (x5_3 : List ByteArray) (x54_3 : Int), v54 = .int .i64 x54_3 ∧ Aside0 (meta_Write.l0 kq x5_3 l0_3 (l0_3.length : Int) x54_3 = some (r1, r2)) ∧ Aside0 (kq ≤ kj29) ∧ Aside0 (Kd.R Kd.string 9 w' w.heap.size (fun _ => True) v5 x5_3) ∧ Aside0 (w'.heap[gb154]? = some (.cells #[.int .i64 a0_0, .string a0_1, .int .i64 a0_2, (.slice A0_3 l0_3.length c0_3)] 31 (0, 0))) ∧ Aside0 (Below w.heap.size w w'))
         case atStart => exact ⟨(x5_29), (0), rsA, H', ⟨Nat.le_refl _⟩, ⟨rdA HO_5.out⟩, ⟨rbA BK154.out⟩, ⟨hbA HB.out⟩⟩
         case round =>
          clear H'
          (try clear c1); (try clear p1); (try clear q1); (try clear hx1); (try clear c2); (try clear p2); (try clear c3); (try clear c3b0); (try clear c3b1); (try clear c5); (try clear c5b0); (try clear c6); (try clear c6b0); (try clear c10); (try clear c15); (try clear p15); (try clear q15); (try clear hx15); (try clear c17); (try clear c17b0); (try clear c17b1); (try clear c19); (try clear c21); (try clear c26); (try clear c28); (try clear c29); (try clear c30); (try clear c32); (try clear c32b0); (try clear c32b1); (try clear c34); (try clear hcz16_0); (try clear hcz16_1); (try clear hcz16_2); (try clear hcz16_3); (try clear hcz22_0); (try clear hcz22_1); (try clear hcz22_2); (try clear hcz22_3); (try clear hcz27_0); (try clear hcz27_1); (try clear hcz27_2); (try clear hcz27_3); (try clear hcz31_0); (try clear hcz31_1); (try clear hcz31_2); (try clear hcz31_3); (try clear hcz35_0); (try clear hcz35_1); (try clear hcz35_2); (try clear hcz35_3); (try clear hcz38_0); (try clear hcz38_1); (try clear hcz38_2); (try clear hcz38_3); (try clear hcz9_0); (try clear hcz9_1); (try clear hcz9_2); (try clear hcz9_3); (try clear hfz16_0); (try clear hfz16_1); (try clear hfz16_2); (try clear hfz16_3); (try clear hfz22_0); (try clear hfz22_1); (try clear hfz22_2); (try clear hfz22_3); (try clear hfz27_0); (try clear hfz27_1); (try clear hfz27_2); (try clear hfz27_3); (try clear hfz31_0); (try clear hfz31_1); (try clear hfz31_2); (try clear hfz31_3); (try clear hfz35_0); (try clear hfz35_1); (try clear hfz35_2); (try clear hfz35_3); (try clear hfz38_0); (try clear hfz38_1); (try clear hfz38_2); (try clear hfz38_3); (try clear hfz9_0); (try clear hfz9_1); (try clear hfz9_2); (try clear hfz9_3); (try clear hx159_0); (try clear hx159_1); (try clear p1); (try clear p15); (try clear p159); (try clear p2); (try clear q1); (try clear q15); (try clear q159)
          obtain ⟨x5_3, x54_3, rfl, HA, HK3, HO_5, BK154, HB⟩ := hrel
          cases gk with
          | zero => exact absurd HA.out (by simp [meta_Write.l0])
          | succ k3 =>
           have H := HA.out
           clear HA
           simp only [meta_Write.l0] at H
           by_cases c39 : x54_3 < (l0_3.length : Int)
           · rw [if_pos c39] at H
             have c39b0 : decide (x54_3 < (l0_3.length : Int)) = true := decide_eq_true c39
             clear c39
             by_cases c40 : 0 ≤ x54_3
             · rw [if_pos c40] at H
               have c40b0 : decide (0 ≤ x54_3) = true := decide_eq_true c40
               clear c40
               by_cases c41 : x54_3 < (l0_3.length : Int)
               · rw [if_pos c41] at H
                 have c41b0 : decide (x54_3 < (l0_3.length : Int)) = true := decide_eq_true c41
                 clear c41
                 by_cases c42 : (Utf8.encode (wrap32 ((rd_T61 l0_3 x54_3).f0))).size + ((rd_T61 l0_3 x54_3).f1).size ≤ 9223372036854775807
                 · rw [if_pos c42] at H
                   have c42b0 := eq_true c42
                   have c42b1 : decide ((Utf8.encode (wrap32 ((rd_T61 l0_3 x54_3).f0))).size + ((rd_T61 l0_3 x54_3).f1).size ≤ 9223372036854775807) = true := decide_eq_true c42
                   try have c42b2 : (9223372036854775807 < (Utf8.encode (wrap32 ((rd_T61 l0_3 x54_3).f0))).size + ((rd_T61 l0_3 x54_3).f1).size) = False := eq_false (Nat.not_lt.2 c42)
                   by_cases c43 : x5_3.length < 8796093022208
                   · rw [if_pos c43] at H
                     have LMc43 := Aside0.mk c43
                     clear c43
                     obtain ⟨y178, hy178⟩ : ∃ y_ : List ByteArray, y_ = (x5_3 ++ [(Utf8.encode (wrap32 ((rd_T61 l0_3 x54_3).f0))) ++ ((rd_T61 l0_3 x54_3).f1)]) := ⟨_, rfl⟩
                     replace H : (meta_Write.l0 k3 y178 l0_3 (l0_3.length : Int) (wrap64 (x54_3 + 1))) = some (r1, r2) := by first | (rw [hy178]; with_reducible exact H) | (have H2_ := (Option.bind_some _ _).symm.trans H; rw [hy178]; with_reducible exact H2_) | (have H2_ := (Option.bind_some _ _).symm.trans H; with_reducible exact H2_) | with_reducible exact H | (rw [hy178]; exact H) | exact H
                     have Ny178 := Aside0.mk hy178
                     clear hy178
                     have H' := Aside0.mk H
                     clear H
                     have p176 : 0 ≤ (x54_3 : Int) := of_decide_eq_true asA
                     have q176 : x54_3 < (l0_3.length : Int) := of_decide_eq_true asA
                     obtain ⟨ad176, e176, hx176_0, hx176_1⟩ := at_T61 HR0_3.out x54_3 p176 q176
                     cases e176
                     replace hx176_0 := (HB.out.cell (World.block_lt_of_cell? w _ hx176_0)).trans hx176_0
                     replace hx176_1 := (HB.out.cell (World.block_lt_of_cell? w _ hx176_1)).trans hx176_1
                     replace p176 := eq_true p176
                     replace q176 := eq_true q176
                     go_wp2_with (first | ((with_reducible refine gate_dst (N := 10) rfl ?_); refine box_event ?hg (N := 10) ?hd (cs := #[.int .u8 0, .string (⟨#[]⟩ : ByteArray)]) (t := 61) ?hr ?_; (case hd => rfl); (case hg => rfl); (case hr => first | (go_simp; done) | (go_simp; rfl)); intro gb177 hg w44 hbox hb; have n0_ := Aside0.mk (Kd.R_below (rdA HO_5.out) hb); have n1_ := Aside0.mk (blk_below (g := gb154) (o := .cells #[.int .i64 a0_0, .string a0_1, .int .i64 a0_2, .slice (some ad176) l0_3.length c0_3] 31 (0, 0)) (rbA BK154.out) hb); have n2_ := Aside0.mk (below_step (hbA HB.out) hb); have n3_ := Aside0.mk (hbox); have n4_ := Aside0.mk ((by rw [hg]; exact (below_size (hbA HB.out)) : w.heap.size ≤ gb177)); have n5_ := Aside0.mk ((by rw [hg]; exact (below_size (hbA HB.out)) : w.heap.size ≤ gb177)); have n6_ := Aside0.mk ((by rw [hg]; exact Nat.ne_of_lt (blk_lt (g := gb154) (o := .cells #[.int .i64 a0_0, .string a0_1, .int .i64 a0_2, .slice (some ad176) l0_3.length c0_3] 31 (0, 0)) (rbA BK154.out)) : gb154 ≠ gb177)); have n7_ := Aside0.mk ((by rw [hg]; exact Nat.ne_of_gt (blk_lt (g := gb154) (o := .cells #[.int .i64 a0_0, .string a0_1, .int .i64 a0_2, .slice (some ad176) l0_3.length c0_3] 31 (0, 0)) (rbA BK154.out)) : gb177 ≠ gb154)); clear HO_5; clear BK154; clear HB; have HO_5 := n0_; have BK154 := n1_; have HB := n2_; have BK177 := n3_; have GW177 := n4_; have GE177 := n5_; have NB154_177 := n6_; have NB177_154 := n7_; clear n0_ n1_ n2_ n3_ n4_ n5_ n6_ n7_; clear hb hbox hg; have hnb45 := NB177_154.out; have hnc45 := NB154_177.out; obtain ⟨hcz46_0, hcz46_1, hfz46_0, hfz46_1⟩ := blkA2 BK177.out) | ((with_reducible refine gate_builtin (b := .append) (xs := #[.tmp 58, .tmp 66]) rfl ?_); at_builtin; refine Kd.R_append Kd.string (w0 := w) w.heap.size rfl (.tmp 58) (.tmp 66) 66 9 (.string ⟨#[]⟩) 16 rfl Tryz.underlying66 info9 rfl (by decide) (by omega) u5 x5_3 ((Utf8.encode (wrap32 ((rd_T61 l0_3 x54_3).f0))) ++ ((rd_T61 l0_3 x54_3).f1)) [.string ((Utf8.encode (wrap32 ((rd_T61 l0_3 x54_3).f0))) ++ ((rd_T61 l0_3 x54_3).f1))] (fun _ => True) (fun _ => False) rfl (by first | (go_simp; done) | (go_simp; rfl)) ?aP (fun _ hk => hk.elim) ?aF ?aO ?aB ?aS ?aL ?_; (case aP => exact rfl); (case aB => exact (hbA HB.out)); (case aF => exact (fun _ _ => trivial)); (case aO => exact (by (with_reducible repeat (first | apply Kd.R_alloc | apply Kd.R_drewN | apply Kd.R_drew)); exact Kd.R_mono (Kd.R_far (p := ⟨gb177, 1, none⟩) (Kd.R_far (p := ⟨gb177, 0, none⟩) (Kd.R_types HO_5.out BK177.out (by decide)) (fun _ hk => hk.2) (.int .u8 ((rd_T61 l0_3 x54_3).f0))) (fun _ hk => hk.2) (.string ((rd_T61 l0_3 x54_3).f1))) (fun _ hk => trivial))); (case aS => exact (below_size (hbA HB.out))); (case aL => have := LMc43.out; omega); intro v179 w47 ho hb hg hat; rw [← Ny178.out] at ho; have n0_ := Aside0.mk (blk_grown (g := gb154) (o := .cells #[.int .i64 a0_0, .string a0_1, .int .i64 a0_2, .slice (some ad176) l0_3.length c0_3] 31 (0, 0)) (by (with_reducible repeat (first | refine blk_drewN ?_ _ | refine blk_drew ?_ | refine blk_alloc ?_ _)); refine blk_far ?_ NB154_177.out _; (with_reducible repeat (first | refine blk_drewN ?_ _ | refine blk_drew ?_ | refine blk_alloc ?_ _)); refine blk_far ?_ NB154_177.out _; exact rbA BK154.out) hg (Kd.R_ne HO_5.out BK154.out (by decide))); have n1_ := Aside0.mk (blk_grown (g := gb177) (o := .cells #[.int .u8 ((rd_T61 l0_3 x54_3).f0), .string ((rd_T61 l0_3 x54_3).f1)] 61 (0, 0)) (by (with_reducible repeat (first | refine blk_drewN ?_ _ | refine blk_drew ?_ | refine blk_alloc ?_ _)); refine blk_put (cs := #[.int .u8 ((rd_T61 l0_3 x54_3).f0), .string (⟨#[]⟩ : ByteArray)]) ?_ 1 _ rfl; (with_reducible repeat (first | refine blk_drewN ?_ _ | refine blk_drew ?_ | refine blk_alloc ?_ _)); refine blk_put (cs := #[.int .u8 0, .string (⟨#[]⟩ : ByteArray)]) ?_ 0 _ rfl; exact rbA BK177.out) hg (Kd.R_ne HO_5.out BK177.out (by decide))); have n2_ := Aside0.mk (hb); have n3_ := Aside0.mk (ho); clear BK154; clear BK177; clear HB; clear HO_5; have BK154 := n0_; have BK177 := n1_; have HB := n2_; have HO180 := n3_; clear n0_ n1_ n2_ n3_; clear ho hb hg hat))
                     go_roundg k3
                     case measure => have := HJ6.out; have := HJ29.out; have := HK3.out; omega
                     case rel => exact ⟨(y178), (wrap64 (x54_3 + 1)), rsA, H', ⟨by have := HJ6.out; have := HJ29.out; have := HK3.out; omega⟩, ⟨rdA HO180.out⟩, ⟨rbA BK154.out⟩, ⟨hbA HB.out⟩⟩
                   rw [if_neg c43] at H
                   exact absurd H (by simp)
                 rw [if_neg c42] at H
                 exact absurd H (by simp)
               rw [if_neg c41] at H
               exact absurd H (by simp)
             rw [if_neg c40] at H
             exact absurd H (by simp)
           rw [if_neg c39] at H
           have c39b0 : decide (x54_3 < (l0_3.length : Int)) = false := decide_eq_false c39
           clear c39
           replace H := Option.bind_eq_some_iff.mp H
           obtain ⟨t181, A480, H⟩ := H
           replace H : (if (t181.size : Int) > 160 then (some ((⟨#[]⟩ : ByteArray), 7)) else (some (t181, 0))) = some (r1, r2) := H
           have A48 := Aside0.mk A480
           clear A480
           by_cases c49 : (t181.size : Int) > 160
           · rw [if_pos c49] at H
             have c49b0 : decide (160 < (t181.size : Int)) = true := decide_eq_true c49
             have c49b1 : decide (160 < t181.size) = true := decide_eq_true (by omega)
             clear c49
             simp only [Option.some.injEq, Prod.mk.injEq] at H
             obtain ⟨rfl, rfl⟩ := H
             obtain ⟨Ao50, co50, eo50⟩ := Kd.R_slice HO_5.out
             subst eo50
             go_wp2_with (first | ((with_reducible refine gate_callee (f := 31) rfl ?_); refine goesL_ (some 70) rfl rfl Tryz.func31 (by kernel_rfl) rfl #[.slice Ao50 x5_3.length co50, .string (⟨#[32]⟩ : ByteArray)] rfl argA ?_; (with_reducible refine (strings_Join.calls _ _ x5_3 (⟨#[32]⟩ : ByteArray) t181 _ ?side1 ?side2 A48.out).mono ?_); (case side1 => repeat (first | exact (Kd.R_reads' HO_5.out).2.2 | (with_reducible refine Kd.C_alloc ?_ _) | (with_reducible refine Kd.C_drewN ?_ _) | (with_reducible refine Kd.C_drew ?_))); (case side2 => exact (Kd.R_reads' HO_5.out).2.1); rintro e w51 ⟨rfl, hb⟩; refine ⟨_, rfl, ?_⟩; replace HO_5 := Aside0.mk (Kd.R_below (rdA HO_5.out) hb); replace BK154 := Aside0.mk (blk_below (g := gb154) (o := .cells #[.int .i64 a0_0, .string a0_1, .int .i64 a0_2, .slice A0_3 l0_3.length c0_3] 31 (0, 0)) (rbA BK154.out) hb); replace HB := Aside0.mk (below_step (hbA HB.out) hb); (try clear hb); (try clear hb2); (try clear hk); (try clear hi)))
             go_ret2
             exact ⟨reA, hbA HB.out⟩
           rw [if_neg c49] at H
           have c49b0 : decide (160 < (t181.size : Int)) = false := decide_eq_false c49
           have c49b1 : decide (160 < t181.size) = false := decide_eq_false (by omega)
           clear c49
           simp only [Option.some.injEq, Prod.mk.injEq] at H
           obtain ⟨rfl, rfl⟩ := H
           obtain ⟨Ao52, co52, eo52⟩ := Kd.R_slice HO_5.out
           subst eo52
           go_wp2_with (first | ((with_reducible refine gate_callee (f := 31) rfl ?_); refine goesL_ (some 70) rfl rfl Tryz.func31 (by kernel_rfl) rfl #[.slice Ao52 x5_3.length co52, .string (⟨#[32]⟩ : ByteArray)] rfl argA ?_; (with_reducible refine (strings_Join.calls _ _ x5_3 (⟨#[32]⟩ : ByteArray) t181 _ ?side1 ?side2 A48.out).mono ?_); (case side1 => repeat (first | exact (Kd.R_reads' HO_5.out).2.2 | (with_reducible refine Kd.C_alloc ?_ _) | (with_reducible refine Kd.C_drewN ?_ _) | (with_reducible refine Kd.C_drew ?_))); (case side2 => exact (Kd.R_reads' HO_5.out).2.1); rintro e w53 ⟨rfl, hb⟩; refine ⟨_, rfl, ?_⟩; replace HO_5 := Aside0.mk (Kd.R_below (rdA HO_5.out) hb); replace BK154 := Aside0.mk (blk_below (g := gb154) (o := .cells #[.int .i64 a0_0, .string a0_1, .int .i64 a0_2, .slice A0_3 l0_3.length c0_3] 31 (0, 0)) (rbA BK154.out) hb); replace HB := Aside0.mk (below_step (hbA HB.out) hb); (try clear hb); (try clear hb2); (try clear hk); (try clear hi)))
           go_ret2
           exact ⟨reA, hbA HB.out⟩
     rw [if_neg c6] at H
     exact absurd H (by simp)
   rw [if_neg c5] at H
   exact absurd H (by simp)
 rw [if_neg c3] at H
 have c3b0 : (t155 == 0) = false := beq_eq_false_iff_ne.mpr c3
 have c3b1 : (t155 != 0) = true := bne_iff_ne.mpr c3
 simp only [Option.some.injEq, Prod.mk.injEq] at H
 obtain ⟨rfl, rfl⟩ := H
 go_enter Tryz.func10, Tryz.ntmps10
 go_wp2_with (first | ((with_reducible refine gate_dst (N := 1) rfl ?_); refine box_event ?hg (N := 1) ?hd (cs := #[.int .i64 a0_0, .string a0_1, .int .i64 a0_2, .slice A0_3 l0_3.length c0_3]) (t := 31) ?hr ?_; (case hd => rfl); (case hg => rfl); (case hr => first | (go_simp; done) | (go_simp; rfl)); intro gb154 hg w54 hbox hb; have n0_ := Aside0.mk (below_step (hbA HB.out) hb); have n1_ := Aside0.mk (hbox); have n2_ := Aside0.mk ((by rw [hg]; exact (below_size (hbA HB.out)) : w.heap.size ≤ gb154)); have n3_ := Aside0.mk ((by rw [hg]; exact (below_size (hbA HB.out)) : w.heap.size ≤ gb154)); clear HB; have HB := n0_; have BK154 := n1_; have GW154 := n2_; have GE154 := n3_; clear n0_ n1_ n2_ n3_; clear hb hbox hg; obtain ⟨hcz55_0, hcz55_1, hcz55_2, hcz55_3, hfz55_0, hfz55_1, hfz55_2, hfz55_3⟩ := blkA4 BK154.out) | ((with_reducible refine gate_callee (f := 28) rfl ?_); refine goesL_ (some 13) rfl rfl Tryz.func28 (by kernel_rfl) rfl #[.agg #[.int .i64 a0_0, .string a0_1, .int .i64 a0_2, .slice A0_3 l0_3.length c0_3]] rfl argA ?_; (with_reducible refine (meta_shape.calls k a0_0 a0_1 a0_2 _ _ l0_3 t155 _ ?side1 ?side2 ?side3 A2.out).mono ?_); (case side1 => repeat (first | exact (Kd.C_below HR0_3.out HB.out) | (with_reducible refine Kd.C_alloc ?_ _) | (with_reducible refine Kd.C_drewN ?_ _) | (with_reducible refine Kd.C_drew ?_))); (case side2 => exact HC0_3.out); (case side3 => exact Vars.below HV.out (hbA HB.out)); rintro e w56 ⟨rfl, hb⟩; refine ⟨_, rfl, ?_⟩; replace BK154 := Aside0.mk (blk_below (g := gb154) (o := .cells #[.int .i64 a0_0, .string a0_1, .int .i64 a0_2, .slice A0_3 l0_3.length c0_3] 31 (0, 0)) (rbA BK154.out) hb); replace HB := Aside0.mk (below_step (hbA HB.out) hb); (try clear hb); (try clear hb2); (try clear hk); (try clear hi)))
 go_ret2
 exact ⟨reA, hbA HB.out⟩

end
end Go.Proofs.YtfboejlemnfndaaGreatDoor.XMo
end
section
namespace Go.Proofs.YtfboejlemnfndaaGreatDoor.XMo
open Go.RowKit Go.Proofs.YtfboejlemnfndaaGreatDoorW.PrintWords Go.Proofs.YtfboejlemnfndaaGreatDoorW.PrintLast Go.Proofs.YtfboejlemnfndaaGreatDoorW.PrintMore
attribute [local go_sem] extract_sub max2_int min2_int max_two min_two max_three min_three max_four min_four   -- for this text's walks alone
set_option linter.unusedVariables false
set_option linter.unusedSimpArgs false

noncomputable section
def meta_Number.j0 : Nat → Int → ByteArray → Bool → Option (Int × Int × Bool)
 | 0, _, _, _ => none
 | k + 1, x1, x7, x33 => if x33 = true then ((digits_Parse.f x7).bind fun bt188 => (if bt188.2 = 0 then (if x1 = 70 then (if bt188.1 > 4294967295 then (some (0, 0, false)) else (some (0, bt188.1, true))) else (some (0, bt188.1, true))) else (some (0, 0, false)))) else (some (0, 0, false))
def meta_Number.f (k : Nat) (a0_0 : Int) (a0_1 : ByteArray) (a0_2 : Int) (l0_3 : List (S61)) (a1 : Int) : Option (Int × Int × Bool) := (meta_Find.f a0_0 a0_1 a0_2 l0_3 a1).bind fun bt183 => (if bt183.2 = true then ((meta_sortOf.f k a1).bind fun t185 => (if t185 = 3 then ((digits_Signed.f k bt183.1).bind fun bt186 => (some (bt186.1, 0, (bt186.2 == 0)))) else (if t185 = 1 then (meta_Number.j0 k a1 bt183.1 (t185 == 1)) else (meta_Number.j0 k a1 bt183.1 (t185 == 2))))) else (some (0, 0, false)))
theorem meta_Number.mono_l : ∀ k, (∀ y0 y1 y2, LeO (meta_Number.j0 k y0 y1 y2) (meta_Number.j0 (k + 1) y0 y1 y2))
 | 0 => fun _ _ _ r h => by simp [meta_Number.j0] at h
 | k + 1 => by
  have ih0 := meta_Number.mono_l k
  · intro y0 y1 y2
    unfold meta_Number.j0
    repeat' first
    | (with_reducible exact ih0 _ _ _)
    | (with_reducible exact digits_Signed.mono _ _)
    | (with_reducible exact meta_sortOf.mono _ _)
    | (with_reducible exact LeO.refl _)
    | (with_reducible exact LeO.none _)
    | (with_reducible refine LeO.ite ?_ ?_)
    | (with_reducible refine LeO.bind ?_ (fun _ => ?_))
    | exact ih0 _ _ _
    | exact digits_Signed.mono _ _
    | exact meta_sortOf.mono _ _
    | exact LeO.none _
    | refine LeO.ite ?_ ?_
    | refine LeO.bind ?_ (fun _ => ?_)
theorem meta_Number.mono : ∀ a0 a1 a2 a3 a4 k, LeO (meta_Number.f k a0 a1 a2 a3 a4) (meta_Number.f (k + 1) a0 a1 a2 a3 a4) := by
 intro a0 a1 a2 a3 a4 k
 have ih0 := meta_Number.mono_l k
 unfold meta_Number.f
 repeat' first
  | (with_reducible exact ih0 _ _ _)
  | (with_reducible exact digits_Signed.mono _ _)
  | (with_reducible exact meta_sortOf.mono _ _)
  | (with_reducible exact LeO.refl _)
  | (with_reducible exact LeO.none _)
  | (with_reducible refine LeO.ite ?_ ?_)
  | (with_reducible refine LeO.bind ?_ (fun _ => ?_))
  | exact ih0 _ _ _
  | exact digits_Signed.mono _ _
  | exact meta_sortOf.mono _ _
  | exact LeO.none _
  | refine LeO.ite ?_ ?_
  | refine LeO.bind ?_ (fun _ => ?_)
set_option maxHeartbeats 8000000 in
set_option maxRecDepth 100000 in
theorem meta_Number.calls (k : Nat) (a0_0 : Int) (a0_1 : ByteArray) (a0_2 : Int) (A0_3 : Option Addr) (c0_3 : Nat) (l0_3 : List (S61)) (a1 : Int) (r1 : Int) (r2 : Int) (r3 : Bool) (w : World) (hr0_3 : Kd.C k61 w A0_3 l0_3.length l0_3) (hc0_3 : l0_3.length ≤ c0_3) (hv : Vars w) (h : meta_Number.f k a0_0 a0_1 a0_2 l0_3 a1 = some (r1, r2, r3)) :
 Calls Tryz.prog 13 #[.agg #[.int .i64 a0_0, .string a0_1, .int .i64 a0_2, .slice A0_3 l0_3.length c0_3], .int .u8 a1] w fun e w' => e = .returned (.tuple #[.int .i64 r1, .int .u64 r2, .bool r3]) ∧ Below w.heap.size w w' := by
 have hu31 := Tryz.underlying31
 have HV := Aside0.mk hv
 clear hv
 have HR0_3 := Aside0.mk hr0_3
 have HC0_3 := Aside0.mk hc0_3
 clear hr0_3 hc0_3
 have HB := Aside0.mk (Below.refl w.heap.size w)
 have H : ((meta_Find.f a0_0 a0_1 a0_2 l0_3 a1).bind fun bt183 => (if bt183.2 = true then ((meta_sortOf.f k a1).bind fun t185 => (if t185 = 3 then ((digits_Signed.f k bt183.1).bind fun bt186 => (some (bt186.1, 0, (bt186.2 == 0)))) else (if t185 = 1 then (meta_Number.j0 k a1 bt183.1 (t185 == 1)) else (meta_Number.j0 k a1 bt183.1 (t185 == 2))))) else (some (0, 0, false)))) = some (r1, r2, r3) := h
 clear h
 replace H := Option.bind_eq_some_iff.mp H
 obtain ⟨⟨t183, t184⟩, A30, H⟩ := H
 replace H : (if t184 = true then ((meta_sortOf.f k a1).bind fun t185 => (if t185 = 3 then ((digits_Signed.f k t183).bind fun bt186 => (some (bt186.1, 0, (bt186.2 == 0)))) else (if t185 = 1 then (meta_Number.j0 k a1 t183 (t185 == 1)) else (meta_Number.j0 k a1 t183 (t185 == 2))))) else (some (0, 0, false))) = some (r1, r2, r3) := H
 have A3 := Aside0.mk A30
 clear A30
 by_cases c4 : t184 = true
 · subst c4
   have H1 : ((meta_sortOf.f k a1).bind fun t185 => (if t185 = 3 then ((digits_Signed.f k t183).bind fun bt186 => (some (bt186.1, 0, (bt186.2 == 0)))) else (if t185 = 1 then (meta_Number.j0 k a1 t183 (t185 == 1)) else (meta_Number.j0 k a1 t183 (t185 == 2))))) = some (r1, r2, r3) := by rw [if_pos rfl] at H; exact H
   clear H
   have H := H1
   clear H1
   replace H := Option.bind_eq_some_iff.mp H
   obtain ⟨t185, A50, H⟩ := H
   replace H : (if t185 = 3 then ((digits_Signed.f k t183).bind fun bt186 => (some (bt186.1, 0, (bt186.2 == 0)))) else (if t185 = 1 then (meta_Number.j0 k a1 t183 (t185 == 1)) else (meta_Number.j0 k a1 t183 (t185 == 2)))) = some (r1, r2, r3) := H
   have A5 := Aside0.mk A50
   clear A50
   by_cases c6 : t185 = 3
   · rw [if_pos c6] at H
     have c6b0 : (t185 == 3) = true := beq_iff_eq.mpr c6
     have c6b1 : (t185 != 3) = false := bne_eq_false_iff_eq.mpr c6
     clear c6
     replace H := Option.bind_eq_some_iff.mp H
     obtain ⟨⟨t186, t187⟩, A70, H⟩ := H
     replace H : (some (t186, 0, (t187 == 0))) = some (r1, r2, r3) := H
     have A7 := Aside0.mk A70
     clear A70
     simp only [Option.some.injEq, Prod.mk.injEq] at H
     obtain ⟨rfl, rfl, rfl⟩ := H
     go_enter Tryz.func13, Tryz.ntmps13
     go_wp2_with (first | ((with_reducible refine gate_dst (N := 2) rfl ?_); refine box_event ?hg (N := 2) ?hd (cs := #[.int .i64 a0_0, .string a0_1, .int .i64 a0_2, .slice A0_3 l0_3.length c0_3]) (t := 31) ?hr ?_; (case hd => rfl); (case hg => rfl); (case hr => first | (go_simp; done) | (go_simp; rfl)); intro gb182 hg w8 hbox hb; have n0_ := Aside0.mk (below_step (hbA HB.out) hb); have n1_ := Aside0.mk (hbox); have n2_ := Aside0.mk ((by rw [hg]; exact (below_size (hbA HB.out)) : w.heap.size ≤ gb182)); have n3_ := Aside0.mk ((by rw [hg]; exact (below_size (hbA HB.out)) : w.heap.size ≤ gb182)); clear HB; have HB := n0_; have BK182 := n1_; have GW182 := n2_; have GE182 := n3_; clear n0_ n1_ n2_ n3_; clear hb hbox hg; obtain ⟨hcz9_0, hcz9_1, hcz9_2, hcz9_3, hfz9_0, hfz9_1, hfz9_2, hfz9_3⟩ := blkA4 BK182.out) | ((with_reducible refine gate_callee (f := 15) rfl ?_); refine goesL_ (some 16) rfl rfl Tryz.func15 (by kernel_rfl) rfl #[.agg #[.int .i64 a0_0, .string a0_1, .int .i64 a0_2, .slice A0_3 l0_3.length c0_3], .int .u8 a1] rfl argA ?_; (with_reducible refine (meta_Find.calls a0_0 a0_1 a0_2 _ _ l0_3 a1 t183 true _ ?side1 ?side2 A3.out).mono ?_); (case side1 => repeat (first | exact (Kd.C_below HR0_3.out HB.out) | (with_reducible refine Kd.C_alloc ?_ _) | (with_reducible refine Kd.C_drewN ?_ _) | (with_reducible refine Kd.C_drew ?_))); (case side2 => exact HC0_3.out); rintro e w10 ⟨rfl, hb⟩; refine ⟨_, rfl, ?_⟩; replace BK182 := Aside0.mk (blk_below (g := gb182) (o := .cells #[.int .i64 a0_0, .string a0_1, .int .i64 a0_2, .slice A0_3 l0_3.length c0_3] 31 (0, 0)) (rbA BK182.out) hb); replace HB := Aside0.mk (below_step (hbA HB.out) hb); (try clear hb); (try clear hb2); (try clear hk); (try clear hi)) | ((with_reducible refine gate_callee (f := 36) rfl ?_); refine goesL_ (some 22) rfl rfl Tryz.func36 (by kernel_rfl) rfl #[.int .u8 a1] rfl argA ?_; (with_reducible refine (meta_sortOf.calls k a1 t185 _ A5.out).mono ?_); rintro e w' ⟨rfl, ⟨nd, rfl⟩⟩; refine ⟨_, rfl, ?_⟩) | ((with_reducible refine gate_callee (f := 37) rfl ?_); refine goesL_ (some 27) rfl rfl Tryz.func37 (by kernel_rfl) rfl #[.string t183] rfl argA ?_; (with_reducible refine (digits_Signed.calls k t183 t186 t187 _ ?side1 A7.out).mono ?_); (case side1 => exact Vars.below HV.out (hbA HB.out)); rintro e w11 ⟨rfl, hb⟩; refine ⟨_, rfl, ?_⟩; replace BK182 := Aside0.mk (blk_below (g := gb182) (o := .cells #[.int .i64 a0_0, .string a0_1, .int .i64 a0_2, .slice A0_3 l0_3.length c0_3] 31 (0, 0)) (rbA BK182.out) hb); replace HB := Aside0.mk (below_step (hbA HB.out) hb); (try clear hb); (try clear hb2); (try clear hk); (try clear hi)))
     go_ret3
     exact ⟨reA, hbA HB.out⟩
   rw [if_neg c6] at H
   have c6b0 : (t185 == 3) = false := beq_eq_false_iff_ne.mpr c6
   have c6b1 : (t185 != 3) = true := bne_iff_ne.mpr c6
   have HC12 := Aside0.mk H
   clear H
   go_enter Tryz.func13, Tryz.ntmps13
   go_upto_if 33 with (first | ((with_reducible refine gate_dst (N := 2) rfl ?_); refine box_event ?hg (N := 2) ?hd (cs := #[.int .i64 a0_0, .string a0_1, .int .i64 a0_2, .slice A0_3 l0_3.length c0_3]) (t := 31) ?hr ?_; (case hd => rfl); (case hg => rfl); (case hr => first | (go_simp; done) | (go_simp; rfl)); intro gb182 hg w13 hbox hb; have n0_ := Aside0.mk (below_step (hbA HB.out) hb); have n1_ := Aside0.mk (hbox); have n2_ := Aside0.mk ((by rw [hg]; exact (below_size (hbA HB.out)) : w.heap.size ≤ gb182)); have n3_ := Aside0.mk ((by rw [hg]; exact (below_size (hbA HB.out)) : w.heap.size ≤ gb182)); clear HB; have HB := n0_; have BK182 := n1_; have GW182 := n2_; have GE182 := n3_; clear n0_ n1_ n2_ n3_; clear hb hbox hg; obtain ⟨hcz14_0, hcz14_1, hcz14_2, hcz14_3, hfz14_0, hfz14_1, hfz14_2, hfz14_3⟩ := blkA4 BK182.out) | ((with_reducible refine gate_callee (f := 15) rfl ?_); refine goesL_ (some 16) rfl rfl Tryz.func15 (by kernel_rfl) rfl #[.agg #[.int .i64 a0_0, .string a0_1, .int .i64 a0_2, .slice A0_3 l0_3.length c0_3], .int .u8 a1] rfl argA ?_; (with_reducible refine (meta_Find.calls a0_0 a0_1 a0_2 _ _ l0_3 a1 t183 true _ ?side1 ?side2 A3.out).mono ?_); (case side1 => repeat (first | exact (Kd.C_below HR0_3.out HB.out) | (with_reducible refine Kd.C_alloc ?_ _) | (with_reducible refine Kd.C_drewN ?_ _) | (with_reducible refine Kd.C_drew ?_))); (case side2 => exact HC0_3.out); rintro e w15 ⟨rfl, hb⟩; refine ⟨_, rfl, ?_⟩; replace BK182 := Aside0.mk (blk_below (g := gb182) (o := .cells #[.int .i64 a0_0, .string a0_1, .int .i64 a0_2, .slice A0_3 l0_3.length c0_3] 31 (0, 0)) (rbA BK182.out) hb); replace HB := Aside0.mk (below_step (hbA HB.out) hb); (try clear hb); (try clear hb2); (try clear hk); (try clear hi)) | ((with_reducible refine gate_callee (f := 36) rfl ?_); refine goesL_ (some 22) rfl rfl Tryz.func36 (by kernel_rfl) rfl #[.int .u8 a1] rfl argA ?_; (with_reducible refine (meta_sortOf.calls k a1 t185 _ A5.out).mono ?_); rintro e w' ⟨rfl, ⟨nd, rfl⟩⟩; refine ⟨_, rfl, ?_⟩))
   (try simp only [Act.put, List.setIfInBounds_toArray, List.set_cons_zero, List.set_cons_succ])
   go_cut [33] (fun v33 wc => ∃ (kq : Nat) (x33_11 : Bool), v33 = .bool x33_11 ∧ Aside0 (meta_Number.j0 kq a1 t183 x33_11 = some (r1, r2, r3)) ∧ Aside0 (kq ≤ k) ∧ Aside0 (wc.heap[gb182]? = some (.cells #[.int .i64 a0_0, .string a0_1, .int .i64 a0_2, (.slice A0_3 l0_3.length c0_3)] 31 (0, 0))) ∧ Aside0 (Below w.heap.size w wc))
   case first =>
    have H := HC12.out
    clear HC12
    by_cases c16 : t185 = 1
    · rw [if_pos c16] at H
      have c16b0 : (t185 == 1) = true := beq_iff_eq.mpr c16
      have c16b1 : (t185 != 1) = false := bne_eq_false_iff_eq.mpr c16
      clear c16
      (first | rw [c16b0] | (simp only [i64_w, i32_w]; rw [c16b0]) | skip)
      have H' := Aside0.mk H
      clear H
      go_wp2
      go_meet
      case rel => exact ⟨_, ((t185 == 1)), rsA, H', ⟨by first | omega | exact Nat.le_refl _⟩, ⟨rbA BK182.out⟩, ⟨hbA HB.out⟩⟩
    rw [if_neg c16] at H
    have c16b0 : (t185 == 1) = false := beq_eq_false_iff_ne.mpr c16
    have c16b1 : (t185 != 1) = true := bne_iff_ne.mpr c16
    (first | rw [c16b0] | (simp only [i64_w, i32_w]; rw [c16b0]) | skip)
    have H' := Aside0.mk H
    clear H
    go_wp2
    go_meet
    case rel => exact ⟨_, ((t185 == 2)), rsA, H', ⟨by first | omega | exact Nat.le_refl _⟩, ⟨rbA BK182.out⟩, ⟨hbA HB.out⟩⟩
   clear HC12
   (try clear c1); (try clear p2); (try clear c3); (try clear c4); (try clear c6); (try clear c6b0); (try clear c6b1); (try clear c13); (try clear c15); (try clear c16); (try clear c16b0); (try clear c16b1); (try clear hcz14_0); (try clear hcz14_1); (try clear hcz14_2); (try clear hcz14_3); (try clear hcz9_0); (try clear hcz9_1); (try clear hcz9_2); (try clear hcz9_3); (try clear hfz14_0); (try clear hfz14_1); (try clear hfz14_2); (try clear hfz14_3); (try clear hfz9_0); (try clear hfz9_1); (try clear hfz9_2); (try clear hfz9_3)
   obtain ⟨kq, x33_11, rfl, HA, HJ11, BK182, HB⟩ := hcut
   cases kq with
   | zero => exact absurd HA.out (by simp [meta_Number.j0])
   | succ kj11 =>
    have H := HA.out
    clear HA
    simp only [meta_Number.j0] at H
    by_cases c17 : x33_11 = true
    · subst c17
      have H1 : ((digits_Parse.f t183).bind fun bt188 => (if bt188.2 = 0 then (if a1 = 70 then (if bt188.1 > 4294967295 then (some (0, 0, false)) else (some (0, bt188.1, true))) else (some (0, bt188.1, true))) else (some (0, 0, false)))) = some (r1, r2, r3) := by rw [if_pos rfl] at H; exact H
      clear H
      have H := H1
      clear H1
      replace H := Option.bind_eq_some_iff.mp H
      obtain ⟨⟨t188, t189⟩, A180, H⟩ := H
      replace H : (if t189 = 0 then (if a1 = 70 then (if t188 > 4294967295 then (some (0, 0, false)) else (some (0, t188, true))) else (some (0, t188, true))) else (some (0, 0, false))) = some (r1, r2, r3) := H
      have A18 := Aside0.mk A180
      clear A180
      by_cases c19 : t189 = 0
      · rw [if_pos c19] at H
        have c19b0 : (t189 == 0) = true := beq_iff_eq.mpr c19
        have c19b1 : (t189 != 0) = false := bne_eq_false_iff_eq.mpr c19
        clear c19
        by_cases c20 : a1 = 70
        · rw [if_pos c20] at H
          have c20b0 : (a1 == 70) = true := beq_iff_eq.mpr c20
          have c20b1 : (a1 != 70) = false := bne_eq_false_iff_eq.mpr c20
          clear c20
          by_cases c21 : t188 > 4294967295
          · rw [if_pos c21] at H
            have c21b0 : decide (4294967295 < t188) = true := decide_eq_true c21
            clear c21
            simp only [Option.some.injEq, Prod.mk.injEq] at H
            obtain ⟨rfl, rfl, rfl⟩ := H
            go_wp2_with (first | ((with_reducible refine gate_callee (f := 38) rfl ?_); refine goesL_ (some 38) rfl rfl Tryz.func38 (by kernel_rfl) rfl #[.string t183] rfl argA ?_; (with_reducible refine (digits_Parse.calls t183 t188 t189 _ ?side1 A18.out).mono ?_); (case side1 => exact Vars.below HV.out (hbA HB.out)); rintro e w22 ⟨rfl, hb⟩; refine ⟨_, rfl, ?_⟩; replace BK182 := Aside0.mk (blk_below (g := gb182) (o := .cells #[.int .i64 a0_0, .string a0_1, .int .i64 a0_2, .slice A0_3 l0_3.length c0_3] 31 (0, 0)) (rbA BK182.out) hb); replace HB := Aside0.mk (below_step (hbA HB.out) hb); (try clear hb); (try clear hb2); (try clear hk); (try clear hi)))
            go_ret3
            exact ⟨reA, hbA HB.out⟩
          rw [if_neg c21] at H
          have c21b0 : decide (4294967295 < t188) = false := decide_eq_false c21
          clear c21
          simp only [Option.some.injEq, Prod.mk.injEq] at H
          obtain ⟨rfl, rfl, rfl⟩ := H
          go_wp2_with (first | ((with_reducible refine gate_callee (f := 38) rfl ?_); refine goesL_ (some 38) rfl rfl Tryz.func38 (by kernel_rfl) rfl #[.string t183] rfl argA ?_; (with_reducible refine (digits_Parse.calls t183 t188 t189 _ ?side1 A18.out).mono ?_); (case side1 => exact Vars.below HV.out (hbA HB.out)); rintro e w23 ⟨rfl, hb⟩; refine ⟨_, rfl, ?_⟩; replace BK182 := Aside0.mk (blk_below (g := gb182) (o := .cells #[.int .i64 a0_0, .string a0_1, .int .i64 a0_2, .slice A0_3 l0_3.length c0_3] 31 (0, 0)) (rbA BK182.out) hb); replace HB := Aside0.mk (below_step (hbA HB.out) hb); (try clear hb); (try clear hb2); (try clear hk); (try clear hi)))
          go_ret3
          exact ⟨reA, hbA HB.out⟩
        rw [if_neg c20] at H
        have c20b0 : (a1 == 70) = false := beq_eq_false_iff_ne.mpr c20
        have c20b1 : (a1 != 70) = true := bne_iff_ne.mpr c20
        simp only [Option.some.injEq, Prod.mk.injEq] at H
        obtain ⟨rfl, rfl, rfl⟩ := H
        go_wp2_with (first | ((with_reducible refine gate_callee (f := 38) rfl ?_); refine goesL_ (some 38) rfl rfl Tryz.func38 (by kernel_rfl) rfl #[.string t183] rfl argA ?_; (with_reducible refine (digits_Parse.calls t183 t188 t189 _ ?side1 A18.out).mono ?_); (case side1 => exact Vars.below HV.out (hbA HB.out)); rintro e w24 ⟨rfl, hb⟩; refine ⟨_, rfl, ?_⟩; replace BK182 := Aside0.mk (blk_below (g := gb182) (o := .cells #[.int .i64 a0_0, .string a0_1, .int .i64 a0_2, .slice A0_3 l0_3.length c0_3] 31 (0, 0)) (rbA BK182.out) hb); replace HB := Aside0.mk (below_step (hbA HB.out) hb); (try clear hb); (try clear hb2); (try clear hk); (try clear hi)))
        go_ret3
        exact ⟨reA, hbA HB.out⟩
      rw [if_neg c19] at H
      have c19b0 : (t189 == 0) = false := beq_eq_false_iff_ne.mpr c19
      have c19b1 : (t189 != 0) = true := bne_iff_ne.mpr c19
      simp only [Option.some.injEq, Prod.mk.injEq] at H
      obtain ⟨rfl, rfl, rfl⟩ := H
      go_wp2_with (first | ((with_reducible refine gate_callee (f := 38) rfl ?_); refine goesL_ (some 38) rfl rfl Tryz.func38 (by kernel_rfl) rfl #[.string t183] rfl argA ?_; (with_reducible refine (digits_Parse.calls t183 t188 t189 _ ?side1 A18.out).mono ?_); (case side1 => exact Vars.below HV.out (hbA HB.out)); rintro e w25 ⟨rfl, hb⟩; refine ⟨_, rfl, ?_⟩; replace BK182 := Aside0.mk (blk_below (g := gb182) (o := .cells #[.int .i64 a0_0, .string a0_1, .int .i64 a0_2, .slice A0_3 l0_3.length c0_3] 31 (0, 0)) (rbA BK182.out) hb); replace HB := Aside0.mk (below_step (hbA HB.out) hb); (try clear hb); (try clear hb2); (try clear hk); (try clear hi)))
      go_ret3
      exact ⟨reA, hbA HB.out⟩
    replace c17 := Bool.eq_false_iff.mpr c17
    subst c17
    have H1 : (some (0, 0, false)) = some (r1, r2, r3) := by rw [if_neg (show ¬ (false = true) by decide)] at H; exact H
    clear H
    have H := H1
    clear H1
    simp only [Option.some.injEq, Prod.mk.injEq] at H
    obtain ⟨rfl, rfl, rfl⟩ := H
    go_wp2
    go_ret3
    exact ⟨reA, hbA HB.out⟩
 replace c4 := Bool.eq_false_iff.mpr c4
 subst c4
 have H1 : (some (0, 0, false)) = some (r1, r2, r3) := by rw [if_neg (show ¬ (false = true) by decide)] at H; exact H
 clear H
 have H := H1
 clear H1
 simp only [Option.some.injEq, Prod.mk.injEq] at H
 obtain ⟨rfl, rfl, rfl⟩ := H
 go_enter Tryz.func13, Tryz.ntmps13
 go_wp2_with (first | ((with_reducible refine gate_dst (N := 2) rfl ?_); refine box_event ?hg (N := 2) ?hd (cs := #[.int .i64 a0_0, .string a0_1, .int .i64 a0_2, .slice A0_3 l0_3.length c0_3]) (t := 31) ?hr ?_; (case hd => rfl); (case hg => rfl); (case hr => first | (go_simp; done) | (go_simp; rfl)); intro gb182 hg w26 hbox hb; have n0_ := Aside0.mk (below_step (hbA HB.out) hb); have n1_ := Aside0.mk (hbox); have n2_ := Aside0.mk ((by rw [hg]; exact (below_size (hbA HB.out)) : w.heap.size ≤ gb182)); have n3_ := Aside0.mk ((by rw [hg]; exact (below_size (hbA HB.out)) : w.heap.size ≤ gb182)); clear HB; have HB := n0_; have BK182 := n1_; have GW182 := n2_; have GE182 := n3_; clear n0_ n1_ n2_ n3_; clear hb hbox hg; obtain ⟨hcz27_0, hcz27_1, hcz27_2, hcz27_3, hfz27_0, hfz27_1, hfz27_2, hfz27_3⟩ := blkA4 BK182.out) | ((with_reducible refine gate_callee (f := 15) rfl ?_); refine goesL_ (some 16) rfl rfl Tryz.func15 (by kernel_rfl) rfl #[.agg #[.int .i64 a0_0, .string a0_1, .int .i64 a0_2, .slice A0_3 l0_3.length c0_3], .int .u8 a1] rfl argA ?_; (with_reducible refine (meta_Find.calls a0_0 a0_1 a0_2 _ _ l0_3 a1 t183 false _ ?side1 ?side2 A3.out).mono ?_); (case side1 => repeat (first | exact (Kd.C_below HR0_3.out HB.out) | (with_reducible refine Kd.C_alloc ?_ _) | (with_reducible refine Kd.C_drewN ?_ _) | (with_reducible refine Kd.C_drew ?_))); (case side2 => exact HC0_3.out); rintro e w28 ⟨rfl, hb⟩; refine ⟨_, rfl, ?_⟩; replace BK182 := Aside0.mk (blk_below (g := gb182) (o := .cells #[.int .i64 a0_0, .string a0_1, .int .i64 a0_2, .slice A0_3 l0_3.length c0_3] 31 (0, 0)) (rbA BK182.out) hb); replace HB := Aside0.mk (below_step (hbA HB.out) hb); (try clear hb); (try clear hb2); (try clear hk); (try clear hi)))
 go_ret3
 exact ⟨reA, hbA HB.out⟩

end
end Go.Proofs.YtfboejlemnfndaaGreatDoor.XMo
end
section
namespace Go.Proofs.YtfboejlemnfndaaGreatDoor.XMo
open Go.RowKit Go.Proofs.YtfboejlemnfndaaGreatDoorW.PrintWords Go.Proofs.YtfboejlemnfndaaGreatDoorW.PrintLast Go.Proofs.YtfboejlemnfndaaGreatDoorW.PrintMore
attribute [local go_sem] extract_sub max2_int min2_int max_two min_two max_three min_three max_four min_four   -- for this text's walks alone
set_option linter.unusedVariables false
set_option linter.unusedSimpArgs false

noncomputable section
def strings_Split.f (a0 a1 : ByteArray) : Option (List ByteArray) := if a0.size < 4294967281 ∧ 1 ≤ a1.size then some (Lib.splitB a1 0 (Lib.countB a0 a1) a0) else none
theorem strings_Split.reps (w : World) (base : Nat) (ok : Nat → Prop) : ∀ l : List ByteArray, Reps (Kd.string.M w base ok) 1 l (l.map Value.string)
 | [] => Reps.none _ _
 | x :: l => Reps.one rfl (strings_Split.reps w base ok l)
theorem strings_Split.calls (a0 a1 : ByteArray) (r : List ByteArray) (w : World) (hv : Vars w) (h : strings_Split.f a0 a1 = some r) :
 Calls Tryz.prog 48 #[.string a0, .string a1] w fun e w' => ∃ v0_ : Value, e = .returned (v0_) ∧ Kd.R Kd.string 9 w' w.heap.size (fun _ => True) v0_ r ∧ Below w.heap.size w w' := by
 unfold strings_Split.f at h
 split at h
 · rename_i hh
   injection h with h
   subst h
   obtain ⟨m, hm⟩ := hv.most
   have hlen := Lib.splitB_all a1 hh.2 0 _ a0 rfl
   have hle := Lib.countB_le a1 hh.2 a0.size a0 (Nat.le_refl _)
   refine (Tryz.strings_Split a0 a1 m w hh.1 hm hh.2).mono fun e w' ⟨he, hw⟩ => ⟨_, he, ?_, by rw [hw]; exact (Below.refl _ w).alloc (Nat.le_refl _) _⟩
   subst hw
   refine ⟨fun _ _ => trivial, (Lib.splitB a1 0 (Lib.countB a0 a1) a0).map Value.string, ?_, strings_Split.reps _ _ _ _⟩
   have h2 := World.ownsRow_lit (base := w.heap.size) (e := 9) (size := 1) w ((Lib.splitB a1 0 (Lib.countB a0 a1) a0).map Value.string).toArray (Lib.countB a0 a1 + 1) (Nat.le_refl _) (by unfold maxLen; omega) (by simp [hlen])
   rw [hlen]
   simp only [List.toList_toArray] at h2
   exact h2
 cases h

end
end Go.Proofs.YtfboejlemnfndaaGreatDoor.XMo
end
section
namespace Go.Proofs.YtfboejlemnfndaaGreatDoor.XMo
open Go.RowKit Go.Proofs.YtfboejlemnfndaaGreatDoorW.PrintWords Go.Proofs.YtfboejlemnfndaaGreatDoorW.PrintLast Go.Proofs.YtfboejlemnfndaaGreatDoorW.PrintMore
attribute [local go_sem] extract_sub max2_int min2_int max_two min_two max_three min_three max_four min_four   -- for this text's walks alone
set_option linter.unusedVariables false
set_option linter.unusedSimpArgs false

noncomputable section
def meta_named.l0 : Nat → ByteArray → List (S63) → Int → Int → Option (Int)
 | 0, _, _, _, _ => none
 | k + 1, x0, x5, x6, x7 => if x7 < x6 then (if 0 ≤ x7 then (if x7 < (x5.length : Int) then (if x7 ≥ 1 then (if ((rd_T63 x5 x7).f0).toList = x0.toList then (some x7) else (meta_named.l0 k x0 x5 x6 (wrap64 (x7 + 1)))) else (meta_named.l0 k x0 x5 x6 (wrap64 (x7 + 1)))) else (none)) else (none)) else (some 0)
def meta_named.f (k : Nat) (a0 : ByteArray) : Option (Int) := (meta_ops.f).bind fun t190 => (meta_named.l0 k a0 t190 (t190.length : Int) 0)
theorem meta_named.mono_l : ∀ k, (∀ y0 y1 y2 y3, LeO (meta_named.l0 k y0 y1 y2 y3) (meta_named.l0 (k + 1) y0 y1 y2 y3))
 | 0 => fun _ _ _ _ r h => by simp [meta_named.l0] at h
 | k + 1 => by
  have ih0 := meta_named.mono_l k
  · intro y0 y1 y2 y3
    unfold meta_named.l0
    repeat' first
    | (with_reducible exact ih0 _ _ _ _)
    | (with_reducible exact LeO.refl _)
    | (with_reducible exact LeO.none _)
    | (with_reducible refine LeO.ite ?_ ?_)
    | (with_reducible refine LeO.bind ?_ (fun _ => ?_))
    | exact ih0 _ _ _ _
    | exact LeO.none _
    | refine LeO.ite ?_ ?_
    | refine LeO.bind ?_ (fun _ => ?_)
theorem meta_named.mono : ∀ a0 k, LeO (meta_named.f k a0) (meta_named.f (k + 1) a0) := by
 intro a0 k
 have ih0 := meta_named.mono_l k
 unfold meta_named.f
 repeat' first
  | (with_reducible exact ih0 _ _ _ _)
  | (with_reducible exact LeO.refl _)
  | (with_reducible exact LeO.none _)
  | (with_reducible refine LeO.ite ?_ ?_)
  | (with_reducible refine LeO.bind ?_ (fun _ => ?_))
  | exact ih0 _ _ _ _
  | exact LeO.none _
  | refine LeO.ite ?_ ?_
  | refine LeO.bind ?_ (fun _ => ?_)
set_option maxHeartbeats 8000000 in
set_option maxRecDepth 100000 in
theorem meta_named.calls (k : Nat) (a0 : ByteArray) (r : Int) (w : World) (h : meta_named.f k a0 = some r) :
 Calls Tryz.prog 49 #[.string a0] w fun e w' => e = .returned (.int .i64 r) ∧ Below w.heap.size w w' := by
 have hu63 := Tryz.underlying63
 have HB := Aside0.mk (Below.refl w.heap.size w)
 have H : ((meta_ops.f).bind fun t190 => (meta_named.l0 k a0 t190 (t190.length : Int) 0)) = some r := h
 clear h
 replace H := Option.bind_eq_some_iff.mp H
 obtain ⟨t190, A20, H⟩ := H
 replace H : (meta_named.l0 k a0 t190 (t190.length : Int) 0) = some r := H
 have A2 := Aside0.mk A20
 clear A20
 have H' := Aside0.mk H
 clear H
 go_enter Tryz.func49, Tryz.ntmps49
 go_wp2_with (first | ((with_reducible refine gate_callee (f := 29) rfl ?_); refine goesL_ (some 5) rfl rfl Tryz.func29 (by kernel_rfl) rfl #[] rfl argA ?_; (with_reducible refine (meta_ops.calls  t190 _ A2.out).mono ?_); rintro e w3 ⟨v191, rfl, ho0, hb⟩; refine ⟨_, rfl, ?_⟩; have n0_ := Aside0.mk (Kd.R_lower ho0 (below_size (hbA HB.out))); have n1_ := Aside0.mk (below_step (hbA HB.out) hb); clear HB; have HO192 := n0_; have HB := n1_; clear n0_ n1_; (try clear hb); (try clear hb2); (try clear hk); (try clear hi); (try clear ho0); obtain ⟨Ao4, co4, eo4⟩ := Kd.R_slice HO192.out; subst eo4))
 go_loopg [7] k (fun kq v7 w' => ∃ (x7_1 : Int), v7 = .int .i64 x7_1 ∧ Aside0 (meta_named.l0 kq a0 t190 (t190.length : Int) x7_1 = some r) ∧ Aside0 (kq ≤ k) ∧ Aside0 (Kd.R k63 63 w' w.heap.size (fun _ => True) (.slice Ao4 t190.length co4) t190) ∧ Aside0 (Below w.heap.size w w'))
 case atStart => exact ⟨(0), rsA, H', ⟨Nat.le_refl _⟩, ⟨rdA HO192.out⟩, ⟨hbA HB.out⟩⟩
 case round =>
  clear H'
  (try clear c2); (try clear p2); (try clear c4)
  obtain ⟨x7_1, rfl, HA, HK1, HO_5, HB⟩ := hrel
  cases gk with
  | zero => exact absurd HA.out (by simp [meta_named.l0])
  | succ k1 =>
   have H := HA.out
   clear HA
   simp only [meta_named.l0] at H
   by_cases c5 : x7_1 < (t190.length : Int)
   · rw [if_pos c5] at H
     have c5b0 : decide (x7_1 < (t190.length : Int)) = true := decide_eq_true c5
     clear c5
     by_cases c6 : 0 ≤ x7_1
     · rw [if_pos c6] at H
       have c6b0 : decide (0 ≤ x7_1) = true := decide_eq_true c6
       clear c6
       by_cases c7 : x7_1 < (t190.length : Int)
       · rw [if_pos c7] at H
         have c7b0 : decide (x7_1 < (t190.length : Int)) = true := decide_eq_true c7
         clear c7
         by_cases c8 : x7_1 ≥ 1
         · rw [if_pos c8] at H
           have c8b0 : decide (1 ≤ x7_1) = true := decide_eq_true c8
           clear c8
           by_cases c9 : ((rd_T63 t190 x7_1).f0).toList = a0.toList
           · rw [if_pos c9] at H
             have c9b0 : (((rd_T63 t190 x7_1).f0).toList == a0.toList) = true := beq_iff_eq.mpr c9
             have c9b1 : (((rd_T63 t190 x7_1).f0).toList != a0.toList) = false := bne_eq_false_iff_eq.mpr c9
             clear c9
             obtain rfl := Option.some.inj H
             have p193 : 0 ≤ (x7_1 : Int) := of_decide_eq_true asA
             have q193 : x7_1 < (t190.length : Int) := of_decide_eq_true asA
             obtain ⟨ad193, e193, hx193_0, hx193_1⟩ := at_T63 (Kd.R_reads' HO_5.out).2.2 x7_1 p193 q193
             cases e193
             replace p193 := eq_true p193
             replace q193 := eq_true q193
             go_wp2_with (first | ((with_reducible refine gate_dst (N := 4) rfl ?_); refine box_event ?hg (N := 4) ?hd (cs := #[.string (⟨#[]⟩ : ByteArray), .string (⟨#[]⟩ : ByteArray)]) (t := 63) ?hr ?_; (case hd => rfl); (case hg => rfl); (case hr => first | (go_simp; done) | (go_simp; rfl)); intro gb194 hg w10 hbox hb; have n0_ := Aside0.mk (Kd.R_below (Kd.R_elderB (rdA HO_5.out) gb194 (Nat.le_of_eq hg.symm)) hb); have n1_ := Aside0.mk (below_step (hbA HB.out) hb); have n2_ := Aside0.mk (hbox); have n3_ := Aside0.mk ((by rw [hg]; exact (below_size (hbA HB.out)) : w.heap.size ≤ gb194)); have n4_ := Aside0.mk ((by rw [hg]; exact (below_size (hbA HB.out)) : w.heap.size ≤ gb194)); clear HO_5; clear HB; have HO_5 := n0_; have HB := n1_; have BK194 := n2_; have GW194 := n3_; have GE194 := n4_; clear n0_ n1_ n2_ n3_ n4_; clear hb hbox hg; obtain ⟨hcz11_0, hcz11_1, hfz11_0, hfz11_1⟩ := blkA2 BK194.out))
             go_ret
             exact ⟨reA, hbA HB.out⟩
           rw [if_neg c9] at H
           have c9b0 : (((rd_T63 t190 x7_1).f0).toList == a0.toList) = false := beq_eq_false_iff_ne.mpr c9
           have c9b1 : (((rd_T63 t190 x7_1).f0).toList != a0.toList) = true := bne_iff_ne.mpr c9
           have H' := Aside0.mk H
           clear H
           have p193 : 0 ≤ (x7_1 : Int) := of_decide_eq_true asA
           have q193 : x7_1 < (t190.length : Int) := of_decide_eq_true asA
           obtain ⟨ad193, e193, hx193_0, hx193_1⟩ := at_T63 (Kd.R_reads' HO_5.out).2.2 x7_1 p193 q193
           cases e193
           replace p193 := eq_true p193
           replace q193 := eq_true q193
           go_wp2_with (first | ((with_reducible refine gate_dst (N := 4) rfl ?_); refine box_event ?hg (N := 4) ?hd (cs := #[.string (⟨#[]⟩ : ByteArray), .string (⟨#[]⟩ : ByteArray)]) (t := 63) ?hr ?_; (case hd => rfl); (case hg => rfl); (case hr => first | (go_simp; done) | (go_simp; rfl)); intro gb194 hg w12 hbox hb; have n0_ := Aside0.mk (Kd.R_below (Kd.R_elderB (rdA HO_5.out) gb194 (Nat.le_of_eq hg.symm)) hb); have n1_ := Aside0.mk (below_step (hbA HB.out) hb); have n2_ := Aside0.mk (hbox); have n3_ := Aside0.mk ((by rw [hg]; exact (below_size (hbA HB.out)) : w.heap.size ≤ gb194)); have n4_ := Aside0.mk ((by rw [hg]; exact (below_size (hbA HB.out)) : w.heap.size ≤ gb194)); clear HO_5; clear HB; have HO_5 := n0_; have HB := n1_; have BK194 := n2_; have GW194 := n3_; have GE194 := n4_; clear n0_ n1_ n2_ n3_ n4_; clear hb hbox hg; obtain ⟨hcz13_0, hcz13_1, hfz13_0, hfz13_1⟩ := blkA2 BK194.out))
           go_roundg k1
           case measure => have := HK1.out; omega
           case rel => exact ⟨(wrap64 (x7_1 + 1)), rsA, H', ⟨by have := HK1.out; omega⟩, ⟨by (with_reducible repeat (first | apply Kd.R_alloc | apply Kd.R_drewN | apply Kd.R_drew)); exact Kd.R_mono (Kd.R_far (p := ⟨gb194, 1, none⟩) (Kd.R_far (p := ⟨gb194, 0, none⟩) (Kd.R_mono HO_5.out (fun k_ hk => (⟨hk, hk.2⟩ : _ ∧ k_ ≠ gb194))) (fun _ hk => hk.2) (.string ((rd_T63 t190 x7_1).f0))) (fun _ hk => hk.2) (.string ((rd_T63 t190 x7_1).f1))) (fun _ hk => trivial)⟩, ⟨hbA HB.out⟩⟩
         rw [if_neg c8] at H
         have c8b0 : decide (1 ≤ x7_1) = false := decide_eq_false c8
         clear c8
         have H' := Aside0.mk H
         clear H
         have p193 : 0 ≤ (x7_1 : Int) := of_decide_eq_true asA
         have q193 : x7_1 < (t190.length : Int) := of_decide_eq_true asA
         obtain ⟨ad193, e193, hx193_0, hx193_1⟩ := at_T63 (Kd.R_reads' HO_5.out).2.2 x7_1 p193 q193
         cases e193
         replace p193 := eq_true p193
         replace q193 := eq_true q193
         go_wp2_with (first | ((with_reducible refine gate_dst (N := 4) rfl ?_); refine box_event ?hg (N := 4) ?hd (cs := #[.string (⟨#[]⟩ : ByteArray), .string (⟨#[]⟩ : ByteArray)]) (t := 63) ?hr ?_; (case hd => rfl); (case hg => rfl); (case hr => first | (go_simp; done) | (go_simp; rfl)); intro gb194 hg w14 hbox hb; have n0_ := Aside0.mk (Kd.R_below (Kd.R_elderB (rdA HO_5.out) gb194 (Nat.le_of_eq hg.symm)) hb); have n1_ := Aside0.mk (below_step (hbA HB.out) hb); have n2_ := Aside0.mk (hbox); have n3_ := Aside0.mk ((by rw [hg]; exact (below_size (hbA HB.out)) : w.heap.size ≤ gb194)); have n4_ := Aside0.mk ((by rw [hg]; exact (below_size (hbA HB.out)) : w.heap.size ≤ gb194)); clear HO_5; clear HB; have HO_5 := n0_; have HB := n1_; have BK194 := n2_; have GW194 := n3_; have GE194 := n4_; clear n0_ n1_ n2_ n3_ n4_; clear hb hbox hg; obtain ⟨hcz15_0, hcz15_1, hfz15_0, hfz15_1⟩ := blkA2 BK194.out))
         go_roundg k1
         case measure => have := HK1.out; omega
         case rel => exact ⟨(wrap64 (x7_1 + 1)), rsA, H', ⟨by have := HK1.out; omega⟩, ⟨by (with_reducible repeat (first | apply Kd.R_alloc | apply Kd.R_drewN | apply Kd.R_drew)); exact Kd.R_mono (Kd.R_far (p := ⟨gb194, 1, none⟩) (Kd.R_far (p := ⟨gb194, 0, none⟩) (Kd.R_mono HO_5.out (fun k_ hk => (⟨hk, hk.2⟩ : _ ∧ k_ ≠ gb194))) (fun _ hk => hk.2) (.string ((rd_T63 t190 x7_1).f0))) (fun _ hk => hk.2) (.string ((rd_T63 t190 x7_1).f1))) (fun _ hk => trivial)⟩, ⟨hbA HB.out⟩⟩
       rw [if_neg c7] at H
       exact absurd H (by simp)
     rw [if_neg c6] at H
     exact absurd H (by simp)
   rw [if_neg c5] at H
   have c5b0 : decide (x7_1 < (t190.length : Int)) = false := decide_eq_false c5
   clear c5
   obtain rfl := Option.some.inj H
   go_wp2
   go_ret
   exact ⟨reA, hbA HB.out⟩

end
end Go.Proofs.YtfboejlemnfndaaGreatDoor.XMo
end
section
namespace Go.Proofs.YtfboejlemnfndaaGreatDoor.XMo
open Go.RowKit Go.Proofs.YtfboejlemnfndaaGreatDoorW.PrintWords Go.Proofs.YtfboejlemnfndaaGreatDoorW.PrintLast Go.Proofs.YtfboejlemnfndaaGreatDoorW.PrintMore
attribute [local go_sem] extract_sub max2_int min2_int max_two min_two max_three min_three max_four min_four   -- for this text's walks alone
set_option linter.unusedVariables false
set_option linter.unusedSimpArgs false

noncomputable section
def strings_TrimRight.f (a0 a1 : ByteArray) : Option ByteArray :=
 match a1.data.toList with
 | [c] => if c.toNat < 128 ∧ a0.size ≤ 9223372036854775807 then some ⟨(Lib.trimRightB a0.data.toList c).toArray⟩ else none
 | _ => none
theorem strings_TrimRight.calls (a0 a1 : ByteArray) (r : ByteArray) (w : World) (h : strings_TrimRight.f a0 a1 = some r) :
 Calls Tryz.prog 75 #[.string a0, .string a1] w fun e w' => e = .returned (.string r) ∧ Drawn0 w w' := by
 unfold strings_TrimRight.f at h
 split at h
 · rename_i c hc
   split at h
   · rename_i hh
     injection h with h
     subst h
     have e1 : a1 = ⟨#[c]⟩ := by
      cases a1
      rename_i d
      congr 1
      exact Array.toList_inj.1 hc
     subst e1
     refine (Tryz.strings_TrimRight_one a0 c hh.1 w hh.2).mono ?_
     rintro e w' ⟨he, hw⟩
     exact ⟨he, by rw [hw]; exact Drawn0.refl _⟩
   cases h
 cases h

end
end Go.Proofs.YtfboejlemnfndaaGreatDoor.XMo
end
section
namespace Go.Proofs.YtfboejlemnfndaaGreatDoor.XMo
open Go.RowKit Go.Proofs.YtfboejlemnfndaaGreatDoorW.PrintWords Go.Proofs.YtfboejlemnfndaaGreatDoorW.PrintLast Go.Proofs.YtfboejlemnfndaaGreatDoorW.PrintMore
attribute [local go_sem] extract_sub max2_int min2_int max_two min_two max_three min_three max_four min_four   -- for this text's walks alone
set_option linter.unusedVariables false
set_option linter.unusedSimpArgs false

noncomputable section
mutual
def meta_value.j0 : Nat → Int → Bool → Option (Int × Bool)
 | 0, _, _ => none
 | k + 1, x0, x4 => if x4 = true then (some ((x0 - 65) % 256, true)) else (if x0 ≥ 97 then (meta_value.j1 k x0 (decide (x0 ≤ 122))) else (meta_value.j1 k x0 false))
def meta_value.j1 : Nat → Int → Bool → Option (Int × Bool)
 | 0, _, _ => none
 | k + 1, x0, x14 => if x14 = true then (some (((x0 - 97) % 256) + 26, true)) else (if x0 ≥ 48 then (meta_value.j2 k x0 (decide (x0 ≤ 57))) else (meta_value.j2 k x0 false))
def meta_value.j2 : Nat → Int → Bool → Option (Int × Bool)
 | 0, _, _ => none
 | k + 1, x0, x25 => if x25 = true then (some (((x0 - 48) % 256) + 52, true)) else (if x0 = 43 then (some (62, true)) else (if x0 = 47 then (some (63, true)) else (some (0, false))))
end
def meta_value.f (k : Nat) (a0 : Int) : Option (Int × Bool) := if a0 ≥ 65 then (meta_value.j0 k a0 (decide (a0 ≤ 90))) else (meta_value.j0 k a0 false)
theorem meta_value.mono_l : ∀ k, (∀ y0 y1, LeO (meta_value.j0 k y0 y1) (meta_value.j0 (k + 1) y0 y1)) ∧ (∀ y0 y1, LeO (meta_value.j1 k y0 y1) (meta_value.j1 (k + 1) y0 y1)) ∧ (∀ y0 y1, LeO (meta_value.j2 k y0 y1) (meta_value.j2 (k + 1) y0 y1))
 | 0 => ⟨fun _ _ r h => by simp [meta_value.j0] at h, fun _ _ r h => by simp [meta_value.j1] at h, fun _ _ r h => by simp [meta_value.j2] at h⟩
 | k + 1 => by
  obtain ⟨ih0, ih1, ih2⟩ := meta_value.mono_l k
  refine ⟨?_, ?_, ?_⟩
  all_goals
   intros
   first | unfold meta_value.j0 | unfold meta_value.j1 | unfold meta_value.j2
   repeat' first
   | (with_reducible exact ih0 _ _)
   | (with_reducible exact ih1 _ _)
   | (with_reducible exact ih2 _ _)
   | (with_reducible exact LeO.refl _)
   | (with_reducible exact LeO.none _)
   | (with_reducible refine LeO.ite ?_ ?_)
   | (with_reducible refine LeO.bind ?_ (fun _ => ?_))
   | exact ih0 _ _
   | exact ih1 _ _
   | exact ih2 _ _
   | exact LeO.none _
   | refine LeO.ite ?_ ?_
   | refine LeO.bind ?_ (fun _ => ?_)
theorem meta_value.mono : ∀ a0 k, LeO (meta_value.f k a0) (meta_value.f (k + 1) a0) := by
 intro a0 k
 obtain ⟨ih0, ih1, ih2⟩ := meta_value.mono_l k
 unfold meta_value.f
 repeat' first
  | (with_reducible exact ih0 _ _)
  | (with_reducible exact ih1 _ _)
  | (with_reducible exact ih2 _ _)
  | (with_reducible exact LeO.refl _)
  | (with_reducible exact LeO.none _)
  | (with_reducible refine LeO.ite ?_ ?_)
  | (with_reducible refine LeO.bind ?_ (fun _ => ?_))
  | exact ih0 _ _
  | exact ih1 _ _
  | exact ih2 _ _
  | exact LeO.none _
  | refine LeO.ite ?_ ?_
  | refine LeO.bind ?_ (fun _ => ?_)
set_option maxHeartbeats 8000000 in
set_option maxRecDepth 100000 in
theorem meta_value.calls (k : Nat) (a0 : Int) (r1 : Int) (r2 : Bool) (w : World) (h : meta_value.f k a0 = some (r1, r2)) :
 Calls Tryz.prog 76 #[.int .u8 a0] w fun e w' => e = .returned (.tuple #[.int .u32 r1, .bool r2]) ∧ Drawn0 w w' := by
 have H : (if a0 ≥ 65 then (meta_value.j0 k a0 (decide (a0 ≤ 90))) else (meta_value.j0 k a0 false)) = some (r1, r2) := h
 clear h
 have HC2 := Aside0.mk H
 clear H
 go_enter Tryz.func76, Tryz.ntmps76
 go_upto_region 1 with (fail)
 go_cut [4] (fun v4 wc => ∃ (kq : Nat) (x4_1 : Bool), v4 = .bool x4_1 ∧ Aside0 (meta_value.j0 kq a0 x4_1 = some (r1, r2)) ∧ Aside0 (kq ≤ k) ∧ Drawn0 w wc)
 case first =>
  have H := HC2.out
  clear HC2
  by_cases c3 : a0 ≥ 65
  · rw [if_pos c3] at H
    have c3b0 : decide (65 ≤ a0) = true := decide_eq_true c3
    clear c3
    (first | rw [c3b0] | (simp only [i64_w, i32_w]; rw [c3b0]) | skip)
    have H' := Aside0.mk H
    clear H
    go_wp2
    go_meet
    case rel => exact ⟨_, (decide (a0 ≤ 90)), rsA, H', ⟨by first | omega | exact Nat.le_refl _⟩, drA⟩
  rw [if_neg c3] at H
  have c3b0 : decide (65 ≤ a0) = false := decide_eq_false c3
  clear c3
  (first | rw [c3b0] | (simp only [i64_w, i32_w]; rw [c3b0]) | skip)
  have H' := Aside0.mk H
  clear H
  go_wp2
  go_meet
  case rel => exact ⟨_, (false), rsA, H', ⟨by first | omega | exact Nat.le_refl _⟩, drA⟩
 clear HC2
 (try clear p2); (try clear c3); (try clear c3b0)
 obtain ⟨kq, x4_1, rfl, HA, HJ1, ⟨mc1, rfl⟩⟩ := hcut
 cases kq with
 | zero => exact absurd HA.out (by simp [meta_value.j0])
 | succ kj1 =>
  have H := HA.out
  clear HA
  simp only [meta_value.j0] at H
  by_cases c4 : x4_1 = true
  · subst c4
    have H1 : (some ((a0 - 65) % 256, true)) = some (r1, r2) := by rw [if_pos rfl] at H; exact H
    clear H
    have H := H1
    clear H1
    simp only [Option.some.injEq, Prod.mk.injEq] at H
    obtain ⟨rfl, rfl⟩ := H
    go_wp2
    go_ret2
    exact ⟨rsA, drA⟩
  replace c4 := Bool.eq_false_iff.mpr c4
  subst c4
  have H1 : (if a0 ≥ 97 then (meta_value.j1 kj1 a0 (decide (a0 ≤ 122))) else (meta_value.j1 kj1 a0 false)) = some (r1, r2) := by rw [if_neg (show ¬ (false = true) by decide)] at H; exact H
  clear H
  have H := H1
  clear H1
  have HC5 := Aside0.mk H
  clear H
  go_upto_region 3 with (fail)
  go_cut [14] (fun v14 wc => ∃ (kq : Nat) (x14_4 : Bool), v14 = .bool x14_4 ∧ Aside0 (meta_value.j1 kq a0 x14_4 = some (r1, r2)) ∧ Aside0 (kq ≤ kj1) ∧ Drawn0 w wc)
  case first =>
   have H := HC5.out
   clear HC5
   by_cases c6 : a0 ≥ 97
   · rw [if_pos c6] at H
     have c6b0 : decide (97 ≤ a0) = true := decide_eq_true c6
     clear c6
     (first | rw [c6b0] | (simp only [i64_w, i32_w]; rw [c6b0]) | skip)
     have H' := Aside0.mk H
     clear H
     go_wp2
     go_meet
     case rel => exact ⟨_, (decide (a0 ≤ 122)), rsA, H', ⟨by have := HJ1.out; first | omega | exact Nat.le_refl _⟩, drA⟩
   rw [if_neg c6] at H
   have c6b0 : decide (97 ≤ a0) = false := decide_eq_false c6
   clear c6
   (first | rw [c6b0] | (simp only [i64_w, i32_w]; rw [c6b0]) | skip)
   have H' := Aside0.mk H
   clear H
   go_wp2
   go_meet
   case rel => exact ⟨_, (false), rsA, H', ⟨by have := HJ1.out; first | omega | exact Nat.le_refl _⟩, drA⟩
  clear HC5
  (try clear c1); (try clear p2); (try clear c3); (try clear c3b0); (try clear c4); (try clear c6); (try clear c6b0); (try clear p2)
  obtain ⟨kq, x14_4, rfl, HA, HJ4, ⟨mc4, rfl⟩⟩ := hcut
  cases kq with
  | zero => exact absurd HA.out (by simp [meta_value.j1])
  | succ kj4 =>
   have H := HA.out
   clear HA
   simp only [meta_value.j1] at H
   by_cases c7 : x14_4 = true
   · subst c7
     have H1 : (some (((a0 - 97) % 256) + 26, true)) = some (r1, r2) := by rw [if_pos rfl] at H; exact H
     clear H
     have H := H1
     clear H1
     simp only [Option.some.injEq, Prod.mk.injEq] at H
     obtain ⟨rfl, rfl⟩ := H
     go_wp2
     go_ret2
     exact ⟨rsA, drA⟩
   replace c7 := Bool.eq_false_iff.mpr c7
   subst c7
   have H1 : (if a0 ≥ 48 then (meta_value.j2 kj4 a0 (decide (a0 ≤ 57))) else (meta_value.j2 kj4 a0 false)) = some (r1, r2) := by rw [if_neg (show ¬ (false = true) by decide)] at H; exact H
   clear H
   have H := H1
   clear H1
   have HC8 := Aside0.mk H
   clear H
   go_upto_region 5 with (fail)
   go_cut [25] (fun v25 wc => ∃ (kq : Nat) (x25_7 : Bool), v25 = .bool x25_7 ∧ Aside0 (meta_value.j2 kq a0 x25_7 = some (r1, r2)) ∧ Aside0 (kq ≤ kj4) ∧ Drawn0 w wc)
   case first =>
    have H := HC8.out
    clear HC8
    by_cases c9 : a0 ≥ 48
    · rw [if_pos c9] at H
      have c9b0 : decide (48 ≤ a0) = true := decide_eq_true c9
      clear c9
      (first | rw [c9b0] | (simp only [i64_w, i32_w]; rw [c9b0]) | skip)
      have H' := Aside0.mk H
      clear H
      go_wp2
      go_meet
      case rel => exact ⟨_, (decide (a0 ≤ 57)), rsA, H', ⟨by have := HJ1.out; have := HJ4.out; first | omega | exact Nat.le_refl _⟩, drA⟩
    rw [if_neg c9] at H
    have c9b0 : decide (48 ≤ a0) = false := decide_eq_false c9
    clear c9
    (first | rw [c9b0] | (simp only [i64_w, i32_w]; rw [c9b0]) | skip)
    have H' := Aside0.mk H
    clear H
    go_wp2
    go_meet
    case rel => exact ⟨_, (false), rsA, H', ⟨by have := HJ1.out; have := HJ4.out; first | omega | exact Nat.le_refl _⟩, drA⟩
   clear HC8
   (try clear c1); (try clear p2); (try clear c3); (try clear c3b0); (try clear c4); (try clear c6); (try clear c6b0); (try clear c7); (try clear c9); (try clear c9b0); (try clear p2)
   obtain ⟨kq, x25_7, rfl, HA, HJ7, ⟨mc7, rfl⟩⟩ := hcut
   cases kq with
   | zero => exact absurd HA.out (by simp [meta_value.j2])
   | succ kj7 =>
    have H := HA.out
    clear HA
    simp only [meta_value.j2] at H
    by_cases c10 : x25_7 = true
    · subst c10
      have H1 : (some (((a0 - 48) % 256) + 52, true)) = some (r1, r2) := by rw [if_pos rfl] at H; exact H
      clear H
      have H := H1
      clear H1
      simp only [Option.some.injEq, Prod.mk.injEq] at H
      obtain ⟨rfl, rfl⟩ := H
      go_wp2
      go_ret2
      exact ⟨rsA, drA⟩
    replace c10 := Bool.eq_false_iff.mpr c10
    subst c10
    have H1 : (if a0 = 43 then (some (62, true)) else (if a0 = 47 then (some (63, true)) else (some (0, false)))) = some (r1, r2) := by rw [if_neg (show ¬ (false = true) by decide)] at H; exact H
    clear H
    have H := H1
    clear H1
    by_cases c11 : a0 = 43
    · rw [if_pos c11] at H
      have c11b0 : (a0 == 43) = true := beq_iff_eq.mpr c11
      have c11b1 : (a0 != 43) = false := bne_eq_false_iff_eq.mpr c11
      clear c11
      simp only [Option.some.injEq, Prod.mk.injEq] at H
      obtain ⟨rfl, rfl⟩ := H
      go_wp2
      go_ret2
      exact ⟨rsA, drA⟩
    rw [if_neg c11] at H
    have c11b0 : (a0 == 43) = false := beq_eq_false_iff_ne.mpr c11
    have c11b1 : (a0 != 43) = true := bne_iff_ne.mpr c11
    by_cases c12 : a0 = 47
    · rw [if_pos c12] at H
      have c12b0 : (a0 == 47) = true := beq_iff_eq.mpr c12
      have c12b1 : (a0 != 47) = false := bne_eq_false_iff_eq.mpr c12
      clear c12
      simp only [Option.some.injEq, Prod.mk.injEq] at H
      obtain ⟨rfl, rfl⟩ := H
      go_wp2
      go_ret2
      exact ⟨rsA, drA⟩
    rw [if_neg c12] at H
    have c12b0 : (a0 == 47) = false := beq_eq_false_iff_ne.mpr c12
    have c12b1 : (a0 != 47) = true := bne_iff_ne.mpr c12
    simp only [Option.some.injEq, Prod.mk.injEq] at H
    obtain ⟨rfl, rfl⟩ := H
    go_wp2
    go_ret2
    exact ⟨rsA, drA⟩

def meta_three.l0 : Nat → ByteArray → Int → Int → Int → Option (ByteArray × Bool)
 | 0, _, _, _, _ => none
 | k + 1, x0, x4, x5, x15 => if x15 < 4 then (if x15 ≥ x4 then (meta_three.l0 k x0 x4 ((x5 * 64) % 4294967296) (wrap64 (x15 + 1))) else (if 0 ≤ x15 then (if x15 < (x0.size : Int) then ((meta_value.f k (bt x0 x15)).bind fun bt200 => (if bt200.2 = true then (meta_three.l0 k x0 x4 (Go.bits .or .u32 ((x5 * 64) % 4294967296) bt200.1) (wrap64 (x15 + 1))) else (some ((⟨#[]⟩ : ByteArray), false)))) else (none)) else (none))) else ((some (([(x5 / 65536) % 256, (x5 / 256) % 256, (x5) % 256] : List Int) : List Int)).bind fun y196 => (if 0 ≤ (wrap64 (x4 - 1)) then (if (wrap64 (x4 - 1)) ≤ ((strOfNums y196).size : Int) then ((meta_Encode.f (sub (strOfNums y196) 0 ((wrap64 (x4 - 1)) : Int).toNat)).bind fun t199 => (some (sub (strOfNums y196) 0 ((wrap64 (x4 - 1)) : Int).toNat, (t199.toList == x0.toList)))) else (none)) else (none)))
def meta_three.f (k : Nat) (a0 : ByteArray) : Option (ByteArray × Bool) := (strings_TrimRight.f a0 (⟨#[61]⟩ : ByteArray)).bind fun t195 => (if (t195.size : Int) < 2 then (some ((⟨#[]⟩ : ByteArray), false)) else (meta_three.l0 k a0 (t195.size : Int) 0 0))
theorem meta_three.mono_l : ∀ k, (∀ y0 y1 y2 y3, LeO (meta_three.l0 k y0 y1 y2 y3) (meta_three.l0 (k + 1) y0 y1 y2 y3))
 | 0 => fun _ _ _ _ r h => by simp [meta_three.l0] at h
 | k + 1 => by
  have ih0 := meta_three.mono_l k
  · intro y0 y1 y2 y3
    unfold meta_three.l0
    repeat' first
    | (with_reducible exact ih0 _ _ _ _)
    | (with_reducible exact meta_value.mono _ _)
    | (with_reducible exact LeO.refl _)
    | (with_reducible exact LeO.none _)
    | (with_reducible refine LeO.ite ?_ ?_)
    | (with_reducible refine LeO.bind ?_ (fun _ => ?_))
    | exact ih0 _ _ _ _
    | exact meta_value.mono _ _
    | exact LeO.none _
    | refine LeO.ite ?_ ?_
    | refine LeO.bind ?_ (fun _ => ?_)
theorem meta_three.mono : ∀ a0 k, LeO (meta_three.f k a0) (meta_three.f (k + 1) a0) := by
 intro a0 k
 have ih0 := meta_three.mono_l k
 unfold meta_three.f
 repeat' first
  | (with_reducible exact ih0 _ _ _ _)
  | (with_reducible exact meta_value.mono _ _)
  | (with_reducible exact LeO.refl _)
  | (with_reducible exact LeO.none _)
  | (with_reducible refine LeO.ite ?_ ?_)
  | (with_reducible refine LeO.bind ?_ (fun _ => ?_))
  | exact ih0 _ _ _ _
  | exact meta_value.mono _ _
  | exact LeO.none _
  | refine LeO.ite ?_ ?_
  | refine LeO.bind ?_ (fun _ => ?_)
set_option maxHeartbeats 8000000 in
set_option maxRecDepth 100000 in
theorem meta_three.calls (k : Nat) (a0 : ByteArray) (r1 : ByteArray) (r2 : Bool) (w : World) (h : meta_three.f k a0 = some (r1, r2)) :
 Calls Tryz.prog 56 #[.string a0] w fun e w' => e = .returned (.tuple #[.string r1, .bool r2]) ∧ Below w.heap.size w w' := by
 have HB := Aside0.mk (Below.refl w.heap.size w)
 have H : ((strings_TrimRight.f a0 (⟨#[61]⟩ : ByteArray)).bind fun t195 => (if (t195.size : Int) < 2 then (some ((⟨#[]⟩ : ByteArray), false)) else (meta_three.l0 k a0 (t195.size : Int) 0 0))) = some (r1, r2) := h
 clear h
 replace H := Option.bind_eq_some_iff.mp H
 obtain ⟨t195, A20, H⟩ := H
 replace H : (if (t195.size : Int) < 2 then (some ((⟨#[]⟩ : ByteArray), false)) else (meta_three.l0 k a0 (t195.size : Int) 0 0)) = some (r1, r2) := H
 have A2 := Aside0.mk A20
 clear A20
 by_cases c3 : (t195.size : Int) < 2
 · rw [if_pos c3] at H
   have c3b0 : decide ((t195.size : Int) < 2) = true := decide_eq_true c3
   have c3b1 : decide (t195.size < 2) = true := decide_eq_true (by omega)
   clear c3
   simp only [Option.some.injEq, Prod.mk.injEq] at H
   obtain ⟨rfl, rfl⟩ := H
   go_enter Tryz.func56, Tryz.ntmps56
   go_wp2_with (first | ((with_reducible refine gate_callee (f := 75) rfl ?_); refine goesL_ (some 11) rfl rfl Tryz.func75 (by kernel_rfl) rfl #[.string a0, .string (⟨#[61]⟩ : ByteArray)] rfl argA ?_; (with_reducible refine (strings_TrimRight.calls a0 (⟨#[61]⟩ : ByteArray) t195 _ A2.out).mono ?_); rintro e w' ⟨rfl, ⟨nd, rfl⟩⟩; refine ⟨_, rfl, ?_⟩))
   go_ret2
   exact ⟨reA, hbA HB.out⟩
 rw [if_neg c3] at H
 have c3b0 : decide ((t195.size : Int) < 2) = false := decide_eq_false c3
 have c3b1 : decide (t195.size < 2) = false := decide_eq_false (by omega)
 clear c3
 have H' := Aside0.mk H
 clear H
 go_enter Tryz.func56, Tryz.ntmps56
 go_wp2_with (first | ((with_reducible refine gate_callee (f := 75) rfl ?_); refine goesL_ (some 11) rfl rfl Tryz.func75 (by kernel_rfl) rfl #[.string a0, .string (⟨#[61]⟩ : ByteArray)] rfl argA ?_; (with_reducible refine (strings_TrimRight.calls a0 (⟨#[61]⟩ : ByteArray) t195 _ A2.out).mono ?_); rintro e w' ⟨rfl, ⟨nd, rfl⟩⟩; refine ⟨_, rfl, ?_⟩))
 go_loopg [5, 15] k (fun kq v5 v15 w' => ∃ (x5_1 : Int) (x15_1 : Int), v5 = .int .u32 x5_1 ∧ v15 = .int .i64 x15_1 ∧ Aside0 (meta_three.l0 kq a0 (t195.size : Int) x5_1 x15_1 = some (r1, r2)) ∧ Aside0 (kq ≤ k) ∧ Aside0 (Below w.heap.size w w'))
 case atStart => exact ⟨(0), (0), rsA, rsA, H', ⟨Nat.le_refl _⟩, ⟨hbA HB.out⟩⟩
 case round =>
  clear H'
  (try clear p2); (try clear c3); (try clear c3b0); (try clear c3b1)
  obtain ⟨x5_1, x15_1, rfl, rfl, HA, HK1, HB⟩ := hrel
  cases gk with
  | zero => exact absurd HA.out (by simp [meta_three.l0])
  | succ k1 =>
   have H := HA.out
   clear HA
   simp only [meta_three.l0] at H
   by_cases c4 : x15_1 < 4
   · rw [if_pos c4] at H
     have c4b0 : decide (x15_1 < 4) = true := decide_eq_true c4
     clear c4
     by_cases c5 : x15_1 ≥ (t195.size : Int)
     · rw [if_pos c5] at H
       have c5b0 : decide ((t195.size : Int) ≤ x15_1) = true := decide_eq_true c5
       clear c5
       have H' := Aside0.mk H
       clear H
       go_wp2
       go_roundg k1
       case measure => have := HK1.out; omega
       case rel => exact ⟨((x5_1 * 64) % 4294967296), (wrap64 (x15_1 + 1)), rsA, rsA, H', ⟨by have := HK1.out; omega⟩, ⟨hbA HB.out⟩⟩
     rw [if_neg c5] at H
     have c5b0 : decide ((t195.size : Int) ≤ x15_1) = false := decide_eq_false c5
     clear c5
     by_cases c6 : 0 ≤ x15_1
     · rw [if_pos c6] at H
       have c6b0 : decide (0 ≤ x15_1) = true := decide_eq_true c6
       clear c6
       by_cases c7 : x15_1 < (a0.size : Int)
       · rw [if_pos c7] at H
         have c7b0 : decide (x15_1 < (a0.size : Int)) = true := decide_eq_true c7
         clear c7
         replace H := Option.bind_eq_some_iff.mp H
         obtain ⟨⟨t200, t201⟩, A90, H⟩ := H
         replace H : (if t201 = true then (meta_three.l0 k1 a0 (t195.size : Int) (Go.bits .or .u32 ((x5_1 * 64) % 4294967296) t200) (wrap64 (x15_1 + 1))) else (some ((⟨#[]⟩ : ByteArray), false))) = some (r1, r2) := H
         have A9 := Aside0.mk A90
         clear A90
         by_cases c10 : t201 = true
         · subst c10
           have H1 : (meta_three.l0 k1 a0 (t195.size : Int) (Go.bits .or .u32 ((x5_1 * 64) % 4294967296) t200) (wrap64 (x15_1 + 1))) = some (r1, r2) := by rw [if_pos rfl] at H; exact H
           clear H
           have H := H1
           clear H1
           have H' := Aside0.mk H
           clear H
           have p8 : 0 ≤ (x15_1 : Int) := of_decide_eq_true asA
           have q8 : x15_1 < (a0.size : Int) := of_decide_eq_true asA
           have hx8 := bt_at a0 x15_1
           replace p8 := eq_true p8
           replace q8 := eq_true q8
           go_wp2_with (first | ((with_reducible refine gate_callee (f := 76) rfl ?_); refine goesL_ (some 27) rfl rfl Tryz.func76 (by kernel_rfl) rfl #[.int .u8 (bt a0 x15_1)] rfl argA ?_; (with_reducible refine (meta_value.calls k1 (bt a0 x15_1) t200 true _ A9.out).mono ?_); rintro e w' ⟨rfl, ⟨nd, rfl⟩⟩; refine ⟨_, rfl, ?_⟩))
           go_roundg k1
           case measure => have := HK1.out; omega
           case rel => exact ⟨(Go.bits .or .u32 ((x5_1 * 64) % 4294967296) t200), (wrap64 (x15_1 + 1)), rsA, rsA, H', ⟨by have := HK1.out; omega⟩, ⟨hbA HB.out⟩⟩
         replace c10 := Bool.eq_false_iff.mpr c10
         subst c10
         have H1 : (some ((⟨#[]⟩ : ByteArray), false)) = some (r1, r2) := by rw [if_neg (show ¬ (false = true) by decide)] at H; exact H
         clear H
         have H := H1
         clear H1
         simp only [Option.some.injEq, Prod.mk.injEq] at H
         obtain ⟨rfl, rfl⟩ := H
         have p8 : 0 ≤ (x15_1 : Int) := of_decide_eq_true asA
         have q8 : x15_1 < (a0.size : Int) := of_decide_eq_true asA
         have hx8 := bt_at a0 x15_1
         replace p8 := eq_true p8
         replace q8 := eq_true q8
         go_wp2_with (first | ((with_reducible refine gate_callee (f := 76) rfl ?_); refine goesL_ (some 27) rfl rfl Tryz.func76 (by kernel_rfl) rfl #[.int .u8 (bt a0 x15_1)] rfl argA ?_; (with_reducible refine (meta_value.calls k1 (bt a0 x15_1) t200 false _ A9.out).mono ?_); rintro e w' ⟨rfl, ⟨nd, rfl⟩⟩; refine ⟨_, rfl, ?_⟩))
         go_ret2
         exact ⟨reA, hbA HB.out⟩
       rw [if_neg c7] at H
       exact absurd H (by simp)
     rw [if_neg c6] at H
     exact absurd H (by simp)
   rw [if_neg c4] at H
   have c4b0 : decide (x15_1 < 4) = false := decide_eq_false c4
   clear c4
   obtain ⟨y196, hy196⟩ : ∃ y_ : List Int, y_ = (([(x5_1 / 65536) % 256, (x5_1 / 256) % 256, (x5_1) % 256] : List Int)) := ⟨_, rfl⟩
   replace H : (if 0 ≤ (wrap64 ((t195.size : Int) - 1)) then (if (wrap64 ((t195.size : Int) - 1)) ≤ ((strOfNums y196).size : Int) then ((meta_Encode.f (sub (strOfNums y196) 0 ((wrap64 ((t195.size : Int) - 1)) : Int).toNat)).bind fun t199 => (some (sub (strOfNums y196) 0 ((wrap64 ((t195.size : Int) - 1)) : Int).toNat, (t199.toList == a0.toList)))) else (none)) else (none)) = some (r1, r2) := by first | (rw [hy196]; with_reducible exact H) | (have H2_ := (Option.bind_some _ _).symm.trans H; rw [hy196]; with_reducible exact H2_) | (have H2_ := (Option.bind_some _ _).symm.trans H; with_reducible exact H2_) | with_reducible exact H | (rw [hy196]; exact H) | exact H
   have Ny196 := Aside0.mk hy196
   clear hy196
   obtain ⟨ji11, hji11⟩ : ∃ j_ : Int, (wrap64 ((t195.size : Int) - 1)) = j_ := ⟨_, rfl⟩
   replace H : (if 0 ≤ (ji11) then (if (ji11) ≤ ((strOfNums y196).size : Int) then ((meta_Encode.f (sub (strOfNums y196) 0 ((ji11) : Int).toNat)).bind fun t199 => (some (sub (strOfNums y196) 0 ((ji11) : Int).toNat, (t199.toList == a0.toList)))) else (none)) else (none)) = some (r1, r2) := by first | (rw [hji11] at H; exact H) | (simp only [hji11] at H ⊢; exact H)
   have hji11w : (IntKind.i64.wrap ((t195.size : Int) - 1)) = ji11 := (i64_w _).trans hji11
   by_cases c12 : 0 ≤ (ji11)
   · rw [if_pos c12] at H
     have c12b0 := eq_true c12
     have c12b1 : decide (0 ≤ (ji11)) = true := decide_eq_true c12
     clear c12
     by_cases c13 : (ji11) ≤ ((strOfNums y196).size : Int)
     · rw [if_pos c13] at H
       have c13b0 := eq_true c13
       have c13b1 : decide ((ji11) ≤ ((strOfNums y196).size : Int)) = true := decide_eq_true c13
       clear c13
       replace H := Option.bind_eq_some_iff.mp H
       obtain ⟨t199, A140, H⟩ := H
       replace H : (some (sub (strOfNums y196) 0 ((ji11) : Int).toNat, (t199.toList == a0.toList))) = some (r1, r2) := H
       have A14 := Aside0.mk A140
       clear A140
       simp only [Option.some.injEq, Prod.mk.injEq] at H
       obtain ⟨rfl, rfl⟩ := H
       go_wp2_with (first | ((with_reducible refine gate_dst (N := 44) rfl ?_); refine Kd.R_lit (Kd.int .u8) _ 5 ?hg (N := 44) ?hd (xs := ([(x5_1 / 65536) % 256, (x5_1 / 256) % 256, (x5_1) % 256] : List Int)) (inner := [.int .u8 ((x5_1 / 65536) % 256), .int .u8 ((x5_1 / 256) % 256), .int .u8 ((x5_1) % 256)]) (ok := fun _ => True) (okp := fun _ => True) ?hr ?hp (fun _ hk => hk) trivial (Below.refl _ _) (Nat.le_refl _) (by simp) ?_; (case hd => rfl); (case hg => rfl); (case hr => first | (go_simp; done) | (go_simp; rfl)); (case hp => exact (Reps.one (show Kd.M (Kd.int .u8) _ _ _ ((x5_1 / 65536) % 256) [.int .u8 ((x5_1 / 65536) % 256)] from rfl) (Reps.one (show Kd.M (Kd.int .u8) _ _ _ ((x5_1 / 256) % 256) [.int .u8 ((x5_1 / 256) % 256)] from rfl) (Reps.one (show Kd.M (Kd.int .u8) _ _ _ ((x5_1) % 256) [.int .u8 ((x5_1) % 256)] from rfl) (Reps.none _ _))))); intro v197 w15 ho16 hb hg_ hnew_; clear hg_ hnew_; (first | rw [← Ny196.out] at ho16 | (simp only [Int.reduceToNat] at ho16; rw [← Ny196.out] at ho16)); have n0_ := Aside0.mk (Kd.R_lower ho16 (below_size (hbA HB.out))); have n1_ := Aside0.mk (below_step (hbA HB.out) hb); clear HB; have HO198 := n0_; have HB := n1_; clear n0_ n1_; clear hb ho16; have hcv17 := own_string (P := Tryz.prog) Tryz.underlying70 Tryz.underlying5 Tryz.underlying9 (Kd.own_of_R HO198.out)) | ((with_reducible refine gate_callee (f := 26) rfl ?_); refine goesL_ (some 51) rfl rfl Tryz.func26 (by kernel_rfl) rfl #[.string (sub (strOfNums y196) 0 ((ji11) : Int).toNat)] rfl (by (try simp only [List.map_toArray, List.map_cons, List.map_nil]); first | done | (simp only [hji11]; rfl) | rfl | (simp only [List.length_drop, List.length_take]; rfl) | (simp only [IntKind.wrap_u64]; rw [Int.emod_eq_of_lt (by omega) (by omega)]; rfl) | (simp only [ByteArray.size_extract]; done) | (simp only [ByteArray.size_extract]; rfl)) ?_; (with_reducible refine (meta_Encode.calls (sub (strOfNums y196) 0 ((ji11) : Int).toNat) t199 _ A14.out).mono ?_); rintro e w18 ⟨rfl, hb⟩; refine ⟨_, rfl, ?_⟩; replace HO198 := Aside0.mk (Kd.R_below (rdA HO198.out) hb); replace HB := Aside0.mk (below_step (hbA HB.out) hb); (try clear hb); (try clear hb2); (try clear hk); (try clear hi)))
       go_ret2
       exact ⟨by first | rfl | (simp [errW_none, errW_some] <;> rfl) | (simp only [← hji11]; first | rfl | (simp [errW_none, errW_some] <;> rfl)) | (simp [*, errW_none, errW_some] <;> rfl), hbA HB.out⟩
     rw [if_neg c13] at H
     exact absurd H (by simp)
   rw [if_neg c12] at H
   exact absurd H (by simp)

end
end Go.Proofs.YtfboejlemnfndaaGreatDoor.XMo
end
section
namespace Go.Proofs.YtfboejlemnfndaaGreatDoor
open Go.RowKit Go.Shelf

set_option maxHeartbeats 4000000 in
set_option maxRecDepth 100000 in
theorem bld_string (B b : Nat) (l : List UInt8) (s : ByteArray) (w : World) (h : IsBld B b l w) (hlen : l.length + s.size ≤ 140737488355328) (hBw : B ≤ w.heap.size) :
    Calls Tryz.prog 57 #[.pointer (some ⟨b, 0, none⟩), .string s] w fun e w' => e = .returned (.tuple #[.int .i64 s.size, .nilIface]) ∧ IsBld B b (l ++ s.data.toList) w' ∧ Below B w w' := by
  obtain ⟨i0, hi, hz0, hz1, hz2⟩ := info_parts bldByte
  have hll : (Lib.byteCells l).length = l.length := Lib.byteCells_length l
  have HE : Hid (Lib.byteCells (l ++ s.data.toList) = Lib.byteCells l ++ Lib.strCells s) := Lib.byteCells_append _ _
  unfold IsBld at h ⊢
  rw [HE.out]
  have hlen' : (Lib.byteCells l).length + s.size ≤ 140737488355328 := by omega
  clear HE hll hlen
  generalize Lib.byteCells l = bs at *
  go_enter Tryz.func57, Tryz.ntmps57
  go_wp2_with (go_at_call 74; refine (bld_check B b bs _ h).mono ?_)
  rintro e w1 ⟨rfl, h1, hb1⟩
  obtain ⟨hB, v, hbk, hown, hne⟩ := h1
  have c0 : w1.cell? ⟨b, 0, none⟩ = some (.pointer (some ⟨b, 0, none⟩)) := by rw [Lib.cell_of_heap hbk]; rfl
  have c1 : w1.cell? ⟨b, 1, none⟩ = some v := by rw [Lib.cell_of_heap hbk]; rfl
  go_wp2_with (at_builtin; refine Lib.wpList_append_own_stringF _ rfl _ _ 70 9 rfl B 5 i0 Tryz.underlying70 Tryz.underlying9 hi hz0 hz1 hz2 _ _ _ rfl hown s rfl ?c3 ?c4 ?c5 ?_)
  case c3 => unfold maxLen; omega
  case c4 => omega
  case c5 => have := hb1.size; omega
  intro v' w2 hown' hgrow _
  have hlt : b < w1.heap.size := by
    rcases Nat.lt_or_ge b w1.heap.size with h' | h'
    · exact h'
    · simp [Array.getElem?_eq_none h'] at hbk
  have hb2 : w2.heap[b]? = some (.cells #[.pointer (some ⟨b, 0, none⟩), v] 91 (0, 0)) := by
    rw [hgrow.block b hlt (fun e => hne e.symm)]
    exact hbk
  have d0 : w2.cell? ⟨b, 0, none⟩ = some (.pointer (some ⟨b, 0, none⟩)) := by rw [Lib.cell_of_heap hb2]; rfl
  have d1 : w2.cell? ⟨b, 1, none⟩ = some v := by rw [Lib.cell_of_heap hb2]; rfl
  have f1 : w2.frozen? ⟨b, 1, none⟩ = false := Lib.frozen_of_heap hb2 1
  obtain ⟨ao, n', cap, rfl⟩ : ∃ ao n' cap, v' = .slice ao n' cap := by
    rcases hown'.2 with ⟨hv, _⟩ | ⟨g, cap, cur, fz, hv, _⟩
    · exact ⟨_, _, _, hv⟩
    · exact ⟨_, _, _, hv⟩
  go_wp2
  go_ret2
  refine ⟨rfl, .inr ?_, ?_⟩
  · exact Lib.BuilderAtF.put (T := 91) (e := 5) hB hb2 (bs' := bs ++ Lib.strCells s) (by simpa [Lib.strCells_length] using hown') (by decide)
  · exact (hb1.grown hgrow (by have := hb1.size; omega) (fun k hk => (hown.lt k hk).1)).setCell (p := ⟨b, 1, none⟩) hB _
end Go.Proofs.YtfboejlemnfndaaGreatDoor
end
section
namespace Go.Proofs.YtfboejlemnfndaaGreatDoor.XMo
open Go.RowKit Go.Proofs.YtfboejlemnfndaaGreatDoorW.PrintWords Go.Proofs.YtfboejlemnfndaaGreatDoorW.PrintLast Go.Proofs.YtfboejlemnfndaaGreatDoorW.PrintMore
attribute [local go_sem] extract_sub max2_int min2_int max_two min_two max_three min_three max_four min_four   -- for this text's walks alone
set_option linter.unusedVariables false
set_option linter.unusedSimpArgs false

noncomputable section
def meta_Decode.vl (c : Nat) : Option Nat := if 65 ≤ c ∧ c ≤ 90 then some (c - 65) else if 97 ≤ c ∧ c ≤ 122 then some (c - 71) else if 48 ≤ c ∧ c ≤ 57 then some (c + 4) else if c = 43 then some 62 else if c = 47 then some 63 else none
theorem meta_Decode.vl_lt (v : Nat) (h : v < 64) : meta_Decode.vl (B64.lt v) = some v := by
 unfold B64.lt meta_Decode.vl
 split
 · rw [if_pos (by omega)]; congr 1; omega
 split
 · rw [if_neg (by omega), if_pos (by omega)]; congr 1; omega
 split
 · rw [if_neg (by omega), if_neg (by omega), if_pos (by omega)]; congr 1; omega
 split
 · rw [if_neg (by omega), if_neg (by omega), if_neg (by omega), if_pos rfl]; congr 1; omega
 rw [if_neg (by omega), if_neg (by omega), if_neg (by omega), if_neg (by omega), if_pos rfl]; congr 1; omega
theorem meta_Decode.vl_range (c v : Nat) (h : meta_Decode.vl c = some v) : v < 64 := by
 unfold meta_Decode.vl at h
 repeat' split at h
 all_goals first | cases h; omega | cases h
def meta_Decode.told (o : Option Nat) : Int × Bool := match o with
 | some v => ((v : Int), true)
 | none => (0, false)
theorem meta_Decode.value_f (c k : Nat) (h : c < 256) : meta_value.f (k + 1 + 1 + 1) (c : Int) = some (meta_Decode.told (meta_Decode.vl c)) := by
 unfold meta_value.f
 by_cases a0 : 65 ≤ c
 · rw [if_pos (by omega), meta_value.j0]
   by_cases a1 : c ≤ 90
   · rw [if_pos (decide_eq_true (by omega))]
     have e : meta_Decode.vl c = some (c - 65) := if_pos ⟨a0, a1⟩
     rw [e]
     simp only [meta_Decode.told, Option.some.injEq, Prod.mk.injEq, and_true]; omega
   rw [if_neg (fun hh => by have := of_decide_eq_true hh; omega)]
   by_cases b0 : 97 ≤ c
   · rw [if_pos (by omega), meta_value.j1]
     by_cases b1 : c ≤ 122
     · rw [if_pos (decide_eq_true (by omega))]
       have e : meta_Decode.vl c = some (c - 71) := by unfold meta_Decode.vl; rw [if_neg (by omega), if_pos ⟨b0, b1⟩]
       rw [e]
       simp only [meta_Decode.told, Option.some.injEq, Prod.mk.injEq, and_true]; omega
     have e : meta_Decode.vl c = none := by unfold meta_Decode.vl; rw [if_neg (by omega), if_neg (by omega), if_neg (by omega), if_neg (by omega), if_neg (by omega)]
     rw [if_neg (fun hh => by have := of_decide_eq_true hh; omega), if_pos (by omega), meta_value.j2, if_neg (fun hh => by have := of_decide_eq_true hh; omega), if_neg (by omega), if_neg (by omega), e]
     rfl
   have e : meta_Decode.vl c = none := by unfold meta_Decode.vl; rw [if_neg (by omega), if_neg (by omega), if_neg (by omega), if_neg (by omega), if_neg (by omega)]
   rw [if_neg (by omega), meta_value.j1, if_neg Bool.false_ne_true, if_pos (by omega), meta_value.j2, if_neg (fun hh => by have := of_decide_eq_true hh; omega), if_neg (by omega), if_neg (by omega), e]
   rfl
 rw [if_neg (by omega), meta_value.j0, if_neg Bool.false_ne_true, if_neg (by omega), meta_value.j1, if_neg Bool.false_ne_true]
 by_cases c0 : 48 ≤ c
 · rw [if_pos (by omega), meta_value.j2]
   by_cases c1 : c ≤ 57
   · rw [if_pos (decide_eq_true (by omega))]
     have e : meta_Decode.vl c = some (c + 4) := by unfold meta_Decode.vl; rw [if_neg (by omega), if_neg (by omega), if_pos ⟨c0, c1⟩]
     rw [e]
     simp only [meta_Decode.told, Option.some.injEq, Prod.mk.injEq, and_true]; omega
   have e : meta_Decode.vl c = none := by unfold meta_Decode.vl; rw [if_neg (by omega), if_neg (by omega), if_neg (by omega), if_neg (by omega), if_neg (by omega)]
   rw [if_neg (fun hh => by have := of_decide_eq_true hh; omega), if_neg (by omega), if_neg (by omega), e]
   rfl
 rw [if_neg (by omega), meta_value.j2, if_neg Bool.false_ne_true]
 by_cases d : c = 43
 · have e : meta_Decode.vl c = some 62 := by unfold meta_Decode.vl; rw [if_neg (by omega), if_neg (by omega), if_neg (by omega), if_pos d]
   rw [if_pos (by omega), e]
   rfl
 rw [if_neg (by omega)]
 by_cases e : c = 47
 · have e' : meta_Decode.vl c = some 63 := by unfold meta_Decode.vl; rw [if_neg (by omega), if_neg (by omega), if_neg (by omega), if_neg d, if_pos e]
   rw [if_pos (by omega), e']
   rfl
 have e' : meta_Decode.vl c = none := by unfold meta_Decode.vl; rw [if_neg (by omega), if_neg (by omega), if_neg (by omega), if_neg d, if_neg e]
 rw [if_neg (by omega), e']
 rfl
theorem meta_Decode.value_at (c k : Nat) (h : c < 256) (hk : 3 ≤ k) : meta_value.f k (c : Int) = some (meta_Decode.told (meta_Decode.vl c)) := by
 obtain ⟨m, rfl⟩ : ∃ m, k = m + 1 + 1 + 1 := ⟨k - 3, by omega⟩
 exact meta_Decode.value_f c m h
theorem meta_Decode.bt_list (s : ByteArray) (i : Nat) (c : UInt8) (h : s.data.toList[i]? = some c) : bt s (i : Int) = (c.toNat : Int) := by
 have hi : i < s.size := by
  rcases Nat.lt_or_ge i s.size with h' | h'
  · exact h'
  rw [List.getElem?_eq_none (by rw [Array.length_toList]; exact h')] at h; cases h
 unfold bt
 rw [dif_pos (by simpa using hi)]
 have : s[i]'hi = c := by
  have e := List.getElem?_eq_getElem (l := s.data.toList) (i := i) (by rw [Array.length_toList]; exact hi)
  rw [e] at h
  injection h
 simp only [Int.toNat_natCast]
 rw [this]

section
variable (g : ByteArray) (hg : g.size = 4)
include hg
theorem meta_Decode.three_in (n w i v : Nat) (c : UInt8) (hi : i < 4) (hn : i < n) (hc : g.data.toList[i]? = some c) (hv : meta_Decode.vl c.toNat = some v) (hw : w < 16777216) {r : ByteArray × Bool}
 (h : Ev (fun k => meta_three.l0 k g n ((w * 64 + v : Nat) : Int) ((i + 1 : Nat) : Int)) r) : Ev (fun k => meta_three.l0 k g n (w : Int) (i : Int)) r := by
 obtain ⟨K, h⟩ := h
 refine ⟨K + 4, fun k hk => ?_⟩
 obtain ⟨k, rfl⟩ : ∃ m, k = m + 1 := ⟨k - 1, by omega⟩
 have hv' := meta_Decode.vl_range _ _ hv
 simp only [meta_three.l0]
 rw [if_pos (by omega), if_neg (by omega), if_pos (by omega), if_pos (by omega), meta_Decode.bt_list g i c hc, meta_Decode.value_at _ _ c.toNat_lt (by omega), hv]
 simp only [meta_Decode.told, Option.bind_some, if_true]
 have e0 : ((w : Int) * 64) % 4294967296 = (w : Int) * 64 := by omega
 rw [e0, u32_or6 _ _ (by omega) (by omega) (by omega) (by omega) (by omega)]
 have e1 : (w : Int) * 64 + (v : Int) = ((w * 64 + v : Nat) : Int) := by omega
 have e2 : wrap64 ((i : Int) + 1) = ((i + 1 : Nat) : Int) := by unfold wrap64; omega
 rw [e1, e2]
 exact h k (by omega)
theorem meta_Decode.three_bad (n w i : Nat) (c : UInt8) (hi : i < 4) (hn : i < n) (hc : g.data.toList[i]? = some c) (hv : meta_Decode.vl c.toNat = none) :
 Ev (fun k => meta_three.l0 k g n (w : Int) (i : Int)) (⟨#[]⟩, false) := by
 refine ⟨4, fun k hk => ?_⟩
 obtain ⟨k, rfl⟩ : ∃ m, k = m + 1 := ⟨k - 1, by omega⟩
 simp only [meta_three.l0]
 rw [if_pos (by omega), if_neg (by omega), if_pos (by omega), if_pos (by omega), meta_Decode.bt_list g i c hc, meta_Decode.value_at _ _ c.toNat_lt (by omega), hv]
 rfl
omit hg in
theorem meta_Decode.three_out (n w i : Nat) (hi : i < 4) (hn : n ≤ i) (hw : w < 16777216) {r : ByteArray × Bool}
 (h : Ev (fun k => meta_three.l0 k g n ((w * 64 : Nat) : Int) ((i + 1 : Nat) : Int)) r) : Ev (fun k => meta_three.l0 k g n (w : Int) (i : Int)) r := by
 refine Ev.step (fun k => ?_) h
 simp only [meta_three.l0]
 rw [if_pos (by omega), if_pos (by omega)]
 have e1 : ((w : Int) * 64) % 4294967296 = ((w * 64 : Nat) : Int) := by omega
 have e2 : wrap64 ((i : Int) + 1) = ((i + 1 : Nat) : Int) := by unfold wrap64; omega
 rw [e1, e2]
def meta_Decode.parts (w n : Nat) : List UInt8 := ([UInt8.ofNat (w / 65536 % 256), UInt8.ofNat (w / 256 % 256), UInt8.ofNat (w % 256)] : List UInt8).take n
omit hg in
theorem meta_Decode.ba_ext (x y : ByteArray) (h : x.data.toList = y.data.toList) : x = y := by
 cases x; cases y; congr 1; exact Array.toList_inj.1 h
omit hg in
theorem meta_Decode.parts_ba (w n : Nat) : (strOfNums [((w : Int) / 65536) % 256, ((w : Int) / 256) % 256, (w : Int) % 256]).extract 0 n = (⟨(meta_Decode.parts w n).toArray⟩ : ByteArray) := by
 have e : (strOfNums [((w : Int) / 65536) % 256, ((w : Int) / 256) % 256, (w : Int) % 256]) = (⟨([UInt8.ofNat (w / 65536 % 256), UInt8.ofNat (w / 256 % 256), UInt8.ofNat (w % 256)] : List UInt8).toArray⟩ : ByteArray) := by
  unfold strOfNums
  simp only [List.map_cons, List.map_nil]
  have e1 : (((w : Int) / 65536) % 256).toNat = w / 65536 % 256 := by omega
  have e2 : (((w : Int) / 256) % 256).toNat = w / 256 % 256 := by omega
  have e3 : ((w : Int) % 256).toNat = w % 256 := by omega
  rw [e1, e2, e3]
 rw [e]
 apply meta_Decode.ba_ext
 rw [Lib.extract_data]
 rfl
omit hg in
theorem meta_Decode.nums_size (w : Nat) : (strOfNums [((w : Int) / 65536) % 256, ((w : Int) / 256) % 256, (w : Int) % 256]).size = 3 := rfl
omit hg in
theorem meta_Decode.parts_length (w n : Nat) (h : n ≤ 3) : (meta_Decode.parts w n).length = n := by unfold meta_Decode.parts; rw [List.length_take]; simp; omega
omit hg in
theorem meta_Decode.encode_f (l : List UInt8) (h : l.length ≤ 1099511627776) : meta_Encode.f ⟨l.toArray⟩ = some ⟨(B64.enc l).toArray⟩ := by
 unfold meta_Encode.f
 rw [if_pos (by show l.toArray.size ≤ _; simpa using h)]
omit hg in
theorem meta_Decode.three_end (n w : Nat) (h2 : 2 ≤ n) (h4 : n ≤ 4) : Ev (fun k => meta_three.l0 k g n (w : Int) ((4 : Nat) : Int)) (⟨(meta_Decode.parts w (n - 1)).toArray⟩, (B64.enc (meta_Decode.parts w (n - 1)) == g.data.toList)) := by
 refine ⟨1, fun k hk => ?_⟩
 obtain ⟨k, rfl⟩ : ∃ m, k = m + 1 := ⟨k - 1, by omega⟩
 simp only [meta_three.l0]
 have e1 : wrap64 ((n : Int) - 1) = ((n - 1 : Nat) : Int) := by unfold wrap64; omega
 rw [if_neg (by omega)]
 simp only [Option.bind_some, e1]
 rw [if_pos (by omega), if_pos (by rw [meta_Decode.nums_size]; omega), Int.toNat_natCast, ← extract_sub, meta_Decode.parts_ba, meta_Decode.encode_f _ (by rw [meta_Decode.parts_length _ _ (by omega)]; omega)]
 simp only [Option.bind_some, ByteArray.toList_eq]
theorem meta_Decode.three_any (n : Nat) (h2 : 2 ≤ n) (h4 : n ≤ 4) (d : Nat) : ∀ (i w : Nat), i + d = 4 → w < 64 ^ i → ∃ y ok, Ev (fun k => meta_three.l0 k g n (w : Int) (i : Int)) (y, ok) ∧ (ok = true → 1 ≤ y.size ∧ y.size ≤ 3 ∧ B64.enc y.data.toList = g.data.toList) := by
 induction d with
 | zero =>
  intro i w hi hw
  obtain rfl : i = 4 := by omega
  refine ⟨_, _, meta_Decode.three_end g n w h2 h4, fun h => ?_⟩
  have hl := meta_Decode.parts_length w (n - 1) (by omega)
  have hs : (⟨(meta_Decode.parts w (n - 1)).toArray⟩ : ByteArray).size = n - 1 := by show (meta_Decode.parts w (n - 1)).toArray.size = _; simpa using hl
  exact ⟨by omega, by omega, by simpa using h⟩
 | succ d ih =>
  intro i w hi hw
  have hw' : w < 16777216 := by
   have : i = 0 ∨ i = 1 ∨ i = 2 ∨ i = 3 := by omega
   rcases this with rfl | rfl | rfl | rfl <;> omega
  by_cases hn : i < n
  · have hl : i < g.data.toList.length := by rw [Array.length_toList]; show i < g.size; omega
    have hc := List.getElem?_eq_getElem hl
    cases hv : meta_Decode.vl (g.data.toList[i]).toNat with
    | none => exact ⟨_, _, meta_Decode.three_bad g hg n w i _ (by omega) hn hc hv, fun h => by cases h⟩
    | some v =>
     have := meta_Decode.vl_range _ _ hv
     obtain ⟨y, ok, h1, h2⟩ := ih (i + 1) (w * 64 + v) (by omega) (by rw [Nat.pow_succ]; omega)
     exact ⟨y, ok, meta_Decode.three_in g hg n w i v _ (by omega) hn hc hv hw' h1, h2⟩
  obtain ⟨y, ok, h1, h2⟩ := ih (i + 1) (w * 64) (by omega) (by rw [Nat.pow_succ]; omega)
  exact ⟨y, ok, meta_Decode.three_out g n w i (by omega) (by omega) hw' h1, h2⟩
end
theorem meta_Decode.three_right (x : List UInt8) (h1 : 1 ≤ x.length) (h3 : x.length ≤ 3) : Ev (fun k => meta_three.l0 k ⟨(B64.four x).toArray⟩ ((x.length + 1 : Nat) : Int) ((0 : Nat) : Int) ((0 : Nat) : Int)) (⟨x.toArray⟩, true) := by
 have hg : (⟨(B64.four x).toArray⟩ : ByteArray).size = 4 := rfl
 have hw := B64.word_lt x
 have v : ∀ s, s < 64 → meta_Decode.vl (B64.let8 s).toNat = some s := fun s hs => by rw [B64.let8_toNat s hs]; exact meta_Decode.vl_lt s hs
 have c0 : (⟨(B64.four x).toArray⟩ : ByteArray).data.toList[0]? = some (B64.let8 (B64.word x / 262144)) := rfl
 have c1 : (⟨(B64.four x).toArray⟩ : ByteArray).data.toList[1]? = some (B64.let8 (B64.word x / 4096 % 64)) := rfl
 have last : ∀ w, w = B64.word x → (⟨(meta_Decode.parts w (x.length + 1 - 1)).toArray⟩, (B64.enc (meta_Decode.parts w (x.length + 1 - 1)) == (⟨(B64.four x).toArray⟩ : ByteArray).data.toList)) = ((⟨x.toArray⟩ : ByteArray), true) := by
  rintro w rfl
  have e : meta_Decode.parts (B64.word x) (x.length + 1 - 1) = x := by
   apply B64.list_of_getD
   · rw [meta_Decode.parts_length _ _ (by omega)]; omega
   rw [meta_Decode.parts_length _ _ (by omega)]
   intro i hi
   have b0 := (x.getD 0 0).toNat_lt
   have b1 := (x.getD 1 0).toNat_lt
   have b2 := (x.getD 2 0).toNat_lt
   have z : ∀ i, x.length ≤ i → (x.getD i 0).toNat = 0 := fun i hi => by rw [List.getD_eq_getElem?_getD, List.getElem?_eq_none hi]; rfl
   have hgd : (meta_Decode.parts (B64.word x) (x.length + 1 - 1)).getD i 0 = ([UInt8.ofNat (B64.word x / 65536 % 256), UInt8.ofNat (B64.word x / 256 % 256), UInt8.ofNat (B64.word x % 256)] : List UInt8).getD i 0 := by
    unfold meta_Decode.parts
    rw [List.getD_eq_getElem?_getD, List.getD_eq_getElem?_getD, List.getElem?_take, if_pos hi]
   rw [hgd]
   apply UInt8.toNat_inj.1
   have : i = 0 ∨ i = 1 ∨ i = 2 := by omega
   rcases this with rfl | rfl | rfl
   · show (UInt8.ofNat (B64.word x / 65536 % 256)).toNat = _
     rw [UInt8.toNat_ofNat']
     unfold B64.word
     omega
   · show (UInt8.ofNat (B64.word x / 256 % 256)).toNat = _
     rw [UInt8.toNat_ofNat']
     unfold B64.word
     omega
   show (UInt8.ofNat (B64.word x % 256)).toNat = _
   rw [UInt8.toNat_ofNat']
   unfold B64.word
   omega
  rw [e]
  have e2 : B64.enc x = B64.four x := by
   rw [B64.enc_step x (by intro e0; rw [e0] at h1; simp at h1), List.drop_of_length_le (by omega), B64.enc_nil, List.append_nil]
  rw [e2]
  simp
 refine meta_Decode.three_in _ hg _ 0 0 _ _ (by omega) (by omega) c0 (v _ (by omega)) (by omega) ?_
 refine meta_Decode.three_in _ hg _ _ 1 _ _ (by omega) (by omega) c1 (v _ (by omega)) (by omega) ?_
 have z : ∀ i, x.length ≤ i → (x.getD i 0).toNat = 0 := fun i hi => by rw [List.getD_eq_getElem?_getD, List.getElem?_eq_none hi]; rfl
 by_cases l1 : 1 < x.length
 · have c2 : (⟨(B64.four x).toArray⟩ : ByteArray).data.toList[2]? = some (B64.let8 (B64.word x / 64 % 64)) := congrArg some (if_pos l1)
   refine meta_Decode.three_in _ hg _ _ 2 _ _ (by omega) (by omega) c2 (v _ (by omega)) (by omega) ?_
   by_cases l2 : 2 < x.length
   · have c3 : (⟨(B64.four x).toArray⟩ : ByteArray).data.toList[3]? = some (B64.let8 (B64.word x % 64)) := congrArg some (if_pos l2)
     refine meta_Decode.three_in _ hg _ _ 3 _ _ (by omega) (by omega) c3 (v _ (by omega)) (by omega) ?_
     rw [← last ((((0 * 64 + B64.word x / 262144) * 64 + B64.word x / 4096 % 64) * 64 + B64.word x / 64 % 64) * 64 + B64.word x % 64) (by omega)]
     exact meta_Decode.three_end _ _ _ (by omega) (by omega)
   refine meta_Decode.three_out _ _ _ 3 (by omega) (by omega) (by omega) ?_
   have z2 := z 2 (by omega)
   rw [← last ((((0 * 64 + B64.word x / 262144) * 64 + B64.word x / 4096 % 64) * 64 + B64.word x / 64 % 64) * 64) (by unfold B64.word at *; omega)]
   exact meta_Decode.three_end _ _ _ (by omega) (by omega)
 refine meta_Decode.three_out _ _ _ 2 (by omega) (by omega) (by omega) ?_
 refine meta_Decode.three_out _ _ _ 3 (by omega) (by omega) (by omega) ?_
 have z2 := z 2 (by omega)
 have z1 := z 1 (by omega)
 rw [← last ((((0 * 64 + B64.word x / 262144) * 64 + B64.word x / 4096 % 64) * 64) * 64) (by unfold B64.word at *; omega)]
 exact meta_Decode.three_end _ _ _ (by omega) (by omega)
theorem meta_Decode.trim_f (g : ByteArray) (hg : g.size = 4) : strings_TrimRight.f g ⟨#[61]⟩ = some ⟨(Lib.trimRightB g.data.toList 61).toArray⟩ := by
 unfold strings_TrimRight.f
 show (if (61 : UInt8).toNat < 128 ∧ g.size ≤ 9223372036854775807 then _ else none) = _
 rw [if_pos ⟨by decide, by omega⟩]
theorem meta_Decode.trim_four (x : List UInt8) (h1 : 1 ≤ x.length) (h3 : x.length ≤ 3) : (Lib.trimRightB (B64.four x) 61).length = x.length + 1 := by
 have hw := B64.word_lt x
 rw [Lib.trimRightB_take (B64.four x) 61 (x.length + 1) (by rw [B64.four_length]; omega)]
 · rw [List.length_take, B64.four_length]; omega
 · intro j b hj hb
   have hl : j < 4 := by
    rcases Nat.lt_or_ge j 4 with h | h
    · exact h
    rw [List.getElem?_eq_none (by rw [B64.four_length]; exact h)] at hb; cases hb
   have : j = 2 ∨ j = 3 := by omega
   rcases this with rfl | rfl
   · have e : (B64.four x)[2]? = some 61 := congrArg some (if_neg (by omega))
     rw [e] at hb; injection hb with hb; exact hb.symm
   have e : (B64.four x)[3]? = some 61 := congrArg some (if_neg (by omega))
   rw [e] at hb; injection hb with hb; exact hb.symm
 intro b _ hb
 have : x.length = 1 ∨ x.length = 2 ∨ x.length = 3 := by omega
 rcases this with h | h | h
 · rw [h] at hb
   have e : (B64.four x)[1]? = some (B64.let8 (B64.word x / 4096 % 64)) := rfl
   rw [show 1 + 1 - 1 = 1 from rfl, e] at hb; injection hb with hb; subst hb; exact B64.let8_ne _ (by omega)
 · rw [h] at hb
   have e : (B64.four x)[2]? = some (B64.let8 (B64.word x / 64 % 64)) := congrArg some (if_pos (by omega))
   rw [show 2 + 1 - 1 = 2 from rfl, e] at hb; injection hb with hb; subst hb; exact B64.let8_ne _ (by omega)
 rw [h] at hb
 have e : (B64.four x)[3]? = some (B64.let8 (B64.word x % 64)) := congrArg some (if_pos (by omega))
 rw [show 3 + 1 - 1 = 3 from rfl, e] at hb; injection hb with hb; subst hb; exact B64.let8_ne _ (by omega)
theorem meta_Decode.enc_short (x : List UInt8) (h1 : 1 ≤ x.length) (h3 : x.length ≤ 3) : B64.enc x = B64.four x := by
 rw [B64.enc_step x (by intro e0; rw [e0] at h1; simp at h1), List.drop_of_length_le (by omega), B64.enc_nil, List.append_nil]
theorem meta_Decode.trim_le (l : List UInt8) : (Lib.trimRightB l 61).length ≤ l.length := by
 unfold Lib.trimRightB
 rw [List.length_reverse]
 have := (List.dropWhile_suffix (p := (· == (61 : UInt8))) (l := l.reverse)).length_le
 rw [List.length_reverse] at this
 exact this
theorem meta_Decode.three_spec (g : ByteArray) (hg : g.size = 4) : ∃ y ok, Ev (fun k => meta_three.f k g) (y, ok) ∧ (ok = true → 1 ≤ y.size ∧ y.size ≤ 3 ∧ B64.enc y.data.toList = g.data.toList) ∧
 (∀ x : List UInt8, 1 ≤ x.length → x.length ≤ 3 → B64.enc x = g.data.toList → ok = true ∧ y = ⟨x.toArray⟩) := by
 have hd : g.data.toList.length = 4 := by rw [Array.length_toList]; exact hg
 have hle := meta_Decode.trim_le g.data.toList
 have hsz : ∀ l : List UInt8, (⟨l.toArray⟩ : ByteArray).size = l.length := fun l => by show l.toArray.size = _; simp
 have open_ : ∀ k, meta_three.f k g = if ((Lib.trimRightB g.data.toList 61).length : Int) < 2 then some (⟨#[]⟩, false) else meta_three.l0 k g ((Lib.trimRightB g.data.toList 61).length : Int) 0 0 := fun k => by
  unfold meta_three.f
  rw [meta_Decode.trim_f g hg]
  simp only [Option.bind_some, hsz]
 by_cases hx : ∃ x : List UInt8, 1 ≤ x.length ∧ x.length ≤ 3 ∧ B64.enc x = g.data.toList
 · obtain ⟨x, h1, h3, he⟩ := hx
   have hf : B64.four x = g.data.toList := by rw [← meta_Decode.enc_short x h1 h3]; exact he
   have hg2 : g = ⟨(B64.four x).toArray⟩ := meta_Decode.ba_ext _ _ (by rw [hf])
   refine ⟨⟨x.toArray⟩, true, ?_, fun _ => ⟨by rw [hsz]; exact h1, by rw [hsz]; exact h3, he⟩, fun x' a b c => ?_⟩
   · have ht := meta_Decode.trim_four x h1 h3
     rw [hf] at ht
     have := meta_Decode.three_right x h1 h3
     rw [← hg2] at this
     refine Ev.congr (fun k => (open_ k).trans (if_neg (by omega))) ?_
     rw [ht]
     exact this
   exact ⟨rfl, by rw [B64.enc_inj x' x (c.trans he.symm)]⟩
 by_cases h2 : (Lib.trimRightB g.data.toList 61).length < 2
 · exact ⟨⟨#[]⟩, false, Ev.congr (fun k => (open_ k).trans (if_pos (by omega))) (Ev.now _), (fun h => by cases h), fun x a b c => absurd ⟨x, a, b, c⟩ hx⟩
 obtain ⟨y, ok, a, b⟩ := meta_Decode.three_any g hg (Lib.trimRightB g.data.toList 61).length (by omega) (by omega) 4 0 0 (by omega) (by decide)
 exact ⟨y, ok, Ev.congr (fun k => (open_ k).trans (if_neg (by omega))) a, b, fun x a b c => absurd ⟨x, a, b, c⟩ hx⟩

def meta_Decode.DRel (a0 : ByteArray) (w : World) (t : ByteArray) (acc : List UInt8) (wr : World) : Prop :=
 IsBld w.heap.size w.heap.size acc wr ∧ Below w.heap.size w wr ∧ B64.enc acc ++ t.data.toList = a0.data.toList ∧ (t.size = 0 ∨ acc.length % 3 = 0) ∧ t.size % 4 = 0
def meta_Decode.DPost (a0 : ByteArray) (w : World) (e : Ending) (w' : World) : Prop := (match B64.dec a0.data.toList with
 | some b => e = .returned (.tuple #[.string ⟨b.toArray⟩, .int .i64 0])
 | none => e = .returned (.tuple #[.string ⟨#[]⟩, .int .i64 6])) ∧ Below w.heap.size w w'
theorem meta_Decode.dpost_bad (a0 : ByteArray) (w w' : World) (h : ¬ ∃ b, B64.enc b = a0.data.toList) (hb : Below w.heap.size w w') : meta_Decode.DPost a0 w (.returned (.tuple #[.string ⟨#[]⟩, .int .i64 6])) w' := by
 unfold meta_Decode.DPost; rw [B64.dec_none _ h]; exact ⟨rfl, hb⟩
theorem meta_Decode.dpost_good (a0 : ByteArray) (w w' : World) (b : List UInt8) (h : B64.enc b = a0.data.toList) (hb : Below w.heap.size w w') : meta_Decode.DPost a0 w (.returned (.tuple #[.string ⟨b.toArray⟩, .int .i64 0])) w' := by
 unfold meta_Decode.DPost; rw [B64.dec_of _ _ h]; exact ⟨rfl, hb⟩
theorem meta_Decode.dsz' (t : ByteArray) : t.data.toList.length = t.size := Array.length_toList
theorem meta_Decode.no_enc (a0 : ByteArray) (h : ¬ a0.size % 4 = 0) : ¬ ∃ b, B64.enc b = a0.data.toList := by
 rintro ⟨b, hb⟩
 have := congrArg List.length hb
 rw [B64.enc_length, meta_Decode.dsz'] at this
 omega
section
variable {a0 t : ByteArray} {acc : List UInt8} (ht : 4 ≤ t.size) (hacc : B64.enc acc ++ t.data.toList = a0.data.toList) (h3 : acc.length % 3 = 0)
include ht hacc h3
theorem meta_Decode.dec_next (b : List UInt8) (hb : B64.enc b = a0.data.toList) : ∃ c : List UInt8, B64.enc c = t.data.toList ∧ 1 ≤ c.length ∧ B64.enc (c.take 3) = (t.extract 0 4).data.toList := by
 obtain ⟨c, _, hc⟩ := B64.enc_begin acc b t.data.toList h3 (hb.trans hacc.symm)
 have hc0 : c ≠ [] := by rintro rfl; have := congrArg List.length hc; rw [meta_Decode.dsz', B64.enc_nil] at this; simp at this; omega
 have hp := List.length_pos_iff.2 hc0
 refine ⟨c, hc, hp, ?_⟩
 rw [meta_Decode.enc_short (c.take 3) (by rw [List.length_take]; omega) (List.length_take_le _ _), B64.four_take3, Lib.extract_data, ← hc, B64.enc_step c hc0]
 rfl
theorem meta_Decode.dec_bad1 (hr : ∀ x : List UInt8, 1 ≤ x.length → x.length ≤ 3 → B64.enc x = (t.extract 0 4).data.toList → False) : ¬ ∃ b, B64.enc b = a0.data.toList := by
 rintro ⟨b, hb⟩
 obtain ⟨c, _, hp, hc⟩ := meta_Decode.dec_next ht hacc h3 b hb
 exact hr _ (by rw [List.length_take]; omega) (List.length_take_le _ _) hc
theorem meta_Decode.dec_bad2 (y : ByteArray) (hr : ∀ x : List UInt8, 1 ≤ x.length → x.length ≤ 3 → B64.enc x = (t.extract 0 4).data.toList → y = ⟨x.toArray⟩) (hy : y.size < 3) (h5 : 4 < t.size) : ¬ ∃ b, B64.enc b = a0.data.toList := by
 rintro ⟨b, hb⟩
 obtain ⟨c, hct, hp, hc⟩ := meta_Decode.dec_next ht hacc h3 b hb
 have e := hr _ (by rw [List.length_take]; omega) (List.length_take_le _ _) hc
 have hl : y.size = (c.take 3).length := by rw [e]; show (c.take 3).toArray.size = _; simp
 rw [List.length_take] at hl
 have := congrArg List.length hct
 rw [B64.enc_length, meta_Decode.dsz'] at this
 omega
theorem meta_Decode.dec_on (y : ByteArray) (he : B64.enc y.data.toList = (t.extract 0 4).data.toList) (hy1 : 1 ≤ y.size) (hy3 : y.size ≤ 3) (hn : ¬ (y.size < 3 ∧ 4 < t.size)) (h4 : t.size % 4 = 0) :
 B64.enc (acc ++ y.data.toList) ++ (t.extract 4 t.size).data.toList = a0.data.toList ∧ ((t.extract 4 t.size).size = 0 ∨ (acc ++ y.data.toList).length % 3 = 0) ∧ (t.extract 4 t.size).size % 4 = 0 := by
 have hs : (t.extract 4 t.size).size = t.size - 4 := by rw [ByteArray.size_extract]; omega
 refine ⟨?_, ?_, by rw [hs]; omega⟩
 · rw [B64.enc_append _ _ h3, he, Lib.extract_data, Lib.extract_data, ← hacc, List.append_assoc]
   congr 1
   rw [List.drop_zero, List.take_of_length_le (i := t.size - 4) (by rw [List.length_drop, meta_Decode.dsz']; omega)]
   exact List.take_append_drop 4 _
 rw [hs, List.length_append, meta_Decode.dsz']
 omega
end
theorem meta_Decode.dec_len (a0 : ByteArray) (acc l : List UInt8) (h : B64.enc acc ++ l = a0.data.toList) (hs : a0.size ≤ 1099511627776) : acc.length ≤ 1099511627776 := by
 have := congrArg List.length h
 rw [List.length_append, B64.enc_length, meta_Decode.dsz'] at this
 omega
set_option maxHeartbeats 1600000 in
set_option maxRecDepth 100000 in
theorem meta_Decode.dec_calls (a0 : ByteArray) (w : World) (hs : a0.size ≤ 1099511627776) :
 Calls Tryz.prog 27 #[.string a0] w (meta_Decode.DPost a0 w) := by
 by_cases h4 : a0.size % 4 = 0
 · have hm : (((a0.size : Int) % 4) != 0) = false := by rw [bne_eq_false_iff_eq]; omega
   have H4 := Lib.hid h4
   clear h4
   go_enter Tryz.func27, Tryz.ntmps27
   go_wp2_with fail
   go_loopw [0] (fun s wr => ∃ (t : ByteArray) (acc : List UInt8), s = .string t ∧ meta_Decode.DRel a0 w t acc wr) (fun s wr => match s with | .string t => t.size | _ => 0)
   case atStart => exact ⟨a0, [], rfl, isBld_fresh w, (Below.refl _ w).alloc (Nat.le_refl _) _, rfl, .inr rfl, H4.out⟩
   case round =>
    obtain ⟨t, acc, rfl, hR⟩ := hrel
    have hR' : Hid (meta_Decode.DRel a0 w t acc wr) := hR
    by_cases hE : t.size = 0
    · have hne := meta_Encode.is_empty t hE
      have HE := Lib.hid hE
      obtain ⟨h1, h2, _⟩ := hR
      clear hE
      go_wp2_with fail
      refine (Tryz.Builder_String_any_f w.heap.size w.heap.size acc _ h1 h2.size).mono ?_
      rintro e w1 ⟨rfl, _, hb1⟩
      go_wp2
      go_ret2
      have : t.data.toList = [] := List.length_eq_zero_iff.1 (by rw [meta_Decode.dsz']; exact HE.out)
      have h3 := hR'.out.2.2.1
      rw [this, List.append_nil] at h3
      exact meta_Decode.dpost_good a0 w _ acc h3 (h2.trans hb1)
    have hne := meta_Encode.ne_empty t hE
    have h4t : 4 ≤ t.size := by have := hR.2.2.2.2; omega
    have hsz : t.size ≤ 9223372036854775807 := by
     have := congrArg List.length hR.2.2.1
     rw [List.length_append, meta_Decode.dsz', meta_Decode.dsz'] at this
     omega
    clear hE hR
    have hg : (t.extract 0 4).size = 4 := by rw [ByteArray.size_extract]; omega
    obtain ⟨y, ok, ⟨K, hev⟩, hyes, hno⟩ := meta_Decode.three_spec (t.extract 0 4) hg
    have HC : Hid (meta_three.f K (t.extract 0 4) = some (y, ok)) := hev K (Nat.le_refl _)
    clear hg hev
    cases ok with
    | false =>
     have HNO := Lib.hid (fun x a b c => Bool.false_ne_true (hno x a b c).1)
     clear hyes hno
     go_wp2_with fail
     refine (meta_three.calls K _ _ _ _ HC.out).mono ?_
     rintro e w1 ⟨rfl, hb1⟩
     go_wp2
     go_ret2
     exact meta_Decode.dpost_bad a0 w _ (meta_Decode.dec_bad1 h4t hR'.out.2.2.1 (by have := hR'.out.2.2.2.1; omega) HNO.out) (hR'.out.2.1.trans (hb1.mono hR'.out.2.1.size))
    | true =>
     have HY := Lib.hid (hyes rfl)
     have HNO := Lib.hid (fun x a b c => (hno x a b c).2)
     clear hyes hno
     by_cases hys : y.size < 3
     · by_cases h5 : 4 < t.size
       · go_wp2_with fail
         refine (meta_three.calls K _ _ _ _ HC.out).mono ?_
         rintro e w1 ⟨rfl, hb1⟩
         go_wp2
         go_ret2
         exact meta_Decode.dpost_bad a0 w _ (meta_Decode.dec_bad2 h4t hR'.out.2.2.1 (by have := hR'.out.2.2.2.1; omega) y HNO.out hys h5) (hR'.out.2.1.trans (hb1.mono hR'.out.2.1.size))
       go_wp2_with fail
       refine (meta_three.calls K _ _ _ _ HC.out).mono ?_
       rintro e w1 ⟨rfl, hb1⟩
       go_wp2_with fail
       have HB1 := Lib.hid hb1
       have hy3 := HY.out.2.1
       have hlen := meta_Decode.dec_len a0 acc _ hR'.out.2.2.1 hs
       refine (bld_string w.heap.size w.heap.size acc y _ (isBld_below hR'.out.1 HB1.out) (by omega) (by have := hR'.out.2.1.size; have := HB1.out.size; omega)).mono ?_
       rintro e w2 ⟨rfl, hB2, hb2⟩
       have HB2 := Lib.hid hB2
       have Hb2 := Lib.hid hb2
       clear hB2 hb2 hb1
       go_wp2
       go_roundw
       case rel => exact ⟨_, acc ++ y.data.toList, rfl, HB2.out, hR'.out.2.1.trans ((HB1.out.mono hR'.out.2.1.size).trans Hb2.out), meta_Decode.dec_on h4t hR'.out.2.2.1 (by have := hR'.out.2.2.2.1; omega) y HY.out.2.2 HY.out.1 hy3 (by omega) hR'.out.2.2.2.2⟩
       case measure =>
        show (t.extract 4 t.size).size < t.size
        rw [ByteArray.size_extract]
        omega
     go_wp2_with fail
     refine (meta_three.calls K _ _ _ _ HC.out).mono ?_
     rintro e w1 ⟨rfl, hb1⟩
     go_wp2_with fail
     have HB1 := Lib.hid hb1
     have hy3 := HY.out.2.1
     have hlen := meta_Decode.dec_len a0 acc _ hR'.out.2.2.1 hs
     refine (bld_string w.heap.size w.heap.size acc y _ (isBld_below hR'.out.1 HB1.out) (by omega) (by have := hR'.out.2.1.size; have := HB1.out.size; omega)).mono ?_
     rintro e w2 ⟨rfl, hB2, hb2⟩
     have HB2 := Lib.hid hB2
     have Hb2 := Lib.hid hb2
     clear hB2 hb2 hb1
     go_wp2
     go_roundw
     case rel => exact ⟨_, acc ++ y.data.toList, rfl, HB2.out, hR'.out.2.1.trans ((HB1.out.mono hR'.out.2.1.size).trans Hb2.out), meta_Decode.dec_on h4t hR'.out.2.2.1 (by have := hR'.out.2.2.2.1; omega) y HY.out.2.2 HY.out.1 hy3 (by omega) hR'.out.2.2.2.2⟩
     case measure =>
      show (t.extract 4 t.size).size < t.size
      rw [ByteArray.size_extract]
      omega
 have hm : (((a0.size : Int) % 4) != 0) = true := by rw [bne_iff_ne]; omega
 have HN := Lib.hid (meta_Decode.no_enc a0 h4)
 clear h4
 go_enter Tryz.func27, Tryz.ntmps27
 go_wp2
 go_ret2
 exact meta_Decode.dpost_bad a0 w _ HN.out (Below.refl _ _)
noncomputable def meta_Decode.f (a0 : ByteArray) : Option (ByteArray × Int) := if a0.size ≤ 1099511627776 then (match B64.dec a0.data.toList with
 | some b => some (⟨b.toArray⟩, 0)
 | none => some (⟨#[]⟩, 6)) else none
theorem meta_Decode.calls (a0 : ByteArray) (r1 : ByteArray) (r2 : Int) (w : World) (h : meta_Decode.f a0 = some (r1, r2)) :
 Calls Tryz.prog 27 #[.string a0] w fun e w' => e = .returned (.tuple #[.string r1, .int .i64 r2]) ∧ Below w.heap.size w w' := by
 unfold meta_Decode.f at h
 split at h
 · refine (meta_Decode.dec_calls a0 w (by assumption)).mono ?_
   rintro e w' hd
   unfold meta_Decode.DPost at hd
   split at h
   · rename_i b hb
     rw [hb] at hd
     cases h
     exact hd
   rename_i hb
   rw [hb] at hd
   cases h
   exact hd
 cases h

end
end Go.Proofs.YtfboejlemnfndaaGreatDoor.XMo
end
section
namespace Go.Proofs.YtfboejlemnfndaaGreatDoor.XMo
open Go.RowKit Go.Proofs.YtfboejlemnfndaaGreatDoorW.PrintWords Go.Proofs.YtfboejlemnfndaaGreatDoorW.PrintLast Go.Proofs.YtfboejlemnfndaaGreatDoorW.PrintMore
attribute [local go_sem] extract_sub max2_int min2_int max_two min_two max_three min_three max_four min_four   -- for this text's walks alone
set_option linter.unusedVariables false
set_option linter.unusedSimpArgs false

noncomputable section
def meta_size.f (a0 : ByteArray) : Option (Int × Bool) := (digits_Parse.f a0).bind fun bt202 => (if bt202.2 = 0 then (some (wrap64 (bt202.1), decide (bt202.1 ≤ 2147483647))) else (some (wrap64 (bt202.1), false)))
set_option maxHeartbeats 8000000 in
set_option maxRecDepth 100000 in
theorem meta_size.calls (a0 : ByteArray) (r1 : Int) (r2 : Bool) (w : World) (hv : Vars w) (h : meta_size.f a0 = some (r1, r2)) :
 Calls Tryz.prog 73 #[.string a0] w fun e w' => e = .returned (.tuple #[.int .i64 r1, .bool r2]) ∧ Below w.heap.size w w' := by
 have HV := Aside0.mk hv
 clear hv
 have HB := Aside0.mk (Below.refl w.heap.size w)
 have H : ((digits_Parse.f a0).bind fun bt202 => (if bt202.2 = 0 then (some (wrap64 (bt202.1), decide (bt202.1 ≤ 2147483647))) else (some (wrap64 (bt202.1), false)))) = some (r1, r2) := h
 clear h
 replace H := Option.bind_eq_some_iff.mp H
 obtain ⟨⟨t202, t203⟩, A20, H⟩ := H
 replace H : (if t203 = 0 then (some (wrap64 (t202), decide (t202 ≤ 2147483647))) else (some (wrap64 (t202), false))) = some (r1, r2) := H
 have A2 := Aside0.mk A20
 clear A20
 by_cases c3 : t203 = 0
 · rw [if_pos c3] at H
   have c3b0 : (t203 == 0) = true := beq_iff_eq.mpr c3
   have c3b1 : (t203 != 0) = false := bne_eq_false_iff_eq.mpr c3
   clear c3
   simp only [Option.some.injEq, Prod.mk.injEq] at H
   obtain ⟨rfl, rfl⟩ := H
   go_enter Tryz.func73, Tryz.ntmps73
   go_wp2_with (first | ((with_reducible refine gate_callee (f := 38) rfl ?_); refine goesL_ (some 8) rfl rfl Tryz.func38 (by kernel_rfl) rfl #[.string a0] rfl argA ?_; (with_reducible refine (digits_Parse.calls a0 t202 t203 _ ?side1 A2.out).mono ?_); (case side1 => exact Vars.below HV.out (hbA HB.out)); rintro e w4 ⟨rfl, hb⟩; refine ⟨_, rfl, ?_⟩; replace HB := Aside0.mk (below_step (hbA HB.out) hb); (try clear hb); (try clear hb2); (try clear hk); (try clear hi)))
   go_ret2
   exact ⟨reA, hbA HB.out⟩
 rw [if_neg c3] at H
 have c3b0 : (t203 == 0) = false := beq_eq_false_iff_ne.mpr c3
 have c3b1 : (t203 != 0) = true := bne_iff_ne.mpr c3
 simp only [Option.some.injEq, Prod.mk.injEq] at H
 obtain ⟨rfl, rfl⟩ := H
 go_enter Tryz.func73, Tryz.ntmps73
 go_wp2_with (first | ((with_reducible refine gate_callee (f := 38) rfl ?_); refine goesL_ (some 8) rfl rfl Tryz.func38 (by kernel_rfl) rfl #[.string a0] rfl argA ?_; (with_reducible refine (digits_Parse.calls a0 t202 t203 _ ?side1 A2.out).mono ?_); (case side1 => exact Vars.below HV.out (hbA HB.out)); rintro e w5 ⟨rfl, hb⟩; refine ⟨_, rfl, ?_⟩; replace HB := Aside0.mk (below_step (hbA HB.out) hb); (try clear hb); (try clear hb2); (try clear hk); (try clear hi)))
 go_ret2
 exact ⟨reA, hbA HB.out⟩

end
end Go.Proofs.YtfboejlemnfndaaGreatDoor.XMo
end
