/- Put together by wip/pack.py (this session's own program) out of this session's texts; a kit's tool laid the words and the shelf, of which only what is used stands here. Lean checks it. -/
import Derived.Test.YtfboejlemnfndaaGreatDoorPMk0
import Derived.Lib.Hide
import Derived.Shelf.Abstract
import Derived.Shelf.Strings.Builder1
import Derived.Shelf.Strings.Builder2
import Derived.Shelf.Strings.OnBuilder
import Derived.Shelf.Strings.Trim
import Derived.Shelf.Small.Utf8
import Derived.Shelf.Small.Strs
import Derived.Shelf.Small.Wraps
import Derived.Shelf.Strings.BuilderF
import Derived.Shelf.Strings.BuilderK
import Derived.Shelf.Utf8.RuneCount
import Derived.Shelf.Strings.Builder2Cap
import Derived.Shelf.Strconv.Itoa0
import Derived.Shelf.Strconv.Itoa1
import Derived.Shelf.LaysM
import Derived.Shelf.Strconv.Itoa2
import Derived.Shelf.Strconv.Itoa3
import Derived.Shelf.Strconv.Clone
import Derived.Shelf.Strconv.Lower
import Derived.Shelf.Strconv.ParseUint10
import Derived.Shelf.Strconv.RangeError
import Derived.Shelf.LaysC
import Derived.Shelf.Strconv.ToErrorRange
import Derived.Shelf.Strconv.ParseUintEmpty
import Derived.Shelf.Strconv.ParseUint10b64
import Derived.Shelf.Strconv.ParseUint10b32
import Derived.Shelf.Strconv.ParseUint10b16
import Derived.Shelf.Strconv.ParseUint10b8
import Derived.Shelf.Strconv.ParseUint10At
import Derived.Ground.MpProg
import Derived.Shelf.Pu.ParseUintPublic10
import Derived.Shelf.Pu.ErrVarParseUint
import Derived.Shelf.Strings.Search1
import Derived.Shelf.Strings.Search2
import Derived.Shelf.Strings.Search3
import Derived.Shelf.Strings.Count
import Derived.Shelf.Strings.Shaped
import Derived.Shelf.Strings.Prefix
import Derived.Shelf.Strings.Split
import Derived.Shelf.Strings.SplitShaped
import Derived.Shelf.Unicode.Decode
import Derived.Shelf.Strings.Runes
import Derived.Shelf.Strings.RuneCount
import Derived.Shelf.Strings.AsciiSet
import Derived.Shelf.Strings.Explode
import Derived.Shelf.Unicode.DecodeSlow
import Derived.Shelf.Unicode.DecodeAny
import Derived.Shelf.Unicode.DecodeLast
import Derived.Shelf.Strings.BuilderCap
import Derived.Ground.SlgnProg
import Derived.Shelf.SlicesE.Clone
import Derived.Ground.SlsfProg
import Derived.Shelf.SlSortCmp.InsertionK
import Derived.Test.YtfboejlemnfndaaGreatDoorProg
import Derived.WalkKit
import Derived.KernelRfl
import Derived.BigCall
import Derived.Lib.FrozenHead
import Derived.Lib.FrozenHead2
import Derived.Laws.BitsLemmas
import Derived.Lib.Strings
import Derived.Laws.Strings
import Derived.Laws.RangeString
import Derived.Laws.RangeAny
section
namespace Go.Proofs.YtfboejlemnfndaaGreatDoor.XMk
open Go.RowKit Go.Proofs.YtfboejlemnfndaaGreatDoorW.PrintWords Go.Proofs.YtfboejlemnfndaaGreatDoorW.PrintLast Go.Proofs.YtfboejlemnfndaaGreatDoorW.PrintMore
attribute [local go_sem] extract_sub max2_int min2_int max_two min_two max_three min_three max_four min_four   -- for this text's walks alone
set_option linter.unusedVariables false
set_option linter.unusedSimpArgs false

noncomputable section
mutual
def tallboylaw27_Great.j0 : Nat → Bool → Int → ByteArray → Int → List (S59) → Option (Bool)
 | 0, _, _, _, _, _ => none
 | k + 1, x13, x102000, x102001, x102002, x102003 => if x13 = true then (some true) else (tallboylaw27_Great.l0 k 0 x102000 x102001 x102002 x102003)
def tallboylaw27_Great.l0 : Nat → Int → Int → ByteArray → Int → List (S59) → Option (Bool)
 | 0, _, _, _, _, _ => none
 | k + 1, x3, x102000, x102001, x102002, x102003 => if x3 < (x102003.length : Int) then (if 0 ≤ x3 then (if (((rd_T59 x102003 x3).f1).size : Int) > 1000 then (some true) else (tallboylaw27_Great.l0 k (wrap64 (x3 + 1)) x102000 x102001 x102002 x102003)) else (none)) else (some false)
end
def tallboylaw27_Great.f (k : Nat) (a0_0 : Int) (a0_1 : ByteArray) (a0_2 : Int) (l0_3 : List (S59)) : Option (Bool) := if (l0_3.length : Int) > 100 then (tallboylaw27_Great.j0 k true a0_0 a0_1 a0_2 l0_3) else (tallboylaw27_Great.j0 k (decide ((a0_1.size : Int) > 1000)) a0_0 a0_1 a0_2 l0_3)
theorem tallboylaw27_Great.mono_l : ∀ k, (∀ y0 y1 y2 y3 y4, LeO (tallboylaw27_Great.j0 k y0 y1 y2 y3 y4) (tallboylaw27_Great.j0 (k + 1) y0 y1 y2 y3 y4)) ∧ (∀ y0 y1 y2 y3 y4, LeO (tallboylaw27_Great.l0 k y0 y1 y2 y3 y4) (tallboylaw27_Great.l0 (k + 1) y0 y1 y2 y3 y4))
 | 0 => ⟨fun _ _ _ _ _ r h => by simp [tallboylaw27_Great.j0] at h, fun _ _ _ _ _ r h => by simp [tallboylaw27_Great.l0] at h⟩
 | k + 1 => by
  obtain ⟨ih0, ih1⟩ := tallboylaw27_Great.mono_l k
  refine ⟨?_, ?_⟩
  all_goals
   intros
   first | unfold tallboylaw27_Great.j0 | unfold tallboylaw27_Great.l0
   repeat' first
   | (with_reducible exact ih0 _ _ _ _ _)
   | (with_reducible exact ih1 _ _ _ _ _)
   | (with_reducible exact LeO.refl _)
   | (with_reducible exact LeO.none _)
   | (with_reducible refine LeO.ite ?_ ?_)
   | (with_reducible refine LeO.bind ?_ (fun _ => ?_))
   | exact ih0 _ _ _ _ _
   | exact ih1 _ _ _ _ _
   | exact LeO.none _
   | refine LeO.ite ?_ ?_
   | refine LeO.bind ?_ (fun _ => ?_)
theorem tallboylaw27_Great.mono : ∀ a0 a1 a2 a3 k, LeO (tallboylaw27_Great.f k a0 a1 a2 a3) (tallboylaw27_Great.f (k + 1) a0 a1 a2 a3) := by
 intro a0 a1 a2 a3 k
 obtain ⟨ih0, ih1⟩ := tallboylaw27_Great.mono_l k
 unfold tallboylaw27_Great.f
 repeat' first
  | (with_reducible exact ih0 _ _ _ _ _)
  | (with_reducible exact ih1 _ _ _ _ _)
  | (with_reducible exact LeO.refl _)
  | (with_reducible exact LeO.none _)
  | (with_reducible refine LeO.ite ?_ ?_)
  | (with_reducible refine LeO.bind ?_ (fun _ => ?_))
  | exact ih0 _ _ _ _ _
  | exact ih1 _ _ _ _ _
  | exact LeO.none _
  | refine LeO.ite ?_ ?_
  | refine LeO.bind ?_ (fun _ => ?_)
set_option maxHeartbeats 8000000 in
set_option maxRecDepth 100000 in
theorem tallboylaw27_Great.calls (k : Nat) (a0_0 : Int) (a0_1 : ByteArray) (a0_2 : Int) (A0_3 : Option Addr) (c0_3 : Nat) (l0_3 : List (S59)) (r : Bool) (w : World) (hr0_3 : Kd.C k59 w A0_3 l0_3.length l0_3) (hc0_3 : l0_3.length ≤ c0_3) (h : tallboylaw27_Great.f k a0_0 a0_1 a0_2 l0_3 = some r) :
 Calls Tryz.prog 9 #[.agg #[.int .i64 a0_0, .string a0_1, .int .i64 a0_2, .slice A0_3 l0_3.length c0_3]] w fun e w' => e = .returned (.bool r) ∧ Below w.heap.size w w' := by
 have hu24 := Tryz.underlying24
 have HR0_3 := Aside0.mk hr0_3
 have HC0_3 := Aside0.mk hc0_3
 clear hr0_3 hc0_3
 have HB := Aside0.mk (Below.refl w.heap.size w)
 have H : (if (l0_3.length : Int) > 100 then (tallboylaw27_Great.j0 k true a0_0 a0_1 a0_2 l0_3) else (tallboylaw27_Great.j0 k (decide ((a0_1.size : Int) > 1000)) a0_0 a0_1 a0_2 l0_3)) = some r := h
 clear h
 have HC2 := Aside0.mk H
 clear H
 go_enter Tryz.func9, Tryz.ntmps9
 go_upto_region 1 with (first | ((with_reducible refine gate_dst (N := 1) rfl ?_); (try (refine gate_guard (by rfl) ?_; dsimp only)); refine box_event ?hg (N := 1) ?hd (cs := #[.int .i64 a0_0, .string a0_1, .int .i64 a0_2, .slice A0_3 l0_3.length c0_3]) (t := 24) ?hr ?_; (case hd => rfl); (case hg => rfl); (case hr => first | (go_simp; done) | (go_simp; rfl)); intro gb101 hg w3 hbox hb; have n0_ := Aside0.mk (below_step (hbA HB.out) hb); have n1_ := Aside0.mk (hbox); have n2_ := Aside0.mk ((by rw [hg]; exact (below_size (hbA HB.out)) : w.heap.size ≤ gb101)); have n3_ := Aside0.mk ((by rw [hg]; exact (below_size (hbA HB.out)) : w.heap.size ≤ gb101)); clear HB; have HB := n0_; have BK101 := n1_; have GW101 := n2_; have GE101 := n3_; clear n0_ n1_ n2_ n3_; clear hb hbox hg))
 (try simp only [Act.put, List.setIfInBounds_toArray, List.set_cons_zero, List.set_cons_succ])
 go_cut [13] (fun v13 wc => ∃ (kq : Nat) (x13_1 : Bool), v13 = .bool x13_1 ∧ Aside0 (tallboylaw27_Great.j0 kq x13_1 a0_0 a0_1 a0_2 l0_3 = some r) ∧ Aside0 (kq ≤ k) ∧ Aside0 (wc.heap[gb101]? = some (.cells #[.int .i64 a0_0, .string a0_1, .int .i64 a0_2, (.slice A0_3 l0_3.length c0_3)] 24 (0, 0))) ∧ Aside0 (Below w.heap.size w wc))
 case first =>
  have H := HC2.out
  clear HC2
  by_cases c4 : (l0_3.length : Int) > 100
  · rw [if_pos c4] at H
    have c4b0 : decide (100 < (l0_3.length : Int)) = true := decide_eq_true c4
    have c4b1 : decide (100 < l0_3.length) = true := decide_eq_true (by omega)
    clear c4
    (first | rw [c4b0] | (simp only [i64_w, i32_w]; rw [c4b0]) | skip)
    have H' := Aside0.mk H
    clear H
    obtain ⟨hcz5_0, hcz5_1, hcz5_2, hcz5_3, hfz5_0, hfz5_1, hfz5_2, hfz5_3⟩ := blkA4 BK101.out
    go_wp2
    go_meet
    case rel => exact ⟨_, (true), rsA, H', ⟨by first | omega | exact Nat.le_refl _⟩, ⟨rbA BK101.out⟩, ⟨hbA HB.out⟩⟩
  rw [if_neg c4] at H
  have c4b0 : decide (100 < (l0_3.length : Int)) = false := decide_eq_false c4
  have c4b1 : decide (100 < l0_3.length) = false := decide_eq_false (by omega)
  clear c4
  (first | rw [c4b0] | (simp only [i64_w, i32_w]; rw [c4b0]) | skip)
  have H' := Aside0.mk H
  clear H
  obtain ⟨hcz6_0, hcz6_1, hcz6_2, hcz6_3, hfz6_0, hfz6_1, hfz6_2, hfz6_3⟩ := blkA4 BK101.out
  go_wp2
  go_meet
  case rel => exact ⟨_, (decide ((a0_1.size : Int) > 1000)), rsA, H', ⟨by first | omega | exact Nat.le_refl _⟩, ⟨rbA BK101.out⟩, ⟨hbA HB.out⟩⟩
 clear HC2
 (try clear p2); (try clear c4); (try clear c4b0); (try clear c4b1); (try clear hcz5_0); (try clear hcz5_1); (try clear hcz5_2); (try clear hcz5_3); (try clear hcz6_0); (try clear hcz6_1); (try clear hcz6_2); (try clear hcz6_3); (try clear hfz5_0); (try clear hfz5_1); (try clear hfz5_2); (try clear hfz5_3); (try clear hfz6_0); (try clear hfz6_1); (try clear hfz6_2); (try clear hfz6_3)
 obtain ⟨kq, x13_1, rfl, HA, HJ1, BK101, HB⟩ := hcut
 cases kq with
 | zero => exact absurd HA.out (by simp [tallboylaw27_Great.j0])
 | succ kj1 =>
  have H := HA.out
  clear HA
  simp only [tallboylaw27_Great.j0] at H
  by_cases c7 : x13_1 = true
  · subst c7
    have H1 : (some true) = some r := by rw [if_pos rfl] at H; exact H
    clear H
    have H := H1
    clear H1
    obtain rfl := Option.some.inj H
    go_wp2
    go_ret
    exact ⟨reA, hbA HB.out⟩
  replace c7 := Bool.eq_false_iff.mpr c7
  subst c7
  have H1 : (tallboylaw27_Great.l0 kj1 0 a0_0 a0_1 a0_2 l0_3) = some r := by rw [if_neg (show ¬ (false = true) by decide)] at H; exact H
  clear H
  have H := H1
  clear H1
  have H' := Aside0.mk H
  clear H
  go_wp2
  go_loopg [3] kj1 (fun kq v3 w' => ∃ (x3_2 : Int), v3 = .int .i64 x3_2 ∧ Aside0 (tallboylaw27_Great.l0 kq x3_2 a0_0 a0_1 a0_2 l0_3 = some r) ∧ Aside0 (kq ≤ kj1) ∧ Aside0 (w'.heap[gb101]? = some (.cells #[.int .i64 a0_0, .string a0_1, .int .i64 a0_2, (.slice A0_3 l0_3.length c0_3)] 24 (0, 0))) ∧ Aside0 (Below w.heap.size w w'))
  case atStart => exact ⟨(0), rsA, H', ⟨Nat.le_refl _⟩, ⟨rbA BK101.out⟩, ⟨hbA HB.out⟩⟩
  case round =>
   clear H'
   (try clear p2); (try clear c4); (try clear c4b0); (try clear c4b1); (try clear c7); (try clear hcz5_0); (try clear hcz5_1); (try clear hcz5_2); (try clear hcz5_3); (try clear hcz6_0); (try clear hcz6_1); (try clear hcz6_2); (try clear hcz6_3); (try clear hfz5_0); (try clear hfz5_1); (try clear hfz5_2); (try clear hfz5_3); (try clear hfz6_0); (try clear hfz6_1); (try clear hfz6_2); (try clear hfz6_3); (try clear p2)
   obtain ⟨x3_2, rfl, HA, HK2, BK101, HB⟩ := hrel
   cases gk with
   | zero => exact absurd HA.out (by simp [tallboylaw27_Great.l0])
   | succ k2 =>
    have H := HA.out
    clear HA
    simp only [tallboylaw27_Great.l0] at H
    by_cases c8 : x3_2 < (l0_3.length : Int)
    · rw [if_pos c8] at H
      have c8b0 : decide (x3_2 < (l0_3.length : Int)) = true := decide_eq_true c8
      clear c8
      by_cases c9 : 0 ≤ x3_2
      · rw [if_pos c9] at H
        have c9b0 : decide (0 ≤ x3_2) = true := decide_eq_true c9
        clear c9
        by_cases c10 : (((rd_T59 l0_3 x3_2).f1).size : Int) > 1000
        · rw [if_pos c10] at H
          have c10b0 : decide (1000 < (((rd_T59 l0_3 x3_2).f1).size : Int)) = true := decide_eq_true c10
          have c10b1 : decide (1000 < ((rd_T59 l0_3 x3_2).f1).size) = true := decide_eq_true (by omega)
          clear c10
          obtain rfl := Option.some.inj H
          obtain ⟨hcz11_0, hcz11_1, hcz11_2, hcz11_3, hfz11_0, hfz11_1, hfz11_2, hfz11_3⟩ := blkA4 BK101.out
          have p102 : 0 ≤ (x3_2 : Int) := of_decide_eq_true asA
          have q102 : x3_2 < (l0_3.length : Int) := of_decide_eq_true asA
          obtain ⟨ad102, e102, hx102_0, hx102_1⟩ := at_T59 HR0_3.out x3_2 p102 q102
          cases e102
          replace hx102_0 := (HB.out.cell (World.block_lt_of_cell? w _ hx102_0)).trans hx102_0
          replace hx102_1 := (HB.out.cell (World.block_lt_of_cell? w _ hx102_1)).trans hx102_1
          replace p102 := eq_true p102
          replace q102 := eq_true q102
          go_wp2
          go_ret
          exact ⟨reA, hbA HB.out⟩
        rw [if_neg c10] at H
        have c10b0 : decide (1000 < (((rd_T59 l0_3 x3_2).f1).size : Int)) = false := decide_eq_false c10
        have c10b1 : decide (1000 < ((rd_T59 l0_3 x3_2).f1).size) = false := decide_eq_false (by omega)
        clear c10
        have H' := Aside0.mk H
        clear H
        obtain ⟨hcz12_0, hcz12_1, hcz12_2, hcz12_3, hfz12_0, hfz12_1, hfz12_2, hfz12_3⟩ := blkA4 BK101.out
        have p102 : 0 ≤ (x3_2 : Int) := of_decide_eq_true asA
        have q102 : x3_2 < (l0_3.length : Int) := of_decide_eq_true asA
        obtain ⟨ad102, e102, hx102_0, hx102_1⟩ := at_T59 HR0_3.out x3_2 p102 q102
        cases e102
        replace hx102_0 := (HB.out.cell (World.block_lt_of_cell? w _ hx102_0)).trans hx102_0
        replace hx102_1 := (HB.out.cell (World.block_lt_of_cell? w _ hx102_1)).trans hx102_1
        replace p102 := eq_true p102
        replace q102 := eq_true q102
        go_wp2
        go_roundg k2
        case measure => have := HJ1.out; have := HK2.out; omega
        case rel => exact ⟨(wrap64 (x3_2 + 1)), rsA, H', ⟨by have := HJ1.out; have := HK2.out; omega⟩, ⟨rbA BK101.out⟩, ⟨hbA HB.out⟩⟩
      rw [if_neg c9] at H
      exact absurd H (by simp)
    rw [if_neg c8] at H
    have c8b0 : decide (x3_2 < (l0_3.length : Int)) = false := decide_eq_false c8
    clear c8
    obtain rfl := Option.some.inj H
    obtain ⟨hcz13_0, hcz13_1, hcz13_2, hcz13_3, hfz13_0, hfz13_1, hfz13_2, hfz13_3⟩ := blkA4 BK101.out
    go_wp2
    go_ret
    exact ⟨reA, hbA HB.out⟩

end
end Go.Proofs.YtfboejlemnfndaaGreatDoor.XMk
end
section
namespace Go.Proofs.YtfboejlemnfndaaGreatDoor.XMk
open Go.RowKit Go.Proofs.YtfboejlemnfndaaGreatDoorW.PrintWords Go.Proofs.YtfboejlemnfndaaGreatDoorW.PrintLast Go.Proofs.YtfboejlemnfndaaGreatDoorW.PrintMore
attribute [local go_sem] extract_sub max2_int min2_int max_two min_two max_three min_three max_four min_four   -- for this text's walks alone
set_option linter.unusedVariables false
set_option linter.unusedSimpArgs false

noncomputable section
def meta_Find.f (a0_0 : Int) (a0_1 : ByteArray) (a0_2 : Int) (l0_3 : List S61) (a1 : Int) : Option (ByteArray × Bool) :=
 match l0_3.find? (fun x => x.f0 == a1) with
 | some x => some (x.f1, true)
 | none => some (⟨#[]⟩, false)
theorem meta_Find.pred (x : S61) (a1 : Int) (B : Nat) (W : World) (hB : B < W.heap.size) (hc : W.cell? ⟨B, 0, none⟩ = some (.int .u8 a1)) :
 Calls Tryz.prog 43 #[.agg #[.int .u8 x.f0, .string x.f1], .pointer (some ⟨B, 0, none⟩)] W fun e w' => e = .returned (.bool (x.f0 == a1)) ∧ Below W.heap.size W w' := by
 have hne : B ≠ W.heap.size := by omega
 go_enter Tryz.func43, Tryz.ntmps43
 go_wp2
 all_goals (go_ret; exact ⟨by first | rfl | simp_all, (Below.refl _ _).alloc (Nat.le_refl _) _⟩)
def meta_Find.ix (a1 : Int) : List S61 → Nat → Int
 | [], _ => -1
 | x :: l, n => if (x.f0 == a1) = true then (n : Int) else meta_Find.ix a1 l (n + 1)
theorem meta_Find.ix_cons (a1 : Int) (x : S61) (l : List S61) (n : Nat) : meta_Find.ix a1 (x :: l) n = if (x.f0 == a1) = true then (n : Int) else meta_Find.ix a1 l (n + 1) := rfl
theorem meta_Find.ix_find (a1 : Int) : ∀ (l : List S61) (n : Nat), (∃ j x, meta_Find.ix a1 l n = ((n + j : Nat) : Int) ∧ l[j]? = some x ∧ l.find? (fun x => x.f0 == a1) = some x) ∨ (meta_Find.ix a1 l n = -1 ∧ l.find? (fun x => x.f0 == a1) = none)
 | [], n => .inr ⟨rfl, rfl⟩
 | y :: l, n => by
  unfold meta_Find.ix
  by_cases h : (y.f0 == a1) = true
  · rw [if_pos h]
    exact .inl ⟨0, y, rfl, rfl, by rw [List.find?_cons, h]⟩
  rw [if_neg h]
  have hf : (y.f0 == a1) = false := by simpa using h
  rcases meta_Find.ix_find a1 l (n + 1) with ⟨j, x, h1, h2, h3⟩ | ⟨h1, h2⟩
  · exact .inl ⟨j + 1, x, by rw [h1]; congr 1; omega, h2, by rw [List.find?_cons, hf]; exact h3⟩
  exact .inr ⟨h1, by rw [List.find?_cons, hf]; exact h2⟩
set_option maxHeartbeats 4000000 in
set_option maxRecDepth 100000 in
theorem meta_Find.index (A : Option Addr) (c : Nat) (l : List S61) (a1 : Int) (B : Nat) (w : World) (hB : B < w.heap.size) (hb : w.cell? ⟨B, 0, none⟩ = some (.int .u8 a1)) (hr : Kd.C k61 w A l.length l) (hc : l.length ≤ c) :
 Calls Tryz.prog 42 #[.slice A l.length c, .func (.func 43) #[] #[.pointer (some ⟨B, 0, none⟩)]] w fun e w' => e = .returned (.int .i64 (meta_Find.ix a1 l 0)) ∧ Below w.heap.size w w' := by
 have hlen := hr.2.1
 have HR := Aside0.mk hr
 have HB := Aside0.mk hb
 clear hr hb
 have eg : ∀ args w, (callFunc 43 args).run Tryz.prog w = .ok (.enter 43 args) w := enters_of Tryz.func43 (by kernel_rfl) rfl
 go_enter Tryz.func42, Tryz.ntmps42
 go_wp2
 go_loopg [5, 8] l.length (fun gg _ s8 wr => ∃ j : Nat, j ≤ l.length ∧ l.length - j ≤ gg ∧ s8 = .int .i64 j ∧ Aside0 (Below w.heap.size w wr) ∧ Aside0 (meta_Find.ix a1 (l.drop j) j = meta_Find.ix a1 l 0))
 case atStart => exact ⟨0, Nat.zero_le _, by omega, rfl, ⟨Below.refl _ w⟩, ⟨rfl⟩⟩
 case round =>
  obtain ⟨j, hj, hg, rfl, BW, HA⟩ := hrel
  by_cases hlt : j < l.length
  · have hji : (j : Int) < (l.length : Int) := by omega
    obtain ⟨ad, e, hx0, hx1⟩ := at_T61 HR.out (j : Int) (by omega) hji
    subst e
    have hxj : rd_T61 l (j : Int) = l[j] := by
     unfold rd_T61
     rw [Int.toNat_natCast, List.getD_eq_getElem?_getD, List.getElem?_eq_getElem hlt]; rfl
    rw [hxj] at hx0 hx1
    clear hxj
    rw [Int.toNat_natCast] at hx0 hx1
    have hcons : l.drop j = l[j] :: l.drop (j + 1) := List.drop_eq_getElem_cons hlt
    have hstep := HA.out
    rw [hcons, meta_Find.ix_cons] at hstep
    generalize l[j] = x at hx0 hx1 hstep hcons
    replace hx0 := (BW.out.cell (World.block_lt_of_cell? w _ hx0)).trans hx0
    replace hx1 := (BW.out.cell (World.block_lt_of_cell? w _ hx1)).trans hx1
    have hcB : wr.cell? ⟨B, 0, none⟩ = some (.int .u8 a1) := (BW.out.cell (p := ⟨B, 0, none⟩) hB).trans HB.out
    have hcall := meta_Find.pred x a1 B wr (Nat.lt_of_lt_of_le hB BW.out.size) hcB
    have HS := Aside0.mk hstep
    clear hstep HA hcons hcB
    cases hq : (x.f0 == a1) with
    | true =>
     have HQ := Aside0.mk hq
     rw [hq] at hcall
     clear hq
     go_wp2_with (go_at_fn 43; refine hcall.mono ?_; rintro e w' ⟨rfl, hb'⟩)
     go_ret
     refine ⟨?_, BW.out.trans (hb'.mono BW.out.size)⟩
     rw [← HS.out, if_pos HQ.out]
     rfl
    | false =>
     have HQ := Aside0.mk hq
     rw [hq] at hcall
     clear hq
     go_wp2_with (go_at_fn 43; refine hcall.mono ?_; rintro e w' ⟨rfl, hb'⟩)
     go_roundg (l.length - (j + 1))
     case measure => omega
     case rel => exact ⟨j + 1, by omega, by omega, by go_num, ⟨BW.out.trans (hb'.mono BW.out.size)⟩, ⟨by rw [← HS.out, if_neg (by rw [HQ.out]; exact Bool.false_ne_true)]⟩⟩
  have hji : ¬ (j : Int) < (l.length : Int) := by omega
  have hend := HA.out
  rw [List.drop_of_length_le (by omega)] at hend
  have HE := Aside0.mk hend
  clear hend HA
  go_wp2
  go_ret
  refine ⟨?_, BW.out⟩
  rw [← HE.out]
  rfl
set_option maxHeartbeats 4000000 in
set_option maxRecDepth 100000 in
theorem meta_Find.calls (a0_0 : Int) (a0_1 : ByteArray) (a0_2 : Int) (A0_3 : Option Addr) (c0_3 : Nat) (l0_3 : List S61) (a1 : Int) (r1 : ByteArray) (r2 : Bool) (w : World) (hr0_3 : Kd.C k61 w A0_3 l0_3.length l0_3) (hc0_3 : l0_3.length ≤ c0_3) (h : meta_Find.f a0_0 a0_1 a0_2 l0_3 a1 = some (r1, r2)) :
 Calls Tryz.prog 15 #[.agg #[.int .i64 a0_0, .string a0_1, .int .i64 a0_2, .slice A0_3 l0_3.length c0_3], .int .u8 a1] w fun e w' => e = .returned (.tuple #[.string r1, .bool r2]) ∧ Below w.heap.size w w' := by
 unfold meta_Find.f at h
 have HR := Aside0.mk hr0_3
 have hlen := hr0_3.2.1
 clear hr0_3
 have hIX := meta_Find.ix_find a1 l0_3 0
 generalize hix : meta_Find.ix a1 l0_3 0 = ix at hIX
 have HIX := Aside0.mk hix
 clear hix
 have HI := Aside0.mk hIX
 have HH := Aside0.mk h
 clear hIX h
 go_enter Tryz.func15, Tryz.ntmps15
 go_wp2_with fail
 refine (meta_Find.index A0_3 c0_3 l0_3 a1 (w.heap.size + 1) _ (by simp) (by first | (simp; done) | (go_simp; done)) (Kd.C_below HR.out (((Below.refl _ w).alloc (Nat.le_refl _) _).alloc (by simp) _)) hc0_3).mono ?_
 rintro e w1 ⟨he, hb1⟩
 rw [HIX.out] at he
 subst he
 have hbk : w1.heap[w.heap.size]? = some (.cells #[.int .i64 a0_0, .string a0_1, .int .i64 a0_2, .slice A0_3 l0_3.length c0_3] 31) := by
  rw [hb1.block w.heap.size (by simp; omega)]
  exact (((Below.refl (w.heap.size + 1) (w.alloc _)).alloc (by simp) _).block w.heap.size (by omega)).trans (Go.heap_alloc_new w _)
 have hp3 : w1.cell? ⟨w.heap.size, 3, none⟩ = some (.slice A0_3 l0_3.length c0_3) := by rw [Lib.cell_of_heap hbk]; rfl
 have hb : Below w.heap.size w w1 := (((Below.refl _ w).alloc (Nat.le_refl _) _).alloc (by simp) _).trans (hb1.mono (by simp; omega))
 have HB := Aside0.mk hb
 clear hb1 hbk hb
 rcases HI.out with ⟨j, x, h1, h2, h3⟩ | ⟨h1, h2⟩
 · have hj : j < l0_3.length := (List.getElem?_eq_some_iff.1 h2).1
   have hji : (j : Int) < (l0_3.length : Int) := by omega
   have hneg : decide ((j : Int) < 0) = false := decide_eq_false (by omega)
   obtain ⟨ad, e, hx0, hx1⟩ := at_T61 HR.out (j : Int) (by omega) hji
   subst e
   have hxj : rd_T61 l0_3 (j : Int) = x := by
    unfold rd_T61
    rw [Int.toNat_natCast, List.getD_eq_getElem?_getD, h2]; rfl
   rw [hxj] at hx0 hx1
   rw [Int.toNat_natCast] at hx0 hx1
   replace hx1 := (HB.out.cell (World.block_lt_of_cell? w _ hx1)).trans hx1
   have hh := HH.out
   rw [h3] at hh
   injection hh with hh
   have e1 : x.f1 = r1 := congrArg Prod.fst hh
   have e2 : true = r2 := congrArg Prod.snd hh
   rw [e1] at hx1
   subst e2
   obtain rfl : ix = (j : Int) := by rw [h1]; congr 1; omega
   clear hx0 hxj h1 h2 h3 hh e1 HI HH HIX hj
   go_wp2
   go_ret2
   exact ⟨rfl, HB.out⟩
 have hh := HH.out
 rw [h2] at hh
 injection hh with hh
 have e1 : (⟨#[]⟩ : ByteArray) = r1 := congrArg Prod.fst hh
 have e2 : false = r2 := congrArg Prod.snd hh
 subst e1 e2
 subst h1
 clear h2 hh HI HH HIX
 go_wp2
 go_ret2
 exact ⟨rfl, HB.out⟩

end
end Go.Proofs.YtfboejlemnfndaaGreatDoor.XMk
end
section
namespace Go.Proofs.YtfboejlemnfndaaGreatDoor.XMk
open Go.RowKit Go.Proofs.YtfboejlemnfndaaGreatDoorW.PrintWords Go.Proofs.YtfboejlemnfndaaGreatDoorW.PrintLast Go.Proofs.YtfboejlemnfndaaGreatDoorW.PrintMore
attribute [local go_sem] extract_sub max2_int min2_int max_two min_two max_three min_three max_four min_four   -- for this text's walks alone
set_option linter.unusedVariables false
set_option linter.unusedSimpArgs false

noncomputable section
def meta_letter.f (a0 : Int) : Option (Int) := if (Go.bits .and .u32 a0 63) < 26 then (some (((65 + (Go.bits .and .u32 a0 63)) % 4294967296) % 256)) else (if (Go.bits .and .u32 a0 63) < 52 then (some (((((97 + (Go.bits .and .u32 a0 63)) % 4294967296) - 26) % 4294967296) % 256)) else (if (Go.bits .and .u32 a0 63) < 62 then (some (((((48 + (Go.bits .and .u32 a0 63)) % 4294967296) - 52) % 4294967296) % 256)) else (if (Go.bits .and .u32 a0 63) = 62 then (some 43) else (some 47))))
set_option maxHeartbeats 8000000 in
set_option maxRecDepth 100000 in
theorem meta_letter.calls (a0 : Int) (r : Int) (w : World) (h : meta_letter.f a0 = some r) :
 Calls Tryz.prog 54 #[.int .u32 a0] w fun e w' => e = .returned (.int .u8 r) ∧ Drawn0 w w' := by
 have H : (if (Go.bits .and .u32 a0 63) < 26 then (some (((65 + (Go.bits .and .u32 a0 63)) % 4294967296) % 256)) else (if (Go.bits .and .u32 a0 63) < 52 then (some (((((97 + (Go.bits .and .u32 a0 63)) % 4294967296) - 26) % 4294967296) % 256)) else (if (Go.bits .and .u32 a0 63) < 62 then (some (((((48 + (Go.bits .and .u32 a0 63)) % 4294967296) - 52) % 4294967296) % 256)) else (if (Go.bits .and .u32 a0 63) = 62 then (some 43) else (some 47))))) = some r := h
 clear h
 by_cases c2 : (Go.bits .and .u32 a0 63) < 26
 · rw [if_pos c2] at H
   have c2b0 : decide ((Go.bits .and .u32 a0 63) < 26) = true := decide_eq_true c2
   clear c2
   obtain rfl := Option.some.inj H
   go_enter Tryz.func54, Tryz.ntmps54
   go_wp2
   go_ret
   exact ⟨rsA, drA⟩
 rw [if_neg c2] at H
 have c2b0 : decide ((Go.bits .and .u32 a0 63) < 26) = false := decide_eq_false c2
 clear c2
 by_cases c3 : (Go.bits .and .u32 a0 63) < 52
 · rw [if_pos c3] at H
   have c3b0 : decide ((Go.bits .and .u32 a0 63) < 52) = true := decide_eq_true c3
   clear c3
   obtain rfl := Option.some.inj H
   go_enter Tryz.func54, Tryz.ntmps54
   go_wp2
   go_ret
   exact ⟨rsA, drA⟩
 rw [if_neg c3] at H
 have c3b0 : decide ((Go.bits .and .u32 a0 63) < 52) = false := decide_eq_false c3
 clear c3
 by_cases c4 : (Go.bits .and .u32 a0 63) < 62
 · rw [if_pos c4] at H
   have c4b0 : decide ((Go.bits .and .u32 a0 63) < 62) = true := decide_eq_true c4
   clear c4
   obtain rfl := Option.some.inj H
   go_enter Tryz.func54, Tryz.ntmps54
   go_wp2
   go_ret
   exact ⟨rsA, drA⟩
 rw [if_neg c4] at H
 have c4b0 : decide ((Go.bits .and .u32 a0 63) < 62) = false := decide_eq_false c4
 clear c4
 by_cases c5 : (Go.bits .and .u32 a0 63) = 62
 · rw [if_pos c5] at H
   have c5b0 : ((Go.bits .and .u32 a0 63) == 62) = true := beq_iff_eq.mpr c5
   have c5b1 : ((Go.bits .and .u32 a0 63) != 62) = false := bne_eq_false_iff_eq.mpr c5
   clear c5
   obtain rfl := Option.some.inj H
   go_enter Tryz.func54, Tryz.ntmps54
   go_wp2
   go_ret
   exact ⟨rsA, drA⟩
 rw [if_neg c5] at H
 have c5b0 : ((Go.bits .and .u32 a0 63) == 62) = false := beq_eq_false_iff_ne.mpr c5
 have c5b1 : ((Go.bits .and .u32 a0 63) != 62) = true := bne_iff_ne.mpr c5
 obtain rfl := Option.some.inj H
 go_enter Tryz.func54, Tryz.ntmps54
 go_wp2
 go_ret
 exact ⟨rsA, drA⟩

end
end Go.Proofs.YtfboejlemnfndaaGreatDoor.XMk
end
section
namespace Go.Proofs
open Go.Shelf
def Tryz.lays169_ren : Go.Shelf.Ren := ⟨fun | 169 => 55 | n => n, fun | 70 => 89 | 9 => 9 | 0 => 0 | 72 => 91 | 37 => 70 | 127 => 119 | 3 => 3 | 5 => 5 | n => n, fun | n => n⟩
theorem Tryz.lays169 : Go.Proofs.Lays.n169 Tryz.prog Tryz.lays169_ren := {
  mixed := by kernel_rfl
  f169 := Tryz.func55.trans (congrArg some (by kernel_rfl))
  t0 := Tryz.underlying0
  a0 := Tryz.isAgg0
  z0 := Tryz.sizeOf0
  v0 := Tryz.zeroValue0
  t3 := Tryz.underlying3
  a3 := Tryz.isAgg3
  z3 := Tryz.sizeOf3
  v3 := Tryz.zeroValue3
  t9 := Tryz.underlying9
  a9 := Tryz.isAgg9
  z9 := Tryz.sizeOf9
  v9 := Tryz.zeroValue9
  t37 := Tryz.underlying70
  a37 := Tryz.isAgg70
  z37 := Tryz.sizeOf70
  v37 := Tryz.zeroValue70
  t70 := Tryz.underlying89
  a70 := Tryz.isAgg89
  z70 := Tryz.sizeOf89
  v70 := Tryz.zeroValue89
  t72 := Tryz.underlying91
  a72 := Tryz.isAgg91
  z72 := Tryz.sizeOf91
  v72 := Tryz.zeroValue91
  t127 := Tryz.underlying119
  a127 := Tryz.isAgg119
  z127 := Tryz.sizeOf119
  v127 := Tryz.zeroValue119 }
theorem Tryz.Builder_Extra_169 : Builder.Extra Tryz.prog Tryz.lays169_ren := {
  sizeBuilder := by kernel_rfl
  liesBuilder := by kernel_rfl
  t5 := Tryz.underlying5
  a5 := Tryz.isAgg5
  z5 := Tryz.sizeOf5
  v5 := Tryz.zeroValue5
  infoByte := by kernel_rfl
  cellsByte := by kernel_rfl
  sizeByte := by kernel_rfl
  neB5 := by decide }
def Tryz.lays156_ren : Go.Shelf.Ren := ⟨fun | 156 => 31 | 165 => 63 | 166 => 57 | 169 => 55 | 240 => 74 | 241 => 81 | 276 => 92 | 277 => 101 | n => n, fun | 31 => 66 | 9 => 9 | 3 => 3 | 4 => 4 | 0 => 0 | 20 => 20 | 72 => 91 | 76 => 100 | 70 => 89 | 37 => 70 | 75 => 95 | 127 => 119 | 164 => 128 | 5 => 5 | 80 => 98 | n => n, fun | n => n⟩
theorem Tryz.lays156 : Go.Proofs.Lays.n156 Tryz.prog Tryz.lays156_ren := {
  mixed := by kernel_rfl
  f156 := Tryz.func31.trans (congrArg some (by kernel_rfl))
  f165 := Tryz.func63.trans (congrArg some (by kernel_rfl))
  f166 := Tryz.func57.trans (congrArg some (by kernel_rfl))
  f169 := Tryz.func55.trans (congrArg some (by kernel_rfl))
  f240 := Tryz.func74.trans (congrArg some (by kernel_rfl))
  f241 := Tryz.func81.trans (congrArg some (by kernel_rfl))
  f276 := Tryz.func92.trans (congrArg some (by kernel_rfl))
  f277 := Tryz.func101.trans (congrArg some (by kernel_rfl))
  t0 := Tryz.underlying0
  a0 := Tryz.isAgg0
  z0 := Tryz.sizeOf0
  v0 := Tryz.zeroValue0
  t3 := Tryz.underlying3
  a3 := Tryz.isAgg3
  z3 := Tryz.sizeOf3
  v3 := Tryz.zeroValue3
  t4 := Tryz.underlying4
  a4 := Tryz.isAgg4
  z4 := Tryz.sizeOf4
  v4 := Tryz.zeroValue4
  t9 := Tryz.underlying9
  a9 := Tryz.isAgg9
  z9 := Tryz.sizeOf9
  v9 := Tryz.zeroValue9
  t20 := Tryz.underlying20
  a20 := Tryz.isAgg20
  z20 := Tryz.sizeOf20
  v20 := Tryz.zeroValue20
  t31 := Tryz.underlying66
  a31 := Tryz.isAgg66
  z31 := Tryz.sizeOf66
  v31 := Tryz.zeroValue66
  t37 := Tryz.underlying70
  a37 := Tryz.isAgg70
  z37 := Tryz.sizeOf70
  v37 := Tryz.zeroValue70
  t70 := Tryz.underlying89
  a70 := Tryz.isAgg89
  z70 := Tryz.sizeOf89
  v70 := Tryz.zeroValue89
  t72 := Tryz.underlying91
  a72 := Tryz.isAgg91
  z72 := Tryz.sizeOf91
  v72 := Tryz.zeroValue91
  t75 := Tryz.underlying95
  a75 := Tryz.isAgg95
  z75 := Tryz.sizeOf95
  v75 := Tryz.zeroValue95
  t76 := Tryz.underlying100
  a76 := Tryz.isAgg100
  z76 := Tryz.sizeOf100
  v76 := Tryz.zeroValue100
  t127 := Tryz.underlying119
  a127 := Tryz.isAgg119
  z127 := Tryz.sizeOf119
  v127 := Tryz.zeroValue119
  t164 := Tryz.underlying128
  a164 := Tryz.isAgg128
  z164 := Tryz.sizeOf128
  v164 := Tryz.zeroValue128 }
theorem Tryz.Builder_Extra_156 : Builder.Extra Tryz.prog Tryz.lays156_ren := {
  sizeBuilder := by kernel_rfl
  liesBuilder := by kernel_rfl
  t5 := Tryz.underlying5
  a5 := Tryz.isAgg5
  z5 := Tryz.sizeOf5
  v5 := Tryz.zeroValue5
  infoByte := by kernel_rfl
  cellsByte := by kernel_rfl
  sizeByte := by kernel_rfl
  neB5 := by decide }
open Go.RowKit in
theorem Tryz.strings_Join_none (a : Option Addr) (c : Nat) (sep : ByteArray) (w : World) :
    Calls Tryz.prog 31 #[.slice a 0 c, .string sep] w fun e w' => e = .returned (.string ⟨#[]⟩) ∧ w' = w := Any.strings_Join_none Tryz.lays156 Tryz.Builder_Extra_156 a c sep w
open Go.RowKit in
theorem Tryz.strings_Join (bk o c : Nat) (xs : List ByteArray) (sep : ByteArray) (w : World) (hcells : ∀ (j : Nat) x, xs[j]? = some x → w.cell? ⟨bk, o + j, none⟩ = some (.string x)) (hbk : bk < w.heap.size) (hN : xs.length ≤ 140737488355328) (hcap : xs.length ≤ c) (hlen : (Lib.join (xs.map (·.data.toList)) sep.data.toList).length ≤ 140737488355328) :
    Calls Tryz.prog 31 #[.slice (some ⟨bk, o, none⟩) xs.length c, .string sep] w fun e w' => e = .returned (.string ⟨(Lib.join (xs.map (·.data.toList)) sep.data.toList).toArray⟩) ∧ Below w.heap.size w w' := Any.strings_Join Tryz.lays156 Tryz.Builder_Extra_156 bk o c xs sep w hcells hbk hN hcap hlen
def Tryz.lays137_ren : Go.Shelf.Ren := ⟨fun | 137 => 68 | 217 => 84 | 266 => 103 | n => n, fun | 9 => 9 | 5 => 5 | 3 => 3 | n => n, fun | n => n⟩
theorem Tryz.lays137 : Go.Proofs.Lays.n137 Tryz.prog Tryz.lays137_ren := {
  mixed := by kernel_rfl
  f137 := Tryz.func68.trans (congrArg some (by kernel_rfl))
  f217 := Tryz.func84.trans (congrArg some (by kernel_rfl))
  f266 := Tryz.func103.trans (congrArg some (by kernel_rfl))
  t3 := Tryz.underlying3
  a3 := Tryz.isAgg3
  z3 := Tryz.sizeOf3
  v3 := Tryz.zeroValue3
  t5 := Tryz.underlying5
  a5 := Tryz.isAgg5
  z5 := Tryz.sizeOf5
  v5 := Tryz.zeroValue5
  t9 := Tryz.underlying9
  a9 := Tryz.isAgg9
  z9 := Tryz.sizeOf9
  v9 := Tryz.zeroValue9 }
open Go.RowKit in
theorem Tryz.strings_IndexByte (s : ByteArray) (c : Int) (w : World) :
    Calls Tryz.prog 68 #[.string s, .int .u8 c] w fun e w' => e = .returned (.int .i64 (Lib.indexByte s.data.toList c.toNat.toUInt8)) ∧ w' = w := Any.strings_IndexByte Tryz.lays137 s c w
def Tryz.lays210_ren : Go.Shelf.Ren := ⟨fun | 210 => 83 | 206 => 102 | n => n, fun | 9 => 9 | 4 => 4 | 3 => 3 | n => n, fun | n => n⟩
theorem Tryz.lays210 : Go.Proofs.Lays.n210 Tryz.prog Tryz.lays210_ren := {
  mixed := by kernel_rfl
  f206 := Tryz.func102.trans (congrArg some (by kernel_rfl))
  f210 := Tryz.func83.trans (congrArg some (by kernel_rfl))
  t3 := Tryz.underlying3
  a3 := Tryz.isAgg3
  z3 := Tryz.sizeOf3
  v3 := Tryz.zeroValue3
  t4 := Tryz.underlying4
  a4 := Tryz.isAgg4
  z4 := Tryz.sizeOf4
  v4 := Tryz.zeroValue4
  t9 := Tryz.underlying9
  a9 := Tryz.isAgg9
  z9 := Tryz.sizeOf9
  v9 := Tryz.zeroValue9 }
open Go.RowKit in
theorem Tryz.stringslite_CutPrefix (s p : ByteArray) (w : World) :
    Calls Tryz.prog 83 #[.string s, .string p] w fun e w' => e = .returned (.tuple #[.string ⟨(Lib.trimPrefix s.data.toList p.data.toList).toArray⟩, .bool (Lib.hasPrefix s.data.toList p.data.toList)]) ∧ w' = w := Any.stringslite_CutPrefix Tryz.lays210 s p w
def Tryz.lays103_ren : Go.Shelf.Ren := ⟨fun | 103 => 67 | 210 => 83 | 206 => 102 | n => n, fun | 9 => 9 | 4 => 4 | 24 => 38 | 3 => 3 | n => n, fun | n => n⟩
theorem Tryz.lays103 : Go.Proofs.Lays.n103 Tryz.prog Tryz.lays103_ren := {
  mixed := by kernel_rfl
  f103 := Tryz.func67.trans (congrArg some (by kernel_rfl))
  f206 := Tryz.func102.trans (congrArg some (by kernel_rfl))
  f210 := Tryz.func83.trans (congrArg some (by kernel_rfl))
  t3 := Tryz.underlying3
  a3 := Tryz.isAgg3
  z3 := Tryz.sizeOf3
  v3 := Tryz.zeroValue3
  t4 := Tryz.underlying4
  a4 := Tryz.isAgg4
  z4 := Tryz.sizeOf4
  v4 := Tryz.zeroValue4
  t9 := Tryz.underlying9
  a9 := Tryz.isAgg9
  z9 := Tryz.sizeOf9
  v9 := Tryz.zeroValue9
  t24 := Tryz.underlying38
  a24 := Tryz.isAgg38
  z24 := Tryz.sizeOf38
  v24 := Tryz.zeroValue38 }
open Go.RowKit in
theorem Tryz.strings_CutPrefix (s p : ByteArray) (w : World) :
    Calls Tryz.prog 67 #[.string s, .string p] w fun e w' => e = .returned (.tuple #[.string ⟨(Lib.trimPrefix s.data.toList p.data.toList).toArray⟩, .bool (Lib.hasPrefix s.data.toList p.data.toList)]) ∧ w' = w := Any.strings_CutPrefix Tryz.lays103 s p w
open Go.RowKit in
theorem Tryz.Builder_String_any_f (B b : Nat) (l : List UInt8) (w : World) (h : Lib.IsBuilderF 91 5 B b (Lib.byteCells l) w) (hBw : B ≤ w.heap.size) :
    Calls Tryz.prog 55 #[.pointer (some ⟨b, 0, none⟩)] w fun e w' => e = .returned (.string ⟨l.toArray⟩) ∧ (Lib.IsBuilderF 91 5 B b (Lib.byteCells l) w' ∧ Below B w w') := Any.Builder_String_any_f Tryz.lays169 Tryz.Builder_Extra_169 B b l w h hBw
def Tryz.lays283_ren : Go.Shelf.Ren := ⟨fun | 283 => 97 | n => n, fun | 3 => 3 | 9 => 9 | 4 => 4 | n => n, fun | n => n⟩
theorem Tryz.lays283 : Go.Proofs.Lays.n283 Tryz.prog Tryz.lays283_ren := {
  mixed := by kernel_rfl
  f283 := Tryz.func97.trans (congrArg some (by kernel_rfl))
  t3 := Tryz.underlying3
  a3 := Tryz.isAgg3
  z3 := Tryz.sizeOf3
  v3 := Tryz.zeroValue3
  t4 := Tryz.underlying4
  a4 := Tryz.isAgg4
  z4 := Tryz.sizeOf4
  v4 := Tryz.zeroValue4
  t9 := Tryz.underlying9
  a9 := Tryz.isAgg9
  z9 := Tryz.sizeOf9
  v9 := Tryz.zeroValue9 }
open Go.Lib in
theorem Tryz.internal_strconv_small (i : Nat) (h : i < 100) (w : World) :
    Calls Tryz.prog 97 #[.int .i64 i] w fun e w' => e = .returned (.string ⟨(Lib.decDigits i).toArray⟩) ∧ w' = w := Any.internal_strconv_small Tryz.lays283 i h w
def Tryz.laysM284_ren : Go.Shelf.Ren := ⟨fun | 284 => 98 | 129 => 119 | 317 => 118 | 318 => 120 | n => n, fun | 53 => 34 | 3 => 3 | 212 => 153 | 0 => 0 | 4 => 4 | 46 => 93 | 5 => 5 | 9 => 9 | n => n, fun | 17 => 0 | n => n⟩
theorem Tryz.laysM284 : Go.Proofs.LaysM.n284 Tryz.prog Tryz.laysM284_ren := {
  mixed := by kernel_rfl
  f129 := Tryz.func119.trans (congrArg some (by kernel_rfl))
  f284 := Tryz.func98.trans (congrArg some (by kernel_rfl))
  f317 := Tryz.func118.trans (congrArg some (by kernel_rfl))
  f318 := Tryz.func120.trans (congrArg some (by kernel_rfl))
  t0 := Tryz.underlying0
  a0 := Tryz.isAgg0
  z0 := Tryz.sizeOf0
  v0 := Tryz.zeroValue0
  t3 := Tryz.underlying3
  a3 := Tryz.isAgg3
  z3 := Tryz.sizeOf3
  v3 := Tryz.zeroValue3
  t4 := Tryz.underlying4
  a4 := Tryz.isAgg4
  z4 := Tryz.sizeOf4
  v4 := Tryz.zeroValue4
  t5 := Tryz.underlying5
  a5 := Tryz.isAgg5
  z5 := Tryz.sizeOf5
  v5 := Tryz.zeroValue5
  t9 := Tryz.underlying9
  a9 := Tryz.isAgg9
  z9 := Tryz.sizeOf9
  v9 := Tryz.zeroValue9
  t46 := Tryz.underlying93
  a46 := Tryz.isAgg93
  z46 := Tryz.sizeOf93
  v46 := Tryz.zeroValue93
  t53 := Tryz.underlying34
  a53 := Tryz.isAgg34
  z53 := Tryz.sizeOf34
  v53 := Tryz.zeroValue34
  t212 := Tryz.underlying153
  a212 := Tryz.isAgg153
  z212 := Tryz.sizeOf153
  v212 := Tryz.zeroValue153
  g17 := by kernel_rfl
  i0 := by kernel_rfl
  i3 := by kernel_rfl
  i4 := by kernel_rfl
  i5 := by kernel_rfl
  i9 := by kernel_rfl
  i46 := by kernel_rfl
  i53 := by kernel_rfl
  i212 := by kernel_rfl
  m17 := by kernel_rfl }
open Go.Lib in
theorem Tryz.internal_strconv_numDigits (u : Nat) (h1 : 1 ≤ u) (h2 : u < 18446744073709551616) (w : World) (htab : Lib.TabIs Tryz.prog w "internal/strconv.uint64pow10" .u64 Lib.pow10Tab) :
    Calls Tryz.prog 98 #[.int .u64 u] w fun e w' => e = .returned (.int .i64 (Lib.nDigits u)) ∧ w' = w := Any.internal_strconv_numDigits Tryz.laysM284 u h1 h2 w htab
def Tryz.lays285_ren : Go.Shelf.Ren := ⟨fun | 285 => 99 | n => n, fun | 37 => 70 | 53 => 34 | 3 => 3 | 4 => 4 | 51 => 92 | 9 => 9 | 5 => 5 | 0 => 0 | n => n, fun | n => n⟩
theorem Tryz.lays285 : Go.Proofs.Lays.n285 Tryz.prog Tryz.lays285_ren := {
  mixed := by kernel_rfl
  f285 := Tryz.func99.trans (congrArg some (by kernel_rfl))
  t0 := Tryz.underlying0
  a0 := Tryz.isAgg0
  z0 := Tryz.sizeOf0
  v0 := Tryz.zeroValue0
  t3 := Tryz.underlying3
  a3 := Tryz.isAgg3
  z3 := Tryz.sizeOf3
  v3 := Tryz.zeroValue3
  t4 := Tryz.underlying4
  a4 := Tryz.isAgg4
  z4 := Tryz.sizeOf4
  v4 := Tryz.zeroValue4
  t5 := Tryz.underlying5
  a5 := Tryz.isAgg5
  z5 := Tryz.sizeOf5
  v5 := Tryz.zeroValue5
  t9 := Tryz.underlying9
  a9 := Tryz.isAgg9
  z9 := Tryz.sizeOf9
  v9 := Tryz.zeroValue9
  t37 := Tryz.underlying70
  a37 := Tryz.isAgg70
  z37 := Tryz.sizeOf70
  v37 := Tryz.zeroValue70
  t51 := Tryz.underlying92
  a51 := Tryz.isAgg92
  z51 := Tryz.sizeOf92
  v51 := Tryz.zeroValue92
  t53 := Tryz.underlying34
  a53 := Tryz.isAgg34
  z53 := Tryz.sizeOf34
  v53 := Tryz.zeroValue34 }
open Go.RowKit Go.Sort Go.Lib in
theorem Tryz.internal_strconv_formatBase10 (blk off cap : Nat) (u : Nat) (d : Array UInt8) (w : World) (hH : Holds (fun (b : UInt8) => Value.int .u8 (b.toNat : Int)) w blk off d) (hu : u < 10 ^ d.size) (hu64 : u < 18446744073709551616) (hsz : d.size < 4611686018427387904) :
    Calls Tryz.prog 99 #[.slice (some ⟨blk, off, none⟩) d.size cap, .int .u64 u] w fun e w' =>
      e = .returned (.tuple #[]) ∧ ∃ (n v' : Nat) (dk : Array UInt8), w' = (putRow (fun (b : UInt8) => Value.int .u8 (b.toNat : Int)) w blk off dk).drewN n ∧ FmtInv d.size u 0 v' dk := Any.internal_strconv_formatBase10 Tryz.lays285 blk off cap u d w hH hu hu64 hsz
def Tryz.laysPu14_ren : Go.Shelf.Ren := ⟨fun | 14 => 69 | 16 => 85 | 17 => 86 | 19 => 104 | 20 => 105 | 21 => 106 | 22 => 107 | 23 => 108 | 24 => 109 | 25 => 123 | 27 => 125 | 26 => 124 | 28 => 135 | 29 => 138 | 30 => 97 | 31 => 98 | 32 => 99 | 33 => 100 | 35 => 119 | 34 => 118 | 36 => 120 | 37 => 121 | 38 => 122 | 39 => 133 | 40 => 134 | n => n, fun | 9 => 9 | 3 => 3 | 22 => 34 | 24 => 95 | 25 => 112 | 4 => 4 | 34 => 143 | 5 => 5 | 36 => 93 | 37 => 70 | 0 => 0 | 39 => 145 | 21 => 21 | 44 => 157 | 47 => 119 | 50 => 163 | 48 => 161 | 2 => 2 | 52 => 137 | 55 => 140 | 59 => 153 | 60 => 92 | 20 => 20 | 61 => 154 | 65 => 171 | 66 => 172 | 67 => 98 | n => n, fun | 0 => 2 | 1 => 3 | 2 => 0 | 3 => 6 | 4 => 7 | n => n⟩
theorem Tryz.laysPu14 : Go.Proofs.LaysPu.n14 Tryz.prog Tryz.laysPu14_ren := {
  mixed := by kernel_rfl
  f14 := Tryz.func69.trans (congrArg some (by kernel_rfl))
  f16 := Tryz.func85.trans (congrArg some (by kernel_rfl))
  f17 := Tryz.func86.trans (congrArg some (by kernel_rfl))
  f19 := Tryz.func104.trans (congrArg some (by kernel_rfl))
  f20 := Tryz.func105.trans (congrArg some (by kernel_rfl))
  f21 := Tryz.func106.trans (congrArg some (by kernel_rfl))
  f22 := Tryz.func107.trans (congrArg some (by kernel_rfl))
  f23 := Tryz.func108.trans (congrArg some (by kernel_rfl))
  f24 := Tryz.func109.trans (congrArg some (by kernel_rfl))
  f25 := Tryz.func123.trans (congrArg some (by kernel_rfl))
  f26 := Tryz.func124.trans (congrArg some (by kernel_rfl))
  f27 := Tryz.func125.trans (congrArg some (by kernel_rfl))
  f28 := Tryz.func135.trans (congrArg some (by kernel_rfl))
  f29 := Tryz.func138.trans (congrArg some (by kernel_rfl))
  f30 := Tryz.func97.trans (congrArg some (by kernel_rfl))
  f31 := Tryz.func98.trans (congrArg some (by kernel_rfl))
  f32 := Tryz.func99.trans (congrArg some (by kernel_rfl))
  f33 := Tryz.func100.trans (congrArg some (by kernel_rfl))
  f34 := Tryz.func118.trans (congrArg some (by kernel_rfl))
  f35 := Tryz.func119.trans (congrArg some (by kernel_rfl))
  f36 := Tryz.func120.trans (congrArg some (by kernel_rfl))
  f37 := Tryz.func121.trans (congrArg some (by kernel_rfl))
  f38 := Tryz.func122.trans (congrArg some (by kernel_rfl))
  f39 := Tryz.func133.trans (congrArg some (by kernel_rfl))
  f40 := Tryz.func134.trans (congrArg some (by kernel_rfl))
  t0 := Tryz.underlying0
  a0 := Tryz.isAgg0
  z0 := Tryz.sizeOf0
  v0 := Tryz.zeroValue0
  i0 := by kernel_rfl
  t2 := Tryz.underlying2
  a2 := Tryz.isAgg2
  z2 := Tryz.sizeOf2
  v2 := Tryz.zeroValue2
  i2 := by kernel_rfl
  t3 := Tryz.underlying3
  a3 := Tryz.isAgg3
  z3 := Tryz.sizeOf3
  v3 := Tryz.zeroValue3
  i3 := by kernel_rfl
  t4 := Tryz.underlying4
  a4 := Tryz.isAgg4
  z4 := Tryz.sizeOf4
  v4 := Tryz.zeroValue4
  i4 := by kernel_rfl
  t5 := Tryz.underlying5
  a5 := Tryz.isAgg5
  z5 := Tryz.sizeOf5
  v5 := Tryz.zeroValue5
  i5 := by kernel_rfl
  t9 := Tryz.underlying9
  a9 := Tryz.isAgg9
  z9 := Tryz.sizeOf9
  v9 := Tryz.zeroValue9
  i9 := by kernel_rfl
  t20 := Tryz.underlying20
  a20 := Tryz.isAgg20
  z20 := Tryz.sizeOf20
  v20 := Tryz.zeroValue20
  i20 := by kernel_rfl
  t21 := Tryz.underlying21
  a21 := Tryz.isAgg21
  z21 := Tryz.sizeOf21
  v21 := Tryz.zeroValue21
  i21 := by kernel_rfl
  t22 := Tryz.underlying34
  a22 := Tryz.isAgg34
  z22 := Tryz.sizeOf34
  v22 := Tryz.zeroValue34
  i22 := by kernel_rfl
  t24 := Tryz.underlying95
  a24 := Tryz.isAgg95
  z24 := Tryz.sizeOf95
  v24 := Tryz.zeroValue95
  i24 := by kernel_rfl
  t25 := Tryz.underlying112
  a25 := Tryz.isAgg112
  z25 := Tryz.sizeOf112
  v25 := Tryz.zeroValue112
  i25 := by kernel_rfl
  t34 := Tryz.underlying143
  a34 := Tryz.isAgg143
  z34 := Tryz.sizeOf143
  v34 := Tryz.zeroValue143
  i34 := by kernel_rfl
  c34 := by kernel_rfl
  t36 := Tryz.underlying93
  a36 := Tryz.isAgg93
  z36 := Tryz.sizeOf93
  v36 := Tryz.zeroValue93
  i36 := by kernel_rfl
  t37 := Tryz.underlying70
  a37 := Tryz.isAgg70
  z37 := Tryz.sizeOf70
  v37 := Tryz.zeroValue70
  i37 := by kernel_rfl
  t39 := Tryz.underlying145
  a39 := Tryz.isAgg145
  z39 := Tryz.sizeOf145
  v39 := Tryz.zeroValue145
  i39 := by kernel_rfl
  t44 := Tryz.underlying157
  a44 := Tryz.isAgg157
  z44 := Tryz.sizeOf157
  v44 := Tryz.zeroValue157
  i44 := by kernel_rfl
  t47 := Tryz.underlying119
  a47 := Tryz.isAgg119
  z47 := Tryz.sizeOf119
  v47 := Tryz.zeroValue119
  i47 := by kernel_rfl
  t48 := Tryz.underlying161
  a48 := Tryz.isAgg161
  z48 := Tryz.sizeOf161
  v48 := Tryz.zeroValue161
  i48 := by kernel_rfl
  t50 := Tryz.underlying163
  a50 := Tryz.isAgg163
  z50 := Tryz.sizeOf163
  v50 := Tryz.zeroValue163
  i50 := by kernel_rfl
  t52 := Tryz.underlying137
  a52 := Tryz.isAgg137
  z52 := Tryz.sizeOf137
  v52 := Tryz.zeroValue137
  i52 := by kernel_rfl
  t55 := Tryz.underlying140
  a55 := Tryz.isAgg140
  z55 := Tryz.sizeOf140
  v55 := Tryz.zeroValue140
  i55 := by kernel_rfl
  t59 := Tryz.underlying153
  a59 := Tryz.isAgg153
  z59 := Tryz.sizeOf153
  v59 := Tryz.zeroValue153
  i59 := by kernel_rfl
  t60 := Tryz.underlying92
  a60 := Tryz.isAgg92
  z60 := Tryz.sizeOf92
  v60 := Tryz.zeroValue92
  i60 := by kernel_rfl
  t61 := Tryz.underlying154
  a61 := Tryz.isAgg154
  z61 := Tryz.sizeOf154
  t65 := Tryz.underlying171
  a65 := Tryz.isAgg171
  z65 := Tryz.sizeOf171
  v65 := Tryz.zeroValue171
  i65 := by kernel_rfl
  t66 := Tryz.underlying172
  a66 := Tryz.isAgg172
  z66 := Tryz.sizeOf172
  v66 := Tryz.zeroValue172
  i66 := by kernel_rfl
  t67 := Tryz.underlying98
  a67 := Tryz.isAgg98
  z67 := Tryz.sizeOf98
  v67 := Tryz.zeroValue98
  i67 := by kernel_rfl
  g0 := by kernel_rfl
  m0 := by kernel_rfl
  g1 := by kernel_rfl
  m1 := by kernel_rfl
  g2 := by kernel_rfl
  m2 := by kernel_rfl
  g3 := by kernel_rfl
  m3 := by kernel_rfl
  g4 := by kernel_rfl
  m4 := by kernel_rfl }
open Go.RowKit in
theorem Tryz.strconv_ParseUint_10_at64_ok (s : ByteArray) (hmax : s.size ≤ 9223372036854775806) (u : Nat) (h : Lib.parseUintB 64 s.data.toList = .ok u) (w : World) :
    Calls Tryz.prog 69 #[.string s, .int .i64 10, .int .i64 64] w fun e w' => e = .returned (.tuple #[.int .u64 u, .nilIface]) ∧ (w' = w ∨ w' = Lib.bytesWorld w 5 s) := Any.strconv_ParseUint_10_at64_ok Tryz.laysPu14 s hmax u h w
open Go.RowKit in
theorem Tryz.strconv_ParseUint_10_at64_range_var (s : ByteArray) (hlim : s.size ≤ 281474976710656) (h : Lib.parseUintB 64 s.data.toList = .range) (tp : TypeId) (p : Value) (w : World) (hvar : w.var? Tryz.prog "strconv.ErrRange" = some #[.iface tp p]) :
    Calls Tryz.prog 69 #[.string s, .int .i64 10, .int .i64 64] w fun e w' => ∃ N, e = .returned (.tuple #[.int .u64 18446744073709551615, .iface 145 (.pointer (some ⟨N, 0, none⟩))]) ∧ w.heap.size ≤ N ∧ w'.heap[N]? = some (.cells #[.string ⟨#[80, 97, 114, 115, 101, 85, 105, 110, 116]⟩, .string s, .iface tp p] 157 (0, 0)) ∧ Below w.heap.size w w' := Any.strconv_ParseUint_10_at64_range_var Tryz.laysPu14 s hlim h tp p w hvar
def Tryz.lays144_ren : Go.Shelf.Ren := ⟨fun | 144 => 78 | 143 => 91 | 219 => 114 | 217 => 84 | 225 => 128 | 224 => 129 | 267 => 130 | 266 => 103 | 314 => 136 | n => n, fun | 9 => 9 | 4 => 4 | 3 => 3 | 5 => 5 | 46 => 93 | 146 => 168 | 51 => 92 | n => n, fun | 1 => 1 | n => n⟩
theorem Tryz.lays144 : Go.Proofs.Lays.n144 Tryz.prog Tryz.lays144_ren := {
  mixed := by kernel_rfl
  f143 := Tryz.func91.trans (congrArg some (by kernel_rfl))
  f144 := Tryz.func78.trans (congrArg some (by kernel_rfl))
  f217 := Tryz.func84.trans (congrArg some (by kernel_rfl))
  f219 := Tryz.func114.trans (congrArg some (by kernel_rfl))
  f224 := Tryz.func129.trans (congrArg some (by kernel_rfl))
  f225 := Tryz.func128.trans (congrArg some (by kernel_rfl))
  f266 := Tryz.func103.trans (congrArg some (by kernel_rfl))
  f267 := Tryz.func130.trans (congrArg some (by kernel_rfl))
  f314 := Tryz.func136.trans (congrArg some (by kernel_rfl))
  t3 := Tryz.underlying3
  a3 := Tryz.isAgg3
  z3 := Tryz.sizeOf3
  v3 := Tryz.zeroValue3
  t4 := Tryz.underlying4
  a4 := Tryz.isAgg4
  z4 := Tryz.sizeOf4
  v4 := Tryz.zeroValue4
  t5 := Tryz.underlying5
  a5 := Tryz.isAgg5
  z5 := Tryz.sizeOf5
  v5 := Tryz.zeroValue5
  t9 := Tryz.underlying9
  a9 := Tryz.isAgg9
  z9 := Tryz.sizeOf9
  v9 := Tryz.zeroValue9
  t46 := Tryz.underlying93
  a46 := Tryz.isAgg93
  z46 := Tryz.sizeOf93
  v46 := Tryz.zeroValue93
  t51 := Tryz.underlying92
  a51 := Tryz.isAgg92
  z51 := Tryz.sizeOf92
  v51 := Tryz.zeroValue92
  t146 := Tryz.underlying168
  a146 := Tryz.isAgg168
  z146 := Tryz.sizeOf168
  v146 := Tryz.zeroValue168
  g1 := by kernel_rfl }
open Go.RowKit Go.Lib in
theorem Tryz.strings_Contains (s sub : ByteArray) (m : Int) (w : World) (hs : s.size < 4294967281) (hm : w.cell? ⟨1, 0, none⟩ = some (.int .i64 m)) :
    Calls Tryz.prog 78 #[.string s, .string sub] w fun e w' => e = .returned (.bool (Lib.contains s.data.toList sub.data.toList)) ∧ w' = w := Any.strings_Contains Tryz.lays144 s sub m w hs hm
def Tryz.lays206_ren : Go.Shelf.Ren := ⟨fun | 206 => 102 | n => n, fun | 9 => 9 | 4 => 4 | 3 => 3 | n => n, fun | n => n⟩
theorem Tryz.lays206 : Go.Proofs.Lays.n206 Tryz.prog Tryz.lays206_ren := {
  mixed := by kernel_rfl
  f206 := Tryz.func102.trans (congrArg some (by kernel_rfl))
  t3 := Tryz.underlying3
  a3 := Tryz.isAgg3
  z3 := Tryz.sizeOf3
  v3 := Tryz.zeroValue3
  t4 := Tryz.underlying4
  a4 := Tryz.isAgg4
  z4 := Tryz.sizeOf4
  v4 := Tryz.zeroValue4
  t9 := Tryz.underlying9
  a9 := Tryz.isAgg9
  z9 := Tryz.sizeOf9
  v9 := Tryz.zeroValue9 }
open Go.RowKit Go.Lib in
theorem Tryz.stringslite_HasPrefix (s p : ByteArray) (w : World) :
    Calls Tryz.prog 102 #[.string s, .string p] w fun e w' => e = .returned (.bool (Lib.hasPrefix s.data.toList p.data.toList)) ∧ w' = w := Any.stringslite_HasPrefix Tryz.lays206 s p w
def Tryz.laysSlF020_f87_ren : Go.Shelf.Ren := ⟨fun | 20 => 87 | n => n, fun | 24 => 61 | 22 => 29 | 3 => 3 | 25 => 83 | 4 => 4 | 0 => 0 | n => n, fun | n => n⟩
theorem Tryz.laysSlF020_f87 : Go.Proofs.SlLaysF0.n20 Tryz.prog Tryz.laysSlF020_f87_ren := {
  mixed := by kernel_rfl
  f20 := ⟨Tryz.f87.name, by decide, Tryz.func87.trans (congrArg some (by kernel_rfl))⟩
  t0 := Tryz.underlying0
  a0 := Tryz.isAgg0
  z0 := Tryz.sizeOf0
  v0 := Tryz.zeroValue0
  t3 := Tryz.underlying3
  a3 := Tryz.isAgg3
  z3 := Tryz.sizeOf3
  v3 := Tryz.zeroValue3
  t4 := Tryz.underlying4
  a4 := Tryz.isAgg4
  z4 := Tryz.sizeOf4
  v4 := Tryz.zeroValue4
  t22 := Tryz.underlying29
  a22 := Tryz.isAgg29
  z22 := Tryz.sizeOf29
  v22 := Tryz.zeroValue29
  t25 := Tryz.underlying83
  a25 := Tryz.isAgg83
  z25 := Tryz.sizeOf83
  v25 := Tryz.zeroValue83 }
open Go.RowKit Go.Lib Go.Sort in
theorem Tryz.insertionSortCmpFunc {α : Type} [Inhabited α] (k : Nat) (aE : ∀ w, (isAgg (Tryz.laysSlF020_f87_ren.t 24)).run Tryz.prog w = .ok true w) (zE : ∀ w, (Go.sizeOf (Tryz.laysSlF020_f87_ren.t 24)).run Tryz.prog w = .ok k w) (enc : α → List Value) (hk : ∀ x, (enc x).length = k) (h1 : ∀ x, ∀ v ∈ enc x, v.oneCell' = true) (cf : α → α → Int) (g : Nat) (cb : Array Value) (blk off cap a b : Nat) (d : Array α) (w : World) (eg : ∀ args w, (callFunc g args).run Tryz.prog w = .ok (.enter g args) w) (hcmp : CmpLays Tryz.prog g cb enc k cf blk off d.size w) (hH : HoldsK enc k w blk off d) (hblk : blk < w.heap.size) (hab : a ≤ b) (hb : b ≤ d.size) (hsz : d.size < 4611686018427387904) :
    Calls Tryz.prog 87 #[.slice (some ⟨blk, off, none⟩) d.size cap, .int .i64 a, .int .i64 b, .func (.func g) #[] cb] w fun e w' =>
      e = .returned (.tuple #[]) ∧ ∃ n os, w' = sortWorldK enc k w blk off n (Sort.insertionSort (ltOf cf) d a b) os := AnyQ.insertionSortCmpFunc Tryz.laysSlF020_f87 k aE zE enc hk h1 cf g cb blk off cap a b d w eg hcmp hH hblk hab hb hsz
end Go.Proofs
end
section
namespace Go.Proofs.YtfboejlemnfndaaGreatDoor.B64

def lt (v : Nat) : Nat := if v < 26 then 65 + v else if v < 52 then 71 + v else if v < 62 then v - 4 else if v = 62 then 43 else 47
theorem lt_range (v : Nat) (h : v < 64) : 43 ≤ lt v ∧ lt v ≤ 122 ∧ lt v ≠ 61 := by
  unfold lt
  split
  · omega
  · split
    · omega
    · split
      · omega
      · split <;> omega
theorem lt_inj (v u : Nat) (hv : v < 64) (hu : u < 64) (h : lt v = lt u) : v = u := by
  unfold lt at h
  repeat' split at h
  all_goals omega

def word (l : List UInt8) : Nat := (l.getD 0 0).toNat * 65536 + (l.getD 1 0).toNat * 256 + (l.getD 2 0).toNat
theorem word_lt (l : List UInt8) : word l < 16777216 := by
  unfold word
  have h0 := (l.getD 0 0).toNat_lt
  have h1 := (l.getD 1 0).toNat_lt
  have h2 := (l.getD 2 0).toNat_lt
  omega
def let8 (v : Nat) : UInt8 := UInt8.ofNat (lt v)
theorem let8_toNat (v : Nat) (h : v < 64) : (let8 v).toNat = lt v := by
  have := lt_range v h
  unfold let8
  rw [UInt8.toNat_ofNat']
  omega
theorem let8_ne (v : Nat) (h : v < 64) : let8 v ≠ 61 := by
  intro e
  have h1 := let8_toNat v h
  rw [e] at h1
  have := lt_range v h
  exact this.2.2 h1.symm
theorem let8_inj (v u : Nat) (hv : v < 64) (hu : u < 64) (h : let8 v = let8 u) : v = u := by
  refine lt_inj v u hv hu ?_
  rw [← let8_toNat v hv, ← let8_toNat u hu, h]
def four (l : List UInt8) : List UInt8 :=
  [let8 (word l / 262144), let8 (word l / 4096 % 64), if 1 < l.length then let8 (word l / 64 % 64) else 61, if 2 < l.length then let8 (word l % 64) else 61]
def encN : Nat → List UInt8 → List UInt8
  | 0, _ => []
  | n + 1, l => if l = [] then [] else four l ++ encN n (l.drop 3)
def enc (l : List UInt8) : List UInt8 := encN l.length l
theorem encN_more (n m : Nat) (l : List UInt8) (h : l.length ≤ n) (h' : l.length ≤ m) : encN n l = encN m l := by
  induction n generalizing m l with
  | zero =>
    obtain rfl : l = [] := List.length_eq_zero_iff.1 (by omega)
    cases m <;> simp [encN]
  | succ n ih =>
    cases m with
    | zero =>
      obtain rfl : l = [] := List.length_eq_zero_iff.1 (by omega)
      simp [encN]
    | succ m =>
      unfold encN
      split
      · rfl
      · rename_i hl
        have : 0 < l.length := List.length_pos_iff.2 hl
        rw [ih m (l.drop 3) (by rw [List.length_drop]; omega) (by rw [List.length_drop]; omega)]
theorem enc_nil : enc [] = [] := rfl
theorem enc_step (l : List UInt8) (h : l ≠ []) : enc l = four l ++ enc (l.drop 3) := by
  have hp : 0 < l.length := List.length_pos_iff.2 h
  unfold enc
  obtain ⟨n, hn⟩ : ∃ n, l.length = n + 1 := ⟨l.length - 1, by omega⟩
  rw [hn]
  rw [encN, if_neg h, encN_more n (l.drop 3).length (l.drop 3) (by rw [List.length_drop]; omega) (Nat.le_refl _)]
theorem four_length (l : List UInt8) : (four l).length = 4 := rfl
theorem getD_append {l m : List UInt8} {i : Nat} (h : i < l.length) : (l ++ m).getD i 0 = l.getD i 0 := by
  rw [List.getD_eq_getElem?_getD, List.getD_eq_getElem?_getD, List.getElem?_append_left h]
theorem four_take (l m : List UInt8) (h : 3 ≤ l.length) : four (l ++ m) = four l := by
  unfold four word
  rw [getD_append (by omega), getD_append (by omega), getD_append (by omega)]
  simp only [List.length_append]
  rw [if_pos (by omega), if_pos (by omega), if_pos (by omega), if_pos (by omega)]
theorem enc_append (a b : List UInt8) (h : a.length % 3 = 0) : enc (a ++ b) = enc a ++ enc b := by
  induction hn : a.length using Nat.strongRecOn generalizing a with
  | _ n ih =>
    by_cases he : a = []
    · subst he; rfl
    · have hp : 0 < a.length := List.length_pos_iff.2 he
      rw [enc_step a he, enc_step (a ++ b) (by simp [he]), four_take a b (by omega), List.append_assoc]
      rw [List.drop_append_of_le_length (by omega), ih (a.drop 3).length (by rw [List.length_drop]; omega) (a.drop 3) (by rw [List.length_drop]; omega) rfl]
theorem enc_length (a : List UInt8) : (enc a).length = (a.length + 2) / 3 * 4 := by
  induction hn : a.length using Nat.strongRecOn generalizing a with
  | _ n ih =>
    by_cases he : a = []
    · subst he; subst hn; rfl
    · have hp : 0 < a.length := List.length_pos_iff.2 he
      rw [enc_step a he, List.length_append, four_length, ih (a.drop 3).length (by rw [List.length_drop]; omega) (a.drop 3) rfl, List.length_drop]
      omega
theorem list_of_getD (l m : List UInt8) (hl : l.length = m.length) (h : ∀ i, i < l.length → l.getD i 0 = m.getD i 0) : l = m := by
  apply List.ext_getElem hl
  intro i h1 h2
  have := h i h1
  rw [List.getD_eq_getElem?_getD, List.getD_eq_getElem?_getD, List.getElem?_eq_getElem h1, List.getElem?_eq_getElem h2] at this
  exact this
theorem word_of_four (x y : List UInt8) (hx : x.length ≤ 3) (hy : y.length ≤ 3) (hx0 : x ≠ []) (hy0 : y ≠ []) (h : four x = four y) : x = y := by
  have px : 0 < x.length := List.length_pos_iff.2 hx0
  have py : 0 < y.length := List.length_pos_iff.2 hy0
  have wx := word_lt x
  have wy := word_lt y
  unfold four at h
  simp only [List.cons.injEq, and_true] at h
  obtain ⟨h0, h1, h2, h3⟩ := h
  have e0 := let8_inj _ _ (by omega) (by omega) h0
  have e1 := let8_inj _ _ (by omega) (by omega) h1
  have b0 := (x.getD 0 0).toNat_lt
  have b1 := (x.getD 1 0).toNat_lt
  have b2 := (x.getD 2 0).toNat_lt
  have c0 := (y.getD 0 0).toNat_lt
  have c1 := (y.getD 1 0).toNat_lt
  have c2 := (y.getD 2 0).toNat_lt
  have toN : ∀ a b : UInt8, a.toNat = b.toNat → a = b := fun a b hab => UInt8.toNat_inj.1 hab
  have zx : ∀ i, x.length ≤ i → (x.getD i 0).toNat = 0 := fun i hi => by rw [List.getD_eq_getElem?_getD, List.getElem?_eq_none hi]; rfl
  have zy : ∀ i, y.length ≤ i → (y.getD i 0).toNat = 0 := fun i hi => by rw [List.getD_eq_getElem?_getD, List.getElem?_eq_none hi]; rfl
  by_cases x1 : 1 < x.length
  · by_cases y1 : 1 < y.length
    · rw [if_pos x1, if_pos y1] at h2
      have e2 := let8_inj _ _ (by omega) (by omega) h2
      by_cases x2 : 2 < x.length
      · by_cases y2 : 2 < y.length
        · rw [if_pos x2, if_pos y2] at h3
          have e3 := let8_inj _ _ (by omega) (by omega) h3
          have hw : word x = word y := by omega
          unfold word at hw
          refine list_of_getD x y (by omega) (fun i hi => toN _ _ ?_)
          have : i = 0 ∨ i = 1 ∨ i = 2 := by omega
          rcases this with rfl | rfl | rfl <;> omega
        · rw [if_pos x2, if_neg y2] at h3
          exact absurd h3 (let8_ne _ (by omega))
      · by_cases y2 : 2 < y.length
        · rw [if_neg x2, if_pos y2] at h3
          exact absurd h3.symm (let8_ne _ (by omega))
        · have hx2 := zx 2 (by omega)
          have hy2 := zy 2 (by omega)
          have hw : word x / 64 = word y / 64 := by omega
          unfold word at hw
          refine list_of_getD x y (by omega) (fun i hi => toN _ _ ?_)
          have : i = 0 ∨ i = 1 := by omega
          rcases this with rfl | rfl <;> omega
    · rw [if_pos x1, if_neg y1] at h2
      exact absurd h2 (let8_ne _ (by omega))
  · by_cases y1 : 1 < y.length
    · rw [if_neg x1, if_pos y1] at h2
      exact absurd h2.symm (let8_ne _ (by omega))
    · have hx1 := zx 1 (by omega)
      have hy1 := zy 1 (by omega)
      have hx2 := zx 2 (by omega)
      have hy2 := zy 2 (by omega)
      have hw : word x / 4096 = word y / 4096 := by omega
      unfold word at hw
      refine list_of_getD x y (by omega) (fun i hi => toN _ _ ?_)
      have : i = 0 := by omega
      subst this
      omega
theorem four_take3 (l : List UInt8) : four (l.take 3) = four l := by
  by_cases h : 3 ≤ l.length
  · have := four_take (l.take 3) (l.drop 3) (by rw [List.length_take]; omega)
    rw [List.take_append_drop] at this
    exact this.symm
  · rw [List.take_of_length_le (by omega)]
theorem append_parts {a b c d : List UInt8} (hl : a.length = c.length) (h : a ++ b = c ++ d) : a = c ∧ b = d := List.append_inj h hl
theorem enc_inj (x y : List UInt8) (h : enc x = enc y) : x = y := by
  induction hn : x.length using Nat.strongRecOn generalizing x y with
  | _ n ih =>
    by_cases hx : x = []
    · subst hx
      by_cases hy : y = []
      · exact hy.symm
      · rw [enc_step y hy] at h
        exact absurd (congrArg List.length h) (by rw [enc_nil, List.length_append, four_length, List.length_nil]; omega)
    · by_cases hy : y = []
      · subst hy
        rw [enc_step x hx] at h
        exact absurd (congrArg List.length h) (by rw [enc_nil, List.length_append, four_length, List.length_nil]; omega)
      · rw [enc_step x hx, enc_step y hy] at h
        obtain ⟨h1, h2⟩ := append_parts (by rw [four_length, four_length]) h
        have hp : 0 < x.length := List.length_pos_iff.2 hx
        have e1 : x.take 3 = y.take 3 := by
          refine word_of_four _ _ (List.length_take_le _ _) (List.length_take_le _ _) ?_ ?_ ?_
          · intro e; have := congrArg List.length e; rw [List.length_take] at this; simp at this; exact hx this
          · intro e; have := congrArg List.length e; rw [List.length_take] at this; simp at this; exact hy this
          · rw [four_take3, four_take3]; exact h1
        have e2 := ih (x.drop 3).length (by rw [List.length_drop]; omega) (x.drop 3) (y.drop 3) h2 rfl
        rw [← List.take_append_drop 3 x, ← List.take_append_drop 3 y, e1, e2]
theorem enc_begin (a b t : List UInt8) (ha : a.length % 3 = 0) (h : enc b = enc a ++ t) : ∃ c, b = a ++ c ∧ enc c = t := by
  have hla : (enc a).length = a.length / 3 * 4 := by rw [enc_length]; omega
  have hlb : (enc b).length = (enc a).length + t.length := by rw [h, List.length_append]
  rw [hla, enc_length] at hlb
  have hab : a.length ≤ b.length + 2 := by omega
  by_cases hle : a.length ≤ b.length
  · have ht : (b.take a.length).length % 3 = 0 := by rw [List.length_take]; rw [Nat.min_eq_left hle]; exact ha
    have hb := enc_append (b.take a.length) (b.drop a.length) ht
    rw [List.take_append_drop, h] at hb
    obtain ⟨h1, h2⟩ := append_parts (by rw [enc_length, enc_length, List.length_take, Nat.min_eq_left hle]) hb
    have := enc_inj _ _ h1
    refine ⟨b.drop a.length, ?_, h2.symm⟩
    conv => lhs; rw [← List.take_append_drop a.length b, ← this]
  · -- b is shorter by one or two: its last letters are no whole three's
    have hb0 : b.length / 3 * 3 < b.length := by omega
    have hq : (b.take (b.length / 3 * 3)).length = b.length / 3 * 3 := by rw [List.length_take]; omega
    have hq' : (a.take (b.length / 3 * 3)).length = b.length / 3 * 3 := by rw [List.length_take]; omega
    have eb := enc_append (b.take (b.length / 3 * 3)) (b.drop (b.length / 3 * 3)) (by rw [hq]; omega)
    have ea := enc_append (a.take (b.length / 3 * 3)) (a.drop (b.length / 3 * 3)) (by rw [hq']; omega)
    rw [List.take_append_drop] at eb ea
    rw [h, ea, List.append_assoc] at eb
    obtain ⟨_, h2⟩ := append_parts (by rw [enc_length, enc_length, hq, hq']) eb
    have hd : (b.drop (b.length / 3 * 3)).length = b.length - b.length / 3 * 3 := List.length_drop
    have hd' : (a.drop (b.length / 3 * 3)).length = a.length - b.length / 3 * 3 := List.length_drop
    rw [enc_step (b.drop (b.length / 3 * 3)) (by intro e; rw [e] at hd; simp at hd; omega), enc_step (a.drop (b.length / 3 * 3)) (by intro e; rw [e] at hd'; simp at hd'; omega), List.append_assoc] at h2
    obtain ⟨h3, _⟩ := append_parts (by rw [four_length, four_length]) h2
    have := word_of_four _ _ (by rw [hd']; omega) (by rw [hd]; omega) (by intro e; rw [e] at hd'; simp at hd'; omega) (by intro e; rw [e] at hd; simp at hd; omega) h3
    have := congrArg List.length this
    rw [hd, hd'] at this
    omega
open Classical in
noncomputable def dec (s : List UInt8) : Option (List UInt8) := if h : ∃ b, enc b = s then some (Classical.choose h) else none
theorem dec_enc (b : List UInt8) : dec (enc b) = some b := by
  unfold dec
  rw [dif_pos ⟨b, rfl⟩]
  exact congrArg some (enc_inj _ _ (Classical.choose_spec (p := fun x => enc x = enc b) ⟨b, rfl⟩))
theorem dec_of (s b : List UInt8) (h : enc b = s) : dec s = some b := by subst h; exact dec_enc b
theorem dec_none (s : List UInt8) (h : ¬ ∃ b, enc b = s) : dec s = none := by unfold dec; rw [dif_neg h]
theorem dec_some (s b : List UInt8) (h : dec s = some b) : enc b = s := by
  unfold dec at h
  split at h
  · rename_i hx
    injection h with h
    subst h
    exact Classical.choose_spec hx
  · cases h
end Go.Proofs.YtfboejlemnfndaaGreatDoor.B64
end
section
namespace Go.Proofs.YtfboejlemnfndaaGreatDoor
open Go.RowKit Go.Shelf

theorem bldSize : (Tryz.prog.info? 91).map (·.size) = some 2 := by kernel_rfl
theorem bldLies : liesAt Tryz.prog Tryz.prog.depth 91 (2 / Tryz.prog.cellsOf 91) 0 91 1 = true := by kernel_rfl
theorem bldByte : (Tryz.prog.info? 5).map (fun i => (i.zero, i.size, i.bytes)) = some (some (.int .u8 0), 1, 1) := by kernel_rfl

set_option maxHeartbeats 2000000 in
set_option maxRecDepth 100000 in
theorem bld_check_fresh (b : Nat) (w : World) (h0 : w.cell? ⟨b, 0, none⟩ = some (.pointer none)) (hsh : w.shape? b = some (91, 2)) (hfz : w.frozen? ⟨b, 0, none⟩ = false) :
    Calls Tryz.prog 74 #[.pointer (some ⟨b, 0, none⟩)] w fun e w' => e = .returned (.tuple #[]) ∧ w' = w.setCell ⟨b, 0, none⟩ (.pointer (some ⟨b, 0, none⟩)) := by
  obtain ⟨j, hj, hjs⟩ := Option.map_eq_some_iff.1 bldSize
  go_enter Tryz.func74, Tryz.ntmps74
  go_wp2
  rw [Lib.run_to_unsafe w ⟨b, 0, none⟩ Tryz.underlying89 Tryz.underlying128 hj (by rw [hjs]; decide) hsh (Nat.zero_lt_succ 1)]
  simp only [Result.andThen]
  rw [Oper.upon_value]
  go_wp2
  rw [run_callFunc_extern Tryz.func92 (by kernel_rfl) (by kernel_rfl) (by kernel_rfl) (e := Extern.AbiNoEscape.same) (by kernel_rfl)]
  rw [Lib.run_noEscape]
  simp only [Result.andThen]
  rw [Oper.upon_value]
  go_wp2
  rw [Lib.run_from_unsafe w ⟨b, 0, none⟩ Tryz.underlying128 Tryz.underlying89 hj hsh bldLies]
  simp only [Result.andThen]
  rw [Oper.upon_value]
  go_wp2
  go_end0
  exact ⟨rfl, rfl⟩

set_option maxHeartbeats 2000000 in
set_option maxRecDepth 100000 in
theorem bld_check_used (b : Nat) (w : World) (h0 : w.cell? ⟨b, 0, none⟩ = some (.pointer (some ⟨b, 0, none⟩))) :
    Calls Tryz.prog 74 #[.pointer (some ⟨b, 0, none⟩)] w fun e w' => e = .returned (.tuple #[]) ∧ w' = w := by
  obtain ⟨j, hj, _⟩ := Option.map_eq_some_iff.1 bldSize
  go_enter Tryz.func74, Tryz.ntmps74
  go_wp2
  rw [Lib.run_neq_ptr_same w _ Tryz.underlying89 hj]
  go_wp2
  go_end0
  exact ⟨rfl, rfl⟩

abbrev IsBld (B b : Nat) (l : List UInt8) (w : World) : Prop := Lib.IsBuilderF 91 5 B b (Lib.byteCells l) w

theorem bld_check (B b : Nat) (bs : List Value) (w : World) (h : Lib.IsBuilderF 91 5 B b bs w) :
    Calls Tryz.prog 74 #[.pointer (some ⟨b, 0, none⟩)] w fun e w' => e = .returned (.tuple #[]) ∧ Lib.BuilderAtF 91 5 B b (.pointer (some ⟨b, 0, none⟩)) bs w' ∧ Below B w w' := by
  rcases h with h | h
  · refine (bld_check_fresh b w h.cell0 h.shape h.frozen0).mono ?_
    rintro e w' ⟨rfl, rfl⟩
    exact ⟨rfl, h.used _, (Below.refl B w).setCell (p := ⟨b, 0, none⟩) h.1 _⟩
  · refine (bld_check_used b w h.cell0).mono ?_
    rintro e w' ⟨rfl, rfl⟩
    exact ⟨rfl, h, Below.refl B _⟩
theorem isBld_below {B b : Nat} {l : List UInt8} {W W' : World} (h : IsBld B b l W) (hb : Below W.heap.size W W') : IsBld B b l W' := by
  have go : ∀ p, Lib.BuilderAtF 91 5 B b p (Lib.byteCells l) W → Lib.BuilderAtF 91 5 B b p (Lib.byteCells l) W' := fun p h => by
    have hlt := h.lt
    obtain ⟨hB, v, hbk, hown, hne⟩ := h
    refine ⟨hB, v, (hb.block b hlt).trans hbk, ?_, hne⟩
    obtain ⟨h1, h2⟩ := hown
    refine ⟨h1, ?_⟩
    rcases h2 with h2 | ⟨g, cap, cur, fz, hv, hg, hh, r⟩
    · exact .inl h2
    · refine .inr ⟨g, cap, cur, fz, hv, hg, ?_, r⟩
      have : g < W.heap.size := by
        rcases Nat.lt_or_ge g W.heap.size with h' | h'
        · exact h'
        · simp [Array.getElem?_eq_none h'] at hh
      exact (hb.block g this).trans hh
  exact h.elim (fun x => .inl (go _ x)) (fun x => .inr (go _ x))
theorem isBld_fresh (w : World) : IsBld w.heap.size w.heap.size [] (w.alloc (.cells #[.pointer none, .slice none 0 0] 91)) := Lib.IsBuilderF.of (Lib.fresh_isBuilder _ _ w)
end Go.Proofs.YtfboejlemnfndaaGreatDoor
end
section
namespace Go.Proofs.YtfboejlemnfndaaGreatDoor
open Go.RowKit Go.Shelf

set_option maxHeartbeats 4000000 in
set_option maxRecDepth 100000 in
theorem bld_byte (B b : Nat) (l : List UInt8) (c : Int) (w : World) (h : IsBld B b l w) (h0 : 0 ≤ c) (h1 : c < 256) (hlen : l.length + 1 ≤ 140737488355328) (hBw : B ≤ w.heap.size) :
    Calls Tryz.prog 53 #[.pointer (some ⟨b, 0, none⟩), .int .u8 c] w fun e w' => e = .returned .nilIface ∧ IsBld B b (l ++ [UInt8.ofNat c.toNat]) w' ∧ Below B w w' := by
  obtain ⟨i0, hi, hz0, hz1, hz2⟩ := info_parts bldByte
  have hll : (Lib.byteCells l).length = l.length := Lib.byteCells_length l
  have HE : Hid (Lib.byteCells (l ++ [UInt8.ofNat c.toNat]) = Lib.byteCells l ++ [.int .u8 c]) := by
    show Lib.byteCells (l ++ [UInt8.ofNat c.toNat]) = Lib.byteCells l ++ [.int .u8 c]
    rw [Lib.byteCells_append]
    congr 1
    simp only [Lib.byteCells, List.map_cons, List.map_nil]
    congr 2
    rw [UInt8.toNat_ofNat']
    omega
  unfold IsBld at h ⊢
  rw [HE.out]
  have hlen' : (Lib.byteCells l).length + 1 ≤ 140737488355328 := by omega
  clear HE hll hlen
  generalize Lib.byteCells l = bs at *
  go_enter Tryz.func53, Tryz.ntmps53
  go_wp2_with (go_at_call 74; refine (bld_check B b bs _ h).mono ?_)
  rintro e w1 ⟨rfl, h1', hb1⟩
  obtain ⟨hB, v, hbk, hown, hne⟩ := h1'
  have c0 : w1.cell? ⟨b, 0, none⟩ = some (.pointer (some ⟨b, 0, none⟩)) := by rw [Lib.cell_of_heap hbk]; rfl
  have c1 : w1.cell? ⟨b, 1, none⟩ = some v := by rw [Lib.cell_of_heap hbk]; rfl
  go_wp2_with (at_builtin; refine wpList_append_ownF _ rfl _ _ 70 rfl B 5 i0 (.int .u8 0) 1 1 Tryz.underlying70 hi hz0 hz1 hz2 rfl (by decide) _ _ _ rfl (hown.alloc _) ⟨w1.heap.size, 0, none⟩ 1 1 [.int .u8 c] rfl rfl ?c1 ?c2 ?c3 ?c4 ?c5 ?_)
  case c1 =>
    intro j u hj
    match j, hj with
    | 0, hj => simp at hj; subst hj; simp [Addr.add]
  case c2 => intro u hu; simp at hu; subst hu; rfl
  case c3 => unfold maxLen; omega
  case c4 => omega
  case c5 => have := hb1.size; simp; omega
  intro v' w2 hown' hgrow _
  have hlt : b < w1.heap.size := by
    rcases Nat.lt_or_ge b w1.heap.size with h' | h'
    · exact h'
    · simp [Array.getElem?_eq_none h'] at hbk
  have hb2 : w2.heap[b]? = some (.cells #[.pointer (some ⟨b, 0, none⟩), v] 91 (0, 0)) := by
    rw [hgrow.block b (by simp; omega) (fun e => hne e.symm), Lib.alloc_old w1 _ b hlt]
    exact hbk
  have d0 : w2.cell? ⟨b, 0, none⟩ = some (.pointer (some ⟨b, 0, none⟩)) := by rw [Lib.cell_of_heap hb2]; rfl
  have d1 : w2.cell? ⟨b, 1, none⟩ = some v := by rw [Lib.cell_of_heap hb2]; rfl
  have f1 : w2.frozen? ⟨b, 1, none⟩ = false := Lib.frozen_of_heap hb2 1
  obtain ⟨g, cap, rfl⟩ : ∃ g cap, v' = .slice (some ⟨g, 0, none⟩) (bs.length + 1) cap := by
    rcases hown'.2 with ⟨_, h0⟩ | ⟨g, cap, cur, fz, hv, _⟩
    · omega
    · exact ⟨g, cap, hv⟩
  go_wp2
  go_ret
  refine ⟨rfl, .inr ?_, ?_⟩
  · exact Lib.BuilderAtF.put (T := 91) (e := 5) hB hb2 (bs' := bs ++ [.int .u8 c]) (by simpa using hown') (by decide)
  · exact ((hb1.alloc (by have := hb1.size; omega) _).grown hgrow (by have := hb1.size; simp; omega) (fun k hk => (hown.lt k hk).1)).setCell (p := ⟨b, 1, none⟩) hB _
end Go.Proofs.YtfboejlemnfndaaGreatDoor
end
section
namespace Go.Proofs.YtfboejlemnfndaaGreatDoor
theorem wraps_u32 (n : Int) (h₀ : 0 ≤ n) (h₁ : n < 2 ^ 32) : IntKind.u32.wrap n = n := by rw [IntKind.wrap_u32]; omega
theorem u32_or8 (x y : Int) (hx₀ : 0 ≤ x) (hx : x % 256 = 0) (hx₁ : x < 4294967296) (h₀ : 0 ≤ y) (h₁ : y < 256) : bits .or .u32 x y = x + y :=
  bits_join .u32 32 (by decide) wraps_u32 8 x y hx₀ hx hx₁ h₀ h₁ (by omega)
theorem u32_or6 (x y : Int) (hx₀ : 0 ≤ x) (hx : x % 64 = 0) (hx₁ : x < 4294967296) (h₀ : 0 ≤ y) (h₁ : y < 64) : bits .or .u32 x y = x + y :=
  bits_join .u32 32 (by decide) wraps_u32 6 x y hx₀ hx hx₁ h₀ h₁ (by omega)
theorem u32_and63 (x : Int) (h₀ : 0 ≤ x) (h₁ : x < 4294967296) : bits .and .u32 x 63 = x % 64 := bits_mask .u32 32 (by decide) wraps_u32 6 (by decide) x h₀ h₁
end Go.Proofs.YtfboejlemnfndaaGreatDoor
end
section
namespace Go.Proofs.YtfboejlemnfndaaGreatDoor.XMk
open Go.RowKit Go.Proofs.YtfboejlemnfndaaGreatDoorW.PrintWords Go.Proofs.YtfboejlemnfndaaGreatDoorW.PrintLast Go.Proofs.YtfboejlemnfndaaGreatDoorW.PrintMore
attribute [local go_sem] extract_sub max2_int min2_int max_two min_two max_three min_three max_four min_four   -- for this text's walks alone
set_option linter.unusedVariables false
set_option linter.unusedSimpArgs false

noncomputable section
def meta_Encode.f (a0 : ByteArray) : Option ByteArray := if a0.size ≤ 1099511627776 then some ⟨(B64.enc a0.data.toList).toArray⟩ else none
def meta_Encode.ERel (a0 : ByteArray) (w : World) (t : ByteArray) (acc : List UInt8) (wr : World) : Prop :=
 IsBld w.heap.size w.heap.size acc wr ∧ Below w.heap.size w wr ∧ acc ++ B64.enc t.data.toList = B64.enc a0.data.toList
def meta_Encode.wd (l : List UInt8) : Nat → Nat
 | 0 => 0
 | k + 1 => meta_Encode.wd l k * 256 + (l.getD k 0).toNat
theorem meta_Encode.wd_lt (l : List UInt8) (k : Nat) : meta_Encode.wd l k < 256 ^ k := by
 induction k with
 | zero => simp [meta_Encode.wd]
 | succ k ih => have := (l.getD k 0).toNat_lt; unfold meta_Encode.wd; omega
theorem meta_Encode.wd_bound (l : List UInt8) (k : Nat) (h : k < 3) : meta_Encode.wd l k < 65536 := by
 have := meta_Encode.wd_lt l k
 have : k = 0 ∨ k = 1 ∨ k = 2 := by omega
 rcases this with rfl | rfl | rfl <;> omega
theorem meta_Encode.wd_in (t : ByteArray) (k : Nat) (h : k < 3) (hl : k < t.size) : bits BinOp.or IntKind.u32 (↑(meta_Encode.wd t.data.toList k) * 256) (↑t[k].toNat % 4294967296) = ((meta_Encode.wd t.data.toList (k + 1) : Nat) : Int) := by
 have hb := meta_Encode.wd_bound t.data.toList k h
 have hc := t[k].toNat_lt
 rw [u32_or8 _ _ (by omega) (by omega) (by omega) (by omega) (by omega)]
 have e : t.data.toList.getD k 0 = t[k] := by
  rw [List.getD_eq_getElem?_getD, List.getElem?_eq_getElem (by rw [Array.length_toList]; exact hl)]
  rfl
 have e2 : meta_Encode.wd t.data.toList (k + 1) = meta_Encode.wd t.data.toList k * 256 + t[k].toNat := by rw [← e]; rfl
 rw [e2, Int.emod_eq_of_lt (by omega) (by omega)]
 omega
theorem meta_Encode.wd_out (t : ByteArray) (k : Nat) (hl : ¬ k < t.size) : ((meta_Encode.wd t.data.toList k : Nat) : Int) * 256 = ((meta_Encode.wd t.data.toList (k + 1) : Nat) : Int) := by
 have e : t.data.toList.getD k 0 = 0 := by
  rw [List.getD_eq_getElem?_getD, List.getElem?_eq_none (by rw [Array.length_toList]; exact Nat.not_lt.1 hl)]
  rfl
 conv => rhs; unfold meta_Encode.wd
 rw [e]
 simp
theorem meta_Encode.wd_three (l : List UInt8) : meta_Encode.wd l 3 = B64.word l := by
 simp only [meta_Encode.wd, B64.word]; omega
theorem meta_Encode.ba_list (t : ByteArray) : t.toList = t.data.toList := ByteArray.toList_eq t
theorem meta_Encode.ne_empty (t : ByteArray) (h : ¬ t.size = 0) : (!t.toList.isEmpty) = true := by
 rw [meta_Encode.ba_list]
 cases e : t.data.toList with
 | nil => exact absurd (by have := congrArg List.length e; rw [Array.length_toList] at this; exact this) h
 | cons _ _ => rfl
theorem meta_Encode.is_empty (t : ByteArray) (h : t.size = 0) : (!t.toList.isEmpty) = false := by
 have : t.data.toList = [] := List.length_eq_zero_iff.1 (by rw [Array.length_toList]; exact h)
 rw [meta_Encode.ba_list, this]
 rfl
theorem meta_Encode.letter_f (x : Nat) (h : x < 4294967296) : meta_letter.f (x : Int) = some ((B64.lt (x % 64) : Nat) : Int) := by
 unfold meta_letter.f B64.lt
 rw [u32_and63 _ (by omega) (by omega)]
 have e : ((x : Int) % 64) = ((x % 64 : Nat) : Int) := by omega
 rw [e]
 generalize hy : x % 64 = y
 have hy' : y < 64 := by omega
 by_cases h1 : y < 26
 · rw [if_pos (by omega), if_pos h1]; congr 1; omega
 rw [if_neg (by omega), if_neg h1]
 by_cases h2 : y < 52
 · rw [if_pos (by omega), if_pos h2]; congr 1; omega
 rw [if_neg (by omega), if_neg h2]
 by_cases h3 : y < 62
 · rw [if_pos (by omega), if_pos h3]; congr 1; omega
 rw [if_neg (by omega), if_neg h3]
 by_cases h4 : y = 62
 · rw [if_pos (by omega), if_pos h4]; rfl
 rw [if_neg (by omega), if_neg h4]; rfl
theorem meta_Encode.letter_at (x : Int) (n : Nat) (h : x = (n : Int)) (hn : n < 4294967296) (w : World) :
 Calls Tryz.prog 54 #[.int .u32 x] w fun e w' => e = .returned (.int .u8 ((B64.lt (n % 64) : Nat) : Int)) ∧ Drawn0 w w' := by
 subst h
 exact meta_letter.calls _ _ w (meta_Encode.letter_f n hn)
theorem meta_Encode.let8_of (n : Nat) : UInt8.ofNat ((B64.lt n : Nat) : Int).toNat = B64.let8 n := rfl
theorem meta_Encode.dsz (t : ByteArray) : t.data.toList.length = t.size := Array.length_toList
theorem meta_Encode.four0 (t : ByteArray) : (B64.four t.data.toList)[0]? = some (UInt8.ofNat ((B64.lt (meta_Encode.wd t.data.toList 3 / 262144 % 64) : Nat) : Int).toNat) := by
 rw [meta_Encode.wd_three]
 have := B64.word_lt t.data.toList
 show some (B64.let8 (B64.word t.data.toList / 262144)) = some (B64.let8 (B64.word t.data.toList / 262144 % 64))
 rw [Nat.mod_eq_of_lt (by omega)]
theorem meta_Encode.four1 (t : ByteArray) : (B64.four t.data.toList)[1]? = some (UInt8.ofNat ((B64.lt (meta_Encode.wd t.data.toList 3 / 4096 % 64) : Nat) : Int).toNat) := by
 rw [meta_Encode.wd_three]; rfl
theorem meta_Encode.four2 (t : ByteArray) (h : 2 ≤ t.size) : (B64.four t.data.toList)[2]? = some (UInt8.ofNat ((B64.lt (meta_Encode.wd t.data.toList 3 / 64 % 64) : Nat) : Int).toNat) := by
 rw [meta_Encode.wd_three]
 exact congrArg some (if_pos (by rw [meta_Encode.dsz]; omega))
theorem meta_Encode.four3 (t : ByteArray) (h : 3 ≤ t.size) : (B64.four t.data.toList)[3]? = some (UInt8.ofNat ((B64.lt (meta_Encode.wd t.data.toList 3 % 64) : Nat) : Int).toNat) := by
 rw [meta_Encode.wd_three]
 exact congrArg some (if_pos (by rw [meta_Encode.dsz]; omega))
theorem meta_Encode.fill2 (t : ByteArray) (h : t.size < 2) : (B64.four t.data.toList)[2]? = some (UInt8.ofNat (61 : Int).toNat) := congrArg some (if_neg (by rw [meta_Encode.dsz]; omega))
theorem meta_Encode.fill3 (t : ByteArray) (h : t.size < 3) : (B64.four t.data.toList)[3]? = some (UInt8.ofNat (61 : Int).toNat) := congrArg some (if_neg (by rw [meta_Encode.dsz]; omega))
theorem meta_Encode.enc_on (t : ByteArray) (h : 1 ≤ t.size) (acc l : List UInt8) (hl : acc ++ B64.enc t.data.toList = l) :
 (acc ++ (B64.four t.data.toList).take 4) ++ B64.enc (t.extract (if (t.size : Int) < 3 then (t.size : Int) else 3).toNat t.size).data.toList = l := by
 have e : (t.extract (if (t.size : Int) < 3 then (t.size : Int) else 3).toNat t.size).data.toList = t.data.toList.drop 3 := by
  rw [Lib.extract_data]
  have hd := meta_Encode.dsz t
  by_cases h3 : 3 ≤ t.size
  · have e3 : (if (t.size : Int) < 3 then (t.size : Int) else 3).toNat = 3 := by rw [if_neg (by omega)]; rfl
    rw [e3, List.take_of_length_le (by rw [List.length_drop]; omega)]
  have e3 : (if (t.size : Int) < 3 then (t.size : Int) else 3).toNat = t.size := by rw [if_pos (by omega)]; rfl
  rw [e3, List.drop_of_length_le (by omega), List.drop_of_length_le (by omega), List.take_nil]
 rw [e, List.take_of_length_le (by rw [B64.four_length]; omega), ← hl, B64.enc_step t.data.toList (by intro e0; have := meta_Encode.dsz t; rw [e0] at this; simp at this; omega), List.append_assoc]
theorem meta_Encode.size_le (t : ByteArray) (acc : List UInt8) (a0 : ByteArray) (h : acc ++ B64.enc t.data.toList = B64.enc a0.data.toList) (hs : a0.size ≤ 1099511627776) : t.size ≤ 9223372036854775807 := by
 have := congrArg List.length h
 rw [List.length_append, B64.enc_length, B64.enc_length, meta_Encode.dsz, meta_Encode.dsz] at this
 omega
theorem meta_Encode.acc_le (acc l m : List UInt8) (h : acc ++ l = B64.enc m) (hm : m.length ≤ 1099511627776) : acc.length ≤ 4398046511104 := by
 have := congrArg List.length h
 rw [List.length_append, B64.enc_length] at this
 omega
theorem meta_Encode.four_more (l : List UInt8) (k : Nat) (c : UInt8) (h : (B64.four l)[k]? = some c) : (B64.four l).take (k + 1) = (B64.four l).take k ++ [c] := by
 rw [List.take_add_one, h]; rfl
set_option maxHeartbeats 1600000 in
set_option maxRecDepth 100000 in
theorem meta_Encode.calls_ (a0 : ByteArray) (w : World) (hs : a0.size ≤ 1099511627776) :
 Calls Tryz.prog 26 #[.string a0] w fun e w' => e = .returned (.string ⟨(B64.enc a0.data.toList).toArray⟩) ∧ Below w.heap.size w w' := by
 go_enter Tryz.func26, Tryz.ntmps26
 go_wp2_with fail
 go_loopw [0] (fun s wr => ∃ (t : ByteArray) (acc : List UInt8), s = .string t ∧ meta_Encode.ERel a0 w t acc wr) (fun s wr => match s with | .string t => t.size | _ => 0)
 case atStart => exact ⟨a0, [], rfl, isBld_fresh w, (Below.refl _ w).alloc (Nat.le_refl _) _, rfl⟩
 case round =>
  obtain ⟨t, acc, rfl, hR⟩ := hrel
  by_cases hE : t.size = 0
  · have hne := meta_Encode.is_empty t hE
    obtain ⟨h1, h2, h3⟩ := hR
    have HE := Lib.hid hE
    have H3 := Lib.hid h3
    clear hE h3
    go_wp2_with fail
    refine (Tryz.Builder_String_any_f w.heap.size w.heap.size acc _ h1 h2.size).mono ?_
    rintro e w1 ⟨rfl, _, hb1⟩
    go_wp2
    go_ret
    have : t.data.toList = [] := List.length_eq_zero_iff.1 (by rw [Array.length_toList]; exact HE.out)
    have h3 := H3.out
    rw [this, B64.enc_nil, List.append_nil] at h3
    rw [h3]
    exact ⟨rfl, h2.trans hb1⟩
  have hne := meta_Encode.ne_empty t hE
  have hR' : Hid (meta_Encode.ERel a0 w t acc wr) := hR
  have hsz : t.size ≤ 9223372036854775807 := meta_Encode.size_le t acc a0 hR.2.2 hs
  have hE1 : Hid (¬ t.size = 0) := hE
  clear hE hR
  go_wp2_with fail
  go_loop [4, 14] (fun v i => ∃ k : Nat, k ≤ 3 ∧ i = .int .i64 k ∧ v = .int .u32 (meta_Encode.wd t.data.toList k)) (fun _ i => 3 - (intOf i).toNat)
  case atStart => exact ⟨0, by omega, rfl, rfl⟩
  case round =>
   obtain ⟨k, hk, rfl, rfl⟩ := hrel
   by_cases hk3 : k < 3
   · have hw2 := meta_Encode.wd_bound t.data.toList k hk3
     by_cases hlt : k < t.size
     · go_wp2
       go_round
       case rel => exact ⟨k + 1, by omega, by go_num, by rw [meta_Encode.wd_in t k hk3 hlt]⟩
       case measure => simp [intOf]; omega
     go_wp2
     go_round
     case rel => exact ⟨k + 1, by omega, by go_num, by rw [meta_Encode.wd_out t k hlt]⟩
     case measure => simp [intOf]; omega
   obtain rfl : k = 3 := by omega
   have hw3 := meta_Encode.wd_lt t.data.toList 3
   have hw4 : meta_Encode.wd t.data.toList 3 < 16777216 := by omega
   clear hw3 hk3 hk
   go_wp2_with fail
   go_loopw [30] (fun i wx => ∃ k : Nat, k ≤ 4 ∧ i = .int .i64 k ∧ IsBld w.heap.size w.heap.size (acc ++ (B64.four t.data.toList).take k) wx ∧ Below w.heap.size w wx) (fun i _ => 4 - (intOf i).toNat)
   case atStart => exact ⟨0, by omega, rfl, by simpa using hR'.out.1, hR'.out.2.1⟩
   case round =>
    obtain ⟨k, hk, rfl, hB, hb⟩ := hrel
    have HB := Lib.hid hB
    have Hb := Lib.hid hb
    clear hB hb
    have hs1 : 1 ≤ t.size := by have := hE1.out; omega
    have hlen : Hid (acc.length ≤ 4398046511104) := meta_Encode.acc_le acc _ _ hR'.out.2.2 (by rw [meta_Encode.dsz]; exact hs)
    obtain rfl | rfl | rfl | rfl | rfl : k = 0 ∨ k = 1 ∨ k = 2 ∨ k = 3 ∨ k = 4 := by omega
    · go_wp2_with fail
      refine (meta_Encode.letter_at _ (meta_Encode.wd t.data.toList 3 / 262144) (by omega) (by omega) _).mono ?_
      rintro e w1 ⟨rfl, hd⟩
      have HD := Lib.hid hd
      clear hd
      go_wp2_with fail
      refine (bld_byte w.heap.size w.heap.size _ _ _ (isBld_below HB.out HD.out.below) (by omega) (by have := (B64.lt_range _ (Nat.mod_lt (meta_Encode.wd t.data.toList 3 / 262144) (by decide : 0 < 64))); omega) (by have := hlen.out; simp; omega) (by have := Hb.out.size; have := HD.out.below.size; omega)).mono ?_
      rintro e w2 ⟨rfl, hB2, hb2⟩
      have HB2 := Lib.hid hB2
      have Hb2 := Lib.hid hb2
      clear hB2 hb2
      go_wp2
      go_roundw
      case rel => exact ⟨1, by omega, by go_num, by rw [meta_Encode.four_more _ 0 _ (meta_Encode.four0 t), ← List.append_assoc]; exact HB2.out, Hb.out.trans ((HD.out.below.mono Hb.out.size).trans Hb2.out)⟩
      case measure => simp [intOf]
    · go_wp2_with fail
      refine (meta_Encode.letter_at _ (meta_Encode.wd t.data.toList 3 / 4096) (by omega) (by omega) _).mono ?_
      rintro e w1 ⟨rfl, hd⟩
      have HD := Lib.hid hd
      clear hd
      go_wp2_with fail
      refine (bld_byte w.heap.size w.heap.size _ _ _ (isBld_below HB.out HD.out.below) (by omega) (by have := (B64.lt_range _ (Nat.mod_lt (meta_Encode.wd t.data.toList 3 / 4096) (by decide : 0 < 64))); omega) (by have := hlen.out; simp; omega) (by have := Hb.out.size; have := HD.out.below.size; omega)).mono ?_
      rintro e w2 ⟨rfl, hB2, hb2⟩
      have HB2 := Lib.hid hB2
      have Hb2 := Lib.hid hb2
      clear hB2 hb2
      go_wp2
      go_roundw
      case rel => exact ⟨2, by omega, by go_num, by rw [meta_Encode.four_more _ 1 _ (meta_Encode.four1 t), ← List.append_assoc]; exact HB2.out, Hb.out.trans ((HD.out.below.mono Hb.out.size).trans Hb2.out)⟩
      case measure => simp [intOf]
    · by_cases h2 : t.size < 2
      · go_wp2_with fail
        refine (bld_byte w.heap.size w.heap.size _ 61 _ HB.out (by omega) (by omega) (by have := hlen.out; simp; omega) Hb.out.size).mono ?_
        rintro e w2 ⟨rfl, hB2, hb2⟩
        have HB2 := Lib.hid hB2
        have Hb2 := Lib.hid hb2
        clear hB2 hb2
        go_wp2
        go_roundw
        case rel => exact ⟨3, by omega, by go_num, by rw [meta_Encode.four_more _ 2 _ (meta_Encode.fill2 t h2), ← List.append_assoc]; exact HB2.out, Hb.out.trans Hb2.out⟩
        case measure => simp [intOf]
      go_wp2_with fail
      refine (meta_Encode.letter_at _ (meta_Encode.wd t.data.toList 3 / 64) (by omega) (by omega) _).mono ?_
      rintro e w1 ⟨rfl, hd⟩
      have HD := Lib.hid hd
      clear hd
      go_wp2_with fail
      refine (bld_byte w.heap.size w.heap.size _ _ _ (isBld_below HB.out HD.out.below) (by omega) (by have := (B64.lt_range _ (Nat.mod_lt (meta_Encode.wd t.data.toList 3 / 64) (by decide : 0 < 64))); omega) (by have := hlen.out; simp; omega) (by have := Hb.out.size; have := HD.out.below.size; omega)).mono ?_
      rintro e w2 ⟨rfl, hB2, hb2⟩
      have HB2 := Lib.hid hB2
      have Hb2 := Lib.hid hb2
      clear hB2 hb2
      go_wp2
      go_roundw
      case rel => exact ⟨3, by omega, by go_num, by rw [meta_Encode.four_more _ 2 _ (meta_Encode.four2 t (by omega)), ← List.append_assoc]; exact HB2.out, Hb.out.trans ((HD.out.below.mono Hb.out.size).trans Hb2.out)⟩
      case measure => simp [intOf]
    · by_cases h3 : t.size < 3
      · go_wp2_with fail
        refine (bld_byte w.heap.size w.heap.size _ 61 _ HB.out (by omega) (by omega) (by have := hlen.out; simp; omega) Hb.out.size).mono ?_
        rintro e w2 ⟨rfl, hB2, hb2⟩
        have HB2 := Lib.hid hB2
        have Hb2 := Lib.hid hb2
        clear hB2 hb2
        go_wp2
        go_roundw
        case rel => exact ⟨4, by omega, by go_num, by rw [meta_Encode.four_more _ 3 _ (meta_Encode.fill3 t h3), ← List.append_assoc]; exact HB2.out, Hb.out.trans Hb2.out⟩
        case measure => simp [intOf]
      go_wp2_with fail
      refine (meta_Encode.letter_at _ (meta_Encode.wd t.data.toList 3) (by omega) (by omega) _).mono ?_
      rintro e w1 ⟨rfl, hd⟩
      have HD := Lib.hid hd
      clear hd
      go_wp2_with fail
      refine (bld_byte w.heap.size w.heap.size _ _ _ (isBld_below HB.out HD.out.below) (by omega) (by have := (B64.lt_range _ (Nat.mod_lt (meta_Encode.wd t.data.toList 3) (by decide : 0 < 64))); omega) (by have := hlen.out; simp; omega) (by have := Hb.out.size; have := HD.out.below.size; omega)).mono ?_
      rintro e w2 ⟨rfl, hB2, hb2⟩
      have HB2 := Lib.hid hB2
      have Hb2 := Lib.hid hb2
      clear hB2 hb2
      go_wp2
      go_roundw
      case rel => exact ⟨4, by omega, by go_num, by rw [meta_Encode.four_more _ 3 _ (meta_Encode.four3 t (by omega)), ← List.append_assoc]; exact HB2.out, Hb.out.trans ((HD.out.below.mono Hb.out.size).trans Hb2.out)⟩
      case measure => simp [intOf]
    go_wp2_with fail
    refine ⟨⟨_, acc ++ (B64.four t.data.toList).take 4, rfl, HB.out, Hb.out, meta_Encode.enc_on t hs1 acc _ hR'.out.2.2⟩, ?_⟩
    show (t.extract (if (t.size : Int) < 3 then (t.size : Int) else 3).toNat t.size).size < t.size
    rw [ByteArray.size_extract]
    split <;> omega
theorem meta_Encode.calls (a0 : ByteArray) (r : ByteArray) (w : World) (h : meta_Encode.f a0 = some r) :
 Calls Tryz.prog 26 #[.string a0] w fun e w' => e = .returned (.string r) ∧ Below w.heap.size w w' := by
 unfold meta_Encode.f at h
 split at h
 · injection h with h
   subst h
   exact meta_Encode.calls_ a0 w (by assumption)
 cases h

end
end Go.Proofs.YtfboejlemnfndaaGreatDoor.XMk
end
section
namespace Go.Proofs.YtfboejlemnfndaaGreatDoor.XMk
open Go.RowKit Go.Proofs.YtfboejlemnfndaaGreatDoorW.PrintWords Go.Proofs.YtfboejlemnfndaaGreatDoorW.PrintLast Go.Proofs.YtfboejlemnfndaaGreatDoorW.PrintMore
attribute [local go_sem] extract_sub max2_int min2_int max_two min_two max_three min_three max_four min_four   -- for this text's walks alone
set_option linter.unusedVariables false
set_option linter.unusedSimpArgs false

noncomputable section
def meta_there.f (a0 : Int) : Option (Bool) := if a0 ≥ 1 then (some (decide (a0 ≤ 6))) else (some false)
set_option maxHeartbeats 8000000 in
set_option maxRecDepth 100000 in
theorem meta_there.calls (a0 : Int) (r : Bool) (w : World) (h : meta_there.f a0 = some r) :
 Calls Tryz.prog 58 #[.int .i64 a0] w fun e w' => e = .returned (.bool r) ∧ Drawn0 w w' := by
 have H : (if a0 ≥ 1 then (some (decide (a0 ≤ 6))) else (some false)) = some r := h
 clear h
 by_cases c2 : a0 ≥ 1
 · rw [if_pos c2] at H
   have c2b0 : decide (1 ≤ a0) = true := decide_eq_true c2
   clear c2
   obtain rfl := Option.some.inj H
   go_enter Tryz.func58, Tryz.ntmps58
   go_wp2
   go_ret
   exact ⟨rsA, drA⟩
 rw [if_neg c2] at H
 have c2b0 : decide (1 ≤ a0) = false := decide_eq_false c2
 clear c2
 obtain rfl := Option.some.inj H
 go_enter Tryz.func58, Tryz.ntmps58
 go_wp2
 go_ret
 exact ⟨rsA, drA⟩

mutual
def fnv_Key.j0 : Nat → ByteArray → Bool → Option (Bool)
 | 0, _, _ => none
 | k + 1, x0, x10 => if x10 = true then (some false) else (fnv_Key.l0 k x0 (x0.size : Int) 0)
def fnv_Key.l0 : Nat → ByteArray → Int → Int → Option (Bool)
 | 0, _, _, _ => none
 | k + 1, x0, x12, x13 => if x13 < x12 then (if 0 ≤ x13 then (if x13 < (x0.size : Int) then (if (bt x0 x13) < 33 then (some false) else (if (bt x0 x13) > 126 then (some false) else (fnv_Key.l0 k x0 x12 (wrap64 (x13 + 1))))) else (none)) else (none)) else (some true)
end
def fnv_Key.f (k : Nat) (a0 : ByteArray) : Option (Bool) := if a0.toList = ([] : List UInt8) then (fnv_Key.j0 k a0 true) else (fnv_Key.j0 k a0 (decide ((a0.size : Int) > 32)))
theorem fnv_Key.mono_l : ∀ k, (∀ y0 y1, LeO (fnv_Key.j0 k y0 y1) (fnv_Key.j0 (k + 1) y0 y1)) ∧ (∀ y0 y1 y2, LeO (fnv_Key.l0 k y0 y1 y2) (fnv_Key.l0 (k + 1) y0 y1 y2))
 | 0 => ⟨fun _ _ r h => by simp [fnv_Key.j0] at h, fun _ _ _ r h => by simp [fnv_Key.l0] at h⟩
 | k + 1 => by
  obtain ⟨ih0, ih1⟩ := fnv_Key.mono_l k
  refine ⟨?_, ?_⟩
  all_goals
   intros
   first | unfold fnv_Key.j0 | unfold fnv_Key.l0
   repeat' first
   | (with_reducible exact ih0 _ _)
   | (with_reducible exact ih1 _ _ _)
   | (with_reducible exact LeO.refl _)
   | (with_reducible exact LeO.none _)
   | (with_reducible refine LeO.ite ?_ ?_)
   | (with_reducible refine LeO.bind ?_ (fun _ => ?_))
   | exact ih0 _ _
   | exact ih1 _ _ _
   | exact LeO.none _
   | refine LeO.ite ?_ ?_
   | refine LeO.bind ?_ (fun _ => ?_)
theorem fnv_Key.mono : ∀ a0 k, LeO (fnv_Key.f k a0) (fnv_Key.f (k + 1) a0) := by
 intro a0 k
 obtain ⟨ih0, ih1⟩ := fnv_Key.mono_l k
 unfold fnv_Key.f
 repeat' first
  | (with_reducible exact ih0 _ _)
  | (with_reducible exact ih1 _ _ _)
  | (with_reducible exact LeO.refl _)
  | (with_reducible exact LeO.none _)
  | (with_reducible refine LeO.ite ?_ ?_)
  | (with_reducible refine LeO.bind ?_ (fun _ => ?_))
  | exact ih0 _ _
  | exact ih1 _ _ _
  | exact LeO.none _
  | refine LeO.ite ?_ ?_
  | refine LeO.bind ?_ (fun _ => ?_)
set_option maxHeartbeats 8000000 in
set_option maxRecDepth 100000 in
theorem fnv_Key.calls (k : Nat) (a0 : ByteArray) (r : Bool) (w : World) (h : fnv_Key.f k a0 = some r) :
 Calls Tryz.prog 77 #[.string a0] w fun e w' => e = .returned (.bool r) ∧ Drawn0 w w' := by
 have H : (if a0.toList = ([] : List UInt8) then (fnv_Key.j0 k a0 true) else (fnv_Key.j0 k a0 (decide ((a0.size : Int) > 32)))) = some r := h
 clear h
 have HC2 := Aside0.mk H
 clear H
 go_enter Tryz.func77, Tryz.ntmps77
 go_upto_region 1 with (fail)
 go_cut [10] (fun v10 wc => ∃ (kq : Nat) (x10_1 : Bool), v10 = .bool x10_1 ∧ Aside0 (fnv_Key.j0 kq a0 x10_1 = some r) ∧ Aside0 (kq ≤ k) ∧ Drawn0 w wc)
 case first =>
  have H := HC2.out
  clear HC2
  by_cases c3 : a0.toList = ([] : List UInt8)
  · rw [if_pos c3] at H
    have c3b0 : (a0.toList == ([] : List UInt8)) = true := beq_iff_eq.mpr c3
    have c3e0 : a0.toList.isEmpty = true := by simpa using c3b0
    have c3b1 : (a0.toList != ([] : List UInt8)) = false := bne_eq_false_iff_eq.mpr c3
    clear c3
    (first | rw [c3b0] | rw [c3e0] | (simp only [i64_w, i32_w]; rw [c3b0]) | skip)
    have H' := Aside0.mk H
    clear H
    go_wp2
    go_meet
    case rel => exact ⟨_, (true), rsA, H', ⟨by first | omega | exact Nat.le_refl _⟩, drA⟩
  rw [if_neg c3] at H
  have c3b0 : (a0.toList == ([] : List UInt8)) = false := beq_eq_false_iff_ne.mpr c3
  have c3e0 : a0.toList.isEmpty = false := by simpa using c3b0
  have c3b1 : (a0.toList != ([] : List UInt8)) = true := bne_iff_ne.mpr c3
  (first | rw [c3b0] | rw [c3e0] | (simp only [i64_w, i32_w]; rw [c3b0]) | skip)
  have H' := Aside0.mk H
  clear H
  go_wp2
  go_meet
  case rel => exact ⟨_, (decide ((a0.size : Int) > 32)), rsA, H', ⟨by first | omega | exact Nat.le_refl _⟩, drA⟩
 clear HC2
 (try clear p2); (try clear c3); (try clear c3b0); (try clear c3e0); (try clear c3b1)
 obtain ⟨kq, x10_1, rfl, HA, HJ1, ⟨mc1, rfl⟩⟩ := hcut
 cases kq with
 | zero => exact absurd HA.out (by simp [fnv_Key.j0])
 | succ kj1 =>
  have H := HA.out
  clear HA
  simp only [fnv_Key.j0] at H
  by_cases c4 : x10_1 = true
  · subst c4
    have H1 : (some false) = some r := by rw [if_pos rfl] at H; exact H
    clear H
    have H := H1
    clear H1
    obtain rfl := Option.some.inj H
    go_wp2
    go_ret
    exact ⟨rsA, drA⟩
  replace c4 := Bool.eq_false_iff.mpr c4
  subst c4
  have H1 : (fnv_Key.l0 kj1 a0 (a0.size : Int) 0) = some r := by rw [if_neg (show ¬ (false = true) by decide)] at H; exact H
  clear H
  have H := H1
  clear H1
  have H' := Aside0.mk H
  clear H
  go_wp2
  go_loopg [13] kj1 (fun kq v13 w' => ∃ (x13_2 : Int), v13 = .int .i64 x13_2 ∧ Aside0 (fnv_Key.l0 kq a0 (a0.size : Int) x13_2 = some r) ∧ Aside0 (kq ≤ kj1) ∧ Drawn0 w w')
  case atStart => exact ⟨(0), rsA, H', ⟨Nat.le_refl _⟩, drA⟩
  case round =>
   clear H'
   (try clear c1); (try clear p2); (try clear c3); (try clear c3b0); (try clear c3e0); (try clear c3b1); (try clear c4); (try clear p2)
   obtain ⟨x13_2, rfl, HA, HK2, ⟨m2, rfl⟩⟩ := hrel
   cases gk with
   | zero => exact absurd HA.out (by simp [fnv_Key.l0])
   | succ k2 =>
    have H := HA.out
    clear HA
    simp only [fnv_Key.l0] at H
    by_cases c5 : x13_2 < (a0.size : Int)
    · rw [if_pos c5] at H
      have c5b0 : decide (x13_2 < (a0.size : Int)) = true := decide_eq_true c5
      clear c5
      by_cases c6 : 0 ≤ x13_2
      · rw [if_pos c6] at H
        have c6b0 : decide (0 ≤ x13_2) = true := decide_eq_true c6
        clear c6
        by_cases c7 : x13_2 < (a0.size : Int)
        · rw [if_pos c7] at H
          have c7b0 : decide (x13_2 < (a0.size : Int)) = true := decide_eq_true c7
          clear c7
          by_cases c9 : (bt a0 x13_2) < 33
          · rw [if_pos c9] at H
            have c9b0 : decide ((bt a0 x13_2) < 33) = true := decide_eq_true c9
            clear c9
            obtain rfl := Option.some.inj H
            have p8 : 0 ≤ (x13_2 : Int) := of_decide_eq_true asA
            have q8 : x13_2 < (a0.size : Int) := of_decide_eq_true asA
            have hx8 := bt_at a0 x13_2
            replace p8 := eq_true p8
            replace q8 := eq_true q8
            go_wp2
            go_ret
            exact ⟨rsA, drA⟩
          rw [if_neg c9] at H
          have c9b0 : decide ((bt a0 x13_2) < 33) = false := decide_eq_false c9
          clear c9
          by_cases c11 : (bt a0 x13_2) > 126
          · rw [if_pos c11] at H
            have c11b0 : decide (126 < (bt a0 x13_2)) = true := decide_eq_true c11
            clear c11
            obtain rfl := Option.some.inj H
            have p8 : 0 ≤ (x13_2 : Int) := of_decide_eq_true asA
            have q8 : x13_2 < (a0.size : Int) := of_decide_eq_true asA
            have hx8 := bt_at a0 x13_2
            replace p8 := eq_true p8
            replace q8 := eq_true q8
            have p10 : 0 ≤ (x13_2 : Int) := of_decide_eq_true asA
            have q10 : x13_2 < (a0.size : Int) := of_decide_eq_true asA
            have hx10 := bt_at a0 x13_2
            replace p10 := eq_true p10
            replace q10 := eq_true q10
            go_wp2
            go_ret
            exact ⟨rsA, drA⟩
          rw [if_neg c11] at H
          have c11b0 : decide (126 < (bt a0 x13_2)) = false := decide_eq_false c11
          clear c11
          have H' := Aside0.mk H
          clear H
          have p8 : 0 ≤ (x13_2 : Int) := of_decide_eq_true asA
          have q8 : x13_2 < (a0.size : Int) := of_decide_eq_true asA
          have hx8 := bt_at a0 x13_2
          replace p8 := eq_true p8
          replace q8 := eq_true q8
          have p10 : 0 ≤ (x13_2 : Int) := of_decide_eq_true asA
          have q10 : x13_2 < (a0.size : Int) := of_decide_eq_true asA
          have hx10 := bt_at a0 x13_2
          replace p10 := eq_true p10
          replace q10 := eq_true q10
          go_wp2
          go_roundg k2
          case measure => have := HJ1.out; have := HK2.out; omega
          case rel => exact ⟨(wrap64 (x13_2 + 1)), rsA, H', ⟨by have := HJ1.out; have := HK2.out; omega⟩, drA⟩
        rw [if_neg c7] at H
        exact absurd H (by simp)
      rw [if_neg c6] at H
      exact absurd H (by simp)
    rw [if_neg c5] at H
    have c5b0 : decide (x13_2 < (a0.size : Int)) = false := decide_eq_false c5
    clear c5
    obtain rfl := Option.some.inj H
    go_wp2
    go_ret
    exact ⟨rsA, drA⟩

def meta_key.f (k : Nat) (a0_0 : Int) (a0_1 : ByteArray) (a0_2 : Int) (l0_3 : List (S61)) : Option (Bool) := (meta_Find.f a0_0 a0_1 a0_2 l0_3 98).bind fun bt104 => (if a0_0 = 5 then (some (a0_1.toList == ([] : List UInt8))) else (if bt104.2 = true then (if (a0_1.size : Int) ≥ 1 then (some (decide ((a0_1.size : Int) ≤ 32))) else (some false)) else ((fnv_Key.f k a0_1).bind fun t106 => (some t106))))
theorem meta_key.mono : ∀ a0 a1 a2 a3 k, LeO (meta_key.f k a0 a1 a2 a3) (meta_key.f (k + 1) a0 a1 a2 a3) := by
 intro a0 a1 a2 a3 k
 unfold meta_key.f
 repeat' first
  | (with_reducible exact fnv_Key.mono _ _)
  | (with_reducible exact LeO.refl _)
  | (with_reducible exact LeO.none _)
  | (with_reducible refine LeO.ite ?_ ?_)
  | (with_reducible refine LeO.bind ?_ (fun _ => ?_))
  | exact fnv_Key.mono _ _
  | exact LeO.none _
  | refine LeO.ite ?_ ?_
  | refine LeO.bind ?_ (fun _ => ?_)
set_option maxHeartbeats 8000000 in
set_option maxRecDepth 100000 in
theorem meta_key.calls (k : Nat) (a0_0 : Int) (a0_1 : ByteArray) (a0_2 : Int) (A0_3 : Option Addr) (c0_3 : Nat) (l0_3 : List (S61)) (r : Bool) (w : World) (hr0_3 : Kd.C k61 w A0_3 l0_3.length l0_3) (hc0_3 : l0_3.length ≤ c0_3) (h : meta_key.f k a0_0 a0_1 a0_2 l0_3 = some r) :
 Calls Tryz.prog 59 #[.agg #[.int .i64 a0_0, .string a0_1, .int .i64 a0_2, .slice A0_3 l0_3.length c0_3]] w fun e w' => e = .returned (.bool r) ∧ Below w.heap.size w w' := by
 have hu31 := Tryz.underlying31
 have HR0_3 := Aside0.mk hr0_3
 have HC0_3 := Aside0.mk hc0_3
 clear hr0_3 hc0_3
 have HB := Aside0.mk (Below.refl w.heap.size w)
 have H : ((meta_Find.f a0_0 a0_1 a0_2 l0_3 98).bind fun bt104 => (if a0_0 = 5 then (some (a0_1.toList == ([] : List UInt8))) else (if bt104.2 = true then (if (a0_1.size : Int) ≥ 1 then (some (decide ((a0_1.size : Int) ≤ 32))) else (some false)) else ((fnv_Key.f k a0_1).bind fun t106 => (some t106))))) = some r := h
 clear h
 replace H := Option.bind_eq_some_iff.mp H
 obtain ⟨⟨t104, t105⟩, A20, H⟩ := H
 replace H : (if a0_0 = 5 then (some (a0_1.toList == ([] : List UInt8))) else (if t105 = true then (if (a0_1.size : Int) ≥ 1 then (some (decide ((a0_1.size : Int) ≤ 32))) else (some false)) else ((fnv_Key.f k a0_1).bind fun t106 => (some t106)))) = some r := H
 have A2 := Aside0.mk A20
 clear A20
 by_cases c3 : a0_0 = 5
 · rw [if_pos c3] at H
   have c3b0 : (a0_0 == 5) = true := beq_iff_eq.mpr c3
   have c3b1 : (a0_0 != 5) = false := bne_eq_false_iff_eq.mpr c3
   clear c3
   obtain rfl := Option.some.inj H
   go_enter Tryz.func59, Tryz.ntmps59
   go_wp2_with (first | ((with_reducible refine gate_dst (N := 1) rfl ?_); (try (refine gate_guard (by rfl) ?_; dsimp only)); refine box_event ?hg (N := 1) ?hd (cs := #[.int .i64 a0_0, .string a0_1, .int .i64 a0_2, .slice A0_3 l0_3.length c0_3]) (t := 31) ?hr ?_; (case hd => rfl); (case hg => rfl); (case hr => first | (go_simp; done) | (go_simp; rfl)); intro gb103 hg w4 hbox hb; have n0_ := Aside0.mk (below_step (hbA HB.out) hb); have n1_ := Aside0.mk (hbox); have n2_ := Aside0.mk ((by rw [hg]; exact (below_size (hbA HB.out)) : w.heap.size ≤ gb103)); have n3_ := Aside0.mk ((by rw [hg]; exact (below_size (hbA HB.out)) : w.heap.size ≤ gb103)); clear HB; have HB := n0_; have BK103 := n1_; have GW103 := n2_; have GE103 := n3_; clear n0_ n1_ n2_ n3_; clear hb hbox hg; obtain ⟨hcz5_0, hcz5_1, hcz5_2, hcz5_3, hfz5_0, hfz5_1, hfz5_2, hfz5_3⟩ := blkA4 BK103.out) | ((with_reducible refine gate_callee (f := 15) rfl ?_); refine goesL_ (some 7) rfl rfl Tryz.func15 (by kernel_rfl) rfl #[.agg #[.int .i64 a0_0, .string a0_1, .int .i64 a0_2, .slice A0_3 l0_3.length c0_3], .int .u8 98] rfl argA ?_; (with_reducible refine (meta_Find.calls a0_0 a0_1 a0_2 _ _ l0_3 98 t104 t105 _ ?side1 ?side2 A2.out).mono ?_); (case side1 => repeat (first | exact (Kd.C_below HR0_3.out HB.out) | (with_reducible refine Kd.C_alloc ?_ _) | (with_reducible refine Kd.C_drewN ?_ _) | (with_reducible refine Kd.C_drew ?_))); (case side2 => exact HC0_3.out); rintro e w6 ⟨rfl, hb⟩; refine ⟨_, rfl, ?_⟩; replace BK103 := Aside0.mk (blk_below (g := gb103) (o := .cells #[.int .i64 a0_0, .string a0_1, .int .i64 a0_2, .slice A0_3 l0_3.length c0_3] 31 (0, 0)) (rbA BK103.out) hb); replace HB := Aside0.mk (below_step (hbA HB.out) hb); (try clear hb); (try clear hb2); (try clear hk); (try clear hi); obtain ⟨hcz7_0, hcz7_1, hcz7_2, hcz7_3, hfz7_0, hfz7_1, hfz7_2, hfz7_3⟩ := blkA4 BK103.out))
   go_ret
   exact ⟨reA, hbA HB.out⟩
 rw [if_neg c3] at H
 have c3b0 : (a0_0 == 5) = false := beq_eq_false_iff_ne.mpr c3
 have c3b1 : (a0_0 != 5) = true := bne_iff_ne.mpr c3
 by_cases c8 : t105 = true
 · subst c8
   have H1 : (if (a0_1.size : Int) ≥ 1 then (some (decide ((a0_1.size : Int) ≤ 32))) else (some false)) = some r := by rw [if_pos rfl] at H; exact H
   clear H
   have H := H1
   clear H1
   by_cases c9 : (a0_1.size : Int) ≥ 1
   · rw [if_pos c9] at H
     have c9b0 : decide (1 ≤ (a0_1.size : Int)) = true := decide_eq_true c9
     have c9b1 : decide (1 ≤ a0_1.size) = true := decide_eq_true (by omega)
     clear c9
     obtain rfl := Option.some.inj H
     go_enter Tryz.func59, Tryz.ntmps59
     go_wp2_with (first | ((with_reducible refine gate_dst (N := 1) rfl ?_); (try (refine gate_guard (by rfl) ?_; dsimp only)); refine box_event ?hg (N := 1) ?hd (cs := #[.int .i64 a0_0, .string a0_1, .int .i64 a0_2, .slice A0_3 l0_3.length c0_3]) (t := 31) ?hr ?_; (case hd => rfl); (case hg => rfl); (case hr => first | (go_simp; done) | (go_simp; rfl)); intro gb103 hg w10 hbox hb; have n0_ := Aside0.mk (below_step (hbA HB.out) hb); have n1_ := Aside0.mk (hbox); have n2_ := Aside0.mk ((by rw [hg]; exact (below_size (hbA HB.out)) : w.heap.size ≤ gb103)); have n3_ := Aside0.mk ((by rw [hg]; exact (below_size (hbA HB.out)) : w.heap.size ≤ gb103)); clear HB; have HB := n0_; have BK103 := n1_; have GW103 := n2_; have GE103 := n3_; clear n0_ n1_ n2_ n3_; clear hb hbox hg; obtain ⟨hcz11_0, hcz11_1, hcz11_2, hcz11_3, hfz11_0, hfz11_1, hfz11_2, hfz11_3⟩ := blkA4 BK103.out) | ((with_reducible refine gate_callee (f := 15) rfl ?_); refine goesL_ (some 7) rfl rfl Tryz.func15 (by kernel_rfl) rfl #[.agg #[.int .i64 a0_0, .string a0_1, .int .i64 a0_2, .slice A0_3 l0_3.length c0_3], .int .u8 98] rfl argA ?_; (with_reducible refine (meta_Find.calls a0_0 a0_1 a0_2 _ _ l0_3 98 t104 true _ ?side1 ?side2 A2.out).mono ?_); (case side1 => repeat (first | exact (Kd.C_below HR0_3.out HB.out) | (with_reducible refine Kd.C_alloc ?_ _) | (with_reducible refine Kd.C_drewN ?_ _) | (with_reducible refine Kd.C_drew ?_))); (case side2 => exact HC0_3.out); rintro e w12 ⟨rfl, hb⟩; refine ⟨_, rfl, ?_⟩; replace BK103 := Aside0.mk (blk_below (g := gb103) (o := .cells #[.int .i64 a0_0, .string a0_1, .int .i64 a0_2, .slice A0_3 l0_3.length c0_3] 31 (0, 0)) (rbA BK103.out) hb); replace HB := Aside0.mk (below_step (hbA HB.out) hb); (try clear hb); (try clear hb2); (try clear hk); (try clear hi); obtain ⟨hcz13_0, hcz13_1, hcz13_2, hcz13_3, hfz13_0, hfz13_1, hfz13_2, hfz13_3⟩ := blkA4 BK103.out))
     go_ret
     exact ⟨reA, hbA HB.out⟩
   rw [if_neg c9] at H
   have c9b0 : decide (1 ≤ (a0_1.size : Int)) = false := decide_eq_false c9
   have c9b1 : decide (1 ≤ a0_1.size) = false := decide_eq_false (by omega)
   clear c9
   obtain rfl := Option.some.inj H
   go_enter Tryz.func59, Tryz.ntmps59
   go_wp2_with (first | ((with_reducible refine gate_dst (N := 1) rfl ?_); (try (refine gate_guard (by rfl) ?_; dsimp only)); refine box_event ?hg (N := 1) ?hd (cs := #[.int .i64 a0_0, .string a0_1, .int .i64 a0_2, .slice A0_3 l0_3.length c0_3]) (t := 31) ?hr ?_; (case hd => rfl); (case hg => rfl); (case hr => first | (go_simp; done) | (go_simp; rfl)); intro gb103 hg w14 hbox hb; have n0_ := Aside0.mk (below_step (hbA HB.out) hb); have n1_ := Aside0.mk (hbox); have n2_ := Aside0.mk ((by rw [hg]; exact (below_size (hbA HB.out)) : w.heap.size ≤ gb103)); have n3_ := Aside0.mk ((by rw [hg]; exact (below_size (hbA HB.out)) : w.heap.size ≤ gb103)); clear HB; have HB := n0_; have BK103 := n1_; have GW103 := n2_; have GE103 := n3_; clear n0_ n1_ n2_ n3_; clear hb hbox hg; obtain ⟨hcz15_0, hcz15_1, hcz15_2, hcz15_3, hfz15_0, hfz15_1, hfz15_2, hfz15_3⟩ := blkA4 BK103.out) | ((with_reducible refine gate_callee (f := 15) rfl ?_); refine goesL_ (some 7) rfl rfl Tryz.func15 (by kernel_rfl) rfl #[.agg #[.int .i64 a0_0, .string a0_1, .int .i64 a0_2, .slice A0_3 l0_3.length c0_3], .int .u8 98] rfl argA ?_; (with_reducible refine (meta_Find.calls a0_0 a0_1 a0_2 _ _ l0_3 98 t104 true _ ?side1 ?side2 A2.out).mono ?_); (case side1 => repeat (first | exact (Kd.C_below HR0_3.out HB.out) | (with_reducible refine Kd.C_alloc ?_ _) | (with_reducible refine Kd.C_drewN ?_ _) | (with_reducible refine Kd.C_drew ?_))); (case side2 => exact HC0_3.out); rintro e w16 ⟨rfl, hb⟩; refine ⟨_, rfl, ?_⟩; replace BK103 := Aside0.mk (blk_below (g := gb103) (o := .cells #[.int .i64 a0_0, .string a0_1, .int .i64 a0_2, .slice A0_3 l0_3.length c0_3] 31 (0, 0)) (rbA BK103.out) hb); replace HB := Aside0.mk (below_step (hbA HB.out) hb); (try clear hb); (try clear hb2); (try clear hk); (try clear hi); obtain ⟨hcz17_0, hcz17_1, hcz17_2, hcz17_3, hfz17_0, hfz17_1, hfz17_2, hfz17_3⟩ := blkA4 BK103.out))
   go_ret
   exact ⟨reA, hbA HB.out⟩
 replace c8 := Bool.eq_false_iff.mpr c8
 subst c8
 have H1 : ((fnv_Key.f k a0_1).bind fun t106 => (some t106)) = some r := by rw [if_neg (show ¬ (false = true) by decide)] at H; exact H
 clear H
 have H := H1
 clear H1
 replace H := Option.bind_eq_some_iff.mp H
 obtain ⟨t106, A180, H⟩ := H
 replace H : (some t106) = some r := H
 have A18 := Aside0.mk A180
 clear A180
 obtain rfl := Option.some.inj H
 go_enter Tryz.func59, Tryz.ntmps59
 go_wp2_with (first | ((with_reducible refine gate_dst (N := 1) rfl ?_); (try (refine gate_guard (by rfl) ?_; dsimp only)); refine box_event ?hg (N := 1) ?hd (cs := #[.int .i64 a0_0, .string a0_1, .int .i64 a0_2, .slice A0_3 l0_3.length c0_3]) (t := 31) ?hr ?_; (case hd => rfl); (case hg => rfl); (case hr => first | (go_simp; done) | (go_simp; rfl)); intro gb103 hg w19 hbox hb; have n0_ := Aside0.mk (below_step (hbA HB.out) hb); have n1_ := Aside0.mk (hbox); have n2_ := Aside0.mk ((by rw [hg]; exact (below_size (hbA HB.out)) : w.heap.size ≤ gb103)); have n3_ := Aside0.mk ((by rw [hg]; exact (below_size (hbA HB.out)) : w.heap.size ≤ gb103)); clear HB; have HB := n0_; have BK103 := n1_; have GW103 := n2_; have GE103 := n3_; clear n0_ n1_ n2_ n3_; clear hb hbox hg; obtain ⟨hcz20_0, hcz20_1, hcz20_2, hcz20_3, hfz20_0, hfz20_1, hfz20_2, hfz20_3⟩ := blkA4 BK103.out) | ((with_reducible refine gate_callee (f := 15) rfl ?_); refine goesL_ (some 7) rfl rfl Tryz.func15 (by kernel_rfl) rfl #[.agg #[.int .i64 a0_0, .string a0_1, .int .i64 a0_2, .slice A0_3 l0_3.length c0_3], .int .u8 98] rfl argA ?_; (with_reducible refine (meta_Find.calls a0_0 a0_1 a0_2 _ _ l0_3 98 t104 false _ ?side1 ?side2 A2.out).mono ?_); (case side1 => repeat (first | exact (Kd.C_below HR0_3.out HB.out) | (with_reducible refine Kd.C_alloc ?_ _) | (with_reducible refine Kd.C_drewN ?_ _) | (with_reducible refine Kd.C_drew ?_))); (case side2 => exact HC0_3.out); rintro e w21 ⟨rfl, hb⟩; refine ⟨_, rfl, ?_⟩; replace BK103 := Aside0.mk (blk_below (g := gb103) (o := .cells #[.int .i64 a0_0, .string a0_1, .int .i64 a0_2, .slice A0_3 l0_3.length c0_3] 31 (0, 0)) (rbA BK103.out) hb); replace HB := Aside0.mk (below_step (hbA HB.out) hb); (try clear hb); (try clear hb2); (try clear hk); (try clear hi); obtain ⟨hcz22_0, hcz22_1, hcz22_2, hcz22_3, hfz22_0, hfz22_1, hfz22_2, hfz22_3⟩ := blkA4 BK103.out) | ((with_reducible refine gate_callee (f := 77) rfl ?_); refine goesL_ (some 31) rfl rfl Tryz.func77 (by kernel_rfl) rfl #[.string a0_1] rfl argA ?_; (with_reducible refine (fnv_Key.calls k a0_1 t106 _ A18.out).mono ?_); rintro e w' ⟨rfl, ⟨nd, rfl⟩⟩; refine ⟨_, rfl, ?_⟩))
 go_ret
 exact ⟨reA, hbA HB.out⟩

def meta_ops.f  : Option ((List (S63))) := some (([(⟨(⟨#[]⟩ : ByteArray), (⟨#[]⟩ : ByteArray)⟩ : S63), (⟨(⟨#[109, 103]⟩ : ByteArray), (⟨#[98, 99, 102, 104, 107, 108, 113, 115, 116, 118, 69, 78, 79, 82, 84]⟩ : ByteArray)⟩ : S63), (⟨(⟨#[109, 115]⟩ : ByteArray), (⟨#[98, 99, 107, 113, 67, 69, 70, 73, 77, 79, 84]⟩ : ByteArray)⟩ : S63), (⟨(⟨#[109, 100]⟩ : ByteArray), (⟨#[98, 107, 113, 120, 67, 69, 73, 79, 84]⟩ : ByteArray)⟩ : S63), (⟨(⟨#[109, 97]⟩ : ByteArray), (⟨#[98, 99, 107, 113, 116, 118, 67, 68, 69, 74, 77, 78, 79, 84]⟩ : ByteArray)⟩ : S63), (⟨(⟨#[109, 110]⟩ : ByteArray), (⟨#[]⟩ : ByteArray)⟩ : S63), (⟨(⟨#[109, 101]⟩ : ByteArray), (⟨#[98]⟩ : ByteArray)⟩ : S63)] : List (S63)))
set_option maxHeartbeats 8000000 in
set_option maxRecDepth 100000 in
theorem meta_ops.calls  (r : List (S63)) (w : World) (h : meta_ops.f  = some r) :
 Calls Tryz.prog 29 #[] w fun e w' => ∃ v0_ : Value, e = .returned (v0_) ∧ Kd.R k63 63 w' w.heap.size (fun _ => True) v0_ r ∧ Below w.heap.size w w' := by
 have hu63 := Tryz.underlying63
 have HB := Aside0.mk (Below.refl w.heap.size w)
 have H : (some (([(⟨(⟨#[]⟩ : ByteArray), (⟨#[]⟩ : ByteArray)⟩ : S63), (⟨(⟨#[109, 103]⟩ : ByteArray), (⟨#[98, 99, 102, 104, 107, 108, 113, 115, 116, 118, 69, 78, 79, 82, 84]⟩ : ByteArray)⟩ : S63), (⟨(⟨#[109, 115]⟩ : ByteArray), (⟨#[98, 99, 107, 113, 67, 69, 70, 73, 77, 79, 84]⟩ : ByteArray)⟩ : S63), (⟨(⟨#[109, 100]⟩ : ByteArray), (⟨#[98, 107, 113, 120, 67, 69, 73, 79, 84]⟩ : ByteArray)⟩ : S63), (⟨(⟨#[109, 97]⟩ : ByteArray), (⟨#[98, 99, 107, 113, 116, 118, 67, 68, 69, 74, 77, 78, 79, 84]⟩ : ByteArray)⟩ : S63), (⟨(⟨#[109, 110]⟩ : ByteArray), (⟨#[]⟩ : ByteArray)⟩ : S63), (⟨(⟨#[109, 101]⟩ : ByteArray), (⟨#[98]⟩ : ByteArray)⟩ : S63)] : List (S63)))) = some r := h
 clear h
 obtain ⟨y107, hy107⟩ : ∃ y_ : List (S63), y_ = (([(⟨(⟨#[]⟩ : ByteArray), (⟨#[]⟩ : ByteArray)⟩ : S63), (⟨(⟨#[109, 103]⟩ : ByteArray), (⟨#[98, 99, 102, 104, 107, 108, 113, 115, 116, 118, 69, 78, 79, 82, 84]⟩ : ByteArray)⟩ : S63), (⟨(⟨#[109, 115]⟩ : ByteArray), (⟨#[98, 99, 107, 113, 67, 69, 70, 73, 77, 79, 84]⟩ : ByteArray)⟩ : S63), (⟨(⟨#[109, 100]⟩ : ByteArray), (⟨#[98, 107, 113, 120, 67, 69, 73, 79, 84]⟩ : ByteArray)⟩ : S63), (⟨(⟨#[109, 97]⟩ : ByteArray), (⟨#[98, 99, 107, 113, 116, 118, 67, 68, 69, 74, 77, 78, 79, 84]⟩ : ByteArray)⟩ : S63), (⟨(⟨#[109, 110]⟩ : ByteArray), (⟨#[]⟩ : ByteArray)⟩ : S63), (⟨(⟨#[109, 101]⟩ : ByteArray), (⟨#[98]⟩ : ByteArray)⟩ : S63)] : List (S63))) := ⟨_, rfl⟩
 replace H : (some y107) = some r := by first | (rw [hy107]; with_reducible exact H) | (have H2_ := (Option.bind_some _ _).symm.trans H; rw [hy107]; with_reducible exact H2_) | (have H2_ := (Option.bind_some _ _).symm.trans H; with_reducible exact H2_) | with_reducible exact H | (rw [hy107]; exact H) | exact H
 have Ny107 := Aside0.mk hy107
 clear hy107
 obtain rfl := Option.some.inj H
 go_enter Tryz.func29, Tryz.ntmps29
 go_wp2_with (first | ((with_reducible refine gate_dst (N := 7) rfl ?_); refine Kd.R_lit k63 _ 63 ?hg (N := 7) ?hd (xs := ([(⟨(⟨#[]⟩ : ByteArray), (⟨#[]⟩ : ByteArray)⟩ : S63), (⟨(⟨#[109, 103]⟩ : ByteArray), (⟨#[98, 99, 102, 104, 107, 108, 113, 115, 116, 118, 69, 78, 79, 82, 84]⟩ : ByteArray)⟩ : S63), (⟨(⟨#[109, 115]⟩ : ByteArray), (⟨#[98, 99, 107, 113, 67, 69, 70, 73, 77, 79, 84]⟩ : ByteArray)⟩ : S63), (⟨(⟨#[109, 100]⟩ : ByteArray), (⟨#[98, 107, 113, 120, 67, 69, 73, 79, 84]⟩ : ByteArray)⟩ : S63), (⟨(⟨#[109, 97]⟩ : ByteArray), (⟨#[98, 99, 107, 113, 116, 118, 67, 68, 69, 74, 77, 78, 79, 84]⟩ : ByteArray)⟩ : S63), (⟨(⟨#[109, 110]⟩ : ByteArray), (⟨#[]⟩ : ByteArray)⟩ : S63), (⟨(⟨#[109, 101]⟩ : ByteArray), (⟨#[98]⟩ : ByteArray)⟩ : S63)] : List (S63))) (inner := [.string (⟨#[]⟩ : ByteArray), .string (⟨#[]⟩ : ByteArray), .string (⟨#[109, 103]⟩ : ByteArray), .string (⟨#[98, 99, 102, 104, 107, 108, 113, 115, 116, 118, 69, 78, 79, 82, 84]⟩ : ByteArray), .string (⟨#[109, 115]⟩ : ByteArray), .string (⟨#[98, 99, 107, 113, 67, 69, 70, 73, 77, 79, 84]⟩ : ByteArray), .string (⟨#[109, 100]⟩ : ByteArray), .string (⟨#[98, 107, 113, 120, 67, 69, 73, 79, 84]⟩ : ByteArray), .string (⟨#[109, 97]⟩ : ByteArray), .string (⟨#[98, 99, 107, 113, 116, 118, 67, 68, 69, 74, 77, 78, 79, 84]⟩ : ByteArray), .string (⟨#[109, 110]⟩ : ByteArray), .string (⟨#[]⟩ : ByteArray), .string (⟨#[109, 101]⟩ : ByteArray), .string (⟨#[98]⟩ : ByteArray)]) (ok := fun _ => True) (okp := fun _ => True) ?hr ?hp (fun _ hk => hk) trivial (Below.refl _ _) (Nat.le_refl _) (by simp) ?_; (case hd => rfl); (case hg => rfl); (case hr => first | (go_simp; done) | (go_simp; rfl)); (case hp => exact (Reps.c2 (show Kd.M k63 _ _ _ (⟨(⟨#[]⟩ : ByteArray), (⟨#[]⟩ : ByteArray)⟩ : S63) [.string (⟨#[]⟩ : ByteArray), .string (⟨#[]⟩ : ByteArray)] from (k63_mkM _ _ _ (⟨(⟨#[]⟩ : ByteArray), (⟨#[]⟩ : ByteArray)⟩ : S63) )) (Reps.c2 (show Kd.M k63 _ _ _ (⟨(⟨#[109, 103]⟩ : ByteArray), (⟨#[98, 99, 102, 104, 107, 108, 113, 115, 116, 118, 69, 78, 79, 82, 84]⟩ : ByteArray)⟩ : S63) [.string (⟨#[109, 103]⟩ : ByteArray), .string (⟨#[98, 99, 102, 104, 107, 108, 113, 115, 116, 118, 69, 78, 79, 82, 84]⟩ : ByteArray)] from (k63_mkM _ _ _ (⟨(⟨#[109, 103]⟩ : ByteArray), (⟨#[98, 99, 102, 104, 107, 108, 113, 115, 116, 118, 69, 78, 79, 82, 84]⟩ : ByteArray)⟩ : S63) )) (Reps.c2 (show Kd.M k63 _ _ _ (⟨(⟨#[109, 115]⟩ : ByteArray), (⟨#[98, 99, 107, 113, 67, 69, 70, 73, 77, 79, 84]⟩ : ByteArray)⟩ : S63) [.string (⟨#[109, 115]⟩ : ByteArray), .string (⟨#[98, 99, 107, 113, 67, 69, 70, 73, 77, 79, 84]⟩ : ByteArray)] from (k63_mkM _ _ _ (⟨(⟨#[109, 115]⟩ : ByteArray), (⟨#[98, 99, 107, 113, 67, 69, 70, 73, 77, 79, 84]⟩ : ByteArray)⟩ : S63) )) (Reps.c2 (show Kd.M k63 _ _ _ (⟨(⟨#[109, 100]⟩ : ByteArray), (⟨#[98, 107, 113, 120, 67, 69, 73, 79, 84]⟩ : ByteArray)⟩ : S63) [.string (⟨#[109, 100]⟩ : ByteArray), .string (⟨#[98, 107, 113, 120, 67, 69, 73, 79, 84]⟩ : ByteArray)] from (k63_mkM _ _ _ (⟨(⟨#[109, 100]⟩ : ByteArray), (⟨#[98, 107, 113, 120, 67, 69, 73, 79, 84]⟩ : ByteArray)⟩ : S63) )) (Reps.c2 (show Kd.M k63 _ _ _ (⟨(⟨#[109, 97]⟩ : ByteArray), (⟨#[98, 99, 107, 113, 116, 118, 67, 68, 69, 74, 77, 78, 79, 84]⟩ : ByteArray)⟩ : S63) [.string (⟨#[109, 97]⟩ : ByteArray), .string (⟨#[98, 99, 107, 113, 116, 118, 67, 68, 69, 74, 77, 78, 79, 84]⟩ : ByteArray)] from (k63_mkM _ _ _ (⟨(⟨#[109, 97]⟩ : ByteArray), (⟨#[98, 99, 107, 113, 116, 118, 67, 68, 69, 74, 77, 78, 79, 84]⟩ : ByteArray)⟩ : S63) )) (Reps.c2 (show Kd.M k63 _ _ _ (⟨(⟨#[109, 110]⟩ : ByteArray), (⟨#[]⟩ : ByteArray)⟩ : S63) [.string (⟨#[109, 110]⟩ : ByteArray), .string (⟨#[]⟩ : ByteArray)] from (k63_mkM _ _ _ (⟨(⟨#[109, 110]⟩ : ByteArray), (⟨#[]⟩ : ByteArray)⟩ : S63) )) (Reps.c2 (show Kd.M k63 _ _ _ (⟨(⟨#[109, 101]⟩ : ByteArray), (⟨#[98]⟩ : ByteArray)⟩ : S63) [.string (⟨#[109, 101]⟩ : ByteArray), .string (⟨#[98]⟩ : ByteArray)] from (k63_mkM _ _ _ (⟨(⟨#[109, 101]⟩ : ByteArray), (⟨#[98]⟩ : ByteArray)⟩ : S63) )) (Reps.none _ _))))))))); intro v108 w1 ho2 hb hg_ hnew_; clear hg_ hnew_; (first | rw [← Ny107.out] at ho2 | (simp only [Int.reduceToNat] at ho2; rw [← Ny107.out] at ho2)); have n0_ := Aside0.mk (Kd.R_lower ho2 (below_size (hbA HB.out))); have n1_ := Aside0.mk (below_step (hbA HB.out) hb); clear HB; have HO109 := n0_; have HB := n1_; clear n0_ n1_; clear hb ho2))
 go_ret
 exact ⟨_, reA, by (with_reducible repeat (first | apply Kd.R_alloc | apply Kd.R_drewN | apply Kd.R_drew)); exact HO109.out, hbA HB.out⟩

end
end Go.Proofs.YtfboejlemnfndaaGreatDoor.XMk
end
section
namespace Go.Proofs.YtfboejlemnfndaaGreatDoor.XMk
open Go.RowKit Go.Proofs.YtfboejlemnfndaaGreatDoorW.PrintWords Go.Proofs.YtfboejlemnfndaaGreatDoorW.PrintLast Go.Proofs.YtfboejlemnfndaaGreatDoorW.PrintMore
attribute [local go_sem] extract_sub max2_int min2_int max_two min_two max_three min_three max_four min_four   -- for this text's walks alone
set_option linter.unusedVariables false
set_option linter.unusedSimpArgs false

noncomputable section
def meta_owns.flags (n : Int) : List UInt8 :=
 if n = 1 then [98, 99, 102, 104, 107, 108, 113, 115, 116, 118, 69, 78, 79, 82, 84] else if n = 2 then [98, 99, 107, 113, 67, 69, 70, 73, 77, 79, 84] else if n = 3 then [98, 107, 113, 120, 67, 69, 73, 79, 84] else if n = 4 then [98, 99, 107, 113, 116, 118, 67, 68, 69, 74, 77, 78, 79, 84] else if n = 5 then [] else [98]
def meta_owns.f (a0 : Int) (a1 : Int) : Option Bool := if 1 ≤ a0 ∧ a0 ≤ 6 then some ((meta_owns.flags a0).any fun c => (c.toNat : Int) == a1) else none
theorem meta_owns.table : ∃ L, meta_ops.f = some L ∧ L.length = 7 ∧ ∀ n : Int, 1 ≤ n → n ≤ 6 → (rd_T63 L n).f1 = ⟨(meta_owns.flags n).toArray⟩ := by
 refine ⟨_, rfl, rfl, fun n h1 h2 => ?_⟩
 have hn : n = 1 ∨ n = 2 ∨ n = 3 ∨ n = 4 ∨ n = 5 ∨ n = 6 := by omega
 rcases hn with rfl | rfl | rfl | rfl | rfl | rfl <;> rfl
theorem meta_owns.ascii (n : Int) : ∀ c ∈ meta_owns.flags n, c.toNat < 128 := by
 unfold meta_owns.flags
 repeat' split
 all_goals decide
theorem meta_owns.any_snoc (l : List UInt8) (j : Nat) (c : UInt8) (a1 : Int) (hc : l[j]? = some c) (h : (l.take j).any (fun c => (c.toNat : Int) == a1) = false) (hd : ((c.toNat : Int) == a1) = false) : (l.take (j + 1)).any (fun c => (c.toNat : Int) == a1) = false := by
 rw [List.take_add_one, hc, List.any_append, h]
 simp [hd]
theorem meta_owns.any_hit (l : List UInt8) (j : Nat) (c : UInt8) (a1 : Int) (hc : l[j]? = some c) (hd : ((c.toNat : Int) == a1) = true) : l.any (fun c => (c.toNat : Int) == a1) = true :=
 List.any_eq_true.2 ⟨c, List.mem_of_getElem? hc, hd⟩
set_option maxHeartbeats 4000000 in
set_option maxRecDepth 100000 in
theorem meta_owns.calls (a0 a1 : Int) (r : Bool) (w : World) (h : meta_owns.f a0 a1 = some r) :
 Calls Tryz.prog 60 #[.int .i64 a0, .int .u8 a1] w fun e w' => e = .returned (.bool r) ∧ Below w.heap.size w w' := by
 unfold meta_owns.f at h
 split at h
 · rename_i hh
   injection h with h
   obtain ⟨L, hL, hl7, hfl⟩ := meta_owns.table
   have hfl := hfl a0 hh.1 hh.2
   have hasc := meta_owns.ascii a0
   generalize hg : meta_owns.flags a0 = fl at *
   clear hg
   have HL := Lib.hid hL
   have HF := Lib.hid hfl
   have HA := Aside0.mk hasc
   have H := Lib.hid h
   have H7 := Lib.hid hl7
   obtain ⟨h1, h6⟩ := hh
   clear hL hfl hasc h hl7
   go_enter Tryz.func60, Tryz.ntmps60
   go_wp2_with fail
   refine (meta_ops.calls L w HL.out).mono ?_
   rintro e w1 ⟨v0, rfl, hO, hb1⟩
   obtain ⟨A, c, rfl, hc, hC⟩ := Kd.R_reads hO
   rw [H7.out] at hc
   obtain ⟨ad, e, hx0, hx1⟩ := at_T63 hC a0 (by omega) (by rw [H7.out]; omega)
   subst e
   rw [HF.out] at hx1
   have e7 := H7.out
   rw [e7]
   have hb0 : a0 < ((7 : Nat) : Int) := by omega
   have hb2 : (0 : Int) ≤ a0 := by omega
   have HB1 := Aside0.mk hb1
   clear hO hb1 hC hx0 e7 hc
   have hsz : (⟨fl.toArray⟩ : ByteArray).size = fl.length := rfl
   have HSZ := Lib.hid hsz
   clear hsz
   generalize hs : (⟨fl.toArray⟩ : ByteArray) = s at *
   have hsl : s.data.toList = fl := by rw [← hs]
   have HSL := Lib.hid hsl
   clear hs hsl
   go_wp2
   go_loopw [6] (fun v6 wr => ∃ pos : Nat, wr = w1.iter s pos ∧ pos ≤ s.size ∧ Aside0 ((fl.take pos).any (fun c => (c.toNat : Int) == a1) = false)) (fun _ wr => s.size - wr.iterPos w1.heap.size)
   case atStart => exact ⟨0, rfl, Nat.zero_le _, ⟨rfl⟩⟩
   case round =>
    obtain ⟨pos, rfl, hp, HN⟩ := hrel
    by_cases hlt : pos < s.size
    · have hcj : fl[pos]? = some s[pos] := by
       rw [← HSL.out, List.getElem?_eq_getElem (by rw [Array.length_toList]; exact hlt)]; rfl
      have hlo : s[pos].toNat < 128 := HA.out _ (List.mem_of_getElem? hcj)
      have hnx : ∀ ty, (Instr.next (.pointer (some ⟨w1.heap.size, 0, none⟩)) true ty).run Tryz.prog (w1.iter s pos) = _ := fun ty => run_next_ascii w1 s pos ty hlt hlo
      have hloi : (s[pos].toNat : Int) < 128 := by omega
      have hloi0 : (0 : Int) ≤ (s[pos].toNat : Int) := by omega
      have HCJ := Lib.hid hcj
      clear hcj hlo
      cases hq : ((s[pos].toNat : Int) == a1) with
      | true =>
       have HQ := Lib.hid hq
       have hwr : IntKind.u8.wrap (s[pos].toNat : Int) = (s[pos].toNat : Int) := by rw [IntKind.wrap_u8]; omega
       have hq2 : ((s[pos].toNat : Int) == a1) = true := HQ.out
       clear hq
       go_wp2
       go_ret
       refine ⟨?_, HB1.out.trans ((Below.refl _ w1).alloc HB1.out.size _)⟩
       rw [← H.out, meta_owns.any_hit _ _ _ _ HCJ.out HQ.out]
       rfl
      | false =>
       have HQ := Lib.hid hq
       have hwr : IntKind.u8.wrap (s[pos].toNat : Int) = (s[pos].toNat : Int) := by rw [IntKind.wrap_u8]; omega
       go_wp2
       go_roundw
       case rel => exact ⟨pos + 1, rfl, by omega, ⟨meta_owns.any_snoc _ _ _ _ HCJ.out HN.out HQ.out⟩⟩
       case measure => simp; omega
    have hnx : ∀ ty, (Instr.next (.pointer (some ⟨w1.heap.size, 0, none⟩)) true ty).run Tryz.prog (w1.iter s pos) = _ := fun ty => run_next_end w1 s pos ty hlt
    have hend : fl.any (fun c => (c.toNat : Int) == a1) = false := by
     have := HN.out
     rw [List.take_of_length_le (by rw [← HSZ.out]; omega)] at this
     exact this
    have HE := Lib.hid hend
    clear hend
    go_wp2
    go_ret
    refine ⟨?_, HB1.out.trans ((Below.refl _ w1).alloc HB1.out.size _)⟩
    rw [← H.out, HE.out]
    rfl
 cases h

end
end Go.Proofs.YtfboejlemnfndaaGreatDoor.XMk
end
section
namespace Go.Proofs.YtfboejlemnfndaaGreatDoor.XMk
open Go.RowKit Go.Proofs.YtfboejlemnfndaaGreatDoorW.PrintWords Go.Proofs.YtfboejlemnfndaaGreatDoorW.PrintLast Go.Proofs.YtfboejlemnfndaaGreatDoorW.PrintMore
attribute [local go_sem] extract_sub max2_int min2_int max_two min_two max_three min_three max_four min_four   -- for this text's walks alone
set_option linter.unusedVariables false
set_option linter.unusedSimpArgs false

noncomputable section
mutual
def meta_sortOf.j0 : Nat → Int → Bool → Option (Int)
 | 0, _, _ => none
 | k + 1, x3, x4 => if x4 = true then (some 1) else (if x3 = 70 then (some 2) else (if x3 = 78 then (meta_sortOf.j1 k x3 (x3 == 78)) else (if x3 = 82 then (meta_sortOf.j1 k x3 (x3 == 82)) else (meta_sortOf.j1 k x3 (x3 == 84)))))
def meta_sortOf.j1 : Nat → Int → Bool → Option (Int)
 | 0, _, _ => none
 | k + 1, x3, x11 => if x11 = true then (some 3) else (if x3 = 79 then (some 4) else (if x3 = 77 then (some 5) else (some 0)))
end
def meta_sortOf.f (k : Nat) (a0 : Int) : Option (Int) := if a0 = 67 then (meta_sortOf.j0 k a0 (a0 == 67)) else (if a0 = 68 then (meta_sortOf.j0 k a0 (a0 == 68)) else (if a0 = 69 then (meta_sortOf.j0 k a0 (a0 == 69)) else (meta_sortOf.j0 k a0 (a0 == 74))))
theorem meta_sortOf.mono_l : ∀ k, (∀ y0 y1, LeO (meta_sortOf.j0 k y0 y1) (meta_sortOf.j0 (k + 1) y0 y1)) ∧ (∀ y0 y1, LeO (meta_sortOf.j1 k y0 y1) (meta_sortOf.j1 (k + 1) y0 y1))
 | 0 => ⟨fun _ _ r h => by simp [meta_sortOf.j0] at h, fun _ _ r h => by simp [meta_sortOf.j1] at h⟩
 | k + 1 => by
  obtain ⟨ih0, ih1⟩ := meta_sortOf.mono_l k
  refine ⟨?_, ?_⟩
  all_goals
   intros
   first | unfold meta_sortOf.j0 | unfold meta_sortOf.j1
   repeat' first
   | (with_reducible exact ih0 _ _)
   | (with_reducible exact ih1 _ _)
   | (with_reducible exact LeO.refl _)
   | (with_reducible exact LeO.none _)
   | (with_reducible refine LeO.ite ?_ ?_)
   | (with_reducible refine LeO.bind ?_ (fun _ => ?_))
   | exact ih0 _ _
   | exact ih1 _ _
   | exact LeO.none _
   | refine LeO.ite ?_ ?_
   | refine LeO.bind ?_ (fun _ => ?_)
theorem meta_sortOf.mono : ∀ a0 k, LeO (meta_sortOf.f k a0) (meta_sortOf.f (k + 1) a0) := by
 intro a0 k
 obtain ⟨ih0, ih1⟩ := meta_sortOf.mono_l k
 unfold meta_sortOf.f
 repeat' first
  | (with_reducible exact ih0 _ _)
  | (with_reducible exact ih1 _ _)
  | (with_reducible exact LeO.refl _)
  | (with_reducible exact LeO.none _)
  | (with_reducible refine LeO.ite ?_ ?_)
  | (with_reducible refine LeO.bind ?_ (fun _ => ?_))
  | exact ih0 _ _
  | exact ih1 _ _
  | exact LeO.none _
  | refine LeO.ite ?_ ?_
  | refine LeO.bind ?_ (fun _ => ?_)
set_option maxHeartbeats 8000000 in
set_option maxRecDepth 100000 in
theorem meta_sortOf.calls (k : Nat) (a0 : Int) (r : Int) (w : World) (h : meta_sortOf.f k a0 = some r) :
 Calls Tryz.prog 36 #[.int .u8 a0] w fun e w' => e = .returned (.int .i64 r) ∧ Drawn0 w w' := by
 have H : (if a0 = 67 then (meta_sortOf.j0 k a0 (a0 == 67)) else (if a0 = 68 then (meta_sortOf.j0 k a0 (a0 == 68)) else (if a0 = 69 then (meta_sortOf.j0 k a0 (a0 == 69)) else (meta_sortOf.j0 k a0 (a0 == 74))))) = some r := h
 clear h
 have HC2 := Aside0.mk H
 clear H
 go_enter Tryz.func36, Tryz.ntmps36
 go_upto_if 4 with (fail)
 go_cut [4] (fun v4 wc => ∃ (kq : Nat) (x4_1 : Bool), v4 = .bool x4_1 ∧ Aside0 (meta_sortOf.j0 kq a0 x4_1 = some r) ∧ Aside0 (kq ≤ k) ∧ Drawn0 w wc)
 case first =>
  have H := HC2.out
  clear HC2
  by_cases c3 : a0 = 67
  · rw [if_pos c3] at H
    have c3b0 : (a0 == 67) = true := beq_iff_eq.mpr c3
    have c3b1 : (a0 != 67) = false := bne_eq_false_iff_eq.mpr c3
    clear c3
    (first | rw [c3b0] | (simp only [i64_w, i32_w]; rw [c3b0]) | skip)
    have H' := Aside0.mk H
    clear H
    go_wp2
    go_meet
    case rel => exact ⟨_, ((a0 == 67)), rsA, H', ⟨by first | omega | exact Nat.le_refl _⟩, drA⟩
  rw [if_neg c3] at H
  have c3b0 : (a0 == 67) = false := beq_eq_false_iff_ne.mpr c3
  have c3b1 : (a0 != 67) = true := bne_iff_ne.mpr c3
  (first | rw [c3b0] | (simp only [i64_w, i32_w]; rw [c3b0]) | skip)
  by_cases c4 : a0 = 68
  · rw [if_pos c4] at H
    have c4b0 : (a0 == 68) = true := beq_iff_eq.mpr c4
    have c4b1 : (a0 != 68) = false := bne_eq_false_iff_eq.mpr c4
    clear c4
    have H' := Aside0.mk H
    clear H
    go_wp2
    go_meet
    case rel => exact ⟨_, ((a0 == 68)), rsA, H', ⟨by first | omega | exact Nat.le_refl _⟩, drA⟩
  rw [if_neg c4] at H
  have c4b0 : (a0 == 68) = false := beq_eq_false_iff_ne.mpr c4
  have c4b1 : (a0 != 68) = true := bne_iff_ne.mpr c4
  by_cases c5 : a0 = 69
  · rw [if_pos c5] at H
    have c5b0 : (a0 == 69) = true := beq_iff_eq.mpr c5
    have c5b1 : (a0 != 69) = false := bne_eq_false_iff_eq.mpr c5
    clear c5
    have H' := Aside0.mk H
    clear H
    go_wp2
    go_meet
    case rel => exact ⟨_, ((a0 == 69)), rsA, H', ⟨by first | omega | exact Nat.le_refl _⟩, drA⟩
  rw [if_neg c5] at H
  have c5b0 : (a0 == 69) = false := beq_eq_false_iff_ne.mpr c5
  have c5b1 : (a0 != 69) = true := bne_iff_ne.mpr c5
  have H' := Aside0.mk H
  clear H
  go_wp2
  go_meet
  case rel => exact ⟨_, ((a0 == 74)), rsA, H', ⟨by first | omega | exact Nat.le_refl _⟩, drA⟩
 clear HC2
 (try clear p2); (try clear c3); (try clear c3b0); (try clear c3b1); (try clear c4); (try clear c4b0); (try clear c4b1); (try clear c5); (try clear c5b0); (try clear c5b1)
 obtain ⟨kq, x4_1, rfl, HA, HJ1, ⟨mc1, rfl⟩⟩ := hcut
 cases kq with
 | zero => exact absurd HA.out (by simp [meta_sortOf.j0])
 | succ kj1 =>
  have H := HA.out
  clear HA
  simp only [meta_sortOf.j0] at H
  by_cases c6 : x4_1 = true
  · subst c6
    have H1 : (some 1) = some r := by rw [if_pos rfl] at H; exact H
    clear H
    have H := H1
    clear H1
    obtain rfl := Option.some.inj H
    go_wp2
    go_ret
    exact ⟨rsA, drA⟩
  replace c6 := Bool.eq_false_iff.mpr c6
  subst c6
  have H1 : (if a0 = 70 then (some 2) else (if a0 = 78 then (meta_sortOf.j1 kj1 a0 (a0 == 78)) else (if a0 = 82 then (meta_sortOf.j1 kj1 a0 (a0 == 82)) else (meta_sortOf.j1 kj1 a0 (a0 == 84))))) = some r := by rw [if_neg (show ¬ (false = true) by decide)] at H; exact H
  clear H
  have H := H1
  clear H1
  by_cases c7 : a0 = 70
  · rw [if_pos c7] at H
    have c7b0 : (a0 == 70) = true := beq_iff_eq.mpr c7
    have c7b1 : (a0 != 70) = false := bne_eq_false_iff_eq.mpr c7
    clear c7
    obtain rfl := Option.some.inj H
    go_wp2
    go_ret
    exact ⟨rsA, drA⟩
  rw [if_neg c7] at H
  have c7b0 : (a0 == 70) = false := beq_eq_false_iff_ne.mpr c7
  have c7b1 : (a0 != 70) = true := bne_iff_ne.mpr c7
  have HC8 := Aside0.mk H
  clear H
  go_upto_if 11 with (fail)
  go_cut [11] (fun v11 wc => ∃ (kq : Nat) (x11_7 : Bool), v11 = .bool x11_7 ∧ Aside0 (meta_sortOf.j1 kq a0 x11_7 = some r) ∧ Aside0 (kq ≤ kj1) ∧ Drawn0 w wc)
  case first =>
   have H := HC8.out
   clear HC8
   by_cases c9 : a0 = 78
   · rw [if_pos c9] at H
     have c9b0 : (a0 == 78) = true := beq_iff_eq.mpr c9
     have c9b1 : (a0 != 78) = false := bne_eq_false_iff_eq.mpr c9
     clear c9
     (first | rw [c9b0] | (simp only [i64_w, i32_w]; rw [c9b0]) | skip)
     have H' := Aside0.mk H
     clear H
     go_wp2
     go_meet
     case rel => exact ⟨_, ((a0 == 78)), rsA, H', ⟨by have := HJ1.out; first | omega | exact Nat.le_refl _⟩, drA⟩
   rw [if_neg c9] at H
   have c9b0 : (a0 == 78) = false := beq_eq_false_iff_ne.mpr c9
   have c9b1 : (a0 != 78) = true := bne_iff_ne.mpr c9
   (first | rw [c9b0] | (simp only [i64_w, i32_w]; rw [c9b0]) | skip)
   by_cases c10 : a0 = 82
   · rw [if_pos c10] at H
     have c10b0 : (a0 == 82) = true := beq_iff_eq.mpr c10
     have c10b1 : (a0 != 82) = false := bne_eq_false_iff_eq.mpr c10
     clear c10
     have H' := Aside0.mk H
     clear H
     go_wp2
     go_meet
     case rel => exact ⟨_, ((a0 == 82)), rsA, H', ⟨by have := HJ1.out; first | omega | exact Nat.le_refl _⟩, drA⟩
   rw [if_neg c10] at H
   have c10b0 : (a0 == 82) = false := beq_eq_false_iff_ne.mpr c10
   have c10b1 : (a0 != 82) = true := bne_iff_ne.mpr c10
   have H' := Aside0.mk H
   clear H
   go_wp2
   go_meet
   case rel => exact ⟨_, ((a0 == 84)), rsA, H', ⟨by have := HJ1.out; first | omega | exact Nat.le_refl _⟩, drA⟩
  clear HC8
  (try clear c1); (try clear p2); (try clear c3); (try clear c3b0); (try clear c3b1); (try clear c4); (try clear c4b0); (try clear c4b1); (try clear c5); (try clear c5b0); (try clear c5b1); (try clear c6); (try clear c7); (try clear c7b0); (try clear c7b1); (try clear c9); (try clear c9b0); (try clear c9b1); (try clear c10); (try clear c10b0); (try clear c10b1); (try clear p2)
  obtain ⟨kq, x11_7, rfl, HA, HJ7, ⟨mc7, rfl⟩⟩ := hcut
  cases kq with
  | zero => exact absurd HA.out (by simp [meta_sortOf.j1])
  | succ kj7 =>
   have H := HA.out
   clear HA
   simp only [meta_sortOf.j1] at H
   by_cases c11 : x11_7 = true
   · subst c11
     have H1 : (some 3) = some r := by rw [if_pos rfl] at H; exact H
     clear H
     have H := H1
     clear H1
     obtain rfl := Option.some.inj H
     go_wp2
     go_ret
     exact ⟨rsA, drA⟩
   replace c11 := Bool.eq_false_iff.mpr c11
   subst c11
   have H1 : (if a0 = 79 then (some 4) else (if a0 = 77 then (some 5) else (some 0))) = some r := by rw [if_neg (show ¬ (false = true) by decide)] at H; exact H
   clear H
   have H := H1
   clear H1
   by_cases c12 : a0 = 79
   · rw [if_pos c12] at H
     have c12b0 : (a0 == 79) = true := beq_iff_eq.mpr c12
     have c12b1 : (a0 != 79) = false := bne_eq_false_iff_eq.mpr c12
     clear c12
     obtain rfl := Option.some.inj H
     go_wp2
     go_ret
     exact ⟨rsA, drA⟩
   rw [if_neg c12] at H
   have c12b0 : (a0 == 79) = false := beq_eq_false_iff_ne.mpr c12
   have c12b1 : (a0 != 79) = true := bne_iff_ne.mpr c12
   by_cases c13 : a0 = 77
   · rw [if_pos c13] at H
     have c13b0 : (a0 == 77) = true := beq_iff_eq.mpr c13
     have c13b1 : (a0 != 77) = false := bne_eq_false_iff_eq.mpr c13
     clear c13
     obtain rfl := Option.some.inj H
     go_wp2
     go_ret
     exact ⟨rsA, drA⟩
   rw [if_neg c13] at H
   have c13b0 : (a0 == 77) = false := beq_eq_false_iff_ne.mpr c13
   have c13b1 : (a0 != 77) = true := bne_iff_ne.mpr c13
   obtain rfl := Option.some.inj H
   go_wp2
   go_ret
   exact ⟨rsA, drA⟩

end
end Go.Proofs.YtfboejlemnfndaaGreatDoor.XMk
end
section
namespace Go.Proofs.YtfboejlemnfndaaGreatDoor.XMk
open Go.RowKit Go.Proofs.YtfboejlemnfndaaGreatDoorW.PrintWords Go.Proofs.YtfboejlemnfndaaGreatDoorW.PrintLast Go.Proofs.YtfboejlemnfndaaGreatDoorW.PrintMore
attribute [local go_sem] extract_sub max2_int min2_int max_two min_two max_three min_three max_four min_four   -- for this text's walks alone
set_option linter.unusedVariables false
set_option linter.unusedSimpArgs false

noncomputable section
def digits_Parse.dig (l : List UInt8) : Bool := l.all fun c => decide (48 ≤ c.toNat ∧ c.toNat ≤ 57)
def digits_Parse.val (l : List UInt8) : Int × Int :=
 if digits_Parse.dig l = true then (if l = [] then (0, 6) else if 20 < l.length then (0, 7) else match Lib.parseUintB 64 l with
  | .ok u => ((u : Nat), 0)
  | _ => (0, 1)) else (0, 6)
def digits_Parse.f (a0 : ByteArray) : Option (Int × Int) := if a0.size ≤ 281474976710656 then some (digits_Parse.val a0.data.toList) else none
theorem digits_Parse.ib_all : ∀ n : Fin 256, Lib.indexByte [48, 49, 50, 51, 52, 53, 54, 55, 56, 57] (n.val : Nat).toUInt8 = if 48 ≤ n.val ∧ n.val ≤ 57 then ((n.val - 48 : Nat) : Int) else -1 := by decide +kernel
theorem digits_Parse.ib (b : UInt8) : Lib.indexByte [48, 49, 50, 51, 52, 53, 54, 55, 56, 57] (b.toNat : Int).toNat.toUInt8 = if 48 ≤ b.toNat ∧ b.toNat ≤ 57 then ((b.toNat - 48 : Nat) : Int) else -1 :=
 digits_Parse.ib_all ⟨b.toNat, b.toNat_lt⟩
theorem digits_Parse.byte_yes (b : UInt8) (w : World) (h : 48 ≤ b.toNat ∧ b.toNat ≤ 57) :
 Calls Tryz.prog 68 #[.string ⟨#[48, 49, 50, 51, 52, 53, 54, 55, 56, 57]⟩, .int .u8 (b.toNat : Int)] w fun e w' => e = .returned (.int .i64 ((b.toNat - 48 : Nat) : Int)) ∧ w = w' := by
 refine (Tryz.strings_IndexByte ⟨#[48, 49, 50, 51, 52, 53, 54, 55, 56, 57]⟩ (b.toNat : Int) w).mono fun e w' ⟨he, hw⟩ => ⟨?_, hw.symm⟩
 rw [he, digits_Parse.ib, if_pos h]
theorem digits_Parse.byte_no (b : UInt8) (w : World) (h : ¬ (48 ≤ b.toNat ∧ b.toNat ≤ 57)) :
 Calls Tryz.prog 68 #[.string ⟨#[48, 49, 50, 51, 52, 53, 54, 55, 56, 57]⟩, .int .u8 (b.toNat : Int)] w fun e w' => e = .returned (.int .i64 (-1)) ∧ w = w' := by
 refine (Tryz.strings_IndexByte ⟨#[48, 49, 50, 51, 52, 53, 54, 55, 56, 57]⟩ (b.toNat : Int) w).mono fun e w' ⟨he, hw⟩ => ⟨?_, hw.symm⟩
 rw [he, digits_Parse.ib, if_neg h]
theorem digits_Parse.not_bad : ∀ (l : List UInt8) (acc : Nat), digits_Parse.dig l = true → Lib.parseUintM (2 ^ 64 - 1) acc l ≠ Lib.parseUintB 64 []
 | [], _, _ => by
  unfold Lib.parseUintM Lib.parseUintB
  rw [if_pos rfl]
  intro h
  cases h
 | c :: r, acc, h => by
  unfold digits_Parse.dig at h
  rw [List.all_cons, Bool.and_eq_true] at h
  unfold Lib.parseUintM
  rw [if_pos (of_decide_eq_true h.1)]
  split
  · unfold Lib.parseUintB; rw [if_pos rfl]; intro h; cases h
  split
  · unfold Lib.parseUintB; rw [if_pos rfl]; intro h; cases h
  exact digits_Parse.not_bad r _ h.2
theorem digits_Parse.dig_snoc (l : List UInt8) (j : Nat) (c : UInt8) (hc : l[j]? = some c) (h : digits_Parse.dig (l.take j) = true) (hd : 48 ≤ c.toNat ∧ c.toNat ≤ 57) : digits_Parse.dig (l.take (j + 1)) = true := by
 rw [List.take_add_one, hc]
 unfold digits_Parse.dig at h ⊢
 rw [List.all_append, h]
 simp [hd.1, hd.2]
theorem digits_Parse.dig_not (l : List UInt8) (j : Nat) (c : UInt8) (hc : l[j]? = some c) (hd : ¬ (48 ≤ c.toNat ∧ c.toNat ≤ 57)) : digits_Parse.dig l = false := by
 unfold digits_Parse.dig
 rw [List.all_eq_false]
 exact ⟨c, List.mem_of_getElem? hc, by simpa using hd⟩
theorem digits_Parse.calls_ (a0 : ByteArray) (w : World) (hs : a0.size ≤ 281474976710656) (hv : Vars w) :
 Calls Tryz.prog 38 #[.string a0] w fun e w' => e = .returned (.tuple #[.int .u64 (digits_Parse.val a0.data.toList).1, .int .i64 (digits_Parse.val a0.data.toList).2]) ∧ Below w.heap.size w w' := by
 have HV := Aside0.mk hv
 clear hv
 have hl : a0.data.toList.length = a0.size := Array.length_toList
 have HL := Lib.hid hl
 clear hl
 go_enter Tryz.func38, Tryz.ntmps38
 go_wp2
 go_loop [9] (fun i => ∃ j : Nat, i = .int .i64 j ∧ j ≤ a0.size ∧ Aside0 (digits_Parse.dig (a0.data.toList.take j) = true)) (fun i => a0.size - (intOf i).toNat)
 case atStart => exact ⟨0, rfl, Nat.zero_le _, ⟨rfl⟩⟩
 case round =>
  obtain ⟨j, rfl, hj, HA⟩ := hrel
  by_cases hlt : j < a0.size
  · have hlti : (j : Int) < (a0.size : Int) := by omega
    have hcj : a0.data.toList[j]? = some a0[j] := by
     rw [List.getElem?_eq_getElem (by rw [HL.out]; exact hlt)]; rfl
    have HC := Lib.hid hcj
    clear hcj
    by_cases hd : 48 ≤ a0[j].toNat ∧ a0[j].toNat ≤ 57
    · have HD := Aside0.mk hd
      have hneg : decide (((a0[j].toNat - 48 : Nat) : Int) < 0) = false := decide_eq_false (by omega)
      clear hd
      go_wp2_with (go_at_call 68; refine (digits_Parse.byte_yes _ _ HD.out).mono ?_; rintro e w' ⟨rfl, rfl⟩)
      go_round
      case rel => exact ⟨j + 1, by go_num, by omega, ⟨digits_Parse.dig_snoc _ _ _ HC.out HA.out HD.out⟩⟩
      case measure => simp [intOf]; omega
    have HD := Aside0.mk hd
    clear hd
    go_wp2_with (go_at_call 68; refine (digits_Parse.byte_no _ _ HD.out).mono ?_; rintro e w' ⟨rfl, rfl⟩)
    go_ret2
    refine ⟨?_, Below.refl _ _⟩
    unfold digits_Parse.val
    rw [if_neg (by rw [digits_Parse.dig_not _ _ _ HC.out HD.out]; exact Bool.false_ne_true)]
    rfl
  have hlti : ¬ (j : Int) < (a0.size : Int) := by omega
  have hA : digits_Parse.dig a0.data.toList = true := by
   have := HA.out
   rw [List.take_of_length_le (by rw [HL.out]; omega)] at this
   exact this
  have HA2 := Aside0.mk hA
  clear hA HA
  by_cases h0 : a0.size = 0
  · have hnil : a0.data.toList = [] := List.length_eq_zero_iff.1 (by rw [HL.out, h0])
    have hn1 : a0.toList.isEmpty = true := by rw [ByteArray.toList_eq, hnil]; rfl
    have hn2 : (a0.toList == ([] : List UInt8)) = true := by rw [ByteArray.toList_eq, hnil]; rfl
    have HN := Lib.hid hnil
    clear hnil
    go_wp2
    go_ret2
    refine ⟨?_, Below.refl _ _⟩
    unfold digits_Parse.val
    rw [if_pos HA2.out, if_pos HN.out]
    rfl
  have hne : a0.data.toList ≠ [] := fun q => h0 (by rw [← HL.out, q]; rfl)
  have hn1 : a0.toList.isEmpty = false := by
   rw [ByteArray.toList_eq]
   cases e : a0.data.toList with
   | nil => exact absurd e hne
   | cons _ _ => rfl
  have hn2 : (a0.toList == ([] : List UInt8)) = false := by
   rw [ByteArray.toList_eq]
   exact beq_eq_false_iff_ne.2 hne
  have HNE := Aside0.mk hne
  clear hne
  by_cases h20 : 20 < a0.size
  · have h20i : (20 : Int) < (a0.size : Int) := by omega
    go_wp2
    go_ret2
    refine ⟨?_, Below.refl _ _⟩
    unfold digits_Parse.val
    rw [if_pos HA2.out, if_neg HNE.out, if_pos (by rw [HL.out]; exact h20)]
    rfl
  have h20i : ¬ (20 : Int) < (a0.size : Int) := by omega
  have hval : digits_Parse.val a0.data.toList = match Lib.parseUintB 64 a0.data.toList with
   | .ok u => ((u : Nat), 0)
   | _ => (0, 1) := by
   unfold digits_Parse.val
   rw [if_pos HA2.out, if_neg HNE.out, if_neg (by rw [HL.out]; exact h20)]
  have hns : Lib.parseUintB 64 a0.data.toList ≠ Lib.parseUintB 64 [] := by
   rw [show Lib.parseUintB 64 a0.data.toList = Lib.parseUintM (2 ^ 64 - 1) 0 a0.data.toList from if_neg HNE.out]
   exact digits_Parse.not_bad _ _ HA2.out
  have HVAL := Lib.hid hval
  clear hval
  cases hp : Lib.parseUintB 64 a0.data.toList
  case ok u =>
   have HP := Lib.hid hp
   clear hp hns
   go_wp2_with (go_at_call 69; refine (Tryz.strconv_ParseUint_10_at64_ok a0 (by omega) u HP.out _).mono ?_; rintro e w' ⟨rfl, hw⟩; have HW := Aside0.mk hw; clear hw)
   go_ret2
   refine ⟨?_, ?_⟩
   · rw [HVAL.out, HP.out]
     rfl
   rcases HW.out with h | h
   · rw [h]; exact Below.refl _ _
   rw [h]; exact Lib.bytesWorld_below _ _ _
  case range =>
   have HP := Lib.hid hp
   clear hp hns
   obtain ⟨tp, p, hvr⟩ := HV.out.rng
   have HVR := Aside0.mk hvr
   clear hvr
   go_wp2_with (go_at_call 69; refine (Tryz.strconv_ParseUint_10_at64_range_var a0 hs HP.out tp p _ HVR.out).mono ?_; rintro e w' ⟨N, rfl, _, _, hw⟩; have HW := Aside0.mk hw; clear hw)
   go_ret2
   refine ⟨?_, HW.out⟩
   rw [HVAL.out, HP.out]
   rfl
  all_goals exact absurd (hp.trans rfl) hns
theorem digits_Parse.calls (a0 : ByteArray) (r1 r2 : Int) (w : World) (hv : Vars w) (h : digits_Parse.f a0 = some (r1, r2)) :
 Calls Tryz.prog 38 #[.string a0] w fun e w' => e = .returned (.tuple #[.int .u64 r1, .int .i64 r2]) ∧ Below w.heap.size w w' := by
 unfold digits_Parse.f at h
 split at h
 · rename_i hh
   injection h with h
   have h1 := congrArg Prod.fst h
   have h2 := congrArg Prod.snd h
   subst h1 h2
   exact digits_Parse.calls_ a0 w hh hv
 cases h

end
end Go.Proofs.YtfboejlemnfndaaGreatDoor.XMk
end
section
namespace Go.Proofs.YtfboejlemnfndaaGreatDoor.XMk
open Go.RowKit Go.Proofs.YtfboejlemnfndaaGreatDoorW.PrintWords Go.Proofs.YtfboejlemnfndaaGreatDoorW.PrintLast Go.Proofs.YtfboejlemnfndaaGreatDoorW.PrintMore
attribute [local go_sem] extract_sub max2_int min2_int max_two min_two max_three min_three max_four min_four   -- for this text's walks alone
set_option linter.unusedVariables false
set_option linter.unusedSimpArgs false

noncomputable section
def stringslite_HasPrefix.f (a0 : ByteArray) (a1 : ByteArray) : Option (Bool) := if (a0.size : Int) ≥ (a1.size : Int) then (if 0 ≤ (a1.size : Int) then (if (a1.size : Int) ≤ (a0.size : Int) then (some ((sub a0 0 ((a1.size : Int) : Int).toNat).toList == a1.toList)) else (none)) else (none)) else (some false)
set_option maxHeartbeats 8000000 in
set_option maxRecDepth 100000 in
theorem stringslite_HasPrefix.calls (a0 : ByteArray) (a1 : ByteArray) (r : Bool) (w : World) (h : stringslite_HasPrefix.f a0 a1 = some r) :
 Calls Tryz.prog 102 #[.string a0, .string a1] w fun e w' => e = .returned (.bool r) ∧ Drawn0 w w' := by
 have H : (if (a0.size : Int) ≥ (a1.size : Int) then (if 0 ≤ (a1.size : Int) then (if (a1.size : Int) ≤ (a0.size : Int) then (some ((sub a0 0 ((a1.size : Int) : Int).toNat).toList == a1.toList)) else (none)) else (none)) else (some false)) = some r := h
 clear h
 by_cases c3 : (a0.size : Int) ≥ (a1.size : Int)
 · rw [if_pos c3] at H
   have c3b0 : decide ((a1.size : Int) ≤ (a0.size : Int)) = true := decide_eq_true c3
   have c3b1 : decide (a1.size ≤ a0.size) = true := decide_eq_true (Int.ofNat_le.mp c3)
   clear c3
   by_cases c4 : 0 ≤ (a1.size : Int)
   · rw [if_pos c4] at H
     have c4b0 := eq_true c4
     have c4b1 : decide (0 ≤ (a1.size : Int)) = true := decide_eq_true c4
     clear c4
     by_cases c5 : (a1.size : Int) ≤ (a0.size : Int)
     · rw [if_pos c5] at H
       have c5b0 := eq_true c5
       have c5b1 : decide ((a1.size : Int) ≤ (a0.size : Int)) = true := decide_eq_true c5
       clear c5
       obtain rfl := Option.some.inj H
       go_enter Tryz.func102, Tryz.ntmps102
       go_wp2
       go_ret
       exact ⟨rsA, drA⟩
     rw [if_neg c5] at H
     exact absurd H (by simp)
   rw [if_neg c4] at H
   exact absurd H (by simp)
 rw [if_neg c3] at H
 have c3b0 : decide ((a1.size : Int) ≤ (a0.size : Int)) = false := decide_eq_false c3
 have c3b1 : decide (a1.size ≤ a0.size) = false := decide_eq_false (fun h => c3 (Int.ofNat_le.mpr h))
 clear c3
 obtain rfl := Option.some.inj H
 go_enter Tryz.func102, Tryz.ntmps102
 go_wp2
 go_ret
 exact ⟨rsA, drA⟩

def stringslite_CutPrefix.f (a0 : ByteArray) (a1 : ByteArray) : Option (ByteArray × Bool) := (stringslite_HasPrefix.f a0 a1).bind fun t110 => (if t110 = true then (if 0 ≤ (a1.size : Int) then (if (a1.size : Int) ≤ (a0.size : Int) then (some (sub a0 ((a1.size : Int) : Int).toNat a0.size, true)) else (none)) else (none)) else (some (a0, false)))
set_option maxHeartbeats 8000000 in
set_option maxRecDepth 100000 in
theorem stringslite_CutPrefix.calls (a0 : ByteArray) (a1 : ByteArray) (r1 : ByteArray) (r2 : Bool) (w : World) (h : stringslite_CutPrefix.f a0 a1 = some (r1, r2)) :
 Calls Tryz.prog 83 #[.string a0, .string a1] w fun e w' => e = .returned (.tuple #[.string r1, .bool r2]) ∧ Drawn0 w w' := by
 have H : ((stringslite_HasPrefix.f a0 a1).bind fun t110 => (if t110 = true then (if 0 ≤ (a1.size : Int) then (if (a1.size : Int) ≤ (a0.size : Int) then (some (sub a0 ((a1.size : Int) : Int).toNat a0.size, true)) else (none)) else (none)) else (some (a0, false)))) = some (r1, r2) := h
 clear h
 replace H := Option.bind_eq_some_iff.mp H
 obtain ⟨t110, A30, H⟩ := H
 replace H : (if t110 = true then (if 0 ≤ (a1.size : Int) then (if (a1.size : Int) ≤ (a0.size : Int) then (some (sub a0 ((a1.size : Int) : Int).toNat a0.size, true)) else (none)) else (none)) else (some (a0, false))) = some (r1, r2) := H
 have A3 := Aside0.mk A30
 clear A30
 by_cases c4 : t110 = true
 · subst c4
   have H1 : (if 0 ≤ (a1.size : Int) then (if (a1.size : Int) ≤ (a0.size : Int) then (some (sub a0 ((a1.size : Int) : Int).toNat a0.size, true)) else (none)) else (none)) = some (r1, r2) := by rw [if_pos rfl] at H; exact H
   clear H
   have H := H1
   clear H1
   by_cases c5 : 0 ≤ (a1.size : Int)
   · rw [if_pos c5] at H
     have c5b0 := eq_true c5
     have c5b1 : decide (0 ≤ (a1.size : Int)) = true := decide_eq_true c5
     clear c5
     by_cases c6 : (a1.size : Int) ≤ (a0.size : Int)
     · rw [if_pos c6] at H
       have c6b0 := eq_true c6
       have c6b1 : decide ((a1.size : Int) ≤ (a0.size : Int)) = true := decide_eq_true c6
       clear c6
       simp only [Option.some.injEq, Prod.mk.injEq] at H
       obtain ⟨rfl, rfl⟩ := H
       go_enter Tryz.func83, Tryz.ntmps83
       go_wp2_with (first | ((with_reducible refine gate_callee (f := 102) rfl ?_); refine goesL_ (some 8) rfl rfl Tryz.func102 (by kernel_rfl) rfl #[.string a0, .string a1] rfl argA ?_; (with_reducible refine (stringslite_HasPrefix.calls a0 a1 true _ A3.out).mono ?_); rintro e w' ⟨rfl, ⟨nd, rfl⟩⟩; refine ⟨_, rfl, ?_⟩))
       go_ret2
       exact ⟨rsA, drA⟩
     rw [if_neg c6] at H
     exact absurd H (by simp)
   rw [if_neg c5] at H
   exact absurd H (by simp)
 replace c4 := Bool.eq_false_iff.mpr c4
 subst c4
 have H1 : (some (a0, false)) = some (r1, r2) := by rw [if_neg (show ¬ (false = true) by decide)] at H; exact H
 clear H
 have H := H1
 clear H1
 simp only [Option.some.injEq, Prod.mk.injEq] at H
 obtain ⟨rfl, rfl⟩ := H
 go_enter Tryz.func83, Tryz.ntmps83
 go_wp2_with (first | ((with_reducible refine gate_callee (f := 102) rfl ?_); refine goesL_ (some 8) rfl rfl Tryz.func102 (by kernel_rfl) rfl #[.string a0, .string a1] rfl argA ?_; (with_reducible refine (stringslite_HasPrefix.calls a0 a1 false _ A3.out).mono ?_); rintro e w' ⟨rfl, ⟨nd, rfl⟩⟩; refine ⟨_, rfl, ?_⟩))
 go_ret2
 exact ⟨rsA, drA⟩

def strings_CutPrefix.f (a0 : ByteArray) (a1 : ByteArray) : Option (ByteArray × Bool) := (stringslite_CutPrefix.f a0 a1).bind fun bt111 => (some (bt111.1, bt111.2))
set_option maxHeartbeats 8000000 in
set_option maxRecDepth 100000 in
theorem strings_CutPrefix.calls (a0 : ByteArray) (a1 : ByteArray) (r1 : ByteArray) (r2 : Bool) (w : World) (h : strings_CutPrefix.f a0 a1 = some (r1, r2)) :
 Calls Tryz.prog 67 #[.string a0, .string a1] w fun e w' => e = .returned (.tuple #[.string r1, .bool r2]) ∧ Drawn0 w w' := by
 have H : ((stringslite_CutPrefix.f a0 a1).bind fun bt111 => (some (bt111.1, bt111.2))) = some (r1, r2) := h
 clear h
 replace H := Option.bind_eq_some_iff.mp H
 obtain ⟨⟨t111, t112⟩, A30, H⟩ := H
 replace H : (some (t111, t112)) = some (r1, r2) := H
 have A3 := Aside0.mk A30
 clear A30
 simp only [Option.some.injEq, Prod.mk.injEq] at H
 obtain ⟨rfl, rfl⟩ := H
 go_enter Tryz.func67, Tryz.ntmps67
 go_wp2_with (first | ((with_reducible refine gate_callee (f := 83) rfl ?_); refine goesL_ (some 8) rfl rfl Tryz.func83 (by kernel_rfl) rfl #[.string a0, .string a1] rfl argA ?_; (with_reducible refine (stringslite_CutPrefix.calls a0 a1 t111 t112 _ A3.out).mono ?_); rintro e w' ⟨rfl, ⟨nd, rfl⟩⟩; refine ⟨_, rfl, ?_⟩))
 go_ret2
 exact ⟨rsA, drA⟩

def digits_Signed.j0 : Nat → Bool → Int → Int → Option (Int × Int)
 | 0, _, _, _ => none
 | k + 1, x5, x6, x8 => if x6 > x8 then (some (0, 1)) else (if x5 = true then (some (wrap64 (IntKind.u64.wrap (-x6)), 0)) else (some (wrap64 (x6), 0)))
def digits_Signed.f (k : Nat) (a0 : ByteArray) : Option (Int × Int) := (strings_CutPrefix.f a0 (⟨#[45]⟩ : ByteArray)).bind fun bt113 => ((digits_Parse.f bt113.1).bind fun bt115 => (if bt115.2 = 0 then (if bt113.2 = true then (digits_Signed.j0 k bt113.2 bt115.1 (9223372036854775807 + 1)) else (digits_Signed.j0 k bt113.2 bt115.1 9223372036854775807)) else (some (0, bt115.2))))
theorem digits_Signed.mono_l : ∀ k, (∀ y0 y1 y2, LeO (digits_Signed.j0 k y0 y1 y2) (digits_Signed.j0 (k + 1) y0 y1 y2))
 | 0 => fun _ _ _ r h => by simp [digits_Signed.j0] at h
 | k + 1 => by
  have ih0 := digits_Signed.mono_l k
  · intro y0 y1 y2
    unfold digits_Signed.j0
    repeat' first
    | (with_reducible exact ih0 _ _ _)
    | (with_reducible exact LeO.refl _)
    | (with_reducible exact LeO.none _)
    | (with_reducible refine LeO.ite ?_ ?_)
    | (with_reducible refine LeO.bind ?_ (fun _ => ?_))
    | exact ih0 _ _ _
    | exact LeO.none _
    | refine LeO.ite ?_ ?_
    | refine LeO.bind ?_ (fun _ => ?_)
theorem digits_Signed.mono : ∀ a0 k, LeO (digits_Signed.f k a0) (digits_Signed.f (k + 1) a0) := by
 intro a0 k
 have ih0 := digits_Signed.mono_l k
 unfold digits_Signed.f
 repeat' first
  | (with_reducible exact ih0 _ _ _)
  | (with_reducible exact LeO.refl _)
  | (with_reducible exact LeO.none _)
  | (with_reducible refine LeO.ite ?_ ?_)
  | (with_reducible refine LeO.bind ?_ (fun _ => ?_))
  | exact ih0 _ _ _
  | exact LeO.none _
  | refine LeO.ite ?_ ?_
  | refine LeO.bind ?_ (fun _ => ?_)
set_option maxHeartbeats 8000000 in
set_option maxRecDepth 100000 in
theorem digits_Signed.calls (k : Nat) (a0 : ByteArray) (r1 : Int) (r2 : Int) (w : World) (hv : Vars w) (h : digits_Signed.f k a0 = some (r1, r2)) :
 Calls Tryz.prog 37 #[.string a0] w fun e w' => e = .returned (.tuple #[.int .i64 r1, .int .i64 r2]) ∧ Below w.heap.size w w' := by
 have HV := Aside0.mk hv
 clear hv
 have HB := Aside0.mk (Below.refl w.heap.size w)
 have H : ((strings_CutPrefix.f a0 (⟨#[45]⟩ : ByteArray)).bind fun bt113 => ((digits_Parse.f bt113.1).bind fun bt115 => (if bt115.2 = 0 then (if bt113.2 = true then (digits_Signed.j0 k bt113.2 bt115.1 (9223372036854775807 + 1)) else (digits_Signed.j0 k bt113.2 bt115.1 9223372036854775807)) else (some (0, bt115.2))))) = some (r1, r2) := h
 clear h
 replace H := Option.bind_eq_some_iff.mp H
 obtain ⟨⟨t113, t114⟩, A20, H⟩ := H
 replace H : ((digits_Parse.f t113).bind fun bt115 => (if bt115.2 = 0 then (if t114 = true then (digits_Signed.j0 k t114 bt115.1 (9223372036854775807 + 1)) else (digits_Signed.j0 k t114 bt115.1 9223372036854775807)) else (some (0, bt115.2)))) = some (r1, r2) := H
 have A2 := Aside0.mk A20
 clear A20
 replace H := Option.bind_eq_some_iff.mp H
 obtain ⟨⟨t115, t116⟩, A30, H⟩ := H
 replace H : (if t116 = 0 then (if t114 = true then (digits_Signed.j0 k t114 t115 (9223372036854775807 + 1)) else (digits_Signed.j0 k t114 t115 9223372036854775807)) else (some (0, t116))) = some (r1, r2) := H
 have A3 := Aside0.mk A30
 clear A30
 by_cases c4 : t116 = 0
 · rw [if_pos c4] at H
   have c4b0 : (t116 == 0) = true := beq_iff_eq.mpr c4
   have c4b1 : (t116 != 0) = false := bne_eq_false_iff_eq.mpr c4
   clear c4
   have HC5 := Aside0.mk H
   clear H
   go_enter Tryz.func37, Tryz.ntmps37
   go_upto_if 22 with (first | ((with_reducible refine gate_callee (f := 67) rfl ?_); refine goesL_ (some 11) rfl rfl Tryz.func67 (by kernel_rfl) rfl #[.string a0, .string (⟨#[45]⟩ : ByteArray)] rfl argA ?_; (with_reducible refine (strings_CutPrefix.calls a0 (⟨#[45]⟩ : ByteArray) t113 t114 _ A2.out).mono ?_); rintro e w' ⟨rfl, ⟨nd, rfl⟩⟩; refine ⟨_, rfl, ?_⟩) | ((with_reducible refine gate_callee (f := 38) rfl ?_); refine goesL_ (some 16) rfl rfl Tryz.func38 (by kernel_rfl) rfl #[.string t113] rfl argA ?_; (with_reducible refine (digits_Parse.calls t113 t115 t116 _ ?side1 A3.out).mono ?_); (case side1 => exact Vars.below HV.out (hbA HB.out)); rintro e w6 ⟨rfl, hb⟩; refine ⟨_, rfl, ?_⟩; replace HB := Aside0.mk (below_step (hbA HB.out) hb); (try clear hb); (try clear hb2); (try clear hk); (try clear hi)))
   (try simp only [Act.put, List.setIfInBounds_toArray, List.set_cons_zero, List.set_cons_succ])
   go_cut [8] (fun v8 wc => ∃ (kq : Nat) (x8_4 : Int), v8 = .int .u64 x8_4 ∧ Aside0 (digits_Signed.j0 kq t114 t115 x8_4 = some (r1, r2)) ∧ Aside0 (kq ≤ k) ∧ Aside0 (Below w.heap.size w wc))
   case first =>
    have H := HC5.out
    clear HC5
    by_cases c7 : t114 = true
    · subst c7
      have H1 : (digits_Signed.j0 k true t115 (9223372036854775807 + 1)) = some (r1, r2) := by rw [if_pos rfl] at H; exact H
      clear H
      have H := H1
      clear H1
      have H' := Aside0.mk H
      clear H
      go_wp2
      go_meet
      case rel => exact ⟨_, (9223372036854775807 + 1), rsA, H', ⟨by first | omega | exact Nat.le_refl _⟩, ⟨hbA HB.out⟩⟩
    replace c7 := Bool.eq_false_iff.mpr c7
    subst c7
    have H1 : (digits_Signed.j0 k false t115 9223372036854775807) = some (r1, r2) := by rw [if_neg (show ¬ (false = true) by decide)] at H; exact H
    clear H
    have H := H1
    clear H1
    have H' := Aside0.mk H
    clear H
    go_wp2
    go_meet
    case rel => exact ⟨_, (9223372036854775807), rsA, H', ⟨by first | omega | exact Nat.le_refl _⟩, ⟨hbA HB.out⟩⟩
   clear HC5
   (try clear p2); (try clear c3); (try clear c4); (try clear c4b0); (try clear c4b1); (try clear c6); (try clear c7)
   obtain ⟨kq, x8_4, rfl, HA, HJ4, HB⟩ := hcut
   cases kq with
   | zero => exact absurd HA.out (by simp [digits_Signed.j0])
   | succ kj4 =>
    have H := HA.out
    clear HA
    simp only [digits_Signed.j0] at H
    by_cases c8 : t115 > x8_4
    · rw [if_pos c8] at H
      have c8b0 : decide (x8_4 < t115) = true := decide_eq_true c8
      clear c8
      simp only [Option.some.injEq, Prod.mk.injEq] at H
      obtain ⟨rfl, rfl⟩ := H
      go_wp2
      go_ret2
      exact ⟨reA, hbA HB.out⟩
    rw [if_neg c8] at H
    have c8b0 : decide (x8_4 < t115) = false := decide_eq_false c8
    clear c8
    by_cases c9 : t114 = true
    · subst c9
      have H1 : (some (wrap64 (IntKind.u64.wrap (-t115)), 0)) = some (r1, r2) := by rw [if_pos rfl] at H; exact H
      clear H
      have H := H1
      clear H1
      simp only [Option.some.injEq, Prod.mk.injEq] at H
      obtain ⟨rfl, rfl⟩ := H
      go_wp2
      go_ret2
      exact ⟨reA, hbA HB.out⟩
    replace c9 := Bool.eq_false_iff.mpr c9
    subst c9
    have H1 : (some (wrap64 (t115), 0)) = some (r1, r2) := by rw [if_neg (show ¬ (false = true) by decide)] at H; exact H
    clear H
    have H := H1
    clear H1
    simp only [Option.some.injEq, Prod.mk.injEq] at H
    obtain ⟨rfl, rfl⟩ := H
    go_wp2
    go_ret2
    exact ⟨reA, hbA HB.out⟩
 rw [if_neg c4] at H
 have c4b0 : (t116 == 0) = false := beq_eq_false_iff_ne.mpr c4
 have c4b1 : (t116 != 0) = true := bne_iff_ne.mpr c4
 simp only [Option.some.injEq, Prod.mk.injEq] at H
 obtain ⟨rfl, rfl⟩ := H
 go_enter Tryz.func37, Tryz.ntmps37
 go_wp2_with (first | ((with_reducible refine gate_callee (f := 67) rfl ?_); refine goesL_ (some 11) rfl rfl Tryz.func67 (by kernel_rfl) rfl #[.string a0, .string (⟨#[45]⟩ : ByteArray)] rfl argA ?_; (with_reducible refine (strings_CutPrefix.calls a0 (⟨#[45]⟩ : ByteArray) t113 t114 _ A2.out).mono ?_); rintro e w' ⟨rfl, ⟨nd, rfl⟩⟩; refine ⟨_, rfl, ?_⟩) | ((with_reducible refine gate_callee (f := 38) rfl ?_); refine goesL_ (some 16) rfl rfl Tryz.func38 (by kernel_rfl) rfl #[.string t113] rfl argA ?_; (with_reducible refine (digits_Parse.calls t113 t115 t116 _ ?side1 A3.out).mono ?_); (case side1 => exact Vars.below HV.out (hbA HB.out)); rintro e w10 ⟨rfl, hb⟩; refine ⟨_, rfl, ?_⟩; replace HB := Aside0.mk (below_step (hbA HB.out) hb); (try clear hb); (try clear hb2); (try clear hk); (try clear hi)))
 go_ret2
 exact ⟨reA, hbA HB.out⟩

end
end Go.Proofs.YtfboejlemnfndaaGreatDoor.XMk
end
section
namespace Go.Proofs.YtfboejlemnfndaaGreatDoor.XMk
open Go.RowKit Go.Proofs.YtfboejlemnfndaaGreatDoorW.PrintWords Go.Proofs.YtfboejlemnfndaaGreatDoorW.PrintLast Go.Proofs.YtfboejlemnfndaaGreatDoorW.PrintMore
attribute [local go_sem] extract_sub max2_int min2_int max_two min_two max_three min_three max_four min_four   -- for this text's walks alone
set_option linter.unusedVariables false
set_option linter.unusedSimpArgs false

noncomputable section
def strings_Contains.f (a0 a1 : ByteArray) : Option Bool := if a0.size < 4294967281 then some (Lib.contains a0.data.toList a1.data.toList) else none
theorem strings_Contains.calls (a0 a1 : ByteArray) (r : Bool) (w : World) (hv : Vars w) (h : strings_Contains.f a0 a1 = some r) :
 Calls Tryz.prog 78 #[.string a0, .string a1] w fun e w' => e = .returned (.bool r) ∧ Below w.heap.size w w' := by
 unfold strings_Contains.f at h
 split at h
 · rename_i hh
   injection h with h
   subst h
   obtain ⟨m, hm⟩ := hv.most
   exact (Tryz.strings_Contains a0 a1 m w hh hm).mono fun e w' ⟨he, hw⟩ => ⟨he, by rw [hw]; exact Below.refl _ _⟩
 cases h

end
end Go.Proofs.YtfboejlemnfndaaGreatDoor.XMk
end
