/- Put together by wip/pack.py (this session's own program) out of this session's texts; a kit's tool laid the words and the shelf, of which only what is used stands here. Lean checks it. -/
import Derived.Test.YtfboejlemnfndaaGreatDoorPMk8
import Derived.OpenShut
import Derived.ChangeArms
import Derived.DataReads
import Derived.DataElems
import Derived.Test.YtfboejlemnfndaaGreatDoorCards
import Derived.Test.YtfboejlemnfndaaGreatDoorTie
import Derived.WalkKit
import Derived.ProofKit
import Derived.ShutString
import Derived.ChangeOld
import Derived.Below
import Derived.SizedLaws
import Derived.LaidMore
import Derived.Lay
import Derived.SevenTiedAt
import Derived.Stop.Joined
import Derived.Deep.DeepHandedRow
import Derived.Shelf.Vars
import Derived.Stop.LaidErr
section
namespace Go.Proofs.YtfboejlemnfndaaGreatDoor.XMk
open Go.RowKit Go.Proofs.YtfboejlemnfndaaGreatDoorW.PrintWords Go.Proofs.YtfboejlemnfndaaGreatDoorW.PrintLast Go.Proofs.YtfboejlemnfndaaGreatDoorW.PrintMore
set_option linter.unusedVariables false
set_option linter.unusedSimpArgs false

def sgnOk (l : List UInt8) : Bool := if l.head? = some 45 then ((digits_Parse.val l.tail).2 == 0 && decide ((digits_Parse.val l.tail).1 ≤ 9223372036854775808)) else ((digits_Parse.val l).2 == 0 && decide ((digits_Parse.val l).1 ≤ 9223372036854775807))
theorem sub_tail (s : ByteArray) : (sub s 1 s.size).data.toList = s.data.toList.tail := by
  show (s.extract 1 s.size).data.toList = _
  rw [Lib.extract_to_end, List.drop_one]
theorem ev_signed (s : ByteArray) (hs : s.size ≤ 1000000) : ∃ a e, Ev (fun k => tallboyref02_Signed.f k s) (a, e) ∧ (e == 0) = sgnOk s.data.toList := by
  have hF : s.data.toList.head? ≠ some 45 → ∃ a e, Ev (fun k => tallboyref02_Signed.j0 k s false) (a, e) ∧ (e == 0) = sgnOk s.data.toList := by
    intro hne
    have hp := ev_digits s hs
    unfold sgnOk
    rw [if_neg hne]
    generalize digits_Parse.val s.data.toList = v at hp
    obtain ⟨n, e⟩ := v
    by_cases he : e = 0
    · subst he
      by_cases hn : n ≤ 9223372036854775807
      · refine ⟨wrap64 n, 0, Ev.step (f := fun k => (tallboyref02_Parse.f k s).bind fun bt => if bt.2 = 0 then tallboyref02_Signed.j3 k bt.1 bt.2 (decide (bt.1 > 9223372036854775807)) else tallboyref02_Signed.j3 k bt.1 bt.2 false) (fun k => by simp only [tallboyref02_Signed.j0]; rfl) (Ev.bind hp ?_), by rw [decide_eq_true hn]; rfl⟩
        simp only [if_true]
        rw [decide_eq_false (by omega)]
        exact ev_end (fun k => by simp [tallboyref02_Signed.j3])
      · refine ⟨0, 1, Ev.step (f := fun k => (tallboyref02_Parse.f k s).bind fun bt => if bt.2 = 0 then tallboyref02_Signed.j3 k bt.1 bt.2 (decide (bt.1 > 9223372036854775807)) else tallboyref02_Signed.j3 k bt.1 bt.2 false) (fun k => by simp only [tallboyref02_Signed.j0]; rfl) (Ev.bind hp ?_), by rw [decide_eq_false hn]; rfl⟩
        simp only [if_true]
        rw [decide_eq_true (by omega)]
        exact ev_end (fun k => by simp [tallboyref02_Signed.j3])
    · refine ⟨0, e, Ev.step (f := fun k => (tallboyref02_Parse.f k s).bind fun bt => if bt.2 = 0 then tallboyref02_Signed.j3 k bt.1 bt.2 (decide (bt.1 > 9223372036854775807)) else tallboyref02_Signed.j3 k bt.1 bt.2 false) (fun k => by simp only [tallboyref02_Signed.j0]; rfl) (Ev.bind hp ?_), by rw [show (e == 0) = false from beq_eq_false_iff_ne.2 he]; rfl⟩
      simp only [if_neg he]
      exact ev_end (fun k => by simp [tallboyref02_Signed.j3, he])
  cases hl : s.data.toList with
  | nil =>
    have hz : s.size = 0 := by rw [Lib.size_eq, hl]; rfl
    obtain ⟨a, e, h1, h2⟩ := hF (by rw [hl]; simp)
    rw [hl] at h2
    exact ⟨a, e, Ev.congr (fun k => by unfold tallboyref02_Signed.f; rw [if_neg (by omega)]) h1, h2⟩
  | cons c r =>
    have hz : 1 ≤ s.size := by rw [Lib.size_eq, hl]; simp
    have hb : bt s 0 = (c.toNat : Int) := by
      have := bt_list s 0 (by rw [hl]; simp)
      rw [show ((0 : Nat) : Int) = 0 from rfl] at this
      rw [this]
      simp only [hl, List.getElem_cons_zero]
    have hgo : ∀ k, tallboyref02_Signed.f k s = tallboyref02_Signed.j0 k s ((c.toNat : Int) == 45) := fun k => by
      unfold tallboyref02_Signed.f
      rw [if_pos (by omega), if_pos (by omega), hb]
    by_cases hc : c = 45
    · subst hc
      have hp := ev_digits (sub s 1 s.size) (by show (s.extract 1 s.size).size ≤ _; rw [ByteArray.size_extract]; omega)
      rw [sub_tail, hl, List.tail_cons] at hp
      unfold sgnOk
      rw [if_pos (by rfl), List.tail_cons]
      generalize digits_Parse.val r = v at hp
      obtain ⟨n, e⟩ := v
      have hgo2 : ∀ k, tallboyref02_Signed.f (k + 1) s = (tallboyref02_Parse.f k (sub s 1 s.size)).bind fun bt => if bt.2 = 0 then tallboyref02_Signed.j1 k bt.1 bt.2 (decide (bt.1 > 9223372036854775808)) else tallboyref02_Signed.j1 k bt.1 bt.2 false := fun k => by
        rw [hgo, show (((45 : UInt8).toNat : Int) == 45) = true from rfl]
        simp only [tallboyref02_Signed.j0, if_true]
        rw [if_pos (by omega)]
      by_cases he : e = 0
      · subst he
        by_cases hn : n ≤ 9223372036854775808
        · have hend : ∃ a, Ev (fun k => tallboyref02_Signed.j2 k n 0) (a, 0) := by
            by_cases h63 : n = 9223372036854775808
            · exact ⟨_, ev_end (fun k => by simp only [tallboyref02_Signed.j2, if_true]; rw [if_pos h63])⟩
            · exact ⟨_, ev_end (fun k => by simp only [tallboyref02_Signed.j2, if_true]; rw [if_neg h63])⟩
          obtain ⟨a, hend⟩ := hend
          refine ⟨a, 0, Ev.step hgo2 (Ev.bind hp ?_), by rw [decide_eq_true hn]; rfl⟩
          simp only [if_true]
          rw [decide_eq_false (by omega)]
          exact Ev.step (fun k => by simp [tallboyref02_Signed.j1]) hend
        · refine ⟨0, 1, Ev.step hgo2 (Ev.bind hp ?_), by rw [decide_eq_false hn]; rfl⟩
          simp only [if_true]
          rw [decide_eq_true (by omega)]
          exact Ev.step (f := fun k => tallboyref02_Signed.j2 k n 1) (fun k => by simp [tallboyref02_Signed.j1]) (ev_end (fun k => by simp [tallboyref02_Signed.j2]))
      · refine ⟨0, e, Ev.step hgo2 (Ev.bind hp ?_), by rw [show (e == 0) = false from beq_eq_false_iff_ne.2 he]; rfl⟩
        simp only [if_neg he]
        exact Ev.step (f := fun k => tallboyref02_Signed.j2 k n e) (fun k => by simp [tallboyref02_Signed.j1]) (ev_end (fun k => by simp [tallboyref02_Signed.j2, he]))
    · have hne : ((c.toNat : Int) == 45) = false := beq_eq_false_iff_ne.2 (fun e => hc (UInt8.toNat_inj.mp (by show c.toNat = 45; omega)))
      obtain ⟨a, e, h1, h2⟩ := hF (by rw [hl]; simpa using hc)
      rw [hl] at h2
      exact ⟨a, e, Ev.congr (fun k => by rw [hgo, hne]) h1, h2⟩
theorem cut_is (s : ByteArray) (hs : s.size ≤ 1000) : ∃ r b, strings_CutPrefix.f s ⟨#[45]⟩ = some (r, b) ∧ r.size ≤ 1000 ∧ b = decide (s.data.toList.head? = some 45) ∧ r.data.toList = if s.data.toList.head? = some 45 then s.data.toList.tail else s.data.toList := by
  obtain ⟨r, b, h, hr⟩ := cut_tot s hs
  refine ⟨r, b, h, hr, ?_⟩
  unfold strings_CutPrefix.f stringslite_CutPrefix.f stringslite_HasPrefix.f at h
  rw [show ((⟨#[45]⟩ : ByteArray).size : Int) = 1 from rfl] at h
  cases hl : s.data.toList with
  | nil =>
    have hz : s.size = 0 := by rw [Lib.size_eq, hl]; rfl
    rw [if_neg (by omega)] at h
    simp only [Option.bind_some, Bool.false_eq_true, if_false, Option.some.injEq, Prod.mk.injEq] at h
    obtain ⟨rfl, rfl⟩ := h
    exact ⟨by simp, by rw [hl]; simp⟩
  | cons c t =>
    have hz : 1 ≤ s.size := by rw [Lib.size_eq, hl]; simp
    rw [if_pos (by omega), if_pos (by decide), if_pos (by omega)] at h
    have e1 : (sub s 0 ((1 : Int)).toNat).toList = [c] := by
      rw [ByteArray.toList_eq]
      show (s.extract 0 1).data.toList = _
      rw [Lib.extract_data, hl]
      simp
    rw [e1, show (⟨#[45]⟩ : ByteArray).toList = [45] from by rw [ByteArray.toList_eq]] at h
    try simp only [Option.bind_some] at h
    by_cases hc : c = 45
    · subst hc
      rw [if_pos (by rfl), if_pos (by decide), if_pos (by omega)] at h
      simp only [Option.bind_some, Option.some.injEq, Prod.mk.injEq] at h
      obtain ⟨rfl, rfl⟩ := h
      refine ⟨by simp, ?_⟩
      rw [if_pos (by rfl), List.tail_cons]
      have := sub_tail s
      rw [hl, List.tail_cons] at this
      exact this
    · have hne : (([c] : List UInt8) == ([45] : List UInt8)) = false := by simpa using hc
      rw [hne] at h
      simp only [Bool.false_eq_true, if_false, Option.bind_some, Option.some.injEq, Prod.mk.injEq] at h
      obtain ⟨rfl, rfl⟩ := h
      exact ⟨by simpa using hc, by rw [hl, if_neg (by simpa using hc)]⟩
theorem ev_signedM (s : ByteArray) (hs : s.size ≤ 1000) : ∃ a e, Ev (fun k => digits_Signed.f k s) (a, e) ∧ (e == 0) = sgnOk s.data.toList := by
  obtain ⟨r, b, hcut, hr, hb, hrl⟩ := cut_is s hs
  have hgo : ∀ k, digits_Signed.f k s = if (digits_Parse.val r.data.toList).2 = 0 then (if b = true then digits_Signed.j0 k b (digits_Parse.val r.data.toList).1 (9223372036854775807 + 1) else digits_Signed.j0 k b (digits_Parse.val r.data.toList).1 9223372036854775807) else some (0, (digits_Parse.val r.data.toList).2) := fun k => by
    unfold digits_Signed.f
    rw [hcut]
    simp only [Option.bind_some, parse_tot r hr]
  have hj : ∀ (b : Bool) (n m : Int), ∃ a e, Ev (fun k => digits_Signed.j0 k b n m) (a, e) ∧ (e == 0) = decide (n ≤ m) := by
    intro b n m
    by_cases h : n > m
    · exact ⟨0, 1, ev_end (fun k => by simp only [digits_Signed.j0]; rw [if_pos h]), by rw [decide_eq_false (by omega)]; rfl⟩
    · cases b with
      | true => exact ⟨_, 0, ev_end (fun k => by simp only [digits_Signed.j0, if_true]; rw [if_neg h]), by rw [decide_eq_true (by omega)]; rfl⟩
      | false => exact ⟨_, 0, ev_end (fun k => by simp only [digits_Signed.j0, Bool.false_eq_true, if_false]; rw [if_neg h]), by rw [decide_eq_true (by omega)]; rfl⟩
  unfold sgnOk
  by_cases h45 : s.data.toList.head? = some 45
  · rw [if_pos h45] at hrl ⊢
    rw [hrl, hb, decide_eq_true h45] at hgo
    by_cases he : (digits_Parse.val s.data.toList.tail).2 = 0
    · obtain ⟨a, e, h1, h2⟩ := hj true (digits_Parse.val s.data.toList.tail).1 9223372036854775808
      exact ⟨a, e, Ev.congr (fun k => by rw [hgo, if_pos he, if_pos rfl]; rfl) h1, by rw [h2, he]; rfl⟩
    · exact ⟨0, _, Ev.congr (fun k => by rw [hgo, if_neg he]) (Ev.now _), by rw [show ((digits_Parse.val s.data.toList.tail).2 == 0) = false from beq_eq_false_iff_ne.2 he]; rfl⟩
  · rw [if_neg h45] at hrl ⊢
    rw [hrl, hb, decide_eq_false h45] at hgo
    by_cases he : (digits_Parse.val s.data.toList).2 = 0
    · obtain ⟨a, e, h1, h2⟩ := hj false (digits_Parse.val s.data.toList).1 9223372036854775807
      exact ⟨a, e, Ev.congr (fun k => by rw [hgo, if_pos he, if_neg Bool.false_ne_true]) h1, by rw [h2, he]; rfl⟩
    · exact ⟨0, _, Ev.congr (fun k => by rw [hgo, if_neg he]) (Ev.now _), by rw [show ((digits_Parse.val s.data.toList).2 == 0) = false from beq_eq_false_iff_ne.2 he]; rfl⟩
def EL : List Int := [98, 99, 102, 104, 107, 108, 113, 115, 116, 118, 120, 73]
def DL : List Int := [67, 68, 69, 74]
def NL : List Int := [78, 82, 84]
theorem cls_all : ∀ n : Fin 7, ∀ c ∈ meta_owns.flags (n.val : Int), ((c.toNat : Int) ∈ EL ∨ (c.toNat : Int) ∈ DL ∨ (c.toNat : Int) = 70 ∨ (c.toNat : Int) ∈ NL ∨ (c.toNat : Int) = 79 ∨ ((c.toNat : Int) = 77 ∧ ((n.val : Int) = 2 ∨ (n.val : Int) = 4))) := by decide +kernel
theorem cls {op x : Int} (h : meta_owns.f op x = some true) : x ∈ EL ∨ x ∈ DL ∨ x = 70 ∨ x ∈ NL ∨ x = 79 ∨ (x = 77 ∧ (op = 2 ∨ op = 4)) := by
  unfold meta_owns.f at h
  split at h
  · rename_i ho
    injection h with h
    obtain ⟨c, hc, e⟩ := List.any_eq_true.1 h
    have e' : (c.toNat : Int) = x := by simpa using e
    have hn : ((⟨op.toNat, by omega⟩ : Fin 7).val : Int) = op := by show ((op.toNat : Nat) : Int) = op; omega
    have := cls_all ⟨op.toNat, by omega⟩ c (by rw [hn]; exact hc)
    rw [hn, e'] at this
    exact this
  · cases h
theorem clsE : ∀ x ∈ EL, (∀ k, meta_sortOf.f (k + 2) x = some 0) ∧ ((⟨#[98, 99, 102, 104, 107, 108, 113, 115, 116, 118, 120, 73]⟩ : ByteArray).data.toList.any fun b => (b.toNat : Int) == x) = true := by
  intro x hx
  simp only [EL, List.mem_cons, List.not_mem_nil, or_false] at hx
  rcases hx with rfl | rfl | rfl | rfl | rfl | rfl | rfl | rfl | rfl | rfl | rfl | rfl <;> exact ⟨fun k => rfl, rfl⟩
theorem clsD : ∀ x ∈ DL, (∀ k, meta_sortOf.f (k + 2) x = some 1) ∧ ((⟨#[98, 99, 102, 104, 107, 108, 113, 115, 116, 118, 120, 73]⟩ : ByteArray).data.toList.any fun b => (b.toNat : Int) == x) = false ∧ ((⟨#[67, 68, 69, 74]⟩ : ByteArray).data.toList.any fun b => (b.toNat : Int) == x) = true := by
  intro x hx
  simp only [DL, List.mem_cons, List.not_mem_nil, or_false] at hx
  rcases hx with rfl | rfl | rfl | rfl <;> exact ⟨fun k => rfl, rfl, rfl⟩
theorem clsN : ∀ x ∈ NL, (∀ k, meta_sortOf.f (k + 2) x = some 3) ∧ ((⟨#[98, 99, 102, 104, 107, 108, 113, 115, 116, 118, 120, 73]⟩ : ByteArray).data.toList.any fun b => (b.toNat : Int) == x) = false ∧ ((⟨#[67, 68, 69, 74]⟩ : ByteArray).data.toList.any fun b => (b.toNat : Int) == x) = false ∧ x ≠ 70 ∧ ((⟨#[78, 82, 84]⟩ : ByteArray).data.toList.any fun b => (b.toNat : Int) == x) = true := by
  intro x hx
  simp only [NL, List.mem_cons, List.not_mem_nil, or_false] at hx
  rcases hx with rfl | rfl | rfl <;> exact ⟨fun k => rfl, rfl, rfl, by decide, rfl⟩
theorem contains_one (m : List UInt8) (h : ∀ c : Fin 256, Lib.contains m [UInt8.ofNat c.val] = m.any fun b => (b.toNat : Int) == (c.val : Int)) (c : UInt8) : Lib.contains m [c] = m.any fun b => (b.toNat : Int) == (c.toNat : Int) := by
  have := h ⟨c.toNat, c.toNat_lt⟩
  rw [show UInt8.ofNat c.toNat = c from UInt8.ofNat_toNat] at this
  exact this
theorem modes_A : ∀ c : Fin 256, Lib.contains [65, 69, 80, 82, 83] [UInt8.ofNat c.val] = ([65, 69, 80, 82, 83] : List UInt8).any fun b => (b.toNat : Int) == (c.val : Int) := by decide +kernel
theorem modes_I : ∀ c : Fin 256, Lib.contains [73, 68] [UInt8.ofNat c.val] = ([73, 68] : List UInt8).any fun b => (b.toNat : Int) == (c.val : Int) := by decide +kernel
theorem ev_sort {x t : Int} (h : ∀ k, meta_sortOf.f (k + 2) x = some t) : Ev (fun k => meta_sortOf.f k x) t := ⟨2, fun k hk => by obtain ⟨j, rfl⟩ : ∃ j, k = j + 2 := ⟨k - 2, by omega⟩; exact h j⟩
theorem lit_small (l : List UInt8) (h : l.length ≤ 1000) : (⟨l.toArray⟩ : ByteArray).size ≤ 1000000 := by show l.toArray.size ≤ _; rw [List.size_toArray]; omega
theorem tok_both (op x : Int) (t : ByteArray) (hx : meta_owns.f op x = some true) (ht : t.size ≤ 1000) : ∃ b, Ev (fun k => tallboyref27_token.f k op x t) b ∧ Ev (fun k => meta_right.f k op x t) b := by
  have hE := ev_has ⟨#[98, 99, 102, 104, 107, 108, 113, 115, 116, 118, 120, 73]⟩ (by decide) x
  have hD := ev_has ⟨#[67, 68, 69, 74]⟩ (by decide) x
  have hN := ev_has ⟨#[78, 82, 84]⟩ (by decide) x
  have hp := ev_digits t (by omega)
  have hpm : digits_Parse.f t = some (digits_Parse.val t.data.toList) := parse_tot t ht
  rcases cls hx with h | h | rfl | h | rfl | ⟨rfl, hop⟩
  · obtain ⟨h1, h2⟩ := clsE x h
    rw [h2] at hE
    refine ⟨t.toList == ([] : List UInt8), ?_, ?_⟩
    · unfold tallboyref27_token.f
      refine Ev.bind hE ?_
      simp only [if_true]
      exact Ev.now _
    · unfold meta_right.f
      refine Ev.bind (ev_sort h1) ?_
      exact Ev.now _
  · obtain ⟨h1, h2, h3⟩ := clsD x h
    rw [h2] at hE
    rw [h3] at hD
    refine ⟨(digits_Parse.val t.data.toList).2 == 0, ?_, ?_⟩
    · unfold tallboyref27_token.f
      refine Ev.bind hE ?_
      simp only [Bool.false_eq_true, if_false]
      refine Ev.bind hD ?_
      simp only [if_true]
      exact Ev.bind hp (Ev.now _)
    · unfold meta_right.f
      refine Ev.bind (ev_sort h1) ?_
      simp only [if_true, hpm, Option.bind_some]
      exact Ev.now _
  · refine ⟨if (digits_Parse.val t.data.toList).2 = 0 then decide ((digits_Parse.val t.data.toList).1 ≤ 4294967295) else false, ?_, ?_⟩
    · unfold tallboyref27_token.f
      refine Ev.bind (show Ev _ false from hE) ?_
      simp only [Bool.false_eq_true, if_false]
      refine Ev.bind (show Ev _ false from hD) ?_
      simp only [Bool.false_eq_true, if_false, if_true]
      refine Ev.bind hp ?_
      split
      · rw [show decide ((digits_Parse.val t.data.toList).1 < 4294967296) = decide ((digits_Parse.val t.data.toList).1 ≤ 4294967295) from by rw [decide_eq_decide]; omega]
        exact Ev.now _
      · exact Ev.now _
    · unfold meta_right.f
      refine Ev.bind (ev_sort (t := 2) (fun k => rfl)) ?_
      simp only [Int.reduceEq, if_false, if_true]
      simp only [hpm, Option.bind_some]
      split
      · exact Ev.now _
      · exact Ev.now _
  · obtain ⟨h1, h2, h3, h4, h5⟩ := clsN x h
    rw [h2] at hE
    rw [h3] at hD
    rw [h5] at hN
    obtain ⟨a, e, hs1, hs2⟩ := ev_signed t (by omega)
    obtain ⟨a', e', hm1, hm2⟩ := ev_signedM t ht
    refine ⟨sgnOk t.data.toList, ?_, ?_⟩
    · unfold tallboyref27_token.f
      refine Ev.bind hE ?_
      simp only [Bool.false_eq_true, if_false]
      refine Ev.bind hD ?_
      simp only [Bool.false_eq_true, if_false, if_neg h4]
      refine Ev.bind hN ?_
      simp only [if_true]
      refine Ev.bind hs1 ?_
      rw [← hs2]
      exact Ev.now _
    · unfold meta_right.f
      refine Ev.bind (ev_sort h1) ?_
      simp only [Int.reduceEq, if_false, if_true]
      refine Ev.bind hm1 ?_
      rw [← hm2]
      exact Ev.now _
  · refine ⟨keyOk t, ?_, ?_⟩
    · unfold tallboyref27_token.f
      refine Ev.bind (show Ev _ false from hE) ?_
      simp only [Bool.false_eq_true, if_false]
      refine Ev.bind (show Ev _ false from hD) ?_
      simp only [Bool.false_eq_true, if_false]
      simp only [Int.reduceEq, if_false, if_true]
      refine Ev.bind (show Ev _ false from hN) ?_
      simp only [Bool.false_eq_true, if_false, if_true]
      exact Ev.bind (ev_key4 t (by omega)) (Ev.now _)
    · unfold meta_right.f
      refine Ev.bind (ev_sort (t := 4) (fun k => rfl)) ?_
      simp only [Int.reduceEq, if_false, if_true]
      exact Ev.bind (ev_keyF t (by omega)) (Ev.now _)
  · have hstart : ∀ {b : Bool}, Ev (fun k => if (t.size : Int) = 1 then tallboyref27_token.j0 k op 77 t (op == 2) else tallboyref27_token.j0 k op 77 t false) b → Ev (fun k => tallboyref27_token.f k op 77 t) b := by
      intro b h
      unfold tallboyref27_token.f
      refine Ev.bind (show Ev _ false from hE) ?_
      simp only [Bool.false_eq_true, if_false]
      refine Ev.bind (show Ev _ false from hD) ?_
      simp only [Bool.false_eq_true, if_false]
      simp only [Int.reduceEq, if_false, if_true]
      refine Ev.bind (show Ev _ false from hN) ?_
      simp only [Bool.false_eq_true, if_false]
      exact h
    by_cases h1 : (t.size : Int) = 1
    · have hl : t.data.toList.length = 1 := by rw [← Lib.size_eq]; omega
      obtain ⟨c, hc⟩ := List.length_eq_one_iff.1 hl
      have hb : bt t 0 = (c.toNat : Int) := by
        have := bt_list t 0 (by rw [hc]; simp)
        rw [show ((0 : Nat) : Int) = 0 from rfl] at this
        rw [this]
        simp only [hc, List.getElem_cons_zero]
      rcases hop with rfl | rfl
      · have hh := ev_has ⟨#[65, 69, 80, 82, 83]⟩ (by decide) (c.toNat : Int)
        refine ⟨_, hstart (Ev.congr (f := fun k => tallboyref27_token.j0 k 2 77 t true) (fun k => by rw [if_pos h1]; rfl) (Ev.step (f := fun k => (tallboyref27_has.f k ⟨#[65, 69, 80, 82, 83]⟩ (c.toNat : Int)).bind fun t => some t) (fun k => ?_) (Ev.bind hh (Ev.now _)))), ?_⟩
        · simp only [tallboyref27_token.j0, if_true]
          rw [if_pos (by omega), hb]
        · unfold meta_right.f
          refine Ev.bind (ev_sort (t := 5) (fun k => rfl)) ?_
          simp only [Int.reduceEq, if_false, if_true, if_pos h1]
          unfold meta_modes.f
          simp only [if_true, Option.bind_some]
          unfold strings_Contains.f
          rw [if_pos (by decide), hc]
          simp only [Option.bind_some]
          rw [show Lib.contains (⟨#[65, 69, 80, 82, 83]⟩ : ByteArray).data.toList [c] = _ from contains_one _ modes_A c]
          exact Ev.now _
      · have hh := ev_has ⟨#[73, 68]⟩ (by decide) (c.toNat : Int)
        refine ⟨_, hstart (Ev.congr (f := fun k => tallboyref27_token.j0 k 4 77 t false) (fun k => by rw [if_pos h1]; rfl) (Ev.step (f := fun k => (tallboyref27_has.f k ⟨#[73, 68]⟩ (c.toNat : Int)).bind fun t => some t) (fun k => ?_) (Ev.bind hh (Ev.now _)))), ?_⟩
        · simp only [tallboyref27_token.j0, Bool.false_eq_true, if_false, if_true]
          rw [if_pos h1, if_pos (by omega), hb]
        · unfold meta_right.f
          refine Ev.bind (ev_sort (t := 5) (fun k => rfl)) ?_
          simp only [Int.reduceEq, if_false, if_true, if_pos h1]
          unfold meta_modes.f
          simp only [Int.reduceEq, if_false, if_true]
          simp only [Option.bind_some]
          unfold strings_Contains.f
          rw [if_pos (by decide), hc]
          simp only [Option.bind_some]
          rw [show Lib.contains (⟨#[73, 68]⟩ : ByteArray).data.toList [c] = _ from contains_one _ modes_I c]
          exact Ev.now _
    · refine ⟨false, hstart (Ev.congr (f := fun k => tallboyref27_token.j0 k op 77 t false) (fun k => by rw [if_neg h1]) (ev_end (fun k => ?_))), ?_⟩
      · simp only [tallboyref27_token.j0, Bool.false_eq_true, if_false, if_true]
        rw [if_neg h1]
      · unfold meta_right.f
        refine Ev.bind (ev_sort (t := 5) (fun k => rfl)) ?_
        simp only [Int.reduceEq, if_false, if_true, if_neg h1]
        exact Ev.now _
end Go.Proofs.YtfboejlemnfndaaGreatDoor.XMk
end
section
namespace Go.Proofs.YtfboejlemnfndaaGreatDoor.XMk
open Go.RowKit Go.Proofs.YtfboejlemnfndaaGreatDoorW.PrintWords Go.Proofs.YtfboejlemnfndaaGreatDoorW.PrintLast Go.Proofs.YtfboejlemnfndaaGreatDoorW.PrintMore
set_option linter.unusedVariables false
set_option linter.unusedSimpArgs false

def back (x : S61) : S59 := ⟨x.f0, x.f1⟩
theorem rd_back (L : List S61) (i : Nat) (hi : i < L.length) : rd_T59 (L.map back) (i : Int) = back L[i] := by
  unfold rd_T59
  rw [Int.toNat_natCast, List.getD_eq_getElem?_getD, List.getElem?_map, List.getElem?_eq_getElem hi]
  rfl
theorem ev_find_l (o : Int) (key : ByteArray) (sz : Int) (L : List S61) (hL : L.length ≤ 1000) (c : Int) : ∀ n i : Nat, n + i = L.length → ∃ t, Ev (fun k => tallboyref27_Find.l0 k c (i : Int) o key sz (L.map back)) (t, has (L.drop i) c)
  | 0, i, h => by
    rw [List.drop_of_length_le (by omega)]
    exact ⟨⟨#[]⟩, ev_end (fun k => by simp only [tallboyref27_Find.l0]; rw [if_neg (by rw [List.length_map]; omega)]; rfl)⟩
  | n + 1, i, h => by
    have hi : i < L.length := by omega
    obtain ⟨t, ih⟩ := ev_find_l o key sz L hL c n (i + 1) (by omega)
    rw [List.drop_eq_getElem_cons hi]
    by_cases hc : (L[i]).f0 = c
    · refine ⟨(L[i]).f1, ev_end (fun k => ?_)⟩
      simp only [tallboyref27_Find.l0]
      rw [if_pos (by rw [List.length_map]; omega), if_pos (by omega), rd_back L i hi, if_pos (by exact hc)]
      unfold has
      rw [List.any_cons, show ((L[i]).f0 == c) = true from beq_iff_eq.2 hc]
      rfl
    · refine ⟨t, Ev.step (f := fun k => tallboyref27_Find.l0 k c ((i + 1 : Nat) : Int) o key sz (L.map back)) (fun k => ?_) ?_⟩
      · simp only [tallboyref27_Find.l0]
        rw [if_pos (by rw [List.length_map]; omega), if_pos (by omega), rd_back L i hi, if_neg (by exact hc), wrap_at i (by omega)]
      · unfold has
        rw [List.any_cons, show ((L[i]).f0 == c) = false from beq_eq_false_iff_ne.2 hc, Bool.false_or]
        exact ih
theorem ev_find (o : Int) (key : ByteArray) (sz : Int) (L : List S61) (hL : L.length ≤ 1000) (c : Int) : ∃ t, Ev (fun k => tallboyref27_Find.f k o key sz (L.map back) c) (t, has L c) := by
  have := ev_find_l o key sz L hL c L.length 0 (by omega)
  rw [List.drop_zero] at this
  exact this
theorem ev_key (o : Int) (key : ByteArray) (sz : Int) (L : List S61) (hL : L.length ≤ 1000) (hk : key.size ≤ 1000) : ∃ y, Ev (fun k => tallboyref27_key.f k o key sz (L.map back)) y ∧ Ev (fun k => meta_key.f k o key sz L) y := by
  obtain ⟨t, hf⟩ := ev_find o key sz L hL 98
  have hm : ∀ k, meta_key.f k o key sz L = keyB k o key (has L 98) := fun k => key_eq k o key sz L
  unfold keyB at hm
  unfold tallboyref27_key.f
  by_cases h5 : o = 5
  · simp only [if_pos h5] at hm ⊢
    exact ⟨_, Ev.bind hf (Ev.now _), Ev.congr hm (Ev.now _)⟩
  · simp only [if_neg h5] at hm ⊢
    cases hb : has L 98 with
    | true =>
      rw [hb] at hm hf
      simp only [if_true] at hm
      by_cases h1 : (key.size : Int) ≥ 1
      · simp only [if_pos h1] at hm
        refine ⟨_, Ev.bind hf ?_, Ev.congr hm (Ev.now _)⟩
        simp only [if_true, if_pos h1]
        exact Ev.now _
      · simp only [if_neg h1] at hm
        refine ⟨_, Ev.bind hf ?_, Ev.congr hm (Ev.now _)⟩
        simp only [if_true, if_neg h1]
        exact Ev.now _
    | false =>
      rw [hb] at hm hf
      simp only [Bool.false_eq_true, if_false] at hm
      refine ⟨_, Ev.bind hf ?_, Ev.congr hm (ev_keyF key (by omega))⟩
      simp only [Bool.false_eq_true, if_false]
      exact Ev.bind (ev_key4 key (by omega)) (Ev.now _)
theorem may_is (o : Int) (h : 1 ≤ o ∧ o ≤ 6) : ∃ m, tallboyref27_may.f o = some m ∧ m.data.toList = meta_owns.flags o ∧ m.size ≤ 1000 := by
  have hn : o = 1 ∨ o = 2 ∨ o = 3 ∨ o = 4 ∨ o = 5 ∨ o = 6 := by omega
  rcases hn with rfl | rfl | rfl | rfl | rfl | rfl <;> exact ⟨_, rfl, rfl, by decide⟩
theorem ev_inner (o : Int) (key : ByteArray) (sz : Int) (L : List S61) (hL : L.length ≤ 1000) (x : Int) (t : ByteArray) (i : Nat) (hi : i ≤ L.length) {r : Int} : ∀ m j : Nat, m + j = i →
    (((L.take i).drop j).any (fun y => y.f0 == x) = true → r = 4) → (((L.take i).drop j).any (fun y => y.f0 == x) = false → Ev (fun k => (tallboyref27_token.f k o x t).bind fun t235 => if t235 = true then tallboyref27_form.l0 k ((i + 1 : Nat) : Int) o key sz (L.map back) else some 6) r) →
    Ev (fun k => tallboyref27_form.l1 k (i : Int) (j : Int) o key sz (L.map back) x t) r
  | 0, j, h, h4, hr => by
    rw [List.drop_of_length_le (by rw [List.length_take]; omega)] at hr
    refine Ev.step (fun k => ?_) (hr rfl)
    simp only [tallboyref27_form.l1]
    rw [if_neg (by omega), wrap_at i (by omega)]
  | m + 1, j, h, h4, hr => by
    have hj : j < L.length := by omega
    have hjt : j < (L.take i).length := by rw [List.length_take]; omega
    rw [List.drop_eq_getElem_cons hjt, List.any_cons, List.getElem_take] at h4 hr
    by_cases hx : (L[j]).f0 = x
    · rw [show ((L[j]).f0 == x) = true from beq_iff_eq.2 hx, Bool.true_or] at h4
      obtain rfl := h4 rfl
      refine ev_end (fun k => ?_)
      simp only [tallboyref27_form.l1]
      rw [if_pos (by omega), if_pos (by omega), if_pos (by rw [List.length_map]; omega), rd_back L j hj, if_pos (by exact hx)]
    · rw [show ((L[j]).f0 == x) = false from beq_eq_false_iff_ne.2 hx, Bool.false_or] at h4 hr
      refine Ev.step (fun k => ?_) (ev_inner o key sz L hL x t i hi m (j + 1) (by omega) h4 hr)
      simp only [tallboyref27_form.l1]
      rw [if_pos (by omega), if_pos (by omega), if_pos (by rw [List.length_map]; omega), rd_back L j hj, if_neg (by exact hx), wrap_at j (by omega)]
theorem ev_go (o : Int) (ho : 1 ≤ o ∧ o ≤ 6) (key : ByteArray) (sz : Int) (L : List S61) (hL : L.length ≤ 1000) (ht : ∀ x ∈ L, x.f1.size ≤ 1000) : ∀ (n i : Nat) (seen : List Int), n + i = L.length → (∀ y, seen.contains y = (L.take i).any (fun z => z.f0 == y)) →
    ∃ e, Ev (fun k => tallboyref27_form.l0 k (i : Int) o key sz (L.map back)) e ∧ Ev (fun k => meta_shape.go k o (L.drop i) seen) e
  | 0, i, seen, h, hs => by
    rw [List.drop_of_length_le (by omega)]
    exact ⟨0, ev_end (fun k => by simp only [tallboyref27_form.l0]; rw [if_neg (by rw [List.length_map]; omega)]), Ev.now 0⟩
  | n + 1, i, seen, h, hs => by
    have hi : i < L.length := by omega
    obtain ⟨m, hm, hmf, hm1⟩ := may_is o ho
    have hh := ev_has m (by omega) (L[i]).f0
    rw [hmf] at hh
    have hown : meta_owns.f o (L[i]).f0 = some ((meta_owns.flags o).any fun c => (c.toNat : Int) == (L[i]).f0) := by
      unfold meta_owns.f
      rw [if_pos ho]
    have hstart : ∀ {e : Int}, Ev (fun k => (tallboyref27_has.f k m (L[i]).f0).bind fun t233 => if t233 = true then tallboyref27_form.l1 k (i : Int) ((0 : Nat) : Int) o key sz (L.map back) (L[i]).f0 (L[i]).f1 else some 3) e → Ev (fun k => tallboyref27_form.l0 k (i : Int) o key sz (L.map back)) e := by
      intro e h
      refine Ev.step (fun k => ?_) h
      simp only [tallboyref27_form.l0]
      rw [if_pos (by rw [List.length_map]; omega), if_pos (by omega), hm, rd_back L i hi]
      rfl
    rw [List.drop_eq_getElem_cons hi]
    cases hb : (meta_owns.flags o).any fun c => (c.toNat : Int) == (L[i]).f0 with
    | false =>
      rw [hb] at hh hown
      refine ⟨3, hstart (Ev.bind hh ?_), ⟨0, fun k _ => ?_⟩⟩
      · simp only [Bool.false_eq_true, if_false]
        exact Ev.now _
      · show meta_shape.go k o (L[i] :: L.drop (i + 1)) seen = _
        rw [meta_shape.go, hown]
        rfl
    | true =>
      rw [hb] at hh hown
      cases hc : (L.take i).any (fun z => z.f0 == (L[i]).f0) with
      | true =>
        refine ⟨4, hstart (Ev.bind hh ?_), ⟨0, fun k _ => ?_⟩⟩
        · simp only [if_true]
          exact ev_inner o key sz L hL _ _ i (by omega) i 0 (by omega) (fun _ => rfl) (fun h => by rw [List.drop_zero, hc] at h; cases h)
        · show meta_shape.go k o (L[i] :: L.drop (i + 1)) seen = _
          rw [meta_shape.go, hown]
          simp only [Option.bind_some, if_true]
          rw [hs, hc]
          rfl
      | false =>
        obtain ⟨q, hq1, hq2⟩ := tok_both o (L[i]).f0 (L[i]).f1 hown (ht _ (List.getElem_mem hi))
        have hsh : ∀ k, meta_shape.go k o (L[i] :: L.drop (i + 1)) seen = (meta_right.f k o (L[i]).f0 (L[i]).f1).bind fun q => if q = true then meta_shape.go k o (L.drop (i + 1)) ((L[i]).f0 :: seen) else some 6 := fun k => by
          rw [meta_shape.go, hown]
          simp only [Option.bind_some, if_true]
          rw [hs, hc]
          rfl
        cases q with
        | false =>
          refine ⟨6, hstart (Ev.bind hh ?_), Ev.congr hsh (Ev.bind hq2 ?_)⟩
          · simp only [if_true]
            refine ev_inner o key sz L hL _ _ i (by omega) i 0 (by omega) (fun h => by rw [List.drop_zero, hc] at h; cases h) (fun _ => Ev.bind hq1 ?_)
            simp only [Bool.false_eq_true, if_false]
            exact Ev.now _
          · simp only [Bool.false_eq_true, if_false]
            exact Ev.now _
        | true =>
          obtain ⟨e, h1, h2⟩ := ev_go o ho key sz L hL ht n (i + 1) ((L[i]).f0 :: seen) (by omega) (fun y => by
            rw [List.contains_cons, hs, List.take_add_one, List.getElem?_eq_getElem hi, List.any_append]
            show _ = ((L.take i).any (fun z => z.f0 == y) || (((L[i]).f0 == y) || false))
            rw [Bool.or_false, Bool.or_comm, Bool.beq_comm])
          refine ⟨e, hstart (Ev.bind hh ?_), Ev.congr hsh (Ev.bind hq2 ?_)⟩
          · simp only [if_true]
            refine ev_inner o key sz L hL _ _ i (by omega) i 0 (by omega) (fun h => by rw [List.drop_zero, hc] at h; cases h) (fun _ => Ev.bind hq1 ?_)
            simp only [if_true]
            exact h1
          · simp only [if_true]
            exact h2
theorem ev_form (o : Int) (key : ByteArray) (sz : Int) (L : List S61) (hL : L.length ≤ 1000) (hk : key.size ≤ 1000) (ht : ∀ x ∈ L, x.f1.size ≤ 1000) : ∃ e, Ev (fun k => tallboyref27_form.f k o key sz (L.map back)) e ∧ Ev (fun k => meta_shape.f k o key sz L) e := by
  unfold meta_shape.f
  rw [there_eq]
  simp only [Option.bind_some, decide_eq_true_eq]
  by_cases ho : 1 ≤ o ∧ o ≤ 6
  · have hstart : ∀ {e : Int}, Ev (fun k => (tallboyref27_key.f k o key sz (L.map back)).bind fun t229 => if t229 = true then (if sz < 0 then some 6 else (if sz > 2147483647 then some 6 else (if o = 2 then tallboyref27_form.j1 k o key sz (L.map back) else (if sz = 0 then tallboyref27_form.j1 k o key sz (L.map back) else some 6)))) else some 6) e → Ev (fun k => tallboyref27_form.f k o key sz (L.map back)) e := by
      intro e h
      unfold tallboyref27_form.f
      rw [show decide (o > 6) = false from decide_eq_false (by omega)]
      simp only [if_neg (show ¬ o < 1 from by omega)]
      exact Ev.step (fun k => by simp only [tallboyref27_form.j0, Bool.false_eq_true, if_false]) h
    obtain ⟨y, h1, h2⟩ := ev_key o key sz L hL hk
    simp only [if_pos ho]
    cases y with
    | false =>
      refine ⟨6, hstart (Ev.bind h1 ?_), Ev.bind h2 ?_⟩
      · simp only [Bool.false_eq_true, if_false]
        exact Ev.now _
      · simp only [Bool.false_eq_true, if_false]
        exact Ev.now _
    | true =>
      by_cases hz : sz < 0 ∨ sz > 2147483647 ∨ (o ≠ 2 ∧ sz ≠ 0)
      · refine ⟨6, hstart (Ev.bind h1 ?_), Ev.bind h2 ?_⟩
        · simp only [if_true]
          by_cases a : sz < 0
          · simp only [if_pos a]
            exact Ev.now _
          · by_cases b : sz > 2147483647
            · simp only [if_neg a, if_pos b]
              exact Ev.now _
            · simp only [if_neg a, if_neg b, if_neg (show ¬ o = 2 from by omega), if_neg (show ¬ sz = 0 from by omega)]
              exact Ev.now _
        · simp only [if_true, if_pos hz]
          exact Ev.now _
      · obtain ⟨e, g1, g2⟩ := ev_go o ho key sz L hL ht L.length 0 [] (by omega) (fun y => by simp)
        rw [List.drop_zero] at g2
        have j1 : Ev (fun k => tallboyref27_form.j1 k o key sz (L.map back)) e := Ev.step (fun k => by simp only [tallboyref27_form.j1]; rfl) g1
        refine ⟨e, hstart (Ev.bind h1 ?_), Ev.bind h2 ?_⟩
        · simp only [if_true, if_neg (show ¬ sz < 0 from by omega), if_neg (show ¬ sz > 2147483647 from by omega)]
          by_cases h2 : o = 2
          · simp only [if_pos h2]
            exact j1
          · simp only [if_neg h2, if_pos (show sz = 0 from by omega)]
            exact j1
        · simp only [if_true, if_neg hz]
          exact g2
  · simp only [if_neg ho]
    refine ⟨70, ?_, Ev.now _⟩
    unfold tallboyref27_form.f
    have hj : Ev (fun k => tallboyref27_form.j0 k true o key sz (L.map back)) 70 := ev_end (fun k => by simp only [tallboyref27_form.j0, if_true])
    by_cases h1 : o < 1
    · simp only [if_pos h1]
      exact hj
    · simp only [if_neg h1]
      rw [show decide (o > 6) = true from decide_eq_true (by omega)]
      exact hj
end Go.Proofs.YtfboejlemnfndaaGreatDoor.XMk
end
section
namespace Go.Proofs.YtfboejlemnfndaaGreatDoor.XMk
open Go.RowKit Go.Proofs.YtfboejlemnfndaaGreatDoorW.PrintWords Go.Proofs.YtfboejlemnfndaaGreatDoorW.PrintLast Go.Proofs.YtfboejlemnfndaaGreatDoorW.PrintMore
set_option linter.unusedVariables false
set_option linter.unusedSimpArgs false
open D64 (ba)

theorem name_is (o : Int) (h : 1 ≤ o ∧ o ≤ 6) : tallboyref27_name.f o = some (nameOf o) := by
  have hn : o = 1 ∨ o = 2 ∨ o = 3 ∨ o = 4 ∨ o = 5 ∨ o = 6 := by omega
  rcases hn with rfl | rfl | rfl | rfl | rfl | rfl <;> rfl
theorem dig_nums (u : Nat) : strOfNums [(IntKind.u64.wrap (48 + Int.tmod (u : Int) 10)) % 256] = ba [UInt8.ofNat (48 + u % 10)] := by
  rw [show Int.tmod (u : Int) 10 = ((u % 10 : Nat) : Int) from rfl, IntKind.wrap_u64]
  have e : ((48 : Int) + ((u % 10 : Nat) : Int)) % 18446744073709551616 % 256 = ((48 + u % 10 : Nat) : Int) := by omega
  rw [e]; rfl
theorem wrap_div (u : Nat) (h : u < 18446744073709551616) : IntKind.u64.wrap (Int.tdiv (u : Int) 10) = ((u / 10 : Nat) : Int) := by
  rw [show Int.tdiv (u : Int) 10 = ((u / 10 : Nat) : Int) from rfl, IntKind.wrap_u64]; omega
theorem ev_text_l (u : Nat) (hu : u < 18446744073709551616) : ∀ acc : List UInt8, acc.length + u ≤ 4611686018427387904 → 0 < u → Ev (fun k => tallboyref02_Text.l0 k (u : Int) (ba acc)) (ba (Lib.decDigits u ++ acc)) := by
  induction u using Nat.strongRecOn with
  | _ u ih =>
    intro acc hacc h0
    have hstep : ∀ k, tallboyref02_Text.l0 (k + 1) (u : Int) (ba acc) = tallboyref02_Text.l0 k ((u / 10 : Nat) : Int) (ba (UInt8.ofNat (48 + u % 10) :: acc)) := by
      intro k
      simp only [tallboyref02_Text.l0]
      rw [if_pos (by omega), Option.bind_some, dig_nums, wrap_div u hu, if_pos (by rw [D64.ba_size, D64.ba_size]; show 1 + acc.length ≤ _; omega), D64.ba_append]
      rfl
    refine Ev.step hstep ?_
    by_cases h10 : u < 10
    · rw [show u / 10 = 0 from by omega, Text.dec_small u h10]
      refine ev_end (fun k => ?_)
      simp only [tallboyref02_Text.l0]
      rw [if_neg (by omega), show u % 10 = u from by omega]
      rfl
    · have h := ih (u / 10) (by omega) (by omega) (UInt8.ofNat (48 + u % 10) :: acc) (by rw [List.length_cons]; omega) (by omega)
      rw [Text.dec_big u h10, List.append_assoc]
      exact h
theorem ev_text (u : Nat) (hu : u ≤ 4294967296) : Ev (fun k => tallboyref02_Text.f k (u : Int)) (ba (Lib.decDigits u)) := by
  have e : ∀ k, tallboyref02_Text.f k (u : Int) = tallboyref02_Text.l0 k ((u / 10 : Nat) : Int) (ba [UInt8.ofNat (48 + u % 10)]) := by
    intro k
    unfold tallboyref02_Text.f
    rw [dig_nums, wrap_div u (by omega)]
  refine Ev.congr e ?_
  by_cases h10 : u < 10
  · rw [show u / 10 = 0 from by omega, Text.dec_small u h10]
    refine ev_end (fun k => ?_)
    simp only [tallboyref02_Text.l0]
    rw [if_neg (by omega), show u % 10 = u from by omega]
  · have h := ev_text_l (u / 10) (by omega) [UInt8.ofNat (48 + u % 10)] (by simp; omega) (by omega)
    rw [Text.dec_big u h10]
    exact h
def tailB : List ByteArray → List UInt8
  | [] => []
  | y :: r => 32 :: (y.data.toList ++ tailB r)
theorem joinTail_is : ∀ r : List ByteArray, Lib.joinTail [32] (r.map (·.data.toList)) = tailB r
  | [] => rfl
  | y :: r => by
    have ih := joinTail_is r
    unfold Lib.joinTail at ih ⊢
    rw [List.map_cons, List.map_cons, List.flatten_cons, ih]
    rfl
theorem line_is (x : ByteArray) (r : List ByteArray) : lineOf (x :: r) = ba (x.data.toList ++ tailB r) := by
  unfold lineOf
  rw [List.map_cons, Lib.join_cons, joinTail_is]
theorem tailB_append : ∀ a b : List ByteArray, tailB (a ++ b) = tailB a ++ tailB b
  | [], _ => rfl
  | y :: a, b => by
    show 32 :: (y.data.toList ++ tailB (a ++ b)) = 32 :: (y.data.toList ++ tailB a) ++ tailB b
    rw [tailB_append a b, List.cons_append, List.append_assoc]
theorem ba_data (s : ByteArray) : ba s.data.toList = s := ba_ext _ _ (by show s.data.toList.toArray.toList = _; rw [List.toList_toArray])
theorem ev_wflags (o : Int) (key : ByteArray) (sz : Int) (L : List S61) (hL : L.length ≤ 200) (hg : ∀ x ∈ L, 65 ≤ x.f0 ∧ x.f0 ≤ 122) (ht : ∀ x ∈ L, x.f1.size ≤ 1000) : ∀ (n i : Nat) (s : List UInt8), n + i = L.length → s.length ≤ 5000 + 2000 * i →
    Ev (fun k => tallboyref27_Write.l0 k (ba s) (i : Int) o key sz (L.map back)) (if ((s ++ tailB ((L.drop i).map fw)).length : Int) > 160 then (⟨#[]⟩, 7) else (ba (s ++ tailB ((L.drop i).map fw)), 0))
  | 0, i, s, h, hs => by
    rw [List.drop_of_length_le (by omega), List.map_nil, show tailB [] = [] from rfl, List.append_nil]
    refine ev_end (fun k => ?_)
    simp only [tallboyref27_Write.l0]
    rw [if_neg (by rw [List.length_map]; omega), D64.ba_size]
    split <;> rfl
  | n + 1, i, s, h, hs => by
    have hi : i < L.length := by omega
    have h1 := hg _ (List.getElem_mem hi)
    have h2 := ht _ (List.getElem_mem hi)
    have e : ba s ++ (⟨#[32]⟩ : ByteArray) = ba (s ++ [32]) := D64.ba_append s [32]
    have e2 : (strOfNums [(back L[i]).f0]) = ba [UInt8.ofNat (L[i]).f0.toNat] := rfl
    have e3 : ba (s ++ [32] ++ [UInt8.ofNat (L[i]).f0.toNat]) ++ (back L[i]).f1 = ba (s ++ 32 :: (fw L[i]).data.toList) := by
      rw [fw_list _ h1]
      show _ ++ (L[i]).f1 = _
      rw [← ba_data (L[i]).f1, D64.ba_append]
      congr 1
      simp
    have ih := ev_wflags o key sz L hL hg ht n (i + 1) (s ++ 32 :: (fw L[i]).data.toList) (by omega) (by
      rw [fw_list _ h1, List.length_append, List.length_cons, List.length_cons, ← Lib.size_eq]; omega)
    rw [List.drop_eq_getElem_cons hi, List.map_cons, show tailB (fw L[i] :: (L.drop (i + 1)).map fw) = 32 :: ((fw L[i]).data.toList ++ tailB ((L.drop (i + 1)).map fw)) from rfl]
    have e4 : s ++ 32 :: ((fw L[i]).data.toList ++ tailB ((L.drop (i + 1)).map fw)) = (s ++ 32 :: (fw L[i]).data.toList) ++ tailB ((L.drop (i + 1)).map fw) := by simp
    rw [e4]
    refine Ev.step (fun k => ?_) ih
    simp only [tallboyref27_Write.l0]
    rw [if_pos (by rw [List.length_map]; omega), if_pos (by rw [D64.ba_size]; omega), if_pos (by omega), rd_back L i hi, Option.bind_some, e, e2, if_pos (by rw [D64.ba_size, D64.ba_size]; simp; omega), D64.ba_append, if_pos (by rw [D64.ba_size]; show _ + (L[i]).f1.size ≤ _; simp; omega), e3, wrap_at i (by omega)]
theorem ev_write (o : Int) (key : ByteArray) (sz : Int) (L : List S61) (hL : L.length ≤ 200) (hk : key.size ≤ 1000) (ht : ∀ x ∈ L, x.f1.size ≤ 1000) : ∃ t e, Ev (fun k => tallboyref27_Write.f k o key sz (L.map back)) (t, e) ∧ Ev (fun k => meta_Write.f k o key sz L) (t, e) := by
  obtain ⟨e, h1, h2⟩ := ev_form o key sz L (by omega) hk ht
  by_cases he : e = 0
  · subst he
    obtain ⟨K, hK⟩ := h2
    have hs : meta_shape.f (max K 3000) o key sz L = some 0 := hK _ (by omega)
    have hm : ∀ k, max K 3000 ≤ k → meta_Write.f k o key sz L = if ((lineOf (nameOf o :: restOf o key sz L)).size : Int) > 160 then some (⟨#[]⟩, 7) else some (lineOf (nameOf o :: restOf o key sz L), 0) := fun k hk' => write_line (by omega) hL hk ht (hK k (by omega))
    obtain ⟨ho, hkb, hz, hgo⟩ := shape_zero hs
    have hg : ∀ x ∈ L, 65 ≤ x.f0 ∧ x.f0 ≤ 122 := fun x hx => (flags_ok (by omega) hL hk ht hs x hx).1
    obtain ⟨hu, hz0, hz1⟩ := size_is (by omega) hL hk ht hs
    obtain ⟨tf, hf⟩ := ev_find o key sz L (by omega) 98
    have hn2 := name_size o
    -- the flags
    have hj1 : ∀ s : List UInt8, s.length ≤ 5000 → Ev (fun k => tallboyref27_Write.j1 k (ba s) o key sz (L.map back)) (if ((s ++ tailB (L.map fw)).length : Int) > 160 then (⟨#[]⟩, 7) else (ba (s ++ tailB (L.map fw)), 0)) := by
      intro s hs
      have := ev_wflags o key sz L hL hg ht L.length 0 s (by omega) (by omega)
      rw [List.drop_zero] at this
      exact Ev.step (fun k => by simp only [tallboyref27_Write.j1]; rfl) this
    have hj0 : ∀ s : List UInt8, s.length ≤ 4000 → Ev (fun k => tallboyref27_Write.j0 k (ba s) o key sz (L.map back)) (if ((s ++ tailB ((if o = 2 then [⟨(Lib.decDigits (IntKind.u64.wrap sz).toNat).toArray⟩] else []) ++ L.map fw)).length : Int) > 160 then (⟨#[]⟩, 7) else (ba (s ++ tailB ((if o = 2 then [⟨(Lib.decDigits (IntKind.u64.wrap sz).toNat).toArray⟩] else []) ++ L.map fw)), 0)) := by
      intro s hs
      by_cases h2 : o = 2
      · have htx := ev_text sz.toNat (by omega)
        rw [show ((sz.toNat : Nat) : Int) = sz from by omega] at htx
        have hdl := Text.dec_len 9 sz.toNat (by omega)
        simp only [if_pos h2]
        rw [hu, List.singleton_append, show tailB ((⟨(Lib.decDigits sz.toNat).toArray⟩ : ByteArray) :: L.map fw) = 32 :: ((Lib.decDigits sz.toNat).toArray.toList ++ tailB (L.map fw)) from rfl, List.toList_toArray,
          show s ++ 32 :: (Lib.decDigits sz.toNat ++ tailB (L.map fw)) = (s ++ 32 :: Lib.decDigits sz.toNat) ++ tailB (L.map fw) from by simp]
        refine Ev.step (f := fun k => (tallboyref02_Text.f k sz).bind fun t248 => if (ba s ++ (⟨#[32]⟩ : ByteArray)).size + t248.size ≤ 9223372036854775807 then tallboyref27_Write.j1 k ((ba s ++ (⟨#[32]⟩ : ByteArray)) ++ t248) o key sz (L.map back) else none) (fun k => ?_) (Ev.bind htx ?_)
        · simp only [tallboyref27_Write.j0]
          rw [if_pos h2, if_pos (by rw [D64.ba_size]; omega), hu]
        · have e : ba s ++ (⟨#[32]⟩ : ByteArray) = ba (s ++ [32]) := D64.ba_append s [32]
          rw [e]
          simp only [if_pos (show (ba (s ++ [32])).size + (ba (Lib.decDigits sz.toNat)).size ≤ 9223372036854775807 from by rw [D64.ba_size, D64.ba_size]; simp; omega), D64.ba_append]
          rw [show s ++ [32] ++ Lib.decDigits sz.toNat = s ++ 32 :: Lib.decDigits sz.toNat from by simp]
          exact hj1 _ (by simp; omega)
      · simp only [if_neg h2]
        rw [List.nil_append]
        refine Ev.step (fun k => ?_) (hj1 s (by omega))
        simp only [tallboyref27_Write.j0]
        rw [if_neg h2]
    have hnl : (nameOf o).data.toList.length = 2 := by rw [← Lib.size_eq]; exact hn2
    have hw : Ev (fun k => tallboyref27_Write.f k o key sz (L.map back)) (if ((lineOf (nameOf o :: restOf o key sz L)).size : Int) > 160 then (⟨#[]⟩, 7) else (lineOf (nameOf o :: restOf o key sz L), 0)) := by
      rw [line_is, D64.ba_size]
      unfold tallboyref27_Write.f restOf
      refine Ev.bind h1 ?_
      simp only [if_true, name_is o ho, Option.bind_some]
      refine Ev.bind hf ?_
      by_cases h5 : o = 5
      · simp only [if_pos h5]
        rw [List.nil_append]
        have := hj0 (nameOf o).data.toList (by omega)
        rw [ba_data] at this
        exact this
      · simp only [if_neg h5]
        rw [List.singleton_append]
        have e0 : nameOf o ++ (⟨#[32]⟩ : ByteArray) = ba ((nameOf o).data.toList ++ [32]) := by
          rw [← D64.ba_append, ba_data]
        have e4 : ∀ (kw : List UInt8) (r : List ByteArray), (nameOf o).data.toList ++ tailB (ba kw :: r) = ((nameOf o).data.toList ++ 32 :: kw) ++ tailB r := fun kw r => by
          show (nameOf o).data.toList ++ 32 :: (kw.toArray.toList ++ tailB r) = _
          rw [List.toList_toArray]
          simp
        cases hb : has L 98 with
        | true =>
          have hel := B64.enc_length key.data.toList
          rw [← Lib.size_eq] at hel
          simp only [if_true, keyW]
          rw [show (⟨(B64.enc key.data.toList).toArray⟩ : ByteArray) = ba (B64.enc key.data.toList) from rfl, e4, e0]
          unfold tallboyref27_Encode.f
          simp only [if_pos (show (nameOf o).size + 1 ≤ 9223372036854775807 from by omega), if_pos (show key.size ≤ 1099511627776 from by omega), Option.bind_some]
          rw [show (⟨(B64.enc key.data.toList).toArray⟩ : ByteArray) = ba (B64.enc key.data.toList) from rfl, D64.ba_append]
          simp only [if_pos (show (ba ((nameOf o).data.toList ++ [32])).size + (ba (B64.enc key.data.toList)).size ≤ 9223372036854775807 from by rw [D64.ba_size, D64.ba_size, List.length_append, hnl, List.length_singleton]; omega)]
          have := hj0 ((nameOf o).data.toList ++ 32 :: B64.enc key.data.toList) (by rw [List.length_append, List.length_cons]; omega)
          rw [show (nameOf o).data.toList ++ [32] ++ B64.enc key.data.toList = (nameOf o).data.toList ++ 32 :: B64.enc key.data.toList from by simp]
          exact this
        | false =>
          simp only [Bool.false_eq_true, if_false, keyW]
          conv => rhs; rw [← ba_data key]
          rw [e4, e0]
          simp only [if_pos (show (nameOf o).size + 1 ≤ 9223372036854775807 from by omega), if_pos (show (ba ((nameOf o).data.toList ++ [32])).size + key.size ≤ 9223372036854775807 from by rw [D64.ba_size, List.length_append, hnl, List.length_singleton]; omega)]
          have hks : key.data.toList.length = key.size := (Lib.size_eq key).symm
          have := hj0 ((nameOf o).data.toList ++ 32 :: key.data.toList) (by rw [List.length_append, List.length_cons]; omega)
          rw [show ba ((nameOf o).data.toList ++ [32]) ++ key = ba ((nameOf o).data.toList ++ 32 :: key.data.toList) from by
            conv => lhs; rw [← ba_data key, D64.ba_append]
            simp]
          exact this
    by_cases h160 : ((lineOf (nameOf o :: restOf o key sz L)).size : Int) > 160
    · rw [if_pos h160] at hw
      exact ⟨_, _, hw, ⟨max K 3000, fun k hk' => by show meta_Write.f k o key sz L = _; rw [hm k hk', if_pos h160]⟩⟩
    · rw [if_neg h160] at hw
      exact ⟨_, _, hw, ⟨max K 3000, fun k hk' => by show meta_Write.f k o key sz L = _; rw [hm k hk', if_neg h160]⟩⟩
  · refine ⟨⟨#[]⟩, e, ?_, ?_⟩
    · unfold tallboyref27_Write.f
      refine Ev.bind h1 ?_
      simp only [if_neg he]
      exact Ev.now _
    · unfold meta_Write.f
      refine Ev.bind h2 ?_
      simp only [if_neg he]
      exact Ev.now _
end Go.Proofs.YtfboejlemnfndaaGreatDoor.XMk
end
section
namespace Go.Proofs.YtfboejlemnfndaaGreatDoor.XMk
open Go.RowKit Go.Proofs.YtfboejlemnfndaaGreatDoorW.PrintWords Go.Proofs.YtfboejlemnfndaaGreatDoorW.PrintLast Go.Proofs.YtfboejlemnfndaaGreatDoorW.PrintMore
set_option linter.unusedVariables false
set_option linter.unusedSimpArgs false

def findV (L : List S61) (c : Int) : ByteArray × Bool := match L.find? (fun x => x.f0 == c) with
  | some x => (x.f1, true)
  | none => (⟨#[]⟩, false)
theorem find_is (o : Int) (key : ByteArray) (sz : Int) (L : List S61) (c : Int) : meta_Find.f o key sz L c = some (findV L c) := by
  unfold meta_Find.f findV
  cases L.find? (fun x => x.f0 == c) <;> rfl
theorem findV_small (L : List S61) (hm : ∀ x ∈ L, x.f1.size ≤ 1000) (c : Int) : (findV L c).1.size ≤ 1000 := by
  unfold findV
  cases h : L.find? (fun x => x.f0 == c) with
  | none => decide
  | some x => exact hm x (List.mem_of_find?_eq_some h)
theorem ev_findV_l (o : Int) (key : ByteArray) (sz : Int) (L : List S61) (hL : L.length ≤ 1000) (c : Int) : ∀ n i : Nat, n + i = L.length → Ev (fun k => tallboyref27_Find.l0 k c (i : Int) o key sz (L.map back)) (findV (L.drop i) c)
  | 0, i, h => by
    rw [List.drop_of_length_le (by omega)]
    exact ev_end (fun k => by simp only [tallboyref27_Find.l0]; rw [if_neg (by rw [List.length_map]; omega)]; rfl)
  | n + 1, i, h => by
    have hi : i < L.length := by omega
    have ih := ev_findV_l o key sz L hL c n (i + 1) (by omega)
    rw [List.drop_eq_getElem_cons hi]
    by_cases hc : (L[i]).f0 = c
    · refine ev_end (fun k => ?_)
      simp only [tallboyref27_Find.l0]
      rw [if_pos (by rw [List.length_map]; omega), if_pos (by omega), rd_back L i hi, if_pos (by exact hc)]
      unfold findV
      rw [List.find?_cons_of_pos (by exact beq_iff_eq.2 hc)]
      rfl
    · refine Ev.step (f := fun k => tallboyref27_Find.l0 k c ((i + 1 : Nat) : Int) o key sz (L.map back)) (fun k => ?_) ?_
      · simp only [tallboyref27_Find.l0]
        rw [if_pos (by rw [List.length_map]; omega), if_pos (by omega), rd_back L i hi, if_neg (by exact hc), wrap_at i (by omega)]
      · unfold findV at ih ⊢
        rw [List.find?_cons_of_neg (by rw [beq_iff_eq]; exact hc)]
        exact ih
theorem ev_findV (o : Int) (key : ByteArray) (sz : Int) (L : List S61) (hL : L.length ≤ 1000) (c : Int) : Ev (fun k => tallboyref27_Find.f k o key sz (L.map back) c) (findV L c) := by
  have := ev_findV_l o key sz L hL c L.length 0 (by omega)
  rw [List.drop_zero] at this
  exact this
theorem val_nn (l : List UInt8) : 0 ≤ (digits_Parse.val l).1 := by
  unfold digits_Parse.val
  repeat' split
  all_goals first | exact Int.natCast_nonneg _ | exact Int.le_refl _
theorem val_err (l : List UInt8) (h : (digits_Parse.val l).2 ≠ 0) : (digits_Parse.val l).1 = 0 := by
  unfold digits_Parse.val at h ⊢
  repeat' split
  all_goals first | rfl | simp_all
def sgnV (l : List UInt8) : Int × Int :=
  if l.head? = some 45 then (if (digits_Parse.val l.tail).2 = 0 then (if (digits_Parse.val l.tail).1 > 9223372036854775808 then (0, 1) else (-(digits_Parse.val l.tail).1, 0)) else (0, (digits_Parse.val l.tail).2))
  else (if (digits_Parse.val l).2 = 0 then (if (digits_Parse.val l).1 > 9223372036854775807 then (0, 1) else ((digits_Parse.val l).1, 0)) else (0, (digits_Parse.val l).2))
theorem ev_signedV (s : ByteArray) (hs : s.size ≤ 1000000) : Ev (fun k => tallboyref02_Signed.f k s) (sgnV s.data.toList) := by
  have hF : s.data.toList.head? ≠ some 45 → Ev (fun k => tallboyref02_Signed.j0 k s false) (sgnV s.data.toList) := by
    intro hne
    have hp := ev_digits s hs
    have hnn := val_nn s.data.toList
    unfold sgnV
    rw [if_neg hne]
    generalize digits_Parse.val s.data.toList = v at hp hnn
    obtain ⟨n, e⟩ := v
    refine Ev.step (f := fun k => (tallboyref02_Parse.f k s).bind fun bt => if bt.2 = 0 then tallboyref02_Signed.j3 k bt.1 bt.2 (decide (bt.1 > 9223372036854775807)) else tallboyref02_Signed.j3 k bt.1 bt.2 false) (fun k => by simp only [tallboyref02_Signed.j0]; rfl) (Ev.bind hp ?_)
    by_cases he : e = 0
    · subst he
      by_cases hn : n > 9223372036854775807
      · simp only [if_true, if_pos hn]
        rw [decide_eq_true hn]
        exact ev_end (fun k => by simp [tallboyref02_Signed.j3])
      · simp only [if_true, if_neg hn]
        rw [decide_eq_false hn]
        have hw : wrap64 n = n := by have : 0 ≤ n := hnn; unfold wrap64; omega
        exact ev_end (fun k => by simp [tallboyref02_Signed.j3, hw])
    · simp only [if_neg he]
      exact ev_end (fun k => by simp [tallboyref02_Signed.j3, he])
  cases hl : s.data.toList with
  | nil =>
    have hz : s.size = 0 := by rw [Lib.size_eq, hl]; rfl
    have h1 := hF (by rw [hl]; simp)
    rw [hl] at h1
    exact Ev.congr (fun k => by unfold tallboyref02_Signed.f; rw [if_neg (by omega)]) h1
  | cons c r =>
    have hz : 1 ≤ s.size := by rw [Lib.size_eq, hl]; simp
    have hb : bt s 0 = (c.toNat : Int) := by
      have := bt_list s 0 (by rw [hl]; simp)
      rw [show ((0 : Nat) : Int) = 0 from rfl] at this
      rw [this]
      simp only [hl, List.getElem_cons_zero]
    have hgo : ∀ k, tallboyref02_Signed.f k s = tallboyref02_Signed.j0 k s ((c.toNat : Int) == 45) := fun k => by
      unfold tallboyref02_Signed.f
      rw [if_pos (by omega), if_pos (by omega), hb]
    by_cases hc : c = 45
    · subst hc
      have hp := ev_digits (sub s 1 s.size) (by show (s.extract 1 s.size).size ≤ _; rw [ByteArray.size_extract]; omega)
      rw [sub_tail, hl, List.tail_cons] at hp
      have hnn := val_nn r
      unfold sgnV
      rw [if_pos (by rfl), List.tail_cons]
      generalize digits_Parse.val r = v at hp hnn
      obtain ⟨n, e⟩ := v
      have hgo2 : ∀ k, tallboyref02_Signed.f (k + 1) s = (tallboyref02_Parse.f k (sub s 1 s.size)).bind fun bt => if bt.2 = 0 then tallboyref02_Signed.j1 k bt.1 bt.2 (decide (bt.1 > 9223372036854775808)) else tallboyref02_Signed.j1 k bt.1 bt.2 false := fun k => by
        rw [hgo, show (((45 : UInt8).toNat : Int) == 45) = true from rfl]
        simp only [tallboyref02_Signed.j0, if_true]
        rw [if_pos (by omega)]
      refine Ev.step hgo2 (Ev.bind hp ?_)
      by_cases he : e = 0
      · subst he
        by_cases hn : n > 9223372036854775808
        · simp only [if_true, if_pos hn]
          rw [decide_eq_true hn]
          exact Ev.step (f := fun k => tallboyref02_Signed.j2 k n 1) (fun k => by simp [tallboyref02_Signed.j1]) (ev_end (fun k => by simp [tallboyref02_Signed.j2]))
        · simp only [if_true, if_neg hn]
          rw [decide_eq_false hn]
          refine Ev.step (f := fun k => tallboyref02_Signed.j2 k n 0) (fun k => by simp [tallboyref02_Signed.j1]) (ev_end (fun k => ?_))
          have h0 : 0 ≤ n := hnn
          simp only [tallboyref02_Signed.j2, if_true]
          by_cases h63 : n = 9223372036854775808
          · rw [if_pos h63, h63]
          · rw [if_neg h63]
            have hw : wrap64 n = n := by unfold wrap64; omega
            have hw2 : wrap64 (-n) = -n := by unfold wrap64; omega
            rw [hw, hw2]
      · simp only [if_neg he]
        exact Ev.step (f := fun k => tallboyref02_Signed.j2 k n e) (fun k => by simp [tallboyref02_Signed.j1]) (ev_end (fun k => by simp [tallboyref02_Signed.j2, he]))
    · have hne : ((c.toNat : Int) == 45) = false := beq_eq_false_iff_ne.2 (fun e => hc (UInt8.toNat_inj.mp (by show c.toNat = 45; omega)))
      have h1 := hF (by rw [hl]; simpa using hc)
      rw [hl] at h1
      exact Ev.congr (fun k => by rw [hgo, hne]) h1
theorem signed_is (s : ByteArray) (hs : s.size ≤ 1000) : Ev (fun k => digits_Signed.f k s) (sgnV s.data.toList) := by
  obtain ⟨r, b, hc, hr, hb, hrl⟩ := cut_is s hs
  refine ev_end (fun k => ?_)
  unfold digits_Signed.f sgnV
  rw [hc]
  simp only [Option.bind_some, parse_tot r hr]
  rw [hrl]
  by_cases hh : s.data.toList.head? = some 45
  · rw [decide_eq_true hh] at hb
    subst hb
    simp only [if_pos hh, if_true]
    have hnn := val_nn s.data.toList.tail
    generalize digits_Parse.val s.data.toList.tail = v at hnn
    obtain ⟨n, e⟩ := v
    have h0 : 0 ≤ n := hnn
    by_cases he : e = 0
    · subst he
      simp only [if_true, digits_Signed.j0]
      by_cases hn : n > 9223372036854775808
      · rw [if_pos hn, if_pos (by omega)]
      · rw [if_neg hn, if_neg (by omega)]
        have hw : wrap64 (IntKind.u64.wrap (-n)) = -n := by rw [IntKind.wrap_u64]; unfold wrap64; omega
        rw [hw]
    · simp only [if_neg he]
  · rw [decide_eq_false hh] at hb
    subst hb
    simp only [if_neg hh, Bool.false_eq_true, if_false]
    have hnn := val_nn s.data.toList
    generalize digits_Parse.val s.data.toList = v at hnn
    obtain ⟨n, e⟩ := v
    have h0 : 0 ≤ n := hnn
    by_cases he : e = 0
    · subst he
      simp only [if_true, digits_Signed.j0]
      by_cases hn : n > 9223372036854775807
      · simp only [if_pos hn]
      · have hw : wrap64 n = n := by unfold wrap64; omega
        simp only [if_neg hn, hw, Bool.false_eq_true, if_false]
    · simp only [if_neg he]
def numV (c : Int) (v : Int × Int) : Int × Int × Bool := if v.2 = 0 then (if c = 70 then (if v.1 > 4294967295 then (0, 0, false) else (0, v.1, true)) else (0, v.1, true)) else (0, 0, false)
theorem ev_number (o : Int) (key : ByteArray) (sz : Int) (L : List S61) (hL : L.length ≤ 1000) (ht : ∀ x ∈ L, x.f1.size ≤ 1000) (c : Int) : ∃ r, Ev (fun k => tallboyref27_Number.f k o key sz (L.map back) c) r ∧ Ev (fun k => meta_Number.f k o key sz L c) r := by
  have hf := ev_findV o key sz L hL c
  have hs := findV_small L ht c
  have hm : ∀ k : Nat, meta_Find.f o key sz L c = some (findV L c) := fun _ => find_is o key sz L c
  unfold tallboyref27_Number.f meta_Number.f
  generalize findV L c = t at hf hs hm
  obtain ⟨t, b⟩ := t
  have hs : t.size ≤ 1000 := hs
  cases b with
  | false => exact ⟨(0, 0, false), Ev.bind hf (by simp only [Bool.false_eq_true, if_false]; exact Ev.now _), Ev.bind (a := (t, false)) ⟨0, fun k _ => hm k⟩ (by simp only [Bool.false_eq_true, if_false]; exact Ev.now _)⟩
  | true =>
    have h1 := ev_has ⟨#[78, 82, 84]⟩ (by decide) c
    have h2 := ev_has ⟨#[67, 68, 69, 70, 74]⟩ (by decide) c
    rw [show (⟨#[78, 82, 84]⟩ : ByteArray).data.toList = [78, 82, 84] from rfl] at h1
    rw [show (⟨#[67, 68, 69, 70, 74]⟩ : ByteArray).data.toList = [67, 68, 69, 70, 74] from rfl] at h2
    have hgo : ∀ {u : Int} {r : Int × Int × Bool}, Ev (fun k => meta_sortOf.f k c) u → Ev (fun k => if u = 3 then ((digits_Signed.f k t).bind fun bt219 => (some (bt219.1, 0, (bt219.2 == 0)))) else (if u = 1 then (meta_Number.j0 k c t (u == 1)) else (meta_Number.j0 k c t (u == 2)))) r → Ev (fun k => (meta_Find.f o key sz L c).bind fun bt216 => (if bt216.2 = true then ((meta_sortOf.f k c).bind fun t218 => (if t218 = 3 then ((digits_Signed.f k bt216.1).bind fun bt219 => (some (bt219.1, 0, (bt219.2 == 0)))) else (if t218 = 1 then (meta_Number.j0 k c bt216.1 (t218 == 1)) else (meta_Number.j0 k c bt216.1 (t218 == 2))))) else (some (0, 0, false)))) r := fun h h' => by
      refine Ev.bind (a := (t, true)) ⟨0, fun k _ => hm k⟩ ?_
      simp only [if_true]
      exact Ev.bind h h'
    by_cases c3 : c = 78 ∨ c = 82 ∨ c = 84
    · have e1 : ([78, 82, 84] : List UInt8).any (fun b => (b.toNat : Int) == c) = true := by rcases c3 with rfl | rfl | rfl <;> rfl
      rw [e1] at h1
      refine ⟨((sgnV t.data.toList).1, 0, ((sgnV t.data.toList).2 == 0)), Ev.bind hf ?_, hgo (u := 3) ?_ ?_⟩
      · simp only [if_true]
        refine Ev.bind h1 ?_
        simp only [if_true]
        exact Ev.bind (ev_signedV t (by omega)) (Ev.now _)
      · rcases c3 with rfl | rfl | rfl <;> exact ev_sort (fun k => rfl)
      · simp only [if_true]
        exact Ev.bind (signed_is t hs) (Ev.now _)
    · have e1 : ([78, 82, 84] : List UInt8).any (fun b => (b.toNat : Int) == c) = false := by
        simp only [List.any_cons, List.any_nil, Bool.or_false, Bool.or_eq_false_iff, beq_eq_false_iff_ne]
        exact ⟨fun e => c3 (.inl e.symm), fun e => c3 (.inr (.inl e.symm)), fun e => c3 (.inr (.inr e.symm))⟩
      rw [e1] at h1
      by_cases c1 : c = 67 ∨ c = 68 ∨ c = 69 ∨ c = 70 ∨ c = 74
      · have e2 : ([67, 68, 69, 70, 74] : List UInt8).any (fun b => (b.toNat : Int) == c) = true := by rcases c1 with rfl | rfl | rfl | rfl | rfl <;> rfl
        rw [e2] at h2
        have hv := ev_digits t (by omega)
        have he := val_err t.data.toList
        refine ⟨numV c (digits_Parse.val t.data.toList), Ev.bind hf ?_, ?_⟩
        · simp only [if_true]
          refine Ev.bind h1 ?_
          simp only [Bool.false_eq_true, if_false]
          refine Ev.bind h2 ?_
          simp only [if_true]
          refine Ev.bind hv ?_
          generalize digits_Parse.val t.data.toList = v at he
          obtain ⟨n, e⟩ := v
          unfold numV
          by_cases e0 : e = 0
          · subst e0
            by_cases c70 : c = 70
            · by_cases hn : n > 4294967295
              · simp only [if_true, if_pos c70, if_pos hn, if_pos (show n ≥ 4294967296 from by omega)]
                exact Ev.now _
              · simp only [if_true, if_pos c70, if_neg hn, if_neg (show ¬ n ≥ 4294967296 from by omega)]
                exact Ev.now _
            · simp only [if_true, if_neg c70]
              exact Ev.now _
          · obtain rfl : n = 0 := he e0
            have eb : (e == 0) = false := beq_eq_false_iff_ne.2 e0
            simp only [if_neg e0, eb, if_neg (show ¬ (0 : Int) ≥ 4294967296 from by omega), ite_self]
            exact Ev.now _
        · have hj : Ev (fun k => meta_Number.j0 k c t true) (numV c (digits_Parse.val t.data.toList)) := ev_end (fun k => by
            simp only [meta_Number.j0, if_true, parse_tot t hs, Option.bind_some]
            unfold numV
            repeat' split
            all_goals rfl)
          by_cases c70 : c = 70
          · refine hgo (u := 2) (by subst c70; exact ev_sort (fun k => rfl)) ?_
            simp only [if_neg (show ¬ (2 : Int) = 3 from by omega), if_neg (show ¬ (2 : Int) = 1 from by omega), beq_self_eq_true]
            exact hj
          · refine hgo (u := 1) ?_ ?_
            · rcases c1 with rfl | rfl | rfl | rfl | rfl
              · exact ev_sort (fun k => rfl)
              · exact ev_sort (fun k => rfl)
              · exact ev_sort (fun k => rfl)
              · exact absurd rfl c70
              · exact ev_sort (fun k => rfl)
            · simp only [if_neg (show ¬ (1 : Int) = 3 from by omega), if_true, beq_self_eq_true]
              exact hj
      · have e2 : ([67, 68, 69, 70, 74] : List UInt8).any (fun b => (b.toNat : Int) == c) = false := by
          simp only [List.any_cons, List.any_nil, Bool.or_false, Bool.or_eq_false_iff, beq_eq_false_iff_ne]
          exact ⟨fun e => c1 (.inl e.symm), fun e => c1 (.inr (.inl e.symm)), fun e => c1 (.inr (.inr (.inl e.symm))), fun e => c1 (.inr (.inr (.inr (.inl e.symm)))), fun e => c1 (.inr (.inr (.inr (.inr e.symm))))⟩
        rw [e2] at h2
        have hsort : ∃ u : Int, (u = 4 ∨ u = 5 ∨ u = 0) ∧ Ev (fun k => meta_sortOf.f k c) u := by
          have b1 : (c == 74) = false := beq_eq_false_iff_ne.2 (by omega)
          have b2 : (c == 84) = false := beq_eq_false_iff_ne.2 (by omega)
          have hj : ∀ {u : Int}, Ev (fun k => meta_sortOf.j1 k c false) u → Ev (fun k => meta_sortOf.f k c) u := fun h => by
            refine Ev.step (fun k => ?_) h
            unfold meta_sortOf.f
            rw [if_neg (by omega), if_neg (by omega), if_neg (by omega), b1]
            simp only [meta_sortOf.j0, Bool.false_eq_true, if_false]
            rw [if_neg (by omega), if_neg (by omega), if_neg (by omega), b2]
          by_cases a : c = 79
          · exact ⟨4, .inl rfl, hj (ev_end (fun k => by simp only [meta_sortOf.j1, Bool.false_eq_true, if_false]; rw [if_pos a]))⟩
          · by_cases a' : c = 77
            · exact ⟨5, .inr (.inl rfl), hj (ev_end (fun k => by simp only [meta_sortOf.j1, Bool.false_eq_true, if_false]; rw [if_neg a, if_pos a']))⟩
            · exact ⟨0, .inr (.inr rfl), hj (ev_end (fun k => by simp only [meta_sortOf.j1, Bool.false_eq_true, if_false]; rw [if_neg a, if_neg a']))⟩
        obtain ⟨u, hu, hsort⟩ := hsort
        refine ⟨(0, 0, false), Ev.bind hf ?_, hgo hsort ?_⟩
        · simp only [if_true]
          refine Ev.bind h1 ?_
          simp only [Bool.false_eq_true, if_false]
          refine Ev.bind h2 ?_
          simp only [Bool.false_eq_true, if_false]
          exact Ev.now _
        · simp only [if_neg (show ¬ u = 3 from by omega), if_neg (show ¬ u = 1 from by omega), show (u == 2) = false from beq_eq_false_iff_ne.2 (by omega)]
          exact ev_end (fun k => by simp only [meta_Number.j0, Bool.false_eq_true, if_false])
theorem ev_check (o : Int) (key : ByteArray) (sz : Int) (L : List S61) (hL : L.length ≤ 1000) (hk : key.size ≤ 1000) (ht : ∀ x ∈ L, x.f1.size ≤ 1000) : ∃ e, Ev (fun k => tallboyref27_Check.f k o key sz (L.map back)) e ∧ Ev (fun k => meta_Check.f k o key sz L) e := by
  obtain ⟨e, h1, h2⟩ := ev_form o key sz L hL hk ht
  unfold tallboyref27_Check.f meta_Check.f
  by_cases e0 : e = 0
  · subst e0
    by_cases h : sz > 2000
    · exact ⟨1, Ev.bind h1 (by simp only [if_true, if_pos h]; exact Ev.now _), Ev.bind h2 (by simp only [if_true, if_pos h]; exact Ev.now _)⟩
    · exact ⟨0, Ev.bind h1 (by simp only [if_true, if_neg h]; exact Ev.now _), Ev.bind h2 (by simp only [if_true, if_neg h]; exact Ev.now _)⟩
  · exact ⟨e, Ev.bind h1 (by simp only [if_neg e0]; exact Ev.now _), Ev.bind h2 (by simp only [if_neg e0]; exact Ev.now _)⟩
abbrev K5 : S59 → Int := fun z => z.f0
abbrev K6 : S61 → Int := fun z => z.f0
theorem rd5 (L : List S59) (i : Nat) (hi : i < L.length) : rd_T59 L (i : Int) = L[i] := by
  unfold rd_T59
  rw [Int.toNat_natCast, List.getD_eq_getElem?_getD, List.getElem?_eq_getElem hi]
  rfl
theorem ev_place (o : Int) (key : ByteArray) (sz : Int) (l acc : List S59) (hl : l.length ≤ 1000) (ha : acc.length ≤ 1000) (hr : Srt.Rising K5 acc) (i : Nat) (hi : i < l.length) {r : Int × ByteArray × Int × List S59} : ∀ p : Nat, p ≤ acc.length → (∀ y ∈ acc.drop p, (l[i]).f0 < y.f0) →
    (∀ q, q ≤ acc.length → (∀ y ∈ acc.take q, y.f0 ≤ (l[i]).f0) → (∀ y ∈ acc.drop q, (l[i]).f0 < y.f0) → Ev (fun k => tallboyref27_Canon.l0 k (acc.take q ++ [l[i]] ++ acc.drop q) ((i + 1 : Nat) : Int) o key sz l) r) →
    Ev (fun k => tallboyref27_Canon.l1 k acc (i : Int) (p : Int) o key sz l) r
  | 0, hp, hd, hq => by
    have h := hq 0 hp (fun y hy => by rw [List.take_zero] at hy; cases hy) hd
    refine Ev.step (fun k => ?_) h
    simp only [tallboyref27_Canon.l1]
    rw [if_neg (by omega)]
    simp only [Option.bind_some]
    rw [if_pos (by omega), if_pos (by omega)]
    simp only [Int.toNat_natCast, List.take_zero, List.drop_zero, List.append_nil, List.nil_append, List.length_nil, List.length_cons]
    rw [if_pos (by omega), if_pos (by omega), if_pos (by omega), if_pos (by omega), if_pos (by omega), wrap_at i (by omega), rd5 l i hi]
  | p + 1, hp, hd, hq => by
    have hpa : p < acc.length := by omega
    have hw : wrap64 (((p + 1 : Nat) : Int) - 1) = (p : Int) := by unfold wrap64; omega
    by_cases hc : (acc[p]).f0 > (l[i]).f0
    · have ih := ev_place o key sz l acc hl ha hr i hi p (by omega) (fun y hy => by
        rw [List.drop_eq_getElem_cons hpa] at hy
        rcases List.mem_cons.1 hy with rfl | hy
        · exact hc
        · exact hd y hy) hq
      refine Ev.step (fun k => ?_) ih
      simp only [tallboyref27_Canon.l1]
      rw [if_pos (by omega), hw, if_pos (by omega), if_pos (by omega), if_pos (by omega), if_pos (by omega), rd5 acc p hpa, rd5 l i hi, if_pos hc]
    · have h := hq (p + 1) hp (fun y hy => by
        obtain ⟨j, hj, rfl⟩ := List.mem_iff_getElem.1 hy
        rw [List.length_take] at hj
        rw [List.getElem_take]
        have := Srt.rising_le hr (i := j) (j := p) (by omega) hpa
        have e : (acc[j]).f0 ≤ (acc[p]).f0 := this
        omega) hd
      refine Ev.step (fun k => ?_) h
      simp only [tallboyref27_Canon.l1]
      rw [if_pos (by omega), hw, if_pos (by omega), if_pos (by omega), if_pos (by omega), if_pos (by omega), rd5 acc p hpa, rd5 l i hi, if_neg hc]
      simp only [Option.bind_some]
      rw [if_pos (by omega), if_pos (by omega)]
      simp only [Int.toNat_natCast, List.nil_append, List.length_nil, List.length_append, List.length_take, List.length_drop, List.length_cons]
      rw [if_pos (by omega), if_pos (by omega), if_pos (by omega), wrap_at i (by omega)]
theorem ev_canon_l (o : Int) (key : ByteArray) (sz : Int) (l : List S59) (hl : l.length ≤ 1000) : ∀ (n i : Nat) (acc : List S59), n + i = l.length → acc.length = i → Srt.Rising K5 acc → Srt.Same K5 (l.take i) acc →
    ∃ fin, Ev (fun k => tallboyref27_Canon.l0 k acc (i : Int) o key sz l) (o, key, sz, fin) ∧ Srt.Rising K5 fin ∧ Srt.Same K5 l fin
  | 0, i, acc, h, ha, hr, hs => by
    refine ⟨acc, ev_end (fun k => by simp only [tallboyref27_Canon.l0]; rw [if_neg (by omega)]), hr, ?_⟩
    rw [List.take_of_length_le (by omega)] at hs
    exact hs
  | n + 1, i, acc, h, ha, hr, hs => by
    have hi : i < l.length := by omega
    -- where it goes
    have hex : ∃ q, q ≤ acc.length ∧ (∀ y ∈ acc.take q, y.f0 ≤ (l[i]).f0) ∧ (∀ y ∈ acc.drop q, (l[i]).f0 < y.f0) := by
      have : ∀ p, p ≤ acc.length → (∀ y ∈ acc.drop p, (l[i]).f0 < y.f0) → ∃ q, q ≤ acc.length ∧ (∀ y ∈ acc.take q, y.f0 ≤ (l[i]).f0) ∧ (∀ y ∈ acc.drop q, (l[i]).f0 < y.f0) := by
        intro p
        induction p with
        | zero => exact fun hp hd => ⟨0, hp, (fun y hy => by rw [List.take_zero] at hy; cases hy), hd⟩
        | succ p ih =>
          intro hp hd
          have hpa : p < acc.length := by omega
          by_cases hc : (acc[p]).f0 > (l[i]).f0
          · exact ih (by omega) (fun y hy => by
              rw [List.drop_eq_getElem_cons hpa] at hy
              rcases List.mem_cons.1 hy with rfl | hy
              · exact hc
              · exact hd y hy)
          · exact ⟨p + 1, hp, (fun y hy => by
              obtain ⟨j, hj, rfl⟩ := List.mem_iff_getElem.1 hy
              rw [List.length_take] at hj
              rw [List.getElem_take]
              have := Srt.rising_le hr (i := j) (j := p) (by omega) hpa
              have e : (acc[j]).f0 ≤ (acc[p]).f0 := this
              omega), hd⟩
      exact this acc.length (Nat.le_refl _) (fun y hy => by rw [List.drop_of_length_le (Nat.le_refl _)] at hy; cases hy)
    obtain ⟨q, hq, h1, h2⟩ := hex
    have hsame : Srt.Same K5 (l.take (i + 1)) (acc.take q ++ [l[i]] ++ acc.drop q) := by
      rw [List.take_add_one, List.getElem?_eq_getElem hi]
      refine (hs.append (Srt.Same.refl [l[i]])).trans ?_
      have e : acc ++ [l[i]] = acc.take q ++ (acc.drop q ++ [l[i]]) := by rw [← List.append_assoc, List.take_append_drop]
      rw [e, List.append_assoc]
      exact (Srt.Same.refl _).append (Srt.Same.turn (fun a ha b hb => by rw [List.mem_singleton.1 hb]; exact h2 a ha))
    have hrise : Srt.Rising K5 (acc.take q ++ [l[i]] ++ acc.drop q) := by
      have hpw : (acc.take q ++ acc.drop q).Pairwise (fun x y => K5 x ≤ K5 y) := by rw [List.take_append_drop]; exact hr
      obtain ⟨p1, p2, p3⟩ := List.pairwise_append.1 hpw
      refine List.pairwise_append.2 ⟨List.pairwise_append.2 ⟨p1, List.pairwise_singleton _ _, fun a ha b hb => by rw [List.mem_singleton.1 hb]; exact h1 a ha⟩, p2, fun a ha b hb => ?_⟩
      rcases List.mem_append.1 ha with ha | ha
      · exact p3 a ha b hb
      · rw [List.mem_singleton.1 ha]
        have := h2 b hb
        show (l[i]).f0 ≤ b.f0
        omega
    obtain ⟨fin, hf, hfr, hfs⟩ := ev_canon_l o key sz l hl n (i + 1) _ (by omega) (by simp only [List.length_append, List.length_take, List.length_drop, List.length_cons, List.length_nil]; omega) hrise hsame
    refine ⟨fin, Ev.step (f := fun k => tallboyref27_Canon.l1 k acc (i : Int) (acc.length : Int) o key sz l) (fun k => ?_) ?_, hfr, hfs⟩
    · simp only [tallboyref27_Canon.l0]
      rw [if_pos (by omega)]
    · refine ev_place o key sz l acc hl (by omega) hr i hi acc.length (Nat.le_refl _) (fun y hy => by rw [List.drop_of_length_le (Nat.le_refl _)] at hy; cases hy) (fun q' hq' h1' h2' => ?_)
      have : acc.take q' ++ [l[i]] ++ acc.drop q' = acc.take q ++ [l[i]] ++ acc.drop q := by
        have : q' = q := by
          rcases Nat.lt_trichotomy q' q with h | h | h
          · exfalso
            have hlt : q' < acc.length := by omega
            have a1 := h1 acc[q'] (List.mem_iff_getElem.2 ⟨q', by rw [List.length_take]; omega, List.getElem_take ..⟩)
            have a2 := h2' acc[q'] (by rw [List.drop_eq_getElem_cons hlt]; exact List.mem_cons_self)
            omega
          · exact h
          · exfalso
            have hlt : q < acc.length := by omega
            have a1 := h1' acc[q] (List.mem_iff_getElem.2 ⟨q, by rw [List.length_take]; omega, List.getElem_take ..⟩)
            have a2 := h2 acc[q] (by rw [List.drop_eq_getElem_cons hlt]; exact List.mem_cons_self)
            omega
        rw [this]
      rw [this]
      exact hf
theorem rising_back {L : List S61} (h : Srt.Rising K6 L) : Srt.Rising K5 (L.map back) := List.pairwise_map.2 h
theorem same_back {L L' : List S61} (h : Srt.Same K6 L L') : Srt.Same K5 (L.map back) (L'.map back) := fun c => by
  rw [List.filter_map, List.filter_map]
  exact congrArg _ (h c)
theorem ev_canon (o : Int) (key : ByteArray) (sz : Int) (L : List S61) (hL : L.length ≤ 1000) : Ev (fun k => tallboyref27_Canon.f k o key sz (L.map back)) (o, key, sz, (meta_Canon.srt L).map back) := by
  obtain ⟨fin, h, hr, hs⟩ := ev_canon_l o key sz (L.map back) (by rw [List.length_map]; exact hL) L.length 0 [] (by rw [List.length_map]; omega) rfl List.Pairwise.nil (by rw [List.take_zero]; exact Srt.Same.refl _)
  obtain ⟨hr', hs'⟩ := meta_Canon.srt_ok L
  have e : fin = (meta_Canon.srt L).map back := Srt.unique (key := K5) _ rfl hr (rising_back hr') (hs.symm.trans (same_back hs'))
  rw [← e]
  exact h
theorem from_l0 (o : Int) (key : ByteArray) (sz : Int) (l : List S61) (hl : l.length ≤ 200) : ∀ (n k i : Nat), n + i = l.length → n < k →
    tallboylaw27_From.l0 k (i : Int) o key sz l o key sz ((l.take i).map back) = some (o, key, sz, l.map back)
  | n, 0, i, _, h => absurd h (by omega)
  | 0, k + 1, i, h, _ => by
    simp only [tallboylaw27_From.l0]
    rw [if_neg (by omega), List.take_of_length_le (by omega)]
  | n + 1, k + 1, i, h, hk => by
    have ih := from_l0 o key sz l hl n k (i + 1) (by omega) (by omega)
    have e : (l.take (i + 1)).map back = (l.take i).map back ++ [⟨(rd_T61 l (i : Int)).f0, (rd_T61 l (i : Int)).f1⟩] := by
      have hi : i < l.length := by omega
      rw [List.take_add_one, List.getElem?_eq_getElem hi, List.map_append]
      congr 1
      unfold rd_T61
      rw [Int.toNat_natCast, List.getD_eq_getElem?_getD, List.getElem?_eq_getElem hi]
      rfl
    simp only [tallboylaw27_From.l0]
    rw [if_pos (by omega), if_pos (by omega), if_pos (by rw [List.length_map, List.length_take]; omega), wrap_at i (by omega), ← e]
    exact ih
theorem from_eq (o : Int) (key : ByteArray) (sz : Int) (l : List S61) (hl : l.length ≤ 200) (k : Nat) (hk : 210 ≤ k) : tallboylaw27_From.f k o key sz l = some (o, key, sz, l.map back) :=
  from_l0 o key sz l hl l.length k 0 (by omega) (by omega)
theorem same_l0 (o : Int) (key : ByteArray) (sz : Int) (l : List S59) (hl : l.length ≤ 200) : ∀ (n k i : Nat), n + i = l.length → n < k → tallboyref27_Same.l0 k (i : Int) o key sz l o key sz l = some true
  | n, 0, i, _, h => absurd h (by omega)
  | 0, k + 1, i, h, _ => by
    simp only [tallboyref27_Same.l0]
    rw [if_neg (by omega)]
  | n + 1, k + 1, i, h, hk => by
    have ih := same_l0 o key sz l hl n k (i + 1) (by omega) (by omega)
    simp only [tallboyref27_Same.l0]
    rw [if_pos (by omega), if_pos (by omega), if_pos (by omega), if_neg (by simp), wrap_at i (by omega)]
    exact ih
theorem same_self (o : Int) (key : ByteArray) (sz : Int) (l : List S59) (hl : l.length ≤ 200) (k : Nat) (hk : 210 ≤ k) : tallboyref27_Same.f k o key sz l o key sz l = some true := by
  obtain ⟨k, rfl⟩ : ∃ j, k = j + 1 := ⟨k - 1, by omega⟩
  unfold tallboyref27_Same.f
  rw [if_pos rfl, if_pos rfl, if_pos rfl, show ((l.length : Int) != (l.length : Int)) = false from by simp]
  simp only [tallboyref27_Same.j0, Bool.false_eq_true, if_false]
  exact same_l0 o key sz l hl l.length k 0 (by omega) (by omega)
theorem conv_back (l : List S59) : (l.map conv).map back = l := by
  rw [List.map_map]
  exact List.map_id _
theorem law_true (o : Int) (key : ByteArray) (sz : Int) (l : List S59) (a1 : Int) : ∃ k, tallboylaw27_MetaChecks.f k o key sz l a1 = some true := by
  obtain ⟨g, hg, hG⟩ := great_tot o key sz l 4000 (by omega)
  cases g with
  | true => exact ⟨4000, by unfold tallboylaw27_MetaChecks.f; rw [hg]; rfl⟩
  | false =>
    obtain ⟨hl, hks, hts⟩ := hG rfl
    have hb := conv_back l
    have hL : (l.map conv).length ≤ 200 := by rw [List.length_map]; omega
    have hm : ∀ x ∈ l.map conv, x.f1.size ≤ 1000 := fun x hx => by
      obtain ⟨y, hy, rfl⟩ := List.mem_map.1 hx
      exact hts y hy
    have hS : meta_Canon.f o key sz (l.map conv) = some (o, key, sz, meta_Canon.srt (l.map conv)) := by
      unfold meta_Canon.f
      rw [if_pos (by omega)]
    have hSl : (meta_Canon.srt (l.map conv)).length = (l.map conv).length := (meta_Canon.srt_ok (l.map conv)).2.length rfl
    obtain ⟨wt, we, ⟨k1, w1⟩, ⟨k2, w2⟩⟩ := ev_write o key sz (l.map conv) hL hks hm
    obtain ⟨nr, ⟨k3, n1⟩, ⟨k4, n2⟩⟩ := ev_number o key sz (l.map conv) (by omega) hm a1
    obtain ⟨ce, ⟨k5, c1⟩, ⟨k6, c2⟩⟩ := ev_check o key sz (l.map conv) (by omega) hks hm
    obtain ⟨k7, f1⟩ := ev_findV o key sz (l.map conv) (by omega) a1
    have f2 := find_is o key sz (l.map conv) a1
    obtain ⟨k8, s1⟩ := ev_canon o key sz (l.map conv) (by omega)
    rw [hb] at w1 n1 c1 f1 s1
    generalize meta_Canon.srt (l.map conv) = S at hS hSl s1
    generalize hK : 4000 + k1 + k2 + k3 + k4 + k5 + k6 + k7 + k8 = K
    have g' : tallboylaw27_Great.f K o key sz l = some false := by
      obtain ⟨g, hg', _⟩ := great_tot o key sz l K (by omega)
      have := up (fun k => tallboylaw27_Great.f k o key sz l) (fun k => tallboylaw27_Great.mono _ _ _ _ k) hg (K - 4000)
      rwa [show 4000 + (K - 4000) = K from by omega] at this
    have t' := to_eq o key sz l (by omega) K (by omega)
    have w1' : tallboyref27_Write.f K o key sz l = some (wt, we) := w1 K (by omega)
    have w2' : meta_Write.f K o key sz (l.map conv) = some (wt, we) := w2 K (by omega)
    have n1' : tallboyref27_Number.f K o key sz l a1 = some nr := n1 K (by omega)
    have n2' : meta_Number.f K o key sz (l.map conv) a1 = some nr := n2 K (by omega)
    have c1' : tallboyref27_Check.f K o key sz l = some ce := c1 K (by omega)
    have c2' : meta_Check.f K o key sz (l.map conv) = some ce := c2 K (by omega)
    have f1' : tallboyref27_Find.f K o key sz l a1 = some (findV (l.map conv) a1) := f1 K (by omega)
    have s1' : tallboyref27_Canon.f K o key sz l = some (o, key, sz, S.map back) := s1 K (by omega)
    have r' := from_eq o key sz S (by omega) K (by omega)
    have q' := same_self o key sz (S.map back) (by rw [List.length_map]; omega) K (by omega)
    refine ⟨K, ?_⟩
    unfold tallboylaw27_MetaChecks.f
    simp only [g', t', w1', w2', n1', n2', c1', c2', f1', f2, hS, s1', r', q', Option.bind_some, Bool.false_eq_true, if_false, if_true, beq_self_eq_true]
end Go.Proofs.YtfboejlemnfndaaGreatDoor.XMk
end
section
namespace Go.Proofs.YtfboejlemnfndaaGreatDoor
open Go.RowKit Go.Proofs.YtfboejlemnfndaaGreatDoorW.PrintWords

def Opens (P : Program) (t : TypeId) {α : Type} (d : Kd α) (Q : α → Prop) : Prop :=
  ∀ (H : Type) (enc : TypeId × Value → H) (w : World) (base : Nat) (spare : Nat → Bool) (held : Bool) (fuel : Nat) (cs : List Value) (x : DataW H × List MemPlace),
    DataW.trod enc P w base spare held fuel t cs = some x → ∃ v, d.K w v cs ∧ Q v
def OpensAt (P : Program) (fs : List Field) (off : Nat) {α : Type} (d : Kd α) (Q : α → Prop) : Prop :=
  ∀ (H : Type) (enc : TypeId × Value → H) (w : World) (base : Nat) (spare : Nat → Bool) (held : Bool) (n : Nat) (cs : List Value), cs.length = off + d.sz →
    (∀ f ∈ fs, ∃ x, DataW.trod enc P w base spare held n f.type ((cs.drop f.offset).take (P.cellsOf f.type)) = some x) → ∃ v, d.K w v (cs.drop off) ∧ Q v
section
variable {P : Program} {t e : TypeId} {α β : Type} {d : Kd α} {d0 : Kd α} {d1 : Kd β} {Q : α → Prop} {Q1 : β → Prop}
theorem opens_int {k : IntKind} (ht : P.underlying t = some (.int k)) : Opens P t (Kd.int k) (fun n => (Lit.int k n).wf = true) := by
  intro H enc w base spare held fuel cs x h
  obtain ⟨n, rfl, _, hw⟩ := DataW.trod_int ht h
  exact ⟨n, rfl, hw⟩
theorem opens_bool (ht : P.underlying t = some .bool) : Opens P t Kd.bool (fun _ => True) := by
  intro H enc w base spare held fuel cs x h
  obtain ⟨n, rfl, _⟩ := DataW.trod_bool ht h
  exact ⟨n, rfl, trivial⟩
theorem opens_string (ht : P.underlying t = some .string) : Opens P t Kd.string (fun s => s.size ≤ maxLen) := by
  intro H enc w base spare held fuel cs x h
  obtain ⟨s, rfl, _, hs⟩ := DataW.trod_string ht h
  exact ⟨s, rfl, hs⟩
theorem opens_iso {γ : Type} (h : Opens P t d Q) (f : γ → α) (g : α → γ) (hg : ∀ a, f (g a) = a) : Opens P t (Kd.iso d f) (fun b => Q (f b)) := by
  intro H enc w base spare held fuel cs x hx
  obtain ⟨v, hv, hq⟩ := h H enc w base spare held fuel cs x hx
  exact ⟨g v, (show d.K w (f (g v)) cs by rw [hg]; exact hv), show Q (f (g v)) by rw [hg]; exact hq⟩
theorem opensAt_one {f : Field} {off : Nat} (ho : f.offset = off) (hc : P.cellsOf f.type = d.sz) (h : Opens P f.type d Q) : OpensAt P [f] off d Q := by
  intro H enc w base spare held n cs hl hf
  obtain ⟨x, hx⟩ := hf f List.mem_cons_self
  rw [ho, hc, List.take_of_length_le (by rw [List.length_drop]; omega)] at hx
  exact h H enc w base spare held n _ x hx
theorem opensAt_cons {f : Field} {fs : List Field} {off : Nat} (ho : f.offset = off) (hc : P.cellsOf f.type = d0.sz) (h0 : Opens P f.type d0 Q) (h1 : OpensAt P fs (off + d0.sz) d1 Q1) :
    OpensAt P (f :: fs) off (Kd.pair d0 d1) (fun v => Q v.1 ∧ Q1 v.2) := by
  intro H enc w base spare held n cs hl hf
  have hsz : (Kd.pair d0 d1).sz = d0.sz + d1.sz := rfl
  obtain ⟨x, hx⟩ := hf f List.mem_cons_self
  rw [ho, hc] at hx
  obtain ⟨a, ha, hq⟩ := h0 H enc w base spare held n _ x hx
  obtain ⟨b, hb, hq1⟩ := h1 H enc w base spare held n cs (by omega) (fun g hg => hf g (List.mem_cons_of_mem _ hg))
  refine ⟨(a, b), ⟨_, _, ?_, ha, hb⟩, hq, hq1⟩
  rw [← List.drop_drop]
  exact (List.take_append_drop _ _).symm
theorem opens_struct {fs : List Field} (ht : P.underlying t = some (.struct fs.toArray)) (hc : P.cellsOf t = d.sz) (h : OpensAt P fs 0 d Q) : Opens P t d Q := by
  intro H enc w base spare held fuel cs x hx
  obtain ⟨xs, n, _, _, hl, hlen, hf⟩ := DataW.trod_struct ht hx
  have := h H enc w base spare held n cs (by omega) (by
    intro f hm
    obtain ⟨i, hi, rfl⟩ := List.mem_iff_getElem.1 hm
    have e := hf i fs[i] (by rw [List.getElem?_toArray, List.getElem?_eq_getElem hi])
    rw [List.size_toArray] at hlen
    rw [List.getElem?_eq_getElem (by omega)] at e
    exact ⟨_, e⟩)
  simpa using this
theorem list_of {R : Nat → α → Prop} : ∀ n : Nat, (∀ i, i < n → ∃ v, R i v) → ∃ xs : List α, xs.length = n ∧ ∀ i v, xs[i]? = some v → R i v
  | 0, _ => ⟨[], rfl, fun i v h => by simp at h⟩
  | n + 1, h => by
    obtain ⟨xs, hl, hx⟩ := list_of n fun i hi => h i (by omega)
    obtain ⟨v, hv⟩ := h n (by omega)
    refine ⟨xs ++ [v], by rw [List.length_append, hl]; rfl, fun i u hu => ?_⟩
    rcases Nat.lt_or_ge i xs.length with hi | hi
    · rw [List.getElem?_append_left hi] at hu; exact hx i u hu
    · rw [List.getElem?_append_right hi] at hu
      rcases Nat.eq_zero_or_pos (i - xs.length) with h0 | h0
      · rw [h0] at hu
        obtain rfl : v = u := by simpa using hu
        rw [show i = n from by omega]; exact hv
      · rw [List.getElem?_eq_none (by simp; omega)] at hu; cases hu
theorem opens_slice (ht : P.underlying t = some (.slice e)) (hc : P.cellsOf e = d.sz) (h : Opens P e d Q) : Opens P t (Kd.slice e d) (fun xs => (∀ x ∈ xs, Q x) ∧ xs.length ≤ maxLen) := by
  intro H enc w base spare held fuel cs x hx
  rcases DataW.trod_slice ht hx with ⟨rfl, _⟩ | ⟨a, len, cap, elems, rest, n, _, rfl, rfl, hb, hl, hm, hlen, hel, _, _⟩
  · exact ⟨[], ⟨none, 0, rfl, Nat.le_refl _, rfl, Nat.zero_le _, fun h => absurd h (Nat.lt_irrefl 0)⟩, fun x hx => absurd hx List.not_mem_nil, Nat.zero_le _⟩
  · obtain ⟨xs, hxl, hxs⟩ := list_of (R := fun i v => (∃ c : List Value, c.length = d.sz ∧ d.K w v c ∧ ∀ j u, c[j]? = some u → w.cell? (a.add (i * d.sz + j)) = some u) ∧ Q v) len (by
      intro i hi
      have e1 := hel i hi
      rw [List.getElem?_eq_getElem (by omega)] at e1
      obtain ⟨c, hcs, hcd⟩ := Option.bind_eq_some_iff.1 e1
      obtain ⟨v, hv, hq⟩ := h H enc w base spare held n c _ hcd
      obtain ⟨q1, q2, q3⟩ := World.cells?_some hcs
      refine ⟨v, ⟨c, by rw [← hc]; exact q2, hv, fun j u hu => ?_⟩, hq⟩
      have hj : j < P.cellsOf e := by
        rcases Nat.lt_or_ge j c.length with h' | h'
        · omega
        · rw [List.getElem?_eq_none h'] at hu; cases hu
      have := q3 j hj
      rw [Addr.add_add, hc] at this
      rw [this, hu])
    refine ⟨xs, ⟨some a, cap, by rw [hxl], by omega, rfl, by rw [hxl]; unfold maxLen at hm; omega, fun _ => ⟨a, rfl, fun j p hp => (hxs j p hp).1⟩⟩, fun x hx => ?_, by omega⟩
    obtain ⟨i, hi, rfl⟩ := List.mem_iff_getElem.1 hx
    exact (hxs i _ (List.getElem?_eq_getElem hi)).2
end
end Go.Proofs.YtfboejlemnfndaaGreatDoor
end
section
namespace Go.Proofs.YtfboejlemnfndaaGreatDoor.metaChecks
open Go.ChangeShapes Go.WideShapes Go.ChangeAt Go.RowKit
open Go.ChangeMaps (open_string shut_string)

theorem own : ownKnob Tryz.prog.godebug = none := by kernel_rfl
theorem laid_met (os : Os) (args : Array Value) : laidMetH Tryz.prog Rows.metaChecksRow.laid ((World.laidAll Tryz.prog os Rows.metaChecksRow.laid).forCall (fun _ _ => 0) ⟨#[], args, []⟩).memory := by
  rw [MakeChecks.laidMetH_plain _ _ _ (by kernel_rfl)]
  exact laidMet_laidAll _ (by kernel_rfl) (by kernel_rfl)
theorem shaped (os : Os) (args : Array Value) : ((World.laidAll Tryz.prog os Rows.metaChecksRow.laid).forCall (fun _ _ => 0) ⟨#[], args, []⟩).Shaped Tryz.prog :=
  World.shaped_of_ZipB (by kernel_rfl) (by kernel_rfl)

theorem laidOut : laidOutB Tryz.prog = true := by kernel_rfl
theorem star : "*" ++ "errors.errorString" = "*errors.errorString" := by decide
theorem star_row (u : TypeId) (h : Tryz.prog.typeName? 3 u = some "*errors.errorString") : u = 161 :=
  typeName_ptr_named (nm := "errors.errorString") (by rw [star]; kernel_rfl) (by kernel_rfl) (by decide) u (by rw [star]; exact h)
theorem vars_of {W : World} (h : laidMetH Tryz.prog Rows.metaChecksRow.laid W) (hsh : W.ShapedOpen Tryz.prog) : Vars W := by
  rw [MakeChecks.laidMetH_plain _ _ _ (by kernel_rfl)] at h
  obtain ⟨a0, s0, h0, -, -, -⟩ := laid_sentinel h.tail.tail.tail gRange (ti := 95) (by kernel_rfl) Tryz.underlying95 star_row Tryz.underlying161 Tryz.underlying163 rfl rfl Tryz.underlying9 (by kernel_rfl) (by kernel_rfl)
  obtain ⟨a1, s1, h1, -, -, -⟩ := laid_sentinel h.tail.tail.tail.tail gSyntax (ti := 95) (by kernel_rfl) Tryz.underlying95 star_row Tryz.underlying161 Tryz.underlying163 rfl rfl Tryz.underlying9 (by kernel_rfl) (by kernel_rfl)
  exact ⟨trivial, Lib.tabIs_of_head gPow (by kernel_rfl) Tryz.underlying153 Tryz.underlying34 (by kernel_rfl) (by kernel_rfl) h.tail.tail,
    cell_of_shapedOpen_int (P := Tryz.prog) (g := 1) (t := 3) (zero := #[.int .i64 0]) hsh (of_decide_eq_true (by kernel_rfl)) (by kernel_rfl) rfl (by kernel_rfl) (by kernel_rfl) Tryz.underlying3, ⟨_, _, h1⟩, ⟨_, _, h0⟩⟩
open Go.Proofs.YtfboejlemnfndaaGreatDoorW.PrintWords in
theorem opens_arg : Opens Tryz.prog 24 (Kd.pair (Kd.int .i64) (Kd.pair Kd.string (Kd.pair (Kd.int .i64) (Kd.slice 59 XMk.k59)))) (fun _ => True) := by
  intro H enc w base spare held fuel cs x hx
  have hF : Opens Tryz.prog 59 XMk.k59 _ := opens_iso (opens_struct Tryz.underlying59 (by kernel_rfl) (opensAt_cons rfl (by kernel_rfl) (opens_int Tryz.underlying5) (opensAt_one rfl (by kernel_rfl) (opens_string Tryz.underlying9)))) _ (fun a => ⟨a.1, a.2⟩) (fun _ => rfl)
  obtain ⟨v, hv, _⟩ := opens_struct Tryz.underlying24 (by kernel_rfl) (opensAt_cons rfl (by kernel_rfl) (opens_int Tryz.underlying3) (opensAt_cons rfl (by kernel_rfl) (opens_string Tryz.underlying9) (opensAt_cons rfl (by kernel_rfl) (opens_int Tryz.underlying3) (opensAt_one rfl (by kernel_rfl) (opens_slice Tryz.underlying22 (by kernel_rfl) hF))))) H enc w base spare held fuel cs x hx
  exact ⟨v, hv, trivial⟩
set_option maxRecDepth 100000 in
theorem lifted (os : Os) (started : os.Started) (H : Type) (enc : TypeId × Value → H) (F : Stop.Interp) :
    ReturnsInHanded {} Tryz.checked os 3 .any ((OpenSpec.ofChange Rows.metaChecksSpec).preRow enc Tryz.prog Tryz.f3 Rows.metaChecksRow.domain false Rows.metaChecksRow.laid) (((OpenSpec.ofChange Rows.metaChecksSpec).at F).post enc Tryz.prog Tryz.f3 false true false false) := by
  refine returnsInHanded_of_row (C := Tryz.checked) (s := OpenSpec.ofChange Rows.metaChecksSpec) own started (by kernel_rfl) Tryz.func3
    (ChangeSpec.witness_shaped (enc := enc) (C := Tryz.checked) (os := os) (s := Rows.metaChecksSpec) (X := fun w _ => laidMetH Tryz.prog Rows.metaChecksRow.laid w) false (World.laidAll Tryz.prog os Rows.metaChecksRow.laid) #[.agg #[.int .i64 0, .string ByteArray.empty, .int .i64 0, .slice none 0 0], .int .u8 0] 8 (World.laidAll_os _ _ _)
      (shaped os _) (by kernel_rfl) (by kernel_rfl) (by kernel_rfl) (laid_met os _)) ?_
  intro W base args ds gs before hval0 hW _ _ hsz0 hL hsh _
  have hsz : (DataW.weightsEach Tryz.prog (Tryz.f3.params.toList ++ Rows.metaChecksSpec.plain.varTypes Tryz.prog) (ds ++ gs)).all (· ≤ reachBytes) = true := hsz0
  have hval : ∀ (j : Nat) t v, Tryz.f3.params[j]? = some t → args[j]? = some v → Value.okWide Tryz.prog W .any base t v := hval0
  have hW' := hW
  obtain ⟨p, q, hA0, hV, rfl, hfz, hnd⟩ := hW
  have hA : DataW.TrodAll enc Tryz.prog W 0 (fun _ => true) true Tryz.f3.params.toList args.toList ds p := hA0
  rw [Tryz.params3] at hA hval hsz
  obtain ⟨v0, vs0, d0, ds0, p0, q0, hargs, rfl, rfl, h0, r0⟩ := trodAll_cons hA
  obtain ⟨v1, vs1, d1, ds1, p1, q1, rfl, rfl, rfl, h1, r1⟩ := trodAll_cons r0
  obtain ⟨rfl, rfl, rfl⟩ := trodAll_nil r1
  obtain rfl : args = #[v0, v1] := by cases args; simp_all
  obtain ⟨rfl, rfl⟩ := trodVars_none hV
  have k0 := h0
  have k1 := h1
  have lt0 : ∀ x ∈ p0, x.block < W.heap.size := by obtain ⟨m, hm⟩ := k0; exact DataW.trod_lt m _ _ _ hm
  have lt1 : ∀ x ∈ p1, x.block < W.heap.size := by obtain ⟨m, hm⟩ := k1; exact DataW.trod_lt m _ _ _ hm
  obtain ⟨cs, rfl, _⟩ := okWide_struct Tryz.underlying24 (hval 0 24 v0 rfl rfl)
  obtain ⟨at_, rfl, rfl, rfl, -⟩ := open_int Tryz.underlying5 (hval 1 5 v1 rfl rfl) h1
  obtain ⟨fuel, hf⟩ := h0
  obtain ⟨⟨o, key, sz, l⟩, hK, -⟩ := opens_arg H enc W 0 _ true fuel _ _ hf
  obtain ⟨c0, c1, e0, rfl, c2, c3, rfl, rfl, c4, c5, rfl, rfl, A, c, rfl, hc, hC⟩ := hK
  have ecs : cs = #[.int .i64 o, .string key, .int .i64 sz, .slice A l.length c] := Array.toList_inj.1 e0
  subst ecs
  clear hA0 hval0 hsz0 hsz hf e0
  have hv : Vars W := vars_of hL hsh
  obtain ⟨k, hk⟩ := XMk.law_true o key sz l at_
  refine (XMk.tallboylaw27_MetaChecks.calls k o key sz A c l at_ true W hC hc hv hk rfl).mono fun e W' ⟨he, bel⟩ => ?_
  subst he
  exact ⟨_, rfl, _, _, _, [], _, [], hW', trodAll_mk1 (shut_bool Tryz.underlying4 _), (trodAll_cons_mk (Below.trod laidOut (by kernel_rfl) (of_decide_eq_true (by kernel_rfl)) k0 bel lt0) (trodAll_cons_mk (Below.trod laidOut (by kernel_rfl) (of_decide_eq_true (by kernel_rfl)) k1 bel lt1) trodAll_mk0)), rfl, bel.frame _, fun h => by cases h⟩

theorem said : Rows.MetaChecksSaid :=
  OpenClaim.holds_of_cond 3 Tryz.f3 rfl rfl rfl rfl rfl rfl rfl ⟨rfl, rfl, rfl, rfl, rfl⟩ rfl rfl rfl rfl rfl (by kernel_rfl) Tryz.func3 (by kernel_rfl)
    (of_decide_eq_true (by kernel_rfl)) (by unfold Func.isWrapper; first | (rw [if_pos (by decide +kernel)]; kernel_rfl) | (rw [if_neg (by decide +kernel)]; exact ⟨rfl, rfl⟩))
    (fun os started H enc _ F => by rw [OpenClaim.pre_eq_preRow]; exact lifted os started H enc F)

theorem plain (f : FuncId) (fn : Func) (hf : Tryz.pinned.checked.prog.funcNamed "tallboy/tallboylaw27.MetaChecks" = some f) (hfn : Tryz.pinned.checked.prog.funcs[f]? = some fn) :
    true = Tryz.pinned.checked.prog.looks [] ∧ ∀ (j : Nat) t, fn.params[j]? = some t → Tryz.pinned.checked.prog.wantsStandIn t = false := by
  obtain rfl : f = 3 := Option.some.inj ((show Tryz.prog.funcNamed "tallboy/tallboylaw27.MetaChecks" = some 3 by kernel_rfl).symm.trans hf) |>.symm
  obtain rfl : fn = Tryz.f3 := (Option.some.inj (Tryz.func3.symm.trans hfn)).symm
  refine ⟨by kernel_rfl, fun j t ht => ?_⟩
  rw [Tryz.params3] at ht
  have hm := Array.mem_of_getElem? ht
  have hall : (Tryz.f3.params.toList.all fun u => !Tryz.prog.wantsStandIn u) = true := by kernel_rfl
  rw [Tryz.params3] at hall
  exact (show Tryz.prog.wantsStandIn t = false by simpa using List.all_eq_true.1 hall t (by simpa using hm))

theorem card : Rows.MetaChecksCardSaid :=
  Claim7.holds_tied_plain_at .later [] _ _ _ _ said (fun _ h => by cases h) (by kernel_rfl) (fun _ h => by cases h) metaChecks_row_tie rfl ⟨rfl, rfl⟩ (by kernel_rfl) rfl plain (by kernel_rfl)
end Go.Proofs.YtfboejlemnfndaaGreatDoor.metaChecks
namespace Go.Proofs.YtfboejlemnfndaaGreatDoor
theorem metaChecks_card : Rows.MetaChecksCardSaid := metaChecks.card
#print axioms metaChecks_card
end Go.Proofs.YtfboejlemnfndaaGreatDoor
end
