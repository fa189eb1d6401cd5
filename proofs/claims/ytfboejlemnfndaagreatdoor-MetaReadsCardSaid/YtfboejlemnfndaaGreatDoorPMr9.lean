/- Put together by wip/pack.py (this session's own program) out of this session's texts; a kit's tool laid the words and the shelf, of which only what is used stands here. Lean checks it. -/
import Derived.Test.YtfboejlemnfndaaGreatDoorPMr8
import Derived.Test.YtfboejlemnfndaaGreatDoorCards
import Derived.Test.YtfboejlemnfndaaGreatDoorTie
import Derived.WalkKit
import Derived.ProofKit
import Derived.OpenShut
import Derived.ShutString
import Derived.ChangeOld
import Derived.Below
import Derived.SizedLaws
import Derived.LaidMore
import Derived.Lay
import Derived.SevenTiedAt
import Derived.Stop.Joined
import Derived.Deep.DeepHandedRow
import Derived.Shelf.Vars
import Derived.Stop.LaidErr
section
namespace Go.Proofs.YtfboejlemnfndaaGreatDoor.XMr
open Go.RowKit Go.Proofs.YtfboejlemnfndaaGreatDoorW.PrintWords Go.Proofs.YtfboejlemnfndaaGreatDoorW.PrintLast Go.Proofs.YtfboejlemnfndaaGreatDoorW.PrintMore
set_option linter.unusedVariables false
set_option linter.unusedSimpArgs false

def sgnOk (l : List UInt8) : Bool := if l.head? = some 45 then ((digits_Parse.val l.tail).2 == 0 && decide ((digits_Parse.val l.tail).1 ≤ 9223372036854775808)) else ((digits_Parse.val l).2 == 0 && decide ((digits_Parse.val l).1 ≤ 9223372036854775807))
theorem sub_tail (s : ByteArray) : (sub s 1 s.size).data.toList = s.data.toList.tail := by
  show (s.extract 1 s.size).data.toList = _
  rw [Lib.extract_to_end, List.drop_one]
theorem ev_signed (s : ByteArray) (hs : s.size ≤ 1000000) : ∃ a e, Ev (fun k => tallboyref02_Signed.f k s) (a, e) ∧ (e == 0) = sgnOk s.data.toList := by
  have hF : s.data.toList.head? ≠ some 45 → ∃ a e, Ev (fun k => tallboyref02_Signed.j0 k s false) (a, e) ∧ (e == 0) = sgnOk s.data.toList := by
    intro hne
    have hp := ev_digits s hs
    unfold sgnOk
    rw [if_neg hne]
    generalize digits_Parse.val s.data.toList = v at hp
    obtain ⟨n, e⟩ := v
    by_cases he : e = 0
    · subst he
      by_cases hn : n ≤ 9223372036854775807
      · refine ⟨wrap64 n, 0, Ev.step (f := fun k => (tallboyref02_Parse.f k s).bind fun bt => if bt.2 = 0 then tallboyref02_Signed.j3 k bt.1 bt.2 (decide (bt.1 > 9223372036854775807)) else tallboyref02_Signed.j3 k bt.1 bt.2 false) (fun k => by simp only [tallboyref02_Signed.j0]; rfl) (Ev.bind hp ?_), by rw [decide_eq_true hn]; rfl⟩
        simp only [if_true]
        rw [decide_eq_false (by omega)]
        exact ev_end (fun k => by simp [tallboyref02_Signed.j3])
      · refine ⟨0, 1, Ev.step (f := fun k => (tallboyref02_Parse.f k s).bind fun bt => if bt.2 = 0 then tallboyref02_Signed.j3 k bt.1 bt.2 (decide (bt.1 > 9223372036854775807)) else tallboyref02_Signed.j3 k bt.1 bt.2 false) (fun k => by simp only [tallboyref02_Signed.j0]; rfl) (Ev.bind hp ?_), by rw [decide_eq_false hn]; rfl⟩
        simp only [if_true]
        rw [decide_eq_true (by omega)]
        exact ev_end (fun k => by simp [tallboyref02_Signed.j3])
    · refine ⟨0, e, Ev.step (f := fun k => (tallboyref02_Parse.f k s).bind fun bt => if bt.2 = 0 then tallboyref02_Signed.j3 k bt.1 bt.2 (decide (bt.1 > 9223372036854775807)) else tallboyref02_Signed.j3 k bt.1 bt.2 false) (fun k => by simp only [tallboyref02_Signed.j0]; rfl) (Ev.bind hp ?_), by rw [show (e == 0) = false from beq_eq_false_iff_ne.2 he]; rfl⟩
      simp only [if_neg he]
      exact ev_end (fun k => by simp [tallboyref02_Signed.j3, he])
  cases hl : s.data.toList with
  | nil =>
    have hz : s.size = 0 := by rw [Lib.size_eq, hl]; rfl
    obtain ⟨a, e, h1, h2⟩ := hF (by rw [hl]; simp)
    rw [hl] at h2
    exact ⟨a, e, Ev.congr (fun k => by unfold tallboyref02_Signed.f; rw [if_neg (by omega)]) h1, h2⟩
  | cons c r =>
    have hz : 1 ≤ s.size := by rw [Lib.size_eq, hl]; simp
    have hb : bt s 0 = (c.toNat : Int) := by
      have := bt_list s 0 (by rw [hl]; simp)
      rw [show ((0 : Nat) : Int) = 0 from rfl] at this
      rw [this]
      simp only [hl, List.getElem_cons_zero]
    have hgo : ∀ k, tallboyref02_Signed.f k s = tallboyref02_Signed.j0 k s ((c.toNat : Int) == 45) := fun k => by
      unfold tallboyref02_Signed.f
      rw [if_pos (by omega), if_pos (by omega), hb]
    by_cases hc : c = 45
    · subst hc
      have hp := ev_digits (sub s 1 s.size) (by show (s.extract 1 s.size).size ≤ _; rw [ByteArray.size_extract]; omega)
      rw [sub_tail, hl, List.tail_cons] at hp
      unfold sgnOk
      rw [if_pos (by rfl), List.tail_cons]
      generalize digits_Parse.val r = v at hp
      obtain ⟨n, e⟩ := v
      have hgo2 : ∀ k, tallboyref02_Signed.f (k + 1) s = (tallboyref02_Parse.f k (sub s 1 s.size)).bind fun bt => if bt.2 = 0 then tallboyref02_Signed.j1 k bt.1 bt.2 (decide (bt.1 > 9223372036854775808)) else tallboyref02_Signed.j1 k bt.1 bt.2 false := fun k => by
        rw [hgo, show (((45 : UInt8).toNat : Int) == 45) = true from rfl]
        simp only [tallboyref02_Signed.j0, if_true]
        rw [if_pos (by omega)]
      by_cases he : e = 0
      · subst he
        by_cases hn : n ≤ 9223372036854775808
        · have hend : ∃ a, Ev (fun k => tallboyref02_Signed.j2 k n 0) (a, 0) := by
            by_cases h63 : n = 9223372036854775808
            · exact ⟨_, ev_end (fun k => by simp only [tallboyref02_Signed.j2, if_true]; rw [if_pos h63])⟩
            · exact ⟨_, ev_end (fun k => by simp only [tallboyref02_Signed.j2, if_true]; rw [if_neg h63])⟩
          obtain ⟨a, hend⟩ := hend
          refine ⟨a, 0, Ev.step hgo2 (Ev.bind hp ?_), by rw [decide_eq_true hn]; rfl⟩
          simp only [if_true]
          rw [decide_eq_false (by omega)]
          exact Ev.step (fun k => by simp [tallboyref02_Signed.j1]) hend
        · refine ⟨0, 1, Ev.step hgo2 (Ev.bind hp ?_), by rw [decide_eq_false hn]; rfl⟩
          simp only [if_true]
          rw [decide_eq_true (by omega)]
          exact Ev.step (f := fun k => tallboyref02_Signed.j2 k n 1) (fun k => by simp [tallboyref02_Signed.j1]) (ev_end (fun k => by simp [tallboyref02_Signed.j2]))
      · refine ⟨0, e, Ev.step hgo2 (Ev.bind hp ?_), by rw [show (e == 0) = false from beq_eq_false_iff_ne.2 he]; rfl⟩
        simp only [if_neg he]
        exact Ev.step (f := fun k => tallboyref02_Signed.j2 k n e) (fun k => by simp [tallboyref02_Signed.j1]) (ev_end (fun k => by simp [tallboyref02_Signed.j2, he]))
    · have hne : ((c.toNat : Int) == 45) = false := beq_eq_false_iff_ne.2 (fun e => hc (UInt8.toNat_inj.mp (by show c.toNat = 45; omega)))
      obtain ⟨a, e, h1, h2⟩ := hF (by rw [hl]; simpa using hc)
      rw [hl] at h2
      exact ⟨a, e, Ev.congr (fun k => by rw [hgo, hne]) h1, h2⟩
theorem cut_is (s : ByteArray) (hs : s.size ≤ 1000) : ∃ r b, strings_CutPrefix.f s ⟨#[45]⟩ = some (r, b) ∧ r.size ≤ 1000 ∧ b = decide (s.data.toList.head? = some 45) ∧ r.data.toList = if s.data.toList.head? = some 45 then s.data.toList.tail else s.data.toList := by
  obtain ⟨r, b, h, hr⟩ := cut_tot s hs
  refine ⟨r, b, h, hr, ?_⟩
  unfold strings_CutPrefix.f stringslite_CutPrefix.f stringslite_HasPrefix.f at h
  rw [show ((⟨#[45]⟩ : ByteArray).size : Int) = 1 from rfl] at h
  cases hl : s.data.toList with
  | nil =>
    have hz : s.size = 0 := by rw [Lib.size_eq, hl]; rfl
    rw [if_neg (by omega)] at h
    simp only [Option.bind_some, Bool.false_eq_true, if_false, Option.some.injEq, Prod.mk.injEq] at h
    obtain ⟨rfl, rfl⟩ := h
    exact ⟨by simp, by rw [hl]; simp⟩
  | cons c t =>
    have hz : 1 ≤ s.size := by rw [Lib.size_eq, hl]; simp
    rw [if_pos (by omega), if_pos (by decide), if_pos (by omega)] at h
    have e1 : (sub s 0 ((1 : Int)).toNat).toList = [c] := by
      rw [ByteArray.toList_eq]
      show (s.extract 0 1).data.toList = _
      rw [Lib.extract_data, hl]
      simp
    rw [e1, show (⟨#[45]⟩ : ByteArray).toList = [45] from by rw [ByteArray.toList_eq]] at h
    try simp only [Option.bind_some] at h
    by_cases hc : c = 45
    · subst hc
      rw [if_pos (by rfl), if_pos (by decide), if_pos (by omega)] at h
      simp only [Option.bind_some, Option.some.injEq, Prod.mk.injEq] at h
      obtain ⟨rfl, rfl⟩ := h
      refine ⟨by simp, ?_⟩
      rw [if_pos (by rfl), List.tail_cons]
      have := sub_tail s
      rw [hl, List.tail_cons] at this
      exact this
    · have hne : (([c] : List UInt8) == ([45] : List UInt8)) = false := by simpa using hc
      rw [hne] at h
      simp only [Bool.false_eq_true, if_false, Option.bind_some, Option.some.injEq, Prod.mk.injEq] at h
      obtain ⟨rfl, rfl⟩ := h
      exact ⟨by simpa using hc, by rw [hl, if_neg (by simpa using hc)]⟩
theorem ev_signedM (s : ByteArray) (hs : s.size ≤ 1000) : ∃ a e, Ev (fun k => digits_Signed.f k s) (a, e) ∧ (e == 0) = sgnOk s.data.toList := by
  obtain ⟨r, b, hcut, hr, hb, hrl⟩ := cut_is s hs
  have hgo : ∀ k, digits_Signed.f k s = if (digits_Parse.val r.data.toList).2 = 0 then (if b = true then digits_Signed.j0 k b (digits_Parse.val r.data.toList).1 (9223372036854775807 + 1) else digits_Signed.j0 k b (digits_Parse.val r.data.toList).1 9223372036854775807) else some (0, (digits_Parse.val r.data.toList).2) := fun k => by
    unfold digits_Signed.f
    rw [hcut]
    simp only [Option.bind_some, parse_tot r hr]
  have hj : ∀ (b : Bool) (n m : Int), ∃ a e, Ev (fun k => digits_Signed.j0 k b n m) (a, e) ∧ (e == 0) = decide (n ≤ m) := by
    intro b n m
    by_cases h : n > m
    · exact ⟨0, 1, ev_end (fun k => by simp only [digits_Signed.j0]; rw [if_pos h]), by rw [decide_eq_false (by omega)]; rfl⟩
    · cases b with
      | true => exact ⟨_, 0, ev_end (fun k => by simp only [digits_Signed.j0, if_true]; rw [if_neg h]), by rw [decide_eq_true (by omega)]; rfl⟩
      | false => exact ⟨_, 0, ev_end (fun k => by simp only [digits_Signed.j0, Bool.false_eq_true, if_false]; rw [if_neg h]), by rw [decide_eq_true (by omega)]; rfl⟩
  unfold sgnOk
  by_cases h45 : s.data.toList.head? = some 45
  · rw [if_pos h45] at hrl ⊢
    rw [hrl, hb, decide_eq_true h45] at hgo
    by_cases he : (digits_Parse.val s.data.toList.tail).2 = 0
    · obtain ⟨a, e, h1, h2⟩ := hj true (digits_Parse.val s.data.toList.tail).1 9223372036854775808
      exact ⟨a, e, Ev.congr (fun k => by rw [hgo, if_pos he, if_pos rfl]; rfl) h1, by rw [h2, he]; rfl⟩
    · exact ⟨0, _, Ev.congr (fun k => by rw [hgo, if_neg he]) (Ev.now _), by rw [show ((digits_Parse.val s.data.toList.tail).2 == 0) = false from beq_eq_false_iff_ne.2 he]; rfl⟩
  · rw [if_neg h45] at hrl ⊢
    rw [hrl, hb, decide_eq_false h45] at hgo
    by_cases he : (digits_Parse.val s.data.toList).2 = 0
    · obtain ⟨a, e, h1, h2⟩ := hj false (digits_Parse.val s.data.toList).1 9223372036854775807
      exact ⟨a, e, Ev.congr (fun k => by rw [hgo, if_pos he, if_neg Bool.false_ne_true]) h1, by rw [h2, he]; rfl⟩
    · exact ⟨0, _, Ev.congr (fun k => by rw [hgo, if_neg he]) (Ev.now _), by rw [show ((digits_Parse.val s.data.toList).2 == 0) = false from beq_eq_false_iff_ne.2 he]; rfl⟩
def EL : List Int := [98, 99, 102, 104, 107, 108, 113, 115, 116, 118, 120, 73]
def DL : List Int := [67, 68, 69, 74]
def NL : List Int := [78, 82, 84]
theorem cls_all : ∀ n : Fin 7, ∀ c ∈ meta_owns.flags (n.val : Int), ((c.toNat : Int) ∈ EL ∨ (c.toNat : Int) ∈ DL ∨ (c.toNat : Int) = 70 ∨ (c.toNat : Int) ∈ NL ∨ (c.toNat : Int) = 79 ∨ ((c.toNat : Int) = 77 ∧ ((n.val : Int) = 2 ∨ (n.val : Int) = 4))) := by decide +kernel
theorem cls {op x : Int} (h : meta_owns.f op x = some true) : x ∈ EL ∨ x ∈ DL ∨ x = 70 ∨ x ∈ NL ∨ x = 79 ∨ (x = 77 ∧ (op = 2 ∨ op = 4)) := by
  unfold meta_owns.f at h
  split at h
  · rename_i ho
    injection h with h
    obtain ⟨c, hc, e⟩ := List.any_eq_true.1 h
    have e' : (c.toNat : Int) = x := by simpa using e
    have hn : ((⟨op.toNat, by omega⟩ : Fin 7).val : Int) = op := by show ((op.toNat : Nat) : Int) = op; omega
    have := cls_all ⟨op.toNat, by omega⟩ c (by rw [hn]; exact hc)
    rw [hn, e'] at this
    exact this
  · cases h
theorem clsE : ∀ x ∈ EL, (∀ k, meta_sortOf.f (k + 2) x = some 0) ∧ ((⟨#[98, 99, 102, 104, 107, 108, 113, 115, 116, 118, 120, 73]⟩ : ByteArray).data.toList.any fun b => (b.toNat : Int) == x) = true := by
  intro x hx
  simp only [EL, List.mem_cons, List.not_mem_nil, or_false] at hx
  rcases hx with rfl | rfl | rfl | rfl | rfl | rfl | rfl | rfl | rfl | rfl | rfl | rfl <;> exact ⟨fun k => rfl, rfl⟩
theorem clsD : ∀ x ∈ DL, (∀ k, meta_sortOf.f (k + 2) x = some 1) ∧ ((⟨#[98, 99, 102, 104, 107, 108, 113, 115, 116, 118, 120, 73]⟩ : ByteArray).data.toList.any fun b => (b.toNat : Int) == x) = false ∧ ((⟨#[67, 68, 69, 74]⟩ : ByteArray).data.toList.any fun b => (b.toNat : Int) == x) = true := by
  intro x hx
  simp only [DL, List.mem_cons, List.not_mem_nil, or_false] at hx
  rcases hx with rfl | rfl | rfl | rfl <;> exact ⟨fun k => rfl, rfl, rfl⟩
theorem clsN : ∀ x ∈ NL, (∀ k, meta_sortOf.f (k + 2) x = some 3) ∧ ((⟨#[98, 99, 102, 104, 107, 108, 113, 115, 116, 118, 120, 73]⟩ : ByteArray).data.toList.any fun b => (b.toNat : Int) == x) = false ∧ ((⟨#[67, 68, 69, 74]⟩ : ByteArray).data.toList.any fun b => (b.toNat : Int) == x) = false ∧ x ≠ 70 ∧ ((⟨#[78, 82, 84]⟩ : ByteArray).data.toList.any fun b => (b.toNat : Int) == x) = true := by
  intro x hx
  simp only [NL, List.mem_cons, List.not_mem_nil, or_false] at hx
  rcases hx with rfl | rfl | rfl <;> exact ⟨fun k => rfl, rfl, rfl, by decide, rfl⟩
theorem contains_one (m : List UInt8) (h : ∀ c : Fin 256, Lib.contains m [UInt8.ofNat c.val] = m.any fun b => (b.toNat : Int) == (c.val : Int)) (c : UInt8) : Lib.contains m [c] = m.any fun b => (b.toNat : Int) == (c.toNat : Int) := by
  have := h ⟨c.toNat, c.toNat_lt⟩
  rw [show UInt8.ofNat c.toNat = c from UInt8.ofNat_toNat] at this
  exact this
theorem modes_A : ∀ c : Fin 256, Lib.contains [65, 69, 80, 82, 83] [UInt8.ofNat c.val] = ([65, 69, 80, 82, 83] : List UInt8).any fun b => (b.toNat : Int) == (c.val : Int) := by decide +kernel
theorem modes_I : ∀ c : Fin 256, Lib.contains [73, 68] [UInt8.ofNat c.val] = ([73, 68] : List UInt8).any fun b => (b.toNat : Int) == (c.val : Int) := by decide +kernel
theorem ev_sort {x t : Int} (h : ∀ k, meta_sortOf.f (k + 2) x = some t) : Ev (fun k => meta_sortOf.f k x) t := ⟨2, fun k hk => by obtain ⟨j, rfl⟩ : ∃ j, k = j + 2 := ⟨k - 2, by omega⟩; exact h j⟩
theorem lit_small (l : List UInt8) (h : l.length ≤ 1000) : (⟨l.toArray⟩ : ByteArray).size ≤ 1000000 := by show l.toArray.size ≤ _; rw [List.size_toArray]; omega
theorem tok_both (op x : Int) (t : ByteArray) (hx : meta_owns.f op x = some true) (ht : t.size ≤ 1000) : ∃ b, Ev (fun k => tallboyref27_token.f k op x t) b ∧ Ev (fun k => meta_right.f k op x t) b := by
  have hE := ev_has ⟨#[98, 99, 102, 104, 107, 108, 113, 115, 116, 118, 120, 73]⟩ (by decide) x
  have hD := ev_has ⟨#[67, 68, 69, 74]⟩ (by decide) x
  have hN := ev_has ⟨#[78, 82, 84]⟩ (by decide) x
  have hp := ev_digits t (by omega)
  have hpm : digits_Parse.f t = some (digits_Parse.val t.data.toList) := parse_tot t ht
  rcases cls hx with h | h | rfl | h | rfl | ⟨rfl, hop⟩
  · obtain ⟨h1, h2⟩ := clsE x h
    rw [h2] at hE
    refine ⟨t.toList == ([] : List UInt8), ?_, ?_⟩
    · unfold tallboyref27_token.f
      refine Ev.bind hE ?_
      simp only [if_true]
      exact Ev.now _
    · unfold meta_right.f
      refine Ev.bind (ev_sort h1) ?_
      exact Ev.now _
  · obtain ⟨h1, h2, h3⟩ := clsD x h
    rw [h2] at hE
    rw [h3] at hD
    refine ⟨(digits_Parse.val t.data.toList).2 == 0, ?_, ?_⟩
    · unfold tallboyref27_token.f
      refine Ev.bind hE ?_
      simp only [Bool.false_eq_true, if_false]
      refine Ev.bind hD ?_
      simp only [if_true]
      exact Ev.bind hp (Ev.now _)
    · unfold meta_right.f
      refine Ev.bind (ev_sort h1) ?_
      simp only [if_true, hpm, Option.bind_some]
      exact Ev.now _
  · refine ⟨if (digits_Parse.val t.data.toList).2 = 0 then decide ((digits_Parse.val t.data.toList).1 ≤ 4294967295) else false, ?_, ?_⟩
    · unfold tallboyref27_token.f
      refine Ev.bind (show Ev _ false from hE) ?_
      simp only [Bool.false_eq_true, if_false]
      refine Ev.bind (show Ev _ false from hD) ?_
      simp only [Bool.false_eq_true, if_false, if_true]
      refine Ev.bind hp ?_
      split
      · rw [show decide ((digits_Parse.val t.data.toList).1 < 4294967296) = decide ((digits_Parse.val t.data.toList).1 ≤ 4294967295) from by rw [decide_eq_decide]; omega]
        exact Ev.now _
      · exact Ev.now _
    · unfold meta_right.f
      refine Ev.bind (ev_sort (t := 2) (fun k => rfl)) ?_
      simp only [Int.reduceEq, if_false, if_true]
      simp only [hpm, Option.bind_some]
      split
      · exact Ev.now _
      · exact Ev.now _
  · obtain ⟨h1, h2, h3, h4, h5⟩ := clsN x h
    rw [h2] at hE
    rw [h3] at hD
    rw [h5] at hN
    obtain ⟨a, e, hs1, hs2⟩ := ev_signed t (by omega)
    obtain ⟨a', e', hm1, hm2⟩ := ev_signedM t ht
    refine ⟨sgnOk t.data.toList, ?_, ?_⟩
    · unfold tallboyref27_token.f
      refine Ev.bind hE ?_
      simp only [Bool.false_eq_true, if_false]
      refine Ev.bind hD ?_
      simp only [Bool.false_eq_true, if_false, if_neg h4]
      refine Ev.bind hN ?_
      simp only [if_true]
      refine Ev.bind hs1 ?_
      rw [← hs2]
      exact Ev.now _
    · unfold meta_right.f
      refine Ev.bind (ev_sort h1) ?_
      simp only [Int.reduceEq, if_false, if_true]
      refine Ev.bind hm1 ?_
      rw [← hm2]
      exact Ev.now _
  · refine ⟨keyOk t, ?_, ?_⟩
    · unfold tallboyref27_token.f
      refine Ev.bind (show Ev _ false from hE) ?_
      simp only [Bool.false_eq_true, if_false]
      refine Ev.bind (show Ev _ false from hD) ?_
      simp only [Bool.false_eq_true, if_false]
      simp only [Int.reduceEq, if_false, if_true]
      refine Ev.bind (show Ev _ false from hN) ?_
      simp only [Bool.false_eq_true, if_false, if_true]
      exact Ev.bind (ev_key4 t (by omega)) (Ev.now _)
    · unfold meta_right.f
      refine Ev.bind (ev_sort (t := 4) (fun k => rfl)) ?_
      simp only [Int.reduceEq, if_false, if_true]
      exact Ev.bind (ev_keyF t (by omega)) (Ev.now _)
  · have hstart : ∀ {b : Bool}, Ev (fun k => if (t.size : Int) = 1 then tallboyref27_token.j0 k op 77 t (op == 2) else tallboyref27_token.j0 k op 77 t false) b → Ev (fun k => tallboyref27_token.f k op 77 t) b := by
      intro b h
      unfold tallboyref27_token.f
      refine Ev.bind (show Ev _ false from hE) ?_
      simp only [Bool.false_eq_true, if_false]
      refine Ev.bind (show Ev _ false from hD) ?_
      simp only [Bool.false_eq_true, if_false]
      simp only [Int.reduceEq, if_false, if_true]
      refine Ev.bind (show Ev _ false from hN) ?_
      simp only [Bool.false_eq_true, if_false]
      exact h
    by_cases h1 : (t.size : Int) = 1
    · have hl : t.data.toList.length = 1 := by rw [← Lib.size_eq]; omega
      obtain ⟨c, hc⟩ := List.length_eq_one_iff.1 hl
      have hb : bt t 0 = (c.toNat : Int) := by
        have := bt_list t 0 (by rw [hc]; simp)
        rw [show ((0 : Nat) : Int) = 0 from rfl] at this
        rw [this]
        simp only [hc, List.getElem_cons_zero]
      rcases hop with rfl | rfl
      · have hh := ev_has ⟨#[65, 69, 80, 82, 83]⟩ (by decide) (c.toNat : Int)
        refine ⟨_, hstart (Ev.congr (f := fun k => tallboyref27_token.j0 k 2 77 t true) (fun k => by rw [if_pos h1]; rfl) (Ev.step (f := fun k => (tallboyref27_has.f k ⟨#[65, 69, 80, 82, 83]⟩ (c.toNat : Int)).bind fun t => some t) (fun k => ?_) (Ev.bind hh (Ev.now _)))), ?_⟩
        · simp only [tallboyref27_token.j0, if_true]
          rw [if_pos (by omega), hb]
        · unfold meta_right.f
          refine Ev.bind (ev_sort (t := 5) (fun k => rfl)) ?_
          simp only [Int.reduceEq, if_false, if_true, if_pos h1]
          unfold meta_modes.f
          simp only [if_true, Option.bind_some]
          unfold strings_Contains.f
          rw [if_pos (by decide), hc]
          simp only [Option.bind_some]
          rw [show Lib.contains (⟨#[65, 69, 80, 82, 83]⟩ : ByteArray).data.toList [c] = _ from contains_one _ modes_A c]
          exact Ev.now _
      · have hh := ev_has ⟨#[73, 68]⟩ (by decide) (c.toNat : Int)
        refine ⟨_, hstart (Ev.congr (f := fun k => tallboyref27_token.j0 k 4 77 t false) (fun k => by rw [if_pos h1]; rfl) (Ev.step (f := fun k => (tallboyref27_has.f k ⟨#[73, 68]⟩ (c.toNat : Int)).bind fun t => some t) (fun k => ?_) (Ev.bind hh (Ev.now _)))), ?_⟩
        · simp only [tallboyref27_token.j0, Bool.false_eq_true, if_false, if_true]
          rw [if_pos h1, if_pos (by omega), hb]
        · unfold meta_right.f
          refine Ev.bind (ev_sort (t := 5) (fun k => rfl)) ?_
          simp only [Int.reduceEq, if_false, if_true, if_pos h1]
          unfold meta_modes.f
          simp only [Int.reduceEq, if_false, if_true]
          simp only [Option.bind_some]
          unfold strings_Contains.f
          rw [if_pos (by decide), hc]
          simp only [Option.bind_some]
          rw [show Lib.contains (⟨#[73, 68]⟩ : ByteArray).data.toList [c] = _ from contains_one _ modes_I c]
          exact Ev.now _
    · refine ⟨false, hstart (Ev.congr (f := fun k => tallboyref27_token.j0 k op 77 t false) (fun k => by rw [if_neg h1]) (ev_end (fun k => ?_))), ?_⟩
      · simp only [tallboyref27_token.j0, Bool.false_eq_true, if_false, if_true]
        rw [if_neg h1]
      · unfold meta_right.f
        refine Ev.bind (ev_sort (t := 5) (fun k => rfl)) ?_
        simp only [Int.reduceEq, if_false, if_true, if_neg h1]
        exact Ev.now _
end Go.Proofs.YtfboejlemnfndaaGreatDoor.XMr
end
section
namespace Go.Proofs.YtfboejlemnfndaaGreatDoor.XMr
open Go.RowKit Go.Proofs.YtfboejlemnfndaaGreatDoorW.PrintWords Go.Proofs.YtfboejlemnfndaaGreatDoorW.PrintLast Go.Proofs.YtfboejlemnfndaaGreatDoorW.PrintMore
set_option linter.unusedVariables false
set_option linter.unusedSimpArgs false

def back (x : S61) : S59 := ⟨x.f0, x.f1⟩
theorem rd_back (L : List S61) (i : Nat) (hi : i < L.length) : rd_T59 (L.map back) (i : Int) = back L[i] := by
  unfold rd_T59
  rw [Int.toNat_natCast, List.getD_eq_getElem?_getD, List.getElem?_map, List.getElem?_eq_getElem hi]
  rfl
theorem ev_find_l (o : Int) (key : ByteArray) (sz : Int) (L : List S61) (hL : L.length ≤ 1000) (c : Int) : ∀ n i : Nat, n + i = L.length → ∃ t, Ev (fun k => tallboyref27_Find.l0 k c (i : Int) o key sz (L.map back)) (t, has (L.drop i) c)
  | 0, i, h => by
    rw [List.drop_of_length_le (by omega)]
    exact ⟨⟨#[]⟩, ev_end (fun k => by simp only [tallboyref27_Find.l0]; rw [if_neg (by rw [List.length_map]; omega)]; rfl)⟩
  | n + 1, i, h => by
    have hi : i < L.length := by omega
    obtain ⟨t, ih⟩ := ev_find_l o key sz L hL c n (i + 1) (by omega)
    rw [List.drop_eq_getElem_cons hi]
    by_cases hc : (L[i]).f0 = c
    · refine ⟨(L[i]).f1, ev_end (fun k => ?_)⟩
      simp only [tallboyref27_Find.l0]
      rw [if_pos (by rw [List.length_map]; omega), if_pos (by omega), rd_back L i hi, if_pos (by exact hc)]
      unfold has
      rw [List.any_cons, show ((L[i]).f0 == c) = true from beq_iff_eq.2 hc]
      rfl
    · refine ⟨t, Ev.step (f := fun k => tallboyref27_Find.l0 k c ((i + 1 : Nat) : Int) o key sz (L.map back)) (fun k => ?_) ?_⟩
      · simp only [tallboyref27_Find.l0]
        rw [if_pos (by rw [List.length_map]; omega), if_pos (by omega), rd_back L i hi, if_neg (by exact hc), wrap_at i (by omega)]
      · unfold has
        rw [List.any_cons, show ((L[i]).f0 == c) = false from beq_eq_false_iff_ne.2 hc, Bool.false_or]
        exact ih
theorem ev_find (o : Int) (key : ByteArray) (sz : Int) (L : List S61) (hL : L.length ≤ 1000) (c : Int) : ∃ t, Ev (fun k => tallboyref27_Find.f k o key sz (L.map back) c) (t, has L c) := by
  have := ev_find_l o key sz L hL c L.length 0 (by omega)
  rw [List.drop_zero] at this
  exact this
theorem ev_key (o : Int) (key : ByteArray) (sz : Int) (L : List S61) (hL : L.length ≤ 1000) (hk : key.size ≤ 1000) : ∃ y, Ev (fun k => tallboyref27_key.f k o key sz (L.map back)) y ∧ Ev (fun k => meta_key.f k o key sz L) y := by
  obtain ⟨t, hf⟩ := ev_find o key sz L hL 98
  have hm : ∀ k, meta_key.f k o key sz L = keyB k o key (has L 98) := fun k => key_eq k o key sz L
  unfold keyB at hm
  unfold tallboyref27_key.f
  by_cases h5 : o = 5
  · simp only [if_pos h5] at hm ⊢
    exact ⟨_, Ev.bind hf (Ev.now _), Ev.congr hm (Ev.now _)⟩
  · simp only [if_neg h5] at hm ⊢
    cases hb : has L 98 with
    | true =>
      rw [hb] at hm hf
      simp only [if_true] at hm
      by_cases h1 : (key.size : Int) ≥ 1
      · simp only [if_pos h1] at hm
        refine ⟨_, Ev.bind hf ?_, Ev.congr hm (Ev.now _)⟩
        simp only [if_true, if_pos h1]
        exact Ev.now _
      · simp only [if_neg h1] at hm
        refine ⟨_, Ev.bind hf ?_, Ev.congr hm (Ev.now _)⟩
        simp only [if_true, if_neg h1]
        exact Ev.now _
    | false =>
      rw [hb] at hm hf
      simp only [Bool.false_eq_true, if_false] at hm
      refine ⟨_, Ev.bind hf ?_, Ev.congr hm (ev_keyF key (by omega))⟩
      simp only [Bool.false_eq_true, if_false]
      exact Ev.bind (ev_key4 key (by omega)) (Ev.now _)
theorem may_is (o : Int) (h : 1 ≤ o ∧ o ≤ 6) : ∃ m, tallboyref27_may.f o = some m ∧ m.data.toList = meta_owns.flags o ∧ m.size ≤ 1000 := by
  have hn : o = 1 ∨ o = 2 ∨ o = 3 ∨ o = 4 ∨ o = 5 ∨ o = 6 := by omega
  rcases hn with rfl | rfl | rfl | rfl | rfl | rfl <;> exact ⟨_, rfl, rfl, by decide⟩
theorem ev_inner (o : Int) (key : ByteArray) (sz : Int) (L : List S61) (hL : L.length ≤ 1000) (x : Int) (t : ByteArray) (i : Nat) (hi : i ≤ L.length) {r : Int} : ∀ m j : Nat, m + j = i →
    (((L.take i).drop j).any (fun y => y.f0 == x) = true → r = 4) → (((L.take i).drop j).any (fun y => y.f0 == x) = false → Ev (fun k => (tallboyref27_token.f k o x t).bind fun t235 => if t235 = true then tallboyref27_form.l0 k ((i + 1 : Nat) : Int) o key sz (L.map back) else some 6) r) →
    Ev (fun k => tallboyref27_form.l1 k (i : Int) (j : Int) o key sz (L.map back) x t) r
  | 0, j, h, h4, hr => by
    rw [List.drop_of_length_le (by rw [List.length_take]; omega)] at hr
    refine Ev.step (fun k => ?_) (hr rfl)
    simp only [tallboyref27_form.l1]
    rw [if_neg (by omega), wrap_at i (by omega)]
  | m + 1, j, h, h4, hr => by
    have hj : j < L.length := by omega
    have hjt : j < (L.take i).length := by rw [List.length_take]; omega
    rw [List.drop_eq_getElem_cons hjt, List.any_cons, List.getElem_take] at h4 hr
    by_cases hx : (L[j]).f0 = x
    · rw [show ((L[j]).f0 == x) = true from beq_iff_eq.2 hx, Bool.true_or] at h4
      obtain rfl := h4 rfl
      refine ev_end (fun k => ?_)
      simp only [tallboyref27_form.l1]
      rw [if_pos (by omega), if_pos (by omega), if_pos (by rw [List.length_map]; omega), rd_back L j hj, if_pos (by exact hx)]
    · rw [show ((L[j]).f0 == x) = false from beq_eq_false_iff_ne.2 hx, Bool.false_or] at h4 hr
      refine Ev.step (fun k => ?_) (ev_inner o key sz L hL x t i hi m (j + 1) (by omega) h4 hr)
      simp only [tallboyref27_form.l1]
      rw [if_pos (by omega), if_pos (by omega), if_pos (by rw [List.length_map]; omega), rd_back L j hj, if_neg (by exact hx), wrap_at j (by omega)]
theorem ev_go (o : Int) (ho : 1 ≤ o ∧ o ≤ 6) (key : ByteArray) (sz : Int) (L : List S61) (hL : L.length ≤ 1000) (ht : ∀ x ∈ L, x.f1.size ≤ 1000) : ∀ (n i : Nat) (seen : List Int), n + i = L.length → (∀ y, seen.contains y = (L.take i).any (fun z => z.f0 == y)) →
    ∃ e, Ev (fun k => tallboyref27_form.l0 k (i : Int) o key sz (L.map back)) e ∧ Ev (fun k => meta_shape.go k o (L.drop i) seen) e
  | 0, i, seen, h, hs => by
    rw [List.drop_of_length_le (by omega)]
    exact ⟨0, ev_end (fun k => by simp only [tallboyref27_form.l0]; rw [if_neg (by rw [List.length_map]; omega)]), Ev.now 0⟩
  | n + 1, i, seen, h, hs => by
    have hi : i < L.length := by omega
    obtain ⟨m, hm, hmf, hm1⟩ := may_is o ho
    have hh := ev_has m (by omega) (L[i]).f0
    rw [hmf] at hh
    have hown : meta_owns.f o (L[i]).f0 = some ((meta_owns.flags o).any fun c => (c.toNat : Int) == (L[i]).f0) := by
      unfold meta_owns.f
      rw [if_pos ho]
    have hstart : ∀ {e : Int}, Ev (fun k => (tallboyref27_has.f k m (L[i]).f0).bind fun t233 => if t233 = true then tallboyref27_form.l1 k (i : Int) ((0 : Nat) : Int) o key sz (L.map back) (L[i]).f0 (L[i]).f1 else some 3) e → Ev (fun k => tallboyref27_form.l0 k (i : Int) o key sz (L.map back)) e := by
      intro e h
      refine Ev.step (fun k => ?_) h
      simp only [tallboyref27_form.l0]
      rw [if_pos (by rw [List.length_map]; omega), if_pos (by omega), hm, rd_back L i hi]
      rfl
    rw [List.drop_eq_getElem_cons hi]
    cases hb : (meta_owns.flags o).any fun c => (c.toNat : Int) == (L[i]).f0 with
    | false =>
      rw [hb] at hh hown
      refine ⟨3, hstart (Ev.bind hh ?_), ⟨0, fun k _ => ?_⟩⟩
      · simp only [Bool.false_eq_true, if_false]
        exact Ev.now _
      · show meta_shape.go k o (L[i] :: L.drop (i + 1)) seen = _
        rw [meta_shape.go, hown]
        rfl
    | true =>
      rw [hb] at hh hown
      cases hc : (L.take i).any (fun z => z.f0 == (L[i]).f0) with
      | true =>
        refine ⟨4, hstart (Ev.bind hh ?_), ⟨0, fun k _ => ?_⟩⟩
        · simp only [if_true]
          exact ev_inner o key sz L hL _ _ i (by omega) i 0 (by omega) (fun _ => rfl) (fun h => by rw [List.drop_zero, hc] at h; cases h)
        · show meta_shape.go k o (L[i] :: L.drop (i + 1)) seen = _
          rw [meta_shape.go, hown]
          simp only [Option.bind_some, if_true]
          rw [hs, hc]
          rfl
      | false =>
        obtain ⟨q, hq1, hq2⟩ := tok_both o (L[i]).f0 (L[i]).f1 hown (ht _ (List.getElem_mem hi))
        have hsh : ∀ k, meta_shape.go k o (L[i] :: L.drop (i + 1)) seen = (meta_right.f k o (L[i]).f0 (L[i]).f1).bind fun q => if q = true then meta_shape.go k o (L.drop (i + 1)) ((L[i]).f0 :: seen) else some 6 := fun k => by
          rw [meta_shape.go, hown]
          simp only [Option.bind_some, if_true]
          rw [hs, hc]
          rfl
        cases q with
        | false =>
          refine ⟨6, hstart (Ev.bind hh ?_), Ev.congr hsh (Ev.bind hq2 ?_)⟩
          · simp only [if_true]
            refine ev_inner o key sz L hL _ _ i (by omega) i 0 (by omega) (fun h => by rw [List.drop_zero, hc] at h; cases h) (fun _ => Ev.bind hq1 ?_)
            simp only [Bool.false_eq_true, if_false]
            exact Ev.now _
          · simp only [Bool.false_eq_true, if_false]
            exact Ev.now _
        | true =>
          obtain ⟨e, h1, h2⟩ := ev_go o ho key sz L hL ht n (i + 1) ((L[i]).f0 :: seen) (by omega) (fun y => by
            rw [List.contains_cons, hs, List.take_add_one, List.getElem?_eq_getElem hi, List.any_append]
            show _ = ((L.take i).any (fun z => z.f0 == y) || (((L[i]).f0 == y) || false))
            rw [Bool.or_false, Bool.or_comm, Bool.beq_comm])
          refine ⟨e, hstart (Ev.bind hh ?_), Ev.congr hsh (Ev.bind hq2 ?_)⟩
          · simp only [if_true]
            refine ev_inner o key sz L hL _ _ i (by omega) i 0 (by omega) (fun h => by rw [List.drop_zero, hc] at h; cases h) (fun _ => Ev.bind hq1 ?_)
            simp only [if_true]
            exact h1
          · simp only [if_true]
            exact h2
theorem ev_form (o : Int) (key : ByteArray) (sz : Int) (L : List S61) (hL : L.length ≤ 1000) (hk : key.size ≤ 1000) (ht : ∀ x ∈ L, x.f1.size ≤ 1000) : ∃ e, Ev (fun k => tallboyref27_form.f k o key sz (L.map back)) e ∧ Ev (fun k => meta_shape.f k o key sz L) e := by
  unfold meta_shape.f
  rw [there_eq]
  simp only [Option.bind_some, decide_eq_true_eq]
  by_cases ho : 1 ≤ o ∧ o ≤ 6
  · have hstart : ∀ {e : Int}, Ev (fun k => (tallboyref27_key.f k o key sz (L.map back)).bind fun t229 => if t229 = true then (if sz < 0 then some 6 else (if sz > 2147483647 then some 6 else (if o = 2 then tallboyref27_form.j1 k o key sz (L.map back) else (if sz = 0 then tallboyref27_form.j1 k o key sz (L.map back) else some 6)))) else some 6) e → Ev (fun k => tallboyref27_form.f k o key sz (L.map back)) e := by
      intro e h
      unfold tallboyref27_form.f
      rw [show decide (o > 6) = false from decide_eq_false (by omega)]
      simp only [if_neg (show ¬ o < 1 from by omega)]
      exact Ev.step (fun k => by simp only [tallboyref27_form.j0, Bool.false_eq_true, if_false]) h
    obtain ⟨y, h1, h2⟩ := ev_key o key sz L hL hk
    simp only [if_pos ho]
    cases y with
    | false =>
      refine ⟨6, hstart (Ev.bind h1 ?_), Ev.bind h2 ?_⟩
      · simp only [Bool.false_eq_true, if_false]
        exact Ev.now _
      · simp only [Bool.false_eq_true, if_false]
        exact Ev.now _
    | true =>
      by_cases hz : sz < 0 ∨ sz > 2147483647 ∨ (o ≠ 2 ∧ sz ≠ 0)
      · refine ⟨6, hstart (Ev.bind h1 ?_), Ev.bind h2 ?_⟩
        · simp only [if_true]
          by_cases a : sz < 0
          · simp only [if_pos a]
            exact Ev.now _
          · by_cases b : sz > 2147483647
            · simp only [if_neg a, if_pos b]
              exact Ev.now _
            · simp only [if_neg a, if_neg b, if_neg (show ¬ o = 2 from by omega), if_neg (show ¬ sz = 0 from by omega)]
              exact Ev.now _
        · simp only [if_true, if_pos hz]
          exact Ev.now _
      · obtain ⟨e, g1, g2⟩ := ev_go o ho key sz L hL ht L.length 0 [] (by omega) (fun y => by simp)
        rw [List.drop_zero] at g2
        have j1 : Ev (fun k => tallboyref27_form.j1 k o key sz (L.map back)) e := Ev.step (fun k => by simp only [tallboyref27_form.j1]; rfl) g1
        refine ⟨e, hstart (Ev.bind h1 ?_), Ev.bind h2 ?_⟩
        · simp only [if_true, if_neg (show ¬ sz < 0 from by omega), if_neg (show ¬ sz > 2147483647 from by omega)]
          by_cases h2 : o = 2
          · simp only [if_pos h2]
            exact j1
          · simp only [if_neg h2, if_pos (show sz = 0 from by omega)]
            exact j1
        · simp only [if_true, if_neg hz]
          exact g2
  · simp only [if_neg ho]
    refine ⟨70, ?_, Ev.now _⟩
    unfold tallboyref27_form.f
    have hj : Ev (fun k => tallboyref27_form.j0 k true o key sz (L.map back)) 70 := ev_end (fun k => by simp only [tallboyref27_form.j0, if_true])
    by_cases h1 : o < 1
    · simp only [if_pos h1]
      exact hj
    · simp only [if_neg h1]
      rw [show decide (o > 6) = true from decide_eq_true (by omega)]
      exact hj
end Go.Proofs.YtfboejlemnfndaaGreatDoor.XMr
end
section
namespace Go.Proofs.YtfboejlemnfndaaGreatDoor.XMr
open Go.RowKit Go.Proofs.YtfboejlemnfndaaGreatDoorW.PrintWords Go.Proofs.YtfboejlemnfndaaGreatDoorW.PrintLast Go.Proofs.YtfboejlemnfndaaGreatDoorW.PrintMore
set_option linter.unusedVariables false
set_option linter.unusedSimpArgs false
open D64 (ba)

theorem name_is (o : Int) (h : 1 ≤ o ∧ o ≤ 6) : tallboyref27_name.f o = some (nameOf o) := by
  have hn : o = 1 ∨ o = 2 ∨ o = 3 ∨ o = 4 ∨ o = 5 ∨ o = 6 := by omega
  rcases hn with rfl | rfl | rfl | rfl | rfl | rfl <;> rfl
theorem dig_nums (u : Nat) : strOfNums [(IntKind.u64.wrap (48 + Int.tmod (u : Int) 10)) % 256] = ba [UInt8.ofNat (48 + u % 10)] := by
  rw [show Int.tmod (u : Int) 10 = ((u % 10 : Nat) : Int) from rfl, IntKind.wrap_u64]
  have e : ((48 : Int) + ((u % 10 : Nat) : Int)) % 18446744073709551616 % 256 = ((48 + u % 10 : Nat) : Int) := by omega
  rw [e]; rfl
theorem wrap_div (u : Nat) (h : u < 18446744073709551616) : IntKind.u64.wrap (Int.tdiv (u : Int) 10) = ((u / 10 : Nat) : Int) := by
  rw [show Int.tdiv (u : Int) 10 = ((u / 10 : Nat) : Int) from rfl, IntKind.wrap_u64]; omega
theorem ev_text_l (u : Nat) (hu : u < 18446744073709551616) : ∀ acc : List UInt8, acc.length + u ≤ 4611686018427387904 → 0 < u → Ev (fun k => tallboyref02_Text.l0 k (u : Int) (ba acc)) (ba (Lib.decDigits u ++ acc)) := by
  induction u using Nat.strongRecOn with
  | _ u ih =>
    intro acc hacc h0
    have hstep : ∀ k, tallboyref02_Text.l0 (k + 1) (u : Int) (ba acc) = tallboyref02_Text.l0 k ((u / 10 : Nat) : Int) (ba (UInt8.ofNat (48 + u % 10) :: acc)) := by
      intro k
      simp only [tallboyref02_Text.l0]
      rw [if_pos (by omega), Option.bind_some, dig_nums, wrap_div u hu, if_pos (by rw [D64.ba_size, D64.ba_size]; show 1 + acc.length ≤ _; omega), D64.ba_append]
      rfl
    refine Ev.step hstep ?_
    by_cases h10 : u < 10
    · rw [show u / 10 = 0 from by omega, Text.dec_small u h10]
      refine ev_end (fun k => ?_)
      simp only [tallboyref02_Text.l0]
      rw [if_neg (by omega), show u % 10 = u from by omega]
      rfl
    · have h := ih (u / 10) (by omega) (by omega) (UInt8.ofNat (48 + u % 10) :: acc) (by rw [List.length_cons]; omega) (by omega)
      rw [Text.dec_big u h10, List.append_assoc]
      exact h
theorem ev_text (u : Nat) (hu : u ≤ 4294967296) : Ev (fun k => tallboyref02_Text.f k (u : Int)) (ba (Lib.decDigits u)) := by
  have e : ∀ k, tallboyref02_Text.f k (u : Int) = tallboyref02_Text.l0 k ((u / 10 : Nat) : Int) (ba [UInt8.ofNat (48 + u % 10)]) := by
    intro k
    unfold tallboyref02_Text.f
    rw [dig_nums, wrap_div u (by omega)]
  refine Ev.congr e ?_
  by_cases h10 : u < 10
  · rw [show u / 10 = 0 from by omega, Text.dec_small u h10]
    refine ev_end (fun k => ?_)
    simp only [tallboyref02_Text.l0]
    rw [if_neg (by omega), show u % 10 = u from by omega]
  · have h := ev_text_l (u / 10) (by omega) [UInt8.ofNat (48 + u % 10)] (by simp; omega) (by omega)
    rw [Text.dec_big u h10]
    exact h
def tailB : List ByteArray → List UInt8
  | [] => []
  | y :: r => 32 :: (y.data.toList ++ tailB r)
theorem joinTail_is : ∀ r : List ByteArray, Lib.joinTail [32] (r.map (·.data.toList)) = tailB r
  | [] => rfl
  | y :: r => by
    have ih := joinTail_is r
    unfold Lib.joinTail at ih ⊢
    rw [List.map_cons, List.map_cons, List.flatten_cons, ih]
    rfl
theorem line_is (x : ByteArray) (r : List ByteArray) : lineOf (x :: r) = ba (x.data.toList ++ tailB r) := by
  unfold lineOf
  rw [List.map_cons, Lib.join_cons, joinTail_is]
theorem tailB_append : ∀ a b : List ByteArray, tailB (a ++ b) = tailB a ++ tailB b
  | [], _ => rfl
  | y :: a, b => by
    show 32 :: (y.data.toList ++ tailB (a ++ b)) = 32 :: (y.data.toList ++ tailB a) ++ tailB b
    rw [tailB_append a b, List.cons_append, List.append_assoc]
theorem ba_data (s : ByteArray) : ba s.data.toList = s := ba_ext _ _ (by show s.data.toList.toArray.toList = _; rw [List.toList_toArray])
theorem ev_wflags (o : Int) (key : ByteArray) (sz : Int) (L : List S61) (hL : L.length ≤ 200) (hg : ∀ x ∈ L, 65 ≤ x.f0 ∧ x.f0 ≤ 122) (ht : ∀ x ∈ L, x.f1.size ≤ 1000) : ∀ (n i : Nat) (s : List UInt8), n + i = L.length → s.length ≤ 5000 + 2000 * i →
    Ev (fun k => tallboyref27_Write.l0 k (ba s) (i : Int) o key sz (L.map back)) (if ((s ++ tailB ((L.drop i).map fw)).length : Int) > 160 then (⟨#[]⟩, 7) else (ba (s ++ tailB ((L.drop i).map fw)), 0))
  | 0, i, s, h, hs => by
    rw [List.drop_of_length_le (by omega), List.map_nil, show tailB [] = [] from rfl, List.append_nil]
    refine ev_end (fun k => ?_)
    simp only [tallboyref27_Write.l0]
    rw [if_neg (by rw [List.length_map]; omega), D64.ba_size]
    split <;> rfl
  | n + 1, i, s, h, hs => by
    have hi : i < L.length := by omega
    have h1 := hg _ (List.getElem_mem hi)
    have h2 := ht _ (List.getElem_mem hi)
    have e : ba s ++ (⟨#[32]⟩ : ByteArray) = ba (s ++ [32]) := D64.ba_append s [32]
    have e2 : (strOfNums [(back L[i]).f0]) = ba [UInt8.ofNat (L[i]).f0.toNat] := rfl
    have e3 : ba (s ++ [32] ++ [UInt8.ofNat (L[i]).f0.toNat]) ++ (back L[i]).f1 = ba (s ++ 32 :: (fw L[i]).data.toList) := by
      rw [fw_list _ h1]
      show _ ++ (L[i]).f1 = _
      rw [← ba_data (L[i]).f1, D64.ba_append]
      congr 1
      simp
    have ih := ev_wflags o key sz L hL hg ht n (i + 1) (s ++ 32 :: (fw L[i]).data.toList) (by omega) (by
      rw [fw_list _ h1, List.length_append, List.length_cons, List.length_cons, ← Lib.size_eq]; omega)
    rw [List.drop_eq_getElem_cons hi, List.map_cons, show tailB (fw L[i] :: (L.drop (i + 1)).map fw) = 32 :: ((fw L[i]).data.toList ++ tailB ((L.drop (i + 1)).map fw)) from rfl]
    have e4 : s ++ 32 :: ((fw L[i]).data.toList ++ tailB ((L.drop (i + 1)).map fw)) = (s ++ 32 :: (fw L[i]).data.toList) ++ tailB ((L.drop (i + 1)).map fw) := by simp
    rw [e4]
    refine Ev.step (fun k => ?_) ih
    simp only [tallboyref27_Write.l0]
    rw [if_pos (by rw [List.length_map]; omega), if_pos (by rw [D64.ba_size]; omega), if_pos (by omega), rd_back L i hi, Option.bind_some, e, e2, if_pos (by rw [D64.ba_size, D64.ba_size]; simp; omega), D64.ba_append, if_pos (by rw [D64.ba_size]; show _ + (L[i]).f1.size ≤ _; simp; omega), e3, wrap_at i (by omega)]
theorem ev_write (o : Int) (key : ByteArray) (sz : Int) (L : List S61) (hL : L.length ≤ 200) (hk : key.size ≤ 1000) (ht : ∀ x ∈ L, x.f1.size ≤ 1000) : ∃ t e, Ev (fun k => tallboyref27_Write.f k o key sz (L.map back)) (t, e) ∧ Ev (fun k => meta_Write.f k o key sz L) (t, e) := by
  obtain ⟨e, h1, h2⟩ := ev_form o key sz L (by omega) hk ht
  by_cases he : e = 0
  · subst he
    obtain ⟨K, hK⟩ := h2
    have hs : meta_shape.f (max K 3000) o key sz L = some 0 := hK _ (by omega)
    have hm : ∀ k, max K 3000 ≤ k → meta_Write.f k o key sz L = if ((lineOf (nameOf o :: restOf o key sz L)).size : Int) > 160 then some (⟨#[]⟩, 7) else some (lineOf (nameOf o :: restOf o key sz L), 0) := fun k hk' => write_line (by omega) hL hk ht (hK k (by omega))
    obtain ⟨ho, hkb, hz, hgo⟩ := shape_zero hs
    have hg : ∀ x ∈ L, 65 ≤ x.f0 ∧ x.f0 ≤ 122 := fun x hx => (flags_ok (by omega) hL hk ht hs x hx).1
    obtain ⟨hu, hz0, hz1⟩ := size_is (by omega) hL hk ht hs
    obtain ⟨tf, hf⟩ := ev_find o key sz L (by omega) 98
    have hn2 := name_size o
    -- the flags
    have hj1 : ∀ s : List UInt8, s.length ≤ 5000 → Ev (fun k => tallboyref27_Write.j1 k (ba s) o key sz (L.map back)) (if ((s ++ tailB (L.map fw)).length : Int) > 160 then (⟨#[]⟩, 7) else (ba (s ++ tailB (L.map fw)), 0)) := by
      intro s hs
      have := ev_wflags o key sz L hL hg ht L.length 0 s (by omega) (by omega)
      rw [List.drop_zero] at this
      exact Ev.step (fun k => by simp only [tallboyref27_Write.j1]; rfl) this
    have hj0 : ∀ s : List UInt8, s.length ≤ 4000 → Ev (fun k => tallboyref27_Write.j0 k (ba s) o key sz (L.map back)) (if ((s ++ tailB ((if o = 2 then [⟨(Lib.decDigits (IntKind.u64.wrap sz).toNat).toArray⟩] else []) ++ L.map fw)).length : Int) > 160 then (⟨#[]⟩, 7) else (ba (s ++ tailB ((if o = 2 then [⟨(Lib.decDigits (IntKind.u64.wrap sz).toNat).toArray⟩] else []) ++ L.map fw)), 0)) := by
      intro s hs
      by_cases h2 : o = 2
      · have htx := ev_text sz.toNat (by omega)
        rw [show ((sz.toNat : Nat) : Int) = sz from by omega] at htx
        have hdl := Text.dec_len 9 sz.toNat (by omega)
        simp only [if_pos h2]
        rw [hu, List.singleton_append, show tailB ((⟨(Lib.decDigits sz.toNat).toArray⟩ : ByteArray) :: L.map fw) = 32 :: ((Lib.decDigits sz.toNat).toArray.toList ++ tailB (L.map fw)) from rfl, List.toList_toArray,
          show s ++ 32 :: (Lib.decDigits sz.toNat ++ tailB (L.map fw)) = (s ++ 32 :: Lib.decDigits sz.toNat) ++ tailB (L.map fw) from by simp]
        refine Ev.step (f := fun k => (tallboyref02_Text.f k sz).bind fun t248 => if (ba s ++ (⟨#[32]⟩ : ByteArray)).size + t248.size ≤ 9223372036854775807 then tallboyref27_Write.j1 k ((ba s ++ (⟨#[32]⟩ : ByteArray)) ++ t248) o key sz (L.map back) else none) (fun k => ?_) (Ev.bind htx ?_)
        · simp only [tallboyref27_Write.j0]
          rw [if_pos h2, if_pos (by rw [D64.ba_size]; omega), hu]
        · have e : ba s ++ (⟨#[32]⟩ : ByteArray) = ba (s ++ [32]) := D64.ba_append s [32]
          rw [e]
          simp only [if_pos (show (ba (s ++ [32])).size + (ba (Lib.decDigits sz.toNat)).size ≤ 9223372036854775807 from by rw [D64.ba_size, D64.ba_size]; simp; omega), D64.ba_append]
          rw [show s ++ [32] ++ Lib.decDigits sz.toNat = s ++ 32 :: Lib.decDigits sz.toNat from by simp]
          exact hj1 _ (by simp; omega)
      · simp only [if_neg h2]
        rw [List.nil_append]
        refine Ev.step (fun k => ?_) (hj1 s (by omega))
        simp only [tallboyref27_Write.j0]
        rw [if_neg h2]
    have hnl : (nameOf o).data.toList.length = 2 := by rw [← Lib.size_eq]; exact hn2
    have hw : Ev (fun k => tallboyref27_Write.f k o key sz (L.map back)) (if ((lineOf (nameOf o :: restOf o key sz L)).size : Int) > 160 then (⟨#[]⟩, 7) else (lineOf (nameOf o :: restOf o key sz L), 0)) := by
      rw [line_is, D64.ba_size]
      unfold tallboyref27_Write.f restOf
      refine Ev.bind h1 ?_
      simp only [if_true, name_is o ho, Option.bind_some]
      refine Ev.bind hf ?_
      by_cases h5 : o = 5
      · simp only [if_pos h5]
        rw [List.nil_append]
        have := hj0 (nameOf o).data.toList (by omega)
        rw [ba_data] at this
        exact this
      · simp only [if_neg h5]
        rw [List.singleton_append]
        have e0 : nameOf o ++ (⟨#[32]⟩ : ByteArray) = ba ((nameOf o).data.toList ++ [32]) := by
          rw [← D64.ba_append, ba_data]
        have e4 : ∀ (kw : List UInt8) (r : List ByteArray), (nameOf o).data.toList ++ tailB (ba kw :: r) = ((nameOf o).data.toList ++ 32 :: kw) ++ tailB r := fun kw r => by
          show (nameOf o).data.toList ++ 32 :: (kw.toArray.toList ++ tailB r) = _
          rw [List.toList_toArray]
          simp
        cases hb : has L 98 with
        | true =>
          have hel := B64.enc_length key.data.toList
          rw [← Lib.size_eq] at hel
          simp only [if_true, keyW]
          rw [show (⟨(B64.enc key.data.toList).toArray⟩ : ByteArray) = ba (B64.enc key.data.toList) from rfl, e4, e0]
          unfold tallboyref27_Encode.f
          simp only [if_pos (show (nameOf o).size + 1 ≤ 9223372036854775807 from by omega), if_pos (show key.size ≤ 1099511627776 from by omega), Option.bind_some]
          rw [show (⟨(B64.enc key.data.toList).toArray⟩ : ByteArray) = ba (B64.enc key.data.toList) from rfl, D64.ba_append]
          simp only [if_pos (show (ba ((nameOf o).data.toList ++ [32])).size + (ba (B64.enc key.data.toList)).size ≤ 9223372036854775807 from by rw [D64.ba_size, D64.ba_size, List.length_append, hnl, List.length_singleton]; omega)]
          have := hj0 ((nameOf o).data.toList ++ 32 :: B64.enc key.data.toList) (by rw [List.length_append, List.length_cons]; omega)
          rw [show (nameOf o).data.toList ++ [32] ++ B64.enc key.data.toList = (nameOf o).data.toList ++ 32 :: B64.enc key.data.toList from by simp]
          exact this
        | false =>
          simp only [Bool.false_eq_true, if_false, keyW]
          conv => rhs; rw [← ba_data key]
          rw [e4, e0]
          simp only [if_pos (show (nameOf o).size + 1 ≤ 9223372036854775807 from by omega), if_pos (show (ba ((nameOf o).data.toList ++ [32])).size + key.size ≤ 9223372036854775807 from by rw [D64.ba_size, List.length_append, hnl, List.length_singleton]; omega)]
          have hks : key.data.toList.length = key.size := (Lib.size_eq key).symm
          have := hj0 ((nameOf o).data.toList ++ 32 :: key.data.toList) (by rw [List.length_append, List.length_cons]; omega)
          rw [show ba ((nameOf o).data.toList ++ [32]) ++ key = ba ((nameOf o).data.toList ++ 32 :: key.data.toList) from by
            conv => lhs; rw [← ba_data key, D64.ba_append]
            simp]
          exact this
    by_cases h160 : ((lineOf (nameOf o :: restOf o key sz L)).size : Int) > 160
    · rw [if_pos h160] at hw
      exact ⟨_, _, hw, ⟨max K 3000, fun k hk' => by show meta_Write.f k o key sz L = _; rw [hm k hk', if_pos h160]⟩⟩
    · rw [if_neg h160] at hw
      exact ⟨_, _, hw, ⟨max K 3000, fun k hk' => by show meta_Write.f k o key sz L = _; rw [hm k hk', if_neg h160]⟩⟩
  · refine ⟨⟨#[]⟩, e, ?_, ?_⟩
    · unfold tallboyref27_Write.f
      refine Ev.bind h1 ?_
      simp only [if_neg he]
      exact Ev.now _
    · unfold meta_Write.f
      refine Ev.bind h2 ?_
      simp only [if_neg he]
      exact Ev.now _
end Go.Proofs.YtfboejlemnfndaaGreatDoor.XMr
end
section
namespace Go.Proofs.YtfboejlemnfndaaGreatDoor.XMr
open Go.RowKit Go.Proofs.YtfboejlemnfndaaGreatDoorW.PrintWords Go.Proofs.YtfboejlemnfndaaGreatDoorW.PrintLast Go.Proofs.YtfboejlemnfndaaGreatDoorW.PrintMore
set_option linter.unusedVariables false
set_option linter.unusedSimpArgs false
open D64 (ba)

def cutL (cur : List UInt8) : List UInt8 → List (List UInt8)
  | [] => [cur]
  | c :: D => if c = 32 then cur :: cutL [] D else cutL (cur ++ [c]) D
theorem cutL_ne : ∀ (D cur : List UInt8), ∃ y r, cutL cur D = y :: r
  | [], cur => ⟨_, _, rfl⟩
  | c :: D, cur => by
    unfold cutL
    split
    · exact ⟨_, _, rfl⟩
    · exact cutL_ne D _
theorem cutL_join : ∀ (D cur : List UInt8), Lib.join (cutL cur D) [32] = cur ++ D
  | [], cur => by unfold cutL; rw [Lib.join_one, List.append_nil]
  | c :: D, cur => by
    unfold cutL
    split
    · rename_i h
      subst h
      have ih := cutL_join D []
      obtain ⟨y, r, e⟩ := cutL_ne D []
      rw [e] at ih ⊢
      rw [Lib.join_cons] at ih ⊢
      rw [List.nil_append] at ih
      rw [← ih]
      simp [Lib.joinTail]
    · rw [cutL_join D (cur ++ [c])]
      simp
theorem cutL_sp : ∀ (D cur : List UInt8), (32 : UInt8) ∉ cur → ∀ y ∈ cutL cur D, (32 : UInt8) ∉ y
  | [], cur, h, y, hy => by
    obtain rfl := List.mem_singleton.1 hy
    exact h
  | c :: D, cur, h, y, hy => by
    unfold cutL at hy
    split at hy
    · rcases List.mem_cons.1 hy with rfl | hy
      · exact h
      · exact cutL_sp D [] (by simp) y hy
    · rename_i hc
      refine cutL_sp D (cur ++ [c]) ?_ y hy
      intro hm
      rcases List.mem_append.1 hm with hm | hm
      · exact h hm
      · exact hc (List.mem_singleton.1 hm).symm
theorem ev_cut_l (s : ByteArray) (hs : s.size ≤ 1000000) : ∀ (n i : Nat) (P : List ByteArray) (cur : List UInt8), n + i = s.size → P.length ≤ i → cur.length ≤ i →
    Ev (fun k => tallboyref27_cut.l0 k s (P ++ [ba cur]) (i : Int)) (P ++ (cutL cur (s.data.toList.drop i)).map ba)
  | 0, i, P, cur, h, hP, hc => by
    rw [List.drop_of_length_le (by rw [← Lib.size_eq]; omega)]
    exact ev_end (fun k => by simp only [tallboyref27_cut.l0]; rw [if_neg (by omega)]; rfl)
  | n + 1, i, P, cur, h, hP, hc => by
    have hi : i < s.data.toList.length := by rw [← Lib.size_eq]; omega
    rw [List.drop_eq_getElem_cons hi]
    by_cases h32 : s.data.toList[i] = 32
    · have ih := ev_cut_l s hs n (i + 1) (P ++ [ba cur]) [] (by omega) (by rw [List.length_append, List.length_singleton]; omega) (by simp)
      rw [show cutL cur (s.data.toList[i] :: s.data.toList.drop (i + 1)) = cur :: cutL [] (s.data.toList.drop (i + 1)) from by rw [cutL, if_pos h32], List.map_cons,
        show P ++ ba cur :: (cutL [] (s.data.toList.drop (i + 1))).map ba = (P ++ [ba cur]) ++ (cutL [] (s.data.toList.drop (i + 1))).map ba from by simp]
      refine Ev.step (fun k => ?_) ih
      simp only [tallboyref27_cut.l0]
      rw [if_pos (by omega), if_pos (by omega), bt_list s i hi, if_pos (by rw [h32]; rfl), if_pos (by rw [List.length_append, List.length_singleton]; omega), wrap_at i (by omega)]
    · have ih := ev_cut_l s hs n (i + 1) P (cur ++ [s.data.toList[i]]) (by omega) (by omega) (by rw [List.length_append, List.length_singleton]; omega)
      rw [show cutL cur (s.data.toList[i] :: s.data.toList.drop (i + 1)) = cutL (cur ++ [s.data.toList[i]]) (s.data.toList.drop (i + 1)) from by rw [cutL, if_neg h32]]
      refine Ev.step (fun k => ?_) ih
      have hn : ¬ ((s.data.toList[i]).toNat : Int) = 32 := fun e => h32 (UInt8.toNat_inj.mp (by show (s.data.toList[i]).toNat = 32; omega))
      have hw : wrap64 (((P ++ [ba cur]).length : Int) - 1) = (P.length : Int) := by rw [List.length_append, List.length_singleton]; unfold wrap64; omega
      have hr : rdOf ByteArray.empty (P ++ [ba cur]) (P.length : Int) = ba cur := by
        unfold rdOf
        rw [Int.toNat_natCast, List.getD_eq_getElem?_getD, List.getElem?_append_right (Nat.le_refl _), Nat.sub_self]
        rfl
      have hsub : sub s ((i : Nat) : Int).toNat (((i + 1 : Nat) : Int)).toNat = ba [s.data.toList[i]] := by
        refine ba_ext _ _ ?_
        show (s.extract i (i + 1)).data.toList = [s.data.toList[i]]
        rw [Lib.extract_data, show i + 1 - i = 1 from by omega, List.drop_eq_getElem_cons hi]
        rfl
      simp only [tallboyref27_cut.l0]
      rw [if_pos (by omega), if_pos (by omega), bt_list s i hi, if_neg hn, hw, wrap_at i (by omega), if_pos (by omega), if_pos (by rw [List.length_append, List.length_singleton]; omega), if_pos (by omega), if_pos (by omega), hr, hsub,
        if_pos (by rw [D64.ba_size, D64.ba_size]; simp; omega), D64.ba_append]
      congr 1
      rw [Int.toNat_natCast, List.set_append_right _ _ (Nat.le_refl _), Nat.sub_self]
      rfl
theorem ev_cut (s : ByteArray) (hs : s.size ≤ 1000) : ∃ w0 rest, Ev (fun k => tallboyref27_cut.f k s) (w0 :: rest) ∧ strings_Split.f s ⟨#[32]⟩ = some (w0 :: rest) := by
  have h := ev_cut_l s (by omega) s.size 0 [] [] (by omega) (by simp) (by simp)
  rw [List.drop_zero, List.nil_append, List.nil_append] at h
  obtain ⟨y, r, e⟩ := cutL_ne s.data.toList []
  have hj := cutL_join s.data.toList []
  have hsp := cutL_sp s.data.toList [] (by simp)
  rw [e] at h hj hsp
  refine ⟨ba y, r.map ba, h, ?_⟩
  unfold strings_Split.f
  rw [if_pos ⟨by omega, by decide⟩]
  congr 1
  have hd : ∀ l : List (List UInt8), (l.map ba).map (·.data.toList) = l := fun l => by
    rw [List.map_map]
    conv => rhs; rw [← List.map_id l]
    apply List.map_congr_left
    intro x _
    show x.toArray.toList = x
    rw [List.toList_toArray]
  have := Text.splitB_join (ba y) (r.map ba) (fun z hz => by
    rcases List.mem_cons.1 hz with rfl | hz
    · show (32 : UInt8) ∉ y.toArray.toList
      rw [List.toList_toArray]
      exact hsp y List.mem_cons_self
    · obtain ⟨x, hx, rfl⟩ := List.mem_map.1 hz
      show (32 : UInt8) ∉ x.toArray.toList
      rw [List.toList_toArray]
      exact hsp x (List.mem_cons_of_mem _ hx))
  rw [← List.map_cons (f := ba), hd (y :: r), hj, List.nil_append] at this
  rw [show (⟨s.data.toList.toArray⟩ : ByteArray) = s from ba_data s] at this
  rw [this]
  rfl
abbrev MR := Int × ByteArray × Int × List S61 × Int
def conv (r : MR) : Int × ByteArray × Int × List S59 × Int := (r.1, r.2.1, r.2.2.1, r.2.2.2.1.map back, r.2.2.2.2)
def bad : MR := (0, ⟨#[]⟩, 0, [], 6)
noncomputable def fin (s : ByteArray) (k : Nat) (m : Int × ByteArray × Int × List S61 × Bool) : Option MR :=
  if m.2.2.2.2 = true then (meta_Write.f k m.1 m.2.1 m.2.2.1 m.2.2.2.1).bind fun t => if t.2 = 0 ∧ t.1 = s then some (m.1, m.2.1, m.2.2.1, m.2.2.2.1, 0) else some bad else some bad
theorem fin_no (s : ByteArray) (o : Int) (key : ByteArray) (sz : Int) (L : List S61) : Ev (fun k => fin s k (o, key, sz, L, false)) bad := Ev.now bad
theorem rd_fin (s : ByteArray) (o : Int) (key : ByteArray) (sz : Int) (L : List S61) (hL : L.length ≤ 200) (hk : key.size ≤ 1000) (ht : ∀ x ∈ L, x.f1.size ≤ 1000) : ∃ r, Ev (fun k => fin s k (o, key, sz, L, true)) r ∧
    Ev (fun k => (tallboyref27_Write.f k o key sz (L.map back)).bind fun bt => if bt.2 = 0 then (if bt.1.toList = s.toList then some (o, key, sz, L.map back, (0 : Int)) else some (0, (⟨#[]⟩ : ByteArray), 0, ([] : List S59), 6)) else some (0, (⟨#[]⟩ : ByteArray), 0, ([] : List S59), 6)) (conv r) := by
  obtain ⟨t, e, h1, h2⟩ := ev_write o key sz L hL hk ht
  unfold fin
  simp only [if_true]
  by_cases he : e = 0
  · subst he
    by_cases hts : t = s
    · subst hts
      refine ⟨(o, key, sz, L, 0), Ev.bind h2 ?_, Ev.bind h1 ?_⟩
      · simp only [and_self, if_true]
        exact Ev.now _
      · simp only [if_true]
        exact Ev.now _
    · refine ⟨bad, Ev.bind h2 ?_, Ev.bind h1 ?_⟩
      · simp only [hts, and_false, if_false]
        exact Ev.now _
      · simp only [if_true]
        rw [if_neg (fun e => hts (ba_ext _ _ (by rw [← ByteArray.toList_eq, ← ByteArray.toList_eq]; exact e)))]
        exact Ev.now _
  · refine ⟨bad, Ev.bind h2 ?_, Ev.bind h1 ?_⟩
    · simp only [he, false_and, if_false]
      exact Ev.now _
    · simp only [if_neg he]
      exact Ev.now _
theorem told_small (key : ByteArray) (hk : key.size ≤ 1000) : (D64.told key).1.size ≤ 1000 ∧ ((D64.told key).2 = 0 ∨ (D64.told key).2 = 6) := by
  obtain ⟨b, e, h, hb⟩ := dec_tot key hk
  rw [D64.meta_decode key (by omega)] at h
  injection h with h
  rw [h]
  refine ⟨hb, ?_⟩
  have : (D64.told key).2 = 0 ∨ (D64.told key).2 = 6 := by unfold D64.told; split <;> simp
  rw [h] at this
  exact this
theorem rd_end (s : ByteArray) (o : Int) (key : ByteArray) (sz : Int) (L : List S61) (hL : L.length ≤ 200) (hk : key.size ≤ 1000) (ht : ∀ x ∈ L, x.f1.size ≤ 1000) :
    ∃ m, Ev (fun k => (meta_Find.f o key sz L 98).bind fun bt201 => if bt201.2 = true then meta_words.j5 k (o != 5) o key sz L else meta_words.j5 k false o key sz L) m ∧ ∃ r, Ev (fun k => fin s k m) r ∧
      Ev (fun k => (tallboyref27_Find.f k o key sz (L.map back) 98).bind fun bt297 => if bt297.2 = true then tallboyref27_Parse.j6 k s (o != 5) o key sz (L.map back) else tallboyref27_Parse.j6 k s false o key sz (L.map back)) (conv r) := by
  obtain ⟨t, hf⟩ := find_eq o key sz L 98
  obtain ⟨t', hf'⟩ := ev_find o key sz L (by omega) 98
  rw [hf]
  simp only [Option.bind_some]
  have hno : ∃ r, Ev (fun k => fin s k (o, key, sz, L, true)) r ∧ Ev (fun k => tallboyref27_Parse.j6 k s false o key sz (L.map back)) (conv r) := by
    obtain ⟨r, h1, h2⟩ := rd_fin s o key sz L hL hk ht
    exact ⟨r, h1, Ev.step (fun k => by simp only [tallboyref27_Parse.j6, Bool.false_eq_true, if_false]) h2⟩
  have hm : Ev (fun k => meta_words.j5 k false o key sz L) (o, key, sz, L, true) := ev_end (fun k => by simp only [meta_words.j5, Bool.false_eq_true, if_false])
  cases hb : has L 98 with
  | false =>
    rw [hb] at hf'
    obtain ⟨r, h1, h2⟩ := hno
    simp only [Bool.false_eq_true, if_false]
    refine ⟨_, hm, r, h1, Ev.bind hf' ?_⟩
    simp only [Bool.false_eq_true, if_false]
    exact h2
  | true =>
    rw [hb] at hf'
    simp only [if_true]
    cases h5 : (o != 5) with
    | false =>
      obtain ⟨r, h1, h2⟩ := hno
      refine ⟨_, hm, r, h1, Ev.bind hf' ?_⟩
      simp only [if_true]
      exact h2
    | true =>
      have hd := D64.ref_decode key (by omega)
      have hdm := D64.meta_decode key (by omega)
      obtain ⟨hs1, hs2⟩ := told_small key hk
      generalize D64.told key = v at hd hdm hs1 hs2
      obtain ⟨b, e⟩ := v
      by_cases he : e = 0
      · subst he
        obtain ⟨r, h1, h2⟩ := rd_fin s o b sz L hL hs1 ht
        refine ⟨(o, b, sz, L, true), ev_end (fun k => by simp only [meta_words.j5, if_true]; rw [hdm]; rfl), r, h1, Ev.bind hf' ?_⟩
        simp only [if_true]
        refine Ev.step (f := fun k => (tallboyref27_Decode.f k key).bind fun bt299 => if bt299.2 = 0 then ((tallboyref27_Write.f k o bt299.1 sz (L.map back)).bind fun bt => if bt.2 = 0 then (if bt.1.toList = s.toList then some (o, bt299.1, sz, L.map back, (0 : Int)) else some (0, (⟨#[]⟩ : ByteArray), 0, ([] : List S59), 6)) else some (0, (⟨#[]⟩ : ByteArray), 0, ([] : List S59), 6)) else some (0, (⟨#[]⟩ : ByteArray), 0, ([] : List S59), bt299.2)) (fun k => by simp only [tallboyref27_Parse.j6, if_true]) (Ev.bind hd ?_)
        simp only [if_true]
        exact h2
      · have h6 : e = 6 := by
          rcases hs2 with h | h
          · exact absurd h he
          · exact h
        subst h6
        refine ⟨(0, ⟨#[]⟩, 0, [], false), ev_end (fun k => by simp only [meta_words.j5, if_true]; rw [hdm]; rfl), bad, fin_no _ _ _ _ _, Ev.bind hf' ?_⟩
        simp only [if_true]
        refine Ev.step (f := fun k => (tallboyref27_Decode.f k key).bind fun bt299 => if bt299.2 = 0 then ((tallboyref27_Write.f k o bt299.1 sz (L.map back)).bind fun bt => if bt.2 = 0 then (if bt.1.toList = s.toList then some (o, bt299.1, sz, L.map back, (0 : Int)) else some (0, (⟨#[]⟩ : ByteArray), 0, ([] : List S59), 6)) else some (0, (⟨#[]⟩ : ByteArray), 0, ([] : List S59), 6)) else some (0, (⟨#[]⟩ : ByteArray), 0, ([] : List S59), bt299.2)) (fun k => by simp only [tallboyref27_Parse.j6, if_true]) (Ev.bind hd ?_)
        simp only [if_neg he]
        exact Ev.now _
theorem rd_of (ws : List ByteArray) (i : Nat) (hi : i < ws.length) : rdOf ByteArray.empty ws (i : Int) = ws[i] := by
  unfold rdOf
  rw [Int.toNat_natCast, List.getD_eq_getElem?_getD, List.getElem?_eq_getElem hi]
  rfl
theorem rd_flags (s : ByteArray) (o : Int) (key : ByteArray) (sz : Int) (ws : List ByteArray) (a : Nat) (hw : ws.length ≤ 200) (hk : key.size ≤ 1000) (hs : ∀ w ∈ ws, w.size ≤ 1000) : ∀ (n i : Nat) (L : List S61), n + (a + i) = ws.length → L.length ≤ i → (∀ x ∈ L, x.f1.size ≤ 1000) →
    ∃ m, Ev (fun k => meta_words.l0 k o (ws.drop a) ((ws.drop a).length : Int) (i : Int) o key sz L) m ∧ ∃ r, Ev (fun k => fin s k m) r ∧ Ev (fun k => tallboyref27_Parse.l1 k s ws ((a + i : Nat) : Int) o key sz (L.map back)) (conv r)
  | 0, i, L, hn, hL, ht => by
    obtain ⟨m, h1, r, h2, h3⟩ := rd_end s o key sz L (by omega) hk ht
    refine ⟨m, Ev.step (fun k => ?_) h1, r, h2, Ev.step (fun k => ?_) h3⟩
    · simp only [meta_words.l0]
      rw [if_neg (by rw [List.length_drop]; omega)]
    · simp only [tallboyref27_Parse.l1]
      rw [if_neg (by omega)]
  | n + 1, i, L, hn, hL, ht => by
    have hi : a + i < ws.length := by omega
    have hid : i < (ws.drop a).length := by rw [List.length_drop]; omega
    have e : (ws.drop a)[i] = ws[a + i] := by rw [List.getElem_drop]
    have hwi := hs _ (List.getElem_mem hi)
    by_cases hne : (ws[a + i]).toList = []
    · refine ⟨(0, ⟨#[]⟩, 0, [], false), ev_end (fun k => ?_), bad, fin_no _ _ _ _ _, ev_end (fun k => ?_)⟩
      · simp only [meta_words.l0]
        rw [if_pos (by omega), if_pos (by omega), if_pos (by omega), rd_of _ i hid, e, if_pos hne]
      · simp only [tallboyref27_Parse.l1]
        rw [if_pos (by omega), if_pos (by omega), rd_of _ (a + i) hi, if_pos hne]
        rfl
    · have h1 : 1 ≤ (ws[a + i]).size := by
        rw [ByteArray.toList_eq] at hne
        rw [Lib.size_eq]
        exact List.length_pos_iff.2 hne
      obtain ⟨m, h2, r, h3, h4⟩ := rd_flags s o key sz ws a hw hk hs n (i + 1) (L ++ [⟨bt ws[a + i] 0, sub ws[a + i] 1 (ws[a + i]).size⟩]) (by omega) (by rw [List.length_append, List.length_singleton]; omega) (fun x hx => by
        rcases List.mem_append.1 hx with hx | hx
        · exact ht x hx
        · obtain rfl := List.mem_singleton.1 hx
          show ((ws[a + i]).extract 1 (ws[a + i]).size).size ≤ 1000
          rw [ByteArray.size_extract]
          omega)
      refine ⟨m, Ev.step (fun k => ?_) h2, r, h3, Ev.step (fun k => ?_) h4⟩
      · simp only [meta_words.l0]
        rw [if_pos (by omega), if_pos (by omega), if_pos (by omega), rd_of _ i hid, e, if_neg hne, if_pos (by omega), if_pos (by omega), if_pos (by omega), wrap_at i (by omega)]
      · simp only [tallboyref27_Parse.l1]
        rw [if_pos (by omega), if_pos (by omega), rd_of _ (a + i) hi, if_neg hne, if_pos (by omega), if_pos (by omega), if_pos (by rw [List.length_map]; omega), wrap_at (a + i) (by omega), List.map_append]
        rfl
end Go.Proofs.YtfboejlemnfndaaGreatDoor.XMr
end
section
namespace Go.Proofs.YtfboejlemnfndaaGreatDoor.XMr
open Go.RowKit Go.Proofs.YtfboejlemnfndaaGreatDoorW.PrintWords Go.Proofs.YtfboejlemnfndaaGreatDoorW.PrintLast Go.Proofs.YtfboejlemnfndaaGreatDoorW.PrintMore
set_option linter.unusedVariables false
set_option linter.unusedSimpArgs false
open D64 (ba)

theorem from_l0 (o : Int) (key : ByteArray) (sz : Int) (l : List S61) (hl : l.length ≤ 200) : ∀ (n k i : Nat), n + i = l.length → n < k →
    tallboylaw27_From.l0 k (i : Int) o key sz l o key sz ((l.take i).map back) = some (o, key, sz, l.map back)
  | n, 0, i, _, h => absurd h (by omega)
  | 0, k + 1, i, h, _ => by
    simp only [tallboylaw27_From.l0]
    rw [if_neg (by omega), List.take_of_length_le (by omega)]
  | n + 1, k + 1, i, h, hk => by
    have ih := from_l0 o key sz l hl n k (i + 1) (by omega) (by omega)
    have e : (l.take (i + 1)).map back = (l.take i).map back ++ [⟨(rd_T61 l (i : Int)).f0, (rd_T61 l (i : Int)).f1⟩] := by
      have hi : i < l.length := by omega
      rw [List.take_add_one, List.getElem?_eq_getElem hi, List.map_append]
      congr 1
      unfold rd_T61
      rw [Int.toNat_natCast, List.getD_eq_getElem?_getD, List.getElem?_eq_getElem hi]
      rfl
    simp only [tallboylaw27_From.l0]
    rw [if_pos (by omega), if_pos (by omega), if_pos (by rw [List.length_map, List.length_take]; omega), wrap_at i (by omega), ← e]
    exact ih
theorem from_eq (o : Int) (key : ByteArray) (sz : Int) (l : List S61) (hl : l.length ≤ 200) (k : Nat) (hk : 210 ≤ k) : tallboylaw27_From.f k o key sz l = some (o, key, sz, l.map back) :=
  from_l0 o key sz l hl l.length k 0 (by omega) (by omega)
theorem same_l0 (o : Int) (key : ByteArray) (sz : Int) (l : List S59) (hl : l.length ≤ 200) : ∀ (n k i : Nat), n + i = l.length → n < k → tallboyref27_Same.l0 k (i : Int) o key sz l o key sz l = some true
  | n, 0, i, _, h => absurd h (by omega)
  | 0, k + 1, i, h, _ => by
    simp only [tallboyref27_Same.l0]
    rw [if_neg (by omega)]
  | n + 1, k + 1, i, h, hk => by
    have ih := same_l0 o key sz l hl n k (i + 1) (by omega) (by omega)
    simp only [tallboyref27_Same.l0]
    rw [if_pos (by omega), if_pos (by omega), if_pos (by omega), if_neg (by simp), wrap_at i (by omega)]
    exact ih
theorem same_self (o : Int) (key : ByteArray) (sz : Int) (l : List S59) (hl : l.length ≤ 200) (k : Nat) (hk : 210 ≤ k) : tallboyref27_Same.f k o key sz l o key sz l = some true := by
  obtain ⟨k, rfl⟩ : ∃ j, k = j + 1 := ⟨k - 1, by omega⟩
  unfold tallboyref27_Same.f
  rw [if_pos rfl, if_pos rfl, if_pos rfl, show ((l.length : Int) != (l.length : Int)) = false from by simp]
  simp only [tallboyref27_Same.j0, Bool.false_eq_true, if_false]
  exact same_l0 o key sz l hl l.length k 0 (by omega) (by omega)
theorem rd_size (s : ByteArray) (o : Int) (key : ByteArray) (ws : List ByteArray) (a : Nat) (ha : a ≤ ws.length) (h2 : o = 2 → ((ws.length > 2 ↔ a < ws.length) ∧ (a < ws.length → a = 2))) (hw : ws.length ≤ 200) (hk : key.size ≤ 1000) (hs : ∀ w ∈ ws, w.size ≤ 1000) :
    ∃ m, Ev (fun k => meta_words.j1 k o (ws.drop a) o key 0) m ∧ ∃ r, Ev (fun k => fin s k m) r ∧ Ev (fun k => tallboyref27_Parse.j2 k s ws (a : Int) o key 0) (conv r) := by
  have hno : ∃ m, Ev (fun k => meta_words.j2 k o (ws.drop a) false o key 0) m ∧ ∃ r, Ev (fun k => fin s k m) r ∧ Ev (fun k => tallboyref27_Parse.j3 k s ws (a : Int) false o key 0) (conv r) := by
    obtain ⟨m, h1, r, h3, h4⟩ := rd_flags s o key 0 ws a hw hk hs (ws.length - a) 0 [] (by omega) (by simp) (fun x hx => by cases hx)
    refine ⟨m, Ev.step (f := fun k => meta_words.j3 k o (ws.drop a) o key 0) (fun k => by simp only [meta_words.j2, Bool.false_eq_true, if_false]) (Ev.step (fun k => by simp only [meta_words.j3]; rfl) h1), r, h3, Ev.step (f := fun k => tallboyref27_Parse.j4 k s ws (a : Int) o key 0) (fun k => by simp only [tallboyref27_Parse.j3, Bool.false_eq_true, if_false]) (Ev.step (fun k => by simp only [tallboyref27_Parse.j4]; rfl) h4)⟩
  by_cases ho : o = 2
  · obtain ⟨h2a, h2b⟩ := h2 ho
    by_cases hlt : a < ws.length
    · obtain rfl := h2b hlt
      have hw2 : ws.length > 2 := hlt
      have hwi := hs _ (List.getElem_mem hlt)
      have hp := ev_digits ws[2] (by omega)
      have hpm := parse_tot ws[2] hwi
      have hd0 : rdOf ByteArray.empty (ws.drop 2) 0 = ws[2] := by
        have := rd_of (ws.drop 2) 0 (by rw [List.length_drop]; omega)
        rw [show ((0 : Nat) : Int) = 0 from rfl] at this
        rw [this, List.getElem_drop]
      have hd2 : rdOf ByteArray.empty ws 2 = ws[2] := rd_of ws 2 hlt
      have hlen : (ws.drop 2).length = ws.length - 2 := List.length_drop ..
      generalize digits_Parse.val (ws[2]).data.toList = v at hp hpm
      obtain ⟨n, e⟩ := v
      have hm : ∀ k, meta_words.j1 (k + 1) o (ws.drop 2) o key 0 = meta_words.j2 k o (ws.drop 2) true o key 0 := fun k => by
        simp only [meta_words.j1]
        rw [if_pos ho, decide_eq_true (by omega)]
      have hr : ∀ k, tallboyref27_Parse.j2 (k + 1) s ws ((2 : Nat) : Int) o key 0 = tallboyref27_Parse.j3 k s ws ((2 : Nat) : Int) true o key 0 := fun k => by
        simp only [tallboyref27_Parse.j2]
        rw [if_pos ho, decide_eq_true (by omega)]
      have hm2 : ∀ k, meta_words.j2 (k + 1) o (ws.drop 2) true o key 0 = (meta_size.f ws[2]).bind fun bt190 => if bt190.2 = true then meta_words.j3 k o (ws.drop 3) o key bt190.1 else some (0, ⟨#[]⟩, 0, [], false) := fun k => by
        simp only [meta_words.j2, if_true]
        rw [if_pos (by omega), hd0]
        simp only [if_pos (show (1 : Int) ≤ ((ws.drop 2).length : Int) from by omega), List.drop_drop]
      have hr2 : ∀ k, tallboyref27_Parse.j3 (k + 1) s ws ((2 : Nat) : Int) true o key 0 = (tallboyref02_Parse.f k ws[2]).bind fun bt289 => if bt289.2 = 0 then (if bt289.1 > 2147483647 then some (0, (⟨#[]⟩ : ByteArray), 0, ([] : List S59), 6) else tallboyref27_Parse.j4 k s ws 3 o key (wrap64 bt289.1)) else some (0, (⟨#[]⟩ : ByteArray), 0, ([] : List S59), 6) := fun k => by
        simp only [tallboyref27_Parse.j3, if_true]
        rw [if_pos (by omega), hd2]
      by_cases he : e = 0
      · subst he
        have hsz : meta_size.f ws[2] = some (wrap64 n, decide (n ≤ 2147483647)) := by
          unfold meta_size.f
          rw [hpm]
          rfl
        by_cases hn : n ≤ 2147483647
        · obtain ⟨m, h1, r, h3, h4⟩ := rd_flags s o key (wrap64 n) ws 3 hw hk hs (ws.length - 3) 0 [] (by omega) (by simp) (fun x hx => by cases hx)
          refine ⟨m, Ev.step hm (Ev.step (f := fun k => meta_words.j3 k o (ws.drop 3) o key (wrap64 n)) (fun k => ?_) (Ev.step (fun k => by simp only [meta_words.j3]; rfl) h1)), r, h3, Ev.step hr (Ev.step hr2 (Ev.bind hp ?_))⟩
          · rw [hm2, hsz]
            simp only [Option.bind_some]
            rw [if_pos (decide_eq_true hn)]
          · simp only [if_true, if_neg (show ¬ n > 2147483647 from by omega)]
            exact Ev.step (fun k => by simp only [tallboyref27_Parse.j4]; rfl) h4
        · refine ⟨(0, ⟨#[]⟩, 0, [], false), Ev.step hm (ev_end (fun k => ?_)), bad, fin_no _ _ _ _ _, Ev.step hr (Ev.step hr2 (Ev.bind hp ?_))⟩
          · rw [hm2, hsz]
            simp only [Option.bind_some]
            rw [if_neg (by rw [decide_eq_true_eq]; exact hn)]
          · simp only [if_true, if_pos (show n > 2147483647 from by omega)]
            exact Ev.now _
      · have hsz : meta_size.f ws[2] = some (wrap64 n, false) := by
          unfold meta_size.f
          rw [hpm]
          simp only [Option.bind_some]
          rw [if_neg he]
        refine ⟨(0, ⟨#[]⟩, 0, [], false), Ev.step hm (ev_end (fun k => ?_)), bad, fin_no _ _ _ _ _, Ev.step hr (Ev.step hr2 (Ev.bind hp ?_))⟩
        · rw [hm2, hsz]
          rfl
        · simp only [if_neg he]
          exact Ev.now _
    · obtain ⟨m, h1, r, h3, h4⟩ := hno
      refine ⟨m, Ev.step (fun k => ?_) h1, r, h3, Ev.step (fun k => ?_) h4⟩
      · simp only [meta_words.j1]
        rw [if_pos ho, decide_eq_false (by rw [List.length_drop]; omega)]
      · simp only [tallboyref27_Parse.j2]
        rw [if_pos ho, decide_eq_false (by omega)]
  · obtain ⟨m, h1, r, h3, h4⟩ := hno
    refine ⟨m, Ev.step (fun k => ?_) h1, r, h3, Ev.step (fun k => ?_) h4⟩
    · simp only [meta_words.j1]
      rw [if_neg ho]
    · simp only [tallboyref27_Parse.j2]
      rw [if_neg ho]
noncomputable def exit_ (s : ByteArray) (ws : List ByteArray) (k : Nat) (n : Int) : Option (Int × ByteArray × Int × List S59 × Int) :=
  if n = 0 then some (0, (⟨#[]⟩ : ByteArray), 0, ([] : List S59), 70) else (if n = 5 then tallboyref27_Parse.j1 k s ws 1 false n (⟨#[]⟩ : ByteArray) 0 else tallboyref27_Parse.j1 k s ws 1 (decide ((ws.length : Int) > 1)) n (⟨#[]⟩ : ByteArray) 0)
theorem rd_key (s : ByteArray) (o : Int) (ho : o ≠ 0) (w0 : ByteArray) (rest : List ByteArray) (hw : (w0 :: rest).length ≤ 200) (hs : ∀ w ∈ w0 :: rest, w.size ≤ 1000) :
    ∃ m, Ev (fun k => meta_words.f k o rest) m ∧ ∃ r, Ev (fun k => fin s k m) r ∧ Ev (fun k => exit_ s (w0 :: rest) k o) (conv r) := by
  have h0 : (⟨#[]⟩ : ByteArray).size ≤ 1000 := by decide
  unfold exit_ meta_words.f
  simp only [if_neg ho]
  have hno : (o = 2 → rest = []) → ∃ m, Ev (fun k => meta_words.j0 k o rest false o (⟨#[]⟩ : ByteArray) 0) m ∧ ∃ r, Ev (fun k => fin s k m) r ∧ Ev (fun k => tallboyref27_Parse.j1 k s (w0 :: rest) 1 false o (⟨#[]⟩ : ByteArray) 0) (conv r) := by
    intro hr
    obtain ⟨m, h1, r, h3, h4⟩ := rd_size s o ⟨#[]⟩ (w0 :: rest) 1 (by simp) (fun h2 => by rw [hr h2]; simp) hw h0 hs
    rw [List.drop_one, List.tail_cons] at h1
    exact ⟨m, Ev.step (fun k => by simp only [meta_words.j0, Bool.false_eq_true, if_false]) h1, r, h3, Ev.step (fun k => by simp only [tallboyref27_Parse.j1, Bool.false_eq_true, if_false]; rfl) h4⟩
  by_cases h5 : o = 5
  · simp only [if_pos h5]
    exact hno (fun h2 => by omega)
  · simp only [if_neg h5]
    cases rest with
    | nil =>
      rw [decide_eq_false (by simp), decide_eq_false (by simp)]
      exact hno (fun _ => rfl)
    | cons r0 rs =>
      rw [decide_eq_true (by simp <;> omega), decide_eq_true (by simp <;> omega)]
      obtain ⟨m, h1, r, h3, h4⟩ := rd_size s o r0 (w0 :: r0 :: rs) 2 (by simp) (fun h2 => ⟨Iff.rfl, fun _ => rfl⟩) hw (hs r0 (by simp)) hs
      rw [show (w0 :: r0 :: rs).drop 2 = rs from rfl] at h1
      refine ⟨m, Ev.step (fun k => ?_) h1, r, h3, Ev.step (fun k => ?_) h4⟩
      · simp only [meta_words.j0, if_true]
        rw [if_pos (by simp <;> omega), if_pos (by simp <;> omega)]
        rfl
      · simp only [tallboyref27_Parse.j1, if_true]
        rw [if_pos (by simp <;> omega)]
        rfl
def upd (w : ByteArray) (x n : Int) : Int := if (nameOf x).toList = w.toList then x else n
theorem upd_or {w : ByteArray} {x n : Int} (hx : 1 ≤ x ∧ x ≤ 6) (hn : n = 0 ∨ (1 ≤ n ∧ n ≤ 6 ∧ nameOf n = w)) : upd w x n = 0 ∨ (1 ≤ upd w x n ∧ upd w x n ≤ 6 ∧ nameOf (upd w x n) = w) := by
  unfold upd
  split
  · rename_i h
    exact .inr ⟨hx.1, hx.2, ba_ext _ _ (by rw [← ByteArray.toList_eq, ← ByteArray.toList_eq]; exact h)⟩
  · exact hn
theorem upd_no {w : ByteArray} {x n : Int} (hx : 1 ≤ x) (h : upd w x n = 0) : n = 0 ∧ (nameOf x).toList ≠ w.toList := by
  unfold upd at h
  split at h
  · omega
  · rename_i hn
    exact ⟨h, hn⟩
def opOf (w : ByteArray) : Int := upd w 6 (upd w 5 (upd w 4 (upd w 3 (upd w 2 (upd w 1 0)))))
theorem opOf_or (w : ByteArray) : opOf w = 0 ∨ (1 ≤ opOf w ∧ opOf w ≤ 6 ∧ nameOf (opOf w) = w) :=
  upd_or (by omega) (upd_or (by omega) (upd_or (by omega) (upd_or (by omega) (upd_or (by omega) (upd_or (by omega) (.inl rfl))))))
theorem opOf_no {w : ByteArray} (h : opOf w = 0) : ∀ x : Int, 1 ≤ x → x ≤ 6 → (nameOf x).toList ≠ w.toList := by
  obtain ⟨h, h6⟩ := upd_no (by omega) h
  obtain ⟨h, h5⟩ := upd_no (by omega) h
  obtain ⟨h, h4⟩ := upd_no (by omega) h
  obtain ⟨h, h3⟩ := upd_no (by omega) h
  obtain ⟨h, h2⟩ := upd_no (by omega) h
  obtain ⟨h, h1⟩ := upd_no (by omega) h
  intro x a b
  have hn : x = 1 ∨ x = 2 ∨ x = 3 ∨ x = 4 ∨ x = 5 ∨ x = 6 := by omega
  rcases hn with rfl | rfl | rfl | rfl | rfl | rfl <;> assumption
theorem op_step (s w0 : ByteArray) (rest : List ByteArray) (x n : Int) (hx : 1 ≤ x ∧ x ≤ 6) {r : Int × ByteArray × Int × List S59 × Int} (h : Ev (fun k => tallboyref27_Parse.l0 k s (w0 :: rest) (x + 1) (upd w0 x n) (⟨#[]⟩ : ByteArray) 0) r) :
    Ev (fun k => tallboyref27_Parse.l0 k s (w0 :: rest) x n (⟨#[]⟩ : ByteArray) 0) r := by
  refine Ev.step (fun k => ?_) h
  simp only [tallboyref27_Parse.l0]
  rw [if_pos hx.2, name_is x hx, Option.bind_some, if_pos (by simp <;> omega), show wrap64 (x + 1) = x + 1 from by unfold wrap64; omega, show rdOf ByteArray.empty (w0 :: rest) 0 = w0 from rfl]
  unfold upd
  split <;> rfl
theorem op_loop (s w0 : ByteArray) (rest : List ByteArray) {r : Int × ByteArray × Int × List S59 × Int} (h : Ev (fun k => exit_ s (w0 :: rest) k (opOf w0)) r) : Ev (fun k => tallboyref27_Parse.l0 k s (w0 :: rest) 1 0 (⟨#[]⟩ : ByteArray) 0) r := by
  refine op_step s w0 rest 1 0 (by omega) (op_step s w0 rest (1 + 1) _ (by omega) (op_step s w0 rest (1 + 1 + 1) _ (by omega) (op_step s w0 rest (1 + 1 + 1 + 1) _ (by omega) (op_step s w0 rest (1 + 1 + 1 + 1 + 1) _ (by omega) (op_step s w0 rest (1 + 1 + 1 + 1 + 1 + 1) _ (by omega) ?_)))))
  refine Ev.step (fun k => ?_) h
  simp only [tallboyref27_Parse.l0]
  rw [if_neg (by omega)]
  rfl
theorem ev_named (w : ByteArray) : Ev (fun k => meta_named.f k w) (opOf w) := by
  rcases opOf_or w with h | ⟨h1, h2, h3⟩
  · have hno := opOf_no h
    rw [h]
    obtain ⟨T, hT, hT7, hTn⟩ := ops_tab
    have hstep : ∀ (x : Int), 1 ≤ x → x ≤ 6 → ∀ k, meta_named.l0 (k + 1) w T (T.length : Int) x = meta_named.l0 k w T (T.length : Int) (x + 1) := fun x a b k => by
      simp only [meta_named.l0]
      rw [if_pos (by omega), if_pos (by omega), if_pos (by omega), if_pos (by omega), hTn x a b, if_neg (hno x a b), show wrap64 (x + 1) = x + 1 from by unfold wrap64; omega]
    have h0 : ∀ k, meta_named.f (k + 1) w = meta_named.l0 k w T (T.length : Int) 1 := fun k => by
      unfold meta_named.f
      rw [hT]
      simp only [Option.bind_some, meta_named.l0]
      rw [if_pos (by omega), if_pos (by omega), if_pos (by omega), if_neg (by omega), show wrap64 (0 + 1) = 1 from by unfold wrap64; omega]
    refine Ev.step h0 (Ev.step (hstep 1 (by omega) (by omega)) (Ev.step (hstep (1 + 1) (by omega) (by omega)) (Ev.step (hstep (1 + 1 + 1) (by omega) (by omega)) (Ev.step (hstep (1 + 1 + 1 + 1) (by omega) (by omega)) (Ev.step (hstep (1 + 1 + 1 + 1 + 1) (by omega) (by omega)) (Ev.step (hstep (1 + 1 + 1 + 1 + 1 + 1) (by omega) (by omega)) (ev_end (fun k => ?_))))))))
    simp only [meta_named.l0]
    rw [if_neg (by omega)]
  · generalize opOf w = n at h1 h2 h3
    subst h3
    exact ⟨20, fun k hk => named_up n ⟨h1, h2⟩ k hk⟩
theorem ev_parse (s : ByteArray) : ∃ r, Ev (fun k => meta_Parse.f k s) r ∧ Ev (fun k => tallboyref27_Parse.f k s) (conv r) := by
  unfold meta_Parse.f tallboyref27_Parse.f
  by_cases h160 : s.size > 160
  · simp only [if_pos h160, if_pos (show (s.size : Int) > 160 from by omega)]
    exact ⟨(0, ⟨#[]⟩, 0, [], 7), Ev.now _, Ev.now _⟩
  · simp only [if_neg h160, if_neg (show ¬ (s.size : Int) > 160 from by omega)]
    obtain ⟨w0, rest, hc, hsp⟩ := ev_cut s (by omega)
    have hb : (w0 :: rest).length ≤ 200 ∧ ∀ w ∈ w0 :: rest, w.size ≤ 1000 := by
      have e := hsp
      unfold strings_Split.f at e
      rw [if_pos ⟨by omega, by decide⟩] at e
      injection e with e
      rw [← e]
      refine ⟨?_, split_sizes ⟨#[32]⟩ 1000 (Lib.countB s ⟨#[32]⟩) s (by omega)⟩
      have h1 := Lib.splitB_length_le ⟨#[32]⟩ 0 (Lib.countB s ⟨#[32]⟩) s
      have h2 := Lib.count_le s.data.toList (⟨#[32]⟩ : ByteArray).data.toList
      have h3 : Lib.countB s ⟨#[32]⟩ ≤ s.data.toList.length + 1 := h2
      rw [← Lib.size_eq] at h3
      omega
    simp only [hsp, Option.bind_some]
    have hn := ev_named w0
    by_cases h0 : opOf w0 = 0
    · refine ⟨(0, ⟨#[]⟩, 0, [], 70), Ev.bind hn ?_, Ev.bind hc (op_loop s w0 rest ?_)⟩
      · simp only [if_pos h0]
        exact Ev.now _
      · unfold exit_
        simp only [if_pos h0]
        exact Ev.now _
    · obtain ⟨m, h1, r, h2, h3⟩ := rd_key s (opOf w0) h0 w0 rest hb.1 hb.2
      refine ⟨r, Ev.bind hn ?_, Ev.bind hc (op_loop s w0 rest h3)⟩
      simp only [if_neg h0]
      exact Ev.bind h1 h2
theorem law_true (s : ByteArray) : ∃ k, tallboylaw27_MetaReads.f k s = some true := by
  obtain ⟨r, ⟨K1, h1⟩, ⟨K2, h2⟩⟩ := ev_parse s
  refine ⟨max (max K1 K2) 3000, ?_⟩
  generalize hk : max (max K1 K2) 3000 = k
  have e1 : meta_Parse.f k s = some r := h1 k (by omega)
  have e2 : tallboyref27_Parse.f k s = some (conv r) := h2 k (by omega)
  obtain ⟨o, key, sz, L, e, hp, ha, hb⟩ := parse_all s k (by omega)
  rw [hp] at e1
  injection e1 with e1
  subst e1
  have hL : L.length ≤ 200 := by
    by_cases h0 : e = 0
    · exact (ha h0).1
    · obtain ⟨_, _, _, h⟩ := hb h0
      rw [h]
      simp
  unfold tallboylaw27_MetaReads.f
  split
  · rfl
  · rw [hp, e2]
    simp only [Option.bind_some]
    rw [from_eq o key sz L hL k (by omega)]
    simp only [Option.bind_some]
    rw [show (conv (o, key, sz, L, e)) = (o, key, sz, L.map back, e) from rfl]
    rw [same_self o key sz (L.map back) (by rw [List.length_map]; exact hL) k (by omega)]
    simp
end Go.Proofs.YtfboejlemnfndaaGreatDoor.XMr
end
section
namespace Go.Proofs.YtfboejlemnfndaaGreatDoor.metaReads
open Go.ChangeShapes Go.WideShapes Go.ChangeAt Go.RowKit
open Go.ChangeMaps (open_string shut_string)

theorem own : ownKnob Tryz.prog.godebug = none := by kernel_rfl
theorem laid_met (os : Os) (args : Array Value) : laidMetH Tryz.prog Rows.metaReadsRow.laid ((World.laidAll Tryz.prog os Rows.metaReadsRow.laid).forCall (fun _ _ => 0) ⟨#[], args, []⟩).memory := by
  rw [MakeChecks.laidMetH_plain _ _ _ (by kernel_rfl)]
  exact laidMet_laidAll _ (by kernel_rfl) (by kernel_rfl)
theorem shaped (os : Os) (args : Array Value) : ((World.laidAll Tryz.prog os Rows.metaReadsRow.laid).forCall (fun _ _ => 0) ⟨#[], args, []⟩).Shaped Tryz.prog :=
  World.shaped_of_ZipB (by kernel_rfl) (by kernel_rfl)

theorem laidOut : laidOutB Tryz.prog = true := by kernel_rfl
theorem star : "*" ++ "errors.errorString" = "*errors.errorString" := by decide
theorem star_row (u : TypeId) (h : Tryz.prog.typeName? 3 u = some "*errors.errorString") : u = 161 :=
  typeName_ptr_named (nm := "errors.errorString") (by rw [star]; kernel_rfl) (by kernel_rfl) (by decide) u (by rw [star]; exact h)
theorem vars_of {W : World} (h : laidMetH Tryz.prog Rows.metaReadsRow.laid W) (hsh : W.ShapedOpen Tryz.prog) : Vars W := by
  rw [MakeChecks.laidMetH_plain _ _ _ (by kernel_rfl)] at h
  obtain ⟨a0, s0, h0, -, -, -⟩ := laid_sentinel h.tail.tail.tail.tail gRange (ti := 95) (by kernel_rfl) Tryz.underlying95 star_row Tryz.underlying161 Tryz.underlying163 rfl rfl Tryz.underlying9 (by kernel_rfl) (by kernel_rfl)
  obtain ⟨a1, s1, h1, -, -, -⟩ := laid_sentinel h.tail.tail.tail.tail.tail gSyntax (ti := 95) (by kernel_rfl) Tryz.underlying95 star_row Tryz.underlying161 Tryz.underlying163 rfl rfl Tryz.underlying9 (by kernel_rfl) (by kernel_rfl)
  exact ⟨trivial, Lib.tabIs_of_head gPow (by kernel_rfl) Tryz.underlying153 Tryz.underlying34 (by kernel_rfl) (by kernel_rfl) h.tail.tail,
    cell_of_shapedOpen_int (P := Tryz.prog) (g := 1) (t := 3) (zero := #[.int .i64 0]) hsh (of_decide_eq_true (by kernel_rfl)) (by kernel_rfl) rfl (by kernel_rfl) (by kernel_rfl) Tryz.underlying3, ⟨_, _, h1⟩, ⟨_, _, h0⟩⟩
set_option maxRecDepth 100000 in
theorem lifted (os : Os) (started : os.Started) (H : Type) (enc : TypeId × Value → H) (F : Stop.Interp) :
    ReturnsInHanded {} Tryz.checked os 4 .any ((OpenSpec.ofChange Rows.metaReadsSpec).preRow enc Tryz.prog Tryz.f4 Rows.metaReadsRow.domain false Rows.metaReadsRow.laid) (((OpenSpec.ofChange Rows.metaReadsSpec).at F).post enc Tryz.prog Tryz.f4 false true false false) := by
  refine returnsInHanded_of_row (C := Tryz.checked) (s := OpenSpec.ofChange Rows.metaReadsSpec) own started (by kernel_rfl) Tryz.func4
    (ChangeSpec.witness_shaped (enc := enc) (C := Tryz.checked) (os := os) (s := Rows.metaReadsSpec) (X := fun w _ => laidMetH Tryz.prog Rows.metaReadsRow.laid w) false (World.laidAll Tryz.prog os Rows.metaReadsRow.laid) #[.string ByteArray.empty] 8 (World.laidAll_os _ _ _)
      (shaped os _) (by kernel_rfl) (by kernel_rfl) (by kernel_rfl) (laid_met os _)) ?_
  intro W base args ds gs before hval0 hW _ _ hsz0 hL hsh _
  have hsz : (DataW.weightsEach Tryz.prog (Tryz.f4.params.toList ++ Rows.metaReadsSpec.plain.varTypes Tryz.prog) (ds ++ gs)).all (· ≤ reachBytes) = true := hsz0
  have hval : ∀ (j : Nat) t v, Tryz.f4.params[j]? = some t → args[j]? = some v → Value.okWide Tryz.prog W .any base t v := hval0
  have hW' := hW
  obtain ⟨p, q, hA0, hV, rfl, hfz, hnd⟩ := hW
  have hA : DataW.TrodAll enc Tryz.prog W 0 (fun _ => true) true Tryz.f4.params.toList args.toList ds p := hA0
  rw [Tryz.params4] at hA hval hsz
  obtain ⟨v0, vs0, d0, ds0, p0, q0, hargs, rfl, rfl, h0, r0⟩ := trodAll_cons hA
  obtain ⟨rfl, rfl, rfl⟩ := trodAll_nil r0
  obtain rfl : args = #[v0] := by cases args; simp_all
  obtain ⟨rfl, rfl⟩ := trodVars_none hV
  obtain ⟨a0, rfl, rfl, rfl, y0⟩ := open_string Tryz.underlying9 (hval 0 9 v0 rfl rfl) h0
  clear hA0 hval0 hsz0 hsz
  have hv : Vars W := vars_of hL hsh
  obtain ⟨k, hk⟩ := XMr.law_true a0
  refine (XMr.tallboylaw27_MetaReads.calls k a0 true W hv hk).mono fun e W' ⟨he, bel⟩ => ?_
  subst he
  exact ⟨_, rfl, _, _, _, [], _, [], hW', trodAll_mk1 (shut_bool Tryz.underlying4 _), (trodAll_cons_mk (shut_string Tryz.underlying9 y0) trodAll_mk0), rfl, bel.frame _, fun h => by cases h⟩

theorem said : Rows.MetaReadsSaid :=
  OpenClaim.holds_of_cond 4 Tryz.f4 rfl rfl rfl rfl rfl rfl rfl ⟨rfl, rfl, rfl, rfl, rfl⟩ rfl rfl rfl rfl rfl (by kernel_rfl) Tryz.func4 (by kernel_rfl)
    (of_decide_eq_true (by kernel_rfl)) (by unfold Func.isWrapper; first | (rw [if_pos (by decide +kernel)]; kernel_rfl) | (rw [if_neg (by decide +kernel)]; exact ⟨rfl, rfl⟩))
    (fun os started H enc _ F => by rw [OpenClaim.pre_eq_preRow]; exact lifted os started H enc F)

theorem plain (f : FuncId) (fn : Func) (hf : Tryz.pinned.checked.prog.funcNamed "tallboy/tallboylaw27.MetaReads" = some f) (hfn : Tryz.pinned.checked.prog.funcs[f]? = some fn) :
    true = Tryz.pinned.checked.prog.looks [] ∧ ∀ (j : Nat) t, fn.params[j]? = some t → Tryz.pinned.checked.prog.wantsStandIn t = false := by
  obtain rfl : f = 4 := Option.some.inj ((show Tryz.prog.funcNamed "tallboy/tallboylaw27.MetaReads" = some 4 by kernel_rfl).symm.trans hf) |>.symm
  obtain rfl : fn = Tryz.f4 := (Option.some.inj (Tryz.func4.symm.trans hfn)).symm
  refine ⟨by kernel_rfl, fun j t ht => ?_⟩
  rw [Tryz.params4] at ht
  have hm := Array.mem_of_getElem? ht
  have hall : (Tryz.f4.params.toList.all fun u => !Tryz.prog.wantsStandIn u) = true := by kernel_rfl
  rw [Tryz.params4] at hall
  exact (show Tryz.prog.wantsStandIn t = false by simpa using List.all_eq_true.1 hall t (by simpa using hm))

theorem card : Rows.MetaReadsCardSaid :=
  Claim7.holds_tied_plain_at .later [] _ _ _ _ said (fun _ h => by cases h) (by kernel_rfl) (fun _ h => by cases h) metaReads_row_tie rfl ⟨rfl, rfl⟩ (by kernel_rfl) rfl plain (by kernel_rfl)
end Go.Proofs.YtfboejlemnfndaaGreatDoor.metaReads
namespace Go.Proofs.YtfboejlemnfndaaGreatDoor
theorem metaReads_card : Rows.MetaReadsCardSaid := metaReads.card
#print axioms metaReads_card
end Go.Proofs.YtfboejlemnfndaaGreatDoor
end
