/- StatWrites, in plain Lean, first part: may a pair be written? Both answer the same. -/
import Derived.Test.YtfkcdhcmbdmcdaaDoorXSw11
import Derived.Lib.TrimByte
namespace Go.Proofs.YtfkcdhcmbdmcdaaDoor.XSw
open Go.RowKit Go.Proofs.YtfkcdhcmbdmcdaaDoorW.PrintWords Go.Proofs.YtfkcdhcmbdmcdaaDoorW.PrintLast Go.Proofs.YtfkcdhcmbdmcdaaDoorW.PrintMore
abbrev L (b : ByteArray) : List UInt8 := b.data.toList
abbrev ba (l : List UInt8) : ByteArray := ⟨l.toArray⟩
theorem ext {x y : ByteArray} (h : L x = L y) : x = y := by
  cases x; cases y
  exact congrArg ByteArray.mk (Array.toList_inj.1 h)
theorem L_append (a b : ByteArray) : L (a ++ b) = L a ++ L b := by
  show (a ++ b).data.toList = _
  rw [ByteArray.data_append, Array.toList_append]
theorem L_size (a : ByteArray) : a.size = (L a).length := (Array.length_toList).symm
theorem wrap_succ (a : Nat) (h : a < 4611686018427387904) : wrap64 ((a : Int) + 1) = ((a + 1 : Nat) : Int) := by unfold wrap64; omega
theorem bt_list (s : ByteArray) (i : Nat) (c : UInt8) (h : (L s)[i]? = some c) : bt s (i : Int) = (c.toNat : Int) := by
  have hi : i < s.size := by
    rcases Nat.lt_or_ge i s.size with h' | h'
    · exact h'
    · rw [List.getElem?_eq_none (by rw [← L_size]; exact h')] at h; cases h
  unfold bt
  rw [Int.toNat_natCast, dif_pos hi]
  have e : (L s)[i]? = some s[i] := by
    rw [List.getElem?_eq_getElem (by rw [← L_size]; exact hi)]; rfl
  rw [e] at h
  injection h with h
  rw [h]
/-- All bytes lie in a range. -/
def inR (lo hi : Nat) (l : List UInt8) : Bool := l.all fun c => decide (lo ≤ c.toNat) && decide (c.toNat ≤ hi)
theorem inR_cons (lo hi : Nat) (c : UInt8) (l : List UInt8) : inR lo hi (c :: l) = (decide (lo ≤ c.toNat) && decide (c.toNat ≤ hi) && inR lo hi l) := rfl
theorem within_loop (a : ByteArray) (ha : a.size ≤ 1099511627776) (lo hi : Nat) (d : Nat) : ∀ i, i + d = a.size → Ev (fun k => stat_within.l0 k a (lo : Int) (hi : Int) (a.size : Int) (i : Int)) (inR lo hi ((L a).drop i)) := by
  induction d with
  | zero =>
    intro i hi'
    rw [List.drop_of_length_le (by rw [← L_size]; omega)]
    refine ⟨1, fun k hk => ?_⟩
    obtain ⟨k, rfl⟩ : ∃ m, k = m + 1 := ⟨k - 1, by omega⟩
    simp only [stat_within.l0]
    rw [if_neg (by omega)]; rfl
  | succ d ih =>
    intro i hi'
    have hl : i < (L a).length := by rw [← L_size]; omega
    have hc := List.getElem?_eq_getElem hl
    rw [List.drop_eq_getElem_cons hl, inR_cons]
    generalize (L a)[i] = c at hc
    have e : ∀ k, stat_within.l0 (k + 1) a (lo : Int) (hi : Int) (a.size : Int) (i : Int) = (if (c.toNat : Int) < lo then some false else if (c.toNat : Int) > hi then some false else stat_within.l0 k a (lo : Int) (hi : Int) (a.size : Int) ((i + 1 : Nat) : Int)) := by
      intro k
      simp only [stat_within.l0]
      rw [if_pos (by omega), if_pos (by omega), if_pos (by omega), bt_list a i c hc, wrap_succ i (by omega)]
    by_cases h1 : lo ≤ c.toNat
    · by_cases h2 : c.toNat ≤ hi
      · rw [decide_eq_true h1, decide_eq_true h2]
        refine Ev.step (fun k => ?_) (ih (i + 1) (by omega))
        rw [e, if_neg (by omega), if_neg (by omega)]
      · rw [decide_eq_false h2, Bool.and_false, Bool.false_and]
        refine ⟨1, fun k hk => ?_⟩
        obtain ⟨k, rfl⟩ : ∃ m, k = m + 1 := ⟨k - 1, by omega⟩
        show stat_within.l0 (k + 1) _ _ _ _ _ = _
        rw [e, if_neg (by omega), if_pos (by omega)]
    · rw [decide_eq_false h1, Bool.false_and, Bool.false_and]
      refine ⟨1, fun k hk => ?_⟩
      obtain ⟨k, rfl⟩ : ∃ m, k = m + 1 := ⟨k - 1, by omega⟩
      show stat_within.l0 (k + 1) _ _ _ _ _ = _
      rw [e, if_pos (by omega)]
/-- May a pair be written? -/
def ends (l : List UInt8) : Bool := decide (l.head? ≠ some 32) && decide (l.getLast? ≠ some 32)
def mayB (n v : ByteArray) : Bool := decide (1 ≤ n.size) && decide (n.size ≤ 64) && decide (1 ≤ v.size) && decide (v.size ≤ 200) && inR 33 126 (L n) && inR 32 126 (L v) && ends (L v)
theorem dropWhile_le (p : UInt8 → Bool) (l : List UInt8) : (l.dropWhile p).length ≤ l.length := by
  induction l with
  | nil => exact Nat.le_refl _
  | cons x l ih =>
    rw [List.dropWhile_cons]
    split
    · rw [List.length_cons]; omega
    · exact Nat.le_refl _
theorem trim_ends (l : List UInt8) : (Lib.trimB l 32 == l) = ends l := by
  have hr : ∀ m : List UInt8, m.head? ≠ some 32 → m.dropWhile (· == (32 : UInt8)) = m := by
    intro m hm
    cases m with
    | nil => rfl
    | cons x m =>
      have : ¬ x = 32 := fun e => hm (by rw [e]; rfl)
      rw [List.dropWhile_cons, if_neg (by simpa using this)]
  have hs : ∀ m : List UInt8, m.head? = some 32 → (m.dropWhile (· == (32 : UInt8))).length < m.length := by
    intro m hm
    cases m with
    | nil => cases hm
    | cons x m =>
      have : x = 32 := by simpa using hm
      rw [List.dropWhile_cons, if_pos (by simpa using this), List.length_cons]
      have := dropWhile_le (· == (32 : UInt8)) m
      omega
  have hlast : l.getLast? = l.reverse.head? := by rw [List.head?_reverse]
  unfold ends
  by_cases h2 : l.getLast? = some 32
  · rw [show decide (l.getLast? ≠ some 32) = false from decide_eq_false (fun hh => hh h2), Bool.and_false]
    apply beq_eq_false_iff_ne.2
    intro e
    have h3 := hs l.reverse (by rw [← hlast]; exact h2)
    have h4 := congrArg List.length e
    unfold Lib.trimB Lib.trimLeftB Lib.trimRightB at h4
    have h5 := dropWhile_le (· == (32 : UInt8)) (l.reverse.dropWhile (· == (32 : UInt8))).reverse
    rw [List.length_reverse] at h5 h3
    omega
  · rw [show decide (l.getLast? ≠ some 32) = true from decide_eq_true h2, Bool.and_true]
    have e1 : Lib.trimRightB l 32 = l := by
      unfold Lib.trimRightB
      rw [hr l.reverse (by rw [← hlast]; exact h2), List.reverse_reverse]
    unfold Lib.trimB
    rw [e1]
    unfold Lib.trimLeftB
    by_cases h1 : l.head? = some 32
    · rw [show decide (l.head? ≠ some 32) = false from decide_eq_false (fun hh => hh h1)]
      apply beq_eq_false_iff_ne.2
      intro e
      have := hs l h1
      rw [e] at this
      omega
    · rw [show decide (l.head? ≠ some 32) = true from decide_eq_true h1, hr l h1]
      exact beq_self_eq_true l
theorem prog_may (n v : ByteArray) (hn : n.size ≤ 1099511627776) (hv : v.size ≤ 1099511627776) : Ev (fun k => stat_may.f k n v) (mayB n v) := by
  have no : ∀ {b : Bool}, b = true → Ev (fun k => stat_may.j0 k b n v) false := by
    rintro b rfl
    refine ⟨1, fun k hk => ?_⟩
    obtain ⟨k, rfl⟩ : ∃ m, k = m + 1 := ⟨k - 1, by omega⟩
    simp only [stat_may.j0]
    rw [if_pos trivial]
  have e0 : ∀ a : ByteArray, (a.toList = ([] : List UInt8)) ↔ a.size = 0 := by
    intro a
    rw [ByteArray.toList_eq, L_size, List.length_eq_zero_iff]
  unfold mayB
  by_cases c1 : n.size = 0
  · rw [decide_eq_false (by omega : ¬ 1 ≤ n.size)]
    simp only [Bool.false_and]
    refine Ev.congr (fun k => ?_) (no (b := n.toList == ([] : List UInt8)) (beq_iff_eq.2 ((e0 n).2 c1)))
    unfold stat_may.f
    rw [if_pos ((e0 n).2 c1)]
  · rw [decide_eq_true (by omega : 1 ≤ n.size), Bool.true_and]
    by_cases c2 : n.size ≤ 64
    · rw [decide_eq_true c2, Bool.true_and]
      by_cases c3 : v.size = 0
      · rw [decide_eq_false (by omega : ¬ 1 ≤ v.size)]
        simp only [Bool.false_and]
        refine Ev.congr (fun k => ?_) (no (b := v.toList == ([] : List UInt8)) (beq_iff_eq.2 ((e0 v).2 c3)))
        unfold stat_may.f
        rw [if_neg (fun h => c1 ((e0 n).1 h)), if_neg (by omega), if_pos ((e0 v).2 c3)]
      · rw [decide_eq_true (by omega : 1 ≤ v.size), Bool.true_and]
        by_cases c4 : v.size ≤ 200
        · rw [decide_eq_true c4, Bool.true_and]
          have hf : ∀ k, stat_may.f k n v = stat_may.j0 k false n v := by
            intro k
            unfold stat_may.f
            rw [if_neg (fun h => c1 ((e0 n).1 h)), if_neg (by omega), if_neg (fun h => c3 ((e0 v).1 h)), decide_eq_false (by omega)]
          refine Ev.congr hf ?_
          have w1 := within_loop n hn 33 126 n.size 0 (by omega)
          have w2 := within_loop v hv 32 126 v.size 0 (by omega)
          rw [List.drop_zero] at w1 w2
          have ht : strings_Trim.f v (⟨#[32]⟩ : ByteArray) = some ⟨(Lib.trimB (L v) 32).toArray⟩ := by
            unfold strings_Trim.f
            show (if _ then _ else _) = _
            rw [if_pos ⟨by decide, by omega⟩]
          have h := Ev.bind (f := fun k t111 => (if t111 = true then ((stat_within.f k v 32 126).bind fun t112 => (if t112 = true then ((strings_Trim.f v (⟨#[32]⟩ : ByteArray)).bind fun t113 => (some (t113.toList == v.toList))) else (some false))) else (some false))) (r := inR 33 126 (L n) && inR 32 126 (L v) && ends (L v)) (show Ev (fun k => stat_within.f k n 33 126) _ from w1) (by
            cases inR 33 126 (L n) with
            | false => exact Ev.now _
            | true =>
              rw [Bool.true_and]
              refine Ev.bind (f := fun k t112 => (if t112 = true then ((strings_Trim.f v (⟨#[32]⟩ : ByteArray)).bind fun t113 => (some (t113.toList == v.toList))) else (some false))) (show Ev (fun k => stat_within.f k v 32 126) _ from w2) ?_
              cases inR 32 126 (L v) with
              | false => exact Ev.now _
              | true =>
                refine ⟨0, fun k _ => ?_⟩
                show (if true = true then _ else _) = _
                rw [if_pos rfl, ht, Option.bind_some, Bool.true_and, ← trim_ends (L v), ByteArray.toList_eq, ByteArray.toList_eq])
          refine Ev.step (fun k => ?_) h
          simp only [stat_may.j0]
          rw [if_neg Bool.false_ne_true]
        · rw [decide_eq_false c4]
          simp only [Bool.false_and]
          refine Ev.congr (fun k => ?_) (no (b := decide ((v.size : Int) > 200)) (decide_eq_true (by omega)))
          unfold stat_may.f
          rw [if_neg (fun h => c1 ((e0 n).1 h)), if_neg (by omega), if_neg (fun h => c3 ((e0 v).1 h))]
    · rw [decide_eq_false c2]
      simp only [Bool.false_and]
      refine Ev.congr (fun k => ?_) (no (b := decide ((n.size : Int) > 64)) (decide_eq_true (by omega)))
      unfold stat_may.f
      rw [if_neg (fun h => c1 ((e0 n).1 h)), if_pos (by omega)]
theorem ref_l1 (n v : ByteArray) (hv : v.size ≤ 1099511627776) (h1 : 1 ≤ v.size) (d : Nat) : ∀ (i : Nat) (b : Bool), i + d = v.size →
    Ev (fun k => tallboyref32_may.l1 k b (i : Int) n v) (b && inR 32 126 ((L v).drop i) && ends (L v)) := by
  induction d with
  | zero =>
    intro i b hi
    rw [List.drop_of_length_le (by rw [← L_size]; omega)]
    refine ⟨1, fun k hk => ?_⟩
    obtain ⟨k, rfl⟩ : ∃ m, k = m + 1 := ⟨k - 1, by omega⟩
    simp only [tallboyref32_may.l1]
    rw [if_neg (by omega)]
    cases b with
    | false => rw [if_neg Bool.false_ne_true]; rfl
    | true =>
      have hl : 0 < (L v).length := by rw [← L_size]; omega
      have h0 := List.getElem?_eq_getElem hl
      have hll : v.size - 1 < (L v).length := by rw [← L_size]; omega
      have h9 := List.getElem?_eq_getElem hll
      have w1 : wrap64 ((v.size : Int) - 1) = ((v.size - 1 : Nat) : Int) := by unfold wrap64; omega
      have b0 := bt_list v 0 _ h0
      have b9 := bt_list v (v.size - 1) _ h9
      have hh : (L v).head? = some (L v)[0] := by rw [List.head?_eq_getElem?]; exact h0
      have hg : (L v).getLast? = some (L v)[v.size - 1] := by rw [List.getLast?_eq_getElem?, ← L_size]; exact h9
      generalize (L v)[0] = x at *
      generalize (L v)[v.size - 1] = y at *
      rw [if_pos rfl, if_pos (by omega), w1, b9, show bt v 0 = (x.toNat : Int) from b0]
      unfold ends
      rw [hh, hg]
      have hx : ∀ z : UInt8, ((z.toNat : Int) = 32) ↔ z = 32 := fun z => ⟨fun e => UInt8.toNat_inj.1 (show z.toNat = 32 by omega), fun e => by rw [e]; rfl⟩
      by_cases hx1 : x = 32
      · rw [if_pos ((hx x).2 hx1), show decide (some x ≠ some (32 : UInt8)) = false from decide_eq_false (fun q => q (by rw [hx1]))]; rfl
      · rw [if_neg (fun e => hx1 ((hx x).1 e)), if_pos (by omega), if_pos (by omega), show decide (some x ≠ some (32 : UInt8)) = true from decide_eq_true (fun q => hx1 (Option.some.inj q))]
        congr 1
        by_cases hy1 : y = 32
        · rw [show decide (some y ≠ some (32 : UInt8)) = false from decide_eq_false (fun q => q (by rw [hy1])), hy1]; rfl
        · rw [show decide (some y ≠ some (32 : UInt8)) = true from decide_eq_true (fun q => hy1 (Option.some.inj q))]
          exact bne_iff_ne.2 (fun e => hy1 ((hx y).1 e))
  | succ d ih =>
    intro i b hi
    have hl : i < (L v).length := by rw [← L_size]; omega
    have hc := List.getElem?_eq_getElem hl
    rw [List.drop_eq_getElem_cons hl, inR_cons]
    generalize (L v)[i] = c at hc
    cases b with
    | false =>
      refine ⟨1, fun k hk => ?_⟩
      obtain ⟨k, rfl⟩ : ∃ m, k = m + 1 := ⟨k - 1, by omega⟩
      simp only [tallboyref32_may.l1]
      rw [if_pos (by omega), if_neg Bool.false_ne_true]; rfl
    | true =>
      have e : ∀ k, tallboyref32_may.l1 (k + 1) true (i : Int) n v = tallboyref32_may.l1 k (decide (32 ≤ c.toNat) && decide (c.toNat ≤ 126)) ((i + 1 : Nat) : Int) n v := by
        intro k
        simp only [tallboyref32_may.l1]
        rw [if_pos (by omega), if_pos trivial, if_pos (by omega), bt_list v i c hc, wrap_succ i (by omega)]
        by_cases q1 : 32 ≤ c.toNat
        · rw [if_pos (by omega), decide_eq_true q1, Bool.true_and]
          congr 1
          by_cases q2 : c.toNat ≤ 126
          · rw [decide_eq_true q2, decide_eq_true (by omega)]
          · rw [decide_eq_false q2, decide_eq_false (by omega)]
        · rw [if_neg (by omega), decide_eq_false q1, Bool.false_and]
      have h := ih (i + 1) (decide (32 ≤ c.toNat) && decide (c.toNat ≤ 126)) (by omega)
      rw [Bool.true_and]
      exact Ev.step e h
theorem ref_l1_no (n v : ByteArray) (i : Int) : Ev (fun k => tallboyref32_may.l1 k false i n v) false := by
  refine ⟨1, fun k hk => ?_⟩
  obtain ⟨k, rfl⟩ : ∃ m, k = m + 1 := ⟨k - 1, by omega⟩
  simp only [tallboyref32_may.l1]
  by_cases h : i < (v.size : Int)
  · rw [if_pos h, if_neg Bool.false_ne_true]
  · rw [if_neg h, if_neg Bool.false_ne_true]
theorem ref_j2 (n v : ByteArray) (hv : v.size ≤ 1099511627776) (b : Bool) (hb : b = true → 1 ≤ v.size) : Ev (fun k => tallboyref32_may.j2 k b n v) (b && inR 32 126 (L v) && ends (L v)) := by
  have h : Ev (fun k => tallboyref32_may.l1 k b ((0 : Nat) : Int) n v) (b && inR 32 126 (L v) && ends (L v)) := by
    cases b with
    | false => exact ref_l1_no n v _
    | true =>
      have h := ref_l1 n v hv (hb rfl) v.size 0 true (by omega)
      rw [List.drop_zero] at h
      exact h
  exact Ev.step (fun k => by simp only [tallboyref32_may.j2]; rfl) h
theorem ref_l0 (n v : ByteArray) (hn : n.size ≤ 1099511627776) (hv : v.size ≤ 1099511627776) (d : Nat) : ∀ (i : Nat) (b : Bool), i + d = n.size → (b = true → 1 ≤ v.size) →
    Ev (fun k => tallboyref32_may.l0 k b (i : Int) n v) (b && inR 33 126 ((L n).drop i) && inR 32 126 (L v) && ends (L v)) := by
  induction d with
  | zero =>
    intro i b hi hb
    rw [List.drop_of_length_le (by rw [← L_size]; omega), show inR 33 126 [] = true from rfl, Bool.and_true]
    refine Ev.step (fun k => ?_) (ref_j2 n v hv b hb)
    simp only [tallboyref32_may.l0]
    rw [if_neg (by omega)]
  | succ d ih =>
    intro i b hi hb
    have hl : i < (L n).length := by rw [← L_size]; omega
    have hc := List.getElem?_eq_getElem hl
    rw [List.drop_eq_getElem_cons hl, inR_cons]
    generalize (L n)[i] = c at hc
    cases b with
    | false =>
      refine Ev.step (fun k => ?_) (ref_j2 n v hv false hb)
      simp only [tallboyref32_may.l0]
      rw [if_pos (by omega), if_neg Bool.false_ne_true]
    | true =>
      have e : ∀ k, tallboyref32_may.l0 (k + 1) true (i : Int) n v = tallboyref32_may.l0 k (decide (33 ≤ c.toNat) && decide (c.toNat ≤ 126)) ((i + 1 : Nat) : Int) n v := by
        intro k
        simp only [tallboyref32_may.l0]
        rw [if_pos (by omega), if_pos trivial, if_pos (by omega), bt_list n i c hc, wrap_succ i (by omega)]
        by_cases q1 : 33 ≤ c.toNat
        · rw [if_pos (by omega), decide_eq_true q1, Bool.true_and]
          congr 1
          by_cases q2 : c.toNat ≤ 126
          · rw [decide_eq_true q2, decide_eq_true (by omega)]
          · rw [decide_eq_false q2, decide_eq_false (by omega)]
        · rw [if_neg (by omega), decide_eq_false q1, Bool.false_and]
      have h := ih (i + 1) (decide (33 ≤ c.toNat) && decide (c.toNat ≤ 126)) (by omega) (fun _ => hb rfl)
      rw [Bool.true_and]
      exact Ev.step e h
theorem ref_may (n v : ByteArray) (hn : n.size ≤ 1099511627776) (hv : v.size ≤ 1099511627776) : Ev (fun k => tallboyref32_may.f k n v) (mayB n v) := by
  have go : ∀ b : Bool, (b = true → 1 ≤ v.size) → Ev (fun k => tallboyref32_may.j0 k b n v) (b && inR 33 126 (L n) && inR 32 126 (L v) && ends (L v)) := by
    intro b hb
    have h := ref_l0 n v hn hv n.size 0 b (by omega) hb
    rw [List.drop_zero] at h
    exact Ev.step (fun k => by simp only [tallboyref32_may.j0]; rfl) h
  have no := go false (fun h => absurd h Bool.false_ne_true)
  simp only [Bool.false_and] at no
  unfold mayB
  by_cases c1 : 1 ≤ n.size
  · by_cases c2 : n.size ≤ 64
    · by_cases c3 : 1 ≤ v.size
      · rw [decide_eq_true c1, decide_eq_true c2, decide_eq_true c3]
        simp only [Bool.true_and]
        refine Ev.congr (fun k => ?_) (go (decide (v.size ≤ 200)) (fun _ => c3))
        unfold tallboyref32_may.f
        rw [if_pos (by omega), if_pos (by omega), if_pos (by omega)]
        congr 1
        by_cases c4 : v.size ≤ 200
        · rw [decide_eq_true c4, decide_eq_true (by omega)]
        · rw [decide_eq_false c4, decide_eq_false (by omega)]
      · rw [decide_eq_false c3]
        simp only [Bool.false_and, Bool.and_false]
        refine Ev.congr (fun k => ?_) no
        unfold tallboyref32_may.f
        rw [if_pos (by omega), if_pos (by omega), if_neg (by omega)]
    · rw [decide_eq_false c2]
      simp only [Bool.false_and, Bool.and_false]
      refine Ev.congr (fun k => ?_) no
      unfold tallboyref32_may.f
      rw [if_pos (by omega), if_neg (by omega)]
  · rw [decide_eq_false c1]
    simp only [Bool.false_and]
    refine Ev.congr (fun k => ?_) no
    unfold tallboyref32_may.f
    rw [if_neg (by omega)]
end Go.Proofs.YtfkcdhcmbdmcdaaDoor.XSw
