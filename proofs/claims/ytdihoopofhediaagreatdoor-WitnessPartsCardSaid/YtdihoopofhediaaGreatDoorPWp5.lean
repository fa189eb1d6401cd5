/- Put together by wip/pack.py (this session's own program) out of this session's texts; a kit's tool laid the words and the shelf, of which only what is used stands here. Lean checks it. -/
import Derived.Test.YtdihoopofhediaaGreatDoorPWp4
import Derived.Deep.DeepCutAuto
import Derived.Maps.RangeWalk
import Derived.Sort.KeysCollected
import Derived.Sort.OwnSorted
import Derived.Deep.RegionHeld3
section
namespace Go.Proofs.YtdihoopofhediaaGreatDoor.Wp
open Go.RowKit Go.Proofs.YtdihoopofhediaaGreatDoorW.PrintWords Go.Proofs.YtdihoopofhediaaGreatDoorW.PrintLast Go.Proofs.YtdihoopofhediaaGreatDoorW.PrintMore Go.WideMaps Go.Proofs.YtdihoopofhediaaGreatDoor.XMd Go.Proofs.YtdihoopofhediaaGreatDoor.Mdl
set_option linter.unusedVariables false
set_option linter.unusedSimpArgs false
attribute [local go_sem ↓] Go.wp_at_zero Go.wp_at_succ
abbrev Y := S41
abbrev Hy := S44
abbrev Dy := S46
def cmdY (y : Y) : Cmd := ⟨y.f1.f0, y.f1.f1, y.f1.f2, y.f1.f3, y.f1.f4, y.f1.f5, y.f1.f6, y.f1.f7⟩
def hitY (h : Hit) : Hy := ⟨h.key, h.flags, h.value, h.cas⟩
def sameT (a b : ByteArray) : Bool := a.data.toList == b.data.toList
theorem sameT_is (a b : ByteArray) : (a.toList == b.toList) = sameT a b := by rw [ByteArray.toList_eq, ByteArray.toList_eq]; rfl
theorem sameT_iff (a b : ByteArray) : a.toList = b.toList ↔ sameT a b = true := by rw [← sameT_is, beq_iff_eq]
def oneT (s : ByteArray) : List ByteArray → Bool
  | [k] => sameT k s
  | _ => false
def reasonP (y : Y) (d : Dy) : Bool :=
  if d.f1 = 1 ∨ d.f1 = 2 then true
  else if d.f1 = 3 then (if y.f1.f0 = 5 then (if oneT d.f0 y.f1.f1 = true then y.f3.f0 == 11 else false) else false) else false
theorem equal_one (l : List ByteArray) (s : ByteArray) (hl : l.length ≤ 4611686018427387904) : slices_Equal_string_string.f 5 l [s] = some (oneT s l) := by
  unfold slices_Equal_string_string.f
  rcases l with _ | ⟨k, _ | ⟨b, l⟩⟩
  · rfl
  · rw [if_pos (show (([k] : List ByteArray).length : Int) = ([s] : List ByteArray).length from rfl)]
    have e : slices_Equal_string_string.l0 5 [k] [s] (([k] : List ByteArray).length : Int) 0 = if k.toList = s.toList then some true else some false := by
      simp [slices_Equal_string_string.l0, rdOf, wrap64]
    rw [e]
    by_cases h : k.toList = s.toList
    · rw [if_pos h]
      show some true = some (sameT k s)
      rw [(sameT_iff k s).1 h]
    · rw [if_neg h]
      have : sameT k s = false := by
        cases hh : sameT k s
        · rfl
        · exact absurd ((sameT_iff k s).2 hh) h
      show some false = some (sameT k s)
      rw [this]
  · rw [if_neg (by simp only [List.length_cons, List.length_nil]; omega)]
    rfl
theorem j0_is (y : Y) (d : Dy) (b : Bool) : witness_reason.j0 6 d.f1 b y.f0 y.f1.f0 y.f1.f1 y.f1.f2 y.f1.f3 y.f1.f4 y.f1.f5 y.f1.f6 y.f1.f7 y.f2 y.f3.f0 y.f3.f1 y.f3.f2 y.f4 d.f0 d.f1 =
    if b = true then some true else if d.f1 = 3 then (if y.f1.f0 = 5 then ((slices_Equal_string_string.f 5 y.f1.f1 [d.f0]).bind fun t => if t = true then some (y.f3.f0 == 11) else some false) else some false) else some false := rfl
theorem reason_is (y : Y) (d : Dy) (hl : y.f1.f1.length ≤ 4611686018427387904) : witness_reason.f 6 y.f0 y.f1.f0 y.f1.f1 y.f1.f2 y.f1.f3 y.f1.f4 y.f1.f5 y.f1.f6 y.f1.f7 y.f2 y.f3.f0 y.f3.f1 y.f3.f2 y.f4 d.f0 d.f1 = some (reasonP y d) := by
  unfold witness_reason.f
  by_cases h1 : d.f1 = 1
  · rw [if_pos h1, j0_is, if_pos (by rw [h1]; rfl)]
    unfold reasonP
    rw [if_pos (.inl h1)]
  · rw [if_neg h1, j0_is]
    by_cases h2 : d.f1 = 2
    · rw [if_pos (by rw [h2]; rfl)]
      unfold reasonP
      rw [if_pos (.inr h2)]
    · rw [if_neg (by simpa using h2)]
      unfold reasonP
      rw [if_neg (show ¬ (d.f1 = 1 ∨ d.f1 = 2) by omega)]
      by_cases h3 : d.f1 = 3
      · rw [if_pos h3, if_pos h3]
        by_cases h5 : y.f1.f0 = 5
        · rw [if_pos h5, if_pos h5, equal_one _ _ hl, Option.bind_some]
          cases oneT d.f0 y.f1.f1 <;> rfl
        · rw [if_neg h5, if_neg h5]
      · rw [if_neg h3, if_neg h3]
def hEq (a b : Hy) : Bool := sameT a.f0 b.f0 && (a.f1 == b.f1) && sameT a.f2 b.f2 && (a.f3 == b.f3)
def hitsEq : List Hy → List Hy → Bool
  | [], [] => true
  | a :: l, b :: k => hEq a b && hitsEq l k
  | _, _ => false
def what1 (y : Y) (l : List Dy) : Int := if l.all (reasonP y) = true then 0 else 2
theorem what_snoc (y : Y) (l : List Dy) (d : Dy) : what1 y (l ++ [d]) = if reasonP y d = true then what1 y l else 2 := by
  unfold what1
  rw [List.all_append]
  cases h1 : l.all (reasonP y) <;> cases h2 : reasonP y d <;> simp [h2]
def dstep (s : Int × Tab) (d : Dy) : Int × Tab := if d.f1 = 3 then s else (if dropB s.2 d.f0 = false ∧ s.1 = 0 then 1 else s.1, dropT s.2 d.f0)
structure Fo where
  what : Int
  E : Tab
  laid : Int
def folP (y : Y) (E : Tab) (laid : Int) : Fo :=
  let s := y.f4.foldl dstep (what1 y y.f4, E)
  if y.f1.f0 = 0 then ⟨s.1, s.2, laid⟩
  else
    let o := doP (cmdY y) y.f2 (y.f3.f0 == 11) s.2 laid
    ⟨if (decide (o.err = 0) && (o.code == y.f3.f0) && (o.n == y.f3.f2) && hitsEq (o.hits.map hitY) y.f3.f1) = false ∧ s.1 = 0 then 3 else s.1, o.E, o.laid⟩
def chkL : List Y → Nat → Option Int → Tab → Int → Int × Int
  | [], _, _, _, _ => (-1, 0)
  | y :: l, i, prev, E, laid =>
    if prev.any (fun p => decide (y.f2 < p)) = true then ((i : Int), 4)
    else if (folP y E laid).what = 0 then chkL l (i + 1) (some y.f2) (folP y E laid).E (folP y E laid).laid else ((i : Int), (folP y E laid).what)
theorem folP_lo (y : Y) (E : Tab) (laid : Int) : 0 ≤ (folP y E laid).what := by
  have h : ∀ (l : List Dy) (s : Int × Tab), 0 ≤ s.1 → 0 ≤ (l.foldl dstep s).1 := by
    intro l
    induction l with
    | nil => exact fun s h => h
    | cons d l ih =>
      intro s hs
      refine ih _ ?_
      unfold dstep
      split
      · exact hs
      · show 0 ≤ (if _ then (1 : Int) else s.1)
        split <;> omega
  have h0 := h y.f4 (what1 y y.f4, E) (by unfold what1; show 0 ≤ (if _ then (0 : Int) else 2); split <;> omega)
  unfold folP
  simp only
  split
  · exact h0
  · show 0 ≤ (if _ then (3 : Int) else _)
    split <;> omega
theorem chk_take : ∀ (l : List Y) (n i : Nat) (prev : Option Int) (E : Tab) (laid : Int),
    chkL (l.take n) i prev E laid = if 0 ≤ (chkL l i prev E laid).1 ∧ (chkL l i prev E laid).1 < (i : Int) + n then chkL l i prev E laid else (-1, 0)
  | [], n, i, prev, E, laid => by
    rw [List.take_nil]
    unfold chkL
    rw [if_neg (by simp)]
  | y :: l, 0, i, prev, E, laid => by
    rw [List.take_zero]
    have hge : ∀ (l : List Y) (i : Nat) (prev : Option Int) (E : Tab) (laid : Int), (chkL l i prev E laid).1 = -1 ∨ (i : Int) ≤ (chkL l i prev E laid).1 := by
      intro l
      induction l with
      | nil => exact fun _ _ _ _ => .inl rfl
      | cons y l ih =>
        intro i prev E laid
        unfold chkL
        split
        · exact .inr (Int.le_refl _)
        · split
          · rcases ih (i + 1) (some y.f2) (folP y E laid).E (folP y E laid).laid with h | h
            · exact .inl h
            · exact .inr (by omega)
          · exact .inr (Int.le_refl _)
    rw [if_neg (by rcases hge (y :: l) i prev E laid with h | h <;> omega)]
    rfl
  | y :: l, n + 1, i, prev, E, laid => by
    rw [List.take_succ_cons]
    unfold chkL
    by_cases h1 : prev.any (fun p => decide (y.f2 < p)) = true
    · rw [if_pos h1, if_pos h1, if_pos (by simp only; omega)]
    · rw [if_neg h1, if_neg h1]
      by_cases h2 : (folP y E laid).what = 0
      · rw [if_pos h2, if_pos h2, chk_take l n (i + 1)]
        rw [show ((i + 1 : Nat) : Int) + (n : Int) = (i : Int) + ((n + 1 : Nat) : Int) by omega]
      · rw [if_neg h2, if_neg h2, if_pos (by simp only; omega)]
end Go.Proofs.YtdihoopofhediaaGreatDoor.Wp
end
section
namespace Go.Proofs.YtdihoopofhediaaGreatDoor.Wp
open Go.RowKit Go.Proofs.YtdihoopofhediaaGreatDoorW.PrintWords Go.Proofs.YtdihoopofhediaaGreatDoorW.PrintLast Go.Proofs.YtdihoopofhediaaGreatDoorW.PrintMore Go.WideMaps Go.Proofs.YtdihoopofhediaaGreatDoor.XMd Go.Proofs.YtdihoopofhediaaGreatDoor.Mdl
set_option linter.unusedVariables false
set_option linter.unusedSimpArgs false
attribute [local go_sem ↓] Go.wp_at_zero Go.wp_at_succ
theorem hitsC_at : ∀ (l : List Hit) (j i : Nat) (x : Hit), l[j]? = some x → i < 4 → (hitsC l)[j * 4 + i]? = x.cells[i]?
  | [], j, i, x, h, _ => by simp at h
  | y :: l, 0, i, x, h, hi => by
    obtain rfl : y = x := by simpa using h
    unfold hitsC
    rw [List.flatMap_cons, Nat.zero_mul, Nat.zero_add, List.getElem?_append_left (by show i < 4; exact hi)]
  | y :: l, j + 1, i, x, h, hi => by
    have ih := hitsC_at l j i x (by simpa using h) hi
    unfold hitsC at ih ⊢
    rw [List.flatMap_cons, List.getElem?_append_right (by show 4 ≤ _; omega)]
    have e : (j + 1) * 4 + i - y.cells.length = j * 4 + i := by show (j + 1) * 4 + i - 4 = _; omega
    rw [e, ih]
theorem hits_C {w : World} {base : Nat} {vs : Value} {l : List Hit} (h : w.ownsRow base 44 4 vs l.length (hitsC l)) : ∃ A c, vs = .slice A l.length c ∧ l.length ≤ c ∧ Kd.C k44 w A l.length (l.map hitY) := by
  rcases h.2 with ⟨hv, h0⟩ | ⟨g, cap, cur, hv, hb, hg, hn, hm, hs, hc⟩
  · rw [h0]
    exact ⟨none, 0, hv, Nat.le_refl _, ⟨by rw [List.length_map, h0], by omega, fun h => absurd h (Nat.lt_irrefl 0)⟩⟩
  · refine ⟨some ⟨g, 0, none⟩, cap, hv, hn, ⟨List.length_map _, by unfold maxLen at hm; omega, fun _ => ⟨_, rfl, fun j p hj => ?_⟩⟩⟩
    rw [List.getElem?_map] at hj
    obtain ⟨x, hx, rfl⟩ := Option.map_eq_some_iff.1 hj
    have hjl : j < l.length := (List.getElem?_eq_some_iff.1 hx).1
    refine ⟨[.string x.key, .int .u32 x.flags, .string x.value, .int .u64 x.cas], rfl, k44_mk w (hitY x), fun i u hu => ?_⟩
    have hi : i < 4 := (List.getElem?_eq_some_iff.1 hu).1
    show w.cell? ((⟨g, 0, none⟩ : Addr).add (j * 4 + i)) = some u
    rw [Addr.add_lit, Nat.zero_add, fresh_cell hg]
    have h1 := hitsC_at l j i x hx hi
    rw [← hc, List.getElem?_take] at h1
    rw [if_pos (by omega)] at h1
    rw [← Array.getElem?_toList, h1]
    exact hu
theorem hitsEq_len : ∀ (a b : List Hy), a.length ≠ b.length → hitsEq a b = false
  | [], [], h => absurd rfl h
  | [], _ :: _, _ => rfl
  | _ :: _, [], _ => rfl
  | x :: a, y :: b, h => by
    unfold hitsEq
    rw [hitsEq_len a b (fun e => h (by rw [List.length_cons, List.length_cons, e])), Bool.and_false]
theorem hitsEq_step {a b : List Hy} {j : Nat} {x y : Hy} (hx : a[j]? = some x) (hy : b[j]? = some y) : hitsEq (a.drop j) (b.drop j) = (hEq x y && hitsEq (a.drop (j + 1)) (b.drop (j + 1))) := by
  obtain ⟨h1, rfl⟩ := List.getElem?_eq_some_iff.1 hx
  obtain ⟨h2, rfl⟩ := List.getElem?_eq_some_iff.1 hy
  rw [List.drop_eq_getElem_cons h1, List.drop_eq_getElem_cons h2]
  rfl
theorem eqH (d : Nat) (w : World) (x0 y0 : ByteArray) (x1 y1 : Int) (x2 y2 : ByteArray) (x3 y3 : Int) :
    (Op.equalIn (d + 2) 44 (.agg #[.string x0, .int .u32 x1, .string x2, .int .u64 x3]) (.agg #[.string y0, .int .u32 y1, .string y2, .int .u64 y3])).run Tryz.prog w = .ok (x0.toList == y0.toList && (x1 == y1 && (x2.toList == y2.toList && (x3 == y3)))) w := by
  refine eqA_of Tryz.underlying44 (by kernel_rfl) ?_
  refine eqf_cons (by rfl) (by go_simp; rfl) (by go_simp; rfl) (by go_simp) ?_
  refine eqf_cons (by rfl) (by go_simp; rfl) (by go_simp; rfl) (by go_simp) ?_
  refine eqf_cons (by rfl) (by go_simp; rfl) (by go_simp; rfl) (by go_simp) ?_
  exact eqf_last (by rfl) (by go_simp; rfl) (by go_simp; rfl) (by go_simp)
theorem eqFd (d : Nat) (w : World) (x0 y0 x1 y1 : Int) :
    (Op.equalIn (d + 2) 27 (.agg #[.int .i64 x0, .int .i64 x1]) (.agg #[.int .i64 y0, .int .i64 y1])).run Tryz.prog w = .ok (x0 == y0 && (x1 == y1)) w := by
  refine eqA_of Tryz.underlying27 (by kernel_rfl) ?_
  refine eqf_cons (by rfl) (by go_simp; rfl) (by go_simp; rfl) (by go_simp) ?_
  exact eqf_last (by rfl) (by go_simp; rfl) (by go_simp; rfl) (by go_simp)
theorem hEq_neg (x y : Hy) : (!(x.f0.toList == y.f0.toList) || (!(x.f1 == y.f1) || (!(x.f2.toList == y.f2.toList) || (!(x.f3 == y.f3))))) = !hEq x y := by
  rw [sameT_is, sameT_is]
  unfold hEq
  cases sameT x.f0 y.f0 <;> cases (x.f1 == y.f1) <;> cases sameT x.f2 y.f2 <;> cases (x.f3 == y.f3) <;> rfl
attribute [local go_sem high] eqH
set_option maxHeartbeats 8000000 in
set_option maxRecDepth 100000 in
theorem equalH_calls (w : World) (A0 A1 : Option Addr) (c0 c1 : Nat) (l0 l1 : List Hy) (h0 : Kd.C k44 w A0 l0.length l0) (h1 : Kd.C k44 w A1 l1.length l1) :
    Calls Tryz.prog 23 #[.slice A0 l0.length c0, .slice A1 l1.length c1] w fun e w' => e = .returned (.bool (hitsEq l0 l1)) ∧ Below w.heap.size w w' := by
  have hu := Tryz.underlying44
  have H0 := Aside0.mk h0
  have H1 := Aside0.mk h1
  have hm0 := h0.2.1
  have hm1 := h1.2.1
  clear h0 h1
  go_enter Tryz.func23, Tryz.ntmps23
  by_cases hl : l0.length = l1.length
  · have hq : ((l0.length : Int) != (l1.length : Int)) = false := by rw [hl]; exact bne_eq_false_iff_eq.2 rfl
    have HL := Lib.hid hl
    have hl2 : (l0.length : Int) = (l1.length : Int) := by omega
    clear hl
    go_wp2_with fail
    go_loopg [5, 13] l0.length (fun gg v5 v13 wr => ∃ (j : Nat), v13 = .int .i64 j ∧ j ≤ l0.length ∧ l0.length - j ≤ gg ∧ Aside0 (hitsEq (l0.drop j) (l1.drop j) = hitsEq l0 l1) ∧ Aside0 (Below w.heap.size w wr))
    case atStart => exact ⟨0, rfl, Nat.zero_le _, by omega, ⟨rfl⟩, ⟨Below.refl _ _⟩⟩
    case round =>
      obtain ⟨j, rfl, hj, hgj, HE, BR⟩ := hrel
      by_cases hlt : j < l0.length
      · have hji : (j : Int) < (l0.length : Int) := by omega
        have hji1 : (j : Int) < (l1.length : Int) := by omega
        have hj0 : (0 : Int) ≤ (j : Int) := by omega
        obtain ⟨x, hx⟩ : ∃ x, l0[j]? = some x := ⟨_, List.getElem?_eq_getElem hlt⟩
        obtain ⟨y, hy⟩ : ∃ y, l1[j]? = some y := ⟨_, List.getElem?_eq_getElem (by have := HL.out; omega)⟩
        obtain ⟨ad, rfl, p0, p1, p2, p3⟩ := at_T44 (Kd.C_below H0.out BR.out) (j : Int) hj0 hji
        obtain ⟨bd, rfl, q0, q1, q2, q3⟩ := at_T44 (Kd.C_below H1.out BR.out) (j : Int) hj0 hji1
        have r1 : rd_T44 l0 (j : Int) = x := by
          unfold rd_T44
          rw [Int.toNat_natCast, List.getD_eq_getElem?_getD, hx]; rfl
        have r2 : rd_T44 l1 (j : Int) = y := by
          unfold rd_T44
          rw [Int.toNat_natCast, List.getD_eq_getElem?_getD, hy]; rfl
        rw [r1, Int.toNat_natCast] at p0 p1 p2 p3
        rw [r2, Int.toNat_natCast] at q0 q1 q2 q3
        have HS := Lib.hid (hitsEq_step hx hy)
        clear hx hy r1 r2
        cases hq : hEq x y with
        | true =>
          have hn := hEq_neg x y
          rw [hq] at hn
          have hn2 : (!(x.f0.toList == y.f0.toList) || (!(x.f1 == y.f1) || (!(x.f2.toList == y.f2.toList) || (!(x.f3 == y.f3))))) = false := hn
          have HE2 : Aside0 (hitsEq (l0.drop (j + 1)) (l1.drop (j + 1)) = hitsEq l0 l1) := ⟨by rw [← HE.out, HS.out, hq, Bool.true_and]⟩
          clear hn hq HE HS
          go_upto_region 6 with fail
          go_quiet (fail)
          have BR2 := fun n => Aside0.mk (BR.out.trans (⟨rfl, rfl, rfl, Nat.le_refl _, fun _ _ => rfl⟩ : Below w.heap.size wr (wr.drewN n)))
          go_wp2
          go_roundg (l0.length - (j + 1))
          case measure => have := HL.out; omega
          case rel => exact ⟨j + 1, by go_num, by have := HL.out; omega, by have := HL.out; omega, HE2, BR2 _⟩
        | false =>
          have hn := hEq_neg x y
          rw [hq] at hn
          have hn2 : (!(x.f0.toList == y.f0.toList) || (!(x.f1 == y.f1) || (!(x.f2.toList == y.f2.toList) || (!(x.f3 == y.f3))))) = true := hn
          have HF := Lib.hid (show hitsEq l0 l1 = false by rw [← HE.out, HS.out, hq, Bool.false_and])
          clear hn hq HE HS
          go_upto_region 6 with fail
          go_quiet (fail)
          have BR2 := fun n => Aside0.mk (BR.out.trans (⟨rfl, rfl, rfl, Nat.le_refl _, fun _ _ => rfl⟩ : Below w.heap.size wr (wr.drewN n)))
          go_wp2
          go_ret
          rw [HF.out]
          exact ⟨rfl, (BR2 _).out⟩
      · have hji : ¬ (j : Int) < (l0.length : Int) := by omega
        have HFIN := Lib.hid (show hitsEq l0 l1 = true by
          rw [← HE.out, List.drop_of_length_le (by omega), List.drop_of_length_le (by have := HL.out; omega)]
          rfl)
        go_wp2
        go_ret
        rw [HFIN.out]
        exact ⟨rfl, BR.out⟩
  · have hq : ((l0.length : Int) != (l1.length : Int)) = true := bne_iff_ne.2 (by omega)
    have HF := Lib.hid (hitsEq_len l0 l1 hl)
    go_wp2
    go_ret
    rw [HF.out]
    exact ⟨rfl, Below.refl _ _⟩
end Go.Proofs.YtdihoopofhediaaGreatDoor.Wp
end
section
namespace Go.Proofs.YtdihoopofhediaaGreatDoor.Wp
open Go.RowKit Go.Proofs.YtdihoopofhediaaGreatDoorW.PrintWords Go.Proofs.YtdihoopofhediaaGreatDoorW.PrintLast Go.Proofs.YtdihoopofhediaaGreatDoorW.PrintMore Go.WideMaps Go.Proofs.YtdihoopofhediaaGreatDoor.XMd Go.Proofs.YtdihoopofhediaaGreatDoor.Mdl
set_option linter.unusedVariables false
set_option linter.unusedSimpArgs false
attribute [local go_sem ↓] Go.wp_at_zero Go.wp_at_succ
def evv (y : Y) (A2 : Option Addr) (c2 : Nat) (A11 : Option Addr) (c11 : Nat) (A13 : Option Addr) (c13 : Nat) : Array Value :=
  #[.int .i64 y.f0, .int .i64 y.f1.f0, .slice A2 y.f1.f1.length c2, .int .u32 y.f1.f2, .int .i64 y.f1.f3, .string y.f1.f4, .int .u64 y.f1.f5, .int .u64 y.f1.f6, .bool y.f1.f7, .int .i64 y.f2, .int .i64 y.f3.f0, .slice A11 y.f3.f1.length c11, .int .u64 y.f3.f2, .slice A13 y.f4.length c13]
structure Rows (w : World) (y : Y) (A2 : Option Addr) (c2 : Nat) (A11 : Option Addr) (c11 : Nat) (A13 : Option Addr) (c13 : Nat) : Prop where
  l2 : y.f1.f1.length ≤ c2
  g2 : Kd.string.C w A2 y.f1.f1.length y.f1.f1
  l11 : y.f3.f1.length ≤ c11
  g11 : Kd.C k44 w A11 y.f3.f1.length y.f3.f1
  l13 : y.f4.length ≤ c13
  g13 : Kd.C k46 w A13 y.f4.length y.f4
theorem Rows.below {w w' : World} {y : Y} {A2 : Option Addr} {c2 : Nat} {A11 : Option Addr} {c11 : Nat} {A13 : Option Addr} {c13 : Nat} (h : Rows w y A2 c2 A11 c11 A13 c13) (hb : Below w.heap.size w w') : Rows w' y A2 c2 A11 c11 A13 c13 :=
  ⟨h.l2, Kd.C_below h.g2 hb, h.l11, Kd.C_below h.g11 hb, h.l13, Kd.C_below h.g13 hb⟩
structure Fs (w0 ws W : World) (g b c : Nat) (E : Tab) (laid : Int) (T : Nat) (cs : Array Value) : Prop where
  lw : Lw w0 W g b c E laid
  box : W.heap[T]? = some (.cells cs 41)
  n1 : T ≠ g
  n2 : T ≠ b
  mov : Mut g b ws W
theorem Fs.below {w0 ws W W' : World} {g b c : Nat} {E : Tab} {laid : Int} {T : Nat} {cs : Array Value} (h : Fs w0 ws W g b c E laid T cs) (hb : Below W.heap.size W W') : Fs w0 ws W' g b c E laid T cs :=
  ⟨h.lw.below hb, (hb.block T (blk_lt h.box)).trans h.box, h.n1, h.n2, h.mov.then_below hb⟩
theorem Fs.mut {w0 ws W W' : World} {g b c c' : Nat} {E E' : Tab} {laid laid' : Int} {T : Nat} {cs : Array Value} (h : Fs w0 ws W g b c E laid T cs) (hA : At W' g b c' E' laid') (hM : Mut g b W W') : Fs w0 ws W' g b c' E' laid' T cs :=
  ⟨h.lw.mut hA hM, hM.heap h.box h.n1 h.n2, h.n1, h.n2, h.mov.trans hM⟩
theorem Fs.start {w0 w : World} {g b c : Nat} {E : Tab} {laid : Int} (h : Lw w0 w g b c E laid) (cs : Array Value) : Fs w0 w (w.alloc (.cells cs 41)) g b c E laid w.heap.size cs :=
  ⟨h.below ((Below.refl _ w).alloc (Nat.le_refl _) _), heap_alloc_new _ _, Nat.ne_of_gt h.at_.lt, Nat.ne_of_gt h.at_.ltb, (Mut.refl g b w).alloc _⟩
theorem Fs.cells {w0 ws W : World} {g b c : Nat} {E : Tab} {laid : Int} {T : Nat} {y : Y} {A2 : Option Addr} {c2 : Nat} {A11 : Option Addr} {c11 : Nat} {A13 : Option Addr} {c13 : Nat} (h : Fs w0 ws W g b c E laid T (evv y A2 c2 A11 c11 A13 c13)) :
    W.cell? ⟨T, 0, none⟩ = some (.int .i64 y.f0) ∧ W.cell? ⟨T, 1, none⟩ = some (.int .i64 y.f1.f0) ∧ W.cell? ⟨T, 2, none⟩ = some (.slice A2 y.f1.f1.length c2) ∧ W.cell? ⟨T, 3, none⟩ = some (.int .u32 y.f1.f2) ∧ W.cell? ⟨T, 4, none⟩ = some (.int .i64 y.f1.f3) ∧ W.cell? ⟨T, 5, none⟩ = some (.string y.f1.f4) ∧ W.cell? ⟨T, 6, none⟩ = some (.int .u64 y.f1.f5) ∧ W.cell? ⟨T, 7, none⟩ = some (.int .u64 y.f1.f6) ∧ W.cell? ⟨T, 8, none⟩ = some (.bool y.f1.f7) ∧ W.cell? ⟨T, 9, none⟩ = some (.int .i64 y.f2) ∧ W.cell? ⟨T, 10, none⟩ = some (.int .i64 y.f3.f0) ∧ W.cell? ⟨T, 11, none⟩ = some (.slice A11 y.f3.f1.length c11) ∧ W.cell? ⟨T, 12, none⟩ = some (.int .u64 y.f3.f2) ∧ W.cell? ⟨T, 13, none⟩ = some (.slice A13 y.f4.length c13) :=
  ⟨fresh_cell h.box 0, fresh_cell h.box 1, fresh_cell h.box 2, fresh_cell h.box 3, fresh_cell h.box 4, fresh_cell h.box 5, fresh_cell h.box 6, fresh_cell h.box 7, fresh_cell h.box 8, fresh_cell h.box 9, fresh_cell h.box 10, fresh_cell h.box 11, fresh_cell h.box 12, fresh_cell h.box 13⟩
theorem drop_cell {w : World} {A : Option Addr} {n : Nat} {l : List Dy} (h : Kd.C k46 w A n l) (j : Nat) (d : Dy) (hd : l[j]? = some d) : ∃ ad, A = some ad ∧ w.cell? (ad.add (j * 2)) = some (.string d.f0) ∧ w.cell? ⟨(ad.add (j * 2)).block, (ad.add (j * 2)).off + 1, none⟩ = some (.int .i64 d.f1) := by
  have hl : n = l.length := h.1.symm
  have hj : j < l.length := (List.getElem?_eq_some_iff.1 hd).1
  obtain ⟨ad, e, h0, h1⟩ := at_T46 h (j : Int) (by omega) (by omega)
  have hr : rd_T46 l (j : Int) = d := by
    unfold rd_T46
    rw [Int.toNat_natCast, List.getD_eq_getElem?_getD, hd]; rfl
  rw [hr, Int.toNat_natCast] at h0 h1
  exact ⟨ad, e, h0, h1⟩
theorem take_one {α : Type} {l : List α} {j : Nat} {d : α} (h : l[j]? = some d) : l.take (j + 1) = l.take j ++ [d] := by
  rw [List.take_add_one, h]
  rfl
set_option maxHeartbeats 16000000 in
set_option maxRecDepth 100000 in
theorem follow_calls (w0 w : World) (hv : Vars w0) (g b c : Nat) (E : Tab) (laid : Int) (y : Y) (A2 : Option Addr) (c2 : Nat) (A11 : Option Addr) (c11 : Nat) (A13 : Option Addr) (c13 : Nat)
    (hL : Lw w0 w g b c E laid) (hR : Rows w0 y A2 c2 A11 c11 A13 c13) (hc : c + 1000 < maxLen) (hd : 0 ≤ y.f1.f6) (hk : y.f1.f1.length ≤ 4611686018427387904) :
    Calls Tryz.prog 15 #[.pointer (some ⟨g, 0, none⟩), .agg (evv y A2 c2 A11 c11 A13 c13)] w fun x w' => x = .returned (.int .i64 (folP y E laid).what) ∧ Lw w0 w' g b (c + 100) (folP y E laid).E (folP y E laid).laid ∧ Mut g b w w' := by
  have HV := Aside0.mk hv
  have HR := Aside0.mk hR
  have F0 := Aside0.mk (Fs.start hL (evv y A2 c2 A11 c11 A13 c13))
  have HK := Lib.hid hk
  have HD0 := Lib.hid hd
  have HC := Lib.hid hc
  have hdl : (y.f4.length : Int) ≤ 9223372036854775807 := by have := hR.g13.2.1; omega
  clear hv hL hR hk hd hc
  unfold evv
  go_enter Tryz.func15, Tryz.ntmps15
  go_upto_region 1 with fail
  change Code.wp _ _ _ _ (w.alloc (.cells (evv y A2 c2 A11 c11 A13 c13) 41))
  obtain ⟨W, hW⟩ : ∃ W, W = w.alloc (.cells (evv y A2 c2 A11 c11 A13 c13) 41) := ⟨_, rfl⟩
  obtain ⟨T, hT⟩ : ∃ T, T = w.heap.size := ⟨_, rfl⟩
  rw [← hW] at F0 ⊢
  rw [← hT] at F0 ⊢
  clear hW hT
  obtain ⟨t0, t1, t2, t3, t4, t5, t6, t7, t8, t9, t10, t11, t12, t13⟩ := F0.out.cells
  clear t0 t1 t2 t3 t4 t5 t6 t7 t8 t9 t10 t11 t12
  go_wp2_with fail
  go_loopg [5, 7, 16] y.f4.length (fun gg v5 v7 v16 wr => ∃ (j : Nat), v16 = .int .i64 j ∧ v5 = .int .i64 (what1 y (y.f4.take j)) ∧ j ≤ y.f4.length ∧ y.f4.length - j ≤ gg ∧ Aside0 (Fs w0 w wr g b c E laid T (evv y A2 c2 A11 c11 A13 c13)))
  case atStart => exact ⟨0, rfl, rfl, Nat.zero_le _, by omega, F0⟩
  case round =>
    clear F0 t13
    obtain ⟨j, rfl, rfl, hj, hgj, FR⟩ := hrel
    by_cases hlt : j < y.f4.length
    · have hji : (j : Int) < (y.f4.length : Int) := by omega
      obtain ⟨d, hd⟩ : ∃ d, y.f4[j]? = some d := ⟨_, List.getElem?_eq_getElem hlt⟩
      obtain ⟨ad, rfl, d0, d1⟩ := drop_cell (Kd.C_below HR.out.g13 FR.out.lw.bel) j d hd
      obtain ⟨m, hm⟩ : ∃ m, what1 y (y.f4.take j) = m := ⟨_, rfl⟩
      obtain ⟨q, hq⟩ : ∃ q, reasonP y d = q := ⟨_, rfl⟩
      have HN := Lib.hid (show what1 y (y.f4.take (j + 1)) = if q = true then m else 2 by rw [take_one hd, what_snoc, hm, hq])
      have HRS := Lib.hid (show witness_reason.f 6 y.f0 y.f1.f0 y.f1.f1 y.f1.f2 y.f1.f3 y.f1.f4 y.f1.f5 y.f1.f6 y.f1.f7 y.f2 y.f3.f0 y.f3.f1 y.f3.f2 y.f4 d.f0 d.f1 = some q by rw [← hq]; exact reason_is y d HK.out)
      rw [hm]
      have FA := Aside0.mk (FR.out.below ((Below.refl _ wr).alloc (Nat.le_refl _) (.cells #[.string d.f0, .int .i64 d.f1] 46)))
      have RA := Aside0.mk (HR.out.below FA.out.lw.bel)
      obtain ⟨t0, t1, t2, t3, t4, t5, t6, t7, t8, t9, t10, t11, t12, t13⟩ := FA.out.cells
      clear hd hm hq FR
      go_wp2_with fail
      have hX := witness_reason.calls 6 y.f0 y.f1.f0 A2 c2 y.f1.f1 y.f1.f2 y.f1.f3 y.f1.f4 y.f1.f5 y.f1.f6 y.f1.f7 y.f2 y.f3.f0 A11 c11 y.f3.f1 y.f3.f2 (some ad) c13 y.f4 d.f0 d.f1 q _ RA.out.g2 RA.out.l2 RA.out.g11 RA.out.l11 RA.out.g13 RA.out.l13 HRS.out
      refine hX.mono ?_
      clear hX
      rintro x w2 ⟨rfl, hb⟩
      have F2 := Aside0.mk (FA.out.below hb)
      clear hb FA RA HRS t0 t1 t2 t3 t4 t5 t6 t7 t8 t9 t10 t11 t12 t13 d0 d1
      cases q with
      | true =>
        go_wp2
        go_roundg (y.f4.length - (j + 1))
        case measure => omega
        case rel => exact ⟨j + 1, by go_num, by rw [HN.out]; first | rfl | simp, by omega, by omega, F2⟩
      | false =>
        go_wp2
        go_roundg (y.f4.length - (j + 1))
        case measure => omega
        case rel => exact ⟨j + 1, by go_num, by rw [HN.out]; first | rfl | simp, by omega, by omega, F2⟩
    · have hji : ¬ (j : Int) < (y.f4.length : Int) := by omega
      obtain rfl : j = y.f4.length := by omega
      rw [List.take_length]
      obtain ⟨s0, hs0⟩ : ∃ s0, what1 y y.f4 = s0 := ⟨_, rfl⟩
      rw [hs0]
      have HS0 := Lib.hid hs0
      clear hs0
      obtain ⟨t0, t1, t2, t3, t4, t5, t6, t7, t8, t9, t10, t11, t12, t13⟩ := FR.out.cells
      clear t0 t1 t2 t3 t4 t5 t6 t7 t8 t9 t10 t11 t12
      go_wp2_with fail
      go_loopg [5, 9, 28] y.f4.length (fun gg v5 v9 v28 wr => ∃ (j : Nat), v28 = .int .i64 j ∧ v5 = .int .i64 ((y.f4.take j).foldl dstep (s0, E)).1 ∧ j ≤ y.f4.length ∧ y.f4.length - j ≤ gg ∧ Aside0 (Fs w0 w wr g b c ((y.f4.take j).foldl dstep (s0, E)).2 laid T (evv y A2 c2 A11 c11 A13 c13)))
      case atStart => exact ⟨0, rfl, rfl, Nat.zero_le _, by omega, FR⟩
      case round =>
        clear FR t13
        obtain ⟨j, rfl, rfl, hj, hgj, FR⟩ := hrel
        by_cases hlt : j < y.f4.length
        · have hji : (j : Int) < (y.f4.length : Int) := by omega
          obtain ⟨d, hd⟩ : ∃ d, y.f4[j]? = some d := ⟨_, List.getElem?_eq_getElem hlt⟩
          obtain ⟨ad, rfl, d0, d1⟩ := drop_cell (Kd.C_below HR.out.g13 FR.out.lw.bel) j d hd
          have HN := Lib.hid (show (y.f4.take (j + 1)).foldl dstep (s0, E) = dstep ((y.f4.take j).foldl dstep (s0, E)) d by rw [take_one hd, List.foldl_append]; rfl)
          obtain ⟨⟨s, F⟩, hs⟩ : ∃ s, (y.f4.take j).foldl dstep (s0, E) = s := ⟨_, rfl⟩
          rw [hs] at HN FR ⊢
          have FA := Aside0.mk (FR.out.below ((Below.refl _ wr).alloc (Nat.le_refl _) (.cells #[.string d.f0, .int .i64 d.f1] 46)))
          clear hd hs FR
          by_cases h3 : d.f1 = 3
          · have e3 : (d.f1 != 3) = false := by rw [h3]; rfl
            have HN2 := Lib.hid (show (y.f4.take (j + 1)).foldl dstep (s0, E) = (s, F) by rw [HN.out]; unfold dstep; rw [if_pos h3])
            clear h3
            go_wp2
            go_roundg (y.f4.length - (j + 1))
            case measure => omega
            case rel => exact ⟨j + 1, by go_num, by rw [HN2.out], by omega, by omega, ⟨by rw [HN2.out]; exact FA.out⟩⟩
          · have e3 : (d.f1 != 3) = true := bne_iff_ne.2 h3
            obtain ⟨q, hq⟩ : ∃ q, dropB F d.f0 = q := ⟨_, rfl⟩
            have HN2 := Lib.hid (show (y.f4.take (j + 1)).foldl dstep (s0, E) = (if q = false ∧ s = 0 then 1 else s, dropT F d.f0) by rw [HN.out]; unfold dstep; rw [if_neg h3, ← hq])
            clear h3
            go_wp2_with fail
            refine (Drop_calls _ g b c F laid d.f0 FA.out.lw.at_).mono ?_
            rintro x w3 ⟨rfl, hA, hM⟩
            rw [hq]
            have F3 := Aside0.mk (FA.out.mut hA hM)
            clear hA hM hq FA d0 d1
            cases q with
            | true =>
              go_wp2
              go_roundg (y.f4.length - (j + 1))
              case measure => omega
              case rel => exact ⟨j + 1, by go_num, by rw [HN2.out, if_neg (by simp)], by omega, by omega, ⟨by rw [HN2.out]; exact F3.out⟩⟩
            | false =>
              by_cases hz : s = 0
              · have ez : (s == 0) = true := beq_iff_eq.2 hz
                have HN3 := Lib.hid (show (y.f4.take (j + 1)).foldl dstep (s0, E) = (1, dropT F d.f0) by rw [HN2.out, if_pos ⟨rfl, hz⟩])
                clear hz
                go_wp2
                go_roundg (y.f4.length - (j + 1))
                case measure => omega
                case rel => exact ⟨j + 1, by go_num, by rw [HN3.out], by omega, by omega, ⟨by rw [HN3.out]; exact F3.out⟩⟩
              · have ez : (s == 0) = false := beq_eq_false_iff_ne.2 hz
                have HN3 := Lib.hid (show (y.f4.take (j + 1)).foldl dstep (s0, E) = (s, dropT F d.f0) by rw [HN2.out, if_neg (fun h => hz h.2)])
                clear hz
                go_wp2
                go_roundg (y.f4.length - (j + 1))
                case measure => omega
                case rel => exact ⟨j + 1, by go_num, by rw [HN3.out], by omega, by omega, ⟨by rw [HN3.out]; exact F3.out⟩⟩
        · have hji : ¬ (j : Int) < (y.f4.length : Int) := by omega
          obtain rfl : j = y.f4.length := by omega
          rw [List.take_length] at FR ⊢
          obtain ⟨⟨s, F⟩, hs⟩ : ∃ s, y.f4.foldl dstep (s0, E) = s := ⟨_, rfl⟩
          rw [hs] at FR ⊢
          have HS := Lib.hid (show y.f4.foldl dstep (what1 y y.f4, E) = (s, F) by rw [HS0.out]; exact hs)
          clear hs HS0
          obtain ⟨t0, t1, t2, t3, t4, t5, t6, t7, t8, t9, t10, t11, t12, t13⟩ := FR.out.cells
          by_cases hk0 : y.f1.f0 = 0
          · have ek : (y.f1.f0 == 0) = true := beq_iff_eq.2 hk0
            have HF := Lib.hid (show folP y E laid = ⟨s, F, laid⟩ by unfold folP; rw [HS.out]; simp only; rw [if_pos hk0])
            clear hk0
            go_wp2
            go_ret
            rw [HF.out]
            exact ⟨rfl, ⟨FR.out.lw.at_.more (Nat.le_add_right _ _), FR.out.lw.bel, FR.out.lw.hg, FR.out.lw.hb⟩, FR.out.mov⟩
          · have ek : (y.f1.f0 == 0) = false := beq_eq_false_iff_ne.2 hk0
            obtain ⟨o, ho⟩ : ∃ o, doP (cmdY y) y.f2 (y.f3.f0 == 11) F laid = o := ⟨_, rfl⟩
            have HF := Lib.hid (show folP y E laid = ⟨if (decide (o.err = 0) && (o.code == y.f3.f0) && (o.n == y.f3.f2) && hitsEq (o.hits.map hitY) y.f3.f1) = false ∧ s = 0 then 3 else s, o.E, o.laid⟩ by unfold folP; rw [HS.out]; simp only; rw [if_neg hk0, ho])
            clear hk0
            have hKA : KeysAt wr g b A2 (cmdY y).keys := fun j p hp => by
              have hp2 : y.f1.f1[j]? = some p := hp
              obtain ⟨ad, e, hcell⟩ := slices_ContainsFunc_string_string.cell HR.out.g2 (Below.refl _ _) j p hp2
              have hlt := World.block_lt_of_cell? _ _ hcell
              rw [add_block] at hlt
              have h1 := FR.out.lw.hg
              have h2 := FR.out.lw.hb
              exact ⟨ad, e, by omega, by omega, keepC FR.out.lw.bel hcell⟩
            have HKA := Aside0.mk hKA
            clear hKA
            go_wp2_with fail
            have hX := Do_c wr g b c F laid (cmdY y) A2 c2 y.f2 (y.f3.f0 == 11) (HV.out.below FR.out.lw.bel) FR.out.lw.at_ HC.out (Kd.C_below HR.out.g2 FR.out.lw.bel) HKA.out HR.out.l2 HD0.out
            rw [ho] at hX
            refine hX.mono ?_
            clear hX
            rintro x w4 ⟨vs, -, rfl, hown, hA, hM⟩
            obtain ⟨A6, c6, rfl, hc6, hH⟩ := hits_C hown
            have F4 := Aside0.mk (FR.out.mut hA hM)
            have hr1 := fun (cs : Array Value) => Aside0.mk (F4.out.below ((Below.refl _ w4).alloc (Nat.le_refl _) (.cells cs 38)))
            obtain ⟨oc, hoc⟩ : ∃ z, o.code = z := ⟨_, rfl⟩
            obtain ⟨on, hon⟩ : ∃ z, o.n = z := ⟨_, rfl⟩
            obtain ⟨oe, hoe⟩ : ∃ z, o.err = z := ⟨_, rfl⟩
            obtain ⟨hs, hhs⟩ : ∃ z, o.hits.map hitY = z := ⟨_, rfl⟩
            have hlen : o.hits.length = hs.length := by rw [← hhs, List.length_map]
            rw [hoc, hon, hoe, hhs] at HF
            rw [hoc, hon, hoe]
            rw [hhs, hlen] at hH
            rw [hlen] at hc6 ⊢
            have HH := Aside0.mk hH
            clear hown hA hM hH hoc hon hoe hhs hlen FR t0 t1 t2 t3 t4 t5 t6 t7 t8 t9 t10 t11 t12 t13 HKA
            go_upto_region 17 with fail
            change Code.wp _ _ _ _ (w4.alloc (.cells #[.int .i64 oc, .slice A6 hs.length c6, .int .u64 on] 38))
            have F5 := hr1 #[.int .i64 oc, .slice A6 hs.length c6, .int .u64 on]
            have HB5 := Aside0.mk (heap_alloc_new w4 (.cells #[.int .i64 oc, .slice A6 hs.length c6, .int .u64 on] 38))
            have HH5 := Aside0.mk (Kd.C_below HH.out ((Below.refl _ w4).alloc (Nat.le_refl _) (.cells #[.int .i64 oc, .slice A6 hs.length c6, .int .u64 on] 38)))
            obtain ⟨B, hB⟩ : ∃ B, B = w4.heap.size := ⟨_, rfl⟩
            rw [← hB] at HB5 ⊢
            generalize w4.alloc (.cells #[.int .i64 oc, .slice A6 hs.length c6, .int .u64 on] 38) = W5 at F5 HB5 HH5 ⊢
            clear hr1 hB HH F4
            obtain ⟨t0, t1, t2, t3, t4, t5, t6, t7, t8, t9, t10, t11, t12, t13⟩ := F5.out.cells
            have b0 := fresh_cell HB5.out 0
            have b1 := fresh_cell HB5.out 1
            have b2 := fresh_cell HB5.out 2
            simp only [List.getElem?_toArray, List.getElem?_cons_zero, List.getElem?_cons_succ] at b0 b1 b2
            have R5 := Aside0.mk (HR.out.below F5.out.lw.bel)
            obtain ⟨so, hso⟩ : ∃ so, (decide (oe = 0) && (oc == y.f3.f0) && (on == y.f3.f2) && hitsEq hs y.f3.f1) = so := ⟨_, rfl⟩
            rw [hso] at HF
            have HSO := Lib.hid hso
            clear hso
            go_cut [12] (fun v12 wc => v12 = .bool so ∧ Aside0 (Below W5.heap.size W5 wc))
            case first =>
              by_cases q1 : oe = 0
              · have e1 : (oe == 0) = true := beq_iff_eq.2 q1
                have d1 : decide (oe = 0) = true := decide_eq_true q1
                cases q2 : (oc == y.f3.f0) with
                | true =>
                  cases q3 : (on == y.f3.f2) with
                  | true =>
                    have HS2 := Lib.hid (show so = hitsEq hs y.f3.f1 by rw [← HSO.out, d1, q2, q3]; rfl)
                    clear q1 d1 HSO
                    go_wp2_with fail
                    have hX := equalH_calls _ A6 A11 c6 c11 hs y.f3.f1 HH5.out R5.out.g11
                    refine hX.mono ?_
                    clear hX
                    rintro x w6 ⟨rfl, hb⟩
                    have B6 := Aside0.mk hb
                    clear hb
                    go_wp2_with fail
                    go_meet
                    case rel =>
                      rw [HS2.out]
                      exact ⟨rfl, B6⟩
                  | false =>
                    have HS2 := Lib.hid (show so = false by rw [← HSO.out, d1, q2, q3]; rfl)
                    clear q1 d1 HSO
                    go_wp2_with fail
                    go_meet
                    case rel =>
                      rw [HS2.out]
                      exact ⟨rfl, ⟨Below.refl _ _⟩⟩
                | false =>
                  have HS2 := Lib.hid (show so = false by rw [← HSO.out, d1, q2]; rfl)
                  clear q1 d1 HSO
                  go_wp2_with fail
                  go_meet
                  case rel =>
                    rw [HS2.out]
                    exact ⟨rfl, ⟨Below.refl _ _⟩⟩
              · have e1 : (oe == 0) = false := beq_eq_false_iff_ne.2 q1
                have HS2 := Lib.hid (show so = false by rw [← HSO.out, show decide (oe = 0) = false from decide_eq_false q1]; rfl)
                clear q1 HSO
                go_wp2_with fail
                go_meet
                case rel =>
                  rw [HS2.out]
                  exact ⟨rfl, ⟨Below.refl _ _⟩⟩
            case rest =>
              obtain ⟨rfl, BW⟩ := hcut
              have FW := Aside0.mk (F5.out.below BW.out)
              clear t0 t1 t2 t3 t4 t5 t6 t7 t8 t9 t10 t11 t12 t13 b0 b1 b2 R5 HH5 HB5 F5 HSO
              cases so with
              | true =>
                have HF2 := Lib.hid (show folP y E laid = ⟨s, o.E, o.laid⟩ by rw [HF.out, if_neg (by simp)])
                go_wp2
                go_ret
                rw [HF2.out]
                exact ⟨rfl, FW.out.lw, FW.out.mov⟩
              | false =>
                by_cases hz : s = 0
                · have ez : (s == 0) = true := beq_iff_eq.2 hz
                  have HF2 := Lib.hid (show folP y E laid = ⟨3, o.E, o.laid⟩ by rw [HF.out, if_pos ⟨rfl, hz⟩])
                  clear hz
                  go_wp2
                  go_ret
                  rw [HF2.out]
                  exact ⟨rfl, FW.out.lw, FW.out.mov⟩
                · have ez : (s == 0) = false := beq_eq_false_iff_ne.2 hz
                  have HF2 := Lib.hid (show folP y E laid = ⟨s, o.E, o.laid⟩ by rw [HF.out, if_neg (fun h => hz h.2)])
                  clear hz
                  go_wp2
                  go_ret
                  rw [HF2.out]
                  exact ⟨rfl, FW.out.lw, FW.out.mov⟩
end Go.Proofs.YtdihoopofhediaaGreatDoor.Wp
end
section
namespace Go.Proofs.YtdihoopofhediaaGreatDoor.Wp
open Go.RowKit Go.Proofs.YtdihoopofhediaaGreatDoorW.PrintWords Go.Proofs.YtdihoopofhediaaGreatDoorW.PrintLast Go.Proofs.YtdihoopofhediaaGreatDoorW.PrintMore Go.WideMaps Go.Proofs.YtdihoopofhediaaGreatDoor.XMd Go.Proofs.YtdihoopofhediaaGreatDoor.Mdl
set_option linter.unusedVariables false
set_option linter.unusedSimpArgs false
attribute [local go_sem ↓] Go.wp_at_zero Go.wp_at_succ
attribute [local go_sem high] eqFd
theorem ev_row {w : World} {A : Option Addr} {l : List Y} (h : Kd.C k41 w A l.length l) (j : Nat) (y : Y) (hy : l[j]? = some y) :
    ∃ (ad : Addr) (A2 : Option Addr) (c2 : Nat) (A11 : Option Addr) (c11 : Nat) (A13 : Option Addr) (c13 : Nat), A = some ad ∧ Rows w y A2 c2 A11 c11 A13 c13 ∧ ∀ i u, (evv y A2 c2 A11 c11 A13 c13)[i]? = some u → w.cell? (ad.add (j * 14 + i)) = some u := by
  have hj : j < l.length := (List.getElem?_eq_some_iff.1 hy).1
  obtain ⟨ad, c, e, _, hK, hc⟩ := Kd.C_get h z41 (j : Int) (by omega) (by omega)
  have hr : l.getD (j : Int).toNat z41 = y := by rw [Int.toNat_natCast, List.getD_eq_getElem?_getD, hy]; rfl
  rw [hr] at hK
  obtain ⟨A2, c2, A11, c11, A13, c13, rfl, l2, g2, l11, g11, l13, g13⟩ := k41_open hK
  rw [Int.toNat_natCast] at hc
  refine ⟨ad, A2, c2, A11, c11, A13, c13, e, ⟨l2, g2, l11, g11, l13, g13⟩, fun i u hu => hc i u ?_⟩
  unfold evv at hu
  simpa using hu
theorem field_cell {w : World} {ad : Addr} {j i : Nat} {u : Value} (hi : 0 < i) (h : w.cell? (ad.add (j * 14 + i)) = some u) : w.cell? ⟨(ad.add (j * 14)).block, (ad.add (j * 14)).off + i, none⟩ = some u := by
  rw [← add_field _ _ i hi]
  exact h
def chk (ys : List Y) : Int × Int := chkL ys 0 none (fun _ => none) 0
structure Ck (w W : World) (g b c : Nat) (E : Tab) (laid : Int) (B0 Bn : Nat) : Prop where
  lw : Lw w W g b c E laid
  res : W.heap[B0]? = some (.cells #[.int .i64 0, .int .i64 0] 27)
  non : W.heap[Bn]? = some (.cells #[.int .i64 (-1), .int .i64 0] 27)
  n1 : B0 ≠ g ∧ B0 ≠ b
  n2 : Bn ≠ g ∧ Bn ≠ b
  n3 : Bn ≠ B0
  lo : w.heap.size ≤ B0
theorem Ck.below {w W W' : World} {g b c : Nat} {E : Tab} {laid : Int} {B0 Bn : Nat} (h : Ck w W g b c E laid B0 Bn) (hb : Below W.heap.size W W') : Ck w W' g b c E laid B0 Bn :=
  ⟨h.lw.below hb, (hb.block _ (blk_lt h.res)).trans h.res, (hb.block _ (blk_lt h.non)).trans h.non, h.n1, h.n2, h.n3, h.lo⟩
theorem Ck.next {w W W' : World} {g b c c' : Nat} {E E' : Tab} {laid laid' : Int} {B0 Bn : Nat} (h : Ck w W g b c E laid B0 Bn) (hA : At W' g b c' E' laid') (hM : Mut g b W W') : Ck w W' g b c' E' laid' B0 Bn :=
  ⟨h.lw.mut hA hM, hM.heap h.res h.n1.1 h.n1.2, hM.heap h.non h.n2.1 h.n2.2, h.n1, h.n2, h.n3, h.lo⟩
theorem set2 {w : World} {B : Nat} {t : TypeId} {v0 v1 : Value} (h : w.heap[B]? = some (.cells #[v0, v1] t)) (a b : Value) : ((w.setCell ⟨B, 0, none⟩ a).setCell ⟨B, 1, none⟩ b).heap[B]? = some (.cells #[a, b] t) := by
  simp only [World.setCell]
  rw [Array.getElem?_modify, if_pos rfl, Array.getElem?_modify, if_pos rfl, h]
  rfl
set_option maxHeartbeats 16000000 in
set_option maxRecDepth 100000 in
theorem Check_calls (w : World) (hv : Vars w) (A0 : Option Addr) (c0 : Nat) (ys : List Y) (hC : Kd.C k41 w A0 ys.length ys) (hl : ys.length ≤ 1000) (hd : ∀ y ∈ ys, 0 ≤ y.f1.f6 ∧ y.f1.f1.length ≤ 4611686018427387904) :
    Calls Tryz.prog 6 #[.slice A0 ys.length c0] w fun e w' => e = .returned (.agg #[.int .i64 (chk ys).1, .int .i64 (chk ys).2]) ∧ Below w.heap.size w w' := by
  have HV := Aside0.mk hv
  have HCC := Aside0.mk hC
  have HD := Lib.hid hd
  clear hv hC hd
  go_enter Tryz.func6, Tryz.ntmps6
  go_wp2_with fail
  refine (New_calls _).mono ?_
  rintro e w1 ⟨g, b, rfl, hA, hg, hb, hb1⟩
  have hb0 : Below w.heap.size w w1 := ((Below.refl _ w).alloc (Nat.le_refl _) _).trans (hb1.mono (by rw [size_al]; omega))
  have hr1 : w1.heap[w.heap.size]? = some (.cells #[.int .i64 0, .int .i64 0] 27) := (hb1.block _ (by rw [size_al]; omega)).trans (heap_alloc_new w _)
  rw [size_al] at hg hb
  have hlt1 := hA.lt
  have hlt2 := hA.ltb
  have K1 : Aside0 (Ck w (w1.alloc (.cells #[.int .i64 (-1), .int .i64 0] 27)) g b 0 (fun _ => none) 0 w.heap.size w1.heap.size) :=
    ⟨⟨⟨hA.alloc _, hb0.alloc hb0.size _, by omega, by omega⟩, (Below.heap_alloc _ _ _ (blk_lt hr1)).trans hr1, heap_alloc_new _ _, by omega, by omega, by have := blk_lt hr1; omega, Nat.le_refl _⟩⟩
  obtain ⟨B0, hB0⟩ : ∃ B0, B0 = w.heap.size := ⟨_, rfl⟩
  rw [← hB0] at K1
  obtain ⟨Bn, hBn⟩ : ∃ Bn, Bn = w1.heap.size := ⟨_, rfl⟩
  rw [← hBn] at K1
  clear hA hg hb hb1 hb0 hr1 hlt1 hlt2
  go_upto_region 3 with fail
  rw [← hB0, ← hBn]
  generalize w1.alloc (.cells #[.int .i64 (-1), .int .i64 0] 27) = W3 at K1 ⊢
  clear hB0 hBn
  have K0 : Aside0 (∃ prev E laid, Ck w W3 g b (100 * 0) E laid B0 Bn ∧ chkL (ys.drop 0) 0 prev E laid = chk ys ∧ prev = (if (0 : Nat) = 0 then none else (ys[0 - 1]?).map (·.f2))) := ⟨none, fun _ => none, 0, K1.out, by rw [List.drop_zero]; rfl, rfl⟩
  clear K1
  go_wp2_with fail
  go_loopg [5, 6, 7, 12] ys.length (fun gg v5 v6 v7 v12 wr => ∃ (j : Nat), v12 = .int .i64 j ∧ j ≤ ys.length ∧ ys.length - j ≤ gg ∧ Aside0 (∃ prev E laid, Ck w wr g b (100 * j) E laid B0 Bn ∧ chkL (ys.drop j) j prev E laid = chk ys ∧ prev = (if j = 0 then none else (ys[j - 1]?).map (·.f2))))
  case atStart => exact ⟨0, rfl, Nat.zero_le _, by omega, K0⟩
  case round =>
    clear K0
    obtain ⟨j, rfl, hj, hgj, ⟨⟨prev, E, laid, hK, hch, hp⟩⟩⟩ := hrel
    by_cases hlt : j < ys.length
    · have hji : (j : Int) < (ys.length : Int) := by omega
      obtain ⟨y, hy⟩ : ∃ y, ys[j]? = some y := ⟨_, List.getElem?_eq_getElem hlt⟩
      obtain ⟨ad, A2, c2, A11, c11, A13, c13, rfl, hR, hcell⟩ := ev_row HCC.out j y hy
      have hk := fun i u h => keepC hK.lw.bel (hcell i u h)
      have t0 : wr.cell? (ad.add (j * 14)) = some (.int .i64 y.f0) := hk 0 _ rfl
      have t1 := field_cell (j := j) (i := 1) (by omega) (hk 1 (.int .i64 y.f1.f0) rfl)
      have t2 := field_cell (j := j) (i := 2) (by omega) (hk 2 (.slice A2 y.f1.f1.length c2) rfl)
      have t3 := field_cell (j := j) (i := 3) (by omega) (hk 3 (.int .u32 y.f1.f2) rfl)
      have t4 := field_cell (j := j) (i := 4) (by omega) (hk 4 (.int .i64 y.f1.f3) rfl)
      have t5 := field_cell (j := j) (i := 5) (by omega) (hk 5 (.string y.f1.f4) rfl)
      have t6 := field_cell (j := j) (i := 6) (by omega) (hk 6 (.int .u64 y.f1.f5) rfl)
      have t7 := field_cell (j := j) (i := 7) (by omega) (hk 7 (.int .u64 y.f1.f6) rfl)
      have t8 := field_cell (j := j) (i := 8) (by omega) (hk 8 (.bool y.f1.f7) rfl)
      have t9 := field_cell (j := j) (i := 9) (by omega) (hk 9 (.int .i64 y.f2) rfl)
      have t10 := field_cell (j := j) (i := 10) (by omega) (hk 10 (.int .i64 y.f3.f0) rfl)
      have t11 := field_cell (j := j) (i := 11) (by omega) (hk 11 (.slice A11 y.f3.f1.length c11) rfl)
      have t12 := field_cell (j := j) (i := 12) (by omega) (hk 12 (.int .u64 y.f3.f2) rfl)
      have t13 := field_cell (j := j) (i := 13) (by omega) (hk 13 (.slice A13 y.f4.length c13) rfl)
      have hstep : chk ys = if prev.any (fun p => decide (y.f2 < p)) = true then ((j : Int), 4) else if (folP y E laid).what = 0 then chkL (ys.drop (j + 1)) (j + 1) (some y.f2) (folP y E laid).E (folP y E laid).laid else ((j : Int), (folP y E laid).what) := by
        rw [← hch, List.drop_eq_getElem_cons hlt]
        have e : ys[j] = y := (List.getElem?_eq_some_iff.1 hy).2
        rw [e]
        rfl
      have HST := Lib.hid hstep
      have HY := Lib.hid hy
      have HP := Lib.hid hp
      have HRW := Aside0.mk hR
      have KR := Aside0.mk hK
      have HCELL := Aside0.mk hcell
      have hnext : ys[(j + 1) - 1]? = some y := hy
      have HNX := Lib.hid hnext
      clear hk hstep hy hp hR hK hcell hch hnext
      go_upto_region 6 with fail
      change Code.wp _ _ _ _ (wr.alloc (.cells (evv y A2 c2 A11 c11 A13 c13) 41))
      have K5 := Aside0.mk (KR.out.below ((Below.refl _ wr).alloc (Nat.le_refl _) (.cells (evv y A2 c2 A11 c11 A13 c13) 41)))
      have X5 := Aside0.mk (heap_alloc_new wr (.cells (evv y A2 c2 A11 c11 A13 c13) 41))
      obtain ⟨T, hT⟩ : ∃ T, T = wr.heap.size := ⟨_, rfl⟩
      rw [← hT] at X5 ⊢
      generalize wr.alloc (.cells (evv y A2 c2 A11 c11 A13 c13) 41) = W5 at K5 X5 ⊢
      clear hT KR t0 t1 t2 t3 t4 t5 t6 t7 t8 t9 t10 t11 t12 t13
      obtain ⟨lt, hlts⟩ : ∃ lt, prev.any (fun p => decide (y.f2 < p)) = lt := ⟨_, rfl⟩
      rw [hlts] at HST
      have HLT := Lib.hid hlts
      clear hlts
      go_cut [29] (fun v29 wc => v29 = .bool lt ∧ Aside0 (Below W5.heap.size W5 wc))
      case first =>
        have t9 : W5.cell? ⟨T, 9, none⟩ = some (.int .i64 y.f2) := fresh_cell X5.out 9
        have hj0 : (0 : Int) ≤ (j : Int) := by omega
        rcases j with _ | k
        · have HL2 := Lib.hid (show lt = false by rw [← HLT.out, HP.out]; rfl)
          clear HST HY HP HNX HLT
          go_quiet (fail)
          go_wp2_with fail
          go_meet
          case rel =>
            rw [HL2.out]
            exact ⟨rfl, ⟨⟨rfl, rfl, rfl, Nat.le_refl _, fun _ _ => rfl⟩⟩⟩
        · obtain ⟨z, hz⟩ : ∃ z, ys[k]? = some z := ⟨_, List.getElem?_eq_getElem (by omega)⟩
          obtain ⟨ad2, B2, d2, B11, d11, B13, d13, e2, hR2, hcell2⟩ := ev_row HCC.out k z hz
          injection e2 with e2
          subst e2
          have u9 := field_cell (j := k) (i := 9) (by omega) (keepC K5.out.lw.bel (hcell2 9 (.int .i64 z.f2) rfl))
          have hk0 : (0 : Int) ≤ (k : Int) := by omega
          have hk1 : (k : Int) < (ys.length : Int) := by omega
          have hgt : (0 : Int) < ((k : Int) + 1) := by omega
          have ewr : wrap64 ((k : Int) + 1 - 1) = (k : Int) := by unfold wrap64; omega
          have HL2 := Lib.hid (show lt = decide (y.f2 < z.f2) by
            rw [← HLT.out, HP.out, if_neg (by omega), show k + 1 - 1 = k from rfl, hz]
            rfl)
          clear HST HY HP HNX HLT hz hR2 hcell2
          go_quiet (fail)
          go_wp2_with fail
          go_meet
          case rel =>
            rw [HL2.out]
            exact ⟨rfl, ⟨⟨rfl, rfl, rfl, Nat.le_refl _, fun _ _ => rfl⟩⟩⟩
      case rest =>
        obtain ⟨rfl, BW⟩ := hcut
        have K6 := Aside0.mk (K5.out.below BW.out)
        have X6 := Aside0.mk ((BW.out.block T (blk_lt X5.out)).trans X5.out)
        clear K5 X5 BW
        cases lt with
        | true =>
          have z0 := fresh_cell K6.out.res 0
          have z1 := fresh_cell K6.out.res 1
          have zf0 := fresh_frozen K6.out.res 0
          have zf1 := fresh_frozen K6.out.res 1
          simp only [List.getElem?_toArray, List.getElem?_cons_zero, List.getElem?_cons_succ] at z0 z1
          have S2 := Aside0.mk (set2 K6.out.res (.int .i64 j) (.int .i64 4))
          have BS := Aside0.mk ((K6.out.lw.bel.setCell (p := ⟨B0, 0, none⟩) K6.out.lo (.int .i64 j)).setCell (p := ⟨B0, 1, none⟩) K6.out.lo (.int .i64 4))
          go_wp2
          refine bodyPost_ret (results_cell_row rfl _ _ B0 27 #[.int .i64 j, .int .i64 4] (0, 0) _ rfl S2.out Tryz.underlying27 rfl (by kernel_rfl)) rfl ?_
          rw [HST.out]
          exact ⟨rfl, BS.out⟩
        | false =>
          have t0 : wc.cell? ⟨T, 0, none⟩ = some (.int .i64 y.f0) := fresh_cell X6.out 0
          have t1 : wc.cell? ⟨T, 1, none⟩ = some (.int .i64 y.f1.f0) := fresh_cell X6.out 1
          have t2 : wc.cell? ⟨T, 2, none⟩ = some (.slice A2 y.f1.f1.length c2) := fresh_cell X6.out 2
          have t3 : wc.cell? ⟨T, 3, none⟩ = some (.int .u32 y.f1.f2) := fresh_cell X6.out 3
          have t4 : wc.cell? ⟨T, 4, none⟩ = some (.int .i64 y.f1.f3) := fresh_cell X6.out 4
          have t5 : wc.cell? ⟨T, 5, none⟩ = some (.string y.f1.f4) := fresh_cell X6.out 5
          have t6 : wc.cell? ⟨T, 6, none⟩ = some (.int .u64 y.f1.f5) := fresh_cell X6.out 6
          have t7 : wc.cell? ⟨T, 7, none⟩ = some (.int .u64 y.f1.f6) := fresh_cell X6.out 7
          have t8 : wc.cell? ⟨T, 8, none⟩ = some (.bool y.f1.f7) := fresh_cell X6.out 8
          have t9 : wc.cell? ⟨T, 9, none⟩ = some (.int .i64 y.f2) := fresh_cell X6.out 9
          have t10 : wc.cell? ⟨T, 10, none⟩ = some (.int .i64 y.f3.f0) := fresh_cell X6.out 10
          have t11 : wc.cell? ⟨T, 11, none⟩ = some (.slice A11 y.f3.f1.length c11) := fresh_cell X6.out 11
          have t12 : wc.cell? ⟨T, 12, none⟩ = some (.int .u64 y.f3.f2) := fresh_cell X6.out 12
          have t13 : wc.cell? ⟨T, 13, none⟩ = some (.slice A13 y.f4.length c13) := fresh_cell X6.out 13
          have hyd := HD.out y (List.mem_of_getElem? HY.out)
          have HYD := Lib.hid hyd
          clear hyd
          go_wp2_with fail
          have hX := follow_calls w wc HV.out g b (100 * j) E laid y A2 c2 A11 c11 A13 c13 K6.out.lw HRW.out (by unfold maxLen; omega) HYD.out.1 HYD.out.2
          refine hX.mono ?_
          clear hX
          rintro x w7 ⟨rfl, hLw, hM⟩
          obtain ⟨wh, hwh⟩ : ∃ z, (folP y E laid).what = z := ⟨_, rfl⟩
          rw [hwh]
          have K7 := Aside0.mk (K6.out.next hLw.at_ hM)
          have HST2 := Lib.hid (show chk ys = if wh = 0 then chkL (ys.drop (j + 1)) (j + 1) (some y.f2) (folP y E laid).E (folP y E laid).laid else ((j : Int), wh) by rw [HST.out, hwh]; rfl)
          clear hLw hM hwh HST K6 X6 t0 t1 t2 t3 t4 t5 t6 t7 t8 t9 t10 t11 t12 t13 HYD
          go_wp2_with fail
          by_cases hz : wh = 0
          · have hf : witness_found.f (j : Int) wh = some (-1, 0) := if_pos hz
            refine (witness_found.calls (j : Int) wh (-1) 0 w7 hf).mono ?_
            rintro x w8 ⟨rfl, hb⟩
            have K8 := Aside0.mk (K7.out.below hb)
            have KA := Aside0.mk (K8.out.below ((Below.refl _ w8).alloc (Nat.le_refl _) (.cells #[.int .i64 (-1), .int .i64 0] 27)))
            have m0 := fresh_cell KA.out.non 0
            have m1 := fresh_cell KA.out.non 1
            simp only [List.getElem?_toArray, List.getElem?_cons_zero, List.getElem?_cons_succ] at m0 m1
            have KN : Aside0 (∃ prev E laid, Ck w (w8.alloc (.cells #[.int .i64 (-1), .int .i64 0] 27)) g b (100 * (j + 1)) E laid B0 Bn ∧ chkL (ys.drop (j + 1)) (j + 1) prev E laid = chk ys ∧ prev = (if j + 1 = 0 then none else (ys[j + 1 - 1]?).map (·.f2))) :=
              ⟨some y.f2, (folP y E laid).E, (folP y E laid).laid, by rw [Nat.mul_add]; exact KA.out, by rw [HST2.out, if_pos hz], by rw [if_neg (by omega), HNX.out]; rfl⟩
            clear hf hb K7 K8 KA HST2 hz
            go_wp2
            go_roundg (ys.length - (j + 1))
            case measure => omega
            case rel => exact ⟨j + 1, by go_num, by omega, by omega, KN⟩
          · have hf : witness_found.f (j : Int) wh = some ((j : Int), wh) := if_neg hz
            refine (witness_found.calls (j : Int) wh (j : Int) wh w7 hf).mono ?_
            rintro x w8 ⟨rfl, hb⟩
            have K8 := Aside0.mk (K7.out.below hb)
            have KA := Aside0.mk (K8.out.below ((Below.refl _ w8).alloc (Nat.le_refl _) (.cells #[.int .i64 j, .int .i64 wh] 27)))
            have m0 := fresh_cell KA.out.non 0
            have m1 := fresh_cell KA.out.non 1
            have z0 := fresh_cell KA.out.res 0
            have z1 := fresh_cell KA.out.res 1
            have zf0 := fresh_frozen KA.out.res 0
            have zf1 := fresh_frozen KA.out.res 1
            simp only [List.getElem?_toArray, List.getElem?_cons_zero, List.getElem?_cons_succ] at m0 m1 z0 z1
            have S2 := Aside0.mk (set2 KA.out.res (.int .i64 j) (.int .i64 wh))
            have BS := Aside0.mk ((KA.out.lw.bel.setCell (p := ⟨B0, 0, none⟩) KA.out.lo (.int .i64 j)).setCell (p := ⟨B0, 1, none⟩) KA.out.lo (.int .i64 wh))
            have hj1 : ((j : Int) == -1) = false := beq_eq_false_iff_ne.2 (by omega)
            have HF := Lib.hid (show chk ys = ((j : Int), wh) by rw [HST2.out, if_neg hz])
            have hn3 : Bn ≠ w8.heap.size := Nat.ne_of_lt (blk_lt K8.out.non)
            have hn4 : B0 ≠ w8.heap.size := Nat.ne_of_lt (blk_lt K8.out.res)
            clear hf hb K7 K8 KA HST2 hz
            go_wp2
            refine bodyPost_ret (results_cell_row rfl _ _ B0 27 #[.int .i64 j, .int .i64 wh] (0, 0) _ rfl S2.out Tryz.underlying27 rfl (by kernel_rfl)) rfl ?_
            rw [HF.out]
            exact ⟨rfl, BS.out⟩
    · have hji : ¬ (j : Int) < (ys.length : Int) := by omega
      have HF := Lib.hid (show chk ys = (-1, 0) by
        rw [← hch, List.drop_of_length_le (by omega)]
        rfl)
      have KA := Aside0.mk hK
      have m0 := fresh_cell KA.out.non 0
      have m1 := fresh_cell KA.out.non 1
      have z0 := fresh_cell KA.out.res 0
      have z1 := fresh_cell KA.out.res 1
      have zf0 := fresh_frozen KA.out.res 0
      have zf1 := fresh_frozen KA.out.res 1
      simp only [List.getElem?_toArray, List.getElem?_cons_zero, List.getElem?_cons_succ] at m0 m1 z0 z1
      have S2 := Aside0.mk (set2 KA.out.res (.int .i64 (-1)) (.int .i64 0))
      have BS := Aside0.mk ((KA.out.lw.bel.setCell (p := ⟨B0, 0, none⟩) KA.out.lo (.int .i64 (-1))).setCell (p := ⟨B0, 1, none⟩) KA.out.lo (.int .i64 0))
      clear hK hch hp KA
      go_wp2
      refine bodyPost_ret (results_cell_row rfl _ _ B0 27 #[.int .i64 (-1), .int .i64 0] (0, 0) _ rfl S2.out Tryz.underlying27 rfl (by kernel_rfl)) rfl ?_
      rw [HF.out]
      exact ⟨rfl, BS.out⟩
end Go.Proofs.YtdihoopofhediaaGreatDoor.Wp
end
section
namespace Go.Proofs.YtdihoopofhediaaGreatDoor.Wp
open Go.RowKit Go.Proofs.YtdihoopofhediaaGreatDoorW.PrintWords Go.Proofs.YtdihoopofhediaaGreatDoorW.PrintLast Go.Proofs.YtdihoopofhediaaGreatDoorW.PrintMore Go.WideMaps Go.Proofs.YtdihoopofhediaaGreatDoor.XMd Go.Proofs.YtdihoopofhediaaGreatDoor.Mdl
set_option linter.unusedVariables false
set_option linter.unusedSimpArgs false
attribute [local go_sem ↓] Go.wp_at_zero Go.wp_at_succ
structure Rw where
  A2 : Option Addr
  c2 : Nat
  A11 : Option Addr
  c11 : Nat
  A13 : Option Addr
  c13 : Nat
def evL (y : Y) (r : Rw) : List Value :=
  [.int .i64 y.f0, .int .i64 y.f1.f0, .slice r.A2 y.f1.f1.length r.c2, .int .u32 y.f1.f2, .int .i64 y.f1.f3, .string y.f1.f4, .int .u64 y.f1.f5, .int .u64 y.f1.f6, .bool y.f1.f7, .int .i64 y.f2, .int .i64 y.f3.f0, .slice r.A11 y.f3.f1.length r.c11, .int .u64 y.f3.f2, .slice r.A13 y.f4.length r.c13]
def cellsL (l : List (Y × Rw)) : List Value := l.flatMap fun p => evL p.1 p.2
theorem cellsL_at : ∀ (l : List (Y × Rw)) (j i : Nat) (p : Y × Rw), l[j]? = some p → i < 14 → (cellsL l)[j * 14 + i]? = (evL p.1 p.2)[i]?
  | [], j, i, x, h, _ => by simp at h
  | y :: l, 0, i, x, h, hi => by
    obtain rfl : y = x := by simpa using h
    unfold cellsL
    rw [List.flatMap_cons, Nat.zero_mul, Nat.zero_add, List.getElem?_append_left (by show i < 14; exact hi)]
  | y :: l, j + 1, i, x, h, hi => by
    have ih := cellsL_at l j i x (by simpa using h) hi
    unfold cellsL at ih ⊢
    rw [List.flatMap_cons, List.getElem?_append_right (by show 14 ≤ _; omega)]
    have e : (j + 1) * 14 + i - (evL y.1 y.2).length = j * 14 + i := by show (j + 1) * 14 + i - 14 = _; omega
    rw [e, ih]
def RowsP (w : World) (p : Y × Rw) : Prop := Rows w p.1 p.2.A2 p.2.c2 p.2.A11 p.2.c11 p.2.A13 p.2.c13
theorem C_evs {w : World} {R : Nat} (l : List (Y × Rw)) (h : w.heap[R]? = some (.cells (cellsL l).toArray 41)) (hr : ∀ p ∈ l, RowsP w p) (hl : l.length ≤ 1000) : Kd.C k41 w (some ⟨R, 0, none⟩) l.length (l.map (·.1)) := by
  refine ⟨List.length_map _, by omega, fun _ => ⟨_, rfl, fun j y hj => ?_⟩⟩
  rw [List.getElem?_map] at hj
  obtain ⟨p, hp, rfl⟩ := Option.map_eq_some_iff.1 hj
  have hR := hr p (List.mem_of_getElem? hp)
  refine ⟨evL p.1 p.2, rfl, k41_mk w p.1 hR.l2 hR.g2 hR.l11 hR.g11 hR.l13 hR.g13, fun i u hu => ?_⟩
  have hi : i < 14 := (List.getElem?_eq_some_iff.1 hu).1
  show w.cell? ((⟨R, 0, none⟩ : Addr).add (j * 14 + i)) = some u
  rw [Addr.add_lit, Nat.zero_add, fresh_cell h, List.getElem?_toArray, cellsL_at l j i p hp hi]
  exact hu
theorem row_one {w : World} {B : Nat} {s : ByteArray} {t : TypeId} (h : w.heap[B]? = some (.cells #[.string s] t)) : Kd.string.C w (some ⟨B, 0, none⟩) 1 [s] := keys_row (l := [s]) h (by show 1 ≤ 100; decide)
theorem hit_one {w : World} {B : Nat} {x : Hy} {t : TypeId} (h : w.heap[B]? = some (.cells #[.string x.f0, .int .u32 x.f1, .string x.f2, .int .u64 x.f3] t)) : Kd.C k44 w (some ⟨B, 0, none⟩) 1 [x] :=
  ⟨rfl, by decide, fun _ => ⟨_, rfl, fun j p hj => by
    obtain ⟨rfl, rfl⟩ : j = 0 ∧ x = p := by
      match j, hj with
      | 0, h => exact ⟨rfl, by simpa using h⟩
    refine ⟨_, rfl, k44_mk w x, fun i u hu => ?_⟩
    show w.cell? ((⟨B, 0, none⟩ : Addr).add (0 * 4 + i)) = some u
    rw [Addr.add_lit, Nat.zero_add, fresh_cell h, Nat.zero_mul, Nat.zero_add, List.getElem?_toArray]
    exact hu⟩⟩
theorem drop_one {w : World} {B : Nat} {x : Dy} {t : TypeId} (h : w.heap[B]? = some (.cells #[.string x.f0, .int .i64 x.f1] t)) : Kd.C k46 w (some ⟨B, 0, none⟩) 1 [x] :=
  ⟨rfl, by decide, fun _ => ⟨_, rfl, fun j p hj => by
    obtain ⟨rfl, rfl⟩ : j = 0 ∧ x = p := by
      match j, hj with
      | 0, h => exact ⟨rfl, by simpa using h⟩
    refine ⟨_, rfl, k46_mk w x, fun i u hu => ?_⟩
    show w.cell? ((⟨B, 0, none⟩ : Addr).add (0 * 2 + i)) = some u
    rw [Addr.add_lit, Nat.zero_add, fresh_cell h, Nat.zero_mul, Nat.zero_add, List.getElem?_toArray]
    exact hu⟩⟩
namespace Tr
def K : ByteArray := ⟨#[107]⟩
def V : ByteArray := ⟨#[118]⟩
def set : Y := ⟨0, ⟨5, [K], 0, 0, V, 0, 0, false⟩, 5, ⟨2, [], 0⟩, []⟩
def lie : Y := ⟨0, ⟨1, [K], 0, 0, ⟨#[]⟩, 0, 0, false⟩, 5, ⟨1, [⟨K, 0, V, 1⟩], 0⟩, []⟩
def drop : Y := ⟨6, ⟨0, [], 0, 0, ⟨#[]⟩, 0, 0, false⟩, 5, ⟨0, [], 0⟩, [⟨K, 2⟩]⟩
theorem a_is : chk [set, lie, drop] = (-1, 0) := by kernel_rfl
theorem b_is : chk [lie] = (0, 3) := by kernel_rfl
theorem c_is : chk [drop] = (0, 1) := by kernel_rfl
theorem d_is : chk [set, drop, lie] = (2, 3) := by kernel_rfl
def ent : Ent := ⟨V, 0, 0, 1⟩
theorem set_E : (folP set (fun _ => none) 0).E = putT (fun _ => none) (nm K) (some ent) := by kernel_rfl
theorem key_ok : fnv_Key.is K = true := by kernel_rfl
theorem key_back : strip (nm K) = K.data.toList := by kernel_rfl
end Tr
set_option maxHeartbeats 1000000 in
theorem event_c (w : World) (kind flags exp cas delta code : Int) (value : ByteArray) (quiet : Bool) (A2 : Option Addr) (n2 c2 : Nat) :
    Calls Tryz.prog 8 #[.agg #[.int .i64 kind, .slice A2 n2 c2, .int .u32 flags, .int .i64 exp, .string value, .int .u64 cas, .int .u64 delta, .bool quiet], .int .i64 code] w fun e w' =>
      e = .returned (.agg #[.int .i64 0, .int .i64 kind, .slice A2 n2 c2, .int .u32 flags, .int .i64 exp, .string value, .int .u64 cas, .int .u64 delta, .bool quiet, .int .i64 5, .int .i64 code, .slice none 0 0, .int .u64 0, .slice none 0 0]) ∧ Below w.heap.size w w' := by
  go_enter Tryz.func8, Tryz.ntmps8
  go_wp2
  refine bodyPost_ret (results_cell_row rfl _ _ (w.heap.size + 1) 41 #[.int .i64 0, .int .i64 kind, .slice A2 n2 c2, .int .u32 flags, .int .i64 exp, .string value, .int .u64 cas, .int .u64 delta, .bool quiet, .int .i64 5, .int .i64 code, .slice none 0 0, .int .u64 0, .slice none 0 0] (0, 0) _ rfl (heap_alloc2 w _ _) Tryz.underlying41 rfl (by kernel_rfl)) rfl ?_
  exact ⟨rfl, ((Below.refl _ w).alloc (Nat.le_refl _) _).alloc (by simp) _⟩
end Go.Proofs.YtdihoopofhediaaGreatDoor.Wp
end
section
namespace Go.Proofs.YtdihoopofhediaaGreatDoor.Mdl
open Go.RowKit Go.Proofs.YtdihoopofhediaaGreatDoorW.PrintWords Go.Proofs.YtdihoopofhediaaGreatDoorW.PrintLast Go.Proofs.YtdihoopofhediaaGreatDoorW.PrintMore Go.WideMaps Go.Proofs.YtdihoopofhediaaGreatDoor.XMd
set_option linter.unusedVariables false
set_option linter.unusedSimpArgs false
structure Good (key : ByteArray) : Prop where
  ok : fnv_Key.is key = true
  back : strip (nm key) = key.data.toList
theorem zsize : (⟨#[]⟩ : ByteArray).size ≤ 2000 := by decide
def sec (now : Int) : Prop := 1 ≤ now ∧ now ≤ 2147483647
theorem ends_ok {now : Int} (h : sec now) : endsE now = 0 := if_pos h
theorem ends_nought {now : Int} (h : sec now) : endsV now 0 = 0 := by
  unfold endsV
  rw [if_neg (fun hn => hn h)]
  rfl
theorem get_same (E : Tab) {key : ByteArray} (hk : Good key) (x : Ent) (now : Int) : get (putT E (nm key) (some x)) key now = if gone x now = false then some x else none := by
  unfold get
  rw [putT_same]
  simp only [hk.back, true_and]
theorem gone_nought (x : Ent) (h : x.exp = 0) (now : Int) : gone x now = false := by
  unfold gone
  rw [h]
  rfl
theorem chk_set {key : ByteArray} (hk : Good key) (flags exp : Int) (value : ByteArray) : chk 5 [key] flags exp value 0 0 false = if 2000 < value.size then 7 else 0 := by
  simp [chk, sameC, keysC, hk.ok]
theorem chk_join {key : ByteArray} (hk : Good key) (kind : Int) (h : kind = 8 ∨ kind = 9) (value : ByteArray) : chk kind [key] 0 0 value 0 0 false = if 2000 < value.size then 7 else 0 := by
  rcases h with rfl | rfl <;> simp [chk, sameC, keysC, hk.ok]
theorem chk_count {key : ByteArray} (hk : Good key) (kind : Int) (h : kind = 12 ∨ kind = 13) (delta : Int) : chk kind [key] 0 0 ⟨#[]⟩ 0 delta false = 0 := by
  rcases h with rfl | rfl <;> simp [chk, sameC, keysC, hk.ok, nil_is, zsize]
theorem chk_touch {key : ByteArray} (hk : Good key) (kind : Int) (h : kind = 14 ∨ kind = 4) (exp : Int) : chk kind [key] 0 exp ⟨#[]⟩ 0 0 false = 0 := by
  rcases h with rfl | rfl <;> simp [chk, sameC, keysC, hk.ok, nil_is, zsize]
theorem chk_get {key : ByteArray} (hk : Good key) : chk 1 [key] 0 0 ⟨#[]⟩ 0 0 false = 0 := by
  simp [chk, sameC, keysC, hk.ok, nil_is, zsize]
theorem do_set {key : ByteArray} (hk : Good key) (flags exp : Int) (value : ByteArray) (now : Int) (hn : sec now) (hv : value.size ≤ 2000) (E : Tab) (laid : Int) :
    doP ⟨5, [key], flags, exp, value, 0, 0, false⟩ now false E laid = ⟨2, [], 0, 0, putT E (nm key) (some ⟨value, flags, endsV now exp, (laid + 1) % 18446744073709551616⟩), (laid + 1) % 18446744073709551616⟩ := by
  have hc : chkC ⟨5, [key], flags, exp, value, 0, 0, false⟩ = 0 := by
    show chk 5 [key] flags exp value 0 0 false = 0
    rw [chk_set hk, if_neg (by omega)]
  unfold doP doR
  rw [hc, ends_ok hn]
  simp [doOne, storeR, mayC, mayT, newEnt, layT, layN, show ¬ 2000 < value.size by omega]
theorem do_count {key : ByteArray} (hk : Good key) (kind : Int) (h : kind = 12 ∨ kind = 13) (delta : Int) (now : Int) (hn : sec now) (E : Tab) (laid : Int) (x : Ent) (hg : get E key now = some x) (m : Int) (hx : digits_Parse.val x.value.data.toList = (m, 0)) :
    doP ⟨kind, [key], 0, 0, ⟨#[]⟩, 0, delta, false⟩ now false E laid = ⟨7, [], countN ⟨kind, [key], 0, 0, ⟨#[]⟩, 0, delta, false⟩ m, 0, putT E (nm key) (some ⟨numText (countN ⟨kind, [key], 0, 0, ⟨#[]⟩, 0, delta, false⟩ m), x.flags, x.exp, (laid + 1) % 18446744073709551616⟩), (laid + 1) % 18446744073709551616⟩ := by
  have hc : chkC ⟨kind, [key], 0, 0, ⟨#[]⟩, 0, delta, false⟩ = 0 := chk_count hk kind h delta
  unfold doP doR
  rw [hc, ends_ok hn]
  rcases h with rfl | rfl <;> simp [doOne, hg, countR, hx, layT, layN]
end Go.Proofs.YtdihoopofhediaaGreatDoor.Mdl
end
section
namespace Go.Proofs.YtdihoopofhediaaGreatDoor.Mdl
open Go.RowKit Go.Proofs.YtdihoopofhediaaGreatDoorW.PrintWords Go.Proofs.YtdihoopofhediaaGreatDoorW.PrintLast Go.Proofs.YtdihoopofhediaaGreatDoorW.PrintMore Go.WideMaps Go.Proofs.YtdihoopofhediaaGreatDoor.XMd
set_option linter.unusedVariables false
set_option linter.unusedSimpArgs false
theorem strip_pad (l : List UInt8) (hl : l.length ≤ 32) (h0 : ∀ c ∈ l, c ≠ 0) : strip ((l ++ List.replicate 32 0).take 32) = l := by
  have e : (l ++ List.replicate 32 0).take 32 = l ++ List.replicate (32 - l.length) 0 := by
    rw [List.take_append, List.take_of_length_le hl, List.take_replicate]
    congr 2
    omega
  rw [e]
  unfold strip Lib.trimRightB
  rw [List.reverse_append, List.reverse_replicate]
  have hz : ∀ n : Nat, (List.replicate n (0 : UInt8) ++ l.reverse).dropWhile (· == 0) = l.reverse.dropWhile (· == 0) := by
    intro n
    induction n with
    | zero => rfl
    | succ n ih => rw [List.replicate_succ, List.cons_append, List.dropWhile_cons_of_pos (by rfl)]; exact ih
  rw [hz]
  cases hr : l.reverse with
  | nil => rw [List.dropWhile_nil, List.reverse_nil]; exact (List.reverse_eq_nil_iff.1 hr).symm
  | cons a r =>
    have ha : a ≠ 0 := h0 a (List.mem_reverse.1 (by rw [hr]; exact List.mem_cons_self))
    rw [List.dropWhile_cons_of_neg (by simpa using ha), ← hr, List.reverse_reverse]
theorem good_of {key : ByteArray} (h : fnv_Key.is key = true) : Good key := by
  refine ⟨h, ?_⟩
  unfold fnv_Key.is at h
  rw [Bool.and_eq_true] at h
  have hs := of_decide_eq_true h.1
  refine strip_pad _ (by rw [Array.length_toList]; exact hs.2) fun c hc hz => ?_
  have := List.all_eq_true.1 h.2 c hc
  have := of_decide_eq_true this
  rw [hz] at this
  exact absurd this.1 (by decide)
theorem nm_inj {a b : ByteArray} (ha : Good a) (hb : Good b) (h : nm a = nm b) : a = b := by
  have e : a.data.toList = b.data.toList := by rw [← ha.back, ← hb.back, h]
  cases a
  cases b
  congr 1
  exact Array.toList_inj.1 e
theorem keys_valid {k : Cmd} (h : chkC k = 0) : ∀ key ∈ k.keys, fnv_Key.is key = true := by
  unfold chkC chk at h
  split at h
  · cases h
  · split at h
    · cases h
    · rename_i h2
      intro key hk
      cases hv : fnv_Key.is key
      · exact absurd (.inr (.inr (List.any_eq_true.2 ⟨key, hk, by rw [hv]; rfl⟩))) h2
      · rfl
theorem reads_keep (k : Cmd) (now ends : Int) (n : List UInt8) : ∀ (l : List ByteArray) (E : Tab), (∀ key ∈ l, n ≠ nm key) → (readsR k now ends l E).2 n = E n
  | [], E, _ => rfl
  | key :: l, E, h => by
    unfold readsR
    rw [reads_keep k now ends n l _ (fun x hx => h x (List.mem_cons_of_mem _ hx))]
    unfold readOne
    cases get E key now with
    | none => rfl
    | some x =>
      simp only
      split
      · exact putT_other _ _ (h key List.mem_cons_self)
      · rfl
theorem drop_keep (E : Tab) (key : ByteArray) (n : List UInt8) (h : n ≠ nm key) : dropT E key n = E n := by
  unfold dropT
  split
  · exact putT_other _ _ h
  · rfl
theorem lay_keep (E : Tab) (laid : Int) (key : ByteArray) (x : Ent) (failed : Bool) (n : List UInt8) (h : n ≠ nm key) : layT E laid key x failed n = E n := by
  unfold layT
  split
  · rfl
  · exact putT_other _ _ h
theorem store_keep (k : Cmd) (is : Bool) (old : Ent) (ends : Int) (failed : Bool) (key : ByteArray) (E : Tab) (laid : Int) (n : List UInt8) (h : n ≠ nm key) : (storeR k is old ends failed key E laid).2.1 n = E n := by
  have hm : mayT E key k failed n = E n := by
    unfold mayT
    split
    · exact drop_keep _ _ _ h
    · rfl
  unfold storeR
  split
  · exact hm
  · split
    · exact hm
    · exact (lay_keep _ _ _ _ _ _ h).trans hm
theorem count_keep (k : Cmd) (old : Ent) (failed : Bool) (key : ByteArray) (E : Tab) (laid : Int) (n : List UInt8) (h : n ≠ nm key) : (countR k old failed key E laid).2.2.1 n = E n := by
  unfold countR
  split
  · rfl
  · exact lay_keep _ _ _ _ _ _ h
theorem one_keep (k : Cmd) (now ends : Int) (failed : Bool) (key : ByteArray) (E : Tab) (laid : Int) (n : List UInt8) (h : n ≠ nm key) : (doOne k now ends failed key E laid).E n = E n := by
  unfold doOne
  simp only
  split
  · exact store_keep _ _ _ _ _ _ _ _ _ h
  · split
    · rfl
    · split
      · exact drop_keep _ _ _ h
      · split
        · exact putT_other _ _ h
        · exact count_keep _ _ _ _ _ _ _ h
theorem do_keep (k : Cmd) (now : Int) (failed : Bool) (E : Tab) (laid : Int) (key : ByteArray) (hk : Good key) (h15 : k.kind ≠ 15) (h : ∀ x ∈ k.keys, x ≠ key) : (doP k now failed E laid).E (nm key) = E (nm key) := by
  unfold doP doR
  by_cases hc : chkC k = 0
  · have hv := keys_valid hc
    have hn : ∀ x ∈ k.keys, nm key ≠ nm x := fun x hx e => h x hx (nm_inj (good_of (hv x hx)) hk e.symm)
    rw [if_neg (fun h => h hc)]
    split
    · rfl
    · first | rw [if_neg h15] | skip
      split
      · exact reads_keep _ _ _ _ _ _ hn
      · cases hks : k.keys with
        | nil => rfl
        | cons a l => exact one_keep _ _ _ _ _ _ _ _ (hn a (by rw [hks]; exact List.mem_cons_self))
  · rw [if_pos hc]
theorem get_keep {E E' : Tab} {key : ByteArray} (h : E' (nm key) = E (nm key)) (now : Int) : get E' key now = get E key now := by
  unfold get
  rw [h]
end Go.Proofs.YtdihoopofhediaaGreatDoor.Mdl
end
section
namespace Go.Proofs.YtdihoopofhediaaGreatDoor.Mdl
open Go.Sort Go.RowKit Go.Proofs.YtdihoopofhediaaGreatDoorW.PrintWords Go.Proofs.YtdihoopofhediaaGreatDoorW.PrintLast Go.Proofs.YtdihoopofhediaaGreatDoorW.PrintMore Go.WideMaps Go.Proofs.YtdihoopofhediaaGreatDoor.XMd
set_option linter.unusedVariables false
set_option linter.unusedSimpArgs false
attribute [local go_sem ↓] Go.wp_at_zero Go.wp_at_succ
def Named (E : Tab) : Prop := ∀ n x, E n = some x → ∃ key, fnv_Key.is key = true ∧ n = nm key
def live (E : Tab) (now : Int) (n : List UInt8) : Bool := match E n with
  | some x => !(gone x now)
  | none => false
theorem live_some {E : Tab} {n : List UInt8} {x : Ent} (h : E n = some x) (now : Int) : live E now n = !(gone x now) := by unfold live; rw [h]
set_option maxRecDepth 100000 in
theorem entry_is {E : Tab} {D : DataW Value} (h2 : ∀ kl, WideAt.IsKeyLit kl → (∀ z, D.atKey kl (.held z) = .held ((litF E kl).getD z)) ∧ Maps.has D kl = (litF E kl).isSome) (hN : Named E)
    {key v : Value} {kl : Lit} {y : DataW Value × List MemPlace} (hkey : keyOf Tryz.prog 83 key = some kl) (hv : tokR v = some y) (hat : ∀ zd, D.atKey kl zd = y.1) :
    ∃ n x, E n = some x ∧ n.length = 32 ∧ kl = .string n ∧ key = nameV n ∧ v = x.v := by
  have hl := law.key hkey
  have hy : y = (.held v, []) := by unfold tokR at hv; injection hv with hv; exact hv.symm
  have e : ∀ z, (litF E kl).getD z = v := fun z => by
    have h := ((h2 kl hl).1 z).symm.trans (hat (.held z))
    rw [hy] at h
    injection h
  cases hk : litF E kl with
  | none =>
    have e1 := e (.bool true)
    have e2 := e (.bool false)
    rw [hk] at e1 e2
    have : Value.bool true = Value.bool false := e1.trans e2.symm
    injection this with this
    cases this
  | some u =>
    have e1 := e (.bool true)
    rw [hk] at e1
    cases kl with
    | string n =>
      have hk2 : (E n).map Ent.v = some u := hk
      cases hx : E n with
      | none => rw [hx] at hk2; cases hk2
      | some x =>
        rw [hx] at hk2
        injection hk2 with hk2
        obtain ⟨q, _, hq⟩ := hN n x hx
        have hn : n.length = 32 := by rw [hq]; exact nm_len q
        exact ⟨n, x, hx, hn, rfl, law.inj hkey (key_name n hn), e1.symm.trans hk2.symm⟩
    | _ => cases hk
def texts (l : List (List UInt8)) : List (List UInt8) := l.map strip
theorem filter_snoc (p : List UInt8 → Bool) (l : List (List UInt8)) (n : List UInt8) : (l ++ [n]).filter p = if p n = true then l.filter p ++ [n] else l.filter p := by
  rw [List.filter_append]
  cases h : p n
  · rw [List.filter_cons_of_neg (by rw [h]; exact Bool.false_ne_true), List.filter_nil, List.append_nil, if_neg Bool.false_ne_true]
  · rw [List.filter_cons_of_pos h, List.filter_nil, if_pos rfl]
theorem wpList_store_row {P : Program} {ops : Array Oper} {rest : List Oper} {op : Oper} {a : Act} {w : World} {Q : Exit → Act → World → Prop} (hgd : op.guard = none) (ty : TypeId) (x y : Operand) (ho : op.op = .store ty x y)
    (g : Nat) (cells : Array Value) (hx : a.eval x = .pointer (some ⟨g, 0, none⟩)) (hy : a.eval y = .agg cells) (t : TypeId) (old : Array Value) (hg : w.heap[g]? = some (.cells old t (0, 0))) (hi : (P.info? ty).map (·.size) = some cells.size)
    (hold : old.size = cells.size) (h1 : cells.all (·.oneCell') = true) (h : wpList P ops Q rest (a.put op.dst undef) (w.setRow g cells)) : wpList P ops Q (op :: rest) a w :=
  wpList_plain hgd fun _ hK => wp_store_row ty x y ho g cells hx hy t old hg hi hold h1 (hK _ _ h)
theorem below_row {B g : Nat} {w0 w : World} (hb : Below B w0 w) (hBg : B ≤ g) (cs : Array Value) : Below B w0 (w.setRow g cs) :=
  ⟨hb.os, hb.tape, hb.output, by rw [size_setRow]; exact hb.size, fun k hk => (setRow_other w g k cs (by omega)).trans (hb.block k hk)⟩
theorem heap_alloc2' (w : World) (o1 o2 : Obj) : ((w.alloc o1).alloc o2).heap[w.heap.size + 1]? = some o2 := by
  have := heap_alloc_new (w.alloc o1) o2
  rwa [size_al] at this
theorem ranges_same {P : Program} {k : TypeId} {R : Value → Option (DataW Value × List MemPlace)} {w w' : World} {b r n : Nat} {D : DataW Value} {left : Lit → Bool} {cnt : Nat} (h : w.ranges P k R b r n D left cnt) (hb : w'.heap[b]? = w.heap[b]?) (hr : w'.heap[r]? = w.heap[r]?) : w'.ranges P k R b r n D left cnt := by
  obtain ⟨es, clock, since, seen, c0, h1, h2, h3, h4, h5, h6⟩ := h
  exact ⟨es, clock, since, seen, c0, hb.trans h1, h2, h3, h4, hr.trans h5, h6⟩
def KeysOut (E : Tab) (now : Int) (ns : List (List UInt8)) : Prop := ns.Nodup ∧ ∀ n, n ∈ ns ↔ live E now n = true
set_option maxHeartbeats 8000000 in
set_option maxRecDepth 100000 in
theorem Keys_calls (w : World) (g b c : Nat) (E : Tab) (laid now : Int) (hA : At w g b c E laid) (hc : c ≤ 100000) (hN : Named E) :
    Calls Tryz.prog 18 #[.pointer (some ⟨g, 0, none⟩), .int .i64 now] w fun e w' => ∃ vs ns, KeysOut E now ns ∧ e = .returned vs ∧
      w'.ownsRow w.heap.size 9 1 vs ns.length (((texts ns).mergeSort (fun x y => decide (x ≤ y))).map encStr) ∧ Below w.heap.size w w' := by
  have hg := hA.lt
  have hgb := hA.ltb
  have hne := hA.ne
  have g0 := hA.gcell
  obtain ⟨D, ho, h1, h2⟩ := hA.map
  have hsz := ho.size_le
  have HO := Aside0.mk ho
  have H2 := Aside0.mk h2
  have HN := Aside0.mk hN
  obtain ⟨i0, hi, hz0, hz1, hz2⟩ : ∃ i : TypeInfo, Tryz.prog.info? 9 = some i ∧ i.zero = some (.string ⟨#[]⟩) ∧ i.size = 1 ∧ i.bytes = 16 := ⟨_, rfl, rfl, rfl, rfl⟩
  have HI := Lib.hid (show _ ∧ _ ∧ _ ∧ _ from ⟨hi, hz0, hz1, hz2⟩)
  clear hA ho h1 h2 hN hi hz0 hz1 hz2
  go_enter Tryz.func18, Tryz.ntmps18
  go_wp2_with (at_range; refine wpList_range_own _ rfl _ 73 rfl 83 51 law Tryz.underlying73 tokR b c D rfl HO.out ?_; intro w0 hrg0 hg0 hs0; (have HRG0 := Aside0.mk hrg0); (have HG0 := Aside0.mk hg0); clear hrg0 hg0 hs0)
  go_frame
  go_loopg [5] (Maps.size D) (fun gg v5 wr => ∃ (left : Lit → Bool) (cnt : Nat) (ss : List (List UInt8)), wr.ranges Tryz.prog 83 tokR b w.heap.size c D left cnt ∧ cnt ≤ gg ∧ ss.length + cnt ≤ Maps.size D ∧
      Aside0 (wr.ownsRow (w.heap.size + 1) 9 1 v5 (ss.filter (live E now)).length ((texts (ss.filter (live E now))).map encStr)) ∧ Aside0 (Collected D left ss) ∧ Aside0 (Below w.heap.size w wr))
  case atStart =>
    exact ⟨_, _, [], HRG0.out, Nat.le_refl _, by simp, ⟨World.ownsRow_nil _ _ _ _⟩, ⟨Collected.start D⟩, ⟨(Below.refl _ _).grown HG0.out (Nat.le_refl _) (fun j hj => by cases hj)⟩⟩
  case round =>
    obtain ⟨left, cnt, ss, hrg, hcg, hcs, HROW, HC, HB⟩ := hrel
    have hb0 := hrg.owns
    have hrow2 := fun {w2 : World} (hg2 : wr.grownBy w2 (some w.heap.size)) => HROW.out.kept hg2 (.inr (row_ne_iter HROW.out hrg).symm)
    have HROW2 := Aside0.mk @hrow2
    have HRG := Aside0.mk hrg
    clear hrow2 hb0 hrg
    go_wp2_with (at_next; refine wpList_next_ranges _ rfl _ rfl 83 law tokR (fun v : Value => v) (fun v : Value => v) (fun key kl hk => ⟨key, rfl⟩) (fun v y hv => ⟨v, rfl⟩) b w.heap.size c _ _ _ rfl HRG.out ?_ ?_)
    · intro hc0 hl0
      have hout : KeysOut E now (ss.filter (live E now)) := by
        refine ⟨HC.out.1.filter _, fun n => ?_⟩
        rw [List.mem_filter, HC.out.2 n, hl0]
        refine ⟨fun h => h.2, fun h => ⟨⟨?_, rfl⟩, h⟩⟩
        rw [(H2.out (.string n) trivial).2]
        unfold live at h
        show ((E n).map Ent.v).isSome = true
        cases he : E n with
        | none => rw [he] at h; cases h
        | some x => rfl
      have HOUT := Aside0.mk hout
      have hlen : (ss.filter (live E now)).length ≤ ss.length := List.length_filter_le _ _
      have hcs' : ss.length ≤ 100000 := by omega
      clear hout hc0 hl0 hcs hcg HC HRG HROW2
      generalize ss.filter (live E now) = ns at HROW HOUT hlen
      have htl : (texts ns).length = ns.length := List.length_map _
      have HTL := Lib.hid htl
      clear htl
      have hrow := HROW.out
      rcases hrow.2 with ⟨rfl, hn0⟩ | ⟨r, cap, cur, rfl, hbase, hb, q1, q2, q3, q4⟩
      · have hns : ns = [] := List.eq_nil_of_length_eq_zero hn0
        subst hns
        clear hrow hn0 HROW
        go_wp2_with (go_at_call 26; refine (Tryz.slices_Sort_string_none none 0 wr).mono ?_; rintro e w' ⟨rfl, rfl⟩)
        go_ret
        refine ⟨_, [], HOUT.out, rfl, ?_, HB.out⟩
        have e0 : ((texts []).mergeSort fun x y => decide (x ≤ y)).map encStr = [] := by simp [texts]
        rw [e0]
        exact World.ownsRow_nil _ _ _ _
      · have hH : Holds encStr wr r 0 (texts ns).toArray := holds_of_block hb (by rw [HTL.out]; simpa using q4)
        have hrl : r < wr.heap.size := blk_lt hb
        have hcs := Tryz.slices_Sort_string r 0 cap (texts ns) wr hH hrl (by rw [HTL.out]; omega)
        rw [HTL.out] at hcs
        have HCS := Aside0.mk hcs
        have hfin : ∀ nn os, (grow (putRow encStr (Sort.ahead wr nn) r 0 ((texts ns).mergeSort fun x y => decide (x ≤ y)).toArray) os).ownsRow w.heap.size 9 1 (.slice (some ⟨r, 0, none⟩) ns.length cap) ns.length (((texts ns).mergeSort fun x y => decide (x ≤ y)).map encStr) := fun nn os => by
          have := ownsRow_sorted (w := wr) (base := w.heap.size) (g := r) (cap := cap) (n := nn) (os := os) (ss := texts ns) (ts := (texts ns).mergeSort fun x y => decide (x ≤ y)) (by simp) (by omega) hb (by rw [HTL.out]; exact q1) q2 q3
          rw [HTL.out] at this
          exact this
        have HFIN := Aside0.mk hfin
        have hB9 : ∀ nn os, Below w.heap.size w (grow (putRow encStr (Sort.ahead wr nn) r 0 ((texts ns).mergeSort fun x y => decide (x ≤ y)).toArray) os) := fun nn os => HB.out.grown (grownBy_sorted _) HB.out.size (fun j hj => by cases hj; omega)
        have HB9 := Aside0.mk hB9
        clear hrow hH hcs hfin hB9 hb q1 q2 q3 q4 HROW
        go_wp2_with (go_at_call 26; refine HCS.out.mono ?_; rintro e w' ⟨rfl, nn, os, rfl⟩)
        go_ret
        exact ⟨_, ns, HOUT.out, rfl, HFIN.out nn os, HB9.out nn os⟩
    · intro key v kl yd yp w2 cnt2 hkey hlk hv hat hrg2 hlt hg2 hs2 hen
      obtain ⟨n, x, hx, hn, rfl, rfl, rfl⟩ := entry_is H2.out HN.out hkey hv hat
      have hC2 := HC.out.step hlk hat
      obtain ⟨C, hCe⟩ : ∃ C, C = (n.map fun b => Value.int .u8 (b.toNat : Int)).toArray := ⟨_, rfl⟩
      have hCn : nameV n = .agg C := by rw [hCe]; rfl
      have hCs : C.size = 32 := by rw [hCe]; simp [hn]
      have hC1 : C.all (·.oneCell') = true := by rw [hCe]; exact all_oneCell_toArray (fun v hv => by obtain ⟨b, _, rfl⟩ := List.mem_map.1 hv; rfl)
      have hxv : x.v = .agg #[.string x.value, .int .u32 x.flags, .int .i64 x.exp, .int .u64 x.cas] := rfl
      have hkc := key_calls n hn
      rw [hCn, hxv] at hen
      rw [hCn] at hkc
      rw [hCn, hxv]
      have HKC := Aside0.mk hkc
      have HX := Lib.hid hx
      have HRG2 := Aside0.mk hrg2
      have HCC := Aside0.mk hC2
      have HROW3 := Aside0.mk (HROW2.out hg2)
      have hws : w.heap.size < w2.heap.size := by rw [hs2]; exact HRG.out.lt
      have HB2 := Aside0.mk (HB.out.grown hg2 HB.out.size (fun j hj => by cases hj; exact Nat.le_refl _))
      have hinfo : (Tryz.prog.info? 83).map (·.size) = some C.size := by rw [hCs]; kernel_rfl
      have hcnt : ss.length + 1 + cnt2 ≤ Maps.size D := by omega
      have hlen : (ss.filter (live E now)).length ≤ ss.length := List.length_filter_le _ _
      clear hkc hx hrg2 hC2 hg2 hs2 hkey hlk hv hat hCn hxv hCe HRG HROW HROW2 HC HB
      have hst := heap_alloc_new w2 (.cells zero32 83)
      have hst2 := (Below.heap_alloc (w2.alloc (.cells zero32 83)) (.cells #[.string ⟨#[]⟩, .int .u32 0, .int .i64 0, .int .u64 0] 51) w2.heap.size (by simp)).trans hst
      have hzz := (setRow_other ((w2.alloc (.cells zero32 83)).alloc (.cells #[.string ⟨#[]⟩, .int .u32 0, .int .i64 0, .int .u64 0] 51)) w2.heap.size (w2.heap.size + 1) C (by omega)).trans (heap_alloc2' w2 (.cells zero32 83) (.cells #[.string ⟨#[]⟩, .int .u32 0, .int .i64 0, .int .u64 0] 51))
      have hcc := setRow_heap ((w2.alloc (.cells zero32 83)).alloc (.cells #[.string ⟨#[]⟩, .int .u32 0, .int .i64 0, .int .u64 0] 51)) w2.heap.size zero32 C 83 (0, 0) hst2
      have hbb := below_row (((Below.refl _ w2).alloc (Nat.le_refl _) (.cells zero32 83)).alloc (by simp) (.cells #[.string ⟨#[]⟩, .int .u32 0, .int .i64 0, .int .u64 0] 51)) (Nat.le_refl w2.heap.size) C
      have HST2 := Lib.hid hst2
      have HFACT := Lib.hid (show _ ∧ _ ∧ _ from ⟨hzz, hcc, hbb⟩)
      unfold zero32 at HST2 HFACT
      clear hst hst2 hzz hcc hbb
      go_wp2_with (refine wpList_store_row rfl 83 _ _ rfl w2.heap.size C rfl rfl 83 _ HST2.out hinfo (by rw [hCs]; rfl) hC1 ?_; (generalize World.setRow _ w2.heap.size C = V at HFACT ⊢); obtain ⟨hzz, hcc, hbb⟩ := HFACT.out; have z0 := fresh_cell hzz 0; have z1 := fresh_cell hzz 1; have z2 := fresh_cell hzz 2; have z3 := fresh_cell hzz 3; have f0 := fresh_frozen hzz 0; have f1 := fresh_frozen hzz 1; have f2 := fresh_frozen hzz 2; have f3 := fresh_frozen hzz 3; simp only [List.getElem?_toArray, List.getElem?_cons_zero, List.getElem?_cons_succ] at z0 z1 z2 z3; (have HZZ := Lib.hid hzz); (have HCC2 := Lib.hid hcc); (have HBB := Aside0.mk hbb); clear hzz hcc hbb)
      have hcc5 := (Only.refl (w2.heap.size + 1) V).setCell 0 (.string x.value) |>.setCell 1 (.int .u32 x.flags) |>.setCell 2 (.int .i64 x.exp) |>.setCell 3 (.int .u64 x.cas)
      have hC5 := hcc5.heap HCC2.out (show w2.heap.size ≠ w2.heap.size + 1 by omega)
      have hB5 := (((HBB.out.setCell (p := ⟨w2.heap.size + 1, 0, none⟩) (by simp) (.string x.value)).setCell (p := ⟨w2.heap.size + 1, 1, none⟩) (by simp) (.int .u32 x.flags)).setCell (p := ⟨w2.heap.size + 1, 2, none⟩) (by simp) (.int .i64 x.exp)).setCell (p := ⟨w2.heap.size + 1, 3, none⟩) (by simp) (.int .u64 x.cas)
      generalize (((V.setCell ⟨w2.heap.size + 1, 0, none⟩ (.string x.value)).setCell ⟨w2.heap.size + 1, 1, none⟩ (.int .u32 x.flags)).setCell ⟨w2.heap.size + 1, 2, none⟩ (.int .i64 x.exp)).setCell ⟨w2.heap.size + 1, 3, none⟩ (.int .u64 x.cas) = V4 at hC5 hB5 ⊢
      have HC5 := Lib.hid hC5
      have HB5 := Aside0.mk hB5
      clear hcc5 hC5 hB5 z0 z1 z2 z3 f0 f1 f2 f3 HZZ HCC2 HBB HST2 HFACT
      obtain ⟨gn, hgn⟩ : ∃ gn, gone x now = gn := ⟨_, rfl⟩
      have hgi := gone_is x now
      rw [hgn] at hgi
      have HGI := Lib.hid hgi
      have hlv := live_some HX.out now
      rw [hgn] at hlv
      have HLV := Lib.hid hlv
      clear hgi hgn hlv
      refine (clock_Gone.calls (x.exp % 4294967296) now gn _ HGI.out).mono ?_
      rintro e w5 ⟨rfl, hw5⟩
      have hbw := HB5.out.trans (hw5.below.mono HB5.out.size)
      have hC6 := (hw5.below.block w2.heap.size (blk_lt HC5.out)).trans HC5.out
      have hrg5 := ranges_same HRG2.out (hbw.block b (by omega)) (hbw.block w.heap.size hws)
      have hrow5 := ownsRow_below HROW3.out hbw
      have hB6 := HB2.out.trans (hbw.mono HB2.out.size)
      have HRG5 := Aside0.mk hrg5
      have HROW5 := Aside0.mk hrow5
      have HB6 := Aside0.mk hB6
      have HC6 := Lib.hid hC6
      clear hw5 hbw hC6 hrg5 hrow5 hB6 HRG2 HROW3 HB2 HB5 HC5
      cases gn with
      | true =>
        go_wp2
        go_roundg cnt2
        case measure => omega
        case rel =>
          refine ⟨_, cnt2, ss ++ [n], HRG5.out, Nat.le_refl _, by rw [List.length_append, List.length_singleton]; exact hcnt, ⟨?_⟩, ⟨HCC.out⟩, ⟨HB6.out⟩⟩
          rw [filter_snoc, HLV.out]
          exact HROW5.out
      | false =>
        go_wp2_with (first | (refine wpList_load_row rfl 83 _ rfl w2.heap.size rfl 83 C (0, 0) _ HC6.out Tryz.underlying83 rfl hinfo ?_) | (go_at_call 25; refine (HKC.out _).mono ?_; rintro e w6 ⟨rfl, hb6⟩; have hrow6 := ownsRow_below HROW5.out hb6; have hrg6 := ranges_same HRG5.out (hb6.block b HRG5.out.owns.lt) (hb6.block w.heap.size HRG5.out.lt); have hB7 := HB6.out.trans (hb6.mono HB6.out.size); (have HROW6 := Aside0.mk hrow6); (have HRG6 := Aside0.mk hrg6); (have HB7 := Aside0.mk hB7); clear hb6 hrow6 hrg6 hB7 HROW5 HRG5 HB6) | (at_builtin; refine wpList_append_own _ rfl _ _ 32 rfl (w.heap.size + 1) 9 i0 (.string ⟨#[]⟩) 1 16 Tryz.underlying32 HI.out.1 HI.out.2.1 HI.out.2.2.1 HI.out.2.2.2 rfl (by decide) u5 (ss.filter (live E now)).length ((texts (ss.filter (live E now))).map encStr) rfl (HROW6.out.alloc _) ⟨w6.heap.size, 0, none⟩ 1 1 [encStr (strip n)] rfl rfl (cell_one_new _ _ _) (by simp [Value.oneCell', encStr]) ?qc3 ?qc4 ?qc5 ?_))
        case qc3 => unfold maxLen; omega
        case qc4 => omega
        case qc5 => have := HB7.out.size; have := HRG6.out.lt; simp; omega
        intro v' w7 hown7 hgrow7 hnil7
        have hrow6 := HROW6.out.alloc (.cells #[.string ⟨(strip n).toArray⟩] 9)
        have hrg7 := (HRG6.out.alloc (.cells #[.string ⟨(strip n).toArray⟩] 9)).kept hgrow7 (row_ne_low hrow6 (by omega)) (row_ne_low hrow6 (by omega))
        have hB8 := (HB7.out.alloc HB7.out.size (.cells #[.string ⟨(strip n).toArray⟩] 9)).grown hgrow7 (by have := HB7.out.size; simp; omega) (fun j hj => by have := (hrow6.lt j hj).1; omega)
        have HRG7 := Aside0.mk hrg7
        have HB8 := Aside0.mk hB8
        have HOWN7 := Aside0.mk hown7
        clear hrow6 hrg7 hB8 hown7 hgrow7 hnil7 HROW6 HRG6 HB7
        go_wp2
        go_roundg cnt2
        case measure => omega
        case rel =>
          refine ⟨_, cnt2, ss ++ [n], HRG7.out, Nat.le_refl _, by rw [List.length_append, List.length_singleton]; exact hcnt, ⟨?_⟩, ⟨HCC.out⟩, ⟨HB8.out⟩⟩
          rw [filter_snoc, HLV.out, if_pos (show (!false) = true from rfl)]
          unfold texts
          rw [List.length_append, List.map_append, List.map_append]
          exact HOWN7.out
end Go.Proofs.YtdihoopofhediaaGreatDoor.Mdl
end
section
namespace Go.Proofs.YtdihoopofhediaaGreatDoor.Wp
open Go.RowKit Go.Proofs.YtdihoopofhediaaGreatDoorW.PrintWords Go.Proofs.YtdihoopofhediaaGreatDoorW.PrintLast Go.Proofs.YtdihoopofhediaaGreatDoorW.PrintMore Go.WideMaps Go.Proofs.YtdihoopofhediaaGreatDoor.XMd Go.Proofs.YtdihoopofhediaaGreatDoor.Mdl
set_option linter.unusedVariables false
set_option linter.unusedSimpArgs false
attribute [local go_sem ↓] Go.wp_at_zero Go.wp_at_succ
def E1 : Tab := putT (fun _ => none) (nm Tr.K) (some Tr.ent)
theorem E1_named : Named E1 := fun n x h => by
  unfold E1 putT at h
  by_cases e : n = nm Tr.K
  · exact ⟨Tr.K, Tr.key_ok, e⟩
  · rw [if_neg e] at h
    cases h
theorem E1_live (n : List UInt8) : live E1 9 n = true ↔ n = nm Tr.K := by
  unfold live E1 putT
  by_cases e : n = nm Tr.K
  · rw [if_pos e]
    simp [e, gone_nought Tr.ent rfl]
  · rw [if_neg e]
    simp [e]
theorem E1_keys {ns : List (List UInt8)} (h : KeysOut E1 9 ns) : ns = [nm Tr.K] := by
  obtain ⟨hn, hm⟩ := h
  match ns, hn, hm with
  | [], _, hm => exact absurd ((hm (nm Tr.K)).2 ((E1_live _).2 rfl)) List.not_mem_nil
  | [a], _, hm => rw [(E1_live a).1 ((hm a).1 List.mem_cons_self)]
  | a :: b :: l, hn, hm =>
    have ha := (E1_live a).1 ((hm a).1 List.mem_cons_self)
    have hb := (E1_live b).1 ((hm b).1 (List.mem_cons_of_mem _ List.mem_cons_self))
    rw [ha, hb] at hn
    exact absurd List.mem_cons_self (List.nodup_cons.1 hn).1
theorem E1_row : (((texts [nm Tr.K]).mergeSort (fun x y => decide (x ≤ y))).map encStr) = [.string Tr.K] := by
  have e : texts [nm Tr.K] = [Tr.K.data.toList] := by
    unfold texts
    rw [List.map_cons, Tr.key_back]
    rfl
  rw [e, List.mergeSort_singleton]
  rfl
theorem E1_get : get E1 Tr.K 9 = some Tr.ent := by kernel_rfl
theorem own0 (w : World) (base : Nat) (e : TypeId) (size : Nat) : w.ownsRow base e size (.slice none 0 0) 0 [] := ⟨by rw [Nat.zero_mul]; rfl, .inl ⟨rfl, rfl⟩⟩
set_option maxHeartbeats 16000000 in
set_option maxRecDepth 100000 in
theorem Last_one (w : World) (hv : Vars w) (A0 : Option Addr) (c0 : Nat) (hC : Kd.C k41 w A0 1 [Tr.set]) :
    Calls Tryz.prog 9 #[.slice A0 1 c0, .int .i64 9] w fun e w' => ∃ a b ca cb, e = .returned (.tuple #[.slice (some a) 1 ca, .slice (some b) 1 cb]) ∧ w'.cell? a = some (.string Tr.K) ∧ w'.cell? b = some (.string Tr.V) ∧ Below w.heap.size w w' := by
  have HV := Aside0.mk hv
  obtain ⟨ad, A2, c2, A11, c11, A13, c13, rfl, hR, hcell⟩ := ev_row (l := [Tr.set]) hC 0 Tr.set rfl
  have HR := Aside0.mk hR
  have HCELL := Aside0.mk hcell
  obtain ⟨i0, hi, hz0, hz1, hz2⟩ : ∃ i : TypeInfo, Tryz.prog.info? 51 = some i ∧ i.zero = some (.agg #[.string ⟨#[]⟩, .int .u32 0, .int .i64 0, .int .u64 0]) ∧ i.size = 4 ∧ i.bytes = 40 := ⟨_, rfl, rfl, rfl, rfl⟩
  have HI := Lib.hid (show _ ∧ _ ∧ _ ∧ _ from ⟨hi, hz0, hz1, hz2⟩)
  clear hv hR hcell hC hi hz0 hz1 hz2
  go_enter Tryz.func9, Tryz.ntmps9
  go_wp2_with fail
  refine (New_calls w).mono ?_
  rintro e w1 ⟨g, b, rfl, hA, hg, hb, hb1⟩
  have L0 : Aside0 (Lw w w1 g b (100 * 0) (if (0 : Nat) = 0 then (fun _ => none) else E1) (if (0 : Nat) = 0 then 0 else (folP Tr.set (fun _ => none) 0).laid)) := ⟨Lw.mk hA hb1 hg hb⟩
  clear hA hb1 hg hb
  go_wp2_with fail
  go_loopg [8, 18] 1 (fun gg v8 v18 wr => ∃ (j : Nat), v18 = .int .i64 j ∧ j ≤ 1 ∧ 1 - j ≤ gg ∧ Aside0 (Lw w wr g b (100 * j) (if j = 0 then (fun _ => none) else E1) (if j = 0 then 0 else (folP Tr.set (fun _ => none) 0).laid)))
  case atStart => exact ⟨0, rfl, by omega, by omega, L0⟩
  case round =>
    clear L0
    obtain ⟨j, rfl, hj, hgj, LR⟩ := hrel
    by_cases hlt : j < 1
    · have hji : (j : Int) < 1 := by omega
      have hk : ∀ i u, (evv Tr.set A2 c2 A11 c11 A13 c13)[i]? = some u → wr.cell? (ad.add (j * 14 + i)) = some u := fun i u h => keepC LR.out.bel (by rw [show j = 0 by omega]; exact HCELL.out i u h)
      have t0 : wr.cell? (ad.add (j * 14)) = some (.int .i64 Tr.set.f0) := hk 0 _ rfl
      have t1 := field_cell (j := j) (i := 1) (by omega) (hk 1 (.int .i64 Tr.set.f1.f0) rfl)
      have t2 := field_cell (j := j) (i := 2) (by omega) (hk 2 (.slice A2 Tr.set.f1.f1.length c2) rfl)
      have t3 := field_cell (j := j) (i := 3) (by omega) (hk 3 (.int .u32 Tr.set.f1.f2) rfl)
      have t4 := field_cell (j := j) (i := 4) (by omega) (hk 4 (.int .i64 Tr.set.f1.f3) rfl)
      have t5 := field_cell (j := j) (i := 5) (by omega) (hk 5 (.string Tr.set.f1.f4) rfl)
      have t6 := field_cell (j := j) (i := 6) (by omega) (hk 6 (.int .u64 Tr.set.f1.f5) rfl)
      have t7 := field_cell (j := j) (i := 7) (by omega) (hk 7 (.int .u64 Tr.set.f1.f6) rfl)
      have t8 := field_cell (j := j) (i := 8) (by omega) (hk 8 (.bool Tr.set.f1.f7) rfl)
      have t9 := field_cell (j := j) (i := 9) (by omega) (hk 9 (.int .i64 Tr.set.f2) rfl)
      have t10 := field_cell (j := j) (i := 10) (by omega) (hk 10 (.int .i64 Tr.set.f3.f0) rfl)
      have t11 := field_cell (j := j) (i := 11) (by omega) (hk 11 (.slice A11 Tr.set.f3.f1.length c11) rfl)
      have t12 := field_cell (j := j) (i := 12) (by omega) (hk 12 (.int .u64 Tr.set.f3.f2) rfl)
      have t13 := field_cell (j := j) (i := 13) (by omega) (hk 13 (.slice A13 Tr.set.f4.length c13) rfl)
      have LA : Aside0 (Lw w (wr.alloc (.cells (evv Tr.set A2 c2 A11 c11 A13 c13) 41)) g b 0 (fun _ => none) 0) := ⟨by
        have h := LR.out.below ((Below.refl _ wr).alloc (Nat.le_refl _) (.cells (evv Tr.set A2 c2 A11 c11 A13 c13) 41))
        rw [show j = 0 by omega] at h
        exact h⟩
      have HJ := Lib.hid (show j = 0 by omega)
      clear hk LR
      go_wp2_with fail
      have hX := follow_calls w _ HV.out g b 0 (fun _ => none) 0 Tr.set A2 c2 A11 c11 A13 c13 LA.out HR.out (by decide) (by decide) (by decide)
      refine hX.mono ?_
      clear hX
      rintro x w3 ⟨rfl, hL, -⟩
      have LN : Aside0 (Lw w w3 g b (100 * (j + 1)) (if j + 1 = 0 then (fun _ => none) else E1) (if j + 1 = 0 then 0 else (folP Tr.set (fun _ => none) 0).laid)) := ⟨by
        rw [if_neg (by omega), if_neg (by omega), HJ.out]
        have e : (folP Tr.set (fun _ => none) 0).E = E1 := Tr.set_E
        rw [e] at hL
        exact hL⟩
      clear hL LA t0 t1 t2 t3 t4 t5 t6 t7 t8 t9 t10 t11 t12 t13
      go_wp2
      go_roundg 0
      case measure => omega
      case rel => exact ⟨j + 1, by go_num, by omega, by omega, LN⟩
    · have hji : ¬ (j : Int) < 1 := by omega
      have L1 : Aside0 (Lw w wr g b 100 E1 (folP Tr.set (fun _ => none) 0).laid) := ⟨by
        have h := LR.out
        rw [if_neg (by omega), if_neg (by omega), show j = 1 by omega] at h
        exact h⟩
      clear LR
      go_wp2_with fail
      have hX := Keys_calls wr g b 100 E1 (folP Tr.set (fun _ => none) 0).laid 9 L1.out.at_ (by decide) E1_named
      refine hX.mono ?_
      clear hX
      rintro x w4 ⟨vs, ns, hks, rfl, hown, hb⟩
      obtain rfl := E1_keys hks
      rw [E1_row] at hown
      obtain ⟨kb, cap, cur, rfl, hgk, hcur, hcap, hk0⟩ : ∃ kb cap cur, vs = .slice (some ⟨kb, 0, none⟩) 1 cap ∧ wr.heap.size ≤ kb ∧ w4.heap[kb]? = some (.cells cur 9 (0, 0)) ∧ 1 ≤ cap ∧ cur.toList.take 1 = [.string Tr.K] := by
        rcases hown.2 with ⟨_, h⟩ | ⟨kb, cap, cur, h1, h2, h3, h4, _, _, h7⟩
        · exact absurd h (by decide)
        · exact ⟨kb, cap, cur, h1, h2, h3, h4, by simpa using h7⟩
      have hkc : w4.cell? ⟨kb, 0, none⟩ = some (.string Tr.K) := by
        rw [fresh_cell hcur, ← Array.getElem?_toList]
        have h : (cur.toList.take 1)[0]? = some (.string Tr.K) := by rw [hk0]; rfl
        rw [List.getElem?_take] at h
        simpa using h
      have KC := Aside0.mk hkc
      have L4 := Aside0.mk (L1.out.below hb)
      clear hown hb hks hcur hk0 hkc L1 hgk
      go_wp2_with fail
      go_loopg [10, 12, 13, 14, 31] 1 (fun gg v10 v12 v13 v14 v31 wr => ∃ (j : Nat), v31 = .int .i64 j ∧ j ≤ 1 ∧ 1 - j ≤ gg ∧ Aside0 (Below w4.heap.size w4 wr) ∧ (j = 0 → v10 = .slice none 0 0) ∧ (j = 1 → ∃ bk cb, v10 = .slice (some bk) 1 cb ∧ wr.cell? bk = some (.string Tr.V)))
      case atStart => exact ⟨0, rfl, by omega, by omega, ⟨Below.refl _ _⟩, fun _ => rfl, fun h => absurd h (by decide)⟩
      case round =>
        obtain ⟨j, rfl, hj, hgj, BR, h0, h1⟩ := hrel
        by_cases hlt : j < 1
        · have hji : (j : Int) < 1 := by omega
          obtain rfl := h0 (by omega)
          have hkey : wr.cell? ((⟨kb, 0, none⟩ : Addr).add j) = some (.string Tr.K) := by
            rw [show j = 0 by omega]
            exact keepC BR.out KC.out
          have hkey2 : wr.cell? ⟨kb, j, none⟩ = some (.string Tr.K) := by
            rw [show j = 0 by omega]
            exact keepC BR.out KC.out
          have HJ := Lib.hid (show j = 0 by omega)
          clear h1 h0
          go_wp2_with fail
          have hX := Get_calls wr g b 100 E1 (folP Tr.set (fun _ => none) 0).laid Tr.K 9 (L4.out.at_.below BR.out)
          rw [E1_get] at hX
          refine hX.mono ?_
          clear hX
          rintro x w5 ⟨rfl, hb⟩
          have B5 := Aside0.mk (BR.out.trans (hb.mono BR.out.size))
          clear hb BR hkey hkey2
          rw [show ((some Tr.ent).getD Ent.z).v = .agg #[.string Tr.V, .int .u32 0, .int .i64 0, .int .u64 1] from rfl, show (some Tr.ent).isSome = true from rfl]
          go_upto_region 13 with fail
          change Code.wp _ _ _ _ (w5.alloc (.cells #[.string Tr.V, .int .u32 0, .int .i64 0, .int .u64 1] 51))
          have B6 := Aside0.mk (B5.out.alloc B5.out.size (.cells #[.string Tr.V, .int .u32 0, .int .i64 0, .int .u64 1] 51))
          have X6 := Aside0.mk (heap_alloc_new w5 (.cells #[.string Tr.V, .int .u32 0, .int .i64 0, .int .u64 1] 51))
          obtain ⟨T, hT⟩ : ∃ T, T = w5.heap.size := ⟨_, rfl⟩
          rw [← hT] at X6 ⊢
          generalize w5.alloc (.cells #[.string Tr.V, .int .u32 0, .int .i64 0, .int .u64 1] 51) = w6 at B6 X6 ⊢
          clear hT B5
          have x0 := fresh_cell X6.out 0
          have x1 := fresh_cell X6.out 1
          have x2 := fresh_cell X6.out 2
          have x3 := fresh_cell X6.out 3
          simp only [List.getElem?_toArray, List.getElem?_cons_zero, List.getElem?_cons_succ] at x0 x1 x2 x3
          go_wp2_with (at_builtin; refine wpList_append_own _ rfl _ _ 47 rfl w4.heap.size 51 i0 (.agg #[.string ⟨#[]⟩, .int .u32 0, .int .i64 0, .int .u64 0]) 4 40 Tryz.underlying47 HI.out.1 HI.out.2.1 HI.out.2.2.1 HI.out.2.2.2 rfl (by decide) (.slice none 0 0) 0 [] rfl (own0 _ _ _ _) ⟨w6.heap.size, 0, none⟩ 1 1 [.string Tr.V, .int .u32 0, .int .i64 0, .int .u64 1] rfl rfl ?qc1 ?qc2 ?qc3 ?qc4 ?qc5 ?_)
          case qc1 => exact World.news_of_block (heap_alloc_new w6 _)
          case qc2 => intro u hu; simp only [List.mem_cons, List.not_mem_nil, or_false] at hu; rcases hu with rfl | rfl | rfl | rfl <;> rfl
          case qc3 => unfold maxLen; omega
          case qc4 => omega
          case qc5 => have := B6.out.size; simp; omega
          intro v' w7 hown3 hgrow hnil
          obtain ⟨r, cap', rfl, hrv⟩ : ∃ r cap', v' = .slice (some ⟨r, 0, none⟩) 1 cap' ∧ w7.cell? ⟨r, 0, none⟩ = some (.string Tr.V) := by
            rcases hown3.2 with ⟨_, h⟩ | ⟨r, cap', cur, h, _, h3, _, _, _, h7⟩
            · exact absurd h (by omega)
            · refine ⟨r, cap', h, ?_⟩
              rw [fresh_cell h3, ← Array.getElem?_toList]
              have h8 : (cur.toList.take ((0 + 1) * 4))[0]? = some (.string Tr.V) := by rw [h7]; rfl
              rw [List.getElem?_take] at h8
              simpa using h8
          have B7 := Aside0.mk ((B6.out.alloc B6.out.size (.cells [.string Tr.V, .int .u32 0, .int .i64 0, .int .u64 1].toArray 51)).grown hgrow (by have := B6.out.size; simp; omega) (fun j hj => by cases hj))
          have RV := Aside0.mk hrv
          clear hown3 hgrow hnil hrv B6 X6 x0 x1 x2 x3
          go_wp2
          go_roundg 0
          case measure => omega
          case rel => exact ⟨j + 1, by go_num, by omega, by omega, B7, fun h => absurd h (by omega), fun _ => ⟨⟨r, 0, none⟩, cap', rfl, RV.out⟩⟩
        · have hji : ¬ (j : Int) < 1 := by omega
          obtain ⟨bk, cb, rfl, hV⟩ := h1 (by omega)
          have BF := Aside0.mk (L4.out.bel.trans (BR.out.mono L4.out.bel.size))
          have KF := Aside0.mk (keepC BR.out KC.out)
          have VF := Aside0.mk hV
          clear h0 h1 hV BR
          go_wp2
          go_ret2
          first
            | exact ⟨⟨kb, 0, none⟩, bk, ⟨cap, cb, rfl⟩, KF.out, VF.out, BF.out⟩
            | exact ⟨⟨kb, 0, none⟩, bk, cap, cb, rfl, KF.out, VF.out, BF.out⟩
end Go.Proofs.YtdihoopofhediaaGreatDoor.Wp
end
section
namespace Go.Proofs.YtdihoopofhediaaGreatDoor.Wp
open Go.RowKit Go.Proofs.YtdihoopofhediaaGreatDoorW.PrintWords Go.Proofs.YtdihoopofhediaaGreatDoorW.PrintLast Go.Proofs.YtdihoopofhediaaGreatDoorW.PrintMore Go.WideMaps Go.Proofs.YtdihoopofhediaaGreatDoor.XMd Go.Proofs.YtdihoopofhediaaGreatDoor.Mdl
set_option linter.unusedVariables false
set_option linter.unusedSimpArgs false
attribute [local go_sem ↓] Go.wp_at_zero Go.wp_at_succ
theorem set_at2 {w : World} {B : Nat} {t : TypeId} {v0 v1 v2 v3 : Value} (h : w.heap[B]? = some (.cells #[v0, v1, v2, v3] t)) (a : Value) : (w.setCell ⟨B, 2, none⟩ a).heap[B]? = some (.cells #[v0, v1, a, v3] t) := by
  simp only [World.setCell]
  rw [Array.getElem?_modify, if_pos rfl, h]
  rfl
theorem set4 {w : World} {B : Nat} {t : TypeId} {v0 v1 v2 v3 : Value} (h : w.heap[B]? = some (.cells #[v0, v1, v2, v3] t)) (a b c d : Value) : ((((w.setCell ⟨B, 0, none⟩ a).setCell ⟨B, 1, none⟩ b).setCell ⟨B, 2, none⟩ c).setCell ⟨B, 3, none⟩ d).heap[B]? = some (.cells #[a, b, c, d] t) := by
  simp only [World.setCell]
  rw [Array.getElem?_modify, if_pos rfl, Array.getElem?_modify, if_pos rfl, Array.getElem?_modify, if_pos rfl, Array.getElem?_modify, if_pos rfl, h]
  rfl
def tot (k : Nat) : Array Value := #[.int .i64 0, .int .i64 0, .int .i64 (k : Int), .int .i64 0]
structure Tt (w W : World) (B k : Nat) : Prop where
  box : W.heap[B]? = some (.cells (tot k) 52)
  bel : Below w.heap.size w W
  lo : w.heap.size ≤ B
theorem Tt.below {w W W' : World} {B k : Nat} (h : Tt w W B k) (hb : Below W.heap.size W W') : Tt w W' B k := ⟨(hb.block B (blk_lt h.box)).trans h.box, h.bel.trans (hb.mono h.bel.size), h.lo⟩
set_option maxHeartbeats 16000000 in
set_option maxRecDepth 100000 in
theorem Total_one (w : World) (A0 : Option Addr) (c0 : Nat) (hC : Kd.C k41 w A0 1 [Tr.drop]) :
    Calls Tryz.prog 10 #[.slice A0 1 c0] w fun e w' => e = .returned (.agg #[.int .i64 0, .int .i64 0, .int .i64 1, .int .i64 0]) ∧ Below w.heap.size w w' := by
  obtain ⟨ad, A2, c2, A11, c11, A13, c13, rfl, hR, hcell⟩ := ev_row (l := [Tr.drop]) hC 0 Tr.drop rfl
  have HR := Aside0.mk hR
  have HCELL := Aside0.mk hcell
  have T0 : Aside0 (Tt w (w.alloc (.cells (tot 0) 52)) w.heap.size 0) := ⟨⟨heap_alloc_new _ _, (Below.refl _ w).alloc (Nat.le_refl _) _, Nat.le_refl _⟩⟩
  clear hR hcell hC
  go_enter Tryz.func10, Tryz.ntmps10
  go_upto_region 1 with fail
  change Code.wp _ _ _ _ (w.alloc (.cells (tot 0) 52))
  obtain ⟨B, hB⟩ : ∃ B, B = w.heap.size := ⟨_, rfl⟩
  rw [← hB] at T0 ⊢
  generalize w.alloc (.cells (tot 0) 52) = W1 at T0 ⊢
  clear hB
  go_wp2_with fail
  go_loopg [4, 6, 9, 14, 15, 16, 21, 26] 1 (fun gg v4 v6 v9 v14 v15 v16 v21 v26 wr => ∃ (j : Nat), v9 = .int .i64 j ∧ j ≤ 1 ∧ 1 - j ≤ gg ∧ Aside0 (Tt w wr B j))
  case atStart => exact ⟨0, rfl, by omega, by omega, T0⟩
  case round =>
    clear T0
    obtain ⟨j, rfl, hj, hgj, TR⟩ := hrel
    by_cases hlt : j < 1
    · have hji : (j : Int) < 1 := by omega
      have hk : ∀ i u, (evv Tr.drop A2 c2 A11 c11 A13 c13)[i]? = some u → wr.cell? (ad.add (j * 14 + i)) = some u := fun i u h => keepC TR.out.bel (by rw [show j = 0 by omega]; exact HCELL.out i u h)
      have t0 : wr.cell? (ad.add (j * 14)) = some (.int .i64 Tr.drop.f0) := hk 0 _ rfl
      have t1 := field_cell (j := j) (i := 1) (by omega) (hk 1 (.int .i64 Tr.drop.f1.f0) rfl)
      have t2 := field_cell (j := j) (i := 2) (by omega) (hk 2 (.slice A2 Tr.drop.f1.f1.length c2) rfl)
      have t3 := field_cell (j := j) (i := 3) (by omega) (hk 3 (.int .u32 Tr.drop.f1.f2) rfl)
      have t4 := field_cell (j := j) (i := 4) (by omega) (hk 4 (.int .i64 Tr.drop.f1.f3) rfl)
      have t5 := field_cell (j := j) (i := 5) (by omega) (hk 5 (.string Tr.drop.f1.f4) rfl)
      have t6 := field_cell (j := j) (i := 6) (by omega) (hk 6 (.int .u64 Tr.drop.f1.f5) rfl)
      have t7 := field_cell (j := j) (i := 7) (by omega) (hk 7 (.int .u64 Tr.drop.f1.f6) rfl)
      have t8 := field_cell (j := j) (i := 8) (by omega) (hk 8 (.bool Tr.drop.f1.f7) rfl)
      have t9 := field_cell (j := j) (i := 9) (by omega) (hk 9 (.int .i64 Tr.drop.f2) rfl)
      have t10 := field_cell (j := j) (i := 10) (by omega) (hk 10 (.int .i64 Tr.drop.f3.f0) rfl)
      have t11 := field_cell (j := j) (i := 11) (by omega) (hk 11 (.slice A11 Tr.drop.f3.f1.length c11) rfl)
      have t12 := field_cell (j := j) (i := 12) (by omega) (hk 12 (.int .u64 Tr.drop.f3.f2) rfl)
      have t13 := field_cell (j := j) (i := 13) (by omega) (hk 13 (.slice A13 1 c13) rfl)
      have HJ := Lib.hid (show j = 0 by omega)
      have TA : Aside0 (Tt w (wr.alloc (.cells (evv Tr.drop A2 c2 A11 c11 A13 c13) 41)) B 0) := ⟨by
        have h := TR.out.below ((Below.refl _ wr).alloc (Nat.le_refl _) (.cells (evv Tr.drop A2 c2 A11 c11 A13 c13) 41))
        rw [show j = 0 by omega] at h
        exact h⟩
      have XA := Aside0.mk (heap_alloc_new wr (.cells (evv Tr.drop A2 c2 A11 c11 A13 c13) 41))
      clear hk TR
      go_upto_region 4 with fail
      change Code.wp _ _ _ _ (wr.alloc (.cells (evv Tr.drop A2 c2 A11 c11 A13 c13) 41))
      obtain ⟨T, hT⟩ : ∃ T, T = wr.heap.size := ⟨_, rfl⟩
      rw [← hT] at XA ⊢
      generalize wr.alloc (.cells (evv Tr.drop A2 c2 A11 c11 A13 c13) 41) = W2 at TA XA ⊢
      clear hT t0 t1 t2 t3 t4 t5 t6 t7 t8 t9 t10 t11 t12 t13
      have t13 : W2.cell? ⟨T, 13, none⟩ = some (.slice A13 1 c13) := fresh_cell XA.out 13
      go_wp2_with fail
      go_loopg [6, 16, 21, 26] 1 (fun gg v6 v16 v21 v26 wr => ∃ (i : Nat), v16 = .int .i64 i ∧ i ≤ 1 ∧ 1 - i ≤ gg ∧ Aside0 (Tt w wr B i))
      case atStart => exact ⟨0, rfl, by omega, by omega, TA⟩
      case round =>
        clear TA t13 XA
        obtain ⟨i, rfl, hi, hgi, TR⟩ := hrel
        by_cases hlt2 : i < 1
        · have hii : (i : Int) < 1 := by omega
          obtain ⟨bd, rfl, d0, d1⟩ := drop_cell (Kd.C_below HR.out.g13 TR.out.bel) 0 ⟨Tr.K, 2⟩ rfl
          have d0' : wr.cell? (bd.add (i * 2)) = some (.string Tr.K) := by rw [show i = 0 by omega]; exact d0
          have d1' : wr.cell? ⟨(bd.add (i * 2)).block, (bd.add (i * 2)).off + 1, none⟩ = some (.int .i64 2) := by rw [show i = 0 by omega]; exact d1
          have HI := Lib.hid (show i = 0 by omega)
          have TA : Aside0 (Tt w (wr.alloc (.cells #[.string Tr.K, .int .i64 2] 46)) B 0) := ⟨by
            have h := TR.out.below ((Below.refl _ wr).alloc (Nat.le_refl _) (.cells #[.string Tr.K, .int .i64 2] 46))
            rw [show i = 0 by omega] at h
            exact h⟩
          have XA := Aside0.mk (heap_alloc_new wr (.cells #[.string Tr.K, .int .i64 2] 46))
          clear d0 d1 TR
          go_upto_region 7 with fail
          change Code.wp _ _ _ _ (wr.alloc (.cells #[.string Tr.K, .int .i64 2] 46))
          obtain ⟨T2, hT2⟩ : ∃ T, T = wr.heap.size := ⟨_, rfl⟩
          rw [← hT2] at XA ⊢
          generalize wr.alloc (.cells #[.string Tr.K, .int .i64 2] 46) = W3 at TA XA ⊢
          clear hT2 d0' d1'
          have x1 : W3.cell? ⟨T2, 1, none⟩ = some (.int .i64 2) := fresh_cell XA.out 1
          have y2 : W3.cell? ⟨B, 2, none⟩ = some (.int .i64 0) := fresh_cell TA.out.box 2
          have yf := fresh_frozen TA.out.box 2
          have TN : Aside0 (Tt w (W3.setCell ⟨B, 2, none⟩ (.int .i64 1)) B (i + 1)) := ⟨⟨by rw [HI.out]; exact set_at2 TA.out.box _, TA.out.bel.setCell (p := ⟨B, 2, none⟩) TA.out.lo _, TA.out.lo⟩⟩
          clear TA XA
          go_wp2
          go_roundg 0
          case measure => omega
          case rel => exact ⟨i + 1, by go_num, by omega, by omega, TN⟩
        · have hii : ¬ (i : Int) < 1 := by omega
          have TN : Aside0 (Tt w wr B (j + 1)) := ⟨by
            have h := TR.out
            rw [show i = 1 by omega] at h
            rw [HJ.out]
            exact h⟩
          clear TR
          go_wp2
          go_roundg 0
          case measure => omega
          case rel => exact ⟨j + 1, by go_num, by omega, by omega, TN⟩
    · have hji : ¬ (j : Int) < 1 := by omega
      have T1 : Aside0 (Tt w wr B 1) := ⟨by
        have h := TR.out
        rw [show j = 1 by omega] at h
        exact h⟩
      clear TR
      have z0 : wr.cell? ⟨B, 0, none⟩ = some (.int .i64 0) := fresh_cell T1.out.box 0
      have z1 : wr.cell? ⟨B, 1, none⟩ = some (.int .i64 0) := fresh_cell T1.out.box 1
      have z2 : wr.cell? ⟨B, 2, none⟩ = some (.int .i64 1) := fresh_cell T1.out.box 2
      have z3 : wr.cell? ⟨B, 3, none⟩ = some (.int .i64 0) := fresh_cell T1.out.box 3
      have f0 := fresh_frozen T1.out.box 0
      have f1 := fresh_frozen T1.out.box 1
      have f2 := fresh_frozen T1.out.box 2
      have f3 := fresh_frozen T1.out.box 3
      have S4 := Aside0.mk (set4 T1.out.box (.int .i64 0) (.int .i64 0) (.int .i64 1) (.int .i64 0))
      have BS := Aside0.mk ((((T1.out.bel.setCell (p := ⟨B, 0, none⟩) T1.out.lo (.int .i64 0)).setCell (p := ⟨B, 1, none⟩) T1.out.lo (.int .i64 0)).setCell (p := ⟨B, 2, none⟩) T1.out.lo (.int .i64 1)).setCell (p := ⟨B, 3, none⟩) T1.out.lo (.int .i64 0))
      go_wp2
      refine bodyPost_ret (results_cell_row rfl _ _ B 52 #[.int .i64 0, .int .i64 0, .int .i64 1, .int .i64 0] (0, 0) _ rfl S4.out Tryz.underlying52 rfl (by kernel_rfl)) rfl ?_
      exact ⟨rfl, BS.out⟩
end Go.Proofs.YtdihoopofhediaaGreatDoor.Wp
end
section
namespace Go.Proofs.YtdihoopofhediaaGreatDoor.Wp
open Go.RowKit Go.Proofs.YtdihoopofhediaaGreatDoorW.PrintWords Go.Proofs.YtdihoopofhediaaGreatDoorW.PrintLast Go.Proofs.YtdihoopofhediaaGreatDoorW.PrintMore Go.WideMaps Go.Proofs.YtdihoopofhediaaGreatDoor.XMd Go.Proofs.YtdihoopofhediaaGreatDoor.Mdl
set_option linter.unusedVariables false
set_option linter.unusedSimpArgs false
attribute [local go_sem ↓] Go.wp_at_zero Go.wp_at_succ
attribute [local go_sem high] eqFd
def cSet (K1 : Nat) : Array Value := #[.int .i64 5, .slice (some ⟨K1, 0, none⟩) 1 1, .int .u32 0, .int .i64 0, .string ⟨#[118]⟩, .int .u64 0, .int .u64 0, .bool false]
def cGet (K2 : Nat) : Array Value := #[.int .i64 1, .slice (some ⟨K2, 0, none⟩) 1 1, .int .u32 0, .int .i64 0, .string ⟨#[]⟩, .int .u64 0, .int .u64 0, .bool false]
def cLie0 (K2 : Nat) : Array Value := #[.int .i64 0, .int .i64 1, .slice (some ⟨K2, 0, none⟩) 1 1, .int .u32 0, .int .i64 0, .string ⟨#[]⟩, .int .u64 0, .int .u64 0, .bool false, .int .i64 5, .int .i64 1, .slice none 0 0, .int .u64 0, .slice none 0 0]
theorem al1 (w : World) (o1 o2 : Obj) : ((w.alloc o1).alloc o2).heap[w.heap.size]? = some o1 := (Below.heap_alloc _ _ _ (by rw [size_al]; omega)).trans (heap_alloc_new w _)
def cLie (K2 H : Nat) : Array Value := #[.int .i64 0, .int .i64 1, .slice (some ⟨K2, 0, none⟩) 1 1, .int .u32 0, .int .i64 0, .string ⟨#[]⟩, .int .u64 0, .int .u64 0, .bool false, .int .i64 5, .int .i64 1, .slice (some ⟨H, 0, none⟩) 1 1, .int .u64 0, .slice none 0 0]
def cDrop (R : Nat) : Array Value := #[.int .i64 6, .int .i64 0, .slice none 0 0, .int .u32 0, .int .i64 0, .string ⟨#[]⟩, .int .u64 0, .int .u64 0, .bool false, .int .i64 5, .int .i64 0, .slice none 0 0, .int .u64 0, .slice (some ⟨R, 0, none⟩) 1 1]
theorem set11 {w : World} {L K2 H : Nat} {t : TypeId} (h : w.heap[L]? = some (.cells (cLie0 K2) t)) : (w.setCell ⟨L, 11, none⟩ (.slice (some ⟨H, 0, none⟩) 1 1)).heap[L]? = some (.cells (cLie K2 H) t) := by
  simp only [World.setCell]
  rw [Array.getElem?_modify, if_pos rfl, h]
  rfl
theorem eqTot (w : World) : (Op.equalIn 10000 52 (.agg #[.int .i64 0, .int .i64 0, .int .i64 1, .int .i64 0]) (.agg #[.int .i64 0, .int .i64 0, .int .i64 1, .int .i64 0])).run Tryz.prog w = .ok true w := by kernel_rfl
theorem drew_new (w : World) (o : Obj) : (w.alloc o).drew.heap[w.heap.size]? = some o ∧ w.heap.size < (w.alloc o).drew.heap.size :=
  ⟨((Below.refl (w.alloc o).heap.size (w.alloc o)).drew.block w.heap.size (by rw [size_al]; omega)).trans (heap_alloc_new w o), Nat.lt_of_lt_of_le (show w.heap.size < (w.alloc o).heap.size by rw [size_al]; omega) ((Below.refl (w.alloc o).heap.size (w.alloc o)).drew.size)⟩
structure M (w W : World) (s K1 T1 K2 H L R D : Nat) : Prop where
  k1 : W.heap[K1]? = some (.cells #[.string ⟨#[107]⟩] 9)
  t1 : W.heap[T1]? = some (.cells (cSet K1) 35)
  k2 : W.heap[K2]? = some (.cells #[.string ⟨#[107]⟩] 9)
  h : W.heap[H]? = some (.cells #[.string ⟨#[107]⟩, .int .u32 0, .string ⟨#[118]⟩, .int .u64 1] 44)
  l : W.heap[L]? = some (.cells (cLie K2 H) 41)
  r : W.heap[R]? = some (.cells #[.string ⟨#[107]⟩, .int .i64 2] 46)
  d : W.heap[D]? = some (.cells (cDrop R) 41)
  bel : Below w.heap.size w W
  lt : K1 < s ∧ T1 < s ∧ K2 < s ∧ H < s ∧ L < s ∧ R < s ∧ D < s
  sz : s ≤ W.heap.size
  ws : w.heap.size ≤ s
theorem M.below {w W W' : World} {s K1 T1 K2 H L R D : Nat} (m : M w W s K1 T1 K2 H L R D) (hb : Below W.heap.size W W') : M w W' s K1 T1 K2 H L R D :=
  ⟨(hb.block _ (blk_lt m.k1)).trans m.k1, (hb.block _ (blk_lt m.t1)).trans m.t1, (hb.block _ (blk_lt m.k2)).trans m.k2, (hb.block _ (blk_lt m.h)).trans m.h, (hb.block _ (blk_lt m.l)).trans m.l, (hb.block _ (blk_lt m.r)).trans m.r, (hb.block _ (blk_lt m.d)).trans m.d, m.bel.trans (hb.mono m.bel.size), m.lt, Nat.le_trans m.sz hb.size, m.ws⟩
theorem M.alloc {w W : World} {s K1 T1 K2 H L R D : Nat} (m : M w W s K1 T1 K2 H L R D) (o : Obj) : M w (W.alloc o) s K1 T1 K2 H L R D := m.below ((Below.refl _ W).alloc (Nat.le_refl _) o)
theorem M.set {w W : World} {s K1 T1 K2 H L R D : Nat} (m : M w W s K1 T1 K2 H L R D) {p : Addr} (hp : s ≤ p.block) (u : Value) : M w (W.setCell p u) s K1 T1 K2 H L R D := by
  obtain ⟨h1, h2, h3, h4, h5, h6, h7⟩ := m.lt
  have hs : (W.setCell p u).heap.size = W.heap.size := by simp [World.setCell]
  exact ⟨(Below.heap_setCell W p u _ (by omega)).trans m.k1, (Below.heap_setCell W p u _ (by omega)).trans m.t1, (Below.heap_setCell W p u _ (by omega)).trans m.k2, (Below.heap_setCell W p u _ (by omega)).trans m.h, (Below.heap_setCell W p u _ (by omega)).trans m.l, (Below.heap_setCell W p u _ (by omega)).trans m.r, (Below.heap_setCell W p u _ (by omega)).trans m.d, m.bel.setCell (Nat.le_trans m.ws hp) u, m.lt, by rw [hs]; exact m.sz, m.ws⟩
theorem M.all {w W : World} {s K1 T1 K2 H L R D : Nat} (m : M w W s K1 T1 K2 H L R D) : W.cell? ⟨T1, 0, none⟩ = some (.int .i64 5) ∧ W.cell? ⟨T1, 1, none⟩ = some (.slice (some ⟨K1, 0, none⟩) 1 1) ∧ W.cell? ⟨T1, 2, none⟩ = some (.int .u32 0) ∧ W.cell? ⟨T1, 3, none⟩ = some (.int .i64 0) ∧ W.cell? ⟨T1, 4, none⟩ = some (.string ⟨#[118]⟩) ∧ W.cell? ⟨T1, 5, none⟩ = some (.int .u64 0) ∧ W.cell? ⟨T1, 6, none⟩ = some (.int .u64 0) ∧ W.cell? ⟨T1, 7, none⟩ = some (.bool false) ∧ W.cell? ⟨L, 0, none⟩ = some (.int .i64 0) ∧ W.cell? ⟨L, 1, none⟩ = some (.int .i64 1) ∧ W.cell? ⟨L, 2, none⟩ = some (.slice (some ⟨K2, 0, none⟩) 1 1) ∧ W.cell? ⟨L, 3, none⟩ = some (.int .u32 0) ∧ W.cell? ⟨L, 4, none⟩ = some (.int .i64 0) ∧ W.cell? ⟨L, 5, none⟩ = some (.string ⟨#[]⟩) ∧ W.cell? ⟨L, 6, none⟩ = some (.int .u64 0) ∧ W.cell? ⟨L, 7, none⟩ = some (.int .u64 0) ∧ W.cell? ⟨L, 8, none⟩ = some (.bool false) ∧ W.cell? ⟨L, 9, none⟩ = some (.int .i64 5) ∧ W.cell? ⟨L, 10, none⟩ = some (.int .i64 1) ∧ W.cell? ⟨L, 11, none⟩ = some (.slice (some ⟨H, 0, none⟩) 1 1) ∧ W.cell? ⟨L, 12, none⟩ = some (.int .u64 0) ∧ W.cell? ⟨L, 13, none⟩ = some (.slice none 0 0) ∧ W.cell? ⟨D, 0, none⟩ = some (.int .i64 6) ∧ W.cell? ⟨D, 1, none⟩ = some (.int .i64 0) ∧ W.cell? ⟨D, 2, none⟩ = some (.slice none 0 0) ∧ W.cell? ⟨D, 3, none⟩ = some (.int .u32 0) ∧ W.cell? ⟨D, 4, none⟩ = some (.int .i64 0) ∧ W.cell? ⟨D, 5, none⟩ = some (.string ⟨#[]⟩) ∧ W.cell? ⟨D, 6, none⟩ = some (.int .u64 0) ∧ W.cell? ⟨D, 7, none⟩ = some (.int .u64 0) ∧ W.cell? ⟨D, 8, none⟩ = some (.bool false) ∧ W.cell? ⟨D, 9, none⟩ = some (.int .i64 5) ∧ W.cell? ⟨D, 10, none⟩ = some (.int .i64 0) ∧ W.cell? ⟨D, 11, none⟩ = some (.slice none 0 0) ∧ W.cell? ⟨D, 12, none⟩ = some (.int .u64 0) ∧ W.cell? ⟨D, 13, none⟩ = some (.slice (some ⟨R, 0, none⟩) 1 1) :=
  ⟨fresh_cell m.t1 0, fresh_cell m.t1 1, fresh_cell m.t1 2, fresh_cell m.t1 3, fresh_cell m.t1 4, fresh_cell m.t1 5, fresh_cell m.t1 6, fresh_cell m.t1 7, fresh_cell m.l 0, fresh_cell m.l 1, fresh_cell m.l 2, fresh_cell m.l 3, fresh_cell m.l 4, fresh_cell m.l 5, fresh_cell m.l 6, fresh_cell m.l 7, fresh_cell m.l 8, fresh_cell m.l 9, fresh_cell m.l 10, fresh_cell m.l 11, fresh_cell m.l 12, fresh_cell m.l 13, fresh_cell m.d 0, fresh_cell m.d 1, fresh_cell m.d 2, fresh_cell m.d 3, fresh_cell m.d 4, fresh_cell m.d 5, fresh_cell m.d 6, fresh_cell m.d 7, fresh_cell m.d 8, fresh_cell m.d 9, fresh_cell m.d 10, fresh_cell m.d 11, fresh_cell m.d 12, fresh_cell m.d 13⟩
theorem M.rset {w W : World} {s K1 T1 K2 H L R D : Nat} (m : M w W s K1 T1 K2 H L R D) : RowsP W (Tr.set, ⟨some ⟨K1, 0, none⟩, 1, none, 0, none, 0⟩) := ⟨Nat.le_refl 1, row_one m.k1, Nat.le_refl 0, Kd.C_nil _ W, Nat.le_refl 0, Kd.C_nil _ W⟩
theorem M.rlie {w W : World} {s K1 T1 K2 H L R D : Nat} (m : M w W s K1 T1 K2 H L R D) : RowsP W (Tr.lie, ⟨some ⟨K2, 0, none⟩, 1, some ⟨H, 0, none⟩, 1, none, 0⟩) := ⟨Nat.le_refl 1, row_one m.k2, Nat.le_refl 1, hit_one (x := ⟨Tr.K, 0, Tr.V, 1⟩) m.h, Nat.le_refl 0, Kd.C_nil _ W⟩
theorem M.rdrop {w W : World} {s K1 T1 K2 H L R D : Nat} (m : M w W s K1 T1 K2 H L R D) : RowsP W (Tr.drop, ⟨none, 0, none, 0, some ⟨R, 0, none⟩, 1⟩) := ⟨Nat.le_refl 0, Kd.C_nil _ W, Nat.le_refl 0, Kd.C_nil _ W, Nat.le_refl 1, drop_one (x := ⟨Tr.K, 2⟩) m.r⟩
theorem M.CA {w W : World} {s K1 T1 K2 H L R D : Nat} (m : M w W s K1 T1 K2 H L R D) {B : Nat} (hB : W.heap[B]? = some (.cells #[.int .i64 0, .int .i64 5, .slice (some ⟨K1, 0, none⟩) 1 1, .int .u32 0, .int .i64 0, .string ⟨#[118]⟩, .int .u64 0, .int .u64 0, .bool false, .int .i64 5, .int .i64 2, .slice none 0 0, .int .u64 0, .slice none 0 0, .int .i64 0, .int .i64 1, .slice (some ⟨K2, 0, none⟩) 1 1, .int .u32 0, .int .i64 0, .string ⟨#[]⟩, .int .u64 0, .int .u64 0, .bool false, .int .i64 5, .int .i64 1, .slice (some ⟨H, 0, none⟩) 1 1, .int .u64 0, .slice none 0 0, .int .i64 6, .int .i64 0, .slice none 0 0, .int .u32 0, .int .i64 0, .string ⟨#[]⟩, .int .u64 0, .int .u64 0, .bool false, .int .i64 5, .int .i64 0, .slice none 0 0, .int .u64 0, .slice (some ⟨R, 0, none⟩) 1 1] 41)) : Kd.C k41 W (some ⟨B, 0, none⟩) 3 [Tr.set, Tr.lie, Tr.drop] :=
  C_evs (R := B) [(Tr.set, ⟨some ⟨K1, 0, none⟩, 1, none, 0, none, 0⟩), (Tr.lie, ⟨some ⟨K2, 0, none⟩, 1, some ⟨H, 0, none⟩, 1, none, 0⟩), (Tr.drop, ⟨none, 0, none, 0, some ⟨R, 0, none⟩, 1⟩)] hB (fun p hp => by
    simp only [List.mem_cons, List.not_mem_nil, or_false] at hp
    rcases hp with rfl | rfl | rfl
    · exact m.rset
    · exact m.rlie
    · exact m.rdrop) (by show 3 ≤ 1000; decide)
theorem M.checkA {w W : World} {s K1 T1 K2 H L R D : Nat} (m : M w W s K1 T1 K2 H L R D) {B : Nat} (hB : W.heap[B]? = some (.cells #[.int .i64 0, .int .i64 5, .slice (some ⟨K1, 0, none⟩) 1 1, .int .u32 0, .int .i64 0, .string ⟨#[118]⟩, .int .u64 0, .int .u64 0, .bool false, .int .i64 5, .int .i64 2, .slice none 0 0, .int .u64 0, .slice none 0 0, .int .i64 0, .int .i64 1, .slice (some ⟨K2, 0, none⟩) 1 1, .int .u32 0, .int .i64 0, .string ⟨#[]⟩, .int .u64 0, .int .u64 0, .bool false, .int .i64 5, .int .i64 1, .slice (some ⟨H, 0, none⟩) 1 1, .int .u64 0, .slice none 0 0, .int .i64 6, .int .i64 0, .slice none 0 0, .int .u32 0, .int .i64 0, .string ⟨#[]⟩, .int .u64 0, .int .u64 0, .bool false, .int .i64 5, .int .i64 0, .slice none 0 0, .int .u64 0, .slice (some ⟨R, 0, none⟩) 1 1] 41)) (hv : Vars w) : Calls Tryz.prog 6 #[.slice (some ⟨B, 0, none⟩) 3 3] W fun e w' => e = .returned (.agg #[.int .i64 (-1), .int .i64 0]) ∧ M w w' s K1 T1 K2 H L R D ∧ Below W.heap.size W w' := by
  refine (Check_calls _ (hv.below m.bel) (some ⟨B, 0, none⟩) 3 [Tr.set, Tr.lie, Tr.drop] (m.CA hB) (by decide) (by decide)).mono fun e w' h => ?_
  rw [Tr.a_is] at h
  exact ⟨h.1, m.below h.2, h.2⟩
theorem M.CB {w W : World} {s K1 T1 K2 H L R D : Nat} (m : M w W s K1 T1 K2 H L R D) {B : Nat} (hB : W.heap[B]? = some (.cells #[.int .i64 0, .int .i64 1, .slice (some ⟨K2, 0, none⟩) 1 1, .int .u32 0, .int .i64 0, .string ⟨#[]⟩, .int .u64 0, .int .u64 0, .bool false, .int .i64 5, .int .i64 1, .slice (some ⟨H, 0, none⟩) 1 1, .int .u64 0, .slice none 0 0] 41)) : Kd.C k41 W (some ⟨B, 0, none⟩) 1 [Tr.lie] :=
  C_evs (R := B) [(Tr.lie, ⟨some ⟨K2, 0, none⟩, 1, some ⟨H, 0, none⟩, 1, none, 0⟩)] hB (fun p hp => by
    simp only [List.mem_cons, List.not_mem_nil, or_false] at hp
    subst hp
    exact m.rlie) (by show 1 ≤ 1000; decide)
theorem M.checkB {w W : World} {s K1 T1 K2 H L R D : Nat} (m : M w W s K1 T1 K2 H L R D) {B : Nat} (hB : W.heap[B]? = some (.cells #[.int .i64 0, .int .i64 1, .slice (some ⟨K2, 0, none⟩) 1 1, .int .u32 0, .int .i64 0, .string ⟨#[]⟩, .int .u64 0, .int .u64 0, .bool false, .int .i64 5, .int .i64 1, .slice (some ⟨H, 0, none⟩) 1 1, .int .u64 0, .slice none 0 0] 41)) (hv : Vars w) : Calls Tryz.prog 6 #[.slice (some ⟨B, 0, none⟩) 1 1] W fun e w' => e = .returned (.agg #[.int .i64 0, .int .i64 3]) ∧ M w w' s K1 T1 K2 H L R D ∧ Below W.heap.size W w' := by
  refine (Check_calls _ (hv.below m.bel) (some ⟨B, 0, none⟩) 1 [Tr.lie] (m.CB hB) (by decide) (by decide)).mono fun e w' h => ?_
  rw [Tr.b_is] at h
  exact ⟨h.1, m.below h.2, h.2⟩
theorem M.CC {w W : World} {s K1 T1 K2 H L R D : Nat} (m : M w W s K1 T1 K2 H L R D) {B : Nat} (hB : W.heap[B]? = some (.cells #[.int .i64 6, .int .i64 0, .slice none 0 0, .int .u32 0, .int .i64 0, .string ⟨#[]⟩, .int .u64 0, .int .u64 0, .bool false, .int .i64 5, .int .i64 0, .slice none 0 0, .int .u64 0, .slice (some ⟨R, 0, none⟩) 1 1] 41)) : Kd.C k41 W (some ⟨B, 0, none⟩) 1 [Tr.drop] :=
  C_evs (R := B) [(Tr.drop, ⟨none, 0, none, 0, some ⟨R, 0, none⟩, 1⟩)] hB (fun p hp => by
    simp only [List.mem_cons, List.not_mem_nil, or_false] at hp
    subst hp
    exact m.rdrop) (by show 1 ≤ 1000; decide)
theorem M.checkC {w W : World} {s K1 T1 K2 H L R D : Nat} (m : M w W s K1 T1 K2 H L R D) {B : Nat} (hB : W.heap[B]? = some (.cells #[.int .i64 6, .int .i64 0, .slice none 0 0, .int .u32 0, .int .i64 0, .string ⟨#[]⟩, .int .u64 0, .int .u64 0, .bool false, .int .i64 5, .int .i64 0, .slice none 0 0, .int .u64 0, .slice (some ⟨R, 0, none⟩) 1 1] 41)) (hv : Vars w) : Calls Tryz.prog 6 #[.slice (some ⟨B, 0, none⟩) 1 1] W fun e w' => e = .returned (.agg #[.int .i64 0, .int .i64 1]) ∧ M w w' s K1 T1 K2 H L R D ∧ Below W.heap.size W w' := by
  refine (Check_calls _ (hv.below m.bel) (some ⟨B, 0, none⟩) 1 [Tr.drop] (m.CC hB) (by decide) (by decide)).mono fun e w' h => ?_
  rw [Tr.c_is] at h
  exact ⟨h.1, m.below h.2, h.2⟩
theorem M.CD {w W : World} {s K1 T1 K2 H L R D : Nat} (m : M w W s K1 T1 K2 H L R D) {B : Nat} (hB : W.heap[B]? = some (.cells #[.int .i64 0, .int .i64 5, .slice (some ⟨K1, 0, none⟩) 1 1, .int .u32 0, .int .i64 0, .string ⟨#[118]⟩, .int .u64 0, .int .u64 0, .bool false, .int .i64 5, .int .i64 2, .slice none 0 0, .int .u64 0, .slice none 0 0, .int .i64 6, .int .i64 0, .slice none 0 0, .int .u32 0, .int .i64 0, .string ⟨#[]⟩, .int .u64 0, .int .u64 0, .bool false, .int .i64 5, .int .i64 0, .slice none 0 0, .int .u64 0, .slice (some ⟨R, 0, none⟩) 1 1, .int .i64 0, .int .i64 1, .slice (some ⟨K2, 0, none⟩) 1 1, .int .u32 0, .int .i64 0, .string ⟨#[]⟩, .int .u64 0, .int .u64 0, .bool false, .int .i64 5, .int .i64 1, .slice (some ⟨H, 0, none⟩) 1 1, .int .u64 0, .slice none 0 0] 41)) : Kd.C k41 W (some ⟨B, 0, none⟩) 3 [Tr.set, Tr.drop, Tr.lie] :=
  C_evs (R := B) [(Tr.set, ⟨some ⟨K1, 0, none⟩, 1, none, 0, none, 0⟩), (Tr.drop, ⟨none, 0, none, 0, some ⟨R, 0, none⟩, 1⟩), (Tr.lie, ⟨some ⟨K2, 0, none⟩, 1, some ⟨H, 0, none⟩, 1, none, 0⟩)] hB (fun p hp => by
    simp only [List.mem_cons, List.not_mem_nil, or_false] at hp
    rcases hp with rfl | rfl | rfl
    · exact m.rset
    · exact m.rdrop
    · exact m.rlie) (by show 3 ≤ 1000; decide)
theorem M.checkD {w W : World} {s K1 T1 K2 H L R D : Nat} (m : M w W s K1 T1 K2 H L R D) {B : Nat} (hB : W.heap[B]? = some (.cells #[.int .i64 0, .int .i64 5, .slice (some ⟨K1, 0, none⟩) 1 1, .int .u32 0, .int .i64 0, .string ⟨#[118]⟩, .int .u64 0, .int .u64 0, .bool false, .int .i64 5, .int .i64 2, .slice none 0 0, .int .u64 0, .slice none 0 0, .int .i64 6, .int .i64 0, .slice none 0 0, .int .u32 0, .int .i64 0, .string ⟨#[]⟩, .int .u64 0, .int .u64 0, .bool false, .int .i64 5, .int .i64 0, .slice none 0 0, .int .u64 0, .slice (some ⟨R, 0, none⟩) 1 1, .int .i64 0, .int .i64 1, .slice (some ⟨K2, 0, none⟩) 1 1, .int .u32 0, .int .i64 0, .string ⟨#[]⟩, .int .u64 0, .int .u64 0, .bool false, .int .i64 5, .int .i64 1, .slice (some ⟨H, 0, none⟩) 1 1, .int .u64 0, .slice none 0 0] 41)) (hv : Vars w) : Calls Tryz.prog 6 #[.slice (some ⟨B, 0, none⟩) 3 3] W fun e w' => e = .returned (.agg #[.int .i64 2, .int .i64 3]) ∧ M w w' s K1 T1 K2 H L R D ∧ Below W.heap.size W w' := by
  refine (Check_calls _ (hv.below m.bel) (some ⟨B, 0, none⟩) 3 [Tr.set, Tr.drop, Tr.lie] (m.CD hB) (by decide) (by decide)).mono fun e w' h => ?_
  rw [Tr.d_is] at h
  exact ⟨h.1, m.below h.2, h.2⟩
theorem M.CE {w W : World} {s K1 T1 K2 H L R D : Nat} (m : M w W s K1 T1 K2 H L R D) {B : Nat} (hB : W.heap[B]? = some (.cells #[.int .i64 0, .int .i64 5, .slice (some ⟨K1, 0, none⟩) 1 1, .int .u32 0, .int .i64 0, .string ⟨#[118]⟩, .int .u64 0, .int .u64 0, .bool false, .int .i64 5, .int .i64 2, .slice none 0 0, .int .u64 0, .slice none 0 0] 41)) : Kd.C k41 W (some ⟨B, 0, none⟩) 1 [Tr.set] :=
  C_evs (R := B) [(Tr.set, ⟨some ⟨K1, 0, none⟩, 1, none, 0, none, 0⟩)] hB (fun p hp => by
    simp only [List.mem_cons, List.not_mem_nil, or_false] at hp
    subst hp
    exact m.rset) (by show 1 ≤ 1000; decide)
theorem M.last {w W : World} {s K1 T1 K2 H L R D : Nat} (m : M w W s K1 T1 K2 H L R D) {B : Nat} (hB : W.heap[B]? = some (.cells #[.int .i64 0, .int .i64 5, .slice (some ⟨K1, 0, none⟩) 1 1, .int .u32 0, .int .i64 0, .string ⟨#[118]⟩, .int .u64 0, .int .u64 0, .bool false, .int .i64 5, .int .i64 2, .slice none 0 0, .int .u64 0, .slice none 0 0] 41)) (hv : Vars w) : Calls Tryz.prog 9 #[.slice (some ⟨B, 0, none⟩) 1 1, .int .i64 9] W fun e w' => ∃ a b ca cb, e = .returned (.tuple #[.slice (some a) 1 ca, .slice (some b) 1 cb]) ∧ w'.cell? a = some (.string ⟨#[107]⟩) ∧ w'.cell? b = some (.string ⟨#[118]⟩) ∧ M w w' s K1 T1 K2 H L R D ∧ Below W.heap.size W w' := by
  refine (Last_one _ (hv.below m.bel) (some ⟨B, 0, none⟩) 1 (m.CE hB)).mono fun e w' h => ?_
  obtain ⟨a, b, ca, cb, h1, h2, h3, h4⟩ := h
  exact ⟨a, b, ca, cb, h1, h2, h3, m.below h4, h4⟩
theorem M.total {w W : World} {s K1 T1 K2 H L R D : Nat} (m : M w W s K1 T1 K2 H L R D) {B : Nat} (hB : W.heap[B]? = some (.cells #[.int .i64 6, .int .i64 0, .slice none 0 0, .int .u32 0, .int .i64 0, .string ⟨#[]⟩, .int .u64 0, .int .u64 0, .bool false, .int .i64 5, .int .i64 0, .slice none 0 0, .int .u64 0, .slice (some ⟨R, 0, none⟩) 1 1] 41)) : Calls Tryz.prog 10 #[.slice (some ⟨B, 0, none⟩) 1 1] W fun e w' => e = .returned (.agg #[.int .i64 0, .int .i64 0, .int .i64 1, .int .i64 0]) ∧ M w w' s K1 T1 K2 H L R D ∧ Below W.heap.size W w' := by
  refine (Total_one _ (some ⟨B, 0, none⟩) 1 (m.CC hB)).mono fun e w' h => ?_
  exact ⟨h.1, m.below h.2, h.2⟩
end Go.Proofs.YtdihoopofhediaaGreatDoor.Wp
end
