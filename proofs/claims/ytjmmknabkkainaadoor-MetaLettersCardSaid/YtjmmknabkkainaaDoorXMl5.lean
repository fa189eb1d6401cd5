-- MADE BY wip/xprint.py (this session's own program, over the kit's print): not typed by hand; Lean checks it.
import Derived.Test.YtjmmknabkkainaaDoorXMl0
import Derived.Test.YtjmmknabkkainaaDoorXMl2
import Derived.Test.YtjmmknabkkainaaDoorXMl3
import Derived.Test.YtjmmknabkkainaaDoorXMl4
import Derived.Test.YtjmmknabkkainaaDoorShelf
import Derived.Test.YtjmmknabkkainaaDoorB64
import Derived.Test.YtjmmknabkkainaaDoorBldString
import Derived.Test.YtjmmknabkkainaaDoorBits
import Derived.Lib.Hide
import Derived.Lib.Strings
import Derived.Laws.Strings
namespace Go.Proofs.YtjmmknabkkainaaDoor.XMl
open Go.RowKit Go.Proofs.YtjmmknabkkainaaDoorW.PrintWords Go.Proofs.YtjmmknabkkainaaDoorW.PrintLast Go.Proofs.YtjmmknabkkainaaDoorW.PrintMore
attribute [local go_sem] max2_int min2_int max_two min_two max_three min_three max_four min_four   -- for this text's walks alone
set_option linter.unusedVariables false
set_option linter.unusedSimpArgs false

noncomputable section
/-! ### EXT meta_Decode: function 8 -/
/-! the values of letters -/
def meta_Decode.vl (c : Nat) : Option Nat := if 65 ≤ c ∧ c ≤ 90 then some (c - 65) else if 97 ≤ c ∧ c ≤ 122 then some (c - 71) else if 48 ≤ c ∧ c ≤ 57 then some (c + 4) else if c = 43 then some 62 else if c = 47 then some 63 else none
theorem meta_Decode.vl_lt (v : Nat) (h : v < 64) : meta_Decode.vl (B64.lt v) = some v := by
  unfold B64.lt meta_Decode.vl
  split
  · rw [if_pos (by omega)]; congr 1; omega
  · split
    · rw [if_neg (by omega), if_pos (by omega)]; congr 1; omega
    · split
      · rw [if_neg (by omega), if_neg (by omega), if_pos (by omega)]; congr 1; omega
      · split
        · rw [if_neg (by omega), if_neg (by omega), if_neg (by omega), if_pos rfl]; congr 1; omega
        · rw [if_neg (by omega), if_neg (by omega), if_neg (by omega), if_neg (by omega), if_pos rfl]; congr 1; omega
theorem meta_Decode.vl_range (c v : Nat) (h : meta_Decode.vl c = some v) : v < 64 := by
  unfold meta_Decode.vl at h
  repeat' split at h
  all_goals first | cases h; omega | cases h
def meta_Decode.told (o : Option Nat) : Int × Bool := match o with
  | some v => ((v : Int), true)
  | none => (0, false)
theorem meta_Decode.value_f (c k : Nat) (h : c < 256) : meta_value.f (k + 1 + 1 + 1) (c : Int) = some (meta_Decode.told (meta_Decode.vl c)) := by
  unfold meta_value.f
  by_cases a0 : 65 ≤ c
  · rw [if_pos (by omega), meta_value.j0]
    by_cases a1 : c ≤ 90
    · rw [if_pos (decide_eq_true (by omega))]
      have e : meta_Decode.vl c = some (c - 65) := if_pos ⟨a0, a1⟩
      rw [e]
      simp only [meta_Decode.told, Option.some.injEq, Prod.mk.injEq, and_true]; omega
    · rw [if_neg (fun hh => by have := of_decide_eq_true hh; omega)]
      by_cases b0 : 97 ≤ c
      · rw [if_pos (by omega), meta_value.j1]
        by_cases b1 : c ≤ 122
        · rw [if_pos (decide_eq_true (by omega))]
          have e : meta_Decode.vl c = some (c - 71) := by unfold meta_Decode.vl; rw [if_neg (by omega), if_pos ⟨b0, b1⟩]
          rw [e]
          simp only [meta_Decode.told, Option.some.injEq, Prod.mk.injEq, and_true]; omega
        · have e : meta_Decode.vl c = none := by unfold meta_Decode.vl; rw [if_neg (by omega), if_neg (by omega), if_neg (by omega), if_neg (by omega), if_neg (by omega)]
          rw [if_neg (fun hh => by have := of_decide_eq_true hh; omega), if_pos (by omega), meta_value.j2, if_neg (fun hh => by have := of_decide_eq_true hh; omega), if_neg (by omega), if_neg (by omega), e]
          rfl
      · have e : meta_Decode.vl c = none := by unfold meta_Decode.vl; rw [if_neg (by omega), if_neg (by omega), if_neg (by omega), if_neg (by omega), if_neg (by omega)]
        rw [if_neg (by omega), meta_value.j1, if_neg Bool.false_ne_true, if_pos (by omega), meta_value.j2, if_neg (fun hh => by have := of_decide_eq_true hh; omega), if_neg (by omega), if_neg (by omega), e]
        rfl
  · rw [if_neg (by omega), meta_value.j0, if_neg Bool.false_ne_true, if_neg (by omega), meta_value.j1, if_neg Bool.false_ne_true]
    by_cases c0 : 48 ≤ c
    · rw [if_pos (by omega), meta_value.j2]
      by_cases c1 : c ≤ 57
      · rw [if_pos (decide_eq_true (by omega))]
        have e : meta_Decode.vl c = some (c + 4) := by unfold meta_Decode.vl; rw [if_neg (by omega), if_neg (by omega), if_pos ⟨c0, c1⟩]
        rw [e]
        simp only [meta_Decode.told, Option.some.injEq, Prod.mk.injEq, and_true]; omega
      · have e : meta_Decode.vl c = none := by unfold meta_Decode.vl; rw [if_neg (by omega), if_neg (by omega), if_neg (by omega), if_neg (by omega), if_neg (by omega)]
        rw [if_neg (fun hh => by have := of_decide_eq_true hh; omega), if_neg (by omega), if_neg (by omega), e]
        rfl
    · rw [if_neg (by omega), meta_value.j2, if_neg Bool.false_ne_true]
      by_cases d : c = 43
      · have e : meta_Decode.vl c = some 62 := by unfold meta_Decode.vl; rw [if_neg (by omega), if_neg (by omega), if_neg (by omega), if_pos d]
        rw [if_pos (by omega), e]
        rfl
      · rw [if_neg (by omega)]
        by_cases e : c = 47
        · have e' : meta_Decode.vl c = some 63 := by unfold meta_Decode.vl; rw [if_neg (by omega), if_neg (by omega), if_neg (by omega), if_neg d, if_pos e]
          rw [if_pos (by omega), e']
          rfl
        · have e' : meta_Decode.vl c = none := by unfold meta_Decode.vl; rw [if_neg (by omega), if_neg (by omega), if_neg (by omega), if_neg d, if_neg e]
          rw [if_neg (by omega), e']
          rfl
theorem meta_Decode.value_at (c k : Nat) (h : c < 256) (hk : 3 ≤ k) : meta_value.f k (c : Int) = some (meta_Decode.told (meta_Decode.vl c)) := by
  obtain ⟨m, rfl⟩ : ∃ m, k = m + 1 + 1 + 1 := ⟨k - 3, by omega⟩
  exact meta_Decode.value_f c m h
theorem meta_Decode.bt_list (s : ByteArray) (i : Nat) (c : UInt8) (h : s.data.toList[i]? = some c) : bt s (i : Int) = (c.toNat : Int) := by
  have hi : i < s.size := by
    rcases Nat.lt_or_ge i s.size with h' | h'
    · exact h'
    · rw [List.getElem?_eq_none (by rw [Array.length_toList]; exact h')] at h; cases h
  unfold bt
  rw [dif_pos (by simpa using hi)]
  have : s[i]'hi = c := by
    have e := List.getElem?_eq_getElem (l := s.data.toList) (i := i) (by rw [Array.length_toList]; exact hi)
    rw [e] at h
    injection h
  simp only [Int.toNat_natCast]
  rw [this]

section
variable (g : ByteArray) (hg : g.size = 4)
include hg
theorem meta_Decode.three_in (n w i v : Nat) (c : UInt8) (hi : i < 4) (hn : i < n) (hc : g.data.toList[i]? = some c) (hv : meta_Decode.vl c.toNat = some v) (hw : w < 16777216) {r : ByteArray × Bool}
    (h : Ev (fun k => meta_three.l0 k g n ((w * 64 + v : Nat) : Int) ((i + 1 : Nat) : Int)) r) : Ev (fun k => meta_three.l0 k g n (w : Int) (i : Int)) r := by
  obtain ⟨K, h⟩ := h
  refine ⟨K + 4, fun k hk => ?_⟩
  obtain ⟨k, rfl⟩ : ∃ m, k = m + 1 := ⟨k - 1, by omega⟩
  have hv' := meta_Decode.vl_range _ _ hv
  simp only [meta_three.l0]
  rw [if_pos (by omega), if_neg (by omega), if_pos (by omega), if_pos (by omega), meta_Decode.bt_list g i c hc, meta_Decode.value_at _ _ c.toNat_lt (by omega), hv]
  simp only [meta_Decode.told, Option.bind_some, if_true]
  have e0 : ((w : Int) * 64) % 4294967296 = (w : Int) * 64 := by omega
  rw [e0, u32_or6 _ _ (by omega) (by omega) (by omega) (by omega) (by omega)]
  have e1 : (w : Int) * 64 + (v : Int) = ((w * 64 + v : Nat) : Int) := by omega
  have e2 : wrap64 ((i : Int) + 1) = ((i + 1 : Nat) : Int) := by unfold wrap64; omega
  rw [e1, e2]
  exact h k (by omega)
theorem meta_Decode.three_bad (n w i : Nat) (c : UInt8) (hi : i < 4) (hn : i < n) (hc : g.data.toList[i]? = some c) (hv : meta_Decode.vl c.toNat = none) :
    Ev (fun k => meta_three.l0 k g n (w : Int) (i : Int)) (⟨#[]⟩, false) := by
  refine ⟨4, fun k hk => ?_⟩
  obtain ⟨k, rfl⟩ : ∃ m, k = m + 1 := ⟨k - 1, by omega⟩
  simp only [meta_three.l0]
  rw [if_pos (by omega), if_neg (by omega), if_pos (by omega), if_pos (by omega), meta_Decode.bt_list g i c hc, meta_Decode.value_at _ _ c.toNat_lt (by omega), hv]
  rfl
omit hg in
theorem meta_Decode.three_out (n w i : Nat) (hi : i < 4) (hn : n ≤ i) (hw : w < 16777216) {r : ByteArray × Bool}
    (h : Ev (fun k => meta_three.l0 k g n ((w * 64 : Nat) : Int) ((i + 1 : Nat) : Int)) r) : Ev (fun k => meta_three.l0 k g n (w : Int) (i : Int)) r := by
  refine Ev.step (fun k => ?_) h
  simp only [meta_three.l0]
  rw [if_pos (by omega), if_pos (by omega)]
  have e1 : ((w : Int) * 64) % 4294967296 = ((w * 64 : Nat) : Int) := by omega
  have e2 : wrap64 ((i : Int) + 1) = ((i + 1 : Nat) : Int) := by unfold wrap64; omega
  rw [e1, e2]
/-- The three bytes of a word, so many of them. -/
def meta_Decode.parts (w n : Nat) : List UInt8 := ([UInt8.ofNat (w / 65536 % 256), UInt8.ofNat (w / 256 % 256), UInt8.ofNat (w % 256)] : List UInt8).take n
omit hg in
theorem meta_Decode.ba_ext (x y : ByteArray) (h : x.data.toList = y.data.toList) : x = y := by
  cases x; cases y; congr 1; exact Array.toList_inj.1 h
omit hg in
theorem meta_Decode.parts_ba (w n : Nat) : (strOfNums [((w : Int) / 65536) % 256, ((w : Int) / 256) % 256, (w : Int) % 256]).extract 0 n = (⟨(meta_Decode.parts w n).toArray⟩ : ByteArray) := by
  have e : (strOfNums [((w : Int) / 65536) % 256, ((w : Int) / 256) % 256, (w : Int) % 256]) = (⟨([UInt8.ofNat (w / 65536 % 256), UInt8.ofNat (w / 256 % 256), UInt8.ofNat (w % 256)] : List UInt8).toArray⟩ : ByteArray) := by
    unfold strOfNums
    simp only [List.map_cons, List.map_nil]
    have e1 : (((w : Int) / 65536) % 256).toNat = w / 65536 % 256 := by omega
    have e2 : (((w : Int) / 256) % 256).toNat = w / 256 % 256 := by omega
    have e3 : ((w : Int) % 256).toNat = w % 256 := by omega
    rw [e1, e2, e3]
  rw [e]
  apply meta_Decode.ba_ext
  rw [Lib.extract_data]
  rfl
omit hg in
theorem meta_Decode.nums_size (w : Nat) : (strOfNums [((w : Int) / 65536) % 256, ((w : Int) / 256) % 256, (w : Int) % 256]).size = 3 := rfl
omit hg in
theorem meta_Decode.parts_length (w n : Nat) (h : n ≤ 3) : (meta_Decode.parts w n).length = n := by unfold meta_Decode.parts; rw [List.length_take]; simp; omega
omit hg in
theorem meta_Decode.encode_f (l : List UInt8) (h : l.length ≤ 1099511627776) : meta_Encode.f ⟨l.toArray⟩ = some ⟨(B64.enc l).toArray⟩ := by
  unfold meta_Encode.f
  rw [if_pos (by show l.toArray.size ≤ _; simpa using h)]
omit hg in
theorem meta_Decode.three_end (n w : Nat) (h2 : 2 ≤ n) (h4 : n ≤ 4) : Ev (fun k => meta_three.l0 k g n (w : Int) ((4 : Nat) : Int)) (⟨(meta_Decode.parts w (n - 1)).toArray⟩, (B64.enc (meta_Decode.parts w (n - 1)) == g.data.toList)) := by
  refine ⟨1, fun k hk => ?_⟩
  obtain ⟨k, rfl⟩ : ∃ m, k = m + 1 := ⟨k - 1, by omega⟩
  simp only [meta_three.l0]
  have e1 : wrap64 ((n : Int) - 1) = ((n - 1 : Nat) : Int) := by unfold wrap64; omega
  rw [if_neg (by omega)]
  simp only [Option.bind_some, e1]
  rw [if_pos (by omega), if_pos (by rw [meta_Decode.nums_size]; omega), Int.toNat_natCast, meta_Decode.parts_ba, meta_Decode.encode_f _ (by rw [meta_Decode.parts_length _ _ (by omega)]; omega)]
  simp only [Option.bind_some, ByteArray.toList_eq]
/-- Whatever four letters: an answer; and where it says yes, its bytes' letters are these. -/
theorem meta_Decode.three_any (n : Nat) (h2 : 2 ≤ n) (h4 : n ≤ 4) (d : Nat) : ∀ (i w : Nat), i + d = 4 → w < 64 ^ i → ∃ y ok, Ev (fun k => meta_three.l0 k g n (w : Int) (i : Int)) (y, ok) ∧ (ok = true → 1 ≤ y.size ∧ y.size ≤ 3 ∧ B64.enc y.data.toList = g.data.toList) := by
  induction d with
  | zero =>
    intro i w hi hw
    obtain rfl : i = 4 := by omega
    refine ⟨_, _, meta_Decode.three_end g n w h2 h4, fun h => ?_⟩
    have hl := meta_Decode.parts_length w (n - 1) (by omega)
    have hs : (⟨(meta_Decode.parts w (n - 1)).toArray⟩ : ByteArray).size = n - 1 := by show (meta_Decode.parts w (n - 1)).toArray.size = _; simpa using hl
    exact ⟨by omega, by omega, by simpa using h⟩
  | succ d ih =>
    intro i w hi hw
    have hw' : w < 16777216 := by
      have : i = 0 ∨ i = 1 ∨ i = 2 ∨ i = 3 := by omega
      rcases this with rfl | rfl | rfl | rfl <;> omega
    by_cases hn : i < n
    · have hl : i < g.data.toList.length := by rw [Array.length_toList]; show i < g.size; omega
      have hc := List.getElem?_eq_getElem hl
      cases hv : meta_Decode.vl (g.data.toList[i]).toNat with
      | none => exact ⟨_, _, meta_Decode.three_bad g hg n w i _ (by omega) hn hc hv, fun h => by cases h⟩
      | some v =>
        have := meta_Decode.vl_range _ _ hv
        obtain ⟨y, ok, h1, h2⟩ := ih (i + 1) (w * 64 + v) (by omega) (by rw [Nat.pow_succ]; omega)
        exact ⟨y, ok, meta_Decode.three_in g hg n w i v _ (by omega) hn hc hv hw' h1, h2⟩
    · obtain ⟨y, ok, h1, h2⟩ := ih (i + 1) (w * 64) (by omega) (by rw [Nat.pow_succ]; omega)
      exact ⟨y, ok, meta_Decode.three_out g n w i (by omega) (by omega) hw' h1, h2⟩
end
/-- Of right letters: their bytes. -/
theorem meta_Decode.three_right (x : List UInt8) (h1 : 1 ≤ x.length) (h3 : x.length ≤ 3) : Ev (fun k => meta_three.l0 k ⟨(B64.four x).toArray⟩ ((x.length + 1 : Nat) : Int) ((0 : Nat) : Int) ((0 : Nat) : Int)) (⟨x.toArray⟩, true) := by
  have hg : (⟨(B64.four x).toArray⟩ : ByteArray).size = 4 := rfl
  have hw := B64.word_lt x
  have v : ∀ s, s < 64 → meta_Decode.vl (B64.let8 s).toNat = some s := fun s hs => by rw [B64.let8_toNat s hs]; exact meta_Decode.vl_lt s hs
  have c0 : (⟨(B64.four x).toArray⟩ : ByteArray).data.toList[0]? = some (B64.let8 (B64.word x / 262144)) := rfl
  have c1 : (⟨(B64.four x).toArray⟩ : ByteArray).data.toList[1]? = some (B64.let8 (B64.word x / 4096 % 64)) := rfl
  have last : ∀ w, w = B64.word x → (⟨(meta_Decode.parts w (x.length + 1 - 1)).toArray⟩, (B64.enc (meta_Decode.parts w (x.length + 1 - 1)) == (⟨(B64.four x).toArray⟩ : ByteArray).data.toList)) = ((⟨x.toArray⟩ : ByteArray), true) := by
    rintro w rfl
    have e : meta_Decode.parts (B64.word x) (x.length + 1 - 1) = x := by
      apply B64.list_of_getD
      · rw [meta_Decode.parts_length _ _ (by omega)]; omega
      · rw [meta_Decode.parts_length _ _ (by omega)]
        intro i hi
        have b0 := (x.getD 0 0).toNat_lt
        have b1 := (x.getD 1 0).toNat_lt
        have b2 := (x.getD 2 0).toNat_lt
        have z : ∀ i, x.length ≤ i → (x.getD i 0).toNat = 0 := fun i hi => by rw [List.getD_eq_getElem?_getD, List.getElem?_eq_none hi]; rfl
        have hgd : (meta_Decode.parts (B64.word x) (x.length + 1 - 1)).getD i 0 = ([UInt8.ofNat (B64.word x / 65536 % 256), UInt8.ofNat (B64.word x / 256 % 256), UInt8.ofNat (B64.word x % 256)] : List UInt8).getD i 0 := by
          unfold meta_Decode.parts
          rw [List.getD_eq_getElem?_getD, List.getD_eq_getElem?_getD, List.getElem?_take, if_pos hi]
        rw [hgd]
        apply UInt8.toNat_inj.1
        have : i = 0 ∨ i = 1 ∨ i = 2 := by omega
        rcases this with rfl | rfl | rfl
        · show (UInt8.ofNat (B64.word x / 65536 % 256)).toNat = _
          rw [UInt8.toNat_ofNat']
          unfold B64.word
          omega
        · show (UInt8.ofNat (B64.word x / 256 % 256)).toNat = _
          rw [UInt8.toNat_ofNat']
          unfold B64.word
          omega
        · show (UInt8.ofNat (B64.word x % 256)).toNat = _
          rw [UInt8.toNat_ofNat']
          unfold B64.word
          omega
    rw [e]
    have e2 : B64.enc x = B64.four x := by
      rw [B64.enc_step x (by intro e0; rw [e0] at h1; simp at h1), List.drop_of_length_le (by omega), B64.enc_nil, List.append_nil]
    rw [e2]
    simp
  refine meta_Decode.three_in _ hg _ 0 0 _ _ (by omega) (by omega) c0 (v _ (by omega)) (by omega) ?_
  refine meta_Decode.three_in _ hg _ _ 1 _ _ (by omega) (by omega) c1 (v _ (by omega)) (by omega) ?_
  have z : ∀ i, x.length ≤ i → (x.getD i 0).toNat = 0 := fun i hi => by rw [List.getD_eq_getElem?_getD, List.getElem?_eq_none hi]; rfl
  by_cases l1 : 1 < x.length
  · have c2 : (⟨(B64.four x).toArray⟩ : ByteArray).data.toList[2]? = some (B64.let8 (B64.word x / 64 % 64)) := congrArg some (if_pos l1)
    refine meta_Decode.three_in _ hg _ _ 2 _ _ (by omega) (by omega) c2 (v _ (by omega)) (by omega) ?_
    by_cases l2 : 2 < x.length
    · have c3 : (⟨(B64.four x).toArray⟩ : ByteArray).data.toList[3]? = some (B64.let8 (B64.word x % 64)) := congrArg some (if_pos l2)
      refine meta_Decode.three_in _ hg _ _ 3 _ _ (by omega) (by omega) c3 (v _ (by omega)) (by omega) ?_
      rw [← last ((((0 * 64 + B64.word x / 262144) * 64 + B64.word x / 4096 % 64) * 64 + B64.word x / 64 % 64) * 64 + B64.word x % 64) (by omega)]
      exact meta_Decode.three_end _ _ _ (by omega) (by omega)
    · refine meta_Decode.three_out _ _ _ 3 (by omega) (by omega) (by omega) ?_
      have z2 := z 2 (by omega)
      rw [← last ((((0 * 64 + B64.word x / 262144) * 64 + B64.word x / 4096 % 64) * 64 + B64.word x / 64 % 64) * 64) (by unfold B64.word at *; omega)]
      exact meta_Decode.three_end _ _ _ (by omega) (by omega)
  · refine meta_Decode.three_out _ _ _ 2 (by omega) (by omega) (by omega) ?_
    refine meta_Decode.three_out _ _ _ 3 (by omega) (by omega) (by omega) ?_
    have z2 := z 2 (by omega)
    have z1 := z 1 (by omega)
    rw [← last ((((0 * 64 + B64.word x / 262144) * 64 + B64.word x / 4096 % 64) * 64) * 64) (by unfold B64.word at *; omega)]
    exact meta_Decode.three_end _ _ _ (by omega) (by omega)
theorem meta_Decode.trim_f (g : ByteArray) (hg : g.size = 4) : strings_TrimRight.f g ⟨#[61]⟩ = some ⟨(Lib.trimRightB g.data.toList 61).toArray⟩ := by
  unfold strings_TrimRight.f
  show (if (61 : UInt8).toNat < 128 ∧ g.size ≤ 9223372036854775807 then _ else none) = _
  rw [if_pos ⟨by decide, by omega⟩]
theorem meta_Decode.trim_four (x : List UInt8) (h1 : 1 ≤ x.length) (h3 : x.length ≤ 3) : (Lib.trimRightB (B64.four x) 61).length = x.length + 1 := by
  have hw := B64.word_lt x
  rw [Lib.trimRightB_take (B64.four x) 61 (x.length + 1) (by rw [B64.four_length]; omega)]
  · rw [List.length_take, B64.four_length]; omega
  · intro j b hj hb
    have hl : j < 4 := by
      rcases Nat.lt_or_ge j 4 with h | h
      · exact h
      · rw [List.getElem?_eq_none (by rw [B64.four_length]; exact h)] at hb; cases hb
    have : j = 2 ∨ j = 3 := by omega
    rcases this with rfl | rfl
    · have e : (B64.four x)[2]? = some 61 := congrArg some (if_neg (by omega))
      rw [e] at hb; injection hb with hb; exact hb.symm
    · have e : (B64.four x)[3]? = some 61 := congrArg some (if_neg (by omega))
      rw [e] at hb; injection hb with hb; exact hb.symm
  · intro b _ hb
    have : x.length = 1 ∨ x.length = 2 ∨ x.length = 3 := by omega
    rcases this with h | h | h
    · rw [h] at hb
      have e : (B64.four x)[1]? = some (B64.let8 (B64.word x / 4096 % 64)) := rfl
      rw [show 1 + 1 - 1 = 1 from rfl, e] at hb; injection hb with hb; subst hb; exact B64.let8_ne _ (by omega)
    · rw [h] at hb
      have e : (B64.four x)[2]? = some (B64.let8 (B64.word x / 64 % 64)) := congrArg some (if_pos (by omega))
      rw [show 2 + 1 - 1 = 2 from rfl, e] at hb; injection hb with hb; subst hb; exact B64.let8_ne _ (by omega)
    · rw [h] at hb
      have e : (B64.four x)[3]? = some (B64.let8 (B64.word x % 64)) := congrArg some (if_pos (by omega))
      rw [show 3 + 1 - 1 = 3 from rfl, e] at hb; injection hb with hb; subst hb; exact B64.let8_ne _ (by omega)
theorem meta_Decode.enc_short (x : List UInt8) (h1 : 1 ≤ x.length) (h3 : x.length ≤ 3) : B64.enc x = B64.four x := by
  rw [B64.enc_step x (by intro e0; rw [e0] at h1; simp at h1), List.drop_of_length_le (by omega), B64.enc_nil, List.append_nil]
theorem meta_Decode.trim_le (l : List UInt8) : (Lib.trimRightB l 61).length ≤ l.length := by
  unfold Lib.trimRightB
  rw [List.length_reverse]
  have := (List.dropWhile_suffix (p := (· == (61 : UInt8))) (l := l.reverse)).length_le
  rw [List.length_reverse] at this
  exact this
/-- Four letters: what 'three' answers. -/
theorem meta_Decode.three_spec (g : ByteArray) (hg : g.size = 4) : ∃ y ok, Ev (fun k => meta_three.f k g) (y, ok) ∧ (ok = true → 1 ≤ y.size ∧ y.size ≤ 3 ∧ B64.enc y.data.toList = g.data.toList) ∧
    (∀ x : List UInt8, 1 ≤ x.length → x.length ≤ 3 → B64.enc x = g.data.toList → ok = true ∧ y = ⟨x.toArray⟩) := by
  have hd : g.data.toList.length = 4 := by rw [Array.length_toList]; exact hg
  have hle := meta_Decode.trim_le g.data.toList
  have hsz : ∀ l : List UInt8, (⟨l.toArray⟩ : ByteArray).size = l.length := fun l => by show l.toArray.size = _; simp
  have open_ : ∀ k, meta_three.f k g = if ((Lib.trimRightB g.data.toList 61).length : Int) < 2 then some (⟨#[]⟩, false) else meta_three.l0 k g ((Lib.trimRightB g.data.toList 61).length : Int) 0 0 := fun k => by
    unfold meta_three.f
    rw [meta_Decode.trim_f g hg]
    simp only [Option.bind_some, hsz]
  by_cases hx : ∃ x : List UInt8, 1 ≤ x.length ∧ x.length ≤ 3 ∧ B64.enc x = g.data.toList
  · obtain ⟨x, h1, h3, he⟩ := hx
    have hf : B64.four x = g.data.toList := by rw [← meta_Decode.enc_short x h1 h3]; exact he
    have hg2 : g = ⟨(B64.four x).toArray⟩ := meta_Decode.ba_ext _ _ (by rw [hf])
    refine ⟨⟨x.toArray⟩, true, ?_, fun _ => ⟨by rw [hsz]; exact h1, by rw [hsz]; exact h3, he⟩, fun x' a b c => ?_⟩
    · have ht := meta_Decode.trim_four x h1 h3
      rw [hf] at ht
      have := meta_Decode.three_right x h1 h3
      rw [← hg2] at this
      refine Ev.congr (fun k => (open_ k).trans (if_neg (by omega))) ?_
      rw [ht]
      exact this
    · exact ⟨rfl, by rw [B64.enc_inj x' x (c.trans he.symm)]⟩
  · by_cases h2 : (Lib.trimRightB g.data.toList 61).length < 2
    · exact ⟨⟨#[]⟩, false, Ev.congr (fun k => (open_ k).trans (if_pos (by omega))) (Ev.now _), (fun h => by cases h), fun x a b c => absurd ⟨x, a, b, c⟩ hx⟩
    · obtain ⟨y, ok, a, b⟩ := meta_Decode.three_any g hg (Lib.trimRightB g.data.toList 61).length (by omega) (by omega) 4 0 0 (by omega) (by decide)
      exact ⟨y, ok, Ev.congr (fun k => (open_ k).trans (if_neg (by omega))) a, b, fun x a b c => absurd ⟨x, a, b, c⟩ hx⟩

/-- So far: what was read, and what is left. -/
def meta_Decode.DRel (a0 : ByteArray) (w : World) (t : ByteArray) (acc : List UInt8) (wr : World) : Prop :=
  IsBld w.heap.size w.heap.size acc wr ∧ Below w.heap.size w wr ∧ B64.enc acc ++ t.data.toList = a0.data.toList ∧ (t.size = 0 ∨ acc.length % 3 = 0) ∧ t.size % 4 = 0
def meta_Decode.DPost (a0 : ByteArray) (w : World) (e : Ending) (w' : World) : Prop := (match B64.dec a0.data.toList with
      | some b => e = .returned (.tuple #[.string ⟨b.toArray⟩, .int .i64 0])
      | none => e = .returned (.tuple #[.string ⟨#[]⟩, .int .i64 6])) ∧ Below w.heap.size w w'
theorem meta_Decode.dpost_bad (a0 : ByteArray) (w w' : World) (h : ¬ ∃ b, B64.enc b = a0.data.toList) (hb : Below w.heap.size w w') : meta_Decode.DPost a0 w (.returned (.tuple #[.string ⟨#[]⟩, .int .i64 6])) w' := by
  unfold meta_Decode.DPost; rw [B64.dec_none _ h]; exact ⟨rfl, hb⟩
theorem meta_Decode.dpost_good (a0 : ByteArray) (w w' : World) (b : List UInt8) (h : B64.enc b = a0.data.toList) (hb : Below w.heap.size w w') : meta_Decode.DPost a0 w (.returned (.tuple #[.string ⟨b.toArray⟩, .int .i64 0])) w' := by
  unfold meta_Decode.DPost; rw [B64.dec_of _ _ h]; exact ⟨rfl, hb⟩
theorem meta_Decode.dsz' (t : ByteArray) : t.data.toList.length = t.size := Array.length_toList
theorem meta_Decode.no_enc (a0 : ByteArray) (h : ¬ a0.size % 4 = 0) : ¬ ∃ b, B64.enc b = a0.data.toList := by
  rintro ⟨b, hb⟩
  have := congrArg List.length hb
  rw [B64.enc_length, meta_Decode.dsz'] at this
  omega
section
variable {a0 t : ByteArray} {acc : List UInt8} (ht : 4 ≤ t.size) (hacc : B64.enc acc ++ t.data.toList = a0.data.toList) (h3 : acc.length % 3 = 0)
include ht hacc h3
/-- If these letters are some bytes', their next four are the next three bytes'. -/
theorem meta_Decode.dec_next (b : List UInt8) (hb : B64.enc b = a0.data.toList) : ∃ c : List UInt8, B64.enc c = t.data.toList ∧ 1 ≤ c.length ∧ B64.enc (c.take 3) = (t.extract 0 4).data.toList := by
  obtain ⟨c, _, hc⟩ := B64.enc_begin acc b t.data.toList h3 (hb.trans hacc.symm)
  have hc0 : c ≠ [] := by rintro rfl; have := congrArg List.length hc; rw [meta_Decode.dsz', B64.enc_nil] at this; simp at this; omega
  have hp := List.length_pos_iff.2 hc0
  refine ⟨c, hc, hp, ?_⟩
  rw [meta_Decode.enc_short (c.take 3) (by rw [List.length_take]; omega) (List.length_take_le _ _), B64.four_take3, Lib.extract_data, ← hc, B64.enc_step c hc0]
  rfl
theorem meta_Decode.dec_bad1 (hr : ∀ x : List UInt8, 1 ≤ x.length → x.length ≤ 3 → B64.enc x = (t.extract 0 4).data.toList → False) : ¬ ∃ b, B64.enc b = a0.data.toList := by
  rintro ⟨b, hb⟩
  obtain ⟨c, _, hp, hc⟩ := meta_Decode.dec_next ht hacc h3 b hb
  exact hr _ (by rw [List.length_take]; omega) (List.length_take_le _ _) hc
theorem meta_Decode.dec_bad2 (y : ByteArray) (hr : ∀ x : List UInt8, 1 ≤ x.length → x.length ≤ 3 → B64.enc x = (t.extract 0 4).data.toList → y = ⟨x.toArray⟩) (hy : y.size < 3) (h5 : 4 < t.size) : ¬ ∃ b, B64.enc b = a0.data.toList := by
  rintro ⟨b, hb⟩
  obtain ⟨c, hct, hp, hc⟩ := meta_Decode.dec_next ht hacc h3 b hb
  have e := hr _ (by rw [List.length_take]; omega) (List.length_take_le _ _) hc
  have hl : y.size = (c.take 3).length := by rw [e]; show (c.take 3).toArray.size = _; simp
  rw [List.length_take] at hl
  have := congrArg List.length hct
  rw [B64.enc_length, meta_Decode.dsz'] at this
  omega
theorem meta_Decode.dec_on (y : ByteArray) (he : B64.enc y.data.toList = (t.extract 0 4).data.toList) (hy1 : 1 ≤ y.size) (hy3 : y.size ≤ 3) (hn : ¬ (y.size < 3 ∧ 4 < t.size)) (h4 : t.size % 4 = 0) :
    B64.enc (acc ++ y.data.toList) ++ (t.extract 4 t.size).data.toList = a0.data.toList ∧ ((t.extract 4 t.size).size = 0 ∨ (acc ++ y.data.toList).length % 3 = 0) ∧ (t.extract 4 t.size).size % 4 = 0 := by
  have hs : (t.extract 4 t.size).size = t.size - 4 := by rw [ByteArray.size_extract]; omega
  refine ⟨?_, ?_, by rw [hs]; omega⟩
  · rw [B64.enc_append _ _ h3, he, Lib.extract_data, Lib.extract_data, ← hacc, List.append_assoc]
    congr 1
    rw [List.drop_zero, List.take_of_length_le (i := t.size - 4) (by rw [List.length_drop, meta_Decode.dsz']; omega)]
    exact List.take_append_drop 4 _
  · rw [hs, List.length_append, meta_Decode.dsz']
    omega
end
theorem meta_Decode.dec_len (a0 : ByteArray) (acc l : List UInt8) (h : B64.enc acc ++ l = a0.data.toList) (hs : a0.size ≤ 1099511627776) : acc.length ≤ 1099511627776 := by
  have := congrArg List.length h
  rw [List.length_append, B64.enc_length, meta_Decode.dsz'] at this
  omega
set_option maxHeartbeats 1600000 in
set_option maxRecDepth 100000 in
theorem meta_Decode.dec_calls (a0 : ByteArray) (w : World) (hs : a0.size ≤ 1099511627776) :
    Calls Tryd.prog 8 #[.string a0] w (meta_Decode.DPost a0 w) := by
  by_cases h4 : a0.size % 4 = 0
  · have hm : (((a0.size : Int) % 4) != 0) = false := by rw [bne_eq_false_iff_eq]; omega
    have H4 := Lib.hid h4
    clear h4
    go_enter Tryd.func8, Tryd.ntmps8
    go_wp2_with fail
    go_loopw [0] (fun s wr => ∃ (t : ByteArray) (acc : List UInt8), s = .string t ∧ meta_Decode.DRel a0 w t acc wr) (fun s wr => match s with | .string t => t.size | _ => 0)
    case atStart => exact ⟨a0, [], rfl, isBld_fresh w, (Below.refl _ w).alloc (Nat.le_refl _) _, rfl, .inr rfl, H4.out⟩
    case round =>
      obtain ⟨t, acc, rfl, hR⟩ := hrel
      have hR' : Hid (meta_Decode.DRel a0 w t acc wr) := hR
      by_cases hE : t.size = 0
      · have hne := meta_Encode.is_empty t hE
        have HE := Lib.hid hE
        obtain ⟨h1, h2, _⟩ := hR
        clear hE
        go_wp2_with fail
        refine (Tryd.Builder_String_any_f w.heap.size w.heap.size acc _ h1 h2.size).mono ?_
        rintro e w1 ⟨rfl, _, hb1⟩
        go_wp2
        go_ret2
        have : t.data.toList = [] := List.length_eq_zero_iff.1 (by rw [meta_Decode.dsz']; exact HE.out)
        have h3 := hR'.out.2.2.1
        rw [this, List.append_nil] at h3
        exact meta_Decode.dpost_good a0 w _ acc h3 (h2.trans hb1)
      · have hne := meta_Encode.ne_empty t hE
        have h4t : 4 ≤ t.size := by have := hR.2.2.2.2; omega
        have hsz : t.size ≤ 9223372036854775807 := by
          have := congrArg List.length hR.2.2.1
          rw [List.length_append, meta_Decode.dsz', meta_Decode.dsz'] at this
          omega
        clear hE hR
        have hg : (t.extract 0 4).size = 4 := by rw [ByteArray.size_extract]; omega
        obtain ⟨y, ok, ⟨K, hev⟩, hyes, hno⟩ := meta_Decode.three_spec (t.extract 0 4) hg
        have HC : Hid (meta_three.f K (t.extract 0 4) = some (y, ok)) := hev K (Nat.le_refl _)
        clear hg hev
        cases ok with
        | false =>
          have HNO := Lib.hid (fun x a b c => Bool.false_ne_true (hno x a b c).1)
          clear hyes hno
          go_wp2_with fail
          refine (meta_three.calls K _ _ _ _ HC.out).mono ?_
          rintro e w1 ⟨rfl, hb1⟩
          go_wp2
          go_ret2
          exact meta_Decode.dpost_bad a0 w _ (meta_Decode.dec_bad1 h4t hR'.out.2.2.1 (by have := hR'.out.2.2.2.1; omega) HNO.out) (hR'.out.2.1.trans (hb1.mono hR'.out.2.1.size))
        | true =>
          have HY := Lib.hid (hyes rfl)
          have HNO := Lib.hid (fun x a b c => (hno x a b c).2)
          clear hyes hno
          by_cases hys : y.size < 3
          · by_cases h5 : 4 < t.size
            · go_wp2_with fail
              refine (meta_three.calls K _ _ _ _ HC.out).mono ?_
              rintro e w1 ⟨rfl, hb1⟩
              go_wp2
              go_ret2
              exact meta_Decode.dpost_bad a0 w _ (meta_Decode.dec_bad2 h4t hR'.out.2.2.1 (by have := hR'.out.2.2.2.1; omega) y HNO.out hys h5) (hR'.out.2.1.trans (hb1.mono hR'.out.2.1.size))
            · go_wp2_with fail
              refine (meta_three.calls K _ _ _ _ HC.out).mono ?_
              rintro e w1 ⟨rfl, hb1⟩
              go_wp2_with fail
              have HB1 := Lib.hid hb1
              have hy3 := HY.out.2.1
              have hlen := meta_Decode.dec_len a0 acc _ hR'.out.2.2.1 hs
              refine (bld_string w.heap.size w.heap.size acc y _ (isBld_below hR'.out.1 HB1.out) (by omega) (by have := hR'.out.2.1.size; have := HB1.out.size; omega)).mono ?_
              rintro e w2 ⟨rfl, hB2, hb2⟩
              have HB2 := Lib.hid hB2
              have Hb2 := Lib.hid hb2
              clear hB2 hb2 hb1
              go_wp2
              go_roundw
              case rel => exact ⟨_, acc ++ y.data.toList, rfl, HB2.out, hR'.out.2.1.trans ((HB1.out.mono hR'.out.2.1.size).trans Hb2.out), meta_Decode.dec_on h4t hR'.out.2.2.1 (by have := hR'.out.2.2.2.1; omega) y HY.out.2.2 HY.out.1 hy3 (by omega) hR'.out.2.2.2.2⟩
              case measure =>
                show (t.extract 4 t.size).size < t.size
                rw [ByteArray.size_extract]
                omega
          · go_wp2_with fail
            refine (meta_three.calls K _ _ _ _ HC.out).mono ?_
            rintro e w1 ⟨rfl, hb1⟩
            go_wp2_with fail
            have HB1 := Lib.hid hb1
            have hy3 := HY.out.2.1
            have hlen := meta_Decode.dec_len a0 acc _ hR'.out.2.2.1 hs
            refine (bld_string w.heap.size w.heap.size acc y _ (isBld_below hR'.out.1 HB1.out) (by omega) (by have := hR'.out.2.1.size; have := HB1.out.size; omega)).mono ?_
            rintro e w2 ⟨rfl, hB2, hb2⟩
            have HB2 := Lib.hid hB2
            have Hb2 := Lib.hid hb2
            clear hB2 hb2 hb1
            go_wp2
            go_roundw
            case rel => exact ⟨_, acc ++ y.data.toList, rfl, HB2.out, hR'.out.2.1.trans ((HB1.out.mono hR'.out.2.1.size).trans Hb2.out), meta_Decode.dec_on h4t hR'.out.2.2.1 (by have := hR'.out.2.2.2.1; omega) y HY.out.2.2 HY.out.1 hy3 (by omega) hR'.out.2.2.2.2⟩
            case measure =>
              show (t.extract 4 t.size).size < t.size
              rw [ByteArray.size_extract]
              omega
  · have hm : (((a0.size : Int) % 4) != 0) = true := by rw [bne_iff_ne]; omega
    have HN := Lib.hid (meta_Decode.no_enc a0 h4)
    clear h4
    go_enter Tryd.func8, Tryd.ntmps8
    go_wp2
    go_ret2
    exact meta_Decode.dpost_bad a0 w _ HN.out (Below.refl _ _)
/-- The bytes of letters. -/
noncomputable def meta_Decode.f (a0 : ByteArray) : Option (ByteArray × Int) := if a0.size ≤ 1099511627776 then (match B64.dec a0.data.toList with
  | some b => some (⟨b.toArray⟩, 0)
  | none => some (⟨#[]⟩, 6)) else none
theorem meta_Decode.calls (a0 : ByteArray) (r1 : ByteArray) (r2 : Int) (w : World) (h : meta_Decode.f a0 = some (r1, r2)) :
    Calls Tryd.prog 8 #[.string a0] w fun e w' => e = .returned (.tuple #[.string r1, .int .i64 r2]) ∧ Below w.heap.size w w' := by
  unfold meta_Decode.f at h
  split at h
  · refine (meta_Decode.dec_calls a0 w (by assumption)).mono ?_
    rintro e w' hd
    unfold meta_Decode.DPost at hd
    split at h
    · rename_i b hb
      rw [hb] at hd
      cases h
      exact hd
    · rename_i hb
      rw [hb] at hd
      cases h
      exact hd
  · cases h

end
end Go.Proofs.YtjmmknabkkainaaDoor.XMl
