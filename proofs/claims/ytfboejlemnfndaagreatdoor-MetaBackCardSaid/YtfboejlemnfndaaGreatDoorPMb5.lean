/- Put together by wip/pack.py (this session's own program) out of this session's texts; a kit's tool laid the words and the shelf, of which only what is used stands here. Lean checks it. -/
import Derived.Test.YtfboejlemnfndaaGreatDoorPMb4
import Derived.Lib.Hide
import Derived.Lib.Strings
import Derived.Laws.Strings
section
namespace Go.Proofs.YtfboejlemnfndaaGreatDoor.XMb
open Go.RowKit Go.Proofs.YtfboejlemnfndaaGreatDoorW.PrintWords Go.Proofs.YtfboejlemnfndaaGreatDoorW.PrintLast Go.Proofs.YtfboejlemnfndaaGreatDoorW.PrintMore
attribute [local go_sem] extract_sub max2_int min2_int max_two min_two max_three min_three max_four min_four   -- for this text's walks alone
set_option linter.unusedVariables false
set_option linter.unusedSimpArgs false

noncomputable section
def meta_Decode.vl (c : Nat) : Option Nat := if 65 ≤ c ∧ c ≤ 90 then some (c - 65) else if 97 ≤ c ∧ c ≤ 122 then some (c - 71) else if 48 ≤ c ∧ c ≤ 57 then some (c + 4) else if c = 43 then some 62 else if c = 47 then some 63 else none
theorem meta_Decode.vl_lt (v : Nat) (h : v < 64) : meta_Decode.vl (B64.lt v) = some v := by
 unfold B64.lt meta_Decode.vl
 split
 · rw [if_pos (by omega)]; congr 1; omega
 · split
   · rw [if_neg (by omega), if_pos (by omega)]; congr 1; omega
   · split
     · rw [if_neg (by omega), if_neg (by omega), if_pos (by omega)]; congr 1; omega
     · split
       · rw [if_neg (by omega), if_neg (by omega), if_neg (by omega), if_pos rfl]; congr 1; omega
       · rw [if_neg (by omega), if_neg (by omega), if_neg (by omega), if_neg (by omega), if_pos rfl]; congr 1; omega
theorem meta_Decode.vl_range (c v : Nat) (h : meta_Decode.vl c = some v) : v < 64 := by
 unfold meta_Decode.vl at h
 repeat' split at h
 all_goals first | cases h; omega | cases h
def meta_Decode.told (o : Option Nat) : Int × Bool := match o with
 | some v => ((v : Int), true)
 | none => (0, false)
theorem meta_Decode.value_f (c k : Nat) (h : c < 256) : meta_value.f (k + 1 + 1 + 1) (c : Int) = some (meta_Decode.told (meta_Decode.vl c)) := by
 unfold meta_value.f
 by_cases a0 : 65 ≤ c
 · rw [if_pos (by omega), meta_value.j0]
   by_cases a1 : c ≤ 90
   · rw [if_pos (decide_eq_true (by omega))]
     have e : meta_Decode.vl c = some (c - 65) := if_pos ⟨a0, a1⟩
     rw [e]
     simp only [meta_Decode.told, Option.some.injEq, Prod.mk.injEq, and_true]; omega
   · rw [if_neg (fun hh => by have := of_decide_eq_true hh; omega)]
     by_cases b0 : 97 ≤ c
     · rw [if_pos (by omega), meta_value.j1]
       by_cases b1 : c ≤ 122
       · rw [if_pos (decide_eq_true (by omega))]
         have e : meta_Decode.vl c = some (c - 71) := by unfold meta_Decode.vl; rw [if_neg (by omega), if_pos ⟨b0, b1⟩]
         rw [e]
         simp only [meta_Decode.told, Option.some.injEq, Prod.mk.injEq, and_true]; omega
       · have e : meta_Decode.vl c = none := by unfold meta_Decode.vl; rw [if_neg (by omega), if_neg (by omega), if_neg (by omega), if_neg (by omega), if_neg (by omega)]
         rw [if_neg (fun hh => by have := of_decide_eq_true hh; omega), if_pos (by omega), meta_value.j2, if_neg (fun hh => by have := of_decide_eq_true hh; omega), if_neg (by omega), if_neg (by omega), e]
         rfl
     · have e : meta_Decode.vl c = none := by unfold meta_Decode.vl; rw [if_neg (by omega), if_neg (by omega), if_neg (by omega), if_neg (by omega), if_neg (by omega)]
       rw [if_neg (by omega), meta_value.j1, if_neg Bool.false_ne_true, if_pos (by omega), meta_value.j2, if_neg (fun hh => by have := of_decide_eq_true hh; omega), if_neg (by omega), if_neg (by omega), e]
       rfl
 · rw [if_neg (by omega), meta_value.j0, if_neg Bool.false_ne_true, if_neg (by omega), meta_value.j1, if_neg Bool.false_ne_true]
   by_cases c0 : 48 ≤ c
   · rw [if_pos (by omega), meta_value.j2]
     by_cases c1 : c ≤ 57
     · rw [if_pos (decide_eq_true (by omega))]
       have e : meta_Decode.vl c = some (c + 4) := by unfold meta_Decode.vl; rw [if_neg (by omega), if_neg (by omega), if_pos ⟨c0, c1⟩]
       rw [e]
       simp only [meta_Decode.told, Option.some.injEq, Prod.mk.injEq, and_true]; omega
     · have e : meta_Decode.vl c = none := by unfold meta_Decode.vl; rw [if_neg (by omega), if_neg (by omega), if_neg (by omega), if_neg (by omega), if_neg (by omega)]
       rw [if_neg (fun hh => by have := of_decide_eq_true hh; omega), if_neg (by omega), if_neg (by omega), e]
       rfl
   · rw [if_neg (by omega), meta_value.j2, if_neg Bool.false_ne_true]
     by_cases d : c = 43
     · have e : meta_Decode.vl c = some 62 := by unfold meta_Decode.vl; rw [if_neg (by omega), if_neg (by omega), if_neg (by omega), if_pos d]
       rw [if_pos (by omega), e]
       rfl
     · rw [if_neg (by omega)]
       by_cases e : c = 47
       · have e' : meta_Decode.vl c = some 63 := by unfold meta_Decode.vl; rw [if_neg (by omega), if_neg (by omega), if_neg (by omega), if_neg d, if_pos e]
         rw [if_pos (by omega), e']
         rfl
       · have e' : meta_Decode.vl c = none := by unfold meta_Decode.vl; rw [if_neg (by omega), if_neg (by omega), if_neg (by omega), if_neg d, if_neg e]
         rw [if_neg (by omega), e']
         rfl
theorem meta_Decode.value_at (c k : Nat) (h : c < 256) (hk : 3 ≤ k) : meta_value.f k (c : Int) = some (meta_Decode.told (meta_Decode.vl c)) := by
 obtain ⟨m, rfl⟩ : ∃ m, k = m + 1 + 1 + 1 := ⟨k - 3, by omega⟩
 exact meta_Decode.value_f c m h
theorem meta_Decode.bt_list (s : ByteArray) (i : Nat) (c : UInt8) (h : s.data.toList[i]? = some c) : bt s (i : Int) = (c.toNat : Int) := by
 have hi : i < s.size := by
  rcases Nat.lt_or_ge i s.size with h' | h'
  · exact h'
  · rw [List.getElem?_eq_none (by rw [Array.length_toList]; exact h')] at h; cases h
 unfold bt
 rw [dif_pos (by simpa using hi)]
 have : s[i]'hi = c := by
  have e := List.getElem?_eq_getElem (l := s.data.toList) (i := i) (by rw [Array.length_toList]; exact hi)
  rw [e] at h
  injection h
 simp only [Int.toNat_natCast]
 rw [this]

section
variable (g : ByteArray) (hg : g.size = 4)
include hg
theorem meta_Decode.three_in (n w i v : Nat) (c : UInt8) (hi : i < 4) (hn : i < n) (hc : g.data.toList[i]? = some c) (hv : meta_Decode.vl c.toNat = some v) (hw : w < 16777216) {r : ByteArray × Bool}
 (h : Ev (fun k => meta_three.l0 k g n ((w * 64 + v : Nat) : Int) ((i + 1 : Nat) : Int)) r) : Ev (fun k => meta_three.l0 k g n (w : Int) (i : Int)) r := by
 obtain ⟨K, h⟩ := h
 refine ⟨K + 4, fun k hk => ?_⟩
 obtain ⟨k, rfl⟩ : ∃ m, k = m + 1 := ⟨k - 1, by omega⟩
 have hv' := meta_Decode.vl_range _ _ hv
 simp only [meta_three.l0]
 rw [if_pos (by omega), if_neg (by omega), if_pos (by omega), if_pos (by omega), meta_Decode.bt_list g i c hc, meta_Decode.value_at _ _ c.toNat_lt (by omega), hv]
 simp only [meta_Decode.told, Option.bind_some, if_true]
 have e0 : ((w : Int) * 64) % 4294967296 = (w : Int) * 64 := by omega
 rw [e0, u32_or6 _ _ (by omega) (by omega) (by omega) (by omega) (by omega)]
 have e1 : (w : Int) * 64 + (v : Int) = ((w * 64 + v : Nat) : Int) := by omega
 have e2 : wrap64 ((i : Int) + 1) = ((i + 1 : Nat) : Int) := by unfold wrap64; omega
 rw [e1, e2]
 exact h k (by omega)
theorem meta_Decode.three_bad (n w i : Nat) (c : UInt8) (hi : i < 4) (hn : i < n) (hc : g.data.toList[i]? = some c) (hv : meta_Decode.vl c.toNat = none) :
 Ev (fun k => meta_three.l0 k g n (w : Int) (i : Int)) (⟨#[]⟩, false) := by
 refine ⟨4, fun k hk => ?_⟩
 obtain ⟨k, rfl⟩ : ∃ m, k = m + 1 := ⟨k - 1, by omega⟩
 simp only [meta_three.l0]
 rw [if_pos (by omega), if_neg (by omega), if_pos (by omega), if_pos (by omega), meta_Decode.bt_list g i c hc, meta_Decode.value_at _ _ c.toNat_lt (by omega), hv]
 rfl
omit hg in
theorem meta_Decode.three_out (n w i : Nat) (hi : i < 4) (hn : n ≤ i) (hw : w < 16777216) {r : ByteArray × Bool}
 (h : Ev (fun k => meta_three.l0 k g n ((w * 64 : Nat) : Int) ((i + 1 : Nat) : Int)) r) : Ev (fun k => meta_three.l0 k g n (w : Int) (i : Int)) r := by
 refine Ev.step (fun k => ?_) h
 simp only [meta_three.l0]
 rw [if_pos (by omega), if_pos (by omega)]
 have e1 : ((w : Int) * 64) % 4294967296 = ((w * 64 : Nat) : Int) := by omega
 have e2 : wrap64 ((i : Int) + 1) = ((i + 1 : Nat) : Int) := by unfold wrap64; omega
 rw [e1, e2]
def meta_Decode.parts (w n : Nat) : List UInt8 := ([UInt8.ofNat (w / 65536 % 256), UInt8.ofNat (w / 256 % 256), UInt8.ofNat (w % 256)] : List UInt8).take n
omit hg in
theorem meta_Decode.ba_ext (x y : ByteArray) (h : x.data.toList = y.data.toList) : x = y := by
 cases x; cases y; congr 1; exact Array.toList_inj.1 h
omit hg in
theorem meta_Decode.parts_ba (w n : Nat) : (strOfNums [((w : Int) / 65536) % 256, ((w : Int) / 256) % 256, (w : Int) % 256]).extract 0 n = (⟨(meta_Decode.parts w n).toArray⟩ : ByteArray) := by
 have e : (strOfNums [((w : Int) / 65536) % 256, ((w : Int) / 256) % 256, (w : Int) % 256]) = (⟨([UInt8.ofNat (w / 65536 % 256), UInt8.ofNat (w / 256 % 256), UInt8.ofNat (w % 256)] : List UInt8).toArray⟩ : ByteArray) := by
  unfold strOfNums
  simp only [List.map_cons, List.map_nil]
  have e1 : (((w : Int) / 65536) % 256).toNat = w / 65536 % 256 := by omega
  have e2 : (((w : Int) / 256) % 256).toNat = w / 256 % 256 := by omega
  have e3 : ((w : Int) % 256).toNat = w % 256 := by omega
  rw [e1, e2, e3]
 rw [e]
 apply meta_Decode.ba_ext
 rw [Lib.extract_data]
 rfl
omit hg in
theorem meta_Decode.nums_size (w : Nat) : (strOfNums [((w : Int) / 65536) % 256, ((w : Int) / 256) % 256, (w : Int) % 256]).size = 3 := rfl
omit hg in
theorem meta_Decode.parts_length (w n : Nat) (h : n ≤ 3) : (meta_Decode.parts w n).length = n := by unfold meta_Decode.parts; rw [List.length_take]; simp; omega
omit hg in
theorem meta_Decode.encode_f (l : List UInt8) (h : l.length ≤ 1099511627776) : meta_Encode.f ⟨l.toArray⟩ = some ⟨(B64.enc l).toArray⟩ := by
 unfold meta_Encode.f
 rw [if_pos (by show l.toArray.size ≤ _; simpa using h)]
omit hg in
theorem meta_Decode.three_end (n w : Nat) (h2 : 2 ≤ n) (h4 : n ≤ 4) : Ev (fun k => meta_three.l0 k g n (w : Int) ((4 : Nat) : Int)) (⟨(meta_Decode.parts w (n - 1)).toArray⟩, (B64.enc (meta_Decode.parts w (n - 1)) == g.data.toList)) := by
 refine ⟨1, fun k hk => ?_⟩
 obtain ⟨k, rfl⟩ : ∃ m, k = m + 1 := ⟨k - 1, by omega⟩
 simp only [meta_three.l0]
 have e1 : wrap64 ((n : Int) - 1) = ((n - 1 : Nat) : Int) := by unfold wrap64; omega
 rw [if_neg (by omega)]
 simp only [Option.bind_some, e1]
 rw [if_pos (by omega), if_pos (by rw [meta_Decode.nums_size]; omega), Int.toNat_natCast, ← extract_sub, meta_Decode.parts_ba, meta_Decode.encode_f _ (by rw [meta_Decode.parts_length _ _ (by omega)]; omega)]
 simp only [Option.bind_some, ByteArray.toList_eq]
theorem meta_Decode.three_any (n : Nat) (h2 : 2 ≤ n) (h4 : n ≤ 4) (d : Nat) : ∀ (i w : Nat), i + d = 4 → w < 64 ^ i → ∃ y ok, Ev (fun k => meta_three.l0 k g n (w : Int) (i : Int)) (y, ok) ∧ (ok = true → 1 ≤ y.size ∧ y.size ≤ 3 ∧ B64.enc y.data.toList = g.data.toList) := by
 induction d with
 | zero =>
  intro i w hi hw
  obtain rfl : i = 4 := by omega
  refine ⟨_, _, meta_Decode.three_end g n w h2 h4, fun h => ?_⟩
  have hl := meta_Decode.parts_length w (n - 1) (by omega)
  have hs : (⟨(meta_Decode.parts w (n - 1)).toArray⟩ : ByteArray).size = n - 1 := by show (meta_Decode.parts w (n - 1)).toArray.size = _; simpa using hl
  exact ⟨by omega, by omega, by simpa using h⟩
 | succ d ih =>
  intro i w hi hw
  have hw' : w < 16777216 := by
   have : i = 0 ∨ i = 1 ∨ i = 2 ∨ i = 3 := by omega
   rcases this with rfl | rfl | rfl | rfl <;> omega
  by_cases hn : i < n
  · have hl : i < g.data.toList.length := by rw [Array.length_toList]; show i < g.size; omega
    have hc := List.getElem?_eq_getElem hl
    cases hv : meta_Decode.vl (g.data.toList[i]).toNat with
    | none => exact ⟨_, _, meta_Decode.three_bad g hg n w i _ (by omega) hn hc hv, fun h => by cases h⟩
    | some v =>
     have := meta_Decode.vl_range _ _ hv
     obtain ⟨y, ok, h1, h2⟩ := ih (i + 1) (w * 64 + v) (by omega) (by rw [Nat.pow_succ]; omega)
     exact ⟨y, ok, meta_Decode.three_in g hg n w i v _ (by omega) hn hc hv hw' h1, h2⟩
  · obtain ⟨y, ok, h1, h2⟩ := ih (i + 1) (w * 64) (by omega) (by rw [Nat.pow_succ]; omega)
    exact ⟨y, ok, meta_Decode.three_out g n w i (by omega) (by omega) hw' h1, h2⟩
end
theorem meta_Decode.three_right (x : List UInt8) (h1 : 1 ≤ x.length) (h3 : x.length ≤ 3) : Ev (fun k => meta_three.l0 k ⟨(B64.four x).toArray⟩ ((x.length + 1 : Nat) : Int) ((0 : Nat) : Int) ((0 : Nat) : Int)) (⟨x.toArray⟩, true) := by
 have hg : (⟨(B64.four x).toArray⟩ : ByteArray).size = 4 := rfl
 have hw := B64.word_lt x
 have v : ∀ s, s < 64 → meta_Decode.vl (B64.let8 s).toNat = some s := fun s hs => by rw [B64.let8_toNat s hs]; exact meta_Decode.vl_lt s hs
 have c0 : (⟨(B64.four x).toArray⟩ : ByteArray).data.toList[0]? = some (B64.let8 (B64.word x / 262144)) := rfl
 have c1 : (⟨(B64.four x).toArray⟩ : ByteArray).data.toList[1]? = some (B64.let8 (B64.word x / 4096 % 64)) := rfl
 have last : ∀ w, w = B64.word x → (⟨(meta_Decode.parts w (x.length + 1 - 1)).toArray⟩, (B64.enc (meta_Decode.parts w (x.length + 1 - 1)) == (⟨(B64.four x).toArray⟩ : ByteArray).data.toList)) = ((⟨x.toArray⟩ : ByteArray), true) := by
  rintro w rfl
  have e : meta_Decode.parts (B64.word x) (x.length + 1 - 1) = x := by
   apply B64.list_of_getD
   · rw [meta_Decode.parts_length _ _ (by omega)]; omega
   · rw [meta_Decode.parts_length _ _ (by omega)]
     intro i hi
     have b0 := (x.getD 0 0).toNat_lt
     have b1 := (x.getD 1 0).toNat_lt
     have b2 := (x.getD 2 0).toNat_lt
     have z : ∀ i, x.length ≤ i → (x.getD i 0).toNat = 0 := fun i hi => by rw [List.getD_eq_getElem?_getD, List.getElem?_eq_none hi]; rfl
     have hgd : (meta_Decode.parts (B64.word x) (x.length + 1 - 1)).getD i 0 = ([UInt8.ofNat (B64.word x / 65536 % 256), UInt8.ofNat (B64.word x / 256 % 256), UInt8.ofNat (B64.word x % 256)] : List UInt8).getD i 0 := by
      unfold meta_Decode.parts
      rw [List.getD_eq_getElem?_getD, List.getD_eq_getElem?_getD, List.getElem?_take, if_pos hi]
     rw [hgd]
     apply UInt8.toNat_inj.1
     have : i = 0 ∨ i = 1 ∨ i = 2 := by omega
     rcases this with rfl | rfl | rfl
     · show (UInt8.ofNat (B64.word x / 65536 % 256)).toNat = _
       rw [UInt8.toNat_ofNat']
       unfold B64.word
       omega
     · show (UInt8.ofNat (B64.word x / 256 % 256)).toNat = _
       rw [UInt8.toNat_ofNat']
       unfold B64.word
       omega
     · show (UInt8.ofNat (B64.word x % 256)).toNat = _
       rw [UInt8.toNat_ofNat']
       unfold B64.word
       omega
  rw [e]
  have e2 : B64.enc x = B64.four x := by
   rw [B64.enc_step x (by intro e0; rw [e0] at h1; simp at h1), List.drop_of_length_le (by omega), B64.enc_nil, List.append_nil]
  rw [e2]
  simp
 refine meta_Decode.three_in _ hg _ 0 0 _ _ (by omega) (by omega) c0 (v _ (by omega)) (by omega) ?_
 refine meta_Decode.three_in _ hg _ _ 1 _ _ (by omega) (by omega) c1 (v _ (by omega)) (by omega) ?_
 have z : ∀ i, x.length ≤ i → (x.getD i 0).toNat = 0 := fun i hi => by rw [List.getD_eq_getElem?_getD, List.getElem?_eq_none hi]; rfl
 by_cases l1 : 1 < x.length
 · have c2 : (⟨(B64.four x).toArray⟩ : ByteArray).data.toList[2]? = some (B64.let8 (B64.word x / 64 % 64)) := congrArg some (if_pos l1)
   refine meta_Decode.three_in _ hg _ _ 2 _ _ (by omega) (by omega) c2 (v _ (by omega)) (by omega) ?_
   by_cases l2 : 2 < x.length
   · have c3 : (⟨(B64.four x).toArray⟩ : ByteArray).data.toList[3]? = some (B64.let8 (B64.word x % 64)) := congrArg some (if_pos l2)
     refine meta_Decode.three_in _ hg _ _ 3 _ _ (by omega) (by omega) c3 (v _ (by omega)) (by omega) ?_
     rw [← last ((((0 * 64 + B64.word x / 262144) * 64 + B64.word x / 4096 % 64) * 64 + B64.word x / 64 % 64) * 64 + B64.word x % 64) (by omega)]
     exact meta_Decode.three_end _ _ _ (by omega) (by omega)
   · refine meta_Decode.three_out _ _ _ 3 (by omega) (by omega) (by omega) ?_
     have z2 := z 2 (by omega)
     rw [← last ((((0 * 64 + B64.word x / 262144) * 64 + B64.word x / 4096 % 64) * 64 + B64.word x / 64 % 64) * 64) (by unfold B64.word at *; omega)]
     exact meta_Decode.three_end _ _ _ (by omega) (by omega)
 · refine meta_Decode.three_out _ _ _ 2 (by omega) (by omega) (by omega) ?_
   refine meta_Decode.three_out _ _ _ 3 (by omega) (by omega) (by omega) ?_
   have z2 := z 2 (by omega)
   have z1 := z 1 (by omega)
   rw [← last ((((0 * 64 + B64.word x / 262144) * 64 + B64.word x / 4096 % 64) * 64) * 64) (by unfold B64.word at *; omega)]
   exact meta_Decode.three_end _ _ _ (by omega) (by omega)
theorem meta_Decode.trim_f (g : ByteArray) (hg : g.size = 4) : strings_TrimRight.f g ⟨#[61]⟩ = some ⟨(Lib.trimRightB g.data.toList 61).toArray⟩ := by
 unfold strings_TrimRight.f
 show (if (61 : UInt8).toNat < 128 ∧ g.size ≤ 9223372036854775807 then _ else none) = _
 rw [if_pos ⟨by decide, by omega⟩]
theorem meta_Decode.trim_four (x : List UInt8) (h1 : 1 ≤ x.length) (h3 : x.length ≤ 3) : (Lib.trimRightB (B64.four x) 61).length = x.length + 1 := by
 have hw := B64.word_lt x
 rw [Lib.trimRightB_take (B64.four x) 61 (x.length + 1) (by rw [B64.four_length]; omega)]
 · rw [List.length_take, B64.four_length]; omega
 · intro j b hj hb
   have hl : j < 4 := by
    rcases Nat.lt_or_ge j 4 with h | h
    · exact h
    · rw [List.getElem?_eq_none (by rw [B64.four_length]; exact h)] at hb; cases hb
   have : j = 2 ∨ j = 3 := by omega
   rcases this with rfl | rfl
   · have e : (B64.four x)[2]? = some 61 := congrArg some (if_neg (by omega))
     rw [e] at hb; injection hb with hb; exact hb.symm
   · have e : (B64.four x)[3]? = some 61 := congrArg some (if_neg (by omega))
     rw [e] at hb; injection hb with hb; exact hb.symm
 · intro b _ hb
   have : x.length = 1 ∨ x.length = 2 ∨ x.length = 3 := by omega
   rcases this with h | h | h
   · rw [h] at hb
     have e : (B64.four x)[1]? = some (B64.let8 (B64.word x / 4096 % 64)) := rfl
     rw [show 1 + 1 - 1 = 1 from rfl, e] at hb; injection hb with hb; subst hb; exact B64.let8_ne _ (by omega)
   · rw [h] at hb
     have e : (B64.four x)[2]? = some (B64.let8 (B64.word x / 64 % 64)) := congrArg some (if_pos (by omega))
     rw [show 2 + 1 - 1 = 2 from rfl, e] at hb; injection hb with hb; subst hb; exact B64.let8_ne _ (by omega)
   · rw [h] at hb
     have e : (B64.four x)[3]? = some (B64.let8 (B64.word x % 64)) := congrArg some (if_pos (by omega))
     rw [show 3 + 1 - 1 = 3 from rfl, e] at hb; injection hb with hb; subst hb; exact B64.let8_ne _ (by omega)
theorem meta_Decode.enc_short (x : List UInt8) (h1 : 1 ≤ x.length) (h3 : x.length ≤ 3) : B64.enc x = B64.four x := by
 rw [B64.enc_step x (by intro e0; rw [e0] at h1; simp at h1), List.drop_of_length_le (by omega), B64.enc_nil, List.append_nil]
theorem meta_Decode.trim_le (l : List UInt8) : (Lib.trimRightB l 61).length ≤ l.length := by
 unfold Lib.trimRightB
 rw [List.length_reverse]
 have := (List.dropWhile_suffix (p := (· == (61 : UInt8))) (l := l.reverse)).length_le
 rw [List.length_reverse] at this
 exact this
theorem meta_Decode.three_spec (g : ByteArray) (hg : g.size = 4) : ∃ y ok, Ev (fun k => meta_three.f k g) (y, ok) ∧ (ok = true → 1 ≤ y.size ∧ y.size ≤ 3 ∧ B64.enc y.data.toList = g.data.toList) ∧
 (∀ x : List UInt8, 1 ≤ x.length → x.length ≤ 3 → B64.enc x = g.data.toList → ok = true ∧ y = ⟨x.toArray⟩) := by
 have hd : g.data.toList.length = 4 := by rw [Array.length_toList]; exact hg
 have hle := meta_Decode.trim_le g.data.toList
 have hsz : ∀ l : List UInt8, (⟨l.toArray⟩ : ByteArray).size = l.length := fun l => by show l.toArray.size = _; simp
 have open_ : ∀ k, meta_three.f k g = if ((Lib.trimRightB g.data.toList 61).length : Int) < 2 then some (⟨#[]⟩, false) else meta_three.l0 k g ((Lib.trimRightB g.data.toList 61).length : Int) 0 0 := fun k => by
  unfold meta_three.f
  rw [meta_Decode.trim_f g hg]
  simp only [Option.bind_some, hsz]
 by_cases hx : ∃ x : List UInt8, 1 ≤ x.length ∧ x.length ≤ 3 ∧ B64.enc x = g.data.toList
 · obtain ⟨x, h1, h3, he⟩ := hx
   have hf : B64.four x = g.data.toList := by rw [← meta_Decode.enc_short x h1 h3]; exact he
   have hg2 : g = ⟨(B64.four x).toArray⟩ := meta_Decode.ba_ext _ _ (by rw [hf])
   refine ⟨⟨x.toArray⟩, true, ?_, fun _ => ⟨by rw [hsz]; exact h1, by rw [hsz]; exact h3, he⟩, fun x' a b c => ?_⟩
   · have ht := meta_Decode.trim_four x h1 h3
     rw [hf] at ht
     have := meta_Decode.three_right x h1 h3
     rw [← hg2] at this
     refine Ev.congr (fun k => (open_ k).trans (if_neg (by omega))) ?_
     rw [ht]
     exact this
   · exact ⟨rfl, by rw [B64.enc_inj x' x (c.trans he.symm)]⟩
 · by_cases h2 : (Lib.trimRightB g.data.toList 61).length < 2
   · exact ⟨⟨#[]⟩, false, Ev.congr (fun k => (open_ k).trans (if_pos (by omega))) (Ev.now _), (fun h => by cases h), fun x a b c => absurd ⟨x, a, b, c⟩ hx⟩
   · obtain ⟨y, ok, a, b⟩ := meta_Decode.three_any g hg (Lib.trimRightB g.data.toList 61).length (by omega) (by omega) 4 0 0 (by omega) (by decide)
     exact ⟨y, ok, Ev.congr (fun k => (open_ k).trans (if_neg (by omega))) a, b, fun x a b c => absurd ⟨x, a, b, c⟩ hx⟩

def meta_Decode.DRel (a0 : ByteArray) (w : World) (t : ByteArray) (acc : List UInt8) (wr : World) : Prop :=
 IsBld w.heap.size w.heap.size acc wr ∧ Below w.heap.size w wr ∧ B64.enc acc ++ t.data.toList = a0.data.toList ∧ (t.size = 0 ∨ acc.length % 3 = 0) ∧ t.size % 4 = 0
def meta_Decode.DPost (a0 : ByteArray) (w : World) (e : Ending) (w' : World) : Prop := (match B64.dec a0.data.toList with
 | some b => e = .returned (.tuple #[.string ⟨b.toArray⟩, .int .i64 0])
 | none => e = .returned (.tuple #[.string ⟨#[]⟩, .int .i64 6])) ∧ Below w.heap.size w w'
theorem meta_Decode.dpost_bad (a0 : ByteArray) (w w' : World) (h : ¬ ∃ b, B64.enc b = a0.data.toList) (hb : Below w.heap.size w w') : meta_Decode.DPost a0 w (.returned (.tuple #[.string ⟨#[]⟩, .int .i64 6])) w' := by
 unfold meta_Decode.DPost; rw [B64.dec_none _ h]; exact ⟨rfl, hb⟩
theorem meta_Decode.dpost_good (a0 : ByteArray) (w w' : World) (b : List UInt8) (h : B64.enc b = a0.data.toList) (hb : Below w.heap.size w w') : meta_Decode.DPost a0 w (.returned (.tuple #[.string ⟨b.toArray⟩, .int .i64 0])) w' := by
 unfold meta_Decode.DPost; rw [B64.dec_of _ _ h]; exact ⟨rfl, hb⟩
theorem meta_Decode.dsz' (t : ByteArray) : t.data.toList.length = t.size := Array.length_toList
theorem meta_Decode.no_enc (a0 : ByteArray) (h : ¬ a0.size % 4 = 0) : ¬ ∃ b, B64.enc b = a0.data.toList := by
 rintro ⟨b, hb⟩
 have := congrArg List.length hb
 rw [B64.enc_length, meta_Decode.dsz'] at this
 omega
section
variable {a0 t : ByteArray} {acc : List UInt8} (ht : 4 ≤ t.size) (hacc : B64.enc acc ++ t.data.toList = a0.data.toList) (h3 : acc.length % 3 = 0)
include ht hacc h3
theorem meta_Decode.dec_next (b : List UInt8) (hb : B64.enc b = a0.data.toList) : ∃ c : List UInt8, B64.enc c = t.data.toList ∧ 1 ≤ c.length ∧ B64.enc (c.take 3) = (t.extract 0 4).data.toList := by
 obtain ⟨c, _, hc⟩ := B64.enc_begin acc b t.data.toList h3 (hb.trans hacc.symm)
 have hc0 : c ≠ [] := by rintro rfl; have := congrArg List.length hc; rw [meta_Decode.dsz', B64.enc_nil] at this; simp at this; omega
 have hp := List.length_pos_iff.2 hc0
 refine ⟨c, hc, hp, ?_⟩
 rw [meta_Decode.enc_short (c.take 3) (by rw [List.length_take]; omega) (List.length_take_le _ _), B64.four_take3, Lib.extract_data, ← hc, B64.enc_step c hc0]
 rfl
theorem meta_Decode.dec_bad1 (hr : ∀ x : List UInt8, 1 ≤ x.length → x.length ≤ 3 → B64.enc x = (t.extract 0 4).data.toList → False) : ¬ ∃ b, B64.enc b = a0.data.toList := by
 rintro ⟨b, hb⟩
 obtain ⟨c, _, hp, hc⟩ := meta_Decode.dec_next ht hacc h3 b hb
 exact hr _ (by rw [List.length_take]; omega) (List.length_take_le _ _) hc
theorem meta_Decode.dec_bad2 (y : ByteArray) (hr : ∀ x : List UInt8, 1 ≤ x.length → x.length ≤ 3 → B64.enc x = (t.extract 0 4).data.toList → y = ⟨x.toArray⟩) (hy : y.size < 3) (h5 : 4 < t.size) : ¬ ∃ b, B64.enc b = a0.data.toList := by
 rintro ⟨b, hb⟩
 obtain ⟨c, hct, hp, hc⟩ := meta_Decode.dec_next ht hacc h3 b hb
 have e := hr _ (by rw [List.length_take]; omega) (List.length_take_le _ _) hc
 have hl : y.size = (c.take 3).length := by rw [e]; show (c.take 3).toArray.size = _; simp
 rw [List.length_take] at hl
 have := congrArg List.length hct
 rw [B64.enc_length, meta_Decode.dsz'] at this
 omega
theorem meta_Decode.dec_on (y : ByteArray) (he : B64.enc y.data.toList = (t.extract 0 4).data.toList) (hy1 : 1 ≤ y.size) (hy3 : y.size ≤ 3) (hn : ¬ (y.size < 3 ∧ 4 < t.size)) (h4 : t.size % 4 = 0) :
 B64.enc (acc ++ y.data.toList) ++ (t.extract 4 t.size).data.toList = a0.data.toList ∧ ((t.extract 4 t.size).size = 0 ∨ (acc ++ y.data.toList).length % 3 = 0) ∧ (t.extract 4 t.size).size % 4 = 0 := by
 have hs : (t.extract 4 t.size).size = t.size - 4 := by rw [ByteArray.size_extract]; omega
 refine ⟨?_, ?_, by rw [hs]; omega⟩
 · rw [B64.enc_append _ _ h3, he, Lib.extract_data, Lib.extract_data, ← hacc, List.append_assoc]
   congr 1
   rw [List.drop_zero, List.take_of_length_le (i := t.size - 4) (by rw [List.length_drop, meta_Decode.dsz']; omega)]
   exact List.take_append_drop 4 _
 · rw [hs, List.length_append, meta_Decode.dsz']
   omega
end
theorem meta_Decode.dec_len (a0 : ByteArray) (acc l : List UInt8) (h : B64.enc acc ++ l = a0.data.toList) (hs : a0.size ≤ 1099511627776) : acc.length ≤ 1099511627776 := by
 have := congrArg List.length h
 rw [List.length_append, B64.enc_length, meta_Decode.dsz'] at this
 omega
set_option maxHeartbeats 1600000 in
set_option maxRecDepth 100000 in
theorem meta_Decode.dec_calls (a0 : ByteArray) (w : World) (hs : a0.size ≤ 1099511627776) :
 Calls Tryz.prog 27 #[.string a0] w (meta_Decode.DPost a0 w) := by
 by_cases h4 : a0.size % 4 = 0
 · have hm : (((a0.size : Int) % 4) != 0) = false := by rw [bne_eq_false_iff_eq]; omega
   have H4 := Lib.hid h4
   clear h4
   go_enter Tryz.func27, Tryz.ntmps27
   go_wp2_with fail
   go_loopw [0] (fun s wr => ∃ (t : ByteArray) (acc : List UInt8), s = .string t ∧ meta_Decode.DRel a0 w t acc wr) (fun s wr => match s with | .string t => t.size | _ => 0)
   case atStart => exact ⟨a0, [], rfl, isBld_fresh w, (Below.refl _ w).alloc (Nat.le_refl _) _, rfl, .inr rfl, H4.out⟩
   case round =>
    obtain ⟨t, acc, rfl, hR⟩ := hrel
    have hR' : Hid (meta_Decode.DRel a0 w t acc wr) := hR
    by_cases hE : t.size = 0
    · have hne := meta_Encode.is_empty t hE
      have HE := Lib.hid hE
      obtain ⟨h1, h2, _⟩ := hR
      clear hE
      go_wp2_with fail
      refine (Tryz.Builder_String_any_f w.heap.size w.heap.size acc _ h1 h2.size).mono ?_
      rintro e w1 ⟨rfl, _, hb1⟩
      go_wp2
      go_ret2
      have : t.data.toList = [] := List.length_eq_zero_iff.1 (by rw [meta_Decode.dsz']; exact HE.out)
      have h3 := hR'.out.2.2.1
      rw [this, List.append_nil] at h3
      exact meta_Decode.dpost_good a0 w _ acc h3 (h2.trans hb1)
    · have hne := meta_Encode.ne_empty t hE
      have h4t : 4 ≤ t.size := by have := hR.2.2.2.2; omega
      have hsz : t.size ≤ 9223372036854775807 := by
       have := congrArg List.length hR.2.2.1
       rw [List.length_append, meta_Decode.dsz', meta_Decode.dsz'] at this
       omega
      clear hE hR
      have hg : (t.extract 0 4).size = 4 := by rw [ByteArray.size_extract]; omega
      obtain ⟨y, ok, ⟨K, hev⟩, hyes, hno⟩ := meta_Decode.three_spec (t.extract 0 4) hg
      have HC : Hid (meta_three.f K (t.extract 0 4) = some (y, ok)) := hev K (Nat.le_refl _)
      clear hg hev
      cases ok with
      | false =>
       have HNO := Lib.hid (fun x a b c => Bool.false_ne_true (hno x a b c).1)
       clear hyes hno
       go_wp2_with fail
       refine (meta_three.calls K _ _ _ _ HC.out).mono ?_
       rintro e w1 ⟨rfl, hb1⟩
       go_wp2
       go_ret2
       exact meta_Decode.dpost_bad a0 w _ (meta_Decode.dec_bad1 h4t hR'.out.2.2.1 (by have := hR'.out.2.2.2.1; omega) HNO.out) (hR'.out.2.1.trans (hb1.mono hR'.out.2.1.size))
      | true =>
       have HY := Lib.hid (hyes rfl)
       have HNO := Lib.hid (fun x a b c => (hno x a b c).2)
       clear hyes hno
       by_cases hys : y.size < 3
       · by_cases h5 : 4 < t.size
         · go_wp2_with fail
           refine (meta_three.calls K _ _ _ _ HC.out).mono ?_
           rintro e w1 ⟨rfl, hb1⟩
           go_wp2
           go_ret2
           exact meta_Decode.dpost_bad a0 w _ (meta_Decode.dec_bad2 h4t hR'.out.2.2.1 (by have := hR'.out.2.2.2.1; omega) y HNO.out hys h5) (hR'.out.2.1.trans (hb1.mono hR'.out.2.1.size))
         · go_wp2_with fail
           refine (meta_three.calls K _ _ _ _ HC.out).mono ?_
           rintro e w1 ⟨rfl, hb1⟩
           go_wp2_with fail
           have HB1 := Lib.hid hb1
           have hy3 := HY.out.2.1
           have hlen := meta_Decode.dec_len a0 acc _ hR'.out.2.2.1 hs
           refine (bld_string w.heap.size w.heap.size acc y _ (isBld_below hR'.out.1 HB1.out) (by omega) (by have := hR'.out.2.1.size; have := HB1.out.size; omega)).mono ?_
           rintro e w2 ⟨rfl, hB2, hb2⟩
           have HB2 := Lib.hid hB2
           have Hb2 := Lib.hid hb2
           clear hB2 hb2 hb1
           go_wp2
           go_roundw
           case rel => exact ⟨_, acc ++ y.data.toList, rfl, HB2.out, hR'.out.2.1.trans ((HB1.out.mono hR'.out.2.1.size).trans Hb2.out), meta_Decode.dec_on h4t hR'.out.2.2.1 (by have := hR'.out.2.2.2.1; omega) y HY.out.2.2 HY.out.1 hy3 (by omega) hR'.out.2.2.2.2⟩
           case measure =>
            show (t.extract 4 t.size).size < t.size
            rw [ByteArray.size_extract]
            omega
       · go_wp2_with fail
         refine (meta_three.calls K _ _ _ _ HC.out).mono ?_
         rintro e w1 ⟨rfl, hb1⟩
         go_wp2_with fail
         have HB1 := Lib.hid hb1
         have hy3 := HY.out.2.1
         have hlen := meta_Decode.dec_len a0 acc _ hR'.out.2.2.1 hs
         refine (bld_string w.heap.size w.heap.size acc y _ (isBld_below hR'.out.1 HB1.out) (by omega) (by have := hR'.out.2.1.size; have := HB1.out.size; omega)).mono ?_
         rintro e w2 ⟨rfl, hB2, hb2⟩
         have HB2 := Lib.hid hB2
         have Hb2 := Lib.hid hb2
         clear hB2 hb2 hb1
         go_wp2
         go_roundw
         case rel => exact ⟨_, acc ++ y.data.toList, rfl, HB2.out, hR'.out.2.1.trans ((HB1.out.mono hR'.out.2.1.size).trans Hb2.out), meta_Decode.dec_on h4t hR'.out.2.2.1 (by have := hR'.out.2.2.2.1; omega) y HY.out.2.2 HY.out.1 hy3 (by omega) hR'.out.2.2.2.2⟩
         case measure =>
          show (t.extract 4 t.size).size < t.size
          rw [ByteArray.size_extract]
          omega
 · have hm : (((a0.size : Int) % 4) != 0) = true := by rw [bne_iff_ne]; omega
   have HN := Lib.hid (meta_Decode.no_enc a0 h4)
   clear h4
   go_enter Tryz.func27, Tryz.ntmps27
   go_wp2
   go_ret2
   exact meta_Decode.dpost_bad a0 w _ HN.out (Below.refl _ _)
noncomputable def meta_Decode.f (a0 : ByteArray) : Option (ByteArray × Int) := if a0.size ≤ 1099511627776 then (match B64.dec a0.data.toList with
 | some b => some (⟨b.toArray⟩, 0)
 | none => some (⟨#[]⟩, 6)) else none
theorem meta_Decode.calls (a0 : ByteArray) (r1 : ByteArray) (r2 : Int) (w : World) (h : meta_Decode.f a0 = some (r1, r2)) :
 Calls Tryz.prog 27 #[.string a0] w fun e w' => e = .returned (.tuple #[.string r1, .int .i64 r2]) ∧ Below w.heap.size w w' := by
 unfold meta_Decode.f at h
 split at h
 · refine (meta_Decode.dec_calls a0 w (by assumption)).mono ?_
   rintro e w' hd
   unfold meta_Decode.DPost at hd
   split at h
   · rename_i b hb
     rw [hb] at hd
     cases h
     exact hd
   · rename_i hb
     rw [hb] at hd
     cases h
     exact hd
 · cases h

end
end Go.Proofs.YtfboejlemnfndaaGreatDoor.XMb
end
section
namespace Go.Proofs.YtfboejlemnfndaaGreatDoor.XMb
open Go.RowKit Go.Proofs.YtfboejlemnfndaaGreatDoorW.PrintWords Go.Proofs.YtfboejlemnfndaaGreatDoorW.PrintLast Go.Proofs.YtfboejlemnfndaaGreatDoorW.PrintMore
attribute [local go_sem] extract_sub max2_int min2_int max_two min_two max_three min_three max_four min_four   -- for this text's walks alone
set_option linter.unusedVariables false
set_option linter.unusedSimpArgs false

noncomputable section
def meta_size.f (a0 : ByteArray) : Option (Int × Bool) := (digits_Parse.f a0).bind fun bt192 => (if bt192.2 = 0 then (some (wrap64 (bt192.1), decide (bt192.1 ≤ 2147483647))) else (some (wrap64 (bt192.1), false)))
set_option maxHeartbeats 8000000 in
set_option maxRecDepth 100000 in
theorem meta_size.calls (a0 : ByteArray) (r1 : Int) (r2 : Bool) (w : World) (hv : Vars w) (h : meta_size.f a0 = some (r1, r2)) :
 Calls Tryz.prog 73 #[.string a0] w fun e w' => e = .returned (.tuple #[.int .i64 r1, .bool r2]) ∧ Below w.heap.size w w' := by
 have HV := Aside0.mk hv
 clear hv
 have HB := Aside0.mk (Below.refl w.heap.size w)
 have H : ((digits_Parse.f a0).bind fun bt192 => (if bt192.2 = 0 then (some (wrap64 (bt192.1), decide (bt192.1 ≤ 2147483647))) else (some (wrap64 (bt192.1), false)))) = some (r1, r2) := h
 clear h
 replace H := Option.bind_eq_some_iff.mp H
 obtain ⟨⟨t192, t193⟩, A20, H⟩ := H
 replace H : (if t193 = 0 then (some (wrap64 (t192), decide (t192 ≤ 2147483647))) else (some (wrap64 (t192), false))) = some (r1, r2) := H
 have A2 := Aside0.mk A20
 clear A20
 by_cases c3 : t193 = 0
 · rw [if_pos c3] at H
   have c3b0 : (t193 == 0) = true := beq_iff_eq.mpr c3
   have c3b1 : (t193 != 0) = false := bne_eq_false_iff_eq.mpr c3
   clear c3
   simp only [Option.some.injEq, Prod.mk.injEq] at H
   obtain ⟨rfl, rfl⟩ := H
   go_enter Tryz.func73, Tryz.ntmps73
   go_wp2_with (first | ((with_reducible refine gate_callee (f := 38) rfl ?_); refine goesL_ (some 8) rfl rfl Tryz.func38 (by kernel_rfl) rfl #[.string a0] rfl (by (try simp only [List.map_toArray, List.map_cons, List.map_nil]); first | done | rfl | (simp only [List.length_drop, List.length_take]; rfl) | (simp only [IntKind.wrap_u64]; rw [Int.emod_eq_of_lt (by omega) (by omega)]; rfl) | (simp only [ByteArray.size_extract]; done) | (simp only [ByteArray.size_extract]; rfl)) ?_; (with_reducible refine (digits_Parse.calls a0 t192 t193 _ ?side1 A2.out).mono ?_); (case side1 => exact Vars.below HV.out (by repeat (first | (with_reducible first | exact HB.out | apply below_alloc | apply pw_below_drewN | apply below_drew1) | exact HB.out))); rintro e w4 ⟨rfl, hb⟩; refine ⟨_, rfl, ?_⟩; have n0_ := Aside0.mk (below_step (by repeat (first | (with_reducible first | exact HB.out | apply below_alloc | apply pw_below_drewN | apply below_drew1) | exact HB.out)) hb); clear HB; have HB := n0_; clear n0_; (try clear hb); (try clear hb2); (try clear hk); (try clear hi)))
   go_ret2
   exact ⟨by first | rfl | (simp [errW_none, errW_some] <;> rfl) | (simp [*, errW_none, errW_some] <;> rfl), by repeat (first | (with_reducible first | exact HB.out | apply below_alloc | apply pw_below_drewN | apply below_drew1) | exact HB.out)⟩
 · rw [if_neg c3] at H
   have c3b0 : (t193 == 0) = false := beq_eq_false_iff_ne.mpr c3
   have c3b1 : (t193 != 0) = true := bne_iff_ne.mpr c3
   simp only [Option.some.injEq, Prod.mk.injEq] at H
   obtain ⟨rfl, rfl⟩ := H
   go_enter Tryz.func73, Tryz.ntmps73
   go_wp2_with (first | ((with_reducible refine gate_callee (f := 38) rfl ?_); refine goesL_ (some 8) rfl rfl Tryz.func38 (by kernel_rfl) rfl #[.string a0] rfl (by (try simp only [List.map_toArray, List.map_cons, List.map_nil]); first | done | rfl | (simp only [List.length_drop, List.length_take]; rfl) | (simp only [IntKind.wrap_u64]; rw [Int.emod_eq_of_lt (by omega) (by omega)]; rfl) | (simp only [ByteArray.size_extract]; done) | (simp only [ByteArray.size_extract]; rfl)) ?_; (with_reducible refine (digits_Parse.calls a0 t192 t193 _ ?side1 A2.out).mono ?_); (case side1 => exact Vars.below HV.out (by repeat (first | (with_reducible first | exact HB.out | apply below_alloc | apply pw_below_drewN | apply below_drew1) | exact HB.out))); rintro e w5 ⟨rfl, hb⟩; refine ⟨_, rfl, ?_⟩; have n0_ := Aside0.mk (below_step (by repeat (first | (with_reducible first | exact HB.out | apply below_alloc | apply pw_below_drewN | apply below_drew1) | exact HB.out)) hb); clear HB; have HB := n0_; clear n0_; (try clear hb); (try clear hb2); (try clear hk); (try clear hi)))
   go_ret2
   exact ⟨by first | rfl | (simp [errW_none, errW_some] <;> rfl) | (simp [*, errW_none, errW_some] <;> rfl), by repeat (first | (with_reducible first | exact HB.out | apply below_alloc | apply pw_below_drewN | apply below_drew1) | exact HB.out)⟩

end
end Go.Proofs.YtfboejlemnfndaaGreatDoor.XMb
end
section
namespace Go.Proofs.YtfboejlemnfndaaGreatDoor.XMb
open Go.RowKit Go.Proofs.YtfboejlemnfndaaGreatDoorW.PrintWords Go.Proofs.YtfboejlemnfndaaGreatDoorW.PrintLast Go.Proofs.YtfboejlemnfndaaGreatDoorW.PrintMore
attribute [local go_sem] extract_sub max2_int min2_int max_two min_two max_three min_three max_four min_four   -- for this text's walks alone
set_option linter.unusedVariables false
set_option linter.unusedSimpArgs false

noncomputable section
mutual
def meta_words.j0 : Nat → Int → List ByteArray → Bool → Int → ByteArray → Int → Option (Int × ByteArray × Int × (List (S61)) × Bool)
 | 0, _, _, _, _, _, _ => none
 | k + 1, x0, x1, x20, x195000, x195001, x195002 => if x20 = true then (if 0 < (x1.length : Int) then (if 1 ≤ (x1.length : Int) then (meta_words.j1 k x0 (x1.drop 1) x195000 (rdOf ByteArray.empty x1 0) x195002) else (none)) else (none)) else (meta_words.j1 k x0 x1 x195000 x195001 x195002)
def meta_words.j1 : Nat → Int → List ByteArray → Int → ByteArray → Int → Option (Int × ByteArray × Int × (List (S61)) × Bool)
 | 0, _, _, _, _, _ => none
 | k + 1, x0, x1, x195000, x195001, x195002 => if x0 = 2 then (meta_words.j2 k x0 x1 (decide ((x1.length : Int) > 0)) x195000 x195001 x195002) else (meta_words.j2 k x0 x1 false x195000 x195001 x195002)
def meta_words.j2 : Nat → Int → List ByteArray → Bool → Int → ByteArray → Int → Option (Int × ByteArray × Int × (List (S61)) × Bool)
 | 0, _, _, _, _, _, _ => none
 | k + 1, x0, x1, x33, x195000, x195001, x195002 => if x33 = true then (if 0 < (x1.length : Int) then ((meta_size.f (rdOf ByteArray.empty x1 0)).bind fun bt202 => (if bt202.2 = true then (if 1 ≤ (x1.length : Int) then (meta_words.j3 k x0 (x1.drop 1) x195000 x195001 bt202.1) else (none)) else (some (0, (⟨#[]⟩ : ByteArray), 0, ([] : List (S61)), false)))) else (none)) else (meta_words.j3 k x0 x1 x195000 x195001 x195002)
def meta_words.j3 : Nat → Int → List ByteArray → Int → ByteArray → Int → Option (Int × ByteArray × Int × (List (S61)) × Bool)
 | 0, _, _, _, _, _ => none
 | k + 1, x0, x1, x195000, x195001, x195002 => meta_words.l0 k x0 x1 (x1.length : Int) 0 x195000 x195001 x195002 ([] : List (S61))
def meta_words.l0 : Nat → Int → List ByteArray → Int → Int → Int → ByteArray → Int → List (S61) → Option (Int × ByteArray × Int × (List (S61)) × Bool)
 | 0, _, _, _, _, _, _, _, _ => none
 | k + 1, x0, x47, x48, x49, x195000, x195001, x195002, x195003 => if x49 < x48 then (if 0 ≤ x49 then (if x49 < (x47.length : Int) then (if (rdOf ByteArray.empty x47 x49).toList = ([] : List UInt8) then (some (0, (⟨#[]⟩ : ByteArray), 0, ([] : List (S61)), false)) else (if 0 < ((rdOf ByteArray.empty x47 x49).size : Int) then (if 1 ≤ ((rdOf ByteArray.empty x47 x49).size : Int) then (if x195003.length < 5864062014805 then (meta_words.l0 k x0 x47 x48 (wrap64 (x49 + 1)) x195000 x195001 x195002 (x195003 ++ [(⟨bt (rdOf ByteArray.empty x47 x49) 0, sub (rdOf ByteArray.empty x47 x49) 1 (rdOf ByteArray.empty x47 x49).size⟩ : S61)])) else (none)) else (none)) else (none))) else (none)) else (none)) else ((meta_Find.f x195000 x195001 x195002 x195003 98).bind fun bt213 => (if bt213.2 = true then (meta_words.j5 k (x0 != 5) x195000 x195001 x195002 x195003) else (meta_words.j5 k false x195000 x195001 x195002 x195003)))
def meta_words.j5 : Nat → Bool → Int → ByteArray → Int → List (S61) → Option (Int × ByteArray × Int × (List (S61)) × Bool)
 | 0, _, _, _, _, _ => none
 | k + 1, x76, x195000, x195001, x195002, x195003 => if x76 = true then ((meta_Decode.f x195001).bind fun bt215 => (if bt215.2 = 0 then (some (x195000, bt215.1, x195002, x195003, true)) else (some (0, (⟨#[]⟩ : ByteArray), 0, ([] : List (S61)), false)))) else (some (x195000, x195001, x195002, x195003, true))
end
def meta_words.f (k : Nat) (a0 : Int) (l1 : List ByteArray) : Option (Int × ByteArray × Int × (List (S61)) × Bool) := if a0 = 5 then (meta_words.j0 k a0 l1 false a0 (⟨#[]⟩ : ByteArray) 0) else (meta_words.j0 k a0 l1 (decide ((l1.length : Int) > 0)) a0 (⟨#[]⟩ : ByteArray) 0)
theorem meta_words.mono_l : ∀ k, (∀ y0 y1 y2 y3 y4 y5, LeO (meta_words.j0 k y0 y1 y2 y3 y4 y5) (meta_words.j0 (k + 1) y0 y1 y2 y3 y4 y5)) ∧ (∀ y0 y1 y2 y3 y4, LeO (meta_words.j1 k y0 y1 y2 y3 y4) (meta_words.j1 (k + 1) y0 y1 y2 y3 y4)) ∧ (∀ y0 y1 y2 y3 y4 y5, LeO (meta_words.j2 k y0 y1 y2 y3 y4 y5) (meta_words.j2 (k + 1) y0 y1 y2 y3 y4 y5)) ∧ (∀ y0 y1 y2 y3 y4, LeO (meta_words.j3 k y0 y1 y2 y3 y4) (meta_words.j3 (k + 1) y0 y1 y2 y3 y4)) ∧ (∀ y0 y1 y2 y3 y4 y5 y6 y7, LeO (meta_words.l0 k y0 y1 y2 y3 y4 y5 y6 y7) (meta_words.l0 (k + 1) y0 y1 y2 y3 y4 y5 y6 y7)) ∧ (∀ y0 y1 y2 y3 y4, LeO (meta_words.j5 k y0 y1 y2 y3 y4) (meta_words.j5 (k + 1) y0 y1 y2 y3 y4))
 | 0 => ⟨fun _ _ _ _ _ _ r h => by simp [meta_words.j0] at h, fun _ _ _ _ _ r h => by simp [meta_words.j1] at h, fun _ _ _ _ _ _ r h => by simp [meta_words.j2] at h, fun _ _ _ _ _ r h => by simp [meta_words.j3] at h, fun _ _ _ _ _ _ _ _ r h => by simp [meta_words.l0] at h, fun _ _ _ _ _ r h => by simp [meta_words.j5] at h⟩
 | k + 1 => by
  obtain ⟨ih0, ih1, ih2, ih3, ih4, ih5⟩ := meta_words.mono_l k
  refine ⟨?_, ?_, ?_, ?_, ?_, ?_⟩
  · intro y0 y1 y2 y3 y4 y5
    unfold meta_words.j0
    repeat' first
    | (with_reducible exact ih0 _ _ _ _ _ _)
    | (with_reducible exact ih1 _ _ _ _ _)
    | (with_reducible exact ih2 _ _ _ _ _ _)
    | (with_reducible exact ih3 _ _ _ _ _)
    | (with_reducible exact ih4 _ _ _ _ _ _ _ _)
    | (with_reducible exact ih5 _ _ _ _ _)
    | (with_reducible exact LeO.refl _)
    | (with_reducible exact LeO.none _)
    | (with_reducible refine LeO.ite ?_ ?_)
    | (with_reducible refine LeO.bind ?_ (fun _ => ?_))
    | exact ih0 _ _ _ _ _ _
    | exact ih1 _ _ _ _ _
    | exact ih2 _ _ _ _ _ _
    | exact ih3 _ _ _ _ _
    | exact ih4 _ _ _ _ _ _ _ _
    | exact ih5 _ _ _ _ _
    | exact LeO.none _
    | refine LeO.ite ?_ ?_
    | refine LeO.bind ?_ (fun _ => ?_)
  · intro y0 y1 y2 y3 y4
    unfold meta_words.j1
    repeat' first
    | (with_reducible exact ih0 _ _ _ _ _ _)
    | (with_reducible exact ih1 _ _ _ _ _)
    | (with_reducible exact ih2 _ _ _ _ _ _)
    | (with_reducible exact ih3 _ _ _ _ _)
    | (with_reducible exact ih4 _ _ _ _ _ _ _ _)
    | (with_reducible exact ih5 _ _ _ _ _)
    | (with_reducible exact LeO.refl _)
    | (with_reducible exact LeO.none _)
    | (with_reducible refine LeO.ite ?_ ?_)
    | (with_reducible refine LeO.bind ?_ (fun _ => ?_))
    | exact ih0 _ _ _ _ _ _
    | exact ih1 _ _ _ _ _
    | exact ih2 _ _ _ _ _ _
    | exact ih3 _ _ _ _ _
    | exact ih4 _ _ _ _ _ _ _ _
    | exact ih5 _ _ _ _ _
    | exact LeO.none _
    | refine LeO.ite ?_ ?_
    | refine LeO.bind ?_ (fun _ => ?_)
  · intro y0 y1 y2 y3 y4 y5
    unfold meta_words.j2
    repeat' first
    | (with_reducible exact ih0 _ _ _ _ _ _)
    | (with_reducible exact ih1 _ _ _ _ _)
    | (with_reducible exact ih2 _ _ _ _ _ _)
    | (with_reducible exact ih3 _ _ _ _ _)
    | (with_reducible exact ih4 _ _ _ _ _ _ _ _)
    | (with_reducible exact ih5 _ _ _ _ _)
    | (with_reducible exact LeO.refl _)
    | (with_reducible exact LeO.none _)
    | (with_reducible refine LeO.ite ?_ ?_)
    | (with_reducible refine LeO.bind ?_ (fun _ => ?_))
    | exact ih0 _ _ _ _ _ _
    | exact ih1 _ _ _ _ _
    | exact ih2 _ _ _ _ _ _
    | exact ih3 _ _ _ _ _
    | exact ih4 _ _ _ _ _ _ _ _
    | exact ih5 _ _ _ _ _
    | exact LeO.none _
    | refine LeO.ite ?_ ?_
    | refine LeO.bind ?_ (fun _ => ?_)
  · intro y0 y1 y2 y3 y4
    unfold meta_words.j3
    repeat' first
    | (with_reducible exact ih0 _ _ _ _ _ _)
    | (with_reducible exact ih1 _ _ _ _ _)
    | (with_reducible exact ih2 _ _ _ _ _ _)
    | (with_reducible exact ih3 _ _ _ _ _)
    | (with_reducible exact ih4 _ _ _ _ _ _ _ _)
    | (with_reducible exact ih5 _ _ _ _ _)
    | (with_reducible exact LeO.refl _)
    | (with_reducible exact LeO.none _)
    | (with_reducible refine LeO.ite ?_ ?_)
    | (with_reducible refine LeO.bind ?_ (fun _ => ?_))
    | exact ih0 _ _ _ _ _ _
    | exact ih1 _ _ _ _ _
    | exact ih2 _ _ _ _ _ _
    | exact ih3 _ _ _ _ _
    | exact ih4 _ _ _ _ _ _ _ _
    | exact ih5 _ _ _ _ _
    | exact LeO.none _
    | refine LeO.ite ?_ ?_
    | refine LeO.bind ?_ (fun _ => ?_)
  · intro y0 y1 y2 y3 y4 y5 y6 y7
    unfold meta_words.l0
    repeat' first
    | (with_reducible exact ih0 _ _ _ _ _ _)
    | (with_reducible exact ih1 _ _ _ _ _)
    | (with_reducible exact ih2 _ _ _ _ _ _)
    | (with_reducible exact ih3 _ _ _ _ _)
    | (with_reducible exact ih4 _ _ _ _ _ _ _ _)
    | (with_reducible exact ih5 _ _ _ _ _)
    | (with_reducible exact LeO.refl _)
    | (with_reducible exact LeO.none _)
    | (with_reducible refine LeO.ite ?_ ?_)
    | (with_reducible refine LeO.bind ?_ (fun _ => ?_))
    | exact ih0 _ _ _ _ _ _
    | exact ih1 _ _ _ _ _
    | exact ih2 _ _ _ _ _ _
    | exact ih3 _ _ _ _ _
    | exact ih4 _ _ _ _ _ _ _ _
    | exact ih5 _ _ _ _ _
    | exact LeO.none _
    | refine LeO.ite ?_ ?_
    | refine LeO.bind ?_ (fun _ => ?_)
  · intro y0 y1 y2 y3 y4
    unfold meta_words.j5
    repeat' first
    | (with_reducible exact ih0 _ _ _ _ _ _)
    | (with_reducible exact ih1 _ _ _ _ _)
    | (with_reducible exact ih2 _ _ _ _ _ _)
    | (with_reducible exact ih3 _ _ _ _ _)
    | (with_reducible exact ih4 _ _ _ _ _ _ _ _)
    | (with_reducible exact ih5 _ _ _ _ _)
    | (with_reducible exact LeO.refl _)
    | (with_reducible exact LeO.none _)
    | (with_reducible refine LeO.ite ?_ ?_)
    | (with_reducible refine LeO.bind ?_ (fun _ => ?_))
    | exact ih0 _ _ _ _ _ _
    | exact ih1 _ _ _ _ _
    | exact ih2 _ _ _ _ _ _
    | exact ih3 _ _ _ _ _
    | exact ih4 _ _ _ _ _ _ _ _
    | exact ih5 _ _ _ _ _
    | exact LeO.none _
    | refine LeO.ite ?_ ?_
    | refine LeO.bind ?_ (fun _ => ?_)
theorem meta_words.mono : ∀ a0 a1 k, LeO (meta_words.f k a0 a1) (meta_words.f (k + 1) a0 a1) := by
 intro a0 a1 k
 obtain ⟨ih0, ih1, ih2, ih3, ih4, ih5⟩ := meta_words.mono_l k
 unfold meta_words.f
 repeat' first
  | (with_reducible exact ih0 _ _ _ _ _ _)
  | (with_reducible exact ih1 _ _ _ _ _)
  | (with_reducible exact ih2 _ _ _ _ _ _)
  | (with_reducible exact ih3 _ _ _ _ _)
  | (with_reducible exact ih4 _ _ _ _ _ _ _ _)
  | (with_reducible exact ih5 _ _ _ _ _)
  | (with_reducible exact LeO.refl _)
  | (with_reducible exact LeO.none _)
  | (with_reducible refine LeO.ite ?_ ?_)
  | (with_reducible refine LeO.bind ?_ (fun _ => ?_))
  | exact ih0 _ _ _ _ _ _
  | exact ih1 _ _ _ _ _
  | exact ih2 _ _ _ _ _ _
  | exact ih3 _ _ _ _ _
  | exact ih4 _ _ _ _ _ _ _ _
  | exact ih5 _ _ _ _ _
  | exact LeO.none _
  | refine LeO.ite ?_ ?_
  | refine LeO.bind ?_ (fun _ => ?_)
def meta_words.T3 : Bool × List (List Nat × List Nat) := (true, [([], []), ([0], [0]), ([1], [1]), ([], []), ([3], [3]), ([0, 1, 2], []), ([5, 2, 0, 1, 2], [2, 5]), ([4, 6, 0, 1, 2, 3, 4, 5, 6], [0, 3, 4])])
def meta_words.B3 : List Nat := [0, 1, 3, 0, 8, 7, 39, 127]
theorem meta_words.tab3 : rtab .any (opsOf Tryz.f50 3) = meta_words.T3 := by kernel_rfl
theorem meta_words.bits3 : waitsOk meta_words.T3.2 meta_words.B3 = true := by kernel_rfl
def meta_words.T14 : Bool × List (List Nat × List Nat) := (true, [([], []), ([0], [0]), ([], []), ([2], [2]), ([], []), ([4], [4]), ([3, 5], [3, 5]), ([6], [6]), ([1, 7], [1, 7]), ([0, 1, 2, 3, 4, 5, 6, 7, 8], []), ([9, 8, 8, 0, 1, 2, 3, 4, 5, 6, 7, 8], [8, 9])])
def meta_words.B14 : List Nat := [0, 1, 0, 4, 0, 16, 60, 124, 255, 511, 1023]
theorem meta_words.tab14 : rtab .any (opsOf Tryz.f50 14) = meta_words.T14 := by kernel_rfl
theorem meta_words.bits14 : waitsOk meta_words.T14.2 meta_words.B14 = true := by kernel_rfl
set_option maxHeartbeats 8000000 in
set_option maxRecDepth 100000 in
theorem meta_words.calls (k : Nat) (a0 : Int) (P1_ : Nat → Prop) (A1 : Option Addr) (c1 : Nat) (l1 : List ByteArray) (r1 : Int) (r2 : ByteArray) (r3 : Int) (r4 : List (S61)) (r5 : Bool) (w : World) (hs1 : Kd.V Kd.string 9 w w.heap.size (fun k_ => P1_ k_) (.slice A1 l1.length c1) l1) (hv : Vars w) (h : meta_words.f k a0 l1 = some (r1, r2, r3, r4, r5)) :
 Calls Tryz.prog 50 #[.int .i64 a0, .slice A1 l1.length c1] w fun e w' => ∃ v3_ : Value, e = .returned (.tuple #[.agg #[.int .i64 r1, .string r2, .int .i64 r3, v3_], .bool r5]) ∧ Kd.R k61 61 w' w.heap.size (fun k_ => (w.heap.size ≤ k_)) v3_ r4 ∧ Below w.heap.size w w' := by
 have hu31 := Tryz.underlying31
 have hu61 := Tryz.underlying61
 have HV := Aside0.mk hv
 clear hv
 have HO1 := Aside0.mk (show Kd.V Kd.string 9 w w.heap.size (fun k_ => (P1_ k_ ∨ w.heap.size ≤ k_)) (.slice A1 l1.length c1) l1 from Kd.V_mono hs1 (fun k_ hk => .inl hk))
 have HB := Aside0.mk (Below.refl w.heap.size w)
 have H : (if a0 = 5 then (meta_words.j0 k a0 l1 false a0 (⟨#[]⟩ : ByteArray) 0) else (meta_words.j0 k a0 l1 (decide ((l1.length : Int) > 0)) a0 (⟨#[]⟩ : ByteArray) 0)) = some (r1, r2, r3, r4, r5) := h
 clear h
 have HC3 := Aside0.mk H
 clear H
 go_enter Tryz.func50, Tryz.ntmps50
 go_upto_region 2 with (first | ((with_reducible refine gate_dst (N := 4) rfl ?_); (try (refine gate_guard (by rfl) ?_; dsimp only)); refine box_event ?hg (N := 4) ?hd (cs := #[.int .i64 0, .string (⟨#[]⟩ : ByteArray), .int .i64 0, .slice none 0 0]) (t := 31) ?hr ?_; (case hd => rfl); (case hg => rfl); (case hr => first | (go_simp; done) | (go_simp; rfl)); intro gb194 hg w4 hbox hb; have n0_ := Aside0.mk (Kd.V_below (Kd.V_elderB (by (with_reducible repeat (first | apply Kd.V_alloc | apply Kd.V_drewN | apply Kd.V_drew)); exact HO1.out) gb194 (Nat.le_of_eq hg.symm)) hb); have n1_ := Aside0.mk (below_step (by repeat (first | (with_reducible first | exact HB.out | apply below_alloc | apply pw_below_drewN | apply below_drew1) | exact HB.out)) hb); have n2_ := Aside0.mk (hbox); have n3_ := Aside0.mk ((by rw [hg]; exact (below_size (by repeat (first | (with_reducible first | exact HB.out | apply below_alloc | apply pw_below_drewN | apply below_drew1) | exact HB.out))) : w.heap.size ≤ gb194)); have n4_ := Aside0.mk ((by rw [hg]; exact (below_size (by repeat (first | (with_reducible first | exact HB.out | apply below_alloc | apply pw_below_drewN | apply below_drew1) | exact HB.out))) : w.heap.size ≤ gb194)); clear HO1; clear HB; have HO1 := n0_; have HB := n1_; have BK194 := n2_; have GW194 := n3_; have GE194 := n4_; clear n0_ n1_ n2_ n3_ n4_; clear hb hbox hg; have hcz5_0 : w4.cell? ⟨gb194, 0, none⟩ = some (.int .i64 0) := (blk_cell BK194.out 0).trans rfl; have hcz5_1 : w4.cell? ⟨gb194, 1, none⟩ = some (.string (⟨#[]⟩ : ByteArray)) := (blk_cell BK194.out 1).trans rfl; have hcz5_2 : w4.cell? ⟨gb194, 2, none⟩ = some (.int .i64 0) := (blk_cell BK194.out 2).trans rfl; have hcz5_3 : w4.cell? ⟨gb194, 3, none⟩ = some (.slice none 0 0) := (blk_cell BK194.out 3).trans rfl; have hfz5_0 := blk_frozen BK194.out 0; have hfz5_1 := blk_frozen BK194.out 1; have hfz5_2 := blk_frozen BK194.out 2; have hfz5_3 := blk_frozen BK194.out 3))
 (try simp only [Act.put, List.setIfInBounds_toArray, List.set_cons_zero, List.set_cons_succ])
 go_cut [20] (fun v20 wc => ∃ (kq : Nat) (x20_2 : Bool), v20 = .bool x20_2 ∧ Aside0 (meta_words.j0 kq a0 l1 x20_2 a0 (⟨#[]⟩ : ByteArray) 0 = some (r1, r2, r3, r4, r5)) ∧ Aside0 (kq ≤ k) ∧ Aside0 (Kd.V Kd.string 9 wc w.heap.size (fun k_ => (P1_ k_ ∨ w.heap.size ≤ k_) ∧ k_ ≠ gb194) (.slice A1 l1.length c1) l1) ∧ Aside0 (wc.heap[gb194]? = some (.cells #[.int .i64 a0, .string (⟨#[]⟩ : ByteArray), .int .i64 0, (.slice none 0 0)] 31 (0, 0))) ∧ Aside0 (Below w.heap.size w wc))
 case first =>
  have H := HC3.out
  clear HC3
  by_cases c6 : a0 = 5
  · rw [if_pos c6] at H
    have c6b0 : (a0 == 5) = true := beq_iff_eq.mpr c6
    have c6b1 : (a0 != 5) = false := bne_eq_false_iff_eq.mpr c6
    clear c6
    (first | rw [c6b0] | (simp only [i64_w, i32_w]; rw [c6b0]) | skip)
    have H' := Aside0.mk H
    clear H
    go_wp2
    go_meet
    case rel => exact ⟨_, (false), (by first | rfl | (simp; done) | (simp [*]; done)), H', ⟨by first | omega | exact Nat.le_refl _⟩, ⟨by (with_reducible repeat (first | apply Kd.V_alloc | apply Kd.V_drewN | apply Kd.V_drew)); exact Kd.V_mono (Kd.V_far (p := ⟨gb194, 0, none⟩) (Kd.V_mono HO1.out (fun k_ hk => (⟨hk, hk.2⟩ : _ ∧ k_ ≠ gb194))) (fun _ hk => hk.2) (.int .i64 a0)) (fun _ hk => ⟨hk.1.1, hk.1.2⟩)⟩, ⟨by (with_reducible repeat (first | refine blk_drewN ?_ _ | refine blk_drew ?_ | refine blk_alloc ?_ _)); refine blk_put (cs := #[.int .i64 0, .string (⟨#[]⟩ : ByteArray), .int .i64 0, .slice none 0 0]) ?_ 0 _ rfl; (with_reducible repeat (first | refine blk_drewN ?_ _ | refine blk_drew ?_ | refine blk_alloc ?_ _)); exact BK194.out⟩, ⟨by repeat (first | (with_reducible first | exact HB.out | apply below_alloc | apply pw_below_drewN | apply below_drew1 | refine below_set ?_ GE194.out) | exact HB.out)⟩⟩
  · rw [if_neg c6] at H
    have c6b0 : (a0 == 5) = false := beq_eq_false_iff_ne.mpr c6
    have c6b1 : (a0 != 5) = true := bne_iff_ne.mpr c6
    (first | rw [c6b0] | (simp only [i64_w, i32_w]; rw [c6b0]) | skip)
    have H' := Aside0.mk H
    clear H
    go_wp2
    go_meet
    case rel => exact ⟨_, (decide ((l1.length : Int) > 0)), (by first | rfl | (simp; done) | (simp [*]; done)), H', ⟨by first | omega | exact Nat.le_refl _⟩, ⟨by (with_reducible repeat (first | apply Kd.V_alloc | apply Kd.V_drewN | apply Kd.V_drew)); exact Kd.V_mono (Kd.V_far (p := ⟨gb194, 0, none⟩) (Kd.V_mono HO1.out (fun k_ hk => (⟨hk, hk.2⟩ : _ ∧ k_ ≠ gb194))) (fun _ hk => hk.2) (.int .i64 a0)) (fun _ hk => ⟨hk.1.1, hk.1.2⟩)⟩, ⟨by (with_reducible repeat (first | refine blk_drewN ?_ _ | refine blk_drew ?_ | refine blk_alloc ?_ _)); refine blk_put (cs := #[.int .i64 0, .string (⟨#[]⟩ : ByteArray), .int .i64 0, .slice none 0 0]) ?_ 0 _ rfl; (with_reducible repeat (first | refine blk_drewN ?_ _ | refine blk_drew ?_ | refine blk_alloc ?_ _)); exact BK194.out⟩, ⟨by repeat (first | (with_reducible first | exact HB.out | apply below_alloc | apply pw_below_drewN | apply below_drew1 | refine below_set ?_ GE194.out) | exact HB.out)⟩⟩
 case rest =>
  clear HC3
  try clear c1
  try clear p2
  try clear c5
  try clear c6
  try clear c6b0
  try clear c6b1
  try clear hcz5_0
  try clear hcz5_1
  try clear hcz5_2
  try clear hcz5_3
  try clear hfz5_0
  try clear hfz5_1
  try clear hfz5_2
  try clear hfz5_3
  obtain ⟨kq, x20_2, rfl, HA, HJ2, HO_1, BK194, HB⟩ := hcut
  cases kq with
  | zero => exact absurd HA.out (by simp [meta_words.j0])
  | succ kj2 =>
   have H := HA.out
   clear HA
   simp only [meta_words.j0] at H
   have HC7 := Aside0.mk H
   clear H
   go_upto_if 20 with (fail)
   go_cut [1] (fun v1 wc => ∃ (kq : Nat) (x1_6 : List ByteArray) (x195001_6 : ByteArray), Aside0 (meta_words.j1 kq a0 x1_6 a0 x195001_6 0 = some (r1, r2, r3, r4, r5)) ∧ Aside0 (kq ≤ kj2) ∧ Aside0 (Kd.V Kd.string 9 wc w.heap.size (fun k_ => (P1_ k_ ∨ w.heap.size ≤ k_) ∧ k_ ≠ gb194) v1 x1_6) ∧ Aside0 (wc.heap[gb194]? = some (.cells #[.int .i64 a0, .string x195001_6, .int .i64 0, (.slice none 0 0)] 31 (0, 0))) ∧ Aside0 (Below w.heap.size w wc))
   case first =>
    have H := HC7.out
    clear HC7
    by_cases c8 : x20_2 = true
    · subst c8
      have H1 : (if 0 < (l1.length : Int) then (if 1 ≤ (l1.length : Int) then (meta_words.j1 kj2 a0 (l1.drop 1) a0 (rdOf ByteArray.empty l1 0) 0) else (none)) else (none)) = some (r1, r2, r3, r4, r5) := by rw [if_pos rfl] at H; exact H
      clear H
      have H := H1
      clear H1
      by_cases c9 : 0 < (l1.length : Int)
      · rw [if_pos c9] at H
        have c9b0 : decide (0 < (l1.length : Int)) = true := decide_eq_true c9
        have c9b1 : decide (0 < l1.length) = true := decide_eq_true (by omega)
        clear c9
        (first | rw [c9b0] | (simp only [i64_w, i32_w]; rw [c9b0]) | skip)
        by_cases c10 : 1 ≤ (l1.length : Int)
        · rw [if_pos c10] at H
          have c10b0 := eq_true c10
          have c10b1 : decide (1 ≤ (l1.length : Int)) = true := decide_eq_true c10
          clear c10
          obtain ⟨y196, hy196⟩ : ∃ y_ : List ByteArray, y_ = (l1.drop 1) := ⟨_, rfl⟩
          replace H : (meta_words.j1 kj2 a0 y196 a0 (rdOf ByteArray.empty l1 0) 0) = some (r1, r2, r3, r4, r5) := by first | (rw [hy196]; with_reducible exact H) | (have H2_ := (Option.bind_some _ _).symm.trans H; rw [hy196]; with_reducible exact H2_) | (have H2_ := (Option.bind_some _ _).symm.trans H; with_reducible exact H2_) | with_reducible exact H | (rw [hy196]; exact H) | exact H
          have Ny196 := Aside0.mk hy196
          clear hy196
          have H' := Aside0.mk H
          clear H
          try go_wp2
          have n0_ := Aside0.mk (Kd.V_drew HO_1.out)
          have n1_ := Aside0.mk (blk_drew BK194.out)
          have n2_ := Aside0.mk (below_drew1 HB.out)
          clear HO_1
          clear BK194
          clear HB
          have HO_1 := n0_
          have BK194 := n1_
          have HB := n2_
          clear n0_ n1_ n2_
          have p195 : 0 ≤ (0 : Int) := (by omega)
          have q195 : 0 < (l1.length : Int) := of_decide_eq_true (by first | (with_reducible assumption) | assumption)
          obtain ⟨ad195, e195, hx195_0⟩ := Kd.at_string (Kd.V_reads' HO_1.out).2.2 0 p195 q195
          cases e195
          have qi195 : (0 < l1.length) = True := eq_true (by omega)
          (try rw [show ((0 : Int)).toNat = 0 from rfl] at hx195_0)
          (try rw [Addr.add_zero'] at hx195_0)
          replace p195 := eq_true p195
          replace q195 := eq_true q195
          have q12 : (1 : Int) ≤ ((l1.length : Int) : Int) := of_decide_eq_true (by first | (with_reducible assumption) | assumption)
          obtain ⟨i012, hi012, _, hsz12, _⟩ := info_parts info9
          have hroom12 : l1.length ≤ c1 := (Kd.V_reads' HO_1.out).2.1
          have hC12 : Kd.F Kd.string _ _ (some ad195) l1.length l1 := (Kd.V_at (base := w.heap.size) HO_1.out).2.2
          have hcut12 := cut_from (P := Tryz.prog) 66 9 .i64 Tryz.underlying66 hi012 1 hsz12 (some ad195) l1.length c1 1 (by omega) q12
          have hr12 := Kd.F_cut (m := (1 : Int).toNat) (c := c1) hC12 (by omega) hroom12
          obtain ⟨A12, hA12⟩ : ∃ A1_, A1_ = (if c1 = (1 : Int).toNat then (some ad195) else ((some ad195) : Option Addr).map (·.add ((1 : Int).toNat * 1))) := ⟨_, rfl⟩
          obtain ⟨c12, hc12⟩ : ∃ c1_, c1_ = c1 - (1 : Int).toNat := ⟨_, rfl⟩
          have hy12 : y196.length = l1.length - (1 : Int).toNat := (by rw [Ny196.out, List.length_drop] <;> omega)
          rw [show (l1).drop (1 : Int).toNat = y196 from Ny196.out.symm] at hr12
          replace hr12 : Kd.F Kd.string _ _ A12 y196.length y196 := (by rw [hA12]; exact hr12)
          rw [← hy12, ← hA12, ← hc12] at hcut12
          have HO200 := Aside0.mk (show Kd.V Kd.string 9 _ w.heap.size _ (.slice A12 y196.length c12) y196 from Kd.V_mk (by rw [hy12, hc12]; exact Nat.sub_le_sub_right hroom12 _) hr12)
          have HC200 := Aside0.mk (show y196.length ≤ c12 from by rw [hy12, hc12]; exact Nat.sub_le_sub_right hroom12 _)
          clear hr12 hC12 hroom12 hi012 hsz12 hc12
          have KY12 := Aside0.mk hy12
          have KA12 := Aside0.mk hA12
          clear hy12 hA12
          replace q12 := eq_true q12
          refine start_ (n := 8) (S := fun w' => w'.cell? ad195 = some (.string (rdOf ByteArray.empty l1 0))) (ds := []) #[false, false, false, false, false, false, false, false] (by kernel_rfl) rfl rfl (hx195_0) (fun hHeld => ?_); refine with_tabW meta_words.tab3 meta_words.bits3 (fun HT_ HW_ => ?_)
          generalize wc.drew = w11 at HO_1 BK194 HB HO200 hx195_0 hHeld ⊢
          refine pure_ (i := 0) (N := some 21) (v := ?_) (a' := ?_) #[true, false, false, false, false, false, false, false] rfl rfl (any_of HT_.out (by kernel_rfl)) (fun _ _ _ h => h) (Or.inl ⟨by rfl, ?_⟩) ?_ ?_
          rotate_left
          · intro w'
            go_simp
            with_reducible rfl
          rotate_left
          · simp only [Act.put, List.setIfInBounds_toArray, List.set_cons_zero, List.set_cons_succ, i64_w, i32_w]
            rfl
          refine pure_ (i := 1) (N := some 22) (v := ?_) (a' := ?_) #[true, true, false, false, false, false, false, false] rfl rfl (any_of HT_.out (by kernel_rfl)) (fun _ _ _ h => h) (Or.inl ⟨by rfl, ?_⟩) ?_ ?_
          rotate_left
          · intro w'
            go_simp
            with_reducible rfl
          rotate_left
          · simp only [Act.put, List.setIfInBounds_toArray, List.set_cons_zero, List.set_cons_succ, i64_w, i32_w]
            rfl
          refine pure_ (i := 3) (N := some 24) (v := ?_) (a' := ?_) #[true, true, false, true, false, false, false, false] rfl rfl (any_of HT_.out (by kernel_rfl)) (fun _ _ _ h => h) (Or.inl ⟨by rfl, ?_⟩) ?_ ?_
          rotate_left
          · intro w'
            go_simp
            with_reducible rfl
          rotate_left
          · simp only [Act.put, List.setIfInBounds_toArray, List.set_cons_zero, List.set_cons_succ, i64_w, i32_w]
            rfl
          refine pure_ (i := 4) (N := some 25) (v := ?_) (a' := ?_) #[true, true, false, true, true, false, false, false] rfl rfl (any_of HT_.out (by kernel_rfl)) (fun _ _ _ h => h) (Or.inl ⟨by rfl, ?_⟩) ?_ ?_
          rotate_left
          · intro w'
            go_simp
            with_reducible rfl
          rotate_left
          · simp only [Act.put, List.setIfInBounds_toArray, List.set_cons_zero, List.set_cons_succ, i64_w, i32_w]
            rfl
          refine take_ (i := 2) (N := some 23) (v := ?_) (a' := ?_) #[true, true, true, true, true, false, false, false] rfl rfl (take_ofW HT_.out HW_.out (by kernel_rfl)) (fun _ _ _ h => h) (Or.inl ⟨by rfl, ?_⟩) hHeld ?_ ?_
          rotate_left
          · intro w' s0
            go_simp
            with_reducible rfl
          rotate_left
          · simp only [Act.put, List.setIfInBounds_toArray, List.set_cons_zero, List.set_cons_succ, i64_w, i32_w]
            rfl
          refine pure_ (i := 5) (N := some 26) (v := ?_) (a' := ?_) #[true, true, true, true, true, true, false, false] rfl rfl (any_of HT_.out (by kernel_rfl)) (fun _ _ _ h => h) (Or.inl ⟨by rfl, ?_⟩) ?_ ?_
          rotate_left
          · intro w'
            go_simp
            with_reducible rfl
          rotate_left
          · simp only [Act.put, List.setIfInBounds_toArray, List.set_cons_zero, List.set_cons_succ, i64_w, i32_w]
            rfl
          refine one_ (i := 6) (N := none) #[true, true, true, true, true, true, true, false] rfl rfl (one_of HT_.out (by kernel_rfl)) (by decide) (fun K hK => ?_)
          have hs13 : w11.cell? ⟨gb194, 1, none⟩ = some (.string (⟨#[]⟩ : ByteArray)) := (blk_cell BK194.out 1).trans rfl
          have hfs13 := blk_frozen BK194.out 1
          refine skip_ (w1 := ?_) (by rfl) rfl ?_ ?_
          rotate_left
          · go_simp
            rfl
          refine hK.out _ _ (((cell_far (p := ⟨gb194, _, none⟩) (by first | exact Kd.V_apart HO_1.out (by decide) (Int.natCast_pos.mp (by first | assumption | exact of_eq_true (by assumption) | exact of_decide_eq_true (by assumption))) (fun _ hk => hk.2) | exact Kd.own_blk (Kd.V_away HO_1.out (fun _ hk => hk.2)) | (rw [add_block]; exact Kd.own_blk (Kd.V_away HO_1.out (fun _ hk => hk.2))) | (show (Addr.add _ _).block ≠ _; rw [add_block]; exact Kd.own_blk (Kd.V_away HO_1.out (fun _ hk => hk.2))) | (dsimp only; exact Kd.own_blk (Kd.V_away HO_1.out (fun _ hk => hk.2)))) _).trans (hHeld))) (fun hHeld => ?_)
          clear hK K
          refine pure_ (i := 7) (N := some 1) (v := ?_) (a' := ?_) #[true, true, true, true, true, true, true, true] rfl rfl (any_of HT_.out (by kernel_rfl)) (fun _ _ _ h => h) (Or.inl ⟨by rfl, ?_⟩) ?_ ?_
          rotate_left
          · intro w'
            go_simp
            with_reducible rfl
          rotate_left
          · simp only [Act.put, List.setIfInBounds_toArray, List.set_cons_zero, List.set_cons_succ, i64_w, i32_w]
            rfl
          refine done_ (done_of HT_.out (by kernel_rfl)) ?_
          try go_wp2
          go_meet
          case rel => exact ⟨_, (y196), (rdOf ByteArray.empty l1 0), H', ⟨by have := HJ2.out; first | omega | exact Nat.le_refl _⟩, ⟨by (with_reducible repeat (first | apply Kd.V_alloc | apply Kd.V_drewN | apply Kd.V_drew)); exact Kd.V_mono (Kd.V_far (p := ⟨gb194, 1, none⟩) (Kd.V_mono HO200.out (fun k_ hk => (⟨hk, hk.2⟩ : _ ∧ k_ ≠ gb194))) (fun _ hk => hk.2) (.string (rdOf ByteArray.empty l1 0))) (fun _ hk => ⟨hk.1.1, hk.1.2⟩)⟩, ⟨by (with_reducible repeat (first | refine blk_drewN ?_ _ | refine blk_drew ?_ | refine blk_alloc ?_ _)); refine blk_put (cs := #[.int .i64 a0, .string (⟨#[]⟩ : ByteArray), .int .i64 0, .slice none 0 0]) ?_ 1 _ rfl; (with_reducible repeat (first | refine blk_drewN ?_ _ | refine blk_drew ?_ | refine blk_alloc ?_ _)); exact BK194.out⟩, ⟨by repeat (first | (with_reducible first | exact HB.out | apply below_alloc | apply pw_below_drewN | apply below_drew1 | refine below_set ?_ GE194.out) | exact HB.out)⟩⟩
        · rw [if_neg c10] at H
          exact absurd H (by simp)
      · rw [if_neg c9] at H
        exact absurd H (by simp)
    · replace c8 := Bool.eq_false_iff.mpr c8
      subst c8
      have H1 : (meta_words.j1 kj2 a0 l1 a0 (⟨#[]⟩ : ByteArray) 0) = some (r1, r2, r3, r4, r5) := by rw [if_neg (show ¬ (false = true) by decide)] at H; exact H
      clear H
      have H := H1
      clear H1
      have H' := Aside0.mk H
      clear H
      go_wp2
      go_meet
      case rel => exact ⟨_, (l1), ((⟨#[]⟩ : ByteArray)), H', ⟨by have := HJ2.out; first | omega | exact Nat.le_refl _⟩, ⟨by (with_reducible repeat (first | apply Kd.V_alloc | apply Kd.V_drewN | apply Kd.V_drew)); exact HO_1.out⟩, ⟨by (with_reducible repeat (first | refine blk_drewN ?_ _ | refine blk_drew ?_ | refine blk_alloc ?_ _)); exact BK194.out⟩, ⟨by repeat (first | (with_reducible first | exact HB.out | apply below_alloc | apply pw_below_drewN | apply below_drew1 | refine below_set ?_ GE194.out) | exact HB.out)⟩⟩
   case rest =>
    clear HC7
    try clear c1
    try clear p1
    try clear q1
    try clear hx1
    try clear qi1
    try clear p2
    try clear c5
    try clear c6
    try clear c6b0
    try clear c6b1
    try clear c8
    try clear c9
    try clear c9b0
    try clear c9b1
    try clear c10
    try clear c10b0
    try clear c10b1
    try clear c12
    try clear q12
    try clear hcz5_0
    try clear hcz5_1
    try clear hcz5_2
    try clear hcz5_3
    try clear hfz5_0
    try clear hfz5_1
    try clear hfz5_2
    try clear hfz5_3
    try clear hx195_0
    try clear p195
    try clear p2
    try clear q12
    try clear q195
    obtain ⟨kq, x1_6, x195001_6, HA, HJ6, HO_1, BK194, HB⟩ := hcut
    cases kq with
    | zero => exact absurd HA.out (by simp [meta_words.j1])
    | succ kj6 =>
     have H := HA.out
     clear HA
     simp only [meta_words.j1] at H
     have HC14 := Aside0.mk H
     clear H
     go_upto_region 4 with (fail)
     go_cut [33] (fun v33 wc => ∃ (kq : Nat) (x33_13 : Bool), v33 = .bool x33_13 ∧ Aside0 (meta_words.j2 kq a0 x1_6 x33_13 a0 x195001_6 0 = some (r1, r2, r3, r4, r5)) ∧ Aside0 (kq ≤ kj6) ∧ Aside0 (Kd.V Kd.string 9 wc w.heap.size (fun k_ => (P1_ k_ ∨ w.heap.size ≤ k_) ∧ k_ ≠ gb194) u1 x1_6) ∧ Aside0 (wc.heap[gb194]? = some (.cells #[.int .i64 a0, .string x195001_6, .int .i64 0, (.slice none 0 0)] 31 (0, 0))) ∧ Aside0 (Below w.heap.size w wc))
     case first =>
      have H := HC14.out
      clear HC14
      by_cases c15 : a0 = 2
      · rw [if_pos c15] at H
        have c15b0 : (a0 == 2) = true := beq_iff_eq.mpr c15
        have c15b1 : (a0 != 2) = false := bne_eq_false_iff_eq.mpr c15
        clear c15
        (first | rw [c15b0] | (simp only [i64_w, i32_w]; rw [c15b0]) | skip)
        have H' := Aside0.mk H
        clear H
        obtain ⟨Ao16, co16, eo16⟩ := Kd.V_slice HO_1.out
        subst eo16
        go_wp2
        go_meet
        case rel => exact ⟨_, (decide ((x1_6.length : Int) > 0)), (by first | rfl | (simp; done) | (simp [*]; done)), H', ⟨by have := HJ2.out; have := HJ6.out; first | omega | exact Nat.le_refl _⟩, ⟨by (with_reducible repeat (first | apply Kd.V_alloc | apply Kd.V_drewN | apply Kd.V_drew)); exact HO_1.out⟩, ⟨by (with_reducible repeat (first | refine blk_drewN ?_ _ | refine blk_drew ?_ | refine blk_alloc ?_ _)); exact BK194.out⟩, ⟨by repeat (first | (with_reducible first | exact HB.out | apply below_alloc | apply pw_below_drewN | apply below_drew1 | refine below_set ?_ GE194.out) | exact HB.out)⟩⟩
      · rw [if_neg c15] at H
        have c15b0 : (a0 == 2) = false := beq_eq_false_iff_ne.mpr c15
        have c15b1 : (a0 != 2) = true := bne_iff_ne.mpr c15
        (first | rw [c15b0] | (simp only [i64_w, i32_w]; rw [c15b0]) | skip)
        have H' := Aside0.mk H
        clear H
        go_wp2
        go_meet
        case rel => exact ⟨_, (false), (by first | rfl | (simp; done) | (simp [*]; done)), H', ⟨by have := HJ2.out; have := HJ6.out; first | omega | exact Nat.le_refl _⟩, ⟨by (with_reducible repeat (first | apply Kd.V_alloc | apply Kd.V_drewN | apply Kd.V_drew)); exact HO_1.out⟩, ⟨by (with_reducible repeat (first | refine blk_drewN ?_ _ | refine blk_drew ?_ | refine blk_alloc ?_ _)); exact BK194.out⟩, ⟨by repeat (first | (with_reducible first | exact HB.out | apply below_alloc | apply pw_below_drewN | apply below_drew1 | refine below_set ?_ GE194.out) | exact HB.out)⟩⟩
     case rest =>
      clear HC14
      try clear c1
      try clear p1
      try clear q1
      try clear hx1
      try clear qi1
      try clear p2
      try clear c5
      try clear c6
      try clear c6b0
      try clear c6b1
      try clear c8
      try clear c9
      try clear c9b0
      try clear c9b1
      try clear c10
      try clear c10b0
      try clear c10b1
      try clear c12
      try clear q12
      try clear c15
      try clear c15b0
      try clear c15b1
      try clear hcz5_0
      try clear hcz5_1
      try clear hcz5_2
      try clear hcz5_3
      try clear hfz5_0
      try clear hfz5_1
      try clear hfz5_2
      try clear hfz5_3
      try clear hx195_0
      try clear p1
      try clear p195
      try clear p2
      try clear q1
      try clear q12
      try clear q195
      obtain ⟨kq, x33_13, rfl, HA, HJ13, HO_1, BK194, HB⟩ := hcut
      cases kq with
      | zero => exact absurd HA.out (by simp [meta_words.j2])
      | succ kj13 =>
       have H := HA.out
       clear HA
       simp only [meta_words.j2] at H
       have HC17 := Aside0.mk H
       clear H
       go_upto_if 33 with (fail)
       go_cut [1] (fun v1 wc => ∃ (kq : Nat) (x1_16 : List ByteArray) (x195000_16 : Int) (x195001_16 : ByteArray) (x195002_16 : Int), Aside0 (meta_words.j3 kq a0 x1_16 x195000_16 x195001_16 x195002_16 = some (r1, r2, r3, r4, r5)) ∧ Aside0 (kq ≤ kj13) ∧ Aside0 (Kd.V Kd.string 9 wc w.heap.size (fun k_ => (P1_ k_ ∨ w.heap.size ≤ k_) ∧ k_ ≠ gb194) v1 x1_16) ∧ Aside0 (wc.heap[gb194]? = some (.cells #[.int .i64 x195000_16, .string x195001_16, .int .i64 x195002_16, (.slice none 0 0)] 31 (0, 0))) ∧ Aside0 (Below w.heap.size w wc))
       case first =>
        have H := HC17.out
        clear HC17
        by_cases c18 : x33_13 = true
        · subst c18
          have H1 : (if 0 < (x1_6.length : Int) then ((meta_size.f (rdOf ByteArray.empty x1_6 0)).bind fun bt202 => (if bt202.2 = true then (if 1 ≤ (x1_6.length : Int) then (meta_words.j3 kj13 a0 (x1_6.drop 1) a0 x195001_6 bt202.1) else (none)) else (some (0, (⟨#[]⟩ : ByteArray), 0, ([] : List (S61)), false)))) else (none)) = some (r1, r2, r3, r4, r5) := by rw [if_pos rfl] at H; exact H
          clear H
          have H := H1
          clear H1
          by_cases c19 : 0 < (x1_6.length : Int)
          · rw [if_pos c19] at H
            have c19b0 : decide (0 < (x1_6.length : Int)) = true := decide_eq_true c19
            have c19b1 : decide (0 < x1_6.length) = true := decide_eq_true (by omega)
            clear c19
            (first | rw [c19b0] | (simp only [i64_w, i32_w]; rw [c19b0]) | skip)
            replace H := Option.bind_eq_some_iff.mp H
            obtain ⟨⟨t202, t203⟩, A200, H⟩ := H
            replace H : (if t203 = true then (if 1 ≤ (x1_6.length : Int) then (meta_words.j3 kj13 a0 (x1_6.drop 1) a0 x195001_6 t202) else (none)) else (some (0, (⟨#[]⟩ : ByteArray), 0, ([] : List (S61)), false))) = some (r1, r2, r3, r4, r5) := H
            have A20 := Aside0.mk A200
            clear A200
            by_cases c21 : t203 = true
            · subst c21
              have H1 : (if 1 ≤ (x1_6.length : Int) then (meta_words.j3 kj13 a0 (x1_6.drop 1) a0 x195001_6 t202) else (none)) = some (r1, r2, r3, r4, r5) := by rw [if_pos rfl] at H; exact H
              clear H
              have H := H1
              clear H1
              by_cases c22 : 1 ≤ (x1_6.length : Int)
              · rw [if_pos c22] at H
                have c22b0 := eq_true c22
                have c22b1 : decide (1 ≤ (x1_6.length : Int)) = true := decide_eq_true c22
                clear c22
                obtain ⟨y204, hy204⟩ : ∃ y_ : List ByteArray, y_ = (x1_6.drop 1) := ⟨_, rfl⟩
                replace H : (meta_words.j3 kj13 a0 y204 a0 x195001_6 t202) = some (r1, r2, r3, r4, r5) := by first | (rw [hy204]; with_reducible exact H) | (have H2_ := (Option.bind_some _ _).symm.trans H; rw [hy204]; with_reducible exact H2_) | (have H2_ := (Option.bind_some _ _).symm.trans H; with_reducible exact H2_) | with_reducible exact H | (rw [hy204]; exact H) | exact H
                have Ny204 := Aside0.mk hy204
                clear hy204
                have H' := Aside0.mk H
                clear H
                obtain ⟨Ao23, co23, eo23⟩ := Kd.V_slice HO_1.out
                subst eo23
                have p201 : 0 ≤ (0 : Int) := (by omega)
                have q201 : 0 < (x1_6.length : Int) := of_decide_eq_true (by first | (with_reducible assumption) | assumption)
                obtain ⟨ad201, e201, hx201_0⟩ := Kd.at_string (Kd.V_reads' HO_1.out).2.2 0 p201 q201
                cases e201
                have qi201 : (0 < x1_6.length) = True := eq_true (by omega)
                (try rw [show ((0 : Int)).toNat = 0 from rfl] at hx201_0)
                (try rw [Addr.add_zero'] at hx201_0)
                replace p201 := eq_true p201
                replace q201 := eq_true q201
                go_wp2_with (first | ((with_reducible refine gate_callee (f := 73) rfl ?_); refine goesL_ (some 38) rfl rfl Tryz.func73 (by kernel_rfl) rfl #[.string (rdOf ByteArray.empty x1_6 0)] rfl (by (try simp only [List.map_toArray, List.map_cons, List.map_nil]); first | done | rfl | (simp only [List.length_drop, List.length_take]; rfl) | (simp only [IntKind.wrap_u64]; rw [Int.emod_eq_of_lt (by omega) (by omega)]; rfl) | (simp only [ByteArray.size_extract]; done) | (simp only [ByteArray.size_extract]; rfl)) ?_; (with_reducible refine (meta_size.calls (rdOf ByteArray.empty x1_6 0) t202 true _ ?side1 A20.out).mono ?_); (case side1 => exact Vars.below HV.out (by repeat (first | (with_reducible first | exact HB.out | apply below_alloc | apply pw_below_drewN | apply below_drew1 | refine below_set ?_ GE194.out) | exact HB.out))); rintro e w24 ⟨rfl, hb⟩; refine ⟨_, rfl, ?_⟩; have n0_ := Aside0.mk (Kd.V_below (by (with_reducible repeat (first | apply Kd.V_alloc | apply Kd.V_drewN | apply Kd.V_drew)); exact HO_1.out) hb); have n1_ := Aside0.mk (blk_below (g := gb194) (o := .cells #[.int .i64 a0, .string x195001_6, .int .i64 0, .slice none 0 0] 31 (0, 0)) (by (with_reducible repeat (first | refine blk_drewN ?_ _ | refine blk_drew ?_ | refine blk_alloc ?_ _)); exact BK194.out) hb); have n2_ := Aside0.mk (below_step (by repeat (first | (with_reducible first | exact HB.out | apply below_alloc | apply pw_below_drewN | apply below_drew1 | refine below_set ?_ GE194.out) | exact HB.out)) hb); clear HO_1; clear BK194; clear HB; have HO_1 := n0_; have BK194 := n1_; have HB := n2_; clear n0_ n1_ n2_; (try clear hb); (try clear hb2); (try clear hk); (try clear hi); have hcz25_0 : w24.cell? ⟨gb194, 0, none⟩ = some (.int .i64 a0) := (blk_cell BK194.out 0).trans rfl; have hcz25_1 : w24.cell? ⟨gb194, 1, none⟩ = some (.string x195001_6) := (blk_cell BK194.out 1).trans rfl; have hcz25_2 : w24.cell? ⟨gb194, 2, none⟩ = some (.int .i64 0) := (blk_cell BK194.out 2).trans rfl; have hcz25_3 : w24.cell? ⟨gb194, 3, none⟩ = some (.slice none 0 0) := (blk_cell BK194.out 3).trans rfl; have hfz25_0 := blk_frozen BK194.out 0; have hfz25_1 := blk_frozen BK194.out 1; have hfz25_2 := blk_frozen BK194.out 2; have hfz25_3 := blk_frozen BK194.out 3) | ((with_reducible refine gate_store (t := 3) (p := 41) rfl ?_); refine store_event (t := 3) (p := 41) (v := ?vo_w26) (w1 := (w24.setCell ⟨gb194, 2, none⟩ (.int .i64 t202))) ?hg ?ho ?hn ?hr ?_; (case ho => rfl); (case hg => rfl); (case hn => rfl); (case hr => first | (go_simp; done) | (go_simp; rfl)); intro w26 hw; have n0_ : Aside0 (Kd.V Kd.string 9 w26 w.heap.size (fun k_ => (P1_ k_ ∨ w.heap.size ≤ k_) ∧ k_ ≠ gb194) (.slice (some ad201) x1_6.length co23) x1_6) := ⟨(by rw [hw]; exact (by (with_reducible repeat (first | apply Kd.V_alloc | apply Kd.V_drewN | apply Kd.V_drew)); exact Kd.V_mono (Kd.V_far (p := ⟨gb194, 2, none⟩) (Kd.V_mono HO_1.out (fun k_ hk => (⟨hk, hk.2⟩ : _ ∧ k_ ≠ gb194))) (fun _ hk => hk.2) (.int .i64 t202)) (fun _ hk => ⟨hk.1.1, hk.1.2⟩)))⟩; have n1_ : Aside0 (w26.heap[gb194]? = some (.cells #[.int .i64 a0, .string x195001_6, .int .i64 t202, .slice none 0 0] 31 (0, 0))) := ⟨(by rw [hw]; exact (by (with_reducible repeat (first | refine blk_drewN ?_ _ | refine blk_drew ?_ | refine blk_alloc ?_ _)); refine blk_put (cs := #[.int .i64 a0, .string x195001_6, .int .i64 0, .slice none 0 0]) ?_ 2 _ rfl; (with_reducible repeat (first | refine blk_drewN ?_ _ | refine blk_drew ?_ | refine blk_alloc ?_ _)); exact BK194.out))⟩; have n2_ : Aside0 (Below w.heap.size w w26) := ⟨(by rw [hw]; exact (by repeat (first | (with_reducible first | exact HB.out | apply below_alloc | apply pw_below_drewN | apply below_drew1 | refine below_set ?_ GE194.out) | exact HB.out)))⟩; clear hw; clear HO_1; clear BK194; clear HB; have HO_1 := n0_; have BK194 := n1_; have HB := n2_; clear n0_ n1_ n2_; have q27 : (1 : Int) ≤ ((x1_6.length : Int) : Int) := of_decide_eq_true (by first | (with_reducible assumption) | assumption); obtain ⟨i027, hi027, _, hsz27, _⟩ := info_parts info9; have hroom27 : x1_6.length ≤ co23 := (Kd.V_reads' HO_1.out).2.1; have hC27 : Kd.F Kd.string _ _ (some ad201) x1_6.length x1_6 := (Kd.V_at (base := w.heap.size) HO_1.out).2.2; have hcut27 := cut_from (P := Tryz.prog) 66 9 .i64 Tryz.underlying66 hi027 1 hsz27 (some ad201) x1_6.length co23 1 (by omega) q27; have hr27 := Kd.F_cut (m := (1 : Int).toNat) (c := co23) hC27 (by omega) hroom27; obtain ⟨A27, hA27⟩ : ∃ A1_, A1_ = (if co23 = (1 : Int).toNat then (some ad201) else ((some ad201) : Option Addr).map (·.add ((1 : Int).toNat * 1))) := ⟨_, rfl⟩; obtain ⟨c27, hc27⟩ : ∃ c1_, c1_ = co23 - (1 : Int).toNat := ⟨_, rfl⟩; have hy27 : y204.length = x1_6.length - (1 : Int).toNat := (by rw [Ny204.out, List.length_drop] <;> omega); rw [show (x1_6).drop (1 : Int).toNat = y204 from Ny204.out.symm] at hr27; replace hr27 : Kd.F Kd.string _ _ A27 y204.length y204 := (by rw [hA27]; exact hr27); rw [← hy27, ← hA27, ← hc27] at hcut27; have HO208 := Aside0.mk (show Kd.V Kd.string 9 _ w.heap.size _ (.slice A27 y204.length c27) y204 from Kd.V_mk (by rw [hy27, hc27]; exact Nat.sub_le_sub_right hroom27 _) hr27); have HC208 := Aside0.mk (show y204.length ≤ c27 from by rw [hy27, hc27]; exact Nat.sub_le_sub_right hroom27 _); clear hr27 hC27 hroom27 hi027 hsz27 hc27; have KY27 := Aside0.mk hy27; have KA27 := Aside0.mk hA27; clear hy27 hA27; replace q27 := eq_true q27))
                go_meet
                case rel => exact ⟨_, (y204), (a0), (x195001_6), (t202), H', ⟨by have := HJ2.out; have := HJ6.out; have := HJ13.out; first | omega | exact Nat.le_refl _⟩, ⟨by (with_reducible repeat (first | apply Kd.V_alloc | apply Kd.V_drewN | apply Kd.V_drew)); exact HO208.out⟩, ⟨by (with_reducible repeat (first | refine blk_drewN ?_ _ | refine blk_drew ?_ | refine blk_alloc ?_ _)); exact BK194.out⟩, ⟨by repeat (first | (with_reducible first | exact HB.out | apply below_alloc | apply pw_below_drewN | apply below_drew1 | refine below_set ?_ GE194.out) | exact HB.out)⟩⟩
              · rw [if_neg c22] at H
                exact absurd H (by simp)
            · replace c21 := Bool.eq_false_iff.mpr c21
              subst c21
              have H1 : (some (0, (⟨#[]⟩ : ByteArray), 0, ([] : List (S61)), false)) = some (r1, r2, r3, r4, r5) := by rw [if_neg (show ¬ (false = true) by decide)] at H; exact H
              clear H
              have H := H1
              clear H1
              simp only [Option.some.injEq, Prod.mk.injEq] at H
              obtain ⟨rfl, rfl, rfl, rfl, rfl⟩ := H
              obtain ⟨Ao28, co28, eo28⟩ := Kd.V_slice HO_1.out
              subst eo28
              have p201 : 0 ≤ (0 : Int) := (by omega)
              have q201 : 0 < (x1_6.length : Int) := of_decide_eq_true (by first | (with_reducible assumption) | assumption)
              obtain ⟨ad201, e201, hx201_0⟩ := Kd.at_string (Kd.V_reads' HO_1.out).2.2 0 p201 q201
              cases e201
              have qi201 : (0 < x1_6.length) = True := eq_true (by omega)
              (try rw [show ((0 : Int)).toNat = 0 from rfl] at hx201_0)
              (try rw [Addr.add_zero'] at hx201_0)
              replace p201 := eq_true p201
              replace q201 := eq_true q201
              go_wp2_with (first | ((with_reducible refine gate_callee (f := 73) rfl ?_); refine goesL_ (some 38) rfl rfl Tryz.func73 (by kernel_rfl) rfl #[.string (rdOf ByteArray.empty x1_6 0)] rfl (by (try simp only [List.map_toArray, List.map_cons, List.map_nil]); first | done | rfl | (simp only [List.length_drop, List.length_take]; rfl) | (simp only [IntKind.wrap_u64]; rw [Int.emod_eq_of_lt (by omega) (by omega)]; rfl) | (simp only [ByteArray.size_extract]; done) | (simp only [ByteArray.size_extract]; rfl)) ?_; (with_reducible refine (meta_size.calls (rdOf ByteArray.empty x1_6 0) t202 false _ ?side1 A20.out).mono ?_); (case side1 => exact Vars.below HV.out (by repeat (first | (with_reducible first | exact HB.out | apply below_alloc | apply pw_below_drewN | apply below_drew1 | refine below_set ?_ GE194.out) | exact HB.out))); rintro e w29 ⟨rfl, hb⟩; refine ⟨_, rfl, ?_⟩; have n0_ := Aside0.mk (Kd.V_below (by (with_reducible repeat (first | apply Kd.V_alloc | apply Kd.V_drewN | apply Kd.V_drew)); exact HO_1.out) hb); have n1_ := Aside0.mk (blk_below (g := gb194) (o := .cells #[.int .i64 a0, .string x195001_6, .int .i64 0, .slice none 0 0] 31 (0, 0)) (by (with_reducible repeat (first | refine blk_drewN ?_ _ | refine blk_drew ?_ | refine blk_alloc ?_ _)); exact BK194.out) hb); have n2_ := Aside0.mk (below_step (by repeat (first | (with_reducible first | exact HB.out | apply below_alloc | apply pw_below_drewN | apply below_drew1 | refine below_set ?_ GE194.out) | exact HB.out)) hb); clear HO_1; clear BK194; clear HB; have HO_1 := n0_; have BK194 := n1_; have HB := n2_; clear n0_ n1_ n2_; (try clear hb); (try clear hb2); (try clear hk); (try clear hi); have hcz30_0 : w29.cell? ⟨gb194, 0, none⟩ = some (.int .i64 a0) := (blk_cell BK194.out 0).trans rfl; have hcz30_1 : w29.cell? ⟨gb194, 1, none⟩ = some (.string x195001_6) := (blk_cell BK194.out 1).trans rfl; have hcz30_2 : w29.cell? ⟨gb194, 2, none⟩ = some (.int .i64 0) := (blk_cell BK194.out 2).trans rfl; have hcz30_3 : w29.cell? ⟨gb194, 3, none⟩ = some (.slice none 0 0) := (blk_cell BK194.out 3).trans rfl; have hfz30_0 := blk_frozen BK194.out 0; have hfz30_1 := blk_frozen BK194.out 1; have hfz30_2 := blk_frozen BK194.out 2; have hfz30_3 := blk_frozen BK194.out 3))
              refine bodyPost_ret (results_ct rfl _ _ gb194 31 #[.int .i64 0, .string (⟨#[]⟩ : ByteArray), .int .i64 0, .slice none 0 0] (0, 0) _ rfl (by (with_reducible repeat (first | refine blk_drewN ?_ _ | refine blk_drew ?_ | refine blk_alloc ?_ _)); refine blk_put (cs := #[.int .i64 0, .string (⟨#[]⟩ : ByteArray), .int .i64 0, .slice none 0 0]) ?_ 3 _ rfl; (with_reducible repeat (first | refine blk_drewN ?_ _ | refine blk_drew ?_ | refine blk_alloc ?_ _)); refine blk_put (cs := #[.int .i64 0, .string (⟨#[]⟩ : ByteArray), .int .i64 t202, .slice none 0 0]) ?_ 2 _ rfl; (with_reducible repeat (first | refine blk_drewN ?_ _ | refine blk_drew ?_ | refine blk_alloc ?_ _)); refine blk_put (cs := #[.int .i64 0, .string x195001_6, .int .i64 t202, .slice none 0 0]) ?_ 1 _ rfl; (with_reducible repeat (first | refine blk_drewN ?_ _ | refine blk_drew ?_ | refine blk_alloc ?_ _)); refine blk_put (cs := #[.int .i64 a0, .string x195001_6, .int .i64 t202, .slice none 0 0]) ?_ 0 _ rfl; (with_reducible repeat (first | refine blk_drewN ?_ _ | refine blk_drew ?_ | refine blk_alloc ?_ _)); refine blk_put (cs := #[.int .i64 a0, .string x195001_6, .int .i64 0, .slice none 0 0]) ?_ 2 _ rfl; (with_reducible repeat (first | refine blk_drewN ?_ _ | refine blk_drew ?_ | refine blk_alloc ?_ _)); exact BK194.out) Tryz.underlying31 rfl (by kernel_rfl)) rfl ?_
              exact ⟨_, by first | rfl | (simp [errW_none, errW_some] <;> rfl) | (simp [*, errW_none, errW_some] <;> rfl), by first | exact Kd.R_nil _ _ _ _ _ | exact Kd.N_nil _ _ _ _ _ | exact Kd.V_nil _ _ _ _ _ | exact Kd.Q_nil _ _ _ _ _ | exact Kd.S_nil _ _ _ _ _, by repeat (first | (with_reducible first | exact HB.out | apply below_alloc | apply pw_below_drewN | apply below_drew1 | refine below_set ?_ GE194.out) | exact HB.out)⟩
          · rw [if_neg c19] at H
            exact absurd H (by simp)
        · replace c18 := Bool.eq_false_iff.mpr c18
          subst c18
          have H1 : (meta_words.j3 kj13 a0 x1_6 a0 x195001_6 0) = some (r1, r2, r3, r4, r5) := by rw [if_neg (show ¬ (false = true) by decide)] at H; exact H
          clear H
          have H := H1
          clear H1
          have H' := Aside0.mk H
          clear H
          go_wp2
          go_meet
          case rel => exact ⟨_, (x1_6), (a0), (x195001_6), (0), H', ⟨by have := HJ2.out; have := HJ6.out; have := HJ13.out; first | omega | exact Nat.le_refl _⟩, ⟨by (with_reducible repeat (first | apply Kd.V_alloc | apply Kd.V_drewN | apply Kd.V_drew)); exact HO_1.out⟩, ⟨by (with_reducible repeat (first | refine blk_drewN ?_ _ | refine blk_drew ?_ | refine blk_alloc ?_ _)); exact BK194.out⟩, ⟨by repeat (first | (with_reducible first | exact HB.out | apply below_alloc | apply pw_below_drewN | apply below_drew1 | refine below_set ?_ GE194.out) | exact HB.out)⟩⟩
       case rest =>
        clear HC17
        try clear c1
        try clear p1
        try clear q1
        try clear hx1
        try clear qi1
        try clear c2
        try clear p2
        try clear q2
        try clear hx2
        try clear qi2
        try clear c5
        try clear c6
        try clear c6b0
        try clear c6b1
        try clear c7
        try clear c8
        try clear c9
        try clear c9b0
        try clear c9b1
        try clear c10
        try clear c10b0
        try clear c10b1
        try clear c12
        try clear q12
        try clear c15
        try clear c15b0
        try clear c15b1
        try clear c18
        try clear c19
        try clear c19b0
        try clear c19b1
        try clear p19
        try clear q19
        try clear hx19
        try clear qi19
        try clear p20
        try clear q20
        try clear hx20
        try clear qi20
        try clear c21
        try clear c22
        try clear c22b0
        try clear c22b1
        try clear c27
        try clear q27
        try clear hcz25_0
        try clear hcz25_1
        try clear hcz25_2
        try clear hcz25_3
        try clear hcz30_0
        try clear hcz30_1
        try clear hcz30_2
        try clear hcz30_3
        try clear hcz5_0
        try clear hcz5_1
        try clear hcz5_2
        try clear hcz5_3
        try clear hfz25_0
        try clear hfz25_1
        try clear hfz25_2
        try clear hfz25_3
        try clear hfz30_0
        try clear hfz30_1
        try clear hfz30_2
        try clear hfz30_3
        try clear hfz5_0
        try clear hfz5_1
        try clear hfz5_2
        try clear hfz5_3
        try clear hx195_0
        try clear hx201_0
        try clear p1
        try clear p195
        try clear p2
        try clear p201
        try clear q1
        try clear q12
        try clear q195
        try clear q201
        try clear q27
        obtain ⟨kq, x1_16, x195000_16, x195001_16, x195002_16, HA, HJ16, HO_1, BK194, HB⟩ := hcut
        cases kq with
        | zero => exact absurd HA.out (by simp [meta_words.j3])
        | succ kj16 =>
         have H := HA.out
         clear HA
         simp only [meta_words.j3] at H
         have H' := Aside0.mk H
         clear H
         obtain ⟨Ao31, co31, eo31⟩ := Kd.V_slice HO_1.out
         subst eo31
         go_wp2
         go_loopg [49] kj16 (fun kq v49 w' => ∃ (x49_5 : Int) (x195000_5 : Int) (x195001_5 : ByteArray) (x195002_5 : Int) (x195003_5 : List (S61)) (u195003 : Value), v49 = .int .i64 x49_5 ∧ Aside0 (meta_words.l0 kq a0 x1_16 (x1_16.length : Int) x49_5 x195000_5 x195001_5 x195002_5 x195003_5 = some (r1, r2, r3, r4, r5)) ∧ Aside0 (kq ≤ kj16) ∧ Aside0 (Kd.V Kd.string 9 w' w.heap.size (fun k_ => (P1_ k_ ∨ w.heap.size ≤ k_) ∧ some k_ ≠ (u195003 : Value).ownBlock ∧ k_ ≠ gb194) (.slice Ao31 x1_16.length co31) x1_16) ∧ Aside0 (Kd.R k61 61 w' w.heap.size (fun k_ => (w.heap.size ≤ k_)) u195003 x195003_5) ∧ Aside0 (w'.heap[gb194]? = some (.cells #[.int .i64 x195000_5, .string x195001_5, .int .i64 x195002_5, u195003] 31 (0, 0))) ∧ Aside0 (Below w.heap.size w w'))
         case atStart => exact ⟨(0), (x195000_16), (x195001_16), (x195002_16), (([] : List (S61))), (.slice none 0 0), (by first | rfl | (simp; done) | (simp [*]; done)), H', ⟨Nat.le_refl _⟩, ⟨by (with_reducible repeat (first | apply Kd.V_alloc | apply Kd.V_drewN | apply Kd.V_drew)); exact Kd.V_mono HO_1.out (fun _ hk => ⟨hk.1, ⟨(by simp [Value.ownBlock]), hk.2⟩⟩)⟩, ⟨by first | exact Kd.R_nil _ _ _ _ _ | exact Kd.N_nil _ _ _ _ _ | exact Kd.V_nil _ _ _ _ _ | exact Kd.Q_nil _ _ _ _ _ | exact Kd.S_nil _ _ _ _ _⟩, ⟨by (with_reducible repeat (first | refine blk_drewN ?_ _ | refine blk_drew ?_ | refine blk_alloc ?_ _)); exact BK194.out⟩, ⟨by repeat (first | (with_reducible first | exact HB.out | apply below_alloc | apply pw_below_drewN | apply below_drew1 | refine below_set ?_ GE194.out) | exact HB.out)⟩⟩
         case round =>
          clear H'
          try clear c1
          try clear p1
          try clear q1
          try clear hx1
          try clear qi1
          try clear c2
          try clear p2
          try clear q2
          try clear hx2
          try clear qi2
          try clear c5
          try clear c6
          try clear c6b0
          try clear c6b1
          try clear c7
          try clear c8
          try clear c9
          try clear c9b0
          try clear c9b1
          try clear c10
          try clear c10b0
          try clear c10b1
          try clear c12
          try clear q12
          try clear c15
          try clear c15b0
          try clear c15b1
          try clear c18
          try clear c19
          try clear c19b0
          try clear c19b1
          try clear p19
          try clear q19
          try clear hx19
          try clear qi19
          try clear p20
          try clear q20
          try clear hx20
          try clear qi20
          try clear c21
          try clear c22
          try clear c22b0
          try clear c22b1
          try clear c27
          try clear q27
          try clear hcz25_0
          try clear hcz25_1
          try clear hcz25_2
          try clear hcz25_3
          try clear hcz30_0
          try clear hcz30_1
          try clear hcz30_2
          try clear hcz30_3
          try clear hcz5_0
          try clear hcz5_1
          try clear hcz5_2
          try clear hcz5_3
          try clear hfz25_0
          try clear hfz25_1
          try clear hfz25_2
          try clear hfz25_3
          try clear hfz30_0
          try clear hfz30_1
          try clear hfz30_2
          try clear hfz30_3
          try clear hfz5_0
          try clear hfz5_1
          try clear hfz5_2
          try clear hfz5_3
          try clear hx195_0
          try clear hx201_0
          try clear p1
          try clear p19
          try clear p195
          try clear p2
          try clear p20
          try clear p201
          try clear q1
          try clear q12
          try clear q19
          try clear q195
          try clear q2
          try clear q20
          try clear q201
          try clear q27
          obtain ⟨x49_5, x195000_5, x195001_5, x195002_5, x195003_5, u195003, rfl, HA, HK5, HO_47, HO_195003, BK194, HB⟩ := hrel
          cases gk with
          | zero => exact absurd HA.out (by simp [meta_words.l0])
          | succ k5 =>
           have H := HA.out
           clear HA
           simp only [meta_words.l0] at H
           by_cases c32 : x49_5 < (x1_16.length : Int)
           · rw [if_pos c32] at H
             have c32b0 : decide (x49_5 < (x1_16.length : Int)) = true := decide_eq_true c32
             clear c32
             by_cases c33 : 0 ≤ x49_5
             · rw [if_pos c33] at H
               have c33b0 : decide (0 ≤ x49_5) = true := decide_eq_true c33
               clear c33
               by_cases c34 : x49_5 < (x1_16.length : Int)
               · rw [if_pos c34] at H
                 have c34b0 : decide (x49_5 < (x1_16.length : Int)) = true := decide_eq_true c34
                 clear c34
                 by_cases c35 : (rdOf ByteArray.empty x1_16 x49_5).toList = ([] : List UInt8)
                 · rw [if_pos c35] at H
                   have c35b0 : ((rdOf ByteArray.empty x1_16 x49_5).toList == ([] : List UInt8)) = true := beq_iff_eq.mpr c35
                   have c35e0 : (rdOf ByteArray.empty x1_16 x49_5).toList.isEmpty = true := by simpa using c35b0
                   have c35b1 : ((rdOf ByteArray.empty x1_16 x49_5).toList != ([] : List UInt8)) = false := bne_eq_false_iff_eq.mpr c35
                   clear c35
                   simp only [Option.some.injEq, Prod.mk.injEq] at H
                   obtain ⟨rfl, rfl, rfl, rfl, rfl⟩ := H
                   have p209 : 0 ≤ (x49_5 : Int) := of_decide_eq_true (by first | (with_reducible assumption) | assumption)
                   have q209 : x49_5 < (x1_16.length : Int) := of_decide_eq_true (by first | (with_reducible assumption) | assumption)
                   obtain ⟨ad209, e209, hx209_0⟩ := Kd.at_string (Kd.V_reads' HO_47.out).2.2 x49_5 p209 q209
                   cases e209
                   replace p209 := eq_true p209
                   replace q209 := eq_true q209
                   have hcz36_0 : wr.cell? ⟨gb194, 0, none⟩ = some (.int .i64 x195000_5) := (blk_cell BK194.out 0).trans rfl
                   have hcz36_1 : wr.cell? ⟨gb194, 1, none⟩ = some (.string x195001_5) := (blk_cell BK194.out 1).trans rfl
                   have hcz36_2 : wr.cell? ⟨gb194, 2, none⟩ = some (.int .i64 x195002_5) := (blk_cell BK194.out 2).trans rfl
                   have hcz36_3 : wr.cell? ⟨gb194, 3, none⟩ = some (u195003) := (blk_cell BK194.out 3).trans rfl
                   have hfz36_0 := blk_frozen BK194.out 0
                   have hfz36_1 := blk_frozen BK194.out 1
                   have hfz36_2 := blk_frozen BK194.out 2
                   have hfz36_3 := blk_frozen BK194.out 3
                   go_wp2
                   refine bodyPost_ret (results_ct rfl _ _ gb194 31 #[.int .i64 0, .string (⟨#[]⟩ : ByteArray), .int .i64 0, .slice none 0 0] (0, 0) _ rfl (by (with_reducible repeat (first | refine blk_drewN ?_ _ | refine blk_drew ?_ | refine blk_alloc ?_ _)); refine blk_put (cs := #[.int .i64 0, .string (⟨#[]⟩ : ByteArray), .int .i64 0, u195003]) ?_ 3 _ rfl; (with_reducible repeat (first | refine blk_drewN ?_ _ | refine blk_drew ?_ | refine blk_alloc ?_ _)); refine blk_put (cs := #[.int .i64 0, .string (⟨#[]⟩ : ByteArray), .int .i64 x195002_5, u195003]) ?_ 2 _ rfl; (with_reducible repeat (first | refine blk_drewN ?_ _ | refine blk_drew ?_ | refine blk_alloc ?_ _)); refine blk_put (cs := #[.int .i64 0, .string x195001_5, .int .i64 x195002_5, u195003]) ?_ 1 _ rfl; (with_reducible repeat (first | refine blk_drewN ?_ _ | refine blk_drew ?_ | refine blk_alloc ?_ _)); refine blk_put (cs := #[.int .i64 x195000_5, .string x195001_5, .int .i64 x195002_5, u195003]) ?_ 0 _ rfl; (with_reducible repeat (first | refine blk_drewN ?_ _ | refine blk_drew ?_ | refine blk_alloc ?_ _)); exact BK194.out) Tryz.underlying31 rfl (by kernel_rfl)) rfl ?_
                   exact ⟨_, by first | rfl | (simp [errW_none, errW_some] <;> rfl) | (simp [*, errW_none, errW_some] <;> rfl), by first | exact Kd.R_nil _ _ _ _ _ | exact Kd.N_nil _ _ _ _ _ | exact Kd.V_nil _ _ _ _ _ | exact Kd.Q_nil _ _ _ _ _ | exact Kd.S_nil _ _ _ _ _, by repeat (first | (with_reducible first | exact HB.out | apply below_alloc | apply pw_below_drewN | apply below_drew1 | refine below_set ?_ GE194.out) | exact HB.out)⟩
                 · rw [if_neg c35] at H
                   have c35b0 : ((rdOf ByteArray.empty x1_16 x49_5).toList == ([] : List UInt8)) = false := beq_eq_false_iff_ne.mpr c35
                   have c35e0 : (rdOf ByteArray.empty x1_16 x49_5).toList.isEmpty = false := by simpa using c35b0
                   have c35b1 : ((rdOf ByteArray.empty x1_16 x49_5).toList != ([] : List UInt8)) = true := bne_iff_ne.mpr c35
                   by_cases c37 : 0 < ((rdOf ByteArray.empty x1_16 x49_5).size : Int)
                   · rw [if_pos c37] at H
                     have c37b0 : decide (0 < ((rdOf ByteArray.empty x1_16 x49_5).size : Int)) = true := decide_eq_true c37
                     have c37b1 : decide (0 < (rdOf ByteArray.empty x1_16 x49_5).size) = true := decide_eq_true (by omega)
                     clear c37
                     by_cases c39 : 1 ≤ ((rdOf ByteArray.empty x1_16 x49_5).size : Int)
                     · rw [if_pos c39] at H
                       have c39b0 := eq_true c39
                       have c39b1 : decide (1 ≤ ((rdOf ByteArray.empty x1_16 x49_5).size : Int)) = true := decide_eq_true c39
                       clear c39
                       by_cases c40 : x195003_5.length < 5864062014805
                       · rw [if_pos c40] at H
                         have LMc40 := Aside0.mk c40
                         clear c40
                         obtain ⟨y210, hy210⟩ : ∃ y_ : List (S61), y_ = (x195003_5 ++ [(⟨bt (rdOf ByteArray.empty x1_16 x49_5) 0, sub (rdOf ByteArray.empty x1_16 x49_5) 1 (rdOf ByteArray.empty x1_16 x49_5).size⟩ : S61)]) := ⟨_, rfl⟩
                         replace H : (meta_words.l0 k5 a0 x1_16 (x1_16.length : Int) (wrap64 (x49_5 + 1)) x195000_5 x195001_5 x195002_5 y210) = some (r1, r2, r3, r4, r5) := by first | (rw [hy210]; with_reducible exact H) | (have H2_ := (Option.bind_some _ _).symm.trans H; rw [hy210]; with_reducible exact H2_) | (have H2_ := (Option.bind_some _ _).symm.trans H; with_reducible exact H2_) | with_reducible exact H | (rw [hy210]; exact H) | exact H
                         have Ny210 := Aside0.mk hy210
                         clear hy210
                         have H' := Aside0.mk H
                         clear H
                         have p209 : 0 ≤ (x49_5 : Int) := of_decide_eq_true (by first | (with_reducible assumption) | assumption)
                         have q209 : x49_5 < (x1_16.length : Int) := of_decide_eq_true (by first | (with_reducible assumption) | assumption)
                         obtain ⟨ad209, e209, hx209_0⟩ := Kd.at_string (Kd.V_reads' HO_47.out).2.2 x49_5 p209 q209
                         cases e209
                         replace p209 := eq_true p209
                         replace q209 := eq_true q209
                         try go_wp2
                         have n0_ := Aside0.mk (Kd.V_drew HO_47.out)
                         have n1_ := Aside0.mk (Kd.R_drew HO_195003.out)
                         have n2_ := Aside0.mk (blk_drew BK194.out)
                         have n3_ := Aside0.mk (below_drew1 HB.out)
                         clear HO_47
                         clear HO_195003
                         clear BK194
                         clear HB
                         have HO_47 := n0_
                         have HO_195003 := n1_
                         have BK194 := n2_
                         have HB := n3_
                         clear n0_ n1_ n2_ n3_
                         have p38 : 0 ≤ (0 : Int) := (by omega)
                         have q38 : 0 < (rdOf ByteArray.empty x1_16 x49_5).size := (by have : (0 : Int) < ((rdOf ByteArray.empty x1_16 x49_5).size : Int) := of_decide_eq_true (by first | (with_reducible assumption) | assumption); omega)
                         have hx38 : ∀ h : 0 < (rdOf ByteArray.empty x1_16 x49_5).size, (((rdOf ByteArray.empty x1_16 x49_5)[0]'h).toNat : Int) = bt (rdOf ByteArray.empty x1_16 x49_5) 0 := bt_at (rdOf ByteArray.empty x1_16 x49_5) 0
                         clear p38
                         have qi38 : (0 < ((rdOf ByteArray.empty x1_16 x49_5).size : Int)) = True := eq_true (of_decide_eq_true (by first | (with_reducible assumption) | assumption))
                         replace q38 := eq_true q38
                         refine start_ (n := 11) (S := fun w' => w'.cell? ⟨gb194, 0, none⟩ = some (.int .i64 x195000_5) ∧ w'.cell? ⟨gb194, 1, none⟩ = some (.string x195001_5) ∧ w'.cell? ⟨gb194, 2, none⟩ = some (.int .i64 x195002_5) ∧ w'.cell? ⟨gb194, 3, none⟩ = some (u195003)) (ds := [10]) #[false, false, false, false, false, false, false, false, false, false, false] (by kernel_rfl) rfl rfl ⟨(blk_cell BK194.out 0).trans rfl, (blk_cell BK194.out 1).trans rfl, (blk_cell BK194.out 2).trans rfl, (blk_cell BK194.out 3).trans rfl⟩ (fun hHeld => ?_); refine with_tabW meta_words.tab14 meta_words.bits14 (fun HT_ HW_ => ?_)
                         generalize wr.drew = w41 at HO_47 HO_195003 BK194 HB hHeld ⊢
                         refine pure_ (i := 0) (N := some 56) (v := ?_) (a' := ?_) #[true, false, false, false, false, false, false, false, false, false, false] rfl rfl (any_of HT_.out (by kernel_rfl)) (fun _ _ _ h => h) (Or.inl ⟨by rfl, ?_⟩) ?_ ?_
                         rotate_left
                         · intro w'
                           go_simp
                           with_reducible rfl
                         rotate_left
                         · simp only [Act.put, List.setIfInBounds_toArray, List.set_cons_zero, List.set_cons_succ, i64_w, i32_w]
                           rfl
                         refine pure_ (i := 2) (N := some 58) (v := ?_) (a' := ?_) #[true, false, true, false, false, false, false, false, false, false, false] rfl rfl (any_of HT_.out (by kernel_rfl)) (fun _ _ _ h => h) (Or.inl ⟨by rfl, ?_⟩) ?_ ?_
                         rotate_left
                         · intro w'
                           go_simp
                           with_reducible rfl
                         rotate_left
                         · simp only [Act.put, List.setIfInBounds_toArray, List.set_cons_zero, List.set_cons_succ, i64_w, i32_w]
                           rfl
                         refine pure_ (i := 4) (N := some 60) (v := ?_) (a' := ?_) #[true, false, true, false, true, false, false, false, false, false, false] rfl rfl (any_of HT_.out (by kernel_rfl)) (fun _ _ _ h => h) (Or.inl ⟨by rfl, ?_⟩) ?_ ?_
                         rotate_left
                         · intro w'
                           go_simp
                           with_reducible rfl
                         rotate_left
                         · simp only [Act.put, List.setIfInBounds_toArray, List.set_cons_zero, List.set_cons_succ, i64_w, i32_w]
                           rfl
                         refine pure_ (i := 5) (N := some 61) (v := ?_) (a' := ?_) #[true, false, true, false, true, true, false, false, false, false, false] rfl rfl (any_of HT_.out (by kernel_rfl)) (fun _ _ _ h => h) (Or.inl ⟨by rfl, ?_⟩) ?_ ?_
                         rotate_left
                         · intro w'
                           go_simp
                           with_reducible rfl
                         rotate_left
                         · simp only [Act.put, List.setIfInBounds_toArray, List.set_cons_zero, List.set_cons_succ, i64_w, i32_w]
                           rfl
                         refine take_ (i := 1) (N := some 57) (v := ?_) (a' := ?_) #[true, true, true, false, true, true, false, false, false, false, false] rfl rfl (take_ofW HT_.out HW_.out (by kernel_rfl)) (fun _ _ _ h => h) (Or.inl ⟨by rfl, ?_⟩) hHeld ?_ ?_
                         rotate_left
                         · rintro w' ⟨s0, s1, s2, s3⟩
                           go_simp
                           with_reducible rfl
                         rotate_left
                         · simp only [Act.put, List.setIfInBounds_toArray, List.set_cons_zero, List.set_cons_succ, i64_w, i32_w]
                           rfl
                         refine take_ (i := 3) (N := some 59) (v := ?_) (a' := ?_) #[true, true, true, true, true, true, false, false, false, false, false] rfl rfl (take_ofW HT_.out HW_.out (by kernel_rfl)) (fun _ _ _ h => h) (Or.inl ⟨by rfl, ?_⟩) hHeld ?_ ?_
                         rotate_left
                         · rintro w' ⟨s0, s1, s2, s3⟩
                           go_simp
                           with_reducible rfl
                         rotate_left
                         · simp only [Act.put, List.setIfInBounds_toArray, List.set_cons_zero, List.set_cons_succ, i64_w, i32_w]
                           rfl
                         refine pure_ (i := 6) (N := some 62) (v := ?_) (a' := ?_) #[true, true, true, true, true, true, true, false, false, false, false] rfl rfl (any_of HT_.out (by kernel_rfl)) (fun _ _ _ h => h) (Or.inl ⟨by rfl, ?_⟩) ?_ ?_
                         rotate_left
                         · intro w'
                           go_simp
                           with_reducible rfl
                         rotate_left
                         · simp only [Act.put, List.setIfInBounds_toArray, List.set_cons_zero, List.set_cons_succ, i64_w, i32_w]
                           rfl
                         refine one_ (i := 7) (N := some 63) #[true, true, true, true, true, true, true, true, false, false, false] rfl rfl (one_of HT_.out (by kernel_rfl)) (by decide) (fun K hK => ?_)
                         refine value_ (w1 := ?_) (v := ?_) (by rfl) rfl ?_ ?_
                         rotate_left 2
                         · go_simp
                           constructor
                           · rfl
                           · rfl
                         refine hK.out _ _ ⟨(blk_cell (blk_alloc BK194.out _) 0).trans rfl, (blk_cell (blk_alloc BK194.out _) 1).trans rfl, (blk_cell (blk_alloc BK194.out _) 2).trans rfl, (blk_cell (blk_alloc BK194.out _) 3).trans rfl⟩ (fun hHeld => ?_)
                         clear hK K
                         refine norm_ (a' := ?_) ?_ ?_
                         rotate_left
                         · show Act.put _ (some 63) _ = _
                           simp only [Act.put, List.setIfInBounds_toArray, List.set_cons_zero, List.set_cons_succ, i64_w, i32_w]
                           rfl
                         refine one_ (i := 8) (N := some 64) #[true, true, true, true, true, true, true, true, true, false, false] rfl rfl (one_of HT_.out (by kernel_rfl)) (by decide) (fun K hK => ?_)
                         refine Kd.R_append_step k61 (w0 := w) w.heap.size (by rfl) (.tmp 57) (.tmp 63) 29 61 (.agg #[(.int .u8 0), (.string ⟨#[]⟩)]) 24 rfl Tryz.underlying29 info61 rfl (by decide) (by omega) u195003 x195003_5 (⟨bt (rdOf ByteArray.empty x1_16 x49_5) 0, sub (rdOf ByteArray.empty x1_16 x49_5) 1 (rdOf ByteArray.empty x1_16 x49_5).size⟩ : S61) [.int .u8 (bt (rdOf ByteArray.empty x1_16 x49_5) 0), .string (sub (rdOf ByteArray.empty x1_16 x49_5) 1 (rdOf ByteArray.empty x1_16 x49_5).size)] (fun k_ => (w.heap.size ≤ k_)) (fun _ => False) rfl rfl ?aP (fun _ hk => hk.elim) ?aF ?aO ?aB ?aS ?aL ?_
                         (case aP => exact k61_mkM _ _ _ (⟨bt (rdOf ByteArray.empty x1_16 x49_5) 0, sub (rdOf ByteArray.empty x1_16 x49_5) 1 (rdOf ByteArray.empty x1_16 x49_5).size⟩ : S61))
                         (case aB => exact (by repeat (first | (with_reducible first | exact HB.out | apply below_alloc | apply pw_below_drewN | apply below_drew1 | refine below_set ?_ GE194.out) | exact HB.out)))
                         (case aF => exact (fun k_ hk => (Nat.le_trans (below_size (by repeat (first | (with_reducible first | exact HB.out | apply below_alloc | apply pw_below_drewN | apply below_drew1 | refine below_set ?_ GE194.out) | exact HB.out))) hk)))
                         (case aO => exact (by (with_reducible repeat (first | apply Kd.R_alloc | apply Kd.R_drewN | apply Kd.R_drew)); exact HO_195003.out))
                         (case aS => exact (below_size (by repeat (first | (with_reducible first | exact HB.out | apply below_alloc | apply pw_below_drewN | apply below_drew1 | refine below_set ?_ GE194.out) | exact HB.out))))
                         (case aL => have := LMc40.out; omega)
                         intro v211 w42 ho hb hg hat
                         rw [← Ny210.out] at ho
                         have n0_ := Aside0.mk (Kd.V_afterv (ok := (fun k_ => (P1_ k_ ∨ w.heap.size ≤ k_) ∧ k_ ≠ gb194)) (by (with_reducible repeat (first | apply Kd.V_alloc | apply Kd.V_drewN | apply Kd.V_drew)); exact Kd.V_mono HO_47.out (fun _ hk => ⟨⟨hk.1, hk.2.2⟩, hk.2.1⟩)) hg hat)
                         have n1_ := Aside0.mk (blk_grown (g := gb194) (o := .cells #[.int .i64 x195000_5, .string x195001_5, .int .i64 x195002_5, u195003] 31 (0, 0)) (by (with_reducible repeat (first | refine blk_drewN ?_ _ | refine blk_drew ?_ | refine blk_alloc ?_ _)); exact BK194.out) hg (Kd.R_ne HO_195003.out BK194.out (by decide)))
                         have n2_ := Aside0.mk (hb)
                         have n3_ := Aside0.mk (ho)
                         clear HO_47
                         clear BK194
                         clear HB
                         clear HO_195003
                         have HO_47 := n0_
                         have BK194 := n1_
                         have HB := n2_
                         have HO212 := n3_
                         clear n0_ n1_ n2_ n3_
                         clear ho hb hg hat
                         obtain ⟨Ao43, co43, eo43⟩ := Kd.R_slice HO212.out
                         (first | subst eo43 | (injection eo43 with f1_ f2_ f3_; have f4_ := f1_.symm; have f5_ := f3_.symm; clear f1_ f2_ f3_; subst f4_; subst f5_))
                         refine hK.out _ _ ⟨(blk_cell BK194.out 0).trans rfl, (blk_cell BK194.out 1).trans rfl, (blk_cell BK194.out 2).trans rfl, (blk_cell BK194.out 3).trans rfl⟩ (fun hHeld => ?_)
                         clear hK K
                         refine norm_ (a' := ?_) ?_ ?_
                         rotate_left
                         · show Act.put _ (some 64) _ = _
                           simp only [Act.put, List.setIfInBounds_toArray, List.set_cons_zero, List.set_cons_succ, i64_w, i32_w]
                           rfl
                         refine pure_ (i := 9) (N := some 65) (v := ?_) (a' := ?_) #[true, true, true, true, true, true, true, true, true, true, false] rfl rfl (any_of HT_.out (by kernel_rfl)) (fun _ _ _ h => h) (Or.inl ⟨by rfl, ?_⟩) ?_ ?_
                         rotate_left
                         · intro w'
                           go_simp
                           with_reducible rfl
                         rotate_left
                         · simp only [Act.put, List.setIfInBounds_toArray, List.set_cons_zero, List.set_cons_succ, i64_w, i32_w]
                           rfl
                         refine last_ (i := 10) (N := none) #[true, true, true, true, true, true, true, true, true, true, true] rfl rfl (one_of HT_.out (by kernel_rfl)) (by decide) (fun K hK => ?_)
                         have hs44 : w42.cell? ⟨gb194, 3, none⟩ = some (u195003) := (blk_cell BK194.out 3).trans rfl
                         have hfs44 := blk_frozen BK194.out 3
                         refine skip_ (w1 := ?_) (by rfl) rfl ?_ ?_
                         rotate_left
                         · go_simp
                           rfl
                         refine hK.out _ _ ?_
                         clear hK K
                         refine done_ (done_of HT_.out (by kernel_rfl)) ?_
                         try go_wp2
                         go_roundg k5
                         case measure => have := HJ2.out; have := HJ6.out; have := HJ13.out; have := HJ16.out; have := HK5.out; omega
                         case rel => exact ⟨(wrap64 (x49_5 + 1)), (x195000_5), (x195001_5), (x195002_5), (y210), (.slice Ao43 y210.length co43), (by first | rfl | (simp; done) | (simp [*]; done)), H', ⟨by have := HJ2.out; have := HJ6.out; have := HJ13.out; have := HJ16.out; have := HK5.out; omega⟩, ⟨by (with_reducible repeat (first | apply Kd.V_alloc | apply Kd.V_drewN | apply Kd.V_drew)); exact Kd.V_mono (Kd.V_far (p := ⟨gb194, 3, none⟩) (Kd.V_mono HO_47.out (fun k_ hk => (⟨hk, hk.1.2⟩ : _ ∧ k_ ≠ gb194))) (fun _ hk => hk.2) (.slice Ao43 y210.length co43)) (fun _ hk => ⟨hk.1.1.1, ⟨hk.1.2, hk.1.1.2⟩⟩)⟩, ⟨by (with_reducible repeat (first | apply Kd.R_alloc | apply Kd.R_drewN | apply Kd.R_drew)); exact Kd.R_mono (Kd.R_far (p := ⟨gb194, 3, none⟩) (Kd.R_types HO212.out BK194.out (by decide)) (fun _ hk => hk.2) (.slice Ao43 y210.length co43)) (fun _ hk => hk.1)⟩, ⟨by (with_reducible repeat (first | refine blk_drewN ?_ _ | refine blk_drew ?_ | refine blk_alloc ?_ _)); refine blk_put (cs := #[.int .i64 x195000_5, .string x195001_5, .int .i64 x195002_5, u195003]) ?_ 3 _ rfl; (with_reducible repeat (first | refine blk_drewN ?_ _ | refine blk_drew ?_ | refine blk_alloc ?_ _)); exact BK194.out⟩, ⟨by repeat (first | (with_reducible first | exact HB.out | apply below_alloc | apply pw_below_drewN | apply below_drew1 | refine below_set ?_ GE194.out) | exact HB.out)⟩⟩
                       · rw [if_neg c40] at H
                         exact absurd H (by simp)
                     · rw [if_neg c39] at H
                       exact absurd H (by simp)
                   · rw [if_neg c37] at H
                     exact absurd H (by simp)
               · rw [if_neg c34] at H
                 exact absurd H (by simp)
             · rw [if_neg c33] at H
               exact absurd H (by simp)
           · rw [if_neg c32] at H
             have c32b0 : decide (x49_5 < (x1_16.length : Int)) = false := decide_eq_false c32
             clear c32
             replace H := Option.bind_eq_some_iff.mp H
             obtain ⟨⟨t213, t214⟩, A450, H⟩ := H
             replace H : (if t214 = true then (meta_words.j5 k5 (a0 != 5) x195000_5 x195001_5 x195002_5 x195003_5) else (meta_words.j5 k5 false x195000_5 x195001_5 x195002_5 x195003_5)) = some (r1, r2, r3, r4, r5) := H
             have A45 := Aside0.mk A450
             clear A450
             have HC46 := Aside0.mk H
             clear H
             have hcz47_0 : wr.cell? ⟨gb194, 0, none⟩ = some (.int .i64 x195000_5) := (blk_cell BK194.out 0).trans rfl
             have hcz47_1 : wr.cell? ⟨gb194, 1, none⟩ = some (.string x195001_5) := (blk_cell BK194.out 1).trans rfl
             have hcz47_2 : wr.cell? ⟨gb194, 2, none⟩ = some (.int .i64 x195002_5) := (blk_cell BK194.out 2).trans rfl
             have hcz47_3 : wr.cell? ⟨gb194, 3, none⟩ = some (u195003) := (blk_cell BK194.out 3).trans rfl
             have hfz47_0 := blk_frozen BK194.out 0
             have hfz47_1 := blk_frozen BK194.out 1
             have hfz47_2 := blk_frozen BK194.out 2
             have hfz47_3 := blk_frozen BK194.out 3
             obtain ⟨Ao48, co48, eo48⟩ := Kd.R_slice HO_195003.out
             subst eo48
             go_upto_region 17 with (first | ((with_reducible refine gate_callee (f := 15) rfl ?_); refine goesL_ (some 69) rfl rfl Tryz.func15 (by kernel_rfl) rfl #[.agg #[.int .i64 x195000_5, .string x195001_5, .int .i64 x195002_5, .slice Ao48 x195003_5.length co48], .int .u8 98] rfl (by (try simp only [List.map_toArray, List.map_cons, List.map_nil]); first | done | rfl | (simp only [List.length_drop, List.length_take]; rfl) | (simp only [IntKind.wrap_u64]; rw [Int.emod_eq_of_lt (by omega) (by omega)]; rfl) | (simp only [ByteArray.size_extract]; done) | (simp only [ByteArray.size_extract]; rfl)) ?_; (with_reducible refine (meta_Find.calls x195000_5 x195001_5 x195002_5 _ _ x195003_5 98 t213 t214 _ ?side1 ?side2 A45.out).mono ?_); (case side1 => repeat (first | exact (Kd.R_reads' HO_195003.out).2.2 | (with_reducible refine Kd.C_alloc ?_ _) | (with_reducible refine Kd.C_drewN ?_ _) | (with_reducible refine Kd.C_drew ?_))); (case side2 => exact (Kd.R_reads' HO_195003.out).2.1); rintro e w49 ⟨rfl, hb⟩; refine ⟨_, rfl, ?_⟩; have n0_ := Aside0.mk (Kd.V_below (by (with_reducible repeat (first | apply Kd.V_alloc | apply Kd.V_drewN | apply Kd.V_drew)); exact HO_47.out) hb); have n1_ := Aside0.mk (Kd.R_below (by (with_reducible repeat (first | apply Kd.R_alloc | apply Kd.R_drewN | apply Kd.R_drew)); exact HO_195003.out) hb); have n2_ := Aside0.mk (blk_below (g := gb194) (o := .cells #[.int .i64 x195000_5, .string x195001_5, .int .i64 x195002_5, .slice Ao48 x195003_5.length co48] 31 (0, 0)) (by (with_reducible repeat (first | refine blk_drewN ?_ _ | refine blk_drew ?_ | refine blk_alloc ?_ _)); exact BK194.out) hb); have n3_ := Aside0.mk (below_step (by repeat (first | (with_reducible first | exact HB.out | apply below_alloc | apply pw_below_drewN | apply below_drew1 | refine below_set ?_ GE194.out) | exact HB.out)) hb); clear HO_47; clear HO_195003; clear BK194; clear HB; have HO_47 := n0_; have HO_195003 := n1_; have BK194 := n2_; have HB := n3_; clear n0_ n1_ n2_ n3_; (try clear hb); (try clear hb2); (try clear hk); (try clear hi)))
             (try simp only [Act.put, List.setIfInBounds_toArray, List.set_cons_zero, List.set_cons_succ])
             go_cut [76] (fun v76 wc => ∃ (kq : Nat) (x76_45 : Bool), v76 = .bool x76_45 ∧ Aside0 (meta_words.j5 kq x76_45 x195000_5 x195001_5 x195002_5 x195003_5 = some (r1, r2, r3, r4, r5)) ∧ Aside0 (kq ≤ k5) ∧ Aside0 (Kd.R k61 61 wc w.heap.size (fun k_ => (w.heap.size ≤ k_)) (.slice Ao48 x195003_5.length co48) x195003_5) ∧ Aside0 (wc.heap[gb194]? = some (.cells #[.int .i64 x195000_5, .string x195001_5, .int .i64 x195002_5, (.slice Ao48 x195003_5.length co48)] 31 (0, 0))) ∧ Aside0 (Below w.heap.size w wc))
             case first =>
              have H := HC46.out
              clear HC46
              by_cases c50 : t214 = true
              · subst c50
                have H1 : (meta_words.j5 k5 (a0 != 5) x195000_5 x195001_5 x195002_5 x195003_5) = some (r1, r2, r3, r4, r5) := by rw [if_pos rfl] at H; exact H
                clear H
                have H := H1
                clear H1
                have H' := Aside0.mk H
                clear H
                go_wp2
                go_meet
                case rel => exact ⟨_, ((a0 != 5)), (by first | rfl | (simp; done) | (simp [*]; done)), H', ⟨by have := HJ2.out; have := HJ6.out; have := HJ13.out; have := HJ16.out; have := HK5.out; first | omega | exact Nat.le_refl _⟩, ⟨by (with_reducible repeat (first | apply Kd.R_alloc | apply Kd.R_drewN | apply Kd.R_drew)); exact HO_195003.out⟩, ⟨by (with_reducible repeat (first | refine blk_drewN ?_ _ | refine blk_drew ?_ | refine blk_alloc ?_ _)); exact BK194.out⟩, ⟨by repeat (first | (with_reducible first | exact HB.out | apply below_alloc | apply pw_below_drewN | apply below_drew1 | refine below_set ?_ GE194.out) | exact HB.out)⟩⟩
              · replace c50 := Bool.eq_false_iff.mpr c50
                subst c50
                have H1 : (meta_words.j5 k5 false x195000_5 x195001_5 x195002_5 x195003_5) = some (r1, r2, r3, r4, r5) := by rw [if_neg (show ¬ (false = true) by decide)] at H; exact H
                clear H
                have H := H1
                clear H1
                have H' := Aside0.mk H
                clear H
                go_wp2
                go_meet
                case rel => exact ⟨_, (false), (by first | rfl | (simp; done) | (simp [*]; done)), H', ⟨by have := HJ2.out; have := HJ6.out; have := HJ13.out; have := HJ16.out; have := HK5.out; first | omega | exact Nat.le_refl _⟩, ⟨by (with_reducible repeat (first | apply Kd.R_alloc | apply Kd.R_drewN | apply Kd.R_drew)); exact HO_195003.out⟩, ⟨by (with_reducible repeat (first | refine blk_drewN ?_ _ | refine blk_drew ?_ | refine blk_alloc ?_ _)); exact BK194.out⟩, ⟨by repeat (first | (with_reducible first | exact HB.out | apply below_alloc | apply pw_below_drewN | apply below_drew1 | refine below_set ?_ GE194.out) | exact HB.out)⟩⟩
             case rest =>
              clear HC46
              try clear c1
              try clear p1
              try clear q1
              try clear hx1
              try clear qi1
              try clear c2
              try clear p2
              try clear q2
              try clear hx2
              try clear qi2
              try clear c3
              try clear p3
              try clear q3
              try clear hx3
              try clear qi3
              try clear c4
              try clear c5
              try clear c6
              try clear c6b0
              try clear c6b1
              try clear p6
              try clear c7
              try clear c8
              try clear c9
              try clear c9b0
              try clear c9b1
              try clear c10
              try clear c10b0
              try clear c10b1
              try clear c12
              try clear q12
              try clear c15
              try clear c15b0
              try clear c15b1
              try clear c18
              try clear c19
              try clear c19b0
              try clear c19b1
              try clear p19
              try clear q19
              try clear hx19
              try clear qi19
              try clear p20
              try clear q20
              try clear hx20
              try clear qi20
              try clear c21
              try clear c22
              try clear c22b0
              try clear c22b1
              try clear c27
              try clear q27
              try clear c32
              try clear c32b0
              try clear c33
              try clear c33b0
              try clear c34
              try clear c34b0
              try clear c35
              try clear c35b0
              try clear c35e0
              try clear c35b1
              try clear c37
              try clear c37b0
              try clear c37b1
              try clear p38
              try clear q38
              try clear hx38
              try clear qi38
              try clear c39
              try clear c39b0
              try clear c39b1
              try clear c40
              try clear c50
              try clear hcz25_0
              try clear hcz25_1
              try clear hcz25_2
              try clear hcz25_3
              try clear hcz30_0
              try clear hcz30_1
              try clear hcz30_2
              try clear hcz30_3
              try clear hcz36_0
              try clear hcz36_1
              try clear hcz36_2
              try clear hcz36_3
              try clear hcz47_0
              try clear hcz47_1
              try clear hcz47_2
              try clear hcz47_3
              try clear hcz5_0
              try clear hcz5_1
              try clear hcz5_2
              try clear hcz5_3
              try clear hfz25_0
              try clear hfz25_1
              try clear hfz25_2
              try clear hfz25_3
              try clear hfz30_0
              try clear hfz30_1
              try clear hfz30_2
              try clear hfz30_3
              try clear hfz36_0
              try clear hfz36_1
              try clear hfz36_2
              try clear hfz36_3
              try clear hfz47_0
              try clear hfz47_1
              try clear hfz47_2
              try clear hfz47_3
              try clear hfz5_0
              try clear hfz5_1
              try clear hfz5_2
              try clear hfz5_3
              try clear hx195_0
              try clear hx201_0
              try clear hx209_0
              try clear p1
              try clear p19
              try clear p195
              try clear p2
              try clear p20
              try clear p201
              try clear p209
              try clear p38
              try clear q1
              try clear q12
              try clear q19
              try clear q195
              try clear q2
              try clear q20
              try clear q201
              try clear q209
              try clear q27
              try clear q38
              obtain ⟨kq, x76_45, rfl, HA, HJ45, HO_195003, BK194, HB⟩ := hcut
              cases kq with
              | zero => exact absurd HA.out (by simp [meta_words.j5])
              | succ kj45 =>
               have H := HA.out
               clear HA
               simp only [meta_words.j5] at H
               by_cases c51 : x76_45 = true
               · subst c51
                 have H1 : ((meta_Decode.f x195001_5).bind fun bt215 => (if bt215.2 = 0 then (some (x195000_5, bt215.1, x195002_5, x195003_5, true)) else (some (0, (⟨#[]⟩ : ByteArray), 0, ([] : List (S61)), false)))) = some (r1, r2, r3, r4, r5) := by rw [if_pos rfl] at H; exact H
                 clear H
                 have H := H1
                 clear H1
                 replace H := Option.bind_eq_some_iff.mp H
                 obtain ⟨⟨t215, t216⟩, A520, H⟩ := H
                 replace H : (if t216 = 0 then (some (x195000_5, t215, x195002_5, x195003_5, true)) else (some (0, (⟨#[]⟩ : ByteArray), 0, ([] : List (S61)), false))) = some (r1, r2, r3, r4, r5) := H
                 have A52 := Aside0.mk A520
                 clear A520
                 by_cases c53 : t216 = 0
                 · rw [if_pos c53] at H
                   have c53b0 : (t216 == 0) = true := beq_iff_eq.mpr c53
                   have c53b1 : (t216 != 0) = false := bne_eq_false_iff_eq.mpr c53
                   clear c53
                   simp only [Option.some.injEq, Prod.mk.injEq] at H
                   obtain ⟨rfl, rfl, rfl, rfl, rfl⟩ := H
                   have hcz54_0 : wc.cell? ⟨gb194, 0, none⟩ = some (.int .i64 x195000_5) := (blk_cell BK194.out 0).trans rfl
                   have hcz54_1 : wc.cell? ⟨gb194, 1, none⟩ = some (.string x195001_5) := (blk_cell BK194.out 1).trans rfl
                   have hcz54_2 : wc.cell? ⟨gb194, 2, none⟩ = some (.int .i64 x195002_5) := (blk_cell BK194.out 2).trans rfl
                   have hcz54_3 : wc.cell? ⟨gb194, 3, none⟩ = some (.slice Ao48 x195003_5.length co48) := (blk_cell BK194.out 3).trans rfl
                   have hfz54_0 := blk_frozen BK194.out 0
                   have hfz54_1 := blk_frozen BK194.out 1
                   have hfz54_2 := blk_frozen BK194.out 2
                   have hfz54_3 := blk_frozen BK194.out 3
                   go_wp2_with (first | ((with_reducible refine gate_callee (f := 27) rfl ?_); refine goesL_ (some 80) rfl rfl Tryz.func27 (by kernel_rfl) rfl #[.string x195001_5] rfl (by (try simp only [List.map_toArray, List.map_cons, List.map_nil]); first | done | rfl | (simp only [List.length_drop, List.length_take]; rfl) | (simp only [IntKind.wrap_u64]; rw [Int.emod_eq_of_lt (by omega) (by omega)]; rfl) | (simp only [ByteArray.size_extract]; done) | (simp only [ByteArray.size_extract]; rfl)) ?_; (with_reducible refine (meta_Decode.calls x195001_5 t215 t216 _ A52.out).mono ?_); rintro e w55 ⟨rfl, hb⟩; refine ⟨_, rfl, ?_⟩; have n0_ := Aside0.mk (Kd.R_below (by (with_reducible repeat (first | apply Kd.R_alloc | apply Kd.R_drewN | apply Kd.R_drew)); exact HO_195003.out) hb); have n1_ := Aside0.mk (blk_below (g := gb194) (o := .cells #[.int .i64 x195000_5, .string x195001_5, .int .i64 x195002_5, .slice Ao48 x195003_5.length co48] 31 (0, 0)) (by (with_reducible repeat (first | refine blk_drewN ?_ _ | refine blk_drew ?_ | refine blk_alloc ?_ _)); exact BK194.out) hb); have n2_ := Aside0.mk (below_step (by repeat (first | (with_reducible first | exact HB.out | apply below_alloc | apply pw_below_drewN | apply below_drew1 | refine below_set ?_ GE194.out) | exact HB.out)) hb); clear HO_195003; clear BK194; clear HB; have HO_195003 := n0_; have BK194 := n1_; have HB := n2_; clear n0_ n1_ n2_; (try clear hb); (try clear hb2); (try clear hk); (try clear hi); have hcz56_0 : w55.cell? ⟨gb194, 0, none⟩ = some (.int .i64 x195000_5) := (blk_cell BK194.out 0).trans rfl; have hcz56_1 : w55.cell? ⟨gb194, 1, none⟩ = some (.string x195001_5) := (blk_cell BK194.out 1).trans rfl; have hcz56_2 : w55.cell? ⟨gb194, 2, none⟩ = some (.int .i64 x195002_5) := (blk_cell BK194.out 2).trans rfl; have hcz56_3 : w55.cell? ⟨gb194, 3, none⟩ = some (.slice Ao48 x195003_5.length co48) := (blk_cell BK194.out 3).trans rfl; have hfz56_0 := blk_frozen BK194.out 0; have hfz56_1 := blk_frozen BK194.out 1; have hfz56_2 := blk_frozen BK194.out 2; have hfz56_3 := blk_frozen BK194.out 3))
                   refine bodyPost_ret (results_ct rfl _ _ gb194 31 #[.int .i64 x195000_5, .string t215, .int .i64 x195002_5, .slice Ao48 x195003_5.length co48] (0, 0) _ rfl (by (with_reducible repeat (first | refine blk_drewN ?_ _ | refine blk_drew ?_ | refine blk_alloc ?_ _)); refine blk_put (cs := #[.int .i64 x195000_5, .string t215, .int .i64 x195002_5, .slice Ao48 x195003_5.length co48]) ?_ 3 _ rfl; (with_reducible repeat (first | refine blk_drewN ?_ _ | refine blk_drew ?_ | refine blk_alloc ?_ _)); refine blk_put (cs := #[.int .i64 x195000_5, .string t215, .int .i64 x195002_5, .slice Ao48 x195003_5.length co48]) ?_ 2 _ rfl; (with_reducible repeat (first | refine blk_drewN ?_ _ | refine blk_drew ?_ | refine blk_alloc ?_ _)); refine blk_put (cs := #[.int .i64 x195000_5, .string t215, .int .i64 x195002_5, .slice Ao48 x195003_5.length co48]) ?_ 1 _ rfl; (with_reducible repeat (first | refine blk_drewN ?_ _ | refine blk_drew ?_ | refine blk_alloc ?_ _)); refine blk_put (cs := #[.int .i64 x195000_5, .string t215, .int .i64 x195002_5, .slice Ao48 x195003_5.length co48]) ?_ 0 _ rfl; (with_reducible repeat (first | refine blk_drewN ?_ _ | refine blk_drew ?_ | refine blk_alloc ?_ _)); refine blk_put (cs := #[.int .i64 x195000_5, .string x195001_5, .int .i64 x195002_5, .slice Ao48 x195003_5.length co48]) ?_ 1 _ rfl; (with_reducible repeat (first | refine blk_drewN ?_ _ | refine blk_drew ?_ | refine blk_alloc ?_ _)); exact BK194.out) Tryz.underlying31 rfl (by kernel_rfl)) rfl ?_
                   exact ⟨_, by first | rfl | (simp [errW_none, errW_some] <;> rfl) | (simp [*, errW_none, errW_some] <;> rfl), by (with_reducible repeat (first | apply Kd.R_alloc | apply Kd.R_drewN | apply Kd.R_drew)); exact Kd.R_mono (Kd.R_far (p := ⟨gb194, 3, none⟩) (Kd.R_far (p := ⟨gb194, 2, none⟩) (Kd.R_far (p := ⟨gb194, 1, none⟩) (Kd.R_far (p := ⟨gb194, 0, none⟩) (Kd.R_far (p := ⟨gb194, 1, none⟩) (Kd.R_types HO_195003.out BK194.out (by decide)) (fun _ hk => hk.2) (.string t215)) (fun _ hk => hk.2) (.int .i64 x195000_5)) (fun _ hk => hk.2) (.string t215)) (fun _ hk => hk.2) (.int .i64 x195002_5)) (fun _ hk => hk.2) (.slice Ao48 x195003_5.length co48)) (fun _ hk => hk.1), by repeat (first | (with_reducible first | exact HB.out | apply below_alloc | apply pw_below_drewN | apply below_drew1 | refine below_set ?_ GE194.out) | exact HB.out)⟩
                 · rw [if_neg c53] at H
                   have c53b0 : (t216 == 0) = false := beq_eq_false_iff_ne.mpr c53
                   have c53b1 : (t216 != 0) = true := bne_iff_ne.mpr c53
                   simp only [Option.some.injEq, Prod.mk.injEq] at H
                   obtain ⟨rfl, rfl, rfl, rfl, rfl⟩ := H
                   have hcz57_0 : wc.cell? ⟨gb194, 0, none⟩ = some (.int .i64 x195000_5) := (blk_cell BK194.out 0).trans rfl
                   have hcz57_1 : wc.cell? ⟨gb194, 1, none⟩ = some (.string x195001_5) := (blk_cell BK194.out 1).trans rfl
                   have hcz57_2 : wc.cell? ⟨gb194, 2, none⟩ = some (.int .i64 x195002_5) := (blk_cell BK194.out 2).trans rfl
                   have hcz57_3 : wc.cell? ⟨gb194, 3, none⟩ = some (.slice Ao48 x195003_5.length co48) := (blk_cell BK194.out 3).trans rfl
                   have hfz57_0 := blk_frozen BK194.out 0
                   have hfz57_1 := blk_frozen BK194.out 1
                   have hfz57_2 := blk_frozen BK194.out 2
                   have hfz57_3 := blk_frozen BK194.out 3
                   go_wp2_with (first | ((with_reducible refine gate_callee (f := 27) rfl ?_); refine goesL_ (some 80) rfl rfl Tryz.func27 (by kernel_rfl) rfl #[.string x195001_5] rfl (by (try simp only [List.map_toArray, List.map_cons, List.map_nil]); first | done | rfl | (simp only [List.length_drop, List.length_take]; rfl) | (simp only [IntKind.wrap_u64]; rw [Int.emod_eq_of_lt (by omega) (by omega)]; rfl) | (simp only [ByteArray.size_extract]; done) | (simp only [ByteArray.size_extract]; rfl)) ?_; (with_reducible refine (meta_Decode.calls x195001_5 t215 t216 _ A52.out).mono ?_); rintro e w58 ⟨rfl, hb⟩; refine ⟨_, rfl, ?_⟩; have n0_ := Aside0.mk (Kd.R_below (by (with_reducible repeat (first | apply Kd.R_alloc | apply Kd.R_drewN | apply Kd.R_drew)); exact HO_195003.out) hb); have n1_ := Aside0.mk (blk_below (g := gb194) (o := .cells #[.int .i64 x195000_5, .string x195001_5, .int .i64 x195002_5, .slice Ao48 x195003_5.length co48] 31 (0, 0)) (by (with_reducible repeat (first | refine blk_drewN ?_ _ | refine blk_drew ?_ | refine blk_alloc ?_ _)); exact BK194.out) hb); have n2_ := Aside0.mk (below_step (by repeat (first | (with_reducible first | exact HB.out | apply below_alloc | apply pw_below_drewN | apply below_drew1 | refine below_set ?_ GE194.out) | exact HB.out)) hb); clear HO_195003; clear BK194; clear HB; have HO_195003 := n0_; have BK194 := n1_; have HB := n2_; clear n0_ n1_ n2_; (try clear hb); (try clear hb2); (try clear hk); (try clear hi); have hcz59_0 : w58.cell? ⟨gb194, 0, none⟩ = some (.int .i64 x195000_5) := (blk_cell BK194.out 0).trans rfl; have hcz59_1 : w58.cell? ⟨gb194, 1, none⟩ = some (.string x195001_5) := (blk_cell BK194.out 1).trans rfl; have hcz59_2 : w58.cell? ⟨gb194, 2, none⟩ = some (.int .i64 x195002_5) := (blk_cell BK194.out 2).trans rfl; have hcz59_3 : w58.cell? ⟨gb194, 3, none⟩ = some (.slice Ao48 x195003_5.length co48) := (blk_cell BK194.out 3).trans rfl; have hfz59_0 := blk_frozen BK194.out 0; have hfz59_1 := blk_frozen BK194.out 1; have hfz59_2 := blk_frozen BK194.out 2; have hfz59_3 := blk_frozen BK194.out 3))
                   refine bodyPost_ret (results_ct rfl _ _ gb194 31 #[.int .i64 0, .string (⟨#[]⟩ : ByteArray), .int .i64 0, .slice none 0 0] (0, 0) _ rfl (by (with_reducible repeat (first | refine blk_drewN ?_ _ | refine blk_drew ?_ | refine blk_alloc ?_ _)); refine blk_put (cs := #[.int .i64 0, .string (⟨#[]⟩ : ByteArray), .int .i64 0, .slice Ao48 x195003_5.length co48]) ?_ 3 _ rfl; (with_reducible repeat (first | refine blk_drewN ?_ _ | refine blk_drew ?_ | refine blk_alloc ?_ _)); refine blk_put (cs := #[.int .i64 0, .string (⟨#[]⟩ : ByteArray), .int .i64 x195002_5, .slice Ao48 x195003_5.length co48]) ?_ 2 _ rfl; (with_reducible repeat (first | refine blk_drewN ?_ _ | refine blk_drew ?_ | refine blk_alloc ?_ _)); refine blk_put (cs := #[.int .i64 0, .string x195001_5, .int .i64 x195002_5, .slice Ao48 x195003_5.length co48]) ?_ 1 _ rfl; (with_reducible repeat (first | refine blk_drewN ?_ _ | refine blk_drew ?_ | refine blk_alloc ?_ _)); refine blk_put (cs := #[.int .i64 x195000_5, .string x195001_5, .int .i64 x195002_5, .slice Ao48 x195003_5.length co48]) ?_ 0 _ rfl; (with_reducible repeat (first | refine blk_drewN ?_ _ | refine blk_drew ?_ | refine blk_alloc ?_ _)); exact BK194.out) Tryz.underlying31 rfl (by kernel_rfl)) rfl ?_
                   exact ⟨_, by first | rfl | (simp [errW_none, errW_some] <;> rfl) | (simp [*, errW_none, errW_some] <;> rfl), by first | exact Kd.R_nil _ _ _ _ _ | exact Kd.N_nil _ _ _ _ _ | exact Kd.V_nil _ _ _ _ _ | exact Kd.Q_nil _ _ _ _ _ | exact Kd.S_nil _ _ _ _ _, by repeat (first | (with_reducible first | exact HB.out | apply below_alloc | apply pw_below_drewN | apply below_drew1 | refine below_set ?_ GE194.out) | exact HB.out)⟩
               · replace c51 := Bool.eq_false_iff.mpr c51
                 subst c51
                 have H1 : (some (x195000_5, x195001_5, x195002_5, x195003_5, true)) = some (r1, r2, r3, r4, r5) := by rw [if_neg (show ¬ (false = true) by decide)] at H; exact H
                 clear H
                 have H := H1
                 clear H1
                 simp only [Option.some.injEq, Prod.mk.injEq] at H
                 obtain ⟨rfl, rfl, rfl, rfl, rfl⟩ := H
                 have hcz60_0 : wc.cell? ⟨gb194, 0, none⟩ = some (.int .i64 x195000_5) := (blk_cell BK194.out 0).trans rfl
                 have hcz60_1 : wc.cell? ⟨gb194, 1, none⟩ = some (.string x195001_5) := (blk_cell BK194.out 1).trans rfl
                 have hcz60_2 : wc.cell? ⟨gb194, 2, none⟩ = some (.int .i64 x195002_5) := (blk_cell BK194.out 2).trans rfl
                 have hcz60_3 : wc.cell? ⟨gb194, 3, none⟩ = some (.slice Ao48 x195003_5.length co48) := (blk_cell BK194.out 3).trans rfl
                 have hfz60_0 := blk_frozen BK194.out 0
                 have hfz60_1 := blk_frozen BK194.out 1
                 have hfz60_2 := blk_frozen BK194.out 2
                 have hfz60_3 := blk_frozen BK194.out 3
                 go_wp2
                 refine bodyPost_ret (results_ct rfl _ _ gb194 31 #[.int .i64 x195000_5, .string x195001_5, .int .i64 x195002_5, .slice Ao48 x195003_5.length co48] (0, 0) _ rfl (by (with_reducible repeat (first | refine blk_drewN ?_ _ | refine blk_drew ?_ | refine blk_alloc ?_ _)); refine blk_put (cs := #[.int .i64 x195000_5, .string x195001_5, .int .i64 x195002_5, .slice Ao48 x195003_5.length co48]) ?_ 3 _ rfl; (with_reducible repeat (first | refine blk_drewN ?_ _ | refine blk_drew ?_ | refine blk_alloc ?_ _)); refine blk_put (cs := #[.int .i64 x195000_5, .string x195001_5, .int .i64 x195002_5, .slice Ao48 x195003_5.length co48]) ?_ 2 _ rfl; (with_reducible repeat (first | refine blk_drewN ?_ _ | refine blk_drew ?_ | refine blk_alloc ?_ _)); refine blk_put (cs := #[.int .i64 x195000_5, .string x195001_5, .int .i64 x195002_5, .slice Ao48 x195003_5.length co48]) ?_ 1 _ rfl; (with_reducible repeat (first | refine blk_drewN ?_ _ | refine blk_drew ?_ | refine blk_alloc ?_ _)); refine blk_put (cs := #[.int .i64 x195000_5, .string x195001_5, .int .i64 x195002_5, .slice Ao48 x195003_5.length co48]) ?_ 0 _ rfl; (with_reducible repeat (first | refine blk_drewN ?_ _ | refine blk_drew ?_ | refine blk_alloc ?_ _)); exact BK194.out) Tryz.underlying31 rfl (by kernel_rfl)) rfl ?_
                 exact ⟨_, by first | rfl | (simp [errW_none, errW_some] <;> rfl) | (simp [*, errW_none, errW_some] <;> rfl), by (with_reducible repeat (first | apply Kd.R_alloc | apply Kd.R_drewN | apply Kd.R_drew)); exact Kd.R_mono (Kd.R_far (p := ⟨gb194, 3, none⟩) (Kd.R_far (p := ⟨gb194, 2, none⟩) (Kd.R_far (p := ⟨gb194, 1, none⟩) (Kd.R_far (p := ⟨gb194, 0, none⟩) (Kd.R_types HO_195003.out BK194.out (by decide)) (fun _ hk => hk.2) (.int .i64 x195000_5)) (fun _ hk => hk.2) (.string x195001_5)) (fun _ hk => hk.2) (.int .i64 x195002_5)) (fun _ hk => hk.2) (.slice Ao48 x195003_5.length co48)) (fun _ hk => hk.1), by repeat (first | (with_reducible first | exact HB.out | apply below_alloc | apply pw_below_drewN | apply below_drew1 | refine below_set ?_ GE194.out) | exact HB.out)⟩

end
end Go.Proofs.YtfboejlemnfndaaGreatDoor.XMb
end
section
namespace Go.Proofs.YtfboejlemnfndaaGreatDoor.XMb
open Go.RowKit Go.Proofs.YtfboejlemnfndaaGreatDoorW.PrintWords Go.Proofs.YtfboejlemnfndaaGreatDoorW.PrintLast Go.Proofs.YtfboejlemnfndaaGreatDoorW.PrintMore
attribute [local go_sem] extract_sub max2_int min2_int max_two min_two max_three min_three max_four min_four   -- for this text's walks alone
set_option linter.unusedVariables false
set_option linter.unusedSimpArgs false

noncomputable section
def meta_Parse.f (k : Nat) (a0 : ByteArray) : Option (Int × ByteArray × Int × List S61 × Int) :=
 if a0.size > 160 then some (0, ⟨#[]⟩, 0, [], 7) else (strings_Split.f a0 ⟨#[32]⟩).bind fun ws => match ws with
  | [] => none
  | w0 :: rest => (meta_named.f k w0).bind fun n => if n = 0 then some (0, ⟨#[]⟩, 0, [], 70) else (meta_words.f k n rest).bind fun m => if m.2.2.2.2 = true then (meta_Write.f k m.1 m.2.1 m.2.2.1 m.2.2.2.1).bind fun t => if t.2 = 0 ∧ t.1 = a0 then some (m.1, m.2.1, m.2.2.1, m.2.2.2.1, 0) else some (0, ⟨#[]⟩, 0, [], 6) else some (0, ⟨#[]⟩, 0, [], 6)
theorem meta_Parse.mono : ∀ a0 k, LeO (meta_Parse.f k a0) (meta_Parse.f (k + 1) a0) := by
 intro a0 k
 unfold meta_Parse.f
 refine LeO.ite (LeO.refl _) (LeO.bind (LeO.refl _) (fun ws => ?_))
 cases ws with
 | nil => exact LeO.none _
 | cons w0 rest => exact LeO.bind (meta_named.mono _ _) (fun n => LeO.ite (LeO.refl _) (LeO.bind (meta_words.mono _ _ _) (fun m => LeO.ite (LeO.bind (meta_Write.mono _ _ _ _ _) (fun t => LeO.refl _)) (LeO.refl _))))
def meta_Parse.z : Array Value := #[.int .i64 0, .string ⟨#[]⟩, .int .i64 0, .slice none 0 0]
theorem meta_Parse.zeros {W : World} {g : Nat} {t : TypeId} (h : W.heap[g]? = some (.cells meta_Parse.z t (0, 0))) :
 ((((W.setCell ⟨g, 0, none⟩ (.int .i64 0)).setCell ⟨g, 1, none⟩ (.string ⟨#[]⟩)).setCell ⟨g, 2, none⟩ (.int .i64 0)).setCell ⟨g, 3, none⟩ (.slice none 0 0)).heap[g]? = some (.cells meta_Parse.z t (0, 0)) :=
 blk_put (blk_put (blk_put (blk_put h 0 _ rfl) 1 _ rfl) 2 _ rfl) 3 _ rfl
theorem meta_Parse.zeros_below {B : Nat} {w W : World} (h : Below B w W) (g : Nat) (hg : B ≤ g) (u0 u1 u2 u3 : Value) : Below B w ((((W.setCell ⟨g, 0, none⟩ u0).setCell ⟨g, 1, none⟩ u1).setCell ⟨g, 2, none⟩ u2).setCell ⟨g, 3, none⟩ u3) :=
 (((h.setCell hg _).setCell hg _).setCell hg _).setCell hg _
theorem meta_Parse.ne_toList {a b : ByteArray} (h : a ≠ b) : (a.toList == b.toList) = false ∧ (a.toList != b.toList) = true ∧ a.toList ≠ b.toList := by
 have : a.toList ≠ b.toList := fun e => h (by
  rw [ByteArray.toList_eq, ByteArray.toList_eq] at e
  cases a; cases b
  exact congrArg ByteArray.mk (Array.toList_inj.1 e))
 exact ⟨beq_eq_false_iff_ne.2 this, bne_iff_ne.2 this, this⟩
set_option maxHeartbeats 8000000 in
set_option maxRecDepth 100000 in
theorem meta_Parse.calls (k : Nat) (a0 : ByteArray) (r1 : Int) (r2 : ByteArray) (r3 : Int) (r4 : List S61) (r5 : Int) (w : World) (hv : Vars w) (h : meta_Parse.f k a0 = some (r1, r2, r3, r4, r5)) :
 Calls Tryz.prog 23 #[.string a0] w fun e w' => ∃ v3_ : Value, e = .returned (.tuple #[.agg #[.int .i64 r1, .string r2, .int .i64 r3, v3_], .int .i64 r5]) ∧ Kd.R k61 61 w' w.heap.size (fun _ => True) v3_ r4 ∧ Below w.heap.size w w' := by
 have HV := Aside0.mk hv
 clear hv
 have hb0 : Below w.heap.size w (w.alloc (.cells meta_Parse.z 31)) := (Below.refl _ w).alloc (Nat.le_refl _) _
 have HB0 := Aside0.mk hb0
 clear hb0
 unfold meta_Parse.f at h
 by_cases c0 : a0.size > 160
 · have e := h
   rw [if_pos c0] at e
   simp only [Option.some.injEq, Prod.mk.injEq] at e
   obtain ⟨rfl, rfl, rfl, rfl, rfl⟩ := e
   have c0i : (160 : Int) < (a0.size : Int) := by omega
   clear h
   go_enter Tryz.func23, Tryz.ntmps23
   go_wp2
   exact bodyPost_ret (results_ct rfl _ _ w.heap.size 31 meta_Parse.z (0, 0) _ rfl (Go.heap_alloc_new w _) Tryz.underlying31 rfl (by kernel_rfl)) rfl ⟨_, rfl, Kd.R_nil _ _ _ _ _, HB0.out⟩
 · have e := h
   rw [if_neg c0] at e
   have c0i : (a0.size : Int) ≤ 160 := by omega
   obtain ⟨ws, hws, e⟩ := Option.bind_eq_some_iff.1 e
   have HWS := Lib.hid hws
   cases ws with
   | nil => cases e
   | cons w0 rest =>
    obtain ⟨n, hn, e⟩ := Option.bind_eq_some_iff.1 e
    have HN := Lib.hid hn
    have HE := Lib.hid e
    clear h hws hn e
    go_enter Tryz.func23, Tryz.ntmps23
    go_wp2_with fail
    refine (strings_Split.calls a0 ⟨#[32]⟩ (w0 :: rest) _ (HV.out.below HB0.out) HWS.out).mono ?_
    rintro e w1 ⟨v0, rfl, hO, hb1⟩
    obtain ⟨A, c, rfl, hcl, hC⟩ := Kd.R_reads hO
    have hF := Kd.R_F hO
    obtain ⟨ad, cs, rfl, hcs, hK, hcell⟩ := Kd.C_get hC (⟨#[]⟩ : ByteArray) 0 (by omega) (by simp)
    have hK' : cs = [.string w0] := hK
    subst hK'
    have x0 : w1.cell? ad = some (.string w0) := by
     have := hcell 0 _ rfl
     rw [show ad.add ((0 : Int).toNat * Kd.string.sz + 0) = ad from by show ad.add 0 = ad; unfold Addr.add; rw [if_pos rfl]] at this
     exact this
    have hx1 : w1.heap[w.heap.size]? = some (.cells meta_Parse.z 31 (0, 0)) := (hb1.block w.heap.size (by simp)).trans (Go.heap_alloc_new w _)
    have hb01 : Below w.heap.size w w1 := HB0.out.trans (hb1.mono (by simp))
    have hs1 : w.heap.size < w1.heap.size := by have := hb1.size; simp at this; omega
    have HF := Aside0.mk hF
    have HX1 := Lib.hid hx1
    have HB1 := Aside0.mk hb01
    have HCL := Aside0.mk hcl
    clear hO hb1 hC hF hcell hK hcs hx1 hb01 hcl
    go_wp2_with fail
    refine (meta_named.calls k w0 n _ HN.out).mono ?_
    rintro e w2 ⟨rfl, hb2⟩
    have hx2 : w2.heap[w.heap.size]? = _ := (hb2.block _ hs1).trans HX1.out
    have hb02 := HB1.out.trans (hb2.mono HB1.out.size)
    have hF2 := Kd.F_below HF.out hb2
    have hs2 : w.heap.size < w2.heap.size := by have := hb2.size; omega
    have HX2 := Lib.hid hx2
    have HB2 := Aside0.mk hb02
    have HF2 := Aside0.mk hF2
    clear hx2 hb02 hF2 hb2 x0 HX1 HB1 HF hs1
    by_cases hn0 : n = 0
    · have e := HE.out
      rw [if_pos hn0] at e
      simp only [Option.some.injEq, Prod.mk.injEq] at e
      obtain ⟨rfl, rfl, rfl, rfl, rfl⟩ := e
      have c1 : (n == 0) = true := beq_iff_eq.2 hn0
      clear hn0
      have hcz0 : w2.cell? ⟨w.heap.size, 0, none⟩ = some (.int .i64 0) := (blk_cell HX2.out 0).trans rfl
      have hfz0 := blk_frozen HX2.out 0
      have hcz1 : w2.cell? ⟨w.heap.size, 1, none⟩ = some (.string ⟨#[]⟩) := (blk_cell HX2.out 1).trans rfl
      have hfz1 := blk_frozen HX2.out 1
      have hcz2 : w2.cell? ⟨w.heap.size, 2, none⟩ = some (.int .i64 0) := (blk_cell HX2.out 2).trans rfl
      have hfz2 := blk_frozen HX2.out 2
      have hcz3 : w2.cell? ⟨w.heap.size, 3, none⟩ = some (.slice none 0 0) := (blk_cell HX2.out 3).trans rfl
      have hfz3 := blk_frozen HX2.out 3
      go_wp2
      exact bodyPost_ret (results_ct rfl _ _ w.heap.size 31 meta_Parse.z (0, 0) _ rfl (meta_Parse.zeros HX2.out) Tryz.underlying31 rfl (by kernel_rfl)) rfl ⟨_, rfl, Kd.R_nil _ _ _ _ _, meta_Parse.zeros_below HB2.out _ (Nat.le_refl _) _ _ _ _⟩
    · have e := HE.out
      rw [if_neg hn0] at e
      have c1 : (n == 0) = false := beq_eq_false_iff_ne.2 hn0
      clear hn0 HE
      obtain ⟨⟨m1, m2, m3, m4, m5⟩, hm, e⟩ := Option.bind_eq_some_iff.1 e
      have HM := Lib.hid hm
      have HE := Lib.hid e
      clear hm e
      obtain ⟨i0, hi0, _, hsz0, _⟩ := info_parts info9
      have hcut := cut_from (P := Tryz.prog) 66 9 .i64 Tryz.underlying66 hi0 1 hsz0 (some ad) (rest.length + 1) c 1 (by omega) (by omega)
      have hF1 := Kd.F_cut (m := 1) (c := c) HF2.out (by simp) HCL.out
      generalize hA1 : (if c = (1 : Int).toNat then (some ad) else (some ad).map (·.add ((1 : Int).toNat * 1))) = A1 at hcut
      have hF1' : Kd.F Kd.string w2 (fun _ => True) A1 rest.length rest := by rw [← hA1]; exact hF1
      rw [show rest.length + 1 - (1 : Int).toNat = rest.length from by simp] at hcut
      generalize hc1 : c - (1 : Int).toNat = c1 at hcut
      have hcl1 : rest.length ≤ c1 := by have := HCL.out; simp at this hc1; omega
      have HV1 := Aside0.mk (Kd.V_mk (e := 9) (base := w2.heap.size) hcl1 hF1')
      clear hA1 hc1 hF1 hF1' hi0 hsz0 hcl1 HF2
      go_wp2_with fail
      refine (meta_words.calls k n (fun _ => True) A1 c1 rest m1 m2 m3 m4 m5 _ HV1.out (HV.out.below HB2.out) HM.out).mono ?_
      rintro e w3 ⟨v3, rfl, hO3, hb3⟩
      have hx3 : w3.heap[w.heap.size]? = some (.cells meta_Parse.z 31 (0, 0)) := (hb3.block _ hs2).trans HX2.out
      have hb03 := HB2.out.trans (hb3.mono HB2.out.size)
      have hs3 : w.heap.size < w3.heap.size := by have := hb3.size; omega
      obtain ⟨A3, c3, rfl, hcl3, hC3⟩ := Kd.R_reads hO3
      obtain ⟨W3, hW3⟩ : ∃ W3, W3 = w3.alloc (.cells #[.int .i64 m1, .string m2, .int .i64 m3, .slice A3 m4.length c3] 31) := ⟨_, rfl⟩
      have hb33 : Below w3.heap.size w3 W3 := by rw [hW3]; exact (Below.refl _ w3).alloc (Nat.le_refl _) _
      have hx33 : W3.heap[w.heap.size]? = some (.cells meta_Parse.z 31 (0, 0)) := (hb33.block _ hs3).trans hx3
      have hy33 : W3.heap[w3.heap.size]? = some (.cells #[.int .i64 m1, .string m2, .int .i64 m3, .slice A3 m4.length c3] 31 (0, 0)) := by rw [hW3]; exact Go.heap_alloc_new w3 _
      have hs33 : w3.heap.size < W3.heap.size := by rw [hW3]; simp
      have hO33 := Kd.R_below hO3 hb33
      have hC33 := Kd.C_below hC3 hb33
      have HX33 := Lib.hid hx33
      have HX3 := Lib.hid hx3
      have hne : w.heap.size ≠ w3.heap.size := by omega
      have HY33 := Lib.hid hy33
      have HB33 := Aside0.mk (hb03.trans (hb33.mono hb03.size))
      have HO33 := Aside0.mk hO33
      have HC33 := Aside0.mk hC33
      have HCL3 := Aside0.mk hcl3
      have HB3 := Aside0.mk hb03
      clear hb3 hO3 hC3 hcl3 hx3 hb03 hb33 hx33 hy33 hO33 hC33 HX2
      subst hW3
      cases m5 with
      | false =>
       have e := HE.out
       simp only [Bool.false_eq_true, if_false, Option.some.injEq, Prod.mk.injEq] at e
       obtain ⟨rfl, rfl, rfl, rfl, rfl⟩ := e
       clear HE
       have hcz0 : w3.cell? ⟨w.heap.size, 0, none⟩ = some (.int .i64 0) := (blk_cell HX3.out 0).trans rfl
       have hfz0 := blk_frozen HX3.out 0
       have hcz1 : w3.cell? ⟨w.heap.size, 1, none⟩ = some (.string ⟨#[]⟩) := (blk_cell HX3.out 1).trans rfl
       have hfz1 := blk_frozen HX3.out 1
       have hcz2 : w3.cell? ⟨w.heap.size, 2, none⟩ = some (.int .i64 0) := (blk_cell HX3.out 2).trans rfl
       have hfz2 := blk_frozen HX3.out 2
       have hcz3 : w3.cell? ⟨w.heap.size, 3, none⟩ = some (.slice none 0 0) := (blk_cell HX3.out 3).trans rfl
       have hfz3 := blk_frozen HX3.out 3
       go_wp2
       exact bodyPost_ret (results_ct rfl _ _ w.heap.size 31 meta_Parse.z (0, 0) _ rfl (blk_alloc (meta_Parse.zeros HX3.out) _) Tryz.underlying31 rfl (by kernel_rfl)) rfl ⟨_, rfl, Kd.R_nil _ _ _ _ _, (meta_Parse.zeros_below HB3.out _ (Nat.le_refl _) _ _ _ _).alloc (by simp; omega) _⟩
      | true =>
       have e := HE.out
       simp only [if_true] at e
       obtain ⟨⟨t1, t2⟩, ht, e⟩ := Option.bind_eq_some_iff.1 e
       have HT := Lib.hid ht
       have HE2 := Lib.hid e
       clear ht e HE
       go_wp2_with fail
       refine (meta_Write.calls k m1 m2 m3 A3 c3 m4 t1 t2 _ HC33.out HCL3.out (HV.out.below HB33.out) HT.out).mono ?_
       rintro e w4 ⟨rfl, hb4⟩
       have hx4 : w4.heap[w.heap.size]? = some (.cells meta_Parse.z 31 (0, 0)) := (hb4.block _ (by simp; omega)).trans HX33.out
       have hy4 : w4.heap[w3.heap.size]? = some (.cells #[.int .i64 m1, .string m2, .int .i64 m3, .slice A3 m4.length c3] 31 (0, 0)) := (hb4.block _ (by simp)).trans HY33.out
       have hO4 := Kd.R_below HO33.out hb4
       have hb04 := HB33.out.trans (hb4.mono HB33.out.size)
       have HX4 := Lib.hid hx4
       have HY4 := Lib.hid hy4
       have HO4 := Aside0.mk hO4
       have HB4 := Aside0.mk hb04
       clear hx4 hy4 hO4 hb04 hb4 HX33 HY33 HO33 HC33 HB33
       have hcz0 : w4.cell? ⟨w.heap.size, 0, none⟩ = some (.int .i64 0) := (blk_cell HX4.out 0).trans rfl
       have hfz0 := blk_frozen HX4.out 0
       have hcz1 : w4.cell? ⟨w.heap.size, 1, none⟩ = some (.string ⟨#[]⟩) := (blk_cell HX4.out 1).trans rfl
       have hfz1 := blk_frozen HX4.out 1
       have hcz2 : w4.cell? ⟨w.heap.size, 2, none⟩ = some (.int .i64 0) := (blk_cell HX4.out 2).trans rfl
       have hfz2 := blk_frozen HX4.out 2
       have hcz3 : w4.cell? ⟨w.heap.size, 3, none⟩ = some (.slice none 0 0) := (blk_cell HX4.out 3).trans rfl
       have hfz3 := blk_frozen HX4.out 3
       have hcm0 : w4.cell? ⟨w3.heap.size, 0, none⟩ = some (.int .i64 m1) := (blk_cell HY4.out 0).trans rfl
       have hfm0 := blk_frozen HY4.out 0
       have hcm1 : w4.cell? ⟨w3.heap.size, 1, none⟩ = some (.string m2) := (blk_cell HY4.out 1).trans rfl
       have hfm1 := blk_frozen HY4.out 1
       have hcm2 : w4.cell? ⟨w3.heap.size, 2, none⟩ = some (.int .i64 m3) := (blk_cell HY4.out 2).trans rfl
       have hfm2 := blk_frozen HY4.out 2
       have hcm3 : w4.cell? ⟨w3.heap.size, 3, none⟩ = some (.slice A3 m4.length c3) := (blk_cell HY4.out 3).trans rfl
       have hfm3 := blk_frozen HY4.out 3
       by_cases he : t2 = 0 ∧ t1 = a0
       · obtain ⟨rfl, rfl⟩ := he
         have e := HE2.out
         simp only [and_self, if_true, Option.some.injEq, Prod.mk.injEq] at e
         obtain ⟨rfl, rfl, rfl, rfl, rfl⟩ := e
         clear HE2
         go_wp2
         refine bodyPost_ret (results_ct rfl _ _ w.heap.size 31 #[.int .i64 m1, .string m2, .int .i64 m3, .slice A3 m4.length c3] (0, 0) _ rfl (blk_put (blk_put (blk_put (blk_put HX4.out 0 _ rfl) 1 _ rfl) 2 _ rfl) 3 _ rfl) Tryz.underlying31 rfl (by kernel_rfl)) rfl ⟨_, rfl, ?_, meta_Parse.zeros_below HB4.out _ (Nat.le_refl _) _ _ _ _⟩
         have hf : ∀ i : Nat, ∀ k_, w2.heap.size ≤ k_ → k_ ≠ (⟨w.heap.size, i, none⟩ : Addr).block := fun i k_ hk => by show k_ ≠ w.heap.size; omega
         exact Kd.R_lower (Kd.R_mono (Kd.R_far (Kd.R_far (Kd.R_far (Kd.R_far HO4.out (hf 0) _) (hf 1) _) (hf 2) _) (hf 3) _) (fun _ _ => trivial)) (by omega)
       · have e := HE2.out
         simp only [if_neg he, Option.some.injEq, Prod.mk.injEq] at e
         obtain ⟨rfl, rfl, rfl, rfl, rfl⟩ := e
         clear HE2
         by_cases h2 : t2 = 0
         · have h1 : t1 ≠ a0 := fun q => he ⟨h2, q⟩
           obtain ⟨n1, n2, n3⟩ := meta_Parse.ne_toList h1
           have N3 := Aside0.mk n3
           have b1 : (t2 != 0) = false := bne_eq_false_iff_eq.2 h2
           have b2 : (t2 == 0) = true := beq_iff_eq.2 h2
           clear h1 h2 he n3
           go_wp2
           exact bodyPost_ret (results_ct rfl _ _ w.heap.size 31 meta_Parse.z (0, 0) _ rfl (meta_Parse.zeros HX4.out) Tryz.underlying31 rfl (by kernel_rfl)) rfl ⟨_, rfl, Kd.R_nil _ _ _ _ _, meta_Parse.zeros_below HB4.out _ (Nat.le_refl _) _ _ _ _⟩
         · have b1 : (t2 != 0) = true := bne_iff_ne.2 h2
           have b2 : (t2 == 0) = false := beq_eq_false_iff_ne.2 h2
           clear h2 he
           go_wp2
           exact bodyPost_ret (results_ct rfl _ _ w.heap.size 31 meta_Parse.z (0, 0) _ rfl (meta_Parse.zeros HX4.out) Tryz.underlying31 rfl (by kernel_rfl)) rfl ⟨_, rfl, Kd.R_nil _ _ _ _ _, meta_Parse.zeros_below HB4.out _ (Nat.le_refl _) _ _ _ _⟩

end
end Go.Proofs.YtfboejlemnfndaaGreatDoor.XMb
end
