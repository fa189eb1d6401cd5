-- MADE BY wip/xprint.py (this session's own program, over the kit's print): not typed by hand; Lean checks it.
import Derived.Test.YtjmmknabkkainaaDoorXMl0
import Derived.Test.YtjmmknabkkainaaDoorXMl1
import Derived.Test.YtjmmknabkkainaaDoorShelf
import Derived.Test.YtjmmknabkkainaaDoorB64
import Derived.Test.YtjmmknabkkainaaDoorBldByte
import Derived.Test.YtjmmknabkkainaaDoorBits
import Derived.Lib.Hide
import Derived.Lib.Strings
import Derived.Laws.Strings
namespace Go.Proofs.YtjmmknabkkainaaDoor.XMl
open Go.RowKit Go.Proofs.YtjmmknabkkainaaDoorW.PrintWords Go.Proofs.YtjmmknabkkainaaDoorW.PrintLast Go.Proofs.YtjmmknabkkainaaDoorW.PrintMore
attribute [local go_sem] max2_int min2_int max_two min_two max_three min_three max_four min_four   -- for this text's walks alone
set_option linter.unusedVariables false
set_option linter.unusedSimpArgs false

noncomputable section
/-! ### EXT meta_Encode: function 10 -/
/-- Bytes in sixty-four letters. -/
def meta_Encode.f (a0 : ByteArray) : Option ByteArray := if a0.size ≤ 1099511627776 then some ⟨(B64.enc a0.data.toList).toArray⟩ else none
def meta_Encode.ERel (a0 : ByteArray) (w : World) (t : ByteArray) (acc : List UInt8) (wr : World) : Prop :=
  IsBld w.heap.size w.heap.size acc wr ∧ Below w.heap.size w wr ∧ acc ++ B64.enc t.data.toList = B64.enc a0.data.toList
def meta_Encode.wd (l : List UInt8) : Nat → Nat
  | 0 => 0
  | k + 1 => meta_Encode.wd l k * 256 + (l.getD k 0).toNat
theorem meta_Encode.wd_lt (l : List UInt8) (k : Nat) : meta_Encode.wd l k < 256 ^ k := by
  induction k with
  | zero => simp [meta_Encode.wd]
  | succ k ih => have := (l.getD k 0).toNat_lt; unfold meta_Encode.wd; omega
theorem meta_Encode.wd_bound (l : List UInt8) (k : Nat) (h : k < 3) : meta_Encode.wd l k < 65536 := by
  have := meta_Encode.wd_lt l k
  have : k = 0 ∨ k = 1 ∨ k = 2 := by omega
  rcases this with rfl | rfl | rfl <;> omega
theorem meta_Encode.wd_in (t : ByteArray) (k : Nat) (h : k < 3) (hl : k < t.size) : bits BinOp.or IntKind.u32 (↑(meta_Encode.wd t.data.toList k) * 256) (↑t[k].toNat % 4294967296) = ((meta_Encode.wd t.data.toList (k + 1) : Nat) : Int) := by
  have hb := meta_Encode.wd_bound t.data.toList k h
  have hc := t[k].toNat_lt
  rw [u32_or8 _ _ (by omega) (by omega) (by omega) (by omega) (by omega)]
  have e : t.data.toList.getD k 0 = t[k] := by
    rw [List.getD_eq_getElem?_getD, List.getElem?_eq_getElem (by rw [Array.length_toList]; exact hl)]
    rfl
  have e2 : meta_Encode.wd t.data.toList (k + 1) = meta_Encode.wd t.data.toList k * 256 + t[k].toNat := by rw [← e]; rfl
  rw [e2, Int.emod_eq_of_lt (by omega) (by omega)]
  omega
theorem meta_Encode.wd_out (t : ByteArray) (k : Nat) (hl : ¬ k < t.size) : ((meta_Encode.wd t.data.toList k : Nat) : Int) * 256 = ((meta_Encode.wd t.data.toList (k + 1) : Nat) : Int) := by
  have e : t.data.toList.getD k 0 = 0 := by
    rw [List.getD_eq_getElem?_getD, List.getElem?_eq_none (by rw [Array.length_toList]; exact Nat.not_lt.1 hl)]
    rfl
  conv => rhs; unfold meta_Encode.wd
  rw [e]
  simp
theorem meta_Encode.wd_three (l : List UInt8) : meta_Encode.wd l 3 = B64.word l := by
  simp only [meta_Encode.wd, B64.word]; omega
theorem meta_Encode.ba_list (t : ByteArray) : t.toList = t.data.toList := ByteArray.toList_eq t
theorem meta_Encode.ne_empty (t : ByteArray) (h : ¬ t.size = 0) : (!t.toList.isEmpty) = true := by
  rw [meta_Encode.ba_list]
  cases e : t.data.toList with
  | nil => exact absurd (by have := congrArg List.length e; rw [Array.length_toList] at this; exact this) h
  | cons _ _ => rfl
theorem meta_Encode.is_empty (t : ByteArray) (h : t.size = 0) : (!t.toList.isEmpty) = false := by
  have : t.data.toList = [] := List.length_eq_zero_iff.1 (by rw [Array.length_toList]; exact h)
  rw [meta_Encode.ba_list, this]
  rfl
theorem meta_Encode.letter_f (x : Nat) (h : x < 4294967296) : meta_letter.f (x : Int) = some ((B64.lt (x % 64) : Nat) : Int) := by
  unfold meta_letter.f B64.lt
  rw [u32_and63 _ (by omega) (by omega)]
  have e : ((x : Int) % 64) = ((x % 64 : Nat) : Int) := by omega
  rw [e]
  generalize hy : x % 64 = y
  have hy' : y < 64 := by omega
  by_cases h1 : y < 26
  · rw [if_pos (by omega), if_pos h1]; congr 1; omega
  · rw [if_neg (by omega), if_neg h1]
    by_cases h2 : y < 52
    · rw [if_pos (by omega), if_pos h2]; congr 1; omega
    · rw [if_neg (by omega), if_neg h2]
      by_cases h3 : y < 62
      · rw [if_pos (by omega), if_pos h3]; congr 1; omega
      · rw [if_neg (by omega), if_neg h3]
        by_cases h4 : y = 62
        · rw [if_pos (by omega), if_pos h4]; rfl
        · rw [if_neg (by omega), if_neg h4]; rfl
theorem meta_Encode.letter_at (x : Int) (n : Nat) (h : x = (n : Int)) (hn : n < 4294967296) (w : World) :
    Calls Tryd.prog 20 #[.int .u32 x] w fun e w' => e = .returned (.int .u8 ((B64.lt (n % 64) : Nat) : Int)) ∧ Drawn0 w w' := by
  subst h
  exact meta_letter.calls _ _ w (meta_Encode.letter_f n hn)
theorem meta_Encode.let8_of (n : Nat) : UInt8.ofNat ((B64.lt n : Nat) : Int).toNat = B64.let8 n := rfl
theorem meta_Encode.dsz (t : ByteArray) : t.data.toList.length = t.size := Array.length_toList
theorem meta_Encode.four0 (t : ByteArray) : (B64.four t.data.toList)[0]? = some (UInt8.ofNat ((B64.lt (meta_Encode.wd t.data.toList 3 / 262144 % 64) : Nat) : Int).toNat) := by
  rw [meta_Encode.wd_three]
  have := B64.word_lt t.data.toList
  show some (B64.let8 (B64.word t.data.toList / 262144)) = some (B64.let8 (B64.word t.data.toList / 262144 % 64))
  rw [Nat.mod_eq_of_lt (by omega)]
theorem meta_Encode.four1 (t : ByteArray) : (B64.four t.data.toList)[1]? = some (UInt8.ofNat ((B64.lt (meta_Encode.wd t.data.toList 3 / 4096 % 64) : Nat) : Int).toNat) := by
  rw [meta_Encode.wd_three]; rfl
theorem meta_Encode.four2 (t : ByteArray) (h : 2 ≤ t.size) : (B64.four t.data.toList)[2]? = some (UInt8.ofNat ((B64.lt (meta_Encode.wd t.data.toList 3 / 64 % 64) : Nat) : Int).toNat) := by
  rw [meta_Encode.wd_three]
  exact congrArg some (if_pos (by rw [meta_Encode.dsz]; omega))
theorem meta_Encode.four3 (t : ByteArray) (h : 3 ≤ t.size) : (B64.four t.data.toList)[3]? = some (UInt8.ofNat ((B64.lt (meta_Encode.wd t.data.toList 3 % 64) : Nat) : Int).toNat) := by
  rw [meta_Encode.wd_three]
  exact congrArg some (if_pos (by rw [meta_Encode.dsz]; omega))
theorem meta_Encode.fill2 (t : ByteArray) (h : t.size < 2) : (B64.four t.data.toList)[2]? = some (UInt8.ofNat (61 : Int).toNat) := congrArg some (if_neg (by rw [meta_Encode.dsz]; omega))
theorem meta_Encode.fill3 (t : ByteArray) (h : t.size < 3) : (B64.four t.data.toList)[3]? = some (UInt8.ofNat (61 : Int).toNat) := congrArg some (if_neg (by rw [meta_Encode.dsz]; omega))
theorem meta_Encode.enc_on (t : ByteArray) (h : 1 ≤ t.size) (acc l : List UInt8) (hl : acc ++ B64.enc t.data.toList = l) :
    (acc ++ (B64.four t.data.toList).take 4) ++ B64.enc (t.extract (if (t.size : Int) < 3 then (t.size : Int) else 3).toNat t.size).data.toList = l := by
  have e : (t.extract (if (t.size : Int) < 3 then (t.size : Int) else 3).toNat t.size).data.toList = t.data.toList.drop 3 := by
    rw [Lib.extract_data]
    have hd := meta_Encode.dsz t
    by_cases h3 : 3 ≤ t.size
    · have e3 : (if (t.size : Int) < 3 then (t.size : Int) else 3).toNat = 3 := by rw [if_neg (by omega)]; rfl
      rw [e3, List.take_of_length_le (by rw [List.length_drop]; omega)]
    · have e3 : (if (t.size : Int) < 3 then (t.size : Int) else 3).toNat = t.size := by rw [if_pos (by omega)]; rfl
      rw [e3, List.drop_of_length_le (by omega), List.drop_of_length_le (by omega), List.take_nil]
  rw [e, List.take_of_length_le (by rw [B64.four_length]; omega), ← hl, B64.enc_step t.data.toList (by intro e0; have := meta_Encode.dsz t; rw [e0] at this; simp at this; omega), List.append_assoc]
theorem meta_Encode.size_le (t : ByteArray) (acc : List UInt8) (a0 : ByteArray) (h : acc ++ B64.enc t.data.toList = B64.enc a0.data.toList) (hs : a0.size ≤ 1099511627776) : t.size ≤ 9223372036854775807 := by
  have := congrArg List.length h
  rw [List.length_append, B64.enc_length, B64.enc_length, meta_Encode.dsz, meta_Encode.dsz] at this
  omega
theorem meta_Encode.acc_le (acc l m : List UInt8) (h : acc ++ l = B64.enc m) (hm : m.length ≤ 1099511627776) : acc.length ≤ 4398046511104 := by
  have := congrArg List.length h
  rw [List.length_append, B64.enc_length] at this
  omega
/-- A letter more. -/
theorem meta_Encode.four_more (l : List UInt8) (k : Nat) (c : UInt8) (h : (B64.four l)[k]? = some c) : (B64.four l).take (k + 1) = (B64.four l).take k ++ [c] := by
  rw [List.take_add_one, h]; rfl
set_option maxHeartbeats 1600000 in
set_option maxRecDepth 100000 in
theorem meta_Encode.calls_ (a0 : ByteArray) (w : World) (hs : a0.size ≤ 1099511627776) :
    Calls Tryd.prog 10 #[.string a0] w fun e w' => e = .returned (.string ⟨(B64.enc a0.data.toList).toArray⟩) ∧ Below w.heap.size w w' := by
  go_enter Tryd.func10, Tryd.ntmps10
  go_wp2_with fail
  go_loopw [0] (fun s wr => ∃ (t : ByteArray) (acc : List UInt8), s = .string t ∧ meta_Encode.ERel a0 w t acc wr) (fun s wr => match s with | .string t => t.size | _ => 0)
  case atStart => exact ⟨a0, [], rfl, isBld_fresh w, (Below.refl _ w).alloc (Nat.le_refl _) _, rfl⟩
  case round =>
    obtain ⟨t, acc, rfl, hR⟩ := hrel
    by_cases hE : t.size = 0
    · have hne := meta_Encode.is_empty t hE
      obtain ⟨h1, h2, h3⟩ := hR
      have HE := Lib.hid hE
      have H3 := Lib.hid h3
      clear hE h3
      go_wp2_with fail
      refine (Tryd.Builder_String_any_f w.heap.size w.heap.size acc _ h1 h2.size).mono ?_
      rintro e w1 ⟨rfl, _, hb1⟩
      go_wp2
      go_ret
      have : t.data.toList = [] := List.length_eq_zero_iff.1 (by rw [Array.length_toList]; exact HE.out)
      have h3 := H3.out
      rw [this, B64.enc_nil, List.append_nil] at h3
      rw [h3]
      exact ⟨rfl, h2.trans hb1⟩
    · have hne := meta_Encode.ne_empty t hE
      have hR' : Hid (meta_Encode.ERel a0 w t acc wr) := hR
      have hsz : t.size ≤ 9223372036854775807 := meta_Encode.size_le t acc a0 hR.2.2 hs
      have hE1 : Hid (¬ t.size = 0) := hE
      clear hE hR
      go_wp2_with fail
      go_loop [4, 14] (fun v i => ∃ k : Nat, k ≤ 3 ∧ i = .int .i64 k ∧ v = .int .u32 (meta_Encode.wd t.data.toList k)) (fun _ i => 3 - (intOf i).toNat)
      case atStart => exact ⟨0, by omega, rfl, rfl⟩
      case round =>
        obtain ⟨k, hk, rfl, rfl⟩ := hrel
        by_cases hk3 : k < 3
        · have hw2 := meta_Encode.wd_bound t.data.toList k hk3
          by_cases hlt : k < t.size
          · go_wp2
            go_round
            case rel => exact ⟨k + 1, by omega, by go_num, by rw [meta_Encode.wd_in t k hk3 hlt]⟩
            case measure => simp [intOf]; omega
          · go_wp2
            go_round
            case rel => exact ⟨k + 1, by omega, by go_num, by rw [meta_Encode.wd_out t k hlt]⟩
            case measure => simp [intOf]; omega
        · obtain rfl : k = 3 := by omega
          have hw3 := meta_Encode.wd_lt t.data.toList 3
          have hw4 : meta_Encode.wd t.data.toList 3 < 16777216 := by omega
          clear hw3 hk3 hk
          go_wp2_with fail
          go_loopw [30] (fun i wx => ∃ k : Nat, k ≤ 4 ∧ i = .int .i64 k ∧ IsBld w.heap.size w.heap.size (acc ++ (B64.four t.data.toList).take k) wx ∧ Below w.heap.size w wx) (fun i _ => 4 - (intOf i).toNat)
          case atStart => exact ⟨0, by omega, rfl, by simpa using hR'.out.1, hR'.out.2.1⟩
          case round =>
            obtain ⟨k, hk, rfl, hB, hb⟩ := hrel
            have HB := Lib.hid hB
            have Hb := Lib.hid hb
            clear hB hb
            have hs1 : 1 ≤ t.size := by have := hE1.out; omega
            have hlen : Hid (acc.length ≤ 4398046511104) := meta_Encode.acc_le acc _ _ hR'.out.2.2 (by rw [meta_Encode.dsz]; exact hs)
            obtain rfl | rfl | rfl | rfl | rfl : k = 0 ∨ k = 1 ∨ k = 2 ∨ k = 3 ∨ k = 4 := by omega
            · go_wp2_with fail
              refine (meta_Encode.letter_at _ (meta_Encode.wd t.data.toList 3 / 262144) (by omega) (by omega) _).mono ?_
              rintro e w1 ⟨rfl, hd⟩
              have HD := Lib.hid hd
              clear hd
              go_wp2_with fail
              refine (bld_byte w.heap.size w.heap.size _ _ _ (isBld_below HB.out HD.out.below) (by omega) (by have := (B64.lt_range _ (Nat.mod_lt (meta_Encode.wd t.data.toList 3 / 262144) (by decide : 0 < 64))); omega) (by have := hlen.out; simp; omega) (by have := Hb.out.size; have := HD.out.below.size; omega)).mono ?_
              rintro e w2 ⟨rfl, hB2, hb2⟩
              have HB2 := Lib.hid hB2
              have Hb2 := Lib.hid hb2
              clear hB2 hb2
              go_wp2
              go_roundw
              case rel => exact ⟨1, by omega, by go_num, by rw [meta_Encode.four_more _ 0 _ (meta_Encode.four0 t), ← List.append_assoc]; exact HB2.out, Hb.out.trans ((HD.out.below.mono Hb.out.size).trans Hb2.out)⟩
              case measure => simp [intOf]
            · go_wp2_with fail
              refine (meta_Encode.letter_at _ (meta_Encode.wd t.data.toList 3 / 4096) (by omega) (by omega) _).mono ?_
              rintro e w1 ⟨rfl, hd⟩
              have HD := Lib.hid hd
              clear hd
              go_wp2_with fail
              refine (bld_byte w.heap.size w.heap.size _ _ _ (isBld_below HB.out HD.out.below) (by omega) (by have := (B64.lt_range _ (Nat.mod_lt (meta_Encode.wd t.data.toList 3 / 4096) (by decide : 0 < 64))); omega) (by have := hlen.out; simp; omega) (by have := Hb.out.size; have := HD.out.below.size; omega)).mono ?_
              rintro e w2 ⟨rfl, hB2, hb2⟩
              have HB2 := Lib.hid hB2
              have Hb2 := Lib.hid hb2
              clear hB2 hb2
              go_wp2
              go_roundw
              case rel => exact ⟨2, by omega, by go_num, by rw [meta_Encode.four_more _ 1 _ (meta_Encode.four1 t), ← List.append_assoc]; exact HB2.out, Hb.out.trans ((HD.out.below.mono Hb.out.size).trans Hb2.out)⟩
              case measure => simp [intOf]
            · by_cases h2 : t.size < 2
              · go_wp2_with fail
                refine (bld_byte w.heap.size w.heap.size _ 61 _ HB.out (by omega) (by omega) (by have := hlen.out; simp; omega) Hb.out.size).mono ?_
                rintro e w2 ⟨rfl, hB2, hb2⟩
                have HB2 := Lib.hid hB2
                have Hb2 := Lib.hid hb2
                clear hB2 hb2
                go_wp2
                go_roundw
                case rel => exact ⟨3, by omega, by go_num, by rw [meta_Encode.four_more _ 2 _ (meta_Encode.fill2 t h2), ← List.append_assoc]; exact HB2.out, Hb.out.trans Hb2.out⟩
                case measure => simp [intOf]
              · go_wp2_with fail
                refine (meta_Encode.letter_at _ (meta_Encode.wd t.data.toList 3 / 64) (by omega) (by omega) _).mono ?_
                rintro e w1 ⟨rfl, hd⟩
                have HD := Lib.hid hd
                clear hd
                go_wp2_with fail
                refine (bld_byte w.heap.size w.heap.size _ _ _ (isBld_below HB.out HD.out.below) (by omega) (by have := (B64.lt_range _ (Nat.mod_lt (meta_Encode.wd t.data.toList 3 / 64) (by decide : 0 < 64))); omega) (by have := hlen.out; simp; omega) (by have := Hb.out.size; have := HD.out.below.size; omega)).mono ?_
                rintro e w2 ⟨rfl, hB2, hb2⟩
                have HB2 := Lib.hid hB2
                have Hb2 := Lib.hid hb2
                clear hB2 hb2
                go_wp2
                go_roundw
                case rel => exact ⟨3, by omega, by go_num, by rw [meta_Encode.four_more _ 2 _ (meta_Encode.four2 t (by omega)), ← List.append_assoc]; exact HB2.out, Hb.out.trans ((HD.out.below.mono Hb.out.size).trans Hb2.out)⟩
                case measure => simp [intOf]
            · by_cases h3 : t.size < 3
              · go_wp2_with fail
                refine (bld_byte w.heap.size w.heap.size _ 61 _ HB.out (by omega) (by omega) (by have := hlen.out; simp; omega) Hb.out.size).mono ?_
                rintro e w2 ⟨rfl, hB2, hb2⟩
                have HB2 := Lib.hid hB2
                have Hb2 := Lib.hid hb2
                clear hB2 hb2
                go_wp2
                go_roundw
                case rel => exact ⟨4, by omega, by go_num, by rw [meta_Encode.four_more _ 3 _ (meta_Encode.fill3 t h3), ← List.append_assoc]; exact HB2.out, Hb.out.trans Hb2.out⟩
                case measure => simp [intOf]
              · go_wp2_with fail
                refine (meta_Encode.letter_at _ (meta_Encode.wd t.data.toList 3) (by omega) (by omega) _).mono ?_
                rintro e w1 ⟨rfl, hd⟩
                have HD := Lib.hid hd
                clear hd
                go_wp2_with fail
                refine (bld_byte w.heap.size w.heap.size _ _ _ (isBld_below HB.out HD.out.below) (by omega) (by have := (B64.lt_range _ (Nat.mod_lt (meta_Encode.wd t.data.toList 3) (by decide : 0 < 64))); omega) (by have := hlen.out; simp; omega) (by have := Hb.out.size; have := HD.out.below.size; omega)).mono ?_
                rintro e w2 ⟨rfl, hB2, hb2⟩
                have HB2 := Lib.hid hB2
                have Hb2 := Lib.hid hb2
                clear hB2 hb2
                go_wp2
                go_roundw
                case rel => exact ⟨4, by omega, by go_num, by rw [meta_Encode.four_more _ 3 _ (meta_Encode.four3 t (by omega)), ← List.append_assoc]; exact HB2.out, Hb.out.trans ((HD.out.below.mono Hb.out.size).trans Hb2.out)⟩
                case measure => simp [intOf]
            · go_wp2_with fail
              refine ⟨⟨_, acc ++ (B64.four t.data.toList).take 4, rfl, HB.out, Hb.out, meta_Encode.enc_on t hs1 acc _ hR'.out.2.2⟩, ?_⟩
              show (t.extract (if (t.size : Int) < 3 then (t.size : Int) else 3).toNat t.size).size < t.size
              rw [ByteArray.size_extract]
              split <;> omega
theorem meta_Encode.calls (a0 : ByteArray) (r : ByteArray) (w : World) (h : meta_Encode.f a0 = some r) :
    Calls Tryd.prog 10 #[.string a0] w fun e w' => e = .returned (.string r) ∧ Below w.heap.size w w' := by
  unfold meta_Encode.f at h
  split at h
  · injection h with h
    subst h
    exact meta_Encode.calls_ a0 w (by assumption)
  · cases h

end
end Go.Proofs.YtjmmknabkkainaaDoor.XMl
