/- The reference's base sixty-four, in plain Lean: what its printed functions answer. -/
import Derived.Test.YtjmmknabkkainaaDoorXMl6
import Derived.Test.YtjmmknabkkainaaDoorXMl5
namespace Go.Proofs.YtjmmknabkkainaaDoor.XMl
open Go.RowKit Go.Proofs.YtjmmknabkkainaaDoorW.PrintWords Go.Proofs.YtjmmknabkkainaaDoorW.PrintLast Go.Proofs.YtjmmknabkkainaaDoorW.PrintMore

abbrev ba (l : List UInt8) : ByteArray := ⟨l.toArray⟩
theorem ba_append (a b : List UInt8) : ba a ++ ba b = ba (a ++ b) := meta_Decode.ba_ext _ _ (by rw [ByteArray.data_append]; simp)
theorem ba_size (a : List UInt8) : (ba a).size = a.length := by show a.toArray.size = _; simp
theorem ba_take (a : List UInt8) (n : Nat) : (ba a).extract 0 n = ba (a.take n) := meta_Decode.ba_ext _ _ (by rw [Lib.extract_data]; simp)
theorem ext_letter : ∀ n : Fin 64, (⟨#[65, 66, 67, 68, 69, 70, 71, 72, 73, 74, 75, 76, 77, 78, 79, 80, 81, 82, 83, 84, 85, 86, 87, 88, 89, 90, 97, 98, 99, 100, 101, 102, 103, 104, 105, 106, 107, 108, 109, 110, 111, 112, 113, 114, 115, 116, 117, 118, 119, 120, 121, 122, 48, 49, 50, 51, 52, 53, 54, 55, 56, 57, 43, 47]⟩ : ByteArray).extract n.val (n.val + 1) = ba [B64.let8 n.val] := by decide +kernel
theorem bt_letter : ∀ n : Fin 64, bt (⟨#[65, 66, 67, 68, 69, 70, 71, 72, 73, 74, 75, 76, 77, 78, 79, 80, 81, 82, 83, 84, 85, 86, 87, 88, 89, 90, 97, 98, 99, 100, 101, 102, 103, 104, 105, 106, 107, 108, 109, 110, 111, 112, 113, 114, 115, 116, 117, 118, 119, 120, 121, 122, 48, 49, 50, 51, 52, 53, 54, 55, 56, 57, 43, 47]⟩ : ByteArray) (n.val : Int) = ((B64.lt n.val : Nat) : Int) := by decide +kernel
theorem ext_at (n : Nat) (h : n < 64) : (⟨#[65, 66, 67, 68, 69, 70, 71, 72, 73, 74, 75, 76, 77, 78, 79, 80, 81, 82, 83, 84, 85, 86, 87, 88, 89, 90, 97, 98, 99, 100, 101, 102, 103, 104, 105, 106, 107, 108, 109, 110, 111, 112, 113, 114, 115, 116, 117, 118, 119, 120, 121, 122, 48, 49, 50, 51, 52, 53, 54, 55, 56, 57, 43, 47]⟩ : ByteArray).extract n (n + 1) = ba [B64.let8 n] := ext_letter ⟨n, h⟩
theorem bt_at_ (n : Nat) (h : n < 64) : bt (⟨#[65, 66, 67, 68, 69, 70, 71, 72, 73, 74, 75, 76, 77, 78, 79, 80, 81, 82, 83, 84, 85, 86, 87, 88, 89, 90, 97, 98, 99, 100, 101, 102, 103, 104, 105, 106, 107, 108, 109, 110, 111, 112, 113, 114, 115, 116, 117, 118, 119, 120, 121, 122, 48, 49, 50, 51, 52, 53, 54, 55, 56, 57, 43, 47]⟩ : ByteArray) (n : Int) = ((B64.lt n : Nat) : Int) := bt_letter ⟨n, h⟩
theorem tdiv_nat (a b : Nat) : Int.tdiv (a : Int) (b : Int) = ((a / b : Nat) : Int) := rfl
theorem tmod_nat (a b : Nat) : Int.tmod (a : Int) (b : Int) = ((a % b : Nat) : Int) := rfl
theorem wrap_nat (a : Nat) (h : a < 4611686018427387904) : wrap64 (a : Int) = (a : Int) := by unfold wrap64; omega
theorem wrap_succ (a : Nat) (h : a < 4611686018427387904) : wrap64 ((a : Int) + 1) = ((a + 1 : Nat) : Int) := by unfold wrap64; omega

section
variable (b : ByteArray) (hb : b.size ≤ 1099511627776)
include hb
theorem ref_in (k : Nat) (x3 : ByteArray) (i j : Nat) (hi : i < b.size) (hj : j < 3) :
    tallboyref27_Encode.l1 (k + 1) b x3 (i : Int) ((meta_Encode.wd (b.data.toList.drop i) j : Nat) : Int) (j : Int) =
      tallboyref27_Encode.l1 k b x3 (i : Int) ((meta_Encode.wd (b.data.toList.drop i) (j + 1) : Nat) : Int) ((j + 1 : Nat) : Int) := by
  have hw := meta_Encode.wd_bound (b.data.toList.drop i) j hj
  have e1 : wrap64 ((i : Int) + (j : Int)) = ((i + j : Nat) : Int) := by unfold wrap64; omega
  have e2 : wrap64 (((meta_Encode.wd (b.data.toList.drop i) j : Nat) : Int) * 256) = ((meta_Encode.wd (b.data.toList.drop i) j * 256 : Nat) : Int) := by unfold wrap64; omega
  simp only [tallboyref27_Encode.l1]
  rw [if_pos (by omega), e1, e2, wrap_succ j (by omega)]
  clear e2
  have hwd : meta_Encode.wd (b.data.toList.drop i) (j + 1) = meta_Encode.wd (b.data.toList.drop i) j * 256 + ((b.data.toList.drop i).getD j 0).toNat := rfl
  rw [hwd]
  clear hwd
  generalize meta_Encode.wd (b.data.toList.drop i) j = W at *
  by_cases h : i + j < b.size
  · have hl : i + j < b.data.toList.length := by rw [meta_Decode.dsz']; exact h
    have hc := List.getElem?_eq_getElem hl
    have hg : (b.data.toList.drop i).getD j 0 = b.data.toList[i + j] := by
      rw [List.getD_eq_getElem?_getD, List.getElem?_drop, hc]; rfl
    have hlt := (b.data.toList[i + j]).toNat_lt
    rw [if_pos (by omega), if_pos (by omega), meta_Decode.bt_list b (i + j) _ hc, hg]
    generalize (b.data.toList[i + j]).toNat = c at *
    rw [wrap_nat c (by omega), show ((W * 256 : Nat) : Int) + (c : Int) = ((W * 256 + c : Nat) : Int) from rfl, wrap_nat _ (by omega)]
  · have hg : (b.data.toList.drop i).getD j 0 = 0 := by
      rw [List.getD_eq_getElem?_getD, List.getElem?_drop, List.getElem?_eq_none (by rw [meta_Decode.dsz']; omega)]; rfl
    rw [if_neg (by omega), hg, show (0 : UInt8).toNat = 0 from rfl]
    simp only [Nat.add_zero]
theorem ref_round (k : Nat) (x3 : List UInt8) (i : Nat) (hi : i < b.size) (h3 : x3.length ≤ 4611686018427387904) :
    tallboyref27_Encode.l1 (k + 1) b (ba x3) (i : Int) ((B64.word (b.data.toList.drop i) : Nat) : Int) 3 =
      tallboyref27_Encode.l0 k b (ba (x3 ++ B64.four (b.data.toList.drop i))) ((i + 3 : Nat) : Int) := by
  have hw := B64.word_lt (b.data.toList.drop i)
  have hlen : (b.data.toList.drop i).length = b.size - i := by rw [List.length_drop, meta_Decode.dsz']
  have hf : B64.four (b.data.toList.drop i) = [B64.let8 (B64.word (b.data.toList.drop i) / 262144), B64.let8 (B64.word (b.data.toList.drop i) / 4096 % 64), if 1 < (b.data.toList.drop i).length then B64.let8 (B64.word (b.data.toList.drop i) / 64 % 64) else 61, if 2 < (b.data.toList.drop i).length then B64.let8 (B64.word (b.data.toList.drop i) % 64) else 61] := rfl
  generalize B64.word (b.data.toList.drop i) = W at *
  have q0 : wrap64 (Int.tdiv (W : Int) 262144) = ((W / 262144 : Nat) : Int) := by rw [show Int.tdiv (W : Int) 262144 = ((W / 262144 : Nat) : Int) from rfl]; exact wrap_nat _ (by omega)
  have q1 : Int.tmod (wrap64 (Int.tdiv (W : Int) 4096)) 64 = ((W / 4096 % 64 : Nat) : Int) := by rw [show Int.tdiv (W : Int) 4096 = ((W / 4096 : Nat) : Int) from rfl, wrap_nat _ (by omega)]; rfl
  have q2 : Int.tmod (wrap64 (Int.tdiv (W : Int) 64)) 64 = ((W / 64 % 64 : Nat) : Int) := by rw [show Int.tdiv (W : Int) 64 = ((W / 64 : Nat) : Int) from rfl, wrap_nat _ (by omega)]; rfl
  have q3 : Int.tmod (W : Int) 64 = ((W % 64 : Nat) : Int) := rfl
  have q4 : wrap64 ((b.size : Int) - (i : Int)) = ((b.size - i : Nat) : Int) := by unfold wrap64; omega
  have q5 : wrap64 ((i : Int) + 3) = ((i + 3 : Nat) : Int) := by unfold wrap64; omega
  have f2 : (⟨#[61, 61]⟩ : ByteArray) = ba [61, 61] := rfl
  have f1 : (⟨#[61]⟩ : ByteArray) = ba [61] := rfl
  have a0 : W / 262144 < 64 := by omega
  have a1 : W / 4096 % 64 < 64 := by omega
  have a2 : W / 64 % 64 < 64 := by omega
  have a3 : W % 64 < 64 := by omega
  simp only [tallboyref27_Encode.l1, q0, q1, q2, q3, q4, q5]
  rw [if_neg (by omega)]
  generalize W / 262144 = n0 at *
  generalize W / 4096 % 64 = n1 at *
  generalize W / 64 % 64 = n2 at *
  generalize W % 64 = n3 at *
  rw [wrap_succ n0 (by omega), wrap_succ n1 (by omega), wrap_succ n2 (by omega), wrap_succ n3 (by omega)]
  simp only [Int.toNat_natCast]
  rw [ext_at n0 a0, ext_at n1 a1, ext_at n2 a2, ext_at n3 a3, f1, f2]
  simp only [ba_append, ba_size, ba_take, List.length_cons, List.length_nil, List.cons_append, List.nil_append, List.take_succ_cons, List.take_zero]
  rw [if_pos (by omega), if_pos (by omega), if_pos (by omega), if_pos (by omega), if_pos (by omega), if_pos (by omega), if_pos (by omega), if_pos (by omega), if_pos (by omega), if_pos (by omega), if_pos (by omega), if_pos (by omega), if_pos (by omega), if_pos (by omega), if_pos (by omega)]
  by_cases l1 : b.size - i = 1
  · rw [if_pos (by omega), if_pos (by omega), if_pos (by omega), if_pos (by omega), if_pos (by omega), hf, if_neg (by omega), if_neg (by omega)]
  · rw [if_neg (by omega)]
    by_cases l2 : b.size - i = 2
    · rw [if_pos (by omega), if_pos (by omega), if_pos (by omega), if_pos (by omega), if_pos (by omega), hf, if_pos (by omega), if_neg (by omega)]
    · rw [if_neg (by omega), if_pos (by omega), hf, if_pos (by omega), if_pos (by omega)]
theorem ref_loop (d : Nat) : ∀ (i : Nat) (x3 : List UInt8), b.size ≤ i + d → i ≤ b.size + 2 → x3.length ≤ 4 * i + 4 → Ev (fun k => tallboyref27_Encode.l0 k b (ba x3) (i : Int)) (ba (x3 ++ B64.enc (b.data.toList.drop i))) := by
  induction d using Nat.strongRecOn with
  | _ d ih =>
    intro i x3 hd hi hx
    by_cases h : i < b.size
    · have hne : b.data.toList.drop i ≠ [] := by
        intro e; have := congrArg List.length e; rw [List.length_drop, meta_Decode.dsz'] at this; simp at this; omega
      rw [B64.enc_step _ hne, List.drop_drop, ← List.append_assoc]
      refine Ev.step (f := fun k => tallboyref27_Encode.l1 k b (ba x3) (i : Int) ((meta_Encode.wd (b.data.toList.drop i) 0 : Nat) : Int) ((0 : Nat) : Int)) (fun k => by simp only [tallboyref27_Encode.l0]; rw [if_pos (by omega)]; rfl) ?_
      refine Ev.step (fun k => ref_in b hb k (ba x3) i 0 h (by omega)) ?_
      refine Ev.step (fun k => ref_in b hb k (ba x3) i 1 h (by omega)) ?_
      refine Ev.step (fun k => ref_in b hb k (ba x3) i 2 h (by omega)) ?_
      rw [meta_Encode.wd_three]
      refine Ev.step (fun k => ref_round b hb k x3 i h (by omega)) ?_
      by_cases hd3 : d ≤ 3
      · refine ih 0 (by omega) (i + 3) _ (by omega) (by omega) ?_
        rw [List.length_append, B64.four_length]; omega
      · refine ih (d - 3) (by omega) (i + 3) _ (by omega) (by omega) ?_
        rw [List.length_append, B64.four_length]; omega
    · refine ⟨1, fun k hk => ?_⟩
      obtain ⟨k, rfl⟩ : ∃ m, k = m + 1 := ⟨k - 1, by omega⟩
      simp only [tallboyref27_Encode.l0]
      rw [if_neg (by omega), List.drop_of_length_le (by rw [meta_Decode.dsz']; omega), B64.enc_nil, List.append_nil]
/-- The reference's Encode. -/
theorem ref_encode : Ev (fun k => tallboyref27_Encode.f k b) (ba (B64.enc b.data.toList)) :=
  ref_loop b hb b.size 0 [] (by omega) (by omega) (by simp)
end
end Go.Proofs.YtjmmknabkkainaaDoor.XMl
