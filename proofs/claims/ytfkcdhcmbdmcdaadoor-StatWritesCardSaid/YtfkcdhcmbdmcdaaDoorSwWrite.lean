/- StatWrites, in plain Lean, second part: pairs that are too great, pairs written. -/
import Derived.Test.YtfkcdhcmbdmcdaaDoorSwMay
namespace Go.Proofs.YtfkcdhcmbdmcdaaDoor.XSw
open Go.RowKit Go.Proofs.YtfkcdhcmbdmcdaaDoorW.PrintWords Go.Proofs.YtfkcdhcmbdmcdaaDoorW.PrintLast Go.Proofs.YtfkcdhcmbdmcdaaDoorW.PrintMore
abbrev F := S52
abbrev G := S86
def conv (p : F) : G := ⟨p.f0, p.f1⟩
def back (p : G) : F := ⟨p.f0, p.f1⟩
theorem L_ba (l : List UInt8) : L (ba l) = l := by simp
theorem rd_at (l : List F) (i : Nat) (hi : i < l.length) : rd_T52 l (i : Int) = l[i] := by
  unfold rd_T52
  rw [Int.toNat_natCast, List.getD_eq_getElem?_getD, List.getElem?_eq_getElem hi]; rfl
theorem rd_atG (l : List G) (i : Nat) (hi : i < l.length) : rd_T86 l (i : Int) = l[i] := by
  unfold rd_T86
  rw [Int.toNat_natCast, List.getD_eq_getElem?_getD, List.getElem?_eq_getElem hi]; rfl
/-- All bytes of pairs. -/
def tot (l : List F) : Nat := (l.map fun p => p.f0.size + p.f1.size).sum
theorem tot_cons (p : F) (l : List F) : tot (p :: l) = p.f0.size + p.f1.size + tot l := by simp [tot]
theorem tot_append (a b : List F) : tot (a ++ b) = tot a + tot b := by simp [tot]
theorem tot_take (l : List F) (i : Nat) : tot (l.take i) ≤ tot l := by
  have := tot_append (l.take i) (l.drop i)
  rw [List.take_append_drop] at this
  omega
def Fit (l : List F) : Prop := ∀ p ∈ l, p.f0.size ≤ 140737488351232 ∧ p.f1.size ≤ 140737488351232
theorem great_loop (l : List F) (hf : Fit l) (hl : l.length ≤ 1100) (d : Nat) : ∀ i, i + d = l.length → Ev (fun k => tallboylaw32_Great.l0 k l ((tot (l.take i) : Nat) : Int) (i : Int)) (decide (50000 ≤ tot l)) := by
  induction d with
  | zero =>
    intro i hi
    rw [List.take_of_length_le (by omega)]
    refine ⟨1, fun k hk => ?_⟩
    obtain ⟨k, rfl⟩ : ∃ m, k = m + 1 := ⟨k - 1, by omega⟩
    simp only [tallboylaw32_Great.l0]
    rw [if_neg (by omega)]
    congr 1
    by_cases h : 50000 ≤ tot l
    · rw [decide_eq_true h, decide_eq_true (by omega)]
    · rw [decide_eq_false h, decide_eq_false (by omega)]
  | succ d ih =>
    intro i hi
    have hil : i < l.length := by omega
    by_cases h : tot (l.take i) < 50000
    · have h1 := ih (i + 1) (by omega)
      have hp := hf l[i] (List.getElem_mem hil)
      rw [List.take_add_one, List.getElem?_eq_getElem hil, tot_append, show tot (some l[i]).toList = l[i].f0.size + l[i].f1.size from by simp [tot]] at h1
      refine Ev.step (fun k => ?_) h1
      simp only [tallboylaw32_Great.l0]
      rw [if_pos (by omega), if_pos (by omega), if_pos (by omega), rd_at l i hil, wrap_succ i (by omega)]
      have w1 : wrap64 (((tot (l.take i) : Nat) : Int) + (l[i].f0.size : Int)) = ((tot (l.take i) + l[i].f0.size : Nat) : Int) := by unfold wrap64; omega
      have w2 : wrap64 (((tot (l.take i) + l[i].f0.size : Nat) : Int) + (l[i].f1.size : Int)) = ((tot (l.take i) + (l[i].f0.size + l[i].f1.size) : Nat) : Int) := by unfold wrap64; omega
      rw [w1, w2]
    · have := tot_take l i
      refine ⟨1, fun k hk => ?_⟩
      obtain ⟨k, rfl⟩ : ∃ m, k = m + 1 := ⟨k - 1, by omega⟩
      simp only [tallboylaw32_Great.l0]
      rw [if_pos (by omega), if_neg (by omega), decide_eq_true (by omega), decide_eq_true (by omega)]
theorem great (l : List F) (hf : Fit l) (hl : l.length ≤ 1100) : Ev (fun k => tallboylaw32_Great.f k l) (decide (50000 ≤ tot l)) := by
  refine Ev.congr (fun k => ?_) (great_loop l hf hl l.length 0 (by omega))
  unfold tallboylaw32_Great.f
  rw [if_neg (by omega)]; rfl
theorem to_pairs (l : List F) (hl : l.length ≤ 4398046511100) : Ev (fun k => tallboylaw32_To.f k l) (l.map conv) := by
  have loop : ∀ d i, i + d = l.length → Ev (fun k => tallboylaw32_To.l0 k l ((l.take i).map conv) (i : Int)) (l.map conv) := by
    intro d
    induction d with
    | zero =>
      intro i hi
      rw [List.take_of_length_le (by omega)]
      refine ⟨1, fun k hk => ?_⟩
      obtain ⟨k, rfl⟩ : ∃ m, k = m + 1 := ⟨k - 1, by omega⟩
      simp only [tallboylaw32_To.l0]
      rw [if_neg (by omega)]
    | succ d ih =>
      intro i hi
      have hil : i < l.length := by omega
      refine Ev.step (fun k => ?_) (ih (i + 1) (by omega))
      simp only [tallboylaw32_To.l0]
      rw [if_pos (by omega), if_pos (by omega), if_pos (by rw [List.length_map, List.length_take]; omega), rd_at l i hil, wrap_succ i (by omega), List.take_add_one, List.getElem?_eq_getElem hil, List.map_append]
      rfl
  exact loop l.length 0 (by omega)
theorem from_pairs (l : List G) (hl : l.length ≤ 4398046511100) : Ev (fun k => tallboylaw32_From.f k l) (l.map back) := by
  have loop : ∀ d i, i + d = l.length → Ev (fun k => tallboylaw32_From.l0 k l ((l.take i).map back) (i : Int)) (l.map back) := by
    intro d
    induction d with
    | zero =>
      intro i hi
      rw [List.take_of_length_le (by omega)]
      refine ⟨1, fun k hk => ?_⟩
      obtain ⟨k, rfl⟩ : ∃ m, k = m + 1 := ⟨k - 1, by omega⟩
      simp only [tallboylaw32_From.l0]
      rw [if_neg (by omega)]
    | succ d ih =>
      intro i hi
      have hil : i < l.length := by omega
      refine Ev.step (fun k => ?_) (ih (i + 1) (by omega))
      simp only [tallboylaw32_From.l0]
      rw [if_pos (by omega), if_pos (by omega), if_pos (by rw [List.length_map, List.length_take]; omega), rd_atG l i hil, wrap_succ i (by omega), List.take_add_one, List.getElem?_eq_getElem hil, List.map_append]
      rfl
  exact loop l.length 0 (by omega)
theorem same_same (l : List F) (hl : l.length ≤ 4398046511100) : Ev (fun k => tallboyref32_Same.f k l l) true := by
  have loop : ∀ d i, i + d = l.length → Ev (fun k => tallboyref32_Same.l0 k l l (i : Int)) true := by
    intro d
    induction d with
    | zero =>
      intro i hi
      refine ⟨1, fun k hk => ?_⟩
      obtain ⟨k, rfl⟩ : ∃ m, k = m + 1 := ⟨k - 1, by omega⟩
      simp only [tallboyref32_Same.l0]
      rw [if_neg (by omega)]
    | succ d ih =>
      intro i hi
      refine Ev.step (fun k => ?_) (ih (i + 1) (by omega))
      simp only [tallboyref32_Same.l0]
      rw [if_pos (by omega), if_pos (by omega), if_pos (by omega), wrap_succ i (by omega), if_neg (by simp)]
  refine Ev.congr (fun k => ?_) (loop l.length 0 (by omega))
  unfold tallboyref32_Same.f
  rw [if_pos rfl]; rfl

/-! ### pairs in bytes -/
def lineL (p : F) : List UInt8 := [83, 84, 65, 84, 32] ++ L p.f0 ++ [32] ++ L p.f1 ++ [13, 10]
def wrT : List F → List UInt8 → ByteArray × Int
  | [], acc => (ba (acc ++ [69, 78, 68, 13, 10]), 0)
  | p :: l, acc => if mayB p.f0 p.f1 = true then wrT l (acc ++ lineL p) else (⟨#[]⟩, 6)
theorem line_L (p : F) : L (stat_Write.line p.f0 p.f1) = lineL p := by
  unfold stat_Write.line lineL
  rw [L_append, L_append, L_append, L_append]
theorem lineL_length (p : F) : (lineL p).length = p.f0.size + p.f1.size + 8 := by
  rw [← line_L, ← L_size, stat_Write.line_size]
theorem prog_write (l : List F) : ∀ acc : List UInt8, acc.length + tot l + 8 * l.length ≤ 1099511627776 → stat_Write.go (l.map conv) acc = some (wrT l acc) := by
  induction l with
  | nil =>
    intro acc h
    simp only [List.map_nil, stat_Write.go, wrT]
    rw [if_pos (by simp [tot] at h; omega)]
  | cons p l ih =>
    intro acc h
    rw [tot_cons, List.length_cons] at h
    simp only [List.map_cons, stat_Write.go, wrT]
    rw [if_pos (by show acc.length + p.f0.size + p.f1.size ≤ _; omega), show stat_Write.mayO (conv p).f0 (conv p).f1 = some (mayB p.f0 p.f1) from stat_Write.mayO_of _ _ _ (prog_may p.f0 p.f1 (by omega) (by omega)), Option.bind_some]
    cases mayB p.f0 p.f1 with
    | false => rfl
    | true =>
      rw [if_pos rfl, if_pos rfl]
      have := ih (acc ++ lineL p) (by rw [List.length_append, lineL_length]; omega)
      rw [← this]
      show stat_Write.go _ (acc ++ L (stat_Write.line p.f0 p.f1)) = _
      rw [line_L]
theorem ref_write (l : List F) (hlt : l.length ≤ 4398046511100) (d : Nat) : ∀ (i : Nat) (x : ByteArray), i + d = l.length → x.size + tot (l.drop i) + 8 * d ≤ 1099511627776 →
    Ev (fun k => tallboyref32_Write.l0 k l x (i : Int)) (wrT (l.drop i) (L x)) := by
  induction d with
  | zero =>
    intro i x hi hx
    rw [List.drop_of_length_le (by omega)]
    refine ⟨1, fun k hk => ?_⟩
    obtain ⟨k, rfl⟩ : ∃ m, k = m + 1 := ⟨k - 1, by omega⟩
    simp only [tallboyref32_Write.l0, wrT]
    rw [if_neg (by omega), if_pos (by omega)]
    exact congrArg (fun b => some (b, (0 : Int))) (ext (by rw [L_append, L_ba]))
  | succ d ih =>
    intro i x hi hx
    have hil : i < l.length := by omega
    rw [List.drop_eq_getElem_cons hil] at hx ⊢
    rw [tot_cons] at hx
    have hm := ref_may l[i].f0 l[i].f1 (by omega) (by omega)
    simp only [wrT]
    have hsz : (((((x ++ (⟨#[83, 84, 65, 84, 32]⟩ : ByteArray)) ++ l[i].f0) ++ (⟨#[32]⟩ : ByteArray)) ++ l[i].f1) ++ (⟨#[13, 10]⟩ : ByteArray)).size = x.size + l[i].f0.size + l[i].f1.size + 8 := by
      rw [ByteArray.size_append, ByteArray.size_append, ByteArray.size_append, ByteArray.size_append, ByteArray.size_append]
      show x.size + 5 + _ + 1 + _ + 2 = _
      omega
    have h1 := ih (i + 1) (((((x ++ (⟨#[83, 84, 65, 84, 32]⟩ : ByteArray)) ++ l[i].f0) ++ (⟨#[32]⟩ : ByteArray)) ++ l[i].f1) ++ (⟨#[13, 10]⟩ : ByteArray)) (by omega) (by rw [hsz]; omega)
    have e : L (((((x ++ (⟨#[83, 84, 65, 84, 32]⟩ : ByteArray)) ++ l[i].f0) ++ (⟨#[32]⟩ : ByteArray)) ++ l[i].f1) ++ (⟨#[13, 10]⟩ : ByteArray)) = L x ++ lineL l[i] := by
      unfold lineL
      rw [L_append, L_append, L_append, L_append, L_append]
      simp only [List.append_assoc]
    rw [e] at h1
    have h2 := Ev.bind (f := fun k t121 => (if t121 = true then tallboyref32_Write.l0 k l (((((x ++ (⟨#[83, 84, 65, 84, 32]⟩ : ByteArray)) ++ l[i].f0) ++ (⟨#[32]⟩ : ByteArray)) ++ l[i].f1) ++ (⟨#[13, 10]⟩ : ByteArray)) ((i + 1 : Nat) : Int) else some ((⟨#[]⟩ : ByteArray), 6))) (r := if mayB l[i].f0 l[i].f1 = true then wrT (l.drop (i + 1)) (L x ++ lineL l[i]) else (⟨#[]⟩, 6)) hm (by
      cases mayB l[i].f0 l[i].f1 with
      | false => exact Ev.now _
      | true => exact h1)
    refine Ev.step (fun k => ?_) h2
    simp only [tallboyref32_Write.l0]
    rw [if_pos (by omega), if_pos (by omega), rd_at l i hil, wrap_succ i (by omega)]
    congr 1
    funext t
    cases t with
    | false => rfl
    | true =>
      rw [if_pos rfl, if_pos rfl, if_pos (by omega), if_pos (by rw [ByteArray.size_append]; show x.size + 5 + _ ≤ _; omega), if_pos (by rw [ByteArray.size_append, ByteArray.size_append]; show x.size + 5 + _ + 1 ≤ _; omega),
        if_pos (by rw [ByteArray.size_append, ByteArray.size_append, ByteArray.size_append]; show x.size + 5 + _ + 1 + _ ≤ _; omega), if_pos (by rw [ByteArray.size_append, ByteArray.size_append, ByteArray.size_append, ByteArray.size_append]; show x.size + 5 + _ + 1 + _ + 2 ≤ _; omega)]
end Go.Proofs.YtfkcdhcmbdmcdaaDoor.XSw
