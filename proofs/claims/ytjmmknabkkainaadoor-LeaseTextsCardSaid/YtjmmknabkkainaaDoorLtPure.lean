/- LeaseTexts, the plain law: an answer's bytes are the document's. -/
import Derived.Test.YtjmmknabkkainaaDoorXLt8
import Derived.Lib.ItoaNum
import Derived.Lib.Join
namespace Go.Proofs.YtjmmknabkkainaaDoor.XLt
open Go.RowKit Go.Proofs.YtjmmknabkkainaaDoorW.PrintWords Go.Proofs.YtjmmknabkkainaaDoorW.PrintLast Go.Proofs.YtjmmknabkkainaaDoorW.PrintMore
abbrev F := S26
abbrev G := S44
abbrev L (b : ByteArray) : List UInt8 := b.data.toList
abbrev ba (l : List UInt8) : ByteArray := ⟨l.toArray⟩
theorem ext {x y : ByteArray} (h : L x = L y) : x = y := by
  cases x; cases y
  exact congrArg ByteArray.mk (Array.toList_inj.1 h)
theorem L_ba (l : List UInt8) : L (ba l) = l := by simp
theorem L_append (a b : ByteArray) : L (a ++ b) = L a ++ L b := by
  show (a ++ b).data.toList = _
  rw [ByteArray.data_append, Array.toList_append]
theorem L_size (a : ByteArray) : a.size = (L a).length := (Array.length_toList).symm
theorem wrap_succ (a : Nat) (h : a < 4611686018427387904) : wrap64 ((a : Int) + 1) = ((a + 1 : Nat) : Int) := by unfold wrap64; omega
theorem s_sp : L (⟨#[32]⟩ : ByteArray) = [32] := rfl
theorem s_end : L (⟨#[13, 10]⟩ : ByteArray) = [13, 10] := rfl
theorem one_size (n : Int) : (strOfNums [n]).size = 1 := rfl

/-! ### the digits -/
theorem digits_nums (u : Nat) : strOfNums [(IntKind.u64.wrap (48 + Int.tmod (u : Int) 10)) % 256] = ba [UInt8.ofNat (48 + u % 10)] := by
  rw [show Int.tmod (u : Int) 10 = ((u % 10 : Nat) : Int) from rfl, IntKind.wrap_u64]
  have e : ((48 : Int) + ((u % 10 : Nat) : Int)) % 18446744073709551616 % 256 = ((48 + u % 10 : Nat) : Int) := by omega
  rw [e]; rfl
theorem dec_big (u : Nat) (h : ¬ u < 10) : Lib.decDigits u = Lib.decDigits (u / 10) ++ [UInt8.ofNat (48 + u % 10)] := by
  conv => lhs; unfold Lib.decDigits
  rw [dif_neg h]
theorem dec_small (u : Nat) (h : u < 10) : Lib.decDigits u = [UInt8.ofNat (48 + u)] := by
  conv => lhs; unfold Lib.decDigits
  rw [dif_pos h]
theorem wrap_div (u : Nat) (h : u < 18446744073709551616) : IntKind.u64.wrap (Int.tdiv (u : Int) 10) = ((u / 10 : Nat) : Int) := by
  rw [show Int.tdiv (u : Int) 10 = ((u / 10 : Nat) : Int) from rfl, IntKind.wrap_u64]; omega
theorem ref_digits (u : Nat) (hu : u < 18446744073709551616) : ∀ acc : ByteArray, acc.size + u ≤ 4611686018427387904 → 0 < u → Ev (fun k => tallboyref02_Text.l0 k (u : Int) acc) (ba (Lib.decDigits u) ++ acc) := by
  induction u using Nat.strongRecOn with
  | _ u ih =>
    intro acc hacc h0
    have hstep : ∀ k, tallboyref02_Text.l0 (k + 1) (u : Int) acc = tallboyref02_Text.l0 k ((u / 10 : Nat) : Int) (ba [UInt8.ofNat (48 + u % 10)] ++ acc) := by
      intro k
      simp only [tallboyref02_Text.l0]
      rw [if_pos (by omega), Option.bind_some, digits_nums, wrap_div u hu, if_pos (by show 1 + acc.size ≤ _; omega)]
    refine Ev.step hstep ?_
    by_cases h10 : u < 10
    · rw [show u / 10 = 0 from by omega]
      refine ⟨1, fun k hk => ?_⟩
      obtain ⟨k, rfl⟩ : ∃ m, k = m + 1 := ⟨k - 1, by omega⟩
      simp only [tallboyref02_Text.l0]
      rw [if_neg (by omega), dec_small u h10, show u % 10 = u from by omega]
    · have h := ih (u / 10) (by omega) (by omega) (ba [UInt8.ofNat (48 + u % 10)] ++ acc) (by rw [ByteArray.size_append]; show 1 + acc.size + _ ≤ _; omega) (by omega)
      have e : ba (Lib.decDigits (u / 10)) ++ (ba [UInt8.ofNat (48 + u % 10)] ++ acc) = ba (Lib.decDigits u) ++ acc := by
        apply ext
        rw [L_append, L_append, L_append, L_ba, L_ba, L_ba, dec_big u h10, List.append_assoc]
      rw [e] at h
      exact h
theorem ref_text (u : Nat) (hu : u ≤ 1000000) : Ev (fun k => tallboyref02_Text.f k (u : Int)) (ba (Lib.decDigits u)) := by
  have e : ∀ k, tallboyref02_Text.f k (u : Int) = tallboyref02_Text.l0 k ((u / 10 : Nat) : Int) (ba [UInt8.ofNat (48 + u % 10)]) := by
    intro k
    unfold tallboyref02_Text.f
    rw [digits_nums, wrap_div u (by omega)]
  refine Ev.congr e ?_
  by_cases h10 : u < 10
  · rw [show u / 10 = 0 from by omega]
    refine ⟨1, fun k hk => ?_⟩
    obtain ⟨k, rfl⟩ : ∃ m, k = m + 1 := ⟨k - 1, by omega⟩
    simp only [tallboyref02_Text.l0]
    rw [if_neg (by omega), dec_small u h10, show u % 10 = u from by omega]
  · have h := ref_digits (u / 10) (by omega) (ba [UInt8.ofNat (48 + u % 10)]) (by show 1 + _ ≤ _; omega) (by omega)
    have e2 : ba (Lib.decDigits (u / 10)) ++ ba [UInt8.ofNat (48 + u % 10)] = ba (Lib.decDigits u) := by
      apply ext
      rw [L_append, L_ba, L_ba, L_ba, dec_big u h10]
    rw [e2] at h
    exact h
theorem dec_length (u : Nat) (hu : u ≤ 1000000) : (Lib.decDigits u).length ≤ 20 := by
  rw [Lib.decDigits_length]
  by_cases h : u = 0
  · subst h; rw [Lib.nDigits_small (by omega)]; omega
  · have := Lib.numDigits_eq u (by omega) (by omega)
    split at this <;> omega
theorem prog_text (u : Nat) (hu : u ≤ 1000000) : digits_Text.f (IntKind.u64.wrap (u : Int)) = some (ba (Lib.decDigits u)) := by
  have e : IntKind.u64.wrap (u : Int) = (u : Int) := by rw [IntKind.wrap_u64]; omega
  rw [e]
  unfold digits_Text.f strconv_FormatUint_21.f strconv_FormatUint_26.f
  rw [if_pos ⟨by omega, by omega, rfl⟩]
  rfl

/-! ### the flags -/
/-- A flag's bytes. -/
def fl (f : F) : List UInt8 := L (strOfNums [f.f0]) ++ L f.f1
def conv (f : F) : G := ⟨f.f0, f.f1⟩
def tail (l : List F) : List UInt8 := Lib.joinTail [32] (l.map fl)
theorem tail_cons (f : F) (l : List F) : tail (f :: l) = [32] ++ fl f ++ tail l := by simp [tail, Lib.joinTail]
theorem fl_length (f : F) (h : f.f1.size ≤ 1000) : (fl f).length ≤ 1001 := by
  unfold fl
  rw [List.length_append, ← L_size, ← L_size, one_size]; omega
theorem tail_length (l : List F) (h : ∀ f ∈ l, f.f1.size ≤ 1000) : (tail l).length ≤ 1002 * l.length := by
  induction l with
  | nil => simp [tail, Lib.joinTail]
  | cons f l ih =>
    have h1 := fl_length f (h f List.mem_cons_self)
    have h2 := ih fun x hx => h x (List.mem_cons_of_mem _ hx)
    rw [tail_cons, List.length_append, List.length_append, List.length_cons]
    simp only [List.length_cons, List.length_nil]
    omega
section
variable (l : List F) (hl : l.length ≤ 100) (hf : ∀ f ∈ l, f.f1.size ≤ 1000)
include hl hf
omit hl hf in
theorem rd_at (i : Nat) (hi : i < l.length) : rd_T26 l (i : Int) = l[i] := by
  unfold rd_T26
  rw [Int.toNat_natCast, List.getD_eq_getElem?_getD, List.getElem?_eq_getElem hi]; rfl
def fin (code : Int) (v : ByteArray) (x : List UInt8) : ByteArray := if code = 2 then ba (x ++ [13, 10] ++ L v ++ [13, 10]) else ba (x ++ [13, 10])
theorem ref_flags (code : Int) (v : ByteArray) (hv : v.size ≤ 10000) (s : Bool) (d : Nat) : ∀ (i : Nat) (x : ByteArray), i + d = l.length → x.size ≤ 1000 + 1100 * i →
    Ev (fun k => tallboyref28_Text.l0 k x (i : Int) code v l s) (fin code v (L x ++ tail (l.drop i))) := by
  induction d with
  | zero =>
    intro i x hi hx
    have hi' : i ≤ 100 := by omega
    rw [List.drop_of_length_le (by omega), show tail [] = [] from rfl, List.append_nil]
    refine ⟨1, fun k hk => ?_⟩
    obtain ⟨k, rfl⟩ : ∃ m, k = m + 1 := ⟨k - 1, by omega⟩
    simp only [tallboyref28_Text.l0]
    rw [if_neg (by omega), if_pos (by omega)]
    unfold fin
    by_cases h2 : code = 2
    · rw [if_pos h2, if_pos h2, if_pos (by rw [ByteArray.size_append]; show x.size + 2 + _ ≤ _; omega), if_pos (by rw [ByteArray.size_append, ByteArray.size_append]; show x.size + 2 + _ + 2 ≤ _; omega)]
      exact congrArg some (ext (by rw [L_append, L_append, L_append, s_end, L_ba]))
    · rw [if_neg h2, if_neg h2]
      exact congrArg some (ext (by rw [L_append, s_end, L_ba]))
  | succ d ih =>
    intro i x hi hx
    have hil : i < l.length := by omega
    have hfi := hf l[i] (List.getElem_mem hil)
    have e1 := rd_at l i hil
    have hsz : (((x ++ (⟨#[32]⟩ : ByteArray)) ++ strOfNums [l[i].f0]) ++ l[i].f1).size = x.size + 2 + l[i].f1.size := by
      rw [ByteArray.size_append, ByteArray.size_append, ByteArray.size_append, one_size]; show x.size + 1 + 1 + _ = _; omega
    have h := ih (i + 1) (((x ++ (⟨#[32]⟩ : ByteArray)) ++ strOfNums [l[i].f0]) ++ l[i].f1) (by omega) (by rw [hsz]; omega)
    have e : L (((x ++ (⟨#[32]⟩ : ByteArray)) ++ strOfNums [l[i].f0]) ++ l[i].f1) ++ tail (l.drop (i + 1)) = L x ++ tail (l.drop i) := by
      rw [List.drop_eq_getElem_cons hil, tail_cons]
      unfold fl
      rw [L_append, L_append, L_append, s_sp]
      simp only [List.append_assoc]
    rw [e] at h
    refine Ev.step (fun k => ?_) h
    simp only [tallboyref28_Text.l0]
    rw [if_pos (by omega), if_pos (by omega), if_pos (by omega), Option.bind_some, e1, if_pos (by rw [ByteArray.size_append, one_size]; show x.size + 1 + 1 ≤ _; omega),
      if_pos (by rw [ByteArray.size_append, ByteArray.size_append, one_size]; show x.size + 1 + 1 + _ ≤ _; omega), wrap_succ i (by omega)]
omit hf in
theorem to_flags (code : Int) (v : ByteArray) (s : Bool) (c0 : Int) (v0 : ByteArray) (s0 : Bool) (d : Nat) : ∀ (i : Nat), i + d = l.length →
    Ev (fun k => tallboylaw28_To.l0 k (i : Int) c0 v0 l s0 code v ((l.take i).map conv) s) (code, v, l.map conv, s) := by
  induction d with
  | zero =>
    intro i hi
    rw [List.take_of_length_le (by omega)]
    refine ⟨1, fun k hk => ?_⟩
    obtain ⟨k, rfl⟩ : ∃ m, k = m + 1 := ⟨k - 1, by omega⟩
    simp only [tallboylaw28_To.l0]
    rw [if_neg (by omega)]
  | succ d ih =>
    intro i hi
    have hil : i < l.length := by omega
    have h := ih (i + 1) (by omega)
    refine Ev.step (fun k => ?_) h
    simp only [tallboylaw28_To.l0]
    rw [if_pos (by omega), if_pos (by omega), if_pos (by rw [List.length_map, List.length_take]; omega), rd_at l i hil, wrap_succ i (by omega), List.take_add_one, List.getElem?_eq_getElem hil, List.map_append]
    rfl
omit hl hf in
theorem rd_conv (i : Nat) (hi : i < l.length) : rd_T44 (l.map conv) (i : Int) = conv l[i] := by
  unfold rd_T44
  rw [Int.toNat_natCast, List.getD_eq_getElem?_getD, List.getElem?_map, List.getElem?_eq_getElem hi]; rfl
theorem prog_flags (x : List UInt8) (hx : x.length ≤ 1000) (t : ByteArray) (ht : t.size ≤ 20000) (d : Nat) : ∀ (i : Nat) (ws : List ByteArray), i + d = l.length → ws.length = i + ws.length - i → ws.length ≤ i + 2 →
    Lib.join (ws.map (·.data.toList)) [32] ++ tail (l.drop i) = x ++ tail l → ws ≠ [] →
    Ev (fun k => lease_Text.l0 k ws t (l.map conv) (l.length : Int) (i : Int)) (ba (x ++ tail l ++ [13, 10] ++ L t)) := by
  induction d with
  | zero =>
    intro i ws hi _ hlen hw hne
    rw [List.drop_of_length_le (by omega), show tail [] = [] from rfl, List.append_nil] at hw
    have htl := tail_length l hf
    refine ⟨1, fun k hk => ?_⟩
    obtain ⟨k, rfl⟩ : ∃ m, k = m + 1 := ⟨k - 1, by omega⟩
    simp only [lease_Text.l0]
    rw [if_neg (by omega)]
    unfold strings_Join.f
    rw [show (⟨#[32]⟩ : ByteArray).data.toList = [32] from rfl, hw, if_pos ⟨by omega, by rw [List.length_append]; omega⟩, Option.bind_some]
    have hs : (ba (x ++ tail l)).size = (x ++ tail l).length := by rw [L_size, L_ba]
    rw [List.length_append] at hs
    rw [if_pos (by show (ba (x ++ tail l)).size + 2 ≤ _; omega), if_pos (by rw [ByteArray.size_append]; show (ba (x ++ tail l)).size + 2 + _ ≤ _; omega)]
    exact congrArg some (ext (by rw [L_append, L_append, s_end, L_ba, L_ba]))
  | succ d ih =>
    intro i ws hi _ hlen hw hne
    have hil : i < l.length := by omega
    have hfi := hf l[i] (List.getElem_mem hil)
    have h := ih (i + 1) (ws ++ [strOfNums [l[i].f0] ++ l[i].f1]) (by omega) (by omega) (by rw [List.length_append]; simp; omega) (by
      rw [← hw, List.drop_eq_getElem_cons hil, tail_cons]
      obtain ⟨a, r, rfl⟩ : ∃ a r, ws = a :: r := by cases ws with
        | nil => exact absurd rfl hne
        | cons a r => exact ⟨a, r, rfl⟩
      rw [List.cons_append, List.map_cons, List.map_cons, Lib.join_cons, Lib.join_cons]
      have e : (strOfNums [l[i].f0] ++ l[i].f1).data.toList = fl l[i] := L_append _ _
      simp only [Lib.joinTail, List.map_append, List.map_cons, List.map_nil, List.flatten_append, List.flatten_cons, List.flatten_nil, List.append_nil, List.append_assoc, e]) (by simp)
    refine Ev.step (fun k => ?_) h
    simp only [lease_Text.l0]
    rw [if_pos (by omega), if_pos (by omega), if_pos (by rw [List.length_map]; omega), Option.bind_some, rd_conv l i hil]
    show (if (strOfNums [l[i].f0]).size + l[i].f1.size ≤ 9223372036854775807 then _ else _) = _
    rw [if_pos (by rw [one_size]; omega), if_pos (by omega), wrap_succ i (by omega)]
    rfl
/-- The two texts. -/
theorem prog_tail (code : Int) (v : ByteArray) (s : Bool) (x : List UInt8) (hx : x.length ≤ 100) (t : ByteArray) (ht : t.size ≤ 20000) (ws : List ByteArray) (hws : ws ≠ []) (hlen : ws.length ≤ 2) (hj : Lib.join (ws.map (·.data.toList)) [32] = x) :
    Ev (fun k => lease_Text.j2 k ws t code v (l.map conv) s) (ba (x ++ tail l ++ [13, 10] ++ L t)) := by
  have h := prog_flags l hl hf x (by omega) t ht l.length 0 ws (by omega) (by omega) (by omega) (by rw [hj]; rfl) hws
  refine Ev.step (fun k => ?_) h
  simp only [lease_Text.j2]
  rw [List.length_map]
  rfl
theorem ref_tail (code : Int) (v : ByteArray) (hv : v.size ≤ 10000) (s : Bool) (w : ByteArray) (hw : w.size ≤ 100) :
    Ev (fun k => tallboyref28_Text.j0 k w code v l s) (fin code v (L w ++ tail l)) :=
  Ev.step (fun k => by simp only [tallboyref28_Text.j0]; rfl) (ref_flags l hl hf code v hv s l.length 0 w (by omega) (by omega))
/-- What both tell. -/
def told (code : Int) (v : ByteArray) (s : Bool) : ByteArray :=
  if s = true then ⟨#[]⟩ else if code = 2 then fin 2 v (86 :: 65 :: 32 :: Lib.decDigits v.size ++ tail l) else if code = 7 then lease_names.word 7 ++ ⟨#[13, 10]⟩ else if code = 8 then lease_names.word 8 ++ ⟨#[13, 10]⟩
  else if code = 10 then ⟨#[77, 69, 32]⟩ ++ v ++ ⟨#[13, 10]⟩ else if 1 ≤ code ∧ code ≤ 10 then fin code v (L (lease_names.word code) ++ tail l) else ⟨#[]⟩
omit hl hf in
theorem word_size (code : Int) (h1 : 1 ≤ code) (h2 : code ≤ 10) : (lease_names.word code).size ≤ 100 := by
  have hj : code = 1 ∨ code = 2 ∨ code = 3 ∨ code = 4 ∨ code = 5 ∨ code = 6 ∨ code = 7 ∨ code = 8 ∨ code = 9 ∨ code = 10 := by omega
  rcases hj with rfl | rfl | rfl | rfl | rfl | rfl | rfl | rfl | rfl | rfl <;> decide
theorem prog_told (code : Int) (v : ByteArray) (hv : v.size ≤ 10000) (s : Bool) : Ev (fun k => lease_Text.f k code v (l.map conv) s) (told l code v s) := by
  unfold lease_Text.f told
  by_cases hs : s = true
  · subst hs
    rw [if_pos rfl]
    refine ⟨1, fun k hk => ?_⟩
    obtain ⟨k, rfl⟩ : ∃ m, k = m + 1 := ⟨k - 1, by omega⟩
    simp only [lease_Text.j0]
    rw [if_pos trivial, if_pos trivial]
  · rw [if_neg hs]
    simp only [if_neg hs]
    by_cases hlo : code < 1
    · rw [if_neg (by omega), if_neg (by omega), if_neg (by omega), if_neg (by omega), if_neg (by omega)]
      refine ⟨1, fun k hk => ?_⟩
      obtain ⟨k, rfl⟩ : ∃ m, k = m + 1 := ⟨k - 1, by omega⟩
      simp only [if_pos hlo, lease_Text.j0]
      rw [if_pos trivial]
    · simp only [if_neg hlo]
      by_cases hhi : code > 10
      · rw [if_neg (by omega), if_neg (by omega), if_neg (by omega), if_neg (by omega), if_neg (by omega)]
        refine ⟨1, fun k hk => ?_⟩
        obtain ⟨k, rfl⟩ : ∃ m, k = m + 1 := ⟨k - 1, by omega⟩
        simp only [lease_Text.j0]
        rw [if_pos (decide_eq_true hhi)]
      · have hd : decide (code > 10) = false := decide_eq_false hhi
        have hw := word_size code (by omega) (by omega)
        have hrd : rdOf ByteArray.empty [lease_names.word code] 0 = lease_names.word code := rfl
        by_cases h7 : code = 7
        · subst h7
          rw [if_neg (by omega), if_pos rfl]
          refine ⟨2, fun k hk => ?_⟩
          obtain ⟨k, rfl⟩ : ∃ m, k = m + 1 + 1 := ⟨k - 2, by omega⟩
          simp only [lease_Text.j0, lease_names.f, Option.bind_some]
          rw [hd, if_neg Bool.false_ne_true, if_pos (by omega), if_pos (by omega), if_pos trivial]
          simp only [lease_Text.j1]
          rw [if_pos (show ((7 : Int) == 7) = true from rfl), if_pos (by decide), hrd, if_pos (by omega)]
        · by_cases h8 : code = 8
          · subst h8
            rw [if_neg (by omega), if_neg (by omega), if_pos rfl]
            refine ⟨2, fun k hk => ?_⟩
            obtain ⟨k, rfl⟩ : ∃ m, k = m + 1 + 1 := ⟨k - 2, by omega⟩
            simp only [lease_Text.j0, lease_names.f, Option.bind_some]
            rw [hd, if_neg Bool.false_ne_true, if_pos (by omega), if_pos (by omega), if_neg (by omega)]
            simp only [lease_Text.j1]
            rw [if_pos (show ((8 : Int) == 8) = true from rfl), if_pos (by decide), hrd, if_pos (by omega)]
          · have hj1 : ∀ {r}, Ev (fun k => lease_Text.j1 k [lease_names.word code] ⟨#[]⟩ code false code v (l.map conv) s) r → Ev (fun k => lease_Text.j0 k (decide (code > 10)) code v (l.map conv) s) r := by
              intro r h
              refine Ev.step (fun k => ?_) h
              simp only [lease_Text.j0, lease_names.f, Option.bind_some]
              rw [hd, if_neg Bool.false_ne_true, if_pos (by omega), if_pos (by omega), if_neg h7, show (code == 8) = false from beq_eq_false_iff_ne.2 h8]
            refine hj1 ?_
            by_cases h10 : code = 10
            · subst h10
              rw [if_neg (by omega), if_neg (by omega), if_neg (by omega), if_pos rfl]
              refine ⟨1, fun k hk => ?_⟩
              obtain ⟨k, rfl⟩ : ∃ m, k = m + 1 := ⟨k - 1, by omega⟩
              simp only [lease_Text.j1]
              rw [if_neg Bool.false_ne_true, if_pos trivial, if_pos (by decide), hrd, if_pos (by omega), if_pos (by rw [ByteArray.size_append]; show _ + 1 + _ ≤ _; omega), if_pos (by rw [ByteArray.size_append, ByteArray.size_append]; show _ + 1 + _ + 2 ≤ _; omega)]
              rfl
            · by_cases h2 : code = 2
              · subst h2
                rw [if_pos rfl]
                have hdl := dec_length v.size (by omega)
                have h := prog_tail l hl hf 2 v s (86 :: 65 :: 32 :: Lib.decDigits v.size) (by simp; omega) (v ++ ⟨#[13, 10]⟩) (by rw [ByteArray.size_append]; show _ + 2 ≤ _; omega) [lease_names.word 2, ba (Lib.decDigits v.size)] (by simp) (by simp) (by
                  rw [List.map_cons, Lib.join_cons]; simp [Lib.joinTail]; rfl)
                have e : ba (86 :: 65 :: 32 :: Lib.decDigits v.size ++ tail l ++ [13, 10] ++ L (v ++ ⟨#[13, 10]⟩)) = fin 2 v (86 :: 65 :: 32 :: Lib.decDigits v.size ++ tail l) := by
                  unfold fin
                  rw [if_pos rfl, L_append, s_end]
                  exact congrArg ba (by simp only [List.append_assoc])
                rw [e] at h
                refine Ev.step (fun k => ?_) h
                simp only [lease_Text.j1]
                rw [if_neg Bool.false_ne_true, if_neg (by omega), if_pos trivial, prog_text v.size (by omega), Option.bind_some, if_pos (by decide), if_pos (by omega)]
                rfl
              · rw [if_neg h2, if_neg h7, if_neg h8, if_neg h10, if_pos ⟨by omega, by omega⟩]
                have h := prog_tail l hl hf code v s (L (lease_names.word code)) (by rw [← L_size]; exact hw) ⟨#[]⟩ (by decide) [lease_names.word code] (by simp) (by simp) (by rw [List.map_cons, List.map_nil, Lib.join_one])
                have e : ba (L (lease_names.word code) ++ tail l ++ [13, 10] ++ L (⟨#[]⟩ : ByteArray)) = fin code v (L (lease_names.word code) ++ tail l) := by
                  unfold fin
                  rw [if_neg h2]
                  exact congrArg ba (List.append_nil _)
                rw [e] at h
                refine Ev.step (fun k => ?_) h
                simp only [lease_Text.j1]
                rw [if_neg Bool.false_ne_true, if_neg h10, if_neg h2]
theorem ref_told (code : Int) (v : ByteArray) (hv : v.size ≤ 10000) (s : Bool) : Ev (fun k => tallboyref28_Text.f k code v l s) (told l code v s) := by
  unfold tallboyref28_Text.f told
  by_cases hs : s = true
  · simp only [if_pos hs]; exact Ev.now _
  · simp only [if_neg hs]
    by_cases h2 : code = 2
    · subst h2
      rw [if_pos rfl]
      have hdl := dec_length v.size (by omega)
      have e : IntKind.u64.wrap (v.size : Int) = (v.size : Int) := by rw [IntKind.wrap_u64]; omega
      have hw : ((⟨#[86, 65, 32]⟩ : ByteArray) ++ ba (Lib.decDigits v.size)).size ≤ 100 := by
        have hq : (ba (Lib.decDigits v.size)).size = (Lib.decDigits v.size).length := L_size _
        rw [ByteArray.size_append, hq]; show 3 + _ ≤ _; omega
      have h := ref_tail l hl hf 2 v hv s ((⟨#[86, 65, 32]⟩ : ByteArray) ++ ba (Lib.decDigits v.size)) hw
      rw [L_append, L_ba] at h
      have h2 := Ev.bind (ref_text v.size (by omega)) (f := fun k t137 => (if 3 + t137.size ≤ 9223372036854775807 then (tallboyref28_Text.j0 k ((⟨#[86, 65, 32]⟩ : ByteArray) ++ t137) 2 v l s) else (none))) (Ev.congr (fun k => by rw [if_pos (by rw [L_size (ba _), L_ba]; omega)]) h)
      refine Ev.congr (fun k => ?_) h2
      rw [if_neg (by omega), if_pos rfl, e]
    · by_cases hr : 1 ≤ code ∧ code ≤ 10
      · obtain ⟨r1, r2⟩ := hr
        have hj : code = 1 ∨ code = 3 ∨ code = 4 ∨ code = 5 ∨ code = 6 ∨ code = 7 ∨ code = 8 ∨ code = 9 ∨ code = 10 := by omega
        rcases hj with rfl | rfl | rfl | rfl | rfl | rfl | rfl | rfl | rfl
        · exact ref_tail l hl hf 1 v hv s (⟨#[72, 68]⟩ : ByteArray) (by decide)
        · exact ref_tail l hl hf 3 v hv s (⟨#[69, 78]⟩ : ByteArray) (by decide)
        · exact ref_tail l hl hf 4 v hv s (⟨#[78, 70]⟩ : ByteArray) (by decide)
        · exact ref_tail l hl hf 5 v hv s (⟨#[78, 83]⟩ : ByteArray) (by decide)
        · exact ref_tail l hl hf 6 v hv s (⟨#[69, 88]⟩ : ByteArray) (by decide)
        · exact Ev.now _
        · exact Ev.now _
        · exact ref_tail l hl hf 9 v hv s (⟨#[77, 78]⟩ : ByteArray) (by decide)
        · refine Ev.congr (fun k => ?_) (Ev.now _)
          show (if 3 + v.size ≤ 9223372036854775807 then (if ((⟨#[77, 69, 32]⟩ : ByteArray) ++ v).size + 2 ≤ 9223372036854775807 then _ else _) else _) = _
          rw [if_pos (by omega), if_pos (by rw [ByteArray.size_append]; show 3 + _ + 2 ≤ _; omega)]
          rfl
      · rw [if_neg h2, if_neg (by omega), if_neg (by omega), if_neg (by omega), if_neg hr]
        refine Ev.congr (fun k => ?_) (Ev.now _)
        rw [if_neg (by omega), if_neg (by omega), if_neg (by omega), if_neg (by omega), if_neg (by omega), if_neg (by omega), if_neg (by omega), if_neg (by omega), if_neg (by omega), if_neg (by omega)]
end
/-- The law. -/
theorem law_true (code : Int) (v : ByteArray) (l : List F) (s : Bool) : ∃ k, tallboylaw28_LeaseTexts.f k code v l s = some true := by
  have yes : ∀ b : Bool, b = true → ∃ k, tallboylaw28_LeaseTexts.j0 k b code v l s = some true := by
    rintro b rfl
    refine ⟨1, ?_⟩
    simp only [tallboylaw28_LeaseTexts.j0]
    rw [if_pos trivial]
  by_cases hl : l.length ≤ 100
  · by_cases hv : v.size ≤ 10000
    · have loop : ∀ d i, i + d = l.length → (∀ f ∈ l.take i, f.f1.size ≤ 1000) → Ev (fun k => tallboylaw28_LeaseTexts.l0 k (i : Int) code v l s) true := by
        intro d
        induction d with
        | zero =>
          intro i hi hf0
          have hf : ∀ f ∈ l, f.f1.size ≤ 1000 := by
            intro f hm
            exact hf0 f (by rw [List.take_of_length_le (by omega)]; exact hm)
          have h1 := to_flags l hl code v s code v s l.length 0 (by omega)
          have h2 := prog_told l hl hf code v hv s
          have h3 := ref_told l hl hf code v hv s
          have h4 := Ev.bind (f := fun k (bt : Int × ByteArray × (List G) × Bool) => (lease_Text.f k bt.1 bt.2.1 bt.2.2.1 bt.2.2.2).bind fun t151 => ((tallboyref28_Text.f k code v l s).bind fun t152 => (some (t151.toList == t152.toList)))) h1
            (Ev.bind (f := fun k t151 => (tallboyref28_Text.f k code v l s).bind fun t152 => (some (t151.toList == t152.toList))) h2 (Ev.bind (f := fun _ t152 => some ((told l code v s).toList == t152.toList)) h3 (r := true) (Ev.congr (fun _ => by simp) (Ev.now true))))
          refine Ev.step (fun k => ?_) h4
          simp only [tallboylaw28_LeaseTexts.l0]
          rw [if_neg (by omega)]
          rfl
        | succ d ih =>
          intro i hi hf0
          have hil : i < l.length := by omega
          by_cases hsz : l[i].f1.size ≤ 1000
          · refine Ev.step (fun k => ?_) (ih (i + 1) (by omega) (by
              intro f hm
              rw [List.take_add_one, List.getElem?_eq_getElem hil, List.mem_append] at hm
              rcases hm with hm | hm
              · exact hf0 f hm
              · rw [show (some l[i]).toList = [l[i]] from rfl, List.mem_singleton] at hm
                rw [hm]; exact hsz))
            simp only [tallboylaw28_LeaseTexts.l0]
            rw [if_pos (by omega), if_pos (by omega), rd_at l i hil, if_neg (by omega), wrap_succ i (by omega)]
          · refine ⟨1, fun k hk => ?_⟩
            obtain ⟨k, rfl⟩ : ∃ m, k = m + 1 := ⟨k - 1, by omega⟩
            simp only [tallboylaw28_LeaseTexts.l0]
            rw [if_pos (by omega), if_pos (by omega), rd_at l i hil, if_pos (by omega)]
      obtain ⟨K, hK⟩ := loop l.length 0 (by omega) (by intro f hm; rw [List.take_zero] at hm; exact absurd hm List.not_mem_nil)
      refine ⟨K + 1, ?_⟩
      unfold tallboylaw28_LeaseTexts.f
      rw [if_neg (by omega), show decide ((v.size : Int) > 10000) = false from decide_eq_false (by omega)]
      simp only [tallboylaw28_LeaseTexts.j0]
      rw [if_neg Bool.false_ne_true]
      exact hK K (Nat.le_refl _)
    · obtain ⟨k, hk⟩ := yes _ (decide_eq_true (show ((v.size : Int) > 10000) by omega))
      refine ⟨k, ?_⟩
      unfold tallboylaw28_LeaseTexts.f
      rw [if_neg (by omega)]
      exact hk
  · obtain ⟨k, hk⟩ := yes true rfl
    refine ⟨k, ?_⟩
    unfold tallboylaw28_LeaseTexts.f
    rw [if_pos (by omega)]
    exact hk
end Go.Proofs.YtjmmknabkkainaaDoor.XLt
