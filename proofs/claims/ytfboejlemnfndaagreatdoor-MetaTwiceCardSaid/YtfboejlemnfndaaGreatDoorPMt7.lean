/- Put together by wip/pack.py (this session's own program) out of this session's texts; a kit's tool laid the words and the shelf, of which only what is used stands here. Lean checks it. -/
import Derived.Test.YtfboejlemnfndaaGreatDoorPMt6
import Derived.OpenShut
import Derived.ChangeArms
import Derived.DataReads
import Derived.DataElems
import Derived.Test.YtfboejlemnfndaaGreatDoorCards
import Derived.Test.YtfboejlemnfndaaGreatDoorTie
import Derived.WalkKit
import Derived.ProofKit
import Derived.ShutString
import Derived.ChangeOld
import Derived.Below
import Derived.SizedLaws
import Derived.LaidMore
import Derived.Lay
import Derived.SevenTiedAt
import Derived.Stop.Joined
import Derived.Deep.DeepHandedRow
import Derived.Shelf.Vars
import Derived.Stop.LaidErr
section
namespace Go.Proofs.YtfboejlemnfndaaGreatDoor.XMt
open Go.RowKit Go.Proofs.YtfboejlemnfndaaGreatDoorW.PrintWords Go.Proofs.YtfboejlemnfndaaGreatDoorW.PrintLast Go.Proofs.YtfboejlemnfndaaGreatDoorW.PrintMore
attribute [local go_sem] extract_sub max2_int min2_int max_two min_two max_three min_three max_four min_four   -- for this text's walks alone
set_option linter.unusedVariables false
set_option linter.unusedSimpArgs false

noncomputable section
end
end Go.Proofs.YtfboejlemnfndaaGreatDoor.XMt
end
section
namespace Go.Proofs.YtfboejlemnfndaaGreatDoor.XMt
open Go.RowKit Go.Proofs.YtfboejlemnfndaaGreatDoorW.PrintWords Go.Proofs.YtfboejlemnfndaaGreatDoorW.PrintLast Go.Proofs.YtfboejlemnfndaaGreatDoorW.PrintMore
set_option linter.unusedVariables false
set_option linter.unusedSimpArgs false

theorem wrap_at (i : Nat) (h : i < 4611686018427387904) : wrap64 ((i : Int) + 1) = ((i + 1 : Nat) : Int) := by unfold wrap64; omega
theorem key_l0 (s : ByteArray) (hs : s.size ≤ 1000) : ∀ (n k i : Nat), n + i = s.size → n < k → ∃ b, fnv_Key.l0 k s (s.size : Int) (i : Int) = some b
  | n, 0, i, _, h => absurd h (by omega)
  | 0, k + 1, i, h, _ => ⟨true, by simp only [fnv_Key.l0]; rw [if_neg (by omega)]⟩
  | n + 1, k + 1, i, h, hk => by
    obtain ⟨b, hb⟩ := key_l0 s hs n k (i + 1) (by omega) (by omega)
    simp only [fnv_Key.l0]
    rw [if_pos (by omega), if_pos (by omega), if_pos (by omega), wrap_at i (by omega), hb]
    split
    · exact ⟨_, rfl⟩
    · split
      · exact ⟨_, rfl⟩
      · exact ⟨_, rfl⟩
theorem key_tot (s : ByteArray) (hs : s.size ≤ 1000) (k : Nat) (hk : 1010 ≤ k) : ∃ b, fnv_Key.f k s = some b := by
  obtain ⟨k, rfl⟩ : ∃ j, k = j + 1 := ⟨k - 1, by omega⟩
  have h0 : ∀ x, ∃ b, fnv_Key.j0 (k + 1) s x = some b := by
    intro x
    cases x
    · obtain ⟨b, hb⟩ := key_l0 s hs s.size k 0 (by omega) (by omega)
      exact ⟨b, by simp only [fnv_Key.j0, Bool.false_eq_true, if_false]; exact hb⟩
    · exact ⟨false, by simp only [fnv_Key.j0, if_true]⟩
  unfold fnv_Key.f
  split
  · exact h0 _
  · exact h0 _
theorem sort_tot (x : Int) (k : Nat) (hk : 10 ≤ k) : ∃ t, meta_sortOf.f k x = some t := by
  obtain ⟨k, rfl⟩ : ∃ j, k = j + 2 := ⟨k - 2, by omega⟩
  have h1 : ∀ y, ∃ t, meta_sortOf.j1 (k + 1) x y = some t := by
    intro y
    simp only [meta_sortOf.j1]
    repeat' split
    all_goals exact ⟨_, rfl⟩
  have h0 : ∀ y, ∃ t, meta_sortOf.j0 (k + 2) x y = some t := by
    intro y
    simp only [meta_sortOf.j0]
    repeat' split
    all_goals first | exact h1 _ | exact ⟨_, rfl⟩
  unfold meta_sortOf.f
  repeat' split
  all_goals exact h0 _
theorem parse_tot (s : ByteArray) (hs : s.size ≤ 1000) : digits_Parse.f s = some (digits_Parse.val s.data.toList) := by
  unfold digits_Parse.f
  rw [if_pos (by omega)]
theorem cut_tot (s : ByteArray) (hs : s.size ≤ 1000) : ∃ r b, strings_CutPrefix.f s ⟨#[45]⟩ = some (r, b) ∧ r.size ≤ 1000 := by
  have hp : ∃ b, stringslite_HasPrefix.f s ⟨#[45]⟩ = some b ∧ (b = true → 1 ≤ s.size) := by
    unfold stringslite_HasPrefix.f
    rw [show ((⟨#[45]⟩ : ByteArray).size : Int) = 1 from rfl]
    split
    · rw [if_pos (by omega)]
      exact ⟨_, rfl, fun _ => by omega⟩
    · exact ⟨_, rfl, fun h => absurd h (by decide)⟩
  obtain ⟨b, hb, h1⟩ := hp
  unfold strings_CutPrefix.f stringslite_CutPrefix.f
  rw [hb]
  simp only [Option.bind_some]
  cases b
  · exact ⟨s, false, rfl, hs⟩
  · have := h1 rfl
    rw [if_pos rfl, if_pos (by decide), if_pos (by rw [show ((⟨#[45]⟩ : ByteArray).size : Int) = 1 from rfl]; omega)]
    refine ⟨_, _, rfl, ?_⟩
    show (s.extract _ _).size ≤ 1000
    rw [ByteArray.size_extract]
    omega
theorem signed_tot (s : ByteArray) (hs : s.size ≤ 1000) (k : Nat) (hk : 10 ≤ k) : ∃ a b, digits_Signed.f k s = some (a, b) := by
  obtain ⟨k, rfl⟩ : ∃ j, k = j + 1 := ⟨k - 1, by omega⟩
  obtain ⟨r, b, hb, hr⟩ := cut_tot s hs
  unfold digits_Signed.f
  rw [hb]
  simp only [Option.bind_some, parse_tot r hr]
  repeat' split
  all_goals first
    | exact ⟨_, _, rfl⟩
    | (simp only [digits_Signed.j0]
       repeat' split
       all_goals exact ⟨_, _, rfl⟩)
theorem right_tot (op x : Int) (s : ByteArray) (hs : s.size ≤ 1000) (k : Nat) (hk : 1010 ≤ k) : ∃ b, meta_right.f k op x s = some b := by
  obtain ⟨t, ht⟩ := sort_tot x k (by omega)
  obtain ⟨a, b, hab⟩ := signed_tot s hs k (by omega)
  obtain ⟨y, hy⟩ := key_tot s hs k hk
  have hm : ∃ m, meta_modes.f op = some m ∧ m.size ≤ 5 := by
    unfold meta_modes.f
    split
    · exact ⟨_, rfl, by decide⟩
    · exact ⟨_, rfl, by decide⟩
  obtain ⟨m, hm, hm5⟩ := hm
  have hc : strings_Contains.f m s = some (Lib.contains m.data.toList s.data.toList) := by
    unfold strings_Contains.f
    rw [if_pos (by omega)]
  unfold meta_right.f
  rw [ht]
  simp only [Option.bind_some, parse_tot s hs, hab, hy, hm, hc]
  repeat' split
  all_goals exact ⟨_, rfl⟩
theorem owns_tot (op x : Int) (h : 1 ≤ op ∧ op ≤ 6) : ∃ b, meta_owns.f op x = some b := by
  unfold meta_owns.f
  rw [if_pos h]
  exact ⟨_, rfl⟩
theorem go_tot (op : Int) (h : 1 ≤ op ∧ op ≤ 6) (k : Nat) (hk : 1010 ≤ k) : ∀ (l : List S61) (seen : List Int), (∀ x ∈ l, x.f1.size ≤ 1000) → ∃ e, meta_shape.go k op l seen = some e
  | [], _, _ => ⟨0, rfl⟩
  | x :: l, seen, hs => by
    obtain ⟨b, hb⟩ := owns_tot op x.f0 h
    obtain ⟨q, hq⟩ := right_tot op x.f0 x.f1 (hs x List.mem_cons_self) k hk
    obtain ⟨e, he⟩ := go_tot op h k hk l (x.f0 :: seen) (fun y hy => hs y (List.mem_cons_of_mem _ hy))
    unfold meta_shape.go
    rw [hb, hq]
    simp only [Option.bind_some, he]
    repeat' split
    all_goals exact ⟨_, rfl⟩
def has (l : List S61) (c : Int) : Bool := l.any fun x => x.f0 == c
theorem find_eq (o : Int) (key : ByteArray) (sz : Int) (l : List S61) (c : Int) : ∃ t, meta_Find.f o key sz l c = some (t, has l c) := by
  unfold meta_Find.f
  cases h : l.find? (fun x => x.f0 == c) with
  | some x =>
    refine ⟨x.f1, ?_⟩
    have : has l c = true := List.any_eq_true.2 ⟨x, List.mem_of_find?_eq_some h, List.find?_some (p := fun x : S61 => x.f0 == c) h⟩
    rw [this]
  | none =>
    refine ⟨⟨#[]⟩, ?_⟩
    have : has l c = false := by
      unfold has
      rw [List.any_eq_false]
      intro x hx
      exact List.find?_eq_none.1 h x hx
    rw [this]
def keyB (k : Nat) (o : Int) (key : ByteArray) (b : Bool) : Option Bool :=
  if o = 5 then some (key.toList == ([] : List UInt8)) else if b = true then (if (key.size : Int) ≥ 1 then some (decide ((key.size : Int) ≤ 32)) else some false) else fnv_Key.f k key
theorem key_eq (k : Nat) (o : Int) (key : ByteArray) (sz : Int) (l : List S61) : meta_key.f k o key sz l = keyB k o key (has l 98) := by
  obtain ⟨t, ht⟩ := find_eq o key sz l 98
  unfold meta_key.f keyB
  rw [ht]
  simp only [Option.bind_some]
  split
  · rfl
  · split
    · rfl
    · cases fnv_Key.f k key <;> rfl
theorem keyB_tot (k : Nat) (o : Int) (key : ByteArray) (b : Bool) (hs : key.size ≤ 1000) (hk : 1010 ≤ k) : ∃ y, keyB k o key b = some y := by
  obtain ⟨y, hy⟩ := key_tot key hs k hk
  unfold keyB
  rw [hy]
  repeat' split
  all_goals exact ⟨_, rfl⟩
theorem there_eq (o : Int) : meta_there.f o = some (decide (1 ≤ o ∧ o ≤ 6)) := by
  unfold meta_there.f
  split
  · congr 1
    rw [decide_eq_decide]
    omega
  · congr 1
    rw [eq_comm, decide_eq_false_iff_not]
    omega
theorem shape_tot (k : Nat) (o : Int) (key : ByteArray) (sz : Int) (l : List S61) (hs : key.size ≤ 1000) (hl : ∀ x ∈ l, x.f1.size ≤ 1000) (hk : 1010 ≤ k) : ∃ e, meta_shape.f k o key sz l = some e := by
  obtain ⟨y, hy⟩ := keyB_tot k o key (has l 98) hs hk
  unfold meta_shape.f
  rw [there_eq, key_eq, hy]
  simp only [Option.bind_some, decide_eq_true_eq]
  split
  · obtain ⟨e, he⟩ := go_tot o (by assumption) k hk l [] hl
    rw [he]
    repeat' split
    all_goals exact ⟨_, rfl⟩
  · exact ⟨_, rfl⟩
theorem check_tot (k : Nat) (o : Int) (key : ByteArray) (sz : Int) (l : List S61) (hs : key.size ≤ 1000) (hl : ∀ x ∈ l, x.f1.size ≤ 1000) (hk : 1010 ≤ k) : ∃ e, meta_Check.f k o key sz l = some e := by
  obtain ⟨e, he⟩ := shape_tot k o key sz l hs hl hk
  unfold meta_Check.f
  rw [he]
  simp only [Option.bind_some]
  repeat' split
  all_goals exact ⟨_, rfl⟩
theorem shape_zero {k : Nat} {o : Int} {key : ByteArray} {sz : Int} {l : List S61} (h : meta_shape.f k o key sz l = some 0) :
    (1 ≤ o ∧ o ≤ 6) ∧ keyB k o key (has l 98) = some true ∧ ¬ (sz < 0 ∨ sz > 2147483647 ∨ (o ≠ 2 ∧ sz ≠ 0)) ∧ meta_shape.go k o l [] = some 0 := by
  unfold meta_shape.f at h
  rw [there_eq, key_eq] at h
  simp only [Option.bind_some, decide_eq_true_eq] at h
  split at h
  · rename_i ho
    cases hy : keyB k o key (has l 98) with
    | none => rw [hy] at h; cases h
    | some y =>
      rw [hy] at h
      simp only [Option.bind_some] at h
      cases y with
      | false => simp at h
      | true =>
        simp only [if_true] at h
        split at h
        · simp at h
        · exact ⟨ho, rfl, by assumption, h⟩
  · simp at h
theorem shape_is {k : Nat} {o : Int} {key : ByteArray} {sz : Int} {l : List S61} (ho : 1 ≤ o ∧ o ≤ 6) {y : Bool} (hy : keyB k o key (has l 98) = some y) (hz : ¬ (sz < 0 ∨ sz > 2147483647 ∨ (o ≠ 2 ∧ sz ≠ 0))) :
    meta_shape.f k o key sz l = if y = true then meta_shape.go k o l [] else some 6 := by
  unfold meta_shape.f
  rw [there_eq, key_eq, hy]
  simp only [Option.bind_some, decide_eq_true_eq]
  rw [if_pos ho]
  cases y
  · rfl
  · simp only [if_true]
    rw [if_neg hz]
theorem go_cons {k : Nat} {op : Int} {x : S61} {l : List S61} {seen : List Int} (h : meta_shape.go k op (x :: l) seen = some 0) :
    meta_owns.f op x.f0 = some true ∧ seen.contains x.f0 = false ∧ meta_right.f k op x.f0 x.f1 = some true ∧ meta_shape.go k op l (x.f0 :: seen) = some 0 := by
  unfold meta_shape.go at h
  cases hb : meta_owns.f op x.f0 with
  | none => rw [hb] at h; cases h
  | some b =>
    rw [hb] at h
    simp only [Option.bind_some] at h
    cases b with
    | false => simp at h
    | true =>
      simp only [if_true] at h
      cases hc : seen.contains x.f0 with
      | true => rw [hc] at h; simp at h
      | false =>
        rw [hc] at h
        simp only [Bool.false_eq_true, if_false] at h
        cases hq : meta_right.f k op x.f0 x.f1 with
        | none => rw [hq] at h; cases h
        | some q =>
          rw [hq] at h
          simp only [Option.bind_some] at h
          cases q with
          | false => simp at h
          | true => simp only [if_true] at h; exact ⟨rfl, rfl, rfl, h⟩
theorem go_mk {k : Nat} {op : Int} {x : S61} {l : List S61} {seen : List Int} (h1 : meta_owns.f op x.f0 = some true) (h2 : seen.contains x.f0 = false) (h3 : meta_right.f k op x.f0 x.f1 = some true) :
    meta_shape.go k op (x :: l) seen = meta_shape.go k op l (x.f0 :: seen) := by
  rw [meta_shape.go, h1]
  simp only [Option.bind_some, if_true]
  rw [h2, h3]
  simp only [Bool.false_eq_true, if_false, Option.bind_some, if_true]
theorem go_fewer {k : Nat} {op : Int} : ∀ {l : List S61} {seen seen' : List Int}, (∀ y, seen'.contains y = true → seen.contains y = true) → meta_shape.go k op l seen = some 0 → meta_shape.go k op l seen' = some 0
  | [], _, _, _, _ => rfl
  | x :: l, seen, seen', hs, h => by
    obtain ⟨h1, h2, h3, h4⟩ := go_cons h
    rw [go_mk h1 (by cases hc : seen'.contains x.f0 with | false => rfl | true => rw [hs _ hc] at h2; cases h2) h3]
    refine go_fewer (fun y hy => ?_) h4
    rw [List.contains_cons, Bool.or_eq_true] at hy ⊢
    rcases hy with hy | hy
    · exact .inl hy
    · exact .inr (hs y hy)
theorem go_less {k : Nat} {op : Int} {f : S61} {b : List S61} : ∀ {a : List S61} {seen : List Int}, meta_shape.go k op (a ++ f :: b) seen = some 0 → meta_shape.go k op (a ++ b) seen = some 0
  | [], seen, h => by
    obtain ⟨_, _, _, h4⟩ := go_cons h
    exact go_fewer (fun y hy => by rw [List.contains_cons, hy, Bool.or_true]) h4
  | x :: a, seen, h => by
    obtain ⟨h1, h2, h3, h4⟩ := go_cons h
    show meta_shape.go k op (x :: (a ++ b)) seen = some 0
    rw [go_mk h1 h2 h3]
    exact go_less h4
theorem go_twice {k : Nat} {op : Int} {f : S61} (hf : meta_owns.f op f.f0 = some true) : ∀ {l : List S61} {seen : List Int}, (seen.contains f.f0 = true ∨ ∃ x ∈ l, x.f0 = f.f0) → meta_shape.go k op l seen = some 0 → meta_shape.go k op (l ++ [f]) seen = some 4
  | [], seen, hs, _ => by
    rcases hs with hs | ⟨x, hx, _⟩
    · show meta_shape.go k op [f] seen = some 4
      rw [meta_shape.go, hf]
      simp only [Option.bind_some, if_true]
      rw [if_pos hs]
    · cases hx
  | x :: l, seen, hs, h => by
    obtain ⟨h1, h2, h3, h4⟩ := go_cons h
    show meta_shape.go k op (x :: (l ++ [f])) seen = some 4
    rw [go_mk h1 h2 h3]
    refine go_twice hf ?_ h4
    rcases hs with hs | ⟨y, hy, e⟩
    · exact .inl (by rw [List.contains_cons, hs, Bool.or_true])
    · rcases List.mem_cons.1 hy with rfl | hy
      · exact .inl (by rw [List.contains_cons, e]; simp)
      · exact .inr ⟨y, hy, e⟩
theorem go_owned {k : Nat} {op : Int} : ∀ {l : List S61} {seen : List Int}, meta_shape.go k op l seen = some 0 → ∀ x ∈ l, meta_owns.f op x.f0 = some true
  | [], _, _, x, hx => by cases hx
  | y :: l, seen, h, x, hx => by
    obtain ⟨h1, _, _, h4⟩ := go_cons h
    rcases List.mem_cons.1 hx with rfl | hx
    · exact h1
    · exact go_owned h4 x hx
def conv (x : S59) : S61 := ⟨x.f0, x.f1⟩
theorem to_l0 (o : Int) (key : ByteArray) (sz : Int) (l : List S59) (hl : l.length ≤ 200) : ∀ (n k i : Nat), n + i = l.length → n < k →
    tallboylaw27_To.l0 k (i : Int) o key sz l o key sz ((l.take i).map conv) = some (o, key, sz, l.map conv)
  | n, 0, i, _, h => absurd h (by omega)
  | 0, k + 1, i, h, _ => by
    simp only [tallboylaw27_To.l0]
    rw [if_neg (by omega), List.take_of_length_le (by omega)]
  | n + 1, k + 1, i, h, hk => by
    have ih := to_l0 o key sz l hl n k (i + 1) (by omega) (by omega)
    have e : (l.take (i + 1)).map conv = (l.take i).map conv ++ [⟨(rd_T59 l (i : Int)).f0, (rd_T59 l (i : Int)).f1⟩] := by
      have hi : i < l.length := by omega
      rw [List.take_add_one, List.getElem?_eq_getElem hi, List.map_append]
      congr 1
      unfold rd_T59
      rw [Int.toNat_natCast, List.getD_eq_getElem?_getD, List.getElem?_eq_getElem hi]
      rfl
    simp only [tallboylaw27_To.l0]
    rw [if_pos (by omega), if_pos (by omega), if_pos (by rw [List.length_map, List.length_take]; omega), wrap_at i (by omega), ← e]
    exact ih
theorem to_eq (o : Int) (key : ByteArray) (sz : Int) (l : List S59) (hl : l.length ≤ 200) (k : Nat) (hk : 210 ≤ k) : tallboylaw27_To.f k o key sz l = some (o, key, sz, l.map conv) :=
  to_l0 o key sz l hl l.length k 0 (by omega) (by omega)
theorem great_l0 (o : Int) (key : ByteArray) (sz : Int) (l : List S59) (hl : l.length ≤ 100) : ∀ (n k i : Nat), n + i = l.length → n < k →
    ∃ g, tallboylaw27_Great.l0 k (i : Int) o key sz l = some g ∧ (g = false → ∀ x ∈ l.drop i, x.f1.size ≤ 1000)
  | n, 0, i, _, h => absurd h (by omega)
  | 0, k + 1, i, h, _ => by
    simp only [tallboylaw27_Great.l0]
    rw [if_neg (by omega)]
    exact ⟨_, rfl, fun _ x hx => by rw [List.drop_of_length_le (by omega)] at hx; cases hx⟩
  | n + 1, k + 1, i, h, hk => by
    obtain ⟨g, hg, ih⟩ := great_l0 o key sz l hl n k (i + 1) (by omega) (by omega)
    have hi : i < l.length := by omega
    have e : rd_T59 l (i : Int) = l[i] := by
      unfold rd_T59
      rw [Int.toNat_natCast, List.getD_eq_getElem?_getD, List.getElem?_eq_getElem hi]
      rfl
    simp only [tallboylaw27_Great.l0]
    rw [if_pos (by omega), if_pos (by omega), wrap_at i (by omega), e]
    split
    · exact ⟨true, rfl, fun h => by cases h⟩
    · refine ⟨g, hg, fun hf x hx => ?_⟩
      rw [List.drop_eq_getElem_cons hi] at hx
      rcases List.mem_cons.1 hx with rfl | hx
      · omega
      · exact ih hf x hx
theorem great_tot (o : Int) (key : ByteArray) (sz : Int) (l : List S59) (k : Nat) (hk : 210 ≤ k) :
    ∃ g, tallboylaw27_Great.f k o key sz l = some g ∧ (g = false → l.length ≤ 100 ∧ key.size ≤ 1000 ∧ ∀ x ∈ l, x.f1.size ≤ 1000) := by
  obtain ⟨k, rfl⟩ : ∃ j, k = j + 1 := ⟨k - 1, by omega⟩
  unfold tallboylaw27_Great.f
  split
  · exact ⟨true, by simp only [tallboylaw27_Great.j0, if_true], fun h => by cases h⟩
  · by_cases h1 : (key.size : Int) > 1000
    · exact ⟨true, by rw [decide_eq_true h1]; simp only [tallboylaw27_Great.j0, if_true], fun h => by cases h⟩
    · obtain ⟨g, hg, h2⟩ := great_l0 o key sz l (by omega) l.length k 0 (by omega) (by omega)
      refine ⟨g, by rw [decide_eq_false h1]; simp only [tallboylaw27_Great.j0, Bool.false_eq_true, if_false]; exact hg, fun h => ⟨by omega, by omega, fun x hx => h2 h x (by simpa using hx)⟩⟩
end Go.Proofs.YtfboejlemnfndaaGreatDoor.XMt
end
section
namespace Go.Proofs.YtfboejlemnfndaaGreatDoor.XMt
open Go.RowKit Go.Proofs.YtfboejlemnfndaaGreatDoorW.PrintWords Go.Proofs.YtfboejlemnfndaaGreatDoorW.PrintLast Go.Proofs.YtfboejlemnfndaaGreatDoorW.PrintMore
set_option linter.unusedVariables false

theorem at_eq (a : Int) (n : Nat) (h0 : 0 < n) (hn : n ≤ 100) : ∃ i : Nat, i < n ∧ wrap64 (Int.tmod (IntKind.u64.wrap a) (n : Int)) = (i : Int) := by
  have h1 : (0 : Int) ≤ IntKind.u64.wrap a := by rw [IntKind.wrap_u64]; omega
  have h2 : (0 : Int) ≤ IntKind.u64.wrap a % (n : Int) := Int.emod_nonneg _ (by omega)
  have h3 : IntKind.u64.wrap a % (n : Int) < (n : Int) := Int.emod_lt_of_pos _ (by omega)
  refine ⟨(IntKind.u64.wrap a % (n : Int)).toNat, by omega, ?_⟩
  rw [Int.tmod_eq_emod_of_nonneg h1]
  unfold wrap64
  omega
theorem len_wrap (n : Nat) (hn : n ≤ 100) : IntKind.u64.wrap (n : Int) = (n : Int) := by rw [IntKind.wrap_u64]; omega
theorem has_append (a b : List S61) (c : Int) : has (a ++ b) c = (has a c || has b c) := by unfold has; rw [List.any_append]
theorem has_mem {l : List S61} {f : S61} (h : f ∈ l) (c : Int) (e : f.f0 = c) : has l c = true := List.any_eq_true.2 ⟨f, h, by simpa using e⟩
section
variable {o : Int} {key : ByteArray} {sz : Int} {L : List S61} {k : Nat}
theorem check_zero (h : meta_Check.f k o key sz L = some 0) : meta_shape.f k o key sz L = some 0 ∧ sz ≤ 2000 := by
  unfold meta_Check.f at h
  cases hs : meta_shape.f k o key sz L with
  | none => rw [hs] at h; cases h
  | some t =>
    rw [hs] at h
    simp only [Option.bind_some] at h
    split at h
    · rename_i ht
      subst ht
      split at h
      · simp at h
      · exact ⟨rfl, by omega⟩
    · rename_i ht
      injection h with h
      exact absurd h ht
theorem check_of {t : Int} (h : meta_shape.f k o key sz L = some t) (hz : sz ≤ 2000) : meta_Check.f k o key sz L = some t := by
  unfold meta_Check.f
  rw [h]
  simp only [Option.bind_some]
  split
  · rename_i ht
    subst ht
    rw [if_neg (by omega)]
  · rfl
theorem twice {f : S61} (hf : f ∈ L) (hs : meta_shape.f k o key sz L = some 0) (hz : sz ≤ 2000) : meta_Check.f k o key sz (L ++ [f]) = some 4 := by
  obtain ⟨ho, hkb, hc, hgo⟩ := shape_zero hs
  have e : has (L ++ [f]) 98 = has L 98 := by
    rw [has_append]
    cases hb : has [f] 98 with
    | false => rw [Bool.or_false]
    | true =>
      have : f.f0 = 98 := by
        obtain ⟨x, hx, hx'⟩ := List.any_eq_true.1 hb
        obtain rfl := List.mem_singleton.1 hx
        simpa using hx'
      rw [has_mem hf 98 this]
      rfl
  refine check_of ?_ hz
  rw [shape_is ho (y := true) (by rw [e]; exact hkb) hc, if_pos rfl]
  exact go_twice (go_owned hgo f hf) (.inr ⟨f, hf, rfl⟩) hgo
theorem less {f : S61} {a b : List S61} (hk : 1010 ≤ k) (hks : key.size ≤ 1000) (hs : meta_shape.f k o key sz (a ++ f :: b) = some 0) (hz : sz ≤ 2000) :
    ∃ e, meta_Check.f k o key sz (a ++ b) = some e ∧ (e = 0 ∨ (f.f0 = 98 ∧ e = 6)) := by
  obtain ⟨ho, hkb, hc, hgo⟩ := shape_zero hs
  have hl := go_less hgo
  by_cases h98 : f.f0 = 98
  · obtain ⟨y, hy⟩ := keyB_tot k o key (has (a ++ b) 98) hks hk
    cases y with
    | true => exact ⟨0, check_of (by rw [shape_is ho hy hc, if_pos rfl]; exact hl) hz, .inl rfl⟩
    | false => exact ⟨6, check_of (by rw [shape_is ho hy hc]; rfl) hz, .inr ⟨h98, rfl⟩⟩
  · have e : has (a ++ b) 98 = has (a ++ f :: b) 98 := by
      rw [has_append, has_append]
      congr 1
      show has b 98 = ((f.f0 == 98) || has b 98)
      rw [beq_eq_false_iff_ne.2 h98, Bool.false_or]
    exact ⟨0, check_of (by rw [shape_is ho (y := true) (by rw [e]; exact hkb) hc, if_pos rfl]; exact hl) hz, .inl rfl⟩
end
theorem j_true (o : Int) (key : ByteArray) (sz : Int) (l : List S59) (a : Int) : tallboylaw27_MetaTwice.j0 3000 a true o key sz l = some true := by
  simp only [tallboylaw27_MetaTwice.j0, if_true]
theorem law_true (o : Int) (key : ByteArray) (sz : Int) (l : List S59) (a : Int) : tallboylaw27_MetaTwice.f 3000 o key sz l a = some true := by
  obtain ⟨g, hg, hG⟩ := great_tot o key sz l 3000 (by omega)
  unfold tallboylaw27_MetaTwice.f
  rw [show tallboylaw27_works.f = some true from rfl, hg]
  simp only [Option.bind_some, if_true]
  cases g with
  | true => simp only [if_true]; exact j_true o key sz l a
  | false =>
    obtain ⟨hl, hks, hts⟩ := hG rfl
    simp only [Bool.false_eq_true, if_false]
    split
    · exact j_true o key sz l a
    · rename_i h0
      have hm : ∀ x ∈ l.map conv, x.f1.size ≤ 1000 := fun x hx => by
        obtain ⟨y, hy, rfl⟩ := List.mem_map.1 hx
        exact hts y hy
      rw [to_eq o key sz l (by omega) 3000 (by omega)]
      obtain ⟨t, ht⟩ := check_tot 3000 o key sz (l.map conv) hks hm (by omega)
      simp only [Option.bind_some, ht]
      by_cases ht0 : t = 0
      · subst ht0
        obtain ⟨hs3, hz⟩ := check_zero ht
        obtain ⟨t', ht'⟩ := shape_tot 2999 o key sz (l.map conv) hks hm (by omega)
        have e0 : t' = 0 := by
          have := meta_shape.mono o key sz (l.map conv) 2999 _ ht'
          rw [hs3] at this
          exact (Option.some.inj this).symm
        subst e0
        obtain ⟨i, hi, hat⟩ := at_eq a l.length (by omega) hl
        have hrd : rd_T59 l (i : Int) = l[i] := by
          unfold rd_T59
          rw [Int.toNat_natCast, List.getD_eq_getElem?_getD, List.getElem?_eq_getElem hi]
          rfl
        have hsp : l.map conv = (l.take i).map conv ++ conv l[i] :: (l.drop (i + 1)).map conv := by
          rw [← List.map_cons, ← List.map_append, ← List.drop_eq_getElem_cons hi, List.take_append_drop]
        have hx : meta_Check.f 2999 o key sz ((l ++ [(⟨(l[i]).f0, (l[i]).f1⟩ : S59)]).map conv) = some 4 := by
          rw [List.map_append]
          exact twice (List.mem_map.2 ⟨l[i], List.getElem_mem hi, rfl⟩) ht' hz
        rw [hsp] at ht'
        obtain ⟨e, he, he2⟩ := less (by omega) hks ht' hz
        rw [← List.map_append] at he
        simp only [tallboylaw27_MetaTwice.j0, len_wrap l.length hl, hat, Option.bind_some, wrap_at i (by omega), Int.toNat_natCast, List.nil_append, hrd]
        rw [show ((0 : Int) != 0) = false from rfl, if_neg (by decide), if_neg h0, if_pos (by simp; omega), if_pos (by omega), if_pos (by omega), if_pos (by simp; omega), if_pos (by omega), if_pos (by simp; omega), if_pos (by omega), if_pos (by omega), if_pos (by simp; omega)]
        rw [to_eq o key sz _ (by simp; omega) 2999 (by omega), to_eq o key sz _ (by simp; omega) 2999 (by omega)]
        simp only [Option.bind_some, he, hx, if_true]
        rcases he2 with rfl | ⟨h98, rfl⟩
        · rw [if_pos rfl]
        · rw [if_neg (by decide), if_pos (show (l[i]).f0 = 98 from h98)]
          rfl
      · rw [show (t != 0) = true from bne_iff_ne.2 ht0]
        exact j_true o key sz l a
end Go.Proofs.YtfboejlemnfndaaGreatDoor.XMt
end
section
namespace Go.Proofs.YtfboejlemnfndaaGreatDoor
open Go.RowKit Go.Proofs.YtfboejlemnfndaaGreatDoorW.PrintWords

def Opens (P : Program) (t : TypeId) {α : Type} (d : Kd α) (Q : α → Prop) : Prop :=
  ∀ (H : Type) (enc : TypeId × Value → H) (w : World) (base : Nat) (spare : Nat → Bool) (held : Bool) (fuel : Nat) (cs : List Value) (x : DataW H × List MemPlace),
    DataW.trod enc P w base spare held fuel t cs = some x → ∃ v, d.K w v cs ∧ Q v
def OpensAt (P : Program) (fs : List Field) (off : Nat) {α : Type} (d : Kd α) (Q : α → Prop) : Prop :=
  ∀ (H : Type) (enc : TypeId × Value → H) (w : World) (base : Nat) (spare : Nat → Bool) (held : Bool) (n : Nat) (cs : List Value), cs.length = off + d.sz →
    (∀ f ∈ fs, ∃ x, DataW.trod enc P w base spare held n f.type ((cs.drop f.offset).take (P.cellsOf f.type)) = some x) → ∃ v, d.K w v (cs.drop off) ∧ Q v
section
variable {P : Program} {t e : TypeId} {α β : Type} {d : Kd α} {d0 : Kd α} {d1 : Kd β} {Q : α → Prop} {Q1 : β → Prop}
theorem opens_int {k : IntKind} (ht : P.underlying t = some (.int k)) : Opens P t (Kd.int k) (fun n => (Lit.int k n).wf = true) := by
  intro H enc w base spare held fuel cs x h
  obtain ⟨n, rfl, _, hw⟩ := DataW.trod_int ht h
  exact ⟨n, rfl, hw⟩
theorem opens_bool (ht : P.underlying t = some .bool) : Opens P t Kd.bool (fun _ => True) := by
  intro H enc w base spare held fuel cs x h
  obtain ⟨n, rfl, _⟩ := DataW.trod_bool ht h
  exact ⟨n, rfl, trivial⟩
theorem opens_string (ht : P.underlying t = some .string) : Opens P t Kd.string (fun s => s.size ≤ maxLen) := by
  intro H enc w base spare held fuel cs x h
  obtain ⟨s, rfl, _, hs⟩ := DataW.trod_string ht h
  exact ⟨s, rfl, hs⟩
theorem opens_iso {γ : Type} (h : Opens P t d Q) (f : γ → α) (g : α → γ) (hg : ∀ a, f (g a) = a) : Opens P t (Kd.iso d f) (fun b => Q (f b)) := by
  intro H enc w base spare held fuel cs x hx
  obtain ⟨v, hv, hq⟩ := h H enc w base spare held fuel cs x hx
  exact ⟨g v, (show d.K w (f (g v)) cs by rw [hg]; exact hv), show Q (f (g v)) by rw [hg]; exact hq⟩
theorem opensAt_one {f : Field} {off : Nat} (ho : f.offset = off) (hc : P.cellsOf f.type = d.sz) (h : Opens P f.type d Q) : OpensAt P [f] off d Q := by
  intro H enc w base spare held n cs hl hf
  obtain ⟨x, hx⟩ := hf f List.mem_cons_self
  rw [ho, hc, List.take_of_length_le (by rw [List.length_drop]; omega)] at hx
  exact h H enc w base spare held n _ x hx
theorem opensAt_cons {f : Field} {fs : List Field} {off : Nat} (ho : f.offset = off) (hc : P.cellsOf f.type = d0.sz) (h0 : Opens P f.type d0 Q) (h1 : OpensAt P fs (off + d0.sz) d1 Q1) :
    OpensAt P (f :: fs) off (Kd.pair d0 d1) (fun v => Q v.1 ∧ Q1 v.2) := by
  intro H enc w base spare held n cs hl hf
  have hsz : (Kd.pair d0 d1).sz = d0.sz + d1.sz := rfl
  obtain ⟨x, hx⟩ := hf f List.mem_cons_self
  rw [ho, hc] at hx
  obtain ⟨a, ha, hq⟩ := h0 H enc w base spare held n _ x hx
  obtain ⟨b, hb, hq1⟩ := h1 H enc w base spare held n cs (by omega) (fun g hg => hf g (List.mem_cons_of_mem _ hg))
  refine ⟨(a, b), ⟨_, _, ?_, ha, hb⟩, hq, hq1⟩
  rw [← List.drop_drop]
  exact (List.take_append_drop _ _).symm
theorem opens_struct {fs : List Field} (ht : P.underlying t = some (.struct fs.toArray)) (hc : P.cellsOf t = d.sz) (h : OpensAt P fs 0 d Q) : Opens P t d Q := by
  intro H enc w base spare held fuel cs x hx
  obtain ⟨xs, n, _, _, hl, hlen, hf⟩ := DataW.trod_struct ht hx
  have := h H enc w base spare held n cs (by omega) (by
    intro f hm
    obtain ⟨i, hi, rfl⟩ := List.mem_iff_getElem.1 hm
    have e := hf i fs[i] (by rw [List.getElem?_toArray, List.getElem?_eq_getElem hi])
    rw [List.size_toArray] at hlen
    rw [List.getElem?_eq_getElem (by omega)] at e
    exact ⟨_, e⟩)
  simpa using this
theorem list_of {R : Nat → α → Prop} : ∀ n : Nat, (∀ i, i < n → ∃ v, R i v) → ∃ xs : List α, xs.length = n ∧ ∀ i v, xs[i]? = some v → R i v
  | 0, _ => ⟨[], rfl, fun i v h => by simp at h⟩
  | n + 1, h => by
    obtain ⟨xs, hl, hx⟩ := list_of n fun i hi => h i (by omega)
    obtain ⟨v, hv⟩ := h n (by omega)
    refine ⟨xs ++ [v], by rw [List.length_append, hl]; rfl, fun i u hu => ?_⟩
    rcases Nat.lt_or_ge i xs.length with hi | hi
    · rw [List.getElem?_append_left hi] at hu; exact hx i u hu
    · rw [List.getElem?_append_right hi] at hu
      rcases Nat.eq_zero_or_pos (i - xs.length) with h0 | h0
      · rw [h0] at hu
        obtain rfl : v = u := by simpa using hu
        rw [show i = n from by omega]; exact hv
      · rw [List.getElem?_eq_none (by simp; omega)] at hu; cases hu
theorem opens_slice (ht : P.underlying t = some (.slice e)) (hc : P.cellsOf e = d.sz) (h : Opens P e d Q) : Opens P t (Kd.slice e d) (fun xs => (∀ x ∈ xs, Q x) ∧ xs.length ≤ maxLen) := by
  intro H enc w base spare held fuel cs x hx
  rcases DataW.trod_slice ht hx with ⟨rfl, _⟩ | ⟨a, len, cap, elems, rest, n, _, rfl, rfl, hb, hl, hm, hlen, hel, _, _⟩
  · exact ⟨[], ⟨none, 0, rfl, Nat.le_refl _, rfl, Nat.zero_le _, fun h => absurd h (Nat.lt_irrefl 0)⟩, fun x hx => absurd hx List.not_mem_nil, Nat.zero_le _⟩
  · obtain ⟨xs, hxl, hxs⟩ := list_of (R := fun i v => (∃ c : List Value, c.length = d.sz ∧ d.K w v c ∧ ∀ j u, c[j]? = some u → w.cell? (a.add (i * d.sz + j)) = some u) ∧ Q v) len (by
      intro i hi
      have e1 := hel i hi
      rw [List.getElem?_eq_getElem (by omega)] at e1
      obtain ⟨c, hcs, hcd⟩ := Option.bind_eq_some_iff.1 e1
      obtain ⟨v, hv, hq⟩ := h H enc w base spare held n c _ hcd
      obtain ⟨q1, q2, q3⟩ := World.cells?_some hcs
      refine ⟨v, ⟨c, by rw [← hc]; exact q2, hv, fun j u hu => ?_⟩, hq⟩
      have hj : j < P.cellsOf e := by
        rcases Nat.lt_or_ge j c.length with h' | h'
        · omega
        · rw [List.getElem?_eq_none h'] at hu; cases hu
      have := q3 j hj
      rw [Addr.add_add, hc] at this
      rw [this, hu])
    refine ⟨xs, ⟨some a, cap, by rw [hxl], by omega, rfl, by rw [hxl]; unfold maxLen at hm; omega, fun _ => ⟨a, rfl, fun j p hp => (hxs j p hp).1⟩⟩, fun x hx => ?_, by omega⟩
    obtain ⟨i, hi, rfl⟩ := List.mem_iff_getElem.1 hx
    exact (hxs i _ (List.getElem?_eq_getElem hi)).2
end
end Go.Proofs.YtfboejlemnfndaaGreatDoor
end
section
namespace Go.Proofs.YtfboejlemnfndaaGreatDoor.metaTwice
open Go.ChangeShapes Go.WideShapes Go.ChangeAt Go.RowKit
open Go.ChangeMaps (open_string shut_string)

theorem own : ownKnob Tryz.prog.godebug = none := by kernel_rfl
theorem laid_met (os : Os) (args : Array Value) : laidMetH Tryz.prog Rows.metaTwiceRow.laid ((World.laidAll Tryz.prog os Rows.metaTwiceRow.laid).forCall (fun _ _ => 0) ⟨#[], args, []⟩).memory := by
  rw [MakeChecks.laidMetH_plain _ _ _ (by kernel_rfl)]
  exact laidMet_laidAll _ (by kernel_rfl) (by kernel_rfl)
theorem shaped (os : Os) (args : Array Value) : ((World.laidAll Tryz.prog os Rows.metaTwiceRow.laid).forCall (fun _ _ => 0) ⟨#[], args, []⟩).Shaped Tryz.prog :=
  World.shaped_of_ZipB (by kernel_rfl) (by kernel_rfl)

theorem laidOut : laidOutB Tryz.prog = true := by kernel_rfl
theorem star : "*" ++ "errors.errorString" = "*errors.errorString" := by decide
theorem star_row (u : TypeId) (h : Tryz.prog.typeName? 3 u = some "*errors.errorString") : u = 161 :=
  typeName_ptr_named (nm := "errors.errorString") (by rw [star]; kernel_rfl) (by kernel_rfl) (by decide) u (by rw [star]; exact h)
theorem vars_of {W : World} (h : laidMetH Tryz.prog Rows.metaTwiceRow.laid W) (hsh : W.ShapedOpen Tryz.prog) : Vars W := by
  rw [MakeChecks.laidMetH_plain _ _ _ (by kernel_rfl)] at h
  obtain ⟨a0, s0, h0, -, -, -⟩ := laid_sentinel h.tail.tail.tail.tail gRange (ti := 95) (by kernel_rfl) Tryz.underlying95 star_row Tryz.underlying161 Tryz.underlying163 rfl rfl Tryz.underlying9 (by kernel_rfl) (by kernel_rfl)
  obtain ⟨a1, s1, h1, -, -, -⟩ := laid_sentinel h.tail.tail.tail.tail.tail gSyntax (ti := 95) (by kernel_rfl) Tryz.underlying95 star_row Tryz.underlying161 Tryz.underlying163 rfl rfl Tryz.underlying9 (by kernel_rfl) (by kernel_rfl)
  exact ⟨trivial, Lib.tabIs_of_head gPow (by kernel_rfl) Tryz.underlying153 Tryz.underlying34 (by kernel_rfl) (by kernel_rfl) h.tail.tail,
    cell_of_shapedOpen_int (P := Tryz.prog) (g := 1) (t := 3) (zero := #[.int .i64 0]) hsh (of_decide_eq_true (by kernel_rfl)) (by kernel_rfl) rfl (by kernel_rfl) (by kernel_rfl) Tryz.underlying3, ⟨_, _, h1⟩, ⟨_, _, h0⟩⟩
open Go.Proofs.YtfboejlemnfndaaGreatDoorW.PrintWords in
theorem opens_arg : Opens Tryz.prog 24 (Kd.pair (Kd.int .i64) (Kd.pair Kd.string (Kd.pair (Kd.int .i64) (Kd.slice 59 XMt.k59)))) (fun _ => True) := by
  intro H enc w base spare held fuel cs x hx
  have hF : Opens Tryz.prog 59 XMt.k59 _ := opens_iso (opens_struct Tryz.underlying59 (by kernel_rfl) (opensAt_cons rfl (by kernel_rfl) (opens_int Tryz.underlying5) (opensAt_one rfl (by kernel_rfl) (opens_string Tryz.underlying9)))) _ (fun a => ⟨a.1, a.2⟩) (fun _ => rfl)
  obtain ⟨v, hv, _⟩ := opens_struct Tryz.underlying24 (by kernel_rfl) (opensAt_cons rfl (by kernel_rfl) (opens_int Tryz.underlying3) (opensAt_cons rfl (by kernel_rfl) (opens_string Tryz.underlying9) (opensAt_cons rfl (by kernel_rfl) (opens_int Tryz.underlying3) (opensAt_one rfl (by kernel_rfl) (opens_slice Tryz.underlying22 (by kernel_rfl) hF))))) H enc w base spare held fuel cs x hx
  exact ⟨v, hv, trivial⟩
set_option maxRecDepth 100000 in
theorem lifted (os : Os) (started : os.Started) (H : Type) (enc : TypeId × Value → H) (F : Stop.Interp) :
    ReturnsInHanded {} Tryz.checked os 7 .any ((OpenSpec.ofChange Rows.metaTwiceSpec).preRow enc Tryz.prog Tryz.f7 Rows.metaTwiceRow.domain false Rows.metaTwiceRow.laid) (((OpenSpec.ofChange Rows.metaTwiceSpec).at F).post enc Tryz.prog Tryz.f7 false true false false) := by
  refine returnsInHanded_of_row (C := Tryz.checked) (s := OpenSpec.ofChange Rows.metaTwiceSpec) own started (by kernel_rfl) Tryz.func7
    (ChangeSpec.witness_shaped (enc := enc) (C := Tryz.checked) (os := os) (s := Rows.metaTwiceSpec) (X := fun w _ => laidMetH Tryz.prog Rows.metaTwiceRow.laid w) false (World.laidAll Tryz.prog os Rows.metaTwiceRow.laid) #[.agg #[.int .i64 0, .string ByteArray.empty, .int .i64 0, .slice none 0 0], .int .i64 0] 8 (World.laidAll_os _ _ _)
      (shaped os _) (by kernel_rfl) (by kernel_rfl) (by kernel_rfl) (laid_met os _)) ?_
  intro W base args ds gs before hval0 hW _ _ hsz0 hL hsh _
  have hsz : (DataW.weightsEach Tryz.prog (Tryz.f7.params.toList ++ Rows.metaTwiceSpec.plain.varTypes Tryz.prog) (ds ++ gs)).all (· ≤ reachBytes) = true := hsz0
  have hval : ∀ (j : Nat) t v, Tryz.f7.params[j]? = some t → args[j]? = some v → Value.okWide Tryz.prog W .any base t v := hval0
  have hW' := hW
  obtain ⟨p, q, hA0, hV, rfl, hfz, hnd⟩ := hW
  have hA : DataW.TrodAll enc Tryz.prog W 0 (fun _ => true) true Tryz.f7.params.toList args.toList ds p := hA0
  rw [Tryz.params7] at hA hval hsz
  obtain ⟨v0, vs0, d0, ds0, p0, q0, hargs, rfl, rfl, h0, r0⟩ := trodAll_cons hA
  obtain ⟨v1, vs1, d1, ds1, p1, q1, rfl, rfl, rfl, h1, r1⟩ := trodAll_cons r0
  obtain ⟨rfl, rfl, rfl⟩ := trodAll_nil r1
  obtain rfl : args = #[v0, v1] := by cases args; simp_all
  obtain ⟨rfl, rfl⟩ := trodVars_none hV
  have k0 := h0
  have k1 := h1
  have lt0 : ∀ x ∈ p0, x.block < W.heap.size := by obtain ⟨m, hm⟩ := k0; exact DataW.trod_lt m _ _ _ hm
  have lt1 : ∀ x ∈ p1, x.block < W.heap.size := by obtain ⟨m, hm⟩ := k1; exact DataW.trod_lt m _ _ _ hm
  obtain ⟨cs, rfl, _⟩ := okWide_struct Tryz.underlying24 (hval 0 24 v0 rfl rfl)
  obtain ⟨at_, rfl, rfl, rfl, -⟩ := open_int Tryz.underlying3 (hval 1 3 v1 rfl rfl) h1
  obtain ⟨fuel, hf⟩ := h0
  obtain ⟨⟨o, key, sz, l⟩, hK, -⟩ := opens_arg H enc W 0 _ true fuel _ _ hf
  obtain ⟨c0, c1, e0, rfl, c2, c3, rfl, rfl, c4, c5, rfl, rfl, A, c, rfl, hc, hC⟩ := hK
  have ecs : cs = #[.int .i64 o, .string key, .int .i64 sz, .slice A l.length c] := Array.toList_inj.1 e0
  subst ecs
  clear hA0 hval0 hsz0 hsz hf e0
  have hv : Vars W := vars_of hL hsh
  refine (XMt.tallboylaw27_MetaTwice.calls 3000 o key sz A c l at_ true W hC hc hv (XMt.law_true o key sz l at_)).mono fun e W' ⟨he, bel⟩ => ?_
  subst he
  exact ⟨_, rfl, _, _, _, [], _, [], hW', trodAll_mk1 (shut_bool Tryz.underlying4 _), (trodAll_cons_mk (Below.trod laidOut (by kernel_rfl) (of_decide_eq_true (by kernel_rfl)) k0 bel lt0) (trodAll_cons_mk (Below.trod laidOut (by kernel_rfl) (of_decide_eq_true (by kernel_rfl)) k1 bel lt1) trodAll_mk0)), rfl, bel.frame _, fun h => by cases h⟩

theorem said : Rows.MetaTwiceSaid :=
  OpenClaim.holds_of_cond 7 Tryz.f7 rfl rfl rfl rfl rfl rfl rfl ⟨rfl, rfl, rfl, rfl, rfl⟩ rfl rfl rfl rfl rfl (by kernel_rfl) Tryz.func7 (by kernel_rfl)
    (of_decide_eq_true (by kernel_rfl)) (by unfold Func.isWrapper; first | (rw [if_pos (by decide +kernel)]; kernel_rfl) | (rw [if_neg (by decide +kernel)]; exact ⟨rfl, rfl⟩))
    (fun os started H enc _ F => by rw [OpenClaim.pre_eq_preRow]; exact lifted os started H enc F)

theorem plain (f : FuncId) (fn : Func) (hf : Tryz.pinned.checked.prog.funcNamed "tallboy/tallboylaw27.MetaTwice" = some f) (hfn : Tryz.pinned.checked.prog.funcs[f]? = some fn) :
    true = Tryz.pinned.checked.prog.looks [] ∧ ∀ (j : Nat) t, fn.params[j]? = some t → Tryz.pinned.checked.prog.wantsStandIn t = false := by
  obtain rfl : f = 7 := Option.some.inj ((show Tryz.prog.funcNamed "tallboy/tallboylaw27.MetaTwice" = some 7 by kernel_rfl).symm.trans hf) |>.symm
  obtain rfl : fn = Tryz.f7 := (Option.some.inj (Tryz.func7.symm.trans hfn)).symm
  refine ⟨by kernel_rfl, fun j t ht => ?_⟩
  rw [Tryz.params7] at ht
  have hm := Array.mem_of_getElem? ht
  have hall : (Tryz.f7.params.toList.all fun u => !Tryz.prog.wantsStandIn u) = true := by kernel_rfl
  rw [Tryz.params7] at hall
  exact (show Tryz.prog.wantsStandIn t = false by simpa using List.all_eq_true.1 hall t (by simpa using hm))

theorem card : Rows.MetaTwiceCardSaid :=
  Claim7.holds_tied_plain_at .later [] _ _ _ _ said (fun _ h => by cases h) (by kernel_rfl) (fun _ h => by cases h) metaTwice_row_tie rfl ⟨rfl, rfl⟩ (by kernel_rfl) rfl plain (by kernel_rfl)
end Go.Proofs.YtfboejlemnfndaaGreatDoor.metaTwice
namespace Go.Proofs.YtfboejlemnfndaaGreatDoor
theorem metaTwice_card : Rows.MetaTwiceCardSaid := metaTwice.card
#print axioms metaTwice_card
end Go.Proofs.YtfboejlemnfndaaGreatDoor
end
