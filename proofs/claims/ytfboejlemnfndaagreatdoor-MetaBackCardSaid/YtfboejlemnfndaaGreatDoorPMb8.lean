/- Put together by wip/pack.py (this session's own program) out of this session's texts; a kit's tool laid the words and the shelf, of which only what is used stands here. Lean checks it. -/
import Derived.Test.YtfboejlemnfndaaGreatDoorPMb7
import Derived.Test.YtfboejlemnfndaaGreatDoorProg
import Derived.Lib.Split
import Derived.Lib.Join
import Derived.Lib.ItoaNum
import Derived.Lib.ParseIntB
import Derived.Lib.IndexBytes
import Derived.OpenShut
import Derived.ChangeArms
import Derived.DataReads
import Derived.DataElems
import Derived.Test.YtfboejlemnfndaaGreatDoorCards
import Derived.Test.YtfboejlemnfndaaGreatDoorTie
import Derived.WalkKit
import Derived.ProofKit
import Derived.ShutString
import Derived.ChangeOld
import Derived.Below
import Derived.SizedLaws
import Derived.LaidMore
import Derived.Lay
import Derived.SevenTiedAt
import Derived.Stop.Joined
import Derived.Deep.DeepHandedRow
import Derived.Shelf.Vars
import Derived.Stop.LaidErr
section
namespace Go.Proofs.YtfboejlemnfndaaGreatDoor.XMb
open Go.RowKit Go.Proofs.YtfboejlemnfndaaGreatDoorW.PrintWords Go.Proofs.YtfboejlemnfndaaGreatDoorW.PrintLast Go.Proofs.YtfboejlemnfndaaGreatDoorW.PrintMore
attribute [local go_sem] extract_sub max2_int min2_int max_two min_two max_three min_three max_four min_four   -- for this text's walks alone
set_option linter.unusedVariables false
set_option linter.unusedSimpArgs false

noncomputable section
end
end Go.Proofs.YtfboejlemnfndaaGreatDoor.XMb
end
section
namespace Go.Proofs.YtfboejlemnfndaaGreatDoor.XMb
open Go.RowKit Go.Proofs.YtfboejlemnfndaaGreatDoorW.PrintWords Go.Proofs.YtfboejlemnfndaaGreatDoorW.PrintLast Go.Proofs.YtfboejlemnfndaaGreatDoorW.PrintMore
set_option linter.unusedVariables false
set_option linter.unusedSimpArgs false

theorem wrap_at (i : Nat) (h : i < 4611686018427387904) : wrap64 ((i : Int) + 1) = ((i + 1 : Nat) : Int) := by unfold wrap64; omega
theorem key_l0 (s : ByteArray) (hs : s.size ≤ 1000) : ∀ (n k i : Nat), n + i = s.size → n < k → ∃ b, fnv_Key.l0 k s (s.size : Int) (i : Int) = some b
  | n, 0, i, _, h => absurd h (by omega)
  | 0, k + 1, i, h, _ => ⟨true, by simp only [fnv_Key.l0]; rw [if_neg (by omega)]⟩
  | n + 1, k + 1, i, h, hk => by
    obtain ⟨b, hb⟩ := key_l0 s hs n k (i + 1) (by omega) (by omega)
    simp only [fnv_Key.l0]
    rw [if_pos (by omega), if_pos (by omega), if_pos (by omega), wrap_at i (by omega), hb]
    split
    · exact ⟨_, rfl⟩
    · split
      · exact ⟨_, rfl⟩
      · exact ⟨_, rfl⟩
theorem key_tot (s : ByteArray) (hs : s.size ≤ 1000) (k : Nat) (hk : 1010 ≤ k) : ∃ b, fnv_Key.f k s = some b := by
  obtain ⟨k, rfl⟩ : ∃ j, k = j + 1 := ⟨k - 1, by omega⟩
  have h0 : ∀ x, ∃ b, fnv_Key.j0 (k + 1) s x = some b := by
    intro x
    cases x
    · obtain ⟨b, hb⟩ := key_l0 s hs s.size k 0 (by omega) (by omega)
      exact ⟨b, by simp only [fnv_Key.j0, Bool.false_eq_true, if_false]; exact hb⟩
    · exact ⟨false, by simp only [fnv_Key.j0, if_true]⟩
  unfold fnv_Key.f
  split
  · exact h0 _
  · exact h0 _
theorem sort_tot (x : Int) (k : Nat) (hk : 10 ≤ k) : ∃ t, meta_sortOf.f k x = some t := by
  obtain ⟨k, rfl⟩ : ∃ j, k = j + 2 := ⟨k - 2, by omega⟩
  have h1 : ∀ y, ∃ t, meta_sortOf.j1 (k + 1) x y = some t := by
    intro y
    simp only [meta_sortOf.j1]
    repeat' split
    all_goals exact ⟨_, rfl⟩
  have h0 : ∀ y, ∃ t, meta_sortOf.j0 (k + 2) x y = some t := by
    intro y
    simp only [meta_sortOf.j0]
    repeat' split
    all_goals first | exact h1 _ | exact ⟨_, rfl⟩
  unfold meta_sortOf.f
  repeat' split
  all_goals exact h0 _
theorem parse_tot (s : ByteArray) (hs : s.size ≤ 1000) : digits_Parse.f s = some (digits_Parse.val s.data.toList) := by
  unfold digits_Parse.f
  rw [if_pos (by omega)]
theorem cut_tot (s : ByteArray) (hs : s.size ≤ 1000) : ∃ r b, strings_CutPrefix.f s ⟨#[45]⟩ = some (r, b) ∧ r.size ≤ 1000 := by
  have hp : ∃ b, stringslite_HasPrefix.f s ⟨#[45]⟩ = some b ∧ (b = true → 1 ≤ s.size) := by
    unfold stringslite_HasPrefix.f
    rw [show ((⟨#[45]⟩ : ByteArray).size : Int) = 1 from rfl]
    split
    · rw [if_pos (by omega)]
      exact ⟨_, rfl, fun _ => by omega⟩
    · exact ⟨_, rfl, fun h => absurd h (by decide)⟩
  obtain ⟨b, hb, h1⟩ := hp
  unfold strings_CutPrefix.f stringslite_CutPrefix.f
  rw [hb]
  simp only [Option.bind_some]
  cases b
  · exact ⟨s, false, rfl, hs⟩
  · have := h1 rfl
    rw [if_pos rfl, if_pos (by decide), if_pos (by rw [show ((⟨#[45]⟩ : ByteArray).size : Int) = 1 from rfl]; omega)]
    refine ⟨_, _, rfl, ?_⟩
    show (s.extract _ _).size ≤ 1000
    rw [ByteArray.size_extract]
    omega
theorem signed_tot (s : ByteArray) (hs : s.size ≤ 1000) (k : Nat) (hk : 10 ≤ k) : ∃ a b, digits_Signed.f k s = some (a, b) := by
  obtain ⟨k, rfl⟩ : ∃ j, k = j + 1 := ⟨k - 1, by omega⟩
  obtain ⟨r, b, hb, hr⟩ := cut_tot s hs
  unfold digits_Signed.f
  rw [hb]
  simp only [Option.bind_some, parse_tot r hr]
  repeat' split
  all_goals first
    | exact ⟨_, _, rfl⟩
    | (simp only [digits_Signed.j0]
       repeat' split
       all_goals exact ⟨_, _, rfl⟩)
theorem right_tot (op x : Int) (s : ByteArray) (hs : s.size ≤ 1000) (k : Nat) (hk : 1010 ≤ k) : ∃ b, meta_right.f k op x s = some b := by
  obtain ⟨t, ht⟩ := sort_tot x k (by omega)
  obtain ⟨a, b, hab⟩ := signed_tot s hs k (by omega)
  obtain ⟨y, hy⟩ := key_tot s hs k hk
  have hm : ∃ m, meta_modes.f op = some m ∧ m.size ≤ 5 := by
    unfold meta_modes.f
    split
    · exact ⟨_, rfl, by decide⟩
    · exact ⟨_, rfl, by decide⟩
  obtain ⟨m, hm, hm5⟩ := hm
  have hc : strings_Contains.f m s = some (Lib.contains m.data.toList s.data.toList) := by
    unfold strings_Contains.f
    rw [if_pos (by omega)]
  unfold meta_right.f
  rw [ht]
  simp only [Option.bind_some, parse_tot s hs, hab, hy, hm, hc]
  repeat' split
  all_goals exact ⟨_, rfl⟩
theorem owns_tot (op x : Int) (h : 1 ≤ op ∧ op ≤ 6) : ∃ b, meta_owns.f op x = some b := by
  unfold meta_owns.f
  rw [if_pos h]
  exact ⟨_, rfl⟩
theorem go_tot (op : Int) (h : 1 ≤ op ∧ op ≤ 6) (k : Nat) (hk : 1010 ≤ k) : ∀ (l : List S61) (seen : List Int), (∀ x ∈ l, x.f1.size ≤ 1000) → ∃ e, meta_shape.go k op l seen = some e
  | [], _, _ => ⟨0, rfl⟩
  | x :: l, seen, hs => by
    obtain ⟨b, hb⟩ := owns_tot op x.f0 h
    obtain ⟨q, hq⟩ := right_tot op x.f0 x.f1 (hs x List.mem_cons_self) k hk
    obtain ⟨e, he⟩ := go_tot op h k hk l (x.f0 :: seen) (fun y hy => hs y (List.mem_cons_of_mem _ hy))
    unfold meta_shape.go
    rw [hb, hq]
    simp only [Option.bind_some, he]
    repeat' split
    all_goals exact ⟨_, rfl⟩
def has (l : List S61) (c : Int) : Bool := l.any fun x => x.f0 == c
theorem find_eq (o : Int) (key : ByteArray) (sz : Int) (l : List S61) (c : Int) : ∃ t, meta_Find.f o key sz l c = some (t, has l c) := by
  unfold meta_Find.f
  cases h : l.find? (fun x => x.f0 == c) with
  | some x =>
    refine ⟨x.f1, ?_⟩
    have : has l c = true := List.any_eq_true.2 ⟨x, List.mem_of_find?_eq_some h, List.find?_some (p := fun x : S61 => x.f0 == c) h⟩
    rw [this]
  | none =>
    refine ⟨⟨#[]⟩, ?_⟩
    have : has l c = false := by
      unfold has
      rw [List.any_eq_false]
      intro x hx
      exact List.find?_eq_none.1 h x hx
    rw [this]
def keyB (k : Nat) (o : Int) (key : ByteArray) (b : Bool) : Option Bool :=
  if o = 5 then some (key.toList == ([] : List UInt8)) else if b = true then (if (key.size : Int) ≥ 1 then some (decide ((key.size : Int) ≤ 32)) else some false) else fnv_Key.f k key
theorem key_eq (k : Nat) (o : Int) (key : ByteArray) (sz : Int) (l : List S61) : meta_key.f k o key sz l = keyB k o key (has l 98) := by
  obtain ⟨t, ht⟩ := find_eq o key sz l 98
  unfold meta_key.f keyB
  rw [ht]
  simp only [Option.bind_some]
  split
  · rfl
  · split
    · rfl
    · cases fnv_Key.f k key <;> rfl
theorem keyB_tot (k : Nat) (o : Int) (key : ByteArray) (b : Bool) (hs : key.size ≤ 1000) (hk : 1010 ≤ k) : ∃ y, keyB k o key b = some y := by
  obtain ⟨y, hy⟩ := key_tot key hs k hk
  unfold keyB
  rw [hy]
  repeat' split
  all_goals exact ⟨_, rfl⟩
theorem there_eq (o : Int) : meta_there.f o = some (decide (1 ≤ o ∧ o ≤ 6)) := by
  unfold meta_there.f
  split
  · congr 1
    rw [decide_eq_decide]
    omega
  · congr 1
    rw [eq_comm, decide_eq_false_iff_not]
    omega
theorem shape_tot (k : Nat) (o : Int) (key : ByteArray) (sz : Int) (l : List S61) (hs : key.size ≤ 1000) (hl : ∀ x ∈ l, x.f1.size ≤ 1000) (hk : 1010 ≤ k) : ∃ e, meta_shape.f k o key sz l = some e := by
  obtain ⟨y, hy⟩ := keyB_tot k o key (has l 98) hs hk
  unfold meta_shape.f
  rw [there_eq, key_eq, hy]
  simp only [Option.bind_some, decide_eq_true_eq]
  split
  · obtain ⟨e, he⟩ := go_tot o (by assumption) k hk l [] hl
    rw [he]
    repeat' split
    all_goals exact ⟨_, rfl⟩
  · exact ⟨_, rfl⟩
theorem check_tot (k : Nat) (o : Int) (key : ByteArray) (sz : Int) (l : List S61) (hs : key.size ≤ 1000) (hl : ∀ x ∈ l, x.f1.size ≤ 1000) (hk : 1010 ≤ k) : ∃ e, meta_Check.f k o key sz l = some e := by
  obtain ⟨e, he⟩ := shape_tot k o key sz l hs hl hk
  unfold meta_Check.f
  rw [he]
  simp only [Option.bind_some]
  repeat' split
  all_goals exact ⟨_, rfl⟩
theorem shape_zero {k : Nat} {o : Int} {key : ByteArray} {sz : Int} {l : List S61} (h : meta_shape.f k o key sz l = some 0) :
    (1 ≤ o ∧ o ≤ 6) ∧ keyB k o key (has l 98) = some true ∧ ¬ (sz < 0 ∨ sz > 2147483647 ∨ (o ≠ 2 ∧ sz ≠ 0)) ∧ meta_shape.go k o l [] = some 0 := by
  unfold meta_shape.f at h
  rw [there_eq, key_eq] at h
  simp only [Option.bind_some, decide_eq_true_eq] at h
  split at h
  · rename_i ho
    cases hy : keyB k o key (has l 98) with
    | none => rw [hy] at h; cases h
    | some y =>
      rw [hy] at h
      simp only [Option.bind_some] at h
      cases y with
      | false => simp at h
      | true =>
        simp only [if_true] at h
        split at h
        · simp at h
        · exact ⟨ho, rfl, by assumption, h⟩
  · simp at h
theorem shape_is {k : Nat} {o : Int} {key : ByteArray} {sz : Int} {l : List S61} (ho : 1 ≤ o ∧ o ≤ 6) {y : Bool} (hy : keyB k o key (has l 98) = some y) (hz : ¬ (sz < 0 ∨ sz > 2147483647 ∨ (o ≠ 2 ∧ sz ≠ 0))) :
    meta_shape.f k o key sz l = if y = true then meta_shape.go k o l [] else some 6 := by
  unfold meta_shape.f
  rw [there_eq, key_eq, hy]
  simp only [Option.bind_some, decide_eq_true_eq]
  rw [if_pos ho]
  cases y
  · rfl
  · simp only [if_true]
    rw [if_neg hz]
theorem go_cons {k : Nat} {op : Int} {x : S61} {l : List S61} {seen : List Int} (h : meta_shape.go k op (x :: l) seen = some 0) :
    meta_owns.f op x.f0 = some true ∧ seen.contains x.f0 = false ∧ meta_right.f k op x.f0 x.f1 = some true ∧ meta_shape.go k op l (x.f0 :: seen) = some 0 := by
  unfold meta_shape.go at h
  cases hb : meta_owns.f op x.f0 with
  | none => rw [hb] at h; cases h
  | some b =>
    rw [hb] at h
    simp only [Option.bind_some] at h
    cases b with
    | false => simp at h
    | true =>
      simp only [if_true] at h
      cases hc : seen.contains x.f0 with
      | true => rw [hc] at h; simp at h
      | false =>
        rw [hc] at h
        simp only [Bool.false_eq_true, if_false] at h
        cases hq : meta_right.f k op x.f0 x.f1 with
        | none => rw [hq] at h; cases h
        | some q =>
          rw [hq] at h
          simp only [Option.bind_some] at h
          cases q with
          | false => simp at h
          | true => simp only [if_true] at h; exact ⟨rfl, rfl, rfl, h⟩
theorem go_mk {k : Nat} {op : Int} {x : S61} {l : List S61} {seen : List Int} (h1 : meta_owns.f op x.f0 = some true) (h2 : seen.contains x.f0 = false) (h3 : meta_right.f k op x.f0 x.f1 = some true) :
    meta_shape.go k op (x :: l) seen = meta_shape.go k op l (x.f0 :: seen) := by
  rw [meta_shape.go, h1]
  simp only [Option.bind_some, if_true]
  rw [h2, h3]
  simp only [Bool.false_eq_true, if_false, Option.bind_some, if_true]
theorem go_fewer {k : Nat} {op : Int} : ∀ {l : List S61} {seen seen' : List Int}, (∀ y, seen'.contains y = true → seen.contains y = true) → meta_shape.go k op l seen = some 0 → meta_shape.go k op l seen' = some 0
  | [], _, _, _, _ => rfl
  | x :: l, seen, seen', hs, h => by
    obtain ⟨h1, h2, h3, h4⟩ := go_cons h
    rw [go_mk h1 (by cases hc : seen'.contains x.f0 with | false => rfl | true => rw [hs _ hc] at h2; cases h2) h3]
    refine go_fewer (fun y hy => ?_) h4
    rw [List.contains_cons, Bool.or_eq_true] at hy ⊢
    rcases hy with hy | hy
    · exact .inl hy
    · exact .inr (hs y hy)
theorem go_less {k : Nat} {op : Int} {f : S61} {b : List S61} : ∀ {a : List S61} {seen : List Int}, meta_shape.go k op (a ++ f :: b) seen = some 0 → meta_shape.go k op (a ++ b) seen = some 0
  | [], seen, h => by
    obtain ⟨_, _, _, h4⟩ := go_cons h
    exact go_fewer (fun y hy => by rw [List.contains_cons, hy, Bool.or_true]) h4
  | x :: a, seen, h => by
    obtain ⟨h1, h2, h3, h4⟩ := go_cons h
    show meta_shape.go k op (x :: (a ++ b)) seen = some 0
    rw [go_mk h1 h2 h3]
    exact go_less h4
theorem go_twice {k : Nat} {op : Int} {f : S61} (hf : meta_owns.f op f.f0 = some true) : ∀ {l : List S61} {seen : List Int}, (seen.contains f.f0 = true ∨ ∃ x ∈ l, x.f0 = f.f0) → meta_shape.go k op l seen = some 0 → meta_shape.go k op (l ++ [f]) seen = some 4
  | [], seen, hs, _ => by
    rcases hs with hs | ⟨x, hx, _⟩
    · show meta_shape.go k op [f] seen = some 4
      rw [meta_shape.go, hf]
      simp only [Option.bind_some, if_true]
      rw [if_pos hs]
    · cases hx
  | x :: l, seen, hs, h => by
    obtain ⟨h1, h2, h3, h4⟩ := go_cons h
    show meta_shape.go k op (x :: (l ++ [f])) seen = some 4
    rw [go_mk h1 h2 h3]
    refine go_twice hf ?_ h4
    rcases hs with hs | ⟨y, hy, e⟩
    · exact .inl (by rw [List.contains_cons, hs, Bool.or_true])
    · rcases List.mem_cons.1 hy with rfl | hy
      · exact .inl (by rw [List.contains_cons, e]; simp)
      · exact .inr ⟨y, hy, e⟩
theorem go_owned {k : Nat} {op : Int} : ∀ {l : List S61} {seen : List Int}, meta_shape.go k op l seen = some 0 → ∀ x ∈ l, meta_owns.f op x.f0 = some true
  | [], _, _, x, hx => by cases hx
  | y :: l, seen, h, x, hx => by
    obtain ⟨h1, _, _, h4⟩ := go_cons h
    rcases List.mem_cons.1 hx with rfl | hx
    · exact h1
    · exact go_owned h4 x hx
def conv (x : S59) : S61 := ⟨x.f0, x.f1⟩
theorem to_l0 (o : Int) (key : ByteArray) (sz : Int) (l : List S59) (hl : l.length ≤ 200) : ∀ (n k i : Nat), n + i = l.length → n < k →
    tallboylaw27_To.l0 k (i : Int) o key sz l o key sz ((l.take i).map conv) = some (o, key, sz, l.map conv)
  | n, 0, i, _, h => absurd h (by omega)
  | 0, k + 1, i, h, _ => by
    simp only [tallboylaw27_To.l0]
    rw [if_neg (by omega), List.take_of_length_le (by omega)]
  | n + 1, k + 1, i, h, hk => by
    have ih := to_l0 o key sz l hl n k (i + 1) (by omega) (by omega)
    have e : (l.take (i + 1)).map conv = (l.take i).map conv ++ [⟨(rd_T59 l (i : Int)).f0, (rd_T59 l (i : Int)).f1⟩] := by
      have hi : i < l.length := by omega
      rw [List.take_add_one, List.getElem?_eq_getElem hi, List.map_append]
      congr 1
      unfold rd_T59
      rw [Int.toNat_natCast, List.getD_eq_getElem?_getD, List.getElem?_eq_getElem hi]
      rfl
    simp only [tallboylaw27_To.l0]
    rw [if_pos (by omega), if_pos (by omega), if_pos (by rw [List.length_map, List.length_take]; omega), wrap_at i (by omega), ← e]
    exact ih
theorem to_eq (o : Int) (key : ByteArray) (sz : Int) (l : List S59) (hl : l.length ≤ 200) (k : Nat) (hk : 210 ≤ k) : tallboylaw27_To.f k o key sz l = some (o, key, sz, l.map conv) :=
  to_l0 o key sz l hl l.length k 0 (by omega) (by omega)
theorem great_l0 (o : Int) (key : ByteArray) (sz : Int) (l : List S59) (hl : l.length ≤ 100) : ∀ (n k i : Nat), n + i = l.length → n < k →
    ∃ g, tallboylaw27_Great.l0 k (i : Int) o key sz l = some g ∧ (g = false → ∀ x ∈ l.drop i, x.f1.size ≤ 1000)
  | n, 0, i, _, h => absurd h (by omega)
  | 0, k + 1, i, h, _ => by
    simp only [tallboylaw27_Great.l0]
    rw [if_neg (by omega)]
    exact ⟨_, rfl, fun _ x hx => by rw [List.drop_of_length_le (by omega)] at hx; cases hx⟩
  | n + 1, k + 1, i, h, hk => by
    obtain ⟨g, hg, ih⟩ := great_l0 o key sz l hl n k (i + 1) (by omega) (by omega)
    have hi : i < l.length := by omega
    have e : rd_T59 l (i : Int) = l[i] := by
      unfold rd_T59
      rw [Int.toNat_natCast, List.getD_eq_getElem?_getD, List.getElem?_eq_getElem hi]
      rfl
    simp only [tallboylaw27_Great.l0]
    rw [if_pos (by omega), if_pos (by omega), wrap_at i (by omega), e]
    split
    · exact ⟨true, rfl, fun h => by cases h⟩
    · refine ⟨g, hg, fun hf x hx => ?_⟩
      rw [List.drop_eq_getElem_cons hi] at hx
      rcases List.mem_cons.1 hx with rfl | hx
      · omega
      · exact ih hf x hx
theorem great_tot (o : Int) (key : ByteArray) (sz : Int) (l : List S59) (k : Nat) (hk : 210 ≤ k) :
    ∃ g, tallboylaw27_Great.f k o key sz l = some g ∧ (g = false → l.length ≤ 100 ∧ key.size ≤ 1000 ∧ ∀ x ∈ l, x.f1.size ≤ 1000) := by
  obtain ⟨k, rfl⟩ : ∃ j, k = j + 1 := ⟨k - 1, by omega⟩
  unfold tallboylaw27_Great.f
  split
  · exact ⟨true, by simp only [tallboylaw27_Great.j0, if_true], fun h => by cases h⟩
  · by_cases h1 : (key.size : Int) > 1000
    · exact ⟨true, by rw [decide_eq_true h1]; simp only [tallboylaw27_Great.j0, if_true], fun h => by cases h⟩
    · obtain ⟨g, hg, h2⟩ := great_l0 o key sz l (by omega) l.length k 0 (by omega) (by omega)
      refine ⟨g, by rw [decide_eq_false h1]; simp only [tallboylaw27_Great.j0, Bool.false_eq_true, if_false]; exact hg, fun h => ⟨by omega, by omega, fun x hx => h2 h x (by simpa using hx)⟩⟩
end Go.Proofs.YtfboejlemnfndaaGreatDoor.XMb
end
section
namespace Go.Proofs.YtfboejlemnfndaaGreatDoor.Text
open Go

theorem ib_hit (c : UInt8) (r : List UInt8) : ∀ x : List UInt8, c ∉ x → Lib.indexByte (x ++ c :: r) c = (x.length : Int)
  | [], _ => by simp [Lib.indexByte]
  | b :: x, h => by
    have h1 : b ≠ c := fun e => h (by rw [e]; exact List.mem_cons_self)
    have h2 := ib_hit c r x (fun hm => h (List.mem_cons_of_mem _ hm))
    show Lib.indexByte (b :: (x ++ c :: r)) c = _
    unfold Lib.indexByte
    rw [if_neg (by simpa using h1), h2, if_neg (by simp)]
    simp
theorem ib_miss (c : UInt8) : ∀ x : List UInt8, c ∉ x → Lib.indexByte x c = -1
  | [], _ => rfl
  | b :: x, h => by
    have h1 : b ≠ c := fun e => h (by rw [e]; exact List.mem_cons_self)
    have h2 := ib_miss c x (fun hm => h (List.mem_cons_of_mem _ hm))
    unfold Lib.indexByte
    rw [if_neg (by simpa using h1), h2]
    rfl
theorem split_join (c : UInt8) : ∀ (r : List (List UInt8)) (x : List UInt8), (∀ y ∈ x :: r, c ∉ y) → Lib.splitK [c] 0 (Lib.count (Lib.join (x :: r) [c]) [c]) (Lib.join (x :: r) [c]) = x :: r
  | [], x, h => by
    have hi : Lib.index x [c] = -1 := by rw [Lib.index_one]; exact ib_miss c x (h x List.mem_cons_self)
    rw [Lib.join_one, Lib.count_miss hi]
    rfl
  | y :: r, x, h => by
    have ih := split_join c r y (fun z hz => h z (List.mem_cons_of_mem _ hz))
    have hj : Lib.join (x :: y :: r) [c] = x ++ c :: Lib.join (y :: r) [c] := by
      rw [Lib.join_cons, Lib.join_cons]
      simp [Lib.joinTail]
    have hi : Lib.index (x ++ c :: Lib.join (y :: r) [c]) [c] = (x.length : Int) := by rw [Lib.index_one]; exact ib_hit c _ x (h x List.mem_cons_self)
    have hd : (x ++ c :: Lib.join (y :: r) [c]).drop (x.length + [c].length) = Lib.join (y :: r) [c] := by
      rw [List.length_singleton, List.drop_append, List.drop_of_length_le (by omega)]
      simp
    rw [hj, Lib.count_hit (by simp) hi, hd, Nat.add_comm]
    have hm : ¬ (Lib.index (x ++ c :: Lib.join (y :: r) [c]) [c] == -1) = true := by rw [hi]; simp
    rw [Lib.splitK, if_neg hm, hi]
    rw [show ((x.length : Int)).toNat = x.length from Int.toNat_natCast _, hd, ih]
    simp
theorem map_data_inj : ∀ (a b : List ByteArray), a.map (·.data.toList) = b.map (·.data.toList) → a = b
  | [], [], _ => rfl
  | [], _ :: _, h => by cases h
  | _ :: _, [], h => by cases h
  | x :: a, y :: b, h => by
    simp only [List.map_cons, List.cons.injEq] at h
    have e : x = y := by
      obtain ⟨x⟩ := x
      obtain ⟨y⟩ := y
      congr 1
      exact Array.toList_inj.1 h.1
    rw [e, map_data_inj a b h.2]
theorem splitB_join (x : ByteArray) (r : List ByteArray) (h : ∀ y ∈ x :: r, (32 : UInt8) ∉ y.data.toList) :
    Lib.splitB ⟨#[32]⟩ 0 (Lib.countB ⟨(Lib.join ((x :: r).map (·.data.toList)) [32]).toArray⟩ ⟨#[32]⟩) ⟨(Lib.join ((x :: r).map (·.data.toList)) [32]).toArray⟩ = x :: r := by
  apply map_data_inj
  rw [Lib.splitB_data]
  show Lib.splitK [32] 0 (Lib.count (Lib.join ((x :: r).map (·.data.toList)) [32]).toArray.toList [32]) (Lib.join ((x :: r).map (·.data.toList)) [32]).toArray.toList = _
  rw [List.toList_toArray, List.map_cons]
  refine split_join 32 _ _ (fun y hy => ?_)
  have hy' : y ∈ (x :: r).map (fun z : ByteArray => z.data.toList) := hy
  obtain ⟨z, hz, rfl⟩ := List.mem_map.1 hy'
  exact h z hz
theorem parse_snoc (M : Nat) (c : UInt8) (hc : 48 ≤ c.toNat ∧ c.toNat ≤ 57) : ∀ (l : List UInt8) (acc u : Nat), Lib.parseUintM M acc l = .ok u → u < 1844674407370955162 → u * 10 + (c.toNat - 48) ≤ M → Lib.parseUintM M acc (l ++ [c]) = .ok (u * 10 + (c.toNat - 48))
  | [], acc, u, h, h1, h2 => by
    obtain rfl : acc = u := by simpa [Lib.parseUintM] using h
    show Lib.parseUintM M acc [c] = _
    unfold Lib.parseUintM
    rw [if_pos hc, if_neg (by omega), if_neg (by omega)]
    rfl
  | b :: l, acc, u, h, h1, h2 => by
    show Lib.parseUintM M acc (b :: (l ++ [c])) = _
    unfold Lib.parseUintM at h ⊢
    split at h
    · rename_i hb
      rw [if_pos hb]
      split at h
      · cases h
      · rename_i ha
        rw [if_neg ha]
        split at h
        · cases h
        · rename_i hm
          rw [if_neg hm]
          exact parse_snoc M c hc l _ u h h1 h2
    · cases h
theorem dec_small (u : Nat) (h : u < 10) : Lib.decDigits u = [UInt8.ofNat (48 + u)] := by rw [Lib.decDigits, dif_pos h]
theorem dec_big (u : Nat) (h : ¬ u < 10) : Lib.decDigits u = Lib.decDigits (u / 10) ++ [UInt8.ofNat (48 + u % 10)] := by rw [Lib.decDigits, dif_neg h]
theorem dig_toNat (d : Nat) (h : d < 10) : (UInt8.ofNat (48 + d)).toNat = 48 + d := by
  show (48 + d) % 256 = 48 + d
  omega
theorem dec_parse : ∀ (n u : Nat), u < n → u < 18446744073709551616 → Lib.parseUintM 18446744073709551615 0 (Lib.decDigits u) = .ok u
  | 0, u, h, _ => absurd h (by omega)
  | n + 1, u, h, hu => by
    by_cases h10 : u < 10
    · rw [dec_small u h10]
      unfold Lib.parseUintM
      rw [dig_toNat u h10, if_pos (by omega), if_neg (by omega), if_neg (by omega)]
      show Lib.NumEnd.ok _ = Lib.NumEnd.ok _
      congr 1
      omega
    · rw [dec_big u h10]
      have ih := dec_parse n (u / 10) (by omega) (by omega)
      have hd := dig_toNat (u % 10) (by omega)
      rw [parse_snoc _ (UInt8.ofNat (48 + u % 10)) (by rw [hd]; omega) _ _ _ ih (by omega) (by rw [hd]; omega), hd]
      congr 1
      omega
theorem dec_dig : ∀ (n u : Nat), u < n → ∀ c ∈ Lib.decDigits u, 48 ≤ c.toNat ∧ c.toNat ≤ 57
  | 0, u, h => absurd h (by omega)
  | n + 1, u, h => by
    intro c hc
    by_cases h10 : u < 10
    · rw [dec_small u h10] at hc
      obtain rfl := List.mem_singleton.1 hc
      rw [dig_toNat u h10]
      omega
    · rw [dec_big u h10] at hc
      rcases List.mem_append.1 hc with hc | hc
      · exact dec_dig n (u / 10) (by omega) c hc
      · obtain rfl := List.mem_singleton.1 hc
        rw [dig_toNat _ (by omega)]
        omega
theorem dec_ne (u : Nat) : Lib.decDigits u ≠ [] := by
  by_cases h10 : u < 10
  · rw [dec_small u h10]; simp
  · rw [dec_big u h10]; simp
theorem dec_len : ∀ (k u : Nat), u < 10 ^ (k + 1) → (Lib.decDigits u).length ≤ k + 1
  | 0, u, h => by rw [dec_small u (by simpa using h)]; simp
  | k + 1, u, h => by
    by_cases h10 : u < 10
    · rw [dec_small u h10]; simp
    · rw [dec_big u h10, List.length_append, List.length_singleton]
      have := dec_len k (u / 10) (by rw [Nat.pow_succ] at h; omega)
      omega
end Go.Proofs.YtfboejlemnfndaaGreatDoor.Text
end
section
namespace Go.Proofs.YtfboejlemnfndaaGreatDoor.XMb
open Go.RowKit Go.Proofs.YtfboejlemnfndaaGreatDoorW.PrintWords Go.Proofs.YtfboejlemnfndaaGreatDoorW.PrintLast Go.Proofs.YtfboejlemnfndaaGreatDoorW.PrintMore
set_option linter.unusedVariables false
set_option linter.unusedSimpArgs false

theorem ba_ext (a b : ByteArray) (h : a.data.toList = b.data.toList) : a = b := by
  obtain ⟨a⟩ := a
  obtain ⟨b⟩ := b
  congr 1
  exact Array.toList_inj.1 h
theorem bt_list (s : ByteArray) (i : Nat) (h : i < s.data.toList.length) : bt s (i : Int) = ((s.data.toList[i]'h).toNat : Int) := by
  have hs : i < s.size := by rw [Lib.size_eq]; exact h
  unfold bt
  rw [dif_pos (by rw [Int.toNat_natCast]; exact hs)]
  simp only [Int.toNat_natCast]
  rfl
def NoSp (s : ByteArray) : Prop := (32 : UInt8) ∉ s.data.toList
theorem nosp_of {s : ByteArray} (h : ∀ c ∈ s.data.toList, c.toNat ≠ 32) : NoSp s := fun hm => h 32 hm rfl
theorem key_l0_true (s : ByteArray) (hs : s.size ≤ 1000) : ∀ (n k i : Nat), n + i = s.size → fnv_Key.l0 k s (s.size : Int) (i : Int) = some true → ∀ c ∈ s.data.toList.drop i, c.toNat ≠ 32
  | n, 0, i, _, h => by simp [fnv_Key.l0] at h
  | 0, k + 1, i, hn, _ => fun c hc => by rw [List.drop_of_length_le (by rw [← Lib.size_eq]; omega)] at hc; cases hc
  | n + 1, k + 1, i, hn, h => by
    have hi : i < s.data.toList.length := by rw [← Lib.size_eq]; omega
    simp only [fnv_Key.l0] at h
    rw [if_pos (by omega), if_pos (by omega), if_pos (by omega), wrap_at i (by omega), bt_list s i hi] at h
    split at h
    · simp at h
    · split at h
      · simp at h
      · intro c hc
        rw [List.drop_eq_getElem_cons hi] at hc
        rcases List.mem_cons.1 hc with rfl | hc
        · omega
        · exact key_l0_true s hs n k (i + 1) (by omega) h c hc
theorem key_nosp (s : ByteArray) (hs : s.size ≤ 1000) (k : Nat) (h : fnv_Key.f k s = some true) : NoSp s := by
  have h0 : ∀ x, fnv_Key.j0 k s x = some true → NoSp s := by
    intro x hx
    cases k with
    | zero => simp [fnv_Key.j0] at hx
    | succ k =>
      cases x with
      | true => simp [fnv_Key.j0] at hx
      | false =>
        simp only [fnv_Key.j0, Bool.false_eq_true, if_false] at hx
        exact nosp_of (by simpa using key_l0_true s hs s.size k 0 (by omega) hx)
  unfold fnv_Key.f at h
  split at h
  · exact h0 _ h
  · exact h0 _ h
theorem dig_nosp (s : ByteArray) (h : (digits_Parse.val s.data.toList).2 = 0) : NoSp s := by
  have hd : digits_Parse.dig s.data.toList = true := by
    cases hd : digits_Parse.dig s.data.toList with
    | true => rfl
    | false =>
      unfold digits_Parse.val at h
      rw [hd] at h
      simp at h
  refine nosp_of (fun c hc => ?_)
  have := List.all_eq_true.1 hd c hc
  have := of_decide_eq_true this
  omega
theorem cut_parts (s r : ByteArray) (b : Bool) (h : strings_CutPrefix.f s ⟨#[45]⟩ = some (r, b)) (hr : NoSp r) : NoSp s := by
  unfold strings_CutPrefix.f stringslite_CutPrefix.f stringslite_HasPrefix.f at h
  rw [show ((⟨#[45]⟩ : ByteArray).size : Int) = 1 from rfl] at h
  by_cases h1 : (s.size : Int) ≥ 1
  · rw [if_pos h1, if_pos (by decide), if_pos (by omega)] at h
    simp only [Option.bind_some] at h
    split at h
    · rename_i hp
      rw [if_pos (by decide)] at h
      simp only [Option.bind_some, Option.some.injEq, Prod.mk.injEq] at h
      have hp' : (sub s 0 ((1 : Int)).toNat).toList = [45] := by simpa using hp
      rw [ByteArray.toList_eq] at hp'
      have e1 : s.data.toList.take 1 = [45] := by
        have : (sub s 0 1).data.toList = [45] := hp'
        rw [show sub s 0 1 = s.extract 0 1 from rfl, Lib.extract_data] at this
        simpa using this
      have e2 : s.data.toList.drop 1 = r.data.toList := by
        rw [← h.1]
        show _ = (s.extract 1 s.size).data.toList
        rw [Lib.extract_to_end]
      intro hm
      rw [← List.take_append_drop 1 s.data.toList, e1, e2] at hm
      rcases List.mem_append.1 hm with hm | hm
      · exact absurd hm (by decide)
      · exact hr hm
    · simp only [Option.bind_some, Option.some.injEq, Prod.mk.injEq] at h
      rw [h.1]
      exact hr
  · rw [if_neg h1] at h
    simp only [Option.bind_some, Bool.false_eq_true, if_false, Option.some.injEq, Prod.mk.injEq] at h
    rw [h.1]
    exact hr
theorem right_nosp (op x : Int) (s : ByteArray) (hs : s.size ≤ 1000) (k : Nat) (hk : 1010 ≤ k) (h : meta_right.f k op x s = some true) : NoSp s := by
  obtain ⟨t, ht⟩ := sort_tot x k (by omega)
  unfold meta_right.f at h
  rw [ht] at h
  simp only [Option.bind_some, parse_tot s hs] at h
  split at h
  · exact dig_nosp s (by simpa using h)
  · split at h
    · split at h
      · exact dig_nosp s (by assumption)
      · simp at h
    · split at h
      · obtain ⟨r, b, hb, hr⟩ := cut_tot s hs
        refine cut_parts s r b hb (dig_nosp r ?_)
        unfold digits_Signed.f at h
        rw [hb] at h
        simp only [Option.bind_some, parse_tot r hr] at h
        split at h
        · assumption
        · simpa using h
      · split at h
        · refine key_nosp s hs k ?_
          cases hf : fnv_Key.f k s with
          | none => rw [hf] at h; cases h
          | some b => rw [hf] at h; simpa using h
        · split at h
          · split at h
            · rename_i h1
              intro hm
              have hl : s.data.toList.length = 1 := by rw [← Lib.size_eq]; omega
              obtain ⟨c, hc⟩ := List.length_eq_one_iff.1 hl
              rw [hc] at hm
              have e : (32 : UInt8) = c := by simpa using hm
              subst e
              have hm2 : ∃ m, meta_modes.f op = some m ∧ m.size < 4294967281 ∧ Lib.contains m.data.toList [32] = false := by
                unfold meta_modes.f
                split
                · exact ⟨_, rfl, by decide, by kernel_rfl⟩
                · exact ⟨_, rfl, by decide, by kernel_rfl⟩
              obtain ⟨m, hm1, hm3, hm4⟩ := hm2
              rw [hm1] at h
              simp only [Option.bind_some] at h
              unfold strings_Contains.f at h
              rw [if_pos hm3, hc, hm4] at h
              simp at h
            · simp at h
          · have : s.toList = [] := by simpa using h
            rw [ByteArray.toList_eq] at this
            exact nosp_of (fun c hc => by rw [this] at hc; cases hc)
theorem letters (n : Int) : ∀ c ∈ meta_owns.flags n, 65 ≤ c.toNat ∧ c.toNat ≤ 122 := by
  unfold meta_owns.flags
  repeat' split
  all_goals decide
theorem owned_letter {op x : Int} (h : meta_owns.f op x = some true) : 65 ≤ x ∧ x ≤ 122 := by
  unfold meta_owns.f at h
  split at h
  · injection h with h
    obtain ⟨c, hc, e⟩ := List.any_eq_true.1 h
    have e' : (c.toNat : Int) = x := by simpa using e
    have := letters op c hc
    omega
  · cases h
theorem enc_nosp : ∀ (n : Nat) (l : List UInt8), l.length ≤ n → ∀ c ∈ B64.enc l, c.toNat ≠ 32 := by
  have h8 : ∀ v, v < 64 → (B64.let8 v).toNat ≠ 32 := fun v hv => by rw [B64.let8_toNat v hv]; have := B64.lt_range v hv; omega
  intro n
  induction n with
  | zero => intro l hl c hc; rw [show l = [] from List.length_eq_zero_iff.1 (by omega)] at hc; cases hc
  | succ n ih =>
    intro l hl c hc
    by_cases h0 : l = []
    · rw [h0] at hc; cases hc
    · rw [B64.enc_step l h0] at hc
      rcases List.mem_append.1 hc with hc | hc
      · have hw := B64.word_lt l
        unfold B64.four at hc
        simp only [List.mem_cons, List.mem_nil_iff, or_false] at hc
        rcases hc with rfl | rfl | rfl | rfl
        · exact h8 _ (by omega)
        · exact h8 _ (by omega)
        · split
          · exact h8 _ (by omega)
          · decide
        · split
          · exact h8 _ (by omega)
          · decide
      · refine ih (l.drop 3) ?_ c hc
        have := List.length_pos_iff.2 h0
        rw [List.length_drop]
        omega
def nameOf (o : Int) : ByteArray := if o = 1 then ⟨#[109, 103]⟩ else if o = 2 then ⟨#[109, 115]⟩ else if o = 3 then ⟨#[109, 100]⟩ else if o = 4 then ⟨#[109, 97]⟩ else if o = 5 then ⟨#[109, 110]⟩ else ⟨#[109, 101]⟩
theorem name_nosp (o : Int) : NoSp (nameOf o) := by
  unfold nameOf NoSp
  repeat' split
  all_goals decide
theorem name_size (o : Int) : (nameOf o).size = 2 := by
  unfold nameOf
  repeat' split
  all_goals rfl
def fw (x : S61) : ByteArray := Utf8.encode (wrap32 x.f0) ++ x.f1
theorem enc_letter (c : Int) (h : 65 ≤ c ∧ c ≤ 122) : Utf8.encode (wrap32 c) = ⟨#[UInt8.ofNat c.toNat]⟩ := by
  have e : wrap32 c = c := by unfold wrap32; omega
  unfold Utf8.encode
  have hv : Utf8.valid c = true := by unfold Utf8.valid; simp; omega
  rw [e, hv]
  simp only [if_true]
  rw [if_pos (by omega)]
theorem enc_size (c : Int) : (Utf8.encode c).size ≤ 4 := by
  unfold Utf8.encode
  simp only []
  repeat' split
  all_goals (first | decide | exact Nat.le_of_ble_eq_true rfl)
theorem fw_list (x : S61) (h : 65 ≤ x.f0 ∧ x.f0 ≤ 122) : (fw x).data.toList = UInt8.ofNat x.f0.toNat :: x.f1.data.toList := by
  unfold fw
  rw [enc_letter _ h, ByteArray.data_append]
  simp
theorem fw_nosp (x : S61) (h : 65 ≤ x.f0 ∧ x.f0 ≤ 122) (ht : NoSp x.f1) : NoSp (fw x) := by
  unfold NoSp
  rw [fw_list x h]
  intro hm
  rcases List.mem_cons.1 hm with e | hm
  · have := congrArg UInt8.toNat e
    rw [show (UInt8.ofNat x.f0.toNat).toNat = x.f0.toNat % 256 from rfl] at this
    have e32 : (32 : UInt8).toNat = 32 := rfl
    omega
  · exact ht hm
def keyW (key : ByteArray) (b : Bool) : ByteArray := if b = true then ⟨(B64.enc key.data.toList).toArray⟩ else key
def restOf (o : Int) (key : ByteArray) (sz : Int) (L : List S61) : List ByteArray :=
  (if o = 5 then [] else [keyW key (has L 98)]) ++ ((if o = 2 then [⟨(Lib.decDigits (IntKind.u64.wrap sz).toNat).toArray⟩] else []) ++ L.map fw)
def lineOf (ws : List ByteArray) : ByteArray := ⟨(Lib.join (ws.map (·.data.toList)) [32]).toArray⟩
end Go.Proofs.YtfboejlemnfndaaGreatDoor.XMb
end
section
namespace Go.Proofs.YtfboejlemnfndaaGreatDoor.XMb
open Go.RowKit Go.Proofs.YtfboejlemnfndaaGreatDoorW.PrintWords Go.Proofs.YtfboejlemnfndaaGreatDoorW.PrintLast Go.Proofs.YtfboejlemnfndaaGreatDoorW.PrintMore
set_option linter.unusedVariables false
set_option linter.unusedSimpArgs false
set_option linter.unusedSectionVars false

theorem ops_tab : ∃ T, meta_ops.f = some T ∧ T.length = 7 ∧ ∀ n : Int, 1 ≤ n → n ≤ 6 → (rd_T63 T n).f0 = nameOf n := by
  refine ⟨_, rfl, rfl, fun n h1 h2 => ?_⟩
  have hn : n = 1 ∨ n = 2 ∨ n = 3 ∨ n = 4 ∨ n = 5 ∨ n = 6 := by omega
  rcases hn with rfl | rfl | rfl | rfl | rfl | rfl <;> rfl
theorem named_1 : meta_named.f 20 (nameOf 1) = some 1 := by kernel_rfl
theorem named_2 : meta_named.f 20 (nameOf 2) = some 2 := by kernel_rfl
theorem named_3 : meta_named.f 20 (nameOf 3) = some 3 := by kernel_rfl
theorem named_4 : meta_named.f 20 (nameOf 4) = some 4 := by kernel_rfl
theorem named_5 : meta_named.f 20 (nameOf 5) = some 5 := by kernel_rfl
theorem named_6 : meta_named.f 20 (nameOf 6) = some 6 := by kernel_rfl
theorem named_is (o : Int) (ho : 1 ≤ o ∧ o ≤ 6) : meta_named.f 20 (nameOf o) = some o := by
  have hn : o = 1 ∨ o = 2 ∨ o = 3 ∨ o = 4 ∨ o = 5 ∨ o = 6 := by omega
  rcases hn with rfl | rfl | rfl | rfl | rfl | rfl
  · exact named_1
  · exact named_2
  · exact named_3
  · exact named_4
  · exact named_5
  · exact named_6
theorem up {α : Type} (f : Nat → Option α) (hm : ∀ k, LeO (f k) (f (k + 1))) {k : Nat} {r : α} (h : f k = some r) : ∀ n, f (k + n) = some r
  | 0 => h
  | n + 1 => hm (k + n) r (up f hm h n)
theorem named_up (o : Int) (ho : 1 ≤ o ∧ o ≤ 6) (k : Nat) (hk : 20 ≤ k) : meta_named.f k (nameOf o) = some o := by
  have := up (fun k => meta_named.f k (nameOf o)) (fun k => meta_named.mono _ k) (named_is o ho) (k - 20)
  rwa [show 20 + (k - 20) = k from by omega] at this
theorem lens_le (B : Nat) : ∀ xs : List (List UInt8), (∀ x ∈ xs, x.length ≤ B) → Lib.lens xs ≤ B * xs.length
  | [], _ => by simp [Lib.lens]
  | x :: xs, h => by
    have h1 := h x List.mem_cons_self
    have h2 := lens_le B xs (fun y hy => h y (List.mem_cons_of_mem _ hy))
    simp only [Lib.lens, List.map_cons, List.sum_cons, List.length_cons] at h2 ⊢
    rw [Nat.mul_succ]
    omega
theorem join_tot (x : ByteArray) (r : List ByteArray) (hr : r.length ≤ 1000) (hs : ∀ y ∈ x :: r, y.size ≤ 5000) : strings_Join.f (x :: r) ⟨#[32]⟩ = some (lineOf (x :: r)) := by
  have h1 : (Lib.join ((x :: r).map (·.data.toList)) [32]).length ≤ 140737488355328 := by
    rw [List.map_cons, Lib.join_length, ← List.map_cons (f := fun z : ByteArray => z.data.toList)]
    have := lens_le 5000 ((x :: r).map (fun z : ByteArray => z.data.toList)) (fun y hy => by
      obtain ⟨z, hz, rfl⟩ := List.mem_map.1 hy
      have := hs z hz
      rw [Lib.size_eq] at this
      exact this)
    simp only [List.length_map, List.length_cons, List.length_nil, Nat.zero_add, Nat.one_mul] at this ⊢
    omega
  unfold strings_Join.f
  rw [if_pos ⟨by simp; omega, h1⟩]
  rfl
theorem write_l0 (L : List S61) (hL : L.length ≤ 200) (ht : ∀ x ∈ L, x.f1.size ≤ 1000) : ∀ (n k i : Nat) (ws : List ByteArray), n + i = L.length → n < k → ws.length ≤ 10 + i →
    meta_Write.l0 k ws L (L.length : Int) (i : Int) = (strings_Join.f (ws ++ (L.drop i).map fw) ⟨#[32]⟩).bind fun t => if (t.size : Int) > 160 then some (⟨#[]⟩, 7) else some (t, 0)
  | n, 0, i, ws, _, h, _ => absurd h (by omega)
  | 0, k + 1, i, ws, hn, _, _ => by
    simp only [meta_Write.l0]
    rw [if_neg (by omega), List.drop_of_length_le (by omega), List.map_nil, List.append_nil]
  | n + 1, k + 1, i, ws, hn, hk, hw => by
    have hi : i < L.length := by omega
    have e : rd_T61 L (i : Int) = L[i] := by
      unfold rd_T61
      rw [Int.toNat_natCast, List.getD_eq_getElem?_getD, List.getElem?_eq_getElem hi]
      rfl
    have h4 := enc_size (wrap32 (L[i]).f0)
    have h5 := ht _ (List.getElem_mem hi)
    have ih := write_l0 L hL ht n k (i + 1) (ws ++ [fw L[i]]) (by omega) (by omega) (by rw [List.length_append, List.length_singleton]; omega)
    simp only [meta_Write.l0]
    rw [if_pos (by omega), if_pos (by omega), if_pos (by omega), e, if_pos (by omega), if_pos (by omega), wrap_at i (by omega)]
    show meta_Write.l0 k (ws ++ [fw L[i]]) L (L.length : Int) ((i + 1 : Nat) : Int) = _
    rw [ih, List.append_assoc, List.singleton_append, ← List.map_cons, ← List.drop_eq_getElem_cons hi]
section
variable {k : Nat} {o : Int} {key : ByteArray} {sz : Int} {L : List S61} (hk : 3000 ≤ k) (hL : L.length ≤ 200) (hks : key.size ≤ 1000) (hts : ∀ x ∈ L, x.f1.size ≤ 1000) (hs : meta_shape.f k o key sz L = some 0)
include hk hL hks hts hs
theorem enc_is : meta_Encode.f key = some ⟨(B64.enc key.data.toList).toArray⟩ := by
  unfold meta_Encode.f
  rw [if_pos (by omega)]
theorem size_is : IntKind.u64.wrap sz = sz ∧ 0 ≤ sz ∧ sz ≤ 2147483647 := by
  obtain ⟨_, _, hc, _⟩ := shape_zero hs
  rw [IntKind.wrap_u64]
  omega
theorem text_is : digits_Text.f (IntKind.u64.wrap sz) = some ⟨(Lib.decDigits (IntKind.u64.wrap sz).toNat).toArray⟩ := by
  obtain ⟨h1, h2, h3⟩ := size_is hk hL hks hts hs
  unfold digits_Text.f strconv_FormatUint_62.f
  have : strconv_FormatUint_80.f (IntKind.u64.wrap sz) 10 = some ⟨(Lib.decDigits (IntKind.u64.wrap sz).toNat).toArray⟩ := by
    unfold strconv_FormatUint_80.f
    rw [if_pos (by rw [h1]; omega)]
  rw [this]
  rfl
theorem j0_is (ws : List ByteArray) (hw : ws.length ≤ 2) (k' : Nat) (hk' : 2000 ≤ k') :
    meta_Write.j0 k' ws o key sz L = (strings_Join.f (ws ++ ((if o = 2 then [⟨(Lib.decDigits (IntKind.u64.wrap sz).toNat).toArray⟩] else []) ++ L.map fw)) ⟨#[32]⟩).bind fun t => if (t.size : Int) > 160 then some (⟨#[]⟩, 7) else some (t, 0) := by
  obtain ⟨k', rfl⟩ : ∃ j, k' = j + 2 := ⟨k' - 2, by omega⟩
  simp only [meta_Write.j0, text_is hk hL hks hts hs, Option.bind_some]
  split
  · rw [if_pos (by omega)]
    simp only [meta_Write.j1]
    have := write_l0 L (by omega) hts L.length k' 0 (ws ++ [⟨(Lib.decDigits (IntKind.u64.wrap sz).toNat).toArray⟩]) (by omega) (by omega) (by rw [List.length_append, List.length_singleton]; omega)
    rw [show ((0 : Nat) : Int) = 0 from rfl, List.drop_zero] at this
    rw [this, List.append_assoc]
  · simp only [meta_Write.j1]
    have := write_l0 L (by omega) hts L.length k' 0 ws (by omega) (by omega) (by omega)
    rw [show ((0 : Nat) : Int) = 0 from rfl, List.drop_zero] at this
    rw [this, List.nil_append]
theorem write_is : meta_Write.f k o key sz L = (strings_Join.f (nameOf o :: restOf o key sz L) ⟨#[32]⟩).bind fun t => if (t.size : Int) > 160 then some (⟨#[]⟩, 7) else some (t, 0) := by
  obtain ⟨T, hT, hT7, hTn⟩ := ops_tab
  obtain ⟨ho, _⟩ := shape_zero hs
  obtain ⟨t, hf⟩ := find_eq o key sz L 98
  unfold meta_Write.f restOf
  rw [hs]
  simp only [Option.bind_some, if_true, hT, hf, enc_is hk hL hks hts hs]
  rw [if_pos (by omega), if_pos (by omega), hTn o ho.1 ho.2]
  split
  · rw [j0_is hk hL hks hts hs _ (by simp) k (by omega)]
    rfl
  · cases hb : has L 98 with
    | true =>
      simp only [if_true]
      rw [if_pos (by simp), j0_is hk hL hks hts hs _ (by simp) k (by omega)]
      rfl
    | false =>
      simp only [Bool.false_eq_true, if_false]
      rw [if_pos (by simp), j0_is hk hL hks hts hs _ (by simp) k (by omega)]
      rfl
theorem flags_ok : ∀ x ∈ L, (65 ≤ x.f0 ∧ x.f0 ≤ 122) ∧ NoSp x.f1 := by
  obtain ⟨_, _, _, hgo⟩ := shape_zero hs
  have hr : ∀ (l : List S61) (seen : List Int), meta_shape.go k o l seen = some 0 → ∀ x ∈ l, meta_right.f k o x.f0 x.f1 = some true := by
    intro l
    induction l with
    | nil => intro _ _ x hx; cases hx
    | cons y l ih =>
      intro seen h x hx
      obtain ⟨_, _, h3, h4⟩ := go_cons h
      rcases List.mem_cons.1 hx with rfl | hx
      · exact h3
      · exact ih _ h4 x hx
  exact fun x hx => ⟨owned_letter (go_owned hgo x hx), right_nosp o x.f0 x.f1 (hts x hx) k (by omega) (hr L [] hgo x hx)⟩
theorem key_ok : o ≠ 5 → NoSp (keyW key (has L 98)) ∧ (keyW key (has L 98)).size ≤ 2000 := by
  intro h5
  obtain ⟨_, hkb, _, _⟩ := shape_zero hs
  unfold keyB at hkb
  rw [if_neg h5] at hkb
  unfold keyW
  cases hb : has L 98 with
  | true =>
    simp only [if_true]
    refine ⟨nosp_of (enc_nosp _ _ (Nat.le_refl _)), ?_⟩
    show (B64.enc key.data.toList).toArray.size ≤ 2000
    rw [List.size_toArray, B64.enc_length, ← Lib.size_eq]
    omega
  | false =>
    rw [hb] at hkb
    simp only [Bool.false_eq_true, if_false] at hkb ⊢
    exact ⟨key_nosp key hks k hkb, by omega⟩
theorem noop_nil : o = 5 → L = [] := by
  intro h5
  obtain ⟨_, _, _, hgo⟩ := shape_zero hs
  cases L with
  | nil => rfl
  | cons x l =>
    obtain ⟨h1, _⟩ := go_cons hgo
    subst h5
    simp [meta_owns.f, meta_owns.flags] at h1
theorem words_ok : ∀ y ∈ nameOf o :: restOf o key sz L, NoSp y ∧ y.size ≤ 5000 := by
  obtain ⟨h1, h2, h3⟩ := size_is hk hL hks hts hs
  intro y hy
  rcases List.mem_cons.1 hy with rfl | hy
  · exact ⟨name_nosp o, by rw [name_size]; omega⟩
  · unfold restOf at hy
    rcases List.mem_append.1 hy with hy | hy
    · split at hy
      · cases hy
      · rename_i h5
        obtain rfl := List.mem_singleton.1 hy
        have := key_ok hk hL hks hts hs h5
        exact ⟨this.1, by omega⟩
    · rcases List.mem_append.1 hy with hy | hy
      · split at hy
        · obtain rfl := List.mem_singleton.1 hy
          refine ⟨nosp_of (fun c hc => ?_), ?_⟩
          · have := Text.dec_dig _ _ (Nat.lt_succ_self _) c hc
            omega
          · have := Text.dec_len 9 (IntKind.u64.wrap sz).toNat (by rw [h1]; omega)
            show (Lib.decDigits _).toArray.size ≤ 5000
            rw [List.size_toArray]
            omega
        · cases hy
      · obtain ⟨x, hx, rfl⟩ := List.mem_map.1 hy
        have := flags_ok hk hL hks hts hs x hx
        refine ⟨fw_nosp x this.1 this.2, ?_⟩
        have h4 := enc_size (wrap32 x.f0)
        have h5 := hts x hx
        show (Utf8.encode (wrap32 x.f0) ++ x.f1).size ≤ 5000
        rw [ByteArray.size_append]
        omega
theorem rest_len : (restOf o key sz L).length ≤ 1000 := by
  unfold restOf
  rw [List.length_append, List.length_append, List.length_map]
  repeat' split
  all_goals (simp; omega)
theorem write_line : meta_Write.f k o key sz L = if ((lineOf (nameOf o :: restOf o key sz L)).size : Int) > 160 then some (⟨#[]⟩, 7) else some (lineOf (nameOf o :: restOf o key sz L), 0) := by
  rw [write_is hk hL hks hts hs, join_tot _ _ (rest_len hk hL hks hts hs) (fun y hy => (words_ok hk hL hks hts hs y hy).2)]
  rfl
theorem split_line (h : (lineOf (nameOf o :: restOf o key sz L)).size ≤ 160) : strings_Split.f (lineOf (nameOf o :: restOf o key sz L)) ⟨#[32]⟩ = some (nameOf o :: restOf o key sz L) := by
  unfold strings_Split.f
  rw [if_pos ⟨by omega, by decide⟩]
  congr 1
  exact Text.splitB_join _ _ (fun y hy => (words_ok hk hL hks hts hs y hy).1)
end
end Go.Proofs.YtfboejlemnfndaaGreatDoor.XMb
end
section
namespace Go.Proofs.YtfboejlemnfndaaGreatDoor.XMb
open Go.RowKit Go.Proofs.YtfboejlemnfndaaGreatDoorW.PrintWords Go.Proofs.YtfboejlemnfndaaGreatDoorW.PrintLast Go.Proofs.YtfboejlemnfndaaGreatDoorW.PrintMore
set_option linter.unusedVariables false
set_option linter.unusedSimpArgs false
set_option linter.unusedSectionVars false

theorem fw_read (x : S61) (h : 65 ≤ x.f0 ∧ x.f0 ≤ 122) : (⟨bt (fw x) 0, sub (fw x) 1 (fw x).size⟩ : S61) = x := by
  have e := fw_list x h
  have h0 : bt (fw x) 0 = x.f0 := by
    have := bt_list (fw x) 0 (by rw [e]; simp)
    rw [show ((0 : Nat) : Int) = 0 from rfl] at this
    rw [this]
    simp only [e, List.getElem_cons_zero]
    rw [show (UInt8.ofNat x.f0.toNat).toNat = x.f0.toNat % 256 from rfl]
    omega
  have h1 : sub (fw x) 1 (fw x).size = x.f1 := ba_ext _ _ (by
    show ((fw x).extract 1 (fw x).size).data.toList = _
    rw [Lib.extract_to_end, e]
    rfl)
  rw [h0, h1]
theorem words_l0 (o : Int) (key : ByteArray) (sz : Int) (L : List S61) (hL : L.length ≤ 200) (hg : ∀ x ∈ L, 65 ≤ x.f0 ∧ x.f0 ≤ 122) : ∀ (n j i : Nat), n + i = L.length →
    meta_words.l0 (n + 1 + j) o (L.map fw) (L.length : Int) (i : Int) o key sz (L.take i) = (meta_Find.f o key sz L 98).bind fun b => if b.2 = true then meta_words.j5 j (o != 5) o key sz L else meta_words.j5 j false o key sz L
  | 0, j, i, hn => by
    rw [show 0 + 1 + j = j + 1 from by omega]
    simp only [meta_words.l0]
    rw [if_neg (by omega), List.take_of_length_le (by omega)]
  | n + 1, j, i, hn => by
    have hi : i < L.length := by omega
    have hgi := hg _ (List.getElem_mem hi)
    have e : rdOf ByteArray.empty (L.map fw) (i : Int) = fw L[i] := by
      unfold rdOf
      rw [Int.toNat_natCast, List.getD_eq_getElem?_getD, List.getElem?_map, List.getElem?_eq_getElem hi]
      rfl
    have hne : (fw L[i]).toList ≠ [] := by rw [ByteArray.toList_eq, fw_list _ hgi]; simp
    have hsz : 1 ≤ (fw L[i]).size := by rw [Lib.size_eq, fw_list _ hgi]; simp
    have ih := words_l0 o key sz L hL hg n j (i + 1) (by omega)
    rw [show n + 1 + 1 + j = (n + 1 + j) + 1 from by omega]
    simp only [meta_words.l0]
    rw [if_pos (by omega), if_pos (by omega), if_pos (by rw [List.length_map]; omega), e, if_neg hne, if_pos (by omega), if_pos (by omega), if_pos (by rw [List.length_take]; omega), fw_read _ hgi, wrap_at i (by omega)]
    rw [← ih]
    congr 1
    rw [List.take_add_one, List.getElem?_eq_getElem hi]
    rfl
theorem dec_key (b : ByteArray) (h : b.size ≤ 2000) : meta_Decode.f ⟨(B64.enc b.data.toList).toArray⟩ = some (b, 0) := by
  have e : (⟨(B64.enc b.data.toList).toArray⟩ : ByteArray).size = (b.size + 2) / 3 * 4 := by
    show (B64.enc b.data.toList).toArray.size = _
    rw [List.size_toArray, B64.enc_length, ← Lib.size_eq]
  unfold meta_Decode.f
  rw [if_pos (by rw [e]; omega), B64.dec_of _ b.data.toList rfl]
theorem size_read (z : Int) (h : 0 ≤ z ∧ z ≤ 2147483647) : meta_size.f ⟨(Lib.decDigits z.toNat).toArray⟩ = some (z, true) := by
  have hl := Text.dec_len 9 z.toNat (by omega)
  have hv : digits_Parse.val (Lib.decDigits z.toNat) = (z, 0) := by
    unfold digits_Parse.val
    have hd : digits_Parse.dig (Lib.decDigits z.toNat) = true := List.all_eq_true.2 (fun c hc => decide_eq_true (Text.dec_dig _ _ (Nat.lt_succ_self _) c hc))
    have hp : Lib.parseUintB 64 (Lib.decDigits z.toNat) = .ok z.toNat := by
      unfold Lib.parseUintB
      rw [if_neg (Text.dec_ne _)]
      exact Text.dec_parse _ _ (Nat.lt_succ_self _) (by omega)
    rw [if_pos hd, if_neg (Text.dec_ne _), if_neg (by omega), hp]
    show (((z.toNat : Nat) : Int), (0 : Int)) = _
    congr 1
    omega
  unfold meta_size.f
  rw [parse_tot _ (by show (Lib.decDigits _).toArray.size ≤ 1000; rw [List.size_toArray]; omega)]
  show (some (digits_Parse.val (Lib.decDigits z.toNat))).bind _ = _
  rw [hv]
  simp only [Option.bind_some, if_true]
  rw [show wrap64 z = z from by unfold wrap64; omega, decide_eq_true (by omega)]
section
variable {k : Nat} {o : Int} {key : ByteArray} {sz : Int} {L : List S61} (hk : 3000 ≤ k) (hL : L.length ≤ 200) (hks : key.size ≤ 1000) (hts : ∀ x ∈ L, x.f1.size ≤ 1000) (hs : meta_shape.f k o key sz L = some 0)
include hk hL hks hts hs
theorem j3_is (h5 : o ≠ 5) (k' : Nat) (hk' : 1000 ≤ k') : meta_words.j3 k' o (L.map fw) o (keyW key (has L 98)) sz = some (o, key, sz, L, true) := by
  obtain ⟨j, rfl⟩ : ∃ j, k' = (L.length + 1 + (j + 1)) + 1 := ⟨k' - L.length - 3, by omega⟩
  have hg : ∀ x ∈ L, 65 ≤ x.f0 ∧ x.f0 ≤ 122 := fun x hx => (flags_ok hk hL hks hts hs x hx).1
  obtain ⟨t, hf⟩ := find_eq o (keyW key (has L 98)) sz L 98
  have := words_l0 o (keyW key (has L 98)) sz L hL hg L.length (j + 1) 0 (by omega)
  simp only [meta_words.j3, List.length_map]
  rw [show ((0 : Nat) : Int) = 0 from rfl, List.take_zero] at this
  rw [this, hf]
  simp only [Option.bind_some]
  unfold keyW
  cases hb : has L 98 with
  | true =>
    simp only [if_true, meta_words.j5]
    rw [show (o != 5) = true from bne_iff_ne.2 h5, dec_key key (by omega)]
    simp only [if_true, Option.bind_some]
  | false =>
    simp only [Bool.false_eq_true, if_false, meta_words.j5]
theorem words_is : meta_words.f k o (restOf o key sz L) = some (o, key, sz, L, true) := by
  obtain ⟨hw1, hw2, hw3⟩ := size_is hk hL hks hts hs
  obtain ⟨j, rfl⟩ : ∃ j, k = j + 3 := ⟨k - 3, by omega⟩
  unfold meta_words.f
  by_cases h5 : o = 5
  · have hn := noop_nil hk hL hks hts hs h5
    obtain ⟨_, hkb, hc, _⟩ := shape_zero hs
    have hz : sz = 0 := by omega
    have hkey : key = ⟨#[]⟩ := by
      unfold keyB at hkb
      rw [if_pos h5] at hkb
      have : key.toList = [] := by simpa using hkb
      rw [ByteArray.toList_eq] at this
      exact ba_ext _ _ this
    subst hn hz hkey h5
    rw [if_pos rfl]
    obtain ⟨j, rfl⟩ : ∃ i, j = i + 3 := ⟨j - 3, by omega⟩
    rfl
  · rw [if_neg h5]
    have hr : restOf o key sz L = keyW key (has L 98) :: ((if o = 2 then [⟨(Lib.decDigits (IntKind.u64.wrap sz).toNat).toArray⟩] else []) ++ L.map fw) := by
      unfold restOf
      rw [if_neg h5]
      rfl
    rw [hr, decide_eq_true (by simp <;> omega)]
    simp only [meta_words.j0, if_true]
    rw [if_pos (by simp <;> omega), if_pos (by simp <;> omega), List.drop_one, List.tail_cons, show rdOf ByteArray.empty (keyW key (has L 98) :: ((if o = 2 then [⟨(Lib.decDigits (IntKind.u64.wrap sz).toNat).toArray⟩] else []) ++ L.map fw)) 0 = keyW key (has L 98) from rfl]
    simp only [meta_words.j1]
    by_cases h2 : o = 2
    · rw [if_pos h2, if_pos h2, decide_eq_true (by simp <;> omega)]
      simp only [meta_words.j2, if_true]
      rw [if_pos (by simp <;> omega), show rdOf ByteArray.empty ([⟨(Lib.decDigits (IntKind.u64.wrap sz).toNat).toArray⟩] ++ L.map fw) 0 = ⟨(Lib.decDigits (IntKind.u64.wrap sz).toNat).toArray⟩ from rfl, hw1, size_read sz ⟨hw2, hw3⟩]
      simp only [Option.bind_some, if_true]
      rw [if_pos (by simp <;> omega)]
      exact j3_is hk hL hks hts hs h5 j (by omega)
    · have hz : sz = 0 := by
        obtain ⟨_, _, hc, _⟩ := shape_zero hs
        omega
      rw [if_neg h2, if_neg h2, List.nil_append]
      simp only [meta_words.j2, Bool.false_eq_true, if_false]
      have := j3_is hk hL hks hts hs h5 j (by omega)
      rw [hz] at this ⊢
      exact this
theorem parse_line (h : (lineOf (nameOf o :: restOf o key sz L)).size ≤ 160) : meta_Parse.f k (lineOf (nameOf o :: restOf o key sz L)) = some (o, key, sz, L, 0) := by
  obtain ⟨ho, _⟩ := shape_zero hs
  unfold meta_Parse.f
  rw [if_neg (by omega), split_line hk hL hks hts hs h]
  simp only [Option.bind_some]
  rw [named_up o ho k (by omega)]
  simp only [Option.bind_some]
  rw [if_neg (by omega), words_is hk hL hks hts hs]
  simp only [Option.bind_some, if_true]
  rw [write_line hk hL hks hts hs, if_neg (by omega)]
  simp only [Option.bind_some, and_self, if_true]
end
end Go.Proofs.YtfboejlemnfndaaGreatDoor.XMb
end
section
namespace Go.Proofs.YtfboejlemnfndaaGreatDoor.XMb
open Go.RowKit Go.Proofs.YtfboejlemnfndaaGreatDoorW.PrintWords Go.Proofs.YtfboejlemnfndaaGreatDoorW.PrintLast Go.Proofs.YtfboejlemnfndaaGreatDoorW.PrintMore
set_option linter.unusedVariables false
set_option linter.unusedSimpArgs false

def Small (r : Int × ByteArray × Int × List S61 × Bool) : Prop := r.2.1.size ≤ 1000 ∧ r.2.2.2.1.length ≤ 200 ∧ ∀ x ∈ r.2.2.2.1, x.f1.size ≤ 1000
theorem none_small (b : Bool) : Small (0, ⟨#[]⟩, 0, [], b) := ⟨show (⟨#[]⟩ : ByteArray).size ≤ 1000 by decide, by simp, fun x hx => by cases hx⟩
theorem dec_tot (s : ByteArray) (h : s.size ≤ 1000) : ∃ b e, meta_Decode.f s = some (b, e) ∧ b.size ≤ 1000 := by
  unfold meta_Decode.f
  rw [if_pos (by omega)]
  cases hd : B64.dec s.data.toList with
  | none => exact ⟨_, _, rfl, by decide⟩
  | some b =>
    refine ⟨_, _, rfl, ?_⟩
    have e := B64.dec_some _ _ hd
    have hl := B64.enc_length b
    rw [e, ← Lib.size_eq] at hl
    show b.toArray.size ≤ 1000
    rw [List.size_toArray]
    omega
theorem j5_tot (o : Int) (key : ByteArray) (sz : Int) (L : List S61) (hk : key.size ≤ 1000) (hL : L.length ≤ 200) (ht : ∀ x ∈ L, x.f1.size ≤ 1000) (j : Nat) (b : Bool) : ∃ r, meta_words.j5 (j + 1) b o key sz L = some r ∧ Small r := by
  simp only [meta_words.j5]
  cases b with
  | false => exact ⟨_, rfl, hk, hL, ht⟩
  | true =>
    obtain ⟨d, e, hd, hds⟩ := dec_tot key hk
    simp only [if_true, hd, Option.bind_some]
    split
    · exact ⟨_, rfl, hds, hL, ht⟩
    · exact ⟨_, rfl, none_small _⟩
theorem l0_tot (o : Int) (key : ByteArray) (sz : Int) (ws : List ByteArray) (hk : key.size ≤ 1000) (hw : ws.length ≤ 200) (hs : ∀ w ∈ ws, w.size ≤ 1000) : ∀ (n j i : Nat) (L : List S61), n + i = ws.length → L.length ≤ i → (∀ x ∈ L, x.f1.size ≤ 1000) →
    ∃ r, meta_words.l0 (n + 2 + j) o ws (ws.length : Int) (i : Int) o key sz L = some r ∧ Small r
  | 0, j, i, L, hn, hL, ht => by
    rw [show 0 + 2 + j = (j + 1) + 1 from by omega]
    obtain ⟨t, hf⟩ := find_eq o key sz L 98
    simp only [meta_words.l0]
    rw [if_neg (by omega), hf]
    simp only [Option.bind_some]
    split
    · exact j5_tot o key sz L hk (by omega) ht j _
    · exact j5_tot o key sz L hk (by omega) ht j _
  | n + 1, j, i, L, hn, hL, ht => by
    have hi : i < ws.length := by omega
    have e : rdOf ByteArray.empty ws (i : Int) = ws[i] := by
      unfold rdOf
      rw [Int.toNat_natCast, List.getD_eq_getElem?_getD, List.getElem?_eq_getElem hi]
      rfl
    have hwi := hs _ (List.getElem_mem hi)
    rw [show n + 1 + 2 + j = (n + 2 + j) + 1 from by omega]
    simp only [meta_words.l0]
    rw [if_pos (by omega), if_pos (by omega), if_pos (by omega), e]
    split
    · exact ⟨_, rfl, none_small _⟩
    · rename_i hne
      have h1 : 1 ≤ (ws[i]).size := by
        rw [ByteArray.toList_eq] at hne
        rw [Lib.size_eq]
        exact List.length_pos_iff.2 hne
      rw [if_pos (by omega), if_pos (by omega), if_pos (by omega), wrap_at i (by omega)]
      refine l0_tot o key sz ws hk hw hs n j (i + 1) _ (by omega) (by rw [List.length_append, List.length_singleton]; omega) (fun x hx => ?_)
      rcases List.mem_append.1 hx with hx | hx
      · exact ht x hx
      · obtain rfl := List.mem_singleton.1 hx
        show ((ws[i]).extract 1 (ws[i]).size).size ≤ 1000
        rw [ByteArray.size_extract]
        omega
theorem j3_tot (o : Int) (key : ByteArray) (sz : Int) (ws : List ByteArray) (hk : key.size ≤ 1000) (hw : ws.length ≤ 200) (hs : ∀ w ∈ ws, w.size ≤ 1000) (k : Nat) (h : 500 ≤ k) : ∃ r, meta_words.j3 k o ws o key sz = some r ∧ Small r := by
  obtain ⟨j, rfl⟩ : ∃ j, k = (ws.length + 2 + j) + 1 := ⟨k - ws.length - 3, by omega⟩
  simp only [meta_words.j3]
  exact l0_tot o key sz ws hk hw hs ws.length j 0 [] (by omega) (by simp) (fun x hx => by cases hx)
theorem size_tot (s : ByteArray) (hs : s.size ≤ 1000) : ∃ a b, meta_size.f s = some (a, b) := by
  unfold meta_size.f
  rw [parse_tot s hs]
  simp only [Option.bind_some]
  split
  · exact ⟨_, _, rfl⟩
  · exact ⟨_, _, rfl⟩
theorem j1_tot (o : Int) (key : ByteArray) (ws : List ByteArray) (hk : key.size ≤ 1000) (hw : ws.length ≤ 200) (hs : ∀ w ∈ ws, w.size ≤ 1000) (k : Nat) (h : 600 ≤ k) : ∃ r, meta_words.j1 k o ws o key 0 = some r ∧ Small r := by
  obtain ⟨k, rfl⟩ : ∃ j, k = j + 2 := ⟨k - 2, by omega⟩
  simp only [meta_words.j1]
  split
  · cases ws with
    | nil =>
      simp only [List.length_nil, meta_words.j2]
      exact j3_tot o key 0 [] hk hw hs k (by omega)
    | cons w ws =>
      rw [decide_eq_true (by simp <;> omega)]
      simp only [meta_words.j2, if_true]
      rw [if_pos (by simp <;> omega), show rdOf ByteArray.empty (w :: ws) 0 = w from rfl]
      obtain ⟨a, b, hab⟩ := size_tot w (hs w List.mem_cons_self)
      rw [hab]
      simp only [Option.bind_some]
      cases b with
      | false => exact ⟨_, rfl, none_small _⟩
      | true =>
        simp only [if_true]
        rw [if_pos (by simp <;> omega)]
        exact j3_tot o key a ws hk (by simp at hw; omega) (fun x hx => hs x (List.mem_cons_of_mem _ hx)) k (by omega)
  · simp only [meta_words.j2, Bool.false_eq_true, if_false]
    exact j3_tot o key 0 ws hk hw hs k (by omega)
theorem words_tot (o : Int) (ws : List ByteArray) (hw : ws.length ≤ 200) (hs : ∀ w ∈ ws, w.size ≤ 1000) (k : Nat) (h : 700 ≤ k) : ∃ r, meta_words.f k o ws = some r ∧ Small r := by
  obtain ⟨k, rfl⟩ : ∃ j, k = j + 1 := ⟨k - 1, by omega⟩
  have h0 : (⟨#[]⟩ : ByteArray).size ≤ 1000 := by decide
  unfold meta_words.f
  split
  · simp only [meta_words.j0, Bool.false_eq_true, if_false]
    exact j1_tot o _ ws h0 hw hs k (by omega)
  · cases ws with
    | nil =>
      simp only [List.length_nil, meta_words.j0]
      exact j1_tot o _ [] h0 hw hs k (by omega)
    | cons w ws =>
      rw [decide_eq_true (by simp <;> omega)]
      simp only [meta_words.j0, if_true]
      rw [if_pos (by simp <;> omega), if_pos (by simp <;> omega), show rdOf ByteArray.empty (w :: ws) 0 = w from rfl]
      exact j1_tot o w ws (hs w List.mem_cons_self) (by simp at hw; omega) (fun x hx => hs x (List.mem_cons_of_mem _ hx)) k (by omega)
theorem named_l0 (s : ByteArray) (T : List S63) (hT : T.length = 7) : ∀ (n k i : Nat), n + i = 7 → n < k → ∃ r, meta_named.l0 k s T (T.length : Int) (i : Int) = some r
  | n, 0, i, _, h => absurd h (by omega)
  | 0, k + 1, i, hn, _ => by
    simp only [meta_named.l0]
    rw [if_neg (by omega)]
    exact ⟨_, rfl⟩
  | n + 1, k + 1, i, hn, hk => by
    obtain ⟨r, hr⟩ := named_l0 s T hT n k (i + 1) (by omega) (by omega)
    simp only [meta_named.l0]
    rw [if_pos (by omega), if_pos (by omega), if_pos (by omega), wrap_at i (by omega), hr]
    repeat' split
    all_goals exact ⟨_, rfl⟩
theorem named_tot (s : ByteArray) (k : Nat) (h : 20 ≤ k) : ∃ r, meta_named.f k s = some r := by
  obtain ⟨T, hT, hT7, _⟩ := ops_tab
  unfold meta_named.f
  rw [hT]
  exact named_l0 s T hT7 7 k 0 (by omega) (by omega)
theorem split_sizes (sep : ByteArray) (B : Nat) : ∀ (n : Nat) (s : ByteArray), s.size ≤ B → ∀ w ∈ Lib.splitB sep 0 n s, w.size ≤ B
  | 0, s, h, w, hw => by
    obtain rfl := List.mem_singleton.1 hw
    exact h
  | n + 1, s, h, w, hw => by
    unfold Lib.splitB at hw
    split at hw
    · obtain rfl := List.mem_singleton.1 hw
      exact h
    · rcases List.mem_cons.1 hw with rfl | hw
      · rw [ByteArray.size_extract]; omega
      · exact split_sizes sep B n _ (by rw [ByteArray.size_extract]; omega) w hw
theorem split_ne (sep : ByteArray) (n : Nat) (s : ByteArray) : Lib.splitB sep 0 n s ≠ [] := by
  cases n with
  | zero => simp [Lib.splitB]
  | succ n => unfold Lib.splitB; split <;> simp
theorem write_tot (o : Int) (key : ByteArray) (sz : Int) (L : List S61) (hk : key.size ≤ 1000) (hL : L.length ≤ 200) (ht : ∀ x ∈ L, x.f1.size ≤ 1000) (k : Nat) (h : 3000 ≤ k) :
    ∃ t e, meta_Write.f k o key sz L = some (t, e) ∧ (e = 0 → meta_shape.f k o key sz L = some 0) := by
  obtain ⟨e, he⟩ := shape_tot k o key sz L hk ht (by omega)
  by_cases h0 : e = 0
  · subst h0
    rw [write_line h hL hk ht he]
    split
    · exact ⟨_, _, rfl, fun h => absurd h (by decide)⟩
    · exact ⟨_, _, rfl, fun _ => he⟩
  · refine ⟨⟨#[]⟩, e, ?_, fun h => absurd h h0⟩
    unfold meta_Write.f
    rw [he]
    simp only [Option.bind_some]
    rw [if_neg h0]
theorem parse_all (s : ByteArray) (k : Nat) (h : 3000 ≤ k) : ∃ o key sz L e, meta_Parse.f k s = some (o, key, sz, L, e) ∧
    (e = 0 → L.length ≤ 200 ∧ key.size ≤ 1000 ∧ (∀ x ∈ L, x.f1.size ≤ 1000) ∧ meta_Write.f k o key sz L = some (s, 0) ∧ meta_shape.f k o key sz L = some 0) ∧ (e ≠ 0 → o = 0 ∧ key = ⟨#[]⟩ ∧ sz = 0 ∧ L = []) := by
  unfold meta_Parse.f
  split
  · exact ⟨_, _, _, _, _, rfl, fun h => absurd h (by decide), fun _ => ⟨rfl, rfl, rfl, rfl⟩⟩
  · rename_i hs
    have hsp : strings_Split.f s ⟨#[32]⟩ = some (Lib.splitB ⟨#[32]⟩ 0 (Lib.countB s ⟨#[32]⟩) s) := by
      unfold strings_Split.f
      rw [if_pos ⟨by omega, by decide⟩]
    have hne := split_ne ⟨#[32]⟩ (Lib.countB s ⟨#[32]⟩) s
    have hsz := split_sizes ⟨#[32]⟩ 1000 (Lib.countB s ⟨#[32]⟩) s (by omega)
    have hlen : (Lib.splitB ⟨#[32]⟩ 0 (Lib.countB s ⟨#[32]⟩) s).length ≤ 200 := by
      have h1 := Lib.splitB_length_le ⟨#[32]⟩ 0 (Lib.countB s ⟨#[32]⟩) s
      have h2 := Lib.count_le s.data.toList (⟨#[32]⟩ : ByteArray).data.toList
      have h3 : Lib.countB s ⟨#[32]⟩ ≤ s.data.toList.length + 1 := h2
      rw [← Lib.size_eq] at h3
      omega
    rw [hsp]
    simp only [Option.bind_some]
    cases hws : Lib.splitB ⟨#[32]⟩ 0 (Lib.countB s ⟨#[32]⟩) s with
    | nil => exact absurd hws hne
    | cons w0 rest =>
      rw [hws] at hsz hlen
      obtain ⟨n, hn⟩ := named_tot w0 k (by omega)
      simp only [hn, Option.bind_some]
      split
      · exact ⟨_, _, _, _, _, rfl, fun h => absurd h (by decide), fun _ => ⟨rfl, rfl, rfl, rfl⟩⟩
      · obtain ⟨⟨m1, m2, m3, m4, m5⟩, hm, hs1, hs2, hs3⟩ := words_tot n rest (by simp at hlen; omega) (fun w hw => hsz w (List.mem_cons_of_mem _ hw)) k (by omega)
        rw [hm]
        simp only [Option.bind_some]
        split
        · obtain ⟨t, e, ht, he⟩ := write_tot m1 m2 m3 m4 hs1 hs2 hs3 k h
          rw [ht]
          simp only [Option.bind_some]
          split
          · rename_i hc
            obtain ⟨rfl, rfl⟩ := hc
            exact ⟨_, _, _, _, _, rfl, fun _ => ⟨hs2, hs1, hs3, ht, he rfl⟩, fun h => absurd rfl h⟩
          · exact ⟨_, _, _, _, _, rfl, fun h => absurd h (by decide), fun _ => ⟨rfl, rfl, rfl, rfl⟩⟩
        · exact ⟨_, _, _, _, _, rfl, fun h => absurd h (by decide), fun _ => ⟨rfl, rfl, rfl, rfl⟩⟩
end Go.Proofs.YtfboejlemnfndaaGreatDoor.XMb
end
section
namespace Go.Proofs.YtfboejlemnfndaaGreatDoor.XMb
open Go.RowKit Go.Proofs.YtfboejlemnfndaaGreatDoorW.PrintWords Go.Proofs.YtfboejlemnfndaaGreatDoorW.PrintLast Go.Proofs.YtfboejlemnfndaaGreatDoorW.PrintMore
set_option linter.unusedVariables false
set_option linter.unusedSimpArgs false

def back (x : S61) : S59 := ⟨x.f0, x.f1⟩
theorem from_l0 (o : Int) (key : ByteArray) (sz : Int) (l : List S61) (hl : l.length ≤ 200) : ∀ (n k i : Nat), n + i = l.length → n < k →
    tallboylaw27_From.l0 k (i : Int) o key sz l o key sz ((l.take i).map back) = some (o, key, sz, l.map back)
  | n, 0, i, _, h => absurd h (by omega)
  | 0, k + 1, i, h, _ => by
    simp only [tallboylaw27_From.l0]
    rw [if_neg (by omega), List.take_of_length_le (by omega)]
  | n + 1, k + 1, i, h, hk => by
    have ih := from_l0 o key sz l hl n k (i + 1) (by omega) (by omega)
    have e : (l.take (i + 1)).map back = (l.take i).map back ++ [⟨(rd_T61 l (i : Int)).f0, (rd_T61 l (i : Int)).f1⟩] := by
      have hi : i < l.length := by omega
      rw [List.take_add_one, List.getElem?_eq_getElem hi, List.map_append]
      congr 1
      unfold rd_T61
      rw [Int.toNat_natCast, List.getD_eq_getElem?_getD, List.getElem?_eq_getElem hi]
      rfl
    simp only [tallboylaw27_From.l0]
    rw [if_pos (by omega), if_pos (by omega), if_pos (by rw [List.length_map, List.length_take]; omega), wrap_at i (by omega), ← e]
    exact ih
theorem from_eq (o : Int) (key : ByteArray) (sz : Int) (l : List S61) (hl : l.length ≤ 200) (k : Nat) (hk : 210 ≤ k) : tallboylaw27_From.f k o key sz l = some (o, key, sz, l.map back) :=
  from_l0 o key sz l hl l.length k 0 (by omega) (by omega)
theorem back_conv (l : List S59) : (l.map conv).map back = l := by
  rw [List.map_map]
  exact List.map_id l
theorem same_l0 (o : Int) (key : ByteArray) (sz : Int) (l : List S59) (hl : l.length ≤ 200) : ∀ (n k i : Nat), n + i = l.length → n < k → tallboyref27_Same.l0 k (i : Int) o key sz l o key sz l = some true
  | n, 0, i, _, h => absurd h (by omega)
  | 0, k + 1, i, h, _ => by
    simp only [tallboyref27_Same.l0]
    rw [if_neg (by omega)]
  | n + 1, k + 1, i, h, hk => by
    have ih := same_l0 o key sz l hl n k (i + 1) (by omega) (by omega)
    simp only [tallboyref27_Same.l0]
    rw [if_pos (by omega), if_pos (by omega), if_pos (by omega), if_neg (by simp), wrap_at i (by omega)]
    exact ih
theorem same_self (o : Int) (key : ByteArray) (sz : Int) (l : List S59) (hl : l.length ≤ 200) (k : Nat) (hk : 210 ≤ k) : tallboyref27_Same.f k o key sz l o key sz l = some true := by
  obtain ⟨k, rfl⟩ : ∃ j, k = j + 1 := ⟨k - 1, by omega⟩
  unfold tallboyref27_Same.f
  rw [if_pos rfl, if_pos rfl, if_pos rfl, show ((l.length : Int) != (l.length : Int)) = false from by simp]
  simp only [tallboyref27_Same.j0, Bool.false_eq_true, if_false]
  exact same_l0 o key sz l hl l.length k 0 (by omega) (by omega)
theorem check_of_shape {k : Nat} {o : Int} {key : ByteArray} {sz : Int} {L : List S61} (h : meta_shape.f k o key sz L = some 0) : meta_Check.f k o key sz L = some (if sz > 2000 then 1 else 0) := by
  unfold meta_Check.f
  rw [h]
  simp only [Option.bind_some, if_true]
  split
  · rfl
  · rfl
theorem j1_true (s : ByteArray) : tallboylaw27_MetaBack.j1 3999 s = some true := by
  obtain ⟨o, key, sz, L, e, hp, h0, h1⟩ := parse_all s 3998 (by omega)
  simp only [tallboylaw27_MetaBack.j1, hp, Option.bind_some]
  by_cases he : e = 0
  · obtain ⟨_, _, _, hw, hs⟩ := h0 he
    rw [if_pos he, hw, check_of_shape hs]
    simp only [Option.bind_some, if_true]
    by_cases hz : sz > 2000
    · rw [if_pos hz, if_neg (by decide), decide_eq_true hz]
      simp only [if_true]
    · rw [if_neg hz]
      simp only [if_true]
  · obtain ⟨rfl, rfl, rfl, rfl⟩ := h1 he
    rw [if_neg he, from_eq 0 ⟨#[]⟩ 0 [] (by simp) 3998 (by omega)]
    simp only [Option.bind_some, List.map_nil]
    rw [same_self 0 ⟨#[]⟩ 0 [] (by simp) 3998 (by omega)]
    rfl
theorem j_true (s : ByteArray) (o : Int) (key : ByteArray) (sz : Int) (l : List S59) : tallboylaw27_MetaBack.j0 4000 s true o key sz l = some true := by
  simp only [tallboylaw27_MetaBack.j0, if_true]
theorem law_true (o : Int) (key : ByteArray) (sz : Int) (l : List S59) (s : ByteArray) : tallboylaw27_MetaBack.f 4000 o key sz l s = some true := by
  obtain ⟨g, hg, hG⟩ := great_tot o key sz l 4000 (by omega)
  unfold tallboylaw27_MetaBack.f
  rw [show tallboylaw27_works.f = some true from rfl, hg]
  simp only [Option.bind_some, if_true]
  cases g with
  | true => simp only [if_true]; exact j_true s o key sz l
  | false =>
    obtain ⟨hl, hks, hts⟩ := hG rfl
    simp only [Bool.false_eq_true, if_false]
    by_cases h5 : (s.size : Int) > 5000
    · rw [decide_eq_true h5]
      exact j_true s o key sz l
    · rw [decide_eq_false h5]
      have hL : (l.map conv).length ≤ 200 := by rw [List.length_map]; omega
      have hm : ∀ x ∈ l.map conv, x.f1.size ≤ 1000 := fun x hx => by
        obtain ⟨y, hy, rfl⟩ := List.mem_map.1 hx
        exact hts y hy
      obtain ⟨e, he⟩ := shape_tot 3999 o key sz (l.map conv) hks hm (by omega)
      simp only [tallboylaw27_MetaBack.j0, Bool.false_eq_true, if_false]
      rw [to_eq o key sz l (by omega) 3999 (by omega)]
      simp only [Option.bind_some]
      by_cases h0 : e = 0
      · subst h0
        rw [write_line (by omega) hL hks hm he]
        by_cases h160 : ((lineOf (nameOf o :: restOf o key sz (l.map conv))).size : Int) > 160
        · rw [if_pos h160]
          simp only [Option.bind_some]
          rw [if_neg (by decide)]
          exact j1_true s
        · rw [if_neg h160]
          simp only [Option.bind_some, if_true]
          rw [parse_line (by omega) hL hks hm he (by omega)]
          simp only [Option.bind_some, if_true]
          rw [from_eq o key sz (l.map conv) hL 3999 (by omega), back_conv]
          simp only [Option.bind_some]
          rw [same_self o key sz l (by omega) 3999 (by omega)]
          simp only [Option.bind_some, if_true]
          exact j1_true s
      · have hw : meta_Write.f 3999 o key sz (l.map conv) = some (⟨#[]⟩, e) := by
          unfold meta_Write.f
          rw [he]
          simp only [Option.bind_some]
          rw [if_neg h0]
        rw [hw]
        simp only [Option.bind_some]
        rw [if_neg h0]
        exact j1_true s
end Go.Proofs.YtfboejlemnfndaaGreatDoor.XMb
end
section
namespace Go.Proofs.YtfboejlemnfndaaGreatDoor
open Go.RowKit Go.Proofs.YtfboejlemnfndaaGreatDoorW.PrintWords

def Opens (P : Program) (t : TypeId) {α : Type} (d : Kd α) (Q : α → Prop) : Prop :=
  ∀ (H : Type) (enc : TypeId × Value → H) (w : World) (base : Nat) (spare : Nat → Bool) (held : Bool) (fuel : Nat) (cs : List Value) (x : DataW H × List MemPlace),
    DataW.trod enc P w base spare held fuel t cs = some x → ∃ v, d.K w v cs ∧ Q v
def OpensAt (P : Program) (fs : List Field) (off : Nat) {α : Type} (d : Kd α) (Q : α → Prop) : Prop :=
  ∀ (H : Type) (enc : TypeId × Value → H) (w : World) (base : Nat) (spare : Nat → Bool) (held : Bool) (n : Nat) (cs : List Value), cs.length = off + d.sz →
    (∀ f ∈ fs, ∃ x, DataW.trod enc P w base spare held n f.type ((cs.drop f.offset).take (P.cellsOf f.type)) = some x) → ∃ v, d.K w v (cs.drop off) ∧ Q v
section
variable {P : Program} {t e : TypeId} {α β : Type} {d : Kd α} {d0 : Kd α} {d1 : Kd β} {Q : α → Prop} {Q1 : β → Prop}
theorem opens_int {k : IntKind} (ht : P.underlying t = some (.int k)) : Opens P t (Kd.int k) (fun n => (Lit.int k n).wf = true) := by
  intro H enc w base spare held fuel cs x h
  obtain ⟨n, rfl, _, hw⟩ := DataW.trod_int ht h
  exact ⟨n, rfl, hw⟩
theorem opens_bool (ht : P.underlying t = some .bool) : Opens P t Kd.bool (fun _ => True) := by
  intro H enc w base spare held fuel cs x h
  obtain ⟨n, rfl, _⟩ := DataW.trod_bool ht h
  exact ⟨n, rfl, trivial⟩
theorem opens_string (ht : P.underlying t = some .string) : Opens P t Kd.string (fun s => s.size ≤ maxLen) := by
  intro H enc w base spare held fuel cs x h
  obtain ⟨s, rfl, _, hs⟩ := DataW.trod_string ht h
  exact ⟨s, rfl, hs⟩
theorem opens_iso {γ : Type} (h : Opens P t d Q) (f : γ → α) (g : α → γ) (hg : ∀ a, f (g a) = a) : Opens P t (Kd.iso d f) (fun b => Q (f b)) := by
  intro H enc w base spare held fuel cs x hx
  obtain ⟨v, hv, hq⟩ := h H enc w base spare held fuel cs x hx
  exact ⟨g v, (show d.K w (f (g v)) cs by rw [hg]; exact hv), show Q (f (g v)) by rw [hg]; exact hq⟩
theorem opensAt_one {f : Field} {off : Nat} (ho : f.offset = off) (hc : P.cellsOf f.type = d.sz) (h : Opens P f.type d Q) : OpensAt P [f] off d Q := by
  intro H enc w base spare held n cs hl hf
  obtain ⟨x, hx⟩ := hf f List.mem_cons_self
  rw [ho, hc, List.take_of_length_le (by rw [List.length_drop]; omega)] at hx
  exact h H enc w base spare held n _ x hx
theorem opensAt_cons {f : Field} {fs : List Field} {off : Nat} (ho : f.offset = off) (hc : P.cellsOf f.type = d0.sz) (h0 : Opens P f.type d0 Q) (h1 : OpensAt P fs (off + d0.sz) d1 Q1) :
    OpensAt P (f :: fs) off (Kd.pair d0 d1) (fun v => Q v.1 ∧ Q1 v.2) := by
  intro H enc w base spare held n cs hl hf
  have hsz : (Kd.pair d0 d1).sz = d0.sz + d1.sz := rfl
  obtain ⟨x, hx⟩ := hf f List.mem_cons_self
  rw [ho, hc] at hx
  obtain ⟨a, ha, hq⟩ := h0 H enc w base spare held n _ x hx
  obtain ⟨b, hb, hq1⟩ := h1 H enc w base spare held n cs (by omega) (fun g hg => hf g (List.mem_cons_of_mem _ hg))
  refine ⟨(a, b), ⟨_, _, ?_, ha, hb⟩, hq, hq1⟩
  rw [← List.drop_drop]
  exact (List.take_append_drop _ _).symm
theorem opens_struct {fs : List Field} (ht : P.underlying t = some (.struct fs.toArray)) (hc : P.cellsOf t = d.sz) (h : OpensAt P fs 0 d Q) : Opens P t d Q := by
  intro H enc w base spare held fuel cs x hx
  obtain ⟨xs, n, _, _, hl, hlen, hf⟩ := DataW.trod_struct ht hx
  have := h H enc w base spare held n cs (by omega) (by
    intro f hm
    obtain ⟨i, hi, rfl⟩ := List.mem_iff_getElem.1 hm
    have e := hf i fs[i] (by rw [List.getElem?_toArray, List.getElem?_eq_getElem hi])
    rw [List.size_toArray] at hlen
    rw [List.getElem?_eq_getElem (by omega)] at e
    exact ⟨_, e⟩)
  simpa using this
theorem list_of {R : Nat → α → Prop} : ∀ n : Nat, (∀ i, i < n → ∃ v, R i v) → ∃ xs : List α, xs.length = n ∧ ∀ i v, xs[i]? = some v → R i v
  | 0, _ => ⟨[], rfl, fun i v h => by simp at h⟩
  | n + 1, h => by
    obtain ⟨xs, hl, hx⟩ := list_of n fun i hi => h i (by omega)
    obtain ⟨v, hv⟩ := h n (by omega)
    refine ⟨xs ++ [v], by rw [List.length_append, hl]; rfl, fun i u hu => ?_⟩
    rcases Nat.lt_or_ge i xs.length with hi | hi
    · rw [List.getElem?_append_left hi] at hu; exact hx i u hu
    · rw [List.getElem?_append_right hi] at hu
      rcases Nat.eq_zero_or_pos (i - xs.length) with h0 | h0
      · rw [h0] at hu
        obtain rfl : v = u := by simpa using hu
        rw [show i = n from by omega]; exact hv
      · rw [List.getElem?_eq_none (by simp; omega)] at hu; cases hu
theorem opens_slice (ht : P.underlying t = some (.slice e)) (hc : P.cellsOf e = d.sz) (h : Opens P e d Q) : Opens P t (Kd.slice e d) (fun xs => (∀ x ∈ xs, Q x) ∧ xs.length ≤ maxLen) := by
  intro H enc w base spare held fuel cs x hx
  rcases DataW.trod_slice ht hx with ⟨rfl, _⟩ | ⟨a, len, cap, elems, rest, n, _, rfl, rfl, hb, hl, hm, hlen, hel, _, _⟩
  · exact ⟨[], ⟨none, 0, rfl, Nat.le_refl _, rfl, Nat.zero_le _, fun h => absurd h (Nat.lt_irrefl 0)⟩, fun x hx => absurd hx List.not_mem_nil, Nat.zero_le _⟩
  · obtain ⟨xs, hxl, hxs⟩ := list_of (R := fun i v => (∃ c : List Value, c.length = d.sz ∧ d.K w v c ∧ ∀ j u, c[j]? = some u → w.cell? (a.add (i * d.sz + j)) = some u) ∧ Q v) len (by
      intro i hi
      have e1 := hel i hi
      rw [List.getElem?_eq_getElem (by omega)] at e1
      obtain ⟨c, hcs, hcd⟩ := Option.bind_eq_some_iff.1 e1
      obtain ⟨v, hv, hq⟩ := h H enc w base spare held n c _ hcd
      obtain ⟨q1, q2, q3⟩ := World.cells?_some hcs
      refine ⟨v, ⟨c, by rw [← hc]; exact q2, hv, fun j u hu => ?_⟩, hq⟩
      have hj : j < P.cellsOf e := by
        rcases Nat.lt_or_ge j c.length with h' | h'
        · omega
        · rw [List.getElem?_eq_none h'] at hu; cases hu
      have := q3 j hj
      rw [Addr.add_add, hc] at this
      rw [this, hu])
    refine ⟨xs, ⟨some a, cap, by rw [hxl], by omega, rfl, by rw [hxl]; unfold maxLen at hm; omega, fun _ => ⟨a, rfl, fun j p hp => (hxs j p hp).1⟩⟩, fun x hx => ?_, by omega⟩
    obtain ⟨i, hi, rfl⟩ := List.mem_iff_getElem.1 hx
    exact (hxs i _ (List.getElem?_eq_getElem hi)).2
end
end Go.Proofs.YtfboejlemnfndaaGreatDoor
end
section
namespace Go.Proofs.YtfboejlemnfndaaGreatDoor.metaBack
open Go.ChangeShapes Go.WideShapes Go.ChangeAt Go.RowKit
open Go.ChangeMaps (open_string shut_string)

theorem own : ownKnob Tryz.prog.godebug = none := by kernel_rfl
theorem laid_met (os : Os) (args : Array Value) : laidMetH Tryz.prog Rows.metaBackRow.laid ((World.laidAll Tryz.prog os Rows.metaBackRow.laid).forCall (fun _ _ => 0) ⟨#[], args, []⟩).memory := by
  rw [MakeChecks.laidMetH_plain _ _ _ (by kernel_rfl)]
  exact laidMet_laidAll _ (by kernel_rfl) (by kernel_rfl)
theorem shaped (os : Os) (args : Array Value) : ((World.laidAll Tryz.prog os Rows.metaBackRow.laid).forCall (fun _ _ => 0) ⟨#[], args, []⟩).Shaped Tryz.prog :=
  World.shaped_of_ZipB (by kernel_rfl) (by kernel_rfl)

theorem laidOut : laidOutB Tryz.prog = true := by kernel_rfl
theorem star : "*" ++ "errors.errorString" = "*errors.errorString" := by decide
theorem star_row (u : TypeId) (h : Tryz.prog.typeName? 3 u = some "*errors.errorString") : u = 161 :=
  typeName_ptr_named (nm := "errors.errorString") (by rw [star]; kernel_rfl) (by kernel_rfl) (by decide) u (by rw [star]; exact h)
theorem vars_of {W : World} (h : laidMetH Tryz.prog Rows.metaBackRow.laid W) (hsh : W.ShapedOpen Tryz.prog) : Vars W := by
  rw [MakeChecks.laidMetH_plain _ _ _ (by kernel_rfl)] at h
  obtain ⟨a0, s0, h0, -, -, -⟩ := laid_sentinel h.tail.tail.tail.tail gRange (ti := 95) (by kernel_rfl) Tryz.underlying95 star_row Tryz.underlying161 Tryz.underlying163 rfl rfl Tryz.underlying9 (by kernel_rfl) (by kernel_rfl)
  obtain ⟨a1, s1, h1, -, -, -⟩ := laid_sentinel h.tail.tail.tail.tail.tail gSyntax (ti := 95) (by kernel_rfl) Tryz.underlying95 star_row Tryz.underlying161 Tryz.underlying163 rfl rfl Tryz.underlying9 (by kernel_rfl) (by kernel_rfl)
  exact ⟨trivial, Lib.tabIs_of_head gPow (by kernel_rfl) Tryz.underlying153 Tryz.underlying34 (by kernel_rfl) (by kernel_rfl) h.tail.tail,
    cell_of_shapedOpen_int (P := Tryz.prog) (g := 1) (t := 3) (zero := #[.int .i64 0]) hsh (of_decide_eq_true (by kernel_rfl)) (by kernel_rfl) rfl (by kernel_rfl) (by kernel_rfl) Tryz.underlying3, ⟨_, _, h1⟩, ⟨_, _, h0⟩⟩
open Go.Proofs.YtfboejlemnfndaaGreatDoorW.PrintWords in
theorem opens_arg : Opens Tryz.prog 24 (Kd.pair (Kd.int .i64) (Kd.pair Kd.string (Kd.pair (Kd.int .i64) (Kd.slice 59 XMb.k59)))) (fun _ => True) := by
  intro H enc w base spare held fuel cs x hx
  have hF : Opens Tryz.prog 59 XMb.k59 _ := opens_iso (opens_struct Tryz.underlying59 (by kernel_rfl) (opensAt_cons rfl (by kernel_rfl) (opens_int Tryz.underlying5) (opensAt_one rfl (by kernel_rfl) (opens_string Tryz.underlying9)))) _ (fun a => ⟨a.1, a.2⟩) (fun _ => rfl)
  obtain ⟨v, hv, _⟩ := opens_struct Tryz.underlying24 (by kernel_rfl) (opensAt_cons rfl (by kernel_rfl) (opens_int Tryz.underlying3) (opensAt_cons rfl (by kernel_rfl) (opens_string Tryz.underlying9) (opensAt_cons rfl (by kernel_rfl) (opens_int Tryz.underlying3) (opensAt_one rfl (by kernel_rfl) (opens_slice Tryz.underlying22 (by kernel_rfl) hF))))) H enc w base spare held fuel cs x hx
  exact ⟨v, hv, trivial⟩
set_option maxRecDepth 100000 in
theorem lifted (os : Os) (started : os.Started) (H : Type) (enc : TypeId × Value → H) (F : Stop.Interp) :
    ReturnsInHanded {} Tryz.checked os 5 .any ((OpenSpec.ofChange Rows.metaBackSpec).preRow enc Tryz.prog Tryz.f5 Rows.metaBackRow.domain false Rows.metaBackRow.laid) (((OpenSpec.ofChange Rows.metaBackSpec).at F).post enc Tryz.prog Tryz.f5 false true false false) := by
  refine returnsInHanded_of_row (C := Tryz.checked) (s := OpenSpec.ofChange Rows.metaBackSpec) own started (by kernel_rfl) Tryz.func5
    (ChangeSpec.witness_shaped (enc := enc) (C := Tryz.checked) (os := os) (s := Rows.metaBackSpec) (X := fun w _ => laidMetH Tryz.prog Rows.metaBackRow.laid w) false (World.laidAll Tryz.prog os Rows.metaBackRow.laid) #[.agg #[.int .i64 0, .string ByteArray.empty, .int .i64 0, .slice none 0 0], .string ByteArray.empty] 8 (World.laidAll_os _ _ _)
      (shaped os _) (by kernel_rfl) (by kernel_rfl) (by kernel_rfl) (laid_met os _)) ?_
  intro W base args ds gs before hval0 hW _ _ hsz0 hL hsh _
  have hsz : (DataW.weightsEach Tryz.prog (Tryz.f5.params.toList ++ Rows.metaBackSpec.plain.varTypes Tryz.prog) (ds ++ gs)).all (· ≤ reachBytes) = true := hsz0
  have hval : ∀ (j : Nat) t v, Tryz.f5.params[j]? = some t → args[j]? = some v → Value.okWide Tryz.prog W .any base t v := hval0
  have hW' := hW
  obtain ⟨p, q, hA0, hV, rfl, hfz, hnd⟩ := hW
  have hA : DataW.TrodAll enc Tryz.prog W 0 (fun _ => true) true Tryz.f5.params.toList args.toList ds p := hA0
  rw [Tryz.params5] at hA hval hsz
  obtain ⟨v0, vs0, d0, ds0, p0, q0, hargs, rfl, rfl, h0, r0⟩ := trodAll_cons hA
  obtain ⟨v1, vs1, d1, ds1, p1, q1, rfl, rfl, rfl, h1, r1⟩ := trodAll_cons r0
  obtain ⟨rfl, rfl, rfl⟩ := trodAll_nil r1
  obtain rfl : args = #[v0, v1] := by cases args; simp_all
  obtain ⟨rfl, rfl⟩ := trodVars_none hV
  have k0 := h0
  have lt0 : ∀ x ∈ p0, x.block < W.heap.size := by obtain ⟨m, hm⟩ := k0; exact DataW.trod_lt m _ _ _ hm
  obtain ⟨cs, rfl, _⟩ := okWide_struct Tryz.underlying24 (hval 0 24 v0 rfl rfl)
  obtain ⟨line, rfl, rfl, rfl, y1⟩ := open_string Tryz.underlying9 (hval 1 9 v1 rfl rfl) h1
  obtain ⟨fuel, hf⟩ := h0
  obtain ⟨⟨o, key, sz, l⟩, hK, -⟩ := opens_arg H enc W 0 _ true fuel _ _ hf
  obtain ⟨c0, c1, e0, rfl, c2, c3, rfl, rfl, c4, c5, rfl, rfl, A, c, rfl, hc, hC⟩ := hK
  have ecs : cs = #[.int .i64 o, .string key, .int .i64 sz, .slice A l.length c] := Array.toList_inj.1 e0
  subst ecs
  clear hA0 hval0 hsz0 hsz hf e0
  have hv : Vars W := vars_of hL hsh
  refine (XMb.tallboylaw27_MetaBack.calls 4000 o key sz A c l line true W hC hc hv (XMb.law_true o key sz l line)).mono fun e W' ⟨he, bel⟩ => ?_
  subst he
  exact ⟨_, rfl, _, _, _, [], _, [], hW', trodAll_mk1 (shut_bool Tryz.underlying4 _), (trodAll_cons_mk (Below.trod laidOut (by kernel_rfl) (of_decide_eq_true (by kernel_rfl)) k0 bel lt0) (trodAll_cons_mk (shut_string Tryz.underlying9 y1) trodAll_mk0)), rfl, bel.frame _, fun h => by cases h⟩

theorem said : Rows.MetaBackSaid :=
  OpenClaim.holds_of_cond 5 Tryz.f5 rfl rfl rfl rfl rfl rfl rfl ⟨rfl, rfl, rfl, rfl, rfl⟩ rfl rfl rfl rfl rfl (by kernel_rfl) Tryz.func5 (by kernel_rfl)
    (of_decide_eq_true (by kernel_rfl)) (by unfold Func.isWrapper; first | (rw [if_pos (by decide +kernel)]; kernel_rfl) | (rw [if_neg (by decide +kernel)]; exact ⟨rfl, rfl⟩))
    (fun os started H enc _ F => by rw [OpenClaim.pre_eq_preRow]; exact lifted os started H enc F)

theorem plain (f : FuncId) (fn : Func) (hf : Tryz.pinned.checked.prog.funcNamed "tallboy/tallboylaw27.MetaBack" = some f) (hfn : Tryz.pinned.checked.prog.funcs[f]? = some fn) :
    true = Tryz.pinned.checked.prog.looks [] ∧ ∀ (j : Nat) t, fn.params[j]? = some t → Tryz.pinned.checked.prog.wantsStandIn t = false := by
  obtain rfl : f = 5 := Option.some.inj ((show Tryz.prog.funcNamed "tallboy/tallboylaw27.MetaBack" = some 5 by kernel_rfl).symm.trans hf) |>.symm
  obtain rfl : fn = Tryz.f5 := (Option.some.inj (Tryz.func5.symm.trans hfn)).symm
  refine ⟨by kernel_rfl, fun j t ht => ?_⟩
  rw [Tryz.params5] at ht
  have hm := Array.mem_of_getElem? ht
  have hall : (Tryz.f5.params.toList.all fun u => !Tryz.prog.wantsStandIn u) = true := by kernel_rfl
  rw [Tryz.params5] at hall
  exact (show Tryz.prog.wantsStandIn t = false by simpa using List.all_eq_true.1 hall t (by simpa using hm))

theorem card : Rows.MetaBackCardSaid :=
  Claim7.holds_tied_plain_at .later [] _ _ _ _ said (fun _ h => by cases h) (by kernel_rfl) (fun _ h => by cases h) metaBack_row_tie rfl ⟨rfl, rfl⟩ (by kernel_rfl) rfl plain (by kernel_rfl)
end Go.Proofs.YtfboejlemnfndaaGreatDoor.metaBack
namespace Go.Proofs.YtfboejlemnfndaaGreatDoor
theorem metaBack_card : Rows.MetaBackCardSaid := metaBack.card
#print axioms metaBack_card
end Go.Proofs.YtfboejlemnfndaaGreatDoor
end
