/- Put together by wip/pack.py (this session's own program) out of this session's texts; a kit's tool laid the words and the shelf, of which only what is used stands here. Lean checks it. -/
import Derived.Test.YtbggcimjlkjclaaGreatDoorPNm2
import Derived.Laws.AppendOwn
import Derived.Deep.AppendLies
import Derived.Deep.CutRange
import Derived.LoopTactic
import Derived.Deep.LoopGhost
import Derived.Maps.RangeWalk
import Derived.Sort.KeysCollected
import Derived.Sort.OwnSorted
import Derived.OpenShut
import Derived.ChangeArms
import Derived.DataReads
import Derived.DataElems
section
namespace Go.Proofs.YtbggcimjlkjclaaGreatDoor.Mdl
open Go.RowKit Go.Proofs.YtbggcimjlkjclaaGreatDoorW.PrintWords Go.Proofs.YtbggcimjlkjclaaGreatDoorW.PrintLast Go.Proofs.YtbggcimjlkjclaaGreatDoorW.PrintMore Go.WideMaps Go.Proofs.YtbggcimjlkjclaaGreatDoor.XMd
set_option linter.unusedVariables false
set_option linter.unusedSimpArgs false
attribute [local go_sem ↓] Go.wp_at_zero Go.wp_at_succ

structure Hit where
  key : ByteArray
  flags : Int
  value : ByteArray
  cas : Int
def Hit.cells (h : Hit) : List Value := [.string h.key, .int .u32 h.flags, .string h.value, .int .u64 h.cas]
def hitsC (l : List Hit) : List Value := l.flatMap Hit.cells
theorem hitsC_len : ∀ l : List Hit, (hitsC l).length = l.length * 4
  | [] => rfl
  | x :: l => by unfold hitsC; rw [List.flatMap_cons, List.length_append, List.length_cons]; have := hitsC_len l; unfold hitsC at this; rw [this]; show 4 + _ = _; omega
def readOne (k : Cmd) (now ends : Int) (key : ByteArray) (E : Tab) : List Hit × Tab := match get E key now with
  | none => ([], E)
  | some x => ([⟨key, x.flags, x.value, x.cas⟩], if k.kind = 3 ∨ k.kind = 4 then putT E (nm key) (some { x with exp := ends }) else E)
def readsR (k : Cmd) (now ends : Int) : List ByteArray → Tab → List Hit × Tab
  | [], E => ([], E)
  | key :: l, E => ((readOne k now ends key E).1 ++ (readsR k now ends l (readOne k now ends key E).2).1, (readsR k now ends l (readOne k now ends key E).2).2)
def KeysAt (w : World) (g b : Nat) (A : Option Addr) (ks : List ByteArray) : Prop := ∀ j p, ks[j]? = some p → ∃ ad, A = some ad ∧ ad.block ≠ g ∧ ad.block ≠ b ∧ w.cell? (ad.add j) = some (.string p)
theorem KeysAt.mut {w w' : World} {g b : Nat} {A : Option Addr} {ks : List ByteArray} (h : KeysAt w g b A ks) (m : Mut g b w w') : KeysAt w' g b A ks := fun j p hp => by
  obtain ⟨ad, h1, h2, h3, h4⟩ := h j p hp
  exact ⟨ad, h1, h2, h3, m.cell h4 (by rw [add_block]; exact h2) (by rw [add_block]; exact h3)⟩
theorem KeysAt.first {w : World} {g b : Nat} {A : Option Addr} {k : Cmd} {key : ByteArray} {l : List ByteArray} (h : KeysAt w g b A k.keys) (hk : k.keys = key :: l) : KeyAt w g b A k key := by
  obtain ⟨ad, h1, h2, h3, h4⟩ := h 0 key (by rw [hk]; rfl)
  refine ⟨by rw [hk]; simp, ad, h1, ?_, h2, h3⟩
  simpa [Addr.add] using h4
theorem get_small {E : Tab} (hs : ∀ n x, E n = some x → x.value.size ≤ 2000) {key : ByteArray} {now : Int} {x : Ent} (h : get E key now = some x) : x.value.size ≤ 2000 := by
  unfold get at h
  cases he : E (nm key) with
  | none => rw [he] at h; cases h
  | some y =>
    rw [he] at h
    simp only at h
    split at h
    · injection h with h; rw [← h]; exact hs _ _ he
    · cases h
theorem ownsRow_below {w w' : World} {base e size n : Nat} {v : Value} {xs : List Value} (h : w.ownsRow base e size v n xs) (hb : Below w.heap.size w w') : w'.ownsRow base e size v n xs := by
  refine ⟨h.1, ?_⟩
  rcases h.2 with h0 | ⟨g, cap, cur, h1, h2, h3, h4⟩
  · exact .inl h0
  · exact .inr ⟨g, cap, cur, h1, h2, (hb.block g (blk_lt h3)).trans h3, h4⟩
theorem ownsRow_other {w w' : World} {base e size n : Nat} {v : Value} {xs : List Value} (h : w.ownsRow base e size v n xs) (hb : ∀ i, i < w.heap.size → base ≤ i → w'.heap[i]? = w.heap[i]?) : w'.ownsRow base e size v n xs := by
  refine ⟨h.1, ?_⟩
  rcases h.2 with h0 | ⟨g, cap, cur, h1, h2, h3, h4⟩
  · exact .inl h0
  · exact .inr ⟨g, cap, cur, h1, h2, (hb g (blk_lt h3) h2).trans h3, h4⟩
theorem ownBlock_ge {w : World} {base e size n : Nat} {v : Value} {xs : List Value} (h : w.ownsRow base e size v n xs) : ∀ i, v.ownBlock = some i → base ≤ i := by
  intro i hi
  rcases h.2 with ⟨rfl, _⟩ | ⟨g, cap, cur, rfl, h2, _⟩
  · simp [Value.ownBlock] at hi
  · simp [Value.ownBlock] at hi; omega
theorem keepD {w : World} {a : Addr} {v : Value} (h : w.cell? a = some v) : w.drew.cell? a = some v := h
theorem keepAl {w : World} {a : Addr} {v : Value} (h : w.cell? a = some v) (o : Obj) : (w.alloc o).cell? a = some v := keepC ((Below.refl _ w).alloc (Nat.le_refl _) o) h
theorem only4 (B : Nat) (w : World) (a b c d : Value) : Only B w ((((w.setCell ⟨B, 0, none⟩ a).setCell ⟨B, 1, none⟩ b).setCell ⟨B, 2, none⟩ c).setCell ⟨B, 3, none⟩ d) := ((((Only.refl B w).setCell 0 _).setCell 1 _).setCell 2 _).setCell 3 _
theorem Get_c (w : World) (g b c : Nat) (E : Tab) (laid : Int) (key : ByteArray) (now : Int) (hA : At w g b c E laid) (x : Ent) (ok : Bool) (hx : (get E key now).getD Ent.z = x) (ho : (get E key now).isSome = ok) :
    Calls Tryz.prog 10 #[.pointer (some ⟨g, 0, none⟩), .string key, .int .i64 now] w fun e w' => e = .returned (.tuple #[.agg #[.string x.value, .int .u32 x.flags, .int .i64 x.exp, .int .u64 x.cas], .bool ok]) ∧ Below w.heap.size w w' := by
  subst hx ho
  exact Get_calls w g b c E laid key now hA
theorem append_keep {wc w3 : World} {O : Obj} {base e size n : Nat} {vs : Value} {xs : List Value} (h : wc.ownsRow base e size vs n xs) (hg : (wc.alloc O).grownBy w3 vs.ownBlock) {i : Nat} {o : Obj} (hi : wc.heap[i]? = some o) (hne : i < base ∨ ∃ cs t, o = .cells cs t (0, 0) ∧ t ≠ e) : w3.heap[i]? = some o := by
  refine (hg.block i (by have := blk_lt hi; rw [size_al]; omega) (fun e0 => ?_)).trans ((Below.heap_alloc wc O i (blk_lt hi)).trans hi)
  rcases h.2 with ⟨rfl, _⟩ | ⟨r, cap, cur, rfl, h2, h3, _⟩
  · simp [Value.ownBlock] at e0
  · simp [Value.ownBlock] at e0
    subst e0
    rcases hne with h | ⟨cs, t, rfl, ht⟩
    · omega
    · rw [hi] at h3
      injection h3 with h3
      injection h3 with h4 h5
      exact ht h5
theorem At.keep {w w' : World} {g b c : Nat} {E : Tab} {laid : Int} (h : At w g b c E laid) (hb : w'.heap[b]? = w.heap[b]?) (hg : w'.heap[g]? = w.heap[g]?) : At w' g b c E laid :=
  ⟨h.map.same hb, hg.trans h.cell, h.ne, h.small⟩
theorem heap_some {w : World} {i : Nat} (h : i < w.heap.size) : ∃ o, w.heap[i]? = some o := ⟨_, Array.getElem?_eq_getElem h⟩
theorem ownsRow_blk {w w' : World} {base e size n m cap r : Nat} {xs : List Value} (h : w.ownsRow base e size (.slice (some ⟨r, 0, none⟩) m cap) n xs) (hr : w'.heap[r]? = w.heap[r]?) : w'.ownsRow base e size (.slice (some ⟨r, 0, none⟩) m cap) n xs := by
  refine ⟨h.1, ?_⟩
  rcases h.2 with ⟨h0, _⟩ | ⟨g, cap', cur, h1, h2, h3, h4⟩
  · cases h0
  · have h5 := h1
    injection h1 with h1 _ _
    injection h1 with h1
    injection h1 with h1
    subst h1
    exact .inr ⟨r, cap', cur, h5, h2, hr.trans h3, h4⟩
theorem ownsRow_type {w : World} {base e size n m cap r B t : Nat} {xs : List Value} {cs : Array Value} (h : w.ownsRow base e size (.slice (some ⟨r, 0, none⟩) m cap) n xs) (hB : w.heap[B]? = some (.cells cs t (0, 0))) (ht : t ≠ e) : base ≤ r ∧ r ≠ B := by
  rcases h.2 with ⟨h0, _⟩ | ⟨g, cap', cur, h1, h2, h3, h4⟩
  · cases h0
  · injection h1 with h1 _ _
    injection h1 with h1
    injection h1 with h1
    subst h1
    refine ⟨h2, fun e0 => ?_⟩
    rw [e0, hB] at h3
    injection h3 with h3
    injection h3 with _ h3
    exact ht h3
theorem hitsC_snoc (l : List Hit) (h : Hit) : hitsC (l ++ [h]) = hitsC l ++ h.cells := by simp [hitsC]
theorem ownsRow_mut {w w' : World} {base e size n g b : Nat} {v : Value} {xs : List Value} (h : w.ownsRow base e size v n xs) (m : Mut g b w w') (hg : g < base) (hb : b < base) : w'.ownsRow base e size v n xs :=
  ownsRow_other h fun i hi hb' => m.block i hi (by omega) (by omega)
theorem ownsRow_base {w : World} {base base' e size n : Nat} {v : Value} {xs : List Value} (h : w.ownsRow base e size v n xs) (hb : base' ≤ base) : w.ownsRow base' e size v n xs := by
  refine ⟨h.1, ?_⟩
  rcases h.2 with h0 | ⟨r, cap, cur, h1, h2, h3⟩
  · exact .inl h0
  · exact .inr ⟨r, cap, cur, h1, Nat.le_trans hb h2, h3⟩
structure Rd (w : World) (g b c : Nat) (E : Tab) (laid : Int) (k : Cmd) (now ends : Int) (j : Nat) (wr : World) (hs : List Hit) (E' : Tab) (vs : Value) : Prop where
  at_ : At wr g b (c + j) E' laid
  kept : Mut g b w wr
  row : wr.ownsRow (w.heap.size + 2) 50 4 vs hs.length (hitsC hs)
  blk : wr.heap[w.heap.size + 1]? = some (.cells #[.int .i64 1, vs, .int .u64 0] 36)
  res : wr.heap[w.heap.size]? = some (.cells #[.int .i64 0, .slice none 0 0, .int .u64 0] 36)
  done : readsR k now ends k.keys E = (hs ++ (readsR k now ends (k.keys.drop j) E').1, (readsR k now ends (k.keys.drop j) E').2)
  le : hs.length ≤ j
set_option maxHeartbeats 8000000 in
set_option maxRecDepth 100000 in
theorem reads_calls (w : World) (g b c a : Nat) (E : Tab) (laid : Int) (k : Cmd) (A : Option Addr) (cap : Nat) (now ends : Int) (failed : Bool) (old : Ent) (is : Bool)
    (hA : At w g b c E laid) (hc : c + 1000 < maxLen) (ha : ActAt w a g k A cap now ends failed old is) (hag : a ≠ g) (hab : a ≠ b) (hk : KeysAt w g b A k.keys) (hkl : k.keys.length ≤ 100) (hcap : k.keys.length ≤ cap) :
    Calls Tryz.prog 14 #[.pointer (some ⟨a, 0, none⟩)] w fun e w' => ∃ vs,
      e = .returned (.agg #[.int .i64 1, vs, .int .u64 0]) ∧ w'.ownsRow w.heap.size 50 4 vs (readsR k now ends k.keys E).1.length (hitsC (readsR k now ends k.keys E).1) ∧ At w' g b (c + 100) (readsR k now ends k.keys E).2 laid ∧ Mut g b w w' := by
  have hg := hA.lt
  have hgb := hA.ltb
  have hal : a < w.heap.size := blk_lt ha
  have a2 := fresh_cell ha 2
  simp only [List.getElem?_toArray, List.getElem?_cons_zero, List.getElem?_cons_succ] at a2
  have H0 := Aside0.mk hA
  have HAct := Lib.hid ha
  have HK := Lib.hid hk
  clear hA ha hk
  obtain ⟨i0, hi, hz0, hz1, hz2⟩ : ∃ i : TypeInfo, Tryz.prog.info? 50 = some i ∧ i.zero = some (.agg #[.string ⟨#[]⟩, .int .u32 0, .string ⟨#[]⟩, .int .u64 0]) ∧ i.size = 4 ∧ i.bytes = 48 := ⟨_, rfl, rfl, rfl, rfl⟩
  have HI := Lib.hid (show _ ∧ _ ∧ _ ∧ _ from ⟨hi, hz0, hz1, hz2⟩)
  clear hi hz0 hz1 hz2
  go_enter Tryz.func14, Tryz.ntmps14
  go_wp2_with fail
  go_loopg [15] k.keys.length (fun gg v15 wr => ∃ (j : Nat) (hs : List Hit) (E' : Tab) (vs : Value), j ≤ k.keys.length ∧ k.keys.length - j ≤ gg ∧ v15 = .int .i64 j ∧ Aside0 (Rd w g b c E laid k now ends j wr hs E' vs))
  case atStart =>
    refine ⟨0, [], E, .slice none 0 0, Nat.zero_le _, by omega, rfl, ⟨⟨(H0.out.alloc (.cells #[.int .i64 0, .slice none 0 0, .int .u64 0] 36)).alloc (.cells #[.int .i64 1, .slice none 0 0, .int .u64 0] 36), ((Mut.refl g b w).alloc _).alloc _, World.ownsRow_nil _ _ _ _, ?_, ?_, ?_, Nat.le_refl _⟩⟩⟩
    · rw [← size_al w (.cells #[.int .i64 0, .slice none 0 0, .int .u64 0] 36)]
      exact heap_alloc_new _ _
    · exact (Below.heap_alloc _ _ _ (by simp)).trans (heap_alloc_new w _)
    · rw [List.drop_zero]; rfl
  case round =>
    obtain ⟨j, hs, E', vs, hj, hgg, rfl, HR⟩ := hrel
    by_cases hlt : j < k.keys.length
    · have hji : (j : Int) < (k.keys.length : Int) := by omega
      obtain ⟨key, hkey⟩ : ∃ key, k.keys[j]? = some key := ⟨_, List.getElem?_eq_getElem hlt⟩
      obtain ⟨ad, rfl, had1, had2, hkc⟩ := (HK.out.mut HR.out.kept) j key hkey
      have HKEY := Lib.hid hkey
      have hdrop : k.keys.drop j = key :: k.keys.drop (j + 1) := by
        rw [List.drop_eq_getElem_cons hlt]
        rw [List.getElem?_eq_getElem hlt] at hkey
        injection hkey with hkey
        rw [hkey]
      have HD := Lib.hid hdrop
      have ha1 : ActAt wr a g k (some ad) cap now ends failed old is := HR.out.kept.heap HAct.out hag hab
      have a0 := fresh_cell ha1 0
      have a1 := fresh_cell ha1 1
      have a2 := fresh_cell ha1 2
      have a9 := fresh_cell ha1 9
      simp only [List.getElem?_toArray, List.getElem?_cons_zero, List.getElem?_cons_succ] at a0 a1 a2 a9
      have HA1 := Lib.hid ha1
      obtain ⟨x, hx⟩ : ∃ x, (get E' key now).getD Ent.z = x := ⟨_, rfl⟩
      obtain ⟨ok, ho⟩ : ∃ ok, (get E' key now).isSome = ok := ⟨_, rfl⟩
      have HX := Aside0.mk hx
      have HO := Aside0.mk ho
      have hwr : w.heap.size + 1 < wr.heap.size := blk_lt HR.out.blk
      clear hkey hdrop ha1 hx ho
      go_upto_region 5 with fail
      go_cut [6, 7] (fun v6 v7 wc => ∃ B, v6 = .pointer (some ⟨B, 0, none⟩) ∧ v7 = .bool ok ∧ wc.heap[B]? = some (.cells #[.string x.value, .int .u32 x.flags, .int .i64 x.exp, .int .u64 x.cas] 44) ∧ wr.heap.size ≤ B ∧ Aside0 (Below wr.heap.size wr wc))
      case first =>
        have HF := Lib.hid (show _ ∧ _ from ⟨a0, a9⟩)
        clear a0 a1 a2 a9 hkc
        go_region_held3 (fun w' => w'.cell? ⟨a, 0, none⟩ = some (.pointer (some ⟨g, 0, none⟩)) ∧ w'.cell? ⟨a, 9, none⟩ = some (.int .i64 now))
          ((first | (with_reducible exact ⟨keepD HF.out.1, keepD HF.out.2⟩) | (with_reducible exact HF3.out) | (with_reducible exact ⟨keepA HF.out.1 _, keepA HF.out.2 _⟩) | (with_reducible exact ⟨keepAl HF3.out.1 _, keepAl HF3.out.2 _⟩) | (with_reducible exact ⟨(only4 _ _ _ _ _ _).cell HF3.out.1 hne, (only4 _ _ _ _ _ _).cell HF3.out.2 hne⟩)))
          (first | (go_at_call 10; (first | ((with_reducible refine (Get_c _ g b (c + j) E' laid key now (HR.out.at_.alloc _).drew x ok HX.out HO.out).mono ?_); rintro e w' ⟨rfl, hb⟩; have HF3 := Lib.hid (show _ ∧ _ from ⟨keepC hb (keepA HF.out.1 _), keepC hb (keepA HF.out.2 _)⟩); have hne : a ≠ wr.heap.size := (by have := blk_lt HA1.out; omega); have hq := fresh_block (B := wr.heap.size) hb rfl; have q0 := fresh_cell hq 0; have q1 := fresh_cell hq 1; have q2 := fresh_cell hq 2; have q3 := fresh_cell hq 3; simp only [List.getElem?_toArray, List.getElem?_cons_zero, List.getElem?_cons_succ] at q0 q1 q2 q3; have f0 := fresh_frozen hq 0; have f1 := fresh_frozen hq 1; have f2 := fresh_frozen hq 2; have f3 := fresh_frozen hq 3) | ((with_reducible refine (Get_c _ g b (c + j) E' laid key now HR.out.at_.drew x ok HX.out HO.out).mono ?_); rintro e w' ⟨rfl, hb⟩; have HF3 := Lib.hid (show _ ∧ _ from ⟨keepC hb (keepD HF.out.1), keepC hb (keepD HF.out.2)⟩)))))
        all_goals
          go_wp2_with fail
          go_meet
          case rel =>
            first
              | exact ⟨_, rfl, rfl, (wayA hb rfl).1, (wayA (Z := .cells #[] 0) hb rfl).2.1, ⟨(wayA hb rfl).2.2⟩⟩
              | exact ⟨_, rfl, rfl, (wayB hb rfl).1, Nat.le_refl _, ⟨(wayB hb rfl).2.2⟩⟩
      case rest =>
        obtain ⟨B, rfl, rfl, hB, hBn, HW⟩ := hcut
        have hlt5 : B < wc.heap.size := blk_lt hB
        have hA5 := HR.out.at_.below HW.out
        have hM5 := HR.out.kept.then_below HW.out
        have hrow5 := ownsRow_below HR.out.row HW.out
        have hblk5 := (HW.out.block _ hwr).trans HR.out.blk
        have hres5 := (HW.out.block _ (by omega)).trans HR.out.res
        have ha5 : ActAt wc a g k (some ad) cap now ends failed old is := (HW.out.block a (blk_lt HA1.out)).trans HA1.out
        have hBw : w.heap.size + 1 < B := by omega
        have hBg : B ≠ g := by omega
        have hBb : B ≠ b := by omega
        have hBa : B ≠ a := by have := blk_lt HA1.out; omega
        have hdone := HR.out.done
        have hle := HR.out.le
        rw [HD.out] at hdone
        have HDONE := Lib.hid hdone
        have hsm := HR.out.at_.small
        have HSM := Lib.hid hsm
        clear hdone hsm HR HW HA1 a0 a1 a2 a9 hkc HD
        cases ok with
        | false =>
          have hget : get E' key now = none := by
            have := HO.out
            cases hg' : get E' key now with
            | none => rfl
            | some y => rw [hg'] at this; cases this
          have HG := Lib.hid hget
          have HA5 := Aside0.mk hA5
          have HM5 := Aside0.mk hM5
          have HROW5 := Aside0.mk hrow5
          have HBLK5 := Lib.hid hblk5
          have HRES5 := Lib.hid hres5
          clear hget hA5 hM5 hrow5 hblk5 hres5 ha5 hB
          go_wp2
          go_roundg (k.keys.length - (j + 1))
          case measure => omega
          case rel =>
            refine ⟨j + 1, hs, E', vs, by omega, by omega, by go_num, ⟨⟨HA5.out.more (by omega), HM5.out, HROW5.out, HBLK5.out, HRES5.out, ?_, by omega⟩⟩⟩
            have e := HDONE.out
            simp only [readsR, readOne, HG.out, List.nil_append] at e
            exact e
        | true =>
          have hget : get E' key now = some x := by
            have h1 := HO.out
            have h2 := HX.out
            cases hg' : get E' key now with
            | none => rw [hg'] at h1; cases h1
            | some y => rw [hg'] at h2; exact congrArg some h2
          have HG := Lib.hid hget
          have hxs : x.value.size ≤ 2000 := get_small HSM.out hget
          clear hget
          have b0 := fresh_cell hB 0
          have b1 := fresh_cell hB 1
          have b2 := fresh_cell hB 2
          have b3 := fresh_cell hB 3
          have s0 := fresh_cell hblk5 0
          have s1 := fresh_cell hblk5 1
          have s2 := fresh_cell hblk5 2
          simp only [List.getElem?_toArray, List.getElem?_cons_zero, List.getElem?_cons_succ] at b0 b1 b2 b3 s0 s1 s2
          have HA5 := Aside0.mk hA5
          have HM5 := Aside0.mk hM5
          have HROW5 := Aside0.mk hrow5
          have HBLK5 := Lib.hid hblk5
          have HRES5 := Lib.hid hres5
          have Ha5 := Lib.hid ha5
          have HB5 := Lib.hid hB
          clear hA5 hM5 hrow5 hblk5 hres5 ha5 hB
          go_wp2_with (at_builtin; refine wpList_append_own _ rfl _ _ 34 rfl (w.heap.size + 2) 50 i0 (.agg #[.string ⟨#[]⟩, .int .u32 0, .string ⟨#[]⟩, .int .u64 0]) 4 48 Tryz.underlying34 HI.out.1 HI.out.2.1 HI.out.2.2.1 HI.out.2.2.2 rfl (by decide) vs hs.length (hitsC hs) rfl (HROW5.out.alloc _) ⟨wc.heap.size, 0, none⟩ 1 1 (Hit.cells ⟨key, x.flags, x.value, x.cas⟩) rfl rfl ?qc1 ?qc2 ?qc3 ?qc4 ?qc5 ?_)
          case qc1 => exact World.news_of_block (heap_alloc_new wc _)
          case qc2 => intro u hu; simp only [Hit.cells, List.mem_cons, List.not_mem_nil, or_false] at hu; rcases hu with rfl | rfl | rfl | rfl <;> rfl
          case qc3 => unfold maxLen; omega
          case qc4 => omega
          case qc5 => simp; omega
          intro v' w3 hown3 hgrow hnil
          obtain ⟨r, cap', rfl⟩ : ∃ r cap', v' = .slice (some ⟨r, 0, none⟩) (hs.length + 1) cap' := by
            rcases hown3.2 with ⟨_, h⟩ | ⟨r, cap', cur, h, _⟩
            · exact absurd h (by omega)
            · exact ⟨r, cap', h⟩
          have hkeep : ∀ {i : Nat} {o : Obj}, wc.heap[i]? = some o → (i < w.heap.size + 2 ∨ ∃ cs t, o = .cells cs t (0, 0) ∧ t ≠ 50) → w3.heap[i]? = some o := fun h1 h2 => append_keep HROW5.out hgrow h1 h2
          have hA6 : At w3 g b (c + j) E' laid := HA5.out.keep (by obtain ⟨o, ho⟩ := heap_some HA5.out.ltb; rw [hkeep ho (.inl (by omega)), ho]) (by obtain ⟨o, ho⟩ := heap_some HA5.out.lt; rw [hkeep ho (.inl (by omega)), ho])
          have hM6 : Mut g b w w3 := (HM5.out.alloc _).grown hgrow (fun r hr => .inl (by have := ownBlock_ge HROW5.out r hr; omega))
          have hblk6 := hkeep HBLK5.out (.inl (by omega))
          have hres6 := hkeep HRES5.out (.inl (by omega))
          have ha6 : ActAt w3 a g k (some ad) cap now ends failed old is := hkeep Ha5.out (.inl (by omega))
          have hB6 := hkeep HB5.out (.inr ⟨_, _, rfl, by decide⟩)
          have hB3 : B < w3.heap.size := blk_lt hB6
          have hk6 : w3.cell? (ad.add j) = some (.string key) := by
            obtain ⟨ad', e', _, _, h⟩ := (HK.out.mut hM6) j key HKEY.out
            injection e' with e'
            rw [e']; exact h
          clear hkeep hgrow
          have HA6 := Aside0.mk hA6
          have HM6 := Aside0.mk hM6
          have HROW6 := Aside0.mk hown3
          have HBLK6 := Lib.hid hblk6
          have HRES6 := Lib.hid hres6
          have Ha6 := Lib.hid ha6
          have HB6 := Lib.hid hB6
          clear b0 b1 b2 b3 s0 s1 s2 HA5 HM5 HROW5 HBLK5 HRES5 Ha5 HB5
          have s1 := fresh_cell hblk6 1
          have sf := fresh_frozen hblk6 1
          have a0 := fresh_cell ha6 0
          have a1 := fresh_cell ha6 1
          have a10 := fresh_cell ha6 10
          simp only [List.getElem?_toArray, List.getElem?_cons_zero, List.getElem?_cons_succ] at s1 a0 a1 a10
          clear hA6 hM6 hblk6 hres6 ha6 hB6 hown3 hnil
          by_cases hg3 : k.kind = 3 ∨ k.kind = 4
          · have HG3 := Lib.hid hg3
            have f2 := fresh_frozen HB6.out 2
            have b2 := fresh_cell HB6.out 2
            simp only [List.getElem?_toArray, List.getElem?_cons_zero, List.getElem?_cons_succ] at b2
            have hk5 : ∃ b3 b4, (k.kind == 3) = b3 ∧ (k.kind == 4) = b4 ∧ (b3 = true ∨ b3 = false ∧ b4 = true) := by
              refine ⟨_, _, rfl, rfl, ?_⟩
              rcases hg3 with h | h
              · exact .inl (beq_iff_eq.2 h)
              · rw [h]; exact .inr ⟨rfl, rfl⟩
            obtain ⟨b3, b4, e3, e4, hbb⟩ := hk5
            clear hg3
            have hrB := ownsRow_type HROW6.out HB6.out (by decide)
            have hk5' : (0 : Int) ≤ (j : Int) := by omega
            rcases hbb with rfl | ⟨rfl, rfl⟩
            all_goals
              go_upto_region 10 with fail
              have hW1 := (HA6.out.setCell (p := ⟨w.heap.size + 1, 1, none⟩) (by simp; omega) (by simp; omega) (.slice (some ⟨r, 0, none⟩) (hs.length + 1) cap')).setCell (p := ⟨B, 2, none⟩) (by simpa using hBg) (by simpa using hBb) (.int .i64 ends)
              have hW2 := (HM6.out.setCell (p := ⟨w.heap.size + 1, 1, none⟩) (.inl (by simp)) (.slice (some ⟨r, 0, none⟩) (hs.length + 1) cap')).setCell (p := ⟨B, 2, none⟩) (.inl (by simp; omega)) (.int .i64 ends)
              have hW3 := ownsRow_blk HROW6.out ((Below.heap_setCell (w3.setCell ⟨w.heap.size + 1, 1, none⟩ (.slice (some ⟨r, 0, none⟩) (hs.length + 1) cap')) ⟨B, 2, none⟩ (.int .i64 ends) r hrB.2).trans (Below.heap_setCell w3 ⟨w.heap.size + 1, 1, none⟩ (.slice (some ⟨r, 0, none⟩) (hs.length + 1) cap') r (by have := hrB.1; simp; omega)))
              have hW4 := (Below.heap_setCell (w3.setCell ⟨w.heap.size + 1, 1, none⟩ (.slice (some ⟨r, 0, none⟩) (hs.length + 1) cap')) ⟨B, 2, none⟩ (.int .i64 ends) (w.heap.size + 1) (by simp; omega)).trans (Lib.heap_setCell_same (i := 1) HBLK6.out (.slice (some ⟨r, 0, none⟩) (hs.length + 1) cap'))
              have hW5 := (Below.heap_setCell (w3.setCell ⟨w.heap.size + 1, 1, none⟩ (.slice (some ⟨r, 0, none⟩) (hs.length + 1) cap')) ⟨B, 2, none⟩ (.int .i64 ends) w.heap.size (by simp; omega)).trans ((Below.heap_setCell w3 ⟨w.heap.size + 1, 1, none⟩ (.slice (some ⟨r, 0, none⟩) (hs.length + 1) cap') w.heap.size (by simp)).trans HRES6.out)
              have hW6 := Lib.heap_setCell_same (i := 2) ((Below.heap_setCell w3 ⟨w.heap.size + 1, 1, none⟩ (.slice (some ⟨r, 0, none⟩) (hs.length + 1) cap') B (by simp; omega)).trans HB6.out) (.int .i64 ends)
              have hW7 : ActAt ((w3.setCell ⟨w.heap.size + 1, 1, none⟩ (.slice (some ⟨r, 0, none⟩) (hs.length + 1) cap')).setCell ⟨B, 2, none⟩ (.int .i64 ends)) a g k (some ad) cap now ends failed old is := (Below.heap_setCell (w3.setCell ⟨w.heap.size + 1, 1, none⟩ (.slice (some ⟨r, 0, none⟩) (hs.length + 1) cap')) ⟨B, 2, none⟩ (.int .i64 ends) a (by simpa using hBa.symm)).trans ((Below.heap_setCell w3 ⟨w.heap.size + 1, 1, none⟩ (.slice (some ⟨r, 0, none⟩) (hs.length + 1) cap') a (by simp; omega)).trans Ha6.out)
              generalize (w3.setCell ⟨w.heap.size + 1, 1, none⟩ (.slice (some ⟨r, 0, none⟩) (hs.length + 1) cap')).setCell ⟨B, 2, none⟩ (.int .i64 ends) = V at hW1 hW2 hW3 hW4 hW5 hW6 hW7 ⊢
              have hW6' : V.heap[B]? = some (.cells #[.string x.value, .int .u32 x.flags, .int .i64 ends, .int .u64 x.cas] 44) := hW6
              have hW4' : V.heap[w.heap.size + 1]? = some (.cells #[.int .i64 1, .slice (some ⟨r, 0, none⟩) (hs.length + 1) cap', .int .u64 0] 36) := hW4
              have c0 := fresh_cell hW7 0
              have g0 := hW1.gcell
              have x0 := fresh_cell hW6' 0
              have x1 := fresh_cell hW6' 1
              have x2 := fresh_cell hW6' 2
              have x3 := fresh_cell hW6' 3
              simp only [List.getElem?_toArray, List.getElem?_cons_zero, List.getElem?_cons_succ] at c0 x0 x1 x2 x3
              have HV1 := Aside0.mk hW1
              have HV2 := Aside0.mk hW2
              have HV3 := Aside0.mk hW3
              have HV4 := Lib.hid hW4'
              have HV5 := Lib.hid hW5
              have HVB : B < V.heap.size := blk_lt hW6'
              have HF := Lib.hid (show _ ∧ _ ∧ _ ∧ _ ∧ _ ∧ _ from ⟨c0, g0, x0, x1, x2, x3⟩)
              have hcj : c + j < maxLen := by omega
              clear hW1 hW2 hW3 hW4 hW4' hW5 hW6 hW6' hW7 c0 g0 x0 x1 x2 x3 HA6 HM6 HROW6 HBLK6 HRES6 Ha6 HB6 sf s1 a0 a1 a10 f2 b2 hk6 hB3 hlt5
              go_region_held3 (fun w' => w'.cell? ⟨a, 0, none⟩ = some (.pointer (some ⟨g, 0, none⟩)) ∧ w'.cell? ⟨g, 0, none⟩ = some (.map (some b)) ∧
                  w'.cell? ⟨B, 0, none⟩ = some (.string x.value) ∧ w'.cell? ⟨B, 1, none⟩ = some (.int .u32 x.flags) ∧ w'.cell? ⟨B, 2, none⟩ = some (.int .i64 ends) ∧ w'.cell? ⟨B, 3, none⟩ = some (.int .u64 x.cas))
                ((first | exact HF.out | exact HF3.out | exact HF4.out))
                (first | (go_at_call 18; refine (named_calls key _).mono ?_; rintro e w5 ⟨rfl, hb5⟩; have HA3 := Aside0.mk (HV1.out.drew.below hb5); have HF3 := Lib.hid (show _ ∧ _ ∧ _ ∧ _ ∧ _ ∧ _ from ⟨keepC hb5 HF.out.1, keepC hb5 HF.out.2.1, keepC hb5 HF.out.2.2.1, keepC hb5 HF.out.2.2.2.1, keepC hb5 HF.out.2.2.2.2.1, keepC hb5 HF.out.2.2.2.2.2⟩); obtain ⟨w4, hr4, HA4, HM4⟩ := HA3.out.put hcj (nm key) (nm_len key) ⟨x.value, x.flags, ends, x.cas⟩ hxs; have HF4 := Lib.hid (show _ ∧ _ ∧ _ ∧ _ ∧ _ ∧ _ from ⟨HM4.cell HF3.out.1 hag hab, HA4.gcell, HM4.cell HF3.out.2.2.1 hBg hBb, HM4.cell HF3.out.2.2.2.1 hBg hBb, HM4.cell HF3.out.2.2.2.2.1 hBg hBb, HM4.cell HF3.out.2.2.2.2.2 hBg hBb⟩)))
              have HMV := HV2.out.drew.then_below hb5
              have HMW := HMV.trans HM4
              have hR1 := ownsRow_mut (ownsRow_below HV3.out.drew hb5) HM4 (by omega) (by omega)
              have hR2 := HM4.heap ((hb5.block _ (blk_lt HV4.out)).trans HV4.out) (by omega) (by omega)
              have hR3 := HM4.heap ((hb5.block _ (blk_lt HV5.out)).trans HV5.out) (by omega) (by omega)
              have HR0 := Aside0.mk HA4
              have HR1 := Aside0.mk hR1
              have HR2 := Lib.hid hR2
              have HR3 := Lib.hid hR3
              have HR4 := Aside0.mk HMW
              clear hR1 hR2 hR3 HMV HMW HF HF3 HF4 HA3 HA4 hr4 hb5 HM4
              go_wp2
              go_roundg (k.keys.length - (j + 1))
              case measure => omega
              case rel =>
                refine ⟨j + 1, hs ++ [⟨key, x.flags, x.value, x.cas⟩], _, .slice (some ⟨r, 0, none⟩) (hs.length + 1) cap', by omega, by omega, by go_num, ⟨⟨HR0.out.more (by omega), HR4.out, ?_, HR2.out, HR3.out, ?_, by simp; omega⟩⟩⟩
                · rw [List.length_append, hitsC_snoc]
                  exact HR1.out
                · have e := HDONE.out
                  simp only [readsR, readOne, HG.out] at e
                  rw [if_pos HG3.out] at e
                  rw [e, List.append_assoc]
          · have e3 : (k.kind == 3) = false := beq_eq_false_iff_ne.2 (fun h => hg3 (.inl h))
            have e4 : (k.kind == 4) = false := beq_eq_false_iff_ne.2 (fun h => hg3 (.inr h))
            have HG3 := Lib.hid hg3
            clear hg3
            go_wp2
            go_roundg (k.keys.length - (j + 1))
            case measure => omega
            case rel =>
              refine ⟨j + 1, hs ++ [⟨key, x.flags, x.value, x.cas⟩], E', .slice (some ⟨r, 0, none⟩) (hs.length + 1) cap', by omega, by omega, by go_num, ⟨⟨(HA6.out.setCell (by simp; omega) (by simp; omega) _).more (by omega), HM6.out.setCell (.inl (by simp)) _, ?_, Lib.heap_setCell_same (i := 1) HBLK6.out _, (Below.heap_setCell _ _ _ _ (by simp)).trans HRES6.out, ?_, by simp; omega⟩⟩⟩
              · rw [List.length_append, hitsC_snoc]
                have hr := (ownsRow_type HROW6.out HB6.out (by decide)).1
                exact ownsRow_blk HROW6.out (Below.heap_setCell _ _ _ _ (by simp; omega))
              · have e := HDONE.out
                simp only [readsR, readOne, HG.out] at e
                rw [if_neg HG3.out] at e
                rw [e, List.append_assoc]
    · have hji : ¬ (j : Int) < (k.keys.length : Int) := by omega
      have hjl : j = k.keys.length := by omega
      subst hjl
      have hdone := HR.out.done
      rw [List.drop_length] at hdone
      simp only [readsR, List.append_nil] at hdone
      have HDONE := Lib.hid hdone
      have hblk := HR.out.blk
      have hres := HR.out.res
      have HR' := HR
      have hvs := HR.out.row.2
      clear hdone
      rcases hvs with ⟨rfl, hn⟩ | ⟨r, cap', cur, rfl, hr1, hr2⟩
      all_goals
        have s0 := fresh_cell hblk 0
        have s1 := fresh_cell hblk 1
        have s2 := fresh_cell hblk 2
        have r0 := fresh_cell hres 0
        have r1 := fresh_cell hres 1
        have r2 := fresh_cell hres 2
        have f0 := fresh_frozen hres 0
        have f1 := fresh_frozen hres 1
        have f2 := fresh_frozen hres 2
        simp only [List.getElem?_toArray, List.getElem?_cons_zero, List.getElem?_cons_succ] at s0 s1 s2 r0 r1 r2
        have HRES := Lib.hid hres
        clear hblk hres
        try clear hr2
        go_wp2
        refine bodyPost_ret (results_cell_row rfl _ _ w.heap.size _ _ _ _ rfl (set3 HRES.out) Tryz.underlying36 rfl (by kernel_rfl)) rfl ?_
        rw [HDONE.out]
        refine ⟨_, rfl, ownsRow_base (base := w.heap.size + 2) ?_ (by omega), ?_, ?_⟩
        · refine ownsRow_other HR'.out.row fun i hi hb' => ?_
          exact ((Below.heap_setCell _ _ _ i (by simp; omega)).trans (Below.heap_setCell _ _ _ i (by simp; omega))).trans (Below.heap_setCell _ _ _ i (by simp; omega))
        · exact (((HR'.out.at_.setCell (by simp; omega) (by simp; omega) _).setCell (by simp; omega) (by simp; omega) _).setCell (by simp; omega) (by simp; omega) _).more (by omega)
        · exact ((HR'.out.kept.setCell (.inl (by simp)) _).setCell (.inl (by simp)) _).setCell (.inl (by simp)) _
end Go.Proofs.YtbggcimjlkjclaaGreatDoor.Mdl
end
section
namespace Go.Proofs.YtbggcimjlkjclaaGreatDoor.Mdl
open Go.RowKit Go.Proofs.YtbggcimjlkjclaaGreatDoorW.PrintWords Go.Proofs.YtbggcimjlkjclaaGreatDoorW.PrintLast Go.Proofs.YtbggcimjlkjclaaGreatDoorW.PrintMore Go.WideMaps Go.Proofs.YtbggcimjlkjclaaGreatDoor.XMd
set_option linter.unusedVariables false
set_option linter.unusedSimpArgs false
attribute [local go_sem ↓] Go.wp_at_zero Go.wp_at_succ

theorem At.clear {w : World} {g b c : Nat} {E : Tab} {laid : Int} (h : At w g b c E laid) (ty : TypeId) :
    ∃ w', (Builtin.clear_ #[51] ty #[.map (some b)]).run Tryz.prog w = .ok (.tuple #[]) w' ∧ At w' g b c (fun _ => none) laid ∧ Mut g b w w' := by
  obtain ⟨D, ⟨es, clock, hb, F, hs, rfl⟩, h1, h2⟩ := h.map
  have hother : ∀ i, i ≠ b → (Go.ChangeMaps.setBlock w b (.map #[] clock)).heap[i]? = w.heap[i]? := fun i hi => Go.ChangeMaps.heap_setBlock_other hb _ hi
  refine ⟨Go.ChangeMaps.setBlock w b (.map #[] clock), ?_, ⟨⟨.map [], ⟨#[], clock, Go.ChangeMaps.heap_setBlock_same hb _, ⟨by simp, MapKept.stamped_empty clock, by simp⟩, Nat.zero_le _, rfl⟩, ⟨[], rfl⟩, fun kl _ => ?_⟩, (hother g h.ne).trans h.cell, h.ne, fun n x hx => by cases hx⟩, ⟨rfl, rfl, rfl, by simp [Go.ChangeMaps.setBlock], fun i _ _ hi => hother i hi⟩⟩
  · simp [Builtin.clear_, run_underlying Tryz.underlying51, MapKept.run_getObj_map hb, MapKept.run_setObj_map _ hb, Result.andThen, Go.ChangeMaps.setBlock]
  · cases kl <;> exact ⟨fun _ => rfl, rfl⟩
structure Out where
  code : Int
  hits : List Hit
  n : Int
  err : Int
  E : Tab
  laid : Int
def touchT (E : Tab) (key : ByteArray) (x : Ent) (ends : Int) : Tab := putT E (nm key) (some { x with exp := ends })
def doOne (k : Cmd) (now ends : Int) (failed : Bool) (key : ByteArray) (E : Tab) (laid : Int) : Out :=
  let is := (get E key now).isSome
  let old := (get E key now).getD Ent.z
  if k.kind ≤ 10 then ⟨(storeR k is old ends failed key E laid).1, [], 0, 0, (storeR k is old ends failed key E laid).2.1, (storeR k is old ends failed key E laid).2.2⟩
  else if is = false then ⟨5, [], 0, 0, E, laid⟩
  else if k.kind = 11 then ⟨6, [], 0, 0, dropT E key, laid⟩
  else if k.kind = 14 then ⟨9, [], 0, 0, touchT E key old ends, laid⟩
  else ⟨(countR k old failed key E laid).1, [], (countR k old failed key E laid).2.1, 0, (countR k old failed key E laid).2.2.1, (countR k old failed key E laid).2.2.2⟩
def doR (ck en ee : Int) (k : Cmd) (now : Int) (failed : Bool) (E : Tab) (laid : Int) : Out :=
  if ck ≠ 0 then ⟨0, [], 0, ck, E, laid⟩
  else if ee ≠ 0 then ⟨0, [], 0, ee, E, laid⟩
  else if k.kind = 15 then ⟨10, [], 0, 0, fun _ => none, laid⟩
  else if k.kind ≤ 4 then ⟨1, (readsR k now en k.keys E).1, 0, 0, (readsR k now en k.keys E).2, laid⟩
  else match k.keys with
    | [] => ⟨0, [], 0, 0, E, laid⟩
    | key :: _ => doOne k now en failed key E laid
structure Fine (k : Cmd) : Prop where
  lo : 1 ≤ k.kind
  hi : k.kind ≤ 15
  value : k.value.size ≤ 2000
  keys : k.keys.length ≤ 100
  one : 5 ≤ k.kind → k.kind ≤ 14 → k.keys ≠ []
def OutAt (w : World) (g b c : Nat) (o : Out) (e : Ending) (w' : World) : Prop := ∃ vs, (o.code ≠ 1 → vs = .slice none 0 0) ∧
  e = .returned (.tuple #[.agg #[.int .i64 o.code, vs, .int .u64 o.n], .int .i64 o.err]) ∧ w'.ownsRow w.heap.size 50 4 vs o.hits.length (hitsC o.hits) ∧ At w' g b (c + 100) o.E o.laid ∧ Mut g b w w'
def cmdC (k : Cmd) (A : Option Addr) (cap : Nat) : Array Value := #[.int .i64 k.kind, .slice A k.keys.length cap, .int .u32 k.flags, .int .i64 k.exp, .string k.value, .int .u64 k.cas, .int .u64 k.delta, .bool k.quiet]
structure Ds (w W : World) (g b c : Nat) (E : Tab) (laid : Int) (k : Cmd) (A : Option Addr) (cap : Nat) : Prop where
  at_ : At W g b c E laid
  bel : Below w.heap.size w W
  cmd : W.heap[w.heap.size]? = some (.cells (cmdC k A cap) 31)
  res : W.heap[w.heap.size + 1]? = some (.cells #[.int .i64 0, .slice none 0 0, .int .u64 0] 36)
theorem Ds.below {w W W' : World} {g b c : Nat} {E : Tab} {laid : Int} {k : Cmd} {A : Option Addr} {cap : Nat} (h : Ds w W g b c E laid k A cap) (hb : Below W.heap.size W W') : Ds w W' g b c E laid k A cap :=
  ⟨h.at_.below hb, h.bel.trans (hb.mono h.bel.size), (hb.block _ (blk_lt h.cmd)).trans h.cmd, (hb.block _ (blk_lt h.res)).trans h.res⟩
theorem Ds.cells {w W : World} {g b c : Nat} {E : Tab} {laid : Int} {k : Cmd} {A : Option Addr} {cap : Nat} (h : Ds w W g b c E laid k A cap) :
    W.cell? ⟨w.heap.size, 0, none⟩ = some (.int .i64 k.kind) ∧ W.cell? ⟨w.heap.size, 1, none⟩ = some (.slice A k.keys.length cap) ∧ W.cell? ⟨w.heap.size, 2, none⟩ = some (.int .u32 k.flags) ∧ W.cell? ⟨w.heap.size, 3, none⟩ = some (.int .i64 k.exp) ∧
    W.cell? ⟨w.heap.size, 4, none⟩ = some (.string k.value) ∧ W.cell? ⟨w.heap.size, 5, none⟩ = some (.int .u64 k.cas) ∧ W.cell? ⟨w.heap.size, 6, none⟩ = some (.int .u64 k.delta) ∧ W.cell? ⟨w.heap.size, 7, none⟩ = some (.bool k.quiet) :=
  ⟨fresh_cell h.cmd 0, fresh_cell h.cmd 1, fresh_cell h.cmd 2, fresh_cell h.cmd 3, fresh_cell h.cmd 4, fresh_cell h.cmd 5, fresh_cell h.cmd 6, fresh_cell h.cmd 7⟩
theorem Ds.only {w W W' : World} {g b c : Nat} {E : Tab} {laid : Int} {k : Cmd} {A : Option Addr} {cap a : Nat} (h : Ds w W g b c E laid k A cap) (o : Only a W W') (ha : w.heap.size + 1 < a) (hg : a ≠ g) (hb : a ≠ b) : Ds w W' g b c E laid k A cap :=
  ⟨h.at_.only o hg hb, ⟨o.os.trans h.bel.os, o.tape.trans h.bel.tape, o.output.trans h.bel.output, Nat.le_trans h.bel.size o.size, fun i hi => (o.block i (by omega)).trans (h.bel.block i hi)⟩, (o.block _ (by omega)).trans h.cmd, (o.block _ (by omega)).trans h.res⟩
theorem actCells {W : World} {a g : Nat} {k : Cmd} {A : Option Addr} {cap : Nat} {now ends : Int} {failed : Bool} {old : Ent} {is : Bool} (h : ActAt W a g k A cap now ends failed old is) :
    W.cell? ⟨a, 12, none⟩ = some (.string old.value) ∧ W.cell? ⟨a, 13, none⟩ = some (.int .u32 old.flags) ∧ W.cell? ⟨a, 14, none⟩ = some (.int .i64 old.exp) ∧ W.cell? ⟨a, 15, none⟩ = some (.int .u64 old.cas) ∧ W.cell? ⟨a, 16, none⟩ = some (.bool is) ∧
    W.frozen? ⟨a, 12, none⟩ = false ∧ W.frozen? ⟨a, 13, none⟩ = false ∧ W.frozen? ⟨a, 14, none⟩ = false ∧ W.frozen? ⟨a, 15, none⟩ = false ∧ W.frozen? ⟨a, 16, none⟩ = false :=
  ⟨fresh_cell h 12, fresh_cell h 13, fresh_cell h 14, fresh_cell h 15, fresh_cell h 16, fresh_frozen h 12, fresh_frozen h 13, fresh_frozen h 14, fresh_frozen h 15, fresh_frozen h 16⟩
theorem KeyAt.below {w w' : World} {g b : Nat} {A : Option Addr} {k : Cmd} {key : ByteArray} (h : KeyAt w g b A k key) (hb : Below w.heap.size w w') : KeyAt w' g b A k key := by
  obtain ⟨h1, ad, h2, h3, h4, h5⟩ := h
  exact ⟨h1, ad, h2, keepC hb h3, h4, h5⟩
theorem zres {W : World} {B : Nat} {x y z : Value} (h : W.heap[B]? = some (.cells #[x, y, z] 36)) :
    W.cell? ⟨B, 0, none⟩ = some x ∧ W.cell? ⟨B, 1, none⟩ = some y ∧ W.cell? ⟨B, 2, none⟩ = some z ∧ W.frozen? ⟨B, 0, none⟩ = false ∧ W.frozen? ⟨B, 1, none⟩ = false ∧ W.frozen? ⟨B, 2, none⟩ = false :=
  ⟨fresh_cell h 0, fresh_cell h 1, fresh_cell h 2, fresh_frozen h 0, fresh_frozen h 1, fresh_frozen h 2⟩
theorem Out.plain {w W : World} {g b c : Nat} {E : Tab} {laid code n err : Int} (h : At W g b c E laid) (hm : Mut g b w W) :
    OutAt w g b c ⟨code, [], n, err, E, laid⟩ (.returned (.tuple #[.agg #[.int .i64 code, .slice none 0 0, .int .u64 n], .int .i64 err])) W :=
  ⟨_, fun _ => rfl, rfl, World.ownsRow_nil _ _ _ _, h.more (by omega), hm⟩
set_option maxHeartbeats 8000000 in
set_option maxRecDepth 100000 in
theorem Do_calls (w : World) (g b c : Nat) (E : Tab) (laid : Int) (k : Cmd) (A : Option Addr) (cap : Nat) (now : Int) (failed : Bool) (f : Nat) (ck en ee : Int)
    (hv : Vars w) (hA : At w g b c E laid) (hc : c + 1000 < maxLen) (hC : Kd.string.C w A k.keys.length k.keys) (hK : KeysAt w g b A k.keys) (hcap : k.keys.length ≤ cap) (hd : 0 ≤ k.delta)
    (hck : verb_Check.f f k.kind k.keys k.flags k.exp k.value k.cas k.delta k.quiet = some ck) (hfine : ck = 0 → Fine k) (hen : clock_Ends.f now k.exp = some (en, ee)) (hen0 : 0 ≤ en) (hen1 : en ≤ 4294967295) :
    Calls Tryz.prog 7 #[.pointer (some ⟨g, 0, none⟩), .agg #[.int .i64 k.kind, .slice A k.keys.length cap, .int .u32 k.flags, .int .i64 k.exp, .string k.value, .int .u64 k.cas, .int .u64 k.delta, .bool k.quiet], .int .i64 now, .bool failed] w
      (OutAt w g b c (doR ck en ee k now failed E laid)) := by
  have hg := hA.lt
  have hgb := hA.ltb
  have H0 := Aside0.mk hA
  have HV := Aside0.mk hv
  have HC := Aside0.mk hC
  have HK := Lib.hid hK
  have HCK := Lib.hid hck
  have HF := Lib.hid hfine
  have HEN := Lib.hid hen
  have HD := Lib.hid hd
  clear hA hv hC hK hck hfine hen hd
  go_enter Tryz.func7, Tryz.ntmps7
  go_wp2_with fail
  have hs0 : Ds w ((w.alloc (.cells (cmdC k A cap) 31)).alloc (.cells #[.int .i64 0, .slice none 0 0, .int .u64 0] 36)) g b c E laid k A cap :=
    ⟨(H0.out.alloc _).alloc _, ((Below.refl _ w).alloc (Nat.le_refl _) _).alloc (by simp) _, (Below.heap_alloc _ _ _ (by simp)).trans (heap_alloc_new w _), by
      rw [← size_al w (.cells (cmdC k A cap) 31)]
      exact heap_alloc_new _ _⟩
  refine (verb_Check.calls f k.kind A cap k.keys k.flags k.exp k.value k.cas k.delta k.quiet ck _ (Kd.C_below HC.out hs0.bel) hcap HCK.out).mono ?_
  rintro e w1 ⟨rfl, hb1⟩
  have HS := Aside0.mk (hs0.below hb1)
  clear hs0 hb1
  obtain ⟨r0, r1, r2, f0, f1, f2⟩ := zres HS.out.res
  by_cases hz : ck = 0
  · subst hz
    have HFI := Lib.hid (HF.out rfl)
    obtain ⟨c0, c1, c2, c3, c4, c5, c6, c7⟩ := HS.out.cells
    go_wp2_with fail
    refine (clock_Ends.calls now k.exp en ee _ HEN.out).mono ?_
    rintro e w2 ⟨rfl, hb2⟩
    have HS2 := Aside0.mk (HS.out.below hb2)
    clear hb2 HS c0 c1 c2 c3 c4 c5 c6 c7 r0 r1 r2 f0 f1 f2
    obtain ⟨r0, r1, r2, f0, f1, f2⟩ := zres HS2.out.res
    by_cases hee : ee = 0
    · subst hee
      obtain ⟨c0, c1, c2, c3, c4, c5, c6, c7⟩ := HS2.out.cells
      have hconv : IntKind.i64.wrap en = en := by rw [IntKind.wrap_i64]; omega
      go_upto_region 8 with fail
      have hs3 := HS2.out.below ((Below.refl _ w2).alloc (Nat.le_refl _) (.cells #[.pointer (some ⟨g, 0, none⟩), .int .i64 k.kind, .slice A k.keys.length cap, .int .u32 k.flags, .int .i64 k.exp, .string k.value, .int .u64 k.cas, .int .u64 k.delta, .bool k.quiet, .int .i64 now, .int .i64 en, .bool failed, .string Ent.z.value, .int .u32 Ent.z.flags, .int .i64 Ent.z.exp, .int .u64 Ent.z.cas, .bool false] 59))
      have ha3 : ActAt (w2.alloc (.cells #[.pointer (some ⟨g, 0, none⟩), .int .i64 k.kind, .slice A k.keys.length cap, .int .u32 k.flags, .int .i64 k.exp, .string k.value, .int .u64 k.cas, .int .u64 k.delta, .bool k.quiet, .int .i64 now, .int .i64 en, .bool failed, .string Ent.z.value, .int .u32 Ent.z.flags, .int .i64 Ent.z.exp, .int .u64 Ent.z.cas, .bool false] 59)) w2.heap.size g k A cap now en failed Ent.z false := heap_alloc_new _ _
      have hw2 := HS2.out.bel.size
      have hwr2 := blk_lt HS2.out.res
      obtain ⟨a, hae⟩ : ∃ a, w2.heap.size = a := ⟨_, rfl⟩
      have hag : a ≠ g := by omega
      have hab : a ≠ b := by omega
      have haw : w.heap.size + 1 < a := by omega
      rw [hae] at ha3 ⊢
      change ActAt (w2.alloc (.cells #[.pointer (some ⟨g, 0, none⟩), .int .i64 k.kind, .slice A k.keys.length cap, .int .u32 k.flags, .int .i64 k.exp, .string k.value, .int .u64 k.cas, .int .u64 k.delta, .bool k.quiet, .int .i64 now, .int .i64 en, .bool failed, .string ⟨#[]⟩, .int .u32 0, .int .i64 0, .int .u64 0, .bool false] 59)) a g k A cap now en failed Ent.z false at ha3
      change Ds w (w2.alloc (.cells #[.pointer (some ⟨g, 0, none⟩), .int .i64 k.kind, .slice A k.keys.length cap, .int .u32 k.flags, .int .i64 k.exp, .string k.value, .int .u64 k.cas, .int .u64 k.delta, .bool k.quiet, .int .i64 now, .int .i64 en, .bool failed, .string ⟨#[]⟩, .int .u32 0, .int .i64 0, .int .u64 0, .bool false] 59)) g b c E laid k A cap at hs3
      generalize w2.alloc (.cells #[.pointer (some ⟨g, 0, none⟩), .int .i64 k.kind, .slice A k.keys.length cap, .int .u32 k.flags, .int .i64 k.exp, .string k.value, .int .u64 k.cas, .int .u64 k.delta, .bool k.quiet, .int .i64 now, .int .i64 en, .bool failed, .string ⟨#[]⟩, .int .u32 0, .int .i64 0, .int .u64 0, .bool false] 59) = W at hs3 ha3 ⊢
      have HS := Aside0.mk hs3
      have HAct := Lib.hid ha3
      clear c0 c1 c2 c3 c4 c5 c6 c7 r0 r1 r2 f0 f1 f2 HS2 hs3 ha3 hae hw2 hwr2
      obtain ⟨c0, c1, c2, c3, c4, c5, c6, c7⟩ := HS.out.cells
      have hmut := Mut.of_below (g := g) (b := b) HS.out.bel
      have HM := Aside0.mk hmut
      have HKA := Lib.hid (HK.out.mut hmut)
      clear hmut
      by_cases k15 : k.kind = 15
      · have e15 : (k.kind == 15) = true := beq_iff_eq.2 k15
        have g0 := HS.out.at_.gcell
        obtain ⟨w4, hr4, hA4, hM4⟩ := HS.out.at_.clear 0
        have hres := hM4.heap HS.out.res (by omega) (by omega)
        have HA4 := Aside0.mk hA4
        have HM4 := Aside0.mk (HM.out.trans hM4)
        obtain ⟨r0, r1, r2, f0, f1, f2⟩ := zres hres
        have HRES := Lib.hid hres
        have e : doR 0 en 0 k now failed E laid = ⟨10, [], 0, 0, fun _ => none, laid⟩ := by unfold doR; rw [if_neg (fun h => h rfl), if_neg (fun h => h rfl), if_pos k15]
        have HE := Lib.hid e
        clear hA4 hM4 hres k15 e
        go_wp2
        refine bodyPost_ret (results_cell_tmp_row rfl _ _ (w.heap.size + 1) _ _ _ _ rfl (set3 HRES.out) Tryz.underlying36 rfl (by kernel_rfl)) rfl ?_
        rw [HE.out]
        exact Out.plain (((HA4.out.setCell (by simp; omega) (by simp; omega) _).setCell (by simp; omega) (by simp; omega) _).setCell (by simp; omega) (by simp; omega) _) (((HM4.out.setCell (.inl (by simp)) _).setCell (.inl (by simp)) _).setCell (.inl (by simp)) _)
      · have e15 : (k.kind == 15) = false := beq_eq_false_iff_ne.2 k15
        by_cases k4 : k.kind ≤ 4
        · have e : doR 0 en 0 k now failed E laid = ⟨1, (readsR k now en k.keys E).1, 0, 0, (readsR k now en k.keys E).2, laid⟩ := by unfold doR; rw [if_neg (fun h => h rfl), if_neg (fun h => h rfl), if_neg k15, if_pos k4]
          have HE := Lib.hid e
          clear e k15
          go_wp2_with fail
          refine (reads_calls W g b c a E laid k A cap now en failed Ent.z false HS.out.at_ hc HAct.out hag hab HKA.out HFI.out.keys hcap).mono ?_
          rintro e w4 ⟨vs, rfl, hrow, hA4, hM4⟩
          have hres := hM4.heap HS.out.res (by omega) (by omega)
          have hws : w.heap.size + 1 < W.heap.size := blk_lt HS.out.res
          have HROW := Aside0.mk hrow
          have HA4 := Aside0.mk hA4
          have HM4 := Aside0.mk (HM.out.trans hM4)
          obtain ⟨r0, r1, r2, f0, f1, f2⟩ := zres hres
          have HRES := Lib.hid hres
          have hvs := hrow.2
          clear hrow hA4 hM4 hres c0 c1 c2 c3 c4 c5 c6 c7
          have hfin : ∀ W4, (∀ i, W.heap.size ≤ i → W4.heap[i]? = w4.heap[i]?) → At W4 g b (c + 100) (readsR k now en k.keys E).2 laid → Mut g b w W4 → OutAt w g b c (doR 0 en 0 k now failed E laid) (.returned (.tuple #[.agg #[.int .i64 1, vs, .int .u64 0], .int .i64 0])) W4 := by
            intro W4 h1 h2 h3
            rw [HE.out]
            exact ⟨_, fun h => absurd rfl h, rfl, ownsRow_base (ownsRow_other HROW.out fun i _ hb' => h1 i hb') (by omega), h2, h3⟩
          have HFIN := Aside0.mk hfin
          clear hfin
          rcases hvs with ⟨rfl, hn⟩ | ⟨r, cap', cur, rfl, hr1, hr2⟩
          all_goals
            try clear hr2
            try clear hn
            go_wp2
            refine bodyPost_ret (results_cell_tmp_row rfl _ _ (w.heap.size + 1) _ _ _ _ rfl (set3 HRES.out) Tryz.underlying36 rfl (by kernel_rfl)) rfl ?_
            refine HFIN.out _ (fun i hi => ?_) ?_ ?_
            · exact ((Below.heap_setCell _ _ _ i (by simp; omega)).trans (Below.heap_setCell _ _ _ i (by simp; omega))).trans (Below.heap_setCell _ _ _ i (by simp; omega))
            · exact ((HA4.out.setCell (by simp; omega) (by simp; omega) _).setCell (by simp; omega) (by simp; omega) _).setCell (by simp; omega) (by simp; omega) _
            · exact ((HM4.out.setCell (.inl (by simp)) _).setCell (.inl (by simp)) _).setCell (.inl (by simp)) _
        · have e4 : ¬ k.kind ≤ 4 := k4
          obtain ⟨key, hkeys⟩ : ∃ key, ∃ l, k.keys = key :: l := by
            have h1 := HFI.out.one (by omega) (by have := HFI.out.hi; omega)
            cases hk : k.keys with
            | nil => exact absurd hk h1
            | cons key l => exact ⟨key, l, rfl⟩
          obtain ⟨l, hkeys⟩ := hkeys
          have e : doR 0 en 0 k now failed E laid = doOne k now en failed key E laid := by unfold doR; rw [if_neg (fun h => h rfl), if_neg (fun h => h rfl), if_neg k15, if_neg k4, hkeys]
          have HE := Lib.hid e
          have HKY := Lib.hid (HKA.out.first hkeys)
          clear e k15
          obtain ⟨_, ad, rfl, hkc, had1, had2⟩ := HKY.out
          have hk0n : 0 < k.keys.length := by rw [hkeys]; simp
          have hk0 : (0 : Int) < (k.keys.length : Int) := by omega
          have HKS := Lib.hid hkeys
          have hadl : ad.block < w.heap.size := by
            obtain ⟨ad0, e0, _, _, h0⟩ := HK.out 0 key (by rw [hkeys]; rfl)
            injection e0 with e0
            rw [e0]
            exact World.block_lt_of_cell? w _ h0
          clear hkeys
          obtain ⟨x, hx⟩ : ∃ x, (get E key now).getD Ent.z = x := ⟨_, rfl⟩
          obtain ⟨ok, ho⟩ : ∃ ok, (get E key now).isSome = ok := ⟨_, rfl⟩
          have hxs : x.value.size ≤ 2000 := by
            cases hg' : get E key now with
            | none => rw [hg'] at hx; rw [← hx]; exact Nat.zero_le _
            | some y => rw [hg'] at hx; have h2 : y = x := hx; rw [← h2]; exact get_small HS.out.at_.small hg'
          have HX := Aside0.mk hx
          have HO := Aside0.mk ho
          clear hx ho
          go_wp2_with fail
          refine (Get_c W g b c E laid key now HS.out.at_ x ok HX.out HO.out).mono ?_
          rintro e w4 ⟨rfl, hb4⟩
          have hact4 := (hb4.block a (blk_lt HAct.out)).trans HAct.out
          have hs4 := HS.out.below hb4
          obtain ⟨a12, a13, a14, a15, a16, f12, f13, f14, f15, f16⟩ := actCells hact4
          have HS4 := Aside0.mk hs4
          have HAct4 := Lib.hid hact4
          clear hb4 hact4 hs4 HS HAct HM HKA HKY c0 c1 c2 c3 c4 c5 c6 c7
          go_upto_region 14 with fail
          have o : Only a w4 (((((w4.setCell ⟨a, 12, none⟩ (.string x.value)).setCell ⟨a, 13, none⟩ (.int .u32 x.flags)).setCell ⟨a, 14, none⟩ (.int .i64 x.exp)).setCell ⟨a, 15, none⟩ (.int .u64 x.cas)).setCell ⟨a, 16, none⟩ (.bool ok)) := (((((Only.refl a w4).setCell 12 _).setCell 13 _).setCell 14 _).setCell 15 _).setCell 16 _
          have hact5 : ActAt (((((w4.setCell ⟨a, 12, none⟩ (.string x.value)).setCell ⟨a, 13, none⟩ (.int .u32 x.flags)).setCell ⟨a, 14, none⟩ (.int .i64 x.exp)).setCell ⟨a, 15, none⟩ (.int .u64 x.cas)).setCell ⟨a, 16, none⟩ (.bool ok)) a g k (some ad) cap now en failed x ok :=
            Lib.heap_setCell_same (i := 16) (Lib.heap_setCell_same (i := 15) (Lib.heap_setCell_same (i := 14) (Lib.heap_setCell_same (i := 13) (Lib.heap_setCell_same (i := 12) HAct4.out _) _) _) _) _
          generalize ((((w4.setCell ⟨a, 12, none⟩ (.string x.value)).setCell ⟨a, 13, none⟩ (.int .u32 x.flags)).setCell ⟨a, 14, none⟩ (.int .i64 x.exp)).setCell ⟨a, 15, none⟩ (.int .u64 x.cas)).setCell ⟨a, 16, none⟩ (.bool ok) = V at o hact5 ⊢
          have hs5 := HS4.out.only o haw hag hab
          have HS := Aside0.mk hs5
          have HAct := Lib.hid hact5
          have hmut := Mut.of_below (g := g) (b := b) hs5.bel
          have HM := Aside0.mk hmut
          have hKA5 := HK.out.mut hmut
          have HKY := Lib.hid (hKA5.first HKS.out)
          clear o hact5 hs5 hmut hKA5 HS4 HAct4 a12 a13 a14 a15 a16 f12 f13 f14 f15 f16 HKS
          obtain ⟨c0, c1, c2, c3, c4, c5, c6, c7⟩ := HS.out.cells
          have hfin : ∀ (o : Out) (w5 W5 : World), doOne k now en failed key E laid = o → At w5 g b (c + 1) o.E o.laid → Mut g b w w5 → o.hits = [] → Only (w.heap.size + 1) w5 W5 →
              OutAt w g b c (doR 0 en 0 k now failed E laid) (.returned (.tuple #[.agg #[.int .i64 o.code, .slice none 0 0, .int .u64 o.n], .int .i64 o.err])) W5 := by
            intro o w5 W5 h0 h1 h2 h3 h4
            rw [HE.out, h0]
            refine ⟨_, fun _ => rfl, rfl, ?_, (h1.only h4 (by omega) (by omega)).more (by omega), h2.only h4 (by omega)⟩
            rw [h3]
            exact World.ownsRow_nil _ _ _ _
          have HFIN := Aside0.mk hfin
          clear hfin HE
          by_cases k10 : k.kind ≤ 10
          · have hst : verb_Stores.f k.kind = some true := by unfold verb_Stores.f; rw [if_pos (by omega), decide_eq_true (by omega)]
            have HST := Lib.hid hst
            have hone : doOne k now en failed key E laid = ⟨(storeR k ok x en failed key E laid).1, [], 0, 0, (storeR k ok x en failed key E laid).2.1, (storeR k ok x en failed key E laid).2.2⟩ := by
              unfold doOne
              simp only [HX.out, HO.out]
              rw [if_pos k10]
            have HONE := Lib.hid hone
            clear hst hone
            go_wp2_with fail
            refine (verb_Stores.calls k.kind true _ HST.out).mono ?_
            rintro e w5 ⟨rfl, hb5⟩
            have HS5 := Aside0.mk (HS.out.below hb5)
            have hact6 : ActAt w5 a g k (some ad) cap now en failed x ok := (hb5.block a (blk_lt HAct.out)).trans HAct.out
            have HAct5 := Lib.hid hact6
            have HKY5 := Lib.hid (HKY.out.below hb5)
            have HM5 := Aside0.mk (HM.out.trans (Mut.of_below (g := g) (b := b) hb5))
            clear hb5 hact6 HKY c0 c1 c2 c3 c4 c5 c6 c7
            go_wp2_with fail
            refine (store_calls w5 g b c a E laid k (some ad) cap now en failed x ok key HS5.out.at_ (by omega) HAct5.out hag hab HKY5.out ⟨by omega, k10⟩ HFI.out.value hxs).mono ?_
            rintro e w6 ⟨rfl, hA6, hM6⟩
            have hres := hM6.heap HS5.out.res (by omega) (by omega)
            have HA6 := Aside0.mk hA6
            have HM6 := Aside0.mk (HM5.out.trans hM6)
            obtain ⟨r0, r1, r2, f0, f1, f2⟩ := zres hres
            have HRES := Lib.hid hres
            clear hA6 hM6 hres
            generalize storeR k ok x en failed key E laid = S at *
            obtain ⟨S1, S2, S3⟩ := S
            go_wp2
            refine bodyPost_ret (results_cell_tmp_row rfl _ _ (w.heap.size + 1) _ _ _ _ rfl (set3 HRES.out) Tryz.underlying36 rfl (by kernel_rfl)) rfl ?_
            exact HFIN.out ⟨S1, [], 0, 0, S2, S3⟩ w6 _ HONE.out HA6.out HM6.out rfl ((((Only.refl _ w6).setCell 0 _).setCell 1 _).setCell 2 _)
          · have hst : verb_Stores.f k.kind = some false := by unfold verb_Stores.f; rw [if_pos (by omega), decide_eq_false (by omega)]
            have HST := Lib.hid hst
            clear hst
            go_wp2_with fail
            refine (verb_Stores.calls k.kind false _ HST.out).mono ?_
            rintro e w5 ⟨rfl, hb5⟩
            have HS5 := Aside0.mk (HS.out.below hb5)
            have hact6 : ActAt w5 a g k (some ad) cap now en failed x ok := (hb5.block a (blk_lt HAct.out)).trans HAct.out
            have HAct5 := Lib.hid hact6
            have HKY5 := Lib.hid (HKY.out.below hb5)
            have HM5 := Aside0.mk (HM.out.trans (Mut.of_below (g := g) (b := b) hb5))
            clear hb5 HKY c0 c1 c2 c3 c4 c5 c6 c7
            obtain ⟨_, ad', hade, hkc, _, _⟩ := HKY5.out
            injection hade with hade
            subst hade
            obtain ⟨a12, a13, a14, a15, a16, f12, f13, f14, f15, f16⟩ := actCells hact6
            have a10 := fresh_cell hact6 10
            simp only [List.getElem?_toArray, List.getElem?_cons_zero, List.getElem?_cons_succ] at a10
            clear hact6
            obtain ⟨r0, r1, r2, rf0, rf1, rf2⟩ := zres HS5.out.res
            obtain ⟨c0, c1, c2, c3, c4, c5, c6, c7⟩ := HS5.out.cells
            have hres5 := HS5.out.res
            have HRES5 := Lib.hid hres5
            clear hres5
            cases ok with
            | false =>
              have hone : doOne k now en failed key E laid = ⟨5, [], 0, 0, E, laid⟩ := by
                unfold doOne
                simp only [HX.out, HO.out]
                rw [if_neg (show ¬ k.kind ≤ 10 by omega), if_pos trivial]
              have HONE := Lib.hid hone
              clear hone
              go_wp2
              refine bodyPost_ret (results_cell_tmp_row rfl _ _ (w.heap.size + 1) _ _ _ _ rfl (set3 HRES5.out) Tryz.underlying36 rfl (by kernel_rfl)) rfl ?_
              exact HFIN.out ⟨5, [], 0, 0, E, laid⟩ w5 _ HONE.out (HS5.out.at_.more (by omega)) HM5.out rfl ((((Only.refl _ w5).setCell 0 _).setCell 1 _).setCell 2 _)
            | true =>
              by_cases k11 : k.kind = 11
              · have e11 : (k.kind == 11) = true := beq_iff_eq.2 k11
                have hone : doOne k now en failed key E laid = ⟨6, [], 0, 0, dropT E key, laid⟩ := by
                  unfold doOne
                  simp only [HX.out, HO.out]
                  rw [if_neg (show ¬ k.kind ≤ 10 by omega), if_neg (by decide), if_pos k11]
                have HONE := Lib.hid hone
                clear hone k11
                go_wp2_with fail
                refine (Drop_calls w5 g b c E laid key HS5.out.at_).mono ?_
                rintro e w6 ⟨rfl, hA6, hM6⟩
                have hres := hM6.heap HRES5.out (by omega) (by omega)
                have HA6 := Aside0.mk hA6
                have HM6 := Aside0.mk (HM5.out.trans hM6)
                clear r0 r1 r2 rf0 rf1 rf2
                obtain ⟨r0, r1, r2, rf0, rf1, rf2⟩ := zres hres
                have HRES := Lib.hid hres
                clear hA6 hM6 hres
                go_wp2
                refine bodyPost_ret (results_cell_tmp_row rfl _ _ (w.heap.size + 1) _ _ _ _ rfl (set3 HRES.out) Tryz.underlying36 rfl (by kernel_rfl)) rfl ?_
                exact HFIN.out ⟨6, [], 0, 0, dropT E key, laid⟩ w6 _ HONE.out (HA6.out.more (by omega)) HM6.out rfl ((((Only.refl _ w6).setCell 0 _).setCell 1 _).setCell 2 _)
              · have e11 : (k.kind == 11) = false := beq_eq_false_iff_ne.2 k11
                by_cases k14 : k.kind = 14
                · have e14 : (k.kind == 14) = true := beq_iff_eq.2 k14
                  have hone : doOne k now en failed key E laid = ⟨9, [], 0, 0, touchT E key x en, laid⟩ := by
                    unfold doOne
                    simp only [HX.out, HO.out]
                    rw [if_neg (show ¬ k.kind ≤ 10 by omega), if_neg (by decide), if_neg k11, if_pos k14]
                  have HONE := Lib.hid hone
                  clear hone k11 k14
                  go_upto_region 24 with fail
                  have o : Only a w5 (w5.setCell ⟨a, 14, none⟩ (.int .i64 en)) := (Only.refl a w5).setCell 14 _
                  have hact7 : ActAt (w5.setCell ⟨a, 14, none⟩ (.int .i64 en)) a g k (some ad) cap now en failed { x with exp := en } true := Lib.heap_setCell_same (i := 14) HAct5.out _
                  generalize w5.setCell ⟨a, 14, none⟩ (.int .i64 en) = V6 at o hact7 ⊢
                  have hs6 := HS5.out.only o haw hag hab
                  have hM6 := HM5.out.only o (by omega)
                  have hkc6 : V6.cell? ad = some (.string key) := o.cell hkc (by omega)
                  have HS6 := Aside0.mk hs6
                  have HM6 := Aside0.mk hM6
                  clear a12 a13 a14 a15 a16 f12 f13 f14 f15 f16 a10 hkc hs6 hM6 o HAct5 c0 c1 c2 c3 c4 c5 c6 c7 r0 r1 r2 rf0 rf1 rf2
                  obtain ⟨a12, a13, a14, a15, a16, f12, f13, f14, f15, f16⟩ := actCells hact7
                  obtain ⟨c0, c1, c2, c3, c4, c5, c6, c7⟩ := HS6.out.cells
                  have g0 := HS6.out.at_.gcell
                  have HF := Lib.hid (show _ ∧ _ ∧ _ ∧ _ ∧ _ ∧ _ ∧ _ from ⟨g0, c1, hkc6, a12, a13, a14, a15⟩)
                  have hNg : w.heap.size ≠ g := by omega
                  have hNb : w.heap.size ≠ b := by omega
                  clear a12 a13 a14 a15 a16 f12 f13 f14 f15 f16 c0 c1 c2 c3 c4 c5 c6 c7 g0 hkc6 hact7
                  go_region_held3 (fun w' => w'.cell? ⟨g, 0, none⟩ = some (.map (some b)) ∧ w'.cell? ⟨w.heap.size, 1, none⟩ = some (.slice (some ad) k.keys.length cap) ∧ w'.cell? ad = some (.string key) ∧
                      w'.cell? ⟨a, 12, none⟩ = some (.string x.value) ∧ w'.cell? ⟨a, 13, none⟩ = some (.int .u32 x.flags) ∧ w'.cell? ⟨a, 14, none⟩ = some (.int .i64 en) ∧ w'.cell? ⟨a, 15, none⟩ = some (.int .u64 x.cas))
                    ((first | exact HF.out | exact HF3.out | exact HF4.out))
                    (first | (go_at_call 18; refine (named_calls key _).mono ?_; rintro e w3 ⟨rfl, hb3⟩; have HA3 := Aside0.mk (HS6.out.at_.drew.below hb3); have HF3 := Lib.hid (show _ ∧ _ ∧ _ ∧ _ ∧ _ ∧ _ ∧ _ from ⟨keepC hb3 HF.out.1, keepC hb3 HF.out.2.1, keepC hb3 HF.out.2.2.1, keepC hb3 HF.out.2.2.2.1, keepC hb3 HF.out.2.2.2.2.1, keepC hb3 HF.out.2.2.2.2.2.1, keepC hb3 HF.out.2.2.2.2.2.2⟩); obtain ⟨w4, hr4, HA4, HM4⟩ := HA3.out.put (by omega) (nm key) (nm_len key) ⟨x.value, x.flags, en, x.cas⟩ hxs; have HF4 := Lib.hid (show _ ∧ _ ∧ _ ∧ _ ∧ _ ∧ _ ∧ _ from ⟨HA4.gcell, HM4.cell HF3.out.2.1 hNg hNb, HM4.cell HF3.out.2.2.1 had1 had2, HM4.cell HF3.out.2.2.2.1 hag hab, HM4.cell HF3.out.2.2.2.2.1 hag hab, HM4.cell HF3.out.2.2.2.2.2.1 hag hab, HM4.cell HF3.out.2.2.2.2.2.2 hag hab⟩)))
                  have hres := HM4.heap ((hb3.block _ (blk_lt HS6.out.res)).trans HS6.out.res) (by omega) (by omega)
                  have HA6 := Aside0.mk HA4
                  have HM7 := Aside0.mk ((HM6.out.drew.then_below hb3).trans HM4)
                  clear HF HF3 HF4 HA3 hr4
                  obtain ⟨r0, r1, r2, rf0, rf1, rf2⟩ := zres hres
                  have HRES := Lib.hid hres
                  clear hres HA4 HM4 hb3
                  go_wp2
                  refine bodyPost_ret (results_cell_tmp_row rfl _ _ (w.heap.size + 1) _ _ _ _ rfl (set3 HRES.out) Tryz.underlying36 rfl (by kernel_rfl)) rfl ?_
                  exact HFIN.out ⟨9, [], 0, 0, touchT E key x en, laid⟩ _ _ HONE.out HA6.out HM7.out rfl ((((Only.refl _ _).setCell 0 _).setCell 1 _).setCell 2 _)
                · have e14 : (k.kind == 14) = false := beq_eq_false_iff_ne.2 k14
                  have hone : doOne k now en failed key E laid = ⟨(countR k x failed key E laid).1, [], (countR k x failed key E laid).2.1, 0, (countR k x failed key E laid).2.2.1, (countR k x failed key E laid).2.2.2⟩ := by
                    unfold doOne
                    simp only [HX.out, HO.out]
                    rw [if_neg (show ¬ k.kind ≤ 10 by omega), if_neg (by decide), if_neg k11, if_neg k14]
                  have HONE := Lib.hid hone
                  have hk12 : k.kind = 12 ∨ k.kind = 13 := by
                    have h15 : k.kind ≠ 15 := beq_eq_false_iff_ne.1 e15
                    have := HFI.out.hi
                    omega
                  have HK12 := Lib.hid hk12
                  clear hone k11 k14 hk12
                  go_wp2_with fail
                  refine (count_calls w5 g b c a E laid k (some ad) cap now en failed x true key (HV.out.below HS5.out.bel) HS5.out.at_ (by omega) HAct5.out hag hab HKY5.out HK12.out HD.out hxs).mono ?_
                  rintro e w6 ⟨rfl, hA6, hM6⟩
                  have hres := hM6.heap HRES5.out (by omega) (by omega)
                  have HA6 := Aside0.mk hA6
                  have HM6 := Aside0.mk (HM5.out.trans hM6)
                  clear r0 r1 r2 rf0 rf1 rf2
                  obtain ⟨r0, r1, r2, rf0, rf1, rf2⟩ := zres hres
                  have HRES := Lib.hid hres
                  clear hA6 hM6 hres
                  generalize countR k x failed key E laid = S at *
                  obtain ⟨S1, S2, S3, S4⟩ := S
                  go_wp2
                  refine bodyPost_ret (results_cell_tmp_row rfl _ _ (w.heap.size + 1) _ _ _ _ rfl (set3 HRES.out) Tryz.underlying36 rfl (by kernel_rfl)) rfl ?_
                  exact HFIN.out ⟨S1, [], S2, 0, S3, S4⟩ w6 _ HONE.out HA6.out HM6.out rfl ((((Only.refl _ w6).setCell 0 _).setCell 1 _).setCell 2 _)
    · have hz2 : (ee != 0) = true := bne_iff_ne.2 hee
      go_wp2
      refine bodyPost_ret (results_cell_tmp_row rfl _ _ (w.heap.size + 1) _ _ _ _ rfl (set3 HS2.out.res) Tryz.underlying36 rfl (by kernel_rfl)) rfl ?_
      have e : doR 0 en ee k now failed E laid = ⟨0, [], 0, ee, E, laid⟩ := by unfold doR; rw [if_neg (fun h => h rfl), if_pos hee]
      rw [e]
      exact Out.plain (((HS2.out.at_.setCell (by simp; omega) (by simp; omega) _).setCell (by simp; omega) (by simp; omega) _).setCell (by simp; omega) (by simp; omega) _) ((((Mut.of_below HS2.out.bel).setCell (.inl (by simp)) _).setCell (.inl (by simp)) _).setCell (.inl (by simp)) _)
  · have hz1 : (ck != 0) = true := bne_iff_ne.2 hz
    go_wp2
    refine bodyPost_ret (results_cell_tmp_row rfl _ _ (w.heap.size + 1) _ _ _ _ rfl (set3 HS.out.res) Tryz.underlying36 rfl (by kernel_rfl)) rfl ?_
    have e : doR ck en ee k now failed E laid = ⟨0, [], 0, ck, E, laid⟩ := by unfold doR; rw [if_pos hz]
    rw [e]
    exact Out.plain (((HS.out.at_.setCell (by simp; omega) (by simp; omega) _).setCell (by simp; omega) (by simp; omega) _).setCell (by simp; omega) (by simp; omega) _) ((((Mut.of_below HS.out.bel).setCell (.inl (by simp)) _).setCell (.inl (by simp)) _).setCell (.inl (by simp)) _)
end Go.Proofs.YtbggcimjlkjclaaGreatDoor.Mdl
end
section
namespace Go.Proofs.YtbggcimjlkjclaaGreatDoor.Mdl
open Go.RowKit Go.Proofs.YtbggcimjlkjclaaGreatDoorW.PrintWords Go.Proofs.YtbggcimjlkjclaaGreatDoorW.PrintLast Go.Proofs.YtbggcimjlkjclaaGreatDoorW.PrintMore Go.Proofs.YtbggcimjlkjclaaGreatDoor.XMd
set_option linter.unusedVariables false
set_option linter.unusedSimpArgs false
def sameC (kind flags exp : Int) (value : List UInt8) (cas delta : Int) (quiet : Bool) : Bool :=
  (decide (5 ≤ kind ∧ kind ≤ 10) || decide (value = [])) && (decide (kind = 5 ∨ kind = 6 ∨ kind = 7 ∨ kind = 10) || decide (flags = 0)) &&
  (decide (kind = 3 ∨ kind = 4 ∨ kind = 14 ∨ kind = 5 ∨ kind = 6 ∨ kind = 7 ∨ kind = 10) || decide (exp = 0)) && (decide (kind = 10) || decide (cas = 0)) &&
  (decide (kind = 12 ∨ kind = 13) || decide (delta = 0)) && (decide (5 ≤ kind) || decide (quiet = false))
def keysC (kind : Int) (n : Nat) : Bool := if kind ≤ 4 then decide (1 ≤ n ∧ n ≤ 8) else if kind = 15 then decide (n = 0) else decide (n = 1)
def chk (kind : Int) (keys : List ByteArray) (flags exp : Int) (value : ByteArray) (cas delta : Int) (quiet : Bool) : Int :=
  if ¬ (1 ≤ kind ∧ kind ≤ 15) then 70
  else if sameC kind flags exp value.toList cas delta quiet = false ∨ keysC kind keys.length = false ∨ keys.any (fun s => !(fnv_Key.is s)) = true then 6
  else if 2000 < value.size then 7 else 0
theorem keys_is (kind : Int) (h : 1 ≤ kind ∧ kind ≤ 15) (n : Nat) : verb_keys.f kind (n : Int) = some (keysC kind n) := by
  unfold verb_keys.f verb_reads.f keysC
  rw [if_pos (show kind ≥ 1 from h.1)]
  simp only [Option.bind_some]
  by_cases h4 : kind ≤ 4
  · rw [decide_eq_true h4, if_pos rfl, if_pos h4]
    by_cases h1 : 1 ≤ n
    · rw [if_pos (by omega)]
      congr 1
      by_cases h8 : n ≤ 8
      · rw [decide_eq_true (by omega), decide_eq_true (by omega)]
      · rw [decide_eq_false (by omega), decide_eq_false (by omega)]
    · rw [if_neg (by omega), decide_eq_false (by omega)]
  · rw [decide_eq_false h4, if_neg Bool.false_ne_true, if_neg h4]
    by_cases h15 : kind = 15
    · rw [if_pos h15, if_pos h15]
      by_cases h0 : n = 0
      · rw [decide_eq_true h0, h0]; rfl
      · rw [decide_eq_false h0]; exact congrArg some (beq_eq_false_iff_ne.2 (by omega))
    · rw [if_neg h15, if_neg h15]
      by_cases h0 : n = 1
      · rw [decide_eq_true h0, h0]; rfl
      · rw [decide_eq_false h0]; exact congrArg some (beq_eq_false_iff_ne.2 (by omega))
theorem keysC_le {kind : Int} {n : Nat} (h : keysC kind n = true) : n ≤ 8 := by
  unfold keysC at h
  split at h
  · have := of_decide_eq_true h; omega
  · split at h <;> (have := of_decide_eq_true h; omega)
theorem j9_is (b : Bool) (kind : Int) (keys : List ByteArray) (flags exp : Int) (value : ByteArray) (cas delta : Int) (quiet : Bool) :
    verb_Check.j9 1 b kind keys flags exp value cas delta quiet = some (if b = true then 6 else if 2000 < value.size then 7 else 0) := by
  simp only [verb_Check.j9]
  cases b
  · rw [if_neg Bool.false_ne_true, if_neg Bool.false_ne_true]
    by_cases h : 2000 < value.size
    · rw [if_pos (by omega), if_pos h]
    · rw [if_neg (by omega), if_neg h]
  · rfl
theorem j8_is (kind : Int) (s : Bool) (h : 1 ≤ kind ∧ kind ≤ 15) (keys : List ByteArray) (flags exp : Int) (value : ByteArray) (cas delta : Int) (quiet : Bool) :
    verb_Check.j8 2 kind s kind keys flags exp value cas delta quiet = some (if s = false ∨ keysC kind keys.length = false ∨ keys.any (fun s => !(fnv_Key.is s)) = true then 6 else if 2000 < value.size then 7 else 0) := by
  simp only [verb_Check.j8]
  cases s
  · rw [if_neg Bool.false_ne_true, j9_is]; simp
  · rw [if_pos rfl, keys_is kind h]
    simp only [Option.bind_some]
    cases hk : keysC kind keys.length
    · rw [if_neg Bool.false_ne_true, j9_is]; simp
    · rw [if_pos rfl, slices_ContainsFunc_string_string.f, if_pos ⟨rfl, by have := keysC_le hk; omega⟩]
      simp only [Option.bind_some]
      rw [j9_is]
      cases keys.any (fun s => !(fnv_Key.is s)) <;> simp
theorem nil_is : (⟨#[]⟩ : ByteArray).toList = [] := by rw [ByteArray.toList_eq]
set_option maxHeartbeats 4000000 in
theorem chk_is (kind : Int) (keys : List ByteArray) (flags exp : Int) (value : ByteArray) (cas delta : Int) (quiet : Bool) :
    verb_Check.f 10 kind keys flags exp value cas delta quiet = some (chk kind keys flags exp value cas delta quiet) := by
  by_cases h : 1 ≤ kind ∧ kind ≤ 15
  · have e : chk kind keys flags exp value cas delta quiet = (if sameC kind flags exp value.toList cas delta quiet = false ∨ keysC kind keys.length = false ∨ keys.any (fun s => !(fnv_Key.is s)) = true then 6 else if 2000 < value.size then 7 else 0) := by
      unfold chk
      rw [if_neg (fun hn => hn h)]
    rw [e, ← j8_is kind (sameC kind flags exp value.toList cas delta quiet) h keys flags exp value cas delta quiet]
    have hk : kind = 1 ∨ kind = 2 ∨ kind = 3 ∨ kind = 4 ∨ kind = 5 ∨ kind = 6 ∨ kind = 7 ∨ kind = 8 ∨ kind = 9 ∨ kind = 10 ∨ kind = 11 ∨ kind = 12 ∨ kind = 13 ∨ kind = 14 ∨ kind = 15 := by omega
    have c0 : ∀ x : Int, (0 = x) = (x = 0) := fun x => propext eq_comm
    have c1 : ∀ x : List UInt8, ([] = x) = (x = []) := fun x => propext eq_comm
    clear h e
    rcases hk with rfl | rfl | rfl | rfl | rfl | rfl | rfl | rfl | rfl | rfl | rfl | rfl | rfl | rfl | rfl
    all_goals
      simp only [verb_Check.f, verb_kind.f, verb_Stores.f, verb_Check.j0, verb_Check.j1, verb_Check.j2, verb_Check.j3, verb_Check.j4, verb_Check.j5, verb_Check.j6, verb_Check.j7, verb_ends.f, verb_reads.f, nil_is, sameC]
      simp (config := { decide := true }) only [if_true, if_false, ite_true, ite_false, Option.bind_some, Bool.not_true, Bool.not_false, Bool.true_or, Bool.false_or, Bool.true_and, decide_true, decide_false]
      simp only [c0, c1]
      generalize verb_Check.j8 2 _ = F
      by_cases h2 : flags = 0 <;> by_cases h3 : exp = 0 <;> by_cases h4 : cas = 0 <;> by_cases h5 : delta = 0 <;> by_cases h6 : value.toList = [] <;> cases quiet <;> simp only [h2, h3, h4, h5, h6, decide_true, decide_false, if_true, if_false, Bool.and_true, Bool.true_and, Bool.and_false, Bool.false_and, ite_self, reduceCtorEq, Bool.true_eq_false, Bool.false_eq_true] <;> rfl
  · have e : verb_kind.f kind = some false := by
      unfold verb_kind.f
      split
      · rw [decide_eq_false (by omega)]
      · rfl
    unfold verb_Check.f chk
    rw [e, if_pos h]
    rfl
end Go.Proofs.YtbggcimjlkjclaaGreatDoor.Mdl
end
section
namespace Go.Proofs.YtbggcimjlkjclaaGreatDoor.Mdl
open Go.RowKit Go.Proofs.YtbggcimjlkjclaaGreatDoorW.PrintWords Go.Proofs.YtbggcimjlkjclaaGreatDoorW.PrintLast Go.Proofs.YtbggcimjlkjclaaGreatDoorW.PrintMore Go.WideMaps Go.Proofs.YtbggcimjlkjclaaGreatDoor.XMd
set_option linter.unusedVariables false
set_option linter.unusedSimpArgs false
attribute [local go_sem ↓] Go.wp_at_zero Go.wp_at_succ

def endsE (now : Int) : Int := if 1 ≤ now ∧ now ≤ 2147483647 then 0 else 1
def endsV (now exp : Int) : Int :=
  if ¬ (1 ≤ now ∧ now ≤ 2147483647) then 0 else if exp < 0 then 1 else if 0 < exp ∧ exp ≤ 2592000 then (mn (wrap64 (exp + now)) 4294967295) % 4294967296 else (mn exp 4294967295) % 4294967296
theorem ends_is (now exp : Int) : clock_Ends.f now exp = some (endsV now exp, endsE now) := by
  unfold clock_Ends.f clock_second.f endsV endsE
  by_cases h1 : 1 ≤ now
  · by_cases h2 : now ≤ 2147483647
    · by_cases h3 : exp < 0
      · simp [h1, h2, h3]
      · by_cases h4 : 0 < exp
        · by_cases h5 : exp ≤ 2592000
          · simp [h1, h2, h3, h4, h5]
          · simp [h1, h2, h3, h4, h5]
        · simp [h1, h2, h3, h4]
    · simp [h1, h2]
  · simp [h1]
theorem endsV_lo (now exp : Int) : 0 ≤ endsV now exp ∧ endsV now exp ≤ 4294967295 := by
  unfold endsV
  split
  · omega
  · split
    · omega
    · split
      · have := Int.emod_nonneg (mn (wrap64 (exp + now)) 4294967295) (show (4294967296 : Int) ≠ 0 by decide)
        have := Int.emod_lt_of_pos (mn (wrap64 (exp + now)) 4294967295) (show (0 : Int) < 4294967296 by decide)
        omega
      · have := Int.emod_nonneg (mn exp 4294967295) (show (4294967296 : Int) ≠ 0 by decide)
        have := Int.emod_lt_of_pos (mn exp 4294967295) (show (0 : Int) < 4294967296 by decide)
        omega
def chkC (k : Cmd) : Int := chk k.kind k.keys k.flags k.exp k.value k.cas k.delta k.quiet
theorem fine_of (k : Cmd) (h : chkC k = 0) : Fine k := by
  unfold chkC chk at h
  split at h
  · cases h
  · rename_i h1
    have h1 := Classical.not_not.1 h1
    split at h
    · cases h
    · rename_i h2
      split at h
      · cases h
      · rename_i h3
        have hk : keysC k.kind k.keys.length = true := by
          cases hk : keysC k.kind k.keys.length
          · exact absurd (.inr (.inl hk)) h2
          · rfl
        refine ⟨h1.1, h1.2, by omega, by have := keysC_le hk; omega, fun h5 h14 hn => ?_⟩
        unfold keysC at hk
        rw [if_neg (by omega), if_neg (by omega), hn] at hk
        exact absurd hk (by decide)
def doP (k : Cmd) (now : Int) (failed : Bool) (E : Tab) (laid : Int) : Out := doR (chkC k) (endsV now k.exp) (endsE now) k now failed E laid
theorem Do_c (w : World) (g b c : Nat) (E : Tab) (laid : Int) (k : Cmd) (A : Option Addr) (cap : Nat) (now : Int) (failed : Bool)
    (hv : Vars w) (hA : At w g b c E laid) (hc : c + 1000 < maxLen) (hC : Kd.string.C w A k.keys.length k.keys) (hK : KeysAt w g b A k.keys) (hcap : k.keys.length ≤ cap) (hd : 0 ≤ k.delta) :
    Calls Tryz.prog 7 #[.pointer (some ⟨g, 0, none⟩), .agg #[.int .i64 k.kind, .slice A k.keys.length cap, .int .u32 k.flags, .int .i64 k.exp, .string k.value, .int .u64 k.cas, .int .u64 k.delta, .bool k.quiet], .int .i64 now, .bool failed] w
      (OutAt w g b c (doP k now failed E laid)) :=
  Do_calls w g b c E laid k A cap now failed 10 (chkC k) (endsV now k.exp) (endsE now) hv hA hc hC hK hcap hd (chk_is _ _ _ _ _ _ _ _) (fine_of k) (ends_is now k.exp) (endsV_lo now k.exp).1 (endsV_lo now k.exp).2
theorem row_cell {w : World} {B : Nat} {l : List ByteArray} {t : TypeId} (h : w.heap[B]? = some (.cells (l.map Value.string).toArray t)) {j : Nat} {p : ByteArray} (hp : l[j]? = some p) : w.cell? ⟨B, j, none⟩ = some (.string p) := by
  rw [fresh_cell h j]
  simp [hp]
theorem keys_row {w : World} {B : Nat} {l : List ByteArray} {t : TypeId} (h : w.heap[B]? = some (.cells (l.map Value.string).toArray t)) (hl : l.length ≤ 100) : Kd.string.C w (some ⟨B, 0, none⟩) l.length l := by
  refine ⟨rfl, by omega, fun _ => ⟨⟨B, 0, none⟩, rfl, fun j p hp => ⟨[.string p], rfl, rfl, fun i u hu => ?_⟩⟩⟩
  cases i with
  | zero =>
    injection hu with hu
    subst hu
    have := row_cell h hp
    rw [Addr.add_lit, Nat.zero_add]
    simpa [Kd.string, Kd.scalar] using this
  | succ i => simp at hu
theorem keys_at {w : World} {g b B : Nat} {l : List ByteArray} {t : TypeId} (h : w.heap[B]? = some (.cells (l.map Value.string).toArray t)) (hg : B ≠ g) (hb : B ≠ b) : KeysAt w g b (some ⟨B, 0, none⟩) l :=
  fun j p hp => ⟨⟨B, 0, none⟩, rfl, hg, hb, by rw [Addr.add_lit, Nat.zero_add]; exact row_cell h hp⟩
structure Lw (w0 w : World) (g b c : Nat) (E : Tab) (laid : Int) : Prop where
  at_ : At w g b c E laid
  bel : Below w0.heap.size w0 w
  hg : w0.heap.size ≤ g
  hb : w0.heap.size ≤ b
theorem Lw.below {w0 w w' : World} {g b c : Nat} {E : Tab} {laid : Int} (h : Lw w0 w g b c E laid) (hb : Below w.heap.size w w') : Lw w0 w' g b c E laid :=
  ⟨h.at_.below hb, h.bel.trans (hb.mono h.bel.size), h.hg, h.hb⟩
theorem Lw.mut {w0 w w' : World} {g b c c' : Nat} {E E' : Tab} {laid laid' : Int} (h : Lw w0 w g b c E laid) (hA : At w' g b c' E' laid') (hM : Mut g b w w') : Lw w0 w' g b c' E' laid' :=
  ⟨hA, h.bel.trans (hM.below h.hg h.hb h.bel.size), h.hg, h.hb⟩
theorem Lw.set {w0 w : World} {g b c : Nat} {E : Tab} {laid : Int} (h : Lw w0 w g b c E laid) {p : Addr} (hp : w0.heap.size ≤ p.block) (h1 : p.block ≠ g) (h2 : p.block ≠ b) (u : Value) : Lw w0 (w.setCell p u) g b c E laid :=
  ⟨h.at_.setCell h1 h2 u, h.bel.setCell hp u, h.hg, h.hb⟩
theorem heap_alloc2 (w : World) (o1 o2 : Obj) : ((w.alloc o1).alloc o2).heap[w.heap.size + 1]? = some o2 := by
  have := heap_alloc_new (w.alloc o1) o2
  rwa [size_al] at this
def setCmd (key value : ByteArray) : Cmd := ⟨5, [key], 0, 0, value, 0, 0, false⟩
set_option maxHeartbeats 1000000 in
theorem set_c (w : World) (key value : ByteArray) :
    Calls Tryz.prog 11 #[.string key, .string value] w fun e w' =>
      e = .returned (.agg #[.int .i64 5, .slice (some ⟨w.heap.size + 1, 0, none⟩) 1 1, .int .u32 0, .int .i64 0, .string value, .int .u64 0, .int .u64 0, .bool false]) ∧ w'.heap[w.heap.size + 1]? = some (.cells ([key].map Value.string).toArray 9) ∧ Below w.heap.size w w' := by
  go_enter Tryz.func11, Tryz.ntmps11
  go_wp2
  refine bodyPost_ret (results_cell_row rfl _ _ w.heap.size 31 #[.int .i64 5, .slice (some ⟨w.heap.size + 1, 0, none⟩) 1 1, .int .u32 0, .int .i64 0, .string value, .int .u64 0, .int .u64 0, .bool false] (0, 0) _ rfl ((Below.heap_alloc _ _ _ (by simp)).trans (heap_alloc_new w _)) Tryz.underlying31 rfl (by kernel_rfl)) rfl ?_
  refine ⟨rfl, ?_, ((Below.refl _ w).alloc (Nat.le_refl _) _).alloc (by simp) _⟩
  exact heap_alloc2 w _ _
end Go.Proofs.YtbggcimjlkjclaaGreatDoor.Mdl
end
section
namespace Go.Proofs.YtbggcimjlkjclaaGreatDoor.Mdl
open Go.RowKit Go.Proofs.YtbggcimjlkjclaaGreatDoorW.PrintWords Go.Proofs.YtbggcimjlkjclaaGreatDoorW.PrintLast Go.Proofs.YtbggcimjlkjclaaGreatDoorW.PrintMore Go.WideMaps Go.Proofs.YtbggcimjlkjclaaGreatDoor.XMd
set_option linter.unusedVariables false
set_option linter.unusedSimpArgs false
structure Good (key : ByteArray) : Prop where
  ok : fnv_Key.is key = true
  back : strip (nm key) = key.data.toList
theorem zsize : (⟨#[]⟩ : ByteArray).size ≤ 2000 := by decide
def sec (now : Int) : Prop := 1 ≤ now ∧ now ≤ 2147483647
theorem ends_ok {now : Int} (h : sec now) : endsE now = 0 := if_pos h
theorem ends_nought {now : Int} (h : sec now) : endsV now 0 = 0 := by
  unfold endsV
  rw [if_neg (fun hn => hn h)]
  rfl
theorem get_same (E : Tab) {key : ByteArray} (hk : Good key) (x : Ent) (now : Int) : get (putT E (nm key) (some x)) key now = if gone x now = false then some x else none := by
  unfold get
  rw [putT_same]
  simp only [hk.back, true_and]
theorem gone_nought (x : Ent) (h : x.exp = 0) (now : Int) : gone x now = false := by
  unfold gone
  rw [h]
  rfl
theorem chk_set {key : ByteArray} (hk : Good key) (flags exp : Int) (value : ByteArray) : chk 5 [key] flags exp value 0 0 false = if 2000 < value.size then 7 else 0 := by
  simp [chk, sameC, keysC, hk.ok]
theorem chk_join {key : ByteArray} (hk : Good key) (kind : Int) (h : kind = 8 ∨ kind = 9) (value : ByteArray) : chk kind [key] 0 0 value 0 0 false = if 2000 < value.size then 7 else 0 := by
  rcases h with rfl | rfl <;> simp [chk, sameC, keysC, hk.ok]
theorem chk_count {key : ByteArray} (hk : Good key) (kind : Int) (h : kind = 12 ∨ kind = 13) (delta : Int) : chk kind [key] 0 0 ⟨#[]⟩ 0 delta false = 0 := by
  rcases h with rfl | rfl <;> simp [chk, sameC, keysC, hk.ok, nil_is, zsize]
theorem chk_touch {key : ByteArray} (hk : Good key) (kind : Int) (h : kind = 14 ∨ kind = 4) (exp : Int) : chk kind [key] 0 exp ⟨#[]⟩ 0 0 false = 0 := by
  rcases h with rfl | rfl <;> simp [chk, sameC, keysC, hk.ok, nil_is, zsize]
theorem chk_get {key : ByteArray} (hk : Good key) : chk 1 [key] 0 0 ⟨#[]⟩ 0 0 false = 0 := by
  simp [chk, sameC, keysC, hk.ok, nil_is, zsize]
theorem do_set {key : ByteArray} (hk : Good key) (flags exp : Int) (value : ByteArray) (now : Int) (hn : sec now) (hv : value.size ≤ 2000) (E : Tab) (laid : Int) :
    doP ⟨5, [key], flags, exp, value, 0, 0, false⟩ now false E laid = ⟨2, [], 0, 0, putT E (nm key) (some ⟨value, flags, endsV now exp, (laid + 1) % 18446744073709551616⟩), (laid + 1) % 18446744073709551616⟩ := by
  have hc : chkC ⟨5, [key], flags, exp, value, 0, 0, false⟩ = 0 := by
    show chk 5 [key] flags exp value 0 0 false = 0
    rw [chk_set hk, if_neg (by omega)]
  unfold doP doR
  rw [hc, ends_ok hn]
  simp [doOne, storeR, mayC, mayT, newEnt, layT, layN, show ¬ 2000 < value.size by omega]
theorem do_count {key : ByteArray} (hk : Good key) (kind : Int) (h : kind = 12 ∨ kind = 13) (delta : Int) (now : Int) (hn : sec now) (E : Tab) (laid : Int) (x : Ent) (hg : get E key now = some x) (m : Int) (hx : digits_Parse.val x.value.data.toList = (m, 0)) :
    doP ⟨kind, [key], 0, 0, ⟨#[]⟩, 0, delta, false⟩ now false E laid = ⟨7, [], countN ⟨kind, [key], 0, 0, ⟨#[]⟩, 0, delta, false⟩ m, 0, putT E (nm key) (some ⟨numText (countN ⟨kind, [key], 0, 0, ⟨#[]⟩, 0, delta, false⟩ m), x.flags, x.exp, (laid + 1) % 18446744073709551616⟩), (laid + 1) % 18446744073709551616⟩ := by
  have hc : chkC ⟨kind, [key], 0, 0, ⟨#[]⟩, 0, delta, false⟩ = 0 := chk_count hk kind h delta
  unfold doP doR
  rw [hc, ends_ok hn]
  rcases h with rfl | rfl <;> simp [doOne, hg, countR, hx, layT, layN]
end Go.Proofs.YtbggcimjlkjclaaGreatDoor.Mdl
end
section
namespace Go.Proofs.YtbggcimjlkjclaaGreatDoor.Mdl
open Go.RowKit Go.Proofs.YtbggcimjlkjclaaGreatDoorW.PrintWords Go.Proofs.YtbggcimjlkjclaaGreatDoorW.PrintLast Go.Proofs.YtbggcimjlkjclaaGreatDoorW.PrintMore Go.WideMaps Go.Proofs.YtbggcimjlkjclaaGreatDoor.XMd
set_option linter.unusedVariables false
set_option linter.unusedSimpArgs false
theorem strip_pad (l : List UInt8) (hl : l.length ≤ 32) (h0 : ∀ c ∈ l, c ≠ 0) : strip ((l ++ List.replicate 32 0).take 32) = l := by
  have e : (l ++ List.replicate 32 0).take 32 = l ++ List.replicate (32 - l.length) 0 := by
    rw [List.take_append, List.take_of_length_le hl, List.take_replicate]
    congr 2
    omega
  rw [e]
  unfold strip Lib.trimRightB
  rw [List.reverse_append, List.reverse_replicate]
  have hz : ∀ n : Nat, (List.replicate n (0 : UInt8) ++ l.reverse).dropWhile (· == 0) = l.reverse.dropWhile (· == 0) := by
    intro n
    induction n with
    | zero => rfl
    | succ n ih => rw [List.replicate_succ, List.cons_append, List.dropWhile_cons_of_pos (by rfl)]; exact ih
  rw [hz]
  cases hr : l.reverse with
  | nil => rw [List.dropWhile_nil, List.reverse_nil]; exact (List.reverse_eq_nil_iff.1 hr).symm
  | cons a r =>
    have ha : a ≠ 0 := h0 a (List.mem_reverse.1 (by rw [hr]; exact List.mem_cons_self))
    rw [List.dropWhile_cons_of_neg (by simpa using ha), ← hr, List.reverse_reverse]
theorem good_of {key : ByteArray} (h : fnv_Key.is key = true) : Good key := by
  refine ⟨h, ?_⟩
  unfold fnv_Key.is at h
  rw [Bool.and_eq_true] at h
  have hs := of_decide_eq_true h.1
  refine strip_pad _ (by rw [Array.length_toList]; exact hs.2) fun c hc hz => ?_
  have := List.all_eq_true.1 h.2 c hc
  have := of_decide_eq_true this
  rw [hz] at this
  exact absurd this.1 (by decide)
theorem nm_inj {a b : ByteArray} (ha : Good a) (hb : Good b) (h : nm a = nm b) : a = b := by
  have e : a.data.toList = b.data.toList := by rw [← ha.back, ← hb.back, h]
  cases a
  cases b
  congr 1
  exact Array.toList_inj.1 e
theorem keys_valid {k : Cmd} (h : chkC k = 0) : ∀ key ∈ k.keys, fnv_Key.is key = true := by
  unfold chkC chk at h
  split at h
  · cases h
  · split at h
    · cases h
    · rename_i h2
      intro key hk
      cases hv : fnv_Key.is key
      · exact absurd (.inr (.inr (List.any_eq_true.2 ⟨key, hk, by rw [hv]; rfl⟩))) h2
      · rfl
theorem reads_keep (k : Cmd) (now ends : Int) (n : List UInt8) : ∀ (l : List ByteArray) (E : Tab), (∀ key ∈ l, n ≠ nm key) → (readsR k now ends l E).2 n = E n
  | [], E, _ => rfl
  | key :: l, E, h => by
    unfold readsR
    rw [reads_keep k now ends n l _ (fun x hx => h x (List.mem_cons_of_mem _ hx))]
    unfold readOne
    cases get E key now with
    | none => rfl
    | some x =>
      simp only
      split
      · exact putT_other _ _ (h key List.mem_cons_self)
      · rfl
theorem drop_keep (E : Tab) (key : ByteArray) (n : List UInt8) (h : n ≠ nm key) : dropT E key n = E n := by
  unfold dropT
  split
  · exact putT_other _ _ h
  · rfl
theorem lay_keep (E : Tab) (laid : Int) (key : ByteArray) (x : Ent) (failed : Bool) (n : List UInt8) (h : n ≠ nm key) : layT E laid key x failed n = E n := by
  unfold layT
  split
  · rfl
  · exact putT_other _ _ h
theorem store_keep (k : Cmd) (is : Bool) (old : Ent) (ends : Int) (failed : Bool) (key : ByteArray) (E : Tab) (laid : Int) (n : List UInt8) (h : n ≠ nm key) : (storeR k is old ends failed key E laid).2.1 n = E n := by
  have hm : mayT E key k failed n = E n := by
    unfold mayT
    split
    · exact drop_keep _ _ _ h
    · rfl
  unfold storeR
  split
  · exact hm
  · split
    · exact hm
    · exact (lay_keep _ _ _ _ _ _ h).trans hm
theorem count_keep (k : Cmd) (old : Ent) (failed : Bool) (key : ByteArray) (E : Tab) (laid : Int) (n : List UInt8) (h : n ≠ nm key) : (countR k old failed key E laid).2.2.1 n = E n := by
  unfold countR
  split
  · rfl
  · exact lay_keep _ _ _ _ _ _ h
theorem one_keep (k : Cmd) (now ends : Int) (failed : Bool) (key : ByteArray) (E : Tab) (laid : Int) (n : List UInt8) (h : n ≠ nm key) : (doOne k now ends failed key E laid).E n = E n := by
  unfold doOne
  simp only
  split
  · exact store_keep _ _ _ _ _ _ _ _ _ h
  · split
    · rfl
    · split
      · exact drop_keep _ _ _ h
      · split
        · exact putT_other _ _ h
        · exact count_keep _ _ _ _ _ _ _ h
theorem do_keep (k : Cmd) (now : Int) (failed : Bool) (E : Tab) (laid : Int) (key : ByteArray) (hk : Good key) (h15 : k.kind ≠ 15) (h : ∀ x ∈ k.keys, x ≠ key) : (doP k now failed E laid).E (nm key) = E (nm key) := by
  unfold doP doR
  by_cases hc : chkC k = 0
  · have hv := keys_valid hc
    have hn : ∀ x ∈ k.keys, nm key ≠ nm x := fun x hx e => h x hx (nm_inj (good_of (hv x hx)) hk e.symm)
    rw [if_neg (fun h => h hc)]
    split
    · rfl
    · first | rw [if_neg h15] | skip
      split
      · exact reads_keep _ _ _ _ _ _ hn
      · cases hks : k.keys with
        | nil => rfl
        | cons a l => exact one_keep _ _ _ _ _ _ _ _ (hn a (by rw [hks]; exact List.mem_cons_self))
  · rw [if_pos hc]
theorem get_keep {E E' : Tab} {key : ByteArray} (h : E' (nm key) = E (nm key)) (now : Int) : get E' key now = get E key now := by
  unfold get
  rw [h]
end Go.Proofs.YtbggcimjlkjclaaGreatDoor.Mdl
end
section
namespace Go.Proofs.YtbggcimjlkjclaaGreatDoor.Mdl
open Go.Sort Go.RowKit Go.Proofs.YtbggcimjlkjclaaGreatDoorW.PrintWords Go.Proofs.YtbggcimjlkjclaaGreatDoorW.PrintLast Go.Proofs.YtbggcimjlkjclaaGreatDoorW.PrintMore Go.WideMaps Go.Proofs.YtbggcimjlkjclaaGreatDoor.XMd
set_option linter.unusedVariables false
set_option linter.unusedSimpArgs false
attribute [local go_sem ↓] Go.wp_at_zero Go.wp_at_succ
def Named (E : Tab) : Prop := ∀ n x, E n = some x → ∃ key, fnv_Key.is key = true ∧ n = nm key
def live (E : Tab) (now : Int) (n : List UInt8) : Bool := match E n with
  | some x => !(gone x now)
  | none => false
theorem live_some {E : Tab} {n : List UInt8} {x : Ent} (h : E n = some x) (now : Int) : live E now n = !(gone x now) := by unfold live; rw [h]
set_option maxRecDepth 100000 in
theorem entry_is {E : Tab} {D : DataW Value} (h2 : ∀ kl, WideAt.IsKeyLit kl → (∀ z, D.atKey kl (.held z) = .held ((litF E kl).getD z)) ∧ Maps.has D kl = (litF E kl).isSome) (hN : Named E)
    {key v : Value} {kl : Lit} {y : DataW Value × List MemPlace} (hkey : keyOf Tryz.prog 64 key = some kl) (hv : tokR v = some y) (hat : ∀ zd, D.atKey kl zd = y.1) :
    ∃ n x, E n = some x ∧ n.length = 32 ∧ kl = .string n ∧ key = nameV n ∧ v = x.v := by
  have hl := law.key hkey
  have hy : y = (.held v, []) := by unfold tokR at hv; injection hv with hv; exact hv.symm
  have e : ∀ z, (litF E kl).getD z = v := fun z => by
    have h := ((h2 kl hl).1 z).symm.trans (hat (.held z))
    rw [hy] at h
    injection h
  cases hk : litF E kl with
  | none =>
    have e1 := e (.bool true)
    have e2 := e (.bool false)
    rw [hk] at e1 e2
    have : Value.bool true = Value.bool false := e1.trans e2.symm
    injection this with this
    cases this
  | some u =>
    have e1 := e (.bool true)
    rw [hk] at e1
    cases kl with
    | string n =>
      have hk2 : (E n).map Ent.v = some u := hk
      cases hx : E n with
      | none => rw [hx] at hk2; cases hk2
      | some x =>
        rw [hx] at hk2
        injection hk2 with hk2
        obtain ⟨q, _, hq⟩ := hN n x hx
        have hn : n.length = 32 := by rw [hq]; exact nm_len q
        exact ⟨n, x, hx, hn, rfl, law.inj hkey (key_name n hn), e1.symm.trans hk2.symm⟩
    | _ => cases hk
def texts (l : List (List UInt8)) : List (List UInt8) := l.map strip
theorem filter_snoc (p : List UInt8 → Bool) (l : List (List UInt8)) (n : List UInt8) : (l ++ [n]).filter p = if p n = true then l.filter p ++ [n] else l.filter p := by
  rw [List.filter_append]
  cases h : p n
  · rw [List.filter_cons_of_neg (by rw [h]; exact Bool.false_ne_true), List.filter_nil, List.append_nil, if_neg Bool.false_ne_true]
  · rw [List.filter_cons_of_pos h, List.filter_nil, if_pos rfl]
theorem wpList_store_row {P : Program} {ops : Array Oper} {rest : List Oper} {op : Oper} {a : Act} {w : World} {Q : Exit → Act → World → Prop} (hgd : op.guard = none) (ty : TypeId) (x y : Operand) (ho : op.op = .store ty x y)
    (g : Nat) (cells : Array Value) (hx : a.eval x = .pointer (some ⟨g, 0, none⟩)) (hy : a.eval y = .agg cells) (t : TypeId) (old : Array Value) (hg : w.heap[g]? = some (.cells old t (0, 0))) (hi : (P.info? ty).map (·.size) = some cells.size)
    (hold : old.size = cells.size) (h1 : cells.all (·.oneCell') = true) (h : wpList P ops Q rest (a.put op.dst undef) (w.setRow g cells)) : wpList P ops Q (op :: rest) a w :=
  wpList_plain hgd fun _ hK => wp_store_row ty x y ho g cells hx hy t old hg hi hold h1 (hK _ _ h)
theorem below_row {B g : Nat} {w0 w : World} (hb : Below B w0 w) (hBg : B ≤ g) (cs : Array Value) : Below B w0 (w.setRow g cs) :=
  ⟨hb.os, hb.tape, hb.output, by rw [size_setRow]; exact hb.size, fun k hk => (setRow_other w g k cs (by omega)).trans (hb.block k hk)⟩
theorem heap_alloc2' (w : World) (o1 o2 : Obj) : ((w.alloc o1).alloc o2).heap[w.heap.size + 1]? = some o2 := by
  have := heap_alloc_new (w.alloc o1) o2
  rwa [size_al] at this
theorem ranges_same {P : Program} {k : TypeId} {R : Value → Option (DataW Value × List MemPlace)} {w w' : World} {b r n : Nat} {D : DataW Value} {left : Lit → Bool} {cnt : Nat} (h : w.ranges P k R b r n D left cnt) (hb : w'.heap[b]? = w.heap[b]?) (hr : w'.heap[r]? = w.heap[r]?) : w'.ranges P k R b r n D left cnt := by
  obtain ⟨es, clock, since, seen, c0, h1, h2, h3, h4, h5, h6⟩ := h
  exact ⟨es, clock, since, seen, c0, hb.trans h1, h2, h3, h4, hr.trans h5, h6⟩
def KeysOut (E : Tab) (now : Int) (ns : List (List UInt8)) : Prop := ns.Nodup ∧ ∀ n, n ∈ ns ↔ live E now n = true
set_option maxHeartbeats 8000000 in
set_option maxRecDepth 100000 in
theorem Keys_calls (w : World) (g b c : Nat) (E : Tab) (laid now : Int) (hA : At w g b c E laid) (hc : c ≤ 100000) (hN : Named E) :
    Calls Tryz.prog 9 #[.pointer (some ⟨g, 0, none⟩), .int .i64 now] w fun e w' => ∃ vs ns, KeysOut E now ns ∧ e = .returned vs ∧
      w'.ownsRow w.heap.size 9 1 vs ns.length (((texts ns).mergeSort (fun x y => decide (x ≤ y))).map encStr) ∧ Below w.heap.size w w' := by
  have hg := hA.lt
  have hgb := hA.ltb
  have hne := hA.ne
  have g0 := hA.gcell
  obtain ⟨D, ho, h1, h2⟩ := hA.map
  have hsz := ho.size_le
  have HO := Aside0.mk ho
  have H2 := Aside0.mk h2
  have HN := Aside0.mk hN
  obtain ⟨i0, hi, hz0, hz1, hz2⟩ : ∃ i : TypeInfo, Tryz.prog.info? 9 = some i ∧ i.zero = some (.string ⟨#[]⟩) ∧ i.size = 1 ∧ i.bytes = 16 := ⟨_, rfl, rfl, rfl, rfl⟩
  have HI := Lib.hid (show _ ∧ _ ∧ _ ∧ _ from ⟨hi, hz0, hz1, hz2⟩)
  clear hA ho h1 h2 hN hi hz0 hz1 hz2
  go_enter Tryz.func9, Tryz.ntmps9
  go_wp2_with (at_range; refine wpList_range_own _ rfl _ 51 rfl 64 44 law Tryz.underlying51 tokR b c D rfl HO.out ?_; intro w0 hrg0 hg0 hs0; (have HRG0 := Aside0.mk hrg0); (have HG0 := Aside0.mk hg0); clear hrg0 hg0 hs0)
  go_frame
  go_loopg [5] (Maps.size D) (fun gg v5 wr => ∃ (left : Lit → Bool) (cnt : Nat) (ss : List (List UInt8)), wr.ranges Tryz.prog 64 tokR b w.heap.size c D left cnt ∧ cnt ≤ gg ∧ ss.length + cnt ≤ Maps.size D ∧
      Aside0 (wr.ownsRow (w.heap.size + 1) 9 1 v5 (ss.filter (live E now)).length ((texts (ss.filter (live E now))).map encStr)) ∧ Aside0 (Collected D left ss) ∧ Aside0 (Below w.heap.size w wr))
  case atStart =>
    exact ⟨_, _, [], HRG0.out, Nat.le_refl _, by simp, ⟨World.ownsRow_nil _ _ _ _⟩, ⟨Collected.start D⟩, ⟨(Below.refl _ _).grown HG0.out (Nat.le_refl _) (fun j hj => by cases hj)⟩⟩
  case round =>
    obtain ⟨left, cnt, ss, hrg, hcg, hcs, HROW, HC, HB⟩ := hrel
    have hb0 := hrg.owns
    have hrow2 := fun {w2 : World} (hg2 : wr.grownBy w2 (some w.heap.size)) => HROW.out.kept hg2 (.inr (row_ne_iter HROW.out hrg).symm)
    have HROW2 := Aside0.mk @hrow2
    have HRG := Aside0.mk hrg
    clear hrow2 hb0 hrg
    go_wp2_with (at_next; refine wpList_next_ranges _ rfl _ rfl 64 law tokR (fun v : Value => v) (fun v : Value => v) (fun key kl hk => ⟨key, rfl⟩) (fun v y hv => ⟨v, rfl⟩) b w.heap.size c _ _ _ rfl HRG.out ?_ ?_)
    · intro hc0 hl0
      have hout : KeysOut E now (ss.filter (live E now)) := by
        refine ⟨HC.out.1.filter _, fun n => ?_⟩
        rw [List.mem_filter, HC.out.2 n, hl0]
        refine ⟨fun h => h.2, fun h => ⟨⟨?_, rfl⟩, h⟩⟩
        rw [(H2.out (.string n) trivial).2]
        unfold live at h
        show ((E n).map Ent.v).isSome = true
        cases he : E n with
        | none => rw [he] at h; cases h
        | some x => rfl
      have HOUT := Aside0.mk hout
      have hlen : (ss.filter (live E now)).length ≤ ss.length := List.length_filter_le _ _
      have hcs' : ss.length ≤ 100000 := by omega
      clear hout hc0 hl0 hcs hcg HC HRG HROW2
      generalize ss.filter (live E now) = ns at HROW HOUT hlen
      have htl : (texts ns).length = ns.length := List.length_map _
      have HTL := Lib.hid htl
      clear htl
      have hrow := HROW.out
      rcases hrow.2 with ⟨rfl, hn0⟩ | ⟨r, cap, cur, rfl, hbase, hb, q1, q2, q3, q4⟩
      · have hns : ns = [] := List.eq_nil_of_length_eq_zero hn0
        subst hns
        clear hrow hn0 HROW
        go_wp2_with (go_at_call 22; refine (Tryz.slices_Sort_string_none none 0 wr).mono ?_; rintro e w' ⟨rfl, rfl⟩)
        go_ret
        refine ⟨_, [], HOUT.out, rfl, ?_, HB.out⟩
        have e0 : ((texts []).mergeSort fun x y => decide (x ≤ y)).map encStr = [] := by simp [texts]
        rw [e0]
        exact World.ownsRow_nil _ _ _ _
      · have hH : Holds encStr wr r 0 (texts ns).toArray := holds_of_block hb (by rw [HTL.out]; simpa using q4)
        have hrl : r < wr.heap.size := blk_lt hb
        have hcs := Tryz.slices_Sort_string r 0 cap (texts ns) wr hH hrl (by rw [HTL.out]; omega)
        rw [HTL.out] at hcs
        have HCS := Aside0.mk hcs
        have hfin : ∀ nn os, (grow (putRow encStr (Sort.ahead wr nn) r 0 ((texts ns).mergeSort fun x y => decide (x ≤ y)).toArray) os).ownsRow w.heap.size 9 1 (.slice (some ⟨r, 0, none⟩) ns.length cap) ns.length (((texts ns).mergeSort fun x y => decide (x ≤ y)).map encStr) := fun nn os => by
          have := ownsRow_sorted (w := wr) (base := w.heap.size) (g := r) (cap := cap) (n := nn) (os := os) (ss := texts ns) (ts := (texts ns).mergeSort fun x y => decide (x ≤ y)) (by simp) (by omega) hb (by rw [HTL.out]; exact q1) q2 q3
          rw [HTL.out] at this
          exact this
        have HFIN := Aside0.mk hfin
        have hB9 : ∀ nn os, Below w.heap.size w (grow (putRow encStr (Sort.ahead wr nn) r 0 ((texts ns).mergeSort fun x y => decide (x ≤ y)).toArray) os) := fun nn os => HB.out.grown (grownBy_sorted _) HB.out.size (fun j hj => by cases hj; omega)
        have HB9 := Aside0.mk hB9
        clear hrow hH hcs hfin hB9 hb q1 q2 q3 q4 HROW
        go_wp2_with (go_at_call 22; refine HCS.out.mono ?_; rintro e w' ⟨rfl, nn, os, rfl⟩)
        go_ret
        exact ⟨_, ns, HOUT.out, rfl, HFIN.out nn os, HB9.out nn os⟩
    · intro key v kl yd yp w2 cnt2 hkey hlk hv hat hrg2 hlt hg2 hs2 hen
      obtain ⟨n, x, hx, hn, rfl, rfl, rfl⟩ := entry_is H2.out HN.out hkey hv hat
      have hC2 := HC.out.step hlk hat
      obtain ⟨C, hCe⟩ : ∃ C, C = (n.map fun b => Value.int .u8 (b.toNat : Int)).toArray := ⟨_, rfl⟩
      have hCn : nameV n = .agg C := by rw [hCe]; rfl
      have hCs : C.size = 32 := by rw [hCe]; simp [hn]
      have hC1 : C.all (·.oneCell') = true := by rw [hCe]; exact all_oneCell_toArray (fun v hv => by obtain ⟨b, _, rfl⟩ := List.mem_map.1 hv; rfl)
      have hxv : x.v = .agg #[.string x.value, .int .u32 x.flags, .int .i64 x.exp, .int .u64 x.cas] := rfl
      have hkc := key_calls n hn
      rw [hCn, hxv] at hen
      rw [hCn] at hkc
      rw [hCn, hxv]
      have HKC := Aside0.mk hkc
      have HX := Lib.hid hx
      have HRG2 := Aside0.mk hrg2
      have HCC := Aside0.mk hC2
      have HROW3 := Aside0.mk (HROW2.out hg2)
      have hws : w.heap.size < w2.heap.size := by rw [hs2]; exact HRG.out.lt
      have HB2 := Aside0.mk (HB.out.grown hg2 HB.out.size (fun j hj => by cases hj; exact Nat.le_refl _))
      have hinfo : (Tryz.prog.info? 64).map (·.size) = some C.size := by rw [hCs]; kernel_rfl
      have hcnt : ss.length + 1 + cnt2 ≤ Maps.size D := by omega
      have hlen : (ss.filter (live E now)).length ≤ ss.length := List.length_filter_le _ _
      clear hkc hx hrg2 hC2 hg2 hs2 hkey hlk hv hat hCn hxv hCe HRG HROW HROW2 HC HB
      have hst := heap_alloc_new w2 (.cells zero32 64)
      have hst2 := (Below.heap_alloc (w2.alloc (.cells zero32 64)) (.cells #[.string ⟨#[]⟩, .int .u32 0, .int .i64 0, .int .u64 0] 44) w2.heap.size (by simp)).trans hst
      have hzz := (setRow_other ((w2.alloc (.cells zero32 64)).alloc (.cells #[.string ⟨#[]⟩, .int .u32 0, .int .i64 0, .int .u64 0] 44)) w2.heap.size (w2.heap.size + 1) C (by omega)).trans (heap_alloc2' w2 (.cells zero32 64) (.cells #[.string ⟨#[]⟩, .int .u32 0, .int .i64 0, .int .u64 0] 44))
      have hcc := setRow_heap ((w2.alloc (.cells zero32 64)).alloc (.cells #[.string ⟨#[]⟩, .int .u32 0, .int .i64 0, .int .u64 0] 44)) w2.heap.size zero32 C 64 (0, 0) hst2
      have hbb := below_row (((Below.refl _ w2).alloc (Nat.le_refl _) (.cells zero32 64)).alloc (by simp) (.cells #[.string ⟨#[]⟩, .int .u32 0, .int .i64 0, .int .u64 0] 44)) (Nat.le_refl w2.heap.size) C
      have HST2 := Lib.hid hst2
      have HFACT := Lib.hid (show _ ∧ _ ∧ _ from ⟨hzz, hcc, hbb⟩)
      unfold zero32 at HST2 HFACT
      clear hst hst2 hzz hcc hbb
      go_wp2_with (refine wpList_store_row rfl 64 _ _ rfl w2.heap.size C rfl rfl 64 _ HST2.out hinfo (by rw [hCs]; rfl) hC1 ?_; (generalize World.setRow _ w2.heap.size C = V at HFACT ⊢); obtain ⟨hzz, hcc, hbb⟩ := HFACT.out; have z0 := fresh_cell hzz 0; have z1 := fresh_cell hzz 1; have z2 := fresh_cell hzz 2; have z3 := fresh_cell hzz 3; have f0 := fresh_frozen hzz 0; have f1 := fresh_frozen hzz 1; have f2 := fresh_frozen hzz 2; have f3 := fresh_frozen hzz 3; simp only [List.getElem?_toArray, List.getElem?_cons_zero, List.getElem?_cons_succ] at z0 z1 z2 z3; (have HZZ := Lib.hid hzz); (have HCC2 := Lib.hid hcc); (have HBB := Aside0.mk hbb); clear hzz hcc hbb)
      have hcc5 := (Only.refl (w2.heap.size + 1) V).setCell 0 (.string x.value) |>.setCell 1 (.int .u32 x.flags) |>.setCell 2 (.int .i64 x.exp) |>.setCell 3 (.int .u64 x.cas)
      have hC5 := hcc5.heap HCC2.out (show w2.heap.size ≠ w2.heap.size + 1 by omega)
      have hB5 := (((HBB.out.setCell (p := ⟨w2.heap.size + 1, 0, none⟩) (by simp) (.string x.value)).setCell (p := ⟨w2.heap.size + 1, 1, none⟩) (by simp) (.int .u32 x.flags)).setCell (p := ⟨w2.heap.size + 1, 2, none⟩) (by simp) (.int .i64 x.exp)).setCell (p := ⟨w2.heap.size + 1, 3, none⟩) (by simp) (.int .u64 x.cas)
      generalize (((V.setCell ⟨w2.heap.size + 1, 0, none⟩ (.string x.value)).setCell ⟨w2.heap.size + 1, 1, none⟩ (.int .u32 x.flags)).setCell ⟨w2.heap.size + 1, 2, none⟩ (.int .i64 x.exp)).setCell ⟨w2.heap.size + 1, 3, none⟩ (.int .u64 x.cas) = V4 at hC5 hB5 ⊢
      have HC5 := Lib.hid hC5
      have HB5 := Aside0.mk hB5
      clear hcc5 hC5 hB5 z0 z1 z2 z3 f0 f1 f2 f3 HZZ HCC2 HBB HST2 HFACT
      obtain ⟨gn, hgn⟩ : ∃ gn, gone x now = gn := ⟨_, rfl⟩
      have hgi := gone_is x now
      rw [hgn] at hgi
      have HGI := Lib.hid hgi
      have hlv := live_some HX.out now
      rw [hgn] at hlv
      have HLV := Lib.hid hlv
      clear hgi hgn hlv
      refine (clock_Gone.calls (x.exp % 4294967296) now gn _ HGI.out).mono ?_
      rintro e w5 ⟨rfl, hw5⟩
      have hbw := HB5.out.trans (hw5.below.mono HB5.out.size)
      have hC6 := (hw5.below.block w2.heap.size (blk_lt HC5.out)).trans HC5.out
      have hrg5 := ranges_same HRG2.out (hbw.block b (by omega)) (hbw.block w.heap.size hws)
      have hrow5 := ownsRow_below HROW3.out hbw
      have hB6 := HB2.out.trans (hbw.mono HB2.out.size)
      have HRG5 := Aside0.mk hrg5
      have HROW5 := Aside0.mk hrow5
      have HB6 := Aside0.mk hB6
      have HC6 := Lib.hid hC6
      clear hw5 hbw hC6 hrg5 hrow5 hB6 HRG2 HROW3 HB2 HB5 HC5
      cases gn with
      | true =>
        go_wp2
        go_roundg cnt2
        case measure => omega
        case rel =>
          refine ⟨_, cnt2, ss ++ [n], HRG5.out, Nat.le_refl _, by rw [List.length_append, List.length_singleton]; exact hcnt, ⟨?_⟩, ⟨HCC.out⟩, ⟨HB6.out⟩⟩
          rw [filter_snoc, HLV.out]
          exact HROW5.out
      | false =>
        go_wp2_with (first | (refine wpList_load_row rfl 64 _ rfl w2.heap.size rfl 64 C (0, 0) _ HC6.out Tryz.underlying64 rfl hinfo ?_) | (go_at_call 21; refine (HKC.out _).mono ?_; rintro e w6 ⟨rfl, hb6⟩; have hrow6 := ownsRow_below HROW5.out hb6; have hrg6 := ranges_same HRG5.out (hb6.block b HRG5.out.owns.lt) (hb6.block w.heap.size HRG5.out.lt); have hB7 := HB6.out.trans (hb6.mono HB6.out.size); (have HROW6 := Aside0.mk hrow6); (have HRG6 := Aside0.mk hrg6); (have HB7 := Aside0.mk hB7); clear hb6 hrow6 hrg6 hB7 HROW5 HRG5 HB6) | (at_builtin; refine wpList_append_own _ rfl _ _ 28 rfl (w.heap.size + 1) 9 i0 (.string ⟨#[]⟩) 1 16 Tryz.underlying28 HI.out.1 HI.out.2.1 HI.out.2.2.1 HI.out.2.2.2 rfl (by decide) u5 (ss.filter (live E now)).length ((texts (ss.filter (live E now))).map encStr) rfl (HROW6.out.alloc _) ⟨w6.heap.size, 0, none⟩ 1 1 [encStr (strip n)] rfl rfl (cell_one_new _ _ _) (by simp [Value.oneCell', encStr]) ?qc3 ?qc4 ?qc5 ?_))
        case qc3 => unfold maxLen; omega
        case qc4 => omega
        case qc5 => have := HB7.out.size; have := HRG6.out.lt; simp; omega
        intro v' w7 hown7 hgrow7 hnil7
        have hrow6 := HROW6.out.alloc (.cells #[.string ⟨(strip n).toArray⟩] 9)
        have hrg7 := (HRG6.out.alloc (.cells #[.string ⟨(strip n).toArray⟩] 9)).kept hgrow7 (row_ne_low hrow6 (by omega)) (row_ne_low hrow6 (by omega))
        have hB8 := (HB7.out.alloc HB7.out.size (.cells #[.string ⟨(strip n).toArray⟩] 9)).grown hgrow7 (by have := HB7.out.size; simp; omega) (fun j hj => by have := (hrow6.lt j hj).1; omega)
        have HRG7 := Aside0.mk hrg7
        have HB8 := Aside0.mk hB8
        have HOWN7 := Aside0.mk hown7
        clear hrow6 hrg7 hB8 hown7 hgrow7 hnil7 HROW6 HRG6 HB7
        go_wp2
        go_roundg cnt2
        case measure => omega
        case rel =>
          refine ⟨_, cnt2, ss ++ [n], HRG7.out, Nat.le_refl _, by rw [List.length_append, List.length_singleton]; exact hcnt, ⟨?_⟩, ⟨HCC.out⟩, ⟨HB8.out⟩⟩
          rw [filter_snoc, HLV.out, if_pos (show (!false) = true from rfl)]
          unfold texts
          rw [List.length_append, List.map_append, List.map_append]
          exact HOWN7.out
end Go.Proofs.YtbggcimjlkjclaaGreatDoor.Mdl
end
section
namespace Go.Proofs.YtbggcimjlkjclaaGreatDoor
open Go.RowKit Go.Proofs.YtbggcimjlkjclaaGreatDoorW.PrintWords

def Opens (P : Program) (t : TypeId) {α : Type} (d : Kd α) (Q : α → Prop) : Prop :=
  ∀ (H : Type) (enc : TypeId × Value → H) (w : World) (base : Nat) (spare : Nat → Bool) (held : Bool) (fuel : Nat) (cs : List Value) (x : DataW H × List MemPlace),
    DataW.trod enc P w base spare held fuel t cs = some x → ∃ v, d.K w v cs ∧ Q v
def OpensAt (P : Program) (fs : List Field) (off : Nat) {α : Type} (d : Kd α) (Q : α → Prop) : Prop :=
  ∀ (H : Type) (enc : TypeId × Value → H) (w : World) (base : Nat) (spare : Nat → Bool) (held : Bool) (n : Nat) (cs : List Value), cs.length = off + d.sz →
    (∀ f ∈ fs, ∃ x, DataW.trod enc P w base spare held n f.type ((cs.drop f.offset).take (P.cellsOf f.type)) = some x) → ∃ v, d.K w v (cs.drop off) ∧ Q v
section
variable {P : Program} {t e : TypeId} {α β : Type} {d : Kd α} {d0 : Kd α} {d1 : Kd β} {Q : α → Prop} {Q1 : β → Prop}
theorem opens_int {k : IntKind} (ht : P.underlying t = some (.int k)) : Opens P t (Kd.int k) (fun n => (Lit.int k n).wf = true) := by
  intro H enc w base spare held fuel cs x h
  obtain ⟨n, rfl, _, hw⟩ := DataW.trod_int ht h
  exact ⟨n, rfl, hw⟩
theorem opens_bool (ht : P.underlying t = some .bool) : Opens P t Kd.bool (fun _ => True) := by
  intro H enc w base spare held fuel cs x h
  obtain ⟨n, rfl, _⟩ := DataW.trod_bool ht h
  exact ⟨n, rfl, trivial⟩
theorem opens_string (ht : P.underlying t = some .string) : Opens P t Kd.string (fun s => s.size ≤ maxLen) := by
  intro H enc w base spare held fuel cs x h
  obtain ⟨s, rfl, _, hs⟩ := DataW.trod_string ht h
  exact ⟨s, rfl, hs⟩
theorem opens_iso {γ : Type} (h : Opens P t d Q) (f : γ → α) (g : α → γ) (hg : ∀ a, f (g a) = a) : Opens P t (Kd.iso d f) (fun b => Q (f b)) := by
  intro H enc w base spare held fuel cs x hx
  obtain ⟨v, hv, hq⟩ := h H enc w base spare held fuel cs x hx
  exact ⟨g v, (show d.K w (f (g v)) cs by rw [hg]; exact hv), show Q (f (g v)) by rw [hg]; exact hq⟩
theorem opensAt_one {f : Field} {off : Nat} (ho : f.offset = off) (hc : P.cellsOf f.type = d.sz) (h : Opens P f.type d Q) : OpensAt P [f] off d Q := by
  intro H enc w base spare held n cs hl hf
  obtain ⟨x, hx⟩ := hf f List.mem_cons_self
  rw [ho, hc, List.take_of_length_le (by rw [List.length_drop]; omega)] at hx
  exact h H enc w base spare held n _ x hx
theorem opensAt_cons {f : Field} {fs : List Field} {off : Nat} (ho : f.offset = off) (hc : P.cellsOf f.type = d0.sz) (h0 : Opens P f.type d0 Q) (h1 : OpensAt P fs (off + d0.sz) d1 Q1) :
    OpensAt P (f :: fs) off (Kd.pair d0 d1) (fun v => Q v.1 ∧ Q1 v.2) := by
  intro H enc w base spare held n cs hl hf
  have hsz : (Kd.pair d0 d1).sz = d0.sz + d1.sz := rfl
  obtain ⟨x, hx⟩ := hf f List.mem_cons_self
  rw [ho, hc] at hx
  obtain ⟨a, ha, hq⟩ := h0 H enc w base spare held n _ x hx
  obtain ⟨b, hb, hq1⟩ := h1 H enc w base spare held n cs (by omega) (fun g hg => hf g (List.mem_cons_of_mem _ hg))
  refine ⟨(a, b), ⟨_, _, ?_, ha, hb⟩, hq, hq1⟩
  rw [← List.drop_drop]
  exact (List.take_append_drop _ _).symm
theorem opens_struct {fs : List Field} (ht : P.underlying t = some (.struct fs.toArray)) (hc : P.cellsOf t = d.sz) (h : OpensAt P fs 0 d Q) : Opens P t d Q := by
  intro H enc w base spare held fuel cs x hx
  obtain ⟨xs, n, _, _, hl, hlen, hf⟩ := DataW.trod_struct ht hx
  have := h H enc w base spare held n cs (by omega) (by
    intro f hm
    obtain ⟨i, hi, rfl⟩ := List.mem_iff_getElem.1 hm
    have e := hf i fs[i] (by rw [List.getElem?_toArray, List.getElem?_eq_getElem hi])
    rw [List.size_toArray] at hlen
    rw [List.getElem?_eq_getElem (by omega)] at e
    exact ⟨_, e⟩)
  simpa using this
theorem list_of {R : Nat → α → Prop} : ∀ n : Nat, (∀ i, i < n → ∃ v, R i v) → ∃ xs : List α, xs.length = n ∧ ∀ i v, xs[i]? = some v → R i v
  | 0, _ => ⟨[], rfl, fun i v h => by simp at h⟩
  | n + 1, h => by
    obtain ⟨xs, hl, hx⟩ := list_of n fun i hi => h i (by omega)
    obtain ⟨v, hv⟩ := h n (by omega)
    refine ⟨xs ++ [v], by rw [List.length_append, hl]; rfl, fun i u hu => ?_⟩
    rcases Nat.lt_or_ge i xs.length with hi | hi
    · rw [List.getElem?_append_left hi] at hu; exact hx i u hu
    · rw [List.getElem?_append_right hi] at hu
      rcases Nat.eq_zero_or_pos (i - xs.length) with h0 | h0
      · rw [h0] at hu
        obtain rfl : v = u := by simpa using hu
        rw [show i = n from by omega]; exact hv
      · rw [List.getElem?_eq_none (by simp; omega)] at hu; cases hu
theorem opens_slice (ht : P.underlying t = some (.slice e)) (hc : P.cellsOf e = d.sz) (h : Opens P e d Q) : Opens P t (Kd.slice e d) (fun xs => (∀ x ∈ xs, Q x) ∧ xs.length ≤ maxLen) := by
  intro H enc w base spare held fuel cs x hx
  rcases DataW.trod_slice ht hx with ⟨rfl, _⟩ | ⟨a, len, cap, elems, rest, n, _, rfl, rfl, hb, hl, hm, hlen, hel, _, _⟩
  · exact ⟨[], ⟨none, 0, rfl, Nat.le_refl _, rfl, Nat.zero_le _, fun h => absurd h (Nat.lt_irrefl 0)⟩, fun x hx => absurd hx List.not_mem_nil, Nat.zero_le _⟩
  · obtain ⟨xs, hxl, hxs⟩ := list_of (R := fun i v => (∃ c : List Value, c.length = d.sz ∧ d.K w v c ∧ ∀ j u, c[j]? = some u → w.cell? (a.add (i * d.sz + j)) = some u) ∧ Q v) len (by
      intro i hi
      have e1 := hel i hi
      rw [List.getElem?_eq_getElem (by omega)] at e1
      obtain ⟨c, hcs, hcd⟩ := Option.bind_eq_some_iff.1 e1
      obtain ⟨v, hv, hq⟩ := h H enc w base spare held n c _ hcd
      obtain ⟨q1, q2, q3⟩ := World.cells?_some hcs
      refine ⟨v, ⟨c, by rw [← hc]; exact q2, hv, fun j u hu => ?_⟩, hq⟩
      have hj : j < P.cellsOf e := by
        rcases Nat.lt_or_ge j c.length with h' | h'
        · omega
        · rw [List.getElem?_eq_none h'] at hu; cases hu
      have := q3 j hj
      rw [Addr.add_add, hc] at this
      rw [this, hu])
    refine ⟨xs, ⟨some a, cap, by rw [hxl], by omega, rfl, by rw [hxl]; unfold maxLen at hm; omega, fun _ => ⟨a, rfl, fun j p hp => (hxs j p hp).1⟩⟩, fun x hx => ?_, by omega⟩
    obtain ⟨i, hi, rfl⟩ := List.mem_iff_getElem.1 hx
    exact (hxs i _ (List.getElem?_eq_getElem hi)).2
end
end Go.Proofs.YtbggcimjlkjclaaGreatDoor
end
section
namespace Go.Proofs.YtbggcimjlkjclaaGreatDoor.Mdl
open Go.RowKit Go.Proofs.YtbggcimjlkjclaaGreatDoorW.PrintWords Go.Proofs.YtbggcimjlkjclaaGreatDoorW.PrintLast Go.Proofs.YtbggcimjlkjclaaGreatDoorW.PrintMore Go.WideMaps Go.Proofs.YtbggcimjlkjclaaGreatDoor.XMd
set_option linter.unusedVariables false
set_option linter.unusedSimpArgs false
attribute [local go_sem ↓] Go.wp_at_zero Go.wp_at_succ
theorem wf_u64' {n : Int} (h : (Lit.int .u64 n).wf = true) : 0 ≤ n ∧ n < 18446744073709551616 := by
  simp [Lit.wf, IntKind.min, IntKind.max, IntKind.signed, IntKind.bits] at h
  omega
abbrev ActT := (Int × List ByteArray × Int × Int × ByteArray × Int × Int × Bool) × Int × Bool × ByteArray
noncomputable def kCmd : Kd (Int × List ByteArray × Int × Int × ByteArray × Int × Int × Bool) :=
  Kd.pair (Kd.int .i64) (Kd.pair (Kd.slice 9 Kd.string) (Kd.pair (Kd.int .u32) (Kd.pair (Kd.int .i64) (Kd.pair Kd.string (Kd.pair (Kd.int .u64) (Kd.pair (Kd.int .u64) Kd.bool))))))
noncomputable def kAct : Kd ActT := Kd.pair kCmd (Kd.pair (Kd.int .i64) (Kd.pair Kd.bool Kd.string))
def cmdOf (x : ActT) : Cmd := ⟨x.1.1, x.1.2.1, x.1.2.2.1, x.1.2.2.2.1, x.1.2.2.2.2.1, x.1.2.2.2.2.2.1, x.1.2.2.2.2.2.2.1, x.1.2.2.2.2.2.2.2⟩
def actQ (x : ActT) : Prop := (Lit.int .i64 x.1.1).wf = true ∧ ((∀ s ∈ x.1.2.1, s.size ≤ maxLen) ∧ x.1.2.1.length ≤ maxLen) ∧ (Lit.int .u32 x.1.2.2.1).wf = true ∧ (Lit.int .i64 x.1.2.2.2.1).wf = true ∧ x.1.2.2.2.2.1.size ≤ maxLen ∧ (Lit.int .u64 x.1.2.2.2.2.2.1).wf = true ∧ (Lit.int .u64 x.1.2.2.2.2.2.2.1).wf = true
theorem opens_act : Opens Tryz.prog 33 kAct actQ := by
  intro H enc w base spare held fuel cs x hx
  obtain ⟨v, hv, hq⟩ := opens_struct Tryz.underlying33 (by kernel_rfl) (opensAt_cons rfl (by kernel_rfl) (opens_struct Tryz.underlying31 (by kernel_rfl) (opensAt_cons rfl (by kernel_rfl) (opens_int Tryz.underlying3) (opensAt_cons rfl (by kernel_rfl) (opens_slice Tryz.underlying28 (by kernel_rfl) (opens_string Tryz.underlying9)) (opensAt_cons rfl (by kernel_rfl) (opens_int Tryz.underlying29) (opensAt_cons rfl (by kernel_rfl) (opens_int Tryz.underlying2) (opensAt_cons rfl (by kernel_rfl) (opens_string Tryz.underlying9) (opensAt_cons rfl (by kernel_rfl) (opens_int Tryz.underlying26) (opensAt_cons rfl (by kernel_rfl) (opens_int Tryz.underlying26) (opensAt_one rfl (by kernel_rfl) (opens_bool Tryz.underlying4)))))))))) (opensAt_cons rfl (by kernel_rfl) (opens_int Tryz.underlying3) (opensAt_cons rfl (by kernel_rfl) (opens_bool Tryz.underlying4) (opensAt_one rfl (by kernel_rfl) (opens_string Tryz.underlying9))))) H enc w base spare held fuel cs x hx
  exact ⟨v, hv, hq.1.1, hq.1.2.1, hq.1.2.2.1, hq.1.2.2.2.1, hq.1.2.2.2.2.1, hq.1.2.2.2.2.2.1, hq.1.2.2.2.2.2.2.1⟩
structure ActCells (w : World) (p : Addr) (x : ActT) (Ak : Option Addr) (ck : Nat) : Prop where
  keys : Kd.string.C w Ak (cmdOf x).keys.length (cmdOf x).keys
  cap : (cmdOf x).keys.length ≤ ck
  c0 : w.cell? p = some (.int .i64 (cmdOf x).kind)
  c1 : w.cell? ⟨p.block, p.off + 1, none⟩ = some (.slice Ak (cmdOf x).keys.length ck)
  c2 : w.cell? ⟨p.block, p.off + 2, none⟩ = some (.int .u32 (cmdOf x).flags)
  c3 : w.cell? ⟨p.block, p.off + 3, none⟩ = some (.int .i64 (cmdOf x).exp)
  c4 : w.cell? ⟨p.block, p.off + 4, none⟩ = some (.string (cmdOf x).value)
  c5 : w.cell? ⟨p.block, p.off + 5, none⟩ = some (.int .u64 (cmdOf x).cas)
  c6 : w.cell? ⟨p.block, p.off + 6, none⟩ = some (.int .u64 (cmdOf x).delta)
  c7 : w.cell? ⟨p.block, p.off + 7, none⟩ = some (.bool (cmdOf x).quiet)
  c8 : w.cell? ⟨p.block, p.off + 8, none⟩ = some (.int .i64 x.2.1)
  c9 : w.cell? ⟨p.block, p.off + 9, none⟩ = some (.bool x.2.2.1)
  c10 : w.cell? ⟨p.block, p.off + 10, none⟩ = some (.string x.2.2.2)
theorem add_off (ad : Addr) (n i : Nat) (hi : 0 < i) : ad.add (n + i) = ⟨(ad.add n).block, (ad.add n).off + i, none⟩ := by
  unfold Addr.add
  by_cases h : n = 0
  · subst h
    rw [if_neg (by omega), if_pos rfl, Nat.zero_add]
  · rw [if_neg (by omega), if_neg h]
    simp [Nat.add_assoc]
theorem act_at {w : World} {A : Option Addr} {l : List ActT} (h : kAct.C w A l.length l) (j : Nat) (x : ActT) (hj : l[j]? = some x) : ∃ ad Ak ck, A = some ad ∧ ActCells w (ad.add (j * 11)) x Ak ck := by
  have hlt : j < l.length := (List.getElem?_eq_some_iff.1 hj).1
  obtain ⟨ad, e, hc⟩ := h.2.2 (by omega)
  obtain ⟨cs, hs, hr, hcell⟩ := hc j x hj
  obtain ⟨d0, d1, rfl, ⟨c0, e0, rfl, rfl, c1, e1, rfl, ⟨Ak, ck, rfl, hcap, hkeys⟩, c2, e2, rfl, rfl, c3, e3, rfl, rfl, c4, e4, rfl, rfl, c5, e5, rfl, rfl, c6, e6, rfl, rfl, rfl⟩, c8, e8, rfl, rfl, c9, e9, rfl, rfl, rfl⟩ := hr
  have k0 := hcell 0 _ rfl
  have k1 := hcell 1 _ rfl
  have k2 := hcell 2 _ rfl
  have k3 := hcell 3 _ rfl
  have k4 := hcell 4 _ rfl
  have k5 := hcell 5 _ rfl
  have k6 := hcell 6 _ rfl
  have k7 := hcell 7 _ rfl
  have k8 := hcell 8 _ rfl
  have k9 := hcell 9 _ rfl
  have k10 := hcell 10 _ rfl
  rw [show kAct.sz = 11 from rfl] at k0 k1 k2 k3 k4 k5 k6 k7 k8 k9 k10
  rw [Nat.add_zero] at k0
  rw [add_off ad (j * 11) _ (by decide)] at k1 k2 k3 k4 k5 k6 k7 k8 k9 k10
  exact ⟨ad, Ak, ck, e, hkeys, hcap, k0, k1, k2, k3, k4, k5, k6, k7, k8, k9, k10⟩
theorem ActCells.below {w w' : World} {p : Addr} {x : ActT} {Ak : Option Addr} {ck : Nat} (h : ActCells w p x Ak ck) (hb : Below w.heap.size w w') : ActCells w' p x Ak ck :=
  ⟨Kd.C_below h.keys hb, h.cap, keepC hb h.c0, keepC hb h.c1, keepC hb h.c2, keepC hb h.c3, keepC hb h.c4, keepC hb h.c5, keepC hb h.c6, keepC hb h.c7, keepC hb h.c8, keepC hb h.c9, keepC hb h.c10⟩
end Go.Proofs.YtbggcimjlkjclaaGreatDoor.Mdl
end
section
namespace Go.Proofs.YtbggcimjlkjclaaGreatDoor.Mdl
open Go.RowKit Go.Proofs.YtbggcimjlkjclaaGreatDoorW.PrintWords Go.Proofs.YtbggcimjlkjclaaGreatDoorW.PrintLast Go.Proofs.YtbggcimjlkjclaaGreatDoorW.PrintMore Go.WideMaps Go.Proofs.YtbggcimjlkjclaaGreatDoor.XMd
set_option linter.unusedVariables false
set_option linter.unusedSimpArgs false
theorem named_none : Named (fun _ => none) := fun n x h => by cases h
theorem named_put {E : Tab} (h : Named E) {key : ByteArray} (hk : fnv_Key.is key = true) (x : Option Ent) : Named (putT E (nm key) x) := fun n y hy => by
  unfold putT at hy
  split at hy
  · rename_i e
    exact ⟨key, hk, e⟩
  · exact h n y hy
theorem named_drop {E : Tab} (h : Named E) {key : ByteArray} (hk : fnv_Key.is key = true) : Named (dropT E key) := by
  unfold dropT
  split
  · exact named_put h hk _
  · exact h
theorem named_lay {E : Tab} (h : Named E) {key : ByteArray} (hk : fnv_Key.is key = true) (laid : Int) (x : Ent) (failed : Bool) : Named (layT E laid key x failed) := by
  unfold layT
  split
  · exact h
  · exact named_put h hk _
theorem named_reads (k : Cmd) (now ends : Int) : ∀ (l : List ByteArray) (E : Tab), Named E → (∀ key ∈ l, fnv_Key.is key = true) → Named (readsR k now ends l E).2
  | [], E, h, _ => h
  | key :: l, E, h, hk => by
    unfold readsR
    refine named_reads k now ends l _ ?_ (fun x hx => hk x (List.mem_cons_of_mem _ hx))
    unfold readOne
    cases get E key now with
    | none => exact h
    | some x =>
      simp only
      split
      · exact named_put h (hk key List.mem_cons_self) _
      · exact h
theorem named_one {E : Tab} (h : Named E) {key : ByteArray} (hk : fnv_Key.is key = true) (k : Cmd) (now ends : Int) (failed : Bool) (laid : Int) : Named (doOne k now ends failed key E laid).E := by
  unfold doOne
  simp only
  split
  · have hm : Named (mayT E key k failed) := by
      unfold mayT
      split
      · exact named_drop h hk
      · exact h
    unfold storeR
    split
    · exact hm
    · split
      · exact hm
      · exact named_lay hm hk _ _ _
  · split
    · exact h
    · split
      · exact named_drop h hk
      · split
        · exact named_put h hk _
        · unfold countR
          split
          · exact h
          · exact named_lay h hk _ _ _
theorem named_do {E : Tab} (h : Named E) (k : Cmd) (now : Int) (failed : Bool) (laid : Int) : Named (doP k now failed E laid).E := by
  unfold doP doR
  by_cases hc : chkC k = 0
  · have hv := keys_valid hc
    rw [if_neg (fun h => h hc)]
    split
    · exact h
    · split
      · exact named_none
      · split
        · exact named_reads _ _ _ _ _ h hv
        · cases hks : k.keys with
          | nil => exact h
          | cons a l => exact named_one h (hv a (by rw [hks]; exact List.mem_cons_self)) _ _ _ _ _
  · rw [if_pos hc]
    exact h
theorem reads_same (k : Cmd) (hk : ¬ (k.kind = 3 ∨ k.kind = 4)) (now ends : Int) : ∀ (l : List ByteArray) (E : Tab), (readsR k now ends l E).2 = E
  | [], E => rfl
  | key :: l, E => by
    unfold readsR
    have e : (readOne k now ends key E).2 = E := by
      unfold readOne
      cases get E key now with
      | none => rfl
      | some x => simp only; rw [if_neg hk]
    rw [e]
    exact reads_same k hk now ends l E
theorem do_reads_same {k : Cmd} (hk : k.kind = 1 ∨ k.kind = 2) (now : Int) (failed : Bool) (E : Tab) (laid : Int) : (doP k now failed E laid).E = E := by
  unfold doP doR
  split
  · rfl
  · split
    · rfl
    · rw [if_neg (by omega), if_pos (by omega)]
      exact reads_same k (by omega) _ _ _ _
theorem nodup_perm {a b : List (List UInt8)} (ha : a.Nodup) (hb : b.Nodup) (h : ∀ n, n ∈ a ↔ n ∈ b) : a.Perm b := by
  rw [List.perm_iff_count]
  intro n
  by_cases hn : n ∈ a
  · rw [ha.count, hb.count, if_pos hn, if_pos ((h n).1 hn)]
  · rw [ha.count, hb.count, if_neg hn, if_neg (fun x => hn ((h n).2 x))]
theorem keys_len {E : Tab} {now : Int} {a b : List (List UInt8)} (ha : KeysOut E now a) (hb : KeysOut E now b) : a.length = b.length := by
  exact (nodup_perm ha.1 hb.1 fun n => (ha.2 n).trans (hb.2 n).symm).length_eq
theorem great_l0 (kind : Int) (l : List ByteArray) (flags exp : Int) (value : ByteArray) (cas delta : Int) (quiet : Bool) (hl : l.length ≤ 9223372036854775807) :
    ∀ (k j : Nat) (x : Int), l.length - j < k → ∃ r, tallboylaw15_Great.l0 k x (j : Int) kind l flags exp value cas delta quiet = some r
  | 0, j, x, h => by omega
  | k + 1, j, x, h => by
    unfold tallboylaw15_Great.l0
    by_cases h1 : (j : Int) < (l.length : Int)
    · rw [if_pos h1]
      by_cases h2 : x < 10000
      · rw [if_pos h2, if_pos (by omega), show wrap64 ((j : Int) + 1) = ((j + 1 : Nat) : Int) from by unfold wrap64; omega]
        exact great_l0 kind l flags exp value cas delta quiet hl k (j + 1) _ (by omega)
      · rw [if_neg h2]
        split
        · exact ⟨_, rfl⟩
        · exact ⟨_, rfl⟩
    · rw [if_neg h1]
      split
      · exact ⟨_, rfl⟩
      · exact ⟨_, rfl⟩
theorem great_is (k : Cmd) (hl : k.keys.length ≤ 9223372036854775807) : ∃ f r, tallboylaw15_Great.f f k.kind k.keys k.flags k.exp k.value k.cas k.delta k.quiet = some r := by
  obtain ⟨r, hr⟩ := great_l0 k.kind k.keys k.flags k.exp k.value k.cas k.delta k.quiet hl (k.keys.length + 1) 0 (k.value.size : Int) (by omega)
  exact ⟨_, r, hr⟩
end Go.Proofs.YtbggcimjlkjclaaGreatDoor.Mdl
end
section
namespace Go.Proofs.YtbggcimjlkjclaaGreatDoor.Mdl
open Go.RowKit Go.Proofs.YtbggcimjlkjclaaGreatDoorW.PrintWords Go.Proofs.YtbggcimjlkjclaaGreatDoorW.PrintLast Go.Proofs.YtbggcimjlkjclaaGreatDoorW.PrintMore Go.WideMaps Go.Proofs.YtbggcimjlkjclaaGreatDoor.XMd
set_option linter.unusedVariables false
set_option linter.unusedSimpArgs false
structure Nums (E : Tab) (laid : Int) : Prop where
  lo : ∀ n x, E n = some x → 1 ≤ x.cas ∧ x.cas ≤ laid
  one : ∀ n m x y, E n = some x → E m = some y → x.cas = y.cas → n = m
theorem nums_none : Nums (fun _ => none) 0 := ⟨fun n x h => (by cases h), fun n m x y h => (by cases h)⟩
theorem nums_drop {E : Tab} {laid : Int} (h : Nums E laid) (k : List UInt8) : Nums (putT E k none) laid := by
  have e : ∀ n x, putT E k none n = some x → E n = some x := fun n x hx => by
    unfold putT at hx
    split at hx
    · cases hx
    · exact hx
  exact ⟨fun n x hx => h.lo n x (e n x hx), fun n m x y hx hy => h.one n m x y (e n x hx) (e m y hy)⟩
theorem nums_dropT {E : Tab} {laid : Int} (h : Nums E laid) (key : ByteArray) : Nums (dropT E key) laid := by
  unfold dropT
  split
  · exact nums_drop h _
  · exact h
theorem nums_lay {E : Tab} {laid : Int} (h : Nums E laid) (h0 : 0 ≤ laid) (h1 : laid < 1000) (k : List UInt8) (x : Ent) (hx : x.cas = laid + 1) : Nums (putT E k (some x)) (laid + 1) := by
  have e : ∀ n y, putT E k (some x) n = some y → (n = k ∧ y = x) ∨ (n ≠ k ∧ E n = some y) := fun n y hy => by
    unfold putT at hy
    split at hy
    · rename_i hn
      injection hy with hy
      exact .inl ⟨hn, hy.symm⟩
    · rename_i hn
      exact .inr ⟨hn, hy⟩
  refine ⟨fun n y hy => ?_, fun n m y z hy hz hc => ?_⟩
  · rcases e n y hy with ⟨_, rfl⟩ | ⟨_, hy⟩
    · omega
    · have := h.lo n y hy
      omega
  · rcases e n y hy with ⟨e1, e2⟩ | ⟨_, hy'⟩
    · rcases e m z hz with ⟨e3, _⟩ | ⟨_, hz'⟩
      · rw [e1, e3]
      · have := h.lo m z hz'
        rw [e2] at hc
        omega
    · rcases e m z hz with ⟨_, e4⟩ | ⟨_, hz'⟩
      · have := h.lo n y hy'
        rw [e4] at hc
        omega
      · exact h.one n m y z hy' hz' hc
theorem nums_keep {E : Tab} {laid : Int} (h : Nums E laid) (k : List UInt8) (x y : Ent) (hx : E k = some x) (hy : y.cas = x.cas) : Nums (putT E k (some y)) laid := by
  have e : ∀ n z, putT E k (some y) n = some z → ∃ u, E n = some u ∧ z.cas = u.cas := fun n z hz => by
    unfold putT at hz
    split at hz
    · rename_i hn
      injection hz with hz
      exact ⟨x, by rw [hn]; exact hx, by rw [← hz]; exact hy⟩
    · exact ⟨z, hz, rfl⟩
  refine ⟨fun n z hz => ?_, fun n m z u hz hu hc => ?_⟩
  · obtain ⟨u, hu, he⟩ := e n z hz
    rw [he]
    exact h.lo n u hu
  · obtain ⟨z', hz', he⟩ := e n z hz
    obtain ⟨u', hu', he'⟩ := e m u hu
    exact h.one n m z' u' hz' hu' (by omega)
theorem get_entry {E : Tab} {key : ByteArray} {now : Int} {x : Ent} (h : get E key now = some x) : E (nm key) = some x := by
  unfold get at h
  cases he : E (nm key) with
  | none => rw [he] at h; cases h
  | some y =>
    rw [he] at h
    simp only at h
    split at h
    · injection h with h
      rw [h]
    · cases h
theorem nums_reads (k : Cmd) (now ends : Int) (laid : Int) : ∀ (l : List ByteArray) (E : Tab), Nums E laid → Nums (readsR k now ends l E).2 laid
  | [], E, h => h
  | key :: l, E, h => by
    unfold readsR
    refine nums_reads k now ends laid l _ ?_
    unfold readOne
    cases hg : get E key now with
    | none => exact h
    | some x =>
      simp only
      split
      · exact nums_keep h _ x _ (get_entry hg) rfl
      · exact h
def NumsOut (o : Out) (laid : Int) : Prop := Nums o.E o.laid ∧ ((o.err = 0 ∧ (o.code = 2 ∨ o.code = 7) ∧ o.laid = laid + 1) ∨ (¬ (o.err = 0 ∧ (o.code = 2 ∨ o.code = 7)) ∧ o.laid = laid))
theorem mod_next {laid : Int} (h0 : 0 ≤ laid) (h1 : laid < 1000) : (laid + 1) % 18446744073709551616 = laid + 1 := by omega
theorem nums_one {E : Tab} {laid : Int} (h : Nums E laid) (h0 : 0 ≤ laid) (h1 : laid < 1000) (k : Cmd) (hk : 5 ≤ k.kind) (now ends : Int) (failed : Bool) (key : ByteArray) : NumsOut (doOne k now ends failed key E laid) laid := by
  have hm := mod_next h0 h1
  unfold doOne
  simp only
  split
  · have hmay : Nums (mayT E key k failed) laid := by
      unfold mayT
      split
      · exact nums_dropT h _
      · exact h
    unfold storeR
    split
    · rename_i hmc
      refine ⟨hmay, .inr ⟨?_, rfl⟩⟩
      rintro ⟨_, hc⟩
      revert hc
      show ¬ (mayC k _ _ = 2 ∨ mayC k _ _ = 7)
      unfold mayC
      repeat' split
      all_goals decide
    · split
      · exact ⟨hmay, .inr ⟨fun hc => by have := hc.2; simp only at this; omega, rfl⟩⟩
      · unfold layT layN
        cases failed with
        | true => exact ⟨hmay, .inr ⟨fun hc => by have := hc.2; simp at this, rfl⟩⟩
        | false =>
          simp only [Bool.false_eq_true, if_false]
          rw [hm]
          exact ⟨nums_lay hmay h0 h1 _ _ rfl, .inl ⟨rfl, .inl rfl, rfl⟩⟩
  · split
    · exact ⟨h, .inr ⟨fun hc => by have := hc.2; simp only at this; omega, rfl⟩⟩
    · rename_i his
      split
      · exact ⟨nums_dropT h _, .inr ⟨fun hc => by have := hc.2; simp only at this; omega, rfl⟩⟩
      · split
        · cases hg : get E key now with
          | none => rw [hg] at his; exact absurd rfl his
          | some x => exact ⟨nums_keep h _ x _ (get_entry hg) rfl, .inr ⟨fun hc => by have := hc.2; simp only at this; omega, rfl⟩⟩
        · unfold countR
          split
          · exact ⟨h, .inr ⟨fun hc => by have := hc.2; simp only at this; omega, rfl⟩⟩
          · unfold layT layN
            cases failed with
            | true => exact ⟨h, .inr ⟨fun hc => by have := hc.2; simp at this, rfl⟩⟩
            | false =>
              simp only [Bool.false_eq_true, if_false]
              rw [hm]
              exact ⟨nums_lay h h0 h1 _ _ rfl, .inl ⟨rfl, .inr rfl, rfl⟩⟩
theorem nums_do {E : Tab} {laid : Int} (h : Nums E laid) (h0 : 0 ≤ laid) (h1 : laid < 1000) (k : Cmd) (now : Int) (failed : Bool) : NumsOut (doP k now failed E laid) laid := by
  unfold doP doR
  split
  · rename_i hc
    exact ⟨h, .inr ⟨fun hx => hc hx.1, rfl⟩⟩
  · split
    · rename_i hc
      exact ⟨h, .inr ⟨fun hx => hc hx.1, rfl⟩⟩
    · split
      · refine ⟨⟨fun n x h => (by cases h), fun n m x y h => (by cases h)⟩, .inr ⟨fun hc => by have := hc.2; simp only at this; omega, rfl⟩⟩
      · split
        · exact ⟨nums_reads _ _ _ _ _ _ h, .inr ⟨fun hc => by have := hc.2; simp only at this; omega, rfl⟩⟩
        · rename_i h4
          cases k.keys with
          | nil => exact ⟨h, .inr ⟨fun hc => by have := hc.2; simp only at this; omega, rfl⟩⟩
          | cons a l => exact nums_one h h0 h1 _ (by omega) _ _ _ _
end Go.Proofs.YtbggcimjlkjclaaGreatDoor.Mdl
end
section
namespace Go.Proofs.YtbggcimjlkjclaaGreatDoor.Mdl
open Go.RowKit Go.Proofs.YtbggcimjlkjclaaGreatDoorW.PrintWords Go.Proofs.YtbggcimjlkjclaaGreatDoorW.PrintLast Go.Proofs.YtbggcimjlkjclaaGreatDoorW.PrintMore Go.WideMaps Go.Proofs.YtbggcimjlkjclaaGreatDoor.XMd
set_option linter.unusedVariables false
set_option linter.unusedSimpArgs false
attribute [local go_sem ↓] Go.wp_at_zero Go.wp_at_succ
namespace Works
def k1 : Cmd := ⟨5, [⟨#[97]⟩], 0, 0, ⟨#[49, 48]⟩, 0, 0, false⟩
def o1 : Out := doP k1 1000 false (fun _ => none) 0
theorem o1_is : o1.code = 2 ∧ o1.n = 0 ∧ o1.err = 0 := ⟨by kernel_rfl, by kernel_rfl, by kernel_rfl⟩
def k2 : Cmd := ⟨12, [⟨#[97]⟩], 0, 0, ⟨#[]⟩, 0, 5, false⟩
def o2 : Out := doP k2 1000 false o1.E o1.laid
theorem o2_is : o2.code = 7 ∧ o2.n = 15 ∧ o2.err = 0 := ⟨by kernel_rfl, by kernel_rfl, by kernel_rfl⟩
def k3 : Cmd := ⟨2, [⟨#[97]⟩, ⟨#[98]⟩], 0, 0, ⟨#[]⟩, 0, 0, false⟩
def o3 : Out := doP k3 1000 false o2.E o2.laid
theorem o3_is : o3.code = 1 ∧ o3.n = 0 ∧ o3.err = 0 := ⟨by kernel_rfl, by kernel_rfl, by kernel_rfl⟩
def k4 : Cmd := ⟨13, [⟨#[97]⟩], 0, 0, ⟨#[]⟩, 0, 100, false⟩
def o4 : Out := doP k4 1000 false o3.E o3.laid
theorem o4_is : o4.code = 7 ∧ o4.n = 0 ∧ o4.err = 0 := ⟨by kernel_rfl, by kernel_rfl, by kernel_rfl⟩
def k5 : Cmd := ⟨5, [⟨#[97]⟩], 0, 0, ⟨#[120]⟩, 0, 0, false⟩
def o5 : Out := doP k5 1000 true o4.E o4.laid
theorem o5_is : o5.code = 11 ∧ o5.n = 0 ∧ o5.err = 0 := ⟨by kernel_rfl, by kernel_rfl, by kernel_rfl⟩
def k6 : Cmd := ⟨0, [], 0, 0, ⟨#[]⟩, 0, 0, false⟩
def o6 : Out := doP k6 1000 false o5.E o5.laid
theorem o6_is : o6.code = 0 ∧ o6.n = 0 ∧ o6.err = 70 := ⟨by kernel_rfl, by kernel_rfl, by kernel_rfl⟩
def k7 : Cmd := ⟨11, [⟨#[97]⟩], 0, 0, ⟨#[]⟩, 0, 0, false⟩
def o7 : Out := doP k7 1000 false o6.E o6.laid
theorem o7_is : o7.code = 5 ∧ o7.n = 0 ∧ o7.err = 0 := ⟨by kernel_rfl, by kernel_rfl, by kernel_rfl⟩
theorem o3_hits : o3.hits = [⟨⟨#[97]⟩, 0, ⟨#[49, 53]⟩, 2⟩] := by kernel_rfl
end Works
theorem take4 {cur : Array Value} {h : Hit} (e : cur.toList.take (1 * 4) = hitsC [h]) : cur[0]? = some (.string h.key) ∧ cur[1]? = some (.int .u32 h.flags) ∧ cur[2]? = some (.string h.value) ∧ cur[3]? = some (.int .u64 h.cas) := by
  have e2 : hitsC [h] = [.string h.key, .int .u32 h.flags, .string h.value, .int .u64 h.cas] := rfl
  rw [e2] at e
  have k : ∀ j v, j < 4 → [Value.string h.key, .int .u32 h.flags, .string h.value, .int .u64 h.cas][j]? = some v → cur[j]? = some v := fun j v hj hv => by
    rw [← e, List.getElem?_take] at hv
    simp [hj] at hv
    simpa using hv
  exact ⟨k 0 _ (by decide) rfl, k 1 _ (by decide) rfl, k 2 _ (by decide) rfl, k 3 _ (by decide) rfl⟩
set_option maxHeartbeats 8000000 in
set_option maxRecDepth 100000 in
theorem works_calls (w : World) (hv : Vars w) : Calls Tryz.prog 4 #[] w fun e w' => e = .returned (.bool true) ∧ Below w.heap.size w w' := by
  have HV := Aside0.mk hv
  clear hv
  go_enter Tryz.func4, Tryz.ntmps4
  go_wp2_with fail
  refine (New_calls w).mono ?_
  rintro e v0 ⟨g, b, rfl, hA0, hg, hb, hb0⟩
  have L0 := Aside0.mk (Lw.mk hA0 hb0 hg hb)
  have hM0 := Aside0.mk (Mut.refl g b v0)
  clear hA0 hb0
  go_wp2_with fail
  refine (set_c v0 ⟨#[97]⟩ ⟨#[49, 48]⟩).mono ?_
  rintro e u1 ⟨rfl, hrow1, hbu1⟩
  have L1u := Aside0.mk ((L0.out.below ((Below.refl _ _))))
  have U1 := Aside0.mk (L1u.out.below hbu1)
  have N1 : (v0).heap.size + 1 ≠ g ∧ (v0).heap.size + 1 ≠ b := by have h1 := L0.out.at_.lt; have h2 := L0.out.at_.ltb; omega
  have ROW1 := Lib.hid hrow1
  have MW1 : Aside0 (Mut g b v0 u1) := ⟨(Mut.refl g b v0).then_below hbu1⟩
  clear hrow1 hbu1
  go_wp2_with fail
  refine (Do_c u1 g b 0 (fun _ => none) 0 Works.k1 (some ⟨(v0).heap.size + 1, 0, none⟩) 1 1000 false (HV.out.below U1.out.bel) U1.out.at_ (by decide) (keys_row ROW1.out (by decide)) (keys_at ROW1.out N1.1 N1.2) (by decide) (by decide)).mono ?_
  rintro e v1 hout
  obtain ⟨vs, hvs, rfl, hown, hA, hM⟩ : OutAt u1 g b 0 Works.o1 e v1 := hout
  have L1 := Aside0.mk (U1.out.mut hA hM)
  have Q1 : v1.heap.size ≠ g ∧ v1.heap.size ≠ b := by have h1 := L1.out.at_.lt; have h2 := L1.out.at_.ltb; omega
  rw [Works.o1_is.1, Works.o1_is.2.1, Works.o1_is.2.2]
  obtain rfl := hvs (by rw [Works.o1_is.1]; decide)
  clear hvs hown hA hM
  go_wp2_with fail
  have U2 := Aside0.mk (L1.out.below (((Below.refl _ v1).alloc (Nat.le_refl _) (.cells #[.int .i64 2, .slice none 0 0, .int .u64 0] 36)).alloc (by simp) (.cells ([⟨#[97]⟩].map Value.string).toArray 9)))
  have ROW2 := Lib.hid (heap_alloc2 v1 (.cells #[.int .i64 2, .slice none 0 0, .int .u64 0] 36) (.cells ([⟨#[97]⟩].map Value.string).toArray 9))
  have R1 := Lib.hid ((Below.heap_alloc (v1.alloc (.cells #[.int .i64 2, .slice none 0 0, .int .u64 0] 36)) (.cells ([⟨#[97]⟩].map Value.string).toArray 9) _ (by rw [size_al]; omega)).trans (heap_alloc_new v1 (.cells #[.int .i64 2, .slice none 0 0, .int .u64 0] 36)))
  have MW2 : Aside0 (Mut g b v1 ((v1.alloc (.cells #[.int .i64 2, .slice none 0 0, .int .u64 0] 36)).alloc (.cells ([⟨#[97]⟩].map Value.string).toArray 9))) := ⟨((Mut.refl g b v1).alloc _).alloc _⟩
  have N2 : v1.heap.size + 1 ≠ g ∧ v1.heap.size + 1 ≠ b := by have h1 := L1.out.at_.lt; have h2 := L1.out.at_.ltb; omega
  refine (Do_c ((v1.alloc (.cells #[.int .i64 2, .slice none 0 0, .int .u64 0] 36)).alloc (.cells ([⟨#[97]⟩].map Value.string).toArray 9)) g b 100 Works.o1.E Works.o1.laid Works.k2 (some ⟨v1.heap.size + 1, 0, none⟩) 1 1000 false (HV.out.below U2.out.bel) U2.out.at_ (by decide) (keys_row ROW2.out (by decide)) (keys_at ROW2.out N2.1 N2.2) (by decide) (by decide)).mono ?_
  rintro e v2 hout
  obtain ⟨vs, hvs, rfl, hown, hA, hM⟩ : OutAt ((v1.alloc (.cells #[.int .i64 2, .slice none 0 0, .int .u64 0] 36)).alloc (.cells ([⟨#[97]⟩].map Value.string).toArray 9)) g b 100 Works.o2 e v2 := hout
  have L2 := Aside0.mk (U2.out.mut hA hM)
  have Q2 : v2.heap.size ≠ g ∧ v2.heap.size ≠ b := by have h1 := L2.out.at_.lt; have h2 := L2.out.at_.ltb; omega
  replace R1 := Lib.hid (hM.heap R1.out Q1.1 Q1.2)
  rw [Works.o2_is.1, Works.o2_is.2.1, Works.o2_is.2.2]
  obtain rfl := hvs (by rw [Works.o2_is.1]; decide)
  clear hvs hown hA hM
  go_wp2_with fail
  have U3 := Aside0.mk (L2.out.below (((Below.refl _ v2).alloc (Nat.le_refl _) (.cells #[.int .i64 7, .slice none 0 0, .int .u64 15] 36)).alloc (by simp) (.cells ([⟨#[97]⟩, ⟨#[98]⟩].map Value.string).toArray 9)))
  have ROW3 := Lib.hid (heap_alloc2 v2 (.cells #[.int .i64 7, .slice none 0 0, .int .u64 15] 36) (.cells ([⟨#[97]⟩, ⟨#[98]⟩].map Value.string).toArray 9))
  have R2 := Lib.hid ((Below.heap_alloc (v2.alloc (.cells #[.int .i64 7, .slice none 0 0, .int .u64 15] 36)) (.cells ([⟨#[97]⟩, ⟨#[98]⟩].map Value.string).toArray 9) _ (by rw [size_al]; omega)).trans (heap_alloc_new v2 (.cells #[.int .i64 7, .slice none 0 0, .int .u64 15] 36)))
  have MW3 : Aside0 (Mut g b v2 ((v2.alloc (.cells #[.int .i64 7, .slice none 0 0, .int .u64 15] 36)).alloc (.cells ([⟨#[97]⟩, ⟨#[98]⟩].map Value.string).toArray 9))) := ⟨((Mut.refl g b v2).alloc _).alloc _⟩
  have N3 : v2.heap.size + 1 ≠ g ∧ v2.heap.size + 1 ≠ b := by have h1 := L2.out.at_.lt; have h2 := L2.out.at_.ltb; omega
  replace R1 := Lib.hid (MW3.out.heap R1.out Q1.1 Q1.2)
  refine (Do_c ((v2.alloc (.cells #[.int .i64 7, .slice none 0 0, .int .u64 15] 36)).alloc (.cells ([⟨#[97]⟩, ⟨#[98]⟩].map Value.string).toArray 9)) g b 200 Works.o2.E Works.o2.laid Works.k3 (some ⟨v2.heap.size + 1, 0, none⟩) 2 1000 false (HV.out.below U3.out.bel) U3.out.at_ (by decide) (keys_row ROW3.out (by decide)) (keys_at ROW3.out N3.1 N3.2) (by decide) (by decide)).mono ?_
  rintro e v3 hout
  obtain ⟨vs, hvs, rfl, hown, hA, hM⟩ : OutAt ((v2.alloc (.cells #[.int .i64 7, .slice none 0 0, .int .u64 15] 36)).alloc (.cells ([⟨#[97]⟩, ⟨#[98]⟩].map Value.string).toArray 9)) g b 200 Works.o3 e v3 := hout
  have L3 := Aside0.mk (U3.out.mut hA hM)
  have Q3 : v3.heap.size ≠ g ∧ v3.heap.size ≠ b := by have h1 := L3.out.at_.lt; have h2 := L3.out.at_.ltb; omega
  replace R1 := Lib.hid (hM.heap R1.out Q1.1 Q1.2)
  replace R2 := Lib.hid (hM.heap R2.out Q2.1 Q2.2)
  rw [Works.o3_is.1, Works.o3_is.2.1, Works.o3_is.2.2]
  rw [Works.o3_hits] at hown
  obtain ⟨r3, cap3, cur3, rfl, hr3a, hr3b, hr3c⟩ : ∃ r3 cap3 cur3, vs = .slice (some ⟨r3, 0, none⟩) 1 cap3 ∧ _ ≤ r3 ∧ v3.heap[r3]? = some (.cells cur3 50 (0, 0)) ∧ _ := by
    rcases hown.2 with ⟨_, h⟩ | ⟨r3, cap3, cur3, h1, h2, h3, h4⟩
    · exact absurd h (by decide)
    · exact ⟨r3, cap3, cur3, h1, h2, h3, h4⟩
  have HIT := Lib.hid hr3b
  have HITC := Lib.hid hr3c
  have hrn : r3 ≠ g ∧ r3 ≠ b := by have h1 := L2.out.at_.lt; have h2 := L2.out.at_.ltb; have h3 := hr3a; simp at h3; omega
  clear hr3a hr3b hr3c hvs hown hA hM
  go_wp2_with fail
  have U4 := Aside0.mk (L3.out.below (((Below.refl _ v3).alloc (Nat.le_refl _) (.cells #[.int .i64 1, .slice (some ⟨r3, 0, none⟩) 1 cap3, .int .u64 0] 36)).alloc (by simp) (.cells ([⟨#[97]⟩].map Value.string).toArray 9)))
  have ROW4 := Lib.hid (heap_alloc2 v3 (.cells #[.int .i64 1, .slice (some ⟨r3, 0, none⟩) 1 cap3, .int .u64 0] 36) (.cells ([⟨#[97]⟩].map Value.string).toArray 9))
  have R3 := Lib.hid ((Below.heap_alloc (v3.alloc (.cells #[.int .i64 1, .slice (some ⟨r3, 0, none⟩) 1 cap3, .int .u64 0] 36)) (.cells ([⟨#[97]⟩].map Value.string).toArray 9) _ (by rw [size_al]; omega)).trans (heap_alloc_new v3 (.cells #[.int .i64 1, .slice (some ⟨r3, 0, none⟩) 1 cap3, .int .u64 0] 36)))
  have MW4 : Aside0 (Mut g b v3 ((v3.alloc (.cells #[.int .i64 1, .slice (some ⟨r3, 0, none⟩) 1 cap3, .int .u64 0] 36)).alloc (.cells ([⟨#[97]⟩].map Value.string).toArray 9))) := ⟨((Mut.refl g b v3).alloc _).alloc _⟩
  have N4 : v3.heap.size + 1 ≠ g ∧ v3.heap.size + 1 ≠ b := by have h1 := L3.out.at_.lt; have h2 := L3.out.at_.ltb; omega
  replace R1 := Lib.hid (MW4.out.heap R1.out Q1.1 Q1.2)
  replace R2 := Lib.hid (MW4.out.heap R2.out Q2.1 Q2.2)
  refine (Do_c ((v3.alloc (.cells #[.int .i64 1, .slice (some ⟨r3, 0, none⟩) 1 cap3, .int .u64 0] 36)).alloc (.cells ([⟨#[97]⟩].map Value.string).toArray 9)) g b 300 Works.o3.E Works.o3.laid Works.k4 (some ⟨v3.heap.size + 1, 0, none⟩) 1 1000 false (HV.out.below U4.out.bel) U4.out.at_ (by decide) (keys_row ROW4.out (by decide)) (keys_at ROW4.out N4.1 N4.2) (by decide) (by decide)).mono ?_
  rintro e v4 hout
  obtain ⟨vs, hvs, rfl, hown, hA, hM⟩ : OutAt ((v3.alloc (.cells #[.int .i64 1, .slice (some ⟨r3, 0, none⟩) 1 cap3, .int .u64 0] 36)).alloc (.cells ([⟨#[97]⟩].map Value.string).toArray 9)) g b 300 Works.o4 e v4 := hout
  have L4 := Aside0.mk (U4.out.mut hA hM)
  have Q4 : v4.heap.size ≠ g ∧ v4.heap.size ≠ b := by have h1 := L4.out.at_.lt; have h2 := L4.out.at_.ltb; omega
  replace R1 := Lib.hid (hM.heap R1.out Q1.1 Q1.2)
  replace R2 := Lib.hid (hM.heap R2.out Q2.1 Q2.2)
  replace R3 := Lib.hid (hM.heap R3.out Q3.1 Q3.2)
  rw [Works.o4_is.1, Works.o4_is.2.1, Works.o4_is.2.2]
  obtain rfl := hvs (by rw [Works.o4_is.1]; decide)
  replace HIT := Lib.hid (hM.heap (MW4.out.heap HIT.out hrn.1 hrn.2) hrn.1 hrn.2)
  clear hvs hown hA hM
  go_wp2_with fail
  refine (set_c (v4.alloc (.cells #[.int .i64 7, .slice none 0 0, .int .u64 0] 36)) ⟨#[97]⟩ ⟨#[120]⟩).mono ?_
  rintro e u5 ⟨rfl, hrow5, hbu5⟩
  have L5u := Aside0.mk ((L4.out.below ((Below.refl _ v4).alloc (Nat.le_refl _) (.cells #[.int .i64 7, .slice none 0 0, .int .u64 0] 36))))
  have U5 := Aside0.mk (L5u.out.below hbu5)
  have hsz5 : ((v4.alloc (.cells #[.int .i64 7, .slice none 0 0, .int .u64 0] 36))).heap.size = v4.heap.size + 1 := size_al _ _
  rw [hsz5] at hrow5 ⊢
  have N5 : v4.heap.size + 1 + 1 ≠ g ∧ v4.heap.size + 1 + 1 ≠ b := by have h1 := L4.out.at_.lt; have h2 := L4.out.at_.ltb; omega
  have ROW5 := Lib.hid hrow5
  have MW5 : Aside0 (Mut g b v4 u5) := ⟨((Mut.refl g b v4).alloc _).then_below hbu5⟩
  have R4 := Lib.hid ((hbu5.block _ (by rw [hsz5]; omega)).trans (heap_alloc_new v4 (.cells #[.int .i64 7, .slice none 0 0, .int .u64 0] 36)))
  clear hrow5 hbu5 hsz5
  replace R1 := Lib.hid (MW5.out.heap R1.out Q1.1 Q1.2)
  replace R2 := Lib.hid (MW5.out.heap R2.out Q2.1 Q2.2)
  replace R3 := Lib.hid (MW5.out.heap R3.out Q3.1 Q3.2)
  go_wp2_with fail
  refine (Do_c u5 g b 400 Works.o4.E Works.o4.laid Works.k5 (some ⟨v4.heap.size + 1 + 1, 0, none⟩) 1 1000 true (HV.out.below U5.out.bel) U5.out.at_ (by decide) (keys_row ROW5.out (by decide)) (keys_at ROW5.out N5.1 N5.2) (by decide) (by decide)).mono ?_
  rintro e v5 hout
  obtain ⟨vs, hvs, rfl, hown, hA, hM⟩ : OutAt u5 g b 400 Works.o5 e v5 := hout
  have L5 := Aside0.mk (U5.out.mut hA hM)
  have Q5 : v5.heap.size ≠ g ∧ v5.heap.size ≠ b := by have h1 := L5.out.at_.lt; have h2 := L5.out.at_.ltb; omega
  replace R1 := Lib.hid (hM.heap R1.out Q1.1 Q1.2)
  replace R2 := Lib.hid (hM.heap R2.out Q2.1 Q2.2)
  replace R3 := Lib.hid (hM.heap R3.out Q3.1 Q3.2)
  replace R4 := Lib.hid (hM.heap R4.out Q4.1 Q4.2)
  rw [Works.o5_is.1, Works.o5_is.2.1, Works.o5_is.2.2]
  obtain rfl := hvs (by rw [Works.o5_is.1]; decide)
  replace HIT := Lib.hid (hM.heap (MW5.out.heap HIT.out hrn.1 hrn.2) hrn.1 hrn.2)
  clear hvs hown hA hM
  go_wp2_with fail
  have U6 := Aside0.mk (L5.out.below ((Below.refl _ v5).alloc (Nat.le_refl _) (.cells #[.int .i64 11, .slice none 0 0, .int .u64 0] 36)))
  have R5 := Lib.hid (heap_alloc_new v5 (.cells #[.int .i64 11, .slice none 0 0, .int .u64 0] 36))
  have MW6 : Aside0 (Mut g b v5 (v5.alloc (.cells #[.int .i64 11, .slice none 0 0, .int .u64 0] 36))) := ⟨(Mut.refl g b v5).alloc _⟩
  replace R1 := Lib.hid (MW6.out.heap R1.out Q1.1 Q1.2)
  replace R2 := Lib.hid (MW6.out.heap R2.out Q2.1 Q2.2)
  replace R3 := Lib.hid (MW6.out.heap R3.out Q3.1 Q3.2)
  replace R4 := Lib.hid (MW6.out.heap R4.out Q4.1 Q4.2)
  refine (Do_c (v5.alloc (.cells #[.int .i64 11, .slice none 0 0, .int .u64 0] 36)) g b 500 Works.o5.E Works.o5.laid Works.k6 none 0 1000 false (HV.out.below U6.out.bel) U6.out.at_ (by decide) (Kd.C_nil Kd.string _) (fun j p hp => by cases hp) (by decide) (by decide)).mono ?_
  rintro e v6 hout
  obtain ⟨vs, hvs, rfl, hown, hA, hM⟩ : OutAt (v5.alloc (.cells #[.int .i64 11, .slice none 0 0, .int .u64 0] 36)) g b 500 Works.o6 e v6 := hout
  have L6 := Aside0.mk (U6.out.mut hA hM)
  have Q6 : v6.heap.size ≠ g ∧ v6.heap.size ≠ b := by have h1 := L6.out.at_.lt; have h2 := L6.out.at_.ltb; omega
  replace R1 := Lib.hid (hM.heap R1.out Q1.1 Q1.2)
  replace R2 := Lib.hid (hM.heap R2.out Q2.1 Q2.2)
  replace R3 := Lib.hid (hM.heap R3.out Q3.1 Q3.2)
  replace R4 := Lib.hid (hM.heap R4.out Q4.1 Q4.2)
  replace R5 := Lib.hid (hM.heap R5.out Q5.1 Q5.2)
  rw [Works.o6_is.1, Works.o6_is.2.1, Works.o6_is.2.2]
  obtain rfl := hvs (by rw [Works.o6_is.1]; decide)
  replace HIT := Lib.hid (hM.heap (MW6.out.heap HIT.out hrn.1 hrn.2) hrn.1 hrn.2)
  clear hvs hown hA hM
  go_wp2_with fail
  have U7 := Aside0.mk (L6.out.below (((Below.refl _ v6).alloc (Nat.le_refl _) (.cells #[.int .i64 0, .slice none 0 0, .int .u64 0] 36)).alloc (by simp) (.cells ([⟨#[97]⟩].map Value.string).toArray 9)))
  have ROW7 := Lib.hid (heap_alloc2 v6 (.cells #[.int .i64 0, .slice none 0 0, .int .u64 0] 36) (.cells ([⟨#[97]⟩].map Value.string).toArray 9))
  have R6 := Lib.hid ((Below.heap_alloc (v6.alloc (.cells #[.int .i64 0, .slice none 0 0, .int .u64 0] 36)) (.cells ([⟨#[97]⟩].map Value.string).toArray 9) _ (by rw [size_al]; omega)).trans (heap_alloc_new v6 (.cells #[.int .i64 0, .slice none 0 0, .int .u64 0] 36)))
  have MW7 : Aside0 (Mut g b v6 ((v6.alloc (.cells #[.int .i64 0, .slice none 0 0, .int .u64 0] 36)).alloc (.cells ([⟨#[97]⟩].map Value.string).toArray 9))) := ⟨((Mut.refl g b v6).alloc _).alloc _⟩
  have N7 : v6.heap.size + 1 ≠ g ∧ v6.heap.size + 1 ≠ b := by have h1 := L6.out.at_.lt; have h2 := L6.out.at_.ltb; omega
  replace R1 := Lib.hid (MW7.out.heap R1.out Q1.1 Q1.2)
  replace R2 := Lib.hid (MW7.out.heap R2.out Q2.1 Q2.2)
  replace R3 := Lib.hid (MW7.out.heap R3.out Q3.1 Q3.2)
  replace R4 := Lib.hid (MW7.out.heap R4.out Q4.1 Q4.2)
  replace R5 := Lib.hid (MW7.out.heap R5.out Q5.1 Q5.2)
  refine (Do_c ((v6.alloc (.cells #[.int .i64 0, .slice none 0 0, .int .u64 0] 36)).alloc (.cells ([⟨#[97]⟩].map Value.string).toArray 9)) g b 600 Works.o6.E Works.o6.laid Works.k7 (some ⟨v6.heap.size + 1, 0, none⟩) 1 1000 false (HV.out.below U7.out.bel) U7.out.at_ (by decide) (keys_row ROW7.out (by decide)) (keys_at ROW7.out N7.1 N7.2) (by decide) (by decide)).mono ?_
  rintro e v7 hout
  obtain ⟨vs, hvs, rfl, hown, hA, hM⟩ : OutAt ((v6.alloc (.cells #[.int .i64 0, .slice none 0 0, .int .u64 0] 36)).alloc (.cells ([⟨#[97]⟩].map Value.string).toArray 9)) g b 600 Works.o7 e v7 := hout
  have L7 := Aside0.mk (U7.out.mut hA hM)
  have Q7 : v7.heap.size ≠ g ∧ v7.heap.size ≠ b := by have h1 := L7.out.at_.lt; have h2 := L7.out.at_.ltb; omega
  replace R1 := Lib.hid (hM.heap R1.out Q1.1 Q1.2)
  replace R2 := Lib.hid (hM.heap R2.out Q2.1 Q2.2)
  replace R3 := Lib.hid (hM.heap R3.out Q3.1 Q3.2)
  replace R4 := Lib.hid (hM.heap R4.out Q4.1 Q4.2)
  replace R5 := Lib.hid (hM.heap R5.out Q5.1 Q5.2)
  replace R6 := Lib.hid (hM.heap R6.out Q6.1 Q6.2)
  rw [Works.o7_is.1, Works.o7_is.2.1, Works.o7_is.2.2]
  obtain rfl := hvs (by rw [Works.o7_is.1]; decide)
  replace HIT := Lib.hid (hM.heap (MW7.out.heap HIT.out hrn.1 hrn.2) hrn.1 hrn.2)
  clear hvs hown hA hM
  go_upto_region 11 with fail
  have MW8 : Aside0 (Mut g b v7 (v7.alloc (.cells #[.int .i64 5, .slice none 0 0, .int .u64 0] 36))) := ⟨(Mut.refl g b v7).alloc _⟩
  have BEL := Aside0.mk (L7.out.bel.alloc L7.out.bel.size (.cells #[.int .i64 5, .slice none 0 0, .int .u64 0] 36))
  have z1 := MW8.out.heap R1.out Q1.1 Q1.2
  have z2 := MW8.out.heap R2.out Q2.1 Q2.2
  have z3 := MW8.out.heap R3.out Q3.1 Q3.2
  have z4 := MW8.out.heap R4.out Q4.1 Q4.2
  have z5 := MW8.out.heap R5.out Q5.1 Q5.2
  have zh := MW8.out.heap HIT.out hrn.1 hrn.2
  have e0 := take4 HITC.out.2.2.2
  have y0 := fresh_cell z1 0
  have y1 := fresh_cell z2 0
  have y2 := fresh_cell z2 2
  have y3 := fresh_cell z3 1
  have y4 := fresh_cell z4 0
  have y5 := fresh_cell z4 2
  have y6 := fresh_cell z5 0
  have x0 := (fresh_cell zh 0).trans e0.1
  have x1 := (fresh_cell zh 1).trans e0.2.1
  have x2 := (fresh_cell zh 2).trans e0.2.2.1
  have x3 := (fresh_cell zh 3).trans e0.2.2.2
  simp only [List.getElem?_toArray, List.getElem?_cons_zero, List.getElem?_cons_succ] at y0 y1 y2 y3 y4 y5 y6
  clear z1 z2 z3 z4 z5 zh e0
  go_wp2
  go_ret
  exact ⟨rfl, BEL.out⟩
end Go.Proofs.YtbggcimjlkjclaaGreatDoor.Mdl
end
section
namespace Go.Proofs.YtbggcimjlkjclaaGreatDoor.Mdl
open Go.RowKit Go.Proofs.YtbggcimjlkjclaaGreatDoorW.PrintWords Go.Proofs.YtbggcimjlkjclaaGreatDoorW.PrintLast Go.Proofs.YtbggcimjlkjclaaGreatDoorW.PrintMore Go.WideMaps Go.Proofs.YtbggcimjlkjclaaGreatDoor.XMd
set_option linter.unusedVariables false
set_option linter.unusedSimpArgs false
namespace Seen
def setF (l : List Int) : Lit → Option Value
  | .int .u64 c => if c ∈ l then some (.bool true) else none
  | _ => none
theorem law64 : Maps.Keyed Tryz.prog 26 := Maps.int_keyed Tryz.underlying26
theorem key64 {c : Int} (h0 : 0 ≤ c) (h1 : c < 18446744073709551616) : keyOf Tryz.prog 26 (.int .u64 c) = some (.int .u64 c) :=
  Maps.keyOf_int_mk Tryz.underlying26 (by simp [Lit.wf, IntKind.min, IntKind.max, IntKind.signed, IntKind.bits]; omega)
theorem zeroB (w : World) : (zeroValue 4).run Tryz.prog w = .ok (.bool false) w := by kernel_rfl
def At (w : World) (b c : Nat) (l : List Int) : Prop := mapF w Tryz.prog 26 b c (setF l)
theorem made (w : World) : At (w.alloc (.map #[] 0)) w.heap.size 0 [] := (mapF_made w Tryz.prog 26).eq fun kl _ => by cases kl with
  | int q c => cases q <;> simp [setF]
  | _ => rfl
theorem At.same {w w' : World} {b c : Nat} {l : List Int} (h : At w b c l) (e : w'.heap[b]? = w.heap[b]?) : At w' b c l := mapF.same h e
theorem At.lt {w : World} {b c : Nat} {l : List Int} (h : At w b c l) : b < w.heap.size := mapF.lt h
theorem At.look {w : World} {b c : Nat} {l : List Int} (h : At w b c l) (n : Int) (h0 : 0 ≤ n) (h1 : n < 18446744073709551616) :
    (Instr.lookup 42 (.map (some b)) (.int .u64 n) false).run Tryz.prog w = .ok (.bool (decide (n ∈ l))) w := by
  obtain ⟨D, ho, _, h2⟩ := h
  obtain ⟨v, ps, hrun, hv⟩ := ho.lookup law64 Tryz.underlying42 (zeroB w) (zd := .held (.bool false)) (zp := []) rfl (key64 h0 h1)
  rw [(h2 (.int .u64 n) trivial).1] at hv
  have e := tokR_inj hv
  rw [hrun, e]
  rw [show setF l (.int .u64 n) = if n ∈ l then some (.bool true) else none from rfl]
  by_cases hm : n ∈ l
  · rw [if_pos hm, decide_eq_true hm]; rfl
  · rw [if_neg hm, decide_eq_false hm]; rfl
theorem At.put {w : World} {b c : Nat} {l : List Int} (h : At w b c l) (hc : c < maxLen) (n : Int) (h0 : 0 ≤ n) (h1 : n < 18446744073709551616) :
    ∃ w', (Instr.mapUpdate 42 (.map (some b)) (.int .u64 n) (.bool true)).run Tryz.prog w = .ok () w' ∧ At w' b (c + 1) (n :: l) ∧ w.grownBy w' (some b) := by
  obtain ⟨D, ho, hm, h2⟩ := h
  obtain ⟨w', hrun, ho', hg'⟩ := ho.update law64 Tryz.underlying42 hc (key64 h0 h1) (val := .bool true) (d := .held (.bool true)) (ps := []) rfl
  refine ⟨w', hrun, ?_, hg'⟩
  have hp : mapF w' Tryz.prog 26 b (c + 1) (putF (setF l) (.int .u64 n) (some (.bool true))) := ⟨_, ho', hm.put _ _, fun kl hl => by
    by_cases e1 : kl = .int .u64 n
    · subst e1
      rw [putF_same]
      exact ⟨fun z => Maps.atKey_put_same hm hl _ _, Maps.has_put_same hm hl _⟩
    · rw [putF_other _ _ e1]
      refine ⟨fun z => ?_, ?_⟩
      · rw [Maps.atKey_put_other e1]; exact (h2 kl hl).1 z
      · rw [Maps.has_put_other e1]; exact (h2 kl hl).2⟩
  refine hp.eq fun kl _ => ?_
  by_cases e1 : kl = .int .u64 n
  · subst e1
    rw [putF_same]
    simp [setF]
  · rw [putF_other _ _ e1]
    cases kl with
    | int q c =>
      cases q
      case u64 =>
        have : c ≠ n := fun e => e1 (by rw [e])
        simp [setF, this]
      all_goals rfl
    | _ => rfl
end Seen
end Go.Proofs.YtbggcimjlkjclaaGreatDoor.Mdl
end
section
namespace Go.Proofs.YtbggcimjlkjclaaGreatDoor.Mdl
open Go.RowKit Go.Proofs.YtbggcimjlkjclaaGreatDoorW.PrintWords Go.Proofs.YtbggcimjlkjclaaGreatDoorW.PrintLast Go.Proofs.YtbggcimjlkjclaaGreatDoorW.PrintMore Go.WideMaps Go.Proofs.YtbggcimjlkjclaaGreatDoor.XMd
set_option linter.unusedVariables false
set_option linter.unusedSimpArgs false
attribute [local go_sem ↓] Go.wp_at_zero Go.wp_at_succ
theorem great_small {kind : Int} {l : List ByteArray} {flags exp : Int} {value : ByteArray} {cas delta : Int} {quiet : Bool} :
    ∀ (k j : Nat) (x : Int), l.length ≤ 9223372036854775807 → tallboylaw15_Great.l0 k x (j : Int) kind l flags exp value cas delta quiet = some false → l.length ≤ 100
  | 0, j, x, _, h => by simp [tallboylaw15_Great.l0] at h
  | k + 1, j, x, hl, h => by
    unfold tallboylaw15_Great.l0 at h
    split at h
    · split at h
      · split at h
        · rename_i h1 _ _
          rw [show wrap64 ((j : Int) + 1) = ((j + 1 : Nat) : Int) from by unfold wrap64; omega] at h
          exact great_small k (j + 1) _ hl h
        · cases h
      · split at h
        · injection h with h; cases h
        · injection h with h
          have := of_decide_eq_false h
          omega
    · split at h
      · injection h with h; cases h
      · injection h with h
        have := of_decide_eq_false h
        omega
theorem keysAt_R {w w' : World} {g b e : Nat} {v : Value} {l : List ByteArray} {ok : Nat → Prop} (h : Kd.R Kd.string e w' w.heap.size ok v l) (hg : g < w.heap.size) (hb : b < w.heap.size) :
    ∃ A c, v = .slice A l.length c ∧ l.length ≤ c ∧ Kd.string.C w' A l.length l ∧ KeysAt w' g b A l := by
  obtain ⟨A, c, rfl, hc, hC⟩ := Kd.R_reads h
  obtain ⟨inner, ho⟩ := Kd.R_own h
  refine ⟨A, c, rfl, hc, hC, fun j p hp => ?_⟩
  obtain ⟨ad, e1, hcell⟩ := slices_ContainsFunc_string_string.cell hC (Below.refl _ _) j p hp
  have := ownBlock_ge ho ad.block (by rw [e1]; rfl)
  exact ⟨ad, e1, by omega, by omega, hcell⟩
theorem sorted_key {E : Tab} {now : Int} (hN : Named E) {ns : List (List UInt8)} (hk : KeysOut E now ns) {k : Nat} {t : List UInt8} (ht : ((texts ns).mergeSort fun x y => decide (x ≤ y))[k]? = some t) :
    ∃ key x, t = key.data.toList ∧ fnv_Key.is key = true ∧ E (nm key) = some x ∧ get E key now = some x := by
  have hm : t ∈ texts ns := (List.mergeSort_perm _ _).mem_iff.1 (List.mem_of_getElem? ht)
  obtain ⟨n, hn, rfl⟩ := List.mem_map.1 hm
  have hl := (hk.2 n).1 hn
  unfold live at hl
  cases hx : E n with
  | none => rw [hx] at hl; cases hl
  | some x =>
    rw [hx] at hl
    obtain ⟨key, hv, rfl⟩ := hN n x hx
    have hg := good_of hv
    refine ⟨key, x, hg.back, hv, hx, ?_⟩
    unfold get
    rw [hx]
    simp only
    rw [if_pos ⟨hg.back, by simpa using hl⟩]
theorem texts_nodup {E : Tab} {now : Int} (hN : Named E) {ns : List (List UInt8)} (hk : KeysOut E now ns) : ((texts ns).mergeSort fun x y => decide (x ≤ y)).Nodup := by
  refine (List.mergeSort_perm _ _).nodup_iff.2 ?_
  unfold texts
  refine List.pairwise_map.2 (hk.1.imp_of_mem fun {a b} ha hb hne e => hne ?_)
  have hla := (hk.2 a).1 ha
  have hlb := (hk.2 b).1 hb
  unfold live at hla hlb
  cases hx : E a with
  | none => rw [hx] at hla; cases hla
  | some x =>
    cases hy : E b with
    | none => rw [hy] at hlb; cases hlb
    | some y =>
      obtain ⟨p, hp, rfl⟩ := hN a x hx
      obtain ⟨q, hq, rfl⟩ := hN b y hy
      rw [(good_of hp).back, (good_of hq).back] at e
      have : p = q := by
        cases p
        cases q
        congr 1
        exact Array.toList_inj.1 e
      rw [this]
theorem key_valid {E : Tab} (hN : Named E) {key : ByteArray} {now : Int} {x : Ent} (h : get E key now = some x) : Good key := by
  have he := get_entry h
  obtain ⟨q, hq, hn⟩ := hN _ x he
  have hs : strip (nm key) = key.data.toList := by
    unfold get at h
    rw [he] at h
    simp only at h
    split at h
    · rename_i h1; exact h1.1
    · cases h
  have e : key = q := by
    have hd : key.data.toList = q.data.toList := by rw [← hs, hn, (good_of hq).back]
    cases key
    cases q
    congr 1
    exact Array.toList_inj.1 hd
  rw [e]
  exact good_of hq
namespace Nmb
def new : ByteArray := ⟨#[110, 101, 119]⟩
def casCmd (key : ByteArray) (c : Int) : Cmd := ⟨10, [key], 0, 0, new, c, 0, false⟩
theorem chk_cas {key : ByteArray} (hk : Good key) (c : Int) : chkC (casCmd key c) = 0 := by
  show chk 10 [key] 0 0 new c 0 false = 0
  simp [chk, sameC, keysC, hk.ok, show new.size ≤ 2000 from by decide]
theorem first {E : Tab} {laid : Int} {key : ByteArray} (hk : Good key) (h0 : 0 ≤ laid) (h1 : laid < 1000) {x : Ent} (hg : get E key 1000 = some x) :
    doP (casCmd key x.cas) 1000 false E laid = ⟨2, [], 0, 0, putT E (nm key) (some ⟨new, 0, 0, laid + 1⟩), laid + 1⟩ := by
  unfold doP doR
  rw [chk_cas hk, ends_ok (show sec 1000 by unfold sec; omega)]
  have hm := mod_next h0 h1
  have he : endsV 1000 0 = 0 := ends_nought (show sec 1000 by unfold sec; omega)
  simp [casCmd, doOne, hg, storeR, mayC, mayT, newEnt, layT, layN, hm, he, show ¬ 2000 < new.size from by decide]
theorem second {E : Tab} {laid : Int} {key : ByteArray} (hk : Good key) (c : Int) (hc : laid + 1 ≠ c) :
    (doP (casCmd key c) 1000 false (putT E (nm key) (some ⟨new, 0, 0, laid + 1⟩)) (laid + 1)).code = 4 := by
  have hg : get (putT E (nm key) (some ⟨new, 0, 0, laid + 1⟩)) key 1000 = some ⟨new, 0, 0, laid + 1⟩ := by
    rw [get_same _ hk, gone_nought _ rfl, if_pos rfl]
  unfold doP doR
  rw [chk_cas hk, ends_ok (show sec 1000 by unfold sec; omega)]
  simp [casCmd, doOne, hg, storeR, mayC, hc]
end Nmb
end Go.Proofs.YtbggcimjlkjclaaGreatDoor.Mdl
end
