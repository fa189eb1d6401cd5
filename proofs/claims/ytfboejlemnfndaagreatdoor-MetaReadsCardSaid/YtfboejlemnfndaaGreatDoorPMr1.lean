/- Put together by wip/pack.py (this session's own program) out of this session's texts; a kit's tool laid the words and the shelf, of which only what is used stands here. Lean checks it. -/
import Derived.Test.YtfboejlemnfndaaGreatDoorPMr0
import Derived.Test.YtfboejlemnfndaaGreatDoorProg
import Derived.Below
import Derived.Deep.Draws
import Derived.Deep.AppendLies
import Derived.Maps.AppendAt
import Derived.OwnWalk
import Derived.Laws.BytesArg
import Derived.Laws.MakeOwn
import Derived.Laws.OwnMore
import Derived.Deep.OwnRows
import Derived.Tactics
import Derived.Lib.ConvBytes
import Derived.Laws.Slices
import Derived.WalkKit
import Derived.KernelRfl
import Derived.RowKit3
import Derived.Deep.LoopGhost
import Derived.Deep.QuietTactic
import Derived.BigQuiet
import Derived.WideLaws
import Derived.Deep.DeepCutAuto
import Derived.Deep.CutBlock
import Derived.Deep.RegionHeld3
import Derived.Laws.Rows
import Derived.Lib.AppendStr
import Derived.ArgAppend
import Derived.Laws.IdiomCopy
import Derived.OrdersHeld
import Derived.Laws.BitsLemmas
import Derived.RowKit
import Derived.Lib.Hide
import Derived.Shelf.Abstract
import Derived.Shelf.Strings.Builder1
import Derived.Shelf.Strings.Builder2
import Derived.Shelf.Strings.OnBuilder
import Derived.Shelf.Strings.Trim
import Derived.Shelf.Small.Utf8
import Derived.Shelf.Small.Strs
import Derived.Shelf.Small.Wraps
import Derived.Shelf.Strings.BuilderF
import Derived.Shelf.Strings.BuilderK
import Derived.Shelf.Strings.Builder2Cap
import Derived.Shelf.Strconv.Itoa0
import Derived.Shelf.Strconv.Itoa1
import Derived.Shelf.LaysM
import Derived.Shelf.Strconv.Itoa2
import Derived.Shelf.Strconv.Itoa3
import Derived.Shelf.Strconv.Clone
import Derived.Shelf.Strconv.Lower
import Derived.Shelf.Strconv.ParseUint10
import Derived.Shelf.Strconv.RangeError
import Derived.Shelf.LaysC
import Derived.Shelf.Strconv.ToErrorRange
import Derived.Shelf.Strconv.ParseUintEmpty
import Derived.Shelf.Strconv.ParseUint10b64
import Derived.Shelf.Strconv.ParseUint10b32
import Derived.Shelf.Strconv.ParseUint10b16
import Derived.Shelf.Strconv.ParseUint10b8
import Derived.Shelf.Strconv.ParseUint10At
import Derived.Ground.MpProg
import Derived.Shelf.Pu.ParseUintPublic10
import Derived.Shelf.Pu.ErrVarParseUint
import Derived.Shelf.Strings.Search1
import Derived.Shelf.Strings.Search2
import Derived.Shelf.Strings.Search3
import Derived.Shelf.Strings.Count
import Derived.Shelf.Strings.Shaped
import Derived.Shelf.Strings.Prefix
import Derived.Shelf.Strings.Split
import Derived.Shelf.Strings.Runes
import Derived.Shelf.Strings.AsciiSet
import Derived.Shelf.Unicode.DecodeSlow
import Derived.Shelf.Strings.BuilderCap
import Derived.BigCall
import Derived.Lib.FrozenHead
import Derived.Lib.FrozenHead2
import Derived.Lib.Strings
import Derived.Laws.Strings
section
namespace Go.Proofs.YtfboejlemnfndaaGreatDoor.XMr
open Go.RowKit Go.Proofs.YtfboejlemnfndaaGreatDoorW.PrintWords Go.Proofs.YtfboejlemnfndaaGreatDoorW.PrintLast Go.Proofs.YtfboejlemnfndaaGreatDoorW.PrintMore
attribute [local go_sem] extract_sub max2_int min2_int max_two min_two max_three min_three max_four min_four   -- for this text's walks alone
set_option linter.unusedVariables false
set_option linter.unusedSimpArgs false

noncomputable section


def errW : Option Int → Value
 | none => .nilIface
 | some c => .iface 0 (.int .i64 c)
theorem errW_none : errW none = .nilIface := rfl
theorem errW_some (c : Int) : errW (some c) = .iface 0 (.int .i64 c) := rfl

theorem info5 : (Tryz.prog.info? 5).map (fun i => (i.zero, i.size, i.bytes)) = some (some (.int .u8 0), 1, 1) := by kernel_rfl
theorem info9 : (Tryz.prog.info? 9).map (fun i => (i.zero, i.size, i.bytes)) = some (some (.string ⟨#[]⟩), 1, 16) := by kernel_rfl
theorem info59 : (Tryz.prog.info? 59).map (fun i => (i.zero, i.size, i.bytes)) = some (some (.agg #[(.int .u8 0), (.string ⟨#[]⟩)]), 2, 24) := by kernel_rfl
theorem info61 : (Tryz.prog.info? 61).map (fun i => (i.zero, i.size, i.bytes)) = some (some (.agg #[(.int .u8 0), (.string ⟨#[]⟩)]), 2, 24) := by kernel_rfl
theorem info63 : (Tryz.prog.info? 63).map (fun i => (i.zero, i.size, i.bytes)) = some (some (.agg #[(.string ⟨#[]⟩), (.string ⟨#[]⟩)]), 2, 32) := by kernel_rfl
structure S59 where
 f0 : Int
 f1 : ByteArray
def z59 : S59 := ⟨(0 : Int), (⟨#[]⟩ : ByteArray)⟩
def k59 : Kd S59 := Kd.iso (Kd.pair (Kd.int .u8) Kd.string) (fun x : S59 => (x.f0, x.f1))
theorem k59_open {w : World} {x : S59} {cs : List Value} (h : k59.K w x cs) : cs = [.int .u8 x.f0, .string x.f1] := by
 obtain ⟨_, _, rfl, rfl, rfl⟩ := h
 exact rfl
theorem k59_openM {w : World} {base : Nat} {ok : Nat → Prop} {x : S59} {cs : List Value} (h : k59.M w base ok x cs) : cs = [.int .u8 x.f0, .string x.f1] := by
 obtain ⟨_, _, rfl, rfl, rfl⟩ := h
 exact rfl
theorem k59_mk (w : World) (x : S59)  : k59.K w x [.int .u8 x.f0, .string x.f1] := ⟨[.int .u8 x.f0], [.string x.f1], rfl, rfl, rfl⟩
theorem k59_mkM (w : World) (base : Nat) (ok : Nat → Prop) (x : S59)  : k59.M w base ok x [.int .u8 x.f0, .string x.f1] := ⟨[.int .u8 x.f0], [.string x.f1], rfl, rfl, rfl⟩
theorem k59_mkF (W : World) (ok : Nat → Prop) (x : S59) : Kd.FK k59 W ok x [.int .u8 x.f0, .string x.f1] := fun W2 _ => k59_mk W2 x
def rd_T59 (xs : List S59) (i : Int) : S59 := xs.getD i.toNat z59
theorem at_T59 {w : World} {A : Option Addr} {n : Nat} {xs : List S59} (h : Kd.C k59 w A n xs) (i : Int) (h0 : 0 ≤ i) (h1 : i < n) : ∃ ad , A = some ad ∧ w.cell? (ad.add (i.toNat * 2)) = some (.int .u8 (rd_T59 xs i).f0) ∧ w.cell? ⟨(ad.add (i.toNat * 2)).block, (ad.add (i.toNat * 2)).off + 1, none⟩ = some (.string (rd_T59 xs i).f1) := by
 obtain ⟨ad, c, e, _, hK, hc0⟩ := Kd.C_get h z59 i h0 h1
 have hc : ∀ j u, c[j]? = some u → w.cell? (ad.add (i.toNat * 2 + j)) = some u := hc0
 obtain rfl := k59_open hK
 exact ⟨ad, e, hc 0 _ rfl, by rw [← add_field _ _ 1 (by omega)]; exact hc 1 _ rfl⟩

structure S61 where
 f0 : Int
 f1 : ByteArray
def z61 : S61 := ⟨(0 : Int), (⟨#[]⟩ : ByteArray)⟩
def k61 : Kd S61 := Kd.iso (Kd.pair (Kd.int .u8) Kd.string) (fun x : S61 => (x.f0, x.f1))
theorem k61_open {w : World} {x : S61} {cs : List Value} (h : k61.K w x cs) : cs = [.int .u8 x.f0, .string x.f1] := by
 obtain ⟨_, _, rfl, rfl, rfl⟩ := h
 exact rfl
theorem k61_openM {w : World} {base : Nat} {ok : Nat → Prop} {x : S61} {cs : List Value} (h : k61.M w base ok x cs) : cs = [.int .u8 x.f0, .string x.f1] := by
 obtain ⟨_, _, rfl, rfl, rfl⟩ := h
 exact rfl
theorem k61_mk (w : World) (x : S61)  : k61.K w x [.int .u8 x.f0, .string x.f1] := ⟨[.int .u8 x.f0], [.string x.f1], rfl, rfl, rfl⟩
theorem k61_mkM (w : World) (base : Nat) (ok : Nat → Prop) (x : S61)  : k61.M w base ok x [.int .u8 x.f0, .string x.f1] := ⟨[.int .u8 x.f0], [.string x.f1], rfl, rfl, rfl⟩
theorem k61_mkF (W : World) (ok : Nat → Prop) (x : S61) : Kd.FK k61 W ok x [.int .u8 x.f0, .string x.f1] := fun W2 _ => k61_mk W2 x
def rd_T61 (xs : List S61) (i : Int) : S61 := xs.getD i.toNat z61
theorem at_T61 {w : World} {A : Option Addr} {n : Nat} {xs : List S61} (h : Kd.C k61 w A n xs) (i : Int) (h0 : 0 ≤ i) (h1 : i < n) : ∃ ad , A = some ad ∧ w.cell? (ad.add (i.toNat * 2)) = some (.int .u8 (rd_T61 xs i).f0) ∧ w.cell? ⟨(ad.add (i.toNat * 2)).block, (ad.add (i.toNat * 2)).off + 1, none⟩ = some (.string (rd_T61 xs i).f1) := by
 obtain ⟨ad, c, e, _, hK, hc0⟩ := Kd.C_get h z61 i h0 h1
 have hc : ∀ j u, c[j]? = some u → w.cell? (ad.add (i.toNat * 2 + j)) = some u := hc0
 obtain rfl := k61_open hK
 exact ⟨ad, e, hc 0 _ rfl, by rw [← add_field _ _ 1 (by omega)]; exact hc 1 _ rfl⟩

def rd_L5 (xs : List (List S61)) (i : Int) : (List S61) := xs.getD i.toNat ([] : List S61)
theorem at_L5 {w : World} {A : Option Addr} {n : Nat} {xs : List (List S61)} (h : Kd.C (Kd.slice 61 k61) w A n xs) (i : Int) (h0 : 0 ≤ i) (h1 : i < n) : ∃ ad A0 c0, A = some ad ∧ w.cell? (ad.add i.toNat) = some (.slice A0 (rd_L5 xs i).length c0) ∧ (rd_L5 xs i).length ≤ c0 ∧ k61.C w A0 (rd_L5 xs i).length (rd_L5 xs i) := by
 obtain ⟨ad, c, e, _, hK, hc0⟩ := Kd.C_get h ([] : List S61) i h0 h1
 have hc : ∀ j u, c[j]? = some u → w.cell? (ad.add (i.toNat * 1 + j)) = some u := hc0
 obtain ⟨A0, c0, rfl, l0, g0⟩ := hK
 exact ⟨ad, A0, c0, e, by have hq := hc 0 _ rfl; rwa [Nat.mul_one, Nat.add_zero] at hq, l0, g0⟩

structure S31 where
 f0 : Int
 f1 : ByteArray
 f2 : Int
 f3 : (List S61)
def z31 : S31 := ⟨(0 : Int), (⟨#[]⟩ : ByteArray), (0 : Int), ([] : List S61)⟩
def k31 : Kd S31 := Kd.iso (Kd.pair (Kd.int .i64) (Kd.pair Kd.string (Kd.pair (Kd.int .i64) (Kd.slice 61 k61)))) (fun x : S31 => (x.f0, x.f1, x.f2, x.f3))
theorem k31_open {w : World} {x : S31} {cs : List Value} (h : k31.K w x cs) : ∃ A3 c3, cs = [.int .i64 x.f0, .string x.f1, .int .i64 x.f2, .slice A3 x.f3.length c3] ∧ x.f3.length ≤ c3 ∧ k61.C w A3 x.f3.length x.f3 := by
 obtain ⟨_, _, rfl, rfl, ⟨_, _, rfl, rfl, ⟨_, _, rfl, rfl, ⟨A3, c3, rfl, l3, g3⟩⟩⟩⟩ := h
 exact ⟨A3, c3, rfl, l3, g3⟩
theorem k31_openM {w : World} {base : Nat} {ok : Nat → Prop} {x : S31} {cs : List Value} (h : k31.M w base ok x cs) : ∃ v3, cs = [.int .i64 x.f0, .string x.f1, .int .i64 x.f2, v3] ∧ k61.R 61 w base ok v3 x.f3 := by
 obtain ⟨_, _, rfl, rfl, ⟨_, _, rfl, rfl, ⟨_, _, rfl, rfl, ⟨v3, rfl, g3⟩⟩⟩⟩ := h
 exact ⟨v3, rfl, g3⟩
theorem k31_mk (w : World) (x : S31) {A3 : Option Addr} {c3 : Nat} (l3 : x.f3.length ≤ c3) (g3 : k61.C w A3 x.f3.length x.f3) : k31.K w x [.int .i64 x.f0, .string x.f1, .int .i64 x.f2, .slice A3 x.f3.length c3] := ⟨[.int .i64 x.f0], [.string x.f1, .int .i64 x.f2, .slice A3 x.f3.length c3], rfl, rfl, ⟨[.string x.f1], [.int .i64 x.f2, .slice A3 x.f3.length c3], rfl, rfl, ⟨[.int .i64 x.f2], [.slice A3 x.f3.length c3], rfl, rfl, ⟨A3, c3, rfl, l3, g3⟩⟩⟩⟩
theorem k31_mkM (w : World) (base : Nat) (ok : Nat → Prop) (x : S31) {v3 : Value} (g3 : k61.R 61 w base ok v3 x.f3) : k31.M w base ok x [.int .i64 x.f0, .string x.f1, .int .i64 x.f2, v3] := ⟨[.int .i64 x.f0], [.string x.f1, .int .i64 x.f2, v3], rfl, rfl, ⟨[.string x.f1], [.int .i64 x.f2, v3], rfl, rfl, ⟨[.int .i64 x.f2], [v3], rfl, rfl, ⟨v3, rfl, g3⟩⟩⟩⟩
theorem k31_openF {W : World} {ok : Nat → Prop} {x : S31} {cs : List Value} (h : Kd.FK k31 W ok x cs) : ∃ A3 c3, cs = [.int .i64 x.f0, .string x.f1, .int .i64 x.f2, .slice A3 x.f3.length c3] ∧ x.f3.length ≤ c3 ∧ Kd.F k61 W ok A3 x.f3.length x.f3 := by
 obtain ⟨A3, c3, rfl, l3, _⟩ := k31_open (Kd.FK_now h)
 exact ⟨A3, c3, rfl, l3, (fun W' hW => by obtain ⟨A3_, c3_, he, l3_, g3_⟩ := k31_open (h W' hW); injection (Option.some.inj (show some (Value.slice A3 x.f3.length c3) = some (Value.slice A3_ x.f3.length c3_) from congrArg (fun l => l[3]?) he)) with ha_ _ _; rw [ha_]; exact g3_)⟩
theorem k31_mkF (W : World) (ok : Nat → Prop) (x : S31) {A3 : Option Addr} {c3 : Nat} (l3 : x.f3.length ≤ c3) (g3 : Kd.F k61 W ok A3 x.f3.length x.f3) : Kd.FK k31 W ok x [.int .i64 x.f0, .string x.f1, .int .i64 x.f2, .slice A3 x.f3.length c3] := fun W2 hW => k31_mk W2 x l3 (g3 W2 hW)
def rd_T31 (xs : List S31) (i : Int) : S31 := xs.getD i.toNat z31
theorem at_T31 {w : World} {A : Option Addr} {n : Nat} {xs : List S31} (h : Kd.C k31 w A n xs) (i : Int) (h0 : 0 ≤ i) (h1 : i < n) : ∃ ad A3 c3, A = some ad ∧ w.cell? (ad.add (i.toNat * 4)) = some (.int .i64 (rd_T31 xs i).f0) ∧ w.cell? ⟨(ad.add (i.toNat * 4)).block, (ad.add (i.toNat * 4)).off + 1, none⟩ = some (.string (rd_T31 xs i).f1) ∧ w.cell? ⟨(ad.add (i.toNat * 4)).block, (ad.add (i.toNat * 4)).off + 2, none⟩ = some (.int .i64 (rd_T31 xs i).f2) ∧ w.cell? ⟨(ad.add (i.toNat * 4)).block, (ad.add (i.toNat * 4)).off + 3, none⟩ = some (.slice A3 (rd_T31 xs i).f3.length c3) ∧ (rd_T31 xs i).f3.length ≤ c3 ∧ k61.C w A3 (rd_T31 xs i).f3.length (rd_T31 xs i).f3 := by
 obtain ⟨ad, c, e, _, hK, hc0⟩ := Kd.C_get h z31 i h0 h1
 have hc : ∀ j u, c[j]? = some u → w.cell? (ad.add (i.toNat * 4 + j)) = some u := hc0
 obtain ⟨A3, c3, rfl, l3, g3⟩ := k31_open hK
 exact ⟨ad, A3, c3, e, hc 0 _ rfl, by rw [← add_field _ _ 1 (by omega)]; exact hc 1 _ rfl, by rw [← add_field _ _ 2 (by omega)]; exact hc 2 _ rfl, by rw [← add_field _ _ 3 (by omega)]; exact hc 3 _ rfl, l3, g3⟩

structure S63 where
 f0 : ByteArray
 f1 : ByteArray
def z63 : S63 := ⟨(⟨#[]⟩ : ByteArray), (⟨#[]⟩ : ByteArray)⟩
def k63 : Kd S63 := Kd.iso (Kd.pair Kd.string Kd.string) (fun x : S63 => (x.f0, x.f1))
theorem k63_open {w : World} {x : S63} {cs : List Value} (h : k63.K w x cs) : cs = [.string x.f0, .string x.f1] := by
 obtain ⟨_, _, rfl, rfl, rfl⟩ := h
 exact rfl
theorem k63_openM {w : World} {base : Nat} {ok : Nat → Prop} {x : S63} {cs : List Value} (h : k63.M w base ok x cs) : cs = [.string x.f0, .string x.f1] := by
 obtain ⟨_, _, rfl, rfl, rfl⟩ := h
 exact rfl
theorem k63_mk (w : World) (x : S63)  : k63.K w x [.string x.f0, .string x.f1] := ⟨[.string x.f0], [.string x.f1], rfl, rfl, rfl⟩
theorem k63_mkM (w : World) (base : Nat) (ok : Nat → Prop) (x : S63)  : k63.M w base ok x [.string x.f0, .string x.f1] := ⟨[.string x.f0], [.string x.f1], rfl, rfl, rfl⟩
theorem k63_mkF (W : World) (ok : Nat → Prop) (x : S63) : Kd.FK k63 W ok x [.string x.f0, .string x.f1] := fun W2 _ => k63_mk W2 x
def rd_T63 (xs : List S63) (i : Int) : S63 := xs.getD i.toNat z63
theorem at_T63 {w : World} {A : Option Addr} {n : Nat} {xs : List S63} (h : Kd.C k63 w A n xs) (i : Int) (h0 : 0 ≤ i) (h1 : i < n) : ∃ ad , A = some ad ∧ w.cell? (ad.add (i.toNat * 2)) = some (.string (rd_T63 xs i).f0) ∧ w.cell? ⟨(ad.add (i.toNat * 2)).block, (ad.add (i.toNat * 2)).off + 1, none⟩ = some (.string (rd_T63 xs i).f1) := by
 obtain ⟨ad, c, e, _, hK, hc0⟩ := Kd.C_get h z63 i h0 h1
 have hc : ∀ j u, c[j]? = some u → w.cell? (ad.add (i.toNat * 2 + j)) = some u := hc0
 obtain rfl := k63_open hK
 exact ⟨ad, e, hc 0 _ rfl, by rw [← add_field _ _ 1 (by omega)]; exact hc 1 _ rfl⟩

end
end Go.Proofs.YtfboejlemnfndaaGreatDoor.XMr
end
section
namespace Go.Proofs.YtfboejlemnfndaaGreatDoor.XMr
open Go.RowKit Go.Proofs.YtfboejlemnfndaaGreatDoorW.PrintWords Go.Proofs.YtfboejlemnfndaaGreatDoorW.PrintLast Go.Proofs.YtfboejlemnfndaaGreatDoorW.PrintMore
attribute [local go_sem] extract_sub max2_int min2_int max_two min_two max_three min_three max_four min_four   -- for this text's walks alone
set_option linter.unusedVariables false
set_option linter.unusedSimpArgs false

noncomputable section
theorem eqA59 (d : Nat) (w : World) (x0 y0 : Int) (x1 y1 : ByteArray) :
 (Op.equalIn (d + 2) 59 (.agg #[.int .u8 x0, .string x1]) (.agg #[.int .u8 y0, .string y1])).run Tryz.prog w = .ok (x0 == y0 && (x1.toList == y1.toList)) w := by
 refine eqA_of Tryz.underlying59 (by kernel_rfl) ?_
 refine eqf_cons (by rfl) (by go_simp; rfl) (by go_simp; rfl) (by go_simp) ?_
 exact eqf_last (by rfl) (by go_simp; rfl) (by go_simp; rfl) (by go_simp)
end
end Go.Proofs.YtfboejlemnfndaaGreatDoor.XMr
end
section
namespace Go.Proofs.YtfboejlemnfndaaGreatDoor.XMr
open Go.RowKit Go.Proofs.YtfboejlemnfndaaGreatDoorW.PrintWords Go.Proofs.YtfboejlemnfndaaGreatDoorW.PrintLast Go.Proofs.YtfboejlemnfndaaGreatDoorW.PrintMore
attribute [local go_sem] extract_sub max2_int min2_int max_two min_two max_three min_three max_four min_four   -- for this text's walks alone
set_option linter.unusedVariables false
set_option linter.unusedSimpArgs false

noncomputable section
attribute [local go_sem high] eqA59
mutual
def tallboyref27_Same.j0 : Nat → Bool → Int → ByteArray → Int → List (S59) → Int → ByteArray → Int → List (S59) → Option (Bool)
 | 0, _, _, _, _, _, _, _, _, _ => none
 | k + 1, x33, x102000, x102001, x102002, x102003, x103000, x103001, x103002, x103003 => if x33 = true then (some false) else (tallboyref27_Same.l0 k 0 x102000 x102001 x102002 x102003 x103000 x103001 x103002 x103003)
def tallboyref27_Same.l0 : Nat → Int → Int → ByteArray → Int → List (S59) → Int → ByteArray → Int → List (S59) → Option (Bool)
 | 0, _, _, _, _, _, _, _, _, _ => none
 | k + 1, x5, x102000, x102001, x102002, x102003, x103000, x103001, x103002, x103003 => if x5 < (x102003.length : Int) then (if 0 ≤ x5 then (if x5 < (x103003.length : Int) then (if (!(((rd_T59 x102003 x5).f0) == ((rd_T59 x103003 x5).f0)) || (!((((rd_T59 x102003 x5).f1).toList) == (((rd_T59 x103003 x5).f1).toList)))) = true then (some false) else (tallboyref27_Same.l0 k (wrap64 (x5 + 1)) x102000 x102001 x102002 x102003 x103000 x103001 x103002 x103003)) else (none)) else (none)) else (some true)
end
def tallboyref27_Same.f (k : Nat) (a0_0 : Int) (a0_1 : ByteArray) (a0_2 : Int) (l0_3 : List (S59)) (a1_0 : Int) (a1_1 : ByteArray) (a1_2 : Int) (l1_3 : List (S59)) : Option (Bool) := if a0_0 = a1_0 then (if a0_1.toList = a1_1.toList then (if a0_2 = a1_2 then (tallboyref27_Same.j0 k ((l0_3.length : Int) != (l1_3.length : Int)) a0_0 a0_1 a0_2 l0_3 a1_0 a1_1 a1_2 l1_3) else (tallboyref27_Same.j0 k true a0_0 a0_1 a0_2 l0_3 a1_0 a1_1 a1_2 l1_3)) else (tallboyref27_Same.j0 k true a0_0 a0_1 a0_2 l0_3 a1_0 a1_1 a1_2 l1_3)) else (tallboyref27_Same.j0 k true a0_0 a0_1 a0_2 l0_3 a1_0 a1_1 a1_2 l1_3)
theorem tallboyref27_Same.mono_l : ∀ k, (∀ y0 y1 y2 y3 y4 y5 y6 y7 y8, LeO (tallboyref27_Same.j0 k y0 y1 y2 y3 y4 y5 y6 y7 y8) (tallboyref27_Same.j0 (k + 1) y0 y1 y2 y3 y4 y5 y6 y7 y8)) ∧ (∀ y0 y1 y2 y3 y4 y5 y6 y7 y8, LeO (tallboyref27_Same.l0 k y0 y1 y2 y3 y4 y5 y6 y7 y8) (tallboyref27_Same.l0 (k + 1) y0 y1 y2 y3 y4 y5 y6 y7 y8))
 | 0 => ⟨fun _ _ _ _ _ _ _ _ _ r h => by simp [tallboyref27_Same.j0] at h, fun _ _ _ _ _ _ _ _ _ r h => by simp [tallboyref27_Same.l0] at h⟩
 | k + 1 => by
  obtain ⟨ih0, ih1⟩ := tallboyref27_Same.mono_l k
  refine ⟨?_, ?_⟩
  all_goals
   intros
   first | unfold tallboyref27_Same.j0 | unfold tallboyref27_Same.l0
   repeat' first
   | (with_reducible exact ih0 _ _ _ _ _ _ _ _ _)
   | (with_reducible exact ih1 _ _ _ _ _ _ _ _ _)
   | (with_reducible exact LeO.refl _)
   | (with_reducible exact LeO.none _)
   | (with_reducible refine LeO.ite ?_ ?_)
   | (with_reducible refine LeO.bind ?_ (fun _ => ?_))
   | exact ih0 _ _ _ _ _ _ _ _ _
   | exact ih1 _ _ _ _ _ _ _ _ _
   | exact LeO.none _
   | refine LeO.ite ?_ ?_
   | refine LeO.bind ?_ (fun _ => ?_)
theorem tallboyref27_Same.mono : ∀ a0 a1 a2 a3 a4 a5 a6 a7 k, LeO (tallboyref27_Same.f k a0 a1 a2 a3 a4 a5 a6 a7) (tallboyref27_Same.f (k + 1) a0 a1 a2 a3 a4 a5 a6 a7) := by
 intro a0 a1 a2 a3 a4 a5 a6 a7 k
 obtain ⟨ih0, ih1⟩ := tallboyref27_Same.mono_l k
 unfold tallboyref27_Same.f
 repeat' first
  | (with_reducible exact ih0 _ _ _ _ _ _ _ _ _)
  | (with_reducible exact ih1 _ _ _ _ _ _ _ _ _)
  | (with_reducible exact LeO.refl _)
  | (with_reducible exact LeO.none _)
  | (with_reducible refine LeO.ite ?_ ?_)
  | (with_reducible refine LeO.bind ?_ (fun _ => ?_))
  | exact ih0 _ _ _ _ _ _ _ _ _
  | exact ih1 _ _ _ _ _ _ _ _ _
  | exact LeO.none _
  | refine LeO.ite ?_ ?_
  | refine LeO.bind ?_ (fun _ => ?_)
set_option maxHeartbeats 8000000 in
set_option maxRecDepth 100000 in
theorem tallboyref27_Same.calls (k : Nat) (a0_0 : Int) (a0_1 : ByteArray) (a0_2 : Int) (A0_3 : Option Addr) (c0_3 : Nat) (l0_3 : List (S59)) (a1_0 : Int) (a1_1 : ByteArray) (a1_2 : Int) (A1_3 : Option Addr) (c1_3 : Nat) (l1_3 : List (S59)) (r : Bool) (w : World) (hr0_3 : Kd.C k59 w A0_3 l0_3.length l0_3) (hc0_3 : l0_3.length ≤ c0_3) (hr1_3 : Kd.C k59 w A1_3 l1_3.length l1_3) (hc1_3 : l1_3.length ≤ c1_3) (h : tallboyref27_Same.f k a0_0 a0_1 a0_2 l0_3 a1_0 a1_1 a1_2 l1_3 = some r) :
 Calls Tryz.prog 19 #[.agg #[.int .i64 a0_0, .string a0_1, .int .i64 a0_2, .slice A0_3 l0_3.length c0_3], .agg #[.int .i64 a1_0, .string a1_1, .int .i64 a1_2, .slice A1_3 l1_3.length c1_3]] w fun e w' => e = .returned (.bool r) ∧ Below w.heap.size w w' := by
 have hu24 := Tryz.underlying24
 have hu59 := Tryz.underlying59
 have HR0_3 := Aside0.mk hr0_3
 have HC0_3 := Aside0.mk hc0_3
 clear hr0_3 hc0_3
 have HR1_3 := Aside0.mk hr1_3
 have HC1_3 := Aside0.mk hc1_3
 clear hr1_3 hc1_3
 have HB := Aside0.mk (Below.refl w.heap.size w)
 have H : (if a0_0 = a1_0 then (if a0_1.toList = a1_1.toList then (if a0_2 = a1_2 then (tallboyref27_Same.j0 k ((l0_3.length : Int) != (l1_3.length : Int)) a0_0 a0_1 a0_2 l0_3 a1_0 a1_1 a1_2 l1_3) else (tallboyref27_Same.j0 k true a0_0 a0_1 a0_2 l0_3 a1_0 a1_1 a1_2 l1_3)) else (tallboyref27_Same.j0 k true a0_0 a0_1 a0_2 l0_3 a1_0 a1_1 a1_2 l1_3)) else (tallboyref27_Same.j0 k true a0_0 a0_1 a0_2 l0_3 a1_0 a1_1 a1_2 l1_3)) = some r := h
 clear h
 have HC3 := Aside0.mk H
 clear H
 go_enter Tryz.func19, Tryz.ntmps19
 go_upto_region 1 with (first | ((with_reducible refine gate_dst (N := 2) rfl ?_); (try (refine gate_guard (by rfl) ?_; dsimp only)); refine box_event ?hg (N := 2) ?hd (cs := #[.int .i64 a0_0, .string a0_1, .int .i64 a0_2, .slice A0_3 l0_3.length c0_3]) (t := 24) ?hr ?_; (case hd => rfl); (case hg => rfl); (case hr => first | (go_simp; done) | (go_simp; rfl)); intro gb101 hg w4 hbox hb; have n0_ := Aside0.mk (below_step (hbA HB.out) hb); have n1_ := Aside0.mk (hbox); have n2_ := Aside0.mk ((by rw [hg]; exact (below_size (hbA HB.out)) : w.heap.size ≤ gb101)); have n3_ := Aside0.mk ((by rw [hg]; exact (below_size (hbA HB.out)) : w.heap.size ≤ gb101)); clear HB; have HB := n0_; have BK101 := n1_; have GW101 := n2_; have GE101 := n3_; clear n0_ n1_ n2_ n3_; clear hb hbox hg) | ((with_reducible refine gate_dst (N := 3) rfl ?_); (try (refine gate_guard (by rfl) ?_; dsimp only)); refine box_event ?hg (N := 3) ?hd (cs := #[.int .i64 a1_0, .string a1_1, .int .i64 a1_2, .slice A1_3 l1_3.length c1_3]) (t := 24) ?hr ?_; (case hd => rfl); (case hg => rfl); (case hr => first | (go_simp; done) | (go_simp; rfl)); intro gb102 hg w5 hbox hb; have n0_ := Aside0.mk (blk_below (g := gb101) (o := .cells #[.int .i64 a0_0, .string a0_1, .int .i64 a0_2, .slice A0_3 l0_3.length c0_3] 24 (0, 0)) (rbA BK101.out) hb); have n1_ := Aside0.mk (below_step (hbA HB.out) hb); have n2_ := Aside0.mk (hbox); have n3_ := Aside0.mk ((by rw [hg]; exact (below_size (hbA HB.out)) : w.heap.size ≤ gb102)); have n4_ := Aside0.mk ((by rw [hg]; exact (below_size (hbA HB.out)) : w.heap.size ≤ gb102)); have n5_ := Aside0.mk ((by rw [hg]; exact Nat.ne_of_lt (blk_lt (g := gb101) (o := .cells #[.int .i64 a0_0, .string a0_1, .int .i64 a0_2, .slice A0_3 l0_3.length c0_3] 24 (0, 0)) (rbA BK101.out)) : gb101 ≠ gb102)); have n6_ := Aside0.mk ((by rw [hg]; exact Nat.ne_of_gt (blk_lt (g := gb101) (o := .cells #[.int .i64 a0_0, .string a0_1, .int .i64 a0_2, .slice A0_3 l0_3.length c0_3] 24 (0, 0)) (rbA BK101.out)) : gb102 ≠ gb101)); clear BK101; clear HB; have BK101 := n0_; have HB := n1_; have BK102 := n2_; have GW102 := n3_; have GE102 := n4_; have NB101_102 := n5_; have NB102_101 := n6_; clear n0_ n1_ n2_ n3_ n4_ n5_ n6_; clear hb hbox hg))
 repeat (go_quiet (first | ((with_reducible refine gate_dst (N := 2) rfl ?_); (try (refine gate_guard (by rfl) ?_; dsimp only)); refine box_event ?hg (N := 2) ?hd (cs := #[.int .i64 a0_0, .string a0_1, .int .i64 a0_2, .slice A0_3 l0_3.length c0_3]) (t := 24) ?hr ?_; (case hd => rfl); (case hg => rfl); (case hr => first | (go_simp; done) | (go_simp; rfl)); intro gb101 hg w4 hbox hb; have n0_ := Aside0.mk (below_step (hbA HB.out) hb); have n1_ := Aside0.mk (hbox); have n2_ := Aside0.mk ((by rw [hg]; exact (below_size (hbA HB.out)) : w.heap.size ≤ gb101)); have n3_ := Aside0.mk ((by rw [hg]; exact (below_size (hbA HB.out)) : w.heap.size ≤ gb101)); clear HB; have HB := n0_; have BK101 := n1_; have GW101 := n2_; have GE101 := n3_; clear n0_ n1_ n2_ n3_; clear hb hbox hg) | ((with_reducible refine gate_dst (N := 3) rfl ?_); (try (refine gate_guard (by rfl) ?_; dsimp only)); refine box_event ?hg (N := 3) ?hd (cs := #[.int .i64 a1_0, .string a1_1, .int .i64 a1_2, .slice A1_3 l1_3.length c1_3]) (t := 24) ?hr ?_; (case hd => rfl); (case hg => rfl); (case hr => first | (go_simp; done) | (go_simp; rfl)); intro gb102 hg w5 hbox hb; have n0_ := Aside0.mk (blk_below (g := gb101) (o := .cells #[.int .i64 a0_0, .string a0_1, .int .i64 a0_2, .slice A0_3 l0_3.length c0_3] 24 (0, 0)) (rbA BK101.out) hb); have n1_ := Aside0.mk (below_step (hbA HB.out) hb); have n2_ := Aside0.mk (hbox); have n3_ := Aside0.mk ((by rw [hg]; exact (below_size (hbA HB.out)) : w.heap.size ≤ gb102)); have n4_ := Aside0.mk ((by rw [hg]; exact (below_size (hbA HB.out)) : w.heap.size ≤ gb102)); have n5_ := Aside0.mk ((by rw [hg]; exact Nat.ne_of_lt (blk_lt (g := gb101) (o := .cells #[.int .i64 a0_0, .string a0_1, .int .i64 a0_2, .slice A0_3 l0_3.length c0_3] 24 (0, 0)) (rbA BK101.out)) : gb101 ≠ gb102)); have n6_ := Aside0.mk ((by rw [hg]; exact Nat.ne_of_gt (blk_lt (g := gb101) (o := .cells #[.int .i64 a0_0, .string a0_1, .int .i64 a0_2, .slice A0_3 l0_3.length c0_3] 24 (0, 0)) (rbA BK101.out)) : gb102 ≠ gb101)); clear BK101; clear HB; have BK101 := n0_; have HB := n1_; have BK102 := n2_; have GW102 := n3_; have GE102 := n4_; have NB101_102 := n5_; have NB102_101 := n6_; clear n0_ n1_ n2_ n3_ n4_ n5_ n6_; clear hb hbox hg)); go_upto_region 1 with (first | ((with_reducible refine gate_dst (N := 2) rfl ?_); (try (refine gate_guard (by rfl) ?_; dsimp only)); refine box_event ?hg (N := 2) ?hd (cs := #[.int .i64 a0_0, .string a0_1, .int .i64 a0_2, .slice A0_3 l0_3.length c0_3]) (t := 24) ?hr ?_; (case hd => rfl); (case hg => rfl); (case hr => first | (go_simp; done) | (go_simp; rfl)); intro gb101 hg w4 hbox hb; have n0_ := Aside0.mk (below_step (hbA HB.out) hb); have n1_ := Aside0.mk (hbox); have n2_ := Aside0.mk ((by rw [hg]; exact (below_size (hbA HB.out)) : w.heap.size ≤ gb101)); have n3_ := Aside0.mk ((by rw [hg]; exact (below_size (hbA HB.out)) : w.heap.size ≤ gb101)); clear HB; have HB := n0_; have BK101 := n1_; have GW101 := n2_; have GE101 := n3_; clear n0_ n1_ n2_ n3_; clear hb hbox hg) | ((with_reducible refine gate_dst (N := 3) rfl ?_); (try (refine gate_guard (by rfl) ?_; dsimp only)); refine box_event ?hg (N := 3) ?hd (cs := #[.int .i64 a1_0, .string a1_1, .int .i64 a1_2, .slice A1_3 l1_3.length c1_3]) (t := 24) ?hr ?_; (case hd => rfl); (case hg => rfl); (case hr => first | (go_simp; done) | (go_simp; rfl)); intro gb102 hg w5 hbox hb; have n0_ := Aside0.mk (blk_below (g := gb101) (o := .cells #[.int .i64 a0_0, .string a0_1, .int .i64 a0_2, .slice A0_3 l0_3.length c0_3] 24 (0, 0)) (rbA BK101.out) hb); have n1_ := Aside0.mk (below_step (hbA HB.out) hb); have n2_ := Aside0.mk (hbox); have n3_ := Aside0.mk ((by rw [hg]; exact (below_size (hbA HB.out)) : w.heap.size ≤ gb102)); have n4_ := Aside0.mk ((by rw [hg]; exact (below_size (hbA HB.out)) : w.heap.size ≤ gb102)); have n5_ := Aside0.mk ((by rw [hg]; exact Nat.ne_of_lt (blk_lt (g := gb101) (o := .cells #[.int .i64 a0_0, .string a0_1, .int .i64 a0_2, .slice A0_3 l0_3.length c0_3] 24 (0, 0)) (rbA BK101.out)) : gb101 ≠ gb102)); have n6_ := Aside0.mk ((by rw [hg]; exact Nat.ne_of_gt (blk_lt (g := gb101) (o := .cells #[.int .i64 a0_0, .string a0_1, .int .i64 a0_2, .slice A0_3 l0_3.length c0_3] 24 (0, 0)) (rbA BK101.out)) : gb102 ≠ gb101)); clear BK101; clear HB; have BK101 := n0_; have HB := n1_; have BK102 := n2_; have GW102 := n3_; have GE102 := n4_; have NB101_102 := n5_; have NB102_101 := n6_; clear n0_ n1_ n2_ n3_ n4_ n5_ n6_; clear hb hbox hg)))
 (try simp only [Act.put, List.setIfInBounds_toArray, List.set_cons_zero, List.set_cons_succ])
 go_cut [33] (fun v33 wc => ∃ (kq : Nat) (x33_2 : Bool), v33 = .bool x33_2 ∧ Aside0 (tallboyref27_Same.j0 kq x33_2 a0_0 a0_1 a0_2 l0_3 a1_0 a1_1 a1_2 l1_3 = some r) ∧ Aside0 (kq ≤ k) ∧ Aside0 (wc.heap[gb101]? = some (.cells #[.int .i64 a0_0, .string a0_1, .int .i64 a0_2, (.slice A0_3 l0_3.length c0_3)] 24 (0, 0))) ∧ Aside0 (wc.heap[gb102]? = some (.cells #[.int .i64 a1_0, .string a1_1, .int .i64 a1_2, (.slice A1_3 l1_3.length c1_3)] 24 (0, 0))) ∧ Aside0 (Below w.heap.size w wc))
 case first =>
  have H := HC3.out
  clear HC3
  by_cases c6 : a0_0 = a1_0
  · rw [if_pos c6] at H
    have c6b0 : (a0_0 == a1_0) = true := beq_iff_eq.mpr c6
    have c6b1 : (a0_0 != a1_0) = false := bne_eq_false_iff_eq.mpr c6
    clear c6
    (first | rw [c6b0] | (simp only [i64_w, i32_w]; rw [c6b0]) | skip)
    by_cases c7 : a0_1.toList = a1_1.toList
    · rw [if_pos c7] at H
      have c7b0 : (a0_1.toList == a1_1.toList) = true := beq_iff_eq.mpr c7
      have c7b1 : (a0_1.toList != a1_1.toList) = false := bne_eq_false_iff_eq.mpr c7
      clear c7
      by_cases c8 : a0_2 = a1_2
      · rw [if_pos c8] at H
        have c8b0 : (a0_2 == a1_2) = true := beq_iff_eq.mpr c8
        have c8b1 : (a0_2 != a1_2) = false := bne_eq_false_iff_eq.mpr c8
        clear c8
        have H' := Aside0.mk H
        clear H
        have hnb9 := NB101_102.out
        have hnc9 := NB102_101.out
        obtain ⟨hcz10_0, hcz10_1, hcz10_2, hcz10_3, hfz10_0, hfz10_1, hfz10_2, hfz10_3⟩ := blkA4 BK101.out
        obtain ⟨hcz11_0, hcz11_1, hcz11_2, hcz11_3, hfz11_0, hfz11_1, hfz11_2, hfz11_3⟩ := blkA4 BK102.out
        go_wp2
        repeat (go_quiet (fail); try go_wp2)
        go_meet
        case rel => exact ⟨_, (((l0_3.length : Int) != (l1_3.length : Int))), rsA, H', ⟨by first | omega | exact Nat.le_refl _⟩, ⟨rbA BK101.out⟩, ⟨rbA BK102.out⟩, ⟨hbA HB.out⟩⟩
      rw [if_neg c8] at H
      have c8b0 : (a0_2 == a1_2) = false := beq_eq_false_iff_ne.mpr c8
      have c8b1 : (a0_2 != a1_2) = true := bne_iff_ne.mpr c8
      have H' := Aside0.mk H
      clear H
      have hnb12 := NB101_102.out
      have hnc12 := NB102_101.out
      obtain ⟨hcz13_0, hcz13_1, hcz13_2, hcz13_3, hfz13_0, hfz13_1, hfz13_2, hfz13_3⟩ := blkA4 BK101.out
      obtain ⟨hcz14_0, hcz14_1, hcz14_2, hcz14_3, hfz14_0, hfz14_1, hfz14_2, hfz14_3⟩ := blkA4 BK102.out
      go_wp2
      repeat (go_quiet (fail); try go_wp2)
      go_meet
      case rel => exact ⟨_, (true), rsA, H', ⟨by first | omega | exact Nat.le_refl _⟩, ⟨rbA BK101.out⟩, ⟨rbA BK102.out⟩, ⟨hbA HB.out⟩⟩
    rw [if_neg c7] at H
    have c7b0 : (a0_1.toList == a1_1.toList) = false := beq_eq_false_iff_ne.mpr c7
    have c7b1 : (a0_1.toList != a1_1.toList) = true := bne_iff_ne.mpr c7
    have H' := Aside0.mk H
    clear H
    have hnb15 := NB101_102.out
    have hnc15 := NB102_101.out
    obtain ⟨hcz16_0, hcz16_1, hcz16_2, hcz16_3, hfz16_0, hfz16_1, hfz16_2, hfz16_3⟩ := blkA4 BK101.out
    obtain ⟨hcz17_0, hcz17_1, hcz17_2, hcz17_3, hfz17_0, hfz17_1, hfz17_2, hfz17_3⟩ := blkA4 BK102.out
    go_wp2
    repeat (go_quiet (fail); try go_wp2)
    go_meet
    case rel => exact ⟨_, (true), rsA, H', ⟨by first | omega | exact Nat.le_refl _⟩, ⟨rbA BK101.out⟩, ⟨rbA BK102.out⟩, ⟨hbA HB.out⟩⟩
  rw [if_neg c6] at H
  have c6b0 : (a0_0 == a1_0) = false := beq_eq_false_iff_ne.mpr c6
  have c6b1 : (a0_0 != a1_0) = true := bne_iff_ne.mpr c6
  (first | rw [c6b0] | (simp only [i64_w, i32_w]; rw [c6b0]) | skip)
  have H' := Aside0.mk H
  clear H
  have hnb18 := NB101_102.out
  have hnc18 := NB102_101.out
  obtain ⟨hcz19_0, hcz19_1, hcz19_2, hcz19_3, hfz19_0, hfz19_1, hfz19_2, hfz19_3⟩ := blkA4 BK101.out
  obtain ⟨hcz20_0, hcz20_1, hcz20_2, hcz20_3, hfz20_0, hfz20_1, hfz20_2, hfz20_3⟩ := blkA4 BK102.out
  go_wp2
  repeat (go_quiet (fail); try go_wp2)
  go_meet
  case rel => exact ⟨_, (true), rsA, H', ⟨by first | omega | exact Nat.le_refl _⟩, ⟨rbA BK101.out⟩, ⟨rbA BK102.out⟩, ⟨hbA HB.out⟩⟩
 clear HC3
 (try clear c1); (try clear p2); (try clear c6); (try clear c6b0); (try clear c6b1); (try clear c7); (try clear c7b0); (try clear c7b1); (try clear c8); (try clear c8b0); (try clear c8b1); (try clear c9); (try clear c12); (try clear c15); (try clear c18); (try clear c19); (try clear hcz10_0 hcz10_1 hcz10_2 hcz10_3); (try clear hcz11_0 hcz11_1 hcz11_2 hcz11_3); (try clear hcz13_0 hcz13_1 hcz13_2 hcz13_3); (try clear hcz14_0 hcz14_1 hcz14_2 hcz14_3); (try clear hcz16_0 hcz16_1 hcz16_2 hcz16_3); (try clear hcz17_0 hcz17_1 hcz17_2 hcz17_3); (try clear hcz19_0 hcz19_1 hcz19_2 hcz19_3); (try clear hcz20_0 hcz20_1 hcz20_2 hcz20_3); (try clear hfz10_0 hfz10_1 hfz10_2 hfz10_3); (try clear hfz11_0 hfz11_1 hfz11_2 hfz11_3); (try clear hfz13_0 hfz13_1 hfz13_2 hfz13_3); (try clear hfz14_0 hfz14_1 hfz14_2 hfz14_3); (try clear hfz16_0 hfz16_1 hfz16_2 hfz16_3); (try clear hfz17_0 hfz17_1 hfz17_2 hfz17_3); (try clear hfz19_0 hfz19_1 hfz19_2 hfz19_3); (try clear hfz20_0 hfz20_1 hfz20_2 hfz20_3)
 obtain ⟨kq, x33_2, rfl, HA, HJ2, BK101, BK102, HB⟩ := hcut
 cases kq with
 | zero => exact absurd HA.out (by simp [tallboyref27_Same.j0])
 | succ kj2 =>
  have H := HA.out
  clear HA
  simp only [tallboyref27_Same.j0] at H
  by_cases c21 : x33_2 = true
  · subst c21
    have H1 : (some false) = some r := by rw [if_pos rfl] at H; exact H
    clear H
    have H := H1
    clear H1
    obtain rfl := Option.some.inj H
    go_wp2
    repeat (go_quiet (fail); try go_wp2)
    go_ret
    exact ⟨reA, hbA HB.out⟩
  replace c21 := Bool.eq_false_iff.mpr c21
  subst c21
  have H1 : (tallboyref27_Same.l0 kj2 0 a0_0 a0_1 a0_2 l0_3 a1_0 a1_1 a1_2 l1_3) = some r := by rw [if_neg (show ¬ (false = true) by decide)] at H; exact H
  clear H
  have H := H1
  clear H1
  have H' := Aside0.mk H
  clear H
  go_wp2
  repeat (go_quiet (fail); try go_wp2)
  go_loopg [5] kj2 (fun kq v5 w' => ∃ (x5_2 : Int), v5 = .int .i64 x5_2 ∧ Aside0 (tallboyref27_Same.l0 kq x5_2 a0_0 a0_1 a0_2 l0_3 a1_0 a1_1 a1_2 l1_3 = some r) ∧ Aside0 (kq ≤ kj2) ∧ Aside0 (w'.heap[gb101]? = some (.cells #[.int .i64 a0_0, .string a0_1, .int .i64 a0_2, (.slice A0_3 l0_3.length c0_3)] 24 (0, 0))) ∧ Aside0 (w'.heap[gb102]? = some (.cells #[.int .i64 a1_0, .string a1_1, .int .i64 a1_2, (.slice A1_3 l1_3.length c1_3)] 24 (0, 0))) ∧ Aside0 (Below w.heap.size w w'))
  case atStart => exact ⟨(0), rsA, H', ⟨Nat.le_refl _⟩, ⟨rbA BK101.out⟩, ⟨rbA BK102.out⟩, ⟨hbA HB.out⟩⟩
  case round =>
   clear H'
   (try clear c1); (try clear c2); (try clear p2); (try clear c6); (try clear c6b0); (try clear c6b1); (try clear c7); (try clear c7b0); (try clear c7b1); (try clear c8); (try clear c8b0); (try clear c8b1); (try clear c9); (try clear c12); (try clear c15); (try clear c18); (try clear c19); (try clear c21); (try clear hcz10_0 hcz10_1 hcz10_2 hcz10_3); (try clear hcz11_0 hcz11_1 hcz11_2 hcz11_3); (try clear hcz13_0 hcz13_1 hcz13_2 hcz13_3); (try clear hcz14_0 hcz14_1 hcz14_2 hcz14_3); (try clear hcz16_0 hcz16_1 hcz16_2 hcz16_3); (try clear hcz17_0 hcz17_1 hcz17_2 hcz17_3); (try clear hcz19_0 hcz19_1 hcz19_2 hcz19_3); (try clear hcz20_0 hcz20_1 hcz20_2 hcz20_3); (try clear hfz10_0 hfz10_1 hfz10_2 hfz10_3); (try clear hfz11_0 hfz11_1 hfz11_2 hfz11_3); (try clear hfz13_0 hfz13_1 hfz13_2 hfz13_3); (try clear hfz14_0 hfz14_1 hfz14_2 hfz14_3); (try clear hfz16_0 hfz16_1 hfz16_2 hfz16_3); (try clear hfz17_0 hfz17_1 hfz17_2 hfz17_3); (try clear hfz19_0 hfz19_1 hfz19_2 hfz19_3); (try clear hfz20_0 hfz20_1 hfz20_2 hfz20_3); (try clear p2)
   obtain ⟨x5_2, rfl, HA, HK2, BK101, BK102, HB⟩ := hrel
   cases gk with
   | zero => exact absurd HA.out (by simp [tallboyref27_Same.l0])
   | succ k2 =>
    have H := HA.out
    clear HA
    simp only [tallboyref27_Same.l0] at H
    by_cases c22 : x5_2 < (l0_3.length : Int)
    · rw [if_pos c22] at H
      have c22b0 : decide (x5_2 < (l0_3.length : Int)) = true := decide_eq_true c22
      clear c22
      by_cases c23 : 0 ≤ x5_2
      · rw [if_pos c23] at H
        have c23b0 : decide (0 ≤ x5_2) = true := decide_eq_true c23
        clear c23
        by_cases c24 : x5_2 < (l1_3.length : Int)
        · rw [if_pos c24] at H
          have c24b0 : decide (x5_2 < (l1_3.length : Int)) = true := decide_eq_true c24
          clear c24
          by_cases c25 : (!(((rd_T59 l0_3 x5_2).f0) == ((rd_T59 l1_3 x5_2).f0)) || (!((((rd_T59 l0_3 x5_2).f1).toList) == (((rd_T59 l1_3 x5_2).f1).toList)))) = true
          · rw [if_pos c25] at H
            have c25b0 : (!(((rd_T59 l0_3 x5_2).f0) == ((rd_T59 l1_3 x5_2).f0)) || (!((((rd_T59 l0_3 x5_2).f1).toList) == (((rd_T59 l1_3 x5_2).f1).toList)))) = true := c25
            clear c25
            obtain rfl := Option.some.inj H
            have hnb26 := NB101_102.out
            have hnc26 := NB102_101.out
            obtain ⟨hcz27_0, hcz27_1, hcz27_2, hcz27_3, hfz27_0, hfz27_1, hfz27_2, hfz27_3⟩ := blkA4 BK101.out
            have p103 : 0 ≤ (x5_2 : Int) := of_decide_eq_true asA
            have q103 : x5_2 < (l0_3.length : Int) := of_decide_eq_true asA
            obtain ⟨ad103, e103, hx103_0, hx103_1⟩ := at_T59 HR0_3.out x5_2 p103 q103
            cases e103
            replace hx103_0 := (HB.out.cell (World.block_lt_of_cell? w _ hx103_0)).trans hx103_0
            replace hx103_1 := (HB.out.cell (World.block_lt_of_cell? w _ hx103_1)).trans hx103_1
            replace p103 := eq_true p103
            replace q103 := eq_true q103
            obtain ⟨hcz28_0, hcz28_1, hcz28_2, hcz28_3, hfz28_0, hfz28_1, hfz28_2, hfz28_3⟩ := blkA4 BK102.out
            have p104 : 0 ≤ (x5_2 : Int) := of_decide_eq_true asA
            have q104 : x5_2 < (l1_3.length : Int) := of_decide_eq_true asA
            obtain ⟨ad104, e104, hx104_0, hx104_1⟩ := at_T59 HR1_3.out x5_2 p104 q104
            cases e104
            replace hx104_0 := (HB.out.cell (World.block_lt_of_cell? w _ hx104_0)).trans hx104_0
            replace hx104_1 := (HB.out.cell (World.block_lt_of_cell? w _ hx104_1)).trans hx104_1
            replace p104 := eq_true p104
            replace q104 := eq_true q104
            go_wp2
            repeat (go_quiet (fail); try go_wp2)
            go_ret
            exact ⟨reA, hbA HB.out⟩
          rw [if_neg c25] at H
          have c25b0 : (!(((rd_T59 l0_3 x5_2).f0) == ((rd_T59 l1_3 x5_2).f0)) || (!((((rd_T59 l0_3 x5_2).f1).toList) == (((rd_T59 l1_3 x5_2).f1).toList)))) = false := by simpa using c25
          clear c25
          have H' := Aside0.mk H
          clear H
          have hnb29 := NB101_102.out
          have hnc29 := NB102_101.out
          obtain ⟨hcz30_0, hcz30_1, hcz30_2, hcz30_3, hfz30_0, hfz30_1, hfz30_2, hfz30_3⟩ := blkA4 BK101.out
          have p103 : 0 ≤ (x5_2 : Int) := of_decide_eq_true asA
          have q103 : x5_2 < (l0_3.length : Int) := of_decide_eq_true asA
          obtain ⟨ad103, e103, hx103_0, hx103_1⟩ := at_T59 HR0_3.out x5_2 p103 q103
          cases e103
          replace hx103_0 := (HB.out.cell (World.block_lt_of_cell? w _ hx103_0)).trans hx103_0
          replace hx103_1 := (HB.out.cell (World.block_lt_of_cell? w _ hx103_1)).trans hx103_1
          replace p103 := eq_true p103
          replace q103 := eq_true q103
          obtain ⟨hcz31_0, hcz31_1, hcz31_2, hcz31_3, hfz31_0, hfz31_1, hfz31_2, hfz31_3⟩ := blkA4 BK102.out
          have p104 : 0 ≤ (x5_2 : Int) := of_decide_eq_true asA
          have q104 : x5_2 < (l1_3.length : Int) := of_decide_eq_true asA
          obtain ⟨ad104, e104, hx104_0, hx104_1⟩ := at_T59 HR1_3.out x5_2 p104 q104
          cases e104
          replace hx104_0 := (HB.out.cell (World.block_lt_of_cell? w _ hx104_0)).trans hx104_0
          replace hx104_1 := (HB.out.cell (World.block_lt_of_cell? w _ hx104_1)).trans hx104_1
          replace p104 := eq_true p104
          replace q104 := eq_true q104
          go_wp2
          repeat (go_quiet (fail); try go_wp2)
          go_roundg k2
          case measure => have := HJ2.out; have := HK2.out; omega
          case rel => exact ⟨(wrap64 (x5_2 + 1)), rsA, H', ⟨by have := HJ2.out; have := HK2.out; omega⟩, ⟨rbA BK101.out⟩, ⟨rbA BK102.out⟩, ⟨hbA HB.out⟩⟩
        rw [if_neg c24] at H
        exact absurd H (by simp)
      rw [if_neg c23] at H
      exact absurd H (by simp)
    rw [if_neg c22] at H
    have c22b0 : decide (x5_2 < (l0_3.length : Int)) = false := decide_eq_false c22
    clear c22
    obtain rfl := Option.some.inj H
    have hnb32 := NB101_102.out
    have hnc32 := NB102_101.out
    obtain ⟨hcz33_0, hcz33_1, hcz33_2, hcz33_3, hfz33_0, hfz33_1, hfz33_2, hfz33_3⟩ := blkA4 BK101.out
    go_wp2
    repeat (go_quiet (fail); try go_wp2)
    go_ret
    exact ⟨reA, hbA HB.out⟩

end
end Go.Proofs.YtfboejlemnfndaaGreatDoor.XMr
end
section
namespace Go.Proofs.YtfboejlemnfndaaGreatDoor.XMr
open Go.RowKit Go.Proofs.YtfboejlemnfndaaGreatDoorW.PrintWords Go.Proofs.YtfboejlemnfndaaGreatDoorW.PrintLast Go.Proofs.YtfboejlemnfndaaGreatDoorW.PrintMore
attribute [local go_sem] extract_sub max2_int min2_int max_two min_two max_three min_three max_four min_four   -- for this text's walks alone
set_option linter.unusedVariables false
set_option linter.unusedSimpArgs false

noncomputable section
def tallboylaw27_From.l0 : Nat → Int → Int → ByteArray → Int → List (S61) → Int → ByteArray → Int → List (S59) → Option (Int × ByteArray × Int × (List (S59)))
 | 0, _, _, _, _, _, _, _, _, _ => none
 | k + 1, x4, x106000, x106001, x106002, x106003, x108000, x108001, x108002, x108003 => if x4 < (x106003.length : Int) then (if 0 ≤ x4 then (if x108003.length < 5864062014805 then (tallboylaw27_From.l0 k (wrap64 (x4 + 1)) x106000 x106001 x106002 x106003 x108000 x108001 x108002 (x108003 ++ [(⟨(rd_T61 x106003 x4).f0, (rd_T61 x106003 x4).f1⟩ : S59)])) else (none)) else (none)) else (some (x108000, x108001, x108002, x108003))
def tallboylaw27_From.f (k : Nat) (a0_0 : Int) (a0_1 : ByteArray) (a0_2 : Int) (l0_3 : List (S61)) : Option (Int × ByteArray × Int × (List (S59))) := tallboylaw27_From.l0 k 0 a0_0 a0_1 a0_2 l0_3 a0_0 a0_1 a0_2 ([] : List (S59))
theorem tallboylaw27_From.mono_l : ∀ k, (∀ y0 y1 y2 y3 y4 y5 y6 y7 y8, LeO (tallboylaw27_From.l0 k y0 y1 y2 y3 y4 y5 y6 y7 y8) (tallboylaw27_From.l0 (k + 1) y0 y1 y2 y3 y4 y5 y6 y7 y8))
 | 0 => fun _ _ _ _ _ _ _ _ _ r h => by simp [tallboylaw27_From.l0] at h
 | k + 1 => by
  have ih0 := tallboylaw27_From.mono_l k
  · intro y0 y1 y2 y3 y4 y5 y6 y7 y8
    unfold tallboylaw27_From.l0
    repeat' first
    | (with_reducible exact ih0 _ _ _ _ _ _ _ _ _)
    | (with_reducible exact LeO.refl _)
    | (with_reducible exact LeO.none _)
    | (with_reducible refine LeO.ite ?_ ?_)
    | (with_reducible refine LeO.bind ?_ (fun _ => ?_))
    | exact ih0 _ _ _ _ _ _ _ _ _
    | exact LeO.none _
    | refine LeO.ite ?_ ?_
    | refine LeO.bind ?_ (fun _ => ?_)
theorem tallboylaw27_From.mono : ∀ a0 a1 a2 a3 k, LeO (tallboylaw27_From.f k a0 a1 a2 a3) (tallboylaw27_From.f (k + 1) a0 a1 a2 a3) := by
 intro a0 a1 a2 a3 k
 have ih0 := tallboylaw27_From.mono_l k
 unfold tallboylaw27_From.f
 repeat' first
  | (with_reducible exact ih0 _ _ _ _ _ _ _ _ _)
  | (with_reducible exact LeO.refl _)
  | (with_reducible exact LeO.none _)
  | (with_reducible refine LeO.ite ?_ ?_)
  | (with_reducible refine LeO.bind ?_ (fun _ => ?_))
  | exact ih0 _ _ _ _ _ _ _ _ _
  | exact LeO.none _
  | refine LeO.ite ?_ ?_
  | refine LeO.bind ?_ (fun _ => ?_)
def tallboylaw27_From.T5 : Bool × List (List Nat × List Nat) := (true, [([], []), ([0], [0]), ([], []), ([2], [2]), ([], []), ([3, 4], [3, 4]), ([5], [5]), ([6], [6]), ([], []), ([8], [8]), ([], []), ([9, 10], [9, 10]), ([11], [11]), ([12], [12]), ([7, 13], [7, 13]), ([14], [14]), ([1, 15], [1, 15]), ([0, 1, 2, 3, 4, 5, 6, 7, 8, 9, 10, 11, 12, 13, 14, 15, 16], []), ([17, 16, 16, 0, 1, 2, 3, 4, 5, 6, 7, 8, 9, 10, 11, 12, 13, 14, 15, 16], [16, 17])])
def tallboylaw27_From.B5 : List Nat := [0, 1, 0, 4, 0, 28, 60, 124, 0, 256, 0, 1792, 3840, 7936, 16380, 32764, 65535, 131071, 262143]
theorem tallboylaw27_From.tab5 : rtab .any (opsOf Tryz.f20 5) = tallboylaw27_From.T5 := by kernel_rfl
theorem tallboylaw27_From.bits5 : waitsOk tallboylaw27_From.T5.2 tallboylaw27_From.B5 = true := by kernel_rfl
set_option maxHeartbeats 8000000 in
set_option maxRecDepth 100000 in
theorem tallboylaw27_From.calls (k : Nat) (a0_0 : Int) (a0_1 : ByteArray) (a0_2 : Int) (A0_3 : Option Addr) (c0_3 : Nat) (l0_3 : List (S61)) (r1 : Int) (r2 : ByteArray) (r3 : Int) (r4 : List (S59)) (w : World) (hr0_3 : Kd.C k61 w A0_3 l0_3.length l0_3) (hc0_3 : l0_3.length ≤ c0_3) (h : tallboylaw27_From.f k a0_0 a0_1 a0_2 l0_3 = some (r1, r2, r3, r4)) :
 Calls Tryz.prog 20 #[.agg #[.int .i64 a0_0, .string a0_1, .int .i64 a0_2, .slice A0_3 l0_3.length c0_3]] w fun e w' => ∃ v3_ : Value, e = .returned (.agg #[.int .i64 r1, .string r2, .int .i64 r3, v3_]) ∧ Kd.R k59 59 w' w.heap.size (fun _ => True) v3_ r4 ∧ Below w.heap.size w w' := by
 have hu31 := Tryz.underlying31
 have hu24 := Tryz.underlying24
 have hu59 := Tryz.underlying59
 have HR0_3 := Aside0.mk hr0_3
 have HC0_3 := Aside0.mk hc0_3
 clear hr0_3 hc0_3
 have HB := Aside0.mk (Below.refl w.heap.size w)
 have H : (tallboylaw27_From.l0 k 0 a0_0 a0_1 a0_2 l0_3 a0_0 a0_1 a0_2 ([] : List (S59))) = some (r1, r2, r3, r4) := h
 clear h
 have H' := Aside0.mk H
 clear H
 go_enter Tryz.func20, Tryz.ntmps20
 go_wp2_with (first | ((with_reducible refine gate_dst (N := 1) rfl ?_); refine box_event ?hg (N := 1) ?hd (cs := #[.int .i64 a0_0, .string a0_1, .int .i64 a0_2, .slice A0_3 l0_3.length c0_3]) (t := 31) ?hr ?_; (case hd => rfl); (case hg => rfl); (case hr => first | (go_simp; done) | (go_simp; rfl)); intro gb105 hg w2 hbox hb; have n0_ := Aside0.mk (below_step (hbA HB.out) hb); have n1_ := Aside0.mk (hbox); have n2_ := Aside0.mk ((by rw [hg]; exact (below_size (hbA HB.out)) : w.heap.size ≤ gb105)); have n3_ := Aside0.mk ((by rw [hg]; exact (below_size (hbA HB.out)) : w.heap.size ≤ gb105)); clear HB; have HB := n0_; have BK105 := n1_; have GW105 := n2_; have GE105 := n3_; clear n0_ n1_ n2_ n3_; clear hb hbox hg) | ((with_reducible refine gate_dst (N := 2) rfl ?_); refine box_event ?hg (N := 2) ?hd (cs := #[.int .i64 0, .string (⟨#[]⟩ : ByteArray), .int .i64 0, .slice none 0 0]) (t := 24) ?hr ?_; (case hd => rfl); (case hg => rfl); (case hr => first | (go_simp; done) | (go_simp; rfl)); intro gb106 hg w3 hbox hb; have n0_ := Aside0.mk (blk_below (g := gb105) (o := .cells #[.int .i64 a0_0, .string a0_1, .int .i64 a0_2, .slice A0_3 l0_3.length c0_3] 31 (0, 0)) (rbA BK105.out) hb); have n1_ := Aside0.mk (below_step (hbA HB.out) hb); have n2_ := Aside0.mk (hbox); have n3_ := Aside0.mk ((by rw [hg]; exact (below_size (hbA HB.out)) : w.heap.size ≤ gb106)); have n4_ := Aside0.mk ((by rw [hg]; exact (below_size (hbA HB.out)) : w.heap.size ≤ gb106)); have n5_ := Aside0.mk ((by rw [hg]; exact Nat.ne_of_lt (blk_lt (g := gb105) (o := .cells #[.int .i64 a0_0, .string a0_1, .int .i64 a0_2, .slice A0_3 l0_3.length c0_3] 31 (0, 0)) (rbA BK105.out)) : gb105 ≠ gb106)); have n6_ := Aside0.mk ((by rw [hg]; exact Nat.ne_of_gt (blk_lt (g := gb105) (o := .cells #[.int .i64 a0_0, .string a0_1, .int .i64 a0_2, .slice A0_3 l0_3.length c0_3] 31 (0, 0)) (rbA BK105.out)) : gb106 ≠ gb105)); clear BK105; clear HB; have BK105 := n0_; have HB := n1_; have BK106 := n2_; have GW106 := n3_; have GE106 := n4_; have NB105_106 := n5_; have NB106_105 := n6_; clear n0_ n1_ n2_ n3_ n4_ n5_ n6_; clear hb hbox hg; have hnb4 := NB105_106.out; have hnc4 := NB106_105.out; obtain ⟨hcz5_0, hcz5_1, hcz5_2, hcz5_3, hfz5_0, hfz5_1, hfz5_2, hfz5_3⟩ := blkA4 BK105.out) | ((with_reducible refine gate_dst (N := 3) rfl ?_); refine box_event ?hg (N := 3) ?hd (cs := #[.int .i64 0, .string (⟨#[]⟩ : ByteArray), .int .i64 0, .slice none 0 0]) (t := 24) ?hr ?_; (case hd => rfl); (case hg => rfl); (case hr => first | (go_simp; done) | (go_simp; rfl)); intro gb107 hg w6 hbox hb; have n0_ := Aside0.mk (blk_below (g := gb105) (o := .cells #[.int .i64 a0_0, .string a0_1, .int .i64 a0_2, .slice A0_3 l0_3.length c0_3] 31 (0, 0)) (rbA BK105.out) hb); have n1_ := Aside0.mk (blk_below (g := gb106) (o := .cells #[.int .i64 0, .string (⟨#[]⟩ : ByteArray), .int .i64 0, .slice none 0 0] 24 (0, 0)) (rbA BK106.out) hb); have n2_ := Aside0.mk (below_step (hbA HB.out) hb); have n3_ := Aside0.mk (hbox); have n4_ := Aside0.mk ((by rw [hg]; exact (below_size (hbA HB.out)) : w.heap.size ≤ gb107)); have n5_ := Aside0.mk ((by rw [hg]; exact (below_size (hbA HB.out)) : w.heap.size ≤ gb107)); have n6_ := Aside0.mk ((by rw [hg]; exact Nat.ne_of_lt (blk_lt (g := gb105) (o := .cells #[.int .i64 a0_0, .string a0_1, .int .i64 a0_2, .slice A0_3 l0_3.length c0_3] 31 (0, 0)) (rbA BK105.out)) : gb105 ≠ gb107)); have n7_ := Aside0.mk ((by rw [hg]; exact Nat.ne_of_gt (blk_lt (g := gb105) (o := .cells #[.int .i64 a0_0, .string a0_1, .int .i64 a0_2, .slice A0_3 l0_3.length c0_3] 31 (0, 0)) (rbA BK105.out)) : gb107 ≠ gb105)); have n8_ := Aside0.mk ((by rw [hg]; exact Nat.ne_of_lt (blk_lt (g := gb106) (o := .cells #[.int .i64 0, .string (⟨#[]⟩ : ByteArray), .int .i64 0, .slice none 0 0] 24 (0, 0)) (rbA BK106.out)) : gb106 ≠ gb107)); have n9_ := Aside0.mk ((by rw [hg]; exact Nat.ne_of_gt (blk_lt (g := gb106) (o := .cells #[.int .i64 0, .string (⟨#[]⟩ : ByteArray), .int .i64 0, .slice none 0 0] 24 (0, 0)) (rbA BK106.out)) : gb107 ≠ gb106)); clear BK105; clear BK106; clear HB; have BK105 := n0_; have BK106 := n1_; have HB := n2_; have BK107 := n3_; have GW107 := n4_; have GE107 := n5_; have NB105_107 := n6_; have NB107_105 := n7_; have NB106_107 := n8_; have NB107_106 := n9_; clear n0_ n1_ n2_ n3_ n4_ n5_ n6_ n7_ n8_ n9_; clear hb hbox hg; have hnb7 := NB107_105.out; have hnc7 := NB105_107.out; have hnb8 := NB107_106.out; have hnc8 := NB106_107.out; obtain ⟨hcz9_0, hcz9_1, hcz9_2, hcz9_3, hfz9_0, hfz9_1, hfz9_2, hfz9_3⟩ := blkA4 BK107.out))
 go_loopg [4] k (fun kq v4 w' => ∃ (x4_1 : Int) (x108003_1 : List (S59)) (u108003 : Value), v4 = .int .i64 x4_1 ∧ Aside0 (tallboylaw27_From.l0 kq x4_1 a0_0 a0_1 a0_2 l0_3 a0_0 a0_1 a0_2 x108003_1 = some (r1, r2, r3, r4)) ∧ Aside0 (kq ≤ k) ∧ Aside0 (Kd.R k59 59 w' w.heap.size (fun _ => True) u108003 x108003_1) ∧ Aside0 (w'.heap[gb105]? = some (.cells #[.int .i64 a0_0, .string a0_1, .int .i64 a0_2, (.slice A0_3 l0_3.length c0_3)] 31 (0, 0))) ∧ Aside0 (w'.heap[gb106]? = some (.cells #[.int .i64 0, .string (⟨#[]⟩ : ByteArray), .int .i64 0, (.slice none 0 0)] 24 (0, 0))) ∧ Aside0 (w'.heap[gb107]? = some (.cells #[.int .i64 a0_0, .string a0_1, .int .i64 a0_2, u108003] 24 (0, 0))) ∧ Aside0 (Below w.heap.size w w'))
 case atStart => exact ⟨(0), (([] : List (S59))), (.slice none 0 0), rsA, H', ⟨Nat.le_refl _⟩, ⟨knA⟩, ⟨by (with_reducible repeat (first | refine blk_drewN ?_ _ | refine blk_drew ?_ | refine blk_alloc ?_ _)); refine blk_far ?_ NB105_107.out _; (with_reducible repeat (first | refine blk_drewN ?_ _ | refine blk_drew ?_ | refine blk_alloc ?_ _)); refine blk_far ?_ NB105_107.out _; (with_reducible repeat (first | refine blk_drewN ?_ _ | refine blk_drew ?_ | refine blk_alloc ?_ _)); refine blk_far ?_ NB105_107.out _; (with_reducible repeat (first | refine blk_drewN ?_ _ | refine blk_drew ?_ | refine blk_alloc ?_ _)); refine blk_far ?_ NB105_107.out _; (with_reducible repeat (first | refine blk_drewN ?_ _ | refine blk_drew ?_ | refine blk_alloc ?_ _)); exact BK105.out⟩, ⟨by (with_reducible repeat (first | refine blk_drewN ?_ _ | refine blk_drew ?_ | refine blk_alloc ?_ _)); refine blk_far ?_ NB106_107.out _; (with_reducible repeat (first | refine blk_drewN ?_ _ | refine blk_drew ?_ | refine blk_alloc ?_ _)); refine blk_far ?_ NB106_107.out _; (with_reducible repeat (first | refine blk_drewN ?_ _ | refine blk_drew ?_ | refine blk_alloc ?_ _)); refine blk_far ?_ NB106_107.out _; (with_reducible repeat (first | refine blk_drewN ?_ _ | refine blk_drew ?_ | refine blk_alloc ?_ _)); refine blk_far ?_ NB106_107.out _; (with_reducible repeat (first | refine blk_drewN ?_ _ | refine blk_drew ?_ | refine blk_alloc ?_ _)); exact BK106.out⟩, ⟨by (with_reducible repeat (first | refine blk_drewN ?_ _ | refine blk_drew ?_ | refine blk_alloc ?_ _)); refine blk_put (cs := #[.int .i64 a0_0, .string a0_1, .int .i64 a0_2, .slice none 0 0]) ?_ 3 _ rfl; (with_reducible repeat (first | refine blk_drewN ?_ _ | refine blk_drew ?_ | refine blk_alloc ?_ _)); refine blk_put (cs := #[.int .i64 a0_0, .string a0_1, .int .i64 0, .slice none 0 0]) ?_ 2 _ rfl; (with_reducible repeat (first | refine blk_drewN ?_ _ | refine blk_drew ?_ | refine blk_alloc ?_ _)); refine blk_put (cs := #[.int .i64 a0_0, .string (⟨#[]⟩ : ByteArray), .int .i64 0, .slice none 0 0]) ?_ 1 _ rfl; (with_reducible repeat (first | refine blk_drewN ?_ _ | refine blk_drew ?_ | refine blk_alloc ?_ _)); refine blk_put (cs := #[.int .i64 0, .string (⟨#[]⟩ : ByteArray), .int .i64 0, .slice none 0 0]) ?_ 0 _ rfl; (with_reducible repeat (first | refine blk_drewN ?_ _ | refine blk_drew ?_ | refine blk_alloc ?_ _)); exact BK107.out⟩, ⟨hbA HB.out⟩⟩
 case round =>
  clear H'
  (try clear c2); (try clear p2); (try clear c4); (try clear c7); (try clear c8); (try clear hcz5_0 hcz5_1 hcz5_2 hcz5_3); (try clear hcz9_0 hcz9_1 hcz9_2 hcz9_3); (try clear hfz5_0 hfz5_1 hfz5_2 hfz5_3); (try clear hfz9_0 hfz9_1 hfz9_2 hfz9_3)
  obtain ⟨x4_1, x108003_1, u108003, rfl, HA, HK1, HO_108003, BK105, BK106, BK107, HB⟩ := hrel
  cases gk with
  | zero => exact absurd HA.out (by simp [tallboylaw27_From.l0])
  | succ k1 =>
   have H := HA.out
   clear HA
   simp only [tallboylaw27_From.l0] at H
   by_cases c10 : x4_1 < (l0_3.length : Int)
   · rw [if_pos c10] at H
     have c10b0 : decide (x4_1 < (l0_3.length : Int)) = true := decide_eq_true c10
     clear c10
     by_cases c11 : 0 ≤ x4_1
     · rw [if_pos c11] at H
       have c11b0 : decide (0 ≤ x4_1) = true := decide_eq_true c11
       clear c11
       by_cases c12 : x108003_1.length < 5864062014805
       · rw [if_pos c12] at H
         have LMc12 := Aside0.mk c12
         clear c12
         obtain ⟨y110, hy110⟩ : ∃ y_ : List (S59), y_ = (x108003_1 ++ [(⟨(rd_T61 l0_3 x4_1).f0, (rd_T61 l0_3 x4_1).f1⟩ : S59)]) := ⟨_, rfl⟩
         replace H : (tallboylaw27_From.l0 k1 (wrap64 (x4_1 + 1)) a0_0 a0_1 a0_2 l0_3 a0_0 a0_1 a0_2 y110) = some (r1, r2, r3, r4) := by first | (rw [hy110]; with_reducible exact H) | (have H2_ := (Option.bind_some _ _).symm.trans H; rw [hy110]; with_reducible exact H2_) | (have H2_ := (Option.bind_some _ _).symm.trans H; with_reducible exact H2_) | with_reducible exact H | (rw [hy110]; exact H) | exact H
         have Ny110 := Aside0.mk hy110
         clear hy110
         have H' := Aside0.mk H
         clear H
         have hnb13 := NB105_106.out
         have hnc13 := NB106_105.out
         have hnb14 := NB105_107.out
         have hnc14 := NB107_105.out
         obtain ⟨hcz15_0, hcz15_1, hcz15_2, hcz15_3, hfz15_0, hfz15_1, hfz15_2, hfz15_3⟩ := blkA4 BK105.out
         try go_wp2
         replace HO_108003 := Aside0.mk (Kd.R_drew HO_108003.out)
         replace BK105 := Aside0.mk (blk_drew BK105.out)
         replace BK106 := Aside0.mk (blk_drew BK106.out)
         replace BK107 := Aside0.mk (blk_drew BK107.out)
         replace HB := Aside0.mk (below_drew1 HB.out)
         have p108 : 0 ≤ (x4_1 : Int) := of_decide_eq_true asA
         have q108 : x4_1 < (l0_3.length : Int) := of_decide_eq_true asA
         obtain ⟨ad108, e108, hx108_0, hx108_1⟩ := at_T61 HR0_3.out x4_1 p108 q108
         have hw108_1 := hx108_1
         have hw108_0 := hx108_0
         cases e108
         replace hx108_0 := (HB.out.cell (World.block_lt_of_cell? w _ hx108_0)).trans hx108_0
         replace hx108_1 := (HB.out.cell (World.block_lt_of_cell? w _ hx108_1)).trans hx108_1
         replace p108 := eq_true p108
         replace q108 := eq_true q108
         have p109 : 0 ≤ (x4_1 : Int) := of_decide_eq_true asA
         have q109 : x4_1 < (l0_3.length : Int) := of_decide_eq_true asA
         obtain ⟨ad109, e109, hx109_0, hx109_1⟩ := at_T61 HR0_3.out x4_1 p109 q109
         have hw109_1 := hx109_1
         have hw109_0 := hx109_0
         obtain rfl : ad108 = ad109 := (by injection e109)
         replace hx109_0 := (HB.out.cell (World.block_lt_of_cell? w _ hx109_0)).trans hx109_0
         replace hx109_1 := (HB.out.cell (World.block_lt_of_cell? w _ hx109_1)).trans hx109_1
         replace p109 := eq_true p109
         replace q109 := eq_true q109
         refine start_ (n := 19) (S := fun w' => w'.cell? ⟨gb107, 0, none⟩ = some (.int .i64 a0_0) ∧ w'.cell? ⟨gb107, 1, none⟩ = some (.string a0_1) ∧ w'.cell? ⟨gb107, 2, none⟩ = some (.int .i64 a0_2) ∧ w'.cell? ⟨gb107, 3, none⟩ = some (u108003) ∧ w'.cell? ⟨gb105, 0, none⟩ = some (.int .i64 a0_0) ∧ w'.cell? ⟨gb105, 1, none⟩ = some (.string a0_1) ∧ w'.cell? ⟨gb105, 2, none⟩ = some (.int .i64 a0_2) ∧ w'.cell? ⟨gb105, 3, none⟩ = some (.slice (some ad108) l0_3.length c0_3) ∧ w'.cell? (ad108.add ((x4_1).toNat * 2)) = some (.int .u8 ((rd_T61 l0_3 x4_1).f0)) ∧ w'.cell? ⟨(ad108.add ((x4_1).toNat * 2)).block, (ad108.add ((x4_1).toNat * 2)).off + 1, none⟩ = some (.string ((rd_T61 l0_3 x4_1).f1)) ∧ w'.cell? (ad108.add ((x4_1).toNat * 2)) = some (.int .u8 ((rd_T61 l0_3 x4_1).f0)) ∧ w'.cell? ⟨(ad108.add ((x4_1).toNat * 2)).block, (ad108.add ((x4_1).toNat * 2)).off + 1, none⟩ = some (.string ((rd_T61 l0_3 x4_1).f1))) (ds := [18]) #[false, false, false, false, false, false, false, false, false, false, false, false, false, false, false, false, false, false, false] (by kernel_rfl) rfl rfl ⟨(blk_cell BK107.out 0).trans rfl, (blk_cell BK107.out 1).trans rfl, (blk_cell BK107.out 2).trans rfl, (blk_cell BK107.out 3).trans rfl, (blk_cell BK105.out 0).trans rfl, (blk_cell BK105.out 1).trans rfl, (blk_cell BK105.out 2).trans rfl, (blk_cell BK105.out 3).trans rfl, ((HB.out.cell (World.block_lt_of_cell? w _ hw108_0)).trans hw108_0), ((HB.out.cell (World.block_lt_of_cell? w _ hw108_1)).trans hw108_1), ((HB.out.cell (World.block_lt_of_cell? w _ hw109_0)).trans hw109_0), ((HB.out.cell (World.block_lt_of_cell? w _ hw109_1)).trans hw109_1)⟩ (fun hHeld => ?_); refine with_tabW tallboylaw27_From.tab5 tallboylaw27_From.bits5 (fun HT_ HW_ => ?_)
         generalize wr.drew = w16 at HO_108003 BK105 BK106 BK107 HB hx108_0 hx108_1 hx109_0 hx109_1 hHeld ⊢
         refine pureA_ (i := 0) (N := some 19) #[true, false, false, false, false, false, false, false, false, false, false, false, false, false, false, false, false, false, false] rfl rfl ?_ (hc := any_of HT_.out (by kernel_rfl))
         refine pureA_ (i := 2) (N := some 21) #[true, false, true, false, false, false, false, false, false, false, false, false, false, false, false, false, false, false, false] rfl rfl ?_ (hc := any_of HT_.out (by kernel_rfl))
         refine pureA_ (i := 4) (N := some 23) #[true, false, true, false, true, false, false, false, false, false, false, false, false, false, false, false, false, false, false] rfl rfl ?_ (hc := any_of HT_.out (by kernel_rfl))
         refine pureA_ (i := 8) (N := some 27) #[true, false, true, false, true, false, false, false, true, false, false, false, false, false, false, false, false, false, false] rfl rfl ?_ (hc := any_of HT_.out (by kernel_rfl))
         refine pureA_ (i := 10) (N := some 29) #[true, false, true, false, true, false, false, false, true, false, true, false, false, false, false, false, false, false, false] rfl rfl ?_ (hc := any_of HT_.out (by kernel_rfl))
         refine takeA_ (i := 1) (N := some 20) #[true, true, true, false, true, false, false, false, true, false, true, false, false, false, false, false, false, false, false] rfl rfl hHeld ?_ (hc := take_ofW HT_.out HW_.out (by kernel_rfl)) (hy := by rintro w' ⟨s0, s1, s2, s3, s4, s5, s6, s7, s8, s9, s10, s11⟩; go_simp; with_reducible rfl)
         refine takeA_ (i := 3) (N := some 22) #[true, true, true, true, true, false, false, false, true, false, true, false, false, false, false, false, false, false, false] rfl rfl hHeld ?_ (hc := take_ofW HT_.out HW_.out (by kernel_rfl)) (hy := by rintro w' ⟨s0, s1, s2, s3, s4, s5, s6, s7, s8, s9, s10, s11⟩; go_simp; with_reducible rfl)
         refine pureA_ (i := 5) (N := some 24) #[true, true, true, true, true, true, false, false, true, false, true, false, false, false, false, false, false, false, false] rfl rfl ?_ (hc := any_of HT_.out (by kernel_rfl))
         refine pureA_ (i := 6) (N := some 25) #[true, true, true, true, true, true, true, false, true, false, true, false, false, false, false, false, false, false, false] rfl rfl ?_ (hc := any_of HT_.out (by kernel_rfl))
         refine takeA_ (i := 7) (N := some 26) #[true, true, true, true, true, true, true, true, true, false, true, false, false, false, false, false, false, false, false] rfl rfl hHeld ?_ (hc := take_ofW HT_.out HW_.out (by kernel_rfl)) (hy := by rintro w' ⟨s0, s1, s2, s3, s4, s5, s6, s7, s8, s9, s10, s11⟩; go_simp; with_reducible rfl)
         refine takeA_ (i := 9) (N := some 28) #[true, true, true, true, true, true, true, true, true, true, true, false, false, false, false, false, false, false, false] rfl rfl hHeld ?_ (hc := take_ofW HT_.out HW_.out (by kernel_rfl)) (hy := by rintro w' ⟨s0, s1, s2, s3, s4, s5, s6, s7, s8, s9, s10, s11⟩; go_simp; with_reducible rfl)
         refine pureA_ (i := 11) (N := some 30) #[true, true, true, true, true, true, true, true, true, true, true, true, false, false, false, false, false, false, false] rfl rfl ?_ (hc := any_of HT_.out (by kernel_rfl))
         refine pureA_ (i := 12) (N := some 31) #[true, true, true, true, true, true, true, true, true, true, true, true, true, false, false, false, false, false, false] rfl rfl ?_ (hc := any_of HT_.out (by kernel_rfl))
         refine takeA_ (i := 13) (N := some 32) #[true, true, true, true, true, true, true, true, true, true, true, true, true, true, false, false, false, false, false] rfl rfl hHeld ?_ (hc := take_ofW HT_.out HW_.out (by kernel_rfl)) (hy := by rintro w' ⟨s0, s1, s2, s3, s4, s5, s6, s7, s8, s9, s10, s11⟩; go_simp; with_reducible rfl)
         refine pureA_ (i := 14) (N := some 33) #[true, true, true, true, true, true, true, true, true, true, true, true, true, true, true, false, false, false, false] rfl rfl ?_ (hc := any_of HT_.out (by kernel_rfl))
         refine one_ (i := 15) (N := some 34) #[true, true, true, true, true, true, true, true, true, true, true, true, true, true, true, true, false, false, false] rfl rfl (one_of HT_.out (by kernel_rfl)) (by decide) (fun K hK => ?_)
         refine value_ (w1 := ?_) (v := ?_) (by rfl) rfl ?_ ?_
         rotate_left 2
         · go_simp
           constructor
           · rfl
           rfl
         refine hK.out _ _ ⟨(blk_cell (blk_alloc BK107.out _) 0).trans rfl, (blk_cell (blk_alloc BK107.out _) 1).trans rfl, (blk_cell (blk_alloc BK107.out _) 2).trans rfl, (blk_cell (blk_alloc BK107.out _) 3).trans rfl, (blk_cell (blk_alloc BK105.out _) 0).trans rfl, (blk_cell (blk_alloc BK105.out _) 1).trans rfl, (blk_cell (blk_alloc BK105.out _) 2).trans rfl, (blk_cell (blk_alloc BK105.out _) 3).trans rfl, (World.cell?_alloc_lt _ _ _ (World.block_lt_of_cell? _ _ (((HB.out.cell (World.block_lt_of_cell? w _ hw108_0)).trans hw108_0)))).trans (((HB.out.cell (World.block_lt_of_cell? w _ hw108_0)).trans hw108_0)), (World.cell?_alloc_lt _ _ _ (World.block_lt_of_cell? _ _ (((HB.out.cell (World.block_lt_of_cell? w _ hw108_1)).trans hw108_1)))).trans (((HB.out.cell (World.block_lt_of_cell? w _ hw108_1)).trans hw108_1)), (World.cell?_alloc_lt _ _ _ (World.block_lt_of_cell? _ _ (((HB.out.cell (World.block_lt_of_cell? w _ hw109_0)).trans hw109_0)))).trans (((HB.out.cell (World.block_lt_of_cell? w _ hw109_0)).trans hw109_0)), (World.cell?_alloc_lt _ _ _ (World.block_lt_of_cell? _ _ (((HB.out.cell (World.block_lt_of_cell? w _ hw109_1)).trans hw109_1)))).trans (((HB.out.cell (World.block_lt_of_cell? w _ hw109_1)).trans hw109_1))⟩ (fun hHeld => ?_)
         clear hK K
         refine normA_ ?_
         refine one_ (i := 16) (N := some 35) #[true, true, true, true, true, true, true, true, true, true, true, true, true, true, true, true, true, false, false] rfl rfl (one_of HT_.out (by kernel_rfl)) (by decide) (fun K hK => ?_)
         refine Kd.R_append_step k59 (w0 := w) w.heap.size (by rfl) (.tmp 20) (.tmp 34) 22 59 (.agg #[(.int .u8 0), (.string ⟨#[]⟩)]) 24 rfl Tryz.underlying22 info59 rfl (by decide) (by omega) u108003 x108003_1 (⟨(rd_T61 l0_3 x4_1).f0, (rd_T61 l0_3 x4_1).f1⟩ : S59) [.int .u8 ((rd_T61 l0_3 x4_1).f0), .string ((rd_T61 l0_3 x4_1).f1)] (fun _ => True) (fun _ => False) rfl rfl ?aP (fun _ hk => hk.elim) ?aF ?aO ?aB ?aS ?aL ?_
         (case aP => exact k59_mkM _ _ _ (⟨(rd_T61 l0_3 x4_1).f0, (rd_T61 l0_3 x4_1).f1⟩ : S59))
         (case aB => exact (hbA HB.out))
         (case aF => exact (fun _ _ => trivial))
         (case aO => exact (rdA HO_108003.out))
         (case aS => exact (below_size (hbA HB.out)))
         (case aL => have := LMc12.out; omega)
         intro v111 w17 ho hb hg hat
         rw [← Ny110.out] at ho
         have n0_ := Aside0.mk (blk_grown (g := gb105) (o := .cells #[.int .i64 a0_0, .string a0_1, .int .i64 a0_2, .slice (some ad108) l0_3.length c0_3] 31 (0, 0)) (rbA BK105.out) hg (Kd.R_ne HO_108003.out BK105.out (by decide)))
         have n1_ := Aside0.mk (blk_grown (g := gb106) (o := .cells #[.int .i64 0, .string (⟨#[]⟩ : ByteArray), .int .i64 0, .slice none 0 0] 24 (0, 0)) (rbA BK106.out) hg (Kd.R_ne HO_108003.out BK106.out (by decide)))
         have n2_ := Aside0.mk (blk_grown (g := gb107) (o := .cells #[.int .i64 a0_0, .string a0_1, .int .i64 a0_2, u108003] 24 (0, 0)) (rbA BK107.out) hg (Kd.R_ne HO_108003.out BK107.out (by decide)))
         have n3_ := Aside0.mk (hb)
         have n4_ := Aside0.mk (ho)
         clear BK105
         clear BK106
         clear BK107
         clear HB
         clear HO_108003
         have BK105 := n0_
         have BK106 := n1_
         have BK107 := n2_
         have HB := n3_
         have HO112 := n4_
         clear n0_ n1_ n2_ n3_ n4_
         clear ho hb hg hat
         obtain ⟨Ao18, co18, eo18⟩ := Kd.R_slice HO112.out
         (first | subst eo18 | (injection eo18 with f1_ f2_ f3_; have f4_ := f1_.symm; have f5_ := f3_.symm; clear f1_ f2_ f3_; subst f4_; subst f5_))
         refine hK.out _ _ ⟨(blk_cell BK107.out 0).trans rfl, (blk_cell BK107.out 1).trans rfl, (blk_cell BK107.out 2).trans rfl, (blk_cell BK107.out 3).trans rfl, (blk_cell BK105.out 0).trans rfl, (blk_cell BK105.out 1).trans rfl, (blk_cell BK105.out 2).trans rfl, (blk_cell BK105.out 3).trans rfl, ((HB.out.cell (World.block_lt_of_cell? w _ hw108_0)).trans hw108_0), ((HB.out.cell (World.block_lt_of_cell? w _ hw108_1)).trans hw108_1), ((HB.out.cell (World.block_lt_of_cell? w _ hw109_0)).trans hw109_0), ((HB.out.cell (World.block_lt_of_cell? w _ hw109_1)).trans hw109_1)⟩ (fun hHeld => ?_)
         clear hK K
         refine normA_ ?_
         refine pureA_ (i := 17) (N := some 36) #[true, true, true, true, true, true, true, true, true, true, true, true, true, true, true, true, true, true, false] rfl rfl ?_ (hc := any_of HT_.out (by kernel_rfl))
         refine last_ (i := 18) (N := none) #[true, true, true, true, true, true, true, true, true, true, true, true, true, true, true, true, true, true, true] rfl rfl (one_of HT_.out (by kernel_rfl)) (by decide) (fun K hK => ?_)
         have hs19 : w17.cell? ⟨gb107, 3, none⟩ = some (u108003) := (blk_cell BK107.out 3).trans rfl
         have hfs19 := blk_frozen BK107.out 3
         have hns19_0 := NB105_107.out
         have hns19_1 := NB106_107.out
         have hms19_0 := NB107_105.out
         have hms19_1 := NB107_106.out
         refine skip_ (w1 := ?_) (by rfl) rfl ?_ ?_
         rotate_left
         · go_simp
           rfl
         refine hK.out _ _ ?_
         clear hK K
         refine done_ (done_of HT_.out (by kernel_rfl)) ?_
         try go_wp2
         go_roundg k1
         case measure => have := HK1.out; omega
         case rel => exact ⟨(wrap64 (x4_1 + 1)), (y110), (.slice Ao18 y110.length co18), rsA, H', ⟨by have := HK1.out; omega⟩, ⟨by (with_reducible repeat (first | apply Kd.R_alloc | apply Kd.R_drewN | apply Kd.R_drew)); exact Kd.R_mono (Kd.R_far (p := ⟨gb107, 3, none⟩) (Kd.R_types HO112.out BK107.out (by decide)) (fun _ hk => hk.2) (.slice Ao18 y110.length co18)) (fun _ hk => trivial)⟩, ⟨by (with_reducible repeat (first | refine blk_drewN ?_ _ | refine blk_drew ?_ | refine blk_alloc ?_ _)); refine blk_far ?_ NB105_107.out _; (with_reducible repeat (first | refine blk_drewN ?_ _ | refine blk_drew ?_ | refine blk_alloc ?_ _)); exact BK105.out⟩, ⟨by (with_reducible repeat (first | refine blk_drewN ?_ _ | refine blk_drew ?_ | refine blk_alloc ?_ _)); refine blk_far ?_ NB106_107.out _; (with_reducible repeat (first | refine blk_drewN ?_ _ | refine blk_drew ?_ | refine blk_alloc ?_ _)); exact BK106.out⟩, ⟨by (with_reducible repeat (first | refine blk_drewN ?_ _ | refine blk_drew ?_ | refine blk_alloc ?_ _)); refine blk_put (cs := #[.int .i64 a0_0, .string a0_1, .int .i64 a0_2, u108003]) ?_ 3 _ rfl; (with_reducible repeat (first | refine blk_drewN ?_ _ | refine blk_drew ?_ | refine blk_alloc ?_ _)); exact BK107.out⟩, ⟨hbA HB.out⟩⟩
       rw [if_neg c12] at H
       exact absurd H (by simp)
     rw [if_neg c11] at H
     exact absurd H (by simp)
   rw [if_neg c10] at H
   have c10b0 : decide (x4_1 < (l0_3.length : Int)) = false := decide_eq_false c10
   clear c10
   simp only [Option.some.injEq, Prod.mk.injEq] at H
   obtain ⟨rfl, rfl, rfl, rfl⟩ := H
   have hnb20 := NB105_106.out
   have hnc20 := NB106_105.out
   have hnb21 := NB105_107.out
   have hnc21 := NB107_105.out
   obtain ⟨hcz22_0, hcz22_1, hcz22_2, hcz22_3, hfz22_0, hfz22_1, hfz22_2, hfz22_3⟩ := blkA4 BK105.out
   have hnb23 := NB107_106.out
   have hnc23 := NB106_107.out
   obtain ⟨hcz24_0, hcz24_1, hcz24_2, hcz24_3, hfz24_0, hfz24_1, hfz24_2, hfz24_3⟩ := blkA4 BK107.out
   obtain ⟨hcz25_0, hcz25_1, hcz25_2, hcz25_3, hfz25_0, hfz25_1, hfz25_2, hfz25_3⟩ := blkA4 BK106.out
   obtain ⟨Ao26, co26, eo26⟩ := Kd.R_slice HO_108003.out
   subst eo26
   go_wp2
   refine bodyPost_ret (results_cell_row rfl _ _ gb106 24 #[.int .i64 a0_0, .string a0_1, .int .i64 a0_2, .slice Ao26 x108003_1.length co26] (0, 0) _ rfl (by (with_reducible repeat (first | refine blk_drewN ?_ _ | refine blk_drew ?_ | refine blk_alloc ?_ _)); refine blk_put (cs := #[.int .i64 a0_0, .string a0_1, .int .i64 a0_2, .slice none 0 0]) ?_ 3 _ rfl; (with_reducible repeat (first | refine blk_drewN ?_ _ | refine blk_drew ?_ | refine blk_alloc ?_ _)); refine blk_put (cs := #[.int .i64 a0_0, .string a0_1, .int .i64 0, .slice none 0 0]) ?_ 2 _ rfl; (with_reducible repeat (first | refine blk_drewN ?_ _ | refine blk_drew ?_ | refine blk_alloc ?_ _)); refine blk_put (cs := #[.int .i64 a0_0, .string (⟨#[]⟩ : ByteArray), .int .i64 0, .slice none 0 0]) ?_ 1 _ rfl; (with_reducible repeat (first | refine blk_drewN ?_ _ | refine blk_drew ?_ | refine blk_alloc ?_ _)); refine blk_put (cs := #[.int .i64 0, .string (⟨#[]⟩ : ByteArray), .int .i64 0, .slice none 0 0]) ?_ 0 _ rfl; exact rbA BK106.out) Tryz.underlying24 rfl (by kernel_rfl)) rfl ?_
   exact ⟨_, reA, by (with_reducible repeat (first | apply Kd.R_alloc | apply Kd.R_drewN | apply Kd.R_drew)); exact Kd.R_mono (Kd.R_far (p := ⟨gb106, 3, none⟩) (Kd.R_far (p := ⟨gb106, 2, none⟩) (Kd.R_far (p := ⟨gb106, 1, none⟩) (Kd.R_far (p := ⟨gb106, 0, none⟩) (Kd.R_types HO_108003.out BK106.out (by decide)) (fun _ hk => hk.2) (.int .i64 a0_0)) (fun _ hk => hk.2) (.string a0_1)) (fun _ hk => hk.2) (.int .i64 a0_2)) (fun _ hk => hk.2) (.slice Ao26 x108003_1.length co26)) (fun _ hk => trivial), hbA HB.out⟩

end
end Go.Proofs.YtfboejlemnfndaaGreatDoor.XMr
end
section
namespace Go.Proofs.YtfboejlemnfndaaGreatDoor.XMr
open Go.RowKit Go.Proofs.YtfboejlemnfndaaGreatDoorW.PrintWords Go.Proofs.YtfboejlemnfndaaGreatDoorW.PrintLast Go.Proofs.YtfboejlemnfndaaGreatDoorW.PrintMore
attribute [local go_sem] extract_sub max2_int min2_int max_two min_two max_three min_three max_four min_four   -- for this text's walks alone
set_option linter.unusedVariables false
set_option linter.unusedSimpArgs false

noncomputable section
def meta_Find.f (a0_0 : Int) (a0_1 : ByteArray) (a0_2 : Int) (l0_3 : List S61) (a1 : Int) : Option (ByteArray × Bool) :=
 match l0_3.find? (fun x => x.f0 == a1) with
 | some x => some (x.f1, true)
 | none => some (⟨#[]⟩, false)
theorem meta_Find.pred (x : S61) (a1 : Int) (B : Nat) (W : World) (hB : B < W.heap.size) (hc : W.cell? ⟨B, 0, none⟩ = some (.int .u8 a1)) :
 Calls Tryz.prog 43 #[.agg #[.int .u8 x.f0, .string x.f1], .pointer (some ⟨B, 0, none⟩)] W fun e w' => e = .returned (.bool (x.f0 == a1)) ∧ Below W.heap.size W w' := by
 have hne : B ≠ W.heap.size := by omega
 go_enter Tryz.func43, Tryz.ntmps43
 go_wp2
 all_goals (go_ret; exact ⟨by first | rfl | simp_all, (Below.refl _ _).alloc (Nat.le_refl _) _⟩)
def meta_Find.ix (a1 : Int) : List S61 → Nat → Int
 | [], _ => -1
 | x :: l, n => if (x.f0 == a1) = true then (n : Int) else meta_Find.ix a1 l (n + 1)
theorem meta_Find.ix_cons (a1 : Int) (x : S61) (l : List S61) (n : Nat) : meta_Find.ix a1 (x :: l) n = if (x.f0 == a1) = true then (n : Int) else meta_Find.ix a1 l (n + 1) := rfl
theorem meta_Find.ix_find (a1 : Int) : ∀ (l : List S61) (n : Nat), (∃ j x, meta_Find.ix a1 l n = ((n + j : Nat) : Int) ∧ l[j]? = some x ∧ l.find? (fun x => x.f0 == a1) = some x) ∨ (meta_Find.ix a1 l n = -1 ∧ l.find? (fun x => x.f0 == a1) = none)
 | [], n => .inr ⟨rfl, rfl⟩
 | y :: l, n => by
  unfold meta_Find.ix
  by_cases h : (y.f0 == a1) = true
  · rw [if_pos h]
    exact .inl ⟨0, y, rfl, rfl, by rw [List.find?_cons, h]⟩
  rw [if_neg h]
  have hf : (y.f0 == a1) = false := by simpa using h
  rcases meta_Find.ix_find a1 l (n + 1) with ⟨j, x, h1, h2, h3⟩ | ⟨h1, h2⟩
  · exact .inl ⟨j + 1, x, by rw [h1]; congr 1; omega, h2, by rw [List.find?_cons, hf]; exact h3⟩
  exact .inr ⟨h1, by rw [List.find?_cons, hf]; exact h2⟩
set_option maxHeartbeats 4000000 in
set_option maxRecDepth 100000 in
theorem meta_Find.index (A : Option Addr) (c : Nat) (l : List S61) (a1 : Int) (B : Nat) (w : World) (hB : B < w.heap.size) (hb : w.cell? ⟨B, 0, none⟩ = some (.int .u8 a1)) (hr : Kd.C k61 w A l.length l) (hc : l.length ≤ c) :
 Calls Tryz.prog 42 #[.slice A l.length c, .func (.func 43) #[] #[.pointer (some ⟨B, 0, none⟩)]] w fun e w' => e = .returned (.int .i64 (meta_Find.ix a1 l 0)) ∧ Below w.heap.size w w' := by
 have hlen := hr.2.1
 have HR := Aside0.mk hr
 have HB := Aside0.mk hb
 clear hr hb
 have eg : ∀ args w, (callFunc 43 args).run Tryz.prog w = .ok (.enter 43 args) w := enters_of Tryz.func43 (by kernel_rfl) rfl
 go_enter Tryz.func42, Tryz.ntmps42
 go_wp2
 go_loopg [5, 8] l.length (fun gg _ s8 wr => ∃ j : Nat, j ≤ l.length ∧ l.length - j ≤ gg ∧ s8 = .int .i64 j ∧ Aside0 (Below w.heap.size w wr) ∧ Aside0 (meta_Find.ix a1 (l.drop j) j = meta_Find.ix a1 l 0))
 case atStart => exact ⟨0, Nat.zero_le _, by omega, rfl, ⟨Below.refl _ w⟩, ⟨rfl⟩⟩
 case round =>
  obtain ⟨j, hj, hg, rfl, BW, HA⟩ := hrel
  by_cases hlt : j < l.length
  · have hji : (j : Int) < (l.length : Int) := by omega
    obtain ⟨ad, e, hx0, hx1⟩ := at_T61 HR.out (j : Int) (by omega) hji
    subst e
    have hxj : rd_T61 l (j : Int) = l[j] := by
     unfold rd_T61
     rw [Int.toNat_natCast, List.getD_eq_getElem?_getD, List.getElem?_eq_getElem hlt]; rfl
    rw [hxj] at hx0 hx1
    clear hxj
    rw [Int.toNat_natCast] at hx0 hx1
    have hcons : l.drop j = l[j] :: l.drop (j + 1) := List.drop_eq_getElem_cons hlt
    have hstep := HA.out
    rw [hcons, meta_Find.ix_cons] at hstep
    generalize l[j] = x at hx0 hx1 hstep hcons
    replace hx0 := (BW.out.cell (World.block_lt_of_cell? w _ hx0)).trans hx0
    replace hx1 := (BW.out.cell (World.block_lt_of_cell? w _ hx1)).trans hx1
    have hcB : wr.cell? ⟨B, 0, none⟩ = some (.int .u8 a1) := (BW.out.cell (p := ⟨B, 0, none⟩) hB).trans HB.out
    have hcall := meta_Find.pred x a1 B wr (Nat.lt_of_lt_of_le hB BW.out.size) hcB
    have HS := Aside0.mk hstep
    clear hstep HA hcons hcB
    cases hq : (x.f0 == a1) with
    | true =>
     have HQ := Aside0.mk hq
     rw [hq] at hcall
     clear hq
     go_wp2_with (go_at_fn 43; refine hcall.mono ?_; rintro e w' ⟨rfl, hb'⟩)
     go_ret
     refine ⟨?_, BW.out.trans (hb'.mono BW.out.size)⟩
     rw [← HS.out, if_pos HQ.out]
     rfl
    | false =>
     have HQ := Aside0.mk hq
     rw [hq] at hcall
     clear hq
     go_wp2_with (go_at_fn 43; refine hcall.mono ?_; rintro e w' ⟨rfl, hb'⟩)
     go_roundg (l.length - (j + 1))
     case measure => omega
     case rel => exact ⟨j + 1, by omega, by omega, by go_num, ⟨BW.out.trans (hb'.mono BW.out.size)⟩, ⟨by rw [← HS.out, if_neg (by rw [HQ.out]; exact Bool.false_ne_true)]⟩⟩
  have hji : ¬ (j : Int) < (l.length : Int) := by omega
  have hend := HA.out
  rw [List.drop_of_length_le (by omega)] at hend
  have HE := Aside0.mk hend
  clear hend HA
  go_wp2
  go_ret
  refine ⟨?_, BW.out⟩
  rw [← HE.out]
  rfl
set_option maxHeartbeats 4000000 in
set_option maxRecDepth 100000 in
theorem meta_Find.calls (a0_0 : Int) (a0_1 : ByteArray) (a0_2 : Int) (A0_3 : Option Addr) (c0_3 : Nat) (l0_3 : List S61) (a1 : Int) (r1 : ByteArray) (r2 : Bool) (w : World) (hr0_3 : Kd.C k61 w A0_3 l0_3.length l0_3) (hc0_3 : l0_3.length ≤ c0_3) (h : meta_Find.f a0_0 a0_1 a0_2 l0_3 a1 = some (r1, r2)) :
 Calls Tryz.prog 15 #[.agg #[.int .i64 a0_0, .string a0_1, .int .i64 a0_2, .slice A0_3 l0_3.length c0_3], .int .u8 a1] w fun e w' => e = .returned (.tuple #[.string r1, .bool r2]) ∧ Below w.heap.size w w' := by
 unfold meta_Find.f at h
 have HR := Aside0.mk hr0_3
 have hlen := hr0_3.2.1
 clear hr0_3
 have hIX := meta_Find.ix_find a1 l0_3 0
 generalize hix : meta_Find.ix a1 l0_3 0 = ix at hIX
 have HIX := Aside0.mk hix
 clear hix
 have HI := Aside0.mk hIX
 have HH := Aside0.mk h
 clear hIX h
 go_enter Tryz.func15, Tryz.ntmps15
 go_wp2_with fail
 refine (meta_Find.index A0_3 c0_3 l0_3 a1 (w.heap.size + 1) _ (by simp) (by first | (simp; done) | (go_simp; done)) (Kd.C_below HR.out (((Below.refl _ w).alloc (Nat.le_refl _) _).alloc (by simp) _)) hc0_3).mono ?_
 rintro e w1 ⟨he, hb1⟩
 rw [HIX.out] at he
 subst he
 have hbk : w1.heap[w.heap.size]? = some (.cells #[.int .i64 a0_0, .string a0_1, .int .i64 a0_2, .slice A0_3 l0_3.length c0_3] 31) := by
  rw [hb1.block w.heap.size (by simp; omega)]
  exact (((Below.refl (w.heap.size + 1) (w.alloc _)).alloc (by simp) _).block w.heap.size (by omega)).trans (Go.heap_alloc_new w _)
 have hp3 : w1.cell? ⟨w.heap.size, 3, none⟩ = some (.slice A0_3 l0_3.length c0_3) := by rw [Lib.cell_of_heap hbk]; rfl
 have hb : Below w.heap.size w w1 := (((Below.refl _ w).alloc (Nat.le_refl _) _).alloc (by simp) _).trans (hb1.mono (by simp; omega))
 have HB := Aside0.mk hb
 clear hb1 hbk hb
 rcases HI.out with ⟨j, x, h1, h2, h3⟩ | ⟨h1, h2⟩
 · have hj : j < l0_3.length := (List.getElem?_eq_some_iff.1 h2).1
   have hji : (j : Int) < (l0_3.length : Int) := by omega
   have hneg : decide ((j : Int) < 0) = false := decide_eq_false (by omega)
   obtain ⟨ad, e, hx0, hx1⟩ := at_T61 HR.out (j : Int) (by omega) hji
   subst e
   have hxj : rd_T61 l0_3 (j : Int) = x := by
    unfold rd_T61
    rw [Int.toNat_natCast, List.getD_eq_getElem?_getD, h2]; rfl
   rw [hxj] at hx0 hx1
   rw [Int.toNat_natCast] at hx0 hx1
   replace hx1 := (HB.out.cell (World.block_lt_of_cell? w _ hx1)).trans hx1
   have hh := HH.out
   rw [h3] at hh
   injection hh with hh
   have e1 : x.f1 = r1 := congrArg Prod.fst hh
   have e2 : true = r2 := congrArg Prod.snd hh
   rw [e1] at hx1
   subst e2
   obtain rfl : ix = (j : Int) := by rw [h1]; congr 1; omega
   clear hx0 hxj h1 h2 h3 hh e1 HI HH HIX hj
   go_wp2
   go_ret2
   exact ⟨rfl, HB.out⟩
 have hh := HH.out
 rw [h2] at hh
 injection hh with hh
 have e1 : (⟨#[]⟩ : ByteArray) = r1 := congrArg Prod.fst hh
 have e2 : false = r2 := congrArg Prod.snd hh
 subst e1 e2
 subst h1
 clear h2 hh HI HH HIX
 go_wp2
 go_ret2
 exact ⟨rfl, HB.out⟩

end
end Go.Proofs.YtfboejlemnfndaaGreatDoor.XMr
end
section
namespace Go.Proofs.YtfboejlemnfndaaGreatDoor.XMr
open Go.RowKit Go.Proofs.YtfboejlemnfndaaGreatDoorW.PrintWords Go.Proofs.YtfboejlemnfndaaGreatDoorW.PrintLast Go.Proofs.YtfboejlemnfndaaGreatDoorW.PrintMore
attribute [local go_sem] extract_sub max2_int min2_int max_two min_two max_three min_three max_four min_four   -- for this text's walks alone
set_option linter.unusedVariables false
set_option linter.unusedSimpArgs false

noncomputable section
def meta_letter.f (a0 : Int) : Option (Int) := if (Go.bits .and .u32 a0 63) < 26 then (some (((65 + (Go.bits .and .u32 a0 63)) % 4294967296) % 256)) else (if (Go.bits .and .u32 a0 63) < 52 then (some (((((97 + (Go.bits .and .u32 a0 63)) % 4294967296) - 26) % 4294967296) % 256)) else (if (Go.bits .and .u32 a0 63) < 62 then (some (((((48 + (Go.bits .and .u32 a0 63)) % 4294967296) - 52) % 4294967296) % 256)) else (if (Go.bits .and .u32 a0 63) = 62 then (some 43) else (some 47))))
set_option maxHeartbeats 8000000 in
set_option maxRecDepth 100000 in
theorem meta_letter.calls (a0 : Int) (r : Int) (w : World) (h : meta_letter.f a0 = some r) :
 Calls Tryz.prog 54 #[.int .u32 a0] w fun e w' => e = .returned (.int .u8 r) ∧ Drawn0 w w' := by
 have H : (if (Go.bits .and .u32 a0 63) < 26 then (some (((65 + (Go.bits .and .u32 a0 63)) % 4294967296) % 256)) else (if (Go.bits .and .u32 a0 63) < 52 then (some (((((97 + (Go.bits .and .u32 a0 63)) % 4294967296) - 26) % 4294967296) % 256)) else (if (Go.bits .and .u32 a0 63) < 62 then (some (((((48 + (Go.bits .and .u32 a0 63)) % 4294967296) - 52) % 4294967296) % 256)) else (if (Go.bits .and .u32 a0 63) = 62 then (some 43) else (some 47))))) = some r := h
 clear h
 by_cases c2 : (Go.bits .and .u32 a0 63) < 26
 · rw [if_pos c2] at H
   have c2b0 : decide ((Go.bits .and .u32 a0 63) < 26) = true := decide_eq_true c2
   clear c2
   obtain rfl := Option.some.inj H
   go_enter Tryz.func54, Tryz.ntmps54
   go_wp2
   go_ret
   exact ⟨rsA, drA⟩
 rw [if_neg c2] at H
 have c2b0 : decide ((Go.bits .and .u32 a0 63) < 26) = false := decide_eq_false c2
 clear c2
 by_cases c3 : (Go.bits .and .u32 a0 63) < 52
 · rw [if_pos c3] at H
   have c3b0 : decide ((Go.bits .and .u32 a0 63) < 52) = true := decide_eq_true c3
   clear c3
   obtain rfl := Option.some.inj H
   go_enter Tryz.func54, Tryz.ntmps54
   go_wp2
   go_ret
   exact ⟨rsA, drA⟩
 rw [if_neg c3] at H
 have c3b0 : decide ((Go.bits .and .u32 a0 63) < 52) = false := decide_eq_false c3
 clear c3
 by_cases c4 : (Go.bits .and .u32 a0 63) < 62
 · rw [if_pos c4] at H
   have c4b0 : decide ((Go.bits .and .u32 a0 63) < 62) = true := decide_eq_true c4
   clear c4
   obtain rfl := Option.some.inj H
   go_enter Tryz.func54, Tryz.ntmps54
   go_wp2
   go_ret
   exact ⟨rsA, drA⟩
 rw [if_neg c4] at H
 have c4b0 : decide ((Go.bits .and .u32 a0 63) < 62) = false := decide_eq_false c4
 clear c4
 by_cases c5 : (Go.bits .and .u32 a0 63) = 62
 · rw [if_pos c5] at H
   have c5b0 : ((Go.bits .and .u32 a0 63) == 62) = true := beq_iff_eq.mpr c5
   have c5b1 : ((Go.bits .and .u32 a0 63) != 62) = false := bne_eq_false_iff_eq.mpr c5
   clear c5
   obtain rfl := Option.some.inj H
   go_enter Tryz.func54, Tryz.ntmps54
   go_wp2
   go_ret
   exact ⟨rsA, drA⟩
 rw [if_neg c5] at H
 have c5b0 : ((Go.bits .and .u32 a0 63) == 62) = false := beq_eq_false_iff_ne.mpr c5
 have c5b1 : ((Go.bits .and .u32 a0 63) != 62) = true := bne_iff_ne.mpr c5
 obtain rfl := Option.some.inj H
 go_enter Tryz.func54, Tryz.ntmps54
 go_wp2
 go_ret
 exact ⟨rsA, drA⟩

end
end Go.Proofs.YtfboejlemnfndaaGreatDoor.XMr
end
section
namespace Go.Proofs
open Go.Shelf
def Tryz.lays169_ren : Go.Shelf.Ren := ⟨fun | 169 => 55 | n => n, fun | 70 => 89 | 9 => 9 | 0 => 0 | 72 => 91 | 37 => 70 | 127 => 119 | 3 => 3 | 5 => 5 | n => n, fun | n => n⟩
theorem Tryz.lays169 : Go.Proofs.Lays.n169 Tryz.prog Tryz.lays169_ren := {
  mixed := by kernel_rfl
  f169 := Tryz.func55.trans (congrArg some (by kernel_rfl))
  t0 := Tryz.underlying0
  a0 := Tryz.isAgg0
  z0 := Tryz.sizeOf0
  v0 := Tryz.zeroValue0
  t3 := Tryz.underlying3
  a3 := Tryz.isAgg3
  z3 := Tryz.sizeOf3
  v3 := Tryz.zeroValue3
  t9 := Tryz.underlying9
  a9 := Tryz.isAgg9
  z9 := Tryz.sizeOf9
  v9 := Tryz.zeroValue9
  t37 := Tryz.underlying70
  a37 := Tryz.isAgg70
  z37 := Tryz.sizeOf70
  v37 := Tryz.zeroValue70
  t70 := Tryz.underlying89
  a70 := Tryz.isAgg89
  z70 := Tryz.sizeOf89
  v70 := Tryz.zeroValue89
  t72 := Tryz.underlying91
  a72 := Tryz.isAgg91
  z72 := Tryz.sizeOf91
  v72 := Tryz.zeroValue91
  t127 := Tryz.underlying119
  a127 := Tryz.isAgg119
  z127 := Tryz.sizeOf119
  v127 := Tryz.zeroValue119 }
theorem Tryz.Builder_Extra_169 : Builder.Extra Tryz.prog Tryz.lays169_ren := {
  sizeBuilder := by kernel_rfl
  liesBuilder := by kernel_rfl
  t5 := Tryz.underlying5
  a5 := Tryz.isAgg5
  z5 := Tryz.sizeOf5
  v5 := Tryz.zeroValue5
  infoByte := by kernel_rfl
  cellsByte := by kernel_rfl
  sizeByte := by kernel_rfl
  neB5 := by decide }
def Tryz.lays156_ren : Go.Shelf.Ren := ⟨fun | 156 => 31 | 165 => 63 | 166 => 57 | 169 => 55 | 240 => 74 | 241 => 81 | 276 => 92 | 277 => 101 | n => n, fun | 31 => 66 | 9 => 9 | 3 => 3 | 4 => 4 | 0 => 0 | 20 => 20 | 72 => 91 | 76 => 100 | 70 => 89 | 37 => 70 | 75 => 95 | 127 => 119 | 164 => 128 | 5 => 5 | 80 => 98 | n => n, fun | n => n⟩
theorem Tryz.lays156 : Go.Proofs.Lays.n156 Tryz.prog Tryz.lays156_ren := {
  mixed := by kernel_rfl
  f156 := Tryz.func31.trans (congrArg some (by kernel_rfl))
  f165 := Tryz.func63.trans (congrArg some (by kernel_rfl))
  f166 := Tryz.func57.trans (congrArg some (by kernel_rfl))
  f169 := Tryz.func55.trans (congrArg some (by kernel_rfl))
  f240 := Tryz.func74.trans (congrArg some (by kernel_rfl))
  f241 := Tryz.func81.trans (congrArg some (by kernel_rfl))
  f276 := Tryz.func92.trans (congrArg some (by kernel_rfl))
  f277 := Tryz.func101.trans (congrArg some (by kernel_rfl))
  t0 := Tryz.underlying0
  a0 := Tryz.isAgg0
  z0 := Tryz.sizeOf0
  v0 := Tryz.zeroValue0
  t3 := Tryz.underlying3
  a3 := Tryz.isAgg3
  z3 := Tryz.sizeOf3
  v3 := Tryz.zeroValue3
  t4 := Tryz.underlying4
  a4 := Tryz.isAgg4
  z4 := Tryz.sizeOf4
  v4 := Tryz.zeroValue4
  t9 := Tryz.underlying9
  a9 := Tryz.isAgg9
  z9 := Tryz.sizeOf9
  v9 := Tryz.zeroValue9
  t20 := Tryz.underlying20
  a20 := Tryz.isAgg20
  z20 := Tryz.sizeOf20
  v20 := Tryz.zeroValue20
  t31 := Tryz.underlying66
  a31 := Tryz.isAgg66
  z31 := Tryz.sizeOf66
  v31 := Tryz.zeroValue66
  t37 := Tryz.underlying70
  a37 := Tryz.isAgg70
  z37 := Tryz.sizeOf70
  v37 := Tryz.zeroValue70
  t70 := Tryz.underlying89
  a70 := Tryz.isAgg89
  z70 := Tryz.sizeOf89
  v70 := Tryz.zeroValue89
  t72 := Tryz.underlying91
  a72 := Tryz.isAgg91
  z72 := Tryz.sizeOf91
  v72 := Tryz.zeroValue91
  t75 := Tryz.underlying95
  a75 := Tryz.isAgg95
  z75 := Tryz.sizeOf95
  v75 := Tryz.zeroValue95
  t76 := Tryz.underlying100
  a76 := Tryz.isAgg100
  z76 := Tryz.sizeOf100
  v76 := Tryz.zeroValue100
  t127 := Tryz.underlying119
  a127 := Tryz.isAgg119
  z127 := Tryz.sizeOf119
  v127 := Tryz.zeroValue119
  t164 := Tryz.underlying128
  a164 := Tryz.isAgg128
  z164 := Tryz.sizeOf128
  v164 := Tryz.zeroValue128 }
theorem Tryz.Builder_Extra_156 : Builder.Extra Tryz.prog Tryz.lays156_ren := {
  sizeBuilder := by kernel_rfl
  liesBuilder := by kernel_rfl
  t5 := Tryz.underlying5
  a5 := Tryz.isAgg5
  z5 := Tryz.sizeOf5
  v5 := Tryz.zeroValue5
  infoByte := by kernel_rfl
  cellsByte := by kernel_rfl
  sizeByte := by kernel_rfl
  neB5 := by decide }
open Go.RowKit in
theorem Tryz.strings_Join_none (a : Option Addr) (c : Nat) (sep : ByteArray) (w : World) :
    Calls Tryz.prog 31 #[.slice a 0 c, .string sep] w fun e w' => e = .returned (.string ⟨#[]⟩) ∧ w' = w := Any.strings_Join_none Tryz.lays156 Tryz.Builder_Extra_156 a c sep w
open Go.RowKit in
theorem Tryz.strings_Join (bk o c : Nat) (xs : List ByteArray) (sep : ByteArray) (w : World) (hcells : ∀ (j : Nat) x, xs[j]? = some x → w.cell? ⟨bk, o + j, none⟩ = some (.string x)) (hbk : bk < w.heap.size) (hN : xs.length ≤ 140737488355328) (hcap : xs.length ≤ c) (hlen : (Lib.join (xs.map (·.data.toList)) sep.data.toList).length ≤ 140737488355328) :
    Calls Tryz.prog 31 #[.slice (some ⟨bk, o, none⟩) xs.length c, .string sep] w fun e w' => e = .returned (.string ⟨(Lib.join (xs.map (·.data.toList)) sep.data.toList).toArray⟩) ∧ Below w.heap.size w w' := Any.strings_Join Tryz.lays156 Tryz.Builder_Extra_156 bk o c xs sep w hcells hbk hN hcap hlen
def Tryz.lays162_ren : Go.Shelf.Ren := ⟨fun | 162 => 75 | 232 => 93 | 227 => 94 | 234 => 95 | 236 => 96 | 228 => 115 | 271 => 116 | 151 => 117 | 120 => 131 | 197 => 112 | 152 => 132 | 260 => 127 | 137 => 68 | 119 => 137 | 224 => 129 | 225 => 128 | 217 => 84 | 266 => 103 | n => n, fun | 9 => 9 | 4 => 4 | 3 => 3 | 5 => 5 | 117 => 133 | 116 => 132 | 0 => 0 | 124 => 136 | 21 => 21 | 105 => 148 | 46 => 93 | 119 => 164 | 139 => 167 | 138 => 166 | n => n, fun | 3 => 4 | 4 => 5 | n => n⟩
theorem Tryz.lays162 : Go.Proofs.Lays.n162 Tryz.prog Tryz.lays162_ren := {
  mixed := by kernel_rfl
  f119 := Tryz.func137.trans (congrArg some (by kernel_rfl))
  f120 := Tryz.func131.trans (congrArg some (by kernel_rfl))
  f137 := Tryz.func68.trans (congrArg some (by kernel_rfl))
  f151 := Tryz.func117.trans (congrArg some (by kernel_rfl))
  f152 := Tryz.func132.trans (congrArg some (by kernel_rfl))
  f162 := Tryz.func75.trans (congrArg some (by kernel_rfl))
  f197 := Tryz.func112.trans (congrArg some (by kernel_rfl))
  f217 := Tryz.func84.trans (congrArg some (by kernel_rfl))
  f224 := Tryz.func129.trans (congrArg some (by kernel_rfl))
  f225 := Tryz.func128.trans (congrArg some (by kernel_rfl))
  f227 := Tryz.func94.trans (congrArg some (by kernel_rfl))
  f228 := Tryz.func115.trans (congrArg some (by kernel_rfl))
  f232 := Tryz.func93.trans (congrArg some (by kernel_rfl))
  f234 := Tryz.func95.trans (congrArg some (by kernel_rfl))
  f236 := Tryz.func96.trans (congrArg some (by kernel_rfl))
  f260 := Tryz.func127.trans (congrArg some (by kernel_rfl))
  f266 := Tryz.func103.trans (congrArg some (by kernel_rfl))
  f271 := Tryz.func116.trans (congrArg some (by kernel_rfl))
  t0 := Tryz.underlying0
  a0 := Tryz.isAgg0
  z0 := Tryz.sizeOf0
  v0 := Tryz.zeroValue0
  t3 := Tryz.underlying3
  a3 := Tryz.isAgg3
  z3 := Tryz.sizeOf3
  v3 := Tryz.zeroValue3
  t4 := Tryz.underlying4
  a4 := Tryz.isAgg4
  z4 := Tryz.sizeOf4
  v4 := Tryz.zeroValue4
  t5 := Tryz.underlying5
  a5 := Tryz.isAgg5
  z5 := Tryz.sizeOf5
  v5 := Tryz.zeroValue5
  t9 := Tryz.underlying9
  a9 := Tryz.isAgg9
  z9 := Tryz.sizeOf9
  v9 := Tryz.zeroValue9
  t21 := Tryz.underlying21
  a21 := Tryz.isAgg21
  z21 := Tryz.sizeOf21
  v21 := Tryz.zeroValue21
  t46 := Tryz.underlying93
  a46 := Tryz.isAgg93
  z46 := Tryz.sizeOf93
  v46 := Tryz.zeroValue93
  t105 := Tryz.underlying148
  a105 := Tryz.isAgg148
  z105 := Tryz.sizeOf148
  v105 := Tryz.zeroValue148
  t116 := Tryz.underlying132
  a116 := Tryz.isAgg132
  z116 := Tryz.sizeOf132
  t117 := Tryz.underlying133
  a117 := Tryz.isAgg133
  z117 := Tryz.sizeOf133
  v117 := Tryz.zeroValue133
  t119 := Tryz.underlying164
  a119 := Tryz.isAgg164
  z119 := Tryz.sizeOf164
  t124 := Tryz.underlying136
  a124 := Tryz.isAgg136
  z124 := Tryz.sizeOf136
  v124 := Tryz.zeroValue136
  t138 := Tryz.underlying166
  a138 := Tryz.isAgg166
  z138 := Tryz.sizeOf166
  v138 := Tryz.zeroValue166
  t139 := Tryz.underlying167
  a139 := Tryz.isAgg167
  z139 := Tryz.sizeOf167
  v139 := Tryz.zeroValue167
  g3 := by kernel_rfl
  g4 := by kernel_rfl }
open Go.RowKit in
theorem Tryz.strings_TrimRight_one (s : ByteArray) (c : UInt8) (hc : c.toNat < 128) (w : World) (hs : s.size ≤ 9223372036854775807) :
    Calls Tryz.prog 75 #[.string s, .string ⟨#[c]⟩] w fun e w' => e = .returned (.string ⟨(Lib.trimRightB s.data.toList c).toArray⟩) ∧ w' = w := Any.strings_TrimRight_one Tryz.lays162 s c hc w hs
def Tryz.lays137_ren : Go.Shelf.Ren := ⟨fun | 137 => 68 | 217 => 84 | 266 => 103 | n => n, fun | 9 => 9 | 5 => 5 | 3 => 3 | n => n, fun | n => n⟩
theorem Tryz.lays137 : Go.Proofs.Lays.n137 Tryz.prog Tryz.lays137_ren := {
  mixed := by kernel_rfl
  f137 := Tryz.func68.trans (congrArg some (by kernel_rfl))
  f217 := Tryz.func84.trans (congrArg some (by kernel_rfl))
  f266 := Tryz.func103.trans (congrArg some (by kernel_rfl))
  t3 := Tryz.underlying3
  a3 := Tryz.isAgg3
  z3 := Tryz.sizeOf3
  v3 := Tryz.zeroValue3
  t5 := Tryz.underlying5
  a5 := Tryz.isAgg5
  z5 := Tryz.sizeOf5
  v5 := Tryz.zeroValue5
  t9 := Tryz.underlying9
  a9 := Tryz.isAgg9
  z9 := Tryz.sizeOf9
  v9 := Tryz.zeroValue9 }
open Go.RowKit in
theorem Tryz.strings_IndexByte (s : ByteArray) (c : Int) (w : World) :
    Calls Tryz.prog 68 #[.string s, .int .u8 c] w fun e w' => e = .returned (.int .i64 (Lib.indexByte s.data.toList c.toNat.toUInt8)) ∧ w' = w := Any.strings_IndexByte Tryz.lays137 s c w
def Tryz.lays210_ren : Go.Shelf.Ren := ⟨fun | 210 => 83 | 206 => 102 | n => n, fun | 9 => 9 | 4 => 4 | 3 => 3 | n => n, fun | n => n⟩
theorem Tryz.lays210 : Go.Proofs.Lays.n210 Tryz.prog Tryz.lays210_ren := {
  mixed := by kernel_rfl
  f206 := Tryz.func102.trans (congrArg some (by kernel_rfl))
  f210 := Tryz.func83.trans (congrArg some (by kernel_rfl))
  t3 := Tryz.underlying3
  a3 := Tryz.isAgg3
  z3 := Tryz.sizeOf3
  v3 := Tryz.zeroValue3
  t4 := Tryz.underlying4
  a4 := Tryz.isAgg4
  z4 := Tryz.sizeOf4
  v4 := Tryz.zeroValue4
  t9 := Tryz.underlying9
  a9 := Tryz.isAgg9
  z9 := Tryz.sizeOf9
  v9 := Tryz.zeroValue9 }
open Go.RowKit in
theorem Tryz.stringslite_CutPrefix (s p : ByteArray) (w : World) :
    Calls Tryz.prog 83 #[.string s, .string p] w fun e w' => e = .returned (.tuple #[.string ⟨(Lib.trimPrefix s.data.toList p.data.toList).toArray⟩, .bool (Lib.hasPrefix s.data.toList p.data.toList)]) ∧ w' = w := Any.stringslite_CutPrefix Tryz.lays210 s p w
def Tryz.lays103_ren : Go.Shelf.Ren := ⟨fun | 103 => 67 | 210 => 83 | 206 => 102 | n => n, fun | 9 => 9 | 4 => 4 | 24 => 38 | 3 => 3 | n => n, fun | n => n⟩
theorem Tryz.lays103 : Go.Proofs.Lays.n103 Tryz.prog Tryz.lays103_ren := {
  mixed := by kernel_rfl
  f103 := Tryz.func67.trans (congrArg some (by kernel_rfl))
  f206 := Tryz.func102.trans (congrArg some (by kernel_rfl))
  f210 := Tryz.func83.trans (congrArg some (by kernel_rfl))
  t3 := Tryz.underlying3
  a3 := Tryz.isAgg3
  z3 := Tryz.sizeOf3
  v3 := Tryz.zeroValue3
  t4 := Tryz.underlying4
  a4 := Tryz.isAgg4
  z4 := Tryz.sizeOf4
  v4 := Tryz.zeroValue4
  t9 := Tryz.underlying9
  a9 := Tryz.isAgg9
  z9 := Tryz.sizeOf9
  v9 := Tryz.zeroValue9
  t24 := Tryz.underlying38
  a24 := Tryz.isAgg38
  z24 := Tryz.sizeOf38
  v24 := Tryz.zeroValue38 }
open Go.RowKit in
theorem Tryz.strings_CutPrefix (s p : ByteArray) (w : World) :
    Calls Tryz.prog 67 #[.string s, .string p] w fun e w' => e = .returned (.tuple #[.string ⟨(Lib.trimPrefix s.data.toList p.data.toList).toArray⟩, .bool (Lib.hasPrefix s.data.toList p.data.toList)]) ∧ w' = w := Any.strings_CutPrefix Tryz.lays103 s p w
open Go.RowKit in
theorem Tryz.Builder_String_any_f (B b : Nat) (l : List UInt8) (w : World) (h : Lib.IsBuilderF 91 5 B b (Lib.byteCells l) w) (hBw : B ≤ w.heap.size) :
    Calls Tryz.prog 55 #[.pointer (some ⟨b, 0, none⟩)] w fun e w' => e = .returned (.string ⟨l.toArray⟩) ∧ (Lib.IsBuilderF 91 5 B b (Lib.byteCells l) w' ∧ Below B w w') := Any.Builder_String_any_f Tryz.lays169 Tryz.Builder_Extra_169 B b l w h hBw
def Tryz.lays283_ren : Go.Shelf.Ren := ⟨fun | 283 => 97 | n => n, fun | 3 => 3 | 9 => 9 | 4 => 4 | n => n, fun | n => n⟩
theorem Tryz.lays283 : Go.Proofs.Lays.n283 Tryz.prog Tryz.lays283_ren := {
  mixed := by kernel_rfl
  f283 := Tryz.func97.trans (congrArg some (by kernel_rfl))
  t3 := Tryz.underlying3
  a3 := Tryz.isAgg3
  z3 := Tryz.sizeOf3
  v3 := Tryz.zeroValue3
  t4 := Tryz.underlying4
  a4 := Tryz.isAgg4
  z4 := Tryz.sizeOf4
  v4 := Tryz.zeroValue4
  t9 := Tryz.underlying9
  a9 := Tryz.isAgg9
  z9 := Tryz.sizeOf9
  v9 := Tryz.zeroValue9 }
open Go.Lib in
theorem Tryz.internal_strconv_small (i : Nat) (h : i < 100) (w : World) :
    Calls Tryz.prog 97 #[.int .i64 i] w fun e w' => e = .returned (.string ⟨(Lib.decDigits i).toArray⟩) ∧ w' = w := Any.internal_strconv_small Tryz.lays283 i h w
def Tryz.laysM284_ren : Go.Shelf.Ren := ⟨fun | 284 => 98 | 129 => 119 | 317 => 118 | 318 => 120 | n => n, fun | 53 => 34 | 3 => 3 | 212 => 153 | 0 => 0 | 4 => 4 | 46 => 93 | 5 => 5 | 9 => 9 | n => n, fun | 17 => 0 | n => n⟩
theorem Tryz.laysM284 : Go.Proofs.LaysM.n284 Tryz.prog Tryz.laysM284_ren := {
  mixed := by kernel_rfl
  f129 := Tryz.func119.trans (congrArg some (by kernel_rfl))
  f284 := Tryz.func98.trans (congrArg some (by kernel_rfl))
  f317 := Tryz.func118.trans (congrArg some (by kernel_rfl))
  f318 := Tryz.func120.trans (congrArg some (by kernel_rfl))
  t0 := Tryz.underlying0
  a0 := Tryz.isAgg0
  z0 := Tryz.sizeOf0
  v0 := Tryz.zeroValue0
  t3 := Tryz.underlying3
  a3 := Tryz.isAgg3
  z3 := Tryz.sizeOf3
  v3 := Tryz.zeroValue3
  t4 := Tryz.underlying4
  a4 := Tryz.isAgg4
  z4 := Tryz.sizeOf4
  v4 := Tryz.zeroValue4
  t5 := Tryz.underlying5
  a5 := Tryz.isAgg5
  z5 := Tryz.sizeOf5
  v5 := Tryz.zeroValue5
  t9 := Tryz.underlying9
  a9 := Tryz.isAgg9
  z9 := Tryz.sizeOf9
  v9 := Tryz.zeroValue9
  t46 := Tryz.underlying93
  a46 := Tryz.isAgg93
  z46 := Tryz.sizeOf93
  v46 := Tryz.zeroValue93
  t53 := Tryz.underlying34
  a53 := Tryz.isAgg34
  z53 := Tryz.sizeOf34
  v53 := Tryz.zeroValue34
  t212 := Tryz.underlying153
  a212 := Tryz.isAgg153
  z212 := Tryz.sizeOf153
  v212 := Tryz.zeroValue153
  g17 := by kernel_rfl
  i0 := by kernel_rfl
  i3 := by kernel_rfl
  i4 := by kernel_rfl
  i5 := by kernel_rfl
  i9 := by kernel_rfl
  i46 := by kernel_rfl
  i53 := by kernel_rfl
  i212 := by kernel_rfl
  m17 := by kernel_rfl }
open Go.Lib in
theorem Tryz.internal_strconv_numDigits (u : Nat) (h1 : 1 ≤ u) (h2 : u < 18446744073709551616) (w : World) (htab : Lib.TabIs Tryz.prog w "internal/strconv.uint64pow10" .u64 Lib.pow10Tab) :
    Calls Tryz.prog 98 #[.int .u64 u] w fun e w' => e = .returned (.int .i64 (Lib.nDigits u)) ∧ w' = w := Any.internal_strconv_numDigits Tryz.laysM284 u h1 h2 w htab
def Tryz.lays285_ren : Go.Shelf.Ren := ⟨fun | 285 => 99 | n => n, fun | 37 => 70 | 53 => 34 | 3 => 3 | 4 => 4 | 51 => 92 | 9 => 9 | 5 => 5 | 0 => 0 | n => n, fun | n => n⟩
theorem Tryz.lays285 : Go.Proofs.Lays.n285 Tryz.prog Tryz.lays285_ren := {
  mixed := by kernel_rfl
  f285 := Tryz.func99.trans (congrArg some (by kernel_rfl))
  t0 := Tryz.underlying0
  a0 := Tryz.isAgg0
  z0 := Tryz.sizeOf0
  v0 := Tryz.zeroValue0
  t3 := Tryz.underlying3
  a3 := Tryz.isAgg3
  z3 := Tryz.sizeOf3
  v3 := Tryz.zeroValue3
  t4 := Tryz.underlying4
  a4 := Tryz.isAgg4
  z4 := Tryz.sizeOf4
  v4 := Tryz.zeroValue4
  t5 := Tryz.underlying5
  a5 := Tryz.isAgg5
  z5 := Tryz.sizeOf5
  v5 := Tryz.zeroValue5
  t9 := Tryz.underlying9
  a9 := Tryz.isAgg9
  z9 := Tryz.sizeOf9
  v9 := Tryz.zeroValue9
  t37 := Tryz.underlying70
  a37 := Tryz.isAgg70
  z37 := Tryz.sizeOf70
  v37 := Tryz.zeroValue70
  t51 := Tryz.underlying92
  a51 := Tryz.isAgg92
  z51 := Tryz.sizeOf92
  v51 := Tryz.zeroValue92
  t53 := Tryz.underlying34
  a53 := Tryz.isAgg34
  z53 := Tryz.sizeOf34
  v53 := Tryz.zeroValue34 }
open Go.RowKit Go.Sort Go.Lib in
theorem Tryz.internal_strconv_formatBase10 (blk off cap : Nat) (u : Nat) (d : Array UInt8) (w : World) (hH : Holds (fun (b : UInt8) => Value.int .u8 (b.toNat : Int)) w blk off d) (hu : u < 10 ^ d.size) (hu64 : u < 18446744073709551616) (hsz : d.size < 4611686018427387904) :
    Calls Tryz.prog 99 #[.slice (some ⟨blk, off, none⟩) d.size cap, .int .u64 u] w fun e w' =>
      e = .returned (.tuple #[]) ∧ ∃ (n v' : Nat) (dk : Array UInt8), w' = (putRow (fun (b : UInt8) => Value.int .u8 (b.toNat : Int)) w blk off dk).drewN n ∧ FmtInv d.size u 0 v' dk := Any.internal_strconv_formatBase10 Tryz.lays285 blk off cap u d w hH hu hu64 hsz
def Tryz.laysPu14_ren : Go.Shelf.Ren := ⟨fun | 14 => 69 | 16 => 85 | 17 => 86 | 19 => 104 | 20 => 105 | 21 => 106 | 22 => 107 | 23 => 108 | 24 => 109 | 25 => 123 | 27 => 125 | 26 => 124 | 28 => 135 | 29 => 138 | 30 => 97 | 31 => 98 | 32 => 99 | 33 => 100 | 35 => 119 | 34 => 118 | 36 => 120 | 37 => 121 | 38 => 122 | 39 => 133 | 40 => 134 | n => n, fun | 9 => 9 | 3 => 3 | 22 => 34 | 24 => 95 | 25 => 112 | 4 => 4 | 34 => 143 | 5 => 5 | 36 => 93 | 37 => 70 | 0 => 0 | 39 => 145 | 21 => 21 | 44 => 157 | 47 => 119 | 50 => 163 | 48 => 161 | 2 => 2 | 52 => 137 | 55 => 140 | 59 => 153 | 60 => 92 | 20 => 20 | 61 => 154 | 65 => 171 | 66 => 172 | 67 => 98 | n => n, fun | 0 => 2 | 1 => 3 | 2 => 0 | 3 => 6 | 4 => 7 | n => n⟩
theorem Tryz.laysPu14 : Go.Proofs.LaysPu.n14 Tryz.prog Tryz.laysPu14_ren := {
  mixed := by kernel_rfl
  f14 := Tryz.func69.trans (congrArg some (by kernel_rfl))
  f16 := Tryz.func85.trans (congrArg some (by kernel_rfl))
  f17 := Tryz.func86.trans (congrArg some (by kernel_rfl))
  f19 := Tryz.func104.trans (congrArg some (by kernel_rfl))
  f20 := Tryz.func105.trans (congrArg some (by kernel_rfl))
  f21 := Tryz.func106.trans (congrArg some (by kernel_rfl))
  f22 := Tryz.func107.trans (congrArg some (by kernel_rfl))
  f23 := Tryz.func108.trans (congrArg some (by kernel_rfl))
  f24 := Tryz.func109.trans (congrArg some (by kernel_rfl))
  f25 := Tryz.func123.trans (congrArg some (by kernel_rfl))
  f26 := Tryz.func124.trans (congrArg some (by kernel_rfl))
  f27 := Tryz.func125.trans (congrArg some (by kernel_rfl))
  f28 := Tryz.func135.trans (congrArg some (by kernel_rfl))
  f29 := Tryz.func138.trans (congrArg some (by kernel_rfl))
  f30 := Tryz.func97.trans (congrArg some (by kernel_rfl))
  f31 := Tryz.func98.trans (congrArg some (by kernel_rfl))
  f32 := Tryz.func99.trans (congrArg some (by kernel_rfl))
  f33 := Tryz.func100.trans (congrArg some (by kernel_rfl))
  f34 := Tryz.func118.trans (congrArg some (by kernel_rfl))
  f35 := Tryz.func119.trans (congrArg some (by kernel_rfl))
  f36 := Tryz.func120.trans (congrArg some (by kernel_rfl))
  f37 := Tryz.func121.trans (congrArg some (by kernel_rfl))
  f38 := Tryz.func122.trans (congrArg some (by kernel_rfl))
  f39 := Tryz.func133.trans (congrArg some (by kernel_rfl))
  f40 := Tryz.func134.trans (congrArg some (by kernel_rfl))
  t0 := Tryz.underlying0
  a0 := Tryz.isAgg0
  z0 := Tryz.sizeOf0
  v0 := Tryz.zeroValue0
  i0 := by kernel_rfl
  t2 := Tryz.underlying2
  a2 := Tryz.isAgg2
  z2 := Tryz.sizeOf2
  v2 := Tryz.zeroValue2
  i2 := by kernel_rfl
  t3 := Tryz.underlying3
  a3 := Tryz.isAgg3
  z3 := Tryz.sizeOf3
  v3 := Tryz.zeroValue3
  i3 := by kernel_rfl
  t4 := Tryz.underlying4
  a4 := Tryz.isAgg4
  z4 := Tryz.sizeOf4
  v4 := Tryz.zeroValue4
  i4 := by kernel_rfl
  t5 := Tryz.underlying5
  a5 := Tryz.isAgg5
  z5 := Tryz.sizeOf5
  v5 := Tryz.zeroValue5
  i5 := by kernel_rfl
  t9 := Tryz.underlying9
  a9 := Tryz.isAgg9
  z9 := Tryz.sizeOf9
  v9 := Tryz.zeroValue9
  i9 := by kernel_rfl
  t20 := Tryz.underlying20
  a20 := Tryz.isAgg20
  z20 := Tryz.sizeOf20
  v20 := Tryz.zeroValue20
  i20 := by kernel_rfl
  t21 := Tryz.underlying21
  a21 := Tryz.isAgg21
  z21 := Tryz.sizeOf21
  v21 := Tryz.zeroValue21
  i21 := by kernel_rfl
  t22 := Tryz.underlying34
  a22 := Tryz.isAgg34
  z22 := Tryz.sizeOf34
  v22 := Tryz.zeroValue34
  i22 := by kernel_rfl
  t24 := Tryz.underlying95
  a24 := Tryz.isAgg95
  z24 := Tryz.sizeOf95
  v24 := Tryz.zeroValue95
  i24 := by kernel_rfl
  t25 := Tryz.underlying112
  a25 := Tryz.isAgg112
  z25 := Tryz.sizeOf112
  v25 := Tryz.zeroValue112
  i25 := by kernel_rfl
  t34 := Tryz.underlying143
  a34 := Tryz.isAgg143
  z34 := Tryz.sizeOf143
  v34 := Tryz.zeroValue143
  i34 := by kernel_rfl
  c34 := by kernel_rfl
  t36 := Tryz.underlying93
  a36 := Tryz.isAgg93
  z36 := Tryz.sizeOf93
  v36 := Tryz.zeroValue93
  i36 := by kernel_rfl
  t37 := Tryz.underlying70
  a37 := Tryz.isAgg70
  z37 := Tryz.sizeOf70
  v37 := Tryz.zeroValue70
  i37 := by kernel_rfl
  t39 := Tryz.underlying145
  a39 := Tryz.isAgg145
  z39 := Tryz.sizeOf145
  v39 := Tryz.zeroValue145
  i39 := by kernel_rfl
  t44 := Tryz.underlying157
  a44 := Tryz.isAgg157
  z44 := Tryz.sizeOf157
  v44 := Tryz.zeroValue157
  i44 := by kernel_rfl
  t47 := Tryz.underlying119
  a47 := Tryz.isAgg119
  z47 := Tryz.sizeOf119
  v47 := Tryz.zeroValue119
  i47 := by kernel_rfl
  t48 := Tryz.underlying161
  a48 := Tryz.isAgg161
  z48 := Tryz.sizeOf161
  v48 := Tryz.zeroValue161
  i48 := by kernel_rfl
  t50 := Tryz.underlying163
  a50 := Tryz.isAgg163
  z50 := Tryz.sizeOf163
  v50 := Tryz.zeroValue163
  i50 := by kernel_rfl
  t52 := Tryz.underlying137
  a52 := Tryz.isAgg137
  z52 := Tryz.sizeOf137
  v52 := Tryz.zeroValue137
  i52 := by kernel_rfl
  t55 := Tryz.underlying140
  a55 := Tryz.isAgg140
  z55 := Tryz.sizeOf140
  v55 := Tryz.zeroValue140
  i55 := by kernel_rfl
  t59 := Tryz.underlying153
  a59 := Tryz.isAgg153
  z59 := Tryz.sizeOf153
  v59 := Tryz.zeroValue153
  i59 := by kernel_rfl
  t60 := Tryz.underlying92
  a60 := Tryz.isAgg92
  z60 := Tryz.sizeOf92
  v60 := Tryz.zeroValue92
  i60 := by kernel_rfl
  t61 := Tryz.underlying154
  a61 := Tryz.isAgg154
  z61 := Tryz.sizeOf154
  t65 := Tryz.underlying171
  a65 := Tryz.isAgg171
  z65 := Tryz.sizeOf171
  v65 := Tryz.zeroValue171
  i65 := by kernel_rfl
  t66 := Tryz.underlying172
  a66 := Tryz.isAgg172
  z66 := Tryz.sizeOf172
  v66 := Tryz.zeroValue172
  i66 := by kernel_rfl
  t67 := Tryz.underlying98
  a67 := Tryz.isAgg98
  z67 := Tryz.sizeOf98
  v67 := Tryz.zeroValue98
  i67 := by kernel_rfl
  g0 := by kernel_rfl
  m0 := by kernel_rfl
  g1 := by kernel_rfl
  m1 := by kernel_rfl
  g2 := by kernel_rfl
  m2 := by kernel_rfl
  g3 := by kernel_rfl
  m3 := by kernel_rfl
  g4 := by kernel_rfl
  m4 := by kernel_rfl }
open Go.RowKit in
theorem Tryz.strconv_ParseUint_10_at64_ok (s : ByteArray) (hmax : s.size ≤ 9223372036854775806) (u : Nat) (h : Lib.parseUintB 64 s.data.toList = .ok u) (w : World) :
    Calls Tryz.prog 69 #[.string s, .int .i64 10, .int .i64 64] w fun e w' => e = .returned (.tuple #[.int .u64 u, .nilIface]) ∧ (w' = w ∨ w' = Lib.bytesWorld w 5 s) := Any.strconv_ParseUint_10_at64_ok Tryz.laysPu14 s hmax u h w
open Go.RowKit in
theorem Tryz.strconv_ParseUint_10_at64_range_var (s : ByteArray) (hlim : s.size ≤ 281474976710656) (h : Lib.parseUintB 64 s.data.toList = .range) (tp : TypeId) (p : Value) (w : World) (hvar : w.var? Tryz.prog "strconv.ErrRange" = some #[.iface tp p]) :
    Calls Tryz.prog 69 #[.string s, .int .i64 10, .int .i64 64] w fun e w' => ∃ N, e = .returned (.tuple #[.int .u64 18446744073709551615, .iface 145 (.pointer (some ⟨N, 0, none⟩))]) ∧ w.heap.size ≤ N ∧ w'.heap[N]? = some (.cells #[.string ⟨#[80, 97, 114, 115, 101, 85, 105, 110, 116]⟩, .string s, .iface tp p] 157 (0, 0)) ∧ Below w.heap.size w w' := Any.strconv_ParseUint_10_at64_range_var Tryz.laysPu14 s hlim h tp p w hvar
def Tryz.lays144_ren : Go.Shelf.Ren := ⟨fun | 144 => 78 | 143 => 91 | 219 => 114 | 217 => 84 | 225 => 128 | 224 => 129 | 267 => 130 | 266 => 103 | 314 => 136 | n => n, fun | 9 => 9 | 4 => 4 | 3 => 3 | 5 => 5 | 46 => 93 | 146 => 168 | 51 => 92 | n => n, fun | 1 => 1 | n => n⟩
theorem Tryz.lays144 : Go.Proofs.Lays.n144 Tryz.prog Tryz.lays144_ren := {
  mixed := by kernel_rfl
  f143 := Tryz.func91.trans (congrArg some (by kernel_rfl))
  f144 := Tryz.func78.trans (congrArg some (by kernel_rfl))
  f217 := Tryz.func84.trans (congrArg some (by kernel_rfl))
  f219 := Tryz.func114.trans (congrArg some (by kernel_rfl))
  f224 := Tryz.func129.trans (congrArg some (by kernel_rfl))
  f225 := Tryz.func128.trans (congrArg some (by kernel_rfl))
  f266 := Tryz.func103.trans (congrArg some (by kernel_rfl))
  f267 := Tryz.func130.trans (congrArg some (by kernel_rfl))
  f314 := Tryz.func136.trans (congrArg some (by kernel_rfl))
  t3 := Tryz.underlying3
  a3 := Tryz.isAgg3
  z3 := Tryz.sizeOf3
  v3 := Tryz.zeroValue3
  t4 := Tryz.underlying4
  a4 := Tryz.isAgg4
  z4 := Tryz.sizeOf4
  v4 := Tryz.zeroValue4
  t5 := Tryz.underlying5
  a5 := Tryz.isAgg5
  z5 := Tryz.sizeOf5
  v5 := Tryz.zeroValue5
  t9 := Tryz.underlying9
  a9 := Tryz.isAgg9
  z9 := Tryz.sizeOf9
  v9 := Tryz.zeroValue9
  t46 := Tryz.underlying93
  a46 := Tryz.isAgg93
  z46 := Tryz.sizeOf93
  v46 := Tryz.zeroValue93
  t51 := Tryz.underlying92
  a51 := Tryz.isAgg92
  z51 := Tryz.sizeOf92
  v51 := Tryz.zeroValue92
  t146 := Tryz.underlying168
  a146 := Tryz.isAgg168
  z146 := Tryz.sizeOf168
  v146 := Tryz.zeroValue168
  g1 := by kernel_rfl }
open Go.RowKit Go.Lib in
theorem Tryz.strings_Contains (s sub : ByteArray) (m : Int) (w : World) (hs : s.size < 4294967281) (hm : w.cell? ⟨1, 0, none⟩ = some (.int .i64 m)) :
    Calls Tryz.prog 78 #[.string s, .string sub] w fun e w' => e = .returned (.bool (Lib.contains s.data.toList sub.data.toList)) ∧ w' = w := Any.strings_Contains Tryz.lays144 s sub m w hs hm
def Tryz.lays206_ren : Go.Shelf.Ren := ⟨fun | 206 => 102 | n => n, fun | 9 => 9 | 4 => 4 | 3 => 3 | n => n, fun | n => n⟩
theorem Tryz.lays206 : Go.Proofs.Lays.n206 Tryz.prog Tryz.lays206_ren := {
  mixed := by kernel_rfl
  f206 := Tryz.func102.trans (congrArg some (by kernel_rfl))
  t3 := Tryz.underlying3
  a3 := Tryz.isAgg3
  z3 := Tryz.sizeOf3
  v3 := Tryz.zeroValue3
  t4 := Tryz.underlying4
  a4 := Tryz.isAgg4
  z4 := Tryz.sizeOf4
  v4 := Tryz.zeroValue4
  t9 := Tryz.underlying9
  a9 := Tryz.isAgg9
  z9 := Tryz.sizeOf9
  v9 := Tryz.zeroValue9 }
open Go.RowKit Go.Lib in
theorem Tryz.stringslite_HasPrefix (s p : ByteArray) (w : World) :
    Calls Tryz.prog 102 #[.string s, .string p] w fun e w' => e = .returned (.bool (Lib.hasPrefix s.data.toList p.data.toList)) ∧ w' = w := Any.stringslite_HasPrefix Tryz.lays206 s p w
def Tryz.lays146_ren : Go.Shelf.Ren := ⟨fun | 146 => 48 | 221 => 72 | 268 => 89 | 138 => 90 | 143 => 91 | 195 => 111 | 197 => 112 | 218 => 113 | 219 => 114 | 260 => 127 | 217 => 84 | 225 => 128 | 224 => 129 | 267 => 130 | 266 => 103 | 314 => 136 | n => n, fun | 9 => 9 | 31 => 66 | 3 => 3 | 4 => 4 | 0 => 0 | 105 => 148 | 21 => 21 | 5 => 5 | 46 => 93 | 119 => 164 | 139 => 167 | 138 => 166 | 146 => 168 | 51 => 92 | n => n, fun | 1 => 1 | 3 => 4 | 4 => 5 | n => n⟩
theorem Tryz.lays146 : Go.Proofs.Lays.n146 Tryz.prog Tryz.lays146_ren := {
  mixed := by kernel_rfl
  f138 := Tryz.func90.trans (congrArg some (by kernel_rfl))
  f143 := Tryz.func91.trans (congrArg some (by kernel_rfl))
  f146 := Tryz.func48.trans (congrArg some (by kernel_rfl))
  f195 := Tryz.func111.trans (congrArg some (by kernel_rfl))
  f197 := Tryz.func112.trans (congrArg some (by kernel_rfl))
  f217 := Tryz.func84.trans (congrArg some (by kernel_rfl))
  f218 := Tryz.func113.trans (congrArg some (by kernel_rfl))
  f219 := Tryz.func114.trans (congrArg some (by kernel_rfl))
  f221 := Tryz.func72.trans (congrArg some (by kernel_rfl))
  f224 := Tryz.func129.trans (congrArg some (by kernel_rfl))
  f225 := Tryz.func128.trans (congrArg some (by kernel_rfl))
  f260 := Tryz.func127.trans (congrArg some (by kernel_rfl))
  f266 := Tryz.func103.trans (congrArg some (by kernel_rfl))
  f267 := Tryz.func130.trans (congrArg some (by kernel_rfl))
  f268 := Tryz.func89.trans (congrArg some (by kernel_rfl))
  f314 := Tryz.func136.trans (congrArg some (by kernel_rfl))
  t0 := Tryz.underlying0
  a0 := Tryz.isAgg0
  z0 := Tryz.sizeOf0
  v0 := Tryz.zeroValue0
  t3 := Tryz.underlying3
  a3 := Tryz.isAgg3
  z3 := Tryz.sizeOf3
  v3 := Tryz.zeroValue3
  t4 := Tryz.underlying4
  a4 := Tryz.isAgg4
  z4 := Tryz.sizeOf4
  v4 := Tryz.zeroValue4
  t5 := Tryz.underlying5
  a5 := Tryz.isAgg5
  z5 := Tryz.sizeOf5
  v5 := Tryz.zeroValue5
  t9 := Tryz.underlying9
  a9 := Tryz.isAgg9
  z9 := Tryz.sizeOf9
  v9 := Tryz.zeroValue9
  t21 := Tryz.underlying21
  a21 := Tryz.isAgg21
  z21 := Tryz.sizeOf21
  v21 := Tryz.zeroValue21
  t31 := Tryz.underlying66
  a31 := Tryz.isAgg66
  z31 := Tryz.sizeOf66
  v31 := Tryz.zeroValue66
  t46 := Tryz.underlying93
  a46 := Tryz.isAgg93
  z46 := Tryz.sizeOf93
  v46 := Tryz.zeroValue93
  t51 := Tryz.underlying92
  a51 := Tryz.isAgg92
  z51 := Tryz.sizeOf92
  v51 := Tryz.zeroValue92
  t105 := Tryz.underlying148
  a105 := Tryz.isAgg148
  z105 := Tryz.sizeOf148
  v105 := Tryz.zeroValue148
  t119 := Tryz.underlying164
  a119 := Tryz.isAgg164
  z119 := Tryz.sizeOf164
  t138 := Tryz.underlying166
  a138 := Tryz.isAgg166
  z138 := Tryz.sizeOf166
  v138 := Tryz.zeroValue166
  t139 := Tryz.underlying167
  a139 := Tryz.isAgg167
  z139 := Tryz.sizeOf167
  v139 := Tryz.zeroValue167
  t146 := Tryz.underlying168
  a146 := Tryz.isAgg168
  z146 := Tryz.sizeOf168
  v146 := Tryz.zeroValue168
  g1 := by kernel_rfl
  g3 := by kernel_rfl
  g4 := by kernel_rfl }
open Go.RowKit Go.Lib in
theorem Tryz.strings_Split (s sep : ByteArray) (m : Int) (w : World) (hs : s.size < 4294967281) (hm : w.cell? ⟨1, 0, none⟩ = some (.int .i64 m)) (h1 : 1 ≤ sep.size) :
    Calls Tryz.prog 48 #[.string s, .string sep] w fun e w' =>
      e = .returned (.slice (some ⟨w.heap.size, 0, none⟩) (Lib.countB s sep + 1) (Lib.countB s sep + 1)) ∧ w' = w.alloc (.cells ((Lib.splitB sep 0 (Lib.countB s sep) s).map Value.string).toArray 9) := Any.strings_Split Tryz.lays146 (by kernel_rfl) s sep m w hs hm h1
end Go.Proofs
end
section
namespace Go.Proofs.YtfboejlemnfndaaGreatDoor.B64

def lt (v : Nat) : Nat := if v < 26 then 65 + v else if v < 52 then 71 + v else if v < 62 then v - 4 else if v = 62 then 43 else 47
theorem lt_range (v : Nat) (h : v < 64) : 43 ≤ lt v ∧ lt v ≤ 122 ∧ lt v ≠ 61 := by
  unfold lt
  split
  · omega
  · split
    · omega
    · split
      · omega
      · split <;> omega
theorem lt_inj (v u : Nat) (hv : v < 64) (hu : u < 64) (h : lt v = lt u) : v = u := by
  unfold lt at h
  repeat' split at h
  all_goals omega

def word (l : List UInt8) : Nat := (l.getD 0 0).toNat * 65536 + (l.getD 1 0).toNat * 256 + (l.getD 2 0).toNat
theorem word_lt (l : List UInt8) : word l < 16777216 := by
  unfold word
  have h0 := (l.getD 0 0).toNat_lt
  have h1 := (l.getD 1 0).toNat_lt
  have h2 := (l.getD 2 0).toNat_lt
  omega
def let8 (v : Nat) : UInt8 := UInt8.ofNat (lt v)
theorem let8_toNat (v : Nat) (h : v < 64) : (let8 v).toNat = lt v := by
  have := lt_range v h
  unfold let8
  rw [UInt8.toNat_ofNat']
  omega
theorem let8_ne (v : Nat) (h : v < 64) : let8 v ≠ 61 := by
  intro e
  have h1 := let8_toNat v h
  rw [e] at h1
  have := lt_range v h
  exact this.2.2 h1.symm
theorem let8_inj (v u : Nat) (hv : v < 64) (hu : u < 64) (h : let8 v = let8 u) : v = u := by
  refine lt_inj v u hv hu ?_
  rw [← let8_toNat v hv, ← let8_toNat u hu, h]
def four (l : List UInt8) : List UInt8 :=
  [let8 (word l / 262144), let8 (word l / 4096 % 64), if 1 < l.length then let8 (word l / 64 % 64) else 61, if 2 < l.length then let8 (word l % 64) else 61]
def encN : Nat → List UInt8 → List UInt8
  | 0, _ => []
  | n + 1, l => if l = [] then [] else four l ++ encN n (l.drop 3)
def enc (l : List UInt8) : List UInt8 := encN l.length l
theorem encN_more (n m : Nat) (l : List UInt8) (h : l.length ≤ n) (h' : l.length ≤ m) : encN n l = encN m l := by
  induction n generalizing m l with
  | zero =>
    obtain rfl : l = [] := List.length_eq_zero_iff.1 (by omega)
    cases m <;> simp [encN]
  | succ n ih =>
    cases m with
    | zero =>
      obtain rfl : l = [] := List.length_eq_zero_iff.1 (by omega)
      simp [encN]
    | succ m =>
      unfold encN
      split
      · rfl
      · rename_i hl
        have : 0 < l.length := List.length_pos_iff.2 hl
        rw [ih m (l.drop 3) (by rw [List.length_drop]; omega) (by rw [List.length_drop]; omega)]
theorem enc_nil : enc [] = [] := rfl
theorem enc_step (l : List UInt8) (h : l ≠ []) : enc l = four l ++ enc (l.drop 3) := by
  have hp : 0 < l.length := List.length_pos_iff.2 h
  unfold enc
  obtain ⟨n, hn⟩ : ∃ n, l.length = n + 1 := ⟨l.length - 1, by omega⟩
  rw [hn]
  rw [encN, if_neg h, encN_more n (l.drop 3).length (l.drop 3) (by rw [List.length_drop]; omega) (Nat.le_refl _)]
theorem four_length (l : List UInt8) : (four l).length = 4 := rfl
theorem getD_append {l m : List UInt8} {i : Nat} (h : i < l.length) : (l ++ m).getD i 0 = l.getD i 0 := by
  rw [List.getD_eq_getElem?_getD, List.getD_eq_getElem?_getD, List.getElem?_append_left h]
theorem four_take (l m : List UInt8) (h : 3 ≤ l.length) : four (l ++ m) = four l := by
  unfold four word
  rw [getD_append (by omega), getD_append (by omega), getD_append (by omega)]
  simp only [List.length_append]
  rw [if_pos (by omega), if_pos (by omega), if_pos (by omega), if_pos (by omega)]
theorem enc_append (a b : List UInt8) (h : a.length % 3 = 0) : enc (a ++ b) = enc a ++ enc b := by
  induction hn : a.length using Nat.strongRecOn generalizing a with
  | _ n ih =>
    by_cases he : a = []
    · subst he; rfl
    · have hp : 0 < a.length := List.length_pos_iff.2 he
      rw [enc_step a he, enc_step (a ++ b) (by simp [he]), four_take a b (by omega), List.append_assoc]
      rw [List.drop_append_of_le_length (by omega), ih (a.drop 3).length (by rw [List.length_drop]; omega) (a.drop 3) (by rw [List.length_drop]; omega) rfl]
theorem enc_length (a : List UInt8) : (enc a).length = (a.length + 2) / 3 * 4 := by
  induction hn : a.length using Nat.strongRecOn generalizing a with
  | _ n ih =>
    by_cases he : a = []
    · subst he; subst hn; rfl
    · have hp : 0 < a.length := List.length_pos_iff.2 he
      rw [enc_step a he, List.length_append, four_length, ih (a.drop 3).length (by rw [List.length_drop]; omega) (a.drop 3) rfl, List.length_drop]
      omega
theorem list_of_getD (l m : List UInt8) (hl : l.length = m.length) (h : ∀ i, i < l.length → l.getD i 0 = m.getD i 0) : l = m := by
  apply List.ext_getElem hl
  intro i h1 h2
  have := h i h1
  rw [List.getD_eq_getElem?_getD, List.getD_eq_getElem?_getD, List.getElem?_eq_getElem h1, List.getElem?_eq_getElem h2] at this
  exact this
theorem word_of_four (x y : List UInt8) (hx : x.length ≤ 3) (hy : y.length ≤ 3) (hx0 : x ≠ []) (hy0 : y ≠ []) (h : four x = four y) : x = y := by
  have px : 0 < x.length := List.length_pos_iff.2 hx0
  have py : 0 < y.length := List.length_pos_iff.2 hy0
  have wx := word_lt x
  have wy := word_lt y
  unfold four at h
  simp only [List.cons.injEq, and_true] at h
  obtain ⟨h0, h1, h2, h3⟩ := h
  have e0 := let8_inj _ _ (by omega) (by omega) h0
  have e1 := let8_inj _ _ (by omega) (by omega) h1
  have b0 := (x.getD 0 0).toNat_lt
  have b1 := (x.getD 1 0).toNat_lt
  have b2 := (x.getD 2 0).toNat_lt
  have c0 := (y.getD 0 0).toNat_lt
  have c1 := (y.getD 1 0).toNat_lt
  have c2 := (y.getD 2 0).toNat_lt
  have toN : ∀ a b : UInt8, a.toNat = b.toNat → a = b := fun a b hab => UInt8.toNat_inj.1 hab
  have zx : ∀ i, x.length ≤ i → (x.getD i 0).toNat = 0 := fun i hi => by rw [List.getD_eq_getElem?_getD, List.getElem?_eq_none hi]; rfl
  have zy : ∀ i, y.length ≤ i → (y.getD i 0).toNat = 0 := fun i hi => by rw [List.getD_eq_getElem?_getD, List.getElem?_eq_none hi]; rfl
  by_cases x1 : 1 < x.length
  · by_cases y1 : 1 < y.length
    · rw [if_pos x1, if_pos y1] at h2
      have e2 := let8_inj _ _ (by omega) (by omega) h2
      by_cases x2 : 2 < x.length
      · by_cases y2 : 2 < y.length
        · rw [if_pos x2, if_pos y2] at h3
          have e3 := let8_inj _ _ (by omega) (by omega) h3
          have hw : word x = word y := by omega
          unfold word at hw
          refine list_of_getD x y (by omega) (fun i hi => toN _ _ ?_)
          have : i = 0 ∨ i = 1 ∨ i = 2 := by omega
          rcases this with rfl | rfl | rfl <;> omega
        · rw [if_pos x2, if_neg y2] at h3
          exact absurd h3 (let8_ne _ (by omega))
      · by_cases y2 : 2 < y.length
        · rw [if_neg x2, if_pos y2] at h3
          exact absurd h3.symm (let8_ne _ (by omega))
        · have hx2 := zx 2 (by omega)
          have hy2 := zy 2 (by omega)
          have hw : word x / 64 = word y / 64 := by omega
          unfold word at hw
          refine list_of_getD x y (by omega) (fun i hi => toN _ _ ?_)
          have : i = 0 ∨ i = 1 := by omega
          rcases this with rfl | rfl <;> omega
    · rw [if_pos x1, if_neg y1] at h2
      exact absurd h2 (let8_ne _ (by omega))
  · by_cases y1 : 1 < y.length
    · rw [if_neg x1, if_pos y1] at h2
      exact absurd h2.symm (let8_ne _ (by omega))
    · have hx1 := zx 1 (by omega)
      have hy1 := zy 1 (by omega)
      have hx2 := zx 2 (by omega)
      have hy2 := zy 2 (by omega)
      have hw : word x / 4096 = word y / 4096 := by omega
      unfold word at hw
      refine list_of_getD x y (by omega) (fun i hi => toN _ _ ?_)
      have : i = 0 := by omega
      subst this
      omega
theorem four_take3 (l : List UInt8) : four (l.take 3) = four l := by
  by_cases h : 3 ≤ l.length
  · have := four_take (l.take 3) (l.drop 3) (by rw [List.length_take]; omega)
    rw [List.take_append_drop] at this
    exact this.symm
  · rw [List.take_of_length_le (by omega)]
theorem append_parts {a b c d : List UInt8} (hl : a.length = c.length) (h : a ++ b = c ++ d) : a = c ∧ b = d := List.append_inj h hl
theorem enc_inj (x y : List UInt8) (h : enc x = enc y) : x = y := by
  induction hn : x.length using Nat.strongRecOn generalizing x y with
  | _ n ih =>
    by_cases hx : x = []
    · subst hx
      by_cases hy : y = []
      · exact hy.symm
      · rw [enc_step y hy] at h
        exact absurd (congrArg List.length h) (by rw [enc_nil, List.length_append, four_length, List.length_nil]; omega)
    · by_cases hy : y = []
      · subst hy
        rw [enc_step x hx] at h
        exact absurd (congrArg List.length h) (by rw [enc_nil, List.length_append, four_length, List.length_nil]; omega)
      · rw [enc_step x hx, enc_step y hy] at h
        obtain ⟨h1, h2⟩ := append_parts (by rw [four_length, four_length]) h
        have hp : 0 < x.length := List.length_pos_iff.2 hx
        have e1 : x.take 3 = y.take 3 := by
          refine word_of_four _ _ (List.length_take_le _ _) (List.length_take_le _ _) ?_ ?_ ?_
          · intro e; have := congrArg List.length e; rw [List.length_take] at this; simp at this; exact hx this
          · intro e; have := congrArg List.length e; rw [List.length_take] at this; simp at this; exact hy this
          · rw [four_take3, four_take3]; exact h1
        have e2 := ih (x.drop 3).length (by rw [List.length_drop]; omega) (x.drop 3) (y.drop 3) h2 rfl
        rw [← List.take_append_drop 3 x, ← List.take_append_drop 3 y, e1, e2]
theorem enc_begin (a b t : List UInt8) (ha : a.length % 3 = 0) (h : enc b = enc a ++ t) : ∃ c, b = a ++ c ∧ enc c = t := by
  have hla : (enc a).length = a.length / 3 * 4 := by rw [enc_length]; omega
  have hlb : (enc b).length = (enc a).length + t.length := by rw [h, List.length_append]
  rw [hla, enc_length] at hlb
  have hab : a.length ≤ b.length + 2 := by omega
  by_cases hle : a.length ≤ b.length
  · have ht : (b.take a.length).length % 3 = 0 := by rw [List.length_take]; rw [Nat.min_eq_left hle]; exact ha
    have hb := enc_append (b.take a.length) (b.drop a.length) ht
    rw [List.take_append_drop, h] at hb
    obtain ⟨h1, h2⟩ := append_parts (by rw [enc_length, enc_length, List.length_take, Nat.min_eq_left hle]) hb
    have := enc_inj _ _ h1
    refine ⟨b.drop a.length, ?_, h2.symm⟩
    conv => lhs; rw [← List.take_append_drop a.length b, ← this]
  · -- b is shorter by one or two: its last letters are no whole three's
    have hb0 : b.length / 3 * 3 < b.length := by omega
    have hq : (b.take (b.length / 3 * 3)).length = b.length / 3 * 3 := by rw [List.length_take]; omega
    have hq' : (a.take (b.length / 3 * 3)).length = b.length / 3 * 3 := by rw [List.length_take]; omega
    have eb := enc_append (b.take (b.length / 3 * 3)) (b.drop (b.length / 3 * 3)) (by rw [hq]; omega)
    have ea := enc_append (a.take (b.length / 3 * 3)) (a.drop (b.length / 3 * 3)) (by rw [hq']; omega)
    rw [List.take_append_drop] at eb ea
    rw [h, ea, List.append_assoc] at eb
    obtain ⟨_, h2⟩ := append_parts (by rw [enc_length, enc_length, hq, hq']) eb
    have hd : (b.drop (b.length / 3 * 3)).length = b.length - b.length / 3 * 3 := List.length_drop
    have hd' : (a.drop (b.length / 3 * 3)).length = a.length - b.length / 3 * 3 := List.length_drop
    rw [enc_step (b.drop (b.length / 3 * 3)) (by intro e; rw [e] at hd; simp at hd; omega), enc_step (a.drop (b.length / 3 * 3)) (by intro e; rw [e] at hd'; simp at hd'; omega), List.append_assoc] at h2
    obtain ⟨h3, _⟩ := append_parts (by rw [four_length, four_length]) h2
    have := word_of_four _ _ (by rw [hd']; omega) (by rw [hd]; omega) (by intro e; rw [e] at hd'; simp at hd'; omega) (by intro e; rw [e] at hd; simp at hd; omega) h3
    have := congrArg List.length this
    rw [hd, hd'] at this
    omega
open Classical in
noncomputable def dec (s : List UInt8) : Option (List UInt8) := if h : ∃ b, enc b = s then some (Classical.choose h) else none
theorem dec_enc (b : List UInt8) : dec (enc b) = some b := by
  unfold dec
  rw [dif_pos ⟨b, rfl⟩]
  exact congrArg some (enc_inj _ _ (Classical.choose_spec (p := fun x => enc x = enc b) ⟨b, rfl⟩))
theorem dec_of (s b : List UInt8) (h : enc b = s) : dec s = some b := by subst h; exact dec_enc b
theorem dec_none (s : List UInt8) (h : ¬ ∃ b, enc b = s) : dec s = none := by unfold dec; rw [dif_neg h]
theorem dec_some (s b : List UInt8) (h : dec s = some b) : enc b = s := by
  unfold dec at h
  split at h
  · rename_i hx
    injection h with h
    subst h
    exact Classical.choose_spec hx
  · cases h
end Go.Proofs.YtfboejlemnfndaaGreatDoor.B64
end
section
namespace Go.Proofs.YtfboejlemnfndaaGreatDoor
open Go.RowKit Go.Shelf

theorem bldSize : (Tryz.prog.info? 91).map (·.size) = some 2 := by kernel_rfl
theorem bldLies : liesAt Tryz.prog Tryz.prog.depth 91 (2 / Tryz.prog.cellsOf 91) 0 91 1 = true := by kernel_rfl
theorem bldByte : (Tryz.prog.info? 5).map (fun i => (i.zero, i.size, i.bytes)) = some (some (.int .u8 0), 1, 1) := by kernel_rfl

set_option maxHeartbeats 2000000 in
set_option maxRecDepth 100000 in
theorem bld_check_fresh (b : Nat) (w : World) (h0 : w.cell? ⟨b, 0, none⟩ = some (.pointer none)) (hsh : w.shape? b = some (91, 2)) (hfz : w.frozen? ⟨b, 0, none⟩ = false) :
    Calls Tryz.prog 74 #[.pointer (some ⟨b, 0, none⟩)] w fun e w' => e = .returned (.tuple #[]) ∧ w' = w.setCell ⟨b, 0, none⟩ (.pointer (some ⟨b, 0, none⟩)) := by
  obtain ⟨j, hj, hjs⟩ := Option.map_eq_some_iff.1 bldSize
  go_enter Tryz.func74, Tryz.ntmps74
  go_wp2
  rw [Lib.run_to_unsafe w ⟨b, 0, none⟩ Tryz.underlying89 Tryz.underlying128 hj (by rw [hjs]; decide) hsh (Nat.zero_lt_succ 1)]
  simp only [Result.andThen]
  rw [Oper.upon_value]
  go_wp2
  rw [run_callFunc_extern Tryz.func92 (by kernel_rfl) (by kernel_rfl) (by kernel_rfl) (e := Extern.AbiNoEscape.same) (by kernel_rfl)]
  rw [Lib.run_noEscape]
  simp only [Result.andThen]
  rw [Oper.upon_value]
  go_wp2
  rw [Lib.run_from_unsafe w ⟨b, 0, none⟩ Tryz.underlying128 Tryz.underlying89 hj hsh bldLies]
  simp only [Result.andThen]
  rw [Oper.upon_value]
  go_wp2
  go_end0
  exact ⟨rfl, rfl⟩

set_option maxHeartbeats 2000000 in
set_option maxRecDepth 100000 in
theorem bld_check_used (b : Nat) (w : World) (h0 : w.cell? ⟨b, 0, none⟩ = some (.pointer (some ⟨b, 0, none⟩))) :
    Calls Tryz.prog 74 #[.pointer (some ⟨b, 0, none⟩)] w fun e w' => e = .returned (.tuple #[]) ∧ w' = w := by
  obtain ⟨j, hj, _⟩ := Option.map_eq_some_iff.1 bldSize
  go_enter Tryz.func74, Tryz.ntmps74
  go_wp2
  rw [Lib.run_neq_ptr_same w _ Tryz.underlying89 hj]
  go_wp2
  go_end0
  exact ⟨rfl, rfl⟩

abbrev IsBld (B b : Nat) (l : List UInt8) (w : World) : Prop := Lib.IsBuilderF 91 5 B b (Lib.byteCells l) w

theorem bld_check (B b : Nat) (bs : List Value) (w : World) (h : Lib.IsBuilderF 91 5 B b bs w) :
    Calls Tryz.prog 74 #[.pointer (some ⟨b, 0, none⟩)] w fun e w' => e = .returned (.tuple #[]) ∧ Lib.BuilderAtF 91 5 B b (.pointer (some ⟨b, 0, none⟩)) bs w' ∧ Below B w w' := by
  rcases h with h | h
  · refine (bld_check_fresh b w h.cell0 h.shape h.frozen0).mono ?_
    rintro e w' ⟨rfl, rfl⟩
    exact ⟨rfl, h.used _, (Below.refl B w).setCell (p := ⟨b, 0, none⟩) h.1 _⟩
  · refine (bld_check_used b w h.cell0).mono ?_
    rintro e w' ⟨rfl, rfl⟩
    exact ⟨rfl, h, Below.refl B _⟩
theorem isBld_below {B b : Nat} {l : List UInt8} {W W' : World} (h : IsBld B b l W) (hb : Below W.heap.size W W') : IsBld B b l W' := by
  have go : ∀ p, Lib.BuilderAtF 91 5 B b p (Lib.byteCells l) W → Lib.BuilderAtF 91 5 B b p (Lib.byteCells l) W' := fun p h => by
    have hlt := h.lt
    obtain ⟨hB, v, hbk, hown, hne⟩ := h
    refine ⟨hB, v, (hb.block b hlt).trans hbk, ?_, hne⟩
    obtain ⟨h1, h2⟩ := hown
    refine ⟨h1, ?_⟩
    rcases h2 with h2 | ⟨g, cap, cur, fz, hv, hg, hh, r⟩
    · exact .inl h2
    · refine .inr ⟨g, cap, cur, fz, hv, hg, ?_, r⟩
      have : g < W.heap.size := by
        rcases Nat.lt_or_ge g W.heap.size with h' | h'
        · exact h'
        · simp [Array.getElem?_eq_none h'] at hh
      exact (hb.block g this).trans hh
  exact h.elim (fun x => .inl (go _ x)) (fun x => .inr (go _ x))
theorem isBld_fresh (w : World) : IsBld w.heap.size w.heap.size [] (w.alloc (.cells #[.pointer none, .slice none 0 0] 91)) := Lib.IsBuilderF.of (Lib.fresh_isBuilder _ _ w)
end Go.Proofs.YtfboejlemnfndaaGreatDoor
end
section
namespace Go.Proofs.YtfboejlemnfndaaGreatDoor
open Go.RowKit Go.Shelf

set_option maxHeartbeats 4000000 in
set_option maxRecDepth 100000 in
theorem bld_byte (B b : Nat) (l : List UInt8) (c : Int) (w : World) (h : IsBld B b l w) (h0 : 0 ≤ c) (h1 : c < 256) (hlen : l.length + 1 ≤ 140737488355328) (hBw : B ≤ w.heap.size) :
    Calls Tryz.prog 53 #[.pointer (some ⟨b, 0, none⟩), .int .u8 c] w fun e w' => e = .returned .nilIface ∧ IsBld B b (l ++ [UInt8.ofNat c.toNat]) w' ∧ Below B w w' := by
  obtain ⟨i0, hi, hz0, hz1, hz2⟩ := info_parts bldByte
  have hll : (Lib.byteCells l).length = l.length := Lib.byteCells_length l
  have HE : Hid (Lib.byteCells (l ++ [UInt8.ofNat c.toNat]) = Lib.byteCells l ++ [.int .u8 c]) := by
    show Lib.byteCells (l ++ [UInt8.ofNat c.toNat]) = Lib.byteCells l ++ [.int .u8 c]
    rw [Lib.byteCells_append]
    congr 1
    simp only [Lib.byteCells, List.map_cons, List.map_nil]
    congr 2
    rw [UInt8.toNat_ofNat']
    omega
  unfold IsBld at h ⊢
  rw [HE.out]
  have hlen' : (Lib.byteCells l).length + 1 ≤ 140737488355328 := by omega
  clear HE hll hlen
  generalize Lib.byteCells l = bs at *
  go_enter Tryz.func53, Tryz.ntmps53
  go_wp2_with (go_at_call 74; refine (bld_check B b bs _ h).mono ?_)
  rintro e w1 ⟨rfl, h1', hb1⟩
  obtain ⟨hB, v, hbk, hown, hne⟩ := h1'
  have c0 : w1.cell? ⟨b, 0, none⟩ = some (.pointer (some ⟨b, 0, none⟩)) := by rw [Lib.cell_of_heap hbk]; rfl
  have c1 : w1.cell? ⟨b, 1, none⟩ = some v := by rw [Lib.cell_of_heap hbk]; rfl
  go_wp2_with (at_builtin; refine wpList_append_ownF _ rfl _ _ 70 rfl B 5 i0 (.int .u8 0) 1 1 Tryz.underlying70 hi hz0 hz1 hz2 rfl (by decide) _ _ _ rfl (hown.alloc _) ⟨w1.heap.size, 0, none⟩ 1 1 [.int .u8 c] rfl rfl ?c1 ?c2 ?c3 ?c4 ?c5 ?_)
  case c1 =>
    intro j u hj
    match j, hj with
    | 0, hj => simp at hj; subst hj; simp [Addr.add]
  case c2 => intro u hu; simp at hu; subst hu; rfl
  case c3 => unfold maxLen; omega
  case c4 => omega
  case c5 => have := hb1.size; simp; omega
  intro v' w2 hown' hgrow _
  have hlt : b < w1.heap.size := by
    rcases Nat.lt_or_ge b w1.heap.size with h' | h'
    · exact h'
    · simp [Array.getElem?_eq_none h'] at hbk
  have hb2 : w2.heap[b]? = some (.cells #[.pointer (some ⟨b, 0, none⟩), v] 91 (0, 0)) := by
    rw [hgrow.block b (by simp; omega) (fun e => hne e.symm), Lib.alloc_old w1 _ b hlt]
    exact hbk
  have d0 : w2.cell? ⟨b, 0, none⟩ = some (.pointer (some ⟨b, 0, none⟩)) := by rw [Lib.cell_of_heap hb2]; rfl
  have d1 : w2.cell? ⟨b, 1, none⟩ = some v := by rw [Lib.cell_of_heap hb2]; rfl
  have f1 : w2.frozen? ⟨b, 1, none⟩ = false := Lib.frozen_of_heap hb2 1
  obtain ⟨g, cap, rfl⟩ : ∃ g cap, v' = .slice (some ⟨g, 0, none⟩) (bs.length + 1) cap := by
    rcases hown'.2 with ⟨_, h0⟩ | ⟨g, cap, cur, fz, hv, _⟩
    · omega
    · exact ⟨g, cap, hv⟩
  go_wp2
  go_ret
  refine ⟨rfl, .inr ?_, ?_⟩
  · exact Lib.BuilderAtF.put (T := 91) (e := 5) hB hb2 (bs' := bs ++ [.int .u8 c]) (by simpa using hown') (by decide)
  · exact ((hb1.alloc (by have := hb1.size; omega) _).grown hgrow (by have := hb1.size; simp; omega) (fun k hk => (hown.lt k hk).1)).setCell (p := ⟨b, 1, none⟩) hB _
end Go.Proofs.YtfboejlemnfndaaGreatDoor
end
section
namespace Go.Proofs.YtfboejlemnfndaaGreatDoor
theorem wraps_u32 (n : Int) (h₀ : 0 ≤ n) (h₁ : n < 2 ^ 32) : IntKind.u32.wrap n = n := by rw [IntKind.wrap_u32]; omega
theorem u32_or8 (x y : Int) (hx₀ : 0 ≤ x) (hx : x % 256 = 0) (hx₁ : x < 4294967296) (h₀ : 0 ≤ y) (h₁ : y < 256) : bits .or .u32 x y = x + y :=
  bits_join .u32 32 (by decide) wraps_u32 8 x y hx₀ hx hx₁ h₀ h₁ (by omega)
theorem u32_or6 (x y : Int) (hx₀ : 0 ≤ x) (hx : x % 64 = 0) (hx₁ : x < 4294967296) (h₀ : 0 ≤ y) (h₁ : y < 64) : bits .or .u32 x y = x + y :=
  bits_join .u32 32 (by decide) wraps_u32 6 x y hx₀ hx hx₁ h₀ h₁ (by omega)
theorem u32_and63 (x : Int) (h₀ : 0 ≤ x) (h₁ : x < 4294967296) : bits .and .u32 x 63 = x % 64 := bits_mask .u32 32 (by decide) wraps_u32 6 (by decide) x h₀ h₁
end Go.Proofs.YtfboejlemnfndaaGreatDoor
end
section
namespace Go.Proofs.YtfboejlemnfndaaGreatDoor.XMr
open Go.RowKit Go.Proofs.YtfboejlemnfndaaGreatDoorW.PrintWords Go.Proofs.YtfboejlemnfndaaGreatDoorW.PrintLast Go.Proofs.YtfboejlemnfndaaGreatDoorW.PrintMore
attribute [local go_sem] extract_sub max2_int min2_int max_two min_two max_three min_three max_four min_four   -- for this text's walks alone
set_option linter.unusedVariables false
set_option linter.unusedSimpArgs false

noncomputable section
def meta_Encode.f (a0 : ByteArray) : Option ByteArray := if a0.size ≤ 1099511627776 then some ⟨(B64.enc a0.data.toList).toArray⟩ else none
def meta_Encode.ERel (a0 : ByteArray) (w : World) (t : ByteArray) (acc : List UInt8) (wr : World) : Prop :=
 IsBld w.heap.size w.heap.size acc wr ∧ Below w.heap.size w wr ∧ acc ++ B64.enc t.data.toList = B64.enc a0.data.toList
def meta_Encode.wd (l : List UInt8) : Nat → Nat
 | 0 => 0
 | k + 1 => meta_Encode.wd l k * 256 + (l.getD k 0).toNat
theorem meta_Encode.wd_lt (l : List UInt8) (k : Nat) : meta_Encode.wd l k < 256 ^ k := by
 induction k with
 | zero => simp [meta_Encode.wd]
 | succ k ih => have := (l.getD k 0).toNat_lt; unfold meta_Encode.wd; omega
theorem meta_Encode.wd_bound (l : List UInt8) (k : Nat) (h : k < 3) : meta_Encode.wd l k < 65536 := by
 have := meta_Encode.wd_lt l k
 have : k = 0 ∨ k = 1 ∨ k = 2 := by omega
 rcases this with rfl | rfl | rfl <;> omega
theorem meta_Encode.wd_in (t : ByteArray) (k : Nat) (h : k < 3) (hl : k < t.size) : bits BinOp.or IntKind.u32 (↑(meta_Encode.wd t.data.toList k) * 256) (↑t[k].toNat % 4294967296) = ((meta_Encode.wd t.data.toList (k + 1) : Nat) : Int) := by
 have hb := meta_Encode.wd_bound t.data.toList k h
 have hc := t[k].toNat_lt
 rw [u32_or8 _ _ (by omega) (by omega) (by omega) (by omega) (by omega)]
 have e : t.data.toList.getD k 0 = t[k] := by
  rw [List.getD_eq_getElem?_getD, List.getElem?_eq_getElem (by rw [Array.length_toList]; exact hl)]
  rfl
 have e2 : meta_Encode.wd t.data.toList (k + 1) = meta_Encode.wd t.data.toList k * 256 + t[k].toNat := by rw [← e]; rfl
 rw [e2, Int.emod_eq_of_lt (by omega) (by omega)]
 omega
theorem meta_Encode.wd_out (t : ByteArray) (k : Nat) (hl : ¬ k < t.size) : ((meta_Encode.wd t.data.toList k : Nat) : Int) * 256 = ((meta_Encode.wd t.data.toList (k + 1) : Nat) : Int) := by
 have e : t.data.toList.getD k 0 = 0 := by
  rw [List.getD_eq_getElem?_getD, List.getElem?_eq_none (by rw [Array.length_toList]; exact Nat.not_lt.1 hl)]
  rfl
 conv => rhs; unfold meta_Encode.wd
 rw [e]
 simp
theorem meta_Encode.wd_three (l : List UInt8) : meta_Encode.wd l 3 = B64.word l := by
 simp only [meta_Encode.wd, B64.word]; omega
theorem meta_Encode.ba_list (t : ByteArray) : t.toList = t.data.toList := ByteArray.toList_eq t
theorem meta_Encode.ne_empty (t : ByteArray) (h : ¬ t.size = 0) : (!t.toList.isEmpty) = true := by
 rw [meta_Encode.ba_list]
 cases e : t.data.toList with
 | nil => exact absurd (by have := congrArg List.length e; rw [Array.length_toList] at this; exact this) h
 | cons _ _ => rfl
theorem meta_Encode.is_empty (t : ByteArray) (h : t.size = 0) : (!t.toList.isEmpty) = false := by
 have : t.data.toList = [] := List.length_eq_zero_iff.1 (by rw [Array.length_toList]; exact h)
 rw [meta_Encode.ba_list, this]
 rfl
theorem meta_Encode.letter_f (x : Nat) (h : x < 4294967296) : meta_letter.f (x : Int) = some ((B64.lt (x % 64) : Nat) : Int) := by
 unfold meta_letter.f B64.lt
 rw [u32_and63 _ (by omega) (by omega)]
 have e : ((x : Int) % 64) = ((x % 64 : Nat) : Int) := by omega
 rw [e]
 generalize hy : x % 64 = y
 have hy' : y < 64 := by omega
 by_cases h1 : y < 26
 · rw [if_pos (by omega), if_pos h1]; congr 1; omega
 rw [if_neg (by omega), if_neg h1]
 by_cases h2 : y < 52
 · rw [if_pos (by omega), if_pos h2]; congr 1; omega
 rw [if_neg (by omega), if_neg h2]
 by_cases h3 : y < 62
 · rw [if_pos (by omega), if_pos h3]; congr 1; omega
 rw [if_neg (by omega), if_neg h3]
 by_cases h4 : y = 62
 · rw [if_pos (by omega), if_pos h4]; rfl
 rw [if_neg (by omega), if_neg h4]; rfl
theorem meta_Encode.letter_at (x : Int) (n : Nat) (h : x = (n : Int)) (hn : n < 4294967296) (w : World) :
 Calls Tryz.prog 54 #[.int .u32 x] w fun e w' => e = .returned (.int .u8 ((B64.lt (n % 64) : Nat) : Int)) ∧ Drawn0 w w' := by
 subst h
 exact meta_letter.calls _ _ w (meta_Encode.letter_f n hn)
theorem meta_Encode.let8_of (n : Nat) : UInt8.ofNat ((B64.lt n : Nat) : Int).toNat = B64.let8 n := rfl
theorem meta_Encode.dsz (t : ByteArray) : t.data.toList.length = t.size := Array.length_toList
theorem meta_Encode.four0 (t : ByteArray) : (B64.four t.data.toList)[0]? = some (UInt8.ofNat ((B64.lt (meta_Encode.wd t.data.toList 3 / 262144 % 64) : Nat) : Int).toNat) := by
 rw [meta_Encode.wd_three]
 have := B64.word_lt t.data.toList
 show some (B64.let8 (B64.word t.data.toList / 262144)) = some (B64.let8 (B64.word t.data.toList / 262144 % 64))
 rw [Nat.mod_eq_of_lt (by omega)]
theorem meta_Encode.four1 (t : ByteArray) : (B64.four t.data.toList)[1]? = some (UInt8.ofNat ((B64.lt (meta_Encode.wd t.data.toList 3 / 4096 % 64) : Nat) : Int).toNat) := by
 rw [meta_Encode.wd_three]; rfl
theorem meta_Encode.four2 (t : ByteArray) (h : 2 ≤ t.size) : (B64.four t.data.toList)[2]? = some (UInt8.ofNat ((B64.lt (meta_Encode.wd t.data.toList 3 / 64 % 64) : Nat) : Int).toNat) := by
 rw [meta_Encode.wd_three]
 exact congrArg some (if_pos (by rw [meta_Encode.dsz]; omega))
theorem meta_Encode.four3 (t : ByteArray) (h : 3 ≤ t.size) : (B64.four t.data.toList)[3]? = some (UInt8.ofNat ((B64.lt (meta_Encode.wd t.data.toList 3 % 64) : Nat) : Int).toNat) := by
 rw [meta_Encode.wd_three]
 exact congrArg some (if_pos (by rw [meta_Encode.dsz]; omega))
theorem meta_Encode.fill2 (t : ByteArray) (h : t.size < 2) : (B64.four t.data.toList)[2]? = some (UInt8.ofNat (61 : Int).toNat) := congrArg some (if_neg (by rw [meta_Encode.dsz]; omega))
theorem meta_Encode.fill3 (t : ByteArray) (h : t.size < 3) : (B64.four t.data.toList)[3]? = some (UInt8.ofNat (61 : Int).toNat) := congrArg some (if_neg (by rw [meta_Encode.dsz]; omega))
theorem meta_Encode.enc_on (t : ByteArray) (h : 1 ≤ t.size) (acc l : List UInt8) (hl : acc ++ B64.enc t.data.toList = l) :
 (acc ++ (B64.four t.data.toList).take 4) ++ B64.enc (t.extract (if (t.size : Int) < 3 then (t.size : Int) else 3).toNat t.size).data.toList = l := by
 have e : (t.extract (if (t.size : Int) < 3 then (t.size : Int) else 3).toNat t.size).data.toList = t.data.toList.drop 3 := by
  rw [Lib.extract_data]
  have hd := meta_Encode.dsz t
  by_cases h3 : 3 ≤ t.size
  · have e3 : (if (t.size : Int) < 3 then (t.size : Int) else 3).toNat = 3 := by rw [if_neg (by omega)]; rfl
    rw [e3, List.take_of_length_le (by rw [List.length_drop]; omega)]
  have e3 : (if (t.size : Int) < 3 then (t.size : Int) else 3).toNat = t.size := by rw [if_pos (by omega)]; rfl
  rw [e3, List.drop_of_length_le (by omega), List.drop_of_length_le (by omega), List.take_nil]
 rw [e, List.take_of_length_le (by rw [B64.four_length]; omega), ← hl, B64.enc_step t.data.toList (by intro e0; have := meta_Encode.dsz t; rw [e0] at this; simp at this; omega), List.append_assoc]
theorem meta_Encode.size_le (t : ByteArray) (acc : List UInt8) (a0 : ByteArray) (h : acc ++ B64.enc t.data.toList = B64.enc a0.data.toList) (hs : a0.size ≤ 1099511627776) : t.size ≤ 9223372036854775807 := by
 have := congrArg List.length h
 rw [List.length_append, B64.enc_length, B64.enc_length, meta_Encode.dsz, meta_Encode.dsz] at this
 omega
theorem meta_Encode.acc_le (acc l m : List UInt8) (h : acc ++ l = B64.enc m) (hm : m.length ≤ 1099511627776) : acc.length ≤ 4398046511104 := by
 have := congrArg List.length h
 rw [List.length_append, B64.enc_length] at this
 omega
theorem meta_Encode.four_more (l : List UInt8) (k : Nat) (c : UInt8) (h : (B64.four l)[k]? = some c) : (B64.four l).take (k + 1) = (B64.four l).take k ++ [c] := by
 rw [List.take_add_one, h]; rfl
set_option maxHeartbeats 1600000 in
set_option maxRecDepth 100000 in
theorem meta_Encode.calls_ (a0 : ByteArray) (w : World) (hs : a0.size ≤ 1099511627776) :
 Calls Tryz.prog 26 #[.string a0] w fun e w' => e = .returned (.string ⟨(B64.enc a0.data.toList).toArray⟩) ∧ Below w.heap.size w w' := by
 go_enter Tryz.func26, Tryz.ntmps26
 go_wp2_with fail
 go_loopw [0] (fun s wr => ∃ (t : ByteArray) (acc : List UInt8), s = .string t ∧ meta_Encode.ERel a0 w t acc wr) (fun s wr => match s with | .string t => t.size | _ => 0)
 case atStart => exact ⟨a0, [], rfl, isBld_fresh w, (Below.refl _ w).alloc (Nat.le_refl _) _, rfl⟩
 case round =>
  obtain ⟨t, acc, rfl, hR⟩ := hrel
  by_cases hE : t.size = 0
  · have hne := meta_Encode.is_empty t hE
    obtain ⟨h1, h2, h3⟩ := hR
    have HE := Lib.hid hE
    have H3 := Lib.hid h3
    clear hE h3
    go_wp2_with fail
    refine (Tryz.Builder_String_any_f w.heap.size w.heap.size acc _ h1 h2.size).mono ?_
    rintro e w1 ⟨rfl, _, hb1⟩
    go_wp2
    go_ret
    have : t.data.toList = [] := List.length_eq_zero_iff.1 (by rw [Array.length_toList]; exact HE.out)
    have h3 := H3.out
    rw [this, B64.enc_nil, List.append_nil] at h3
    rw [h3]
    exact ⟨rfl, h2.trans hb1⟩
  have hne := meta_Encode.ne_empty t hE
  have hR' : Hid (meta_Encode.ERel a0 w t acc wr) := hR
  have hsz : t.size ≤ 9223372036854775807 := meta_Encode.size_le t acc a0 hR.2.2 hs
  have hE1 : Hid (¬ t.size = 0) := hE
  clear hE hR
  go_wp2_with fail
  go_loop [4, 14] (fun v i => ∃ k : Nat, k ≤ 3 ∧ i = .int .i64 k ∧ v = .int .u32 (meta_Encode.wd t.data.toList k)) (fun _ i => 3 - (intOf i).toNat)
  case atStart => exact ⟨0, by omega, rfl, rfl⟩
  case round =>
   obtain ⟨k, hk, rfl, rfl⟩ := hrel
   by_cases hk3 : k < 3
   · have hw2 := meta_Encode.wd_bound t.data.toList k hk3
     by_cases hlt : k < t.size
     · go_wp2
       go_round
       case rel => exact ⟨k + 1, by omega, by go_num, by rw [meta_Encode.wd_in t k hk3 hlt]⟩
       case measure => simp [intOf]; omega
     go_wp2
     go_round
     case rel => exact ⟨k + 1, by omega, by go_num, by rw [meta_Encode.wd_out t k hlt]⟩
     case measure => simp [intOf]; omega
   obtain rfl : k = 3 := by omega
   have hw3 := meta_Encode.wd_lt t.data.toList 3
   have hw4 : meta_Encode.wd t.data.toList 3 < 16777216 := by omega
   clear hw3 hk3 hk
   go_wp2_with fail
   go_loopw [30] (fun i wx => ∃ k : Nat, k ≤ 4 ∧ i = .int .i64 k ∧ IsBld w.heap.size w.heap.size (acc ++ (B64.four t.data.toList).take k) wx ∧ Below w.heap.size w wx) (fun i _ => 4 - (intOf i).toNat)
   case atStart => exact ⟨0, by omega, rfl, by simpa using hR'.out.1, hR'.out.2.1⟩
   case round =>
    obtain ⟨k, hk, rfl, hB, hb⟩ := hrel
    have HB := Lib.hid hB
    have Hb := Lib.hid hb
    clear hB hb
    have hs1 : 1 ≤ t.size := by have := hE1.out; omega
    have hlen : Hid (acc.length ≤ 4398046511104) := meta_Encode.acc_le acc _ _ hR'.out.2.2 (by rw [meta_Encode.dsz]; exact hs)
    obtain rfl | rfl | rfl | rfl | rfl : k = 0 ∨ k = 1 ∨ k = 2 ∨ k = 3 ∨ k = 4 := by omega
    · go_wp2_with fail
      refine (meta_Encode.letter_at _ (meta_Encode.wd t.data.toList 3 / 262144) (by omega) (by omega) _).mono ?_
      rintro e w1 ⟨rfl, hd⟩
      have HD := Lib.hid hd
      clear hd
      go_wp2_with fail
      refine (bld_byte w.heap.size w.heap.size _ _ _ (isBld_below HB.out HD.out.below) (by omega) (by have := (B64.lt_range _ (Nat.mod_lt (meta_Encode.wd t.data.toList 3 / 262144) (by decide : 0 < 64))); omega) (by have := hlen.out; simp; omega) (by have := Hb.out.size; have := HD.out.below.size; omega)).mono ?_
      rintro e w2 ⟨rfl, hB2, hb2⟩
      have HB2 := Lib.hid hB2
      have Hb2 := Lib.hid hb2
      clear hB2 hb2
      go_wp2
      go_roundw
      case rel => exact ⟨1, by omega, by go_num, by rw [meta_Encode.four_more _ 0 _ (meta_Encode.four0 t), ← List.append_assoc]; exact HB2.out, Hb.out.trans ((HD.out.below.mono Hb.out.size).trans Hb2.out)⟩
      case measure => simp [intOf]
    · go_wp2_with fail
      refine (meta_Encode.letter_at _ (meta_Encode.wd t.data.toList 3 / 4096) (by omega) (by omega) _).mono ?_
      rintro e w1 ⟨rfl, hd⟩
      have HD := Lib.hid hd
      clear hd
      go_wp2_with fail
      refine (bld_byte w.heap.size w.heap.size _ _ _ (isBld_below HB.out HD.out.below) (by omega) (by have := (B64.lt_range _ (Nat.mod_lt (meta_Encode.wd t.data.toList 3 / 4096) (by decide : 0 < 64))); omega) (by have := hlen.out; simp; omega) (by have := Hb.out.size; have := HD.out.below.size; omega)).mono ?_
      rintro e w2 ⟨rfl, hB2, hb2⟩
      have HB2 := Lib.hid hB2
      have Hb2 := Lib.hid hb2
      clear hB2 hb2
      go_wp2
      go_roundw
      case rel => exact ⟨2, by omega, by go_num, by rw [meta_Encode.four_more _ 1 _ (meta_Encode.four1 t), ← List.append_assoc]; exact HB2.out, Hb.out.trans ((HD.out.below.mono Hb.out.size).trans Hb2.out)⟩
      case measure => simp [intOf]
    · by_cases h2 : t.size < 2
      · go_wp2_with fail
        refine (bld_byte w.heap.size w.heap.size _ 61 _ HB.out (by omega) (by omega) (by have := hlen.out; simp; omega) Hb.out.size).mono ?_
        rintro e w2 ⟨rfl, hB2, hb2⟩
        have HB2 := Lib.hid hB2
        have Hb2 := Lib.hid hb2
        clear hB2 hb2
        go_wp2
        go_roundw
        case rel => exact ⟨3, by omega, by go_num, by rw [meta_Encode.four_more _ 2 _ (meta_Encode.fill2 t h2), ← List.append_assoc]; exact HB2.out, Hb.out.trans Hb2.out⟩
        case measure => simp [intOf]
      go_wp2_with fail
      refine (meta_Encode.letter_at _ (meta_Encode.wd t.data.toList 3 / 64) (by omega) (by omega) _).mono ?_
      rintro e w1 ⟨rfl, hd⟩
      have HD := Lib.hid hd
      clear hd
      go_wp2_with fail
      refine (bld_byte w.heap.size w.heap.size _ _ _ (isBld_below HB.out HD.out.below) (by omega) (by have := (B64.lt_range _ (Nat.mod_lt (meta_Encode.wd t.data.toList 3 / 64) (by decide : 0 < 64))); omega) (by have := hlen.out; simp; omega) (by have := Hb.out.size; have := HD.out.below.size; omega)).mono ?_
      rintro e w2 ⟨rfl, hB2, hb2⟩
      have HB2 := Lib.hid hB2
      have Hb2 := Lib.hid hb2
      clear hB2 hb2
      go_wp2
      go_roundw
      case rel => exact ⟨3, by omega, by go_num, by rw [meta_Encode.four_more _ 2 _ (meta_Encode.four2 t (by omega)), ← List.append_assoc]; exact HB2.out, Hb.out.trans ((HD.out.below.mono Hb.out.size).trans Hb2.out)⟩
      case measure => simp [intOf]
    · by_cases h3 : t.size < 3
      · go_wp2_with fail
        refine (bld_byte w.heap.size w.heap.size _ 61 _ HB.out (by omega) (by omega) (by have := hlen.out; simp; omega) Hb.out.size).mono ?_
        rintro e w2 ⟨rfl, hB2, hb2⟩
        have HB2 := Lib.hid hB2
        have Hb2 := Lib.hid hb2
        clear hB2 hb2
        go_wp2
        go_roundw
        case rel => exact ⟨4, by omega, by go_num, by rw [meta_Encode.four_more _ 3 _ (meta_Encode.fill3 t h3), ← List.append_assoc]; exact HB2.out, Hb.out.trans Hb2.out⟩
        case measure => simp [intOf]
      go_wp2_with fail
      refine (meta_Encode.letter_at _ (meta_Encode.wd t.data.toList 3) (by omega) (by omega) _).mono ?_
      rintro e w1 ⟨rfl, hd⟩
      have HD := Lib.hid hd
      clear hd
      go_wp2_with fail
      refine (bld_byte w.heap.size w.heap.size _ _ _ (isBld_below HB.out HD.out.below) (by omega) (by have := (B64.lt_range _ (Nat.mod_lt (meta_Encode.wd t.data.toList 3) (by decide : 0 < 64))); omega) (by have := hlen.out; simp; omega) (by have := Hb.out.size; have := HD.out.below.size; omega)).mono ?_
      rintro e w2 ⟨rfl, hB2, hb2⟩
      have HB2 := Lib.hid hB2
      have Hb2 := Lib.hid hb2
      clear hB2 hb2
      go_wp2
      go_roundw
      case rel => exact ⟨4, by omega, by go_num, by rw [meta_Encode.four_more _ 3 _ (meta_Encode.four3 t (by omega)), ← List.append_assoc]; exact HB2.out, Hb.out.trans ((HD.out.below.mono Hb.out.size).trans Hb2.out)⟩
      case measure => simp [intOf]
    go_wp2_with fail
    refine ⟨⟨_, acc ++ (B64.four t.data.toList).take 4, rfl, HB.out, Hb.out, meta_Encode.enc_on t hs1 acc _ hR'.out.2.2⟩, ?_⟩
    show (t.extract (if (t.size : Int) < 3 then (t.size : Int) else 3).toNat t.size).size < t.size
    rw [ByteArray.size_extract]
    split <;> omega
theorem meta_Encode.calls (a0 : ByteArray) (r : ByteArray) (w : World) (h : meta_Encode.f a0 = some r) :
 Calls Tryz.prog 26 #[.string a0] w fun e w' => e = .returned (.string r) ∧ Below w.heap.size w w' := by
 unfold meta_Encode.f at h
 split at h
 · injection h with h
   subst h
   exact meta_Encode.calls_ a0 w (by assumption)
 cases h

end
end Go.Proofs.YtfboejlemnfndaaGreatDoor.XMr
end
