/- Put together by wip/pack.py (this session's own program) out of this session's texts; a kit's tool laid the words and the shelf, of which only what is used stands here. Lean checks it. -/
import Derived.Test.YtdihoopofhediaaGreatDoorPWp0
import Derived.Test.YtdihoopofhediaaGreatDoorProg
import Derived.Below
import Derived.Deep.Draws
import Derived.Deep.AppendLies
import Derived.Maps.AppendAt
import Derived.OwnWalk
import Derived.Laws.BytesArg
import Derived.Laws.MakeOwn
import Derived.Laws.OwnMore
import Derived.Deep.OwnRows
import Derived.Tactics
import Derived.Lib.ConvBytes
import Derived.Laws.Slices
import Derived.WalkKit
import Derived.KernelRfl
import Derived.RowKit3
import Derived.Deep.LoopGhost
import Derived.Deep.QuietTactic
import Derived.BigQuiet
import Derived.WideLaws
import Derived.Deep.DeepCutAuto
import Derived.Deep.CutBlock
import Derived.Deep.RegionHeld3
import Derived.Laws.Rows
import Derived.Lib.AppendStr
import Derived.ArgAppend
import Derived.Laws.IdiomCopy
import Derived.OrdersHeld
import Derived.Laws.BitsLemmas
import Derived.RowKit
import Derived.Lib.Hide
import Derived.Laws.RangeString
import Derived.Lib.SliceRun
import Derived.Shelf.Abstract
section
namespace Go.Proofs.YtdihoopofhediaaGreatDoor.XMd
open Go.RowKit Go.Proofs.YtdihoopofhediaaGreatDoorW.PrintWords Go.Proofs.YtdihoopofhediaaGreatDoorW.PrintLast Go.Proofs.YtdihoopofhediaaGreatDoorW.PrintMore
attribute [local go_sem] extract_sub max2_int min2_int max_two min_two max_three min_three max_four min_four   -- for this text's walks alone
set_option linter.unusedVariables false
set_option linter.unusedSimpArgs false

noncomputable section


def errW : Option Int → Value
 | none => .nilIface
 | some c => .iface 0 (.int .i64 c)
theorem errW_none : errW none = .nilIface := rfl
theorem errW_some (c : Int) : errW (some c) = .iface 0 (.int .i64 c) := rfl

theorem info9 : (Tryz.prog.info? 9).map (fun i => (i.zero, i.size, i.bytes)) = some (some (.string ⟨#[]⟩), 1, 16) := by kernel_rfl
theorem info41 : (Tryz.prog.info? 41).map (fun i => (i.zero, i.size, i.bytes)) = some (some (.agg #[(.int .i64 0), (.int .i64 0), (.slice none 0 0), (.int .u32 0), (.int .i64 0), (.string ⟨#[]⟩), (.int .u64 0), (.int .u64 0), (.bool false), (.int .i64 0), (.int .i64 0), (.slice none 0 0), (.int .u64 0), (.slice none 0 0)]), 14, 168) := by kernel_rfl
theorem info44 : (Tryz.prog.info? 44).map (fun i => (i.zero, i.size, i.bytes)) = some (some (.agg #[(.string ⟨#[]⟩), (.int .u32 0), (.string ⟨#[]⟩), (.int .u64 0)]), 4, 48) := by kernel_rfl
theorem info60 : (Tryz.prog.info? 60).map (fun i => (i.zero, i.size, i.bytes)) = some (some (.agg #[(.int .i64 0), (.int .i64 0), (.slice none 0 0), (.int .u32 0), (.int .i64 0), (.string ⟨#[]⟩), (.int .u64 0), (.int .u64 0), (.bool false), (.int .i64 0), (.int .i64 0), (.slice none 0 0), (.int .u64 0), (.slice none 0 0)]), 14, 168) := by kernel_rfl
structure S72 where
 f0 : ByteArray
 f1 : Int
 f2 : ByteArray
 f3 : Int
def z72 : S72 := ⟨(⟨#[]⟩ : ByteArray), (0 : Int), (⟨#[]⟩ : ByteArray), (0 : Int)⟩
def k72 : Kd S72 := Kd.iso (Kd.pair Kd.string (Kd.pair (Kd.int .u32) (Kd.pair Kd.string (Kd.int .u64)))) (fun x : S72 => (x.f0, x.f1, x.f2, x.f3))
theorem k72_open {w : World} {x : S72} {cs : List Value} (h : k72.K w x cs) : cs = [.string x.f0, .int .u32 x.f1, .string x.f2, .int .u64 x.f3] := by
 obtain ⟨_, _, rfl, rfl, ⟨_, _, rfl, rfl, ⟨_, _, rfl, rfl, rfl⟩⟩⟩ := h
 exact rfl
theorem k72_openM {w : World} {base : Nat} {ok : Nat → Prop} {x : S72} {cs : List Value} (h : k72.M w base ok x cs) : cs = [.string x.f0, .int .u32 x.f1, .string x.f2, .int .u64 x.f3] := by
 obtain ⟨_, _, rfl, rfl, ⟨_, _, rfl, rfl, ⟨_, _, rfl, rfl, rfl⟩⟩⟩ := h
 exact rfl
theorem k72_mk (w : World) (x : S72)  : k72.K w x [.string x.f0, .int .u32 x.f1, .string x.f2, .int .u64 x.f3] := ⟨[.string x.f0], [.int .u32 x.f1, .string x.f2, .int .u64 x.f3], rfl, rfl, ⟨[.int .u32 x.f1], [.string x.f2, .int .u64 x.f3], rfl, rfl, ⟨[.string x.f2], [.int .u64 x.f3], rfl, rfl, rfl⟩⟩⟩
theorem k72_mkM (w : World) (base : Nat) (ok : Nat → Prop) (x : S72)  : k72.M w base ok x [.string x.f0, .int .u32 x.f1, .string x.f2, .int .u64 x.f3] := ⟨[.string x.f0], [.int .u32 x.f1, .string x.f2, .int .u64 x.f3], rfl, rfl, ⟨[.int .u32 x.f1], [.string x.f2, .int .u64 x.f3], rfl, rfl, ⟨[.string x.f2], [.int .u64 x.f3], rfl, rfl, rfl⟩⟩⟩
def rd_T72 (xs : List S72) (i : Int) : S72 := xs.getD i.toNat z72
theorem at_T72 {w : World} {A : Option Addr} {n : Nat} {xs : List S72} (h : Kd.C k72 w A n xs) (i : Int) (h0 : 0 ≤ i) (h1 : i < n) : ∃ ad , A = some ad ∧ w.cell? (ad.add (i.toNat * 4)) = some (.string (rd_T72 xs i).f0) ∧ w.cell? ⟨(ad.add (i.toNat * 4)).block, (ad.add (i.toNat * 4)).off + 1, none⟩ = some (.int .u32 (rd_T72 xs i).f1) ∧ w.cell? ⟨(ad.add (i.toNat * 4)).block, (ad.add (i.toNat * 4)).off + 2, none⟩ = some (.string (rd_T72 xs i).f2) ∧ w.cell? ⟨(ad.add (i.toNat * 4)).block, (ad.add (i.toNat * 4)).off + 3, none⟩ = some (.int .u64 (rd_T72 xs i).f3) := by
 obtain ⟨ad, c, e, _, hK, hc0⟩ := Kd.C_get h z72 i h0 h1
 have hc : ∀ j u, c[j]? = some u → w.cell? (ad.add (i.toNat * 4 + j)) = some u := hc0
 obtain rfl := k72_open hK
 exact ⟨ad, e, hc 0 _ rfl, by rw [← add_field _ _ 1 (by omega)]; exact hc 1 _ rfl, by rw [← add_field _ _ 2 (by omega)]; exact hc 2 _ rfl, by rw [← add_field _ _ 3 (by omega)]; exact hc 3 _ rfl⟩

def rd_L5 (xs : List (List ByteArray)) (i : Int) : (List ByteArray) := xs.getD i.toNat ([] : List ByteArray)
theorem at_L5 {w : World} {A : Option Addr} {n : Nat} {xs : List (List ByteArray)} (h : Kd.C (Kd.slice 9 Kd.string) w A n xs) (i : Int) (h0 : 0 ≤ i) (h1 : i < n) : ∃ ad A0 c0, A = some ad ∧ w.cell? (ad.add i.toNat) = some (.slice A0 (rd_L5 xs i).length c0) ∧ (rd_L5 xs i).length ≤ c0 ∧ Kd.string.C w A0 (rd_L5 xs i).length (rd_L5 xs i) := by
 obtain ⟨ad, c, e, _, hK, hc0⟩ := Kd.C_get h ([] : List ByteArray) i h0 h1
 have hc : ∀ j u, c[j]? = some u → w.cell? (ad.add (i.toNat * 1 + j)) = some u := hc0
 obtain ⟨A0, c0, rfl, l0, g0⟩ := hK
 exact ⟨ad, A0, c0, e, by have hq := hc 0 _ rfl; rwa [Nat.mul_one, Nat.add_zero] at hq, l0, g0⟩

structure S35 where
 f0 : Int
 f1 : (List ByteArray)
 f2 : Int
 f3 : Int
 f4 : ByteArray
 f5 : Int
 f6 : Int
 f7 : Bool
def z35 : S35 := ⟨(0 : Int), ([] : List ByteArray), (0 : Int), (0 : Int), (⟨#[]⟩ : ByteArray), (0 : Int), (0 : Int), false⟩
def k35 : Kd S35 := Kd.iso (Kd.pair (Kd.int .i64) (Kd.pair (Kd.slice 9 Kd.string) (Kd.pair (Kd.int .u32) (Kd.pair (Kd.int .i64) (Kd.pair Kd.string (Kd.pair (Kd.int .u64) (Kd.pair (Kd.int .u64) Kd.bool))))))) (fun x : S35 => (x.f0, x.f1, x.f2, x.f3, x.f4, x.f5, x.f6, x.f7))
theorem k35_open {w : World} {x : S35} {cs : List Value} (h : k35.K w x cs) : ∃ A1 c1, cs = [.int .i64 x.f0, .slice A1 x.f1.length c1, .int .u32 x.f2, .int .i64 x.f3, .string x.f4, .int .u64 x.f5, .int .u64 x.f6, .bool x.f7] ∧ x.f1.length ≤ c1 ∧ Kd.string.C w A1 x.f1.length x.f1 := by
 obtain ⟨_, _, rfl, rfl, ⟨_, _, rfl, ⟨A1, c1, rfl, l1, g1⟩, ⟨_, _, rfl, rfl, ⟨_, _, rfl, rfl, ⟨_, _, rfl, rfl, ⟨_, _, rfl, rfl, ⟨_, _, rfl, rfl, rfl⟩⟩⟩⟩⟩⟩⟩ := h
 exact ⟨A1, c1, rfl, l1, g1⟩
theorem k35_openM {w : World} {base : Nat} {ok : Nat → Prop} {x : S35} {cs : List Value} (h : k35.M w base ok x cs) : ∃ v1, cs = [.int .i64 x.f0, v1, .int .u32 x.f2, .int .i64 x.f3, .string x.f4, .int .u64 x.f5, .int .u64 x.f6, .bool x.f7] ∧ Kd.string.R 9 w base ok v1 x.f1 := by
 obtain ⟨_, _, rfl, rfl, ⟨_, _, rfl, ⟨v1, rfl, g1⟩, ⟨_, _, rfl, rfl, ⟨_, _, rfl, rfl, ⟨_, _, rfl, rfl, ⟨_, _, rfl, rfl, ⟨_, _, rfl, rfl, rfl⟩⟩⟩⟩⟩⟩⟩ := h
 exact ⟨v1, rfl, g1⟩
theorem k35_mk (w : World) (x : S35) {A1 : Option Addr} {c1 : Nat} (l1 : x.f1.length ≤ c1) (g1 : Kd.string.C w A1 x.f1.length x.f1) : k35.K w x [.int .i64 x.f0, .slice A1 x.f1.length c1, .int .u32 x.f2, .int .i64 x.f3, .string x.f4, .int .u64 x.f5, .int .u64 x.f6, .bool x.f7] := ⟨[.int .i64 x.f0], [.slice A1 x.f1.length c1, .int .u32 x.f2, .int .i64 x.f3, .string x.f4, .int .u64 x.f5, .int .u64 x.f6, .bool x.f7], rfl, rfl, ⟨[.slice A1 x.f1.length c1], [.int .u32 x.f2, .int .i64 x.f3, .string x.f4, .int .u64 x.f5, .int .u64 x.f6, .bool x.f7], rfl, ⟨A1, c1, rfl, l1, g1⟩, ⟨[.int .u32 x.f2], [.int .i64 x.f3, .string x.f4, .int .u64 x.f5, .int .u64 x.f6, .bool x.f7], rfl, rfl, ⟨[.int .i64 x.f3], [.string x.f4, .int .u64 x.f5, .int .u64 x.f6, .bool x.f7], rfl, rfl, ⟨[.string x.f4], [.int .u64 x.f5, .int .u64 x.f6, .bool x.f7], rfl, rfl, ⟨[.int .u64 x.f5], [.int .u64 x.f6, .bool x.f7], rfl, rfl, ⟨[.int .u64 x.f6], [.bool x.f7], rfl, rfl, rfl⟩⟩⟩⟩⟩⟩⟩
theorem k35_mkM (w : World) (base : Nat) (ok : Nat → Prop) (x : S35) {v1 : Value} (g1 : Kd.string.R 9 w base ok v1 x.f1) : k35.M w base ok x [.int .i64 x.f0, v1, .int .u32 x.f2, .int .i64 x.f3, .string x.f4, .int .u64 x.f5, .int .u64 x.f6, .bool x.f7] := ⟨[.int .i64 x.f0], [v1, .int .u32 x.f2, .int .i64 x.f3, .string x.f4, .int .u64 x.f5, .int .u64 x.f6, .bool x.f7], rfl, rfl, ⟨[v1], [.int .u32 x.f2, .int .i64 x.f3, .string x.f4, .int .u64 x.f5, .int .u64 x.f6, .bool x.f7], rfl, ⟨v1, rfl, g1⟩, ⟨[.int .u32 x.f2], [.int .i64 x.f3, .string x.f4, .int .u64 x.f5, .int .u64 x.f6, .bool x.f7], rfl, rfl, ⟨[.int .i64 x.f3], [.string x.f4, .int .u64 x.f5, .int .u64 x.f6, .bool x.f7], rfl, rfl, ⟨[.string x.f4], [.int .u64 x.f5, .int .u64 x.f6, .bool x.f7], rfl, rfl, ⟨[.int .u64 x.f5], [.int .u64 x.f6, .bool x.f7], rfl, rfl, ⟨[.int .u64 x.f6], [.bool x.f7], rfl, rfl, rfl⟩⟩⟩⟩⟩⟩⟩
def rd_T35 (xs : List S35) (i : Int) : S35 := xs.getD i.toNat z35
theorem at_T35 {w : World} {A : Option Addr} {n : Nat} {xs : List S35} (h : Kd.C k35 w A n xs) (i : Int) (h0 : 0 ≤ i) (h1 : i < n) : ∃ ad A1 c1, A = some ad ∧ w.cell? (ad.add (i.toNat * 8)) = some (.int .i64 (rd_T35 xs i).f0) ∧ w.cell? ⟨(ad.add (i.toNat * 8)).block, (ad.add (i.toNat * 8)).off + 1, none⟩ = some (.slice A1 (rd_T35 xs i).f1.length c1) ∧ w.cell? ⟨(ad.add (i.toNat * 8)).block, (ad.add (i.toNat * 8)).off + 2, none⟩ = some (.int .u32 (rd_T35 xs i).f2) ∧ w.cell? ⟨(ad.add (i.toNat * 8)).block, (ad.add (i.toNat * 8)).off + 3, none⟩ = some (.int .i64 (rd_T35 xs i).f3) ∧ w.cell? ⟨(ad.add (i.toNat * 8)).block, (ad.add (i.toNat * 8)).off + 4, none⟩ = some (.string (rd_T35 xs i).f4) ∧ w.cell? ⟨(ad.add (i.toNat * 8)).block, (ad.add (i.toNat * 8)).off + 5, none⟩ = some (.int .u64 (rd_T35 xs i).f5) ∧ w.cell? ⟨(ad.add (i.toNat * 8)).block, (ad.add (i.toNat * 8)).off + 6, none⟩ = some (.int .u64 (rd_T35 xs i).f6) ∧ w.cell? ⟨(ad.add (i.toNat * 8)).block, (ad.add (i.toNat * 8)).off + 7, none⟩ = some (.bool (rd_T35 xs i).f7) ∧ (rd_T35 xs i).f1.length ≤ c1 ∧ Kd.string.C w A1 (rd_T35 xs i).f1.length (rd_T35 xs i).f1 := by
 obtain ⟨ad, c, e, _, hK, hc0⟩ := Kd.C_get h z35 i h0 h1
 have hc : ∀ j u, c[j]? = some u → w.cell? (ad.add (i.toNat * 8 + j)) = some u := hc0
 obtain ⟨A1, c1, rfl, l1, g1⟩ := k35_open hK
 exact ⟨ad, A1, c1, e, hc 0 _ rfl, by rw [← add_field _ _ 1 (by omega)]; exact hc 1 _ rfl, by rw [← add_field _ _ 2 (by omega)]; exact hc 2 _ rfl, by rw [← add_field _ _ 3 (by omega)]; exact hc 3 _ rfl, by rw [← add_field _ _ 4 (by omega)]; exact hc 4 _ rfl, by rw [← add_field _ _ 5 (by omega)]; exact hc 5 _ rfl, by rw [← add_field _ _ 6 (by omega)]; exact hc 6 _ rfl, by rw [← add_field _ _ 7 (by omega)]; exact hc 7 _ rfl, l1, g1⟩

def rd_L8 (xs : List (List S72)) (i : Int) : (List S72) := xs.getD i.toNat ([] : List S72)
theorem at_L8 {w : World} {A : Option Addr} {n : Nat} {xs : List (List S72)} (h : Kd.C (Kd.slice 72 k72) w A n xs) (i : Int) (h0 : 0 ≤ i) (h1 : i < n) : ∃ ad A0 c0, A = some ad ∧ w.cell? (ad.add i.toNat) = some (.slice A0 (rd_L8 xs i).length c0) ∧ (rd_L8 xs i).length ≤ c0 ∧ k72.C w A0 (rd_L8 xs i).length (rd_L8 xs i) := by
 obtain ⟨ad, c, e, _, hK, hc0⟩ := Kd.C_get h ([] : List S72) i h0 h1
 have hc : ∀ j u, c[j]? = some u → w.cell? (ad.add (i.toNat * 1 + j)) = some u := hc0
 obtain ⟨A0, c0, rfl, l0, g0⟩ := hK
 exact ⟨ad, A0, c0, e, by have hq := hc 0 _ rfl; rwa [Nat.mul_one, Nat.add_zero] at hq, l0, g0⟩

structure S57 where
 f0 : Int
 f1 : (List S72)
 f2 : Int
def z57 : S57 := ⟨(0 : Int), ([] : List S72), (0 : Int)⟩
def k57 : Kd S57 := Kd.iso (Kd.pair (Kd.int .i64) (Kd.pair (Kd.slice 72 k72) (Kd.int .u64))) (fun x : S57 => (x.f0, x.f1, x.f2))
theorem k57_open {w : World} {x : S57} {cs : List Value} (h : k57.K w x cs) : ∃ A1 c1, cs = [.int .i64 x.f0, .slice A1 x.f1.length c1, .int .u64 x.f2] ∧ x.f1.length ≤ c1 ∧ k72.C w A1 x.f1.length x.f1 := by
 obtain ⟨_, _, rfl, rfl, ⟨_, _, rfl, ⟨A1, c1, rfl, l1, g1⟩, rfl⟩⟩ := h
 exact ⟨A1, c1, rfl, l1, g1⟩
theorem k57_openM {w : World} {base : Nat} {ok : Nat → Prop} {x : S57} {cs : List Value} (h : k57.M w base ok x cs) : ∃ v1, cs = [.int .i64 x.f0, v1, .int .u64 x.f2] ∧ k72.R 72 w base ok v1 x.f1 := by
 obtain ⟨_, _, rfl, rfl, ⟨_, _, rfl, ⟨v1, rfl, g1⟩, rfl⟩⟩ := h
 exact ⟨v1, rfl, g1⟩
theorem k57_mk (w : World) (x : S57) {A1 : Option Addr} {c1 : Nat} (l1 : x.f1.length ≤ c1) (g1 : k72.C w A1 x.f1.length x.f1) : k57.K w x [.int .i64 x.f0, .slice A1 x.f1.length c1, .int .u64 x.f2] := ⟨[.int .i64 x.f0], [.slice A1 x.f1.length c1, .int .u64 x.f2], rfl, rfl, ⟨[.slice A1 x.f1.length c1], [.int .u64 x.f2], rfl, ⟨A1, c1, rfl, l1, g1⟩, rfl⟩⟩
theorem k57_mkM (w : World) (base : Nat) (ok : Nat → Prop) (x : S57) {v1 : Value} (g1 : k72.R 72 w base ok v1 x.f1) : k57.M w base ok x [.int .i64 x.f0, v1, .int .u64 x.f2] := ⟨[.int .i64 x.f0], [v1, .int .u64 x.f2], rfl, rfl, ⟨[v1], [.int .u64 x.f2], rfl, ⟨v1, rfl, g1⟩, rfl⟩⟩
def rd_T57 (xs : List S57) (i : Int) : S57 := xs.getD i.toNat z57
theorem at_T57 {w : World} {A : Option Addr} {n : Nat} {xs : List S57} (h : Kd.C k57 w A n xs) (i : Int) (h0 : 0 ≤ i) (h1 : i < n) : ∃ ad A1 c1, A = some ad ∧ w.cell? (ad.add (i.toNat * 3)) = some (.int .i64 (rd_T57 xs i).f0) ∧ w.cell? ⟨(ad.add (i.toNat * 3)).block, (ad.add (i.toNat * 3)).off + 1, none⟩ = some (.slice A1 (rd_T57 xs i).f1.length c1) ∧ w.cell? ⟨(ad.add (i.toNat * 3)).block, (ad.add (i.toNat * 3)).off + 2, none⟩ = some (.int .u64 (rd_T57 xs i).f2) ∧ (rd_T57 xs i).f1.length ≤ c1 ∧ k72.C w A1 (rd_T57 xs i).f1.length (rd_T57 xs i).f1 := by
 obtain ⟨ad, c, e, _, hK, hc0⟩ := Kd.C_get h z57 i h0 h1
 have hc : ∀ j u, c[j]? = some u → w.cell? (ad.add (i.toNat * 3 + j)) = some u := hc0
 obtain ⟨A1, c1, rfl, l1, g1⟩ := k57_open hK
 exact ⟨ad, A1, c1, e, hc 0 _ rfl, by rw [← add_field _ _ 1 (by omega)]; exact hc 1 _ rfl, by rw [← add_field _ _ 2 (by omega)]; exact hc 2 _ rfl, l1, g1⟩

structure S68 where
 f0 : ByteArray
 f1 : Int
def z68 : S68 := ⟨(⟨#[]⟩ : ByteArray), (0 : Int)⟩
def k68 : Kd S68 := Kd.iso (Kd.pair Kd.string (Kd.int .i64)) (fun x : S68 => (x.f0, x.f1))
theorem k68_open {w : World} {x : S68} {cs : List Value} (h : k68.K w x cs) : cs = [.string x.f0, .int .i64 x.f1] := by
 obtain ⟨_, _, rfl, rfl, rfl⟩ := h
 exact rfl
theorem k68_openM {w : World} {base : Nat} {ok : Nat → Prop} {x : S68} {cs : List Value} (h : k68.M w base ok x cs) : cs = [.string x.f0, .int .i64 x.f1] := by
 obtain ⟨_, _, rfl, rfl, rfl⟩ := h
 exact rfl
theorem k68_mk (w : World) (x : S68)  : k68.K w x [.string x.f0, .int .i64 x.f1] := ⟨[.string x.f0], [.int .i64 x.f1], rfl, rfl, rfl⟩
theorem k68_mkM (w : World) (base : Nat) (ok : Nat → Prop) (x : S68)  : k68.M w base ok x [.string x.f0, .int .i64 x.f1] := ⟨[.string x.f0], [.int .i64 x.f1], rfl, rfl, rfl⟩
def rd_T68 (xs : List S68) (i : Int) : S68 := xs.getD i.toNat z68
theorem at_T68 {w : World} {A : Option Addr} {n : Nat} {xs : List S68} (h : Kd.C k68 w A n xs) (i : Int) (h0 : 0 ≤ i) (h1 : i < n) : ∃ ad , A = some ad ∧ w.cell? (ad.add (i.toNat * 2)) = some (.string (rd_T68 xs i).f0) ∧ w.cell? ⟨(ad.add (i.toNat * 2)).block, (ad.add (i.toNat * 2)).off + 1, none⟩ = some (.int .i64 (rd_T68 xs i).f1) := by
 obtain ⟨ad, c, e, _, hK, hc0⟩ := Kd.C_get h z68 i h0 h1
 have hc : ∀ j u, c[j]? = some u → w.cell? (ad.add (i.toNat * 2 + j)) = some u := hc0
 obtain rfl := k68_open hK
 exact ⟨ad, e, hc 0 _ rfl, by rw [← add_field _ _ 1 (by omega)]; exact hc 1 _ rfl⟩

def rd_L11 (xs : List (List S68)) (i : Int) : (List S68) := xs.getD i.toNat ([] : List S68)
theorem at_L11 {w : World} {A : Option Addr} {n : Nat} {xs : List (List S68)} (h : Kd.C (Kd.slice 68 k68) w A n xs) (i : Int) (h0 : 0 ≤ i) (h1 : i < n) : ∃ ad A0 c0, A = some ad ∧ w.cell? (ad.add i.toNat) = some (.slice A0 (rd_L11 xs i).length c0) ∧ (rd_L11 xs i).length ≤ c0 ∧ k68.C w A0 (rd_L11 xs i).length (rd_L11 xs i) := by
 obtain ⟨ad, c, e, _, hK, hc0⟩ := Kd.C_get h ([] : List S68) i h0 h1
 have hc : ∀ j u, c[j]? = some u → w.cell? (ad.add (i.toNat * 1 + j)) = some u := hc0
 obtain ⟨A0, c0, rfl, l0, g0⟩ := hK
 exact ⟨ad, A0, c0, e, by have hq := hc 0 _ rfl; rwa [Nat.mul_one, Nat.add_zero] at hq, l0, g0⟩

structure S60 where
 f0 : Int
 f1 : S35
 f2 : Int
 f3 : S57
 f4 : (List S68)
def z60 : S60 := ⟨(0 : Int), z35, (0 : Int), z57, ([] : List S68)⟩
def k60 : Kd S60 := Kd.iso (Kd.pair (Kd.int .i64) (Kd.pair k35 (Kd.pair (Kd.int .i64) (Kd.pair k57 (Kd.slice 68 k68))))) (fun x : S60 => (x.f0, x.f1, x.f2, x.f3, x.f4))
theorem k60_open {w : World} {x : S60} {cs : List Value} (h : k60.K w x cs) : ∃ A2 c2 A11 c11 A13 c13, cs = [.int .i64 x.f0, .int .i64 x.f1.f0, .slice A2 x.f1.f1.length c2, .int .u32 x.f1.f2, .int .i64 x.f1.f3, .string x.f1.f4, .int .u64 x.f1.f5, .int .u64 x.f1.f6, .bool x.f1.f7, .int .i64 x.f2, .int .i64 x.f3.f0, .slice A11 x.f3.f1.length c11, .int .u64 x.f3.f2, .slice A13 x.f4.length c13] ∧ x.f1.f1.length ≤ c2 ∧ Kd.string.C w A2 x.f1.f1.length x.f1.f1 ∧ x.f3.f1.length ≤ c11 ∧ k72.C w A11 x.f3.f1.length x.f3.f1 ∧ x.f4.length ≤ c13 ∧ k68.C w A13 x.f4.length x.f4 := by
 obtain ⟨_, _, rfl, rfl, ⟨_, _, rfl, s1, ⟨_, _, rfl, rfl, ⟨_, _, rfl, s10, ⟨A13, c13, rfl, l13, g13⟩⟩⟩⟩⟩ := h
 obtain ⟨A2, c2, rfl, l2, g2⟩ := k35_open s1
 obtain ⟨A11, c11, rfl, l11, g11⟩ := k57_open s10
 exact ⟨A2, c2, A11, c11, A13, c13, rfl, l2, g2, l11, g11, l13, g13⟩
theorem k60_openM {w : World} {base : Nat} {ok : Nat → Prop} {x : S60} {cs : List Value} (h : k60.M w base ok x cs) : ∃ v2 v11 v13, cs = [.int .i64 x.f0, .int .i64 x.f1.f0, v2, .int .u32 x.f1.f2, .int .i64 x.f1.f3, .string x.f1.f4, .int .u64 x.f1.f5, .int .u64 x.f1.f6, .bool x.f1.f7, .int .i64 x.f2, .int .i64 x.f3.f0, v11, .int .u64 x.f3.f2, v13] ∧ Kd.string.R 9 w base ok v2 x.f1.f1 ∧ k72.R 72 w base ok v11 x.f3.f1 ∧ k68.R 68 w base ok v13 x.f4 := by
 obtain ⟨_, _, rfl, rfl, ⟨_, _, rfl, s1, ⟨_, _, rfl, rfl, ⟨_, _, rfl, s10, ⟨v13, rfl, g13⟩⟩⟩⟩⟩ := h
 obtain ⟨v2, rfl, g2⟩ := k35_openM s1
 obtain ⟨v11, rfl, g11⟩ := k57_openM s10
 exact ⟨v2, v11, v13, rfl, g2, g11, g13⟩
theorem k60_mk (w : World) (x : S60) {A2 : Option Addr} {c2 : Nat} (l2 : x.f1.f1.length ≤ c2) (g2 : Kd.string.C w A2 x.f1.f1.length x.f1.f1) {A11 : Option Addr} {c11 : Nat} (l11 : x.f3.f1.length ≤ c11) (g11 : k72.C w A11 x.f3.f1.length x.f3.f1) {A13 : Option Addr} {c13 : Nat} (l13 : x.f4.length ≤ c13) (g13 : k68.C w A13 x.f4.length x.f4) : k60.K w x [.int .i64 x.f0, .int .i64 x.f1.f0, .slice A2 x.f1.f1.length c2, .int .u32 x.f1.f2, .int .i64 x.f1.f3, .string x.f1.f4, .int .u64 x.f1.f5, .int .u64 x.f1.f6, .bool x.f1.f7, .int .i64 x.f2, .int .i64 x.f3.f0, .slice A11 x.f3.f1.length c11, .int .u64 x.f3.f2, .slice A13 x.f4.length c13] := ⟨[.int .i64 x.f0], [.int .i64 x.f1.f0, .slice A2 x.f1.f1.length c2, .int .u32 x.f1.f2, .int .i64 x.f1.f3, .string x.f1.f4, .int .u64 x.f1.f5, .int .u64 x.f1.f6, .bool x.f1.f7, .int .i64 x.f2, .int .i64 x.f3.f0, .slice A11 x.f3.f1.length c11, .int .u64 x.f3.f2, .slice A13 x.f4.length c13], rfl, rfl, ⟨[.int .i64 x.f1.f0, .slice A2 x.f1.f1.length c2, .int .u32 x.f1.f2, .int .i64 x.f1.f3, .string x.f1.f4, .int .u64 x.f1.f5, .int .u64 x.f1.f6, .bool x.f1.f7], [.int .i64 x.f2, .int .i64 x.f3.f0, .slice A11 x.f3.f1.length c11, .int .u64 x.f3.f2, .slice A13 x.f4.length c13], rfl, (k35_mk w x.f1 l2 g2), ⟨[.int .i64 x.f2], [.int .i64 x.f3.f0, .slice A11 x.f3.f1.length c11, .int .u64 x.f3.f2, .slice A13 x.f4.length c13], rfl, rfl, ⟨[.int .i64 x.f3.f0, .slice A11 x.f3.f1.length c11, .int .u64 x.f3.f2], [.slice A13 x.f4.length c13], rfl, (k57_mk w x.f3 l11 g11), ⟨A13, c13, rfl, l13, g13⟩⟩⟩⟩⟩
theorem k60_mkM (w : World) (base : Nat) (ok : Nat → Prop) (x : S60) {v2 : Value} (g2 : Kd.string.R 9 w base ok v2 x.f1.f1) {v11 : Value} (g11 : k72.R 72 w base ok v11 x.f3.f1) {v13 : Value} (g13 : k68.R 68 w base ok v13 x.f4) : k60.M w base ok x [.int .i64 x.f0, .int .i64 x.f1.f0, v2, .int .u32 x.f1.f2, .int .i64 x.f1.f3, .string x.f1.f4, .int .u64 x.f1.f5, .int .u64 x.f1.f6, .bool x.f1.f7, .int .i64 x.f2, .int .i64 x.f3.f0, v11, .int .u64 x.f3.f2, v13] := ⟨[.int .i64 x.f0], [.int .i64 x.f1.f0, v2, .int .u32 x.f1.f2, .int .i64 x.f1.f3, .string x.f1.f4, .int .u64 x.f1.f5, .int .u64 x.f1.f6, .bool x.f1.f7, .int .i64 x.f2, .int .i64 x.f3.f0, v11, .int .u64 x.f3.f2, v13], rfl, rfl, ⟨[.int .i64 x.f1.f0, v2, .int .u32 x.f1.f2, .int .i64 x.f1.f3, .string x.f1.f4, .int .u64 x.f1.f5, .int .u64 x.f1.f6, .bool x.f1.f7], [.int .i64 x.f2, .int .i64 x.f3.f0, v11, .int .u64 x.f3.f2, v13], rfl, (k35_mkM w base ok x.f1 g2), ⟨[.int .i64 x.f2], [.int .i64 x.f3.f0, v11, .int .u64 x.f3.f2, v13], rfl, rfl, ⟨[.int .i64 x.f3.f0, v11, .int .u64 x.f3.f2], [v13], rfl, (k57_mkM w base ok x.f3 g11), ⟨v13, rfl, g13⟩⟩⟩⟩⟩
def rd_T60 (xs : List S60) (i : Int) : S60 := xs.getD i.toNat z60
theorem at_T60 {w : World} {A : Option Addr} {n : Nat} {xs : List S60} (h : Kd.C k60 w A n xs) (i : Int) (h0 : 0 ≤ i) (h1 : i < n) : ∃ ad A2 c2 A11 c11 A13 c13, A = some ad ∧ w.cell? (ad.add (i.toNat * 14)) = some (.int .i64 (rd_T60 xs i).f0) ∧ w.cell? ⟨(ad.add (i.toNat * 14)).block, (ad.add (i.toNat * 14)).off + 1, none⟩ = some (.int .i64 (rd_T60 xs i).f1.f0) ∧ w.cell? ⟨(ad.add (i.toNat * 14)).block, (ad.add (i.toNat * 14)).off + 2, none⟩ = some (.slice A2 (rd_T60 xs i).f1.f1.length c2) ∧ w.cell? ⟨(ad.add (i.toNat * 14)).block, (ad.add (i.toNat * 14)).off + 3, none⟩ = some (.int .u32 (rd_T60 xs i).f1.f2) ∧ w.cell? ⟨(ad.add (i.toNat * 14)).block, (ad.add (i.toNat * 14)).off + 4, none⟩ = some (.int .i64 (rd_T60 xs i).f1.f3) ∧ w.cell? ⟨(ad.add (i.toNat * 14)).block, (ad.add (i.toNat * 14)).off + 5, none⟩ = some (.string (rd_T60 xs i).f1.f4) ∧ w.cell? ⟨(ad.add (i.toNat * 14)).block, (ad.add (i.toNat * 14)).off + 6, none⟩ = some (.int .u64 (rd_T60 xs i).f1.f5) ∧ w.cell? ⟨(ad.add (i.toNat * 14)).block, (ad.add (i.toNat * 14)).off + 7, none⟩ = some (.int .u64 (rd_T60 xs i).f1.f6) ∧ w.cell? ⟨(ad.add (i.toNat * 14)).block, (ad.add (i.toNat * 14)).off + 8, none⟩ = some (.bool (rd_T60 xs i).f1.f7) ∧ w.cell? ⟨(ad.add (i.toNat * 14)).block, (ad.add (i.toNat * 14)).off + 9, none⟩ = some (.int .i64 (rd_T60 xs i).f2) ∧ w.cell? ⟨(ad.add (i.toNat * 14)).block, (ad.add (i.toNat * 14)).off + 10, none⟩ = some (.int .i64 (rd_T60 xs i).f3.f0) ∧ w.cell? ⟨(ad.add (i.toNat * 14)).block, (ad.add (i.toNat * 14)).off + 11, none⟩ = some (.slice A11 (rd_T60 xs i).f3.f1.length c11) ∧ w.cell? ⟨(ad.add (i.toNat * 14)).block, (ad.add (i.toNat * 14)).off + 12, none⟩ = some (.int .u64 (rd_T60 xs i).f3.f2) ∧ w.cell? ⟨(ad.add (i.toNat * 14)).block, (ad.add (i.toNat * 14)).off + 13, none⟩ = some (.slice A13 (rd_T60 xs i).f4.length c13) ∧ (rd_T60 xs i).f1.f1.length ≤ c2 ∧ Kd.string.C w A2 (rd_T60 xs i).f1.f1.length (rd_T60 xs i).f1.f1 ∧ (rd_T60 xs i).f3.f1.length ≤ c11 ∧ k72.C w A11 (rd_T60 xs i).f3.f1.length (rd_T60 xs i).f3.f1 ∧ (rd_T60 xs i).f4.length ≤ c13 ∧ k68.C w A13 (rd_T60 xs i).f4.length (rd_T60 xs i).f4 := by
 obtain ⟨ad, c, e, _, hK, hc0⟩ := Kd.C_get h z60 i h0 h1
 have hc : ∀ j u, c[j]? = some u → w.cell? (ad.add (i.toNat * 14 + j)) = some u := hc0
 obtain ⟨A2, c2, A11, c11, A13, c13, rfl, l2, g2, l11, g11, l13, g13⟩ := k60_open hK
 exact ⟨ad, A2, c2, A11, c11, A13, c13, e, hc 0 _ rfl, by rw [← add_field _ _ 1 (by omega)]; exact hc 1 _ rfl, by rw [← add_field _ _ 2 (by omega)]; exact hc 2 _ rfl, by rw [← add_field _ _ 3 (by omega)]; exact hc 3 _ rfl, by rw [← add_field _ _ 4 (by omega)]; exact hc 4 _ rfl, by rw [← add_field _ _ 5 (by omega)]; exact hc 5 _ rfl, by rw [← add_field _ _ 6 (by omega)]; exact hc 6 _ rfl, by rw [← add_field _ _ 7 (by omega)]; exact hc 7 _ rfl, by rw [← add_field _ _ 8 (by omega)]; exact hc 8 _ rfl, by rw [← add_field _ _ 9 (by omega)]; exact hc 9 _ rfl, by rw [← add_field _ _ 10 (by omega)]; exact hc 10 _ rfl, by rw [← add_field _ _ 11 (by omega)]; exact hc 11 _ rfl, by rw [← add_field _ _ 12 (by omega)]; exact hc 12 _ rfl, by rw [← add_field _ _ 13 (by omega)]; exact hc 13 _ rfl, l2, g2, l11, g11, l13, g13⟩

structure S44 where
 f0 : ByteArray
 f1 : Int
 f2 : ByteArray
 f3 : Int
def z44 : S44 := ⟨(⟨#[]⟩ : ByteArray), (0 : Int), (⟨#[]⟩ : ByteArray), (0 : Int)⟩
def k44 : Kd S44 := Kd.iso (Kd.pair Kd.string (Kd.pair (Kd.int .u32) (Kd.pair Kd.string (Kd.int .u64)))) (fun x : S44 => (x.f0, x.f1, x.f2, x.f3))
theorem k44_open {w : World} {x : S44} {cs : List Value} (h : k44.K w x cs) : cs = [.string x.f0, .int .u32 x.f1, .string x.f2, .int .u64 x.f3] := by
 obtain ⟨_, _, rfl, rfl, ⟨_, _, rfl, rfl, ⟨_, _, rfl, rfl, rfl⟩⟩⟩ := h
 exact rfl
theorem k44_openM {w : World} {base : Nat} {ok : Nat → Prop} {x : S44} {cs : List Value} (h : k44.M w base ok x cs) : cs = [.string x.f0, .int .u32 x.f1, .string x.f2, .int .u64 x.f3] := by
 obtain ⟨_, _, rfl, rfl, ⟨_, _, rfl, rfl, ⟨_, _, rfl, rfl, rfl⟩⟩⟩ := h
 exact rfl
theorem k44_mk (w : World) (x : S44)  : k44.K w x [.string x.f0, .int .u32 x.f1, .string x.f2, .int .u64 x.f3] := ⟨[.string x.f0], [.int .u32 x.f1, .string x.f2, .int .u64 x.f3], rfl, rfl, ⟨[.int .u32 x.f1], [.string x.f2, .int .u64 x.f3], rfl, rfl, ⟨[.string x.f2], [.int .u64 x.f3], rfl, rfl, rfl⟩⟩⟩
theorem k44_mkM (w : World) (base : Nat) (ok : Nat → Prop) (x : S44)  : k44.M w base ok x [.string x.f0, .int .u32 x.f1, .string x.f2, .int .u64 x.f3] := ⟨[.string x.f0], [.int .u32 x.f1, .string x.f2, .int .u64 x.f3], rfl, rfl, ⟨[.int .u32 x.f1], [.string x.f2, .int .u64 x.f3], rfl, rfl, ⟨[.string x.f2], [.int .u64 x.f3], rfl, rfl, rfl⟩⟩⟩
def rd_T44 (xs : List S44) (i : Int) : S44 := xs.getD i.toNat z44
theorem at_T44 {w : World} {A : Option Addr} {n : Nat} {xs : List S44} (h : Kd.C k44 w A n xs) (i : Int) (h0 : 0 ≤ i) (h1 : i < n) : ∃ ad , A = some ad ∧ w.cell? (ad.add (i.toNat * 4)) = some (.string (rd_T44 xs i).f0) ∧ w.cell? ⟨(ad.add (i.toNat * 4)).block, (ad.add (i.toNat * 4)).off + 1, none⟩ = some (.int .u32 (rd_T44 xs i).f1) ∧ w.cell? ⟨(ad.add (i.toNat * 4)).block, (ad.add (i.toNat * 4)).off + 2, none⟩ = some (.string (rd_T44 xs i).f2) ∧ w.cell? ⟨(ad.add (i.toNat * 4)).block, (ad.add (i.toNat * 4)).off + 3, none⟩ = some (.int .u64 (rd_T44 xs i).f3) := by
 obtain ⟨ad, c, e, _, hK, hc0⟩ := Kd.C_get h z44 i h0 h1
 have hc : ∀ j u, c[j]? = some u → w.cell? (ad.add (i.toNat * 4 + j)) = some u := hc0
 obtain rfl := k44_open hK
 exact ⟨ad, e, hc 0 _ rfl, by rw [← add_field _ _ 1 (by omega)]; exact hc 1 _ rfl, by rw [← add_field _ _ 2 (by omega)]; exact hc 2 _ rfl, by rw [← add_field _ _ 3 (by omega)]; exact hc 3 _ rfl⟩

def rd_L14 (xs : List (List S44)) (i : Int) : (List S44) := xs.getD i.toNat ([] : List S44)
theorem at_L14 {w : World} {A : Option Addr} {n : Nat} {xs : List (List S44)} (h : Kd.C (Kd.slice 44 k44) w A n xs) (i : Int) (h0 : 0 ≤ i) (h1 : i < n) : ∃ ad A0 c0, A = some ad ∧ w.cell? (ad.add i.toNat) = some (.slice A0 (rd_L14 xs i).length c0) ∧ (rd_L14 xs i).length ≤ c0 ∧ k44.C w A0 (rd_L14 xs i).length (rd_L14 xs i) := by
 obtain ⟨ad, c, e, _, hK, hc0⟩ := Kd.C_get h ([] : List S44) i h0 h1
 have hc : ∀ j u, c[j]? = some u → w.cell? (ad.add (i.toNat * 1 + j)) = some u := hc0
 obtain ⟨A0, c0, rfl, l0, g0⟩ := hK
 exact ⟨ad, A0, c0, e, by have hq := hc 0 _ rfl; rwa [Nat.mul_one, Nat.add_zero] at hq, l0, g0⟩

structure S38 where
 f0 : Int
 f1 : (List S44)
 f2 : Int
def z38 : S38 := ⟨(0 : Int), ([] : List S44), (0 : Int)⟩
def k38 : Kd S38 := Kd.iso (Kd.pair (Kd.int .i64) (Kd.pair (Kd.slice 44 k44) (Kd.int .u64))) (fun x : S38 => (x.f0, x.f1, x.f2))
theorem k38_open {w : World} {x : S38} {cs : List Value} (h : k38.K w x cs) : ∃ A1 c1, cs = [.int .i64 x.f0, .slice A1 x.f1.length c1, .int .u64 x.f2] ∧ x.f1.length ≤ c1 ∧ k44.C w A1 x.f1.length x.f1 := by
 obtain ⟨_, _, rfl, rfl, ⟨_, _, rfl, ⟨A1, c1, rfl, l1, g1⟩, rfl⟩⟩ := h
 exact ⟨A1, c1, rfl, l1, g1⟩
theorem k38_openM {w : World} {base : Nat} {ok : Nat → Prop} {x : S38} {cs : List Value} (h : k38.M w base ok x cs) : ∃ v1, cs = [.int .i64 x.f0, v1, .int .u64 x.f2] ∧ k44.R 44 w base ok v1 x.f1 := by
 obtain ⟨_, _, rfl, rfl, ⟨_, _, rfl, ⟨v1, rfl, g1⟩, rfl⟩⟩ := h
 exact ⟨v1, rfl, g1⟩
theorem k38_mk (w : World) (x : S38) {A1 : Option Addr} {c1 : Nat} (l1 : x.f1.length ≤ c1) (g1 : k44.C w A1 x.f1.length x.f1) : k38.K w x [.int .i64 x.f0, .slice A1 x.f1.length c1, .int .u64 x.f2] := ⟨[.int .i64 x.f0], [.slice A1 x.f1.length c1, .int .u64 x.f2], rfl, rfl, ⟨[.slice A1 x.f1.length c1], [.int .u64 x.f2], rfl, ⟨A1, c1, rfl, l1, g1⟩, rfl⟩⟩
theorem k38_mkM (w : World) (base : Nat) (ok : Nat → Prop) (x : S38) {v1 : Value} (g1 : k44.R 44 w base ok v1 x.f1) : k38.M w base ok x [.int .i64 x.f0, v1, .int .u64 x.f2] := ⟨[.int .i64 x.f0], [v1, .int .u64 x.f2], rfl, rfl, ⟨[v1], [.int .u64 x.f2], rfl, ⟨v1, rfl, g1⟩, rfl⟩⟩
def rd_T38 (xs : List S38) (i : Int) : S38 := xs.getD i.toNat z38
theorem at_T38 {w : World} {A : Option Addr} {n : Nat} {xs : List S38} (h : Kd.C k38 w A n xs) (i : Int) (h0 : 0 ≤ i) (h1 : i < n) : ∃ ad A1 c1, A = some ad ∧ w.cell? (ad.add (i.toNat * 3)) = some (.int .i64 (rd_T38 xs i).f0) ∧ w.cell? ⟨(ad.add (i.toNat * 3)).block, (ad.add (i.toNat * 3)).off + 1, none⟩ = some (.slice A1 (rd_T38 xs i).f1.length c1) ∧ w.cell? ⟨(ad.add (i.toNat * 3)).block, (ad.add (i.toNat * 3)).off + 2, none⟩ = some (.int .u64 (rd_T38 xs i).f2) ∧ (rd_T38 xs i).f1.length ≤ c1 ∧ k44.C w A1 (rd_T38 xs i).f1.length (rd_T38 xs i).f1 := by
 obtain ⟨ad, c, e, _, hK, hc0⟩ := Kd.C_get h z38 i h0 h1
 have hc : ∀ j u, c[j]? = some u → w.cell? (ad.add (i.toNat * 3 + j)) = some u := hc0
 obtain ⟨A1, c1, rfl, l1, g1⟩ := k38_open hK
 exact ⟨ad, A1, c1, e, hc 0 _ rfl, by rw [← add_field _ _ 1 (by omega)]; exact hc 1 _ rfl, by rw [← add_field _ _ 2 (by omega)]; exact hc 2 _ rfl, l1, g1⟩

structure S46 where
 f0 : ByteArray
 f1 : Int
def z46 : S46 := ⟨(⟨#[]⟩ : ByteArray), (0 : Int)⟩
def k46 : Kd S46 := Kd.iso (Kd.pair Kd.string (Kd.int .i64)) (fun x : S46 => (x.f0, x.f1))
theorem k46_open {w : World} {x : S46} {cs : List Value} (h : k46.K w x cs) : cs = [.string x.f0, .int .i64 x.f1] := by
 obtain ⟨_, _, rfl, rfl, rfl⟩ := h
 exact rfl
theorem k46_openM {w : World} {base : Nat} {ok : Nat → Prop} {x : S46} {cs : List Value} (h : k46.M w base ok x cs) : cs = [.string x.f0, .int .i64 x.f1] := by
 obtain ⟨_, _, rfl, rfl, rfl⟩ := h
 exact rfl
theorem k46_mk (w : World) (x : S46)  : k46.K w x [.string x.f0, .int .i64 x.f1] := ⟨[.string x.f0], [.int .i64 x.f1], rfl, rfl, rfl⟩
theorem k46_mkM (w : World) (base : Nat) (ok : Nat → Prop) (x : S46)  : k46.M w base ok x [.string x.f0, .int .i64 x.f1] := ⟨[.string x.f0], [.int .i64 x.f1], rfl, rfl, rfl⟩
def rd_T46 (xs : List S46) (i : Int) : S46 := xs.getD i.toNat z46
theorem at_T46 {w : World} {A : Option Addr} {n : Nat} {xs : List S46} (h : Kd.C k46 w A n xs) (i : Int) (h0 : 0 ≤ i) (h1 : i < n) : ∃ ad , A = some ad ∧ w.cell? (ad.add (i.toNat * 2)) = some (.string (rd_T46 xs i).f0) ∧ w.cell? ⟨(ad.add (i.toNat * 2)).block, (ad.add (i.toNat * 2)).off + 1, none⟩ = some (.int .i64 (rd_T46 xs i).f1) := by
 obtain ⟨ad, c, e, _, hK, hc0⟩ := Kd.C_get h z46 i h0 h1
 have hc : ∀ j u, c[j]? = some u → w.cell? (ad.add (i.toNat * 2 + j)) = some u := hc0
 obtain rfl := k46_open hK
 exact ⟨ad, e, hc 0 _ rfl, by rw [← add_field _ _ 1 (by omega)]; exact hc 1 _ rfl⟩

def rd_L17 (xs : List (List S46)) (i : Int) : (List S46) := xs.getD i.toNat ([] : List S46)
theorem at_L17 {w : World} {A : Option Addr} {n : Nat} {xs : List (List S46)} (h : Kd.C (Kd.slice 46 k46) w A n xs) (i : Int) (h0 : 0 ≤ i) (h1 : i < n) : ∃ ad A0 c0, A = some ad ∧ w.cell? (ad.add i.toNat) = some (.slice A0 (rd_L17 xs i).length c0) ∧ (rd_L17 xs i).length ≤ c0 ∧ k46.C w A0 (rd_L17 xs i).length (rd_L17 xs i) := by
 obtain ⟨ad, c, e, _, hK, hc0⟩ := Kd.C_get h ([] : List S46) i h0 h1
 have hc : ∀ j u, c[j]? = some u → w.cell? (ad.add (i.toNat * 1 + j)) = some u := hc0
 obtain ⟨A0, c0, rfl, l0, g0⟩ := hK
 exact ⟨ad, A0, c0, e, by have hq := hc 0 _ rfl; rwa [Nat.mul_one, Nat.add_zero] at hq, l0, g0⟩

structure S41 where
 f0 : Int
 f1 : S35
 f2 : Int
 f3 : S38
 f4 : (List S46)
def z41 : S41 := ⟨(0 : Int), z35, (0 : Int), z38, ([] : List S46)⟩
def k41 : Kd S41 := Kd.iso (Kd.pair (Kd.int .i64) (Kd.pair k35 (Kd.pair (Kd.int .i64) (Kd.pair k38 (Kd.slice 46 k46))))) (fun x : S41 => (x.f0, x.f1, x.f2, x.f3, x.f4))
theorem k41_open {w : World} {x : S41} {cs : List Value} (h : k41.K w x cs) : ∃ A2 c2 A11 c11 A13 c13, cs = [.int .i64 x.f0, .int .i64 x.f1.f0, .slice A2 x.f1.f1.length c2, .int .u32 x.f1.f2, .int .i64 x.f1.f3, .string x.f1.f4, .int .u64 x.f1.f5, .int .u64 x.f1.f6, .bool x.f1.f7, .int .i64 x.f2, .int .i64 x.f3.f0, .slice A11 x.f3.f1.length c11, .int .u64 x.f3.f2, .slice A13 x.f4.length c13] ∧ x.f1.f1.length ≤ c2 ∧ Kd.string.C w A2 x.f1.f1.length x.f1.f1 ∧ x.f3.f1.length ≤ c11 ∧ k44.C w A11 x.f3.f1.length x.f3.f1 ∧ x.f4.length ≤ c13 ∧ k46.C w A13 x.f4.length x.f4 := by
 obtain ⟨_, _, rfl, rfl, ⟨_, _, rfl, s1, ⟨_, _, rfl, rfl, ⟨_, _, rfl, s10, ⟨A13, c13, rfl, l13, g13⟩⟩⟩⟩⟩ := h
 obtain ⟨A2, c2, rfl, l2, g2⟩ := k35_open s1
 obtain ⟨A11, c11, rfl, l11, g11⟩ := k38_open s10
 exact ⟨A2, c2, A11, c11, A13, c13, rfl, l2, g2, l11, g11, l13, g13⟩
theorem k41_openM {w : World} {base : Nat} {ok : Nat → Prop} {x : S41} {cs : List Value} (h : k41.M w base ok x cs) : ∃ v2 v11 v13, cs = [.int .i64 x.f0, .int .i64 x.f1.f0, v2, .int .u32 x.f1.f2, .int .i64 x.f1.f3, .string x.f1.f4, .int .u64 x.f1.f5, .int .u64 x.f1.f6, .bool x.f1.f7, .int .i64 x.f2, .int .i64 x.f3.f0, v11, .int .u64 x.f3.f2, v13] ∧ Kd.string.R 9 w base ok v2 x.f1.f1 ∧ k44.R 44 w base ok v11 x.f3.f1 ∧ k46.R 46 w base ok v13 x.f4 := by
 obtain ⟨_, _, rfl, rfl, ⟨_, _, rfl, s1, ⟨_, _, rfl, rfl, ⟨_, _, rfl, s10, ⟨v13, rfl, g13⟩⟩⟩⟩⟩ := h
 obtain ⟨v2, rfl, g2⟩ := k35_openM s1
 obtain ⟨v11, rfl, g11⟩ := k38_openM s10
 exact ⟨v2, v11, v13, rfl, g2, g11, g13⟩
theorem k41_mk (w : World) (x : S41) {A2 : Option Addr} {c2 : Nat} (l2 : x.f1.f1.length ≤ c2) (g2 : Kd.string.C w A2 x.f1.f1.length x.f1.f1) {A11 : Option Addr} {c11 : Nat} (l11 : x.f3.f1.length ≤ c11) (g11 : k44.C w A11 x.f3.f1.length x.f3.f1) {A13 : Option Addr} {c13 : Nat} (l13 : x.f4.length ≤ c13) (g13 : k46.C w A13 x.f4.length x.f4) : k41.K w x [.int .i64 x.f0, .int .i64 x.f1.f0, .slice A2 x.f1.f1.length c2, .int .u32 x.f1.f2, .int .i64 x.f1.f3, .string x.f1.f4, .int .u64 x.f1.f5, .int .u64 x.f1.f6, .bool x.f1.f7, .int .i64 x.f2, .int .i64 x.f3.f0, .slice A11 x.f3.f1.length c11, .int .u64 x.f3.f2, .slice A13 x.f4.length c13] := ⟨[.int .i64 x.f0], [.int .i64 x.f1.f0, .slice A2 x.f1.f1.length c2, .int .u32 x.f1.f2, .int .i64 x.f1.f3, .string x.f1.f4, .int .u64 x.f1.f5, .int .u64 x.f1.f6, .bool x.f1.f7, .int .i64 x.f2, .int .i64 x.f3.f0, .slice A11 x.f3.f1.length c11, .int .u64 x.f3.f2, .slice A13 x.f4.length c13], rfl, rfl, ⟨[.int .i64 x.f1.f0, .slice A2 x.f1.f1.length c2, .int .u32 x.f1.f2, .int .i64 x.f1.f3, .string x.f1.f4, .int .u64 x.f1.f5, .int .u64 x.f1.f6, .bool x.f1.f7], [.int .i64 x.f2, .int .i64 x.f3.f0, .slice A11 x.f3.f1.length c11, .int .u64 x.f3.f2, .slice A13 x.f4.length c13], rfl, (k35_mk w x.f1 l2 g2), ⟨[.int .i64 x.f2], [.int .i64 x.f3.f0, .slice A11 x.f3.f1.length c11, .int .u64 x.f3.f2, .slice A13 x.f4.length c13], rfl, rfl, ⟨[.int .i64 x.f3.f0, .slice A11 x.f3.f1.length c11, .int .u64 x.f3.f2], [.slice A13 x.f4.length c13], rfl, (k38_mk w x.f3 l11 g11), ⟨A13, c13, rfl, l13, g13⟩⟩⟩⟩⟩
theorem k41_mkM (w : World) (base : Nat) (ok : Nat → Prop) (x : S41) {v2 : Value} (g2 : Kd.string.R 9 w base ok v2 x.f1.f1) {v11 : Value} (g11 : k44.R 44 w base ok v11 x.f3.f1) {v13 : Value} (g13 : k46.R 46 w base ok v13 x.f4) : k41.M w base ok x [.int .i64 x.f0, .int .i64 x.f1.f0, v2, .int .u32 x.f1.f2, .int .i64 x.f1.f3, .string x.f1.f4, .int .u64 x.f1.f5, .int .u64 x.f1.f6, .bool x.f1.f7, .int .i64 x.f2, .int .i64 x.f3.f0, v11, .int .u64 x.f3.f2, v13] := ⟨[.int .i64 x.f0], [.int .i64 x.f1.f0, v2, .int .u32 x.f1.f2, .int .i64 x.f1.f3, .string x.f1.f4, .int .u64 x.f1.f5, .int .u64 x.f1.f6, .bool x.f1.f7, .int .i64 x.f2, .int .i64 x.f3.f0, v11, .int .u64 x.f3.f2, v13], rfl, rfl, ⟨[.int .i64 x.f1.f0, v2, .int .u32 x.f1.f2, .int .i64 x.f1.f3, .string x.f1.f4, .int .u64 x.f1.f5, .int .u64 x.f1.f6, .bool x.f1.f7], [.int .i64 x.f2, .int .i64 x.f3.f0, v11, .int .u64 x.f3.f2, v13], rfl, (k35_mkM w base ok x.f1 g2), ⟨[.int .i64 x.f2], [.int .i64 x.f3.f0, v11, .int .u64 x.f3.f2, v13], rfl, rfl, ⟨[.int .i64 x.f3.f0, v11, .int .u64 x.f3.f2], [v13], rfl, (k38_mkM w base ok x.f3 g11), ⟨v13, rfl, g13⟩⟩⟩⟩⟩
def rd_T41 (xs : List S41) (i : Int) : S41 := xs.getD i.toNat z41
theorem at_T41 {w : World} {A : Option Addr} {n : Nat} {xs : List S41} (h : Kd.C k41 w A n xs) (i : Int) (h0 : 0 ≤ i) (h1 : i < n) : ∃ ad A2 c2 A11 c11 A13 c13, A = some ad ∧ w.cell? (ad.add (i.toNat * 14)) = some (.int .i64 (rd_T41 xs i).f0) ∧ w.cell? ⟨(ad.add (i.toNat * 14)).block, (ad.add (i.toNat * 14)).off + 1, none⟩ = some (.int .i64 (rd_T41 xs i).f1.f0) ∧ w.cell? ⟨(ad.add (i.toNat * 14)).block, (ad.add (i.toNat * 14)).off + 2, none⟩ = some (.slice A2 (rd_T41 xs i).f1.f1.length c2) ∧ w.cell? ⟨(ad.add (i.toNat * 14)).block, (ad.add (i.toNat * 14)).off + 3, none⟩ = some (.int .u32 (rd_T41 xs i).f1.f2) ∧ w.cell? ⟨(ad.add (i.toNat * 14)).block, (ad.add (i.toNat * 14)).off + 4, none⟩ = some (.int .i64 (rd_T41 xs i).f1.f3) ∧ w.cell? ⟨(ad.add (i.toNat * 14)).block, (ad.add (i.toNat * 14)).off + 5, none⟩ = some (.string (rd_T41 xs i).f1.f4) ∧ w.cell? ⟨(ad.add (i.toNat * 14)).block, (ad.add (i.toNat * 14)).off + 6, none⟩ = some (.int .u64 (rd_T41 xs i).f1.f5) ∧ w.cell? ⟨(ad.add (i.toNat * 14)).block, (ad.add (i.toNat * 14)).off + 7, none⟩ = some (.int .u64 (rd_T41 xs i).f1.f6) ∧ w.cell? ⟨(ad.add (i.toNat * 14)).block, (ad.add (i.toNat * 14)).off + 8, none⟩ = some (.bool (rd_T41 xs i).f1.f7) ∧ w.cell? ⟨(ad.add (i.toNat * 14)).block, (ad.add (i.toNat * 14)).off + 9, none⟩ = some (.int .i64 (rd_T41 xs i).f2) ∧ w.cell? ⟨(ad.add (i.toNat * 14)).block, (ad.add (i.toNat * 14)).off + 10, none⟩ = some (.int .i64 (rd_T41 xs i).f3.f0) ∧ w.cell? ⟨(ad.add (i.toNat * 14)).block, (ad.add (i.toNat * 14)).off + 11, none⟩ = some (.slice A11 (rd_T41 xs i).f3.f1.length c11) ∧ w.cell? ⟨(ad.add (i.toNat * 14)).block, (ad.add (i.toNat * 14)).off + 12, none⟩ = some (.int .u64 (rd_T41 xs i).f3.f2) ∧ w.cell? ⟨(ad.add (i.toNat * 14)).block, (ad.add (i.toNat * 14)).off + 13, none⟩ = some (.slice A13 (rd_T41 xs i).f4.length c13) ∧ (rd_T41 xs i).f1.f1.length ≤ c2 ∧ Kd.string.C w A2 (rd_T41 xs i).f1.f1.length (rd_T41 xs i).f1.f1 ∧ (rd_T41 xs i).f3.f1.length ≤ c11 ∧ k44.C w A11 (rd_T41 xs i).f3.f1.length (rd_T41 xs i).f3.f1 ∧ (rd_T41 xs i).f4.length ≤ c13 ∧ k46.C w A13 (rd_T41 xs i).f4.length (rd_T41 xs i).f4 := by
 obtain ⟨ad, c, e, _, hK, hc0⟩ := Kd.C_get h z41 i h0 h1
 have hc : ∀ j u, c[j]? = some u → w.cell? (ad.add (i.toNat * 14 + j)) = some u := hc0
 obtain ⟨A2, c2, A11, c11, A13, c13, rfl, l2, g2, l11, g11, l13, g13⟩ := k41_open hK
 exact ⟨ad, A2, c2, A11, c11, A13, c13, e, hc 0 _ rfl, by rw [← add_field _ _ 1 (by omega)]; exact hc 1 _ rfl, by rw [← add_field _ _ 2 (by omega)]; exact hc 2 _ rfl, by rw [← add_field _ _ 3 (by omega)]; exact hc 3 _ rfl, by rw [← add_field _ _ 4 (by omega)]; exact hc 4 _ rfl, by rw [← add_field _ _ 5 (by omega)]; exact hc 5 _ rfl, by rw [← add_field _ _ 6 (by omega)]; exact hc 6 _ rfl, by rw [← add_field _ _ 7 (by omega)]; exact hc 7 _ rfl, by rw [← add_field _ _ 8 (by omega)]; exact hc 8 _ rfl, by rw [← add_field _ _ 9 (by omega)]; exact hc 9 _ rfl, by rw [← add_field _ _ 10 (by omega)]; exact hc 10 _ rfl, by rw [← add_field _ _ 11 (by omega)]; exact hc 11 _ rfl, by rw [← add_field _ _ 12 (by omega)]; exact hc 12 _ rfl, by rw [← add_field _ _ 13 (by omega)]; exact hc 13 _ rfl, l2, g2, l11, g11, l13, g13⟩

end
end Go.Proofs.YtdihoopofhediaaGreatDoor.XMd
end
section
namespace Go.Proofs.YtdihoopofhediaaGreatDoor.XMd
open Go.RowKit Go.Proofs.YtdihoopofhediaaGreatDoorW.PrintWords Go.Proofs.YtdihoopofhediaaGreatDoorW.PrintLast Go.Proofs.YtdihoopofhediaaGreatDoorW.PrintMore
attribute [local go_sem] extract_sub max2_int min2_int max_two min_two max_three min_three max_four min_four   -- for this text's walks alone
set_option linter.unusedVariables false
set_option linter.unusedSimpArgs false

noncomputable section
def verb_Stores.f (a0 : Int) : Option (Bool) := if a0 ≥ 5 then (some (decide (a0 ≤ 10))) else (some false)
set_option maxHeartbeats 8000000 in
set_option maxRecDepth 100000 in
theorem verb_Stores.calls (a0 : Int) (r : Bool) (w : World) (h : verb_Stores.f a0 = some r) :
 Calls Tryz.prog 32 #[.int .i64 a0] w fun e w' => e = .returned (.bool r) ∧ Below w.heap.size w w' := by
 have HB := Aside0.mk (Below.refl w.heap.size w)
 have H : (if a0 ≥ 5 then (some (decide (a0 ≤ 10))) else (some false)) = some r := h
 clear h
 by_cases c2 : a0 ≥ 5
 · rw [if_pos c2] at H
   have c2b0 : decide (5 ≤ a0) = true := decide_eq_true c2
   clear c2
   obtain rfl := Option.some.inj H
   go_enter Tryz.func32, Tryz.ntmps32
   go_wp2
   go_ret
   exact ⟨reA, hbA HB.out⟩
 rw [if_neg c2] at H
 have c2b0 : decide (5 ≤ a0) = false := decide_eq_false c2
 clear c2
 obtain rfl := Option.some.inj H
 go_enter Tryz.func32, Tryz.ntmps32
 go_wp2
 go_ret
 exact ⟨reA, hbA HB.out⟩

def verb_kind.f (a0 : Int) : Option (Bool) := if a0 ≥ 1 then (some (decide (a0 ≤ 15))) else (some false)
set_option maxHeartbeats 8000000 in
set_option maxRecDepth 100000 in
theorem verb_kind.calls (a0 : Int) (r : Bool) (w : World) (h : verb_kind.f a0 = some r) :
 Calls Tryz.prog 38 #[.int .i64 a0] w fun e w' => e = .returned (.bool r) ∧ Below w.heap.size w w' := by
 have HB := Aside0.mk (Below.refl w.heap.size w)
 have H : (if a0 ≥ 1 then (some (decide (a0 ≤ 15))) else (some false)) = some r := h
 clear h
 by_cases c2 : a0 ≥ 1
 · rw [if_pos c2] at H
   have c2b0 : decide (1 ≤ a0) = true := decide_eq_true c2
   clear c2
   obtain rfl := Option.some.inj H
   go_enter Tryz.func38, Tryz.ntmps38
   go_wp2
   go_ret
   exact ⟨reA, hbA HB.out⟩
 rw [if_neg c2] at H
 have c2b0 : decide (1 ≤ a0) = false := decide_eq_false c2
 clear c2
 obtain rfl := Option.some.inj H
 go_enter Tryz.func38, Tryz.ntmps38
 go_wp2
 go_ret
 exact ⟨reA, hbA HB.out⟩

def verb_ends.f (a0 : Int) : Option (Bool) := if a0 = 3 then (some true) else (if a0 = 4 then (some true) else (if a0 = 14 then (some true) else (if a0 = 5 then (some true) else (if a0 = 6 then (some true) else (if a0 = 7 then (some true) else (if a0 = 10 then (some true) else (some false)))))))
set_option maxHeartbeats 8000000 in
set_option maxRecDepth 100000 in
theorem verb_ends.calls (a0 : Int) (r : Bool) (w : World) (h : verb_ends.f a0 = some r) :
 Calls Tryz.prog 39 #[.int .i64 a0] w fun e w' => e = .returned (.bool r) ∧ Below w.heap.size w w' := by
 have HB := Aside0.mk (Below.refl w.heap.size w)
 have H : (if a0 = 3 then (some true) else (if a0 = 4 then (some true) else (if a0 = 14 then (some true) else (if a0 = 5 then (some true) else (if a0 = 6 then (some true) else (if a0 = 7 then (some true) else (if a0 = 10 then (some true) else (some false)))))))) = some r := h
 clear h
 by_cases c2 : a0 = 3
 · rw [if_pos c2] at H
   have c2b0 : (a0 == 3) = true := beq_iff_eq.mpr c2
   have c2b1 : (a0 != 3) = false := bne_eq_false_iff_eq.mpr c2
   clear c2
   obtain rfl := Option.some.inj H
   go_enter Tryz.func39, Tryz.ntmps39
   go_wp2
   go_ret
   exact ⟨reA, hbA HB.out⟩
 rw [if_neg c2] at H
 have c2b0 : (a0 == 3) = false := beq_eq_false_iff_ne.mpr c2
 have c2b1 : (a0 != 3) = true := bne_iff_ne.mpr c2
 by_cases c3 : a0 = 4
 · rw [if_pos c3] at H
   have c3b0 : (a0 == 4) = true := beq_iff_eq.mpr c3
   have c3b1 : (a0 != 4) = false := bne_eq_false_iff_eq.mpr c3
   clear c3
   obtain rfl := Option.some.inj H
   go_enter Tryz.func39, Tryz.ntmps39
   go_wp2
   go_ret
   exact ⟨reA, hbA HB.out⟩
 rw [if_neg c3] at H
 have c3b0 : (a0 == 4) = false := beq_eq_false_iff_ne.mpr c3
 have c3b1 : (a0 != 4) = true := bne_iff_ne.mpr c3
 by_cases c4 : a0 = 14
 · rw [if_pos c4] at H
   have c4b0 : (a0 == 14) = true := beq_iff_eq.mpr c4
   have c4b1 : (a0 != 14) = false := bne_eq_false_iff_eq.mpr c4
   clear c4
   obtain rfl := Option.some.inj H
   go_enter Tryz.func39, Tryz.ntmps39
   go_wp2
   go_ret
   exact ⟨reA, hbA HB.out⟩
 rw [if_neg c4] at H
 have c4b0 : (a0 == 14) = false := beq_eq_false_iff_ne.mpr c4
 have c4b1 : (a0 != 14) = true := bne_iff_ne.mpr c4
 by_cases c5 : a0 = 5
 · rw [if_pos c5] at H
   have c5b0 : (a0 == 5) = true := beq_iff_eq.mpr c5
   have c5b1 : (a0 != 5) = false := bne_eq_false_iff_eq.mpr c5
   clear c5
   obtain rfl := Option.some.inj H
   go_enter Tryz.func39, Tryz.ntmps39
   go_wp2
   go_ret
   exact ⟨reA, hbA HB.out⟩
 rw [if_neg c5] at H
 have c5b0 : (a0 == 5) = false := beq_eq_false_iff_ne.mpr c5
 have c5b1 : (a0 != 5) = true := bne_iff_ne.mpr c5
 by_cases c6 : a0 = 6
 · rw [if_pos c6] at H
   have c6b0 : (a0 == 6) = true := beq_iff_eq.mpr c6
   have c6b1 : (a0 != 6) = false := bne_eq_false_iff_eq.mpr c6
   clear c6
   obtain rfl := Option.some.inj H
   go_enter Tryz.func39, Tryz.ntmps39
   go_wp2
   go_ret
   exact ⟨reA, hbA HB.out⟩
 rw [if_neg c6] at H
 have c6b0 : (a0 == 6) = false := beq_eq_false_iff_ne.mpr c6
 have c6b1 : (a0 != 6) = true := bne_iff_ne.mpr c6
 by_cases c7 : a0 = 7
 · rw [if_pos c7] at H
   have c7b0 : (a0 == 7) = true := beq_iff_eq.mpr c7
   have c7b1 : (a0 != 7) = false := bne_eq_false_iff_eq.mpr c7
   clear c7
   obtain rfl := Option.some.inj H
   go_enter Tryz.func39, Tryz.ntmps39
   go_wp2
   go_ret
   exact ⟨reA, hbA HB.out⟩
 rw [if_neg c7] at H
 have c7b0 : (a0 == 7) = false := beq_eq_false_iff_ne.mpr c7
 have c7b1 : (a0 != 7) = true := bne_iff_ne.mpr c7
 by_cases c8 : a0 = 10
 · rw [if_pos c8] at H
   have c8b0 : (a0 == 10) = true := beq_iff_eq.mpr c8
   have c8b1 : (a0 != 10) = false := bne_eq_false_iff_eq.mpr c8
   clear c8
   obtain rfl := Option.some.inj H
   go_enter Tryz.func39, Tryz.ntmps39
   go_wp2
   go_ret
   exact ⟨reA, hbA HB.out⟩
 rw [if_neg c8] at H
 have c8b0 : (a0 == 10) = false := beq_eq_false_iff_ne.mpr c8
 have c8b1 : (a0 != 10) = true := bne_iff_ne.mpr c8
 obtain rfl := Option.some.inj H
 go_enter Tryz.func39, Tryz.ntmps39
 go_wp2
 go_ret
 exact ⟨reA, hbA HB.out⟩

def verb_reads.f (a0 : Int) : Option (Bool) := if a0 ≥ 1 then (some (decide (a0 ≤ 4))) else (some false)
set_option maxHeartbeats 8000000 in
set_option maxRecDepth 100000 in
theorem verb_reads.calls (a0 : Int) (r : Bool) (w : World) (h : verb_reads.f a0 = some r) :
 Calls Tryz.prog 40 #[.int .i64 a0] w fun e w' => e = .returned (.bool r) ∧ Below w.heap.size w w' := by
 have HB := Aside0.mk (Below.refl w.heap.size w)
 have H : (if a0 ≥ 1 then (some (decide (a0 ≤ 4))) else (some false)) = some r := h
 clear h
 by_cases c2 : a0 ≥ 1
 · rw [if_pos c2] at H
   have c2b0 : decide (1 ≤ a0) = true := decide_eq_true c2
   clear c2
   obtain rfl := Option.some.inj H
   go_enter Tryz.func40, Tryz.ntmps40
   go_wp2
   go_ret
   exact ⟨reA, hbA HB.out⟩
 rw [if_neg c2] at H
 have c2b0 : decide (1 ≤ a0) = false := decide_eq_false c2
 clear c2
 obtain rfl := Option.some.inj H
 go_enter Tryz.func40, Tryz.ntmps40
 go_wp2
 go_ret
 exact ⟨reA, hbA HB.out⟩

def verb_keys.f (a0 : Int) (a1 : Int) : Option (Bool) := (verb_reads.f a0).bind fun t101 => (if t101 = true then (if a1 ≥ 1 then (some (decide (a1 ≤ 8))) else (some false)) else (if a0 = 15 then (some (a1 == 0)) else (some (a1 == 1))))
set_option maxHeartbeats 8000000 in
set_option maxRecDepth 100000 in
theorem verb_keys.calls (a0 : Int) (a1 : Int) (r : Bool) (w : World) (h : verb_keys.f a0 a1 = some r) :
 Calls Tryz.prog 43 #[.int .i64 a0, .int .i64 a1] w fun e w' => e = .returned (.bool r) ∧ Below w.heap.size w w' := by
 have HB := Aside0.mk (Below.refl w.heap.size w)
 have H : ((verb_reads.f a0).bind fun t101 => (if t101 = true then (if a1 ≥ 1 then (some (decide (a1 ≤ 8))) else (some false)) else (if a0 = 15 then (some (a1 == 0)) else (some (a1 == 1))))) = some r := h
 clear h
 replace H := Option.bind_eq_some_iff.mp H
 obtain ⟨t101, A30, H⟩ := H
 replace H : (if t101 = true then (if a1 ≥ 1 then (some (decide (a1 ≤ 8))) else (some false)) else (if a0 = 15 then (some (a1 == 0)) else (some (a1 == 1)))) = some r := H
 have A3 := Aside0.mk A30
 clear A30
 by_cases c4 : t101 = true
 · subst c4
   have H1 : (if a1 ≥ 1 then (some (decide (a1 ≤ 8))) else (some false)) = some r := by rw [if_pos rfl] at H; exact H
   clear H
   have H := H1
   clear H1
   by_cases c5 : a1 ≥ 1
   · rw [if_pos c5] at H
     have c5b0 : decide (1 ≤ a1) = true := decide_eq_true c5
     clear c5
     obtain rfl := Option.some.inj H
     go_enter Tryz.func43, Tryz.ntmps43
     go_wp2_with (first | ((with_reducible refine gate_callee (f := 40) rfl ?_); refine goesL_ (some 7) rfl rfl Tryz.func40 (by kernel_rfl) rfl #[.int .i64 a0] rfl argA ?_; (with_reducible refine (verb_reads.calls a0 true _ A3.out).mono ?_); rintro e w6 ⟨rfl, hb⟩; refine ⟨_, rfl, ?_⟩; replace HB := Aside0.mk (below_step (hbA HB.out) hb); (try clear hb); (try clear hb2); (try clear hk); (try clear hi)))
     go_ret
     exact ⟨reA, hbA HB.out⟩
   rw [if_neg c5] at H
   have c5b0 : decide (1 ≤ a1) = false := decide_eq_false c5
   clear c5
   obtain rfl := Option.some.inj H
   go_enter Tryz.func43, Tryz.ntmps43
   go_wp2_with (first | ((with_reducible refine gate_callee (f := 40) rfl ?_); refine goesL_ (some 7) rfl rfl Tryz.func40 (by kernel_rfl) rfl #[.int .i64 a0] rfl argA ?_; (with_reducible refine (verb_reads.calls a0 true _ A3.out).mono ?_); rintro e w7 ⟨rfl, hb⟩; refine ⟨_, rfl, ?_⟩; replace HB := Aside0.mk (below_step (hbA HB.out) hb); (try clear hb); (try clear hb2); (try clear hk); (try clear hi)))
   go_ret
   exact ⟨reA, hbA HB.out⟩
 replace c4 := Bool.eq_false_iff.mpr c4
 subst c4
 have H1 : (if a0 = 15 then (some (a1 == 0)) else (some (a1 == 1))) = some r := by rw [if_neg (show ¬ (false = true) by decide)] at H; exact H
 clear H
 have H := H1
 clear H1
 by_cases c8 : a0 = 15
 · rw [if_pos c8] at H
   have c8b0 : (a0 == 15) = true := beq_iff_eq.mpr c8
   have c8b1 : (a0 != 15) = false := bne_eq_false_iff_eq.mpr c8
   clear c8
   obtain rfl := Option.some.inj H
   go_enter Tryz.func43, Tryz.ntmps43
   go_wp2_with (first | ((with_reducible refine gate_callee (f := 40) rfl ?_); refine goesL_ (some 7) rfl rfl Tryz.func40 (by kernel_rfl) rfl #[.int .i64 a0] rfl argA ?_; (with_reducible refine (verb_reads.calls a0 false _ A3.out).mono ?_); rintro e w9 ⟨rfl, hb⟩; refine ⟨_, rfl, ?_⟩; replace HB := Aside0.mk (below_step (hbA HB.out) hb); (try clear hb); (try clear hb2); (try clear hk); (try clear hi)))
   go_ret
   exact ⟨reA, hbA HB.out⟩
 rw [if_neg c8] at H
 have c8b0 : (a0 == 15) = false := beq_eq_false_iff_ne.mpr c8
 have c8b1 : (a0 != 15) = true := bne_iff_ne.mpr c8
 obtain rfl := Option.some.inj H
 go_enter Tryz.func43, Tryz.ntmps43
 go_wp2_with (first | ((with_reducible refine gate_callee (f := 40) rfl ?_); refine goesL_ (some 7) rfl rfl Tryz.func40 (by kernel_rfl) rfl #[.int .i64 a0] rfl argA ?_; (with_reducible refine (verb_reads.calls a0 false _ A3.out).mono ?_); rintro e w10 ⟨rfl, hb⟩; refine ⟨_, rfl, ?_⟩; replace HB := Aside0.mk (below_step (hbA HB.out) hb); (try clear hb); (try clear hb2); (try clear hk); (try clear hi)))
 go_ret
 exact ⟨reA, hbA HB.out⟩

end
end Go.Proofs.YtdihoopofhediaaGreatDoor.XMd
end
section
namespace Go.Proofs.YtdihoopofhediaaGreatDoor.XMd
open Go.RowKit Go.Proofs.YtdihoopofhediaaGreatDoorW.PrintWords Go.Proofs.YtdihoopofhediaaGreatDoorW.PrintLast Go.Proofs.YtdihoopofhediaaGreatDoorW.PrintMore
attribute [local go_sem] extract_sub max2_int min2_int max_two min_two max_three min_three max_four min_four   -- for this text's walks alone
set_option linter.unusedVariables false
set_option linter.unusedSimpArgs false

noncomputable section
def fnv_Key.okB (l : List UInt8) : Bool := l.all fun c => decide (33 ≤ c.toNat ∧ c.toNat ≤ 126)
def fnv_Key.is (s : ByteArray) : Bool := decide (0 < s.size ∧ s.size ≤ 32) && fnv_Key.okB s.data.toList
def fnv_Key.f (a0 : ByteArray) : Option Bool := some (fnv_Key.is a0)
theorem fnv_Key.snoc (l : List UInt8) (j : Nat) (c : UInt8) (hc : l[j]? = some c) (h : fnv_Key.okB (l.take j) = true) (hd : 33 ≤ c.toNat ∧ c.toNat ≤ 126) : fnv_Key.okB (l.take (j + 1)) = true := by
 rw [List.take_add_one, hc]
 unfold fnv_Key.okB at h ⊢
 rw [List.all_append, h]
 simp [hd.1, hd.2]
theorem fnv_Key.not (l : List UInt8) (j : Nat) (c : UInt8) (hc : l[j]? = some c) (hd : ¬ (33 ≤ c.toNat ∧ c.toNat ≤ 126)) : fnv_Key.okB l = false := by
 unfold fnv_Key.okB
 rw [List.all_eq_false]
 exact ⟨c, List.mem_of_getElem? hc, by simpa using hd⟩
set_option maxHeartbeats 1000000 in
theorem fnv_Key.calls_ (a0 : ByteArray) (w : World) :
 Calls Tryz.prog 42 #[.string a0] w fun e w' => e = .returned (.bool (fnv_Key.is a0)) ∧ Below w.heap.size w w' := by
 have hl : a0.data.toList.length = a0.size := Array.length_toList
 have HL := Lib.hid hl
 clear hl
 by_cases h0 : a0.size = 0
 · have hnil : a0.data.toList = [] := List.length_eq_zero_iff.1 (by rw [HL.out, h0])
   have hn1 : a0.toList.isEmpty = true := by rw [ByteArray.toList_eq, hnil]; rfl
   have hn2 : (a0.toList == ([] : List UInt8)) = true := by rw [ByteArray.toList_eq, hnil]; rfl
   have hr : fnv_Key.is a0 = false := by unfold fnv_Key.is; rw [decide_eq_false (by omega)]; rfl
   rw [hr]
   clear hnil hr h0
   go_enter Tryz.func42, Tryz.ntmps42
   go_wp2
   go_ret
   exact ⟨rfl, Below.refl _ _⟩
 have hne : a0.data.toList ≠ [] := fun q => h0 (by rw [← HL.out, q]; rfl)
 have hn1 : a0.toList.isEmpty = false := by
  rw [ByteArray.toList_eq]
  cases e : a0.data.toList with
  | nil => exact absurd e hne
  | cons _ _ => rfl
 have hn2 : (a0.toList == ([] : List UInt8)) = false := by
  rw [ByteArray.toList_eq]
  exact beq_eq_false_iff_ne.2 hne
 clear hne
 by_cases h32 : 32 < a0.size
 · have h32i : (32 : Int) < (a0.size : Int) := by omega
   have hr : fnv_Key.is a0 = false := by unfold fnv_Key.is; rw [decide_eq_false (by omega)]; rfl
   rw [hr]
   clear hr h0
   go_enter Tryz.func42, Tryz.ntmps42
   go_wp2
   go_ret
   exact ⟨rfl, Below.refl _ _⟩
 have h32i : ¬ (32 : Int) < (a0.size : Int) := by omega
 have HR : Aside0 (fnv_Key.is a0 = fnv_Key.okB a0.data.toList) := ⟨by unfold fnv_Key.is; rw [decide_eq_true (by omega)]; rfl⟩
 rw [HR.out]
 go_enter Tryz.func42, Tryz.ntmps42
 go_wp2
 go_loop [13] (fun i => ∃ j : Nat, i = .int .i64 j ∧ j ≤ a0.size ∧ Aside0 (fnv_Key.okB (a0.data.toList.take j) = true)) (fun i => a0.size - (intOf i).toNat)
 case atStart => exact ⟨0, rfl, Nat.zero_le _, ⟨rfl⟩⟩
 case round =>
  obtain ⟨j, rfl, hj, HA⟩ := hrel
  by_cases hlt : j < a0.size
  · have hlti : (j : Int) < (a0.size : Int) := by omega
    have hcj : a0.data.toList[j]? = some a0[j] := by
     rw [List.getElem?_eq_getElem (by rw [HL.out]; exact hlt)]; rfl
    have HC := Lib.hid hcj
    clear hcj
    by_cases hd1 : a0[j].toNat < 33
    · have hd1i : (a0[j].toNat : Int) < 33 := by omega
      go_wp2
      go_ret
      exact ⟨by rw [fnv_Key.not _ _ _ HC.out (by omega)]; rfl, Below.refl _ _⟩
    have hd1i : ¬ (a0[j].toNat : Int) < 33 := by omega
    by_cases hd2 : 126 < a0[j].toNat
    · have hd2i : (126 : Int) < (a0[j].toNat : Int) := by omega
      go_wp2
      go_ret
      exact ⟨by rw [fnv_Key.not _ _ _ HC.out (by omega)]; rfl, Below.refl _ _⟩
    have hd2i : ¬ (126 : Int) < (a0[j].toNat : Int) := by omega
    have HD := Aside0.mk (show 33 ≤ a0[j].toNat ∧ a0[j].toNat ≤ 126 by omega)
    go_wp2
    go_round
    case rel => exact ⟨j + 1, by go_num, by omega, ⟨fnv_Key.snoc _ _ _ HC.out HA.out HD.out⟩⟩
    case measure => simp [intOf]; omega
  have hlti : ¬ (j : Int) < (a0.size : Int) := by omega
  have hA : fnv_Key.okB a0.data.toList = true := by
   have := HA.out
   rw [List.take_of_length_le (by rw [HL.out]; omega)] at this
   exact this
  have HA2 := Aside0.mk hA
  clear hA HA
  go_wp2
  go_ret
  exact ⟨by rw [HA2.out]; rfl, Below.refl _ _⟩
theorem fnv_Key.calls (a0 : ByteArray) (r : Bool) (w : World) (h : fnv_Key.f a0 = some r) :
 Calls Tryz.prog 42 #[.string a0] w fun e w' => e = .returned (.bool r) ∧ Below w.heap.size w w' := by
 unfold fnv_Key.f at h
 injection h with h
 subst h
 exact fnv_Key.calls_ a0 w

end
end Go.Proofs.YtdihoopofhediaaGreatDoor.XMd
end
section
namespace Go.Proofs.YtdihoopofhediaaGreatDoor.XMd
open Go.RowKit Go.Proofs.YtdihoopofhediaaGreatDoorW.PrintWords Go.Proofs.YtdihoopofhediaaGreatDoorW.PrintLast Go.Proofs.YtdihoopofhediaaGreatDoorW.PrintMore
attribute [local go_sem] extract_sub max2_int min2_int max_two min_two max_three min_three max_four min_four   -- for this text's walks alone
set_option linter.unusedVariables false
set_option linter.unusedSimpArgs false

noncomputable section
def slices_ContainsFunc_string_string.f (l : List ByteArray) (a1 : Int) : Option Bool := if a1 = 41 ∧ l.length ≤ 100 then some (l.any fun s => !(fnv_Key.is s)) else none
theorem slices_ContainsFunc_string_string.pred (s : ByteArray) (w : World) : Calls Tryz.prog 41 #[.string s] w fun e w' => e = .returned (.bool (!(fnv_Key.is s))) ∧ Below w.heap.size w w' := by
 go_enter Tryz.func41, Tryz.ntmps41
 go_wp2_with fail
 refine (fnv_Key.calls_ s w).mono ?_
 rintro e w' ⟨rfl, hb⟩
 have HB := Aside0.mk hb
 clear hb
 go_wp2
 go_ret
 exact ⟨rfl, HB.out⟩
theorem slices_ContainsFunc_string_string.snoc {p : ByteArray → Bool} {l : List ByteArray} {j : Nat} {s : ByteArray} (hs : l[j]? = some s) (h : (l.take j).any p = false) (hp : p s = false) : (l.take (j + 1)).any p = false := by
 rw [List.take_add_one, hs, List.any_append, h]
 simp [hp]
theorem slices_ContainsFunc_string_string.cell {w w' : World} {A : Option Addr} {l : List ByteArray} (h : Kd.string.C w A l.length l) (hb : Below w.heap.size w w') (j : Nat) (s : ByteArray) (hs : l[j]? = some s) : ∃ ad, A = some ad ∧ w'.cell? (ad.add j) = some (.string s) := by
 have hj : j < l.length := (List.getElem?_eq_some_iff.1 hs).1
 obtain ⟨ad, e, hc⟩ := Kd.at_string h (j : Int) (by omega) (by omega)
 have e2 : rdOf ByteArray.empty l (j : Int) = s := by
  unfold rdOf
  simp [hs]
 rw [e2, Int.toNat_natCast] at hc
 exact ⟨ad, e, (hb.cell (World.block_lt_of_cell? w _ hc)).trans hc⟩
set_option maxHeartbeats 1000000 in
theorem slices_ContainsFunc_string_string.index (A : Option Addr) (c : Nat) (l : List ByteArray) (w : World) (hC : Kd.string.C w A l.length l) (hc : l.length ≤ c) (hl : l.length ≤ 100) :
 Calls Tryz.prog 65 #[.slice A l.length c, .func (.func 41) #[] #[]] w fun e w' => (∃ i : Int, e = .returned (.int .i64 i) ∧ decide (0 ≤ i) = (l.any fun s => !(fnv_Key.is s))) ∧ Below w.heap.size w w' := by
 have eg : ∀ args w, (callFunc 41 args).run Tryz.prog w = .ok (.enter 41 args) w := enters_of Tryz.func41 (by kernel_rfl) rfl
 have HC := Aside0.mk hC
 clear hC
 go_enter Tryz.func65, Tryz.ntmps65
 go_wp2
 go_loopg [8] l.length (fun gg v8 wr => ∃ j : Nat, v8 = .int .i64 j ∧ j ≤ l.length ∧ l.length - j ≤ gg ∧ Aside0 ((l.take j).any (fun s => !(fnv_Key.is s)) = false) ∧ Aside0 (Below w.heap.size w wr))
 case atStart => exact ⟨0, rfl, Nat.zero_le _, by omega, ⟨rfl⟩, ⟨Below.refl _ _⟩⟩
 case round =>
  obtain ⟨j, rfl, hj, hgg, HN, HB⟩ := hrel
  by_cases hlt : j < l.length
  · have hji : (j : Int) < (l.length : Int) := by omega
    obtain ⟨s, hs⟩ : ∃ s, l[j]? = some s := ⟨_, List.getElem?_eq_getElem hlt⟩
    obtain ⟨ad, rfl, hcell⟩ := slices_ContainsFunc_string_string.cell HC.out HB.out j s hs
    have HS := Lib.hid hs
    clear hs
    cases hk : (!(fnv_Key.is s)) with
    | true =>
     have hp := slices_ContainsFunc_string_string.pred s wr
     rw [hk] at hp
     have HK := Lib.hid hk
     have HP := Aside0.mk hp
     clear hk hp
     go_wp2_with (go_at_fn 41; refine HP.out.mono ?_; rintro e w' ⟨rfl, hb'⟩; have HB' := Aside0.mk hb'; clear hb')
     go_ret
     refine ⟨⟨_, rfl, ?_⟩, HB.out.trans (HB'.out.mono HB.out.size)⟩
     rw [decide_eq_true (by omega)]
     exact (List.any_eq_true.2 ⟨s, List.mem_of_getElem? HS.out, HK.out⟩).symm
    | false =>
     have hp := slices_ContainsFunc_string_string.pred s wr
     rw [hk] at hp
     have HK := Lib.hid hk
     have HP := Aside0.mk hp
     clear hk hp
     go_wp2_with (go_at_fn 41; refine HP.out.mono ?_; rintro e w' ⟨rfl, hb'⟩; have HB' := Aside0.mk hb'; clear hb')
     go_roundg (l.length - (j + 1))
     case measure => omega
     case rel => exact ⟨j + 1, by go_num, by omega, by omega, ⟨slices_ContainsFunc_string_string.snoc HS.out HN.out HK.out⟩, ⟨HB.out.trans (HB'.out.mono HB.out.size)⟩⟩
  have hji : ¬ (j : Int) < (l.length : Int) := by omega
  have hn := HN.out
  rw [List.take_of_length_le (by omega)] at hn
  have HN2 := Lib.hid hn
  clear hn
  go_wp2
  go_ret
  exact ⟨⟨_, rfl, by rw [HN2.out]; decide⟩, HB.out⟩
theorem slices_ContainsFunc_string_string.calls (A0 : Option Addr) (c0 : Nat) (l0 : List ByteArray) (a1 : Int) (r : Bool) (w : World) (hr0 : Kd.C Kd.string w A0 l0.length l0) (hc0 : l0.length ≤ c0) (h : slices_ContainsFunc_string_string.f l0 a1 = some r) :
 Calls Tryz.prog 44 #[.slice A0 l0.length c0, .func (.func 41) #[] #[]] w fun e w' => e = .returned (.bool r) ∧ Below w.heap.size w w' := by
 unfold slices_ContainsFunc_string_string.f at h
 split at h
 · rename_i hh
   injection h with h
   subst h
   have H := Aside0.mk (slices_ContainsFunc_string_string.index A0 c0 l0 w hr0 hc0 hh.2)
   clear hr0
   go_enter Tryz.func44, Tryz.ntmps44
   go_wp2_with fail
   refine H.out.mono ?_
   rintro e w' ⟨⟨i, rfl, hi⟩, hb⟩
   have HI := Lib.hid hi
   have HB := Aside0.mk hb
   clear hi hb
   go_wp2
   go_ret
   exact ⟨by rw [← HI.out]; rfl, HB.out⟩
 cases h

end
end Go.Proofs.YtdihoopofhediaaGreatDoor.XMd
end
