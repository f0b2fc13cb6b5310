import Derived.Test.YtmnnbmdfepogiaaJFnExactFireOrder1
import Derived.Below
import Derived.Deep.Draws
import Derived.Deep.AppendLies
import Derived.Maps.AppendAt
import Derived.OwnWalk
import Derived.Laws.BytesArg
import Derived.Laws.MakeOwn
import Derived.Laws.OwnMore
import Derived.Tactics
import Derived.Lib.ConvBytes
import Derived.Laws.Slices
import Derived.WalkKit
import Derived.KernelRfl
import Derived.RowKit3
import Derived.Deep.LoopGhost
import Derived.Deep.QuietTactic
import Derived.BigQuiet
import Derived.WideLaws
import Derived.Deep.DeepCutAuto
import Derived.Deep.CutBlock
import Derived.Deep.RegionHeld3
import Derived.Lib.AppendStr
import Derived.ArgAppend
import Derived.Laws.IdiomCopy
import Derived.RowKit
import Derived.OrdersHeld
import Derived.Laws.BitsLemmas
import Derived.Laws.StructEq
import Derived.Test.YtmnnbmdfepogiaaProg
import Derived.ChangeSlices
import Derived.OpenShut
namespace Go.Proofs.Ytmnnbmdfepogiaa.F
open Go.RowKit Go.Proofs.YtmnnbmdfepogiaaW.PrintWords Go.Proofs.YtmnnbmdfepogiaaW.PrintLast Go.Proofs.YtmnnbmdfepogiaaW.PrintMore
attribute [local go_sem] max2_int min2_int max_two min_two max_three min_three max_four min_four   -- for this text's walks alone
set_option linter.unusedVariables false
set_option linter.unusedSimpArgs false
def errW : Option Int → Value
 | none => .nilIface
 | some c => .iface 0 (.int .i64 c)
theorem errW_none : errW none = .nilIface := rfl
theorem errW_some (c : Int) : errW (some c) = .iface 0 (.int .i64 c) := rfl
theorem info2 : (Try.prog.info? 2).map (fun i => (i.zero, i.size, i.bytes)) = some (some (.int .i64 0), 1, 8) := by kernel_rfl
theorem info58 : (Try.prog.info? 58).map (fun i => (i.zero, i.size, i.bytes)) = some (some (.agg #[(.int .i64 0), (.int .i64 0), (.string ⟨#[]⟩), (.int .i64 0)]), 4, 40) := by kernel_rfl
theorem info61 : (Try.prog.info? 61).map (fun i => (i.zero, i.size, i.bytes)) = some (some (.agg #[(.string ⟨#[]⟩), (.int .i64 0), (.int .i64 0), (.int .i64 0), (.int .i64 0), (.int .i64 0), (.int .i64 0), (.int .i64 0), (.int .i64 0)]), 9, 80) := by kernel_rfl
theorem info104 : (Try.prog.info? 104).map (fun i => (i.zero, i.size, i.bytes)) = some (some (.agg #[(.int .i64 0), (.int .i64 0)]), 2, 16) := by kernel_rfl
structure S61 where
 f0 : ByteArray
 f1 : Int
 f2 : Int
 f3 : Int
 f4 : Int
 f5 : Int
 f6 : Int
 f7 : Int
 f8 : Int
def z61 : S61 := ⟨(⟨#[]⟩ : ByteArray), (0 : Int), (0 : Int), (0 : Int), (0 : Int), (0 : Int), (0 : Int), (0 : Int), (0 : Int)⟩
def k61 : Kd S61 := Kd.iso (Kd.pair Kd.string (Kd.pair (Kd.int .i64) (Kd.pair (Kd.int .i64) (Kd.pair (Kd.int .i64) (Kd.pair (Kd.int .i64) (Kd.pair (Kd.int .i64) (Kd.pair (Kd.int .i64) (Kd.pair (Kd.int .i64) (Kd.int .i64))))))))) (fun x : S61 => (x.f0, x.f1, x.f2, x.f3, x.f4, x.f5, x.f6, x.f7, x.f8))
theorem k61_open {w : World} {x : S61} {cs : List Value} (h : k61.K w x cs) : cs = [.string x.f0, .int .i64 x.f1, .int .i64 x.f2, .int .i64 x.f3, .int .i64 x.f4, .int .i64 x.f5, .int .i64 x.f6, .int .i64 x.f7, .int .i64 x.f8] := by
 obtain ⟨_, _, rfl, rfl, ⟨_, _, rfl, rfl, ⟨_, _, rfl, rfl, ⟨_, _, rfl, rfl, ⟨_, _, rfl, rfl, ⟨_, _, rfl, rfl, ⟨_, _, rfl, rfl, ⟨_, _, rfl, rfl, rfl⟩⟩⟩⟩⟩⟩⟩⟩ := h
 exact rfl
theorem k61_openM {w : World} {base : Nat} {ok : Nat → Prop} {x : S61} {cs : List Value} (h : k61.M w base ok x cs) : cs = [.string x.f0, .int .i64 x.f1, .int .i64 x.f2, .int .i64 x.f3, .int .i64 x.f4, .int .i64 x.f5, .int .i64 x.f6, .int .i64 x.f7, .int .i64 x.f8] := by
 obtain ⟨_, _, rfl, rfl, ⟨_, _, rfl, rfl, ⟨_, _, rfl, rfl, ⟨_, _, rfl, rfl, ⟨_, _, rfl, rfl, ⟨_, _, rfl, rfl, ⟨_, _, rfl, rfl, ⟨_, _, rfl, rfl, rfl⟩⟩⟩⟩⟩⟩⟩⟩ := h
 exact rfl
theorem k61_mkM (w : World) (base : Nat) (ok : Nat → Prop) (x : S61)  : k61.M w base ok x [.string x.f0, .int .i64 x.f1, .int .i64 x.f2, .int .i64 x.f3, .int .i64 x.f4, .int .i64 x.f5, .int .i64 x.f6, .int .i64 x.f7, .int .i64 x.f8] := ⟨[.string x.f0], [.int .i64 x.f1, .int .i64 x.f2, .int .i64 x.f3, .int .i64 x.f4, .int .i64 x.f5, .int .i64 x.f6, .int .i64 x.f7, .int .i64 x.f8], rfl, rfl, ⟨[.int .i64 x.f1], [.int .i64 x.f2, .int .i64 x.f3, .int .i64 x.f4, .int .i64 x.f5, .int .i64 x.f6, .int .i64 x.f7, .int .i64 x.f8], rfl, rfl, ⟨[.int .i64 x.f2], [.int .i64 x.f3, .int .i64 x.f4, .int .i64 x.f5, .int .i64 x.f6, .int .i64 x.f7, .int .i64 x.f8], rfl, rfl, ⟨[.int .i64 x.f3], [.int .i64 x.f4, .int .i64 x.f5, .int .i64 x.f6, .int .i64 x.f7, .int .i64 x.f8], rfl, rfl, ⟨[.int .i64 x.f4], [.int .i64 x.f5, .int .i64 x.f6, .int .i64 x.f7, .int .i64 x.f8], rfl, rfl, ⟨[.int .i64 x.f5], [.int .i64 x.f6, .int .i64 x.f7, .int .i64 x.f8], rfl, rfl, ⟨[.int .i64 x.f6], [.int .i64 x.f7, .int .i64 x.f8], rfl, rfl, ⟨[.int .i64 x.f7], [.int .i64 x.f8], rfl, rfl, rfl⟩⟩⟩⟩⟩⟩⟩⟩
def rd_T61 (xs : List S61) (i : Int) : S61 := xs.getD i.toNat z61
theorem at_T61 {w : World} {A : Option Addr} {n : Nat} {xs : List S61} (h : Kd.C k61 w A n xs) (i : Int) (h0 : 0 ≤ i) (h1 : i < n) : ∃ ad , A = some ad ∧ w.cell? (ad.add (i.toNat * 9)) = some (.string (rd_T61 xs i).f0) ∧ w.cell? ⟨(ad.add (i.toNat * 9)).block, (ad.add (i.toNat * 9)).off + 1, none⟩ = some (.int .i64 (rd_T61 xs i).f1) ∧ w.cell? ⟨(ad.add (i.toNat * 9)).block, (ad.add (i.toNat * 9)).off + 2, none⟩ = some (.int .i64 (rd_T61 xs i).f2) ∧ w.cell? ⟨(ad.add (i.toNat * 9)).block, (ad.add (i.toNat * 9)).off + 3, none⟩ = some (.int .i64 (rd_T61 xs i).f3) ∧ w.cell? ⟨(ad.add (i.toNat * 9)).block, (ad.add (i.toNat * 9)).off + 4, none⟩ = some (.int .i64 (rd_T61 xs i).f4) ∧ w.cell? ⟨(ad.add (i.toNat * 9)).block, (ad.add (i.toNat * 9)).off + 5, none⟩ = some (.int .i64 (rd_T61 xs i).f5) ∧ w.cell? ⟨(ad.add (i.toNat * 9)).block, (ad.add (i.toNat * 9)).off + 6, none⟩ = some (.int .i64 (rd_T61 xs i).f6) ∧ w.cell? ⟨(ad.add (i.toNat * 9)).block, (ad.add (i.toNat * 9)).off + 7, none⟩ = some (.int .i64 (rd_T61 xs i).f7) ∧ w.cell? ⟨(ad.add (i.toNat * 9)).block, (ad.add (i.toNat * 9)).off + 8, none⟩ = some (.int .i64 (rd_T61 xs i).f8) := by
 obtain ⟨ad, c, e, _, hK, hc0⟩ := Kd.C_get h z61 i h0 h1
 have hc : ∀ j u, c[j]? = some u → w.cell? (ad.add (i.toNat * 9 + j)) = some u := hc0
 obtain rfl := k61_open hK
 exact ⟨ad, e, hc 0 _ rfl, by rw [← add_field _ _ 1 (by omega)]; exact hc 1 _ rfl, by rw [← add_field _ _ 2 (by omega)]; exact hc 2 _ rfl, by rw [← add_field _ _ 3 (by omega)]; exact hc 3 _ rfl, by rw [← add_field _ _ 4 (by omega)]; exact hc 4 _ rfl, by rw [← add_field _ _ 5 (by omega)]; exact hc 5 _ rfl, by rw [← add_field _ _ 6 (by omega)]; exact hc 6 _ rfl, by rw [← add_field _ _ 7 (by omega)]; exact hc 7 _ rfl, by rw [← add_field _ _ 8 (by omega)]; exact hc 8 _ rfl⟩
structure S104 where
 f0 : Int
 f1 : Int
def z104 : S104 := ⟨(0 : Int), (0 : Int)⟩
def k104 : Kd S104 := Kd.iso (Kd.pair (Kd.int .i64) (Kd.int .i64)) (fun x : S104 => (x.f0, x.f1))
theorem k104_open {w : World} {x : S104} {cs : List Value} (h : k104.K w x cs) : cs = [.int .i64 x.f0, .int .i64 x.f1] := by
 obtain ⟨_, _, rfl, rfl, rfl⟩ := h
 exact rfl
theorem k104_openM {w : World} {base : Nat} {ok : Nat → Prop} {x : S104} {cs : List Value} (h : k104.M w base ok x cs) : cs = [.int .i64 x.f0, .int .i64 x.f1] := by
 obtain ⟨_, _, rfl, rfl, rfl⟩ := h
 exact rfl
theorem k104_mkM (w : World) (base : Nat) (ok : Nat → Prop) (x : S104)  : k104.M w base ok x [.int .i64 x.f0, .int .i64 x.f1] := ⟨[.int .i64 x.f0], [.int .i64 x.f1], rfl, rfl, rfl⟩
def rd_T104 (xs : List S104) (i : Int) : S104 := xs.getD i.toNat z104
theorem at_T104 {w : World} {A : Option Addr} {n : Nat} {xs : List S104} (h : Kd.C k104 w A n xs) (i : Int) (h0 : 0 ≤ i) (h1 : i < n) : ∃ ad , A = some ad ∧ w.cell? (ad.add (i.toNat * 2)) = some (.int .i64 (rd_T104 xs i).f0) ∧ w.cell? ⟨(ad.add (i.toNat * 2)).block, (ad.add (i.toNat * 2)).off + 1, none⟩ = some (.int .i64 (rd_T104 xs i).f1) := by
 obtain ⟨ad, c, e, _, hK, hc0⟩ := Kd.C_get h z104 i h0 h1
 have hc : ∀ j u, c[j]? = some u → w.cell? (ad.add (i.toNat * 2 + j)) = some u := hc0
 obtain rfl := k104_open hK
 exact ⟨ad, e, hc 0 _ rfl, by rw [← add_field _ _ 1 (by omega)]; exact hc 1 _ rfl⟩
structure S58 where
 f0 : Int
 f1 : Int
 f2 : ByteArray
 f3 : Int
def z58 : S58 := ⟨(0 : Int), (0 : Int), (⟨#[]⟩ : ByteArray), (0 : Int)⟩
def k58 : Kd S58 := Kd.iso (Kd.pair (Kd.int .i64) (Kd.pair (Kd.int .i64) (Kd.pair Kd.string (Kd.int .i64)))) (fun x : S58 => (x.f0, x.f1, x.f2, x.f3))
theorem k58_open {w : World} {x : S58} {cs : List Value} (h : k58.K w x cs) : cs = [.int .i64 x.f0, .int .i64 x.f1, .string x.f2, .int .i64 x.f3] := by
 obtain ⟨_, _, rfl, rfl, ⟨_, _, rfl, rfl, ⟨_, _, rfl, rfl, rfl⟩⟩⟩ := h
 exact rfl
theorem k58_openM {w : World} {base : Nat} {ok : Nat → Prop} {x : S58} {cs : List Value} (h : k58.M w base ok x cs) : cs = [.int .i64 x.f0, .int .i64 x.f1, .string x.f2, .int .i64 x.f3] := by
 obtain ⟨_, _, rfl, rfl, ⟨_, _, rfl, rfl, ⟨_, _, rfl, rfl, rfl⟩⟩⟩ := h
 exact rfl
theorem k58_mkM (w : World) (base : Nat) (ok : Nat → Prop) (x : S58)  : k58.M w base ok x [.int .i64 x.f0, .int .i64 x.f1, .string x.f2, .int .i64 x.f3] := ⟨[.int .i64 x.f0], [.int .i64 x.f1, .string x.f2, .int .i64 x.f3], rfl, rfl, ⟨[.int .i64 x.f1], [.string x.f2, .int .i64 x.f3], rfl, rfl, ⟨[.string x.f2], [.int .i64 x.f3], rfl, rfl, rfl⟩⟩⟩
def rd_T58 (xs : List S58) (i : Int) : S58 := xs.getD i.toNat z58
theorem at_T58 {w : World} {A : Option Addr} {n : Nat} {xs : List S58} (h : Kd.C k58 w A n xs) (i : Int) (h0 : 0 ≤ i) (h1 : i < n) : ∃ ad , A = some ad ∧ w.cell? (ad.add (i.toNat * 4)) = some (.int .i64 (rd_T58 xs i).f0) ∧ w.cell? ⟨(ad.add (i.toNat * 4)).block, (ad.add (i.toNat * 4)).off + 1, none⟩ = some (.int .i64 (rd_T58 xs i).f1) ∧ w.cell? ⟨(ad.add (i.toNat * 4)).block, (ad.add (i.toNat * 4)).off + 2, none⟩ = some (.string (rd_T58 xs i).f2) ∧ w.cell? ⟨(ad.add (i.toNat * 4)).block, (ad.add (i.toNat * 4)).off + 3, none⟩ = some (.int .i64 (rd_T58 xs i).f3) := by
 obtain ⟨ad, c, e, _, hK, hc0⟩ := Kd.C_get h z58 i h0 h1
 have hc : ∀ j u, c[j]? = some u → w.cell? (ad.add (i.toNat * 4 + j)) = some u := hc0
 obtain rfl := k58_open hK
 exact ⟨ad, e, hc 0 _ rfl, by rw [← add_field _ _ 1 (by omega)]; exact hc 1 _ rfl, by rw [← add_field _ _ 2 (by omega)]; exact hc 2 _ rfl, by rw [← add_field _ _ 3 (by omega)]; exact hc 3 _ rfl⟩
structure S106 where
 f0 : Int
 f1 : Int
def z106 : S106 := ⟨(0 : Int), (0 : Int)⟩
def k106 : Kd S106 := Kd.iso (Kd.pair (Kd.int .i64) (Kd.int .i64)) (fun x : S106 => (x.f0, x.f1))
theorem k106_open {w : World} {x : S106} {cs : List Value} (h : k106.K w x cs) : cs = [.int .i64 x.f0, .int .i64 x.f1] := by
 obtain ⟨_, _, rfl, rfl, rfl⟩ := h
 exact rfl
theorem k106_mk (w : World) (x : S106)  : k106.K w x [.int .i64 x.f0, .int .i64 x.f1] := ⟨[.int .i64 x.f0], [.int .i64 x.f1], rfl, rfl, rfl⟩
def rd_T106 (xs : List S106) (i : Int) : S106 := xs.getD i.toNat z106
theorem at_T106 {w : World} {A : Option Addr} {n : Nat} {xs : List S106} (h : Kd.C k106 w A n xs) (i : Int) (h0 : 0 ≤ i) (h1 : i < n) : ∃ ad , A = some ad ∧ w.cell? (ad.add (i.toNat * 2)) = some (.int .i64 (rd_T106 xs i).f0) ∧ w.cell? ⟨(ad.add (i.toNat * 2)).block, (ad.add (i.toNat * 2)).off + 1, none⟩ = some (.int .i64 (rd_T106 xs i).f1) := by
 obtain ⟨ad, c, e, _, hK, hc0⟩ := Kd.C_get h z106 i h0 h1
 have hc : ∀ j u, c[j]? = some u → w.cell? (ad.add (i.toNat * 2 + j)) = some u := hc0
 obtain rfl := k106_open hK
 exact ⟨ad, e, hc 0 _ rfl, by rw [← add_field _ _ 1 (by omega)]; exact hc 1 _ rfl⟩
structure S99 where
 f0 : ByteArray
 f1 : Int
 f2 : Int
 f3 : Int
 f4 : Int
 f5 : Int
 f6 : Int
 f7 : Int
 f8 : Int
def z99 : S99 := ⟨(⟨#[]⟩ : ByteArray), (0 : Int), (0 : Int), (0 : Int), (0 : Int), (0 : Int), (0 : Int), (0 : Int), (0 : Int)⟩
def k99 : Kd S99 := Kd.iso (Kd.pair Kd.string (Kd.pair (Kd.int .i64) (Kd.pair (Kd.int .i64) (Kd.pair (Kd.int .i64) (Kd.pair (Kd.int .i64) (Kd.pair (Kd.int .i64) (Kd.pair (Kd.int .i64) (Kd.pair (Kd.int .i64) (Kd.int .i64))))))))) (fun x : S99 => (x.f0, x.f1, x.f2, x.f3, x.f4, x.f5, x.f6, x.f7, x.f8))
theorem k99_open {w : World} {x : S99} {cs : List Value} (h : k99.K w x cs) : cs = [.string x.f0, .int .i64 x.f1, .int .i64 x.f2, .int .i64 x.f3, .int .i64 x.f4, .int .i64 x.f5, .int .i64 x.f6, .int .i64 x.f7, .int .i64 x.f8] := by
 obtain ⟨_, _, rfl, rfl, ⟨_, _, rfl, rfl, ⟨_, _, rfl, rfl, ⟨_, _, rfl, rfl, ⟨_, _, rfl, rfl, ⟨_, _, rfl, rfl, ⟨_, _, rfl, rfl, ⟨_, _, rfl, rfl, rfl⟩⟩⟩⟩⟩⟩⟩⟩ := h
 exact rfl
theorem k99_mk (w : World) (x : S99)  : k99.K w x [.string x.f0, .int .i64 x.f1, .int .i64 x.f2, .int .i64 x.f3, .int .i64 x.f4, .int .i64 x.f5, .int .i64 x.f6, .int .i64 x.f7, .int .i64 x.f8] := ⟨[.string x.f0], [.int .i64 x.f1, .int .i64 x.f2, .int .i64 x.f3, .int .i64 x.f4, .int .i64 x.f5, .int .i64 x.f6, .int .i64 x.f7, .int .i64 x.f8], rfl, rfl, ⟨[.int .i64 x.f1], [.int .i64 x.f2, .int .i64 x.f3, .int .i64 x.f4, .int .i64 x.f5, .int .i64 x.f6, .int .i64 x.f7, .int .i64 x.f8], rfl, rfl, ⟨[.int .i64 x.f2], [.int .i64 x.f3, .int .i64 x.f4, .int .i64 x.f5, .int .i64 x.f6, .int .i64 x.f7, .int .i64 x.f8], rfl, rfl, ⟨[.int .i64 x.f3], [.int .i64 x.f4, .int .i64 x.f5, .int .i64 x.f6, .int .i64 x.f7, .int .i64 x.f8], rfl, rfl, ⟨[.int .i64 x.f4], [.int .i64 x.f5, .int .i64 x.f6, .int .i64 x.f7, .int .i64 x.f8], rfl, rfl, ⟨[.int .i64 x.f5], [.int .i64 x.f6, .int .i64 x.f7, .int .i64 x.f8], rfl, rfl, ⟨[.int .i64 x.f6], [.int .i64 x.f7, .int .i64 x.f8], rfl, rfl, ⟨[.int .i64 x.f7], [.int .i64 x.f8], rfl, rfl, rfl⟩⟩⟩⟩⟩⟩⟩⟩
def rd_T99 (xs : List S99) (i : Int) : S99 := xs.getD i.toNat z99
theorem at_T99 {w : World} {A : Option Addr} {n : Nat} {xs : List S99} (h : Kd.C k99 w A n xs) (i : Int) (h0 : 0 ≤ i) (h1 : i < n) : ∃ ad , A = some ad ∧ w.cell? (ad.add (i.toNat * 9)) = some (.string (rd_T99 xs i).f0) ∧ w.cell? ⟨(ad.add (i.toNat * 9)).block, (ad.add (i.toNat * 9)).off + 1, none⟩ = some (.int .i64 (rd_T99 xs i).f1) ∧ w.cell? ⟨(ad.add (i.toNat * 9)).block, (ad.add (i.toNat * 9)).off + 2, none⟩ = some (.int .i64 (rd_T99 xs i).f2) ∧ w.cell? ⟨(ad.add (i.toNat * 9)).block, (ad.add (i.toNat * 9)).off + 3, none⟩ = some (.int .i64 (rd_T99 xs i).f3) ∧ w.cell? ⟨(ad.add (i.toNat * 9)).block, (ad.add (i.toNat * 9)).off + 4, none⟩ = some (.int .i64 (rd_T99 xs i).f4) ∧ w.cell? ⟨(ad.add (i.toNat * 9)).block, (ad.add (i.toNat * 9)).off + 5, none⟩ = some (.int .i64 (rd_T99 xs i).f5) ∧ w.cell? ⟨(ad.add (i.toNat * 9)).block, (ad.add (i.toNat * 9)).off + 6, none⟩ = some (.int .i64 (rd_T99 xs i).f6) ∧ w.cell? ⟨(ad.add (i.toNat * 9)).block, (ad.add (i.toNat * 9)).off + 7, none⟩ = some (.int .i64 (rd_T99 xs i).f7) ∧ w.cell? ⟨(ad.add (i.toNat * 9)).block, (ad.add (i.toNat * 9)).off + 8, none⟩ = some (.int .i64 (rd_T99 xs i).f8) := by
 obtain ⟨ad, c, e, _, hK, hc0⟩ := Kd.C_get h z99 i h0 h1
 have hc : ∀ j u, c[j]? = some u → w.cell? (ad.add (i.toNat * 9 + j)) = some u := hc0
 obtain rfl := k99_open hK
 exact ⟨ad, e, hc 0 _ rfl, by rw [← add_field _ _ 1 (by omega)]; exact hc 1 _ rfl, by rw [← add_field _ _ 2 (by omega)]; exact hc 2 _ rfl, by rw [← add_field _ _ 3 (by omega)]; exact hc 3 _ rfl, by rw [← add_field _ _ 4 (by omega)]; exact hc 4 _ rfl, by rw [← add_field _ _ 5 (by omega)]; exact hc 5 _ rfl, by rw [← add_field _ _ 6 (by omega)]; exact hc 6 _ rfl, by rw [← add_field _ _ 7 (by omega)]; exact hc 7 _ rfl, by rw [← add_field _ _ 8 (by omega)]; exact hc 8 _ rfl⟩
structure S101 where
 f0 : Int
 f1 : Int
 f2 : ByteArray
 f3 : Int
def z101 : S101 := ⟨(0 : Int), (0 : Int), (⟨#[]⟩ : ByteArray), (0 : Int)⟩
def k101 : Kd S101 := Kd.iso (Kd.pair (Kd.int .i64) (Kd.pair (Kd.int .i64) (Kd.pair Kd.string (Kd.int .i64)))) (fun x : S101 => (x.f0, x.f1, x.f2, x.f3))
theorem k101_open {w : World} {x : S101} {cs : List Value} (h : k101.K w x cs) : cs = [.int .i64 x.f0, .int .i64 x.f1, .string x.f2, .int .i64 x.f3] := by
 obtain ⟨_, _, rfl, rfl, ⟨_, _, rfl, rfl, ⟨_, _, rfl, rfl, rfl⟩⟩⟩ := h
 exact rfl
theorem k101_mk (w : World) (x : S101)  : k101.K w x [.int .i64 x.f0, .int .i64 x.f1, .string x.f2, .int .i64 x.f3] := ⟨[.int .i64 x.f0], [.int .i64 x.f1, .string x.f2, .int .i64 x.f3], rfl, rfl, ⟨[.int .i64 x.f1], [.string x.f2, .int .i64 x.f3], rfl, rfl, ⟨[.string x.f2], [.int .i64 x.f3], rfl, rfl, rfl⟩⟩⟩
def rd_T101 (xs : List S101) (i : Int) : S101 := xs.getD i.toNat z101
theorem at_T101 {w : World} {A : Option Addr} {n : Nat} {xs : List S101} (h : Kd.C k101 w A n xs) (i : Int) (h0 : 0 ≤ i) (h1 : i < n) : ∃ ad , A = some ad ∧ w.cell? (ad.add (i.toNat * 4)) = some (.int .i64 (rd_T101 xs i).f0) ∧ w.cell? ⟨(ad.add (i.toNat * 4)).block, (ad.add (i.toNat * 4)).off + 1, none⟩ = some (.int .i64 (rd_T101 xs i).f1) ∧ w.cell? ⟨(ad.add (i.toNat * 4)).block, (ad.add (i.toNat * 4)).off + 2, none⟩ = some (.string (rd_T101 xs i).f2) ∧ w.cell? ⟨(ad.add (i.toNat * 4)).block, (ad.add (i.toNat * 4)).off + 3, none⟩ = some (.int .i64 (rd_T101 xs i).f3) := by
 obtain ⟨ad, c, e, _, hK, hc0⟩ := Kd.C_get h z101 i h0 h1
 have hc : ∀ j u, c[j]? = some u → w.cell? (ad.add (i.toNat * 4 + j)) = some u := hc0
 obtain rfl := k101_open hK
 exact ⟨ad, e, hc 0 _ rfl, by rw [← add_field _ _ 1 (by omega)]; exact hc 1 _ rfl, by rw [← add_field _ _ 2 (by omega)]; exact hc 2 _ rfl, by rw [← add_field _ _ 3 (by omega)]; exact hc 3 _ rfl⟩
end Go.Proofs.Ytmnnbmdfepogiaa.F
namespace Go.Proofs.Ytmnnbmdfepogiaa.F
open Go.RowKit Go.Proofs.YtmnnbmdfepogiaaW.PrintWords Go.Proofs.YtmnnbmdfepogiaaW.PrintLast Go.Proofs.YtmnnbmdfepogiaaW.PrintMore
theorem am_ {p : Prop} (h : p) : Aside0 p := ⟨h⟩
theorem cbH {w w1 : World} {a : Addr} {v : Value} (HB : Aside0 (Below w.heap.size w w1)) (h : w.cell? a = some v) : w1.cell? a = some v := (HB.out.cell (World.block_lt_of_cell? w _ h)).trans h
theorem pureZ {P : Program} {ops : Array Oper} {Q : Exit → Act → World → Prop} {md : Region.Mode} {S : World → Prop} {ds : List Nat} {T : Bool × List (List Nat × List Nat)} (HT_ : Aside0 (rtab md ops = T)) (i : Nat) (N : Option Tmp) (l' : Array Bool) {oi : Oper} {v : Value} {fuel : Nat} {l : Array Bool} {a a' : Act} {w : World} (h : wpAnyLast P md ops Q S ds fuel l' a' w)
    (hi : ops[i]? = some oi := by rfl) (hN : oi.dst = N := by rfl) (hc : anyT T l.toList l'.toList i = true := by kernel_rfl) (hQ : ∀ c a w, Q (.panic c) (a.put oi.dst v) w → Q (.panic c) a w := by exact fun _ _ _ h => h) (hy : Yields P ops oi v a := by exact Or.inl ⟨by rfl, by intro w'; go_simp; with_reducible rfl⟩) (ha : a.put N v = a' := by simp only [Act.put, List.setIfInBounds_toArray, List.set_cons_zero, List.set_cons_succ, i64_w, i32_w]; rfl) : wpAnyLast P md ops Q S ds (fuel + 1) l a w := pure_ l' hi hN (any_of HT_.out hc) hQ hy ha h
theorem boxZ {P : Program} {ops : Array Oper} {Q : Exit → Act → World → Prop} {rest : List Oper} {o : Oper} {a : Act} {W : World} (N : Tmp) (cs : Array Value) (t : TypeId) (h : ∀ g, g = W.heap.size → ∀ w1, w1.heap[g]? = some (.cells cs t (0, 0)) → Below W.heap.size W w1 → wpList P ops Q rest (a.put o.dst (.pointer (some ⟨g, 0, none⟩))) w1)
    (hd : o.dst = some N := by rfl) (hg : o.guard = none := by rfl) (hr : (execOp a.eval o).run P W = .ok (.value (.pointer (some ⟨W.heap.size, 0, none⟩))) (W.alloc (.cells cs t (0, 0))) := by first | (go_simp; done) | (go_simp; rfl)) : wpList P ops Q (o :: rest) a W := box_event hg hd hr h
theorem normZ {P : Program} {ops : Array Oper} {Q : Exit → Act → World → Prop} {md : Region.Mode} {S : World → Prop} {ds : List Nat} {fuel : Nat} {l : Array Bool} {a a' : Act} {v : Value} {w : World} (N : Tmp) (h : wpAnyLast P md ops Q S ds fuel l a' w) (ha : Act.put a (some N) v = a' := by simp only [Act.put, List.setIfInBounds_toArray, List.set_cons_zero, List.set_cons_succ, i64_w, i32_w]; rfl) : wpAnyLast P md ops Q S ds fuel l (Act.put a (some N) v) w := norm_ ha h
theorem normP {P : Program} {ops : Array Oper} {Q : Exit → Act → World → Prop} {md : Region.Mode} {S : World → Prop} {ds : List Nat} {fuel : Nat} {l : Array Bool} {a a' : Act} {w : World} (h : wpAnyLast P md ops Q S ds fuel l a' w) (ha : a = a' := by simp only [putAll, Act.put, List.setIfInBounds_toArray, List.set_cons_zero, List.set_cons_succ]; rfl) : wpAnyLast P md ops Q S ds fuel l a w := norm_ ha h
theorem bkZ {w w1 : World} {g : Nat} {o : Obj} {p : Prop} (z : p) (hb : Below w.heap.size w w1) (h : p → w.heap[g]? = some o := by intro z0_; (with_reducible repeat (first | refine' blk_drewN ?_ _ | refine' blk_drew ?_ | refine' blk_alloc ?_ _)); exact z0_.out) : Aside0 (w1.heap[g]? = some o) := ⟨blk_below (h z) hb⟩
theorem pureU {P : Program} {ops : Array Oper} {Q : Exit → Act → World → Prop} {md : Region.Mode} {S : World → Prop} {ds : List Nat} {T : Bool × List (List Nat × List Nat)} (HT_ : Aside0 (rtab md ops = T)) (i : Nat) (N : Option Tmp) (l' : Array Bool) {oi : Oper} {fuel : Nat} {l : Array Bool} {a a' : Act} {w : World} (h : wpAnyLast P md ops Q S ds fuel l' a' w)
    (hi : ops[i]? = some oi := by rfl) (hN : oi.dst = N := by rfl) (hc : anyT T l.toList l'.toList i = true := by kernel_rfl) (hQ : ∀ c a w, Q (.panic c) (a.put oi.dst undef) w → Q (.panic c) a w := by exact fun _ _ _ h => h) (hy : Yields P ops oi undef a := by exact Or.inr ⟨by rfl, rfl⟩) (ha : a.put N undef = a' := by simp only [Act.put, List.setIfInBounds_toArray, List.set_cons_zero, List.set_cons_succ, i64_w, i32_w]; rfl) : wpAnyLast P md ops Q S ds (fuel + 1) l a w := pure_ l' hi hN (any_of HT_.out hc) hQ hy ha h
theorem gZ {P : Program} {ops : Array Oper} {Q : Exit → Act → World → Prop} {rest : List Oper} {oi : Oper} {a : Act} {w : World} (N : Nat) {f : FuncId} {fn : Func} {os : Array Operand} {ts : Array TypeId} (hf : P.funcs[f]? = some fn) (args : Array Value) (h : Calls P f args w fun e w' => ∃ v, e = .returned v ∧ wpList P ops Q rest (a.put (some N) v) w') (hd : oi.dst = some N := by rfl) (hg : oi.guard = none := by rfl) (hname : (fn.name == "runtime.NumGoroutine") = false := by kernel_rfl) (hb : fn.body.isSome = true := by rfl)
    (hop : oi.op = .call { callee := .value (.func f), args := os, argTypes := ts } := by rfl) (hargs : os.map a.eval = args := by (try simp only [List.map_toArray, List.map_cons, List.map_nil]); first | done | rfl | (simp only [List.length_drop, List.length_take]; rfl)) : wpList P ops Q (oi :: rest) a w := goesL_ (some N) hd hg hf hname hb args hop hargs h
theorem hbZ {p0 : Prop} {α : Type} {d : Kd α} {e base : Nat} {w w1 : World} {ok : Nat → Prop} {v : Value} {xs : List α} (z : p0) (hb : Below w.heap.size w w1) (h : p0 → d.R e w base ok v xs := by intro z0_; (with_reducible repeat (first | apply Kd.R_alloc | apply Kd.R_drewN | apply Kd.R_drew)); exact z0_.out) : Aside0 (d.R e w1 base ok v xs) := ⟨Kd.R_below (h z) hb⟩
theorem rfZ {α : Type} {d : Kd α} {e base : Nat} {w w1 : World} {ok : Nat → Prop} {v : Value} {xs : List α} (h : d.R e w base ok v xs) (t : d.R e w base ok v xs → d.R e w1 base ok v xs := by intro h_; (with_reducible repeat (refine Kd.R_far ?_ (fun _ hk => hk.2) _)); exact h_) : d.R e w1 base ok v xs := t h
theorem bindZ {α β : Type} {a : α} {f : α → Option β} {r : Option β} (H : (some a).bind f = r) : f a = r := H
theorem bsZ {w0 w w1 : World} (h : Below w0.heap.size w0 w) (hb : Below w.heap.size w w1) : Aside0 (Below w0.heap.size w0 w1) := ⟨below_step h hb⟩
theorem blk_farO {w : World} {g : Nat} {o : Obj} {p : Addr} {u : Value} (h : w.heap[g]? = some o) (hp : g ≠ p.block) : (w.setCell p u).heap[g]? = some o := (Below.heap_setCell w p u g hp).trans h
theorem b0Z {p0 : Prop} {W : World} {g : Nat} {o : Obj} (z0 : p0) (h : p0 → W.heap[g]? = some o := by intro z0_; (with_reducible repeat (first | refine' blk_drewN ?_ _ | refine' blk_drew ?_ | refine' blk_alloc ?_ _)); exact z0_.out) : W.heap[g]? = some o := h z0
theorem bfZ {p0 p1 : Prop} {W : World} {g : Nat} {o : Obj} (z0 : p0) (z1 : p1) (h : p0 → p1 → W.heap[g]? = some o := by intro z0_ z1_; (repeat (first | (with_reducible first | refine' blk_drewN ?_ _ | refine' blk_drew ?_ | refine' blk_alloc ?_ _) | refine' blk_farO ?_ z1_.out)); exact z0_.out) : W.heap[g]? = some o := h z0 z1
theorem exb_drewN {w : World} {g t n : Nat} {E : Array Value → Prop} (h : ∃ cs, w.heap[g]? = some (.cells cs t (0, 0)) ∧ E cs) : ∃ cs, (w.drewN n).heap[g]? = some (.cells cs t (0, 0)) ∧ E cs := h.elim fun cs h => ⟨cs, blk_drewN h.1 _, h.2⟩
theorem exb_drew {w : World} {g t : Nat} {E : Array Value → Prop} (h : ∃ cs, w.heap[g]? = some (.cells cs t (0, 0)) ∧ E cs) : ∃ cs, w.drew.heap[g]? = some (.cells cs t (0, 0)) ∧ E cs := h.elim fun cs h => ⟨cs, blk_drew h.1, h.2⟩
theorem exb_alloc {w : World} {g t : Nat} {o : Obj} {E : Array Value → Prop} (h : ∃ cs, w.heap[g]? = some (.cells cs t (0, 0)) ∧ E cs) : ∃ cs, (w.alloc o).heap[g]? = some (.cells cs t (0, 0)) ∧ E cs := h.elim fun cs h => ⟨cs, blk_alloc h.1 _, h.2⟩
theorem exb_set {w : World} {g t i : Nat} {u : Value} {E : Array Value → Prop} (h : ∃ cs, w.heap[g]? = some (.cells cs t (0, 0)) ∧ E (cs.setIfInBounds i u)) : ∃ cs, (w.setCell ⟨g, i, none⟩ u).heap[g]? = some (.cells cs t (0, 0)) ∧ E cs := h.elim fun cs h => ⟨cs.setIfInBounds i u, blk_set h.1 i u, h.2⟩
theorem exb_far {w : World} {g t : Nat} {p : Addr} {u : Value} {E : Array Value → Prop} (h : ∃ cs, w.heap[g]? = some (.cells cs t (0, 0)) ∧ E cs) (hp : g ≠ p.block) : ∃ cs, (w.setCell p u).heap[g]? = some (.cells cs t (0, 0)) ∧ E cs := h.elim fun cs h => ⟨cs, blk_far h.1 hp u, h.2⟩
theorem bpZ {p0 : Prop} {W : World} {g t : Nat} {cs' : Array Value} (z0 : p0) (h : p0 → ∃ cs, W.heap[g]? = some (.cells cs t (0, 0)) ∧ cs = cs' := by intro z0_; (repeat (with_reducible first | refine exb_drewN ?_ | refine exb_drew ?_ | refine exb_alloc ?_ | refine exb_set ?_)); exact ⟨_, z0_.out, by first | (simp only [List.setIfInBounds_toArray, List.set_cons_zero, List.set_cons_succ]; done) | rfl⟩) : W.heap[g]? = some (.cells cs' t (0, 0)) := (h z0).elim fun _ h => h.2 ▸ h.1
theorem bmZ {p0 p1 : Prop} {W : World} {g t : Nat} {cs' : Array Value} (z0 : p0) (z1 : p1) (h : p0 → p1 → ∃ cs, W.heap[g]? = some (.cells cs t (0, 0)) ∧ cs = cs' := by intro z0_ z1_; (repeat (first | (with_reducible first | refine exb_drewN ?_ | refine exb_drew ?_ | refine exb_alloc ?_ | refine exb_set ?_) | refine exb_far ?_ z1_.out)); exact ⟨_, z0_.out, by first | (simp only [List.setIfInBounds_toArray, List.set_cons_zero, List.set_cons_succ]; done) | rfl⟩) : W.heap[g]? = some (.cells cs' t (0, 0)) := (h z0 z1).elim fun _ h => h.2 ▸ h.1
def bB (n m : Nat) : Array Bool := ((List.range n).map fun i => m.testBit i).toArray
def bT (n k : Nat) : Array Bool := (List.replicate k true ++ List.replicate (n - k) false).toArray
theorem cz3 {w : World} {g t : Nat} {a0 a1 a2 : Value} (h : Aside0 (w.heap[g]? = some (.cells #[a0, a1, a2] t (0, 0)))) : w.cell? ⟨g, 0, none⟩ = some a0 ∧ w.cell? ⟨g, 1, none⟩ = some a1 ∧ w.cell? ⟨g, 2, none⟩ = some a2 ∧ w.frozen? ⟨g, 0, none⟩ = false ∧ w.frozen? ⟨g, 1, none⟩ = false ∧ w.frozen? ⟨g, 2, none⟩ = false := ⟨(blk_cell h.out 0).trans rfl, (blk_cell h.out 1).trans rfl, (blk_cell h.out 2).trans rfl, blk_frozen h.out 0, blk_frozen h.out 1, blk_frozen h.out 2⟩
theorem cz4 {w : World} {g t : Nat} {a0 a1 a2 a3 : Value} (h : Aside0 (w.heap[g]? = some (.cells #[a0, a1, a2, a3] t (0, 0)))) : w.cell? ⟨g, 0, none⟩ = some a0 ∧ w.cell? ⟨g, 1, none⟩ = some a1 ∧ w.cell? ⟨g, 2, none⟩ = some a2 ∧ w.cell? ⟨g, 3, none⟩ = some a3 ∧ w.frozen? ⟨g, 0, none⟩ = false ∧ w.frozen? ⟨g, 1, none⟩ = false ∧ w.frozen? ⟨g, 2, none⟩ = false ∧ w.frozen? ⟨g, 3, none⟩ = false := ⟨(blk_cell h.out 0).trans rfl, (blk_cell h.out 1).trans rfl, (blk_cell h.out 2).trans rfl, (blk_cell h.out 3).trans rfl, blk_frozen h.out 0, blk_frozen h.out 1, blk_frozen h.out 2, blk_frozen h.out 3⟩
theorem takeZ3 {P : Program} {ops : Array Oper} {Q : Exit → Act → World → Prop} {md : Region.Mode} {S : World → Prop} {ds : List Nat} {T : Bool × List (List Nat × List Nat)} {B : List Nat} (HT_ : Aside0 (rtab md ops = T)) (HW_ : Aside0 (waitsOk T.2 B = true)) (i : Nat) (N : Option Tmp) (l' : Array Bool) {oi : Oper} {v : Value} {fuel : Nat} {l : Array Bool} {a a' : Act} {w : World} (hS : S w) (h : wpAnyLast P md ops Q S ds fuel l' a' w)
    (hi : ops[i]? = some oi := by rfl) (hN : oi.dst = N := by rfl) (hc : takeW T B ds l.toList l'.toList i = true := by kernel_rfl) (hQ : ∀ c a w, Q (.panic c) (a.put oi.dst v) w → Q (.panic c) a w := by exact fun _ _ _ h => h) (hy : YieldsIf P ops S oi v a := by refine Or.inl ⟨by rfl, ?_⟩; rintro w' ⟨s0, s1, s2⟩; go_simp; with_reducible rfl) (ha : a.put N v = a' := by simp only [Act.put, List.setIfInBounds_toArray, List.set_cons_zero, List.set_cons_succ, i64_w, i32_w]; rfl) : wpAnyLast P md ops Q S ds (fuel + 1) l a w := take_ l' hi hN (take_ofW HT_.out HW_.out hc) hQ hy hS ha h
theorem takeZ4 {P : Program} {ops : Array Oper} {Q : Exit → Act → World → Prop} {md : Region.Mode} {S : World → Prop} {ds : List Nat} {T : Bool × List (List Nat × List Nat)} {B : List Nat} (HT_ : Aside0 (rtab md ops = T)) (HW_ : Aside0 (waitsOk T.2 B = true)) (i : Nat) (N : Option Tmp) (l' : Array Bool) {oi : Oper} {v : Value} {fuel : Nat} {l : Array Bool} {a a' : Act} {w : World} (hS : S w) (h : wpAnyLast P md ops Q S ds fuel l' a' w)
    (hi : ops[i]? = some oi := by rfl) (hN : oi.dst = N := by rfl) (hc : takeW T B ds l.toList l'.toList i = true := by kernel_rfl) (hQ : ∀ c a w, Q (.panic c) (a.put oi.dst v) w → Q (.panic c) a w := by exact fun _ _ _ h => h) (hy : YieldsIf P ops S oi v a := by refine Or.inl ⟨by rfl, ?_⟩; rintro w' ⟨s0, s1, s2, s3⟩; go_simp; with_reducible rfl) (ha : a.put N v = a' := by simp only [Act.put, List.setIfInBounds_toArray, List.set_cons_zero, List.set_cons_succ, i64_w, i32_w]; rfl) : wpAnyLast P md ops Q S ds (fuel + 1) l a w := take_ l' hi hN (take_ofW HT_.out HW_.out hc) hQ hy hS ha h
theorem takeZ6 {P : Program} {ops : Array Oper} {Q : Exit → Act → World → Prop} {md : Region.Mode} {S : World → Prop} {ds : List Nat} {T : Bool × List (List Nat × List Nat)} {B : List Nat} (HT_ : Aside0 (rtab md ops = T)) (HW_ : Aside0 (waitsOk T.2 B = true)) (i : Nat) (N : Option Tmp) (l' : Array Bool) {oi : Oper} {v : Value} {fuel : Nat} {l : Array Bool} {a a' : Act} {w : World} (hS : S w) (h : wpAnyLast P md ops Q S ds fuel l' a' w)
    (hi : ops[i]? = some oi := by rfl) (hN : oi.dst = N := by rfl) (hc : takeW T B ds l.toList l'.toList i = true := by kernel_rfl) (hQ : ∀ c a w, Q (.panic c) (a.put oi.dst v) w → Q (.panic c) a w := by exact fun _ _ _ h => h) (hy : YieldsIf P ops S oi v a := by refine Or.inl ⟨by rfl, ?_⟩; rintro w' ⟨s0, s1, s2, s3, s4, s5⟩; go_simp; with_reducible rfl) (ha : a.put N v = a' := by simp only [Act.put, List.setIfInBounds_toArray, List.set_cons_zero, List.set_cons_succ, i64_w, i32_w]; rfl) : wpAnyLast P md ops Q S ds (fuel + 1) l a w := take_ l' hi hN (take_ofW HT_.out HW_.out hc) hQ hy hS ha h
theorem takeZ7 {P : Program} {ops : Array Oper} {Q : Exit → Act → World → Prop} {md : Region.Mode} {S : World → Prop} {ds : List Nat} {T : Bool × List (List Nat × List Nat)} {B : List Nat} (HT_ : Aside0 (rtab md ops = T)) (HW_ : Aside0 (waitsOk T.2 B = true)) (i : Nat) (N : Option Tmp) (l' : Array Bool) {oi : Oper} {v : Value} {fuel : Nat} {l : Array Bool} {a a' : Act} {w : World} (hS : S w) (h : wpAnyLast P md ops Q S ds fuel l' a' w)
    (hi : ops[i]? = some oi := by rfl) (hN : oi.dst = N := by rfl) (hc : takeW T B ds l.toList l'.toList i = true := by kernel_rfl) (hQ : ∀ c a w, Q (.panic c) (a.put oi.dst v) w → Q (.panic c) a w := by exact fun _ _ _ h => h) (hy : YieldsIf P ops S oi v a := by refine Or.inl ⟨by rfl, ?_⟩; rintro w' ⟨s0, s1, s2, s3, s4, s5, s6⟩; go_simp; with_reducible rfl) (ha : a.put N v = a' := by simp only [Act.put, List.setIfInBounds_toArray, List.set_cons_zero, List.set_cons_succ, i64_w, i32_w]; rfl) : wpAnyLast P md ops Q S ds (fuel + 1) l a w := take_ l' hi hN (take_ofW HT_.out HW_.out hc) hQ hy hS ha h
theorem takeZ8 {P : Program} {ops : Array Oper} {Q : Exit → Act → World → Prop} {md : Region.Mode} {S : World → Prop} {ds : List Nat} {T : Bool × List (List Nat × List Nat)} {B : List Nat} (HT_ : Aside0 (rtab md ops = T)) (HW_ : Aside0 (waitsOk T.2 B = true)) (i : Nat) (N : Option Tmp) (l' : Array Bool) {oi : Oper} {v : Value} {fuel : Nat} {l : Array Bool} {a a' : Act} {w : World} (hS : S w) (h : wpAnyLast P md ops Q S ds fuel l' a' w)
    (hi : ops[i]? = some oi := by rfl) (hN : oi.dst = N := by rfl) (hc : takeW T B ds l.toList l'.toList i = true := by kernel_rfl) (hQ : ∀ c a w, Q (.panic c) (a.put oi.dst v) w → Q (.panic c) a w := by exact fun _ _ _ h => h) (hy : YieldsIf P ops S oi v a := by refine Or.inl ⟨by rfl, ?_⟩; rintro w' ⟨s0, s1, s2, s3, s4, s5, s6, s7⟩; go_simp; with_reducible rfl) (ha : a.put N v = a' := by simp only [Act.put, List.setIfInBounds_toArray, List.set_cons_zero, List.set_cons_succ, i64_w, i32_w]; rfl) : wpAnyLast P md ops Q S ds (fuel + 1) l a w := take_ l' hi hN (take_ofW HT_.out HW_.out hc) hQ hy hS ha h
theorem takeZ9 {P : Program} {ops : Array Oper} {Q : Exit → Act → World → Prop} {md : Region.Mode} {S : World → Prop} {ds : List Nat} {T : Bool × List (List Nat × List Nat)} {B : List Nat} (HT_ : Aside0 (rtab md ops = T)) (HW_ : Aside0 (waitsOk T.2 B = true)) (i : Nat) (N : Option Tmp) (l' : Array Bool) {oi : Oper} {v : Value} {fuel : Nat} {l : Array Bool} {a a' : Act} {w : World} (hS : S w) (h : wpAnyLast P md ops Q S ds fuel l' a' w)
    (hi : ops[i]? = some oi := by rfl) (hN : oi.dst = N := by rfl) (hc : takeW T B ds l.toList l'.toList i = true := by kernel_rfl) (hQ : ∀ c a w, Q (.panic c) (a.put oi.dst v) w → Q (.panic c) a w := by exact fun _ _ _ h => h) (hy : YieldsIf P ops S oi v a := by refine Or.inl ⟨by rfl, ?_⟩; rintro w' ⟨s0, s1, s2, s3, s4, s5, s6, s7, s8⟩; go_simp; with_reducible rfl) (ha : a.put N v = a' := by simp only [Act.put, List.setIfInBounds_toArray, List.set_cons_zero, List.set_cons_succ, i64_w, i32_w]; rfl) : wpAnyLast P md ops Q S ds (fuel + 1) l a w := take_ l' hi hN (take_ofW HT_.out HW_.out hc) hQ hy hS ha h
theorem takeZ16 {P : Program} {ops : Array Oper} {Q : Exit → Act → World → Prop} {md : Region.Mode} {S : World → Prop} {ds : List Nat} {T : Bool × List (List Nat × List Nat)} {B : List Nat} (HT_ : Aside0 (rtab md ops = T)) (HW_ : Aside0 (waitsOk T.2 B = true)) (i : Nat) (N : Option Tmp) (l' : Array Bool) {oi : Oper} {v : Value} {fuel : Nat} {l : Array Bool} {a a' : Act} {w : World} (hS : S w) (h : wpAnyLast P md ops Q S ds fuel l' a' w)
    (hi : ops[i]? = some oi := by rfl) (hN : oi.dst = N := by rfl) (hc : takeW T B ds l.toList l'.toList i = true := by kernel_rfl) (hQ : ∀ c a w, Q (.panic c) (a.put oi.dst v) w → Q (.panic c) a w := by exact fun _ _ _ h => h) (hy : YieldsIf P ops S oi v a := by refine Or.inl ⟨by rfl, ?_⟩; rintro w' ⟨s0, s1, s2, s3, s4, s5, s6, s7, s8, s9, s10, s11, s12, s13, s14, s15⟩; go_simp; with_reducible rfl) (ha : a.put N v = a' := by simp only [Act.put, List.setIfInBounds_toArray, List.set_cons_zero, List.set_cons_succ, i64_w, i32_w]; rfl) : wpAnyLast P md ops Q S ds (fuel + 1) l a w := take_ l' hi hN (take_ofW HT_.out HW_.out hc) hQ hy hS ha h
theorem takeZ18 {P : Program} {ops : Array Oper} {Q : Exit → Act → World → Prop} {md : Region.Mode} {S : World → Prop} {ds : List Nat} {T : Bool × List (List Nat × List Nat)} {B : List Nat} (HT_ : Aside0 (rtab md ops = T)) (HW_ : Aside0 (waitsOk T.2 B = true)) (i : Nat) (N : Option Tmp) (l' : Array Bool) {oi : Oper} {v : Value} {fuel : Nat} {l : Array Bool} {a a' : Act} {w : World} (hS : S w) (h : wpAnyLast P md ops Q S ds fuel l' a' w)
    (hi : ops[i]? = some oi := by rfl) (hN : oi.dst = N := by rfl) (hc : takeW T B ds l.toList l'.toList i = true := by kernel_rfl) (hQ : ∀ c a w, Q (.panic c) (a.put oi.dst v) w → Q (.panic c) a w := by exact fun _ _ _ h => h) (hy : YieldsIf P ops S oi v a := by refine Or.inl ⟨by rfl, ?_⟩; rintro w' ⟨s0, s1, s2, s3, s4, s5, s6, s7, s8, s9, s10, s11, s12, s13, s14, s15, s16, s17⟩; go_simp; with_reducible rfl) (ha : a.put N v = a' := by simp only [Act.put, List.setIfInBounds_toArray, List.set_cons_zero, List.set_cons_succ, i64_w, i32_w]; rfl) : wpAnyLast P md ops Q S ds (fuel + 1) l a w := take_ l' hi hN (take_ofW HT_.out HW_.out hc) hQ hy hS ha h
theorem takeZ27 {P : Program} {ops : Array Oper} {Q : Exit → Act → World → Prop} {md : Region.Mode} {S : World → Prop} {ds : List Nat} {T : Bool × List (List Nat × List Nat)} {B : List Nat} (HT_ : Aside0 (rtab md ops = T)) (HW_ : Aside0 (waitsOk T.2 B = true)) (i : Nat) (N : Option Tmp) (l' : Array Bool) {oi : Oper} {v : Value} {fuel : Nat} {l : Array Bool} {a a' : Act} {w : World} (hS : S w) (h : wpAnyLast P md ops Q S ds fuel l' a' w)
    (hi : ops[i]? = some oi := by rfl) (hN : oi.dst = N := by rfl) (hc : takeW T B ds l.toList l'.toList i = true := by kernel_rfl) (hQ : ∀ c a w, Q (.panic c) (a.put oi.dst v) w → Q (.panic c) a w := by exact fun _ _ _ h => h) (hy : YieldsIf P ops S oi v a := by refine Or.inl ⟨by rfl, ?_⟩; rintro w' ⟨s0, s1, s2, s3, s4, s5, s6, s7, s8, s9, s10, s11, s12, s13, s14, s15, s16, s17, s18, s19, s20, s21, s22, s23, s24, s25, s26⟩; go_simp; with_reducible rfl) (ha : a.put N v = a' := by simp only [Act.put, List.setIfInBounds_toArray, List.set_cons_zero, List.set_cons_succ, i64_w, i32_w]; rfl) : wpAnyLast P md ops Q S ds (fuel + 1) l a w := take_ l' hi hN (take_ofW HT_.out HW_.out hc) hQ hy hS ha h
theorem ci2 {w : World} {g t : Nat} {a0 a1 : Value} (h : Aside0 (w.heap[g]? = some (.cells #[a0, a1] t (0, 0)))) {P : Prop} (k : w.cell? ⟨g, 0, none⟩ = some a0 → w.cell? ⟨g, 1, none⟩ = some a1 → w.frozen? ⟨g, 0, none⟩ = false → w.frozen? ⟨g, 1, none⟩ = false → P) : P := k ((blk_cell h.out 0).trans rfl) ((blk_cell h.out 1).trans rfl) (blk_frozen h.out 0) (blk_frozen h.out 1)
theorem ci3 {w : World} {g t : Nat} {a0 a1 a2 : Value} (h : Aside0 (w.heap[g]? = some (.cells #[a0, a1, a2] t (0, 0)))) {P : Prop} (k : w.cell? ⟨g, 0, none⟩ = some a0 → w.cell? ⟨g, 1, none⟩ = some a1 → w.cell? ⟨g, 2, none⟩ = some a2 → w.frozen? ⟨g, 0, none⟩ = false → w.frozen? ⟨g, 1, none⟩ = false → w.frozen? ⟨g, 2, none⟩ = false → P) : P := k ((blk_cell h.out 0).trans rfl) ((blk_cell h.out 1).trans rfl) ((blk_cell h.out 2).trans rfl) (blk_frozen h.out 0) (blk_frozen h.out 1) (blk_frozen h.out 2)
theorem ci4 {w : World} {g t : Nat} {a0 a1 a2 a3 : Value} (h : Aside0 (w.heap[g]? = some (.cells #[a0, a1, a2, a3] t (0, 0)))) {P : Prop} (k : w.cell? ⟨g, 0, none⟩ = some a0 → w.cell? ⟨g, 1, none⟩ = some a1 → w.cell? ⟨g, 2, none⟩ = some a2 → w.cell? ⟨g, 3, none⟩ = some a3 → w.frozen? ⟨g, 0, none⟩ = false → w.frozen? ⟨g, 1, none⟩ = false → w.frozen? ⟨g, 2, none⟩ = false → w.frozen? ⟨g, 3, none⟩ = false → P) : P := k ((blk_cell h.out 0).trans rfl) ((blk_cell h.out 1).trans rfl) ((blk_cell h.out 2).trans rfl) ((blk_cell h.out 3).trans rfl) (blk_frozen h.out 0) (blk_frozen h.out 1) (blk_frozen h.out 2) (blk_frozen h.out 3)
theorem ci9 {w : World} {g t : Nat} {a0 a1 a2 a3 a4 a5 a6 a7 a8 : Value} (h : Aside0 (w.heap[g]? = some (.cells #[a0, a1, a2, a3, a4, a5, a6, a7, a8] t (0, 0)))) {P : Prop} (k : w.cell? ⟨g, 0, none⟩ = some a0 → w.cell? ⟨g, 1, none⟩ = some a1 → w.cell? ⟨g, 2, none⟩ = some a2 → w.cell? ⟨g, 3, none⟩ = some a3 → w.cell? ⟨g, 4, none⟩ = some a4 → w.cell? ⟨g, 5, none⟩ = some a5 → w.cell? ⟨g, 6, none⟩ = some a6 → w.cell? ⟨g, 7, none⟩ = some a7 → w.cell? ⟨g, 8, none⟩ = some a8 → w.frozen? ⟨g, 0, none⟩ = false → w.frozen? ⟨g, 1, none⟩ = false → w.frozen? ⟨g, 2, none⟩ = false → w.frozen? ⟨g, 3, none⟩ = false → w.frozen? ⟨g, 4, none⟩ = false → w.frozen? ⟨g, 5, none⟩ = false → w.frozen? ⟨g, 6, none⟩ = false → w.frozen? ⟨g, 7, none⟩ = false → w.frozen? ⟨g, 8, none⟩ = false → P) : P := k ((blk_cell h.out 0).trans rfl) ((blk_cell h.out 1).trans rfl) ((blk_cell h.out 2).trans rfl) ((blk_cell h.out 3).trans rfl) ((blk_cell h.out 4).trans rfl) ((blk_cell h.out 5).trans rfl) ((blk_cell h.out 6).trans rfl) ((blk_cell h.out 7).trans rfl) ((blk_cell h.out 8).trans rfl) (blk_frozen h.out 0) (blk_frozen h.out 1) (blk_frozen h.out 2) (blk_frozen h.out 3) (blk_frozen h.out 4) (blk_frozen h.out 5) (blk_frozen h.out 6) (blk_frozen h.out 7) (blk_frozen h.out 8)
theorem Za {P : Prop} (h : P := by first | rfl | (simp; done) | (simp [*]; done)) : P := h
theorem Zb {P : Prop} (h : P := by repeat (first | exact Drawn0.refl _ | apply Drawn0.step)) : P := h
theorem Zc {P : Prop} (h : P := by rw [hg]; exact (below_size (by repeat (first | (with_reducible first | exact HB.out | apply below_alloc | apply pw_below_drewN | apply below_drew1) | exact HB.out)))) : P := h
theorem Zd {P : Prop} (h : P := by repeat (first | (with_reducible first | exact HB.out | apply below_alloc | apply pw_below_drewN | apply below_drew1) | exact HB.out)) : P := h
theorem Ze {p0 P : Prop} (z0_ : p0) (h : p0 → P := by intro z0_; rw [hg]; exact (below_size (by repeat (first | (with_reducible first | exact HB.out | apply below_alloc | apply pw_below_drewN | apply below_drew1 | refine below_set ?_ z0_.out) | exact HB.out)))) : P := h z0_
theorem Zf {p0 P : Prop} (z0_ : p0) (h : p0 → P := by intro z0_; repeat (first | (with_reducible first | exact HB.out | apply below_alloc | apply pw_below_drewN | apply below_drew1 | refine below_set ?_ z0_.out) | exact HB.out)) : P := h z0_
theorem Zg {p0 p1 P : Prop} (z0_ : p0) (z1_ : p1) (h : p0 → p1 → P := by intro z0_ z1_; rw [hg]; exact (below_size (by repeat (first | (with_reducible first | exact HB.out | apply below_alloc | apply pw_below_drewN | apply below_drew1 | refine below_set ?_ z0_.out | refine below_set ?_ z1_.out) | exact HB.out)))) : P := h z0_ z1_
theorem Zh {p0 p1 P : Prop} (z0_ : p0) (z1_ : p1) (h : p0 → p1 → P := by intro z0_ z1_; repeat (first | (with_reducible first | exact HB.out | apply below_alloc | apply pw_below_drewN | apply below_drew1 | refine below_set ?_ z0_.out | refine below_set ?_ z1_.out) | exact HB.out)) : P := h z0_ z1_
theorem Zi {P : Prop} (h : P := by kernel_rfl) : P := h
theorem Zj {P : Prop} (h : P := by first | rfl | (simp [errW_none, errW_some] <;> rfl) | (simp [*, errW_none, errW_some] <;> rfl)) : P := h
theorem Zk {p0 p1 p2 P : Prop} (z0_ : p0) (z1_ : p1) (z2_ : p2) (h : p0 → p1 → p2 → P := by intro z0_ z1_ z2_; repeat (first | (with_reducible first | exact HB.out | apply below_alloc | apply pw_below_drewN | apply below_drew1 | refine below_set ?_ z0_.out | refine below_set ?_ z1_.out | refine below_set ?_ z2_.out) | exact HB.out)) : P := h z0_ z1_ z2_
theorem Zl {P : Prop} (h : P := by first | omega | exact Nat.le_refl _) : P := h
theorem Zm {P : Prop} (h : P := by first | exact Kd.R_nil _ _ _ _ _ | exact Kd.N_nil _ _ _ _ _ | exact Kd.V_nil _ _ _ _ _ | exact Kd.Q_nil _ _ _ _ _ | exact Kd.S_nil _ _ _ _ _) : P := h
theorem Zn {P : Prop} (h : P := by first | (with_reducible assumption) | assumption) : P := h
theorem Zo {p0 P : Prop} (z0_ : p0) (h : p0 → P := by intro z0_; (with_reducible repeat (first | apply Kd.R_alloc | apply Kd.R_drewN | apply Kd.R_drew)); exact z0_.out) : P := h z0_
theorem Zp {P : Prop} (h : P := by have := HJ2.out; have := HK2.out; have := HK3.out; omega) : P := h
theorem Zq {P : Prop} (h : P := by first | rfl | (simp [errW_none, errW_some] <;> rfl) | (simp only [← hji7]; first | rfl | (simp [errW_none, errW_some] <;> rfl)) | (simp [*, errW_none, errW_some] <;> rfl)) : P := h
theorem Zr {P : Prop} (h : P := by (try simp only [List.map_toArray, List.map_cons, List.map_nil]); first | done | rfl | (simp only [List.length_drop, List.length_take]; rfl)) : P := h
theorem Zs {P : Prop} (h : P := by have := HK1.out; omega) : P := h
theorem Zt {P : Prop} (h : P := by repeat (first | (with_reducible first | exact HK.out | apply Kept.alloc | apply Kept.drewN | apply Kept.drew) | exact HK.out)) : P := h
theorem Zu {p0 P : Prop} (z0_ : p0) (h : p0 → P := by intro z0_; rw [hw]; exact below_set (HB.out) z0_.out) : P := h z0_
theorem Zv {p0 P : Prop} (z0_ : p0) (h : p0 → P := by intro z0_; rw [← HE_.out]; (with_reducible repeat (first | apply Kd.R_alloc | apply Kd.R_drewN | apply Kd.R_drew)); exact z0_.out) : P := h z0_
theorem Zw {P : Prop} (h : P := by rw [hlen]; decide) : P := h
theorem Zx {p0 P : Prop} (z0_ : p0) (h : p0 → P := by intro z0_; rw [hw]; exact below_set (below_set (below_set (below_set (below_set (below_set (below_set (below_set (below_set (HB.out) z0_.out) z0_.out) z0_.out) z0_.out) z0_.out) z0_.out) z0_.out) z0_.out) z0_.out) : P := h z0_
theorem Zy {p0 P : Prop} (z0_ : p0) (h : p0 → P := by intro z0_; rw [hw]; exact below_set (below_set (below_set (below_set (HB.out) z0_.out) z0_.out) z0_.out) z0_.out) : P := h z0_
theorem Zz {p0 P : Prop} (z0_ : p0) (h : p0 → P := by intro z0_; repeat (first | exact (Kd.C_below z0_.out HB.out) | (with_reducible refine Kd.C_alloc ?_ _) | (with_reducible refine Kd.C_drewN ?_ _) | (with_reducible refine Kd.C_drew ?_))) : P := h z0_
theorem Zaa {p0 p1 P : Prop} (z0_ : p0) (z1_ : p1) (h : p0 → p1 → P := by intro z0_ z1_; repeat (first | exact (Kd.C_below z0_.out (by repeat (first | (with_reducible first | exact HB.out | apply below_alloc | apply pw_below_drewN | apply below_drew1 | refine below_set ?_ z1_.out) | exact HB.out))) | (with_reducible refine Kd.C_alloc ?_ _) | (with_reducible refine Kd.C_drewN ?_ _) | (with_reducible refine Kd.C_drew ?_))) : P := h z0_ z1_
theorem Zab {p0 p1 P : Prop} (z0_ : p0) (z1_ : p1) (h : p0 → p1 → P := by intro z0_ z1_; (with_reducible repeat (first | apply Kd.R_alloc | apply Kd.R_drewN | apply Kd.R_drew)); exact (Kd.R_mono (rfZ (Kd.R_types z0_.out z1_.out (by decide))) (fun _ h_ => h_.1))) : P := h z0_ z1_
theorem Zac {p0 p1 p2 P : Prop} (z0_ : p0) (z1_ : p1) (z2_ : p2) (h : p0 → p1 → p2 → P := by intro z0_ z1_ z2_; (with_reducible repeat (first | apply Kd.R_alloc | apply Kd.R_drewN | apply Kd.R_drew)); exact Kd.R_mono (Kd.R_far (p := ⟨gb1139, 2, none⟩) (Kd.R_far (p := ⟨gb1139, 1, none⟩) (Kd.R_far (p := ⟨gb1139, 0, none⟩) (Kd.R_far (p := ⟨gb1140, 2, none⟩) (Kd.R_types (Kd.R_types z0_.out z1_.out (by decide)) z2_.out (by decide)) (fun _ hk => hk.1.2) (.slice Ao22 t1147.length co22)) (fun _ hk => hk.2) (.slice Ao13 t1141.length co13)) (fun _ hk => hk.2) (.slice Ao18 t1144.length co18)) (fun _ hk => hk.2) (.slice Ao22 t1147.length co22)) (fun _ hk => trivial)) : P := h z0_ z1_ z2_
theorem Zad {p0 P : Prop} (z0_ : p0) (h : p0 → P := by intro z0_; repeat (first | (with_reducible first | exact HK.out | apply Kept.alloc | apply Kept.drewN | apply Kept.drew | refine Kept.setCell ?_ (.inr z0_.out) _) | exact HK.out)) : P := h z0_
theorem Zae {p0 p1 p2 P : Prop} (z0_ : p0) (z1_ : p1) (z2_ : p2) (h : p0 → p1 → p2 → P := by intro z0_ z1_ z2_; (with_reducible repeat (first | apply Kd.R_alloc | apply Kd.R_drewN | apply Kd.R_drew)); exact Kd.R_mono (Kd.R_far (p := ⟨gb1139, 2, none⟩) (Kd.R_far (p := ⟨gb1139, 1, none⟩) (Kd.R_far (p := ⟨gb1139, 0, none⟩) (Kd.R_far (p := ⟨gb1140, 2, none⟩) (Kd.R_types (Kd.R_types z0_.out z1_.out (by decide)) z2_.out (by decide)) (fun _ hk => hk.1.2) (.slice Ao22 l0_2.length co22)) (fun _ hk => hk.2) (.slice Ao13 l0_0.length co13)) (fun _ hk => hk.2) (.slice Ao18 l0_1.length co18)) (fun _ hk => hk.2) (.slice Ao22 l0_2.length co22)) (fun _ hk => trivial)) : P := h z0_ z1_ z2_
theorem Zaf {P : Prop} (h : P := by rw [hg]; exact (below_le (by repeat (first | (with_reducible first | exact HB.out | apply below_alloc | apply pw_below_drewN | apply below_drew1) | exact HB.out)))) : P := h
theorem Zag {p0 p1 p2 P : Prop} (z0_ : p0) (z1_ : p1) (z2_ : p2) (h : p0 → p1 → p2 → P := by intro z0_ z1_ z2_; repeat (first | exact (Kd.C_below z0_.out (by repeat (first | (with_reducible first | exact HB.out | apply below_alloc | apply pw_below_drewN | apply below_drew1 | refine below_set ?_ z1_.out | refine below_set ?_ z2_.out) | exact HB.out))) | (with_reducible refine Kd.C_alloc ?_ _) | (with_reducible refine Kd.C_drewN ?_ _) | (with_reducible refine Kd.C_drew ?_))) : P := h z0_ z1_ z2_
theorem Zah {p0 P : Prop} (z0_ : p0) (h : p0 → P := by intro z0_; (with_reducible repeat (first | refine blk_drewN ?_ _ | refine blk_drew ?_ | refine blk_alloc ?_ _)); exact z0_.out) : P := h z0_
theorem Zai {p0 P : Prop} (z0_ : p0) (h : p0 → P := by intro z0_; repeat (first | (with_reducible exact z0_.out) | (with_reducible refine Kd.C_alloc ?_ _) | (with_reducible refine Kd.C_drewN ?_ _) | (with_reducible refine Kd.C_drew ?_) | exact z0_.out)) : P := h z0_
theorem Zaj {P : Prop} (h : P := by simp only [putAll, Act.put, List.setIfInBounds_toArray, List.set_cons_zero, List.set_cons_succ]) : P := h
theorem Zak {p0 P : Prop} (z0_ : p0) (h : p0 → P := by intro z0_; (with_reducible repeat (first | apply Kd.R_alloc | apply Kd.R_drewN | apply Kd.R_drew)); exact Kd.R_mono z0_.out (fun _ hk => ⟨hk.2, hk.1⟩)) : P := h z0_
theorem Zal {p0 P : Prop} (z0_ : p0) (h : p0 → P := by intro z0_; (with_reducible repeat (first | apply Kd.R_alloc | apply Kd.R_drewN | apply Kd.R_drew)); exact Kd.R_mono z0_.out (fun _ hk => ⟨hk.2, hk.1.2⟩)) : P := h z0_
theorem Zam {p0 P : Prop} (z0_ : p0) (h : p0 → P := by intro z0_; (with_reducible repeat (first | apply Kd.R_alloc | apply Kd.R_drewN | apply Kd.R_drew)); exact Kd.R_mono z0_.out (fun _ hk => ⟨hk.1.2, hk.2⟩)) : P := h z0_
theorem Zan {p0 P : Prop} (z0_ : p0) (h : p0 → P := by intro z0_; (with_reducible repeat (first | apply Kd.R_alloc | apply Kd.R_drewN | apply Kd.R_drew)); exact Kd.R_mono z0_.out (fun _ hk => trivial)) : P := h z0_
theorem Zao {p0 P : Prop} (z0_ : p0) (h : p0 → P := by intro z0_; refine blk_put (cs := #[.string ((rd_T61 l0 x10_1).f0), .int .i64 ((rd_T61 l0 x10_1).f1), .int .i64 ((rd_T61 l0 x10_1).f2), .int .i64 ((rd_T61 l0 x10_1).f3), .int .i64 ((rd_T61 l0 x10_1).f4), .int .i64 ((rd_T61 l0 x10_1).f5), .int .i64 ((rd_T61 l0 x10_1).f6), .int .i64 ((rd_T61 l0 x10_1).f7), .int .i64 0]) ?_ 8 _ rfl; refine blk_put (cs := #[.string ((rd_T61 l0 x10_1).f0), .int .i64 ((rd_T61 l0 x10_1).f1), .int .i64 ((rd_T61 l0 x10_1).f2), .int .i64 ((rd_T61 l0 x10_1).f3), .int .i64 ((rd_T61 l0 x10_1).f4), .int .i64 ((rd_T61 l0 x10_1).f5), .int .i64 ((rd_T61 l0 x10_1).f6), .int .i64 0, .int .i64 0]) ?_ 7 _ rfl; refine blk_put (cs := #[.string ((rd_T61 l0 x10_1).f0), .int .i64 ((rd_T61 l0 x10_1).f1), .int .i64 ((rd_T61 l0 x10_1).f2), .int .i64 ((rd_T61 l0 x10_1).f3), .int .i64 ((rd_T61 l0 x10_1).f4), .int .i64 ((rd_T61 l0 x10_1).f5), .int .i64 0, .int .i64 0, .int .i64 0]) ?_ 6 _ rfl; refine blk_put (cs := #[.string ((rd_T61 l0 x10_1).f0), .int .i64 ((rd_T61 l0 x10_1).f1), .int .i64 ((rd_T61 l0 x10_1).f2), .int .i64 ((rd_T61 l0 x10_1).f3), .int .i64 ((rd_T61 l0 x10_1).f4), .int .i64 0, .int .i64 0, .int .i64 0, .int .i64 0]) ?_ 5 _ rfl; refine blk_put (cs := #[.string ((rd_T61 l0 x10_1).f0), .int .i64 ((rd_T61 l0 x10_1).f1), .int .i64 ((rd_T61 l0 x10_1).f2), .int .i64 ((rd_T61 l0 x10_1).f3), .int .i64 0, .int .i64 0, .int .i64 0, .int .i64 0, .int .i64 0]) ?_ 4 _ rfl; refine blk_put (cs := #[.string ((rd_T61 l0 x10_1).f0), .int .i64 ((rd_T61 l0 x10_1).f1), .int .i64 ((rd_T61 l0 x10_1).f2), .int .i64 0, .int .i64 0, .int .i64 0, .int .i64 0, .int .i64 0, .int .i64 0]) ?_ 3 _ rfl; refine blk_put (cs := #[.string ((rd_T61 l0 x10_1).f0), .int .i64 ((rd_T61 l0 x10_1).f1), .int .i64 0, .int .i64 0, .int .i64 0, .int .i64 0, .int .i64 0, .int .i64 0, .int .i64 0]) ?_ 2 _ rfl; refine blk_put (cs := #[.string ((rd_T61 l0 x10_1).f0), .int .i64 0, .int .i64 0, .int .i64 0, .int .i64 0, .int .i64 0, .int .i64 0, .int .i64 0, .int .i64 0]) ?_ 1 _ rfl; refine blk_put (cs := #[.string (⟨#[]⟩ : ByteArray), .int .i64 0, .int .i64 0, .int .i64 0, .int .i64 0, .int .i64 0, .int .i64 0, .int .i64 0, .int .i64 0]) ?_ 0 _ rfl; exact z0_.out) : P := h z0_
theorem Zap {p0 P : Prop} (z0_ : p0) (h : p0 → P := by intro z0_; exact ⟨(blk_cell z0_.out 0).trans rfl, (blk_cell z0_.out 1).trans rfl, (blk_cell z0_.out 2).trans rfl, (blk_cell z0_.out 3).trans rfl, (blk_cell z0_.out 4).trans rfl, (blk_cell z0_.out 5).trans rfl, (blk_cell z0_.out 6).trans rfl, (blk_cell z0_.out 7).trans rfl, (blk_cell z0_.out 8).trans rfl⟩) : P := h z0_
theorem Zaq {p0 P : Prop} (z0_ : p0) (h : p0 → P := by intro z0_; (try simp only [hl4_1]); (with_reducible repeat (first | apply Kd.R_alloc | apply Kd.R_drewN | apply Kd.R_drew)); exact z0_.out) : P := h z0_
theorem Zar {p0 P : Prop} (z0_ : p0) (h : p0 → P := by intro z0_; (try simp only [hl4_1]); (with_reducible repeat (first | refine blk_drewN ?_ _ | refine blk_drew ?_ | refine blk_alloc ?_ _)); exact z0_.out) : P := h z0_
theorem Zas {p0 P : Prop} (z0_ : p0) (h : p0 → P := by intro z0_; (with_reducible repeat (first | apply Ob_alloc | apply Ob_drewN | apply Ob_drew)); exact z0_.out) : P := h z0_
theorem Zat {P : Prop} (h : P := by have := OX1.out; have := OX4.out; have := OX5.out; have := OB0.out; have := OB91.out; skip; omega) : P := h
theorem Zau {P : Prop} (h : P := by have := OX1.out; have := OX4.out; have := OX5.out; have := OX8.out; have := OX9.out; have := OB0.out; have := OB91.out; skip; omega) : P := h
theorem Zav {P : Prop} (h : P := by rw [List.length_set]; omega) : P := h
theorem Zaw {P : Prop} (h : P := by rw [List.length_replicate]; omega) : P := h
end Go.Proofs.Ytmnnbmdfepogiaa.F
namespace Go.Proofs.Ytmnnbmdfepogiaa.F
open Go.RowKit Go.Proofs.YtmnnbmdfepogiaaW.PrintWords Go.Proofs.YtmnnbmdfepogiaaW.PrintLast Go.Proofs.YtmnnbmdfepogiaaW.PrintMore
set_option linter.unusedVariables false
set_option linter.unusedSimpArgs false
open Go.ChangeShapes
theorem cut_cap {P : Program} (t e : TypeId) (kh : IntKind) {i : TypeInfo} (ht : P.underlying t = some (.slice e)) (hi : P.info? e = some i) (A : Option Addr) (n c : Nat) (j : Int) (h0 : 0 ≤ j) (hm : j ≤ c) :
  ∀ W : World, (Instr.slice t (.slice A n c) none (some (.int kh j)) none).run P W = .ok (.slice A j.toNat c) W := by
 intro W
 have hel : P.elem t = e := by simp [Program.elem, ht]
 have hu : P.underlying t = some (.slice (P.elem t)) := by rw [hel]; exact ht
 have ha : (A.map fun x => x.add 0) = A := by cases A <;> simp [Addr.add]
 rw [run_slice_h W t A n c hu kh j h0 hm, hel]
 simp [sizeOf, typeInfo, hi, sliced, Result.andThen, ha]
def Full {α : Type} (d : Kd α) (t : Nat) (w : World) (base : Nat) (n : Nat) (v : Value) (r : List α) : Prop := r ≠ [] → ∃ A c, v = .slice A n c ∧ n ≤ r.length ∧ Kd.R d t w base (fun _ => True) (.slice A r.length c) r
def Ob {α : Type} (d : Kd α) (t : Nat) (w : World) (base lo hi : Nat) (v : Value) (xs : List α) : Prop := Kd.R d t w base (fun k => lo ≤ k ∧ k < hi) v xs ∧ base ≤ lo ∧ hi ≤ w.heap.size
section
variable {α : Type} {d : Kd α} {t : Nat} {w w0 w1 : World} {base lo hi : Nat} {v : Value} {xs : List α}
theorem Ob_new (h : Kd.R d t w1 w0.heap.size (fun _ => True) v xs) (hb : base ≤ w0.heap.size) : Ob d t w1 base w0.heap.size w1.heap.size v xs :=
 ⟨Kd.R_lower (Kd.R_mono (Kd.R_bound h) (fun k hk => ⟨hk.2.1, hk.2.2.1⟩)) hb, hb, Nat.le_refl _⟩
theorem Ob_below (h : Ob d t w base lo hi v xs) (hb : Below w.heap.size w w1) : Ob d t w1 base lo hi v xs := ⟨Kd.R_below h.1 hb, h.2.1, Nat.le_trans h.2.2 hb.size⟩
theorem Ob_alloc (h : Ob d t w base lo hi v xs) (o : Obj) : Ob d t (w.alloc o) base lo hi v xs := Ob_below h (below_alloc (Below.refl _ _) o)
theorem Ob_drew (h : Ob d t w base lo hi v xs) : Ob d t w.drew base lo hi v xs := Ob_below h (below_drew (Below.refl _ _))
theorem Ob_drewN (h : Ob d t w base lo hi v xs) (m : Nat) : Ob d t (w.drewN m) base lo hi v xs := Ob_below h (pw_below_drewN (Below.refl _ _) m)
theorem Ob_kept {lo' hi' : Nat} (h : Ob d t w base lo hi v xs) (hk : Kept w w1 (fun k => lo' ≤ k ∧ k < hi')) (ha : hi' ≤ lo ∨ hi ≤ lo') : Ob d t w1 base lo hi v xs :=
 ⟨Kd.R_step h.1 (fun k hk1 hk2 => hk.2 k hk2 (by omega)), h.2.1, Nat.le_trans h.2.2 hk.1⟩
theorem Ob_slice (h : Ob d t w base lo hi v xs) : ∃ A c, v = .slice A xs.length c := Kd.R_slice h.1
theorem Ob_C {A : Option Addr} {n c : Nat} (h : Ob d t w base lo hi (.slice A n c) xs) : n = xs.length ∧ xs.length ≤ c ∧ d.C w A xs.length xs := by
 have h2 := Kd.R_reads' h.1; exact ⟨h2.1, by have := h2.2.1; have := h2.1; omega, h2.2.2⟩
theorem Ob_take {A : Option Addr} {n c m : Nat} (h : Ob d t w base lo hi (.slice A n c) xs) (hm : m ≤ xs.length) : Ob d t w base lo hi (.slice A m c) (xs.take m) := ⟨Kd.R_take h.1 hm, h.2⟩
theorem fullC {A : Option Addr} {c m : Nat} {L M : List α} (h : Ob d t w base lo hi (.slice A L.length c) L) (hM : M = L.take m ∧ m ≤ L.length) : Kd.C d w A M.length M ∧ M.length ≤ c ∧ L.length ≤ c ∧ Kd.C d w A L.length L := by
 obtain ⟨rfl, hm⟩ := hM; have h2 := Kd.R_reads' h.1; exact ⟨Kd.C_take h2.2.2 hm, by rw [List.length_take]; omega, h2.2.1, h2.2.2⟩
theorem fullT {A : Option Addr} {c m : Nat} {L M : List α} (h : Ob d t w base lo hi (.slice A L.length c) L) (hM : M = L.take m ∧ m ≤ L.length) : Ob d t w base lo hi (.slice A M.length c) M := by
 obtain ⟨rfl, hm⟩ := hM; have h2 := Ob_take h hm
 have e : (L.take m).length = m := by rw [List.length_take]; omega
 rw [← e] at h2
 have e2 : L.take (L.take m).length = L.take m := by rw [e]
 rw [e2] at h2; exact h2
end
def I64 (n : Int) : Prop := -9223372036854775808 ≤ n ∧ n ≤ 9223372036854775807
theorem I64_of {n : Int} (h : (Lit.int .i64 n).wf = true) : I64 n := by
 simp only [Lit.wf, Bool.and_eq_true, decide_eq_true_eq] at h
 have h1 : IntKind.i64.min = -9223372036854775808 := by decide
 have h2 : IntKind.i64.max = 9223372036854775807 := by decide
 unfold I64
 omega
theorem one_cell {cs : List Value} {i : Nat} {v : Value} (h : (cs.drop i).take 1 = [v]) : cs[i]? = some v := by
 have h1 : ((cs.drop i).take 1)[0]? = some v := by rw [h]; rfl
 simpa using h1
theorem choose_list {α : Type} {n : Nat} {Q : Nat → α → Prop} (h : ∀ i, i < n → ∃ p, Q i p) : ∃ xs : List α, xs.length = n ∧ ∀ i p, xs[i]? = some p → Q i p := by
 induction n with
 | zero => exact ⟨[], rfl, fun i p hp => by simp at hp⟩
 | succ n ih =>
  obtain ⟨xs, hl, hq⟩ := ih (fun i hi => h i (by omega)); obtain ⟨p, hp⟩ := h n (by omega); refine ⟨xs ++ [p], by simp [hl], fun i q hi => ?_⟩
  rcases Nat.lt_or_ge i xs.length with hlt | hge
  ·rw [List.getElem?_append_left hlt] at hi
   exact hq i q hi
  ·rw [List.getElem?_append_right hge] at hi
   have : i - xs.length = 0 := by
    have := (List.getElem?_eq_some_iff.1 hi).1
    simpa using this
   rw [this] at hi
   have e : p = q := by simpa using hi
   have e2 : i = n := by omega
   rw [e2, ← e]; exact hp
theorem open_rows {α : Type} (d : Kd α) {Pr : α → Prop} {H : Type} {enc : TypeId × Value → H} {P : Program} {W : World} {base : Nat} {sp : Nat → Bool} {held : Bool} {t e : TypeId} {fuel : Nat} {cs : List Value} {x : DataW H × List MemPlace}
  (ht : P.underlying t = some (.slice e)) (hc : P.cellsOf e = d.sz) (hop : ∀ (fuel : Nat) (cs : List Value) (y : DataW H × List MemPlace), DataW.trod enc P W base sp held fuel e cs = some y → ∃ a : α, d.K W a cs ∧ Pr a)
  (h : DataW.trod enc P W base sp held fuel t cs = some x) :
  ∃ (A : Option Addr) (c : Nat) (xs : List α), cs = [.slice A xs.length c] ∧ xs.length ≤ c ∧ c ≤ maxLen ∧ d.C W A xs.length xs ∧ ∀ p ∈ xs, Pr p := by
 rcases DataW.trod_slice ht h with ⟨rfl, _⟩ | ⟨a, len, cap, elems, rest, n, _, rfl, rfl, hb, hl, hm, hlen, hel, _, _⟩
 ·exact ⟨none, 0, [], rfl, Nat.le_refl _, Nat.zero_le _, Kd.C_nil d W, fun p hp => by simp at hp⟩
 ·have each : ∀ i, i < len → ∃ p : α, Pr p ∧ ∃ c : List Value, c.length = d.sz ∧ d.K W p c ∧ ∀ j u, c[j]? = some u → W.cell? (a.add (i * d.sz + j)) = some u := by
   intro i hi; have h1 := hel i hi; rw [List.getElem?_eq_getElem (by omega)] at h1; obtain ⟨c, hcells, ho⟩ := Option.bind_eq_some_iff.1 h1; obtain ⟨p, hK, hp⟩ := hop _ _ _ ho; obtain ⟨_, hcl, hcell⟩ := World.cells?_some hcells; refine ⟨p, hp, c, by rw [hcl, hc], hK, fun j u hj => ?_⟩; have hjl : j < c.length := (List.getElem?_eq_some_iff.1 hj).1; have h2 := hcell j (by omega); rw [hj] at h2
   have e2 : (a.add (i * P.cellsOf e)).add j = a.add (i * d.sz + j) := by rw [hc]; exact Addr.add_add _ _ _
   rw [← e2]; exact h2
  obtain ⟨xs, hxl, hq⟩ := choose_list each; refine ⟨some a, cap, xs, by rw [hxl], by omega, hm, ⟨rfl, by rw [hxl]; simp only [maxLen] at hm; omega, fun _ => ⟨a, rfl, fun j p hj => ?_⟩⟩, fun p hp => ?_⟩
  ·obtain ⟨_, c, h1, h2, h3⟩ := hq j p hj
   exact ⟨c, h1, h2, h3⟩
  ·obtain ⟨i, hi⟩ := List.getElem?_of_mem hp
   exact (hq i p hi).1
section
variable {α : Type} {d : Kd α} {t : Nat} {w w0 w1 : World} {base lo hi : Nat} {v : Value} {xs : List α}
theorem Ob_mk {last : Nat} (h : Kd.R d t w1 w0.heap.size (fun _ => True) v xs) (hb : Below w0.heap.size w0 w1) (hB : base ≤ w0.heap.size) (hl : last ≤ w0.heap.size) :
  ∃ lo hi, Ob d t w1 base lo hi v xs ∧ last ≤ lo ∧ lo ≤ hi ∧ hi ≤ w1.heap.size := ⟨_, _, Ob_new h hB, hl, hb.size, Nat.le_refl _⟩
end
theorem below_le {w w1 : World} (h : Below w.heap.size w w1) : w.heap.size ≤ w1.heap.size := h.size
theorem Ob_hi {α : Type} {d : Kd α} {t : Nat} {w : World} {base lo hi : Nat} {v : Value} {xs : List α} (h : Ob d t w base lo hi v xs) : hi ≤ w.heap.size := h.2.2
theorem Ob_R {α : Type} {d : Kd α} {t : Nat} {w : World} {base lo hi : Nat} {v : Value} {xs : List α} (h : Ob d t w base lo hi v xs) : Kd.R d t w base (fun k => lo ≤ k ∧ k < hi) v xs := h.1
theorem calls_len {P : Program} {f : FuncId} {A : Option Addr} {n m c : Nat} {v : Value} {w : World} {Q : Ending → World → Prop} (h : m = n) (hc : Calls P f #[.slice A m c, v] w Q) : Calls P f #[.slice A n c, v] w Q := h ▸ hc
section
variable {α β γ : Type} {d : Kd α} {d1 : Kd β} {d2 : Kd γ} {t t1 t2 : Nat} {w w0 w1 : World} {base lo hi : Nat} {v v1 v2 : Value} {xs : List α} {ys : List β} {zs : List γ}
theorem Ob_mk3 {last : Nat} (h : Kd.R d t w1 w0.heap.size (fun _ => True) v xs) (h1 : Kd.R d1 t1 w1 w0.heap.size (fun _ => True) v1 ys) (h2 : Kd.R d2 t2 w1 w0.heap.size (fun _ => True) v2 zs) (hb : Below w0.heap.size w0 w1) (hB : base ≤ w0.heap.size) (hl : last ≤ w0.heap.size) :
  ∃ lo hi, Ob d t w1 base lo hi v xs ∧ Ob d1 t1 w1 base lo hi v1 ys ∧ Ob d2 t2 w1 base lo hi v2 zs ∧ last ≤ lo ∧ lo ≤ hi ∧ hi ≤ w1.heap.size := ⟨_, _, Ob_new h hB, Ob_new h1 hB, Ob_new h2 hB, hl, hb.size, Nat.le_refl _⟩
theorem Kept3 {w w' : World} {P : Nat → Prop} (h : Kept w w' (fun k => P k ∨ P k ∨ P k)) : Kept w w' P := ⟨h.1, fun i hi hn => h.2 i hi (fun x => hn (by rcases x with x | x | x <;> exact x))⟩
theorem Ob_set (h : Ob d t w base lo hi v xs) {g j : Nat} (hg : g < lo ∨ hi ≤ g) (u : Value) : Ob d t (w.setCell ⟨g, j, none⟩ u) base lo hi v xs :=
 ⟨Kd.R_far (p := ⟨g, j, none⟩) h.1 (fun k hk => by show k ≠ g; omega) u, h.2.1, Nat.le_trans h.2.2 (Nat.le_of_eq (World.size_setCell _ _ _).symm)⟩
end
theorem start_w {P : Program} {ops : Array Oper} {Q : Exit → Act → World → Prop} {S : World → Prop} {ds : List Nat} {id n : Nat} {a : Act} {w : World} (l : Array Bool) (hm : P.follows .mixedOrders = true) (hn : ops.size = n) (hl : Array.replicate n false = l)
  (h : ∀ w1, Below w.heap.size w w1 → S w1 ∧ (S w1 → wpAnyLast P .any ops Q S ds n l a w1)) : (Code.region id ops true).wp P Q a w :=
 start_ l hm hn hl (h _ (below_drew (Below.refl _ _))).1 (h _ (below_drew (Below.refl _ _))).2
end Go.Proofs.Ytmnnbmdfepogiaa.F
namespace Go.Proofs.Ytmnnbmdfepogiaa.F
open Go.RowKit Go.Proofs.YtmnnbmdfepogiaaW.PrintWords Go.Proofs.YtmnnbmdfepogiaaW.PrintLast Go.Proofs.YtmnnbmdfepogiaaW.PrintMore
attribute [local go_sem] max2_int min2_int max_two min_two max_three min_three max_four min_four
set_option linter.unusedVariables false
set_option linter.unusedSimpArgs false
def laws_roomBehind.f (a0 : Int) : Option (Int) := if (Int.tmod a0 6) = 5 then (some 0) else (if (Int.tmod a0 3) = 0 then (some 1) else (some a0))
set_option maxHeartbeats 8000000 in
set_option maxRecDepth 100000 in
theorem laws_roomBehind.calls (a0 : Int) (r : Int) (w : World) (h : laws_roomBehind.f a0 = some r) :
  Calls Try.prog 84 #[.int .i64 a0] w fun e w' => e = .returned (.int .i64 r) ∧ Drawn0 w w' := by
 have H : (if (Int.tmod a0 6) = 5 then (some 0) else (if (Int.tmod a0 3) = 0 then (some 1) else (some a0))) = some r := h; clear h
 by_cases c2 : (Int.tmod a0 6) = 5
 ·rw [if_pos c2] at H
  have c2b0 := beq_iff_eq.mpr c2; have c2b1 := bne_eq_false_iff_eq.mpr c2; clear c2; obtain rfl := Option.some.inj H
  go_enter Try.func84, Try.ntmps84
  go_wp2
  go_ret
  exact ⟨Za, Zb⟩
 ·rw [if_neg c2] at H
  have c2b0 := beq_eq_false_iff_ne.mpr c2; have c2b1 := bne_iff_ne.mpr c2
  by_cases c3 : (Int.tmod a0 3) = 0
  ·rw [if_pos c3] at H
   have c3b0 := beq_iff_eq.mpr c3; have c3b1 := bne_eq_false_iff_eq.mpr c3; clear c3; obtain rfl := Option.some.inj H
   go_enter Try.func84, Try.ntmps84
   go_wp2
   go_ret
   exact ⟨Za, Zb⟩
  ·rw [if_neg c3] at H
   have c3b0 := beq_eq_false_iff_ne.mpr c3; have c3b1 := bne_iff_ne.mpr c3; obtain rfl := Option.some.inj H
   go_enter Try.func84, Try.ntmps84
   go_wp2
   go_ret
   exact ⟨Za, Zb⟩
def laws_szBarS.f (l0 : List (S106)) (a1 : Int) : Option (Int) := if (wrap64 (a1 - (l0.length : Int))) < 0 then (some (-1)) else (some (wrap64 (a1 - (l0.length : Int))))
set_option maxHeartbeats 8000000 in
set_option maxRecDepth 100000 in
theorem laws_szBarS.calls (A0 : Option Addr) (c0 : Nat) (l0 : List (S106)) (a1 : Int) (r : Int) (w : World) (hr0 : Kd.C k106 w A0 l0.length l0) (hc0 : l0.length ≤ c0) (h : laws_szBarS.f l0 a1 = some r) :
  Calls Try.prog 40 #[.slice A0 l0.length c0, .int .i64 a1] w fun e w' => e = .returned (.int .i64 r) ∧ Drawn0 w w' := by
 have HR0 := am_ hr0; have HC0 := am_ hc0; clear hr0 hc0; have H : (if (wrap64 (a1 - (l0.length : Int))) < 0 then (some (-1)) else (some (wrap64 (a1 - (l0.length : Int))))) = some r := h; clear h
 by_cases c3 : (wrap64 (a1 - (l0.length : Int))) < 0
 ·rw [if_pos c3] at H
  have c3b0 := decide_eq_true c3; clear c3; obtain rfl := Option.some.inj H
  go_enter Try.func40, Try.ntmps40
  go_wp2
  go_ret
  exact ⟨Za, Zb⟩
 ·rw [if_neg c3] at H
  have c3b0 := decide_eq_false c3; clear c3; obtain rfl := Option.some.inj H
  go_enter Try.func40, Try.ntmps40
  go_wp2
  go_ret
  exact ⟨Za, Zb⟩
 /-! ### laws_toBar: function 85 -/
def laws_toBar.f (a0_0 : Int) (a0_1 : Int) : Option (Int × Int) := some (a0_0, a0_1)
set_option maxHeartbeats 8000000 in
set_option maxRecDepth 100000 in
theorem laws_toBar.calls (a0_0 : Int) (a0_1 : Int) (r1 : Int) (r2 : Int) (w : World) (h : laws_toBar.f a0_0 a0_1 = some (r1, r2)) :
  Calls Try.prog 85 #[.agg #[.int .i64 a0_0, .int .i64 a0_1]] w fun e w' => e = .returned (.agg #[.int .i64 r1, .int .i64 r2]) ∧ Below w.heap.size w w' := by
 have hu106 := Try.underlying106; have hu104 := Try.underlying104; have HB := am_ (Below.refl w.heap.size w); have H : (some (a0_0, a0_1)) = some (r1, r2) := h; clear h; simp only [Option.some.injEq, Prod.mk.injEq] at H; obtain ⟨rfl, rfl⟩ := H
 go_enter Try.func85, Try.ntmps85
 go_wp2_with (first | ((with_reducible refine gate_dst (N := 1) rfl ?_); refine boxZ 1 #[.int .i64 a0_0, .int .i64 a0_1] 106 ?_; intro gb1066 hg w2 hbox hb; replace BK1066 := am_ (hbox); replace GW1066 := am_ ((Zc : w.heap.size ≤ gb1066)); replace GE1066 := GW1066; replace HB := (bsZ Zd hb); clear hb hbox hg) | ((with_reducible refine gate_dst (N := 2) rfl ?_); refine boxZ 2 #[.int .i64 0, .int .i64 0] 104 ?_; intro gb1067 hg w3 hbox hb; replace BK1067 := am_ (hbox); replace GW1067 := am_ (((Ze GE1066) : w.heap.size ≤ gb1067)); replace GE1067 := GW1067; replace HB := (bsZ (Zf GE1066) hb); replace NB1066_1067 := am_ ((by rw [hg]; exact Nat.ne_of_lt (blk_lt (g := gb1066) (b0Z BK1066)) : gb1066 ≠ gb1067)); replace NB1067_1066 := am_ ((by rw [hg]; exact Nat.ne_of_gt (blk_lt (g := gb1066) (b0Z BK1066)) : gb1067 ≠ gb1066)); replace BK1066 := (bkZ BK1066 hb); clear hb hbox hg) | ((with_reducible refine gate_dst (N := 3) rfl ?_); refine boxZ 3 #[.int .i64 0, .int .i64 0] 104 ?_; intro gb1068 hg w4 hbox hb; replace BK1068 := am_ (hbox); replace GW1068 := am_ (((Zg GE1066 GE1067) : w.heap.size ≤ gb1068)); replace GE1068 := GW1068; replace HB := (bsZ (Zh GE1066 GE1067) hb); replace NB1066_1068 := am_ ((by rw [hg]; exact Nat.ne_of_lt (blk_lt (g := gb1066) (b0Z BK1066)) : gb1066 ≠ gb1068)); replace NB1068_1066 := am_ ((by rw [hg]; exact Nat.ne_of_gt (blk_lt (g := gb1066) (b0Z BK1066)) : gb1068 ≠ gb1066)); replace BK1066 := (bkZ BK1066 hb); replace NB1067_1068 := am_ ((by rw [hg]; exact Nat.ne_of_lt (blk_lt (g := gb1067) (b0Z BK1067)) : gb1067 ≠ gb1068)); replace NB1068_1067 := am_ ((by rw [hg]; exact Nat.ne_of_gt (blk_lt (g := gb1067) (b0Z BK1067)) : gb1068 ≠ gb1067)); replace BK1067 := (bkZ BK1067 hb); clear hb hbox hg; have hnb5 := NB1066_1067.out; have hnc5 := NB1067_1066.out; have hnb6 := NB1066_1068.out; have hnc6 := NB1068_1066.out; refine ci2 BK1066 ?_; intros; have hnb8 := NB1068_1067.out; have hnc8 := NB1067_1068.out; refine ci2 BK1068 ?_; intros; refine ci2 BK1067 ?_; intros))
 refine bodyPost_ret (results_cell_row rfl _ _ gb1067 104 #[.int .i64 a0_0, .int .i64 a0_1] (0, 0) _ rfl (bmZ BK1067 NB1067_1068) Try.underlying104 rfl Zi) rfl ?_; exact ⟨Zj, (Zk GE1066 GE1067 GE1068)⟩
 /-! ### laws_fillerBar: function 86 -/
def laws_fillerBar.f  : Option (Int × Int) := some ((-7000000000000000101), (-7000000000000000101))
set_option maxHeartbeats 8000000 in
set_option maxRecDepth 100000 in
theorem laws_fillerBar.calls  (r1 : Int) (r2 : Int) (w : World) (h : laws_fillerBar.f  = some (r1, r2)) :
  Calls Try.prog 86 #[] w fun e w' => e = .returned (.agg #[.int .i64 r1, .int .i64 r2]) ∧ Below w.heap.size w w' := by
 have hu104 := Try.underlying104; have HB := am_ (Below.refl w.heap.size w); have H : (some ((-7000000000000000101), (-7000000000000000101))) = some (r1, r2) := h; clear h; simp only [Option.some.injEq, Prod.mk.injEq] at H; obtain ⟨rfl, rfl⟩ := H
 go_enter Try.func86, Try.ntmps86
 go_wp2_with (first | ((with_reducible refine gate_dst (N := 0) rfl ?_); refine boxZ 0 #[.int .i64 0, .int .i64 0] 104 ?_; intro gb1069 hg w1 hbox hb; replace BK1069 := am_ (hbox); replace GW1069 := am_ ((Zc : w.heap.size ≤ gb1069)); replace GE1069 := GW1069; replace HB := (bsZ Zd hb); clear hb hbox hg; refine ci2 BK1069 ?_; intros))
 refine bodyPost_ret (results_cell_row rfl _ _ gb1069 104 #[.int .i64 (-7000000000000000101), .int .i64 (-7000000000000000101)] (0, 0) _ rfl (bpZ BK1069) Try.underlying104 rfl Zi) rfl ?_; exact ⟨Zj, (Zf GE1069)⟩
 /-! ### laws_toBarS: function 46 -/
 mutual
def laws_toBarS.j0 : Nat → List (S106) → Bool → Option ((List (S104)))
 | 0, _, _ => none
 | k + 1, x0, x13 => if x13 = true then (some ([] : List (S104))) else ((laws_roomBehind.f (x0.length : Int)).bind fun t1070 => (if 0 ≤ (wrap64 ((x0.length : Int) + t1070)) then (if (wrap64 ((x0.length : Int) + t1070) : Int).toNat ≤ 17592186044416 then (laws_toBarS.l0 k x0 (List.replicate (wrap64 ((x0.length : Int) + t1070) : Int).toNat z104) 0) else (none)) else (none)))
def laws_toBarS.l0 : Nat → List (S106) → List (S104) → Int → Option ((List (S104)))
 | 0, _, _, _ => none
 | k + 1, x0, x5, x6 => if x6 < (x0.length : Int) then (if 0 ≤ x6 then ((laws_toBar.f ((rd_T106 x0 x6).f0) ((rd_T106 x0 x6).f1)).bind fun bt1075 => (if x6 < (x5.length : Int) then (laws_toBarS.l0 k x0 (x5.set (x6 : Int).toNat (⟨bt1075.1, bt1075.2⟩ : S104)) (wrap64 (x6 + 1))) else (none))) else (none)) else (laws_toBarS.l1 k x0 x5 (x0.length : Int))
def laws_toBarS.l1 : Nat → List (S106) → List (S104) → Int → Option ((List (S104)))
 | 0, _, _, _ => none
 | k + 1, x0, x5, x7 => if x7 < (x5.length : Int) then ((laws_fillerBar.f).bind fun bt1078 => (if 0 ≤ x7 then (laws_toBarS.l1 k x0 (x5.set (x7 : Int).toNat (⟨bt1078.1, bt1078.2⟩ : S104)) (wrap64 (x7 + 1))) else (none))) else (if 0 ≤ (x0.length : Int) then (if (x0.length : Int) ≤ (x5.length : Int) then (some (x5.take ((x0.length : Int) : Int).toNat)) else (none)) else (none))
end
def laws_toBarS.f (k : Nat) (l0 : List (S106)) (a1 : Bool) : Option ((List (S104))) := if a1 = true then (laws_toBarS.j0 k l0 ((l0.length : Int) == 0)) else (laws_toBarS.j0 k l0 false)
set_option maxHeartbeats 8000000 in
set_option maxRecDepth 100000 in
theorem laws_toBarS.calls (k : Nat) (A0 : Option Addr) (c0 : Nat) (l0 : List (S106)) (a1 : Bool) (r : List (S104)) (w : World) (hr0 : Kd.C k106 w A0 l0.length l0) (hc0 : l0.length ≤ c0) (h : laws_toBarS.f k l0 a1 = some r) :
  Calls Try.prog 46 #[.slice A0 l0.length c0, .bool a1] w fun e w' => ∃ v0_ : Value, e = .returned (v0_) ∧ Kd.R k104 104 w' w.heap.size (fun _ => True) v0_ r ∧ Below w.heap.size w w' := by
 have hu106 := Try.underlying106; have hu104 := Try.underlying104; have HR0 := am_ hr0; have HC0 := am_ hc0; clear hr0 hc0; have HB := am_ (Below.refl w.heap.size w); have H : (if a1 = true then (laws_toBarS.j0 k l0 ((l0.length : Int) == 0)) else (laws_toBarS.j0 k l0 false)) = some r := h; clear h; have HC3 := am_ H; clear H
 go_enter Try.func46, Try.ntmps46
 go_upto_region 1 with (fail)
 go_cut [13] (fun v13 wc => ∃ (kq : Nat) (x13_2 : Bool), v13 = .bool x13_2 ∧ Aside0 (laws_toBarS.j0 kq l0 x13_2 = some r) ∧ Aside0 (kq ≤ k) ∧ Aside0 (Below w.heap.size w wc))
 case first =>
  have H := HC3.out; clear HC3
  by_cases c4 : a1 = true
  ·subst c4
   rw [if_pos rfl] at H; have H' := am_ H; clear H
   go_wp2
   go_meet
   case rel => exact ⟨_, (((l0.length : Int) == 0)), Za, H', ⟨Zl⟩, ⟨Zd⟩⟩
  ·replace c4 := Bool.eq_false_iff.mpr c4
   subst c4; rw [if_neg (show ¬ (false = true) by decide)] at H; have H' := am_ H; clear H
   go_wp2
   go_meet
   case rel => exact ⟨_, (false), Za, H', ⟨Zl⟩, ⟨Zd⟩⟩
 case rest =>
  clear HC3
  try clear p2
  try clear c4
  obtain ⟨kq, x13_2, rfl, HA, HJ2, HB⟩ := hcut
  cases kq with
  | zero => exact absurd HA.out (by simp [laws_toBarS.j0])
  | succ kj2 =>
   have H := HA.out; clear HA; simp only [laws_toBarS.j0] at H
   by_cases c5 : x13_2 = true
   ·subst c5
    rw [if_pos rfl] at H; obtain rfl := Option.some.inj H
    go_wp2
    go_ret
    exact ⟨_, Zj, Zm, Zd⟩
   ·replace c5 := Bool.eq_false_iff.mpr c5
    subst c5; rw [if_neg (show ¬ (false = true) by decide)] at H; replace H := Option.bind_eq_some_iff.mp H; obtain ⟨t1070, A60, H⟩ := H; have A6 := am_ A60; clear A60; obtain ⟨ji7, hji7⟩ : ∃ j_ : Int, (wrap64 ((l0.length : Int) + t1070)) = j_ := ⟨_, rfl⟩
    replace H : (if 0 ≤ (ji7) then (if (ji7 : Int).toNat ≤ 17592186044416 then (laws_toBarS.l0 kj2 l0 (List.replicate (ji7 : Int).toNat z104) 0) else (none)) else (none)) = some r := by first | (rw [hji7] at H; exact H) | (simp only [hji7] at H ⊢; exact H)
    (try rw [hji7] at A6)
    have hji7w : (IntKind.i64.wrap ((l0.length : Int) + t1070)) = ji7 := (i64_w _).trans hji7
    by_cases c8 : 0 ≤ (ji7)
    ·rw [if_pos c8] at H
     have c8b0 := eq_true c8; have c8b1 := decide_eq_true c8; clear c8
     by_cases c9 : (ji7 : Int).toNat ≤ 17592186044416
     ·rw [if_pos c9] at H
      have c9b0 := eq_true c9; have c9b1 := decide_eq_true c9; clear c9; obtain ⟨y1071, hy1071⟩ : ∃ y_ : List (S104), y_ = (List.replicate (ji7 : Int).toNat z104) := ⟨_, rfl⟩
      (first | (rw [← hy1071] at H; with_reducible replace H := bindZ H) | rw [← hy1071] at H | skip)
      have Ny1071 := am_ hy1071; clear hy1071; have H' := am_ H; clear H
      go_wp2_with (first | ((with_reducible refine gate_callee (f := 84) rfl ?_); refine gZ 18 Try.func84 #[.int .i64 (l0.length : Int)] ?_; (with_reducible refine (laws_roomBehind.calls (l0.length : Int) t1070 _ A6.out).mono ?_); rintro e w' ⟨rfl, ⟨nd, rfl⟩⟩; refine ⟨_, rfl, ?_⟩) | ((with_reducible refine gate_dst (N := 20) rfl ?_); (try (refine gate_guard (by rfl) ?_; dsimp only)); refine Kd.R_make k104 _ 104 rfl (N := 20) rfl 31 _ _ rfl ji7 rfl rfl Try.underlying31 (.agg #[(.int .i64 0), (.int .i64 0)]) 16 info104 rfl (by decide) (by omega) z104 (ok := fun _ => True) (okp := fun _ => True) (k104_mkM _ _ _ z104 ) (fun _ hk => hk) trivial (of_decide_eq_true Zn) (Nat.le_trans (Nat.mul_le_mul_right _ (of_decide_eq_true Zn : ji7.toNat ≤ 17592186044416)) (by omega)) (Below.refl _ _) (Nat.le_refl _) ?_; intro v1072 w10 ho11 hb hg_ hnew_; clear hg_ hnew_; (first | rw [← Ny1071.out] at ho11 | (simp only [Int.reduceToNat] at ho11; rw [← Ny1071.out] at ho11)); replace HO1073 := am_ (Kd.R_lower ho11 (below_size Zd)); replace HB := (bsZ Zd hb); clear hb ho11))
      go_loopg [6] kj2 (fun kq v6 w' => ∃ (x5_2 : List (S104)) (x6_2 : Int), v6 = .int .i64 x6_2 ∧ Aside0 (laws_toBarS.l0 kq l0 x5_2 x6_2 = some r) ∧ Aside0 (kq ≤ kj2) ∧ Aside0 (Kd.R k104 104 w' w.heap.size (fun _ => True) v1072 x5_2) ∧ Aside0 (Below w.heap.size w w'))
      case atStart => exact ⟨(y1071), (0), Za, H', ⟨Nat.le_refl _⟩, ⟨(Zo HO1073)⟩, ⟨Zd⟩⟩
      case round =>
       clear H'
       try clear p2
       try clear c4
       try clear c5
       try clear p6
       try clear c8
       try clear c8b0
       try clear c8b1
       try clear c9
       try clear c9b0
       try clear c9b1
       try clear p2
       obtain ⟨x5_2, x6_2, rfl, HA, HK2, HO_5, HB⟩ := hrel
       cases gk with
       | zero => exact absurd HA.out (by simp [laws_toBarS.l0])
       | succ k2 =>
        have H := HA.out; clear HA; simp only [laws_toBarS.l0] at H
        by_cases c12 : x6_2 < (l0.length : Int)
        ·rw [if_pos c12] at H
         have c12b0 := decide_eq_true c12; clear c12
         by_cases c13 : 0 ≤ x6_2
         ·rw [if_pos c13] at H
          have c13b0 := decide_eq_true c13; clear c13; replace H := Option.bind_eq_some_iff.mp H; obtain ⟨⟨t1075, t1076⟩, A140, H⟩ := H
          dsimp only at H
          have A14 := am_ A140; clear A140
          by_cases c15 : x6_2 < (x5_2.length : Int)
          ·rw [if_pos c15] at H
           have c15b0 := decide_eq_true c15; clear c15; obtain ⟨y1077, hy1077⟩ : ∃ y_ : List (S104), y_ = (x5_2.set (x6_2 : Int).toNat (⟨t1075, t1076⟩ : S104)) := ⟨_, rfl⟩
           (first | (rw [← hy1077] at H; with_reducible replace H := bindZ H) | rw [← hy1077] at H | skip)
           have Ny1077 := am_ hy1077; clear hy1077; have H' := am_ H; clear H; have p1074 : 0 ≤ (x6_2 : Int) := of_decide_eq_true Zn; have q1074 : x6_2 < (l0.length : Int) := of_decide_eq_true Zn; obtain ⟨ad1074, e1074, hx1074_0, hx1074_1⟩ := at_T106 HR0.out x6_2 p1074 q1074
           cases e1074
           replace hx1074_0 := cbH HB hx1074_0; replace hx1074_1 := cbH HB hx1074_1; replace p1074 := eq_true p1074; replace q1074 := eq_true q1074
           go_wp2_with (first | ((with_reducible refine gate_callee (f := 85) rfl ?_); refine gZ 33 Try.func85 #[.agg #[.int .i64 ((rd_T106 l0 x6_2).f0), .int .i64 ((rd_T106 l0 x6_2).f1)]] ?_; (with_reducible refine (laws_toBar.calls ((rd_T106 l0 x6_2).f0) ((rd_T106 l0 x6_2).f1) t1075 t1076 _ A14.out).mono ?_); rintro e w17 ⟨rfl, hb⟩; refine ⟨_, rfl, ?_⟩; replace HO_5 := (hbZ HO_5 hb); replace HB := (bsZ Zd hb); clear hb; have p16 : 0 ≤ (x6_2 : Int) := of_decide_eq_true Zn; have q16 : (x6_2 : Int) < ((x5_2.length : Int) : Int) := of_decide_eq_true Zn; obtain ⟨go16, co16, eo16, gb16, gl16, cl16, HG16⟩ := Kd.R_form HO_5.out (by omega); (first | cases eo16 | (injection eo16 with ea_ en_ ec_; (first | subst ea_ | (injection ea_ with ea_; subst ea_)); subst ec_; clear en_)); have GB16 := am_ gb16; have GG16 := am_ HG16; clear gb16 gl16 HG16; obtain ⟨ce16, hcl16, hM16, hcc16, hfr16⟩ := Kd.R_elem HO_5.out z104 (x6_2 : Int) p16 q16; obtain rfl := k104_openM hM16; have hx16_0 : w17.cell? ⟨go16, (x6_2 : Int).toNat * 2, none⟩ = some (.int .i64 ((rd_T104 x5_2 x6_2).f0)) := hcc16 0 _ rfl; have hx16_1 : w17.cell? ⟨go16, (x6_2 : Int).toNat * 2 + 1, none⟩ = some (.int .i64 ((rd_T104 x5_2 x6_2).f1)) := hcc16 1 _ rfl; have hf16_0 : w17.frozen? ⟨go16, (x6_2 : Int).toNat * 2, none⟩ = false := hfr16 0; have hf16_1 := hfr16 1; clear hcl16 hcc16 hfr16 hM16; replace p16 := eq_true p16; replace q16 := eq_true q16; have HX18 := am_ (show Kd.R k104 104 w17 w.heap.size (fun _ => True) (.slice (some ⟨go16, 0, none⟩) x5_2.length co16) x5_2 from (Zo HO_5)); obtain ⟨ce18, hcl18, hM18, hcc18, hfr18⟩ := Kd.R_elem HX18.out z104 (x6_2 : Int) (of_decide_eq_true Zn) (by have h_ : (x6_2 : Int) < ((x5_2.length : Int) : Int) := of_decide_eq_true Zn; first | exact h_ | (have e_ := (Kd.R_reads' HO_5.out).1; omega) | simpa using h_); obtain rfl := k104_openM hM18; have HP18 := Kd.R_seg HX18.out (x6_2 : Int) (of_decide_eq_true Zn) (by have h_ : (x6_2 : Int) < ((x5_2.length : Int) : Int) := of_decide_eq_true Zn; first | exact h_ | (have e_ := (Kd.R_reads' HO_5.out).1; omega) | simpa using h_) (seg := [.int .i64 t1075, .int .i64 t1076]) (j := 0) hcl18 hcc18 (show 2 ≤ 2 from (by decide)) (x' := (⟨t1075, t1076⟩ : S104)) (k104_mkM _ _ _ (⟨t1075, t1076⟩ : S104) ) (fun _ hk => hk); have hx18_0 := hcc18 0 _ rfl; (try simp only [show (k104).sz = 2 from rfl, Nat.mul_one, Nat.add_zero] at hx18_0); have hf18_0 := hfr18 0; (try simp only [show (k104).sz = 2 from rfl, Nat.mul_one, Nat.add_zero] at hf18_0); have hx18_1 := hcc18 1 _ rfl; (try simp only [show (k104).sz = 2 from rfl, Nat.mul_one, Nat.add_zero] at hx18_1); have hf18_1 := hfr18 1; (try simp only [show (k104).sz = 2 from rfl, Nat.mul_one, Nat.add_zero] at hf18_1); clear hcl18 hcc18 hfr18 hM18) | ((with_reducible refine gate_store (t := 104) (p := 34) rfl ?_); refine store_event (t := 104) (p := 34) (v := ?vo_w19) (w1 := ((w17.setCell ⟨go16, (x6_2 : Int).toNat * 2, none⟩ (.int .i64 t1075)).setCell ⟨go16, (x6_2 : Int).toNat * 2 + 1, none⟩ (.int .i64 t1076))) ?hg ?ho ?hn ?hr ?_; (case ho => rfl); (case hg => rfl); (case hn => rfl); (case hr => first | (go_simp; done) | (go_simp; rfl)); intro w19 hw; have hg : w17.grownBy w19 (some go16) := (by rw [hw]; exact HP18.2); have hp_ : Kd.R k104 104 w19 w.heap.size (fun _ => True) (.slice (some ⟨go16, 0, none⟩) x5_2.length co16) y1077 := (by rw [hw, Ny1077.out]; exact HP18.1); clear HP18; replace HO_5 := am_ (hp_); replace HB := am_ ((by rw [hw]; exact below_set (below_set (HB.out) GB16.out) GB16.out : Below w.heap.size w w19)); clear hg hw hp_))
           go_roundg k2
           case measure => have := HJ2.out; have := HK2.out; omega
           case rel => exact ⟨(y1077), (wrap64 (x6_2 + 1)), Za, H', ⟨by have := HJ2.out; have := HK2.out; omega⟩, ⟨(Zo HO_5)⟩, ⟨Zd⟩⟩
          ·rw [if_neg c15] at H
           exact absurd H (by simp)
         ·rw [if_neg c13] at H
          exact absurd H (by simp)
        ·rw [if_neg c12] at H
         have c12b0 := decide_eq_false c12; clear c12; have H' := am_ H; clear H
         go_wp2
         go_loopg [7] k2 (fun kq v7 w' => ∃ (x5_3 : List (S104)) (x7_3 : Int), v7 = .int .i64 x7_3 ∧ Aside0 (laws_toBarS.l1 kq l0 x5_3 x7_3 = some r) ∧ Aside0 (kq ≤ k2) ∧ Aside0 (Kd.R k104 104 w' w.heap.size (fun _ => True) v1072 x5_3) ∧ Aside0 (Below w.heap.size w w'))
         case atStart => exact ⟨(x5_2), ((l0.length : Int)), Za, H', ⟨Nat.le_refl _⟩, ⟨(Zo HO_5)⟩, ⟨Zd⟩⟩
         case round =>
          clear H'
          try clear c1
          try clear p1
          try clear q1
          try clear hx1
          try clear p2
          try clear c4
          try clear c5
          try clear p6
          try clear c8
          try clear c8b0
          try clear c8b1
          try clear c9
          try clear c9b0
          try clear c9b1
          try clear p10
          try clear q10
          try clear hx10
          try clear c12
          try clear c12b0
          try clear c13
          try clear c13b0
          try clear c15
          try clear c15b0
          try clear c16
          try clear p16
          try clear q16
          try clear hx16
          try clear hf16
          try clear c18
          try clear hx18
          try clear hf18
          try clear hx1074_0
          try clear hx1074_1
          try clear hx16_0
          try clear hx16_1
          try clear hx18_0
          try clear hx18_1
          try clear p1074
          try clear p16
          try clear p2
          try clear p6
          try clear q1074
          try clear q16
          obtain ⟨x5_3, x7_3, rfl, HA, HK3, HO_5, HB⟩ := hrel
          cases gk with
          | zero => exact absurd HA.out (by simp [laws_toBarS.l1])
          | succ k3 =>
           have H := HA.out; clear HA; simp only [laws_toBarS.l1] at H
           by_cases c20 : x7_3 < (x5_3.length : Int)
           ·rw [if_pos c20] at H
            have c20b0 := decide_eq_true c20; clear c20; replace H := Option.bind_eq_some_iff.mp H; obtain ⟨⟨t1078, t1079⟩, A210, H⟩ := H
            dsimp only at H
            have A21 := am_ A210; clear A210
            by_cases c22 : 0 ≤ x7_3
            ·rw [if_pos c22] at H
             have c22b0 := decide_eq_true c22; clear c22; obtain ⟨y1080, hy1080⟩ : ∃ y_ : List (S104), y_ = (x5_3.set (x7_3 : Int).toNat (⟨t1078, t1079⟩ : S104)) := ⟨_, rfl⟩
             (first | (rw [← hy1080] at H; with_reducible replace H := bindZ H) | rw [← hy1080] at H | skip)
             have Ny1080 := am_ hy1080; clear hy1080; have H' := am_ H; clear H; obtain ⟨Ao24, co24, eo24⟩ := Kd.R_slice HO_5.out; subst eo24
             go_wp2_with (first | ((with_reducible refine gate_callee (f := 86) rfl ?_); refine gZ 45 Try.func86 #[] ?_; (with_reducible refine (laws_fillerBar.calls  t1078 t1079 _ A21.out).mono ?_); rintro e w25 ⟨rfl, hb⟩; refine ⟨_, rfl, ?_⟩; replace HO_5 := (hbZ HO_5 hb); replace HB := (bsZ Zd hb); clear hb; have p23 : 0 ≤ (x7_3 : Int) := of_decide_eq_true Zn; have q23 : (x7_3 : Int) < ((x5_3.length : Int) : Int) := of_decide_eq_true Zn; obtain ⟨go23, co23, eo23, gb23, gl23, cl23, HG23⟩ := Kd.R_form HO_5.out (by omega); (first | cases eo23 | (injection eo23 with ea_ en_ ec_; (first | subst ea_ | (injection ea_ with ea_; subst ea_)); subst ec_; clear en_)); have GB23 := am_ gb23; have GG23 := am_ HG23; clear gb23 gl23 HG23; obtain ⟨ce23, hcl23, hM23, hcc23, hfr23⟩ := Kd.R_elem HO_5.out z104 (x7_3 : Int) p23 q23; obtain rfl := k104_openM hM23; have hx23_0 : w25.cell? ⟨go23, (x7_3 : Int).toNat * 2, none⟩ = some (.int .i64 ((rd_T104 x5_3 x7_3).f0)) := hcc23 0 _ rfl; have hx23_1 : w25.cell? ⟨go23, (x7_3 : Int).toNat * 2 + 1, none⟩ = some (.int .i64 ((rd_T104 x5_3 x7_3).f1)) := hcc23 1 _ rfl; have hf23_0 : w25.frozen? ⟨go23, (x7_3 : Int).toNat * 2, none⟩ = false := hfr23 0; have hf23_1 := hfr23 1; clear hcl23 hcc23 hfr23 hM23; replace p23 := eq_true p23; replace q23 := eq_true q23; have HX26 := am_ (show Kd.R k104 104 w25 w.heap.size (fun _ => True) (.slice (some ⟨go23, 0, none⟩) x5_3.length co24) x5_3 from (Zo HO_5)); obtain ⟨ce26, hcl26, hM26, hcc26, hfr26⟩ := Kd.R_elem HX26.out z104 (x7_3 : Int) (of_decide_eq_true Zn) (by have h_ : (x7_3 : Int) < ((x5_3.length : Int) : Int) := of_decide_eq_true Zn; first | exact h_ | (have e_ := (Kd.R_reads' HO_5.out).1; omega) | simpa using h_); obtain rfl := k104_openM hM26; have HP26 := Kd.R_seg HX26.out (x7_3 : Int) (of_decide_eq_true Zn) (by have h_ : (x7_3 : Int) < ((x5_3.length : Int) : Int) := of_decide_eq_true Zn; first | exact h_ | (have e_ := (Kd.R_reads' HO_5.out).1; omega) | simpa using h_) (seg := [.int .i64 t1078, .int .i64 t1079]) (j := 0) hcl26 hcc26 (show 2 ≤ 2 from (by decide)) (x' := (⟨t1078, t1079⟩ : S104)) (k104_mkM _ _ _ (⟨t1078, t1079⟩ : S104) ) (fun _ hk => hk); have hx26_0 := hcc26 0 _ rfl; (try simp only [show (k104).sz = 2 from rfl, Nat.mul_one, Nat.add_zero] at hx26_0); have hf26_0 := hfr26 0; (try simp only [show (k104).sz = 2 from rfl, Nat.mul_one, Nat.add_zero] at hf26_0); have hx26_1 := hcc26 1 _ rfl; (try simp only [show (k104).sz = 2 from rfl, Nat.mul_one, Nat.add_zero] at hx26_1); have hf26_1 := hfr26 1; (try simp only [show (k104).sz = 2 from rfl, Nat.mul_one, Nat.add_zero] at hf26_1); clear hcl26 hcc26 hfr26 hM26) | ((with_reducible refine gate_store (t := 104) (p := 46) rfl ?_); refine store_event (t := 104) (p := 46) (v := ?vo_w27) (w1 := ((w25.setCell ⟨go23, (x7_3 : Int).toNat * 2, none⟩ (.int .i64 t1078)).setCell ⟨go23, (x7_3 : Int).toNat * 2 + 1, none⟩ (.int .i64 t1079))) ?hg ?ho ?hn ?hr ?_; (case ho => rfl); (case hg => rfl); (case hn => rfl); (case hr => first | (go_simp; done) | (go_simp; rfl)); intro w27 hw; have hg : w25.grownBy w27 (some go23) := (by rw [hw]; exact HP26.2); have hp_ : Kd.R k104 104 w27 w.heap.size (fun _ => True) (.slice (some ⟨go23, 0, none⟩) x5_3.length co24) y1080 := (by rw [hw, Ny1080.out]; exact HP26.1); clear HP26; replace HO_5 := am_ (hp_); replace HB := am_ ((by rw [hw]; exact below_set (below_set (HB.out) GB23.out) GB23.out : Below w.heap.size w w27)); clear hg hw hp_))
             go_roundg k3
             case measure => have := HJ2.out; have := HK2.out; have := HK3.out; omega
             case rel => exact ⟨(y1080), (wrap64 (x7_3 + 1)), Za, H', ⟨Zp⟩, ⟨(Zo HO_5)⟩, ⟨Zd⟩⟩
            ·rw [if_neg c22] at H
             exact absurd H (by simp)
           ·rw [if_neg c20] at H
            have c20b0 := decide_eq_false c20; clear c20
            by_cases c28 : 0 ≤ (l0.length : Int)
            ·rw [if_pos c28] at H
             have c28b0 := eq_true c28; have c28b1 := decide_eq_true c28; clear c28
             by_cases c29 : (l0.length : Int) ≤ (x5_3.length : Int)
             ·rw [if_pos c29] at H
              have c29b0 := eq_true c29; have c29b1 := decide_eq_true c29; clear c29; obtain ⟨y1081, hy1081⟩ : ∃ y_ : List (S104), y_ = (x5_3.take ((l0.length : Int) : Int).toNat) := ⟨_, rfl⟩
              (first | (rw [← hy1081] at H; with_reducible replace H := bindZ H) | rw [← hy1081] at H | skip)
              have Ny1081 := am_ hy1081; clear hy1081; obtain rfl := Option.some.inj H; obtain ⟨Ao30, co30, eo30⟩ := Kd.R_slice HO_5.out; subst eo30; have q31 : ((l0.length : Int) : Int) ≤ ((x5_3.length : Int) : Int) := of_decide_eq_true Zn; obtain ⟨i031, hi031, _, hsz31, _⟩ := info_parts info104; have hcut31 := cut_to (P := Try.prog) 31 104 .i64 Try.underlying31 hi031 Ao30 x5_3.length co30 (l0.length : Int) (of_decide_eq_true Zn) q31 (Kd.R_reads' HO_5.out).2.1; have hr31 := Kd.R_take (m := ((l0.length : Int) : Int).toNat) HO_5.out (by omega); have hy31 : y1081.length = ((l0.length : Int) : Int).toNat := (by rw [Ny1081.out, List.length_take]; omega); rw [← Ny1081.out] at hr31; rw [← hy31] at hr31 hcut31; clear hy31 hi031 hsz31 HO_5; have HO1083 := am_ hr31; clear hr31; replace q31 := eq_true q31
              go_wp2
              go_ret
              exact ⟨_, Zq, (Zo HO1083), Zd⟩
             ·rw [if_neg c29] at H
              exact absurd H (by simp)
            ·rw [if_neg c28] at H
             exact absurd H (by simp)
     ·rw [if_neg c9] at H
      exact absurd H (by simp)
    ·rw [if_neg c8] at H
     exact absurd H (by simp)
 /-! ### laws_eqBar: function 104 -/
def laws_eqBar.f (a0_0 : Int) (a0_1 : Int) (a1_0 : Int) (a1_1 : Int) : Option (Bool) := if a0_0 = a1_0 then (if a0_1 = a1_1 then (some true) else (some false)) else (some false)
set_option maxHeartbeats 8000000 in
set_option maxRecDepth 100000 in
theorem laws_eqBar.calls (a0_0 : Int) (a0_1 : Int) (a1_0 : Int) (a1_1 : Int) (r : Bool) (w : World) (h : laws_eqBar.f a0_0 a0_1 a1_0 a1_1 = some r) (hr_ : r = true := by rfl) :
  Calls Try.prog 104 #[.agg #[.int .i64 a0_0, .int .i64 a0_1], .agg #[.int .i64 a1_0, .int .i64 a1_1]] w fun e w' => e = .returned (.bool r) ∧ Below w.heap.size w w' := by
 have HR_ := am_ hr_; clear hr_; have hu104 := Try.underlying104; have HB := am_ (Below.refl w.heap.size w); have H : (if a0_0 = a1_0 then (if a0_1 = a1_1 then (some true) else (some false)) else (some false)) = some r := h; clear h
 by_cases c3 : a0_0 = a1_0
 ·rw [if_pos c3] at H
  have c3b0 := beq_iff_eq.mpr c3; have c3b1 := bne_eq_false_iff_eq.mpr c3; clear c3
  by_cases c4 : a0_1 = a1_1
  ·rw [if_pos c4] at H
   have c4b0 := beq_iff_eq.mpr c4; have c4b1 := bne_eq_false_iff_eq.mpr c4; clear c4; obtain rfl := Option.some.inj H
   go_enter Try.func104, Try.ntmps104
   go_wp2_with (first | ((with_reducible refine gate_dst (N := 2) rfl ?_); refine boxZ 2 #[.int .i64 a0_0, .int .i64 a0_1] 104 ?_; intro gb1152 hg w5 hbox hb; replace BK1152 := am_ (hbox); replace GW1152 := am_ ((Zc : w.heap.size ≤ gb1152)); replace GE1152 := GW1152; replace HB := (bsZ Zd hb); clear hb hbox hg) | ((with_reducible refine gate_dst (N := 3) rfl ?_); refine boxZ 3 #[.int .i64 a1_0, .int .i64 a1_1] 104 ?_; intro gb1153 hg w6 hbox hb; replace BK1153 := am_ (hbox); replace GW1153 := am_ (((Ze GE1152) : w.heap.size ≤ gb1153)); replace GE1153 := GW1153; replace HB := (bsZ (Zf GE1152) hb); replace NB1152_1153 := am_ ((by rw [hg]; exact Nat.ne_of_lt (blk_lt (g := gb1152) (b0Z BK1152)) : gb1152 ≠ gb1153)); replace NB1153_1152 := am_ ((by rw [hg]; exact Nat.ne_of_gt (blk_lt (g := gb1152) (b0Z BK1152)) : gb1153 ≠ gb1152)); replace BK1152 := (bkZ BK1152 hb); clear hb hbox hg; have hnb7 := NB1152_1153.out; have hnc7 := NB1153_1152.out; refine ci2 BK1152 ?_; intros; refine ci2 BK1153 ?_; intros))
   go_ret
   exact ⟨Zj, (Zh GE1152 GE1153)⟩
  ·rw [if_neg c4] at H
   have c4b0 := beq_eq_false_iff_ne.mpr c4; have c4b1 := bne_iff_ne.mpr c4; exact absurd ((Option.some.inj H).trans HR_.out) (by decide)
 ·rw [if_neg c3] at H
  have c3b0 := beq_eq_false_iff_ne.mpr c3; have c3b1 := bne_iff_ne.mpr c3; exact absurd ((Option.some.inj H).trans HR_.out) (by decide)
 /-! ### laws_eqBarS: function 91 -/
def laws_eqBarS.l0 : Nat → List (S104) → List (S104) → Int → Option (Bool)
 | 0, _, _, _ => none
 | k + 1, x0, x1, x5 => if x5 < (x0.length : Int) then (if 0 ≤ x5 then (if x5 < (x1.length : Int) then ((laws_eqBar.f ((rd_T104 x0 x5).f0) ((rd_T104 x0 x5).f1) ((rd_T104 x1 x5).f0) ((rd_T104 x1 x5).f1)).bind fun t1156 => (if t1156 = true then (laws_eqBarS.l0 k x0 x1 (wrap64 (x5 + 1))) else (some false))) else (none)) else (none)) else (some true)
def laws_eqBarS.f (k : Nat) (l0 : List (S104)) (l1 : List (S104)) : Option (Bool) := if (l0.length : Int) = (l1.length : Int) then (laws_eqBarS.l0 k l0 l1 0) else (some false)
def laws_eqBarS.T6 : Bool × List (List Nat × List Nat) := (true, [([], []), ([], []), ([0, 1], [0, 1]), ([2], [2]), ([], []), ([], []), ([4, 5], [4, 5]), ([6], [6]), ([3, 7], [3, 7]), ([8], [8])])
def laws_eqBarS.B6 : List Nat := [0, 0, 3, 7, 0, 0, 48, 112, 255, 511]
theorem laws_eqBarS.tab6 : rtab .any (opsOf Try.f91 6) = laws_eqBarS.T6 := by kernel_rfl
theorem laws_eqBarS.bits6 : waitsOk laws_eqBarS.T6.2 laws_eqBarS.B6 = true := by kernel_rfl
set_option maxHeartbeats 8000000 in
set_option maxRecDepth 100000 in
theorem laws_eqBarS.calls (k : Nat) (A0 : Option Addr) (c0 : Nat) (l0 : List (S104)) (A1 : Option Addr) (c1 : Nat) (l1 : List (S104)) (r : Bool) (w : World) (hr0 : Kd.C k104 w A0 l0.length l0) (hc0 : l0.length ≤ c0) (hr1 : Kd.C k104 w A1 l1.length l1) (hc1 : l1.length ≤ c1) (h : laws_eqBarS.f k l0 l1 = some r) (hr_ : r = true := by rfl) :
  Calls Try.prog 91 #[.slice A0 l0.length c0, .slice A1 l1.length c1] w fun e w' => e = .returned (.bool r) ∧ Below w.heap.size w w' := by
 have HR_ := am_ hr_; clear hr_; have hu104 := Try.underlying104; have HR0 := am_ hr0; have HC0 := am_ hc0; clear hr0 hc0; have HR1 := am_ hr1; have HC1 := am_ hc1; clear hr1 hc1; have HB := am_ (Below.refl w.heap.size w); have H : (if (l0.length : Int) = (l1.length : Int) then (laws_eqBarS.l0 k l0 l1 0) else (some false)) = some r := h; clear h
 by_cases c3 : (l0.length : Int) = (l1.length : Int)
 ·rw [if_pos c3] at H
  have c3b0 := beq_iff_eq.mpr c3; have c3b1 := bne_eq_false_iff_eq.mpr c3
  have c3b2 : (l0.length == l1.length) = true := by first | simpa using c3 | (simp at c3 ⊢; omega)
  clear c3; have H' := am_ H; clear H
  go_enter Try.func91, Try.ntmps91
  go_wp2
  go_loopg [5] k (fun kq v5 w' => ∃ (x5_1 : Int), v5 = .int .i64 x5_1 ∧ Aside0 (laws_eqBarS.l0 kq l0 l1 x5_1 = some r) ∧ Aside0 (kq ≤ k) ∧ Aside0 (Below w.heap.size w w'))
  case atStart => exact ⟨(0), Za, H', ⟨Nat.le_refl _⟩, ⟨Zd⟩⟩
  case round =>
   clear H'
   try clear c1
   try clear p2
   try clear c3
   try clear c3b0
   try clear c3b1
   try clear c3b2
   obtain ⟨x5_1, rfl, HA, HK1, HB⟩ := hrel
   cases gk with
   | zero => exact absurd HA.out (by simp [laws_eqBarS.l0])
   | succ k1 =>
    have H := HA.out; clear HA; simp only [laws_eqBarS.l0] at H
    by_cases c4 : x5_1 < (l0.length : Int)
    ·rw [if_pos c4] at H
     have c4b0 := decide_eq_true c4; clear c4
     by_cases c5 : 0 ≤ x5_1
     ·rw [if_pos c5] at H
      have c5b0 := decide_eq_true c5; clear c5
      by_cases c6 : x5_1 < (l1.length : Int)
      ·rw [if_pos c6] at H
       have c6b0 := decide_eq_true c6; clear c6; replace H := Option.bind_eq_some_iff.mp H; obtain ⟨t1156, A70, H⟩ := H; have A7 := am_ A70; clear A70
       by_cases c8 : t1156 = true
       ·subst c8
        rw [if_pos rfl] at H; have H' := am_ H; clear H
        try go_wp2
        replace HB := am_ (below_drew1 HB.out); have p1154 : 0 ≤ (x5_1 : Int) := of_decide_eq_true Zn; have q1154 : x5_1 < (l0.length : Int) := of_decide_eq_true Zn; obtain ⟨ad1154, e1154, hx1154_0, hx1154_1⟩ := at_T104 HR0.out x5_1 p1154 q1154; have hw1154_1 := hx1154_1; have hw1154_0 := hx1154_0
        cases e1154
        replace hx1154_0 := cbH HB hx1154_0; replace hx1154_1 := cbH HB hx1154_1; replace p1154 := eq_true p1154; replace q1154 := eq_true q1154; have p1155 : 0 ≤ (x5_1 : Int) := of_decide_eq_true Zn; have q1155 : x5_1 < (l1.length : Int) := of_decide_eq_true Zn; obtain ⟨ad1155, e1155, hx1155_0, hx1155_1⟩ := at_T104 HR1.out x5_1 p1155 q1155; have hw1155_1 := hx1155_1; have hw1155_0 := hx1155_0
        cases e1155
        replace hx1155_0 := cbH HB hx1155_0; replace hx1155_1 := cbH HB hx1155_1; replace p1155 := eq_true p1155; replace q1155 := eq_true q1155; refine start_ (n := 10) (S := fun w' => w'.cell? (ad1154.add ((x5_1).toNat * 2)) = some (.int .i64 ((rd_T104 l0 x5_1).f0)) ∧ w'.cell? ⟨(ad1154.add ((x5_1).toNat * 2)).block, (ad1154.add ((x5_1).toNat * 2)).off + 1, none⟩ = some (.int .i64 ((rd_T104 l0 x5_1).f1)) ∧ w'.cell? (ad1155.add ((x5_1).toNat * 2)) = some (.int .i64 ((rd_T104 l1 x5_1).f0)) ∧ w'.cell? ⟨(ad1155.add ((x5_1).toNat * 2)).block, (ad1155.add ((x5_1).toNat * 2)).off + 1, none⟩ = some (.int .i64 ((rd_T104 l1 x5_1).f1))) (ds := []) (bT 10 0) Zi rfl rfl ⟨(cbH HB hw1154_0 :), (cbH HB hw1154_1 :), (cbH HB hw1155_0 :), (cbH HB hw1155_1 :)⟩ (fun hHeld => ?_); refine with_tabW laws_eqBarS.tab6 laws_eqBarS.bits6 (fun HT_ HW_ => ?_); generalize wr.drew = w9 at HB hx1154_0 hx1154_1 hx1155_0 hx1155_1 hHeld ⊢; refine pureZ HT_ 0 (some 17) (bT 10 1) ?_; refine pureZ HT_ 1 (some 18) (bT 10 2) ?_; refine pureZ HT_ 2 (some 19) (bT 10 3) ?_; refine pureZ HT_ 4 (some 21) (bB 10 23) ?_; refine pureZ HT_ 5 (some 22) (bB 10 55) ?_; refine pureZ HT_ 6 (some 23) (bB 10 119) ?_; refine takeZ4 HT_ HW_ 3 (some 20) (bT 10 7) hHeld ?_; refine takeZ4 HT_ HW_ 7 (some 24) (bT 10 8) hHeld ?_; refine one_ (i := 8) (N := some 25) (bT 10 9) rfl rfl (one_of HT_.out Zi) (by decide) (fun K hK => ?_); refine goes_ Try.func104 Zi rfl #[.agg #[.int .i64 ((rd_T104 l0 x5_1).f0), .int .i64 ((rd_T104 l0 x5_1).f1)], .agg #[.int .i64 ((rd_T104 l1 x5_1).f0), .int .i64 ((rd_T104 l1 x5_1).f1)]] (by rfl) rfl rfl Zr ?_
        with_reducible refine (laws_eqBar.calls ((rd_T104 l0 x5_1).f0) ((rd_T104 l0 x5_1).f1) ((rd_T104 l1 x5_1).f0) ((rd_T104 l1 x5_1).f1) true _ A7.out).mono ?_
        rintro e w10 ⟨rfl, hb⟩; refine ⟨_, rfl, ?_⟩; replace HB := (bsZ Zd hb)
        (try clear hb)
        (try clear hb2)
        (try clear hk)
        (try clear hi)
        refine hK.out _ _ ⟨(cbH HB hw1154_0 :), (cbH HB hw1154_1 :), (cbH HB hw1155_0 :), (cbH HB hw1155_1 :)⟩ (fun hHeld => ?_); clear hK K; refine normZ 25 ?_; refine pureZ HT_ 9 (some 26) (bT 10 10) ?_; refine done_ (done_of HT_.out Zi) ?_
        try go_wp2
        go_roundg k1
        case measure => have := HK1.out; omega
        case rel => exact ⟨(wrap64 (x5_1 + 1)), Za, H', ⟨Zs⟩, ⟨Zd⟩⟩
       ·replace c8 := Bool.eq_false_iff.mpr c8
        subst c8; rw [if_neg (show ¬ (false = true) by decide)] at H; exact absurd ((Option.some.inj H).trans HR_.out) (by decide)
      ·rw [if_neg c6] at H
       exact absurd H (by simp)
     ·rw [if_neg c5] at H
      exact absurd H (by simp)
    ·rw [if_neg c4] at H
     have c4b0 := decide_eq_false c4; clear c4; obtain rfl := Option.some.inj H
     go_wp2
     go_ret
     exact ⟨Zj, Zd⟩
 ·rw [if_neg c3] at H
  have c3b0 := beq_eq_false_iff_ne.mpr c3; have c3b1 := bne_iff_ne.mpr c3
  have c3b2 : (l0.length == l1.length) = false := by first | simpa using c3 | (simp at c3 ⊢; omega)
  exact absurd ((Option.some.inj H).trans HR_.out) (by decide)
 /-! ### laws_markBarS: function 53 -/
def laws_markBarS.l0 : Nat → List (S104) → Int → Int → Option (Int × (List (S104)))
 | 0, _, _, _ => none
 | k + 1, x0, x1, x5 => if x5 < (x0.length : Int) then (if 0 ≤ x5 then ((some (x0.set (x5 : Int).toNat (⟨x1, (rd_T104 x0 x5).f1⟩ : S104) : List (S104))).bind fun y1202 => (laws_markBarS.l0 k (y1202.set (x5 : Int).toNat (⟨(rd_T104 y1202 x5).f0, wrap64 (x1 + 1)⟩ : S104)) (wrap64 ((wrap64 (x1 + 1)) + 1)) (wrap64 (x5 + 1)))) else (none)) else (some (x1, x0))
def laws_markBarS.f (k : Nat) (l0 : List (S104)) (a1 : Int) : Option (Int × (List (S104))) := laws_markBarS.l0 k l0 a1 0
set_option maxHeartbeats 8000000 in
set_option maxRecDepth 100000 in
theorem laws_markBarS.calls (k : Nat) (P0_ : Nat → Prop) (u9000_ : Value) (l0 : List (S104)) (a1 : Int) (r1 : Int) (r2 : List (S104)) (w0 w : World) (hB : Below w0.heap.size w0 w) (ho0 : Kd.R k104 104 w w0.heap.size P0_ u9000_ l0) (h : laws_markBarS.f k l0 a1 = some (r1, r2)) :
  Calls Try.prog 53 #[u9000_, .int .i64 a1] w fun e w' => e = .returned (.int .i64 r1) ∧ Kd.R k104 104 w' w0.heap.size (fun k_ => (P0_ k_ ∨ w.heap.size ≤ k_)) u9000_ r2 ∧ Below w0.heap.size w0 w' ∧ Kept w w' (fun k_ => P0_ k_) := by
 have HO0 := am_ (show Kd.R k104 104 w w0.heap.size (fun k_ => (P0_ k_ ∨ w.heap.size ≤ k_)) u9000_ l0 from Kd.R_mono ho0 (fun k_ hk => (.inl hk))); have HK := am_ (Kept.refl w (fun k_ => P0_ k_)); have HW0 := am_ hB.size; have HB := am_ hB; clear hB; have H : (laws_markBarS.l0 k l0 a1 0) = some (r1, r2) := h; clear h; have H' := am_ H; clear H
 go_enter Try.func53, Try.ntmps53
 go_wp2
 go_loopg [1, 5] k (fun kq v1 v5 w' => ∃ (x0_1 : List (S104)) (x1_1 : Int) (x5_1 : Int), v1 = .int .i64 x1_1 ∧ v5 = .int .i64 x5_1 ∧ Aside0 (laws_markBarS.l0 kq x0_1 x1_1 x5_1 = some (r1, r2)) ∧ Aside0 (kq ≤ k) ∧ Aside0 (Kd.R k104 104 w' w0.heap.size (fun k_ => (P0_ k_ ∨ w.heap.size ≤ k_)) u9000_ x0_1) ∧ Aside0 (Kept w w' (fun k_ => P0_ k_)) ∧ Aside0 (Below w0.heap.size w0 w'))
 case atStart => exact ⟨(l0), (a1), (0), Za, Za, H', ⟨Nat.le_refl _⟩, ⟨(Zo HO0)⟩, ⟨Zt⟩, ⟨Zd⟩⟩
 case round =>
  clear H'
  try clear p2
  obtain ⟨x0_1, x1_1, x5_1, rfl, rfl, HA, HK1, HO_0, HK, HB⟩ := hrel
  cases gk with
  | zero => exact absurd HA.out (by simp [laws_markBarS.l0])
  | succ k1 =>
   have H := HA.out; clear HA; simp only [laws_markBarS.l0] at H
   by_cases c3 : x5_1 < (x0_1.length : Int)
   ·rw [if_pos c3] at H
    have c3b0 := decide_eq_true c3; clear c3
    by_cases c4 : 0 ≤ x5_1
    ·rw [if_pos c4] at H
     have c4b0 := decide_eq_true c4; clear c4; obtain ⟨y1202, hy1202⟩ : ∃ y_ : List (S104), y_ = (x0_1.set (x5_1 : Int).toNat (⟨x1_1, (rd_T104 x0_1 x5_1).f1⟩ : S104)) := ⟨_, rfl⟩
     (first | (rw [← hy1202] at H; with_reducible replace H := bindZ H) | rw [← hy1202] at H | skip)
     have Ny1202 := am_ hy1202; clear hy1202; obtain ⟨y1203, hy1203⟩ : ∃ y_ : List (S104), y_ = (y1202.set (x5_1 : Int).toNat (⟨(rd_T104 y1202 x5_1).f0, wrap64 (x1_1 + 1)⟩ : S104)) := ⟨_, rfl⟩
     (first | (rw [← hy1203] at H; with_reducible replace H := bindZ H) | rw [← hy1203] at H | skip)
     have Ny1203 := am_ hy1203; clear hy1203; have H' := am_ H; clear H; obtain ⟨Ao7, co7, eo7⟩ := Kd.R_slice HO_0.out; subst eo7; have p5 : 0 ≤ (x5_1 : Int) := of_decide_eq_true Zn; have q5 : (x5_1 : Int) < ((x0_1.length : Int) : Int) := of_decide_eq_true Zn; obtain ⟨go5, co5, eo5, gb5, gl5, cl5, HG5⟩ := Kd.R_form HO_0.out (by omega)
     (first | cases eo5 | (injection eo5 with ea_ en_ ec_; (first | subst ea_ | (injection ea_ with ea_; subst ea_)); subst ec_; clear en_))
     have GB5 := am_ gb5; have GG5 := am_ HG5; clear gb5 gl5 HG5; have HMgo5 := am_ (show (P0_ go5 ∨ w.heap.size ≤ go5) from (HO_0.out.1 _ rfl)); obtain ⟨ce5, hcl5, hM5, hcc5, hfr5⟩ := Kd.R_elem HO_0.out z104 (x5_1 : Int) p5 q5; obtain rfl := k104_openM hM5; have hx5_0 : wr.cell? ⟨go5, (x5_1 : Int).toNat * 2, none⟩ = some (.int .i64 ((rd_T104 x0_1 x5_1).f0)) := hcc5 0 _ rfl; have hx5_1 : wr.cell? ⟨go5, (x5_1 : Int).toNat * 2 + 1, none⟩ = some (.int .i64 ((rd_T104 x0_1 x5_1).f1)) := hcc5 1 _ rfl; have hf5_0 : wr.frozen? ⟨go5, (x5_1 : Int).toNat * 2, none⟩ = false := hfr5 0; have hf5_1 := hfr5 1; clear hcl5 hcc5 hfr5 hM5; replace p5 := eq_true p5; replace q5 := eq_true q5; have HX8 := am_ (show Kd.R k104 104 wr w0.heap.size (fun k_ => (P0_ k_ ∨ w.heap.size ≤ k_)) (.slice (some ⟨go5, 0, none⟩) x0_1.length co7) x0_1 from (Zo HO_0)); obtain ⟨ce8, hcl8, hM8, hcc8, hfr8⟩ := Kd.R_elem HX8.out z104 (x5_1 : Int) (of_decide_eq_true Zn) (by have h_ : (x5_1 : Int) < ((x0_1.length : Int) : Int) := of_decide_eq_true Zn; first | exact h_ | (have e_ := (Kd.R_reads' HO_0.out).1; omega) | simpa using h_); obtain rfl := k104_openM hM8; have HP8 := Kd.R_seg HX8.out (x5_1 : Int) (of_decide_eq_true Zn) (by have h_ : (x5_1 : Int) < ((x0_1.length : Int) : Int) := of_decide_eq_true Zn; first | exact h_ | (have e_ := (Kd.R_reads' HO_0.out).1; omega) | simpa using h_) (seg := [.int .i64 x1_1]) (j := 0) hcl8 hcc8 (show 1 ≤ 2 from (by decide)) (x' := (⟨x1_1, (rd_T104 x0_1 x5_1).f1⟩ : S104)) (k104_mkM _ _ _ (⟨x1_1, (rd_T104 x0_1 x5_1).f1⟩ : S104) ) (fun _ hk => hk); have hx8_0 := hcc8 0 _ rfl
     (try simp only [show (k104).sz = 2 from rfl, Nat.mul_one, Nat.add_zero] at hx8_0)
     have hf8_0 := hfr8 0
     (try simp only [show (k104).sz = 2 from rfl, Nat.mul_one, Nat.add_zero] at hf8_0)
     clear hcl8 hcc8 hfr8 hM8
     go_wp2_with (first | ((with_reducible refine gate_store (t := 2) (p := 16) rfl ?_); refine store_event (t := 2) (p := 16) (v := ?vo_w9) (w1 := (wr.setCell ⟨go5, (x5_1 : Int).toNat * 2, none⟩ (.int .i64 x1_1))) ?hg ?ho ?hn ?hr ?_; (case ho => rfl); (case hg => rfl); (case hn => rfl); (case hr => first | (go_simp; done) | (go_simp; rfl)); intro w9 hw; have hg : wr.grownBy w9 (some go5) := (by rw [hw]; exact HP8.2); have hp_ : Kd.R k104 104 w9 w0.heap.size (fun k_ => (P0_ k_ ∨ w.heap.size ≤ k_)) (.slice (some ⟨go5, 0, none⟩) x0_1.length co7) y1202 := (by rw [hw, Ny1202.out]; exact HP8.1); clear HP8; replace HB := am_ (((Zu GB5) : Below w0.heap.size w0 w9)); replace HK := am_ (Kept.of_grown (S := (fun k_ => P0_ k_)) hg Zt (fun k_ e_ => (HO_0.out.1 k_ e_))); replace HO_0 := am_ (hp_); clear hg hw hp_; have p6 : 0 ≤ (x5_1 : Int) := of_decide_eq_true Zn; have q6 : (x5_1 : Int) < ((x0_1.length : Int) : Int) := of_decide_eq_true Zn; obtain ⟨ce6, hcl6, hM6, hcc6, hfr6⟩ := Kd.R_elem HO_0.out z104 (x5_1 : Int) p6 q6; obtain rfl := k104_openM hM6; have hx6_0 : w9.cell? ⟨go5, (x5_1 : Int).toNat * 2, none⟩ = some (.int .i64 ((rd_T104 y1202 x5_1).f0)) := hcc6 0 _ rfl; have hx6_1 : w9.cell? ⟨go5, (x5_1 : Int).toNat * 2 + 1, none⟩ = some (.int .i64 ((rd_T104 y1202 x5_1).f1)) := hcc6 1 _ rfl; have hf6_0 : w9.frozen? ⟨go5, (x5_1 : Int).toNat * 2, none⟩ = false := hfr6 0; have hf6_1 := hfr6 1; clear hcl6 hcc6 hfr6 hM6; replace p6 := eq_true p6; replace q6 := eq_true q6; have HX10 := am_ (show Kd.R k104 104 w9 w0.heap.size (fun k_ => (P0_ k_ ∨ w.heap.size ≤ k_)) (.slice (some ⟨go5, 0, none⟩) x0_1.length co7) y1202 from (Zo HO_0)); obtain ⟨ce10, hcl10, hM10, hcc10, hfr10⟩ := Kd.R_elem HX10.out z104 (x5_1 : Int) (of_decide_eq_true Zn) (by have h_ : (x5_1 : Int) < ((x0_1.length : Int) : Int) := of_decide_eq_true Zn; first | exact h_ | (have e_ := (Kd.R_reads' HO_0.out).1; omega) | simpa using h_); obtain rfl := k104_openM hM10; have HP10 := Kd.R_seg HX10.out (x5_1 : Int) (of_decide_eq_true Zn) (by have h_ : (x5_1 : Int) < ((x0_1.length : Int) : Int) := of_decide_eq_true Zn; first | exact h_ | (have e_ := (Kd.R_reads' HO_0.out).1; omega) | simpa using h_) (seg := [.int .i64 (wrap64 (x1_1 + 1))]) (j := 1) hcl10 hcc10 (show 2 ≤ 2 from (by decide)) (x' := (⟨(rd_T104 y1202 x5_1).f0, wrap64 (x1_1 + 1)⟩ : S104)) (k104_mkM _ _ _ (⟨(rd_T104 y1202 x5_1).f0, wrap64 (x1_1 + 1)⟩ : S104) ) (fun _ hk => hk); have hx10_1 := hcc10 1 _ rfl; (try simp only [show (k104).sz = 2 from rfl, Nat.mul_one, Nat.add_zero] at hx10_1); have hf10_1 := hfr10 1; (try simp only [show (k104).sz = 2 from rfl, Nat.mul_one, Nat.add_zero] at hf10_1); clear hcl10 hcc10 hfr10 hM10) | ((with_reducible refine gate_store (t := 2) (p := 23) rfl ?_); refine store_event (t := 2) (p := 23) (v := ?vo_w11) (w1 := (w9.setCell ⟨go5, (x5_1 : Int).toNat * 2 + 1, none⟩ (.int .i64 (wrap64 (x1_1 + 1))))) ?hg ?ho ?hn ?hr ?_; (case ho => rfl); (case hg => rfl); (case hn => rfl); (case hr => first | (go_simp; done) | (go_simp; rfl)); intro w11 hw; have hg : w9.grownBy w11 (some go5) := (by rw [hw]; exact HP10.2); have hp_ : Kd.R k104 104 w11 w0.heap.size (fun k_ => (P0_ k_ ∨ w.heap.size ≤ k_)) (.slice (some ⟨go5, 0, none⟩) x0_1.length co7) y1203 := (by rw [hw, Ny1203.out]; exact HP10.1); clear HP10; replace HB := am_ (((Zu GB5) : Below w0.heap.size w0 w11)); replace HK := am_ (Kept.of_grown (S := (fun k_ => P0_ k_)) hg Zt (fun k_ e_ => (HO_0.out.1 k_ e_))); replace HO_0 := am_ (hp_); clear hg hw hp_))
     go_roundg k1
     case measure => have := HK1.out; omega
     case rel => exact ⟨(y1203), (wrap64 ((wrap64 (x1_1 + 1)) + 1)), (wrap64 (x5_1 + 1)), Za, Za, H', ⟨Zs⟩, ⟨(Zo HO_0)⟩, ⟨Zt⟩, ⟨Zd⟩⟩
    ·rw [if_neg c4] at H
     exact absurd H (by simp)
   ·rw [if_neg c3] at H
    have c3b0 := decide_eq_false c3; clear c3; simp only [Option.some.injEq, Prod.mk.injEq] at H; obtain ⟨rfl, rfl⟩ := H; obtain ⟨Ao12, co12, eo12⟩ := Kd.R_slice HO_0.out; subst eo12
    go_wp2
    go_ret
    exact ⟨Zj, (Zo HO_0), Zd, Zt⟩
end Go.Proofs.Ytmnnbmdfepogiaa.F
namespace Go.Proofs.Ytmnnbmdfepogiaa.F
open Go.RowKit Go.Proofs.YtmnnbmdfepogiaaW.PrintWords Go.Proofs.YtmnnbmdfepogiaaW.PrintLast Go.Proofs.YtmnnbmdfepogiaaW.PrintMore
set_option linter.unusedVariables false
set_option linter.unusedSimpArgs false
attribute [local go_sem] max2_int min2_int max_two min_two max_three min_three max_four min_four
 mutual
def full_toBarS.j0 : Nat → List (S106) → Bool → Option ((List (S104)))
 | 0, _, _ => none
 | k + 1, x0, x13 => if x13 = true then (some ([] : List (S104))) else ((laws_roomBehind.f (x0.length : Int)).bind fun t1070 => (if 0 ≤ (wrap64 ((x0.length : Int) + t1070)) then (if (wrap64 ((x0.length : Int) + t1070) : Int).toNat ≤ 17592186044416 then (full_toBarS.l0 k x0 (List.replicate (wrap64 ((x0.length : Int) + t1070) : Int).toNat z104) 0) else (none)) else (none)))
def full_toBarS.l0 : Nat → List (S106) → List (S104) → Int → Option ((List (S104)))
 | 0, _, _, _ => none
 | k + 1, x0, x5, x6 => if x6 < (x0.length : Int) then (if 0 ≤ x6 then ((laws_toBar.f ((rd_T106 x0 x6).f0) ((rd_T106 x0 x6).f1)).bind fun bt1075 => (if x6 < (x5.length : Int) then (full_toBarS.l0 k x0 (x5.set (x6 : Int).toNat (⟨bt1075.1, bt1075.2⟩ : S104)) (wrap64 (x6 + 1))) else (none))) else (none)) else (full_toBarS.l1 k x0 x5 (x0.length : Int))
def full_toBarS.l1 : Nat → List (S106) → List (S104) → Int → Option ((List (S104)))
 | 0, _, _, _ => none
 | k + 1, x0, x5, x7 => if x7 < (x5.length : Int) then ((laws_fillerBar.f).bind fun bt1078 => (if 0 ≤ x7 then (full_toBarS.l1 k x0 (x5.set (x7 : Int).toNat (⟨bt1078.1, bt1078.2⟩ : S104)) (wrap64 (x7 + 1))) else (none))) else (if 0 ≤ (x0.length : Int) then (if (x0.length : Int) ≤ (x5.length : Int) then (some x5) else (none)) else (none))
end
def full_toBarS.f (k : Nat) (l0 : List (S106)) (a1 : Bool) : Option ((List (S104))) := if a1 = true then (full_toBarS.j0 k l0 ((l0.length : Int) == 0)) else (full_toBarS.j0 k l0 false)
set_option maxHeartbeats 8000000 in
set_option maxRecDepth 100000 in
theorem full_toBarS.calls (k : Nat) (A0 : Option Addr) (c0 : Nat) (l0 : List (S106)) (a1 : Bool) (r : List (S104)) (w : World) (hr0 : Kd.C k106 w A0 l0.length l0) (hc0 : l0.length ≤ c0) (h : full_toBarS.f k l0 a1 = some r) :
  Calls Try.prog 46 #[.slice A0 l0.length c0, .bool a1] w fun e w' => ∃ v0_ : Value, e = .returned (v0_) ∧ Full k104 104 w' w.heap.size l0.length v0_ r ∧ Below w.heap.size w w' := by
 have hu106 := Try.underlying106; have hu104 := Try.underlying104; have HR0 := am_ hr0; have HC0 := am_ hc0; clear hr0 hc0; have HB := am_ (Below.refl w.heap.size w); have H : (if a1 = true then (full_toBarS.j0 k l0 ((l0.length : Int) == 0)) else (full_toBarS.j0 k l0 false)) = some r := h; clear h; have HC3 := am_ H; clear H
 go_enter Try.func46, Try.ntmps46
 go_upto_region 1 with (fail)
 go_cut [13] (fun v13 wc => ∃ (kq : Nat) (x13_2 : Bool), v13 = .bool x13_2 ∧ Aside0 (full_toBarS.j0 kq l0 x13_2 = some r) ∧ Aside0 (kq ≤ k) ∧ Aside0 (Below w.heap.size w wc))
 case first =>
  have H := HC3.out; clear HC3
  by_cases c4 : a1 = true
  ·subst c4
   rw [if_pos rfl] at H; have H' := am_ H; clear H
   go_wp2
   go_meet
   case rel => exact ⟨_, (((l0.length : Int) == 0)), Za, H', ⟨Zl⟩, ⟨Zd⟩⟩
  ·replace c4 := Bool.eq_false_iff.mpr c4
   subst c4; rw [if_neg (show ¬ (false = true) by decide)] at H; have H' := am_ H; clear H
   go_wp2
   go_meet
   case rel => exact ⟨_, (false), Za, H', ⟨Zl⟩, ⟨Zd⟩⟩
 case rest =>
  clear HC3
  try clear p2
  try clear c4
  obtain ⟨kq, x13_2, rfl, HA, HJ2, HB⟩ := hcut
  cases kq with
  | zero => exact absurd HA.out (by simp [full_toBarS.j0])
  | succ kj2 =>
   have H := HA.out; clear HA; simp only [full_toBarS.j0] at H
   by_cases c5 : x13_2 = true
   ·subst c5
    rw [if_pos rfl] at H; obtain rfl := Option.some.inj H
    go_wp2
    go_ret
    exact ⟨_, Zj, fun h_ => absurd rfl h_, Zd⟩
   ·replace c5 := Bool.eq_false_iff.mpr c5
    subst c5; rw [if_neg (show ¬ (false = true) by decide)] at H; replace H := Option.bind_eq_some_iff.mp H; obtain ⟨t1070, A60, H⟩ := H; have A6 := am_ A60; clear A60; obtain ⟨ji7, hji7⟩ : ∃ j_ : Int, (wrap64 ((l0.length : Int) + t1070)) = j_ := ⟨_, rfl⟩
    replace H : (if 0 ≤ (ji7) then (if (ji7 : Int).toNat ≤ 17592186044416 then (full_toBarS.l0 kj2 l0 (List.replicate (ji7 : Int).toNat z104) 0) else (none)) else (none)) = some r := by first | (rw [hji7] at H; exact H) | (simp only [hji7] at H ⊢; exact H)
    (try rw [hji7] at A6)
    have hji7w : (IntKind.i64.wrap ((l0.length : Int) + t1070)) = ji7 := (i64_w _).trans hji7
    by_cases c8 : 0 ≤ (ji7)
    ·rw [if_pos c8] at H
     have c8b0 := eq_true c8; have c8b1 := decide_eq_true c8; clear c8
     by_cases c9 : (ji7 : Int).toNat ≤ 17592186044416
     ·rw [if_pos c9] at H
      have c9b0 := eq_true c9; have c9b1 := decide_eq_true c9; clear c9; obtain ⟨y1071, hy1071⟩ : ∃ y_ : List (S104), y_ = (List.replicate (ji7 : Int).toNat z104) := ⟨_, rfl⟩
      (first | (rw [← hy1071] at H; with_reducible replace H := bindZ H) | rw [← hy1071] at H | skip)
      have Ny1071 := am_ hy1071; clear hy1071; have H' := am_ H; clear H
      go_wp2_with (first | ((with_reducible refine gate_callee (f := 84) rfl ?_); refine gZ 18 Try.func84 #[.int .i64 (l0.length : Int)] ?_; (with_reducible refine (laws_roomBehind.calls (l0.length : Int) t1070 _ A6.out).mono ?_); rintro e w' ⟨rfl, ⟨nd, rfl⟩⟩; refine ⟨_, rfl, ?_⟩) | ((with_reducible refine gate_dst (N := 20) rfl ?_); (try (refine gate_guard (by rfl) ?_; dsimp only)); refine Kd.R_make k104 _ 104 rfl (N := 20) rfl 31 _ _ rfl ji7 rfl rfl Try.underlying31 (.agg #[(.int .i64 0), (.int .i64 0)]) 16 info104 rfl (by decide) (by omega) z104 (ok := fun _ => True) (okp := fun _ => True) (k104_mkM _ _ _ z104 ) (fun _ hk => hk) trivial (of_decide_eq_true Zn) (Nat.le_trans (Nat.mul_le_mul_right _ (of_decide_eq_true Zn : ji7.toNat ≤ 17592186044416)) (by omega)) (Below.refl _ _) (Nat.le_refl _) ?_; intro v1072 w10 ho11 hb hg_ hnew_; clear hg_ hnew_; (first | rw [← Ny1071.out] at ho11 | (simp only [Int.reduceToNat] at ho11; rw [← Ny1071.out] at ho11)); replace HO1073 := am_ (Kd.R_lower ho11 (below_size Zd)); replace HB := (bsZ Zd hb); clear hb ho11))
      go_loopg [6] kj2 (fun kq v6 w' => ∃ (x5_2 : List (S104)) (x6_2 : Int), v6 = .int .i64 x6_2 ∧ Aside0 (full_toBarS.l0 kq l0 x5_2 x6_2 = some r) ∧ Aside0 (kq ≤ kj2) ∧ Aside0 (Kd.R k104 104 w' w.heap.size (fun _ => True) v1072 x5_2) ∧ Aside0 (Below w.heap.size w w'))
      case atStart => exact ⟨(y1071), (0), Za, H', ⟨Nat.le_refl _⟩, ⟨(Zo HO1073)⟩, ⟨Zd⟩⟩
      case round =>
       clear H'
       try clear p2
       try clear c4
       try clear c5
       try clear p6
       try clear c8
       try clear c8b0
       try clear c8b1
       try clear c9
       try clear c9b0
       try clear c9b1
       try clear p2
       obtain ⟨x5_2, x6_2, rfl, HA, HK2, HO_5, HB⟩ := hrel
       cases gk with
       | zero => exact absurd HA.out (by simp [full_toBarS.l0])
       | succ k2 =>
        have H := HA.out; clear HA; simp only [full_toBarS.l0] at H
        by_cases c12 : x6_2 < (l0.length : Int)
        ·rw [if_pos c12] at H
         have c12b0 := decide_eq_true c12; clear c12
         by_cases c13 : 0 ≤ x6_2
         ·rw [if_pos c13] at H
          have c13b0 := decide_eq_true c13; clear c13; replace H := Option.bind_eq_some_iff.mp H; obtain ⟨⟨t1075, t1076⟩, A140, H⟩ := H
          dsimp only at H
          have A14 := am_ A140; clear A140
          by_cases c15 : x6_2 < (x5_2.length : Int)
          ·rw [if_pos c15] at H
           have c15b0 := decide_eq_true c15; clear c15; obtain ⟨y1077, hy1077⟩ : ∃ y_ : List (S104), y_ = (x5_2.set (x6_2 : Int).toNat (⟨t1075, t1076⟩ : S104)) := ⟨_, rfl⟩
           (first | (rw [← hy1077] at H; with_reducible replace H := bindZ H) | rw [← hy1077] at H | skip)
           have Ny1077 := am_ hy1077; clear hy1077; have H' := am_ H; clear H; have p1074 : 0 ≤ (x6_2 : Int) := of_decide_eq_true Zn; have q1074 : x6_2 < (l0.length : Int) := of_decide_eq_true Zn; obtain ⟨ad1074, e1074, hx1074_0, hx1074_1⟩ := at_T106 HR0.out x6_2 p1074 q1074
           cases e1074
           replace hx1074_0 := cbH HB hx1074_0; replace hx1074_1 := cbH HB hx1074_1; replace p1074 := eq_true p1074; replace q1074 := eq_true q1074
           go_wp2_with (first | ((with_reducible refine gate_callee (f := 85) rfl ?_); refine gZ 33 Try.func85 #[.agg #[.int .i64 ((rd_T106 l0 x6_2).f0), .int .i64 ((rd_T106 l0 x6_2).f1)]] ?_; (with_reducible refine (laws_toBar.calls ((rd_T106 l0 x6_2).f0) ((rd_T106 l0 x6_2).f1) t1075 t1076 _ A14.out).mono ?_); rintro e w17 ⟨rfl, hb⟩; refine ⟨_, rfl, ?_⟩; replace HO_5 := (hbZ HO_5 hb); replace HB := (bsZ Zd hb); clear hb; have p16 : 0 ≤ (x6_2 : Int) := of_decide_eq_true Zn; have q16 : (x6_2 : Int) < ((x5_2.length : Int) : Int) := of_decide_eq_true Zn; obtain ⟨go16, co16, eo16, gb16, gl16, cl16, HG16⟩ := Kd.R_form HO_5.out (by omega); (first | cases eo16 | (injection eo16 with ea_ en_ ec_; (first | subst ea_ | (injection ea_ with ea_; subst ea_)); subst ec_; clear en_)); have GB16 := am_ gb16; have GG16 := am_ HG16; clear gb16 gl16 HG16; obtain ⟨ce16, hcl16, hM16, hcc16, hfr16⟩ := Kd.R_elem HO_5.out z104 (x6_2 : Int) p16 q16; obtain rfl := k104_openM hM16; have hx16_0 : w17.cell? ⟨go16, (x6_2 : Int).toNat * 2, none⟩ = some (.int .i64 ((rd_T104 x5_2 x6_2).f0)) := hcc16 0 _ rfl; have hx16_1 : w17.cell? ⟨go16, (x6_2 : Int).toNat * 2 + 1, none⟩ = some (.int .i64 ((rd_T104 x5_2 x6_2).f1)) := hcc16 1 _ rfl; have hf16_0 : w17.frozen? ⟨go16, (x6_2 : Int).toNat * 2, none⟩ = false := hfr16 0; have hf16_1 := hfr16 1; clear hcl16 hcc16 hfr16 hM16; replace p16 := eq_true p16; replace q16 := eq_true q16; have HX18 := am_ (show Kd.R k104 104 w17 w.heap.size (fun _ => True) (.slice (some ⟨go16, 0, none⟩) x5_2.length co16) x5_2 from (Zo HO_5)); obtain ⟨ce18, hcl18, hM18, hcc18, hfr18⟩ := Kd.R_elem HX18.out z104 (x6_2 : Int) (of_decide_eq_true Zn) (by have h_ : (x6_2 : Int) < ((x5_2.length : Int) : Int) := of_decide_eq_true Zn; first | exact h_ | (have e_ := (Kd.R_reads' HO_5.out).1; omega) | simpa using h_); obtain rfl := k104_openM hM18; have HP18 := Kd.R_seg HX18.out (x6_2 : Int) (of_decide_eq_true Zn) (by have h_ : (x6_2 : Int) < ((x5_2.length : Int) : Int) := of_decide_eq_true Zn; first | exact h_ | (have e_ := (Kd.R_reads' HO_5.out).1; omega) | simpa using h_) (seg := [.int .i64 t1075, .int .i64 t1076]) (j := 0) hcl18 hcc18 (show 2 ≤ 2 from (by decide)) (x' := (⟨t1075, t1076⟩ : S104)) (k104_mkM _ _ _ (⟨t1075, t1076⟩ : S104) ) (fun _ hk => hk); have hx18_0 := hcc18 0 _ rfl; (try simp only [show (k104).sz = 2 from rfl, Nat.mul_one, Nat.add_zero] at hx18_0); have hf18_0 := hfr18 0; (try simp only [show (k104).sz = 2 from rfl, Nat.mul_one, Nat.add_zero] at hf18_0); have hx18_1 := hcc18 1 _ rfl; (try simp only [show (k104).sz = 2 from rfl, Nat.mul_one, Nat.add_zero] at hx18_1); have hf18_1 := hfr18 1; (try simp only [show (k104).sz = 2 from rfl, Nat.mul_one, Nat.add_zero] at hf18_1); clear hcl18 hcc18 hfr18 hM18) | ((with_reducible refine gate_store (t := 104) (p := 34) rfl ?_); refine store_event (t := 104) (p := 34) (v := ?vo_w19) (w1 := ((w17.setCell ⟨go16, (x6_2 : Int).toNat * 2, none⟩ (.int .i64 t1075)).setCell ⟨go16, (x6_2 : Int).toNat * 2 + 1, none⟩ (.int .i64 t1076))) ?hg ?ho ?hn ?hr ?_; (case ho => rfl); (case hg => rfl); (case hn => rfl); (case hr => first | (go_simp; done) | (go_simp; rfl)); intro w19 hw; have hg : w17.grownBy w19 (some go16) := (by rw [hw]; exact HP18.2); have hp_ : Kd.R k104 104 w19 w.heap.size (fun _ => True) (.slice (some ⟨go16, 0, none⟩) x5_2.length co16) y1077 := (by rw [hw, Ny1077.out]; exact HP18.1); clear HP18; replace HO_5 := am_ (hp_); replace HB := am_ ((by rw [hw]; exact below_set (below_set (HB.out) GB16.out) GB16.out : Below w.heap.size w w19)); clear hg hw hp_))
           go_roundg k2
           case measure => have := HJ2.out; have := HK2.out; omega
           case rel => exact ⟨(y1077), (wrap64 (x6_2 + 1)), Za, H', ⟨by have := HJ2.out; have := HK2.out; omega⟩, ⟨(Zo HO_5)⟩, ⟨Zd⟩⟩
          ·rw [if_neg c15] at H
           exact absurd H (by simp)
         ·rw [if_neg c13] at H
          exact absurd H (by simp)
        ·rw [if_neg c12] at H
         have c12b0 := decide_eq_false c12; clear c12; have H' := am_ H; clear H
         go_wp2
         go_loopg [7] k2 (fun kq v7 w' => ∃ (x5_3 : List (S104)) (x7_3 : Int), v7 = .int .i64 x7_3 ∧ Aside0 (full_toBarS.l1 kq l0 x5_3 x7_3 = some r) ∧ Aside0 (kq ≤ k2) ∧ Aside0 (Kd.R k104 104 w' w.heap.size (fun _ => True) v1072 x5_3) ∧ Aside0 (Below w.heap.size w w'))
         case atStart => exact ⟨(x5_2), ((l0.length : Int)), Za, H', ⟨Nat.le_refl _⟩, ⟨(Zo HO_5)⟩, ⟨Zd⟩⟩
         case round =>
          clear H'
          try clear c1
          try clear p1
          try clear q1
          try clear hx1
          try clear p2
          try clear c4
          try clear c5
          try clear p6
          try clear c8
          try clear c8b0
          try clear c8b1
          try clear c9
          try clear c9b0
          try clear c9b1
          try clear p10
          try clear q10
          try clear hx10
          try clear c12
          try clear c12b0
          try clear c13
          try clear c13b0
          try clear c15
          try clear c15b0
          try clear c16
          try clear p16
          try clear q16
          try clear hx16
          try clear hf16
          try clear c18
          try clear hx18
          try clear hf18
          try clear hx1074_0
          try clear hx1074_1
          try clear hx16_0
          try clear hx16_1
          try clear hx18_0
          try clear hx18_1
          try clear p1074
          try clear p16
          try clear p2
          try clear p6
          try clear q1074
          try clear q16
          obtain ⟨x5_3, x7_3, rfl, HA, HK3, HO_5, HB⟩ := hrel
          cases gk with
          | zero => exact absurd HA.out (by simp [full_toBarS.l1])
          | succ k3 =>
           have H := HA.out; clear HA; simp only [full_toBarS.l1] at H
           by_cases c20 : x7_3 < (x5_3.length : Int)
           ·rw [if_pos c20] at H
            have c20b0 := decide_eq_true c20; clear c20; replace H := Option.bind_eq_some_iff.mp H; obtain ⟨⟨t1078, t1079⟩, A210, H⟩ := H
            dsimp only at H
            have A21 := am_ A210; clear A210
            by_cases c22 : 0 ≤ x7_3
            ·rw [if_pos c22] at H
             have c22b0 := decide_eq_true c22; clear c22; obtain ⟨y1080, hy1080⟩ : ∃ y_ : List (S104), y_ = (x5_3.set (x7_3 : Int).toNat (⟨t1078, t1079⟩ : S104)) := ⟨_, rfl⟩
             (first | (rw [← hy1080] at H; with_reducible replace H := bindZ H) | rw [← hy1080] at H | skip)
             have Ny1080 := am_ hy1080; clear hy1080; have H' := am_ H; clear H; obtain ⟨Ao24, co24, eo24⟩ := Kd.R_slice HO_5.out; subst eo24
             go_wp2_with (first | ((with_reducible refine gate_callee (f := 86) rfl ?_); refine gZ 45 Try.func86 #[] ?_; (with_reducible refine (laws_fillerBar.calls  t1078 t1079 _ A21.out).mono ?_); rintro e w25 ⟨rfl, hb⟩; refine ⟨_, rfl, ?_⟩; replace HO_5 := (hbZ HO_5 hb); replace HB := (bsZ Zd hb); clear hb; have p23 : 0 ≤ (x7_3 : Int) := of_decide_eq_true Zn; have q23 : (x7_3 : Int) < ((x5_3.length : Int) : Int) := of_decide_eq_true Zn; obtain ⟨go23, co23, eo23, gb23, gl23, cl23, HG23⟩ := Kd.R_form HO_5.out (by omega); (first | cases eo23 | (injection eo23 with ea_ en_ ec_; (first | subst ea_ | (injection ea_ with ea_; subst ea_)); subst ec_; clear en_)); have GB23 := am_ gb23; have GG23 := am_ HG23; clear gb23 gl23 HG23; obtain ⟨ce23, hcl23, hM23, hcc23, hfr23⟩ := Kd.R_elem HO_5.out z104 (x7_3 : Int) p23 q23; obtain rfl := k104_openM hM23; have hx23_0 : w25.cell? ⟨go23, (x7_3 : Int).toNat * 2, none⟩ = some (.int .i64 ((rd_T104 x5_3 x7_3).f0)) := hcc23 0 _ rfl; have hx23_1 : w25.cell? ⟨go23, (x7_3 : Int).toNat * 2 + 1, none⟩ = some (.int .i64 ((rd_T104 x5_3 x7_3).f1)) := hcc23 1 _ rfl; have hf23_0 : w25.frozen? ⟨go23, (x7_3 : Int).toNat * 2, none⟩ = false := hfr23 0; have hf23_1 := hfr23 1; clear hcl23 hcc23 hfr23 hM23; replace p23 := eq_true p23; replace q23 := eq_true q23; have HX26 := am_ (show Kd.R k104 104 w25 w.heap.size (fun _ => True) (.slice (some ⟨go23, 0, none⟩) x5_3.length co24) x5_3 from (Zo HO_5)); obtain ⟨ce26, hcl26, hM26, hcc26, hfr26⟩ := Kd.R_elem HX26.out z104 (x7_3 : Int) (of_decide_eq_true Zn) (by have h_ : (x7_3 : Int) < ((x5_3.length : Int) : Int) := of_decide_eq_true Zn; first | exact h_ | (have e_ := (Kd.R_reads' HO_5.out).1; omega) | simpa using h_); obtain rfl := k104_openM hM26; have HP26 := Kd.R_seg HX26.out (x7_3 : Int) (of_decide_eq_true Zn) (by have h_ : (x7_3 : Int) < ((x5_3.length : Int) : Int) := of_decide_eq_true Zn; first | exact h_ | (have e_ := (Kd.R_reads' HO_5.out).1; omega) | simpa using h_) (seg := [.int .i64 t1078, .int .i64 t1079]) (j := 0) hcl26 hcc26 (show 2 ≤ 2 from (by decide)) (x' := (⟨t1078, t1079⟩ : S104)) (k104_mkM _ _ _ (⟨t1078, t1079⟩ : S104) ) (fun _ hk => hk); have hx26_0 := hcc26 0 _ rfl; (try simp only [show (k104).sz = 2 from rfl, Nat.mul_one, Nat.add_zero] at hx26_0); have hf26_0 := hfr26 0; (try simp only [show (k104).sz = 2 from rfl, Nat.mul_one, Nat.add_zero] at hf26_0); have hx26_1 := hcc26 1 _ rfl; (try simp only [show (k104).sz = 2 from rfl, Nat.mul_one, Nat.add_zero] at hx26_1); have hf26_1 := hfr26 1; (try simp only [show (k104).sz = 2 from rfl, Nat.mul_one, Nat.add_zero] at hf26_1); clear hcl26 hcc26 hfr26 hM26) | ((with_reducible refine gate_store (t := 104) (p := 46) rfl ?_); refine store_event (t := 104) (p := 46) (v := ?vo_w27) (w1 := ((w25.setCell ⟨go23, (x7_3 : Int).toNat * 2, none⟩ (.int .i64 t1078)).setCell ⟨go23, (x7_3 : Int).toNat * 2 + 1, none⟩ (.int .i64 t1079))) ?hg ?ho ?hn ?hr ?_; (case ho => rfl); (case hg => rfl); (case hn => rfl); (case hr => first | (go_simp; done) | (go_simp; rfl)); intro w27 hw; have hg : w25.grownBy w27 (some go23) := (by rw [hw]; exact HP26.2); have hp_ : Kd.R k104 104 w27 w.heap.size (fun _ => True) (.slice (some ⟨go23, 0, none⟩) x5_3.length co24) y1080 := (by rw [hw, Ny1080.out]; exact HP26.1); clear HP26; replace HO_5 := am_ (hp_); replace HB := am_ ((by rw [hw]; exact below_set (below_set (HB.out) GB23.out) GB23.out : Below w.heap.size w w27)); clear hg hw hp_))
             go_roundg k3
             case measure => have := HJ2.out; have := HK2.out; have := HK3.out; omega
             case rel => exact ⟨(y1080), (wrap64 (x7_3 + 1)), Za, H', ⟨Zp⟩, ⟨(Zo HO_5)⟩, ⟨Zd⟩⟩
            ·rw [if_neg c22] at H
             exact absurd H (by simp)
           ·rw [if_neg c20] at H
            have c20b0 := decide_eq_false c20; clear c20
            by_cases c28 : 0 ≤ (l0.length : Int)
            ·rw [if_pos c28] at H
             have c28b0 := eq_true c28; have c28b1 := decide_eq_true c28; clear c28
             by_cases c29 : (l0.length : Int) ≤ (x5_3.length : Int)
             ·rw [if_pos c29] at H
              have c29b0 := eq_true c29; have c29b1 := decide_eq_true c29; clear c29; have HE_ := am_ (Option.some.inj H); clear H; obtain ⟨Ao30, co30, eo30⟩ := Kd.R_slice HO_5.out; subst eo30; have q31 : ((l0.length : Int) : Int) ≤ ((x5_3.length : Int) : Int) := of_decide_eq_true Zn; obtain ⟨i031, hi031, _, hsz31, _⟩ := info_parts info104; have hcut31 := cut_to (P := Try.prog) 31 104 .i64 Try.underlying31 hi031 Ao30 x5_3.length co30 (l0.length : Int) (of_decide_eq_true Zn) q31 (Kd.R_reads' HO_5.out).2.1; have hz_ : ((l0.length : Int) : Int).toNat = l0.length := Int.toNat_natCast _; rw [hz_] at hcut31; clear hi031 hsz31 hz_; have HL_ := am_ (show l0.length ≤ x5_3.length by omega); replace q31 := eq_true q31
              go_wp2
              go_ret
              exact ⟨_, rfl, (fun _ => ⟨_, _, rfl, (by rw [← HE_.out]; exact HL_.out), (Zv HO_5)⟩), Zd⟩
             ·rw [if_neg c29] at H
              exact absurd H (by simp)
            ·rw [if_neg c28] at H
             exact absurd H (by simp)
     ·rw [if_neg c9] at H
      exact absurd H (by simp)
    ·rw [if_neg c8] at H
     exact absurd H (by simp)
 
def T_intactBarS : Bool × List (List Nat × List Nat) := (true, [([], []), ([0], [0]), ([], []), ([2], [2]), ([1, 3], [1, 3]), ([4], [4]), ([5], [5]), ([5], [5]), ([6, 7, 5], [5, 6, 7]), ([5], [5]), ([5], [5]), ([9, 10, 5], [5, 9, 10]), ([8, 11, 5, 5], [5, 8, 11]), ([5, 12], [5, 12]), ([13, 12, 0, 1, 2, 3, 4, 5, 6, 7, 8, 9, 10, 11, 12, 13], [13])])
def B_intactBarS : List Nat := [0, 1, 0, 4, 15, 31, 63, 63, 255, 63, 63, 1599, 4095, 8191, 16383]
theorem tab_intactBarS : rtab .any (opsOf Try.f50 2) = T_intactBarS := by kernel_rfl
theorem bits_intactBarS : waitsOk T_intactBarS.2 B_intactBarS = true := by kernel_rfl
set_option maxHeartbeats 8000000 in
set_option maxRecDepth 100000 in
theorem same_intactBarS (k n : Nat) (A0 : Option Addr) (c0 : Nat) (A1 : Option Addr) (c1 : Nat) (L : List S104) (t : Int) (w : World) (hr0 : Kd.C k104 w A0 L.length L) (hc0 : L.length ≤ c0) (hr1 : Kd.C k104 w A1 L.length L) (hc1 : L.length ≤ c1)
    (ht : laws_roomBehind.f (n : Int) = some t) (hj : wrap64 ((n : Int) + t) = (L.length : Int)) (he : laws_eqBarS.f k L L = some true) :
    Calls Try.prog 50 #[.slice A0 n c0, .slice A1 n c1] w fun e w' => e = .returned (.bool true) ∧ Below w.heap.size w w' := by
  have HR0 := am_ hr0; have HC0 := am_ hc0; clear hr0 hc0; have HR1 := am_ hr1; have HC1 := am_ hc1; clear hr1 hc1; have HB := am_ (Below.refl w.heap.size w); have A3 := am_ ht; have A10 := am_ he; clear ht he; obtain ⟨ji5, hji⟩ : ∃ j_ : Int, (L.length : Int) = j_ := ⟨_, rfl⟩; rw [hji] at hj; have hji5w : (IntKind.i64.wrap ((n : Int) + t)) = ji5 := (i64_w _).trans hj; have hji5 := hj; clear hj; obtain ⟨i012, hi012, _, hsz12, _⟩ := info_parts info104; have hcut12 := cut_cap (P := Try.prog) 31 104 .i64 Try.underlying31 hi012 A0 n c0 ji5 (by omega) (by have := HC0.out; omega); have hcut13 := cut_cap (P := Try.prog) 31 104 .i64 Try.underlying31 hi012 A1 n c1 ji5 (by omega) (by have := HC1.out; omega)
  have hL : ji5.toNat = L.length := by omega
  rw [hL] at hcut12 hcut13; clear hL hi012 hsz12 hji
  go_enter Try.func50, Try.ntmps50
  go_wp2_with (first | ((with_reducible refine gate_callee (f := 84) rfl ?_); refine gZ 10 Try.func84 #[.int .i64 (n : Int)] ?_; (with_reducible refine (laws_roomBehind.calls (n : Int) t _ A3.out).mono ?_); rintro e w' ⟨rfl, ⟨nd, rfl⟩⟩; refine ⟨_, rfl, ?_⟩))
  replace HB := am_ (below_drew1 (pw_below_drewN HB.out nd)); refine start_ (n := 15) (S := fun w' => True) (ds := []) (bT 15 0) Zi rfl rfl trivial (fun hHeld => ?_); refine with_tabW tab_intactBarS bits_intactBarS (fun HT_ HW_ => ?_); generalize (w.drewN nd).drew = w11 at HB hHeld ⊢; refine pure_ (i := 0) (N := some 12) (v := ?_) (a' := ?_) (bT 15 1) rfl rfl (any_of HT_.out Zi) (fun _ _ _ h => h) (Or.inl ⟨by rfl, ?_⟩) ?_ ?_; rotate_left
  · intro w'
    go_simp
    with_reducible rfl
  rotate_left
  · simp only [Act.put, List.setIfInBounds_toArray, List.set_cons_zero, List.set_cons_succ, i64_w, i32_w]
    rfl
  refine pure_ (i := 1) (N := some 13) (v := ?_) (a' := ?_) (bT 15 2) rfl rfl (any_of HT_.out Zi) (fun _ _ _ h => h) (Or.inl ⟨by rfl, ?_⟩) ?_ ?_; rotate_left
  · intro w'
    go_simp
    with_reducible rfl
  rotate_left
  · simp only [Act.put, List.setIfInBounds_toArray, List.set_cons_zero, List.set_cons_succ, i64_w, i32_w]
    rfl
  refine pure_ (i := 2) (N := some 14) (v := ?_) (a' := ?_) (bT 15 3) rfl rfl (any_of HT_.out Zi) (fun _ _ _ h => h) (Or.inl ⟨by rfl, ?_⟩) ?_ ?_; rotate_left
  · intro w'
    go_simp
    with_reducible rfl
  rotate_left
  · simp only [Act.put, List.setIfInBounds_toArray, List.set_cons_zero, List.set_cons_succ, i64_w, i32_w]
    rfl
  refine pure_ (i := 3) (N := some 15) (v := ?_) (a' := ?_) (bT 15 4) rfl rfl (any_of HT_.out Zi) (fun _ _ _ h => h) (Or.inl ⟨by rfl, ?_⟩) ?_ ?_; rotate_left
  · intro w'
    go_simp
    with_reducible rfl
  rotate_left
  · simp only [Act.put, List.setIfInBounds_toArray, List.set_cons_zero, List.set_cons_succ, i64_w, i32_w]
    rfl
  refine pure_ (i := 4) (N := some 16) (v := ?_) (a' := ?_) (bT 15 5) rfl rfl (any_of HT_.out Zi) (fun _ _ _ h => h) (Or.inl ⟨by rfl, ?_⟩) ?_ ?_; rotate_left
  · intro w'
    go_simp
    with_reducible rfl
  rotate_left
  · simp only [Act.put, List.setIfInBounds_toArray, List.set_cons_zero, List.set_cons_succ, i64_w, i32_w]
    rfl
  refine pure_ (i := 5) (N := some 17) (v := ?_) (a' := ?_) (bT 15 6) rfl rfl (any_of HT_.out Zi) (fun _ _ _ h => h) (Or.inl ⟨by rfl, ?_⟩) ?_ ?_; rotate_left
  · intro w'
    go_simp
    with_reducible rfl
  rotate_left
  · simp only [Act.put, List.setIfInBounds_toArray, List.set_cons_zero, List.set_cons_succ, i64_w, i32_w]
    rfl
  refine pure_ (i := 6) (N := some 18) (v := ?_) (a' := ?_) (bT 15 7) rfl rfl (any_of HT_.out Zi) (fun _ _ _ h => h) (Or.inl ⟨by rfl, ?_⟩) ?_ ?_; rotate_left
  · intro w'
    go_simp
    with_reducible rfl
  rotate_left
  · simp only [Act.put, List.setIfInBounds_toArray, List.set_cons_zero, List.set_cons_succ, i64_w, i32_w]
    rfl
  refine pure_ (i := 7) (N := some 19) (v := ?_) (a' := ?_) (bT 15 8) rfl rfl (any_of HT_.out Zi) (fun _ _ _ h => h) (Or.inl ⟨by rfl, ?_⟩) ?_ ?_; rotate_left
  · intro w'
    go_simp
    with_reducible rfl
  rotate_left
  · simp only [Act.put, List.setIfInBounds_toArray, List.set_cons_zero, List.set_cons_succ, i64_w, i32_w]
    rfl
  refine pure_ (i := 8) (N := some 20) (v := ?_) (a' := ?_) (bT 15 9) rfl rfl (any_of HT_.out Zi) (fun _ _ _ h => h) (Or.inl ⟨by rfl, ?_⟩) ?_ ?_; rotate_left
  · intro w'
    go_simp
    with_reducible rfl
  rotate_left
  · simp only [Act.put, List.setIfInBounds_toArray, List.set_cons_zero, List.set_cons_succ, i64_w, i32_w]
    rfl
  refine pure_ (i := 9) (N := some 21) (v := ?_) (a' := ?_) (bT 15 10) rfl rfl (any_of HT_.out Zi) (fun _ _ _ h => h) (Or.inl ⟨by rfl, ?_⟩) ?_ ?_; rotate_left
  · intro w'
    go_simp
    with_reducible rfl
  rotate_left
  · simp only [Act.put, List.setIfInBounds_toArray, List.set_cons_zero, List.set_cons_succ, i64_w, i32_w]
    rfl
  refine pure_ (i := 10) (N := some 22) (v := ?_) (a' := ?_) (bT 15 11) rfl rfl (any_of HT_.out Zi) (fun _ _ _ h => h) (Or.inl ⟨by rfl, ?_⟩) ?_ ?_; rotate_left
  · intro w'
    go_simp
    with_reducible rfl
  rotate_left
  · simp only [Act.put, List.setIfInBounds_toArray, List.set_cons_zero, List.set_cons_succ, i64_w, i32_w]
    rfl
  refine pure_ (i := 11) (N := some 23) (v := ?_) (a' := ?_) (bT 15 12) rfl rfl (any_of HT_.out Zi) (fun _ _ _ h => h) (Or.inl ⟨by rfl, ?_⟩) ?_ ?_; rotate_left
  · intro w'
    go_simp
    with_reducible rfl
  rotate_left
  · simp only [Act.put, List.setIfInBounds_toArray, List.set_cons_zero, List.set_cons_succ, i64_w, i32_w]
    rfl
  refine one_ (i := 12) (N := some 24) (bT 15 13) rfl rfl (one_of HT_.out Zi) (by decide) (fun K hK => ?_); refine goes_ Try.func91 Zi rfl #[.slice A0 L.length c0, .slice A1 L.length c1] (by rfl) rfl rfl (by (try simp only [List.map_toArray, List.map_cons, List.map_nil]); first | done | rfl) ?_
  with_reducible refine (laws_eqBarS.calls k _ _ L _ _ L true _ (Kd.C_below HR0.out HB.out) HC0.out (Kd.C_below HR1.out HB.out) HC1.out A10.out).mono ?_
  rintro e w14 ⟨rfl, hb⟩; refine ⟨_, rfl, ?_⟩; replace HB := (bsZ HB.out hb); clear hb; refine hK.out _ _ trivial (fun hHeld => ?_); clear hK K; refine normZ 24 ?_; refine pure_ (i := 13) (N := some 25) (v := ?_) (a' := ?_) (bT 15 14) rfl rfl (any_of HT_.out Zi) (fun _ _ _ h => h) (Or.inl ⟨by rfl, ?_⟩) ?_ ?_; rotate_left
  · intro w'
    go_simp
    with_reducible rfl
  rotate_left
  · simp only [Act.put, List.setIfInBounds_toArray, List.set_cons_zero, List.set_cons_succ, i64_w, i32_w]
    rfl
  refine pure_ (i := 14) (N := some 4) (v := ?_) (a' := ?_) (bT 15 15) rfl rfl (any_of HT_.out Zi) (fun _ _ _ h => h) (Or.inl ⟨by rfl, ?_⟩) ?_ ?_; rotate_left
  · intro w'
    go_simp
    with_reducible rfl
  rotate_left
  · simp only [Act.put, List.setIfInBounds_toArray, List.set_cons_zero, List.set_cons_succ, i64_w, i32_w]
    rfl
  refine done_ (done_of HT_.out Zi) ?_
  try go_wp2
  go_ret
  exact ⟨rfl, HB.out⟩
theorem one106 : Try.prog.cellsOf 2 = 1 := by kernel_rfl
theorem size106 : Try.prog.cellsOf 106 = 2 := by kernel_rfl
def Pr106 (x : S106) : Prop := I64 x.f0 ∧ I64 x.f1
theorem open_S106 {H : Type} {enc : TypeId × Value → H} {W : World} {base : Nat} {sp : Nat → Bool} {held : Bool} {fuel : Nat} {cs : List Value} {y : DataW H × List MemPlace} (h : DataW.trod enc Try.prog W base sp held fuel 106 cs = some y) (w : World) : ∃ a : S106, k106.K w a cs ∧ Pr106 a := by
  obtain ⟨xs, n, _, rfl, hl, hlen, hf⟩ := DataW.trod_struct Try.underlying106 h; rw [size106] at hl; obtain ⟨v0, e0, _, w0⟩ := DataW.trod_int Try.underlying2 ((hf 0 _ rfl).trans (List.getElem?_eq_getElem Zw)); have g0 : cs[0]? = some (.int .i64 v0) := one_cell (by have z : List.take (Try.prog.cellsOf 2) (List.drop 0 cs) = [.int .i64 v0] := e0; rw [one106] at z; exact z); obtain ⟨v1, e1, _, w1⟩ := DataW.trod_int Try.underlying2 ((hf 1 _ rfl).trans (List.getElem?_eq_getElem Zw)); have g1 : cs[1]? = some (.int .i64 v1) := one_cell (by have z : List.take (Try.prog.cellsOf 2) (List.drop 1 cs) = [.int .i64 v1] := e1; rw [one106] at z; exact z)
  have hcs : cs = [.int .i64 v0, .int .i64 v1] := by
    apply List.ext_getElem?
    intro i
    match i with
    | 0 => exact g0
    | 1 => exact g1
    | i + 2 => rw [List.getElem?_eq_none (by omega)]; rfl
  subst hcs; exact ⟨⟨v0, v1⟩, k106_mk w _, I64_of w0, I64_of w1⟩
end Go.Proofs.Ytmnnbmdfepogiaa.F
namespace Go.Proofs.Ytmnnbmdfepogiaa.F
open Go.RowKit Go.Proofs.YtmnnbmdfepogiaaW.PrintWords Go.Proofs.YtmnnbmdfepogiaaW.PrintLast Go.Proofs.YtmnnbmdfepogiaaW.PrintMore
attribute [local go_sem] max2_int min2_int max_two min_two max_three min_three max_four min_four
set_option linter.unusedVariables false
set_option linter.unusedSimpArgs false
def laws_markText.l0 : Nat → Int → ByteArray → Option (ByteArray)
 | 0, _, _ => none
 | k + 1, x0, x3 => if x0 > 0 then ((some (([(wrap64 (48 + (Int.tmod x0 10))) % 256] : List Int) : List Int)).bind fun y1204 => (if (strOfNums y1204).size + x3.size ≤ 9223372036854775807 then (laws_markText.l0 k (wrap64 (Int.tdiv x0 10)) ((strOfNums y1204) ++ x3)) else (none))) else (if 1 + x3.size ≤ 9223372036854775807 then (some ((⟨#[109]⟩ : ByteArray) ++ x3)) else (none))
def laws_markText.f (k : Nat) (a0 : Int) : Option (ByteArray) := if a0 ≤ 0 then (some (⟨#[109, 48]⟩ : ByteArray)) else (laws_markText.l0 k a0 (⟨#[]⟩ : ByteArray))
theorem laws_markText.mono_l : ∀ k, (∀ y0 y1, LeO (laws_markText.l0 k y0 y1) (laws_markText.l0 (k + 1) y0 y1))
 | 0 => fun _ _ r h => by simp [laws_markText.l0] at h
 | k + 1 => by
  have ih0 := laws_markText.mono_l k
  ·intro y0 y1
   unfold laws_markText.l0
   repeat' first
   | (with_reducible exact ih0 _ _)
   | (with_reducible exact LeO.refl _)
   | (with_reducible exact LeO.none _)
   | (with_reducible refine LeO.ite ?_ ?_)
   | (with_reducible refine LeO.bind ?_ (fun _ => ?_))
   | exact ih0 _ _
   | exact LeO.none _
   | refine LeO.ite ?_ ?_
   | refine LeO.bind ?_ (fun _ => ?_)
theorem laws_markText.mono : ∀ a0 k, LeO (laws_markText.f k a0) (laws_markText.f (k + 1) a0) := by
 intro a0 k; have ih0 := laws_markText.mono_l k
 unfold laws_markText.f
 repeat' first
   | (with_reducible exact ih0 _ _)
   | (with_reducible exact LeO.refl _)
   | (with_reducible exact LeO.none _)
   | (with_reducible refine LeO.ite ?_ ?_)
   | (with_reducible refine LeO.bind ?_ (fun _ => ?_))
   | exact ih0 _ _
   | exact LeO.none _
   | refine LeO.ite ?_ ?_
   | refine LeO.bind ?_ (fun _ => ?_)
set_option maxHeartbeats 8000000 in
set_option maxRecDepth 100000 in
theorem laws_markText.calls (k : Nat) (a0 : Int) (r : ByteArray) (w : World) (h : laws_markText.f k a0 = some r) :
  Calls Try.prog 94 #[.int .i64 a0] w fun e w' => e = .returned (.string r) ∧ Below w.heap.size w w' := by
 have HB := am_ (Below.refl w.heap.size w); have H : (if a0 ≤ 0 then (some (⟨#[109, 48]⟩ : ByteArray)) else (laws_markText.l0 k a0 (⟨#[]⟩ : ByteArray))) = some r := h; clear h
 by_cases c2 : a0 ≤ 0
 ·rw [if_pos c2] at H
  have c2b0 := decide_eq_true c2; clear c2; obtain rfl := Option.some.inj H
  go_enter Try.func94, Try.ntmps94
  go_wp2
  go_ret
  exact ⟨Zj, Zd⟩
 ·rw [if_neg c2] at H
  have c2b0 := decide_eq_false c2; clear c2; have H' := am_ H; clear H
  go_enter Try.func94, Try.ntmps94
  go_wp2
  go_loopg [0, 3] k (fun kq v0 v3 w' => ∃ (x0_1 : Int) (x3_1 : ByteArray), v0 = .int .i64 x0_1 ∧ v3 = .string x3_1 ∧ Aside0 (laws_markText.l0 kq x0_1 x3_1 = some r) ∧ Aside0 (kq ≤ k) ∧ Aside0 (Below w.heap.size w w'))
  case atStart => exact ⟨(a0), ((⟨#[]⟩ : ByteArray)), Za, Za, H', ⟨Nat.le_refl _⟩, ⟨Zd⟩⟩
  case round =>
   clear H'
   try clear c2
   try clear c2b0
   try clear p2
   obtain ⟨x0_1, x3_1, rfl, rfl, HA, HK1, HB⟩ := hrel
   cases gk with
   | zero => exact absurd HA.out (by simp [laws_markText.l0])
   | succ k1 =>
    have H := HA.out; clear HA; simp only [laws_markText.l0] at H
    by_cases c3 : x0_1 > 0
    ·rw [if_pos c3] at H
     have c3b0 : decide (0 < x0_1) = true := decide_eq_true c3; clear c3; obtain ⟨y1204, hy1204⟩ : ∃ y_ : List Int, y_ = (([(wrap64 (48 + (Int.tmod x0_1 10))) % 256] : List Int)) := ⟨_, rfl⟩
     (first | (rw [← hy1204] at H; with_reducible replace H := bindZ H) | rw [← hy1204] at H | skip)
     have Ny1204 := am_ hy1204; clear hy1204
     by_cases c4 : (strOfNums y1204).size + x3_1.size ≤ 9223372036854775807
     ·rw [if_pos c4] at H
      have c4b0 := eq_true c4; have c4b1 := decide_eq_true c4
      try have c4b2 : (9223372036854775807 < (strOfNums y1204).size + x3_1.size) = False := eq_false (Nat.not_lt.2 c4)
      have H' := am_ H; clear H
      go_wp2_with (first | ((with_reducible refine gate_dst (N := 12) rfl ?_); refine Kd.R_lit (Kd.int .u8) _ 5 ?hg (N := 12) ?hd (xs := ([(wrap64 (48 + (Int.tmod x0_1 10))) % 256] : List Int)) (inner := [.int .u8 ((wrap64 (48 + (Int.tmod x0_1 10))) % 256)]) (ok := fun _ => True) (okp := fun _ => True) ?hr ?hp (fun _ hk => hk) trivial (Below.refl _ _) (Nat.le_refl _) (by simp) ?_; (case hd => rfl); (case hg => rfl); (case hr => first | (go_simp; done) | (go_simp; rfl)); (case hp => exact (Reps.one (show Kd.M (Kd.int .u8) _ _ _ ((wrap64 (48 + (Int.tmod x0_1 10))) % 256) [.int .u8 ((wrap64 (48 + (Int.tmod x0_1 10))) % 256)] from rfl) (Reps.none _ _))); intro v1205 w5 ho6 hb hg_ hnew_; clear hg_ hnew_; (first | rw [← Ny1204.out] at ho6 | (simp only [Int.reduceToNat] at ho6; rw [← Ny1204.out] at ho6)); replace HO1206 := am_ (Kd.R_lower ho6 (below_size Zd)); replace HB := (bsZ Zd hb); clear hb ho6; have hcv7 := own_string (P := Try.prog) Try.underlying48 Try.underlying5 Try.underlying9 (Kd.own_of_R HO1206.out)))
      go_roundg k1
      case measure => have := HK1.out; omega
      case rel => exact ⟨(wrap64 (Int.tdiv x0_1 10)), ((strOfNums y1204) ++ x3_1), Za, Za, H', ⟨Zs⟩, ⟨Zd⟩⟩
     ·rw [if_neg c4] at H
      exact absurd H (by simp)
    ·rw [if_neg c3] at H
     have c3b0 : decide (0 < x0_1) = false := decide_eq_false c3; clear c3
     by_cases c8 : 1 + x3_1.size ≤ 9223372036854775807
     ·rw [if_pos c8] at H
      have c8b0 := eq_true c8; have c8b1 := decide_eq_true c8
      try have c8b2 : (9223372036854775807 < 1 + x3_1.size) = False := eq_false (Nat.not_lt.2 c8)
      obtain rfl := Option.some.inj H
      go_wp2
      go_ret
      exact ⟨Zj, Zd⟩
     ·rw [if_neg c8] at H
      exact absurd H (by simp)
def laws_szArticle.f (a0_0 : ByteArray) (a0_1 : Int) (a0_2 : Int) (a0_3 : Int) (a0_4 : Int) (a0_5 : Int) (a0_6 : Int) (a0_7 : Int) (a0_8 : Int) (a1 : Int) : Option (Int) := if (wrap64 (a1 - (a0_0.size : Int))) < 0 then (some (-1)) else (some (wrap64 (a1 - (a0_0.size : Int))))
set_option maxHeartbeats 8000000 in
set_option maxRecDepth 100000 in
theorem laws_szArticle.calls (a0_0 : ByteArray) (a0_1 : Int) (a0_2 : Int) (a0_3 : Int) (a0_4 : Int) (a0_5 : Int) (a0_6 : Int) (a0_7 : Int) (a0_8 : Int) (a1 : Int) (r : Int) (w : World) (h : laws_szArticle.f a0_0 a0_1 a0_2 a0_3 a0_4 a0_5 a0_6 a0_7 a0_8 a1 = some r) :
  Calls Try.prog 80 #[.agg #[.string a0_0, .int .i64 a0_1, .int .i64 a0_2, .int .i64 a0_3, .int .i64 a0_4, .int .i64 a0_5, .int .i64 a0_6, .int .i64 a0_7, .int .i64 a0_8], .int .i64 a1] w fun e w' => e = .returned (.int .i64 r) ∧ Below w.heap.size w w' := by
 have hu99 := Try.underlying99; have HB := am_ (Below.refl w.heap.size w); have H : (if (wrap64 (a1 - (a0_0.size : Int))) < 0 then (some (-1)) else (some (wrap64 (a1 - (a0_0.size : Int))))) = some r := h; clear h
 by_cases c3 : (wrap64 (a1 - (a0_0.size : Int))) < 0
 ·rw [if_pos c3] at H
  have c3b0 := decide_eq_true c3; clear c3; obtain rfl := Option.some.inj H
  go_enter Try.func80, Try.ntmps80
  go_wp2_with (first | ((with_reducible refine gate_dst (N := 2) rfl ?_); refine boxZ 2 #[.string a0_0, .int .i64 a0_1, .int .i64 a0_2, .int .i64 a0_3, .int .i64 a0_4, .int .i64 a0_5, .int .i64 a0_6, .int .i64 a0_7, .int .i64 a0_8] 99 ?_; intro gb1056 hg w4 hbox hb; replace BK1056 := am_ (hbox); replace GW1056 := am_ ((Zc : w.heap.size ≤ gb1056)); replace GE1056 := GW1056; replace HB := (bsZ Zd hb); clear hb hbox hg; refine ci9 BK1056 ?_; intros))
  go_ret
  exact ⟨Zj, (Zf GE1056)⟩
 ·rw [if_neg c3] at H
  have c3b0 := decide_eq_false c3; clear c3; obtain rfl := Option.some.inj H
  go_enter Try.func80, Try.ntmps80
  go_wp2_with (first | ((with_reducible refine gate_dst (N := 2) rfl ?_); refine boxZ 2 #[.string a0_0, .int .i64 a0_1, .int .i64 a0_2, .int .i64 a0_3, .int .i64 a0_4, .int .i64 a0_5, .int .i64 a0_6, .int .i64 a0_7, .int .i64 a0_8] 99 ?_; intro gb1056 hg w6 hbox hb; replace BK1056 := am_ (hbox); replace GW1056 := am_ ((Zc : w.heap.size ≤ gb1056)); replace GE1056 := GW1056; replace HB := (bsZ Zd hb); clear hb hbox hg; refine ci9 BK1056 ?_; intros))
  go_ret
  exact ⟨Zj, (Zf GE1056)⟩
 /-! ### laws_szArticleS: function 41 -/
def laws_szArticleS.l0 : Nat → List (S99) → Int → Int → Option (Int)
 | 0, _, _, _ => none
 | k + 1, x0, x1, x5 => if x5 < (x0.length : Int) then (if 0 ≤ x5 then ((laws_szArticle.f ((rd_T99 x0 x5).f0) ((rd_T99 x0 x5).f1) ((rd_T99 x0 x5).f2) ((rd_T99 x0 x5).f3) ((rd_T99 x0 x5).f4) ((rd_T99 x0 x5).f5) ((rd_T99 x0 x5).f6) ((rd_T99 x0 x5).f7) ((rd_T99 x0 x5).f8) x1).bind fun t1058 => (if t1058 < 0 then (some (-1)) else (laws_szArticleS.l0 k x0 t1058 (wrap64 (x5 + 1))))) else (none)) else (some x1)
def laws_szArticleS.f (k : Nat) (l0 : List (S99)) (a1 : Int) : Option (Int) := if (wrap64 (a1 - (l0.length : Int))) < 0 then (some (-1)) else (laws_szArticleS.l0 k l0 (wrap64 (a1 - (l0.length : Int))) 0)
set_option maxHeartbeats 8000000 in
set_option maxRecDepth 100000 in
theorem laws_szArticleS.calls (k : Nat) (A0 : Option Addr) (c0 : Nat) (l0 : List (S99)) (a1 : Int) (r : Int) (w : World) (hr0 : Kd.C k99 w A0 l0.length l0) (hc0 : l0.length ≤ c0) (h : laws_szArticleS.f k l0 a1 = some r) :
  Calls Try.prog 41 #[.slice A0 l0.length c0, .int .i64 a1] w fun e w' => e = .returned (.int .i64 r) ∧ Below w.heap.size w w' := by
 have hu99 := Try.underlying99; have HR0 := am_ hr0; have HC0 := am_ hc0; clear hr0 hc0; have HB := am_ (Below.refl w.heap.size w); have H : (if (wrap64 (a1 - (l0.length : Int))) < 0 then (some (-1)) else (laws_szArticleS.l0 k l0 (wrap64 (a1 - (l0.length : Int))) 0)) = some r := h; clear h
 by_cases c3 : (wrap64 (a1 - (l0.length : Int))) < 0
 ·rw [if_pos c3] at H
  have c3b0 := decide_eq_true c3; clear c3; obtain rfl := Option.some.inj H
  go_enter Try.func41, Try.ntmps41
  go_wp2
  go_ret
  exact ⟨Zj, Zd⟩
 ·rw [if_neg c3] at H
  have c3b0 := decide_eq_false c3; clear c3; have H' := am_ H; clear H
  go_enter Try.func41, Try.ntmps41
  go_wp2
  go_loopg [1, 5] k (fun kq v1 v5 w' => ∃ (x1_1 : Int) (x5_1 : Int), v1 = .int .i64 x1_1 ∧ v5 = .int .i64 x5_1 ∧ Aside0 (laws_szArticleS.l0 kq l0 x1_1 x5_1 = some r) ∧ Aside0 (kq ≤ k) ∧ Aside0 (Below w.heap.size w w'))
  case atStart => exact ⟨(wrap64 (a1 - (l0.length : Int))), (0), Za, Za, H', ⟨Nat.le_refl _⟩, ⟨Zd⟩⟩
  case round =>
   clear H'
   try clear p2
   try clear c3
   try clear c3b0
   obtain ⟨x1_1, x5_1, rfl, rfl, HA, HK1, HB⟩ := hrel
   cases gk with
   | zero => exact absurd HA.out (by simp [laws_szArticleS.l0])
   | succ k1 =>
    have H := HA.out; clear HA; simp only [laws_szArticleS.l0] at H
    by_cases c4 : x5_1 < (l0.length : Int)
    ·rw [if_pos c4] at H
     have c4b0 := decide_eq_true c4; clear c4
     by_cases c5 : 0 ≤ x5_1
     ·rw [if_pos c5] at H
      have c5b0 := decide_eq_true c5; clear c5; replace H := Option.bind_eq_some_iff.mp H; obtain ⟨t1058, A60, H⟩ := H; have A6 := am_ A60; clear A60; have HS_ := am_ H; clear H; have p1057 : 0 ≤ (x5_1 : Int) := of_decide_eq_true Zn; have q1057 : x5_1 < (l0.length : Int) := of_decide_eq_true Zn; obtain ⟨ad1057, e1057, hx1057_0, hx1057_1, hx1057_2, hx1057_3, hx1057_4, hx1057_5, hx1057_6, hx1057_7, hx1057_8⟩ := at_T99 HR0.out x5_1 p1057 q1057
      cases e1057
      replace hx1057_0 := cbH HB hx1057_0; replace hx1057_1 := cbH HB hx1057_1; replace hx1057_2 := cbH HB hx1057_2; replace hx1057_3 := cbH HB hx1057_3; replace hx1057_4 := cbH HB hx1057_4; replace hx1057_5 := cbH HB hx1057_5; replace hx1057_6 := cbH HB hx1057_6; replace hx1057_7 := cbH HB hx1057_7; replace hx1057_8 := cbH HB hx1057_8; replace p1057 := eq_true p1057; replace q1057 := eq_true q1057
      go_wp2_with (first | ((with_reducible refine gate_callee (f := 80) rfl ?_); refine gZ 23 Try.func80 #[.agg #[.string ((rd_T99 l0 x5_1).f0), .int .i64 ((rd_T99 l0 x5_1).f1), .int .i64 ((rd_T99 l0 x5_1).f2), .int .i64 ((rd_T99 l0 x5_1).f3), .int .i64 ((rd_T99 l0 x5_1).f4), .int .i64 ((rd_T99 l0 x5_1).f5), .int .i64 ((rd_T99 l0 x5_1).f6), .int .i64 ((rd_T99 l0 x5_1).f7), .int .i64 ((rd_T99 l0 x5_1).f8)], .int .i64 x1_1] ?_; (with_reducible refine (laws_szArticle.calls ((rd_T99 l0 x5_1).f0) ((rd_T99 l0 x5_1).f1) ((rd_T99 l0 x5_1).f2) ((rd_T99 l0 x5_1).f3) ((rd_T99 l0 x5_1).f4) ((rd_T99 l0 x5_1).f5) ((rd_T99 l0 x5_1).f6) ((rd_T99 l0 x5_1).f7) ((rd_T99 l0 x5_1).f8) x1_1 t1058 _ A6.out).mono ?_); rintro e w8 ⟨rfl, hb⟩; refine ⟨_, rfl, ?_⟩; replace HB := (bsZ Zd hb); clear hb; refine ?roundEnd))
      case roundEnd =>
       by_cases c7 : t1058 < 0
       ·have H := HS_.out
        clear HS_; rw [if_pos c7] at H; have c7b0 := decide_eq_true c7; clear c7; obtain rfl := Option.some.inj H
        go_wp2_with (first | fail)
        go_ret
        exact ⟨Zj, Zd⟩
       ·have H := HS_.out
        clear HS_; rw [if_neg c7] at H; have c7b0 := decide_eq_false c7; clear c7; have H' := am_ H; clear H
        go_wp2_with (first | fail)
        go_roundg k1
        case measure => have := HK1.out; omega
        case rel => exact ⟨(t1058), (wrap64 (x5_1 + 1)), Za, Za, H', ⟨Zs⟩, ⟨Zd⟩⟩
     ·rw [if_neg c5] at H
      exact absurd H (by simp)
    ·rw [if_neg c4] at H
     have c4b0 := decide_eq_false c4; clear c4; obtain rfl := Option.some.inj H
     go_wp2
     go_ret
     exact ⟨Zj, Zd⟩
 /-! ### laws_toArticle: function 87 -/
def laws_toArticle.f (a0_0 : ByteArray) (a0_1 : Int) (a0_2 : Int) (a0_3 : Int) (a0_4 : Int) (a0_5 : Int) (a0_6 : Int) (a0_7 : Int) (a0_8 : Int) : Option (ByteArray × Int × Int × Int × Int × Int × Int × Int × Int) := some (a0_0, a0_1, a0_2, a0_3, a0_4, a0_5, a0_6, a0_7, a0_8)
set_option maxHeartbeats 8000000 in
set_option maxRecDepth 100000 in
theorem laws_toArticle.calls (a0_0 : ByteArray) (a0_1 : Int) (a0_2 : Int) (a0_3 : Int) (a0_4 : Int) (a0_5 : Int) (a0_6 : Int) (a0_7 : Int) (a0_8 : Int) (r1 : ByteArray) (r2 : Int) (r3 : Int) (r4 : Int) (r5 : Int) (r6 : Int) (r7 : Int) (r8 : Int) (r9 : Int) (w : World) (h : laws_toArticle.f a0_0 a0_1 a0_2 a0_3 a0_4 a0_5 a0_6 a0_7 a0_8 = some (r1, r2, r3, r4, r5, r6, r7, r8, r9)) :
  Calls Try.prog 87 #[.agg #[.string a0_0, .int .i64 a0_1, .int .i64 a0_2, .int .i64 a0_3, .int .i64 a0_4, .int .i64 a0_5, .int .i64 a0_6, .int .i64 a0_7, .int .i64 a0_8]] w fun e w' => e = .returned (.agg #[.string r1, .int .i64 r2, .int .i64 r3, .int .i64 r4, .int .i64 r5, .int .i64 r6, .int .i64 r7, .int .i64 r8, .int .i64 r9]) ∧ Below w.heap.size w w' := by
 have hu99 := Try.underlying99; have hu61 := Try.underlying61; have HB := am_ (Below.refl w.heap.size w); have H : (some (a0_0, a0_1, a0_2, a0_3, a0_4, a0_5, a0_6, a0_7, a0_8)) = some (r1, r2, r3, r4, r5, r6, r7, r8, r9) := h; clear h; simp only [Option.some.injEq, Prod.mk.injEq] at H; obtain ⟨rfl, rfl, rfl, rfl, rfl, rfl, rfl, rfl, rfl⟩ := H
 go_enter Try.func87, Try.ntmps87
 go_wp2_with (first | ((with_reducible refine gate_dst (N := 1) rfl ?_); refine boxZ 1 #[.string a0_0, .int .i64 a0_1, .int .i64 a0_2, .int .i64 a0_3, .int .i64 a0_4, .int .i64 a0_5, .int .i64 a0_6, .int .i64 a0_7, .int .i64 a0_8] 99 ?_; intro gb1084 hg w2 hbox hb; replace BK1084 := am_ (hbox); replace GW1084 := am_ ((Zc : w.heap.size ≤ gb1084)); replace GE1084 := GW1084; replace HB := (bsZ Zd hb); clear hb hbox hg) | ((with_reducible refine gate_dst (N := 2) rfl ?_); refine boxZ 2 #[.string (⟨#[]⟩ : ByteArray), .int .i64 0, .int .i64 0, .int .i64 0, .int .i64 0, .int .i64 0, .int .i64 0, .int .i64 0, .int .i64 0] 61 ?_; intro gb1085 hg w3 hbox hb; replace BK1085 := am_ (hbox); replace GW1085 := am_ (((Ze GE1084) : w.heap.size ≤ gb1085)); replace GE1085 := GW1085; replace HB := (bsZ (Zf GE1084) hb); replace NB1084_1085 := am_ ((by rw [hg]; exact Nat.ne_of_lt (blk_lt (g := gb1084) (b0Z BK1084)) : gb1084 ≠ gb1085)); replace NB1085_1084 := am_ ((by rw [hg]; exact Nat.ne_of_gt (blk_lt (g := gb1084) (b0Z BK1084)) : gb1085 ≠ gb1084)); replace BK1084 := (bkZ BK1084 hb); clear hb hbox hg) | ((with_reducible refine gate_dst (N := 3) rfl ?_); refine boxZ 3 #[.string (⟨#[]⟩ : ByteArray), .int .i64 0, .int .i64 0, .int .i64 0, .int .i64 0, .int .i64 0, .int .i64 0, .int .i64 0, .int .i64 0] 61 ?_; intro gb1086 hg w4 hbox hb; replace BK1086 := am_ (hbox); replace GW1086 := am_ (((Zg GE1084 GE1085) : w.heap.size ≤ gb1086)); replace GE1086 := GW1086; replace HB := (bsZ (Zh GE1084 GE1085) hb); replace NB1084_1086 := am_ ((by rw [hg]; exact Nat.ne_of_lt (blk_lt (g := gb1084) (b0Z BK1084)) : gb1084 ≠ gb1086)); replace NB1086_1084 := am_ ((by rw [hg]; exact Nat.ne_of_gt (blk_lt (g := gb1084) (b0Z BK1084)) : gb1086 ≠ gb1084)); replace BK1084 := (bkZ BK1084 hb); replace NB1085_1086 := am_ ((by rw [hg]; exact Nat.ne_of_lt (blk_lt (g := gb1085) (b0Z BK1085)) : gb1085 ≠ gb1086)); replace NB1086_1085 := am_ ((by rw [hg]; exact Nat.ne_of_gt (blk_lt (g := gb1085) (b0Z BK1085)) : gb1086 ≠ gb1085)); replace BK1085 := (bkZ BK1085 hb); clear hb hbox hg; have hnb5 := NB1084_1085.out; have hnc5 := NB1085_1084.out; have hnb6 := NB1084_1086.out; have hnc6 := NB1086_1084.out; refine ci9 BK1084 ?_; intros; have hnb8 := NB1086_1085.out; have hnc8 := NB1085_1086.out; refine ci9 BK1086 ?_; intros; refine ci9 BK1085 ?_; intros))
 refine bodyPost_ret (results_cell_row rfl _ _ gb1085 61 #[.string a0_0, .int .i64 a0_1, .int .i64 a0_2, .int .i64 a0_3, .int .i64 a0_4, .int .i64 a0_5, .int .i64 a0_6, .int .i64 a0_7, .int .i64 a0_8] (0, 0) _ rfl (bmZ BK1085 NB1085_1086) Try.underlying61 rfl Zi) rfl ?_; exact ⟨Zj, (Zk GE1084 GE1085 GE1086)⟩
 /-! ### laws_fillerArticle: function 88 -/
def laws_fillerArticle.f  : Option (ByteArray × Int × Int × Int × Int × Int × Int × Int × Int) := some ((⟨#[126, 115, 112, 97, 114, 101, 126]⟩ : ByteArray), (-7000000000000000101), (-7000000000000000101), (-7000000000000000101), (-7000000000000000101), (-7000000000000000101), (-7000000000000000101), (-7000000000000000101), (-7000000000000000101))
set_option maxHeartbeats 8000000 in
set_option maxRecDepth 100000 in
theorem laws_fillerArticle.calls  (r1 : ByteArray) (r2 : Int) (r3 : Int) (r4 : Int) (r5 : Int) (r6 : Int) (r7 : Int) (r8 : Int) (r9 : Int) (w : World) (h : laws_fillerArticle.f  = some (r1, r2, r3, r4, r5, r6, r7, r8, r9)) :
  Calls Try.prog 88 #[] w fun e w' => e = .returned (.agg #[.string r1, .int .i64 r2, .int .i64 r3, .int .i64 r4, .int .i64 r5, .int .i64 r6, .int .i64 r7, .int .i64 r8, .int .i64 r9]) ∧ Below w.heap.size w w' := by
 have hu61 := Try.underlying61; have HB := am_ (Below.refl w.heap.size w); have H : (some ((⟨#[126, 115, 112, 97, 114, 101, 126]⟩ : ByteArray), (-7000000000000000101), (-7000000000000000101), (-7000000000000000101), (-7000000000000000101), (-7000000000000000101), (-7000000000000000101), (-7000000000000000101), (-7000000000000000101))) = some (r1, r2, r3, r4, r5, r6, r7, r8, r9) := h; clear h; simp only [Option.some.injEq, Prod.mk.injEq] at H; obtain ⟨rfl, rfl, rfl, rfl, rfl, rfl, rfl, rfl, rfl⟩ := H
 go_enter Try.func88, Try.ntmps88
 go_wp2_with (first | ((with_reducible refine gate_dst (N := 0) rfl ?_); refine boxZ 0 #[.string (⟨#[]⟩ : ByteArray), .int .i64 0, .int .i64 0, .int .i64 0, .int .i64 0, .int .i64 0, .int .i64 0, .int .i64 0, .int .i64 0] 61 ?_; intro gb1087 hg w1 hbox hb; replace BK1087 := am_ (hbox); replace GW1087 := am_ ((Zc : w.heap.size ≤ gb1087)); replace GE1087 := GW1087; replace HB := (bsZ Zd hb); clear hb hbox hg; refine ci9 BK1087 ?_; intros))
 refine bodyPost_ret (results_cell_row rfl _ _ gb1087 61 #[.string (⟨#[126, 115, 112, 97, 114, 101, 126]⟩ : ByteArray), .int .i64 (-7000000000000000101), .int .i64 (-7000000000000000101), .int .i64 (-7000000000000000101), .int .i64 (-7000000000000000101), .int .i64 (-7000000000000000101), .int .i64 (-7000000000000000101), .int .i64 (-7000000000000000101), .int .i64 (-7000000000000000101)] (0, 0) _ rfl (bpZ BK1087) Try.underlying61 rfl Zi) rfl ?_; exact ⟨Zj, (Zf GE1087)⟩
 /-! ### laws_toArticleS: function 47 -/
 mutual
def laws_toArticleS.j0 : Nat → List (S99) → Bool → Option ((List (S61)))
 | 0, _, _ => none
 | k + 1, x0, x13 => if x13 = true then (some ([] : List (S61))) else ((laws_roomBehind.f (x0.length : Int)).bind fun t1088 => (if 0 ≤ (wrap64 ((x0.length : Int) + t1088)) then (if (wrap64 ((x0.length : Int) + t1088) : Int).toNat ≤ 3518437208883 then (laws_toArticleS.l0 k x0 (List.replicate (wrap64 ((x0.length : Int) + t1088) : Int).toNat z61) 0) else (none)) else (none)))
def laws_toArticleS.l0 : Nat → List (S99) → List (S61) → Int → Option ((List (S61)))
 | 0, _, _, _ => none
 | k + 1, x0, x5, x6 => if x6 < (x0.length : Int) then (if 0 ≤ x6 then ((laws_toArticle.f ((rd_T99 x0 x6).f0) ((rd_T99 x0 x6).f1) ((rd_T99 x0 x6).f2) ((rd_T99 x0 x6).f3) ((rd_T99 x0 x6).f4) ((rd_T99 x0 x6).f5) ((rd_T99 x0 x6).f6) ((rd_T99 x0 x6).f7) ((rd_T99 x0 x6).f8)).bind fun bt1093 => (if x6 < (x5.length : Int) then (laws_toArticleS.l0 k x0 (x5.set (x6 : Int).toNat (⟨bt1093.1, bt1093.2.1, bt1093.2.2.1, bt1093.2.2.2.1, bt1093.2.2.2.2.1, bt1093.2.2.2.2.2.1, bt1093.2.2.2.2.2.2.1, bt1093.2.2.2.2.2.2.2.1, bt1093.2.2.2.2.2.2.2.2⟩ : S61)) (wrap64 (x6 + 1))) else (none))) else (none)) else (laws_toArticleS.l1 k x0 x5 (x0.length : Int))
def laws_toArticleS.l1 : Nat → List (S99) → List (S61) → Int → Option ((List (S61)))
 | 0, _, _, _ => none
 | k + 1, x0, x5, x7 => if x7 < (x5.length : Int) then ((laws_fillerArticle.f).bind fun bt1103 => (if 0 ≤ x7 then (laws_toArticleS.l1 k x0 (x5.set (x7 : Int).toNat (⟨bt1103.1, bt1103.2.1, bt1103.2.2.1, bt1103.2.2.2.1, bt1103.2.2.2.2.1, bt1103.2.2.2.2.2.1, bt1103.2.2.2.2.2.2.1, bt1103.2.2.2.2.2.2.2.1, bt1103.2.2.2.2.2.2.2.2⟩ : S61)) (wrap64 (x7 + 1))) else (none))) else (if 0 ≤ (x0.length : Int) then (if (x0.length : Int) ≤ (x5.length : Int) then (some (x5.take ((x0.length : Int) : Int).toNat)) else (none)) else (none))
end
def laws_toArticleS.f (k : Nat) (l0 : List (S99)) (a1 : Bool) : Option ((List (S61))) := if a1 = true then (laws_toArticleS.j0 k l0 ((l0.length : Int) == 0)) else (laws_toArticleS.j0 k l0 false)
set_option maxHeartbeats 8000000 in
set_option maxRecDepth 100000 in
theorem laws_toArticleS.calls (k : Nat) (A0 : Option Addr) (c0 : Nat) (l0 : List (S99)) (a1 : Bool) (r : List (S61)) (w : World) (hr0 : Kd.C k99 w A0 l0.length l0) (hc0 : l0.length ≤ c0) (h : laws_toArticleS.f k l0 a1 = some r) :
  Calls Try.prog 47 #[.slice A0 l0.length c0, .bool a1] w fun e w' => ∃ v0_ : Value, e = .returned (v0_) ∧ Kd.R k61 61 w' w.heap.size (fun _ => True) v0_ r ∧ Below w.heap.size w w' := by
 have hu99 := Try.underlying99; have hu61 := Try.underlying61; have HR0 := am_ hr0; have HC0 := am_ hc0; clear hr0 hc0; have HB := am_ (Below.refl w.heap.size w); have H : (if a1 = true then (laws_toArticleS.j0 k l0 ((l0.length : Int) == 0)) else (laws_toArticleS.j0 k l0 false)) = some r := h; clear h; have HC3 := am_ H; clear H
 go_enter Try.func47, Try.ntmps47
 go_upto_region 1 with (fail)
 go_cut [13] (fun v13 wc => ∃ (kq : Nat) (x13_2 : Bool), v13 = .bool x13_2 ∧ Aside0 (laws_toArticleS.j0 kq l0 x13_2 = some r) ∧ Aside0 (kq ≤ k) ∧ Aside0 (Below w.heap.size w wc))
 case first =>
  have H := HC3.out; clear HC3
  by_cases c4 : a1 = true
  ·subst c4
   rw [if_pos rfl] at H; have H' := am_ H; clear H
   go_wp2
   go_meet
   case rel => exact ⟨_, (((l0.length : Int) == 0)), Za, H', ⟨Zl⟩, ⟨Zd⟩⟩
  ·replace c4 := Bool.eq_false_iff.mpr c4
   subst c4; rw [if_neg (show ¬ (false = true) by decide)] at H; have H' := am_ H; clear H
   go_wp2
   go_meet
   case rel => exact ⟨_, (false), Za, H', ⟨Zl⟩, ⟨Zd⟩⟩
 case rest =>
  clear HC3
  try clear p2
  try clear c4
  obtain ⟨kq, x13_2, rfl, HA, HJ2, HB⟩ := hcut
  cases kq with
  | zero => exact absurd HA.out (by simp [laws_toArticleS.j0])
  | succ kj2 =>
   have H := HA.out; clear HA; simp only [laws_toArticleS.j0] at H
   by_cases c5 : x13_2 = true
   ·subst c5
    rw [if_pos rfl] at H; obtain rfl := Option.some.inj H
    go_wp2
    go_ret
    exact ⟨_, Zj, Zm, Zd⟩
   ·replace c5 := Bool.eq_false_iff.mpr c5
    subst c5; rw [if_neg (show ¬ (false = true) by decide)] at H; replace H := Option.bind_eq_some_iff.mp H; obtain ⟨t1088, A60, H⟩ := H; have A6 := am_ A60; clear A60; obtain ⟨ji7, hji7⟩ : ∃ j_ : Int, (wrap64 ((l0.length : Int) + t1088)) = j_ := ⟨_, rfl⟩
    replace H : (if 0 ≤ (ji7) then (if (ji7 : Int).toNat ≤ 3518437208883 then (laws_toArticleS.l0 kj2 l0 (List.replicate (ji7 : Int).toNat z61) 0) else (none)) else (none)) = some r := by first | (rw [hji7] at H; exact H) | (simp only [hji7] at H ⊢; exact H)
    (try rw [hji7] at A6)
    have hji7w : (IntKind.i64.wrap ((l0.length : Int) + t1088)) = ji7 := (i64_w _).trans hji7
    by_cases c8 : 0 ≤ (ji7)
    ·rw [if_pos c8] at H
     have c8b0 := eq_true c8; have c8b1 := decide_eq_true c8; clear c8
     by_cases c9 : (ji7 : Int).toNat ≤ 3518437208883
     ·rw [if_pos c9] at H
      have c9b0 := eq_true c9; have c9b1 := decide_eq_true c9; clear c9; obtain ⟨y1089, hy1089⟩ : ∃ y_ : List (S61), y_ = (List.replicate (ji7 : Int).toNat z61) := ⟨_, rfl⟩
      (first | (rw [← hy1089] at H; with_reducible replace H := bindZ H) | rw [← hy1089] at H | skip)
      have Ny1089 := am_ hy1089; clear hy1089; have H' := am_ H; clear H
      go_wp2_with (first | ((with_reducible refine gate_callee (f := 84) rfl ?_); refine gZ 18 Try.func84 #[.int .i64 (l0.length : Int)] ?_; (with_reducible refine (laws_roomBehind.calls (l0.length : Int) t1088 _ A6.out).mono ?_); rintro e w' ⟨rfl, ⟨nd, rfl⟩⟩; refine ⟨_, rfl, ?_⟩) | ((with_reducible refine gate_dst (N := 20) rfl ?_); (try (refine gate_guard (by rfl) ?_; dsimp only)); refine Kd.R_make k61 _ 61 rfl (N := 20) rfl 32 _ _ rfl ji7 rfl rfl Try.underlying32 (.agg #[(.string ⟨#[]⟩), (.int .i64 0), (.int .i64 0), (.int .i64 0), (.int .i64 0), (.int .i64 0), (.int .i64 0), (.int .i64 0), (.int .i64 0)]) 80 info61 rfl (by decide) (by omega) z61 (ok := fun _ => True) (okp := fun _ => True) (k61_mkM _ _ _ z61 ) (fun _ hk => hk) trivial (of_decide_eq_true Zn) (Nat.le_trans (Nat.mul_le_mul_right _ (of_decide_eq_true Zn : ji7.toNat ≤ 3518437208883)) (by omega)) (Below.refl _ _) (Nat.le_refl _) ?_; intro v1090 w10 ho11 hb hg_ hnew_; clear hg_ hnew_; (first | rw [← Ny1089.out] at ho11 | (simp only [Int.reduceToNat] at ho11; rw [← Ny1089.out] at ho11)); replace HO1091 := am_ (Kd.R_lower ho11 (below_size Zd)); replace HB := (bsZ Zd hb); clear hb ho11))
      go_loopg [6] kj2 (fun kq v6 w' => ∃ (x5_2 : List (S61)) (x6_2 : Int), v6 = .int .i64 x6_2 ∧ Aside0 (laws_toArticleS.l0 kq l0 x5_2 x6_2 = some r) ∧ Aside0 (kq ≤ kj2) ∧ Aside0 (Kd.R k61 61 w' w.heap.size (fun _ => True) v1090 x5_2) ∧ Aside0 (Below w.heap.size w w'))
      case atStart => exact ⟨(y1089), (0), Za, H', ⟨Nat.le_refl _⟩, ⟨(Zo HO1091)⟩, ⟨Zd⟩⟩
      case round =>
       clear H'
       try clear p2
       try clear c4
       try clear c5
       try clear p6
       try clear c8
       try clear c8b0
       try clear c8b1
       try clear c9
       try clear c9b0
       try clear c9b1
       try clear p2
       obtain ⟨x5_2, x6_2, rfl, HA, HK2, HO_5, HB⟩ := hrel
       cases gk with
       | zero => exact absurd HA.out (by simp [laws_toArticleS.l0])
       | succ k2 =>
        have H := HA.out; clear HA; simp only [laws_toArticleS.l0] at H
        by_cases c12 : x6_2 < (l0.length : Int)
        ·rw [if_pos c12] at H
         have c12b0 := decide_eq_true c12; clear c12
         by_cases c13 : 0 ≤ x6_2
         ·rw [if_pos c13] at H
          have c13b0 := decide_eq_true c13; clear c13; replace H := Option.bind_eq_some_iff.mp H; obtain ⟨⟨t1093, t1094, t1095, t1096, t1097, t1098, t1099, t1100, t1101⟩, A140, H⟩ := H
          dsimp only at H
          have A14 := am_ A140; clear A140
          by_cases c15 : x6_2 < (x5_2.length : Int)
          ·rw [if_pos c15] at H
           have c15b0 := decide_eq_true c15; clear c15; obtain ⟨y1102, hy1102⟩ : ∃ y_ : List (S61), y_ = (x5_2.set (x6_2 : Int).toNat (⟨t1093, t1094, t1095, t1096, t1097, t1098, t1099, t1100, t1101⟩ : S61)) := ⟨_, rfl⟩
           (first | (rw [← hy1102] at H; with_reducible replace H := bindZ H) | rw [← hy1102] at H | skip)
           have Ny1102 := am_ hy1102; clear hy1102; have H' := am_ H; clear H; have p1092 : 0 ≤ (x6_2 : Int) := of_decide_eq_true Zn; have q1092 : x6_2 < (l0.length : Int) := of_decide_eq_true Zn; obtain ⟨ad1092, e1092, hx1092_0, hx1092_1, hx1092_2, hx1092_3, hx1092_4, hx1092_5, hx1092_6, hx1092_7, hx1092_8⟩ := at_T99 HR0.out x6_2 p1092 q1092
           cases e1092
           replace hx1092_0 := cbH HB hx1092_0; replace hx1092_1 := cbH HB hx1092_1; replace hx1092_2 := cbH HB hx1092_2; replace hx1092_3 := cbH HB hx1092_3; replace hx1092_4 := cbH HB hx1092_4; replace hx1092_5 := cbH HB hx1092_5; replace hx1092_6 := cbH HB hx1092_6; replace hx1092_7 := cbH HB hx1092_7; replace hx1092_8 := cbH HB hx1092_8; replace p1092 := eq_true p1092; replace q1092 := eq_true q1092
           go_wp2_with (first | ((with_reducible refine gate_callee (f := 87) rfl ?_); refine gZ 33 Try.func87 #[.agg #[.string ((rd_T99 l0 x6_2).f0), .int .i64 ((rd_T99 l0 x6_2).f1), .int .i64 ((rd_T99 l0 x6_2).f2), .int .i64 ((rd_T99 l0 x6_2).f3), .int .i64 ((rd_T99 l0 x6_2).f4), .int .i64 ((rd_T99 l0 x6_2).f5), .int .i64 ((rd_T99 l0 x6_2).f6), .int .i64 ((rd_T99 l0 x6_2).f7), .int .i64 ((rd_T99 l0 x6_2).f8)]] ?_; (with_reducible refine (laws_toArticle.calls ((rd_T99 l0 x6_2).f0) ((rd_T99 l0 x6_2).f1) ((rd_T99 l0 x6_2).f2) ((rd_T99 l0 x6_2).f3) ((rd_T99 l0 x6_2).f4) ((rd_T99 l0 x6_2).f5) ((rd_T99 l0 x6_2).f6) ((rd_T99 l0 x6_2).f7) ((rd_T99 l0 x6_2).f8) t1093 t1094 t1095 t1096 t1097 t1098 t1099 t1100 t1101 _ A14.out).mono ?_); rintro e w17 ⟨rfl, hb⟩; refine ⟨_, rfl, ?_⟩; replace HO_5 := (hbZ HO_5 hb); replace HB := (bsZ Zd hb); clear hb; have p16 : 0 ≤ (x6_2 : Int) := of_decide_eq_true Zn; have q16 : (x6_2 : Int) < ((x5_2.length : Int) : Int) := of_decide_eq_true Zn; obtain ⟨go16, co16, eo16, gb16, gl16, cl16, HG16⟩ := Kd.R_form HO_5.out (by omega); (first | cases eo16 | (injection eo16 with ea_ en_ ec_; (first | subst ea_ | (injection ea_ with ea_; subst ea_)); subst ec_; clear en_)); have GB16 := am_ gb16; have GG16 := am_ HG16; clear gb16 gl16 HG16; obtain ⟨ce16, hcl16, hM16, hcc16, hfr16⟩ := Kd.R_elem HO_5.out z61 (x6_2 : Int) p16 q16; obtain rfl := k61_openM hM16; have hx16_0 : w17.cell? ⟨go16, (x6_2 : Int).toNat * 9, none⟩ = some (.string ((rd_T61 x5_2 x6_2).f0)) := hcc16 0 _ rfl; have hx16_1 : w17.cell? ⟨go16, (x6_2 : Int).toNat * 9 + 1, none⟩ = some (.int .i64 ((rd_T61 x5_2 x6_2).f1)) := hcc16 1 _ rfl; have hx16_2 : w17.cell? ⟨go16, (x6_2 : Int).toNat * 9 + 2, none⟩ = some (.int .i64 ((rd_T61 x5_2 x6_2).f2)) := hcc16 2 _ rfl; have hx16_3 : w17.cell? ⟨go16, (x6_2 : Int).toNat * 9 + 3, none⟩ = some (.int .i64 ((rd_T61 x5_2 x6_2).f3)) := hcc16 3 _ rfl; have hx16_4 : w17.cell? ⟨go16, (x6_2 : Int).toNat * 9 + 4, none⟩ = some (.int .i64 ((rd_T61 x5_2 x6_2).f4)) := hcc16 4 _ rfl; have hx16_5 : w17.cell? ⟨go16, (x6_2 : Int).toNat * 9 + 5, none⟩ = some (.int .i64 ((rd_T61 x5_2 x6_2).f5)) := hcc16 5 _ rfl; have hx16_6 : w17.cell? ⟨go16, (x6_2 : Int).toNat * 9 + 6, none⟩ = some (.int .i64 ((rd_T61 x5_2 x6_2).f6)) := hcc16 6 _ rfl; have hx16_7 : w17.cell? ⟨go16, (x6_2 : Int).toNat * 9 + 7, none⟩ = some (.int .i64 ((rd_T61 x5_2 x6_2).f7)) := hcc16 7 _ rfl; have hx16_8 : w17.cell? ⟨go16, (x6_2 : Int).toNat * 9 + 8, none⟩ = some (.int .i64 ((rd_T61 x5_2 x6_2).f8)) := hcc16 8 _ rfl; have hf16_0 : w17.frozen? ⟨go16, (x6_2 : Int).toNat * 9, none⟩ = false := hfr16 0; have hf16_1 := hfr16 1; have hf16_2 := hfr16 2; have hf16_3 := hfr16 3; have hf16_4 := hfr16 4; have hf16_5 := hfr16 5; have hf16_6 := hfr16 6; have hf16_7 := hfr16 7; have hf16_8 := hfr16 8; clear hcl16 hcc16 hfr16 hM16; replace p16 := eq_true p16; replace q16 := eq_true q16; have HX18 := am_ (show Kd.R k61 61 w17 w.heap.size (fun _ => True) (.slice (some ⟨go16, 0, none⟩) x5_2.length co16) x5_2 from (Zo HO_5)); obtain ⟨ce18, hcl18, hM18, hcc18, hfr18⟩ := Kd.R_elem HX18.out z61 (x6_2 : Int) (of_decide_eq_true Zn) (by have h_ : (x6_2 : Int) < ((x5_2.length : Int) : Int) := of_decide_eq_true Zn; first | exact h_ | (have e_ := (Kd.R_reads' HO_5.out).1; omega) | simpa using h_); obtain rfl := k61_openM hM18; have HP18 := Kd.R_seg HX18.out (x6_2 : Int) (of_decide_eq_true Zn) (by have h_ : (x6_2 : Int) < ((x5_2.length : Int) : Int) := of_decide_eq_true Zn; first | exact h_ | (have e_ := (Kd.R_reads' HO_5.out).1; omega) | simpa using h_) (seg := [.string t1093, .int .i64 t1094, .int .i64 t1095, .int .i64 t1096, .int .i64 t1097, .int .i64 t1098, .int .i64 t1099, .int .i64 t1100, .int .i64 t1101]) (j := 0) hcl18 hcc18 (show 9 ≤ 9 from (by decide)) (x' := (⟨t1093, t1094, t1095, t1096, t1097, t1098, t1099, t1100, t1101⟩ : S61)) (k61_mkM _ _ _ (⟨t1093, t1094, t1095, t1096, t1097, t1098, t1099, t1100, t1101⟩ : S61) ) (fun _ hk => hk); have hx18_0 := hcc18 0 _ rfl; (try simp only [show (k61).sz = 9 from rfl, Nat.mul_one, Nat.add_zero] at hx18_0); have hf18_0 := hfr18 0; (try simp only [show (k61).sz = 9 from rfl, Nat.mul_one, Nat.add_zero] at hf18_0); have hx18_1 := hcc18 1 _ rfl; (try simp only [show (k61).sz = 9 from rfl, Nat.mul_one, Nat.add_zero] at hx18_1); have hf18_1 := hfr18 1; (try simp only [show (k61).sz = 9 from rfl, Nat.mul_one, Nat.add_zero] at hf18_1); have hx18_2 := hcc18 2 _ rfl; (try simp only [show (k61).sz = 9 from rfl, Nat.mul_one, Nat.add_zero] at hx18_2); have hf18_2 := hfr18 2; (try simp only [show (k61).sz = 9 from rfl, Nat.mul_one, Nat.add_zero] at hf18_2); have hx18_3 := hcc18 3 _ rfl; (try simp only [show (k61).sz = 9 from rfl, Nat.mul_one, Nat.add_zero] at hx18_3); have hf18_3 := hfr18 3; (try simp only [show (k61).sz = 9 from rfl, Nat.mul_one, Nat.add_zero] at hf18_3); have hx18_4 := hcc18 4 _ rfl; (try simp only [show (k61).sz = 9 from rfl, Nat.mul_one, Nat.add_zero] at hx18_4); have hf18_4 := hfr18 4; (try simp only [show (k61).sz = 9 from rfl, Nat.mul_one, Nat.add_zero] at hf18_4); have hx18_5 := hcc18 5 _ rfl; (try simp only [show (k61).sz = 9 from rfl, Nat.mul_one, Nat.add_zero] at hx18_5); have hf18_5 := hfr18 5; (try simp only [show (k61).sz = 9 from rfl, Nat.mul_one, Nat.add_zero] at hf18_5); have hx18_6 := hcc18 6 _ rfl; (try simp only [show (k61).sz = 9 from rfl, Nat.mul_one, Nat.add_zero] at hx18_6); have hf18_6 := hfr18 6; (try simp only [show (k61).sz = 9 from rfl, Nat.mul_one, Nat.add_zero] at hf18_6); have hx18_7 := hcc18 7 _ rfl; (try simp only [show (k61).sz = 9 from rfl, Nat.mul_one, Nat.add_zero] at hx18_7); have hf18_7 := hfr18 7; (try simp only [show (k61).sz = 9 from rfl, Nat.mul_one, Nat.add_zero] at hf18_7); have hx18_8 := hcc18 8 _ rfl; (try simp only [show (k61).sz = 9 from rfl, Nat.mul_one, Nat.add_zero] at hx18_8); have hf18_8 := hfr18 8; (try simp only [show (k61).sz = 9 from rfl, Nat.mul_one, Nat.add_zero] at hf18_8); clear hcl18 hcc18 hfr18 hM18) | ((with_reducible refine gate_store (t := 61) (p := 34) rfl ?_); refine store_event (t := 61) (p := 34) (v := ?vo_w19) (w1 := (((((((((w17.setCell ⟨go16, (x6_2 : Int).toNat * 9, none⟩ (.string t1093)).setCell ⟨go16, (x6_2 : Int).toNat * 9 + 1, none⟩ (.int .i64 t1094)).setCell ⟨go16, (x6_2 : Int).toNat * 9 + 2, none⟩ (.int .i64 t1095)).setCell ⟨go16, (x6_2 : Int).toNat * 9 + 3, none⟩ (.int .i64 t1096)).setCell ⟨go16, (x6_2 : Int).toNat * 9 + 4, none⟩ (.int .i64 t1097)).setCell ⟨go16, (x6_2 : Int).toNat * 9 + 5, none⟩ (.int .i64 t1098)).setCell ⟨go16, (x6_2 : Int).toNat * 9 + 6, none⟩ (.int .i64 t1099)).setCell ⟨go16, (x6_2 : Int).toNat * 9 + 7, none⟩ (.int .i64 t1100)).setCell ⟨go16, (x6_2 : Int).toNat * 9 + 8, none⟩ (.int .i64 t1101))) ?hg ?ho ?hn ?hr ?_; (case ho => rfl); (case hg => rfl); (case hn => rfl); (case hr => first | (go_simp; done) | (go_simp; rfl)); intro w19 hw; have hg : w17.grownBy w19 (some go16) := (by rw [hw]; exact HP18.2); have hp_ : Kd.R k61 61 w19 w.heap.size (fun _ => True) (.slice (some ⟨go16, 0, none⟩) x5_2.length co16) y1102 := (by rw [hw, Ny1102.out]; exact HP18.1); clear HP18; replace HO_5 := am_ (hp_); replace HB := am_ (((Zx GB16) : Below w.heap.size w w19)); clear hg hw hp_))
           go_roundg k2
           case measure => have := HJ2.out; have := HK2.out; omega
           case rel => exact ⟨(y1102), (wrap64 (x6_2 + 1)), Za, H', ⟨by have := HJ2.out; have := HK2.out; omega⟩, ⟨(Zo HO_5)⟩, ⟨Zd⟩⟩
          ·rw [if_neg c15] at H
           exact absurd H (by simp)
         ·rw [if_neg c13] at H
          exact absurd H (by simp)
        ·rw [if_neg c12] at H
         have c12b0 := decide_eq_false c12; clear c12; have H' := am_ H; clear H
         go_wp2
         go_loopg [7] k2 (fun kq v7 w' => ∃ (x5_3 : List (S61)) (x7_3 : Int), v7 = .int .i64 x7_3 ∧ Aside0 (laws_toArticleS.l1 kq l0 x5_3 x7_3 = some r) ∧ Aside0 (kq ≤ k2) ∧ Aside0 (Kd.R k61 61 w' w.heap.size (fun _ => True) v1090 x5_3) ∧ Aside0 (Below w.heap.size w w'))
         case atStart => exact ⟨(x5_2), ((l0.length : Int)), Za, H', ⟨Nat.le_refl _⟩, ⟨(Zo HO_5)⟩, ⟨Zd⟩⟩
         case round =>
          clear H'
          try clear c1
          try clear p1
          try clear q1
          try clear hx1
          try clear p2
          try clear c4
          try clear c5
          try clear p6
          try clear c8
          try clear c8b0
          try clear c8b1
          try clear c9
          try clear c9b0
          try clear c9b1
          try clear p10
          try clear q10
          try clear hx10
          try clear c12
          try clear c12b0
          try clear c13
          try clear c13b0
          try clear c15
          try clear c15b0
          try clear c16
          try clear p16
          try clear q16
          try clear hx16
          try clear hf16
          try clear c18
          try clear hx18
          try clear hf18
          try clear hx1092_0
          try clear hx1092_1
          try clear hx1092_2
          try clear hx1092_3
          try clear hx1092_4
          try clear hx1092_5
          try clear hx1092_6
          try clear hx1092_7
          try clear hx1092_8
          try clear hx16_0
          try clear hx16_1
          try clear hx16_2
          try clear hx16_3
          try clear hx16_4
          try clear hx16_5
          try clear hx16_6
          try clear hx16_7
          try clear hx16_8
          try clear hx18_0
          try clear hx18_1
          try clear hx18_2
          try clear hx18_3
          try clear hx18_4
          try clear hx18_5
          try clear hx18_6
          try clear hx18_7
          try clear hx18_8
          try clear p1092
          try clear p16
          try clear p2
          try clear p6
          try clear q1092
          try clear q16
          obtain ⟨x5_3, x7_3, rfl, HA, HK3, HO_5, HB⟩ := hrel
          cases gk with
          | zero => exact absurd HA.out (by simp [laws_toArticleS.l1])
          | succ k3 =>
           have H := HA.out; clear HA; simp only [laws_toArticleS.l1] at H
           by_cases c20 : x7_3 < (x5_3.length : Int)
           ·rw [if_pos c20] at H
            have c20b0 := decide_eq_true c20; clear c20; replace H := Option.bind_eq_some_iff.mp H; obtain ⟨⟨t1103, t1104, t1105, t1106, t1107, t1108, t1109, t1110, t1111⟩, A210, H⟩ := H
            dsimp only at H
            have A21 := am_ A210; clear A210
            by_cases c22 : 0 ≤ x7_3
            ·rw [if_pos c22] at H
             have c22b0 := decide_eq_true c22; clear c22; obtain ⟨y1112, hy1112⟩ : ∃ y_ : List (S61), y_ = (x5_3.set (x7_3 : Int).toNat (⟨t1103, t1104, t1105, t1106, t1107, t1108, t1109, t1110, t1111⟩ : S61)) := ⟨_, rfl⟩
             (first | (rw [← hy1112] at H; with_reducible replace H := bindZ H) | rw [← hy1112] at H | skip)
             have Ny1112 := am_ hy1112; clear hy1112; have H' := am_ H; clear H; obtain ⟨Ao24, co24, eo24⟩ := Kd.R_slice HO_5.out; subst eo24
             go_wp2_with (first | ((with_reducible refine gate_callee (f := 88) rfl ?_); refine gZ 45 Try.func88 #[] ?_; (with_reducible refine (laws_fillerArticle.calls  t1103 t1104 t1105 t1106 t1107 t1108 t1109 t1110 t1111 _ A21.out).mono ?_); rintro e w25 ⟨rfl, hb⟩; refine ⟨_, rfl, ?_⟩; replace HO_5 := (hbZ HO_5 hb); replace HB := (bsZ Zd hb); clear hb; have p23 : 0 ≤ (x7_3 : Int) := of_decide_eq_true Zn; have q23 : (x7_3 : Int) < ((x5_3.length : Int) : Int) := of_decide_eq_true Zn; obtain ⟨go23, co23, eo23, gb23, gl23, cl23, HG23⟩ := Kd.R_form HO_5.out (by omega); (first | cases eo23 | (injection eo23 with ea_ en_ ec_; (first | subst ea_ | (injection ea_ with ea_; subst ea_)); subst ec_; clear en_)); have GB23 := am_ gb23; have GG23 := am_ HG23; clear gb23 gl23 HG23; obtain ⟨ce23, hcl23, hM23, hcc23, hfr23⟩ := Kd.R_elem HO_5.out z61 (x7_3 : Int) p23 q23; obtain rfl := k61_openM hM23; have hx23_0 : w25.cell? ⟨go23, (x7_3 : Int).toNat * 9, none⟩ = some (.string ((rd_T61 x5_3 x7_3).f0)) := hcc23 0 _ rfl; have hx23_1 : w25.cell? ⟨go23, (x7_3 : Int).toNat * 9 + 1, none⟩ = some (.int .i64 ((rd_T61 x5_3 x7_3).f1)) := hcc23 1 _ rfl; have hx23_2 : w25.cell? ⟨go23, (x7_3 : Int).toNat * 9 + 2, none⟩ = some (.int .i64 ((rd_T61 x5_3 x7_3).f2)) := hcc23 2 _ rfl; have hx23_3 : w25.cell? ⟨go23, (x7_3 : Int).toNat * 9 + 3, none⟩ = some (.int .i64 ((rd_T61 x5_3 x7_3).f3)) := hcc23 3 _ rfl; have hx23_4 : w25.cell? ⟨go23, (x7_3 : Int).toNat * 9 + 4, none⟩ = some (.int .i64 ((rd_T61 x5_3 x7_3).f4)) := hcc23 4 _ rfl; have hx23_5 : w25.cell? ⟨go23, (x7_3 : Int).toNat * 9 + 5, none⟩ = some (.int .i64 ((rd_T61 x5_3 x7_3).f5)) := hcc23 5 _ rfl; have hx23_6 : w25.cell? ⟨go23, (x7_3 : Int).toNat * 9 + 6, none⟩ = some (.int .i64 ((rd_T61 x5_3 x7_3).f6)) := hcc23 6 _ rfl; have hx23_7 : w25.cell? ⟨go23, (x7_3 : Int).toNat * 9 + 7, none⟩ = some (.int .i64 ((rd_T61 x5_3 x7_3).f7)) := hcc23 7 _ rfl; have hx23_8 : w25.cell? ⟨go23, (x7_3 : Int).toNat * 9 + 8, none⟩ = some (.int .i64 ((rd_T61 x5_3 x7_3).f8)) := hcc23 8 _ rfl; have hf23_0 : w25.frozen? ⟨go23, (x7_3 : Int).toNat * 9, none⟩ = false := hfr23 0; have hf23_1 := hfr23 1; have hf23_2 := hfr23 2; have hf23_3 := hfr23 3; have hf23_4 := hfr23 4; have hf23_5 := hfr23 5; have hf23_6 := hfr23 6; have hf23_7 := hfr23 7; have hf23_8 := hfr23 8; clear hcl23 hcc23 hfr23 hM23; replace p23 := eq_true p23; replace q23 := eq_true q23; have HX26 := am_ (show Kd.R k61 61 w25 w.heap.size (fun _ => True) (.slice (some ⟨go23, 0, none⟩) x5_3.length co24) x5_3 from (Zo HO_5)); obtain ⟨ce26, hcl26, hM26, hcc26, hfr26⟩ := Kd.R_elem HX26.out z61 (x7_3 : Int) (of_decide_eq_true Zn) (by have h_ : (x7_3 : Int) < ((x5_3.length : Int) : Int) := of_decide_eq_true Zn; first | exact h_ | (have e_ := (Kd.R_reads' HO_5.out).1; omega) | simpa using h_); obtain rfl := k61_openM hM26; have HP26 := Kd.R_seg HX26.out (x7_3 : Int) (of_decide_eq_true Zn) (by have h_ : (x7_3 : Int) < ((x5_3.length : Int) : Int) := of_decide_eq_true Zn; first | exact h_ | (have e_ := (Kd.R_reads' HO_5.out).1; omega) | simpa using h_) (seg := [.string t1103, .int .i64 t1104, .int .i64 t1105, .int .i64 t1106, .int .i64 t1107, .int .i64 t1108, .int .i64 t1109, .int .i64 t1110, .int .i64 t1111]) (j := 0) hcl26 hcc26 (show 9 ≤ 9 from (by decide)) (x' := (⟨t1103, t1104, t1105, t1106, t1107, t1108, t1109, t1110, t1111⟩ : S61)) (k61_mkM _ _ _ (⟨t1103, t1104, t1105, t1106, t1107, t1108, t1109, t1110, t1111⟩ : S61) ) (fun _ hk => hk); have hx26_0 := hcc26 0 _ rfl; (try simp only [show (k61).sz = 9 from rfl, Nat.mul_one, Nat.add_zero] at hx26_0); have hf26_0 := hfr26 0; (try simp only [show (k61).sz = 9 from rfl, Nat.mul_one, Nat.add_zero] at hf26_0); have hx26_1 := hcc26 1 _ rfl; (try simp only [show (k61).sz = 9 from rfl, Nat.mul_one, Nat.add_zero] at hx26_1); have hf26_1 := hfr26 1; (try simp only [show (k61).sz = 9 from rfl, Nat.mul_one, Nat.add_zero] at hf26_1); have hx26_2 := hcc26 2 _ rfl; (try simp only [show (k61).sz = 9 from rfl, Nat.mul_one, Nat.add_zero] at hx26_2); have hf26_2 := hfr26 2; (try simp only [show (k61).sz = 9 from rfl, Nat.mul_one, Nat.add_zero] at hf26_2); have hx26_3 := hcc26 3 _ rfl; (try simp only [show (k61).sz = 9 from rfl, Nat.mul_one, Nat.add_zero] at hx26_3); have hf26_3 := hfr26 3; (try simp only [show (k61).sz = 9 from rfl, Nat.mul_one, Nat.add_zero] at hf26_3); have hx26_4 := hcc26 4 _ rfl; (try simp only [show (k61).sz = 9 from rfl, Nat.mul_one, Nat.add_zero] at hx26_4); have hf26_4 := hfr26 4; (try simp only [show (k61).sz = 9 from rfl, Nat.mul_one, Nat.add_zero] at hf26_4); have hx26_5 := hcc26 5 _ rfl; (try simp only [show (k61).sz = 9 from rfl, Nat.mul_one, Nat.add_zero] at hx26_5); have hf26_5 := hfr26 5; (try simp only [show (k61).sz = 9 from rfl, Nat.mul_one, Nat.add_zero] at hf26_5); have hx26_6 := hcc26 6 _ rfl; (try simp only [show (k61).sz = 9 from rfl, Nat.mul_one, Nat.add_zero] at hx26_6); have hf26_6 := hfr26 6; (try simp only [show (k61).sz = 9 from rfl, Nat.mul_one, Nat.add_zero] at hf26_6); have hx26_7 := hcc26 7 _ rfl; (try simp only [show (k61).sz = 9 from rfl, Nat.mul_one, Nat.add_zero] at hx26_7); have hf26_7 := hfr26 7; (try simp only [show (k61).sz = 9 from rfl, Nat.mul_one, Nat.add_zero] at hf26_7); have hx26_8 := hcc26 8 _ rfl; (try simp only [show (k61).sz = 9 from rfl, Nat.mul_one, Nat.add_zero] at hx26_8); have hf26_8 := hfr26 8; (try simp only [show (k61).sz = 9 from rfl, Nat.mul_one, Nat.add_zero] at hf26_8); clear hcl26 hcc26 hfr26 hM26) | ((with_reducible refine gate_store (t := 61) (p := 46) rfl ?_); refine store_event (t := 61) (p := 46) (v := ?vo_w27) (w1 := (((((((((w25.setCell ⟨go23, (x7_3 : Int).toNat * 9, none⟩ (.string t1103)).setCell ⟨go23, (x7_3 : Int).toNat * 9 + 1, none⟩ (.int .i64 t1104)).setCell ⟨go23, (x7_3 : Int).toNat * 9 + 2, none⟩ (.int .i64 t1105)).setCell ⟨go23, (x7_3 : Int).toNat * 9 + 3, none⟩ (.int .i64 t1106)).setCell ⟨go23, (x7_3 : Int).toNat * 9 + 4, none⟩ (.int .i64 t1107)).setCell ⟨go23, (x7_3 : Int).toNat * 9 + 5, none⟩ (.int .i64 t1108)).setCell ⟨go23, (x7_3 : Int).toNat * 9 + 6, none⟩ (.int .i64 t1109)).setCell ⟨go23, (x7_3 : Int).toNat * 9 + 7, none⟩ (.int .i64 t1110)).setCell ⟨go23, (x7_3 : Int).toNat * 9 + 8, none⟩ (.int .i64 t1111))) ?hg ?ho ?hn ?hr ?_; (case ho => rfl); (case hg => rfl); (case hn => rfl); (case hr => first | (go_simp; done) | (go_simp; rfl)); intro w27 hw; have hg : w25.grownBy w27 (some go23) := (by rw [hw]; exact HP26.2); have hp_ : Kd.R k61 61 w27 w.heap.size (fun _ => True) (.slice (some ⟨go23, 0, none⟩) x5_3.length co24) y1112 := (by rw [hw, Ny1112.out]; exact HP26.1); clear HP26; replace HO_5 := am_ (hp_); replace HB := am_ (((Zx GB23) : Below w.heap.size w w27)); clear hg hw hp_))
             go_roundg k3
             case measure => have := HJ2.out; have := HK2.out; have := HK3.out; omega
             case rel => exact ⟨(y1112), (wrap64 (x7_3 + 1)), Za, H', ⟨Zp⟩, ⟨(Zo HO_5)⟩, ⟨Zd⟩⟩
            ·rw [if_neg c22] at H
             exact absurd H (by simp)
           ·rw [if_neg c20] at H
            have c20b0 := decide_eq_false c20; clear c20
            by_cases c28 : 0 ≤ (l0.length : Int)
            ·rw [if_pos c28] at H
             have c28b0 := eq_true c28; have c28b1 := decide_eq_true c28; clear c28
             by_cases c29 : (l0.length : Int) ≤ (x5_3.length : Int)
             ·rw [if_pos c29] at H
              have c29b0 := eq_true c29; have c29b1 := decide_eq_true c29; clear c29; obtain ⟨y1113, hy1113⟩ : ∃ y_ : List (S61), y_ = (x5_3.take ((l0.length : Int) : Int).toNat) := ⟨_, rfl⟩
              (first | (rw [← hy1113] at H; with_reducible replace H := bindZ H) | rw [← hy1113] at H | skip)
              have Ny1113 := am_ hy1113; clear hy1113; obtain rfl := Option.some.inj H; obtain ⟨Ao30, co30, eo30⟩ := Kd.R_slice HO_5.out; subst eo30; have q31 : ((l0.length : Int) : Int) ≤ ((x5_3.length : Int) : Int) := of_decide_eq_true Zn; obtain ⟨i031, hi031, _, hsz31, _⟩ := info_parts info61; have hcut31 := cut_to (P := Try.prog) 32 61 .i64 Try.underlying32 hi031 Ao30 x5_3.length co30 (l0.length : Int) (of_decide_eq_true Zn) q31 (Kd.R_reads' HO_5.out).2.1; have hr31 := Kd.R_take (m := ((l0.length : Int) : Int).toNat) HO_5.out (by omega); have hy31 : y1113.length = ((l0.length : Int) : Int).toNat := (by rw [Ny1113.out, List.length_take]; omega); rw [← Ny1113.out] at hr31; rw [← hy31] at hr31 hcut31; clear hy31 hi031 hsz31 HO_5; have HO1115 := am_ hr31; clear hr31; replace q31 := eq_true q31
              go_wp2
              go_ret
              exact ⟨_, Zq, (Zo HO1115), Zd⟩
             ·rw [if_neg c29] at H
              exact absurd H (by simp)
            ·rw [if_neg c28] at H
             exact absurd H (by simp)
     ·rw [if_neg c9] at H
      exact absurd H (by simp)
    ·rw [if_neg c8] at H
     exact absurd H (by simp)
 /-! ### laws_eqArticle: function 105 -/
def laws_eqArticle.f (a0_0 : ByteArray) (a0_1 : Int) (a0_2 : Int) (a0_3 : Int) (a0_4 : Int) (a0_5 : Int) (a0_6 : Int) (a0_7 : Int) (a0_8 : Int) (a1_0 : ByteArray) (a1_1 : Int) (a1_2 : Int) (a1_3 : Int) (a1_4 : Int) (a1_5 : Int) (a1_6 : Int) (a1_7 : Int) (a1_8 : Int) : Option (Bool) := if a0_0.toList = a1_0.toList then (if a0_1 = a1_1 then (if a0_2 = a1_2 then (if a0_3 = a1_3 then (if a0_4 = a1_4 then (if a0_5 = a1_5 then (if a0_6 = a1_6 then (if a0_7 = a1_7 then (if a0_8 = a1_8 then (some true) else (some false)) else (some false)) else (some false)) else (some false)) else (some false)) else (some false)) else (some false)) else (some false)) else (some false)
set_option maxHeartbeats 8000000 in
set_option maxRecDepth 100000 in
theorem laws_eqArticle.calls (a0_0 : ByteArray) (a0_1 : Int) (a0_2 : Int) (a0_3 : Int) (a0_4 : Int) (a0_5 : Int) (a0_6 : Int) (a0_7 : Int) (a0_8 : Int) (a1_0 : ByteArray) (a1_1 : Int) (a1_2 : Int) (a1_3 : Int) (a1_4 : Int) (a1_5 : Int) (a1_6 : Int) (a1_7 : Int) (a1_8 : Int) (r : Bool) (w : World) (h : laws_eqArticle.f a0_0 a0_1 a0_2 a0_3 a0_4 a0_5 a0_6 a0_7 a0_8 a1_0 a1_1 a1_2 a1_3 a1_4 a1_5 a1_6 a1_7 a1_8 = some r) (hr_ : r = true := by rfl) :
  Calls Try.prog 105 #[.agg #[.string a0_0, .int .i64 a0_1, .int .i64 a0_2, .int .i64 a0_3, .int .i64 a0_4, .int .i64 a0_5, .int .i64 a0_6, .int .i64 a0_7, .int .i64 a0_8], .agg #[.string a1_0, .int .i64 a1_1, .int .i64 a1_2, .int .i64 a1_3, .int .i64 a1_4, .int .i64 a1_5, .int .i64 a1_6, .int .i64 a1_7, .int .i64 a1_8]] w fun e w' => e = .returned (.bool r) ∧ Below w.heap.size w w' := by
 have HR_ := am_ hr_; clear hr_; have hu61 := Try.underlying61; have HB := am_ (Below.refl w.heap.size w); have H : (if a0_0.toList = a1_0.toList then (if a0_1 = a1_1 then (if a0_2 = a1_2 then (if a0_3 = a1_3 then (if a0_4 = a1_4 then (if a0_5 = a1_5 then (if a0_6 = a1_6 then (if a0_7 = a1_7 then (if a0_8 = a1_8 then (some true) else (some false)) else (some false)) else (some false)) else (some false)) else (some false)) else (some false)) else (some false)) else (some false)) else (some false)) = some r := h; clear h
 by_cases c3 : a0_0.toList = a1_0.toList
 ·rw [if_pos c3] at H
  have c3b0 := beq_iff_eq.mpr c3; have c3b1 := bne_eq_false_iff_eq.mpr c3; clear c3
  by_cases c4 : a0_1 = a1_1
  ·rw [if_pos c4] at H
   have c4b0 := beq_iff_eq.mpr c4; have c4b1 := bne_eq_false_iff_eq.mpr c4; clear c4
   by_cases c5 : a0_2 = a1_2
   ·rw [if_pos c5] at H
    have c5b0 := beq_iff_eq.mpr c5; have c5b1 := bne_eq_false_iff_eq.mpr c5; clear c5
    by_cases c6 : a0_3 = a1_3
    ·rw [if_pos c6] at H
     have c6b0 := beq_iff_eq.mpr c6; have c6b1 := bne_eq_false_iff_eq.mpr c6; clear c6
     by_cases c7 : a0_4 = a1_4
     ·rw [if_pos c7] at H
      have c7b0 := beq_iff_eq.mpr c7; have c7b1 := bne_eq_false_iff_eq.mpr c7; clear c7
      by_cases c8 : a0_5 = a1_5
      ·rw [if_pos c8] at H
       have c8b0 := beq_iff_eq.mpr c8; have c8b1 := bne_eq_false_iff_eq.mpr c8; clear c8
       by_cases c9 : a0_6 = a1_6
       ·rw [if_pos c9] at H
        have c9b0 := beq_iff_eq.mpr c9; have c9b1 := bne_eq_false_iff_eq.mpr c9; clear c9
        by_cases c10 : a0_7 = a1_7
        ·rw [if_pos c10] at H
         have c10b0 := beq_iff_eq.mpr c10; have c10b1 := bne_eq_false_iff_eq.mpr c10; clear c10
         by_cases c11 : a0_8 = a1_8
         ·rw [if_pos c11] at H
          have c11b0 := beq_iff_eq.mpr c11; have c11b1 := bne_eq_false_iff_eq.mpr c11; clear c11; obtain rfl := Option.some.inj H
          go_enter Try.func105, Try.ntmps105
          go_wp2_with (first | ((with_reducible refine gate_dst (N := 2) rfl ?_); refine boxZ 2 #[.string a0_0, .int .i64 a0_1, .int .i64 a0_2, .int .i64 a0_3, .int .i64 a0_4, .int .i64 a0_5, .int .i64 a0_6, .int .i64 a0_7, .int .i64 a0_8] 61 ?_; intro gb1167 hg w12 hbox hb; replace BK1167 := am_ (hbox); replace GW1167 := am_ ((Zc : w.heap.size ≤ gb1167)); replace GE1167 := GW1167; replace HB := (bsZ Zd hb); clear hb hbox hg) | ((with_reducible refine gate_dst (N := 3) rfl ?_); refine boxZ 3 #[.string a1_0, .int .i64 a1_1, .int .i64 a1_2, .int .i64 a1_3, .int .i64 a1_4, .int .i64 a1_5, .int .i64 a1_6, .int .i64 a1_7, .int .i64 a1_8] 61 ?_; intro gb1168 hg w13 hbox hb; replace BK1168 := am_ (hbox); replace GW1168 := am_ (((Ze GE1167) : w.heap.size ≤ gb1168)); replace GE1168 := GW1168; replace HB := (bsZ (Zf GE1167) hb); replace NB1167_1168 := am_ ((by rw [hg]; exact Nat.ne_of_lt (blk_lt (g := gb1167) (b0Z BK1167)) : gb1167 ≠ gb1168)); replace NB1168_1167 := am_ ((by rw [hg]; exact Nat.ne_of_gt (blk_lt (g := gb1167) (b0Z BK1167)) : gb1168 ≠ gb1167)); replace BK1167 := (bkZ BK1167 hb); clear hb hbox hg; have hnb14 := NB1167_1168.out; have hnc14 := NB1168_1167.out; refine ci9 BK1167 ?_; intros; refine ci9 BK1168 ?_; intros))
          go_ret
          exact ⟨Zj, (Zh GE1167 GE1168)⟩
         ·rw [if_neg c11] at H
          have c11b0 := beq_eq_false_iff_ne.mpr c11; have c11b1 := bne_iff_ne.mpr c11; exact absurd ((Option.some.inj H).trans HR_.out) (by decide)
        ·rw [if_neg c10] at H
         have c10b0 := beq_eq_false_iff_ne.mpr c10; have c10b1 := bne_iff_ne.mpr c10; exact absurd ((Option.some.inj H).trans HR_.out) (by decide)
       ·rw [if_neg c9] at H
        have c9b0 := beq_eq_false_iff_ne.mpr c9; have c9b1 := bne_iff_ne.mpr c9; exact absurd ((Option.some.inj H).trans HR_.out) (by decide)
      ·rw [if_neg c8] at H
       have c8b0 := beq_eq_false_iff_ne.mpr c8; have c8b1 := bne_iff_ne.mpr c8; exact absurd ((Option.some.inj H).trans HR_.out) (by decide)
     ·rw [if_neg c7] at H
      have c7b0 := beq_eq_false_iff_ne.mpr c7; have c7b1 := bne_iff_ne.mpr c7; exact absurd ((Option.some.inj H).trans HR_.out) (by decide)
    ·rw [if_neg c6] at H
     have c6b0 := beq_eq_false_iff_ne.mpr c6; have c6b1 := bne_iff_ne.mpr c6; exact absurd ((Option.some.inj H).trans HR_.out) (by decide)
   ·rw [if_neg c5] at H
    have c5b0 := beq_eq_false_iff_ne.mpr c5; have c5b1 := bne_iff_ne.mpr c5; exact absurd ((Option.some.inj H).trans HR_.out) (by decide)
  ·rw [if_neg c4] at H
   have c4b0 := beq_eq_false_iff_ne.mpr c4; have c4b1 := bne_iff_ne.mpr c4; exact absurd ((Option.some.inj H).trans HR_.out) (by decide)
 ·rw [if_neg c3] at H
  have c3b0 := beq_eq_false_iff_ne.mpr c3; have c3b1 := bne_iff_ne.mpr c3; exact absurd ((Option.some.inj H).trans HR_.out) (by decide)
 /-! ### laws_eqArticleS: function 92 -/
def laws_eqArticleS.l0 : Nat → List (S61) → List (S61) → Int → Option (Bool)
 | 0, _, _, _ => none
 | k + 1, x0, x1, x5 => if x5 < (x0.length : Int) then (if 0 ≤ x5 then (if x5 < (x1.length : Int) then ((laws_eqArticle.f ((rd_T61 x0 x5).f0) ((rd_T61 x0 x5).f1) ((rd_T61 x0 x5).f2) ((rd_T61 x0 x5).f3) ((rd_T61 x0 x5).f4) ((rd_T61 x0 x5).f5) ((rd_T61 x0 x5).f6) ((rd_T61 x0 x5).f7) ((rd_T61 x0 x5).f8) ((rd_T61 x1 x5).f0) ((rd_T61 x1 x5).f1) ((rd_T61 x1 x5).f2) ((rd_T61 x1 x5).f3) ((rd_T61 x1 x5).f4) ((rd_T61 x1 x5).f5) ((rd_T61 x1 x5).f6) ((rd_T61 x1 x5).f7) ((rd_T61 x1 x5).f8)).bind fun t1171 => (if t1171 = true then (laws_eqArticleS.l0 k x0 x1 (wrap64 (x5 + 1))) else (some false))) else (none)) else (none)) else (some true)
def laws_eqArticleS.f (k : Nat) (l0 : List (S61)) (l1 : List (S61)) : Option (Bool) := if (l0.length : Int) = (l1.length : Int) then (laws_eqArticleS.l0 k l0 l1 0) else (some false)
def laws_eqArticleS.T6 : Bool × List (List Nat × List Nat) := (true, [([], []), ([], []), ([0, 1], [0, 1]), ([2], [2]), ([], []), ([], []), ([4, 5], [4, 5]), ([6], [6]), ([3, 7], [3, 7]), ([8], [8])])
def laws_eqArticleS.B6 : List Nat := [0, 0, 3, 7, 0, 0, 48, 112, 255, 511]
theorem laws_eqArticleS.tab6 : rtab .any (opsOf Try.f92 6) = laws_eqArticleS.T6 := by kernel_rfl
theorem laws_eqArticleS.bits6 : waitsOk laws_eqArticleS.T6.2 laws_eqArticleS.B6 = true := by kernel_rfl
set_option maxHeartbeats 8000000 in
set_option maxRecDepth 100000 in
theorem laws_eqArticleS.calls (k : Nat) (A0 : Option Addr) (c0 : Nat) (l0 : List (S61)) (A1 : Option Addr) (c1 : Nat) (l1 : List (S61)) (r : Bool) (w : World) (hr0 : Kd.C k61 w A0 l0.length l0) (hc0 : l0.length ≤ c0) (hr1 : Kd.C k61 w A1 l1.length l1) (hc1 : l1.length ≤ c1) (h : laws_eqArticleS.f k l0 l1 = some r) (hr_ : r = true := by rfl) :
  Calls Try.prog 92 #[.slice A0 l0.length c0, .slice A1 l1.length c1] w fun e w' => e = .returned (.bool r) ∧ Below w.heap.size w w' := by
 have HR_ := am_ hr_; clear hr_; have hu61 := Try.underlying61; have HR0 := am_ hr0; have HC0 := am_ hc0; clear hr0 hc0; have HR1 := am_ hr1; have HC1 := am_ hc1; clear hr1 hc1; have HB := am_ (Below.refl w.heap.size w); have H : (if (l0.length : Int) = (l1.length : Int) then (laws_eqArticleS.l0 k l0 l1 0) else (some false)) = some r := h; clear h
 by_cases c3 : (l0.length : Int) = (l1.length : Int)
 ·rw [if_pos c3] at H
  have c3b0 := beq_iff_eq.mpr c3; have c3b1 := bne_eq_false_iff_eq.mpr c3
  have c3b2 : (l0.length == l1.length) = true := by first | simpa using c3 | (simp at c3 ⊢; omega)
  clear c3; have H' := am_ H; clear H
  go_enter Try.func92, Try.ntmps92
  go_wp2
  go_loopg [5] k (fun kq v5 w' => ∃ (x5_1 : Int), v5 = .int .i64 x5_1 ∧ Aside0 (laws_eqArticleS.l0 kq l0 l1 x5_1 = some r) ∧ Aside0 (kq ≤ k) ∧ Aside0 (Below w.heap.size w w'))
  case atStart => exact ⟨(0), Za, H', ⟨Nat.le_refl _⟩, ⟨Zd⟩⟩
  case round =>
   clear H'
   try clear c1
   try clear p2
   try clear c3
   try clear c3b0
   try clear c3b1
   try clear c3b2
   obtain ⟨x5_1, rfl, HA, HK1, HB⟩ := hrel
   cases gk with
   | zero => exact absurd HA.out (by simp [laws_eqArticleS.l0])
   | succ k1 =>
    have H := HA.out; clear HA; simp only [laws_eqArticleS.l0] at H
    by_cases c4 : x5_1 < (l0.length : Int)
    ·rw [if_pos c4] at H
     have c4b0 := decide_eq_true c4; clear c4
     by_cases c5 : 0 ≤ x5_1
     ·rw [if_pos c5] at H
      have c5b0 := decide_eq_true c5; clear c5
      by_cases c6 : x5_1 < (l1.length : Int)
      ·rw [if_pos c6] at H
       have c6b0 := decide_eq_true c6; clear c6; replace H := Option.bind_eq_some_iff.mp H; obtain ⟨t1171, A70, H⟩ := H; have A7 := am_ A70; clear A70
       by_cases c8 : t1171 = true
       ·subst c8
        rw [if_pos rfl] at H; have H' := am_ H; clear H
        try go_wp2
        replace HB := am_ (below_drew1 HB.out); have p1169 : 0 ≤ (x5_1 : Int) := of_decide_eq_true Zn; have q1169 : x5_1 < (l0.length : Int) := of_decide_eq_true Zn; obtain ⟨ad1169, e1169, hx1169_0, hx1169_1, hx1169_2, hx1169_3, hx1169_4, hx1169_5, hx1169_6, hx1169_7, hx1169_8⟩ := at_T61 HR0.out x5_1 p1169 q1169; have hw1169_8 := hx1169_8; have hw1169_7 := hx1169_7; have hw1169_6 := hx1169_6; have hw1169_5 := hx1169_5; have hw1169_4 := hx1169_4; have hw1169_3 := hx1169_3; have hw1169_2 := hx1169_2; have hw1169_1 := hx1169_1; have hw1169_0 := hx1169_0
        cases e1169
        replace hx1169_0 := cbH HB hx1169_0; replace hx1169_1 := cbH HB hx1169_1; replace hx1169_2 := cbH HB hx1169_2; replace hx1169_3 := cbH HB hx1169_3; replace hx1169_4 := cbH HB hx1169_4; replace hx1169_5 := cbH HB hx1169_5; replace hx1169_6 := cbH HB hx1169_6; replace hx1169_7 := cbH HB hx1169_7; replace hx1169_8 := cbH HB hx1169_8; replace p1169 := eq_true p1169; replace q1169 := eq_true q1169; have p1170 : 0 ≤ (x5_1 : Int) := of_decide_eq_true Zn; have q1170 : x5_1 < (l1.length : Int) := of_decide_eq_true Zn; obtain ⟨ad1170, e1170, hx1170_0, hx1170_1, hx1170_2, hx1170_3, hx1170_4, hx1170_5, hx1170_6, hx1170_7, hx1170_8⟩ := at_T61 HR1.out x5_1 p1170 q1170; have hw1170_8 := hx1170_8; have hw1170_7 := hx1170_7; have hw1170_6 := hx1170_6; have hw1170_5 := hx1170_5; have hw1170_4 := hx1170_4; have hw1170_3 := hx1170_3; have hw1170_2 := hx1170_2; have hw1170_1 := hx1170_1; have hw1170_0 := hx1170_0
        cases e1170
        replace hx1170_0 := cbH HB hx1170_0; replace hx1170_1 := cbH HB hx1170_1; replace hx1170_2 := cbH HB hx1170_2; replace hx1170_3 := cbH HB hx1170_3; replace hx1170_4 := cbH HB hx1170_4; replace hx1170_5 := cbH HB hx1170_5; replace hx1170_6 := cbH HB hx1170_6; replace hx1170_7 := cbH HB hx1170_7; replace hx1170_8 := cbH HB hx1170_8; replace p1170 := eq_true p1170; replace q1170 := eq_true q1170; refine start_ (n := 10) (S := fun w' => w'.cell? (ad1169.add ((x5_1).toNat * 9)) = some (.string ((rd_T61 l0 x5_1).f0)) ∧ w'.cell? ⟨(ad1169.add ((x5_1).toNat * 9)).block, (ad1169.add ((x5_1).toNat * 9)).off + 1, none⟩ = some (.int .i64 ((rd_T61 l0 x5_1).f1)) ∧ w'.cell? ⟨(ad1169.add ((x5_1).toNat * 9)).block, (ad1169.add ((x5_1).toNat * 9)).off + 2, none⟩ = some (.int .i64 ((rd_T61 l0 x5_1).f2)) ∧ w'.cell? ⟨(ad1169.add ((x5_1).toNat * 9)).block, (ad1169.add ((x5_1).toNat * 9)).off + 3, none⟩ = some (.int .i64 ((rd_T61 l0 x5_1).f3)) ∧ w'.cell? ⟨(ad1169.add ((x5_1).toNat * 9)).block, (ad1169.add ((x5_1).toNat * 9)).off + 4, none⟩ = some (.int .i64 ((rd_T61 l0 x5_1).f4)) ∧ w'.cell? ⟨(ad1169.add ((x5_1).toNat * 9)).block, (ad1169.add ((x5_1).toNat * 9)).off + 5, none⟩ = some (.int .i64 ((rd_T61 l0 x5_1).f5)) ∧ w'.cell? ⟨(ad1169.add ((x5_1).toNat * 9)).block, (ad1169.add ((x5_1).toNat * 9)).off + 6, none⟩ = some (.int .i64 ((rd_T61 l0 x5_1).f6)) ∧ w'.cell? ⟨(ad1169.add ((x5_1).toNat * 9)).block, (ad1169.add ((x5_1).toNat * 9)).off + 7, none⟩ = some (.int .i64 ((rd_T61 l0 x5_1).f7)) ∧ w'.cell? ⟨(ad1169.add ((x5_1).toNat * 9)).block, (ad1169.add ((x5_1).toNat * 9)).off + 8, none⟩ = some (.int .i64 ((rd_T61 l0 x5_1).f8)) ∧ w'.cell? (ad1170.add ((x5_1).toNat * 9)) = some (.string ((rd_T61 l1 x5_1).f0)) ∧ w'.cell? ⟨(ad1170.add ((x5_1).toNat * 9)).block, (ad1170.add ((x5_1).toNat * 9)).off + 1, none⟩ = some (.int .i64 ((rd_T61 l1 x5_1).f1)) ∧ w'.cell? ⟨(ad1170.add ((x5_1).toNat * 9)).block, (ad1170.add ((x5_1).toNat * 9)).off + 2, none⟩ = some (.int .i64 ((rd_T61 l1 x5_1).f2)) ∧ w'.cell? ⟨(ad1170.add ((x5_1).toNat * 9)).block, (ad1170.add ((x5_1).toNat * 9)).off + 3, none⟩ = some (.int .i64 ((rd_T61 l1 x5_1).f3)) ∧ w'.cell? ⟨(ad1170.add ((x5_1).toNat * 9)).block, (ad1170.add ((x5_1).toNat * 9)).off + 4, none⟩ = some (.int .i64 ((rd_T61 l1 x5_1).f4)) ∧ w'.cell? ⟨(ad1170.add ((x5_1).toNat * 9)).block, (ad1170.add ((x5_1).toNat * 9)).off + 5, none⟩ = some (.int .i64 ((rd_T61 l1 x5_1).f5)) ∧ w'.cell? ⟨(ad1170.add ((x5_1).toNat * 9)).block, (ad1170.add ((x5_1).toNat * 9)).off + 6, none⟩ = some (.int .i64 ((rd_T61 l1 x5_1).f6)) ∧ w'.cell? ⟨(ad1170.add ((x5_1).toNat * 9)).block, (ad1170.add ((x5_1).toNat * 9)).off + 7, none⟩ = some (.int .i64 ((rd_T61 l1 x5_1).f7)) ∧ w'.cell? ⟨(ad1170.add ((x5_1).toNat * 9)).block, (ad1170.add ((x5_1).toNat * 9)).off + 8, none⟩ = some (.int .i64 ((rd_T61 l1 x5_1).f8))) (ds := []) (bT 10 0) Zi rfl rfl ⟨(cbH HB hw1169_0 :), (cbH HB hw1169_1 :), (cbH HB hw1169_2 :), (cbH HB hw1169_3 :), (cbH HB hw1169_4 :), (cbH HB hw1169_5 :), (cbH HB hw1169_6 :), (cbH HB hw1169_7 :), (cbH HB hw1169_8 :), (cbH HB hw1170_0 :), (cbH HB hw1170_1 :), (cbH HB hw1170_2 :), (cbH HB hw1170_3 :), (cbH HB hw1170_4 :), (cbH HB hw1170_5 :), (cbH HB hw1170_6 :), (cbH HB hw1170_7 :), (cbH HB hw1170_8 :)⟩ (fun hHeld => ?_); refine with_tabW laws_eqArticleS.tab6 laws_eqArticleS.bits6 (fun HT_ HW_ => ?_)
        generalize wr.drew = w9 at HB hx1169_0 hx1169_1 hx1169_2 hx1169_3 hx1169_4 hx1169_5 hx1169_6 hx1169_7 hx1169_8 hx1170_0 hx1170_1 hx1170_2 hx1170_3 hx1170_4 hx1170_5 hx1170_6 hx1170_7 hx1170_8 hHeld ⊢; refine pureZ HT_ 0 (some 17) (bT 10 1) ?_; refine pureZ HT_ 1 (some 18) (bT 10 2) ?_; refine pureZ HT_ 2 (some 19) (bT 10 3) ?_; refine pureZ HT_ 4 (some 21) (bB 10 23) ?_; refine pureZ HT_ 5 (some 22) (bB 10 55) ?_; refine pureZ HT_ 6 (some 23) (bB 10 119) ?_; refine takeZ18 HT_ HW_ 3 (some 20) (bT 10 7) hHeld ?_; refine takeZ18 HT_ HW_ 7 (some 24) (bT 10 8) hHeld ?_; refine one_ (i := 8) (N := some 25) (bT 10 9) rfl rfl (one_of HT_.out Zi) (by decide) (fun K hK => ?_); refine goes_ Try.func105 Zi rfl #[.agg #[.string ((rd_T61 l0 x5_1).f0), .int .i64 ((rd_T61 l0 x5_1).f1), .int .i64 ((rd_T61 l0 x5_1).f2), .int .i64 ((rd_T61 l0 x5_1).f3), .int .i64 ((rd_T61 l0 x5_1).f4), .int .i64 ((rd_T61 l0 x5_1).f5), .int .i64 ((rd_T61 l0 x5_1).f6), .int .i64 ((rd_T61 l0 x5_1).f7), .int .i64 ((rd_T61 l0 x5_1).f8)], .agg #[.string ((rd_T61 l1 x5_1).f0), .int .i64 ((rd_T61 l1 x5_1).f1), .int .i64 ((rd_T61 l1 x5_1).f2), .int .i64 ((rd_T61 l1 x5_1).f3), .int .i64 ((rd_T61 l1 x5_1).f4), .int .i64 ((rd_T61 l1 x5_1).f5), .int .i64 ((rd_T61 l1 x5_1).f6), .int .i64 ((rd_T61 l1 x5_1).f7), .int .i64 ((rd_T61 l1 x5_1).f8)]] (by rfl) rfl rfl Zr ?_
        with_reducible refine (laws_eqArticle.calls ((rd_T61 l0 x5_1).f0) ((rd_T61 l0 x5_1).f1) ((rd_T61 l0 x5_1).f2) ((rd_T61 l0 x5_1).f3) ((rd_T61 l0 x5_1).f4) ((rd_T61 l0 x5_1).f5) ((rd_T61 l0 x5_1).f6) ((rd_T61 l0 x5_1).f7) ((rd_T61 l0 x5_1).f8) ((rd_T61 l1 x5_1).f0) ((rd_T61 l1 x5_1).f1) ((rd_T61 l1 x5_1).f2) ((rd_T61 l1 x5_1).f3) ((rd_T61 l1 x5_1).f4) ((rd_T61 l1 x5_1).f5) ((rd_T61 l1 x5_1).f6) ((rd_T61 l1 x5_1).f7) ((rd_T61 l1 x5_1).f8) true _ A7.out).mono ?_
        rintro e w10 ⟨rfl, hb⟩; refine ⟨_, rfl, ?_⟩; replace HB := (bsZ Zd hb)
        (try clear hb)
        (try clear hb2)
        (try clear hk)
        (try clear hi)
        refine hK.out _ _ ⟨(cbH HB hw1169_0 :), (cbH HB hw1169_1 :), (cbH HB hw1169_2 :), (cbH HB hw1169_3 :), (cbH HB hw1169_4 :), (cbH HB hw1169_5 :), (cbH HB hw1169_6 :), (cbH HB hw1169_7 :), (cbH HB hw1169_8 :), (cbH HB hw1170_0 :), (cbH HB hw1170_1 :), (cbH HB hw1170_2 :), (cbH HB hw1170_3 :), (cbH HB hw1170_4 :), (cbH HB hw1170_5 :), (cbH HB hw1170_6 :), (cbH HB hw1170_7 :), (cbH HB hw1170_8 :)⟩ (fun hHeld => ?_); clear hK K; refine normZ 25 ?_; refine pureZ HT_ 9 (some 26) (bT 10 10) ?_; refine done_ (done_of HT_.out Zi) ?_
        try go_wp2
        go_roundg k1
        case measure => have := HK1.out; omega
        case rel => exact ⟨(wrap64 (x5_1 + 1)), Za, H', ⟨Zs⟩, ⟨Zd⟩⟩
       ·replace c8 := Bool.eq_false_iff.mpr c8
        subst c8; rw [if_neg (show ¬ (false = true) by decide)] at H; exact absurd ((Option.some.inj H).trans HR_.out) (by decide)
      ·rw [if_neg c6] at H
       exact absurd H (by simp)
     ·rw [if_neg c5] at H
      exact absurd H (by simp)
    ·rw [if_neg c4] at H
     have c4b0 := decide_eq_false c4; clear c4; obtain rfl := Option.some.inj H
     go_wp2
     go_ret
     exact ⟨Zj, Zd⟩
 ·rw [if_neg c3] at H
  have c3b0 := beq_eq_false_iff_ne.mpr c3; have c3b1 := bne_iff_ne.mpr c3
  have c3b2 : (l0.length == l1.length) = false := by first | simpa using c3 | (simp at c3 ⊢; omega)
  exact absurd ((Option.some.inj H).trans HR_.out) (by decide)
 /-! ### laws_markArticleS: function 54 -/
def laws_markArticleS.l0 : Nat → List (S61) → Int → Int → Option (Int × (List (S61)))
 | 0, _, _, _ => none
 | k + 1, x0, x1, x5 => if x5 < (x0.length : Int) then ((laws_markText.f k x1).bind fun t1207 => (if 0 ≤ x5 then ((some (x0.set (x5 : Int).toNat (⟨t1207, (rd_T61 x0 x5).f1, (rd_T61 x0 x5).f2, (rd_T61 x0 x5).f3, (rd_T61 x0 x5).f4, (rd_T61 x0 x5).f5, (rd_T61 x0 x5).f6, (rd_T61 x0 x5).f7, (rd_T61 x0 x5).f8⟩ : S61) : List (S61))).bind fun y1208 => ((some (y1208.set (x5 : Int).toNat (⟨(rd_T61 y1208 x5).f0, wrap64 (x1 + 1), (rd_T61 y1208 x5).f2, (rd_T61 y1208 x5).f3, (rd_T61 y1208 x5).f4, (rd_T61 y1208 x5).f5, (rd_T61 y1208 x5).f6, (rd_T61 y1208 x5).f7, (rd_T61 y1208 x5).f8⟩ : S61) : List (S61))).bind fun y1209 => ((some (y1209.set (x5 : Int).toNat (⟨(rd_T61 y1209 x5).f0, (rd_T61 y1209 x5).f1, wrap64 ((wrap64 (x1 + 1)) + 1), (rd_T61 y1209 x5).f3, (rd_T61 y1209 x5).f4, (rd_T61 y1209 x5).f5, (rd_T61 y1209 x5).f6, (rd_T61 y1209 x5).f7, (rd_T61 y1209 x5).f8⟩ : S61) : List (S61))).bind fun y1210 => ((some (y1210.set (x5 : Int).toNat (⟨(rd_T61 y1210 x5).f0, (rd_T61 y1210 x5).f1, (rd_T61 y1210 x5).f2, wrap64 ((wrap64 ((wrap64 (x1 + 1)) + 1)) + 1), (rd_T61 y1210 x5).f4, (rd_T61 y1210 x5).f5, (rd_T61 y1210 x5).f6, (rd_T61 y1210 x5).f7, (rd_T61 y1210 x5).f8⟩ : S61) : List (S61))).bind fun y1211 => ((some (y1211.set (x5 : Int).toNat (⟨(rd_T61 y1211 x5).f0, (rd_T61 y1211 x5).f1, (rd_T61 y1211 x5).f2, (rd_T61 y1211 x5).f3, wrap64 ((wrap64 ((wrap64 ((wrap64 (x1 + 1)) + 1)) + 1)) + 1), (rd_T61 y1211 x5).f5, (rd_T61 y1211 x5).f6, (rd_T61 y1211 x5).f7, (rd_T61 y1211 x5).f8⟩ : S61) : List (S61))).bind fun y1212 => ((some (y1212.set (x5 : Int).toNat (⟨(rd_T61 y1212 x5).f0, (rd_T61 y1212 x5).f1, (rd_T61 y1212 x5).f2, (rd_T61 y1212 x5).f3, (rd_T61 y1212 x5).f4, wrap64 ((wrap64 ((wrap64 ((wrap64 ((wrap64 (x1 + 1)) + 1)) + 1)) + 1)) + 1), (rd_T61 y1212 x5).f6, (rd_T61 y1212 x5).f7, (rd_T61 y1212 x5).f8⟩ : S61) : List (S61))).bind fun y1213 => ((some (y1213.set (x5 : Int).toNat (⟨(rd_T61 y1213 x5).f0, (rd_T61 y1213 x5).f1, (rd_T61 y1213 x5).f2, (rd_T61 y1213 x5).f3, (rd_T61 y1213 x5).f4, (rd_T61 y1213 x5).f5, wrap64 ((wrap64 ((wrap64 ((wrap64 ((wrap64 ((wrap64 (x1 + 1)) + 1)) + 1)) + 1)) + 1)) + 1), (rd_T61 y1213 x5).f7, (rd_T61 y1213 x5).f8⟩ : S61) : List (S61))).bind fun y1214 => ((some (y1214.set (x5 : Int).toNat (⟨(rd_T61 y1214 x5).f0, (rd_T61 y1214 x5).f1, (rd_T61 y1214 x5).f2, (rd_T61 y1214 x5).f3, (rd_T61 y1214 x5).f4, (rd_T61 y1214 x5).f5, (rd_T61 y1214 x5).f6, wrap64 ((wrap64 ((wrap64 ((wrap64 ((wrap64 ((wrap64 ((wrap64 (x1 + 1)) + 1)) + 1)) + 1)) + 1)) + 1)) + 1), (rd_T61 y1214 x5).f8⟩ : S61) : List (S61))).bind fun y1215 => (laws_markArticleS.l0 k (y1215.set (x5 : Int).toNat (⟨(rd_T61 y1215 x5).f0, (rd_T61 y1215 x5).f1, (rd_T61 y1215 x5).f2, (rd_T61 y1215 x5).f3, (rd_T61 y1215 x5).f4, (rd_T61 y1215 x5).f5, (rd_T61 y1215 x5).f6, (rd_T61 y1215 x5).f7, wrap64 ((wrap64 ((wrap64 ((wrap64 ((wrap64 ((wrap64 ((wrap64 ((wrap64 (x1 + 1)) + 1)) + 1)) + 1)) + 1)) + 1)) + 1)) + 1)⟩ : S61)) (wrap64 ((wrap64 ((wrap64 ((wrap64 ((wrap64 ((wrap64 ((wrap64 ((wrap64 ((wrap64 (x1 + 1)) + 1)) + 1)) + 1)) + 1)) + 1)) + 1)) + 1)) + 1)) (wrap64 (x5 + 1))))))))))) else (none))) else (some (x1, x0))
def laws_markArticleS.f (k : Nat) (l0 : List (S61)) (a1 : Int) : Option (Int × (List (S61))) := laws_markArticleS.l0 k l0 a1 0
set_option maxHeartbeats 8000000 in
set_option maxRecDepth 100000 in
theorem laws_markArticleS.calls (k : Nat) (P0_ : Nat → Prop) (u9000_ : Value) (l0 : List (S61)) (a1 : Int) (r1 : Int) (r2 : List (S61)) (w0 w : World) (hB : Below w0.heap.size w0 w) (ho0 : Kd.R k61 61 w w0.heap.size P0_ u9000_ l0) (h : laws_markArticleS.f k l0 a1 = some (r1, r2)) :
  Calls Try.prog 54 #[u9000_, .int .i64 a1] w fun e w' => e = .returned (.int .i64 r1) ∧ Kd.R k61 61 w' w0.heap.size (fun k_ => (P0_ k_ ∨ w.heap.size ≤ k_)) u9000_ r2 ∧ Below w0.heap.size w0 w' ∧ Kept w w' (fun k_ => P0_ k_) := by
 have HO0 := am_ (show Kd.R k61 61 w w0.heap.size (fun k_ => (P0_ k_ ∨ w.heap.size ≤ k_)) u9000_ l0 from Kd.R_mono ho0 (fun k_ hk => (.inl hk))); have HK := am_ (Kept.refl w (fun k_ => P0_ k_)); have HW0 := am_ hB.size; have HB := am_ hB; clear hB; have H : (laws_markArticleS.l0 k l0 a1 0) = some (r1, r2) := h; clear h; have H' := am_ H; clear H
 go_enter Try.func54, Try.ntmps54
 go_wp2
 go_loopg [1, 5] k (fun kq v1 v5 w' => ∃ (x0_1 : List (S61)) (x1_1 : Int) (x5_1 : Int), v1 = .int .i64 x1_1 ∧ v5 = .int .i64 x5_1 ∧ Aside0 (laws_markArticleS.l0 kq x0_1 x1_1 x5_1 = some (r1, r2)) ∧ Aside0 (kq ≤ k) ∧ Aside0 (Kd.R k61 61 w' w0.heap.size (fun k_ => (P0_ k_ ∨ w.heap.size ≤ k_)) u9000_ x0_1) ∧ Aside0 (Kept w w' (fun k_ => P0_ k_)) ∧ Aside0 (Below w0.heap.size w0 w'))
 case atStart => exact ⟨(l0), (a1), (0), Za, Za, H', ⟨Nat.le_refl _⟩, ⟨(Zo HO0)⟩, ⟨Zt⟩, ⟨Zd⟩⟩
 case round =>
  clear H'
  try clear p2
  obtain ⟨x0_1, x1_1, x5_1, rfl, rfl, HA, HK1, HO_0, HK, HB⟩ := hrel
  cases gk with
  | zero => exact absurd HA.out (by simp [laws_markArticleS.l0])
  | succ k1 =>
   have H := HA.out; clear HA; simp only [laws_markArticleS.l0] at H
   by_cases c3 : x5_1 < (x0_1.length : Int)
   ·rw [if_pos c3] at H
    have c3b0 := decide_eq_true c3; clear c3; replace H := Option.bind_eq_some_iff.mp H; obtain ⟨t1207, A40, H⟩ := H; have A4 := am_ A40; clear A40
    by_cases c5 : 0 ≤ x5_1
    ·rw [if_pos c5] at H
     have c5b0 := decide_eq_true c5; clear c5; obtain ⟨y1208, hy1208⟩ : ∃ y_ : List (S61), y_ = (x0_1.set (x5_1 : Int).toNat (⟨t1207, (rd_T61 x0_1 x5_1).f1, (rd_T61 x0_1 x5_1).f2, (rd_T61 x0_1 x5_1).f3, (rd_T61 x0_1 x5_1).f4, (rd_T61 x0_1 x5_1).f5, (rd_T61 x0_1 x5_1).f6, (rd_T61 x0_1 x5_1).f7, (rd_T61 x0_1 x5_1).f8⟩ : S61)) := ⟨_, rfl⟩
     (first | (rw [← hy1208] at H; with_reducible replace H := bindZ H) | rw [← hy1208] at H | skip)
     have Ny1208 := am_ hy1208; clear hy1208; obtain ⟨y1209, hy1209⟩ : ∃ y_ : List (S61), y_ = (y1208.set (x5_1 : Int).toNat (⟨(rd_T61 y1208 x5_1).f0, wrap64 (x1_1 + 1), (rd_T61 y1208 x5_1).f2, (rd_T61 y1208 x5_1).f3, (rd_T61 y1208 x5_1).f4, (rd_T61 y1208 x5_1).f5, (rd_T61 y1208 x5_1).f6, (rd_T61 y1208 x5_1).f7, (rd_T61 y1208 x5_1).f8⟩ : S61)) := ⟨_, rfl⟩
     (first | (rw [← hy1209] at H; with_reducible replace H := bindZ H) | rw [← hy1209] at H | skip)
     have Ny1209 := am_ hy1209; clear hy1209; obtain ⟨y1210, hy1210⟩ : ∃ y_ : List (S61), y_ = (y1209.set (x5_1 : Int).toNat (⟨(rd_T61 y1209 x5_1).f0, (rd_T61 y1209 x5_1).f1, wrap64 ((wrap64 (x1_1 + 1)) + 1), (rd_T61 y1209 x5_1).f3, (rd_T61 y1209 x5_1).f4, (rd_T61 y1209 x5_1).f5, (rd_T61 y1209 x5_1).f6, (rd_T61 y1209 x5_1).f7, (rd_T61 y1209 x5_1).f8⟩ : S61)) := ⟨_, rfl⟩
     (first | (rw [← hy1210] at H; with_reducible replace H := bindZ H) | rw [← hy1210] at H | skip)
     have Ny1210 := am_ hy1210; clear hy1210; obtain ⟨y1211, hy1211⟩ : ∃ y_ : List (S61), y_ = (y1210.set (x5_1 : Int).toNat (⟨(rd_T61 y1210 x5_1).f0, (rd_T61 y1210 x5_1).f1, (rd_T61 y1210 x5_1).f2, wrap64 ((wrap64 ((wrap64 (x1_1 + 1)) + 1)) + 1), (rd_T61 y1210 x5_1).f4, (rd_T61 y1210 x5_1).f5, (rd_T61 y1210 x5_1).f6, (rd_T61 y1210 x5_1).f7, (rd_T61 y1210 x5_1).f8⟩ : S61)) := ⟨_, rfl⟩
     (first | (rw [← hy1211] at H; with_reducible replace H := bindZ H) | rw [← hy1211] at H | skip)
     have Ny1211 := am_ hy1211; clear hy1211; obtain ⟨y1212, hy1212⟩ : ∃ y_ : List (S61), y_ = (y1211.set (x5_1 : Int).toNat (⟨(rd_T61 y1211 x5_1).f0, (rd_T61 y1211 x5_1).f1, (rd_T61 y1211 x5_1).f2, (rd_T61 y1211 x5_1).f3, wrap64 ((wrap64 ((wrap64 ((wrap64 (x1_1 + 1)) + 1)) + 1)) + 1), (rd_T61 y1211 x5_1).f5, (rd_T61 y1211 x5_1).f6, (rd_T61 y1211 x5_1).f7, (rd_T61 y1211 x5_1).f8⟩ : S61)) := ⟨_, rfl⟩
     (first | (rw [← hy1212] at H; with_reducible replace H := bindZ H) | rw [← hy1212] at H | skip)
     have Ny1212 := am_ hy1212; clear hy1212; obtain ⟨y1213, hy1213⟩ : ∃ y_ : List (S61), y_ = (y1212.set (x5_1 : Int).toNat (⟨(rd_T61 y1212 x5_1).f0, (rd_T61 y1212 x5_1).f1, (rd_T61 y1212 x5_1).f2, (rd_T61 y1212 x5_1).f3, (rd_T61 y1212 x5_1).f4, wrap64 ((wrap64 ((wrap64 ((wrap64 ((wrap64 (x1_1 + 1)) + 1)) + 1)) + 1)) + 1), (rd_T61 y1212 x5_1).f6, (rd_T61 y1212 x5_1).f7, (rd_T61 y1212 x5_1).f8⟩ : S61)) := ⟨_, rfl⟩
     (first | (rw [← hy1213] at H; with_reducible replace H := bindZ H) | rw [← hy1213] at H | skip)
     have Ny1213 := am_ hy1213; clear hy1213; obtain ⟨y1214, hy1214⟩ : ∃ y_ : List (S61), y_ = (y1213.set (x5_1 : Int).toNat (⟨(rd_T61 y1213 x5_1).f0, (rd_T61 y1213 x5_1).f1, (rd_T61 y1213 x5_1).f2, (rd_T61 y1213 x5_1).f3, (rd_T61 y1213 x5_1).f4, (rd_T61 y1213 x5_1).f5, wrap64 ((wrap64 ((wrap64 ((wrap64 ((wrap64 ((wrap64 (x1_1 + 1)) + 1)) + 1)) + 1)) + 1)) + 1), (rd_T61 y1213 x5_1).f7, (rd_T61 y1213 x5_1).f8⟩ : S61)) := ⟨_, rfl⟩
     (first | (rw [← hy1214] at H; with_reducible replace H := bindZ H) | rw [← hy1214] at H | skip)
     have Ny1214 := am_ hy1214; clear hy1214; obtain ⟨y1215, hy1215⟩ : ∃ y_ : List (S61), y_ = (y1214.set (x5_1 : Int).toNat (⟨(rd_T61 y1214 x5_1).f0, (rd_T61 y1214 x5_1).f1, (rd_T61 y1214 x5_1).f2, (rd_T61 y1214 x5_1).f3, (rd_T61 y1214 x5_1).f4, (rd_T61 y1214 x5_1).f5, (rd_T61 y1214 x5_1).f6, wrap64 ((wrap64 ((wrap64 ((wrap64 ((wrap64 ((wrap64 ((wrap64 (x1_1 + 1)) + 1)) + 1)) + 1)) + 1)) + 1)) + 1), (rd_T61 y1214 x5_1).f8⟩ : S61)) := ⟨_, rfl⟩
     (first | (rw [← hy1215] at H; with_reducible replace H := bindZ H) | rw [← hy1215] at H | skip)
     have Ny1215 := am_ hy1215; clear hy1215; obtain ⟨y1216, hy1216⟩ : ∃ y_ : List (S61), y_ = (y1215.set (x5_1 : Int).toNat (⟨(rd_T61 y1215 x5_1).f0, (rd_T61 y1215 x5_1).f1, (rd_T61 y1215 x5_1).f2, (rd_T61 y1215 x5_1).f3, (rd_T61 y1215 x5_1).f4, (rd_T61 y1215 x5_1).f5, (rd_T61 y1215 x5_1).f6, (rd_T61 y1215 x5_1).f7, wrap64 ((wrap64 ((wrap64 ((wrap64 ((wrap64 ((wrap64 ((wrap64 ((wrap64 (x1_1 + 1)) + 1)) + 1)) + 1)) + 1)) + 1)) + 1)) + 1)⟩ : S61)) := ⟨_, rfl⟩
     (first | (rw [← hy1216] at H; with_reducible replace H := bindZ H) | rw [← hy1216] at H | skip)
     have Ny1216 := am_ hy1216; clear hy1216; have H' := am_ H; clear H; obtain ⟨Ao15, co15, eo15⟩ := Kd.R_slice HO_0.out; subst eo15
     go_wp2_with (first | ((with_reducible refine gate_callee (f := 94) rfl ?_); refine gZ 15 Try.func94 #[.int .i64 x1_1] ?_; (with_reducible refine (laws_markText.calls k1 x1_1 t1207 _ A4.out).mono ?_); rintro e w16 ⟨rfl, hb⟩; refine ⟨_, rfl, ?_⟩; replace HO_0 := (hbZ HO_0 hb); replace HK := am_ (Kept.below (S := (fun k_ => P0_ k_)) Zt hb); replace HB := (bsZ Zd hb); clear hb; have p6 : 0 ≤ (x5_1 : Int) := of_decide_eq_true Zn; have q6 : (x5_1 : Int) < ((x0_1.length : Int) : Int) := of_decide_eq_true Zn; obtain ⟨go6, co6, eo6, gb6, gl6, cl6, HG6⟩ := Kd.R_form HO_0.out (by omega); (first | cases eo6 | (injection eo6 with ea_ en_ ec_; (first | subst ea_ | (injection ea_ with ea_; subst ea_)); subst ec_; clear en_)); have GB6 := am_ gb6; have GG6 := am_ HG6; clear gb6 gl6 HG6; have HMgo6 := am_ (show (P0_ go6 ∨ w.heap.size ≤ go6) from (HO_0.out.1 _ rfl)); obtain ⟨ce6, hcl6, hM6, hcc6, hfr6⟩ := Kd.R_elem HO_0.out z61 (x5_1 : Int) p6 q6; obtain rfl := k61_openM hM6; have hx6_0 : w16.cell? ⟨go6, (x5_1 : Int).toNat * 9, none⟩ = some (.string ((rd_T61 x0_1 x5_1).f0)) := hcc6 0 _ rfl; have hx6_1 : w16.cell? ⟨go6, (x5_1 : Int).toNat * 9 + 1, none⟩ = some (.int .i64 ((rd_T61 x0_1 x5_1).f1)) := hcc6 1 _ rfl; have hx6_2 : w16.cell? ⟨go6, (x5_1 : Int).toNat * 9 + 2, none⟩ = some (.int .i64 ((rd_T61 x0_1 x5_1).f2)) := hcc6 2 _ rfl; have hx6_3 : w16.cell? ⟨go6, (x5_1 : Int).toNat * 9 + 3, none⟩ = some (.int .i64 ((rd_T61 x0_1 x5_1).f3)) := hcc6 3 _ rfl; have hx6_4 : w16.cell? ⟨go6, (x5_1 : Int).toNat * 9 + 4, none⟩ = some (.int .i64 ((rd_T61 x0_1 x5_1).f4)) := hcc6 4 _ rfl; have hx6_5 : w16.cell? ⟨go6, (x5_1 : Int).toNat * 9 + 5, none⟩ = some (.int .i64 ((rd_T61 x0_1 x5_1).f5)) := hcc6 5 _ rfl; have hx6_6 : w16.cell? ⟨go6, (x5_1 : Int).toNat * 9 + 6, none⟩ = some (.int .i64 ((rd_T61 x0_1 x5_1).f6)) := hcc6 6 _ rfl; have hx6_7 : w16.cell? ⟨go6, (x5_1 : Int).toNat * 9 + 7, none⟩ = some (.int .i64 ((rd_T61 x0_1 x5_1).f7)) := hcc6 7 _ rfl; have hx6_8 : w16.cell? ⟨go6, (x5_1 : Int).toNat * 9 + 8, none⟩ = some (.int .i64 ((rd_T61 x0_1 x5_1).f8)) := hcc6 8 _ rfl; have hf6_0 : w16.frozen? ⟨go6, (x5_1 : Int).toNat * 9, none⟩ = false := hfr6 0; have hf6_1 := hfr6 1; have hf6_2 := hfr6 2; have hf6_3 := hfr6 3; have hf6_4 := hfr6 4; have hf6_5 := hfr6 5; have hf6_6 := hfr6 6; have hf6_7 := hfr6 7; have hf6_8 := hfr6 8; clear hcl6 hcc6 hfr6 hM6; replace p6 := eq_true p6; replace q6 := eq_true q6; have HX17 := am_ (show Kd.R k61 61 w16 w0.heap.size (fun k_ => (P0_ k_ ∨ w.heap.size ≤ k_)) (.slice (some ⟨go6, 0, none⟩) x0_1.length co15) x0_1 from (Zo HO_0)); obtain ⟨ce17, hcl17, hM17, hcc17, hfr17⟩ := Kd.R_elem HX17.out z61 (x5_1 : Int) (of_decide_eq_true Zn) (by have h_ : (x5_1 : Int) < ((x0_1.length : Int) : Int) := of_decide_eq_true Zn; first | exact h_ | (have e_ := (Kd.R_reads' HO_0.out).1; omega) | simpa using h_); obtain rfl := k61_openM hM17; have HP17 := Kd.R_seg HX17.out (x5_1 : Int) (of_decide_eq_true Zn) (by have h_ : (x5_1 : Int) < ((x0_1.length : Int) : Int) := of_decide_eq_true Zn; first | exact h_ | (have e_ := (Kd.R_reads' HO_0.out).1; omega) | simpa using h_) (seg := [.string t1207]) (j := 0) hcl17 hcc17 (show 1 ≤ 9 from (by decide)) (x' := (⟨t1207, (rd_T61 x0_1 x5_1).f1, (rd_T61 x0_1 x5_1).f2, (rd_T61 x0_1 x5_1).f3, (rd_T61 x0_1 x5_1).f4, (rd_T61 x0_1 x5_1).f5, (rd_T61 x0_1 x5_1).f6, (rd_T61 x0_1 x5_1).f7, (rd_T61 x0_1 x5_1).f8⟩ : S61)) (k61_mkM _ _ _ (⟨t1207, (rd_T61 x0_1 x5_1).f1, (rd_T61 x0_1 x5_1).f2, (rd_T61 x0_1 x5_1).f3, (rd_T61 x0_1 x5_1).f4, (rd_T61 x0_1 x5_1).f5, (rd_T61 x0_1 x5_1).f6, (rd_T61 x0_1 x5_1).f7, (rd_T61 x0_1 x5_1).f8⟩ : S61) ) (fun _ hk => hk); have hx17_0 := hcc17 0 _ rfl; (try simp only [show (k61).sz = 9 from rfl, Nat.mul_one, Nat.add_zero] at hx17_0); have hf17_0 := hfr17 0; (try simp only [show (k61).sz = 9 from rfl, Nat.mul_one, Nat.add_zero] at hf17_0); clear hcl17 hcc17 hfr17 hM17) | ((with_reducible refine gate_store (t := 9) (p := 17) rfl ?_); refine store_event (t := 9) (p := 17) (v := ?vo_w18) (w1 := (w16.setCell ⟨go6, (x5_1 : Int).toNat * 9, none⟩ (.string t1207))) ?hg ?ho ?hn ?hr ?_; (case ho => rfl); (case hg => rfl); (case hn => rfl); (case hr => first | (go_simp; done) | (go_simp; rfl)); intro w18 hw; have hg : w16.grownBy w18 (some go6) := (by rw [hw]; exact HP17.2); have hp_ : Kd.R k61 61 w18 w0.heap.size (fun k_ => (P0_ k_ ∨ w.heap.size ≤ k_)) (.slice (some ⟨go6, 0, none⟩) x0_1.length co15) y1208 := (by rw [hw, Ny1208.out]; exact HP17.1); clear HP17; replace HB := am_ (((Zu GB6) : Below w0.heap.size w0 w18)); replace HK := am_ (Kept.of_grown (S := (fun k_ => P0_ k_)) hg Zt (fun k_ e_ => (HO_0.out.1 k_ e_))); replace HO_0 := am_ (hp_); clear hg hw hp_; have p7 : 0 ≤ (x5_1 : Int) := of_decide_eq_true Zn; have q7 : (x5_1 : Int) < ((x0_1.length : Int) : Int) := of_decide_eq_true Zn; obtain ⟨ce7, hcl7, hM7, hcc7, hfr7⟩ := Kd.R_elem HO_0.out z61 (x5_1 : Int) p7 q7; obtain rfl := k61_openM hM7; have hx7_0 : w18.cell? ⟨go6, (x5_1 : Int).toNat * 9, none⟩ = some (.string ((rd_T61 y1208 x5_1).f0)) := hcc7 0 _ rfl; have hx7_1 : w18.cell? ⟨go6, (x5_1 : Int).toNat * 9 + 1, none⟩ = some (.int .i64 ((rd_T61 y1208 x5_1).f1)) := hcc7 1 _ rfl; have hx7_2 : w18.cell? ⟨go6, (x5_1 : Int).toNat * 9 + 2, none⟩ = some (.int .i64 ((rd_T61 y1208 x5_1).f2)) := hcc7 2 _ rfl; have hx7_3 : w18.cell? ⟨go6, (x5_1 : Int).toNat * 9 + 3, none⟩ = some (.int .i64 ((rd_T61 y1208 x5_1).f3)) := hcc7 3 _ rfl; have hx7_4 : w18.cell? ⟨go6, (x5_1 : Int).toNat * 9 + 4, none⟩ = some (.int .i64 ((rd_T61 y1208 x5_1).f4)) := hcc7 4 _ rfl; have hx7_5 : w18.cell? ⟨go6, (x5_1 : Int).toNat * 9 + 5, none⟩ = some (.int .i64 ((rd_T61 y1208 x5_1).f5)) := hcc7 5 _ rfl; have hx7_6 : w18.cell? ⟨go6, (x5_1 : Int).toNat * 9 + 6, none⟩ = some (.int .i64 ((rd_T61 y1208 x5_1).f6)) := hcc7 6 _ rfl; have hx7_7 : w18.cell? ⟨go6, (x5_1 : Int).toNat * 9 + 7, none⟩ = some (.int .i64 ((rd_T61 y1208 x5_1).f7)) := hcc7 7 _ rfl; have hx7_8 : w18.cell? ⟨go6, (x5_1 : Int).toNat * 9 + 8, none⟩ = some (.int .i64 ((rd_T61 y1208 x5_1).f8)) := hcc7 8 _ rfl; have hf7_0 : w18.frozen? ⟨go6, (x5_1 : Int).toNat * 9, none⟩ = false := hfr7 0; have hf7_1 := hfr7 1; have hf7_2 := hfr7 2; have hf7_3 := hfr7 3; have hf7_4 := hfr7 4; have hf7_5 := hfr7 5; have hf7_6 := hfr7 6; have hf7_7 := hfr7 7; have hf7_8 := hfr7 8; clear hcl7 hcc7 hfr7 hM7; replace p7 := eq_true p7; replace q7 := eq_true q7; have HX19 := am_ (show Kd.R k61 61 w18 w0.heap.size (fun k_ => (P0_ k_ ∨ w.heap.size ≤ k_)) (.slice (some ⟨go6, 0, none⟩) x0_1.length co15) y1208 from (Zo HO_0)); obtain ⟨ce19, hcl19, hM19, hcc19, hfr19⟩ := Kd.R_elem HX19.out z61 (x5_1 : Int) (of_decide_eq_true Zn) (by have h_ : (x5_1 : Int) < ((x0_1.length : Int) : Int) := of_decide_eq_true Zn; first | exact h_ | (have e_ := (Kd.R_reads' HO_0.out).1; omega) | simpa using h_); obtain rfl := k61_openM hM19; have HP19 := Kd.R_seg HX19.out (x5_1 : Int) (of_decide_eq_true Zn) (by have h_ : (x5_1 : Int) < ((x0_1.length : Int) : Int) := of_decide_eq_true Zn; first | exact h_ | (have e_ := (Kd.R_reads' HO_0.out).1; omega) | simpa using h_) (seg := [.int .i64 (wrap64 (x1_1 + 1))]) (j := 1) hcl19 hcc19 (show 2 ≤ 9 from (by decide)) (x' := (⟨(rd_T61 y1208 x5_1).f0, wrap64 (x1_1 + 1), (rd_T61 y1208 x5_1).f2, (rd_T61 y1208 x5_1).f3, (rd_T61 y1208 x5_1).f4, (rd_T61 y1208 x5_1).f5, (rd_T61 y1208 x5_1).f6, (rd_T61 y1208 x5_1).f7, (rd_T61 y1208 x5_1).f8⟩ : S61)) (k61_mkM _ _ _ (⟨(rd_T61 y1208 x5_1).f0, wrap64 (x1_1 + 1), (rd_T61 y1208 x5_1).f2, (rd_T61 y1208 x5_1).f3, (rd_T61 y1208 x5_1).f4, (rd_T61 y1208 x5_1).f5, (rd_T61 y1208 x5_1).f6, (rd_T61 y1208 x5_1).f7, (rd_T61 y1208 x5_1).f8⟩ : S61) ) (fun _ hk => hk); have hx19_1 := hcc19 1 _ rfl; (try simp only [show (k61).sz = 9 from rfl, Nat.mul_one, Nat.add_zero] at hx19_1); have hf19_1 := hfr19 1; (try simp only [show (k61).sz = 9 from rfl, Nat.mul_one, Nat.add_zero] at hf19_1); clear hcl19 hcc19 hfr19 hM19) | ((with_reducible refine gate_store (t := 2) (p := 24) rfl ?_); refine store_event (t := 2) (p := 24) (v := ?vo_w20) (w1 := (w18.setCell ⟨go6, (x5_1 : Int).toNat * 9 + 1, none⟩ (.int .i64 (wrap64 (x1_1 + 1))))) ?hg ?ho ?hn ?hr ?_; (case ho => rfl); (case hg => rfl); (case hn => rfl); (case hr => first | (go_simp; done) | (go_simp; rfl)); intro w20 hw; have hg : w18.grownBy w20 (some go6) := (by rw [hw]; exact HP19.2); have hp_ : Kd.R k61 61 w20 w0.heap.size (fun k_ => (P0_ k_ ∨ w.heap.size ≤ k_)) (.slice (some ⟨go6, 0, none⟩) x0_1.length co15) y1209 := (by rw [hw, Ny1209.out]; exact HP19.1); clear HP19; replace HB := am_ (((Zu GB6) : Below w0.heap.size w0 w20)); replace HK := am_ (Kept.of_grown (S := (fun k_ => P0_ k_)) hg Zt (fun k_ e_ => (HO_0.out.1 k_ e_))); replace HO_0 := am_ (hp_); clear hg hw hp_; have p8 : 0 ≤ (x5_1 : Int) := of_decide_eq_true Zn; have q8 : (x5_1 : Int) < ((x0_1.length : Int) : Int) := of_decide_eq_true Zn; obtain ⟨ce8, hcl8, hM8, hcc8, hfr8⟩ := Kd.R_elem HO_0.out z61 (x5_1 : Int) p8 q8; obtain rfl := k61_openM hM8; have hx8_0 : w20.cell? ⟨go6, (x5_1 : Int).toNat * 9, none⟩ = some (.string ((rd_T61 y1209 x5_1).f0)) := hcc8 0 _ rfl; have hx8_1 : w20.cell? ⟨go6, (x5_1 : Int).toNat * 9 + 1, none⟩ = some (.int .i64 ((rd_T61 y1209 x5_1).f1)) := hcc8 1 _ rfl; have hx8_2 : w20.cell? ⟨go6, (x5_1 : Int).toNat * 9 + 2, none⟩ = some (.int .i64 ((rd_T61 y1209 x5_1).f2)) := hcc8 2 _ rfl; have hx8_3 : w20.cell? ⟨go6, (x5_1 : Int).toNat * 9 + 3, none⟩ = some (.int .i64 ((rd_T61 y1209 x5_1).f3)) := hcc8 3 _ rfl; have hx8_4 : w20.cell? ⟨go6, (x5_1 : Int).toNat * 9 + 4, none⟩ = some (.int .i64 ((rd_T61 y1209 x5_1).f4)) := hcc8 4 _ rfl; have hx8_5 : w20.cell? ⟨go6, (x5_1 : Int).toNat * 9 + 5, none⟩ = some (.int .i64 ((rd_T61 y1209 x5_1).f5)) := hcc8 5 _ rfl; have hx8_6 : w20.cell? ⟨go6, (x5_1 : Int).toNat * 9 + 6, none⟩ = some (.int .i64 ((rd_T61 y1209 x5_1).f6)) := hcc8 6 _ rfl; have hx8_7 : w20.cell? ⟨go6, (x5_1 : Int).toNat * 9 + 7, none⟩ = some (.int .i64 ((rd_T61 y1209 x5_1).f7)) := hcc8 7 _ rfl; have hx8_8 : w20.cell? ⟨go6, (x5_1 : Int).toNat * 9 + 8, none⟩ = some (.int .i64 ((rd_T61 y1209 x5_1).f8)) := hcc8 8 _ rfl; have hf8_0 : w20.frozen? ⟨go6, (x5_1 : Int).toNat * 9, none⟩ = false := hfr8 0; have hf8_1 := hfr8 1; have hf8_2 := hfr8 2; have hf8_3 := hfr8 3; have hf8_4 := hfr8 4; have hf8_5 := hfr8 5; have hf8_6 := hfr8 6; have hf8_7 := hfr8 7; have hf8_8 := hfr8 8; clear hcl8 hcc8 hfr8 hM8; replace p8 := eq_true p8; replace q8 := eq_true q8; have HX21 := am_ (show Kd.R k61 61 w20 w0.heap.size (fun k_ => (P0_ k_ ∨ w.heap.size ≤ k_)) (.slice (some ⟨go6, 0, none⟩) x0_1.length co15) y1209 from (Zo HO_0)); obtain ⟨ce21, hcl21, hM21, hcc21, hfr21⟩ := Kd.R_elem HX21.out z61 (x5_1 : Int) (of_decide_eq_true Zn) (by have h_ : (x5_1 : Int) < ((x0_1.length : Int) : Int) := of_decide_eq_true Zn; first | exact h_ | (have e_ := (Kd.R_reads' HO_0.out).1; omega) | simpa using h_); obtain rfl := k61_openM hM21; have HP21 := Kd.R_seg HX21.out (x5_1 : Int) (of_decide_eq_true Zn) (by have h_ : (x5_1 : Int) < ((x0_1.length : Int) : Int) := of_decide_eq_true Zn; first | exact h_ | (have e_ := (Kd.R_reads' HO_0.out).1; omega) | simpa using h_) (seg := [.int .i64 (wrap64 ((wrap64 (x1_1 + 1)) + 1))]) (j := 2) hcl21 hcc21 (show 3 ≤ 9 from (by decide)) (x' := (⟨(rd_T61 y1209 x5_1).f0, (rd_T61 y1209 x5_1).f1, wrap64 ((wrap64 (x1_1 + 1)) + 1), (rd_T61 y1209 x5_1).f3, (rd_T61 y1209 x5_1).f4, (rd_T61 y1209 x5_1).f5, (rd_T61 y1209 x5_1).f6, (rd_T61 y1209 x5_1).f7, (rd_T61 y1209 x5_1).f8⟩ : S61)) (k61_mkM _ _ _ (⟨(rd_T61 y1209 x5_1).f0, (rd_T61 y1209 x5_1).f1, wrap64 ((wrap64 (x1_1 + 1)) + 1), (rd_T61 y1209 x5_1).f3, (rd_T61 y1209 x5_1).f4, (rd_T61 y1209 x5_1).f5, (rd_T61 y1209 x5_1).f6, (rd_T61 y1209 x5_1).f7, (rd_T61 y1209 x5_1).f8⟩ : S61) ) (fun _ hk => hk); have hx21_2 := hcc21 2 _ rfl; (try simp only [show (k61).sz = 9 from rfl, Nat.mul_one, Nat.add_zero] at hx21_2); have hf21_2 := hfr21 2; (try simp only [show (k61).sz = 9 from rfl, Nat.mul_one, Nat.add_zero] at hf21_2); clear hcl21 hcc21 hfr21 hM21) | ((with_reducible refine gate_store (t := 2) (p := 31) rfl ?_); refine store_event (t := 2) (p := 31) (v := ?vo_w22) (w1 := (w20.setCell ⟨go6, (x5_1 : Int).toNat * 9 + 2, none⟩ (.int .i64 (wrap64 ((wrap64 (x1_1 + 1)) + 1))))) ?hg ?ho ?hn ?hr ?_; (case ho => rfl); (case hg => rfl); (case hn => rfl); (case hr => first | (go_simp; done) | (go_simp; rfl)); intro w22 hw; have hg : w20.grownBy w22 (some go6) := (by rw [hw]; exact HP21.2); have hp_ : Kd.R k61 61 w22 w0.heap.size (fun k_ => (P0_ k_ ∨ w.heap.size ≤ k_)) (.slice (some ⟨go6, 0, none⟩) x0_1.length co15) y1210 := (by rw [hw, Ny1210.out]; exact HP21.1); clear HP21; replace HB := am_ (((Zu GB6) : Below w0.heap.size w0 w22)); replace HK := am_ (Kept.of_grown (S := (fun k_ => P0_ k_)) hg Zt (fun k_ e_ => (HO_0.out.1 k_ e_))); replace HO_0 := am_ (hp_); clear hg hw hp_; have p9 : 0 ≤ (x5_1 : Int) := of_decide_eq_true Zn; have q9 : (x5_1 : Int) < ((x0_1.length : Int) : Int) := of_decide_eq_true Zn; obtain ⟨ce9, hcl9, hM9, hcc9, hfr9⟩ := Kd.R_elem HO_0.out z61 (x5_1 : Int) p9 q9; obtain rfl := k61_openM hM9; have hx9_0 : w22.cell? ⟨go6, (x5_1 : Int).toNat * 9, none⟩ = some (.string ((rd_T61 y1210 x5_1).f0)) := hcc9 0 _ rfl; have hx9_1 : w22.cell? ⟨go6, (x5_1 : Int).toNat * 9 + 1, none⟩ = some (.int .i64 ((rd_T61 y1210 x5_1).f1)) := hcc9 1 _ rfl; have hx9_2 : w22.cell? ⟨go6, (x5_1 : Int).toNat * 9 + 2, none⟩ = some (.int .i64 ((rd_T61 y1210 x5_1).f2)) := hcc9 2 _ rfl; have hx9_3 : w22.cell? ⟨go6, (x5_1 : Int).toNat * 9 + 3, none⟩ = some (.int .i64 ((rd_T61 y1210 x5_1).f3)) := hcc9 3 _ rfl; have hx9_4 : w22.cell? ⟨go6, (x5_1 : Int).toNat * 9 + 4, none⟩ = some (.int .i64 ((rd_T61 y1210 x5_1).f4)) := hcc9 4 _ rfl; have hx9_5 : w22.cell? ⟨go6, (x5_1 : Int).toNat * 9 + 5, none⟩ = some (.int .i64 ((rd_T61 y1210 x5_1).f5)) := hcc9 5 _ rfl; have hx9_6 : w22.cell? ⟨go6, (x5_1 : Int).toNat * 9 + 6, none⟩ = some (.int .i64 ((rd_T61 y1210 x5_1).f6)) := hcc9 6 _ rfl; have hx9_7 : w22.cell? ⟨go6, (x5_1 : Int).toNat * 9 + 7, none⟩ = some (.int .i64 ((rd_T61 y1210 x5_1).f7)) := hcc9 7 _ rfl; have hx9_8 : w22.cell? ⟨go6, (x5_1 : Int).toNat * 9 + 8, none⟩ = some (.int .i64 ((rd_T61 y1210 x5_1).f8)) := hcc9 8 _ rfl; have hf9_0 : w22.frozen? ⟨go6, (x5_1 : Int).toNat * 9, none⟩ = false := hfr9 0; have hf9_1 := hfr9 1; have hf9_2 := hfr9 2; have hf9_3 := hfr9 3; have hf9_4 := hfr9 4; have hf9_5 := hfr9 5; have hf9_6 := hfr9 6; have hf9_7 := hfr9 7; have hf9_8 := hfr9 8; clear hcl9 hcc9 hfr9 hM9; replace p9 := eq_true p9; replace q9 := eq_true q9; have HX23 := am_ (show Kd.R k61 61 w22 w0.heap.size (fun k_ => (P0_ k_ ∨ w.heap.size ≤ k_)) (.slice (some ⟨go6, 0, none⟩) x0_1.length co15) y1210 from (Zo HO_0)); obtain ⟨ce23, hcl23, hM23, hcc23, hfr23⟩ := Kd.R_elem HX23.out z61 (x5_1 : Int) (of_decide_eq_true Zn) (by have h_ : (x5_1 : Int) < ((x0_1.length : Int) : Int) := of_decide_eq_true Zn; first | exact h_ | (have e_ := (Kd.R_reads' HO_0.out).1; omega) | simpa using h_); obtain rfl := k61_openM hM23; have HP23 := Kd.R_seg HX23.out (x5_1 : Int) (of_decide_eq_true Zn) (by have h_ : (x5_1 : Int) < ((x0_1.length : Int) : Int) := of_decide_eq_true Zn; first | exact h_ | (have e_ := (Kd.R_reads' HO_0.out).1; omega) | simpa using h_) (seg := [.int .i64 (wrap64 ((wrap64 ((wrap64 (x1_1 + 1)) + 1)) + 1))]) (j := 3) hcl23 hcc23 (show 4 ≤ 9 from (by decide)) (x' := (⟨(rd_T61 y1210 x5_1).f0, (rd_T61 y1210 x5_1).f1, (rd_T61 y1210 x5_1).f2, wrap64 ((wrap64 ((wrap64 (x1_1 + 1)) + 1)) + 1), (rd_T61 y1210 x5_1).f4, (rd_T61 y1210 x5_1).f5, (rd_T61 y1210 x5_1).f6, (rd_T61 y1210 x5_1).f7, (rd_T61 y1210 x5_1).f8⟩ : S61)) (k61_mkM _ _ _ (⟨(rd_T61 y1210 x5_1).f0, (rd_T61 y1210 x5_1).f1, (rd_T61 y1210 x5_1).f2, wrap64 ((wrap64 ((wrap64 (x1_1 + 1)) + 1)) + 1), (rd_T61 y1210 x5_1).f4, (rd_T61 y1210 x5_1).f5, (rd_T61 y1210 x5_1).f6, (rd_T61 y1210 x5_1).f7, (rd_T61 y1210 x5_1).f8⟩ : S61) ) (fun _ hk => hk); have hx23_3 := hcc23 3 _ rfl; (try simp only [show (k61).sz = 9 from rfl, Nat.mul_one, Nat.add_zero] at hx23_3); have hf23_3 := hfr23 3; (try simp only [show (k61).sz = 9 from rfl, Nat.mul_one, Nat.add_zero] at hf23_3); clear hcl23 hcc23 hfr23 hM23) | ((with_reducible refine gate_store (t := 2) (p := 38) rfl ?_); refine store_event (t := 2) (p := 38) (v := ?vo_w24) (w1 := (w22.setCell ⟨go6, (x5_1 : Int).toNat * 9 + 3, none⟩ (.int .i64 (wrap64 ((wrap64 ((wrap64 (x1_1 + 1)) + 1)) + 1))))) ?hg ?ho ?hn ?hr ?_; (case ho => rfl); (case hg => rfl); (case hn => rfl); (case hr => first | (go_simp; done) | (go_simp; rfl)); intro w24 hw; have hg : w22.grownBy w24 (some go6) := (by rw [hw]; exact HP23.2); have hp_ : Kd.R k61 61 w24 w0.heap.size (fun k_ => (P0_ k_ ∨ w.heap.size ≤ k_)) (.slice (some ⟨go6, 0, none⟩) x0_1.length co15) y1211 := (by rw [hw, Ny1211.out]; exact HP23.1); clear HP23; replace HB := am_ (((Zu GB6) : Below w0.heap.size w0 w24)); replace HK := am_ (Kept.of_grown (S := (fun k_ => P0_ k_)) hg Zt (fun k_ e_ => (HO_0.out.1 k_ e_))); replace HO_0 := am_ (hp_); clear hg hw hp_; have p10 : 0 ≤ (x5_1 : Int) := of_decide_eq_true Zn; have q10 : (x5_1 : Int) < ((x0_1.length : Int) : Int) := of_decide_eq_true Zn; obtain ⟨ce10, hcl10, hM10, hcc10, hfr10⟩ := Kd.R_elem HO_0.out z61 (x5_1 : Int) p10 q10; obtain rfl := k61_openM hM10; have hx10_0 : w24.cell? ⟨go6, (x5_1 : Int).toNat * 9, none⟩ = some (.string ((rd_T61 y1211 x5_1).f0)) := hcc10 0 _ rfl; have hx10_1 : w24.cell? ⟨go6, (x5_1 : Int).toNat * 9 + 1, none⟩ = some (.int .i64 ((rd_T61 y1211 x5_1).f1)) := hcc10 1 _ rfl; have hx10_2 : w24.cell? ⟨go6, (x5_1 : Int).toNat * 9 + 2, none⟩ = some (.int .i64 ((rd_T61 y1211 x5_1).f2)) := hcc10 2 _ rfl; have hx10_3 : w24.cell? ⟨go6, (x5_1 : Int).toNat * 9 + 3, none⟩ = some (.int .i64 ((rd_T61 y1211 x5_1).f3)) := hcc10 3 _ rfl; have hx10_4 : w24.cell? ⟨go6, (x5_1 : Int).toNat * 9 + 4, none⟩ = some (.int .i64 ((rd_T61 y1211 x5_1).f4)) := hcc10 4 _ rfl; have hx10_5 : w24.cell? ⟨go6, (x5_1 : Int).toNat * 9 + 5, none⟩ = some (.int .i64 ((rd_T61 y1211 x5_1).f5)) := hcc10 5 _ rfl; have hx10_6 : w24.cell? ⟨go6, (x5_1 : Int).toNat * 9 + 6, none⟩ = some (.int .i64 ((rd_T61 y1211 x5_1).f6)) := hcc10 6 _ rfl; have hx10_7 : w24.cell? ⟨go6, (x5_1 : Int).toNat * 9 + 7, none⟩ = some (.int .i64 ((rd_T61 y1211 x5_1).f7)) := hcc10 7 _ rfl; have hx10_8 : w24.cell? ⟨go6, (x5_1 : Int).toNat * 9 + 8, none⟩ = some (.int .i64 ((rd_T61 y1211 x5_1).f8)) := hcc10 8 _ rfl; have hf10_0 : w24.frozen? ⟨go6, (x5_1 : Int).toNat * 9, none⟩ = false := hfr10 0; have hf10_1 := hfr10 1; have hf10_2 := hfr10 2; have hf10_3 := hfr10 3; have hf10_4 := hfr10 4; have hf10_5 := hfr10 5; have hf10_6 := hfr10 6; have hf10_7 := hfr10 7; have hf10_8 := hfr10 8; clear hcl10 hcc10 hfr10 hM10; replace p10 := eq_true p10; replace q10 := eq_true q10; have HX25 := am_ (show Kd.R k61 61 w24 w0.heap.size (fun k_ => (P0_ k_ ∨ w.heap.size ≤ k_)) (.slice (some ⟨go6, 0, none⟩) x0_1.length co15) y1211 from (Zo HO_0)); obtain ⟨ce25, hcl25, hM25, hcc25, hfr25⟩ := Kd.R_elem HX25.out z61 (x5_1 : Int) (of_decide_eq_true Zn) (by have h_ : (x5_1 : Int) < ((x0_1.length : Int) : Int) := of_decide_eq_true Zn; first | exact h_ | (have e_ := (Kd.R_reads' HO_0.out).1; omega) | simpa using h_); obtain rfl := k61_openM hM25; have HP25 := Kd.R_seg HX25.out (x5_1 : Int) (of_decide_eq_true Zn) (by have h_ : (x5_1 : Int) < ((x0_1.length : Int) : Int) := of_decide_eq_true Zn; first | exact h_ | (have e_ := (Kd.R_reads' HO_0.out).1; omega) | simpa using h_) (seg := [.int .i64 (wrap64 ((wrap64 ((wrap64 ((wrap64 (x1_1 + 1)) + 1)) + 1)) + 1))]) (j := 4) hcl25 hcc25 (show 5 ≤ 9 from (by decide)) (x' := (⟨(rd_T61 y1211 x5_1).f0, (rd_T61 y1211 x5_1).f1, (rd_T61 y1211 x5_1).f2, (rd_T61 y1211 x5_1).f3, wrap64 ((wrap64 ((wrap64 ((wrap64 (x1_1 + 1)) + 1)) + 1)) + 1), (rd_T61 y1211 x5_1).f5, (rd_T61 y1211 x5_1).f6, (rd_T61 y1211 x5_1).f7, (rd_T61 y1211 x5_1).f8⟩ : S61)) (k61_mkM _ _ _ (⟨(rd_T61 y1211 x5_1).f0, (rd_T61 y1211 x5_1).f1, (rd_T61 y1211 x5_1).f2, (rd_T61 y1211 x5_1).f3, wrap64 ((wrap64 ((wrap64 ((wrap64 (x1_1 + 1)) + 1)) + 1)) + 1), (rd_T61 y1211 x5_1).f5, (rd_T61 y1211 x5_1).f6, (rd_T61 y1211 x5_1).f7, (rd_T61 y1211 x5_1).f8⟩ : S61) ) (fun _ hk => hk); have hx25_4 := hcc25 4 _ rfl; (try simp only [show (k61).sz = 9 from rfl, Nat.mul_one, Nat.add_zero] at hx25_4); have hf25_4 := hfr25 4; (try simp only [show (k61).sz = 9 from rfl, Nat.mul_one, Nat.add_zero] at hf25_4); clear hcl25 hcc25 hfr25 hM25) | ((with_reducible refine gate_store (t := 2) (p := 45) rfl ?_); refine store_event (t := 2) (p := 45) (v := ?vo_w26) (w1 := (w24.setCell ⟨go6, (x5_1 : Int).toNat * 9 + 4, none⟩ (.int .i64 (wrap64 ((wrap64 ((wrap64 ((wrap64 (x1_1 + 1)) + 1)) + 1)) + 1))))) ?hg ?ho ?hn ?hr ?_; (case ho => rfl); (case hg => rfl); (case hn => rfl); (case hr => first | (go_simp; done) | (go_simp; rfl)); intro w26 hw; have hg : w24.grownBy w26 (some go6) := (by rw [hw]; exact HP25.2); have hp_ : Kd.R k61 61 w26 w0.heap.size (fun k_ => (P0_ k_ ∨ w.heap.size ≤ k_)) (.slice (some ⟨go6, 0, none⟩) x0_1.length co15) y1212 := (by rw [hw, Ny1212.out]; exact HP25.1); clear HP25; replace HB := am_ (((Zu GB6) : Below w0.heap.size w0 w26)); replace HK := am_ (Kept.of_grown (S := (fun k_ => P0_ k_)) hg Zt (fun k_ e_ => (HO_0.out.1 k_ e_))); replace HO_0 := am_ (hp_); clear hg hw hp_; have p11 : 0 ≤ (x5_1 : Int) := of_decide_eq_true Zn; have q11 : (x5_1 : Int) < ((x0_1.length : Int) : Int) := of_decide_eq_true Zn; obtain ⟨ce11, hcl11, hM11, hcc11, hfr11⟩ := Kd.R_elem HO_0.out z61 (x5_1 : Int) p11 q11; obtain rfl := k61_openM hM11; have hx11_0 : w26.cell? ⟨go6, (x5_1 : Int).toNat * 9, none⟩ = some (.string ((rd_T61 y1212 x5_1).f0)) := hcc11 0 _ rfl; have hx11_1 : w26.cell? ⟨go6, (x5_1 : Int).toNat * 9 + 1, none⟩ = some (.int .i64 ((rd_T61 y1212 x5_1).f1)) := hcc11 1 _ rfl; have hx11_2 : w26.cell? ⟨go6, (x5_1 : Int).toNat * 9 + 2, none⟩ = some (.int .i64 ((rd_T61 y1212 x5_1).f2)) := hcc11 2 _ rfl; have hx11_3 : w26.cell? ⟨go6, (x5_1 : Int).toNat * 9 + 3, none⟩ = some (.int .i64 ((rd_T61 y1212 x5_1).f3)) := hcc11 3 _ rfl; have hx11_4 : w26.cell? ⟨go6, (x5_1 : Int).toNat * 9 + 4, none⟩ = some (.int .i64 ((rd_T61 y1212 x5_1).f4)) := hcc11 4 _ rfl; have hx11_5 : w26.cell? ⟨go6, (x5_1 : Int).toNat * 9 + 5, none⟩ = some (.int .i64 ((rd_T61 y1212 x5_1).f5)) := hcc11 5 _ rfl; have hx11_6 : w26.cell? ⟨go6, (x5_1 : Int).toNat * 9 + 6, none⟩ = some (.int .i64 ((rd_T61 y1212 x5_1).f6)) := hcc11 6 _ rfl; have hx11_7 : w26.cell? ⟨go6, (x5_1 : Int).toNat * 9 + 7, none⟩ = some (.int .i64 ((rd_T61 y1212 x5_1).f7)) := hcc11 7 _ rfl; have hx11_8 : w26.cell? ⟨go6, (x5_1 : Int).toNat * 9 + 8, none⟩ = some (.int .i64 ((rd_T61 y1212 x5_1).f8)) := hcc11 8 _ rfl; have hf11_0 : w26.frozen? ⟨go6, (x5_1 : Int).toNat * 9, none⟩ = false := hfr11 0; have hf11_1 := hfr11 1; have hf11_2 := hfr11 2; have hf11_3 := hfr11 3; have hf11_4 := hfr11 4; have hf11_5 := hfr11 5; have hf11_6 := hfr11 6; have hf11_7 := hfr11 7; have hf11_8 := hfr11 8; clear hcl11 hcc11 hfr11 hM11; replace p11 := eq_true p11; replace q11 := eq_true q11; have HX27 := am_ (show Kd.R k61 61 w26 w0.heap.size (fun k_ => (P0_ k_ ∨ w.heap.size ≤ k_)) (.slice (some ⟨go6, 0, none⟩) x0_1.length co15) y1212 from (Zo HO_0)); obtain ⟨ce27, hcl27, hM27, hcc27, hfr27⟩ := Kd.R_elem HX27.out z61 (x5_1 : Int) (of_decide_eq_true Zn) (by have h_ : (x5_1 : Int) < ((x0_1.length : Int) : Int) := of_decide_eq_true Zn; first | exact h_ | (have e_ := (Kd.R_reads' HO_0.out).1; omega) | simpa using h_); obtain rfl := k61_openM hM27; have HP27 := Kd.R_seg HX27.out (x5_1 : Int) (of_decide_eq_true Zn) (by have h_ : (x5_1 : Int) < ((x0_1.length : Int) : Int) := of_decide_eq_true Zn; first | exact h_ | (have e_ := (Kd.R_reads' HO_0.out).1; omega) | simpa using h_) (seg := [.int .i64 (wrap64 ((wrap64 ((wrap64 ((wrap64 ((wrap64 (x1_1 + 1)) + 1)) + 1)) + 1)) + 1))]) (j := 5) hcl27 hcc27 (show 6 ≤ 9 from (by decide)) (x' := (⟨(rd_T61 y1212 x5_1).f0, (rd_T61 y1212 x5_1).f1, (rd_T61 y1212 x5_1).f2, (rd_T61 y1212 x5_1).f3, (rd_T61 y1212 x5_1).f4, wrap64 ((wrap64 ((wrap64 ((wrap64 ((wrap64 (x1_1 + 1)) + 1)) + 1)) + 1)) + 1), (rd_T61 y1212 x5_1).f6, (rd_T61 y1212 x5_1).f7, (rd_T61 y1212 x5_1).f8⟩ : S61)) (k61_mkM _ _ _ (⟨(rd_T61 y1212 x5_1).f0, (rd_T61 y1212 x5_1).f1, (rd_T61 y1212 x5_1).f2, (rd_T61 y1212 x5_1).f3, (rd_T61 y1212 x5_1).f4, wrap64 ((wrap64 ((wrap64 ((wrap64 ((wrap64 (x1_1 + 1)) + 1)) + 1)) + 1)) + 1), (rd_T61 y1212 x5_1).f6, (rd_T61 y1212 x5_1).f7, (rd_T61 y1212 x5_1).f8⟩ : S61) ) (fun _ hk => hk); have hx27_5 := hcc27 5 _ rfl; (try simp only [show (k61).sz = 9 from rfl, Nat.mul_one, Nat.add_zero] at hx27_5); have hf27_5 := hfr27 5; (try simp only [show (k61).sz = 9 from rfl, Nat.mul_one, Nat.add_zero] at hf27_5); clear hcl27 hcc27 hfr27 hM27) | ((with_reducible refine gate_store (t := 2) (p := 52) rfl ?_); refine store_event (t := 2) (p := 52) (v := ?vo_w28) (w1 := (w26.setCell ⟨go6, (x5_1 : Int).toNat * 9 + 5, none⟩ (.int .i64 (wrap64 ((wrap64 ((wrap64 ((wrap64 ((wrap64 (x1_1 + 1)) + 1)) + 1)) + 1)) + 1))))) ?hg ?ho ?hn ?hr ?_; (case ho => rfl); (case hg => rfl); (case hn => rfl); (case hr => first | (go_simp; done) | (go_simp; rfl)); intro w28 hw; have hg : w26.grownBy w28 (some go6) := (by rw [hw]; exact HP27.2); have hp_ : Kd.R k61 61 w28 w0.heap.size (fun k_ => (P0_ k_ ∨ w.heap.size ≤ k_)) (.slice (some ⟨go6, 0, none⟩) x0_1.length co15) y1213 := (by rw [hw, Ny1213.out]; exact HP27.1); clear HP27; replace HB := am_ (((Zu GB6) : Below w0.heap.size w0 w28)); replace HK := am_ (Kept.of_grown (S := (fun k_ => P0_ k_)) hg Zt (fun k_ e_ => (HO_0.out.1 k_ e_))); replace HO_0 := am_ (hp_); clear hg hw hp_; have p12 : 0 ≤ (x5_1 : Int) := of_decide_eq_true Zn; have q12 : (x5_1 : Int) < ((x0_1.length : Int) : Int) := of_decide_eq_true Zn; obtain ⟨ce12, hcl12, hM12, hcc12, hfr12⟩ := Kd.R_elem HO_0.out z61 (x5_1 : Int) p12 q12; obtain rfl := k61_openM hM12; have hx12_0 : w28.cell? ⟨go6, (x5_1 : Int).toNat * 9, none⟩ = some (.string ((rd_T61 y1213 x5_1).f0)) := hcc12 0 _ rfl; have hx12_1 : w28.cell? ⟨go6, (x5_1 : Int).toNat * 9 + 1, none⟩ = some (.int .i64 ((rd_T61 y1213 x5_1).f1)) := hcc12 1 _ rfl; have hx12_2 : w28.cell? ⟨go6, (x5_1 : Int).toNat * 9 + 2, none⟩ = some (.int .i64 ((rd_T61 y1213 x5_1).f2)) := hcc12 2 _ rfl; have hx12_3 : w28.cell? ⟨go6, (x5_1 : Int).toNat * 9 + 3, none⟩ = some (.int .i64 ((rd_T61 y1213 x5_1).f3)) := hcc12 3 _ rfl; have hx12_4 : w28.cell? ⟨go6, (x5_1 : Int).toNat * 9 + 4, none⟩ = some (.int .i64 ((rd_T61 y1213 x5_1).f4)) := hcc12 4 _ rfl; have hx12_5 : w28.cell? ⟨go6, (x5_1 : Int).toNat * 9 + 5, none⟩ = some (.int .i64 ((rd_T61 y1213 x5_1).f5)) := hcc12 5 _ rfl; have hx12_6 : w28.cell? ⟨go6, (x5_1 : Int).toNat * 9 + 6, none⟩ = some (.int .i64 ((rd_T61 y1213 x5_1).f6)) := hcc12 6 _ rfl; have hx12_7 : w28.cell? ⟨go6, (x5_1 : Int).toNat * 9 + 7, none⟩ = some (.int .i64 ((rd_T61 y1213 x5_1).f7)) := hcc12 7 _ rfl; have hx12_8 : w28.cell? ⟨go6, (x5_1 : Int).toNat * 9 + 8, none⟩ = some (.int .i64 ((rd_T61 y1213 x5_1).f8)) := hcc12 8 _ rfl; have hf12_0 : w28.frozen? ⟨go6, (x5_1 : Int).toNat * 9, none⟩ = false := hfr12 0; have hf12_1 := hfr12 1; have hf12_2 := hfr12 2; have hf12_3 := hfr12 3; have hf12_4 := hfr12 4; have hf12_5 := hfr12 5; have hf12_6 := hfr12 6; have hf12_7 := hfr12 7; have hf12_8 := hfr12 8; clear hcl12 hcc12 hfr12 hM12; replace p12 := eq_true p12; replace q12 := eq_true q12; have HX29 := am_ (show Kd.R k61 61 w28 w0.heap.size (fun k_ => (P0_ k_ ∨ w.heap.size ≤ k_)) (.slice (some ⟨go6, 0, none⟩) x0_1.length co15) y1213 from (Zo HO_0)); obtain ⟨ce29, hcl29, hM29, hcc29, hfr29⟩ := Kd.R_elem HX29.out z61 (x5_1 : Int) (of_decide_eq_true Zn) (by have h_ : (x5_1 : Int) < ((x0_1.length : Int) : Int) := of_decide_eq_true Zn; first | exact h_ | (have e_ := (Kd.R_reads' HO_0.out).1; omega) | simpa using h_); obtain rfl := k61_openM hM29; have HP29 := Kd.R_seg HX29.out (x5_1 : Int) (of_decide_eq_true Zn) (by have h_ : (x5_1 : Int) < ((x0_1.length : Int) : Int) := of_decide_eq_true Zn; first | exact h_ | (have e_ := (Kd.R_reads' HO_0.out).1; omega) | simpa using h_) (seg := [.int .i64 (wrap64 ((wrap64 ((wrap64 ((wrap64 ((wrap64 ((wrap64 (x1_1 + 1)) + 1)) + 1)) + 1)) + 1)) + 1))]) (j := 6) hcl29 hcc29 (show 7 ≤ 9 from (by decide)) (x' := (⟨(rd_T61 y1213 x5_1).f0, (rd_T61 y1213 x5_1).f1, (rd_T61 y1213 x5_1).f2, (rd_T61 y1213 x5_1).f3, (rd_T61 y1213 x5_1).f4, (rd_T61 y1213 x5_1).f5, wrap64 ((wrap64 ((wrap64 ((wrap64 ((wrap64 ((wrap64 (x1_1 + 1)) + 1)) + 1)) + 1)) + 1)) + 1), (rd_T61 y1213 x5_1).f7, (rd_T61 y1213 x5_1).f8⟩ : S61)) (k61_mkM _ _ _ (⟨(rd_T61 y1213 x5_1).f0, (rd_T61 y1213 x5_1).f1, (rd_T61 y1213 x5_1).f2, (rd_T61 y1213 x5_1).f3, (rd_T61 y1213 x5_1).f4, (rd_T61 y1213 x5_1).f5, wrap64 ((wrap64 ((wrap64 ((wrap64 ((wrap64 ((wrap64 (x1_1 + 1)) + 1)) + 1)) + 1)) + 1)) + 1), (rd_T61 y1213 x5_1).f7, (rd_T61 y1213 x5_1).f8⟩ : S61) ) (fun _ hk => hk); have hx29_6 := hcc29 6 _ rfl; (try simp only [show (k61).sz = 9 from rfl, Nat.mul_one, Nat.add_zero] at hx29_6); have hf29_6 := hfr29 6; (try simp only [show (k61).sz = 9 from rfl, Nat.mul_one, Nat.add_zero] at hf29_6); clear hcl29 hcc29 hfr29 hM29) | ((with_reducible refine gate_store (t := 2) (p := 59) rfl ?_); refine store_event (t := 2) (p := 59) (v := ?vo_w30) (w1 := (w28.setCell ⟨go6, (x5_1 : Int).toNat * 9 + 6, none⟩ (.int .i64 (wrap64 ((wrap64 ((wrap64 ((wrap64 ((wrap64 ((wrap64 (x1_1 + 1)) + 1)) + 1)) + 1)) + 1)) + 1))))) ?hg ?ho ?hn ?hr ?_; (case ho => rfl); (case hg => rfl); (case hn => rfl); (case hr => first | (go_simp; done) | (go_simp; rfl)); intro w30 hw; have hg : w28.grownBy w30 (some go6) := (by rw [hw]; exact HP29.2); have hp_ : Kd.R k61 61 w30 w0.heap.size (fun k_ => (P0_ k_ ∨ w.heap.size ≤ k_)) (.slice (some ⟨go6, 0, none⟩) x0_1.length co15) y1214 := (by rw [hw, Ny1214.out]; exact HP29.1); clear HP29; replace HB := am_ (((Zu GB6) : Below w0.heap.size w0 w30)); replace HK := am_ (Kept.of_grown (S := (fun k_ => P0_ k_)) hg Zt (fun k_ e_ => (HO_0.out.1 k_ e_))); replace HO_0 := am_ (hp_); clear hg hw hp_; have p13 : 0 ≤ (x5_1 : Int) := of_decide_eq_true Zn; have q13 : (x5_1 : Int) < ((x0_1.length : Int) : Int) := of_decide_eq_true Zn; obtain ⟨ce13, hcl13, hM13, hcc13, hfr13⟩ := Kd.R_elem HO_0.out z61 (x5_1 : Int) p13 q13; obtain rfl := k61_openM hM13; have hx13_0 : w30.cell? ⟨go6, (x5_1 : Int).toNat * 9, none⟩ = some (.string ((rd_T61 y1214 x5_1).f0)) := hcc13 0 _ rfl; have hx13_1 : w30.cell? ⟨go6, (x5_1 : Int).toNat * 9 + 1, none⟩ = some (.int .i64 ((rd_T61 y1214 x5_1).f1)) := hcc13 1 _ rfl; have hx13_2 : w30.cell? ⟨go6, (x5_1 : Int).toNat * 9 + 2, none⟩ = some (.int .i64 ((rd_T61 y1214 x5_1).f2)) := hcc13 2 _ rfl; have hx13_3 : w30.cell? ⟨go6, (x5_1 : Int).toNat * 9 + 3, none⟩ = some (.int .i64 ((rd_T61 y1214 x5_1).f3)) := hcc13 3 _ rfl; have hx13_4 : w30.cell? ⟨go6, (x5_1 : Int).toNat * 9 + 4, none⟩ = some (.int .i64 ((rd_T61 y1214 x5_1).f4)) := hcc13 4 _ rfl; have hx13_5 : w30.cell? ⟨go6, (x5_1 : Int).toNat * 9 + 5, none⟩ = some (.int .i64 ((rd_T61 y1214 x5_1).f5)) := hcc13 5 _ rfl; have hx13_6 : w30.cell? ⟨go6, (x5_1 : Int).toNat * 9 + 6, none⟩ = some (.int .i64 ((rd_T61 y1214 x5_1).f6)) := hcc13 6 _ rfl; have hx13_7 : w30.cell? ⟨go6, (x5_1 : Int).toNat * 9 + 7, none⟩ = some (.int .i64 ((rd_T61 y1214 x5_1).f7)) := hcc13 7 _ rfl; have hx13_8 : w30.cell? ⟨go6, (x5_1 : Int).toNat * 9 + 8, none⟩ = some (.int .i64 ((rd_T61 y1214 x5_1).f8)) := hcc13 8 _ rfl; have hf13_0 : w30.frozen? ⟨go6, (x5_1 : Int).toNat * 9, none⟩ = false := hfr13 0; have hf13_1 := hfr13 1; have hf13_2 := hfr13 2; have hf13_3 := hfr13 3; have hf13_4 := hfr13 4; have hf13_5 := hfr13 5; have hf13_6 := hfr13 6; have hf13_7 := hfr13 7; have hf13_8 := hfr13 8; clear hcl13 hcc13 hfr13 hM13; replace p13 := eq_true p13; replace q13 := eq_true q13; have HX31 := am_ (show Kd.R k61 61 w30 w0.heap.size (fun k_ => (P0_ k_ ∨ w.heap.size ≤ k_)) (.slice (some ⟨go6, 0, none⟩) x0_1.length co15) y1214 from (Zo HO_0)); obtain ⟨ce31, hcl31, hM31, hcc31, hfr31⟩ := Kd.R_elem HX31.out z61 (x5_1 : Int) (of_decide_eq_true Zn) (by have h_ : (x5_1 : Int) < ((x0_1.length : Int) : Int) := of_decide_eq_true Zn; first | exact h_ | (have e_ := (Kd.R_reads' HO_0.out).1; omega) | simpa using h_); obtain rfl := k61_openM hM31; have HP31 := Kd.R_seg HX31.out (x5_1 : Int) (of_decide_eq_true Zn) (by have h_ : (x5_1 : Int) < ((x0_1.length : Int) : Int) := of_decide_eq_true Zn; first | exact h_ | (have e_ := (Kd.R_reads' HO_0.out).1; omega) | simpa using h_) (seg := [.int .i64 (wrap64 ((wrap64 ((wrap64 ((wrap64 ((wrap64 ((wrap64 ((wrap64 (x1_1 + 1)) + 1)) + 1)) + 1)) + 1)) + 1)) + 1))]) (j := 7) hcl31 hcc31 (show 8 ≤ 9 from (by decide)) (x' := (⟨(rd_T61 y1214 x5_1).f0, (rd_T61 y1214 x5_1).f1, (rd_T61 y1214 x5_1).f2, (rd_T61 y1214 x5_1).f3, (rd_T61 y1214 x5_1).f4, (rd_T61 y1214 x5_1).f5, (rd_T61 y1214 x5_1).f6, wrap64 ((wrap64 ((wrap64 ((wrap64 ((wrap64 ((wrap64 ((wrap64 (x1_1 + 1)) + 1)) + 1)) + 1)) + 1)) + 1)) + 1), (rd_T61 y1214 x5_1).f8⟩ : S61)) (k61_mkM _ _ _ (⟨(rd_T61 y1214 x5_1).f0, (rd_T61 y1214 x5_1).f1, (rd_T61 y1214 x5_1).f2, (rd_T61 y1214 x5_1).f3, (rd_T61 y1214 x5_1).f4, (rd_T61 y1214 x5_1).f5, (rd_T61 y1214 x5_1).f6, wrap64 ((wrap64 ((wrap64 ((wrap64 ((wrap64 ((wrap64 ((wrap64 (x1_1 + 1)) + 1)) + 1)) + 1)) + 1)) + 1)) + 1), (rd_T61 y1214 x5_1).f8⟩ : S61) ) (fun _ hk => hk); have hx31_7 := hcc31 7 _ rfl; (try simp only [show (k61).sz = 9 from rfl, Nat.mul_one, Nat.add_zero] at hx31_7); have hf31_7 := hfr31 7; (try simp only [show (k61).sz = 9 from rfl, Nat.mul_one, Nat.add_zero] at hf31_7); clear hcl31 hcc31 hfr31 hM31) | ((with_reducible refine gate_store (t := 2) (p := 66) rfl ?_); refine store_event (t := 2) (p := 66) (v := ?vo_w32) (w1 := (w30.setCell ⟨go6, (x5_1 : Int).toNat * 9 + 7, none⟩ (.int .i64 (wrap64 ((wrap64 ((wrap64 ((wrap64 ((wrap64 ((wrap64 ((wrap64 (x1_1 + 1)) + 1)) + 1)) + 1)) + 1)) + 1)) + 1))))) ?hg ?ho ?hn ?hr ?_; (case ho => rfl); (case hg => rfl); (case hn => rfl); (case hr => first | (go_simp; done) | (go_simp; rfl)); intro w32 hw; have hg : w30.grownBy w32 (some go6) := (by rw [hw]; exact HP31.2); have hp_ : Kd.R k61 61 w32 w0.heap.size (fun k_ => (P0_ k_ ∨ w.heap.size ≤ k_)) (.slice (some ⟨go6, 0, none⟩) x0_1.length co15) y1215 := (by rw [hw, Ny1215.out]; exact HP31.1); clear HP31; replace HB := am_ (((Zu GB6) : Below w0.heap.size w0 w32)); replace HK := am_ (Kept.of_grown (S := (fun k_ => P0_ k_)) hg Zt (fun k_ e_ => (HO_0.out.1 k_ e_))); replace HO_0 := am_ (hp_); clear hg hw hp_; have p14 : 0 ≤ (x5_1 : Int) := of_decide_eq_true Zn; have q14 : (x5_1 : Int) < ((x0_1.length : Int) : Int) := of_decide_eq_true Zn; obtain ⟨ce14, hcl14, hM14, hcc14, hfr14⟩ := Kd.R_elem HO_0.out z61 (x5_1 : Int) p14 q14; obtain rfl := k61_openM hM14; have hx14_0 : w32.cell? ⟨go6, (x5_1 : Int).toNat * 9, none⟩ = some (.string ((rd_T61 y1215 x5_1).f0)) := hcc14 0 _ rfl; have hx14_1 : w32.cell? ⟨go6, (x5_1 : Int).toNat * 9 + 1, none⟩ = some (.int .i64 ((rd_T61 y1215 x5_1).f1)) := hcc14 1 _ rfl; have hx14_2 : w32.cell? ⟨go6, (x5_1 : Int).toNat * 9 + 2, none⟩ = some (.int .i64 ((rd_T61 y1215 x5_1).f2)) := hcc14 2 _ rfl; have hx14_3 : w32.cell? ⟨go6, (x5_1 : Int).toNat * 9 + 3, none⟩ = some (.int .i64 ((rd_T61 y1215 x5_1).f3)) := hcc14 3 _ rfl; have hx14_4 : w32.cell? ⟨go6, (x5_1 : Int).toNat * 9 + 4, none⟩ = some (.int .i64 ((rd_T61 y1215 x5_1).f4)) := hcc14 4 _ rfl; have hx14_5 : w32.cell? ⟨go6, (x5_1 : Int).toNat * 9 + 5, none⟩ = some (.int .i64 ((rd_T61 y1215 x5_1).f5)) := hcc14 5 _ rfl; have hx14_6 : w32.cell? ⟨go6, (x5_1 : Int).toNat * 9 + 6, none⟩ = some (.int .i64 ((rd_T61 y1215 x5_1).f6)) := hcc14 6 _ rfl; have hx14_7 : w32.cell? ⟨go6, (x5_1 : Int).toNat * 9 + 7, none⟩ = some (.int .i64 ((rd_T61 y1215 x5_1).f7)) := hcc14 7 _ rfl; have hx14_8 : w32.cell? ⟨go6, (x5_1 : Int).toNat * 9 + 8, none⟩ = some (.int .i64 ((rd_T61 y1215 x5_1).f8)) := hcc14 8 _ rfl; have hf14_0 : w32.frozen? ⟨go6, (x5_1 : Int).toNat * 9, none⟩ = false := hfr14 0; have hf14_1 := hfr14 1; have hf14_2 := hfr14 2; have hf14_3 := hfr14 3; have hf14_4 := hfr14 4; have hf14_5 := hfr14 5; have hf14_6 := hfr14 6; have hf14_7 := hfr14 7; have hf14_8 := hfr14 8; clear hcl14 hcc14 hfr14 hM14; replace p14 := eq_true p14; replace q14 := eq_true q14; have HX33 := am_ (show Kd.R k61 61 w32 w0.heap.size (fun k_ => (P0_ k_ ∨ w.heap.size ≤ k_)) (.slice (some ⟨go6, 0, none⟩) x0_1.length co15) y1215 from (Zo HO_0)); obtain ⟨ce33, hcl33, hM33, hcc33, hfr33⟩ := Kd.R_elem HX33.out z61 (x5_1 : Int) (of_decide_eq_true Zn) (by have h_ : (x5_1 : Int) < ((x0_1.length : Int) : Int) := of_decide_eq_true Zn; first | exact h_ | (have e_ := (Kd.R_reads' HO_0.out).1; omega) | simpa using h_); obtain rfl := k61_openM hM33; have HP33 := Kd.R_seg HX33.out (x5_1 : Int) (of_decide_eq_true Zn) (by have h_ : (x5_1 : Int) < ((x0_1.length : Int) : Int) := of_decide_eq_true Zn; first | exact h_ | (have e_ := (Kd.R_reads' HO_0.out).1; omega) | simpa using h_) (seg := [.int .i64 (wrap64 ((wrap64 ((wrap64 ((wrap64 ((wrap64 ((wrap64 ((wrap64 ((wrap64 (x1_1 + 1)) + 1)) + 1)) + 1)) + 1)) + 1)) + 1)) + 1))]) (j := 8) hcl33 hcc33 (show 9 ≤ 9 from (by decide)) (x' := (⟨(rd_T61 y1215 x5_1).f0, (rd_T61 y1215 x5_1).f1, (rd_T61 y1215 x5_1).f2, (rd_T61 y1215 x5_1).f3, (rd_T61 y1215 x5_1).f4, (rd_T61 y1215 x5_1).f5, (rd_T61 y1215 x5_1).f6, (rd_T61 y1215 x5_1).f7, wrap64 ((wrap64 ((wrap64 ((wrap64 ((wrap64 ((wrap64 ((wrap64 ((wrap64 (x1_1 + 1)) + 1)) + 1)) + 1)) + 1)) + 1)) + 1)) + 1)⟩ : S61)) (k61_mkM _ _ _ (⟨(rd_T61 y1215 x5_1).f0, (rd_T61 y1215 x5_1).f1, (rd_T61 y1215 x5_1).f2, (rd_T61 y1215 x5_1).f3, (rd_T61 y1215 x5_1).f4, (rd_T61 y1215 x5_1).f5, (rd_T61 y1215 x5_1).f6, (rd_T61 y1215 x5_1).f7, wrap64 ((wrap64 ((wrap64 ((wrap64 ((wrap64 ((wrap64 ((wrap64 ((wrap64 (x1_1 + 1)) + 1)) + 1)) + 1)) + 1)) + 1)) + 1)) + 1)⟩ : S61) ) (fun _ hk => hk); have hx33_8 := hcc33 8 _ rfl; (try simp only [show (k61).sz = 9 from rfl, Nat.mul_one, Nat.add_zero] at hx33_8); have hf33_8 := hfr33 8; (try simp only [show (k61).sz = 9 from rfl, Nat.mul_one, Nat.add_zero] at hf33_8); clear hcl33 hcc33 hfr33 hM33) | ((with_reducible refine gate_store (t := 2) (p := 73) rfl ?_); refine store_event (t := 2) (p := 73) (v := ?vo_w34) (w1 := (w32.setCell ⟨go6, (x5_1 : Int).toNat * 9 + 8, none⟩ (.int .i64 (wrap64 ((wrap64 ((wrap64 ((wrap64 ((wrap64 ((wrap64 ((wrap64 ((wrap64 (x1_1 + 1)) + 1)) + 1)) + 1)) + 1)) + 1)) + 1)) + 1))))) ?hg ?ho ?hn ?hr ?_; (case ho => rfl); (case hg => rfl); (case hn => rfl); (case hr => first | (go_simp; done) | (go_simp; rfl)); intro w34 hw; have hg : w32.grownBy w34 (some go6) := (by rw [hw]; exact HP33.2); have hp_ : Kd.R k61 61 w34 w0.heap.size (fun k_ => (P0_ k_ ∨ w.heap.size ≤ k_)) (.slice (some ⟨go6, 0, none⟩) x0_1.length co15) y1216 := (by rw [hw, Ny1216.out]; exact HP33.1); clear HP33; replace HB := am_ (((Zu GB6) : Below w0.heap.size w0 w34)); replace HK := am_ (Kept.of_grown (S := (fun k_ => P0_ k_)) hg Zt (fun k_ e_ => (HO_0.out.1 k_ e_))); replace HO_0 := am_ (hp_); clear hg hw hp_))
     go_roundg k1
     case measure => have := HK1.out; omega
     case rel => exact ⟨(y1216), (wrap64 ((wrap64 ((wrap64 ((wrap64 ((wrap64 ((wrap64 ((wrap64 ((wrap64 ((wrap64 (x1_1 + 1)) + 1)) + 1)) + 1)) + 1)) + 1)) + 1)) + 1)) + 1)), (wrap64 (x5_1 + 1)), Za, Za, H', ⟨Zs⟩, ⟨(Zo HO_0)⟩, ⟨Zt⟩, ⟨Zd⟩⟩
    ·rw [if_neg c5] at H
     exact absurd H (by simp)
   ·rw [if_neg c3] at H
    have c3b0 := decide_eq_false c3; clear c3; simp only [Option.some.injEq, Prod.mk.injEq] at H; obtain ⟨rfl, rfl⟩ := H; obtain ⟨Ao35, co35, eo35⟩ := Kd.R_slice HO_0.out; subst eo35
    go_wp2
    go_ret
    exact ⟨Zj, (Zo HO_0), Zd, Zt⟩
end Go.Proofs.Ytmnnbmdfepogiaa.F
