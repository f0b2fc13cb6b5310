import Derived.Test.YtnifblnlpepehaaJFnExactDarkGaps1
import Derived.Below
import Derived.Deep.Draws
import Derived.Deep.AppendLies
import Derived.Maps.AppendAt
import Derived.OwnWalk
import Derived.Laws.BytesArg
import Derived.Laws.MakeOwn
import Derived.Laws.OwnMore
import Derived.Tactics
import Derived.Lib.ConvBytes
import Derived.Laws.Slices
import Derived.WalkKit
import Derived.KernelRfl
import Derived.RowKit3
import Derived.Deep.LoopGhost
import Derived.Deep.QuietTactic
import Derived.BigQuiet
import Derived.WideLaws
import Derived.Deep.DeepCutAuto
import Derived.Deep.CutBlock
import Derived.Deep.RegionHeld3
import Derived.Lib.AppendStr
import Derived.ArgAppend
import Derived.Laws.IdiomCopy
import Derived.RowKit
import Derived.OrdersHeld
import Derived.Laws.BitsLemmas
import Derived.Laws.StructEq
import Derived.Test.YtnifblnlpepehaaProg
import Derived.ChangeSlices
import Derived.OpenShut
namespace Go.Proofs.Ytnifblnlpepehaa.F
open Go.RowKit Go.Proofs.YtnifblnlpepehaaW.PrintWords Go.Proofs.YtnifblnlpepehaaW.PrintLast Go.Proofs.YtnifblnlpepehaaW.PrintMore
attribute [local go_sem] max2_int min2_int max_two min_two max_three min_three max_four min_four   -- for this text's walks alone
set_option linter.unusedVariables false
set_option linter.unusedSimpArgs false
def errW : Option Int → Value
 | none => .nilIface
 | some c => .iface 0 (.int .i64 c)
theorem errW_none : errW none = .nilIface := rfl
theorem errW_some (c : Int) : errW (some c) = .iface 0 (.int .i64 c) := rfl
theorem info2 : (Try.prog.info? 2).map (fun i => (i.zero, i.size, i.bytes)) = some (some (.int .i64 0), 1, 8) := by kernel_rfl
theorem info47 : (Try.prog.info? 47).map (fun i => (i.zero, i.size, i.bytes)) = some (some (.slice none 0 0), 1, 24) := by kernel_rfl
theorem info80 : (Try.prog.info? 80).map (fun i => (i.zero, i.size, i.bytes)) = some (some (.agg #[(.int .i64 0), (.int .i64 0), (.string ⟨#[]⟩), (.int .i64 0)]), 4, 40) := by kernel_rfl
theorem info87 : (Try.prog.info? 87).map (fun i => (i.zero, i.size, i.bytes)) = some (some (.agg #[(.int .i64 0), (.int .i64 0)]), 2, 16) := by kernel_rfl
theorem info91 : (Try.prog.info? 91).map (fun i => (i.zero, i.size, i.bytes)) = some (some (.agg #[(.string ⟨#[]⟩), (.int .i64 0), (.int .i64 0), (.int .i64 0), (.int .i64 0), (.int .i64 0), (.int .i64 0), (.int .i64 0), (.int .i64 0)]), 9, 80) := by kernel_rfl
structure S87 where
 f0 : Int
 f1 : Int
def z87 : S87 := ⟨(0 : Int), (0 : Int)⟩
def k87 : Kd S87 := Kd.iso (Kd.pair (Kd.int .i64) (Kd.int .i64)) (fun x : S87 => (x.f0, x.f1))
theorem k87_open {w : World} {x : S87} {cs : List Value} (h : k87.K w x cs) : cs = [.int .i64 x.f0, .int .i64 x.f1] := by
 obtain ⟨_, _, rfl, rfl, rfl⟩ := h
 exact rfl
theorem k87_openM {w : World} {base : Nat} {ok : Nat → Prop} {x : S87} {cs : List Value} (h : k87.M w base ok x cs) : cs = [.int .i64 x.f0, .int .i64 x.f1] := by
 obtain ⟨_, _, rfl, rfl, rfl⟩ := h
 exact rfl
theorem k87_mkM (w : World) (base : Nat) (ok : Nat → Prop) (x : S87)  : k87.M w base ok x [.int .i64 x.f0, .int .i64 x.f1] := ⟨[.int .i64 x.f0], [.int .i64 x.f1], rfl, rfl, rfl⟩
def rd_T87 (xs : List S87) (i : Int) : S87 := xs.getD i.toNat z87
theorem at_T87 {w : World} {A : Option Addr} {n : Nat} {xs : List S87} (h : Kd.C k87 w A n xs) (i : Int) (h0 : 0 ≤ i) (h1 : i < n) : ∃ ad , A = some ad ∧ w.cell? (ad.add (i.toNat * 2)) = some (.int .i64 (rd_T87 xs i).f0) ∧ w.cell? ⟨(ad.add (i.toNat * 2)).block, (ad.add (i.toNat * 2)).off + 1, none⟩ = some (.int .i64 (rd_T87 xs i).f1) := by
 obtain ⟨ad, c, e, _, hK, hc0⟩ := Kd.C_get h z87 i h0 h1
 have hc : ∀ j u, c[j]? = some u → w.cell? (ad.add (i.toNat * 2 + j)) = some u := hc0
 obtain rfl := k87_open hK
 exact ⟨ad, e, hc 0 _ rfl, by rw [← add_field _ _ 1 (by omega)]; exact hc 1 _ rfl⟩
structure S91 where
 f0 : ByteArray
 f1 : Int
 f2 : Int
 f3 : Int
 f4 : Int
 f5 : Int
 f6 : Int
 f7 : Int
 f8 : Int
def z91 : S91 := ⟨(⟨#[]⟩ : ByteArray), (0 : Int), (0 : Int), (0 : Int), (0 : Int), (0 : Int), (0 : Int), (0 : Int), (0 : Int)⟩
def k91 : Kd S91 := Kd.iso (Kd.pair Kd.string (Kd.pair (Kd.int .i64) (Kd.pair (Kd.int .i64) (Kd.pair (Kd.int .i64) (Kd.pair (Kd.int .i64) (Kd.pair (Kd.int .i64) (Kd.pair (Kd.int .i64) (Kd.pair (Kd.int .i64) (Kd.int .i64))))))))) (fun x : S91 => (x.f0, x.f1, x.f2, x.f3, x.f4, x.f5, x.f6, x.f7, x.f8))
theorem k91_open {w : World} {x : S91} {cs : List Value} (h : k91.K w x cs) : cs = [.string x.f0, .int .i64 x.f1, .int .i64 x.f2, .int .i64 x.f3, .int .i64 x.f4, .int .i64 x.f5, .int .i64 x.f6, .int .i64 x.f7, .int .i64 x.f8] := by
 obtain ⟨_, _, rfl, rfl, ⟨_, _, rfl, rfl, ⟨_, _, rfl, rfl, ⟨_, _, rfl, rfl, ⟨_, _, rfl, rfl, ⟨_, _, rfl, rfl, ⟨_, _, rfl, rfl, ⟨_, _, rfl, rfl, rfl⟩⟩⟩⟩⟩⟩⟩⟩ := h
 exact rfl
theorem k91_openM {w : World} {base : Nat} {ok : Nat → Prop} {x : S91} {cs : List Value} (h : k91.M w base ok x cs) : cs = [.string x.f0, .int .i64 x.f1, .int .i64 x.f2, .int .i64 x.f3, .int .i64 x.f4, .int .i64 x.f5, .int .i64 x.f6, .int .i64 x.f7, .int .i64 x.f8] := by
 obtain ⟨_, _, rfl, rfl, ⟨_, _, rfl, rfl, ⟨_, _, rfl, rfl, ⟨_, _, rfl, rfl, ⟨_, _, rfl, rfl, ⟨_, _, rfl, rfl, ⟨_, _, rfl, rfl, ⟨_, _, rfl, rfl, rfl⟩⟩⟩⟩⟩⟩⟩⟩ := h
 exact rfl
theorem k91_mkM (w : World) (base : Nat) (ok : Nat → Prop) (x : S91)  : k91.M w base ok x [.string x.f0, .int .i64 x.f1, .int .i64 x.f2, .int .i64 x.f3, .int .i64 x.f4, .int .i64 x.f5, .int .i64 x.f6, .int .i64 x.f7, .int .i64 x.f8] := ⟨[.string x.f0], [.int .i64 x.f1, .int .i64 x.f2, .int .i64 x.f3, .int .i64 x.f4, .int .i64 x.f5, .int .i64 x.f6, .int .i64 x.f7, .int .i64 x.f8], rfl, rfl, ⟨[.int .i64 x.f1], [.int .i64 x.f2, .int .i64 x.f3, .int .i64 x.f4, .int .i64 x.f5, .int .i64 x.f6, .int .i64 x.f7, .int .i64 x.f8], rfl, rfl, ⟨[.int .i64 x.f2], [.int .i64 x.f3, .int .i64 x.f4, .int .i64 x.f5, .int .i64 x.f6, .int .i64 x.f7, .int .i64 x.f8], rfl, rfl, ⟨[.int .i64 x.f3], [.int .i64 x.f4, .int .i64 x.f5, .int .i64 x.f6, .int .i64 x.f7, .int .i64 x.f8], rfl, rfl, ⟨[.int .i64 x.f4], [.int .i64 x.f5, .int .i64 x.f6, .int .i64 x.f7, .int .i64 x.f8], rfl, rfl, ⟨[.int .i64 x.f5], [.int .i64 x.f6, .int .i64 x.f7, .int .i64 x.f8], rfl, rfl, ⟨[.int .i64 x.f6], [.int .i64 x.f7, .int .i64 x.f8], rfl, rfl, ⟨[.int .i64 x.f7], [.int .i64 x.f8], rfl, rfl, rfl⟩⟩⟩⟩⟩⟩⟩⟩
def rd_T91 (xs : List S91) (i : Int) : S91 := xs.getD i.toNat z91
theorem at_T91 {w : World} {A : Option Addr} {n : Nat} {xs : List S91} (h : Kd.C k91 w A n xs) (i : Int) (h0 : 0 ≤ i) (h1 : i < n) : ∃ ad , A = some ad ∧ w.cell? (ad.add (i.toNat * 9)) = some (.string (rd_T91 xs i).f0) ∧ w.cell? ⟨(ad.add (i.toNat * 9)).block, (ad.add (i.toNat * 9)).off + 1, none⟩ = some (.int .i64 (rd_T91 xs i).f1) ∧ w.cell? ⟨(ad.add (i.toNat * 9)).block, (ad.add (i.toNat * 9)).off + 2, none⟩ = some (.int .i64 (rd_T91 xs i).f2) ∧ w.cell? ⟨(ad.add (i.toNat * 9)).block, (ad.add (i.toNat * 9)).off + 3, none⟩ = some (.int .i64 (rd_T91 xs i).f3) ∧ w.cell? ⟨(ad.add (i.toNat * 9)).block, (ad.add (i.toNat * 9)).off + 4, none⟩ = some (.int .i64 (rd_T91 xs i).f4) ∧ w.cell? ⟨(ad.add (i.toNat * 9)).block, (ad.add (i.toNat * 9)).off + 5, none⟩ = some (.int .i64 (rd_T91 xs i).f5) ∧ w.cell? ⟨(ad.add (i.toNat * 9)).block, (ad.add (i.toNat * 9)).off + 6, none⟩ = some (.int .i64 (rd_T91 xs i).f6) ∧ w.cell? ⟨(ad.add (i.toNat * 9)).block, (ad.add (i.toNat * 9)).off + 7, none⟩ = some (.int .i64 (rd_T91 xs i).f7) ∧ w.cell? ⟨(ad.add (i.toNat * 9)).block, (ad.add (i.toNat * 9)).off + 8, none⟩ = some (.int .i64 (rd_T91 xs i).f8) := by
 obtain ⟨ad, c, e, _, hK, hc0⟩ := Kd.C_get h z91 i h0 h1
 have hc : ∀ j u, c[j]? = some u → w.cell? (ad.add (i.toNat * 9 + j)) = some u := hc0
 obtain rfl := k91_open hK
 exact ⟨ad, e, hc 0 _ rfl, by rw [← add_field _ _ 1 (by omega)]; exact hc 1 _ rfl, by rw [← add_field _ _ 2 (by omega)]; exact hc 2 _ rfl, by rw [← add_field _ _ 3 (by omega)]; exact hc 3 _ rfl, by rw [← add_field _ _ 4 (by omega)]; exact hc 4 _ rfl, by rw [← add_field _ _ 5 (by omega)]; exact hc 5 _ rfl, by rw [← add_field _ _ 6 (by omega)]; exact hc 6 _ rfl, by rw [← add_field _ _ 7 (by omega)]; exact hc 7 _ rfl, by rw [← add_field _ _ 8 (by omega)]; exact hc 8 _ rfl⟩
structure S80 where
 f0 : Int
 f1 : Int
 f2 : ByteArray
 f3 : Int
def z80 : S80 := ⟨(0 : Int), (0 : Int), (⟨#[]⟩ : ByteArray), (0 : Int)⟩
def k80 : Kd S80 := Kd.iso (Kd.pair (Kd.int .i64) (Kd.pair (Kd.int .i64) (Kd.pair Kd.string (Kd.int .i64)))) (fun x : S80 => (x.f0, x.f1, x.f2, x.f3))
theorem k80_open {w : World} {x : S80} {cs : List Value} (h : k80.K w x cs) : cs = [.int .i64 x.f0, .int .i64 x.f1, .string x.f2, .int .i64 x.f3] := by
 obtain ⟨_, _, rfl, rfl, ⟨_, _, rfl, rfl, ⟨_, _, rfl, rfl, rfl⟩⟩⟩ := h
 exact rfl
theorem k80_openM {w : World} {base : Nat} {ok : Nat → Prop} {x : S80} {cs : List Value} (h : k80.M w base ok x cs) : cs = [.int .i64 x.f0, .int .i64 x.f1, .string x.f2, .int .i64 x.f3] := by
 obtain ⟨_, _, rfl, rfl, ⟨_, _, rfl, rfl, ⟨_, _, rfl, rfl, rfl⟩⟩⟩ := h
 exact rfl
theorem k80_mkM (w : World) (base : Nat) (ok : Nat → Prop) (x : S80)  : k80.M w base ok x [.int .i64 x.f0, .int .i64 x.f1, .string x.f2, .int .i64 x.f3] := ⟨[.int .i64 x.f0], [.int .i64 x.f1, .string x.f2, .int .i64 x.f3], rfl, rfl, ⟨[.int .i64 x.f1], [.string x.f2, .int .i64 x.f3], rfl, rfl, ⟨[.string x.f2], [.int .i64 x.f3], rfl, rfl, rfl⟩⟩⟩
def rd_T80 (xs : List S80) (i : Int) : S80 := xs.getD i.toNat z80
theorem at_T80 {w : World} {A : Option Addr} {n : Nat} {xs : List S80} (h : Kd.C k80 w A n xs) (i : Int) (h0 : 0 ≤ i) (h1 : i < n) : ∃ ad , A = some ad ∧ w.cell? (ad.add (i.toNat * 4)) = some (.int .i64 (rd_T80 xs i).f0) ∧ w.cell? ⟨(ad.add (i.toNat * 4)).block, (ad.add (i.toNat * 4)).off + 1, none⟩ = some (.int .i64 (rd_T80 xs i).f1) ∧ w.cell? ⟨(ad.add (i.toNat * 4)).block, (ad.add (i.toNat * 4)).off + 2, none⟩ = some (.string (rd_T80 xs i).f2) ∧ w.cell? ⟨(ad.add (i.toNat * 4)).block, (ad.add (i.toNat * 4)).off + 3, none⟩ = some (.int .i64 (rd_T80 xs i).f3) := by
 obtain ⟨ad, c, e, _, hK, hc0⟩ := Kd.C_get h z80 i h0 h1
 have hc : ∀ j u, c[j]? = some u → w.cell? (ad.add (i.toNat * 4 + j)) = some u := hc0
 obtain rfl := k80_open hK
 exact ⟨ad, e, hc 0 _ rfl, by rw [← add_field _ _ 1 (by omega)]; exact hc 1 _ rfl, by rw [← add_field _ _ 2 (by omega)]; exact hc 2 _ rfl, by rw [← add_field _ _ 3 (by omega)]; exact hc 3 _ rfl⟩
def rd_L5 (xs : List (List Int)) (i : Int) : (List Int) := xs.getD i.toNat ([] : List Int)
theorem at_L5 {w : World} {A : Option Addr} {n : Nat} {xs : List (List Int)} (h : Kd.C (Kd.slice 2 (Kd.int .i64)) w A n xs) (i : Int) (h0 : 0 ≤ i) (h1 : i < n) : ∃ ad A0 c0, A = some ad ∧ w.cell? (ad.add i.toNat) = some (.slice A0 (rd_L5 xs i).length c0) ∧ (rd_L5 xs i).length ≤ c0 ∧ (Kd.int .i64).C w A0 (rd_L5 xs i).length (rd_L5 xs i) := by
 obtain ⟨ad, c, e, _, hK, hc0⟩ := Kd.C_get h ([] : List Int) i h0 h1
 have hc : ∀ j u, c[j]? = some u → w.cell? (ad.add (i.toNat * 1 + j)) = some u := hc0
 obtain ⟨A0, c0, rfl, l0, g0⟩ := hK
 exact ⟨ad, A0, c0, e, by have hq := hc 0 _ rfl; rwa [Nat.mul_one, Nat.add_zero] at hq, l0, g0⟩
structure S89 where
 f0 : Int
 f1 : Int
def z89 : S89 := ⟨(0 : Int), (0 : Int)⟩
def k89 : Kd S89 := Kd.iso (Kd.pair (Kd.int .i64) (Kd.int .i64)) (fun x : S89 => (x.f0, x.f1))
theorem k89_open {w : World} {x : S89} {cs : List Value} (h : k89.K w x cs) : cs = [.int .i64 x.f0, .int .i64 x.f1] := by
 obtain ⟨_, _, rfl, rfl, rfl⟩ := h
 exact rfl
theorem k89_mk (w : World) (x : S89)  : k89.K w x [.int .i64 x.f0, .int .i64 x.f1] := ⟨[.int .i64 x.f0], [.int .i64 x.f1], rfl, rfl, rfl⟩
def rd_T89 (xs : List S89) (i : Int) : S89 := xs.getD i.toNat z89
theorem at_T89 {w : World} {A : Option Addr} {n : Nat} {xs : List S89} (h : Kd.C k89 w A n xs) (i : Int) (h0 : 0 ≤ i) (h1 : i < n) : ∃ ad , A = some ad ∧ w.cell? (ad.add (i.toNat * 2)) = some (.int .i64 (rd_T89 xs i).f0) ∧ w.cell? ⟨(ad.add (i.toNat * 2)).block, (ad.add (i.toNat * 2)).off + 1, none⟩ = some (.int .i64 (rd_T89 xs i).f1) := by
 obtain ⟨ad, c, e, _, hK, hc0⟩ := Kd.C_get h z89 i h0 h1
 have hc : ∀ j u, c[j]? = some u → w.cell? (ad.add (i.toNat * 2 + j)) = some u := hc0
 obtain rfl := k89_open hK
 exact ⟨ad, e, hc 0 _ rfl, by rw [← add_field _ _ 1 (by omega)]; exact hc 1 _ rfl⟩
structure S74 where
 f0 : ByteArray
 f1 : Int
 f2 : Int
 f3 : Int
 f4 : Int
 f5 : Int
 f6 : Int
 f7 : Int
 f8 : Int
def z74 : S74 := ⟨(⟨#[]⟩ : ByteArray), (0 : Int), (0 : Int), (0 : Int), (0 : Int), (0 : Int), (0 : Int), (0 : Int), (0 : Int)⟩
def k74 : Kd S74 := Kd.iso (Kd.pair Kd.string (Kd.pair (Kd.int .i64) (Kd.pair (Kd.int .i64) (Kd.pair (Kd.int .i64) (Kd.pair (Kd.int .i64) (Kd.pair (Kd.int .i64) (Kd.pair (Kd.int .i64) (Kd.pair (Kd.int .i64) (Kd.int .i64))))))))) (fun x : S74 => (x.f0, x.f1, x.f2, x.f3, x.f4, x.f5, x.f6, x.f7, x.f8))
theorem k74_open {w : World} {x : S74} {cs : List Value} (h : k74.K w x cs) : cs = [.string x.f0, .int .i64 x.f1, .int .i64 x.f2, .int .i64 x.f3, .int .i64 x.f4, .int .i64 x.f5, .int .i64 x.f6, .int .i64 x.f7, .int .i64 x.f8] := by
 obtain ⟨_, _, rfl, rfl, ⟨_, _, rfl, rfl, ⟨_, _, rfl, rfl, ⟨_, _, rfl, rfl, ⟨_, _, rfl, rfl, ⟨_, _, rfl, rfl, ⟨_, _, rfl, rfl, ⟨_, _, rfl, rfl, rfl⟩⟩⟩⟩⟩⟩⟩⟩ := h
 exact rfl
theorem k74_mk (w : World) (x : S74)  : k74.K w x [.string x.f0, .int .i64 x.f1, .int .i64 x.f2, .int .i64 x.f3, .int .i64 x.f4, .int .i64 x.f5, .int .i64 x.f6, .int .i64 x.f7, .int .i64 x.f8] := ⟨[.string x.f0], [.int .i64 x.f1, .int .i64 x.f2, .int .i64 x.f3, .int .i64 x.f4, .int .i64 x.f5, .int .i64 x.f6, .int .i64 x.f7, .int .i64 x.f8], rfl, rfl, ⟨[.int .i64 x.f1], [.int .i64 x.f2, .int .i64 x.f3, .int .i64 x.f4, .int .i64 x.f5, .int .i64 x.f6, .int .i64 x.f7, .int .i64 x.f8], rfl, rfl, ⟨[.int .i64 x.f2], [.int .i64 x.f3, .int .i64 x.f4, .int .i64 x.f5, .int .i64 x.f6, .int .i64 x.f7, .int .i64 x.f8], rfl, rfl, ⟨[.int .i64 x.f3], [.int .i64 x.f4, .int .i64 x.f5, .int .i64 x.f6, .int .i64 x.f7, .int .i64 x.f8], rfl, rfl, ⟨[.int .i64 x.f4], [.int .i64 x.f5, .int .i64 x.f6, .int .i64 x.f7, .int .i64 x.f8], rfl, rfl, ⟨[.int .i64 x.f5], [.int .i64 x.f6, .int .i64 x.f7, .int .i64 x.f8], rfl, rfl, ⟨[.int .i64 x.f6], [.int .i64 x.f7, .int .i64 x.f8], rfl, rfl, ⟨[.int .i64 x.f7], [.int .i64 x.f8], rfl, rfl, rfl⟩⟩⟩⟩⟩⟩⟩⟩
def rd_T74 (xs : List S74) (i : Int) : S74 := xs.getD i.toNat z74
theorem at_T74 {w : World} {A : Option Addr} {n : Nat} {xs : List S74} (h : Kd.C k74 w A n xs) (i : Int) (h0 : 0 ≤ i) (h1 : i < n) : ∃ ad , A = some ad ∧ w.cell? (ad.add (i.toNat * 9)) = some (.string (rd_T74 xs i).f0) ∧ w.cell? ⟨(ad.add (i.toNat * 9)).block, (ad.add (i.toNat * 9)).off + 1, none⟩ = some (.int .i64 (rd_T74 xs i).f1) ∧ w.cell? ⟨(ad.add (i.toNat * 9)).block, (ad.add (i.toNat * 9)).off + 2, none⟩ = some (.int .i64 (rd_T74 xs i).f2) ∧ w.cell? ⟨(ad.add (i.toNat * 9)).block, (ad.add (i.toNat * 9)).off + 3, none⟩ = some (.int .i64 (rd_T74 xs i).f3) ∧ w.cell? ⟨(ad.add (i.toNat * 9)).block, (ad.add (i.toNat * 9)).off + 4, none⟩ = some (.int .i64 (rd_T74 xs i).f4) ∧ w.cell? ⟨(ad.add (i.toNat * 9)).block, (ad.add (i.toNat * 9)).off + 5, none⟩ = some (.int .i64 (rd_T74 xs i).f5) ∧ w.cell? ⟨(ad.add (i.toNat * 9)).block, (ad.add (i.toNat * 9)).off + 6, none⟩ = some (.int .i64 (rd_T74 xs i).f6) ∧ w.cell? ⟨(ad.add (i.toNat * 9)).block, (ad.add (i.toNat * 9)).off + 7, none⟩ = some (.int .i64 (rd_T74 xs i).f7) ∧ w.cell? ⟨(ad.add (i.toNat * 9)).block, (ad.add (i.toNat * 9)).off + 8, none⟩ = some (.int .i64 (rd_T74 xs i).f8) := by
 obtain ⟨ad, c, e, _, hK, hc0⟩ := Kd.C_get h z74 i h0 h1
 have hc : ∀ j u, c[j]? = some u → w.cell? (ad.add (i.toNat * 9 + j)) = some u := hc0
 obtain rfl := k74_open hK
 exact ⟨ad, e, hc 0 _ rfl, by rw [← add_field _ _ 1 (by omega)]; exact hc 1 _ rfl, by rw [← add_field _ _ 2 (by omega)]; exact hc 2 _ rfl, by rw [← add_field _ _ 3 (by omega)]; exact hc 3 _ rfl, by rw [← add_field _ _ 4 (by omega)]; exact hc 4 _ rfl, by rw [← add_field _ _ 5 (by omega)]; exact hc 5 _ rfl, by rw [← add_field _ _ 6 (by omega)]; exact hc 6 _ rfl, by rw [← add_field _ _ 7 (by omega)]; exact hc 7 _ rfl, by rw [← add_field _ _ 8 (by omega)]; exact hc 8 _ rfl⟩
structure S77 where
 f0 : Int
 f1 : Int
 f2 : ByteArray
 f3 : Int
def z77 : S77 := ⟨(0 : Int), (0 : Int), (⟨#[]⟩ : ByteArray), (0 : Int)⟩
def k77 : Kd S77 := Kd.iso (Kd.pair (Kd.int .i64) (Kd.pair (Kd.int .i64) (Kd.pair Kd.string (Kd.int .i64)))) (fun x : S77 => (x.f0, x.f1, x.f2, x.f3))
theorem k77_open {w : World} {x : S77} {cs : List Value} (h : k77.K w x cs) : cs = [.int .i64 x.f0, .int .i64 x.f1, .string x.f2, .int .i64 x.f3] := by
 obtain ⟨_, _, rfl, rfl, ⟨_, _, rfl, rfl, ⟨_, _, rfl, rfl, rfl⟩⟩⟩ := h
 exact rfl
theorem k77_mk (w : World) (x : S77)  : k77.K w x [.int .i64 x.f0, .int .i64 x.f1, .string x.f2, .int .i64 x.f3] := ⟨[.int .i64 x.f0], [.int .i64 x.f1, .string x.f2, .int .i64 x.f3], rfl, rfl, ⟨[.int .i64 x.f1], [.string x.f2, .int .i64 x.f3], rfl, rfl, ⟨[.string x.f2], [.int .i64 x.f3], rfl, rfl, rfl⟩⟩⟩
def rd_T77 (xs : List S77) (i : Int) : S77 := xs.getD i.toNat z77
theorem at_T77 {w : World} {A : Option Addr} {n : Nat} {xs : List S77} (h : Kd.C k77 w A n xs) (i : Int) (h0 : 0 ≤ i) (h1 : i < n) : ∃ ad , A = some ad ∧ w.cell? (ad.add (i.toNat * 4)) = some (.int .i64 (rd_T77 xs i).f0) ∧ w.cell? ⟨(ad.add (i.toNat * 4)).block, (ad.add (i.toNat * 4)).off + 1, none⟩ = some (.int .i64 (rd_T77 xs i).f1) ∧ w.cell? ⟨(ad.add (i.toNat * 4)).block, (ad.add (i.toNat * 4)).off + 2, none⟩ = some (.string (rd_T77 xs i).f2) ∧ w.cell? ⟨(ad.add (i.toNat * 4)).block, (ad.add (i.toNat * 4)).off + 3, none⟩ = some (.int .i64 (rd_T77 xs i).f3) := by
 obtain ⟨ad, c, e, _, hK, hc0⟩ := Kd.C_get h z77 i h0 h1
 have hc : ∀ j u, c[j]? = some u → w.cell? (ad.add (i.toNat * 4 + j)) = some u := hc0
 obtain rfl := k77_open hK
 exact ⟨ad, e, hc 0 _ rfl, by rw [← add_field _ _ 1 (by omega)]; exact hc 1 _ rfl, by rw [← add_field _ _ 2 (by omega)]; exact hc 2 _ rfl, by rw [← add_field _ _ 3 (by omega)]; exact hc 3 _ rfl⟩
end Go.Proofs.Ytnifblnlpepehaa.F
namespace Go.Proofs.Ytnifblnlpepehaa.F
open Go.RowKit Go.Proofs.YtnifblnlpepehaaW.PrintWords Go.Proofs.YtnifblnlpepehaaW.PrintLast Go.Proofs.YtnifblnlpepehaaW.PrintMore
theorem am_ {p : Prop} (h : p) : Aside0 p := ⟨h⟩
theorem cbH {w w1 : World} {a : Addr} {v : Value} (HB : Aside0 (Below w.heap.size w w1)) (h : w.cell? a = some v) : w1.cell? a = some v := (HB.out.cell (World.block_lt_of_cell? w _ h)).trans h
theorem Zput {P : Prop} (h : P := by simp only [Act.put, List.setIfInBounds_toArray, List.set_cons_zero, List.set_cons_succ, i64_w, i32_w]; rfl) : P := h
theorem pureZ {P : Program} {ops : Array Oper} {Q : Exit → Act → World → Prop} {md : Region.Mode} {S : World → Prop} {ds : List Nat} {T : Bool × List (List Nat × List Nat)} (HT_ : Aside0 (rtab md ops = T)) (i : Nat) (N : Option Tmp) (l' : Array Bool) {oi : Oper} {v : Value} {fuel : Nat} {l : Array Bool} {a a' : Act} {w : World} (h : wpAnyLast P md ops Q S ds fuel l' a' w)
    (hi : ops[i]? = some oi := by rfl) (hN : oi.dst = N := by rfl) (hc : anyT T l.toList l'.toList i = true := by kernel_rfl) (hQ : ∀ c a w, Q (.panic c) (a.put oi.dst v) w → Q (.panic c) a w := by exact fun _ _ _ h => h) (hy : Yields P ops oi v a := by exact Or.inl ⟨by rfl, by intro w'; go_simp; with_reducible rfl⟩) (ha : a.put N v = a' := by simp only [Act.put, List.setIfInBounds_toArray, List.set_cons_zero, List.set_cons_succ, i64_w, i32_w]; rfl) : wpAnyLast P md ops Q S ds (fuel + 1) l a w := pure_ l' hi hN (any_of HT_.out hc) hQ hy ha h
theorem boxZ {P : Program} {ops : Array Oper} {Q : Exit → Act → World → Prop} {rest : List Oper} {o : Oper} {a : Act} {W : World} (N : Tmp) (cs : Array Value) (t : TypeId) (h : ∀ g, g = W.heap.size → ∀ w1, w1.heap[g]? = some (.cells cs t (0, 0)) → Below W.heap.size W w1 → wpList P ops Q rest (a.put o.dst (.pointer (some ⟨g, 0, none⟩))) w1)
    (hd : o.dst = some N := by rfl) (hg : o.guard = none := by rfl) (hr : (execOp a.eval o).run P W = .ok (.value (.pointer (some ⟨W.heap.size, 0, none⟩))) (W.alloc (.cells cs t (0, 0))) := by first | (go_simp; done) | (go_simp; rfl)) : wpList P ops Q (o :: rest) a W := box_event hg hd hr h
theorem normZ {P : Program} {ops : Array Oper} {Q : Exit → Act → World → Prop} {md : Region.Mode} {S : World → Prop} {ds : List Nat} {fuel : Nat} {l : Array Bool} {a a' : Act} {v : Value} {w : World} (N : Tmp) (h : wpAnyLast P md ops Q S ds fuel l a' w) (ha : Act.put a (some N) v = a' := by simp only [Act.put, List.setIfInBounds_toArray, List.set_cons_zero, List.set_cons_succ, i64_w, i32_w]; rfl) : wpAnyLast P md ops Q S ds fuel l (Act.put a (some N) v) w := norm_ ha h
theorem normP {P : Program} {ops : Array Oper} {Q : Exit → Act → World → Prop} {md : Region.Mode} {S : World → Prop} {ds : List Nat} {fuel : Nat} {l : Array Bool} {a a' : Act} {w : World} (h : wpAnyLast P md ops Q S ds fuel l a' w) (ha : a = a' := by simp only [putAll, Act.put, List.setIfInBounds_toArray, List.set_cons_zero, List.set_cons_succ]; rfl) : wpAnyLast P md ops Q S ds fuel l a w := norm_ ha h
theorem bkZ {w w1 : World} {g : Nat} {o : Obj} {p : Prop} (z : p) (hb : Below w.heap.size w w1) (h : p → w.heap[g]? = some o := by intro z0_; (with_reducible repeat (first | refine' blk_drewN ?_ _ | refine' blk_drew ?_ | refine' blk_alloc ?_ _)); exact z0_.out) : Aside0 (w1.heap[g]? = some o) := ⟨blk_below (h z) hb⟩
theorem pureU {P : Program} {ops : Array Oper} {Q : Exit → Act → World → Prop} {md : Region.Mode} {S : World → Prop} {ds : List Nat} {T : Bool × List (List Nat × List Nat)} (HT_ : Aside0 (rtab md ops = T)) (i : Nat) (N : Option Tmp) (l' : Array Bool) {oi : Oper} {fuel : Nat} {l : Array Bool} {a a' : Act} {w : World} (h : wpAnyLast P md ops Q S ds fuel l' a' w)
    (hi : ops[i]? = some oi := by rfl) (hN : oi.dst = N := by rfl) (hc : anyT T l.toList l'.toList i = true := by kernel_rfl) (hQ : ∀ c a w, Q (.panic c) (a.put oi.dst undef) w → Q (.panic c) a w := by exact fun _ _ _ h => h) (hy : Yields P ops oi undef a := by exact Or.inr ⟨by rfl, rfl⟩) (ha : a.put N undef = a' := by simp only [Act.put, List.setIfInBounds_toArray, List.set_cons_zero, List.set_cons_succ, i64_w, i32_w]; rfl) : wpAnyLast P md ops Q S ds (fuel + 1) l a w := pure_ l' hi hN (any_of HT_.out hc) hQ hy ha h
theorem gZ {P : Program} {ops : Array Oper} {Q : Exit → Act → World → Prop} {rest : List Oper} {oi : Oper} {a : Act} {w : World} (N : Nat) {f : FuncId} {fn : Func} {os : Array Operand} {ts : Array TypeId} (hf : P.funcs[f]? = some fn) (args : Array Value) (h : Calls P f args w fun e w' => ∃ v, e = .returned v ∧ wpList P ops Q rest (a.put (some N) v) w') (hd : oi.dst = some N := by rfl) (hg : oi.guard = none := by rfl) (hname : (fn.name == "runtime.NumGoroutine") = false := by kernel_rfl) (hb : fn.body.isSome = true := by rfl)
    (hop : oi.op = .call { callee := .value (.func f), args := os, argTypes := ts } := by rfl) (hargs : os.map a.eval = args := by (try simp only [List.map_toArray, List.map_cons, List.map_nil]); first | done | rfl | (simp only [List.length_drop, List.length_take]; rfl)) : wpList P ops Q (oi :: rest) a w := goesL_ (some N) hd hg hf hname hb args hop hargs h
theorem hbZ {p0 : Prop} {α : Type} {d : Kd α} {e base : Nat} {w w1 : World} {ok : Nat → Prop} {v : Value} {xs : List α} (z : p0) (hb : Below w.heap.size w w1) (h : p0 → d.R e w base ok v xs := by intro z0_; (with_reducible repeat (first | apply Kd.R_alloc | apply Kd.R_drewN | apply Kd.R_drew)); exact z0_.out) : Aside0 (d.R e w1 base ok v xs) := ⟨Kd.R_below (h z) hb⟩
theorem rfZ {α : Type} {d : Kd α} {e base : Nat} {w w1 : World} {ok : Nat → Prop} {v : Value} {xs : List α} (h : d.R e w base ok v xs) (t : d.R e w base ok v xs → d.R e w1 base ok v xs := by intro h_; (with_reducible repeat (refine Kd.R_far ?_ (fun _ hk => hk.2) _)); exact h_) : d.R e w1 base ok v xs := t h
theorem bindZ {α β : Type} {a : α} {f : α → Option β} {r : Option β} (H : (some a).bind f = r) : f a = r := H
theorem bsZ {w0 w w1 : World} (h : Below w0.heap.size w0 w) (hb : Below w.heap.size w w1) : Aside0 (Below w0.heap.size w0 w1) := ⟨below_step h hb⟩
theorem blk_farO {w : World} {g : Nat} {o : Obj} {p : Addr} {u : Value} (h : w.heap[g]? = some o) (hp : g ≠ p.block) : (w.setCell p u).heap[g]? = some o := (Below.heap_setCell w p u g hp).trans h
theorem b0Z {p0 : Prop} {W : World} {g : Nat} {o : Obj} (z0 : p0) (h : p0 → W.heap[g]? = some o := by intro z0_; (with_reducible repeat (first | refine' blk_drewN ?_ _ | refine' blk_drew ?_ | refine' blk_alloc ?_ _)); exact z0_.out) : W.heap[g]? = some o := h z0
theorem bfZ {p0 p1 : Prop} {W : World} {g : Nat} {o : Obj} (z0 : p0) (z1 : p1) (h : p0 → p1 → W.heap[g]? = some o := by intro z0_ z1_; (repeat (first | (with_reducible first | refine' blk_drewN ?_ _ | refine' blk_drew ?_ | refine' blk_alloc ?_ _) | refine' blk_farO ?_ z1_.out)); exact z0_.out) : W.heap[g]? = some o := h z0 z1
theorem exb_drewN {w : World} {g t n : Nat} {E : Array Value → Prop} (h : ∃ cs, w.heap[g]? = some (.cells cs t (0, 0)) ∧ E cs) : ∃ cs, (w.drewN n).heap[g]? = some (.cells cs t (0, 0)) ∧ E cs := h.elim fun cs h => ⟨cs, blk_drewN h.1 _, h.2⟩
theorem exb_drew {w : World} {g t : Nat} {E : Array Value → Prop} (h : ∃ cs, w.heap[g]? = some (.cells cs t (0, 0)) ∧ E cs) : ∃ cs, w.drew.heap[g]? = some (.cells cs t (0, 0)) ∧ E cs := h.elim fun cs h => ⟨cs, blk_drew h.1, h.2⟩
theorem exb_alloc {w : World} {g t : Nat} {o : Obj} {E : Array Value → Prop} (h : ∃ cs, w.heap[g]? = some (.cells cs t (0, 0)) ∧ E cs) : ∃ cs, (w.alloc o).heap[g]? = some (.cells cs t (0, 0)) ∧ E cs := h.elim fun cs h => ⟨cs, blk_alloc h.1 _, h.2⟩
theorem exb_set {w : World} {g t i : Nat} {u : Value} {E : Array Value → Prop} (h : ∃ cs, w.heap[g]? = some (.cells cs t (0, 0)) ∧ E (cs.setIfInBounds i u)) : ∃ cs, (w.setCell ⟨g, i, none⟩ u).heap[g]? = some (.cells cs t (0, 0)) ∧ E cs := h.elim fun cs h => ⟨cs.setIfInBounds i u, blk_set h.1 i u, h.2⟩
theorem exb_far {w : World} {g t : Nat} {p : Addr} {u : Value} {E : Array Value → Prop} (h : ∃ cs, w.heap[g]? = some (.cells cs t (0, 0)) ∧ E cs) (hp : g ≠ p.block) : ∃ cs, (w.setCell p u).heap[g]? = some (.cells cs t (0, 0)) ∧ E cs := h.elim fun cs h => ⟨cs, blk_far h.1 hp u, h.2⟩
theorem bpZ {p0 : Prop} {W : World} {g t : Nat} {cs' : Array Value} (z0 : p0) (h : p0 → ∃ cs, W.heap[g]? = some (.cells cs t (0, 0)) ∧ cs = cs' := by intro z0_; (repeat (with_reducible first | refine exb_drewN ?_ | refine exb_drew ?_ | refine exb_alloc ?_ | refine exb_set ?_)); exact ⟨_, z0_.out, by first | (simp only [List.setIfInBounds_toArray, List.set_cons_zero, List.set_cons_succ]; done) | rfl⟩) : W.heap[g]? = some (.cells cs' t (0, 0)) := (h z0).elim fun _ h => h.2 ▸ h.1
theorem bmZ {p0 p1 : Prop} {W : World} {g t : Nat} {cs' : Array Value} (z0 : p0) (z1 : p1) (h : p0 → p1 → ∃ cs, W.heap[g]? = some (.cells cs t (0, 0)) ∧ cs = cs' := by intro z0_ z1_; (repeat (first | (with_reducible first | refine exb_drewN ?_ | refine exb_drew ?_ | refine exb_alloc ?_ | refine exb_set ?_) | refine exb_far ?_ z1_.out)); exact ⟨_, z0_.out, by first | (simp only [List.setIfInBounds_toArray, List.set_cons_zero, List.set_cons_succ]; done) | rfl⟩) : W.heap[g]? = some (.cells cs' t (0, 0)) := (h z0 z1).elim fun _ h => h.2 ▸ h.1
theorem cell_farE {w : World} {p a : Addr} {u : Value} {v : Option Value} (h : w.cell? a = v) (hp : a.block ≠ p.block) : (w.setCell p u).cell? a = v := (cell_far hp u).trans h
theorem cfZ {w W : World} {a : Addr} {v : Option Value} (g : Nat) (z0 : w.cell? a = v) (z1 : a.block ≠ g) (h : w.cell? a = v → a.block ≠ g → W.cell? a = v := by intro z0_ z1_; (repeat (refine cell_farE ?_ z1_)); exact z0_) : W.cell? a = v := h z0 z1
theorem cg1 {p0 p1 P : Prop} (z0 : p0) (z1 : p1) (h : p0 → p1 → P := by intro z0_ z1_; (repeat (refine cell_farE ?_ z1_.out)); exact z0_) : P := h z0 z1
def bB (n m : Nat) : Array Bool := ((List.range n).map fun i => m.testBit i).toArray
def bT (n k : Nat) : Array Bool := (List.replicate k true ++ List.replicate (n - k) false).toArray
theorem cz3 {w : World} {g t : Nat} {a0 a1 a2 : Value} (h : Aside0 (w.heap[g]? = some (.cells #[a0, a1, a2] t (0, 0)))) : w.cell? ⟨g, 0, none⟩ = some a0 ∧ w.cell? ⟨g, 1, none⟩ = some a1 ∧ w.cell? ⟨g, 2, none⟩ = some a2 ∧ w.frozen? ⟨g, 0, none⟩ = false ∧ w.frozen? ⟨g, 1, none⟩ = false ∧ w.frozen? ⟨g, 2, none⟩ = false := ⟨(blk_cell h.out 0).trans rfl, (blk_cell h.out 1).trans rfl, (blk_cell h.out 2).trans rfl, blk_frozen h.out 0, blk_frozen h.out 1, blk_frozen h.out 2⟩
theorem cz4 {w : World} {g t : Nat} {a0 a1 a2 a3 : Value} (h : Aside0 (w.heap[g]? = some (.cells #[a0, a1, a2, a3] t (0, 0)))) : w.cell? ⟨g, 0, none⟩ = some a0 ∧ w.cell? ⟨g, 1, none⟩ = some a1 ∧ w.cell? ⟨g, 2, none⟩ = some a2 ∧ w.cell? ⟨g, 3, none⟩ = some a3 ∧ w.frozen? ⟨g, 0, none⟩ = false ∧ w.frozen? ⟨g, 1, none⟩ = false ∧ w.frozen? ⟨g, 2, none⟩ = false ∧ w.frozen? ⟨g, 3, none⟩ = false := ⟨(blk_cell h.out 0).trans rfl, (blk_cell h.out 1).trans rfl, (blk_cell h.out 2).trans rfl, (blk_cell h.out 3).trans rfl, blk_frozen h.out 0, blk_frozen h.out 1, blk_frozen h.out 2, blk_frozen h.out 3⟩
theorem takeZ2 {P : Program} {ops : Array Oper} {Q : Exit → Act → World → Prop} {md : Region.Mode} {S : World → Prop} {ds : List Nat} {T : Bool × List (List Nat × List Nat)} {B : List Nat} (HT_ : Aside0 (rtab md ops = T)) (HW_ : Aside0 (waitsOk T.2 B = true)) (i : Nat) (N : Option Tmp) (l' : Array Bool) {oi : Oper} {v : Value} {fuel : Nat} {l : Array Bool} {a a' : Act} {w : World} (hS : S w) (h : wpAnyLast P md ops Q S ds fuel l' a' w)
    (hi : ops[i]? = some oi := by rfl) (hN : oi.dst = N := by rfl) (hc : takeW T B ds l.toList l'.toList i = true := by kernel_rfl) (hQ : ∀ c a w, Q (.panic c) (a.put oi.dst v) w → Q (.panic c) a w := by exact fun _ _ _ h => h) (hy : YieldsIf P ops S oi v a := by refine Or.inl ⟨by rfl, ?_⟩; rintro w' ⟨s0, s1⟩; go_simp; with_reducible rfl) (ha : a.put N v = a' := by simp only [Act.put, List.setIfInBounds_toArray, List.set_cons_zero, List.set_cons_succ, i64_w, i32_w]; rfl) : wpAnyLast P md ops Q S ds (fuel + 1) l a w := take_ l' hi hN (take_ofW HT_.out HW_.out hc) hQ hy hS ha h
theorem takeZ3 {P : Program} {ops : Array Oper} {Q : Exit → Act → World → Prop} {md : Region.Mode} {S : World → Prop} {ds : List Nat} {T : Bool × List (List Nat × List Nat)} {B : List Nat} (HT_ : Aside0 (rtab md ops = T)) (HW_ : Aside0 (waitsOk T.2 B = true)) (i : Nat) (N : Option Tmp) (l' : Array Bool) {oi : Oper} {v : Value} {fuel : Nat} {l : Array Bool} {a a' : Act} {w : World} (hS : S w) (h : wpAnyLast P md ops Q S ds fuel l' a' w)
    (hi : ops[i]? = some oi := by rfl) (hN : oi.dst = N := by rfl) (hc : takeW T B ds l.toList l'.toList i = true := by kernel_rfl) (hQ : ∀ c a w, Q (.panic c) (a.put oi.dst v) w → Q (.panic c) a w := by exact fun _ _ _ h => h) (hy : YieldsIf P ops S oi v a := by refine Or.inl ⟨by rfl, ?_⟩; rintro w' ⟨s0, s1, s2⟩; go_simp; with_reducible rfl) (ha : a.put N v = a' := by simp only [Act.put, List.setIfInBounds_toArray, List.set_cons_zero, List.set_cons_succ, i64_w, i32_w]; rfl) : wpAnyLast P md ops Q S ds (fuel + 1) l a w := take_ l' hi hN (take_ofW HT_.out HW_.out hc) hQ hy hS ha h
theorem takeZ4 {P : Program} {ops : Array Oper} {Q : Exit → Act → World → Prop} {md : Region.Mode} {S : World → Prop} {ds : List Nat} {T : Bool × List (List Nat × List Nat)} {B : List Nat} (HT_ : Aside0 (rtab md ops = T)) (HW_ : Aside0 (waitsOk T.2 B = true)) (i : Nat) (N : Option Tmp) (l' : Array Bool) {oi : Oper} {v : Value} {fuel : Nat} {l : Array Bool} {a a' : Act} {w : World} (hS : S w) (h : wpAnyLast P md ops Q S ds fuel l' a' w)
    (hi : ops[i]? = some oi := by rfl) (hN : oi.dst = N := by rfl) (hc : takeW T B ds l.toList l'.toList i = true := by kernel_rfl) (hQ : ∀ c a w, Q (.panic c) (a.put oi.dst v) w → Q (.panic c) a w := by exact fun _ _ _ h => h) (hy : YieldsIf P ops S oi v a := by refine Or.inl ⟨by rfl, ?_⟩; rintro w' ⟨s0, s1, s2, s3⟩; go_simp; with_reducible rfl) (ha : a.put N v = a' := by simp only [Act.put, List.setIfInBounds_toArray, List.set_cons_zero, List.set_cons_succ, i64_w, i32_w]; rfl) : wpAnyLast P md ops Q S ds (fuel + 1) l a w := take_ l' hi hN (take_ofW HT_.out HW_.out hc) hQ hy hS ha h
theorem takeZ6 {P : Program} {ops : Array Oper} {Q : Exit → Act → World → Prop} {md : Region.Mode} {S : World → Prop} {ds : List Nat} {T : Bool × List (List Nat × List Nat)} {B : List Nat} (HT_ : Aside0 (rtab md ops = T)) (HW_ : Aside0 (waitsOk T.2 B = true)) (i : Nat) (N : Option Tmp) (l' : Array Bool) {oi : Oper} {v : Value} {fuel : Nat} {l : Array Bool} {a a' : Act} {w : World} (hS : S w) (h : wpAnyLast P md ops Q S ds fuel l' a' w)
    (hi : ops[i]? = some oi := by rfl) (hN : oi.dst = N := by rfl) (hc : takeW T B ds l.toList l'.toList i = true := by kernel_rfl) (hQ : ∀ c a w, Q (.panic c) (a.put oi.dst v) w → Q (.panic c) a w := by exact fun _ _ _ h => h) (hy : YieldsIf P ops S oi v a := by refine Or.inl ⟨by rfl, ?_⟩; rintro w' ⟨s0, s1, s2, s3, s4, s5⟩; go_simp; with_reducible rfl) (ha : a.put N v = a' := by simp only [Act.put, List.setIfInBounds_toArray, List.set_cons_zero, List.set_cons_succ, i64_w, i32_w]; rfl) : wpAnyLast P md ops Q S ds (fuel + 1) l a w := take_ l' hi hN (take_ofW HT_.out HW_.out hc) hQ hy hS ha h
theorem takeZ7 {P : Program} {ops : Array Oper} {Q : Exit → Act → World → Prop} {md : Region.Mode} {S : World → Prop} {ds : List Nat} {T : Bool × List (List Nat × List Nat)} {B : List Nat} (HT_ : Aside0 (rtab md ops = T)) (HW_ : Aside0 (waitsOk T.2 B = true)) (i : Nat) (N : Option Tmp) (l' : Array Bool) {oi : Oper} {v : Value} {fuel : Nat} {l : Array Bool} {a a' : Act} {w : World} (hS : S w) (h : wpAnyLast P md ops Q S ds fuel l' a' w)
    (hi : ops[i]? = some oi := by rfl) (hN : oi.dst = N := by rfl) (hc : takeW T B ds l.toList l'.toList i = true := by kernel_rfl) (hQ : ∀ c a w, Q (.panic c) (a.put oi.dst v) w → Q (.panic c) a w := by exact fun _ _ _ h => h) (hy : YieldsIf P ops S oi v a := by refine Or.inl ⟨by rfl, ?_⟩; rintro w' ⟨s0, s1, s2, s3, s4, s5, s6⟩; go_simp; with_reducible rfl) (ha : a.put N v = a' := by simp only [Act.put, List.setIfInBounds_toArray, List.set_cons_zero, List.set_cons_succ, i64_w, i32_w]; rfl) : wpAnyLast P md ops Q S ds (fuel + 1) l a w := take_ l' hi hN (take_ofW HT_.out HW_.out hc) hQ hy hS ha h
theorem takeZ8 {P : Program} {ops : Array Oper} {Q : Exit → Act → World → Prop} {md : Region.Mode} {S : World → Prop} {ds : List Nat} {T : Bool × List (List Nat × List Nat)} {B : List Nat} (HT_ : Aside0 (rtab md ops = T)) (HW_ : Aside0 (waitsOk T.2 B = true)) (i : Nat) (N : Option Tmp) (l' : Array Bool) {oi : Oper} {v : Value} {fuel : Nat} {l : Array Bool} {a a' : Act} {w : World} (hS : S w) (h : wpAnyLast P md ops Q S ds fuel l' a' w)
    (hi : ops[i]? = some oi := by rfl) (hN : oi.dst = N := by rfl) (hc : takeW T B ds l.toList l'.toList i = true := by kernel_rfl) (hQ : ∀ c a w, Q (.panic c) (a.put oi.dst v) w → Q (.panic c) a w := by exact fun _ _ _ h => h) (hy : YieldsIf P ops S oi v a := by refine Or.inl ⟨by rfl, ?_⟩; rintro w' ⟨s0, s1, s2, s3, s4, s5, s6, s7⟩; go_simp; with_reducible rfl) (ha : a.put N v = a' := by simp only [Act.put, List.setIfInBounds_toArray, List.set_cons_zero, List.set_cons_succ, i64_w, i32_w]; rfl) : wpAnyLast P md ops Q S ds (fuel + 1) l a w := take_ l' hi hN (take_ofW HT_.out HW_.out hc) hQ hy hS ha h
theorem takeZ9 {P : Program} {ops : Array Oper} {Q : Exit → Act → World → Prop} {md : Region.Mode} {S : World → Prop} {ds : List Nat} {T : Bool × List (List Nat × List Nat)} {B : List Nat} (HT_ : Aside0 (rtab md ops = T)) (HW_ : Aside0 (waitsOk T.2 B = true)) (i : Nat) (N : Option Tmp) (l' : Array Bool) {oi : Oper} {v : Value} {fuel : Nat} {l : Array Bool} {a a' : Act} {w : World} (hS : S w) (h : wpAnyLast P md ops Q S ds fuel l' a' w)
    (hi : ops[i]? = some oi := by rfl) (hN : oi.dst = N := by rfl) (hc : takeW T B ds l.toList l'.toList i = true := by kernel_rfl) (hQ : ∀ c a w, Q (.panic c) (a.put oi.dst v) w → Q (.panic c) a w := by exact fun _ _ _ h => h) (hy : YieldsIf P ops S oi v a := by refine Or.inl ⟨by rfl, ?_⟩; rintro w' ⟨s0, s1, s2, s3, s4, s5, s6, s7, s8⟩; go_simp; with_reducible rfl) (ha : a.put N v = a' := by simp only [Act.put, List.setIfInBounds_toArray, List.set_cons_zero, List.set_cons_succ, i64_w, i32_w]; rfl) : wpAnyLast P md ops Q S ds (fuel + 1) l a w := take_ l' hi hN (take_ofW HT_.out HW_.out hc) hQ hy hS ha h
theorem takeZ16 {P : Program} {ops : Array Oper} {Q : Exit → Act → World → Prop} {md : Region.Mode} {S : World → Prop} {ds : List Nat} {T : Bool × List (List Nat × List Nat)} {B : List Nat} (HT_ : Aside0 (rtab md ops = T)) (HW_ : Aside0 (waitsOk T.2 B = true)) (i : Nat) (N : Option Tmp) (l' : Array Bool) {oi : Oper} {v : Value} {fuel : Nat} {l : Array Bool} {a a' : Act} {w : World} (hS : S w) (h : wpAnyLast P md ops Q S ds fuel l' a' w)
    (hi : ops[i]? = some oi := by rfl) (hN : oi.dst = N := by rfl) (hc : takeW T B ds l.toList l'.toList i = true := by kernel_rfl) (hQ : ∀ c a w, Q (.panic c) (a.put oi.dst v) w → Q (.panic c) a w := by exact fun _ _ _ h => h) (hy : YieldsIf P ops S oi v a := by refine Or.inl ⟨by rfl, ?_⟩; rintro w' ⟨s0, s1, s2, s3, s4, s5, s6, s7, s8, s9, s10, s11, s12, s13, s14, s15⟩; go_simp; with_reducible rfl) (ha : a.put N v = a' := by simp only [Act.put, List.setIfInBounds_toArray, List.set_cons_zero, List.set_cons_succ, i64_w, i32_w]; rfl) : wpAnyLast P md ops Q S ds (fuel + 1) l a w := take_ l' hi hN (take_ofW HT_.out HW_.out hc) hQ hy hS ha h
theorem takeZ18 {P : Program} {ops : Array Oper} {Q : Exit → Act → World → Prop} {md : Region.Mode} {S : World → Prop} {ds : List Nat} {T : Bool × List (List Nat × List Nat)} {B : List Nat} (HT_ : Aside0 (rtab md ops = T)) (HW_ : Aside0 (waitsOk T.2 B = true)) (i : Nat) (N : Option Tmp) (l' : Array Bool) {oi : Oper} {v : Value} {fuel : Nat} {l : Array Bool} {a a' : Act} {w : World} (hS : S w) (h : wpAnyLast P md ops Q S ds fuel l' a' w)
    (hi : ops[i]? = some oi := by rfl) (hN : oi.dst = N := by rfl) (hc : takeW T B ds l.toList l'.toList i = true := by kernel_rfl) (hQ : ∀ c a w, Q (.panic c) (a.put oi.dst v) w → Q (.panic c) a w := by exact fun _ _ _ h => h) (hy : YieldsIf P ops S oi v a := by refine Or.inl ⟨by rfl, ?_⟩; rintro w' ⟨s0, s1, s2, s3, s4, s5, s6, s7, s8, s9, s10, s11, s12, s13, s14, s15, s16, s17⟩; go_simp; with_reducible rfl) (ha : a.put N v = a' := by simp only [Act.put, List.setIfInBounds_toArray, List.set_cons_zero, List.set_cons_succ, i64_w, i32_w]; rfl) : wpAnyLast P md ops Q S ds (fuel + 1) l a w := take_ l' hi hN (take_ofW HT_.out HW_.out hc) hQ hy hS ha h
theorem takeZ27 {P : Program} {ops : Array Oper} {Q : Exit → Act → World → Prop} {md : Region.Mode} {S : World → Prop} {ds : List Nat} {T : Bool × List (List Nat × List Nat)} {B : List Nat} (HT_ : Aside0 (rtab md ops = T)) (HW_ : Aside0 (waitsOk T.2 B = true)) (i : Nat) (N : Option Tmp) (l' : Array Bool) {oi : Oper} {v : Value} {fuel : Nat} {l : Array Bool} {a a' : Act} {w : World} (hS : S w) (h : wpAnyLast P md ops Q S ds fuel l' a' w)
    (hi : ops[i]? = some oi := by rfl) (hN : oi.dst = N := by rfl) (hc : takeW T B ds l.toList l'.toList i = true := by kernel_rfl) (hQ : ∀ c a w, Q (.panic c) (a.put oi.dst v) w → Q (.panic c) a w := by exact fun _ _ _ h => h) (hy : YieldsIf P ops S oi v a := by refine Or.inl ⟨by rfl, ?_⟩; rintro w' ⟨s0, s1, s2, s3, s4, s5, s6, s7, s8, s9, s10, s11, s12, s13, s14, s15, s16, s17, s18, s19, s20, s21, s22, s23, s24, s25, s26⟩; go_simp; with_reducible rfl) (ha : a.put N v = a' := by simp only [Act.put, List.setIfInBounds_toArray, List.set_cons_zero, List.set_cons_succ, i64_w, i32_w]; rfl) : wpAnyLast P md ops Q S ds (fuel + 1) l a w := take_ l' hi hN (take_ofW HT_.out HW_.out hc) hQ hy hS ha h
theorem ci2 {w : World} {g t : Nat} {a0 a1 : Value} (h : Aside0 (w.heap[g]? = some (.cells #[a0, a1] t (0, 0)))) {P : Prop} (k : w.cell? ⟨g, 0, none⟩ = some a0 → w.cell? ⟨g, 1, none⟩ = some a1 → w.frozen? ⟨g, 0, none⟩ = false → w.frozen? ⟨g, 1, none⟩ = false → P) : P := k ((blk_cell h.out 0).trans rfl) ((blk_cell h.out 1).trans rfl) (blk_frozen h.out 0) (blk_frozen h.out 1)
theorem ci3 {w : World} {g t : Nat} {a0 a1 a2 : Value} (h : Aside0 (w.heap[g]? = some (.cells #[a0, a1, a2] t (0, 0)))) {P : Prop} (k : w.cell? ⟨g, 0, none⟩ = some a0 → w.cell? ⟨g, 1, none⟩ = some a1 → w.cell? ⟨g, 2, none⟩ = some a2 → w.frozen? ⟨g, 0, none⟩ = false → w.frozen? ⟨g, 1, none⟩ = false → w.frozen? ⟨g, 2, none⟩ = false → P) : P := k ((blk_cell h.out 0).trans rfl) ((blk_cell h.out 1).trans rfl) ((blk_cell h.out 2).trans rfl) (blk_frozen h.out 0) (blk_frozen h.out 1) (blk_frozen h.out 2)
theorem ci4 {w : World} {g t : Nat} {a0 a1 a2 a3 : Value} (h : Aside0 (w.heap[g]? = some (.cells #[a0, a1, a2, a3] t (0, 0)))) {P : Prop} (k : w.cell? ⟨g, 0, none⟩ = some a0 → w.cell? ⟨g, 1, none⟩ = some a1 → w.cell? ⟨g, 2, none⟩ = some a2 → w.cell? ⟨g, 3, none⟩ = some a3 → w.frozen? ⟨g, 0, none⟩ = false → w.frozen? ⟨g, 1, none⟩ = false → w.frozen? ⟨g, 2, none⟩ = false → w.frozen? ⟨g, 3, none⟩ = false → P) : P := k ((blk_cell h.out 0).trans rfl) ((blk_cell h.out 1).trans rfl) ((blk_cell h.out 2).trans rfl) ((blk_cell h.out 3).trans rfl) (blk_frozen h.out 0) (blk_frozen h.out 1) (blk_frozen h.out 2) (blk_frozen h.out 3)
theorem ci9 {w : World} {g t : Nat} {a0 a1 a2 a3 a4 a5 a6 a7 a8 : Value} (h : Aside0 (w.heap[g]? = some (.cells #[a0, a1, a2, a3, a4, a5, a6, a7, a8] t (0, 0)))) {P : Prop} (k : w.cell? ⟨g, 0, none⟩ = some a0 → w.cell? ⟨g, 1, none⟩ = some a1 → w.cell? ⟨g, 2, none⟩ = some a2 → w.cell? ⟨g, 3, none⟩ = some a3 → w.cell? ⟨g, 4, none⟩ = some a4 → w.cell? ⟨g, 5, none⟩ = some a5 → w.cell? ⟨g, 6, none⟩ = some a6 → w.cell? ⟨g, 7, none⟩ = some a7 → w.cell? ⟨g, 8, none⟩ = some a8 → w.frozen? ⟨g, 0, none⟩ = false → w.frozen? ⟨g, 1, none⟩ = false → w.frozen? ⟨g, 2, none⟩ = false → w.frozen? ⟨g, 3, none⟩ = false → w.frozen? ⟨g, 4, none⟩ = false → w.frozen? ⟨g, 5, none⟩ = false → w.frozen? ⟨g, 6, none⟩ = false → w.frozen? ⟨g, 7, none⟩ = false → w.frozen? ⟨g, 8, none⟩ = false → P) : P := k ((blk_cell h.out 0).trans rfl) ((blk_cell h.out 1).trans rfl) ((blk_cell h.out 2).trans rfl) ((blk_cell h.out 3).trans rfl) ((blk_cell h.out 4).trans rfl) ((blk_cell h.out 5).trans rfl) ((blk_cell h.out 6).trans rfl) ((blk_cell h.out 7).trans rfl) ((blk_cell h.out 8).trans rfl) (blk_frozen h.out 0) (blk_frozen h.out 1) (blk_frozen h.out 2) (blk_frozen h.out 3) (blk_frozen h.out 4) (blk_frozen h.out 5) (blk_frozen h.out 6) (blk_frozen h.out 7) (blk_frozen h.out 8)
theorem Za {P : Prop} (h : P := by first | rfl | (simp; done) | (simp [*]; done)) : P := h
theorem Zb {P : Prop} (h : P := by repeat (first | exact Drawn0.refl _ | apply Drawn0.step)) : P := h
theorem Zc {P : Prop} (h : P := by rw [hg]; exact (below_size (by repeat (first | (with_reducible first | exact HB.out | apply below_alloc | apply pw_below_drewN | apply below_drew1) | exact HB.out)))) : P := h
theorem Zd {P : Prop} (h : P := by repeat (first | (with_reducible first | exact HB.out | apply below_alloc | apply pw_below_drewN | apply below_drew1) | exact HB.out)) : P := h
theorem Ze {p0 P : Prop} (z0_ : p0) (h : p0 → P := by intro z0_; rw [hg]; exact (below_size (by repeat (first | (with_reducible first | exact HB.out | apply below_alloc | apply pw_below_drewN | apply below_drew1 | refine below_set ?_ z0_.out) | exact HB.out)))) : P := h z0_
theorem Zf {p0 P : Prop} (z0_ : p0) (h : p0 → P := by intro z0_; repeat (first | (with_reducible first | exact HB.out | apply below_alloc | apply pw_below_drewN | apply below_drew1 | refine below_set ?_ z0_.out) | exact HB.out)) : P := h z0_
theorem Zg {p0 p1 P : Prop} (z0_ : p0) (z1_ : p1) (h : p0 → p1 → P := by intro z0_ z1_; rw [hg]; exact (below_size (by repeat (first | (with_reducible first | exact HB.out | apply below_alloc | apply pw_below_drewN | apply below_drew1 | refine below_set ?_ z0_.out | refine below_set ?_ z1_.out) | exact HB.out)))) : P := h z0_ z1_
theorem Zh {p0 p1 P : Prop} (z0_ : p0) (z1_ : p1) (h : p0 → p1 → P := by intro z0_ z1_; repeat (first | (with_reducible first | exact HB.out | apply below_alloc | apply pw_below_drewN | apply below_drew1 | refine below_set ?_ z0_.out | refine below_set ?_ z1_.out) | exact HB.out)) : P := h z0_ z1_
theorem Zi {P : Prop} (h : P := by kernel_rfl) : P := h
theorem Zj {P : Prop} (h : P := by first | rfl | (simp [errW_none, errW_some] <;> rfl) | (simp [*, errW_none, errW_some] <;> rfl)) : P := h
theorem Zk {p0 p1 p2 P : Prop} (z0_ : p0) (z1_ : p1) (z2_ : p2) (h : p0 → p1 → p2 → P := by intro z0_ z1_ z2_; repeat (first | (with_reducible first | exact HB.out | apply below_alloc | apply pw_below_drewN | apply below_drew1 | refine below_set ?_ z0_.out | refine below_set ?_ z1_.out | refine below_set ?_ z2_.out) | exact HB.out)) : P := h z0_ z1_ z2_
theorem Zl {P : Prop} (h : P := by first | omega | exact Nat.le_refl _) : P := h
theorem Zm {P : Prop} (h : P := by first | exact Kd.R_nil _ _ _ _ _ | exact Kd.N_nil _ _ _ _ _ | exact Kd.V_nil _ _ _ _ _ | exact Kd.Q_nil _ _ _ _ _ | exact Kd.S_nil _ _ _ _ _) : P := h
theorem Zn {P : Prop} (h : P := by first | (with_reducible assumption) | assumption) : P := h
theorem Zo {p0 P : Prop} (z0_ : p0) (h : p0 → P := by intro z0_; (with_reducible repeat (first | apply Kd.R_alloc | apply Kd.R_drewN | apply Kd.R_drew)); exact z0_.out) : P := h z0_
theorem Zp {P : Prop} (h : P := by have := HJ2.out; have := HK2.out; have := HK3.out; omega) : P := h
theorem Zq {P : Prop} (h : P := by first | rfl | (simp [errW_none, errW_some] <;> rfl) | (simp only [← hji7]; first | rfl | (simp [errW_none, errW_some] <;> rfl)) | (simp [*, errW_none, errW_some] <;> rfl)) : P := h
theorem Zr {P : Prop} (h : P := by (try simp only [List.map_toArray, List.map_cons, List.map_nil]); first | done | rfl | (simp only [List.length_drop, List.length_take]; rfl)) : P := h
theorem Zs {P : Prop} (h : P := by have := HK1.out; omega) : P := h
theorem Zt {P : Prop} (h : P := by repeat (first | (with_reducible first | exact HK.out | apply Kept.alloc | apply Kept.drewN | apply Kept.drew) | exact HK.out)) : P := h
theorem Zu {p0 P : Prop} (z0_ : p0) (h : p0 → P := by intro z0_; rw [hw]; exact below_set (HB.out) z0_.out) : P := h z0_
theorem Zv {p0 P : Prop} (z0_ : p0) (h : p0 → P := by intro z0_; rw [← HE_.out]; (with_reducible repeat (first | apply Kd.R_alloc | apply Kd.R_drewN | apply Kd.R_drew)); exact z0_.out) : P := h z0_
theorem Zw {P : Prop} (h : P := by rw [hlen]; decide) : P := h
theorem Zx {p0 P : Prop} (z0_ : p0) (h : p0 → P := by intro z0_; rw [hw]; exact below_set (below_set (below_set (below_set (below_set (below_set (below_set (below_set (below_set (HB.out) z0_.out) z0_.out) z0_.out) z0_.out) z0_.out) z0_.out) z0_.out) z0_.out) z0_.out) : P := h z0_
theorem Zy {p0 P : Prop} (z0_ : p0) (h : p0 → P := by intro z0_; rw [hw]; exact below_set (below_set (below_set (below_set (HB.out) z0_.out) z0_.out) z0_.out) z0_.out) : P := h z0_
theorem Zz {p0 P : Prop} (z0_ : p0) (h : p0 → P := by intro z0_; repeat (first | exact (Kd.C_below z0_.out HB.out) | (with_reducible refine Kd.C_alloc ?_ _) | (with_reducible refine Kd.C_drewN ?_ _) | (with_reducible refine Kd.C_drew ?_))) : P := h z0_
theorem Zaa {p0 p1 P : Prop} (z0_ : p0) (z1_ : p1) (h : p0 → p1 → P := by intro z0_ z1_; repeat (first | exact (Kd.C_below z0_.out (by repeat (first | (with_reducible first | exact HB.out | apply below_alloc | apply pw_below_drewN | apply below_drew1 | refine below_set ?_ z1_.out) | exact HB.out))) | (with_reducible refine Kd.C_alloc ?_ _) | (with_reducible refine Kd.C_drewN ?_ _) | (with_reducible refine Kd.C_drew ?_))) : P := h z0_ z1_
theorem Zab {p0 p1 P : Prop} (z0_ : p0) (z1_ : p1) (h : p0 → p1 → P := by intro z0_ z1_; (with_reducible repeat (first | apply Kd.R_alloc | apply Kd.R_drewN | apply Kd.R_drew)); exact (Kd.R_mono (rfZ (Kd.R_types z0_.out z1_.out (by decide))) (fun _ h_ => h_.1))) : P := h z0_ z1_
theorem Zac {p0 p1 p2 P : Prop} (z0_ : p0) (z1_ : p1) (z2_ : p2) (h : p0 → p1 → p2 → P := by intro z0_ z1_ z2_; (with_reducible repeat (first | apply Kd.R_alloc | apply Kd.R_drewN | apply Kd.R_drew)); exact Kd.R_mono (Kd.R_far (p := ⟨gb933, 2, none⟩) (Kd.R_far (p := ⟨gb933, 1, none⟩) (Kd.R_far (p := ⟨gb933, 0, none⟩) (Kd.R_far (p := ⟨gb934, 2, none⟩) (Kd.R_types (Kd.R_types z0_.out z1_.out (by decide)) z2_.out (by decide)) (fun _ hk => hk.1.2) (.slice Ao22 t941.length co22)) (fun _ hk => hk.2) (.slice Ao13 t935.length co13)) (fun _ hk => hk.2) (.slice Ao18 t938.length co18)) (fun _ hk => hk.2) (.slice Ao22 t941.length co22)) (fun _ hk => trivial)) : P := h z0_ z1_ z2_
theorem Zad {p0 P : Prop} (z0_ : p0) (h : p0 → P := by intro z0_; repeat (first | (with_reducible first | exact HK.out | apply Kept.alloc | apply Kept.drewN | apply Kept.drew | refine Kept.setCell ?_ (.inr z0_.out) _) | exact HK.out)) : P := h z0_
theorem Zae {p0 p1 p2 P : Prop} (z0_ : p0) (z1_ : p1) (z2_ : p2) (h : p0 → p1 → p2 → P := by intro z0_ z1_ z2_; (with_reducible repeat (first | apply Kd.R_alloc | apply Kd.R_drewN | apply Kd.R_drew)); exact Kd.R_mono (Kd.R_far (p := ⟨gb933, 2, none⟩) (Kd.R_far (p := ⟨gb933, 1, none⟩) (Kd.R_far (p := ⟨gb933, 0, none⟩) (Kd.R_far (p := ⟨gb934, 2, none⟩) (Kd.R_types (Kd.R_types z0_.out z1_.out (by decide)) z2_.out (by decide)) (fun _ hk => hk.1.2) (.slice Ao22 l0_2.length co22)) (fun _ hk => hk.2) (.slice Ao13 l0_0.length co13)) (fun _ hk => hk.2) (.slice Ao18 l0_1.length co18)) (fun _ hk => hk.2) (.slice Ao22 l0_2.length co22)) (fun _ hk => trivial)) : P := h z0_ z1_ z2_
theorem Zaf {P : Prop} (h : P := by rw [hg]; exact (below_le (by repeat (first | (with_reducible first | exact HB.out | apply below_alloc | apply pw_below_drewN | apply below_drew1) | exact HB.out)))) : P := h
theorem Zag {p0 P : Prop} (z0_ : p0) (h : p0 → P := by intro z0_; repeat (first | exact z0_.out | (with_reducible refine Kd.C_alloc ?_ _) | (with_reducible refine Kd.C_drewN ?_ _) | (with_reducible refine Kd.C_drew ?_))) : P := h z0_
theorem Zah {p0 p1 p2 P : Prop} (z0_ : p0) (z1_ : p1) (z2_ : p2) (h : p0 → p1 → p2 → P := by intro z0_ z1_ z2_; repeat (first | exact (Kd.C_below z0_.out (by repeat (first | (with_reducible first | exact HB.out | apply below_alloc | apply pw_below_drewN | apply below_drew1 | refine below_set ?_ z1_.out | refine below_set ?_ z2_.out) | exact HB.out))) | (with_reducible refine Kd.C_alloc ?_ _) | (with_reducible refine Kd.C_drewN ?_ _) | (with_reducible refine Kd.C_drew ?_))) : P := h z0_ z1_ z2_
theorem Zai {p0 P : Prop} (z0_ : p0) (h : p0 → P := by intro z0_; (with_reducible repeat (first | refine blk_drewN ?_ _ | refine blk_drew ?_ | refine blk_alloc ?_ _)); exact z0_.out) : P := h z0_
theorem Zaj {p0 p1 p2 p3 p4 p5 p6 p7 p8 p9 p10 P : Prop} (z0_ : p0) (z1_ : p1) (z2_ : p2) (z3_ : p3) (z4_ : p4) (z5_ : p5) (z6_ : p6) (z7_ : p7) (z8_ : p8) (z9_ : p9) (z10_ : p10) (h : p0 → p1 → p2 → p3 → p4 → p5 → p6 → p7 → p8 → p9 → p10 → P := by intro z0_ z1_ z2_ z3_ z4_ z5_ z6_ z7_ z8_ z9_ z10_; exact ⟨(blk_cell z0_.out 0).trans rfl, (blk_cell z0_.out 1).trans rfl, (blk_cell z0_.out 2).trans rfl, (blk_cell z1_.out 0).trans rfl, (blk_cell z1_.out 1).trans rfl, (blk_cell z1_.out 2).trans rfl, (blk_cell z1_.out 3).trans rfl, (cbH HB z2_ :), (cbH HB z3_ :), (cbH HB z4_ :), (cbH HB z5_ :), (cbH HB z6_ :), (cbH HB z7_ :), (cbH HB z8_ :), (cbH HB z9_ :), (cbH HB z10_ :)⟩) : P := h z0_ z1_ z2_ z3_ z4_ z5_ z6_ z7_ z8_ z9_ z10_
theorem Zak {P : Prop} (h : P := by simp only [putAll, Act.put, List.setIfInBounds_toArray, List.set_cons_zero, List.set_cons_succ]) : P := h
theorem Zal {p0 p1 P : Prop} (z0_ : p0) (z1_ : p1) (h : p0 → p1 → P := by intro z0_ z1_; first | exact Nat.ne_of_lt (Nat.lt_of_lt_of_le (by have := World.block_lt_of_cell? _ _ z0_; first | rwa [add_block] at this | exact this) z1_.out) | (rw [add_block]; exact Nat.ne_of_lt (Nat.lt_of_lt_of_le (by have := World.block_lt_of_cell? _ _ z0_; first | rwa [add_block] at this | exact this) z1_.out)) | (show (Addr.add _ _).block ≠ _; rw [add_block]; exact Nat.ne_of_lt (Nat.lt_of_lt_of_le (by have := World.block_lt_of_cell? _ _ z0_; first | rwa [add_block] at this | exact this) z1_.out)) | (dsimp only; exact Nat.ne_of_lt (Nat.lt_of_lt_of_le (by have := World.block_lt_of_cell? _ _ z0_; first | rwa [add_block] at this | exact this) z1_.out))) : P := h z0_ z1_
theorem Zam {p0 P : Prop} (z0_ : p0) (h : p0 → P := by intro z0_; (with_reducible repeat (first | apply Kd.S_alloc | apply Kd.S_drewN | apply Kd.S_drew)); exact z0_.out) : P := h z0_
theorem Zan {p0 p1 p2 P : Prop} (z0_ : p0) (z1_ : p1) (z2_ : p2) (h : p0 → p1 → p2 → P := by intro z0_ z1_ z2_; exact ⟨(blk_cell z0_.out 0).trans rfl, (blk_cell z0_.out 1).trans rfl, (blk_cell z0_.out 2).trans rfl, (blk_cell z0_.out 3).trans rfl, (blk_cell z0_.out 4).trans rfl, (blk_cell z0_.out 5).trans rfl, (blk_cell z0_.out 6).trans rfl, (blk_cell z0_.out 7).trans rfl, (blk_cell z0_.out 8).trans rfl, (blk_cell z1_.out 0).trans rfl, (blk_cell z1_.out 1).trans rfl, (blk_cell z1_.out 2).trans rfl, (blk_cell z2_.out 0).trans rfl, (blk_cell z2_.out 1).trans rfl, (blk_cell z2_.out 2).trans rfl, (blk_cell z2_.out 3).trans rfl⟩) : P := h z0_ z1_ z2_
theorem Zao {p0 P : Prop} (z0_ : p0) (h : p0 → P := by intro z0_; (with_reducible repeat (first | apply Kd.S_alloc | apply Kd.S_drewN | apply Kd.S_drew)); exact Kd.S_mono z0_.out (fun _ hk => trivial)) : P := h z0_
theorem Zap {p0 P : Prop} (z0_ : p0) (h : p0 → P := by intro z0_; (with_reducible repeat (first | apply Kd.N_alloc | apply Kd.N_drewN | apply Kd.N_drew)); exact z0_.out) : P := h z0_
theorem Zaq {P : Prop} (h : P := by have := HK1.out; have := HK2.out; omega) : P := h
theorem Zar {p0 P : Prop} (z0_ : p0) (h : p0 → P := by intro z0_; repeat (first | (with_reducible exact z0_.out) | (with_reducible refine Kd.C_alloc ?_ _) | (with_reducible refine Kd.C_drewN ?_ _) | (with_reducible refine Kd.C_drew ?_) | exact z0_.out)) : P := h z0_
theorem Zas {p0 P : Prop} (z0_ : p0) (h : p0 → P := by intro z0_; (with_reducible repeat (first | apply Kd.R_alloc | apply Kd.R_drewN | apply Kd.R_drew)); exact Kd.R_mono z0_.out (fun _ hk => ⟨hk.2, hk.1⟩)) : P := h z0_
theorem Zat {p0 P : Prop} (z0_ : p0) (h : p0 → P := by intro z0_; (with_reducible repeat (first | apply Kd.R_alloc | apply Kd.R_drewN | apply Kd.R_drew)); exact Kd.R_mono z0_.out (fun _ hk => ⟨hk.2, hk.1.2⟩)) : P := h z0_
theorem Zau {p0 P : Prop} (z0_ : p0) (h : p0 → P := by intro z0_; (with_reducible repeat (first | apply Kd.R_alloc | apply Kd.R_drewN | apply Kd.R_drew)); exact Kd.R_mono z0_.out (fun _ hk => ⟨hk.1.2, hk.2⟩)) : P := h z0_
theorem Zav {p0 P : Prop} (z0_ : p0) (h : p0 → P := by intro z0_; (with_reducible repeat (first | apply Kd.N_alloc | apply Kd.N_drewN | apply Kd.N_drew)); exact Kd.N_mono z0_.out (fun _ hk => ⟨hk.1.1, ⟨hk.1.2.1, ⟨hk.2, hk.1.2.2⟩⟩⟩)) : P := h z0_
theorem Zaw {p0 P : Prop} (z0_ : p0) (h : p0 → P := by intro z0_; (with_reducible repeat (first | apply Kd.R_alloc | apply Kd.R_drewN | apply Kd.R_drew)); exact Kd.R_mono z0_.out (fun _ hk => hk.1)) : P := h z0_
theorem Zax {p0 P : Prop} (z0_ : p0) (h : p0 → P := by intro z0_; first | exact q250 | exact of_decide_eq_true (by first | (with_reducible assumption) | assumption) | (have e_ := (Kd.N_reads' z0_.out).1; omega)) : P := h z0_
theorem Zay {p0 P : Prop} (z0_ : p0) (h : p0 → P := by intro z0_; (with_reducible repeat (first | apply Kd.V_alloc | apply Kd.V_drewN | apply Kd.V_drew)); exact z0_.out) : P := h z0_
theorem Zaz {p0 P : Prop} (z0_ : p0) (h : p0 → P := by intro z0_; (with_reducible repeat (first | apply Kd.N_alloc | apply Kd.N_drewN | apply Kd.N_drew)); exact Kd.N_mono z0_.out (fun _ hk => ⟨hk.1.1, ⟨hk.1.2.1, ⟨hk.1.2.2.1, hk.1.2.2.2⟩⟩⟩)) : P := h z0_
theorem Zba {p0 P : Prop} (z0_ : p0) (h : p0 → P := by intro z0_; (with_reducible repeat (first | apply Kd.N_alloc | apply Kd.N_drewN | apply Kd.N_drew)); exact Kd.N_mono z0_.out (fun _ hk => ⟨⟨hk.1.1, ⟨hk.1.2.2.1, ⟨hk.2, hk.1.2.2.2⟩⟩⟩, hk.1.2.1⟩)) : P := h z0_
theorem Zbb {p0 P : Prop} (z0_ : p0) (h : p0 → P := by intro z0_; (with_reducible repeat (first | apply Kd.V_alloc | apply Kd.V_drewN | apply Kd.V_drew)); exact Kd.V_mono z0_.out (fun _ hk => ⟨⟨hk.1.1.1, ⟨hk.1.2, ⟨hk.1.1.2.2.1, ⟨hk.2, hk.1.1.2.2.2⟩⟩⟩⟩, hk.1.1.2.1⟩)) : P := h z0_
theorem Zbc {p0 P : Prop} (z0_ : p0) (h : p0 → P := by intro z0_; (with_reducible repeat (first | apply Kd.N_alloc | apply Kd.N_drewN | apply Kd.N_drew)); exact Kd.N_mono z0_.out (fun _ hk => ⟨hk.1.1, ⟨hk.2, ⟨hk.1.2.1, hk.1.2.2.2⟩⟩⟩)) : P := h z0_
theorem Zbd {P : Prop} (h : P := by first | exact Kd.S_nil _ _ _ _ _ | exact Kd.N_nil _ _ _ _ _ | exact Kd.V_nil _ _ _ _ _ | exact Kd.Q_nil _ _ _ _ _ | exact Kd.R_nil _ _ _ _ _) : P := h
theorem Zbe {p0 P : Prop} (z0_ : p0) (h : p0 → P := by intro z0_; refine blk_put (cs := #[.string ((rd_T91 l0 x10_1).f0), .int .i64 ((rd_T91 l0 x10_1).f1), .int .i64 ((rd_T91 l0 x10_1).f2), .int .i64 ((rd_T91 l0 x10_1).f3), .int .i64 ((rd_T91 l0 x10_1).f4), .int .i64 ((rd_T91 l0 x10_1).f5), .int .i64 ((rd_T91 l0 x10_1).f6), .int .i64 ((rd_T91 l0 x10_1).f7), .int .i64 0]) ?_ 8 _ rfl; refine blk_put (cs := #[.string ((rd_T91 l0 x10_1).f0), .int .i64 ((rd_T91 l0 x10_1).f1), .int .i64 ((rd_T91 l0 x10_1).f2), .int .i64 ((rd_T91 l0 x10_1).f3), .int .i64 ((rd_T91 l0 x10_1).f4), .int .i64 ((rd_T91 l0 x10_1).f5), .int .i64 ((rd_T91 l0 x10_1).f6), .int .i64 0, .int .i64 0]) ?_ 7 _ rfl; refine blk_put (cs := #[.string ((rd_T91 l0 x10_1).f0), .int .i64 ((rd_T91 l0 x10_1).f1), .int .i64 ((rd_T91 l0 x10_1).f2), .int .i64 ((rd_T91 l0 x10_1).f3), .int .i64 ((rd_T91 l0 x10_1).f4), .int .i64 ((rd_T91 l0 x10_1).f5), .int .i64 0, .int .i64 0, .int .i64 0]) ?_ 6 _ rfl; refine blk_put (cs := #[.string ((rd_T91 l0 x10_1).f0), .int .i64 ((rd_T91 l0 x10_1).f1), .int .i64 ((rd_T91 l0 x10_1).f2), .int .i64 ((rd_T91 l0 x10_1).f3), .int .i64 ((rd_T91 l0 x10_1).f4), .int .i64 0, .int .i64 0, .int .i64 0, .int .i64 0]) ?_ 5 _ rfl; refine blk_put (cs := #[.string ((rd_T91 l0 x10_1).f0), .int .i64 ((rd_T91 l0 x10_1).f1), .int .i64 ((rd_T91 l0 x10_1).f2), .int .i64 ((rd_T91 l0 x10_1).f3), .int .i64 0, .int .i64 0, .int .i64 0, .int .i64 0, .int .i64 0]) ?_ 4 _ rfl; refine blk_put (cs := #[.string ((rd_T91 l0 x10_1).f0), .int .i64 ((rd_T91 l0 x10_1).f1), .int .i64 ((rd_T91 l0 x10_1).f2), .int .i64 0, .int .i64 0, .int .i64 0, .int .i64 0, .int .i64 0, .int .i64 0]) ?_ 3 _ rfl; refine blk_put (cs := #[.string ((rd_T91 l0 x10_1).f0), .int .i64 ((rd_T91 l0 x10_1).f1), .int .i64 0, .int .i64 0, .int .i64 0, .int .i64 0, .int .i64 0, .int .i64 0, .int .i64 0]) ?_ 2 _ rfl; refine blk_put (cs := #[.string ((rd_T91 l0 x10_1).f0), .int .i64 0, .int .i64 0, .int .i64 0, .int .i64 0, .int .i64 0, .int .i64 0, .int .i64 0, .int .i64 0]) ?_ 1 _ rfl; refine blk_put (cs := #[.string (⟨#[]⟩ : ByteArray), .int .i64 0, .int .i64 0, .int .i64 0, .int .i64 0, .int .i64 0, .int .i64 0, .int .i64 0, .int .i64 0]) ?_ 0 _ rfl; exact z0_.out) : P := h z0_
theorem Zbf {p0 P : Prop} (z0_ : p0) (h : p0 → P := by intro z0_; exact ⟨(blk_cell z0_.out 0).trans rfl, (blk_cell z0_.out 1).trans rfl, (blk_cell z0_.out 2).trans rfl, (blk_cell z0_.out 3).trans rfl, (blk_cell z0_.out 4).trans rfl, (blk_cell z0_.out 5).trans rfl, (blk_cell z0_.out 6).trans rfl, (blk_cell z0_.out 7).trans rfl, (blk_cell z0_.out 8).trans rfl⟩) : P := h z0_
theorem Zbg {p0 p1 P : Prop} (z0_ : p0) (z1_ : p1) (h : p0 → p1 → P := by intro z0_ z1_; exact ⟨(blk_cell z0_.out 0).trans rfl, (blk_cell z0_.out 1).trans rfl, (blk_cell z0_.out 2).trans rfl, (blk_cell z1_.out 0).trans rfl, (blk_cell z1_.out 1).trans rfl, (blk_cell z1_.out 2).trans rfl, (blk_cell z1_.out 3).trans rfl⟩) : P := h z0_ z1_
theorem Zbh {p0 p1 P : Prop} (z0_ : p0) (z1_ : p1) (h : p0 → p1 → P := by intro z0_ z1_; (with_reducible repeat (first | apply Kd.S_alloc | apply Kd.S_drewN | apply Kd.S_drew)); exact (Kd.S_mono (Kd.S_far (p := ⟨gb341, 3, none⟩) (Kd.S_far (p := ⟨gb341, 2, none⟩) (Kd.S_far (p := ⟨gb341, 1, none⟩) (Kd.S_far (p := ⟨gb341, 0, none⟩) (Kd.S_types z0_.out z1_.out (by decide)) (fun _ hk => hk.2) (.int .i64 ((rd_T80 l0_2 x11_1).f0))) (fun _ hk => hk.2) (.int .i64 ((rd_T80 l0_2 x11_1).f1))) (fun _ hk => hk.2) (.string ((rd_T80 l0_2 x11_1).f2))) (fun _ hk => hk.2) (.int .i64 ((rd_T80 l0_2 x11_1).f3))) (fun _ h_ => h_.1))) : P := h z0_ z1_
theorem Zbi {p0 P : Prop} (z0_ : p0) (h : p0 → P := by intro z0_; (with_reducible repeat (first | apply Kd.S_alloc | apply Kd.S_drewN | apply Kd.S_drew)); exact Kd.S_mono z0_.out (fun _ hk => hk.2)) : P := h z0_
theorem Zbj {p0 P : Prop} (z0_ : p0) (h : p0 → P := by intro z0_; (try simp only [hl6_1]); (with_reducible repeat (first | apply Kd.N_alloc | apply Kd.N_drewN | apply Kd.N_drew)); exact z0_.out) : P := h z0_
theorem Zbk {p0 P : Prop} (z0_ : p0) (h : p0 → P := by intro z0_; (try simp only [hl6_1]); (with_reducible repeat (first | refine blk_drewN ?_ _ | refine blk_drew ?_ | refine blk_alloc ?_ _)); exact z0_.out) : P := h z0_
theorem Zbl {p0 P : Prop} (z0_ : p0) (h : p0 → P := by intro z0_; (try simp only [hl6_1]); (with_reducible repeat (first | apply Kd.S_alloc | apply Kd.S_drewN | apply Kd.S_drew)); exact z0_.out) : P := h z0_
theorem Zbm {p0 P : Prop} (z0_ : p0) (h : p0 → P := by intro z0_; (with_reducible repeat (first | apply Ob_alloc | apply Ob_drewN | apply Ob_drew)); exact z0_.out) : P := h z0_
theorem Zbn {p0 P : Prop} (z0_ : p0) (h : p0 → P := by intro z0_; (with_reducible repeat (first | apply ObN_alloc | apply ObN_drewN | apply ObN_drew)); exact z0_.out) : P := h z0_
theorem Zbo {P : Prop} (h : P := by have := OX1.out; have := OX4.out; have := OX5.out; have := OB0.out; have := OB91.out; skip; omega) : P := h
theorem Zbp {p0 P : Prop} (z0_ : p0) (h : p0 → P := by intro z0_; (with_reducible repeat (first | apply ObS_alloc | apply ObS_drewN | apply ObS_drew)); exact z0_.out) : P := h z0_
theorem Zbq {P : Prop} (h : P := by have := OX1.out; have := OX4.out; have := OX5.out; have := OX8.out; have := OX9.out; have := OB0.out; have := OB91.out; skip; omega) : P := h
theorem Zbr {P : Prop} (h : P := by rw [List.length_set]; omega) : P := h
theorem Zbs {P : Prop} (h : P := by rw [List.length_replicate]; omega) : P := h
end Go.Proofs.Ytnifblnlpepehaa.F
namespace Go.Proofs.Ytnifblnlpepehaa.F
open Go.RowKit Go.Proofs.YtnifblnlpepehaaW.PrintWords Go.Proofs.YtnifblnlpepehaaW.PrintLast Go.Proofs.YtnifblnlpepehaaW.PrintMore
set_option linter.unusedVariables false
set_option linter.unusedSimpArgs false
open Go.ChangeShapes
theorem cut_cap {P : Program} (t e : TypeId) (kh : IntKind) {i : TypeInfo} (ht : P.underlying t = some (.slice e)) (hi : P.info? e = some i) (A : Option Addr) (n c : Nat) (j : Int) (h0 : 0 ≤ j) (hm : j ≤ c) :
  ∀ W : World, (Instr.slice t (.slice A n c) none (some (.int kh j)) none).run P W = .ok (.slice A j.toNat c) W := by
 intro W
 have hel : P.elem t = e := by simp [Program.elem, ht]
 have hu : P.underlying t = some (.slice (P.elem t)) := by rw [hel]; exact ht
 have ha : (A.map fun x => x.add 0) = A := by cases A <;> simp [Addr.add]
 rw [run_slice_h W t A n c hu kh j h0 hm, hel]
 simp [sizeOf, typeInfo, hi, sliced, Result.andThen, ha]
def Full {α : Type} (d : Kd α) (t : Nat) (w : World) (base : Nat) (n : Nat) (v : Value) (r : List α) : Prop := r ≠ [] → ∃ A c, v = .slice A n c ∧ n ≤ r.length ∧ Kd.R d t w base (fun _ => True) (.slice A r.length c) r
def Ob {α : Type} (d : Kd α) (t : Nat) (w : World) (base lo hi : Nat) (v : Value) (xs : List α) : Prop := Kd.R d t w base (fun k => lo ≤ k ∧ k < hi) v xs ∧ base ≤ lo ∧ hi ≤ w.heap.size
section
variable {α : Type} {d : Kd α} {t : Nat} {w w0 w1 : World} {base lo hi : Nat} {v : Value} {xs : List α}
theorem Ob_new (h : Kd.R d t w1 w0.heap.size (fun _ => True) v xs) (hb : base ≤ w0.heap.size) : Ob d t w1 base w0.heap.size w1.heap.size v xs :=
 ⟨Kd.R_lower (Kd.R_mono (Kd.R_bound h) (fun k hk => ⟨hk.2.1, hk.2.2.1⟩)) hb, hb, Nat.le_refl _⟩
theorem Ob_below (h : Ob d t w base lo hi v xs) (hb : Below w.heap.size w w1) : Ob d t w1 base lo hi v xs := ⟨Kd.R_below h.1 hb, h.2.1, Nat.le_trans h.2.2 hb.size⟩
theorem Ob_alloc (h : Ob d t w base lo hi v xs) (o : Obj) : Ob d t (w.alloc o) base lo hi v xs := Ob_below h (below_alloc (Below.refl _ _) o)
theorem Ob_drew (h : Ob d t w base lo hi v xs) : Ob d t w.drew base lo hi v xs := Ob_below h (below_drew (Below.refl _ _))
theorem Ob_drewN (h : Ob d t w base lo hi v xs) (m : Nat) : Ob d t (w.drewN m) base lo hi v xs := Ob_below h (pw_below_drewN (Below.refl _ _) m)
theorem Ob_kept {lo' hi' : Nat} (h : Ob d t w base lo hi v xs) (hk : Kept w w1 (fun k => lo' ≤ k ∧ k < hi')) (ha : hi' ≤ lo ∨ hi ≤ lo') : Ob d t w1 base lo hi v xs :=
 ⟨Kd.R_step h.1 (fun k hk1 hk2 => hk.2 k hk2 (by omega)), h.2.1, Nat.le_trans h.2.2 hk.1⟩
theorem Ob_slice (h : Ob d t w base lo hi v xs) : ∃ A c, v = .slice A xs.length c := Kd.R_slice h.1
theorem Ob_C {A : Option Addr} {n c : Nat} (h : Ob d t w base lo hi (.slice A n c) xs) : n = xs.length ∧ xs.length ≤ c ∧ d.C w A xs.length xs := by
 have h2 := Kd.R_reads' h.1; exact ⟨h2.1, by have := h2.2.1; have := h2.1; omega, h2.2.2⟩
theorem Ob_take {A : Option Addr} {n c m : Nat} (h : Ob d t w base lo hi (.slice A n c) xs) (hm : m ≤ xs.length) : Ob d t w base lo hi (.slice A m c) (xs.take m) := ⟨Kd.R_take h.1 hm, h.2⟩
theorem fullC {A : Option Addr} {c m : Nat} {L M : List α} (h : Ob d t w base lo hi (.slice A L.length c) L) (hM : M = L.take m ∧ m ≤ L.length) : Kd.C d w A M.length M ∧ M.length ≤ c ∧ L.length ≤ c ∧ Kd.C d w A L.length L := by
 obtain ⟨rfl, hm⟩ := hM; have h2 := Kd.R_reads' h.1; exact ⟨Kd.C_take h2.2.2 hm, by rw [List.length_take]; omega, h2.2.1, h2.2.2⟩
theorem fullT {A : Option Addr} {c m : Nat} {L M : List α} (h : Ob d t w base lo hi (.slice A L.length c) L) (hM : M = L.take m ∧ m ≤ L.length) : Ob d t w base lo hi (.slice A M.length c) M := by
 obtain ⟨rfl, hm⟩ := hM; have h2 := Ob_take h hm
 have e : (L.take m).length = m := by rw [List.length_take]; omega
 rw [← e] at h2
 have e2 : L.take (L.take m).length = L.take m := by rw [e]
 rw [e2] at h2; exact h2
end
def I64 (n : Int) : Prop := -9223372036854775808 ≤ n ∧ n ≤ 9223372036854775807
theorem I64_of {n : Int} (h : (Lit.int .i64 n).wf = true) : I64 n := by
 simp only [Lit.wf, Bool.and_eq_true, decide_eq_true_eq] at h
 have h1 : IntKind.i64.min = -9223372036854775808 := by decide
 have h2 : IntKind.i64.max = 9223372036854775807 := by decide
 unfold I64
 omega
theorem one_cell {cs : List Value} {i : Nat} {v : Value} (h : (cs.drop i).take 1 = [v]) : cs[i]? = some v := by
 have h1 : ((cs.drop i).take 1)[0]? = some v := by rw [h]; rfl
 simpa using h1
theorem choose_list {α : Type} {n : Nat} {Q : Nat → α → Prop} (h : ∀ i, i < n → ∃ p, Q i p) : ∃ xs : List α, xs.length = n ∧ ∀ i p, xs[i]? = some p → Q i p := by
 induction n with
 | zero => exact ⟨[], rfl, fun i p hp => by simp at hp⟩
 | succ n ih =>
  obtain ⟨xs, hl, hq⟩ := ih (fun i hi => h i (by omega)); obtain ⟨p, hp⟩ := h n (by omega); refine ⟨xs ++ [p], by simp [hl], fun i q hi => ?_⟩
  rcases Nat.lt_or_ge i xs.length with hlt | hge
  ·rw [List.getElem?_append_left hlt] at hi
   exact hq i q hi
  ·rw [List.getElem?_append_right hge] at hi
   have : i - xs.length = 0 := by
    have := (List.getElem?_eq_some_iff.1 hi).1
    simpa using this
   rw [this] at hi
   have e : p = q := by simpa using hi
   have e2 : i = n := by omega
   rw [e2, ← e]; exact hp
theorem open_rows {α : Type} (d : Kd α) {Pr : α → Prop} {H : Type} {enc : TypeId × Value → H} {P : Program} {W : World} {base : Nat} {sp : Nat → Bool} {held : Bool} {t e : TypeId} {fuel : Nat} {cs : List Value} {x : DataW H × List MemPlace}
  (ht : P.underlying t = some (.slice e)) (hc : P.cellsOf e = d.sz) (hop : ∀ (fuel : Nat) (cs : List Value) (y : DataW H × List MemPlace), DataW.trod enc P W base sp held fuel e cs = some y → ∃ a : α, d.K W a cs ∧ Pr a)
  (h : DataW.trod enc P W base sp held fuel t cs = some x) :
  ∃ (A : Option Addr) (c : Nat) (xs : List α), cs = [.slice A xs.length c] ∧ xs.length ≤ c ∧ c ≤ maxLen ∧ d.C W A xs.length xs ∧ ∀ p ∈ xs, Pr p := by
 rcases DataW.trod_slice ht h with ⟨rfl, _⟩ | ⟨a, len, cap, elems, rest, n, _, rfl, rfl, hb, hl, hm, hlen, hel, _, _⟩
 ·exact ⟨none, 0, [], rfl, Nat.le_refl _, Nat.zero_le _, Kd.C_nil d W, fun p hp => by simp at hp⟩
 ·have each : ∀ i, i < len → ∃ p : α, Pr p ∧ ∃ c : List Value, c.length = d.sz ∧ d.K W p c ∧ ∀ j u, c[j]? = some u → W.cell? (a.add (i * d.sz + j)) = some u := by
   intro i hi; have h1 := hel i hi; rw [List.getElem?_eq_getElem (by omega)] at h1; obtain ⟨c, hcells, ho⟩ := Option.bind_eq_some_iff.1 h1; obtain ⟨p, hK, hp⟩ := hop _ _ _ ho; obtain ⟨_, hcl, hcell⟩ := World.cells?_some hcells; refine ⟨p, hp, c, by rw [hcl, hc], hK, fun j u hj => ?_⟩; have hjl : j < c.length := (List.getElem?_eq_some_iff.1 hj).1; have h2 := hcell j (by omega); rw [hj] at h2
   have e2 : (a.add (i * P.cellsOf e)).add j = a.add (i * d.sz + j) := by rw [hc]; exact Addr.add_add _ _ _
   rw [← e2]; exact h2
  obtain ⟨xs, hxl, hq⟩ := choose_list each; refine ⟨some a, cap, xs, by rw [hxl], by omega, hm, ⟨rfl, by rw [hxl]; simp only [maxLen] at hm; omega, fun _ => ⟨a, rfl, fun j p hj => ?_⟩⟩, fun p hp => ?_⟩
  ·obtain ⟨_, c, h1, h2, h3⟩ := hq j p hj
   exact ⟨c, h1, h2, h3⟩
  ·obtain ⟨i, hi⟩ := List.getElem?_of_mem hp
   exact (hq i p hi).1
section
variable {α : Type} {d : Kd α} {t : Nat} {w w0 w1 : World} {base lo hi : Nat} {v : Value} {xs : List α}
end
theorem below_le {w w1 : World} (h : Below w.heap.size w w1) : w.heap.size ≤ w1.heap.size := h.size
theorem Ob_hi {α : Type} {d : Kd α} {t : Nat} {w : World} {base lo hi : Nat} {v : Value} {xs : List α} (h : Ob d t w base lo hi v xs) : hi ≤ w.heap.size := h.2.2
theorem Ob_R {α : Type} {d : Kd α} {t : Nat} {w : World} {base lo hi : Nat} {v : Value} {xs : List α} (h : Ob d t w base lo hi v xs) : Kd.R d t w base (fun k => lo ≤ k ∧ k < hi) v xs := h.1
theorem calls_len {P : Program} {f : FuncId} {A : Option Addr} {n m c : Nat} {v : Value} {w : World} {Q : Ending → World → Prop} (h : m = n) (hc : Calls P f #[.slice A m c, v] w Q) : Calls P f #[.slice A n c, v] w Q := h ▸ hc
section
variable {α β γ : Type} {d : Kd α} {d1 : Kd β} {d2 : Kd γ} {t t1 t2 : Nat} {w w0 w1 : World} {base lo hi : Nat} {v v1 v2 : Value} {xs : List α} {ys : List β} {zs : List γ}
theorem Ob_mk3 {last : Nat} (h : Kd.R d t w1 w0.heap.size (fun _ => True) v xs) (h1 : Kd.R d1 t1 w1 w0.heap.size (fun _ => True) v1 ys) (h2 : Kd.R d2 t2 w1 w0.heap.size (fun _ => True) v2 zs) (hb : Below w0.heap.size w0 w1) (hB : base ≤ w0.heap.size) (hl : last ≤ w0.heap.size) :
  ∃ lo hi, Ob d t w1 base lo hi v xs ∧ Ob d1 t1 w1 base lo hi v1 ys ∧ Ob d2 t2 w1 base lo hi v2 zs ∧ last ≤ lo ∧ lo ≤ hi ∧ hi ≤ w1.heap.size := ⟨_, _, Ob_new h hB, Ob_new h1 hB, Ob_new h2 hB, hl, hb.size, Nat.le_refl _⟩
theorem Kept3 {w w' : World} {P : Nat → Prop} (h : Kept w w' (fun k => P k ∨ P k ∨ P k)) : Kept w w' P := ⟨h.1, fun i hi hn => h.2 i hi (fun x => hn (by rcases x with x | x | x <;> exact x))⟩
theorem Ob_set (h : Ob d t w base lo hi v xs) {g j : Nat} (hg : g < lo ∨ hi ≤ g) (u : Value) : Ob d t (w.setCell ⟨g, j, none⟩ u) base lo hi v xs :=
 ⟨Kd.R_far (p := ⟨g, j, none⟩) h.1 (fun k hk => by show k ≠ g; omega) u, h.2.1, Nat.le_trans h.2.2 (Nat.le_of_eq (World.size_setCell _ _ _).symm)⟩
end
theorem start_w {P : Program} {ops : Array Oper} {Q : Exit → Act → World → Prop} {S : World → Prop} {ds : List Nat} {id n : Nat} {a : Act} {w : World} (l : Array Bool) (hm : P.follows .mixedOrders = true) (hn : ops.size = n) (hl : Array.replicate n false = l)
  (h : ∀ w1, Below w.heap.size w w1 → S w1 ∧ (S w1 → wpAnyLast P .any ops Q S ds n l a w1)) : (Code.region id ops true).wp P Q a w :=
 start_ l hm hn hl (h _ (below_drew (Below.refl _ _))).1 (h _ (below_drew (Below.refl _ _))).2
end Go.Proofs.Ytnifblnlpepehaa.F
namespace Go.Proofs.Ytnifblnlpepehaa.F
open Go.RowKit Go.Proofs.YtnifblnlpepehaaW.PrintWords Go.Proofs.YtnifblnlpepehaaW.PrintLast Go.Proofs.YtnifblnlpepehaaW.PrintMore
attribute [local go_sem] max2_int min2_int max_two min_two max_three min_three max_four min_four
set_option linter.unusedVariables false
set_option linter.unusedSimpArgs false
def laws_roomBehind.f (a0 : Int) : Option (Int) := if (Int.tmod a0 6) = 5 then (some 0) else (if (Int.tmod a0 3) = 0 then (some 1) else (some a0))
set_option maxHeartbeats 8000000 in
set_option maxRecDepth 100000 in
theorem laws_roomBehind.calls (a0 : Int) (r : Int) (w : World) (h : laws_roomBehind.f a0 = some r) :
  Calls Try.prog 55 #[.int .i64 a0] w fun e w' => e = .returned (.int .i64 r) ∧ Drawn0 w w' := by
 have H : (if (Int.tmod a0 6) = 5 then (some 0) else (if (Int.tmod a0 3) = 0 then (some 1) else (some a0))) = some r := h; clear h
 by_cases c2 : (Int.tmod a0 6) = 5
 ·rw [if_pos c2] at H
  have c2b0 := beq_iff_eq.mpr c2; have c2b1 := bne_eq_false_iff_eq.mpr c2; clear c2; obtain rfl := Option.some.inj H
  go_enter Try.func55, Try.ntmps55
  go_wp2
  go_ret
  exact ⟨Za, Zb⟩
 ·rw [if_neg c2] at H
  have c2b0 := beq_eq_false_iff_ne.mpr c2; have c2b1 := bne_iff_ne.mpr c2
  by_cases c3 : (Int.tmod a0 3) = 0
  ·rw [if_pos c3] at H
   have c3b0 := beq_iff_eq.mpr c3; have c3b1 := bne_eq_false_iff_eq.mpr c3; clear c3; obtain rfl := Option.some.inj H
   go_enter Try.func55, Try.ntmps55
   go_wp2
   go_ret
   exact ⟨Za, Zb⟩
  ·rw [if_neg c3] at H
   have c3b0 := beq_eq_false_iff_ne.mpr c3; have c3b1 := bne_iff_ne.mpr c3; obtain rfl := Option.some.inj H
   go_enter Try.func55, Try.ntmps55
   go_wp2
   go_ret
   exact ⟨Za, Zb⟩
def laws_szBarS.f (l0 : List (S89)) (a1 : Int) : Option (Int) := if (wrap64 (a1 - (l0.length : Int))) < 0 then (some (-1)) else (some (wrap64 (a1 - (l0.length : Int))))
set_option maxHeartbeats 8000000 in
set_option maxRecDepth 100000 in
theorem laws_szBarS.calls (A0 : Option Addr) (c0 : Nat) (l0 : List (S89)) (a1 : Int) (r : Int) (w : World) (hr0 : Kd.C k89 w A0 l0.length l0) (hc0 : l0.length ≤ c0) (h : laws_szBarS.f l0 a1 = some r) :
  Calls Try.prog 20 #[.slice A0 l0.length c0, .int .i64 a1] w fun e w' => e = .returned (.int .i64 r) ∧ Drawn0 w w' := by
 have HR0 := am_ hr0; have HC0 := am_ hc0; clear hr0 hc0; have H : (if (wrap64 (a1 - (l0.length : Int))) < 0 then (some (-1)) else (some (wrap64 (a1 - (l0.length : Int))))) = some r := h; clear h
 by_cases c3 : (wrap64 (a1 - (l0.length : Int))) < 0
 ·rw [if_pos c3] at H
  have c3b0 := decide_eq_true c3; clear c3; obtain rfl := Option.some.inj H
  go_enter Try.func20, Try.ntmps20
  go_wp2
  go_ret
  exact ⟨Za, Zb⟩
 ·rw [if_neg c3] at H
  have c3b0 := decide_eq_false c3; clear c3; obtain rfl := Option.some.inj H
  go_enter Try.func20, Try.ntmps20
  go_wp2
  go_ret
  exact ⟨Za, Zb⟩
 /-! ### laws_toBar: function 56 -/
def laws_toBar.f (a0_0 : Int) (a0_1 : Int) : Option (Int × Int) := some (a0_0, a0_1)
set_option maxHeartbeats 8000000 in
set_option maxRecDepth 100000 in
theorem laws_toBar.calls (a0_0 : Int) (a0_1 : Int) (r1 : Int) (r2 : Int) (w : World) (h : laws_toBar.f a0_0 a0_1 = some (r1, r2)) :
  Calls Try.prog 56 #[.agg #[.int .i64 a0_0, .int .i64 a0_1]] w fun e w' => e = .returned (.agg #[.int .i64 r1, .int .i64 r2]) ∧ Below w.heap.size w w' := by
 have hu89 := Try.underlying89; have hu87 := Try.underlying87; have HB := am_ (Below.refl w.heap.size w); have H : (some (a0_0, a0_1)) = some (r1, r2) := h; clear h; simp only [Option.some.injEq, Prod.mk.injEq] at H; obtain ⟨rfl, rfl⟩ := H
 go_enter Try.func56, Try.ntmps56
 go_wp2_with (first | ((with_reducible refine gate_dst (N := 1) rfl ?_); refine boxZ 1 #[.int .i64 a0_0, .int .i64 a0_1] 89 ?_; intro gb860 hg w2 hbox hb; replace BK860 := am_ (hbox); replace GW860 := am_ ((Zc : w.heap.size ≤ gb860)); replace GE860 := GW860; replace HB := (bsZ Zd hb); clear hb hbox hg) | ((with_reducible refine gate_dst (N := 2) rfl ?_); refine boxZ 2 #[.int .i64 0, .int .i64 0] 87 ?_; intro gb861 hg w3 hbox hb; replace BK861 := am_ (hbox); replace GW861 := am_ (((Ze GE860) : w.heap.size ≤ gb861)); replace GE861 := GW861; replace HB := (bsZ (Zf GE860) hb); replace NB860_861 := am_ ((by rw [hg]; exact Nat.ne_of_lt (blk_lt (g := gb860) (b0Z BK860)) : gb860 ≠ gb861)); replace NB861_860 := am_ ((by rw [hg]; exact Nat.ne_of_gt (blk_lt (g := gb860) (b0Z BK860)) : gb861 ≠ gb860)); replace BK860 := (bkZ BK860 hb); clear hb hbox hg) | ((with_reducible refine gate_dst (N := 3) rfl ?_); refine boxZ 3 #[.int .i64 0, .int .i64 0] 87 ?_; intro gb862 hg w4 hbox hb; replace BK862 := am_ (hbox); replace GW862 := am_ (((Zg GE860 GE861) : w.heap.size ≤ gb862)); replace GE862 := GW862; replace HB := (bsZ (Zh GE860 GE861) hb); replace NB860_862 := am_ ((by rw [hg]; exact Nat.ne_of_lt (blk_lt (g := gb860) (b0Z BK860)) : gb860 ≠ gb862)); replace NB862_860 := am_ ((by rw [hg]; exact Nat.ne_of_gt (blk_lt (g := gb860) (b0Z BK860)) : gb862 ≠ gb860)); replace BK860 := (bkZ BK860 hb); replace NB861_862 := am_ ((by rw [hg]; exact Nat.ne_of_lt (blk_lt (g := gb861) (b0Z BK861)) : gb861 ≠ gb862)); replace NB862_861 := am_ ((by rw [hg]; exact Nat.ne_of_gt (blk_lt (g := gb861) (b0Z BK861)) : gb862 ≠ gb861)); replace BK861 := (bkZ BK861 hb); clear hb hbox hg; have hnb5 := NB860_861.out; have hnc5 := NB861_860.out; have hnb6 := NB860_862.out; have hnc6 := NB862_860.out; refine ci2 BK860 ?_; intros; have hnb8 := NB862_861.out; have hnc8 := NB861_862.out; refine ci2 BK862 ?_; intros; refine ci2 BK861 ?_; intros))
 refine bodyPost_ret (results_cell_row rfl _ _ gb861 87 #[.int .i64 a0_0, .int .i64 a0_1] (0, 0) _ rfl (bmZ BK861 NB861_862) Try.underlying87 rfl Zi) rfl ?_; exact ⟨Zj, (Zk GE860 GE861 GE862)⟩
 /-! ### laws_fillerBar: function 57 -/
def laws_fillerBar.f  : Option (Int × Int) := some ((-7000000000000000101), (-7000000000000000101))
set_option maxHeartbeats 8000000 in
set_option maxRecDepth 100000 in
theorem laws_fillerBar.calls  (r1 : Int) (r2 : Int) (w : World) (h : laws_fillerBar.f  = some (r1, r2)) :
  Calls Try.prog 57 #[] w fun e w' => e = .returned (.agg #[.int .i64 r1, .int .i64 r2]) ∧ Below w.heap.size w w' := by
 have hu87 := Try.underlying87; have HB := am_ (Below.refl w.heap.size w); have H : (some ((-7000000000000000101), (-7000000000000000101))) = some (r1, r2) := h; clear h; simp only [Option.some.injEq, Prod.mk.injEq] at H; obtain ⟨rfl, rfl⟩ := H
 go_enter Try.func57, Try.ntmps57
 go_wp2_with (first | ((with_reducible refine gate_dst (N := 0) rfl ?_); refine boxZ 0 #[.int .i64 0, .int .i64 0] 87 ?_; intro gb863 hg w1 hbox hb; replace BK863 := am_ (hbox); replace GW863 := am_ ((Zc : w.heap.size ≤ gb863)); replace GE863 := GW863; replace HB := (bsZ Zd hb); clear hb hbox hg; refine ci2 BK863 ?_; intros))
 refine bodyPost_ret (results_cell_row rfl _ _ gb863 87 #[.int .i64 (-7000000000000000101), .int .i64 (-7000000000000000101)] (0, 0) _ rfl (bpZ BK863) Try.underlying87 rfl Zi) rfl ?_; exact ⟨Zj, (Zf GE863)⟩
 /-! ### laws_toBarS: function 27 -/
 mutual
def laws_toBarS.j0 : Nat → List (S89) → Bool → Option ((List (S87)))
 | 0, _, _ => none
 | k + 1, x0, x13 => if x13 = true then (some ([] : List (S87))) else ((laws_roomBehind.f (x0.length : Int)).bind fun t864 => (if 0 ≤ (wrap64 ((x0.length : Int) + t864)) then (if (wrap64 ((x0.length : Int) + t864) : Int).toNat ≤ 17592186044416 then (laws_toBarS.l0 k x0 (List.replicate (wrap64 ((x0.length : Int) + t864) : Int).toNat z87) 0) else (none)) else (none)))
def laws_toBarS.l0 : Nat → List (S89) → List (S87) → Int → Option ((List (S87)))
 | 0, _, _, _ => none
 | k + 1, x0, x5, x6 => if x6 < (x0.length : Int) then (if 0 ≤ x6 then ((laws_toBar.f ((rd_T89 x0 x6).f0) ((rd_T89 x0 x6).f1)).bind fun bt869 => (if x6 < (x5.length : Int) then (laws_toBarS.l0 k x0 (x5.set (x6 : Int).toNat (⟨bt869.1, bt869.2⟩ : S87)) (wrap64 (x6 + 1))) else (none))) else (none)) else (laws_toBarS.l1 k x0 x5 (x0.length : Int))
def laws_toBarS.l1 : Nat → List (S89) → List (S87) → Int → Option ((List (S87)))
 | 0, _, _, _ => none
 | k + 1, x0, x5, x7 => if x7 < (x5.length : Int) then ((laws_fillerBar.f).bind fun bt872 => (if 0 ≤ x7 then (laws_toBarS.l1 k x0 (x5.set (x7 : Int).toNat (⟨bt872.1, bt872.2⟩ : S87)) (wrap64 (x7 + 1))) else (none))) else (if 0 ≤ (x0.length : Int) then (if (x0.length : Int) ≤ (x5.length : Int) then (some (x5.take ((x0.length : Int) : Int).toNat)) else (none)) else (none))
end
def laws_toBarS.f (k : Nat) (l0 : List (S89)) (a1 : Bool) : Option ((List (S87))) := if a1 = true then (laws_toBarS.j0 k l0 ((l0.length : Int) == 0)) else (laws_toBarS.j0 k l0 false)
set_option maxHeartbeats 8000000 in
set_option maxRecDepth 100000 in
theorem laws_toBarS.calls (k : Nat) (A0 : Option Addr) (c0 : Nat) (l0 : List (S89)) (a1 : Bool) (r : List (S87)) (w : World) (hr0 : Kd.C k89 w A0 l0.length l0) (hc0 : l0.length ≤ c0) (h : laws_toBarS.f k l0 a1 = some r) :
  Calls Try.prog 27 #[.slice A0 l0.length c0, .bool a1] w fun e w' => ∃ v0_ : Value, e = .returned (v0_) ∧ Kd.R k87 87 w' w.heap.size (fun _ => True) v0_ r ∧ Below w.heap.size w w' := by
 have hu89 := Try.underlying89; have hu87 := Try.underlying87; have HR0 := am_ hr0; have HC0 := am_ hc0; clear hr0 hc0; have HB := am_ (Below.refl w.heap.size w); have H : (if a1 = true then (laws_toBarS.j0 k l0 ((l0.length : Int) == 0)) else (laws_toBarS.j0 k l0 false)) = some r := h; clear h; have HC3 := am_ H; clear H
 go_enter Try.func27, Try.ntmps27
 go_upto_region 1 with (fail)
 go_cut [13] (fun v13 wc => ∃ (kq : Nat) (x13_2 : Bool), v13 = .bool x13_2 ∧ Aside0 (laws_toBarS.j0 kq l0 x13_2 = some r) ∧ Aside0 (kq ≤ k) ∧ Aside0 (Below w.heap.size w wc))
 case first =>
  have H := HC3.out; clear HC3
  by_cases c4 : a1 = true
  ·subst c4
   rw [if_pos rfl] at H; have H' := am_ H; clear H
   go_wp2
   go_meet
   case rel => exact ⟨_, (((l0.length : Int) == 0)), Za, H', ⟨Zl⟩, ⟨Zd⟩⟩
  ·replace c4 := Bool.eq_false_iff.mpr c4
   subst c4; rw [if_neg (show ¬ (false = true) by decide)] at H; have H' := am_ H; clear H
   go_wp2
   go_meet
   case rel => exact ⟨_, (false), Za, H', ⟨Zl⟩, ⟨Zd⟩⟩
 case rest =>
  clear HC3
  try clear c2
  try clear p2
  try clear c4
  obtain ⟨kq, x13_2, rfl, HA, HJ2, HB⟩ := hcut
  cases kq with
  | zero => exact absurd HA.out (by simp [laws_toBarS.j0])
  | succ kj2 =>
   have H := HA.out; clear HA; simp only [laws_toBarS.j0] at H
   by_cases c5 : x13_2 = true
   ·subst c5
    rw [if_pos rfl] at H; obtain rfl := Option.some.inj H
    go_wp2
    go_ret
    exact ⟨_, Zj, Zm, Zd⟩
   ·replace c5 := Bool.eq_false_iff.mpr c5
    subst c5; rw [if_neg (show ¬ (false = true) by decide)] at H; replace H := Option.bind_eq_some_iff.mp H; obtain ⟨t864, A60, H⟩ := H; have A6 := am_ A60; clear A60; obtain ⟨ji7, hji7⟩ : ∃ j_ : Int, (wrap64 ((l0.length : Int) + t864)) = j_ := ⟨_, rfl⟩
    replace H : (if 0 ≤ (ji7) then (if (ji7 : Int).toNat ≤ 17592186044416 then (laws_toBarS.l0 kj2 l0 (List.replicate (ji7 : Int).toNat z87) 0) else (none)) else (none)) = some r := by first | (rw [hji7] at H; exact H) | (simp only [hji7] at H ⊢; exact H)
    (try rw [hji7] at A6)
    have hji7w : (IntKind.i64.wrap ((l0.length : Int) + t864)) = ji7 := (i64_w _).trans hji7
    by_cases c8 : 0 ≤ (ji7)
    ·rw [if_pos c8] at H
     have c8b0 := eq_true c8; have c8b1 := decide_eq_true c8; clear c8
     by_cases c9 : (ji7 : Int).toNat ≤ 17592186044416
     ·rw [if_pos c9] at H
      have c9b0 := eq_true c9; have c9b1 := decide_eq_true c9; clear c9; obtain ⟨y865, hy865⟩ : ∃ y_ : List (S87), y_ = (List.replicate (ji7 : Int).toNat z87) := ⟨_, rfl⟩
      (first | (rw [← hy865] at H; with_reducible replace H := bindZ H) | rw [← hy865] at H | skip)
      have Ny865 := am_ hy865; clear hy865; have H' := am_ H; clear H
      go_wp2_with (first | ((with_reducible refine gate_callee (f := 55) rfl ?_); refine gZ 18 Try.func55 #[.int .i64 (l0.length : Int)] ?_; (with_reducible refine (laws_roomBehind.calls (l0.length : Int) t864 _ A6.out).mono ?_); rintro e w' ⟨rfl, ⟨nd, rfl⟩⟩; refine ⟨_, rfl, ?_⟩) | ((with_reducible refine gate_dst (N := 20) rfl ?_); (try (refine gate_guard (by rfl) ?_; dsimp only)); refine Kd.R_make k87 _ 87 rfl (N := 20) rfl 31 _ _ rfl ji7 rfl rfl Try.underlying31 (.agg #[(.int .i64 0), (.int .i64 0)]) 16 info87 rfl (by decide) (by omega) z87 (ok := fun _ => True) (okp := fun _ => True) (k87_mkM _ _ _ z87 ) (fun _ hk => hk) trivial (of_decide_eq_true Zn) (Nat.le_trans (Nat.mul_le_mul_right _ (of_decide_eq_true Zn : ji7.toNat ≤ 17592186044416)) (by omega)) (Below.refl _ _) (Nat.le_refl _) ?_; intro v866 w10 ho11 hb hg_ hnew_; clear hg_ hnew_; (first | rw [← Ny865.out] at ho11 | (simp only [Int.reduceToNat] at ho11; rw [← Ny865.out] at ho11)); replace HO867 := am_ (Kd.R_lower ho11 (below_size Zd)); replace HB := (bsZ Zd hb); clear hb ho11))
      go_loopg [6] kj2 (fun kq v6 w' => ∃ (x5_2 : List (S87)) (x6_2 : Int), v6 = .int .i64 x6_2 ∧ Aside0 (laws_toBarS.l0 kq l0 x5_2 x6_2 = some r) ∧ Aside0 (kq ≤ kj2) ∧ Aside0 (Kd.R k87 87 w' w.heap.size (fun _ => True) v866 x5_2) ∧ Aside0 (Below w.heap.size w w'))
      case atStart => exact ⟨(y865), (0), Za, H', ⟨Nat.le_refl _⟩, ⟨(Zo HO867)⟩, ⟨Zd⟩⟩
      case round =>
       clear H'
       try clear c2
       try clear p2
       try clear c4
       try clear c5
       try clear p6
       try clear c8
       try clear c8b0
       try clear c8b1
       try clear c9
       try clear c9b0
       try clear c9b1
       try clear p2
       obtain ⟨x5_2, x6_2, rfl, HA, HK2, HO_5, HB⟩ := hrel
       cases gk with
       | zero => exact absurd HA.out (by simp [laws_toBarS.l0])
       | succ k2 =>
        have H := HA.out; clear HA; simp only [laws_toBarS.l0] at H
        by_cases c12 : x6_2 < (l0.length : Int)
        ·rw [if_pos c12] at H
         have c12b0 := decide_eq_true c12; clear c12
         by_cases c13 : 0 ≤ x6_2
         ·rw [if_pos c13] at H
          have c13b0 := decide_eq_true c13; clear c13; replace H := Option.bind_eq_some_iff.mp H; obtain ⟨⟨t869, t870⟩, A140, H⟩ := H
          dsimp only at H
          have A14 := am_ A140; clear A140
          by_cases c15 : x6_2 < (x5_2.length : Int)
          ·rw [if_pos c15] at H
           have c15b0 := decide_eq_true c15; clear c15; obtain ⟨y871, hy871⟩ : ∃ y_ : List (S87), y_ = (x5_2.set (x6_2 : Int).toNat (⟨t869, t870⟩ : S87)) := ⟨_, rfl⟩
           (first | (rw [← hy871] at H; with_reducible replace H := bindZ H) | rw [← hy871] at H | skip)
           have Ny871 := am_ hy871; clear hy871; have H' := am_ H; clear H; have p868 : 0 ≤ (x6_2 : Int) := of_decide_eq_true Zn; have q868 : x6_2 < (l0.length : Int) := of_decide_eq_true Zn; obtain ⟨ad868, e868, hx868_0, hx868_1⟩ := at_T89 HR0.out x6_2 p868 q868
           cases e868
           replace hx868_0 := cbH HB hx868_0; replace hx868_1 := cbH HB hx868_1; replace p868 := eq_true p868; replace q868 := eq_true q868
           go_wp2_with (first | ((with_reducible refine gate_callee (f := 56) rfl ?_); refine gZ 33 Try.func56 #[.agg #[.int .i64 ((rd_T89 l0 x6_2).f0), .int .i64 ((rd_T89 l0 x6_2).f1)]] ?_; (with_reducible refine (laws_toBar.calls ((rd_T89 l0 x6_2).f0) ((rd_T89 l0 x6_2).f1) t869 t870 _ A14.out).mono ?_); rintro e w17 ⟨rfl, hb⟩; refine ⟨_, rfl, ?_⟩; replace HO_5 := (hbZ HO_5 hb); replace HB := (bsZ Zd hb); clear hb; have p16 : 0 ≤ (x6_2 : Int) := of_decide_eq_true Zn; have q16 : (x6_2 : Int) < ((x5_2.length : Int) : Int) := of_decide_eq_true Zn; obtain ⟨go16, co16, eo16, gb16, gl16, cl16, HG16⟩ := Kd.R_form HO_5.out (by omega); (first | cases eo16 | (injection eo16 with ea_ en_ ec_; (first | subst ea_ | (injection ea_ with ea_; subst ea_)); subst ec_; clear en_)); have GB16 := am_ gb16; have GG16 := am_ HG16; clear gb16 gl16 HG16; obtain ⟨ce16, hcl16, hM16, hcc16, hfr16⟩ := Kd.R_elem HO_5.out z87 (x6_2 : Int) p16 q16; obtain rfl := k87_openM hM16; have hx16_0 : w17.cell? ⟨go16, (x6_2 : Int).toNat * 2, none⟩ = some (.int .i64 ((rd_T87 x5_2 x6_2).f0)) := hcc16 0 _ rfl; have hx16_1 : w17.cell? ⟨go16, (x6_2 : Int).toNat * 2 + 1, none⟩ = some (.int .i64 ((rd_T87 x5_2 x6_2).f1)) := hcc16 1 _ rfl; have hf16_0 : w17.frozen? ⟨go16, (x6_2 : Int).toNat * 2, none⟩ = false := hfr16 0; have hf16_1 := hfr16 1; clear hcl16 hcc16 hfr16 hM16; replace p16 := eq_true p16; replace q16 := eq_true q16; have HX18 := am_ (show Kd.R k87 87 w17 w.heap.size (fun _ => True) (.slice (some ⟨go16, 0, none⟩) x5_2.length co16) x5_2 from (Zo HO_5)); obtain ⟨ce18, hcl18, hM18, hcc18, hfr18⟩ := Kd.R_elem HX18.out z87 (x6_2 : Int) (of_decide_eq_true Zn) (by have h_ : (x6_2 : Int) < ((x5_2.length : Int) : Int) := of_decide_eq_true Zn; first | exact h_ | (have e_ := (Kd.R_reads' HO_5.out).1; omega) | simpa using h_); obtain rfl := k87_openM hM18; have HP18 := Kd.R_seg HX18.out (x6_2 : Int) (of_decide_eq_true Zn) (by have h_ : (x6_2 : Int) < ((x5_2.length : Int) : Int) := of_decide_eq_true Zn; first | exact h_ | (have e_ := (Kd.R_reads' HO_5.out).1; omega) | simpa using h_) (seg := [.int .i64 t869, .int .i64 t870]) (j := 0) hcl18 hcc18 (show 2 ≤ 2 from (by decide)) (x' := (⟨t869, t870⟩ : S87)) (k87_mkM _ _ _ (⟨t869, t870⟩ : S87) ) (fun _ hk => hk); have hx18_0 := hcc18 0 _ rfl; (try simp only [show (k87).sz = 2 from rfl, Nat.mul_one, Nat.add_zero] at hx18_0); have hf18_0 := hfr18 0; (try simp only [show (k87).sz = 2 from rfl, Nat.mul_one, Nat.add_zero] at hf18_0); have hx18_1 := hcc18 1 _ rfl; (try simp only [show (k87).sz = 2 from rfl, Nat.mul_one, Nat.add_zero] at hx18_1); have hf18_1 := hfr18 1; (try simp only [show (k87).sz = 2 from rfl, Nat.mul_one, Nat.add_zero] at hf18_1); clear hcl18 hcc18 hfr18 hM18) | ((with_reducible refine gate_store (t := 87) (p := 34) rfl ?_); refine store_event (t := 87) (p := 34) (v := ?vo_w19) (w1 := ((w17.setCell ⟨go16, (x6_2 : Int).toNat * 2, none⟩ (.int .i64 t869)).setCell ⟨go16, (x6_2 : Int).toNat * 2 + 1, none⟩ (.int .i64 t870))) ?hg ?ho ?hn ?hr ?_; (case ho => rfl); (case hg => rfl); (case hn => rfl); (case hr => first | (go_simp; done) | (go_simp; rfl)); intro w19 hw; have hg : w17.grownBy w19 (some go16) := (by rw [hw]; exact HP18.2); have hp_ : Kd.R k87 87 w19 w.heap.size (fun _ => True) (.slice (some ⟨go16, 0, none⟩) x5_2.length co16) y871 := (by rw [hw, Ny871.out]; exact HP18.1); clear HP18; replace HO_5 := am_ (hp_); replace HB := am_ ((by rw [hw]; exact below_set (below_set (HB.out) GB16.out) GB16.out : Below w.heap.size w w19)); clear hg hw hp_))
           go_roundg k2
           case measure => have := HJ2.out; have := HK2.out; omega
           case rel => exact ⟨(y871), (wrap64 (x6_2 + 1)), Za, H', ⟨by have := HJ2.out; have := HK2.out; omega⟩, ⟨(Zo HO_5)⟩, ⟨Zd⟩⟩
          ·rw [if_neg c15] at H
           exact absurd H (by simp)
         ·rw [if_neg c13] at H
          exact absurd H (by simp)
        ·rw [if_neg c12] at H
         have c12b0 := decide_eq_false c12; clear c12; have H' := am_ H; clear H
         go_wp2
         go_loopg [7] k2 (fun kq v7 w' => ∃ (x5_3 : List (S87)) (x7_3 : Int), v7 = .int .i64 x7_3 ∧ Aside0 (laws_toBarS.l1 kq l0 x5_3 x7_3 = some r) ∧ Aside0 (kq ≤ k2) ∧ Aside0 (Kd.R k87 87 w' w.heap.size (fun _ => True) v866 x5_3) ∧ Aside0 (Below w.heap.size w w'))
         case atStart => exact ⟨(x5_2), ((l0.length : Int)), Za, H', ⟨Nat.le_refl _⟩, ⟨(Zo HO_5)⟩, ⟨Zd⟩⟩
         case round =>
          clear H'
          try clear c1
          try clear p1
          try clear q1
          try clear hx1
          try clear c2
          try clear p2
          try clear c4
          try clear c5
          try clear p6
          try clear c8
          try clear c8b0
          try clear c8b1
          try clear p8
          try clear q8
          try clear hx8
          try clear c9
          try clear c9b0
          try clear c9b1
          try clear c12
          try clear c12b0
          try clear c13
          try clear c13b0
          try clear c15
          try clear c15b0
          try clear c16
          try clear p16
          try clear q16
          try clear hx16
          try clear hf16
          try clear c18
          try clear hx18
          try clear hf18
          try clear hx16_0
          try clear hx16_1
          try clear hx18_0
          try clear hx18_1
          try clear hx868_0
          try clear hx868_1
          try clear p16
          try clear p2
          try clear p6
          try clear p868
          try clear q16
          try clear q868
          obtain ⟨x5_3, x7_3, rfl, HA, HK3, HO_5, HB⟩ := hrel
          cases gk with
          | zero => exact absurd HA.out (by simp [laws_toBarS.l1])
          | succ k3 =>
           have H := HA.out; clear HA; simp only [laws_toBarS.l1] at H
           by_cases c20 : x7_3 < (x5_3.length : Int)
           ·rw [if_pos c20] at H
            have c20b0 := decide_eq_true c20; clear c20; replace H := Option.bind_eq_some_iff.mp H; obtain ⟨⟨t872, t873⟩, A210, H⟩ := H
            dsimp only at H
            have A21 := am_ A210; clear A210
            by_cases c22 : 0 ≤ x7_3
            ·rw [if_pos c22] at H
             have c22b0 := decide_eq_true c22; clear c22; obtain ⟨y874, hy874⟩ : ∃ y_ : List (S87), y_ = (x5_3.set (x7_3 : Int).toNat (⟨t872, t873⟩ : S87)) := ⟨_, rfl⟩
             (first | (rw [← hy874] at H; with_reducible replace H := bindZ H) | rw [← hy874] at H | skip)
             have Ny874 := am_ hy874; clear hy874; have H' := am_ H; clear H; obtain ⟨Ao24, co24, eo24⟩ := Kd.R_slice HO_5.out; subst eo24
             go_wp2_with (first | ((with_reducible refine gate_callee (f := 57) rfl ?_); refine gZ 45 Try.func57 #[] ?_; (with_reducible refine (laws_fillerBar.calls  t872 t873 _ A21.out).mono ?_); rintro e w25 ⟨rfl, hb⟩; refine ⟨_, rfl, ?_⟩; replace HO_5 := (hbZ HO_5 hb); replace HB := (bsZ Zd hb); clear hb; have p23 : 0 ≤ (x7_3 : Int) := of_decide_eq_true Zn; have q23 : (x7_3 : Int) < ((x5_3.length : Int) : Int) := of_decide_eq_true Zn; obtain ⟨go23, co23, eo23, gb23, gl23, cl23, HG23⟩ := Kd.R_form HO_5.out (by omega); (first | cases eo23 | (injection eo23 with ea_ en_ ec_; (first | subst ea_ | (injection ea_ with ea_; subst ea_)); subst ec_; clear en_)); have GB23 := am_ gb23; have GG23 := am_ HG23; clear gb23 gl23 HG23; obtain ⟨ce23, hcl23, hM23, hcc23, hfr23⟩ := Kd.R_elem HO_5.out z87 (x7_3 : Int) p23 q23; obtain rfl := k87_openM hM23; have hx23_0 : w25.cell? ⟨go23, (x7_3 : Int).toNat * 2, none⟩ = some (.int .i64 ((rd_T87 x5_3 x7_3).f0)) := hcc23 0 _ rfl; have hx23_1 : w25.cell? ⟨go23, (x7_3 : Int).toNat * 2 + 1, none⟩ = some (.int .i64 ((rd_T87 x5_3 x7_3).f1)) := hcc23 1 _ rfl; have hf23_0 : w25.frozen? ⟨go23, (x7_3 : Int).toNat * 2, none⟩ = false := hfr23 0; have hf23_1 := hfr23 1; clear hcl23 hcc23 hfr23 hM23; replace p23 := eq_true p23; replace q23 := eq_true q23; have HX26 := am_ (show Kd.R k87 87 w25 w.heap.size (fun _ => True) (.slice (some ⟨go23, 0, none⟩) x5_3.length co24) x5_3 from (Zo HO_5)); obtain ⟨ce26, hcl26, hM26, hcc26, hfr26⟩ := Kd.R_elem HX26.out z87 (x7_3 : Int) (of_decide_eq_true Zn) (by have h_ : (x7_3 : Int) < ((x5_3.length : Int) : Int) := of_decide_eq_true Zn; first | exact h_ | (have e_ := (Kd.R_reads' HO_5.out).1; omega) | simpa using h_); obtain rfl := k87_openM hM26; have HP26 := Kd.R_seg HX26.out (x7_3 : Int) (of_decide_eq_true Zn) (by have h_ : (x7_3 : Int) < ((x5_3.length : Int) : Int) := of_decide_eq_true Zn; first | exact h_ | (have e_ := (Kd.R_reads' HO_5.out).1; omega) | simpa using h_) (seg := [.int .i64 t872, .int .i64 t873]) (j := 0) hcl26 hcc26 (show 2 ≤ 2 from (by decide)) (x' := (⟨t872, t873⟩ : S87)) (k87_mkM _ _ _ (⟨t872, t873⟩ : S87) ) (fun _ hk => hk); have hx26_0 := hcc26 0 _ rfl; (try simp only [show (k87).sz = 2 from rfl, Nat.mul_one, Nat.add_zero] at hx26_0); have hf26_0 := hfr26 0; (try simp only [show (k87).sz = 2 from rfl, Nat.mul_one, Nat.add_zero] at hf26_0); have hx26_1 := hcc26 1 _ rfl; (try simp only [show (k87).sz = 2 from rfl, Nat.mul_one, Nat.add_zero] at hx26_1); have hf26_1 := hfr26 1; (try simp only [show (k87).sz = 2 from rfl, Nat.mul_one, Nat.add_zero] at hf26_1); clear hcl26 hcc26 hfr26 hM26) | ((with_reducible refine gate_store (t := 87) (p := 46) rfl ?_); refine store_event (t := 87) (p := 46) (v := ?vo_w27) (w1 := ((w25.setCell ⟨go23, (x7_3 : Int).toNat * 2, none⟩ (.int .i64 t872)).setCell ⟨go23, (x7_3 : Int).toNat * 2 + 1, none⟩ (.int .i64 t873))) ?hg ?ho ?hn ?hr ?_; (case ho => rfl); (case hg => rfl); (case hn => rfl); (case hr => first | (go_simp; done) | (go_simp; rfl)); intro w27 hw; have hg : w25.grownBy w27 (some go23) := (by rw [hw]; exact HP26.2); have hp_ : Kd.R k87 87 w27 w.heap.size (fun _ => True) (.slice (some ⟨go23, 0, none⟩) x5_3.length co24) y874 := (by rw [hw, Ny874.out]; exact HP26.1); clear HP26; replace HO_5 := am_ (hp_); replace HB := am_ ((by rw [hw]; exact below_set (below_set (HB.out) GB23.out) GB23.out : Below w.heap.size w w27)); clear hg hw hp_))
             go_roundg k3
             case measure => have := HJ2.out; have := HK2.out; have := HK3.out; omega
             case rel => exact ⟨(y874), (wrap64 (x7_3 + 1)), Za, H', ⟨Zp⟩, ⟨(Zo HO_5)⟩, ⟨Zd⟩⟩
            ·rw [if_neg c22] at H
             exact absurd H (by simp)
           ·rw [if_neg c20] at H
            have c20b0 := decide_eq_false c20; clear c20
            by_cases c28 : 0 ≤ (l0.length : Int)
            ·rw [if_pos c28] at H
             have c28b0 := eq_true c28; have c28b1 := decide_eq_true c28; clear c28
             by_cases c29 : (l0.length : Int) ≤ (x5_3.length : Int)
             ·rw [if_pos c29] at H
              have c29b0 := eq_true c29; have c29b1 := decide_eq_true c29; clear c29; obtain ⟨y875, hy875⟩ : ∃ y_ : List (S87), y_ = (x5_3.take ((l0.length : Int) : Int).toNat) := ⟨_, rfl⟩
              (first | (rw [← hy875] at H; with_reducible replace H := bindZ H) | rw [← hy875] at H | skip)
              have Ny875 := am_ hy875; clear hy875; obtain rfl := Option.some.inj H; obtain ⟨Ao30, co30, eo30⟩ := Kd.R_slice HO_5.out; subst eo30; have q31 : ((l0.length : Int) : Int) ≤ ((x5_3.length : Int) : Int) := of_decide_eq_true Zn; obtain ⟨i031, hi031, _, hsz31, _⟩ := info_parts info87; have hcut31 := cut_to (P := Try.prog) 31 87 .i64 Try.underlying31 hi031 Ao30 x5_3.length co30 (l0.length : Int) (of_decide_eq_true Zn) q31 (Kd.R_reads' HO_5.out).2.1; have hr31 := Kd.R_take (m := ((l0.length : Int) : Int).toNat) HO_5.out (by omega); have hy31 : y875.length = ((l0.length : Int) : Int).toNat := (by rw [Ny875.out, List.length_take]; omega); rw [← Ny875.out] at hr31; rw [← hy31] at hr31 hcut31; clear hy31 hi031 hsz31 HO_5; have HO877 := am_ hr31; clear hr31; replace q31 := eq_true q31
              go_wp2
              go_ret
              exact ⟨_, Zq, (Zo HO877), Zd⟩
             ·rw [if_neg c29] at H
              exact absurd H (by simp)
            ·rw [if_neg c28] at H
             exact absurd H (by simp)
     ·rw [if_neg c9] at H
      exact absurd H (by simp)
    ·rw [if_neg c8] at H
     exact absurd H (by simp)
 /-! ### laws_eqBar: function 82 -/
def laws_eqBar.f (a0_0 : Int) (a0_1 : Int) (a1_0 : Int) (a1_1 : Int) : Option (Bool) := if a0_0 = a1_0 then (if a0_1 = a1_1 then (some true) else (some false)) else (some false)
set_option maxHeartbeats 8000000 in
set_option maxRecDepth 100000 in
theorem laws_eqBar.calls (a0_0 : Int) (a0_1 : Int) (a1_0 : Int) (a1_1 : Int) (r : Bool) (w : World) (h : laws_eqBar.f a0_0 a0_1 a1_0 a1_1 = some r) (hr_ : r = true := by rfl) :
  Calls Try.prog 82 #[.agg #[.int .i64 a0_0, .int .i64 a0_1], .agg #[.int .i64 a1_0, .int .i64 a1_1]] w fun e w' => e = .returned (.bool r) ∧ Below w.heap.size w w' := by
 have HR_ := am_ hr_; clear hr_; have hu87 := Try.underlying87; have HB := am_ (Below.refl w.heap.size w); have H : (if a0_0 = a1_0 then (if a0_1 = a1_1 then (some true) else (some false)) else (some false)) = some r := h; clear h
 by_cases c3 : a0_0 = a1_0
 ·rw [if_pos c3] at H
  have c3b0 := beq_iff_eq.mpr c3; have c3b1 := bne_eq_false_iff_eq.mpr c3; clear c3
  by_cases c4 : a0_1 = a1_1
  ·rw [if_pos c4] at H
   have c4b0 := beq_iff_eq.mpr c4; have c4b1 := bne_eq_false_iff_eq.mpr c4; clear c4; obtain rfl := Option.some.inj H
   go_enter Try.func82, Try.ntmps82
   go_wp2_with (first | ((with_reducible refine gate_dst (N := 2) rfl ?_); refine boxZ 2 #[.int .i64 a0_0, .int .i64 a0_1] 87 ?_; intro gb949 hg w5 hbox hb; replace BK949 := am_ (hbox); replace GW949 := am_ ((Zc : w.heap.size ≤ gb949)); replace GE949 := GW949; replace HB := (bsZ Zd hb); clear hb hbox hg) | ((with_reducible refine gate_dst (N := 3) rfl ?_); refine boxZ 3 #[.int .i64 a1_0, .int .i64 a1_1] 87 ?_; intro gb950 hg w6 hbox hb; replace BK950 := am_ (hbox); replace GW950 := am_ (((Ze GE949) : w.heap.size ≤ gb950)); replace GE950 := GW950; replace HB := (bsZ (Zf GE949) hb); replace NB949_950 := am_ ((by rw [hg]; exact Nat.ne_of_lt (blk_lt (g := gb949) (b0Z BK949)) : gb949 ≠ gb950)); replace NB950_949 := am_ ((by rw [hg]; exact Nat.ne_of_gt (blk_lt (g := gb949) (b0Z BK949)) : gb950 ≠ gb949)); replace BK949 := (bkZ BK949 hb); clear hb hbox hg; have hnb7 := NB949_950.out; have hnc7 := NB950_949.out; refine ci2 BK949 ?_; intros; refine ci2 BK950 ?_; intros))
   go_ret
   exact ⟨Zj, (Zh GE949 GE950)⟩
  ·rw [if_neg c4] at H
   have c4b0 := beq_eq_false_iff_ne.mpr c4; have c4b1 := bne_iff_ne.mpr c4; exact absurd ((Option.some.inj H).trans HR_.out) (by decide)
 ·rw [if_neg c3] at H
  have c3b0 := beq_eq_false_iff_ne.mpr c3; have c3b1 := bne_iff_ne.mpr c3; exact absurd ((Option.some.inj H).trans HR_.out) (by decide)
 /-! ### laws_eqBarS: function 66 -/
def laws_eqBarS.l0 : Nat → List (S87) → List (S87) → Int → Option (Bool)
 | 0, _, _, _ => none
 | k + 1, x0, x1, x5 => if x5 < (x0.length : Int) then (if 0 ≤ x5 then (if x5 < (x1.length : Int) then ((laws_eqBar.f ((rd_T87 x0 x5).f0) ((rd_T87 x0 x5).f1) ((rd_T87 x1 x5).f0) ((rd_T87 x1 x5).f1)).bind fun t953 => (if t953 = true then (laws_eqBarS.l0 k x0 x1 (wrap64 (x5 + 1))) else (some false))) else (none)) else (none)) else (some true)
def laws_eqBarS.f (k : Nat) (l0 : List (S87)) (l1 : List (S87)) : Option (Bool) := if (l0.length : Int) = (l1.length : Int) then (laws_eqBarS.l0 k l0 l1 0) else (some false)
def laws_eqBarS.T6 : Bool × List (List Nat × List Nat) := (true, [([], []), ([], []), ([0, 1], [0, 1]), ([2], [2]), ([], []), ([], []), ([4, 5], [4, 5]), ([6], [6]), ([3, 7], [3, 7]), ([8], [8])])
def laws_eqBarS.B6 : List Nat := [0, 0, 3, 7, 0, 0, 48, 112, 255, 511]
theorem laws_eqBarS.tab6 : rtab .any (opsOf Try.f66 6) = laws_eqBarS.T6 := by kernel_rfl
theorem laws_eqBarS.bits6 : waitsOk laws_eqBarS.T6.2 laws_eqBarS.B6 = true := by kernel_rfl
set_option maxHeartbeats 8000000 in
set_option maxRecDepth 100000 in
theorem laws_eqBarS.calls (k : Nat) (A0 : Option Addr) (c0 : Nat) (l0 : List (S87)) (A1 : Option Addr) (c1 : Nat) (l1 : List (S87)) (r : Bool) (w : World) (hr0 : Kd.C k87 w A0 l0.length l0) (hc0 : l0.length ≤ c0) (hr1 : Kd.C k87 w A1 l1.length l1) (hc1 : l1.length ≤ c1) (h : laws_eqBarS.f k l0 l1 = some r) (hr_ : r = true := by rfl) :
  Calls Try.prog 66 #[.slice A0 l0.length c0, .slice A1 l1.length c1] w fun e w' => e = .returned (.bool r) ∧ Below w.heap.size w w' := by
 have HR_ := am_ hr_; clear hr_; have hu87 := Try.underlying87; have HR0 := am_ hr0; have HC0 := am_ hc0; clear hr0 hc0; have HR1 := am_ hr1; have HC1 := am_ hc1; clear hr1 hc1; have HB := am_ (Below.refl w.heap.size w); have H : (if (l0.length : Int) = (l1.length : Int) then (laws_eqBarS.l0 k l0 l1 0) else (some false)) = some r := h; clear h
 by_cases c3 : (l0.length : Int) = (l1.length : Int)
 ·rw [if_pos c3] at H
  have c3b0 := beq_iff_eq.mpr c3; have c3b1 := bne_eq_false_iff_eq.mpr c3
  have c3b2 : (l0.length == l1.length) = true := by first | simpa using c3 | (simp at c3 ⊢; omega)
  clear c3; have H' := am_ H; clear H
  go_enter Try.func66, Try.ntmps66
  go_wp2
  go_loopg [5] k (fun kq v5 w' => ∃ (x5_1 : Int), v5 = .int .i64 x5_1 ∧ Aside0 (laws_eqBarS.l0 kq l0 l1 x5_1 = some r) ∧ Aside0 (kq ≤ k) ∧ Aside0 (Below w.heap.size w w'))
  case atStart => exact ⟨(0), Za, H', ⟨Nat.le_refl _⟩, ⟨Zd⟩⟩
  case round =>
   clear H'
   try clear c1
   try clear p2
   try clear c3
   try clear c3b0
   try clear c3b1
   try clear c3b2
   obtain ⟨x5_1, rfl, HA, HK1, HB⟩ := hrel
   cases gk with
   | zero => exact absurd HA.out (by simp [laws_eqBarS.l0])
   | succ k1 =>
    have H := HA.out; clear HA; simp only [laws_eqBarS.l0] at H
    by_cases c4 : x5_1 < (l0.length : Int)
    ·rw [if_pos c4] at H
     have c4b0 := decide_eq_true c4; clear c4
     by_cases c5 : 0 ≤ x5_1
     ·rw [if_pos c5] at H
      have c5b0 := decide_eq_true c5; clear c5
      by_cases c6 : x5_1 < (l1.length : Int)
      ·rw [if_pos c6] at H
       have c6b0 := decide_eq_true c6; clear c6; replace H := Option.bind_eq_some_iff.mp H; obtain ⟨t953, A70, H⟩ := H; have A7 := am_ A70; clear A70
       by_cases c8 : t953 = true
       ·subst c8
        rw [if_pos rfl] at H; have H' := am_ H; clear H
        try go_wp2
        replace HB := am_ (below_drew1 HB.out); have p951 : 0 ≤ (x5_1 : Int) := of_decide_eq_true Zn; have q951 : x5_1 < (l0.length : Int) := of_decide_eq_true Zn; obtain ⟨ad951, e951, hx951_0, hx951_1⟩ := at_T87 HR0.out x5_1 p951 q951; have hw951_1 := hx951_1; have hw951_0 := hx951_0
        cases e951
        replace hx951_0 := cbH HB hx951_0; replace hx951_1 := cbH HB hx951_1; replace p951 := eq_true p951; replace q951 := eq_true q951; have p952 : 0 ≤ (x5_1 : Int) := of_decide_eq_true Zn; have q952 : x5_1 < (l1.length : Int) := of_decide_eq_true Zn; obtain ⟨ad952, e952, hx952_0, hx952_1⟩ := at_T87 HR1.out x5_1 p952 q952; have hw952_1 := hx952_1; have hw952_0 := hx952_0
        cases e952
        replace hx952_0 := cbH HB hx952_0; replace hx952_1 := cbH HB hx952_1; replace p952 := eq_true p952; replace q952 := eq_true q952; refine start_ (n := 10) (S := fun w' => w'.cell? (ad951.add ((x5_1).toNat * 2)) = some (.int .i64 ((rd_T87 l0 x5_1).f0)) ∧ w'.cell? ⟨(ad951.add ((x5_1).toNat * 2)).block, (ad951.add ((x5_1).toNat * 2)).off + 1, none⟩ = some (.int .i64 ((rd_T87 l0 x5_1).f1)) ∧ w'.cell? (ad952.add ((x5_1).toNat * 2)) = some (.int .i64 ((rd_T87 l1 x5_1).f0)) ∧ w'.cell? ⟨(ad952.add ((x5_1).toNat * 2)).block, (ad952.add ((x5_1).toNat * 2)).off + 1, none⟩ = some (.int .i64 ((rd_T87 l1 x5_1).f1))) (ds := []) (bT 10 0) Zi rfl rfl ⟨(cbH HB hw951_0 :), (cbH HB hw951_1 :), (cbH HB hw952_0 :), (cbH HB hw952_1 :)⟩ (fun hHeld => ?_); refine with_tabW laws_eqBarS.tab6 laws_eqBarS.bits6 (fun HT_ HW_ => ?_); generalize wr.drew = w9 at HB hx951_0 hx951_1 hx952_0 hx952_1 hHeld ⊢; refine pureZ HT_ 0 (some 17) (bT 10 1) ?_; refine pureZ HT_ 1 (some 18) (bT 10 2) ?_; refine pureZ HT_ 2 (some 19) (bT 10 3) ?_; refine pureZ HT_ 4 (some 21) (bB 10 23) ?_; refine pureZ HT_ 5 (some 22) (bB 10 55) ?_; refine pureZ HT_ 6 (some 23) (bB 10 119) ?_; refine takeZ4 HT_ HW_ 3 (some 20) (bT 10 7) hHeld ?_; refine takeZ4 HT_ HW_ 7 (some 24) (bT 10 8) hHeld ?_; refine one_ (i := 8) (N := some 25) (bT 10 9) rfl rfl (one_of HT_.out Zi) (by decide) (fun K hK => ?_); refine goes_ Try.func82 Zi rfl #[.agg #[.int .i64 ((rd_T87 l0 x5_1).f0), .int .i64 ((rd_T87 l0 x5_1).f1)], .agg #[.int .i64 ((rd_T87 l1 x5_1).f0), .int .i64 ((rd_T87 l1 x5_1).f1)]] (by rfl) rfl rfl Zr ?_
        with_reducible refine (laws_eqBar.calls ((rd_T87 l0 x5_1).f0) ((rd_T87 l0 x5_1).f1) ((rd_T87 l1 x5_1).f0) ((rd_T87 l1 x5_1).f1) true _ A7.out).mono ?_
        rintro e w10 ⟨rfl, hb⟩; refine ⟨_, rfl, ?_⟩; replace HB := (bsZ Zd hb)
        (try clear hb)
        (try clear hb2)
        (try clear hk)
        (try clear hi)
        refine hK.out _ _ ⟨(cbH HB hw951_0 :), (cbH HB hw951_1 :), (cbH HB hw952_0 :), (cbH HB hw952_1 :)⟩ (fun hHeld => ?_); clear hK K; refine normZ 25 ?_; refine pureZ HT_ 9 (some 26) (bT 10 10) ?_; refine done_ (done_of HT_.out Zi) ?_
        try go_wp2
        go_roundg k1
        case measure => have := HK1.out; omega
        case rel => exact ⟨(wrap64 (x5_1 + 1)), Za, H', ⟨Zs⟩, ⟨Zd⟩⟩
       ·replace c8 := Bool.eq_false_iff.mpr c8
        subst c8; rw [if_neg (show ¬ (false = true) by decide)] at H; exact absurd ((Option.some.inj H).trans HR_.out) (by decide)
      ·rw [if_neg c6] at H
       exact absurd H (by simp)
     ·rw [if_neg c5] at H
      exact absurd H (by simp)
    ·rw [if_neg c4] at H
     have c4b0 := decide_eq_false c4; clear c4; obtain rfl := Option.some.inj H
     go_wp2
     go_ret
     exact ⟨Zj, Zd⟩
 ·rw [if_neg c3] at H
  have c3b0 := beq_eq_false_iff_ne.mpr c3; have c3b1 := bne_iff_ne.mpr c3
  have c3b2 : (l0.length == l1.length) = false := by first | simpa using c3 | (simp at c3 ⊢; omega)
  exact absurd ((Option.some.inj H).trans HR_.out) (by decide)
 /-! ### laws_markBarS: function 37 -/
def laws_markBarS.l0 : Nat → List (S87) → Int → Int → Option (Int × (List (S87)))
 | 0, _, _, _ => none
 | k + 1, x0, x1, x5 => if x5 < (x0.length : Int) then (if 0 ≤ x5 then ((some (x0.set (x5 : Int).toNat (⟨x1, (rd_T87 x0 x5).f1⟩ : S87) : List (S87))).bind fun y999 => (laws_markBarS.l0 k (y999.set (x5 : Int).toNat (⟨(rd_T87 y999 x5).f0, wrap64 (x1 + 1)⟩ : S87)) (wrap64 ((wrap64 (x1 + 1)) + 1)) (wrap64 (x5 + 1)))) else (none)) else (some (x1, x0))
def laws_markBarS.f (k : Nat) (l0 : List (S87)) (a1 : Int) : Option (Int × (List (S87))) := laws_markBarS.l0 k l0 a1 0
set_option maxHeartbeats 8000000 in
set_option maxRecDepth 100000 in
theorem laws_markBarS.calls (k : Nat) (P0_ : Nat → Prop) (u9000_ : Value) (l0 : List (S87)) (a1 : Int) (r1 : Int) (r2 : List (S87)) (w0 w : World) (hB : Below w0.heap.size w0 w) (ho0 : Kd.R k87 87 w w0.heap.size P0_ u9000_ l0) (h : laws_markBarS.f k l0 a1 = some (r1, r2)) :
  Calls Try.prog 37 #[u9000_, .int .i64 a1] w fun e w' => e = .returned (.int .i64 r1) ∧ Kd.R k87 87 w' w0.heap.size (fun k_ => (P0_ k_ ∨ w.heap.size ≤ k_)) u9000_ r2 ∧ Below w0.heap.size w0 w' ∧ Kept w w' (fun k_ => P0_ k_) := by
 have HO0 := am_ (show Kd.R k87 87 w w0.heap.size (fun k_ => (P0_ k_ ∨ w.heap.size ≤ k_)) u9000_ l0 from Kd.R_mono ho0 (fun k_ hk => (.inl hk))); have HK := am_ (Kept.refl w (fun k_ => P0_ k_)); have HW0 := am_ hB.size; have HB := am_ hB; clear hB; have H : (laws_markBarS.l0 k l0 a1 0) = some (r1, r2) := h; clear h; have H' := am_ H; clear H
 go_enter Try.func37, Try.ntmps37
 go_wp2
 go_loopg [1, 5] k (fun kq v1 v5 w' => ∃ (x0_1 : List (S87)) (x1_1 : Int) (x5_1 : Int), v1 = .int .i64 x1_1 ∧ v5 = .int .i64 x5_1 ∧ Aside0 (laws_markBarS.l0 kq x0_1 x1_1 x5_1 = some (r1, r2)) ∧ Aside0 (kq ≤ k) ∧ Aside0 (Kd.R k87 87 w' w0.heap.size (fun k_ => (P0_ k_ ∨ w.heap.size ≤ k_)) u9000_ x0_1) ∧ Aside0 (Kept w w' (fun k_ => P0_ k_)) ∧ Aside0 (Below w0.heap.size w0 w'))
 case atStart => exact ⟨(l0), (a1), (0), Za, Za, H', ⟨Nat.le_refl _⟩, ⟨(Zo HO0)⟩, ⟨Zt⟩, ⟨Zd⟩⟩
 case round =>
  clear H'
  try clear p2
  obtain ⟨x0_1, x1_1, x5_1, rfl, rfl, HA, HK1, HO_0, HK, HB⟩ := hrel
  cases gk with
  | zero => exact absurd HA.out (by simp [laws_markBarS.l0])
  | succ k1 =>
   have H := HA.out; clear HA; simp only [laws_markBarS.l0] at H
   by_cases c3 : x5_1 < (x0_1.length : Int)
   ·rw [if_pos c3] at H
    have c3b0 := decide_eq_true c3; clear c3
    by_cases c4 : 0 ≤ x5_1
    ·rw [if_pos c4] at H
     have c4b0 := decide_eq_true c4; clear c4; obtain ⟨y999, hy999⟩ : ∃ y_ : List (S87), y_ = (x0_1.set (x5_1 : Int).toNat (⟨x1_1, (rd_T87 x0_1 x5_1).f1⟩ : S87)) := ⟨_, rfl⟩
     (first | (rw [← hy999] at H; with_reducible replace H := bindZ H) | rw [← hy999] at H | skip)
     have Ny999 := am_ hy999; clear hy999; obtain ⟨y1000, hy1000⟩ : ∃ y_ : List (S87), y_ = (y999.set (x5_1 : Int).toNat (⟨(rd_T87 y999 x5_1).f0, wrap64 (x1_1 + 1)⟩ : S87)) := ⟨_, rfl⟩
     (first | (rw [← hy1000] at H; with_reducible replace H := bindZ H) | rw [← hy1000] at H | skip)
     have Ny1000 := am_ hy1000; clear hy1000; have H' := am_ H; clear H; obtain ⟨Ao7, co7, eo7⟩ := Kd.R_slice HO_0.out; subst eo7; have p5 : 0 ≤ (x5_1 : Int) := of_decide_eq_true Zn; have q5 : (x5_1 : Int) < ((x0_1.length : Int) : Int) := of_decide_eq_true Zn; obtain ⟨go5, co5, eo5, gb5, gl5, cl5, HG5⟩ := Kd.R_form HO_0.out (by omega)
     (first | cases eo5 | (injection eo5 with ea_ en_ ec_; (first | subst ea_ | (injection ea_ with ea_; subst ea_)); subst ec_; clear en_))
     have GB5 := am_ gb5; have GG5 := am_ HG5; clear gb5 gl5 HG5; have HMgo5 := am_ (show (P0_ go5 ∨ w.heap.size ≤ go5) from (HO_0.out.1 _ rfl)); obtain ⟨ce5, hcl5, hM5, hcc5, hfr5⟩ := Kd.R_elem HO_0.out z87 (x5_1 : Int) p5 q5; obtain rfl := k87_openM hM5; have hx5_0 : wr.cell? ⟨go5, (x5_1 : Int).toNat * 2, none⟩ = some (.int .i64 ((rd_T87 x0_1 x5_1).f0)) := hcc5 0 _ rfl; have hx5_1 : wr.cell? ⟨go5, (x5_1 : Int).toNat * 2 + 1, none⟩ = some (.int .i64 ((rd_T87 x0_1 x5_1).f1)) := hcc5 1 _ rfl; have hf5_0 : wr.frozen? ⟨go5, (x5_1 : Int).toNat * 2, none⟩ = false := hfr5 0; have hf5_1 := hfr5 1; clear hcl5 hcc5 hfr5 hM5; replace p5 := eq_true p5; replace q5 := eq_true q5; have HX8 := am_ (show Kd.R k87 87 wr w0.heap.size (fun k_ => (P0_ k_ ∨ w.heap.size ≤ k_)) (.slice (some ⟨go5, 0, none⟩) x0_1.length co7) x0_1 from (Zo HO_0)); obtain ⟨ce8, hcl8, hM8, hcc8, hfr8⟩ := Kd.R_elem HX8.out z87 (x5_1 : Int) (of_decide_eq_true Zn) (by have h_ : (x5_1 : Int) < ((x0_1.length : Int) : Int) := of_decide_eq_true Zn; first | exact h_ | (have e_ := (Kd.R_reads' HO_0.out).1; omega) | simpa using h_); obtain rfl := k87_openM hM8; have HP8 := Kd.R_seg HX8.out (x5_1 : Int) (of_decide_eq_true Zn) (by have h_ : (x5_1 : Int) < ((x0_1.length : Int) : Int) := of_decide_eq_true Zn; first | exact h_ | (have e_ := (Kd.R_reads' HO_0.out).1; omega) | simpa using h_) (seg := [.int .i64 x1_1]) (j := 0) hcl8 hcc8 (show 1 ≤ 2 from (by decide)) (x' := (⟨x1_1, (rd_T87 x0_1 x5_1).f1⟩ : S87)) (k87_mkM _ _ _ (⟨x1_1, (rd_T87 x0_1 x5_1).f1⟩ : S87) ) (fun _ hk => hk); have hx8_0 := hcc8 0 _ rfl
     (try simp only [show (k87).sz = 2 from rfl, Nat.mul_one, Nat.add_zero] at hx8_0)
     have hf8_0 := hfr8 0
     (try simp only [show (k87).sz = 2 from rfl, Nat.mul_one, Nat.add_zero] at hf8_0)
     clear hcl8 hcc8 hfr8 hM8
     go_wp2_with (first | ((with_reducible refine gate_store (t := 2) (p := 16) rfl ?_); refine store_event (t := 2) (p := 16) (v := ?vo_w9) (w1 := (wr.setCell ⟨go5, (x5_1 : Int).toNat * 2, none⟩ (.int .i64 x1_1))) ?hg ?ho ?hn ?hr ?_; (case ho => rfl); (case hg => rfl); (case hn => rfl); (case hr => first | (go_simp; done) | (go_simp; rfl)); intro w9 hw; have hg : wr.grownBy w9 (some go5) := (by rw [hw]; exact HP8.2); have hp_ : Kd.R k87 87 w9 w0.heap.size (fun k_ => (P0_ k_ ∨ w.heap.size ≤ k_)) (.slice (some ⟨go5, 0, none⟩) x0_1.length co7) y999 := (by rw [hw, Ny999.out]; exact HP8.1); clear HP8; replace HB := am_ (((Zu GB5) : Below w0.heap.size w0 w9)); replace HK := am_ (Kept.of_grown (S := (fun k_ => P0_ k_)) hg Zt (fun k_ e_ => (HO_0.out.1 k_ e_))); replace HO_0 := am_ (hp_); clear hg hw hp_; have p6 : 0 ≤ (x5_1 : Int) := of_decide_eq_true Zn; have q6 : (x5_1 : Int) < ((x0_1.length : Int) : Int) := of_decide_eq_true Zn; obtain ⟨ce6, hcl6, hM6, hcc6, hfr6⟩ := Kd.R_elem HO_0.out z87 (x5_1 : Int) p6 q6; obtain rfl := k87_openM hM6; have hx6_0 : w9.cell? ⟨go5, (x5_1 : Int).toNat * 2, none⟩ = some (.int .i64 ((rd_T87 y999 x5_1).f0)) := hcc6 0 _ rfl; have hx6_1 : w9.cell? ⟨go5, (x5_1 : Int).toNat * 2 + 1, none⟩ = some (.int .i64 ((rd_T87 y999 x5_1).f1)) := hcc6 1 _ rfl; have hf6_0 : w9.frozen? ⟨go5, (x5_1 : Int).toNat * 2, none⟩ = false := hfr6 0; have hf6_1 := hfr6 1; clear hcl6 hcc6 hfr6 hM6; replace p6 := eq_true p6; replace q6 := eq_true q6; have HX10 := am_ (show Kd.R k87 87 w9 w0.heap.size (fun k_ => (P0_ k_ ∨ w.heap.size ≤ k_)) (.slice (some ⟨go5, 0, none⟩) x0_1.length co7) y999 from (Zo HO_0)); obtain ⟨ce10, hcl10, hM10, hcc10, hfr10⟩ := Kd.R_elem HX10.out z87 (x5_1 : Int) (of_decide_eq_true Zn) (by have h_ : (x5_1 : Int) < ((x0_1.length : Int) : Int) := of_decide_eq_true Zn; first | exact h_ | (have e_ := (Kd.R_reads' HO_0.out).1; omega) | simpa using h_); obtain rfl := k87_openM hM10; have HP10 := Kd.R_seg HX10.out (x5_1 : Int) (of_decide_eq_true Zn) (by have h_ : (x5_1 : Int) < ((x0_1.length : Int) : Int) := of_decide_eq_true Zn; first | exact h_ | (have e_ := (Kd.R_reads' HO_0.out).1; omega) | simpa using h_) (seg := [.int .i64 (wrap64 (x1_1 + 1))]) (j := 1) hcl10 hcc10 (show 2 ≤ 2 from (by decide)) (x' := (⟨(rd_T87 y999 x5_1).f0, wrap64 (x1_1 + 1)⟩ : S87)) (k87_mkM _ _ _ (⟨(rd_T87 y999 x5_1).f0, wrap64 (x1_1 + 1)⟩ : S87) ) (fun _ hk => hk); have hx10_1 := hcc10 1 _ rfl; (try simp only [show (k87).sz = 2 from rfl, Nat.mul_one, Nat.add_zero] at hx10_1); have hf10_1 := hfr10 1; (try simp only [show (k87).sz = 2 from rfl, Nat.mul_one, Nat.add_zero] at hf10_1); clear hcl10 hcc10 hfr10 hM10) | ((with_reducible refine gate_store (t := 2) (p := 23) rfl ?_); refine store_event (t := 2) (p := 23) (v := ?vo_w11) (w1 := (w9.setCell ⟨go5, (x5_1 : Int).toNat * 2 + 1, none⟩ (.int .i64 (wrap64 (x1_1 + 1))))) ?hg ?ho ?hn ?hr ?_; (case ho => rfl); (case hg => rfl); (case hn => rfl); (case hr => first | (go_simp; done) | (go_simp; rfl)); intro w11 hw; have hg : w9.grownBy w11 (some go5) := (by rw [hw]; exact HP10.2); have hp_ : Kd.R k87 87 w11 w0.heap.size (fun k_ => (P0_ k_ ∨ w.heap.size ≤ k_)) (.slice (some ⟨go5, 0, none⟩) x0_1.length co7) y1000 := (by rw [hw, Ny1000.out]; exact HP10.1); clear HP10; replace HB := am_ (((Zu GB5) : Below w0.heap.size w0 w11)); replace HK := am_ (Kept.of_grown (S := (fun k_ => P0_ k_)) hg Zt (fun k_ e_ => (HO_0.out.1 k_ e_))); replace HO_0 := am_ (hp_); clear hg hw hp_))
     go_roundg k1
     case measure => have := HK1.out; omega
     case rel => exact ⟨(y1000), (wrap64 ((wrap64 (x1_1 + 1)) + 1)), (wrap64 (x5_1 + 1)), Za, Za, H', ⟨Zs⟩, ⟨(Zo HO_0)⟩, ⟨Zt⟩, ⟨Zd⟩⟩
    ·rw [if_neg c4] at H
     exact absurd H (by simp)
   ·rw [if_neg c3] at H
    have c3b0 := decide_eq_false c3; clear c3; simp only [Option.some.injEq, Prod.mk.injEq] at H; obtain ⟨rfl, rfl⟩ := H; obtain ⟨Ao12, co12, eo12⟩ := Kd.R_slice HO_0.out; subst eo12
    go_wp2
    go_ret
    exact ⟨Zj, (Zo HO_0), Zd, Zt⟩
end Go.Proofs.Ytnifblnlpepehaa.F
namespace Go.Proofs.Ytnifblnlpepehaa.F
open Go.RowKit Go.Proofs.YtnifblnlpepehaaW.PrintWords Go.Proofs.YtnifblnlpepehaaW.PrintLast Go.Proofs.YtnifblnlpepehaaW.PrintMore
set_option linter.unusedVariables false
set_option linter.unusedSimpArgs false
attribute [local go_sem] max2_int min2_int max_two min_two max_three min_three max_four min_four
 mutual
def full_toBarS.j0 : Nat → List (S89) → Bool → Option ((List (S87)))
 | 0, _, _ => none
 | k + 1, x0, x13 => if x13 = true then (some ([] : List (S87))) else ((laws_roomBehind.f (x0.length : Int)).bind fun t864 => (if 0 ≤ (wrap64 ((x0.length : Int) + t864)) then (if (wrap64 ((x0.length : Int) + t864) : Int).toNat ≤ 17592186044416 then (full_toBarS.l0 k x0 (List.replicate (wrap64 ((x0.length : Int) + t864) : Int).toNat z87) 0) else (none)) else (none)))
def full_toBarS.l0 : Nat → List (S89) → List (S87) → Int → Option ((List (S87)))
 | 0, _, _, _ => none
 | k + 1, x0, x5, x6 => if x6 < (x0.length : Int) then (if 0 ≤ x6 then ((laws_toBar.f ((rd_T89 x0 x6).f0) ((rd_T89 x0 x6).f1)).bind fun bt869 => (if x6 < (x5.length : Int) then (full_toBarS.l0 k x0 (x5.set (x6 : Int).toNat (⟨bt869.1, bt869.2⟩ : S87)) (wrap64 (x6 + 1))) else (none))) else (none)) else (full_toBarS.l1 k x0 x5 (x0.length : Int))
def full_toBarS.l1 : Nat → List (S89) → List (S87) → Int → Option ((List (S87)))
 | 0, _, _, _ => none
 | k + 1, x0, x5, x7 => if x7 < (x5.length : Int) then ((laws_fillerBar.f).bind fun bt872 => (if 0 ≤ x7 then (full_toBarS.l1 k x0 (x5.set (x7 : Int).toNat (⟨bt872.1, bt872.2⟩ : S87)) (wrap64 (x7 + 1))) else (none))) else (if 0 ≤ (x0.length : Int) then (if (x0.length : Int) ≤ (x5.length : Int) then (some x5) else (none)) else (none))
end
def full_toBarS.f (k : Nat) (l0 : List (S89)) (a1 : Bool) : Option ((List (S87))) := if a1 = true then (full_toBarS.j0 k l0 ((l0.length : Int) == 0)) else (full_toBarS.j0 k l0 false)
set_option maxHeartbeats 8000000 in
set_option maxRecDepth 100000 in
theorem full_toBarS.calls (k : Nat) (A0 : Option Addr) (c0 : Nat) (l0 : List (S89)) (a1 : Bool) (r : List (S87)) (w : World) (hr0 : Kd.C k89 w A0 l0.length l0) (hc0 : l0.length ≤ c0) (h : full_toBarS.f k l0 a1 = some r) :
  Calls Try.prog 27 #[.slice A0 l0.length c0, .bool a1] w fun e w' => ∃ v0_ : Value, e = .returned (v0_) ∧ Full k87 87 w' w.heap.size l0.length v0_ r ∧ Below w.heap.size w w' := by
 have hu89 := Try.underlying89; have hu87 := Try.underlying87; have HR0 := am_ hr0; have HC0 := am_ hc0; clear hr0 hc0; have HB := am_ (Below.refl w.heap.size w); have H : (if a1 = true then (full_toBarS.j0 k l0 ((l0.length : Int) == 0)) else (full_toBarS.j0 k l0 false)) = some r := h; clear h; have HC3 := am_ H; clear H
 go_enter Try.func27, Try.ntmps27
 go_upto_region 1 with (fail)
 go_cut [13] (fun v13 wc => ∃ (kq : Nat) (x13_2 : Bool), v13 = .bool x13_2 ∧ Aside0 (full_toBarS.j0 kq l0 x13_2 = some r) ∧ Aside0 (kq ≤ k) ∧ Aside0 (Below w.heap.size w wc))
 case first =>
  have H := HC3.out; clear HC3
  by_cases c4 : a1 = true
  ·subst c4
   rw [if_pos rfl] at H; have H' := am_ H; clear H
   go_wp2
   go_meet
   case rel => exact ⟨_, (((l0.length : Int) == 0)), Za, H', ⟨Zl⟩, ⟨Zd⟩⟩
  ·replace c4 := Bool.eq_false_iff.mpr c4
   subst c4; rw [if_neg (show ¬ (false = true) by decide)] at H; have H' := am_ H; clear H
   go_wp2
   go_meet
   case rel => exact ⟨_, (false), Za, H', ⟨Zl⟩, ⟨Zd⟩⟩
 case rest =>
  clear HC3
  try clear c2
  try clear p2
  try clear c4
  obtain ⟨kq, x13_2, rfl, HA, HJ2, HB⟩ := hcut
  cases kq with
  | zero => exact absurd HA.out (by simp [full_toBarS.j0])
  | succ kj2 =>
   have H := HA.out; clear HA; simp only [full_toBarS.j0] at H
   by_cases c5 : x13_2 = true
   ·subst c5
    rw [if_pos rfl] at H; obtain rfl := Option.some.inj H
    go_wp2
    go_ret
    exact ⟨_, Zj, fun h_ => absurd rfl h_, Zd⟩
   ·replace c5 := Bool.eq_false_iff.mpr c5
    subst c5; rw [if_neg (show ¬ (false = true) by decide)] at H; replace H := Option.bind_eq_some_iff.mp H; obtain ⟨t864, A60, H⟩ := H; have A6 := am_ A60; clear A60; obtain ⟨ji7, hji7⟩ : ∃ j_ : Int, (wrap64 ((l0.length : Int) + t864)) = j_ := ⟨_, rfl⟩
    replace H : (if 0 ≤ (ji7) then (if (ji7 : Int).toNat ≤ 17592186044416 then (full_toBarS.l0 kj2 l0 (List.replicate (ji7 : Int).toNat z87) 0) else (none)) else (none)) = some r := by first | (rw [hji7] at H; exact H) | (simp only [hji7] at H ⊢; exact H)
    (try rw [hji7] at A6)
    have hji7w : (IntKind.i64.wrap ((l0.length : Int) + t864)) = ji7 := (i64_w _).trans hji7
    by_cases c8 : 0 ≤ (ji7)
    ·rw [if_pos c8] at H
     have c8b0 := eq_true c8; have c8b1 := decide_eq_true c8; clear c8
     by_cases c9 : (ji7 : Int).toNat ≤ 17592186044416
     ·rw [if_pos c9] at H
      have c9b0 := eq_true c9; have c9b1 := decide_eq_true c9; clear c9; obtain ⟨y865, hy865⟩ : ∃ y_ : List (S87), y_ = (List.replicate (ji7 : Int).toNat z87) := ⟨_, rfl⟩
      (first | (rw [← hy865] at H; with_reducible replace H := bindZ H) | rw [← hy865] at H | skip)
      have Ny865 := am_ hy865; clear hy865; have H' := am_ H; clear H
      go_wp2_with (first | ((with_reducible refine gate_callee (f := 55) rfl ?_); refine gZ 18 Try.func55 #[.int .i64 (l0.length : Int)] ?_; (with_reducible refine (laws_roomBehind.calls (l0.length : Int) t864 _ A6.out).mono ?_); rintro e w' ⟨rfl, ⟨nd, rfl⟩⟩; refine ⟨_, rfl, ?_⟩) | ((with_reducible refine gate_dst (N := 20) rfl ?_); (try (refine gate_guard (by rfl) ?_; dsimp only)); refine Kd.R_make k87 _ 87 rfl (N := 20) rfl 31 _ _ rfl ji7 rfl rfl Try.underlying31 (.agg #[(.int .i64 0), (.int .i64 0)]) 16 info87 rfl (by decide) (by omega) z87 (ok := fun _ => True) (okp := fun _ => True) (k87_mkM _ _ _ z87 ) (fun _ hk => hk) trivial (of_decide_eq_true Zn) (Nat.le_trans (Nat.mul_le_mul_right _ (of_decide_eq_true Zn : ji7.toNat ≤ 17592186044416)) (by omega)) (Below.refl _ _) (Nat.le_refl _) ?_; intro v866 w10 ho11 hb hg_ hnew_; clear hg_ hnew_; (first | rw [← Ny865.out] at ho11 | (simp only [Int.reduceToNat] at ho11; rw [← Ny865.out] at ho11)); replace HO867 := am_ (Kd.R_lower ho11 (below_size Zd)); replace HB := (bsZ Zd hb); clear hb ho11))
      go_loopg [6] kj2 (fun kq v6 w' => ∃ (x5_2 : List (S87)) (x6_2 : Int), v6 = .int .i64 x6_2 ∧ Aside0 (full_toBarS.l0 kq l0 x5_2 x6_2 = some r) ∧ Aside0 (kq ≤ kj2) ∧ Aside0 (Kd.R k87 87 w' w.heap.size (fun _ => True) v866 x5_2) ∧ Aside0 (Below w.heap.size w w'))
      case atStart => exact ⟨(y865), (0), Za, H', ⟨Nat.le_refl _⟩, ⟨(Zo HO867)⟩, ⟨Zd⟩⟩
      case round =>
       clear H'
       try clear c2
       try clear p2
       try clear c4
       try clear c5
       try clear p6
       try clear c8
       try clear c8b0
       try clear c8b1
       try clear c9
       try clear c9b0
       try clear c9b1
       try clear p2
       obtain ⟨x5_2, x6_2, rfl, HA, HK2, HO_5, HB⟩ := hrel
       cases gk with
       | zero => exact absurd HA.out (by simp [full_toBarS.l0])
       | succ k2 =>
        have H := HA.out; clear HA; simp only [full_toBarS.l0] at H
        by_cases c12 : x6_2 < (l0.length : Int)
        ·rw [if_pos c12] at H
         have c12b0 := decide_eq_true c12; clear c12
         by_cases c13 : 0 ≤ x6_2
         ·rw [if_pos c13] at H
          have c13b0 := decide_eq_true c13; clear c13; replace H := Option.bind_eq_some_iff.mp H; obtain ⟨⟨t869, t870⟩, A140, H⟩ := H
          dsimp only at H
          have A14 := am_ A140; clear A140
          by_cases c15 : x6_2 < (x5_2.length : Int)
          ·rw [if_pos c15] at H
           have c15b0 := decide_eq_true c15; clear c15; obtain ⟨y871, hy871⟩ : ∃ y_ : List (S87), y_ = (x5_2.set (x6_2 : Int).toNat (⟨t869, t870⟩ : S87)) := ⟨_, rfl⟩
           (first | (rw [← hy871] at H; with_reducible replace H := bindZ H) | rw [← hy871] at H | skip)
           have Ny871 := am_ hy871; clear hy871; have H' := am_ H; clear H; have p868 : 0 ≤ (x6_2 : Int) := of_decide_eq_true Zn; have q868 : x6_2 < (l0.length : Int) := of_decide_eq_true Zn; obtain ⟨ad868, e868, hx868_0, hx868_1⟩ := at_T89 HR0.out x6_2 p868 q868
           cases e868
           replace hx868_0 := cbH HB hx868_0; replace hx868_1 := cbH HB hx868_1; replace p868 := eq_true p868; replace q868 := eq_true q868
           go_wp2_with (first | ((with_reducible refine gate_callee (f := 56) rfl ?_); refine gZ 33 Try.func56 #[.agg #[.int .i64 ((rd_T89 l0 x6_2).f0), .int .i64 ((rd_T89 l0 x6_2).f1)]] ?_; (with_reducible refine (laws_toBar.calls ((rd_T89 l0 x6_2).f0) ((rd_T89 l0 x6_2).f1) t869 t870 _ A14.out).mono ?_); rintro e w17 ⟨rfl, hb⟩; refine ⟨_, rfl, ?_⟩; replace HO_5 := (hbZ HO_5 hb); replace HB := (bsZ Zd hb); clear hb; have p16 : 0 ≤ (x6_2 : Int) := of_decide_eq_true Zn; have q16 : (x6_2 : Int) < ((x5_2.length : Int) : Int) := of_decide_eq_true Zn; obtain ⟨go16, co16, eo16, gb16, gl16, cl16, HG16⟩ := Kd.R_form HO_5.out (by omega); (first | cases eo16 | (injection eo16 with ea_ en_ ec_; (first | subst ea_ | (injection ea_ with ea_; subst ea_)); subst ec_; clear en_)); have GB16 := am_ gb16; have GG16 := am_ HG16; clear gb16 gl16 HG16; obtain ⟨ce16, hcl16, hM16, hcc16, hfr16⟩ := Kd.R_elem HO_5.out z87 (x6_2 : Int) p16 q16; obtain rfl := k87_openM hM16; have hx16_0 : w17.cell? ⟨go16, (x6_2 : Int).toNat * 2, none⟩ = some (.int .i64 ((rd_T87 x5_2 x6_2).f0)) := hcc16 0 _ rfl; have hx16_1 : w17.cell? ⟨go16, (x6_2 : Int).toNat * 2 + 1, none⟩ = some (.int .i64 ((rd_T87 x5_2 x6_2).f1)) := hcc16 1 _ rfl; have hf16_0 : w17.frozen? ⟨go16, (x6_2 : Int).toNat * 2, none⟩ = false := hfr16 0; have hf16_1 := hfr16 1; clear hcl16 hcc16 hfr16 hM16; replace p16 := eq_true p16; replace q16 := eq_true q16; have HX18 := am_ (show Kd.R k87 87 w17 w.heap.size (fun _ => True) (.slice (some ⟨go16, 0, none⟩) x5_2.length co16) x5_2 from (Zo HO_5)); obtain ⟨ce18, hcl18, hM18, hcc18, hfr18⟩ := Kd.R_elem HX18.out z87 (x6_2 : Int) (of_decide_eq_true Zn) (by have h_ : (x6_2 : Int) < ((x5_2.length : Int) : Int) := of_decide_eq_true Zn; first | exact h_ | (have e_ := (Kd.R_reads' HO_5.out).1; omega) | simpa using h_); obtain rfl := k87_openM hM18; have HP18 := Kd.R_seg HX18.out (x6_2 : Int) (of_decide_eq_true Zn) (by have h_ : (x6_2 : Int) < ((x5_2.length : Int) : Int) := of_decide_eq_true Zn; first | exact h_ | (have e_ := (Kd.R_reads' HO_5.out).1; omega) | simpa using h_) (seg := [.int .i64 t869, .int .i64 t870]) (j := 0) hcl18 hcc18 (show 2 ≤ 2 from (by decide)) (x' := (⟨t869, t870⟩ : S87)) (k87_mkM _ _ _ (⟨t869, t870⟩ : S87) ) (fun _ hk => hk); have hx18_0 := hcc18 0 _ rfl; (try simp only [show (k87).sz = 2 from rfl, Nat.mul_one, Nat.add_zero] at hx18_0); have hf18_0 := hfr18 0; (try simp only [show (k87).sz = 2 from rfl, Nat.mul_one, Nat.add_zero] at hf18_0); have hx18_1 := hcc18 1 _ rfl; (try simp only [show (k87).sz = 2 from rfl, Nat.mul_one, Nat.add_zero] at hx18_1); have hf18_1 := hfr18 1; (try simp only [show (k87).sz = 2 from rfl, Nat.mul_one, Nat.add_zero] at hf18_1); clear hcl18 hcc18 hfr18 hM18) | ((with_reducible refine gate_store (t := 87) (p := 34) rfl ?_); refine store_event (t := 87) (p := 34) (v := ?vo_w19) (w1 := ((w17.setCell ⟨go16, (x6_2 : Int).toNat * 2, none⟩ (.int .i64 t869)).setCell ⟨go16, (x6_2 : Int).toNat * 2 + 1, none⟩ (.int .i64 t870))) ?hg ?ho ?hn ?hr ?_; (case ho => rfl); (case hg => rfl); (case hn => rfl); (case hr => first | (go_simp; done) | (go_simp; rfl)); intro w19 hw; have hg : w17.grownBy w19 (some go16) := (by rw [hw]; exact HP18.2); have hp_ : Kd.R k87 87 w19 w.heap.size (fun _ => True) (.slice (some ⟨go16, 0, none⟩) x5_2.length co16) y871 := (by rw [hw, Ny871.out]; exact HP18.1); clear HP18; replace HO_5 := am_ (hp_); replace HB := am_ ((by rw [hw]; exact below_set (below_set (HB.out) GB16.out) GB16.out : Below w.heap.size w w19)); clear hg hw hp_))
           go_roundg k2
           case measure => have := HJ2.out; have := HK2.out; omega
           case rel => exact ⟨(y871), (wrap64 (x6_2 + 1)), Za, H', ⟨by have := HJ2.out; have := HK2.out; omega⟩, ⟨(Zo HO_5)⟩, ⟨Zd⟩⟩
          ·rw [if_neg c15] at H
           exact absurd H (by simp)
         ·rw [if_neg c13] at H
          exact absurd H (by simp)
        ·rw [if_neg c12] at H
         have c12b0 := decide_eq_false c12; clear c12; have H' := am_ H; clear H
         go_wp2
         go_loopg [7] k2 (fun kq v7 w' => ∃ (x5_3 : List (S87)) (x7_3 : Int), v7 = .int .i64 x7_3 ∧ Aside0 (full_toBarS.l1 kq l0 x5_3 x7_3 = some r) ∧ Aside0 (kq ≤ k2) ∧ Aside0 (Kd.R k87 87 w' w.heap.size (fun _ => True) v866 x5_3) ∧ Aside0 (Below w.heap.size w w'))
         case atStart => exact ⟨(x5_2), ((l0.length : Int)), Za, H', ⟨Nat.le_refl _⟩, ⟨(Zo HO_5)⟩, ⟨Zd⟩⟩
         case round =>
          clear H'
          try clear c1
          try clear p1
          try clear q1
          try clear hx1
          try clear c2
          try clear p2
          try clear c4
          try clear c5
          try clear p6
          try clear c8
          try clear c8b0
          try clear c8b1
          try clear p8
          try clear q8
          try clear hx8
          try clear c9
          try clear c9b0
          try clear c9b1
          try clear c12
          try clear c12b0
          try clear c13
          try clear c13b0
          try clear c15
          try clear c15b0
          try clear c16
          try clear p16
          try clear q16
          try clear hx16
          try clear hf16
          try clear c18
          try clear hx18
          try clear hf18
          try clear hx16_0
          try clear hx16_1
          try clear hx18_0
          try clear hx18_1
          try clear hx868_0
          try clear hx868_1
          try clear p16
          try clear p2
          try clear p6
          try clear p868
          try clear q16
          try clear q868
          obtain ⟨x5_3, x7_3, rfl, HA, HK3, HO_5, HB⟩ := hrel
          cases gk with
          | zero => exact absurd HA.out (by simp [full_toBarS.l1])
          | succ k3 =>
           have H := HA.out; clear HA; simp only [full_toBarS.l1] at H
           by_cases c20 : x7_3 < (x5_3.length : Int)
           ·rw [if_pos c20] at H
            have c20b0 := decide_eq_true c20; clear c20; replace H := Option.bind_eq_some_iff.mp H; obtain ⟨⟨t872, t873⟩, A210, H⟩ := H
            dsimp only at H
            have A21 := am_ A210; clear A210
            by_cases c22 : 0 ≤ x7_3
            ·rw [if_pos c22] at H
             have c22b0 := decide_eq_true c22; clear c22; obtain ⟨y874, hy874⟩ : ∃ y_ : List (S87), y_ = (x5_3.set (x7_3 : Int).toNat (⟨t872, t873⟩ : S87)) := ⟨_, rfl⟩
             (first | (rw [← hy874] at H; with_reducible replace H := bindZ H) | rw [← hy874] at H | skip)
             have Ny874 := am_ hy874; clear hy874; have H' := am_ H; clear H; obtain ⟨Ao24, co24, eo24⟩ := Kd.R_slice HO_5.out; subst eo24
             go_wp2_with (first | ((with_reducible refine gate_callee (f := 57) rfl ?_); refine gZ 45 Try.func57 #[] ?_; (with_reducible refine (laws_fillerBar.calls  t872 t873 _ A21.out).mono ?_); rintro e w25 ⟨rfl, hb⟩; refine ⟨_, rfl, ?_⟩; replace HO_5 := (hbZ HO_5 hb); replace HB := (bsZ Zd hb); clear hb; have p23 : 0 ≤ (x7_3 : Int) := of_decide_eq_true Zn; have q23 : (x7_3 : Int) < ((x5_3.length : Int) : Int) := of_decide_eq_true Zn; obtain ⟨go23, co23, eo23, gb23, gl23, cl23, HG23⟩ := Kd.R_form HO_5.out (by omega); (first | cases eo23 | (injection eo23 with ea_ en_ ec_; (first | subst ea_ | (injection ea_ with ea_; subst ea_)); subst ec_; clear en_)); have GB23 := am_ gb23; have GG23 := am_ HG23; clear gb23 gl23 HG23; obtain ⟨ce23, hcl23, hM23, hcc23, hfr23⟩ := Kd.R_elem HO_5.out z87 (x7_3 : Int) p23 q23; obtain rfl := k87_openM hM23; have hx23_0 : w25.cell? ⟨go23, (x7_3 : Int).toNat * 2, none⟩ = some (.int .i64 ((rd_T87 x5_3 x7_3).f0)) := hcc23 0 _ rfl; have hx23_1 : w25.cell? ⟨go23, (x7_3 : Int).toNat * 2 + 1, none⟩ = some (.int .i64 ((rd_T87 x5_3 x7_3).f1)) := hcc23 1 _ rfl; have hf23_0 : w25.frozen? ⟨go23, (x7_3 : Int).toNat * 2, none⟩ = false := hfr23 0; have hf23_1 := hfr23 1; clear hcl23 hcc23 hfr23 hM23; replace p23 := eq_true p23; replace q23 := eq_true q23; have HX26 := am_ (show Kd.R k87 87 w25 w.heap.size (fun _ => True) (.slice (some ⟨go23, 0, none⟩) x5_3.length co24) x5_3 from (Zo HO_5)); obtain ⟨ce26, hcl26, hM26, hcc26, hfr26⟩ := Kd.R_elem HX26.out z87 (x7_3 : Int) (of_decide_eq_true Zn) (by have h_ : (x7_3 : Int) < ((x5_3.length : Int) : Int) := of_decide_eq_true Zn; first | exact h_ | (have e_ := (Kd.R_reads' HO_5.out).1; omega) | simpa using h_); obtain rfl := k87_openM hM26; have HP26 := Kd.R_seg HX26.out (x7_3 : Int) (of_decide_eq_true Zn) (by have h_ : (x7_3 : Int) < ((x5_3.length : Int) : Int) := of_decide_eq_true Zn; first | exact h_ | (have e_ := (Kd.R_reads' HO_5.out).1; omega) | simpa using h_) (seg := [.int .i64 t872, .int .i64 t873]) (j := 0) hcl26 hcc26 (show 2 ≤ 2 from (by decide)) (x' := (⟨t872, t873⟩ : S87)) (k87_mkM _ _ _ (⟨t872, t873⟩ : S87) ) (fun _ hk => hk); have hx26_0 := hcc26 0 _ rfl; (try simp only [show (k87).sz = 2 from rfl, Nat.mul_one, Nat.add_zero] at hx26_0); have hf26_0 := hfr26 0; (try simp only [show (k87).sz = 2 from rfl, Nat.mul_one, Nat.add_zero] at hf26_0); have hx26_1 := hcc26 1 _ rfl; (try simp only [show (k87).sz = 2 from rfl, Nat.mul_one, Nat.add_zero] at hx26_1); have hf26_1 := hfr26 1; (try simp only [show (k87).sz = 2 from rfl, Nat.mul_one, Nat.add_zero] at hf26_1); clear hcl26 hcc26 hfr26 hM26) | ((with_reducible refine gate_store (t := 87) (p := 46) rfl ?_); refine store_event (t := 87) (p := 46) (v := ?vo_w27) (w1 := ((w25.setCell ⟨go23, (x7_3 : Int).toNat * 2, none⟩ (.int .i64 t872)).setCell ⟨go23, (x7_3 : Int).toNat * 2 + 1, none⟩ (.int .i64 t873))) ?hg ?ho ?hn ?hr ?_; (case ho => rfl); (case hg => rfl); (case hn => rfl); (case hr => first | (go_simp; done) | (go_simp; rfl)); intro w27 hw; have hg : w25.grownBy w27 (some go23) := (by rw [hw]; exact HP26.2); have hp_ : Kd.R k87 87 w27 w.heap.size (fun _ => True) (.slice (some ⟨go23, 0, none⟩) x5_3.length co24) y874 := (by rw [hw, Ny874.out]; exact HP26.1); clear HP26; replace HO_5 := am_ (hp_); replace HB := am_ ((by rw [hw]; exact below_set (below_set (HB.out) GB23.out) GB23.out : Below w.heap.size w w27)); clear hg hw hp_))
             go_roundg k3
             case measure => have := HJ2.out; have := HK2.out; have := HK3.out; omega
             case rel => exact ⟨(y874), (wrap64 (x7_3 + 1)), Za, H', ⟨Zp⟩, ⟨(Zo HO_5)⟩, ⟨Zd⟩⟩
            ·rw [if_neg c22] at H
             exact absurd H (by simp)
           ·rw [if_neg c20] at H
            have c20b0 := decide_eq_false c20; clear c20
            by_cases c28 : 0 ≤ (l0.length : Int)
            ·rw [if_pos c28] at H
             have c28b0 := eq_true c28; have c28b1 := decide_eq_true c28; clear c28
             by_cases c29 : (l0.length : Int) ≤ (x5_3.length : Int)
             ·rw [if_pos c29] at H
              have c29b0 := eq_true c29; have c29b1 := decide_eq_true c29; clear c29; have HE_ := am_ (Option.some.inj H); clear H; obtain ⟨Ao30, co30, eo30⟩ := Kd.R_slice HO_5.out; subst eo30; have q31 : ((l0.length : Int) : Int) ≤ ((x5_3.length : Int) : Int) := of_decide_eq_true Zn; obtain ⟨i031, hi031, _, hsz31, _⟩ := info_parts info87; have hcut31 := cut_to (P := Try.prog) 31 87 .i64 Try.underlying31 hi031 Ao30 x5_3.length co30 (l0.length : Int) (of_decide_eq_true Zn) q31 (Kd.R_reads' HO_5.out).2.1; have hz_ : ((l0.length : Int) : Int).toNat = l0.length := Int.toNat_natCast _; rw [hz_] at hcut31; clear hi031 hsz31 hz_; have HL_ := am_ (show l0.length ≤ x5_3.length by omega); replace q31 := eq_true q31
              go_wp2
              go_ret
              exact ⟨_, rfl, (fun _ => ⟨_, _, rfl, (by rw [← HE_.out]; exact HL_.out), (Zv HO_5)⟩), Zd⟩
             ·rw [if_neg c29] at H
              exact absurd H (by simp)
            ·rw [if_neg c28] at H
             exact absurd H (by simp)
     ·rw [if_neg c9] at H
      exact absurd H (by simp)
    ·rw [if_neg c8] at H
     exact absurd H (by simp)
 
def T_intactBarS : Bool × List (List Nat × List Nat) := (true, [([], []), ([0], [0]), ([], []), ([2], [2]), ([1, 3], [1, 3]), ([4], [4]), ([5], [5]), ([5], [5]), ([6, 7, 5], [5, 6, 7]), ([5], [5]), ([5], [5]), ([9, 10, 5], [5, 9, 10]), ([8, 11, 5, 5], [5, 8, 11]), ([5, 12], [5, 12]), ([13, 12, 0, 1, 2, 3, 4, 5, 6, 7, 8, 9, 10, 11, 12, 13], [13])])
def B_intactBarS : List Nat := [0, 1, 0, 4, 15, 31, 63, 63, 255, 63, 63, 1599, 4095, 8191, 16383]
theorem tab_intactBarS : rtab .any (opsOf Try.f34 2) = T_intactBarS := by kernel_rfl
theorem bits_intactBarS : waitsOk T_intactBarS.2 B_intactBarS = true := by kernel_rfl
set_option maxHeartbeats 8000000 in
set_option maxRecDepth 100000 in
theorem same_intactBarS (k n : Nat) (A0 : Option Addr) (c0 : Nat) (A1 : Option Addr) (c1 : Nat) (L : List S87) (t : Int) (w : World) (hr0 : Kd.C k87 w A0 L.length L) (hc0 : L.length ≤ c0) (hr1 : Kd.C k87 w A1 L.length L) (hc1 : L.length ≤ c1)
    (ht : laws_roomBehind.f (n : Int) = some t) (hj : wrap64 ((n : Int) + t) = (L.length : Int)) (he : laws_eqBarS.f k L L = some true) :
    Calls Try.prog 34 #[.slice A0 n c0, .slice A1 n c1] w fun e w' => e = .returned (.bool true) ∧ Below w.heap.size w w' := by
  have HR0 := am_ hr0; have HC0 := am_ hc0; clear hr0 hc0; have HR1 := am_ hr1; have HC1 := am_ hc1; clear hr1 hc1; have HB := am_ (Below.refl w.heap.size w); have A3 := am_ ht; have A10 := am_ he; clear ht he; obtain ⟨ji5, hji⟩ : ∃ j_ : Int, (L.length : Int) = j_ := ⟨_, rfl⟩; rw [hji] at hj; have hji5w : (IntKind.i64.wrap ((n : Int) + t)) = ji5 := (i64_w _).trans hj; have hji5 := hj; clear hj; obtain ⟨i012, hi012, _, hsz12, _⟩ := info_parts info87; have hcut12 := cut_cap (P := Try.prog) 31 87 .i64 Try.underlying31 hi012 A0 n c0 ji5 (by omega) (by have := HC0.out; omega); have hcut13 := cut_cap (P := Try.prog) 31 87 .i64 Try.underlying31 hi012 A1 n c1 ji5 (by omega) (by have := HC1.out; omega)
  have hL : ji5.toNat = L.length := by omega
  rw [hL] at hcut12 hcut13; clear hL hi012 hsz12 hji
  go_enter Try.func34, Try.ntmps34
  go_wp2_with (first | ((with_reducible refine gate_callee (f := 55) rfl ?_); refine gZ 10 Try.func55 #[.int .i64 (n : Int)] ?_; (with_reducible refine (laws_roomBehind.calls (n : Int) t _ A3.out).mono ?_); rintro e w' ⟨rfl, ⟨nd, rfl⟩⟩; refine ⟨_, rfl, ?_⟩))
  replace HB := am_ (below_drew1 (pw_below_drewN HB.out nd)); refine start_ (n := 15) (S := fun w' => True) (ds := []) (bT 15 0) Zi rfl rfl trivial (fun hHeld => ?_); refine with_tabW tab_intactBarS bits_intactBarS (fun HT_ HW_ => ?_); generalize (w.drewN nd).drew = w11 at HB hHeld ⊢; refine pure_ (i := 0) (N := some 12) (v := ?_) (a' := ?_) (bT 15 1) rfl rfl (any_of HT_.out Zi) (fun _ _ _ h => h) (Or.inl ⟨by rfl, ?_⟩) ?_ ?_; rotate_left
  · intro w'
    go_simp
    with_reducible rfl
  rotate_left
  · simp only [Act.put, List.setIfInBounds_toArray, List.set_cons_zero, List.set_cons_succ, i64_w, i32_w]
    rfl
  refine pure_ (i := 1) (N := some 13) (v := ?_) (a' := ?_) (bT 15 2) rfl rfl (any_of HT_.out Zi) (fun _ _ _ h => h) (Or.inl ⟨by rfl, ?_⟩) ?_ ?_; rotate_left
  · intro w'
    go_simp
    with_reducible rfl
  rotate_left
  · simp only [Act.put, List.setIfInBounds_toArray, List.set_cons_zero, List.set_cons_succ, i64_w, i32_w]
    rfl
  refine pure_ (i := 2) (N := some 14) (v := ?_) (a' := ?_) (bT 15 3) rfl rfl (any_of HT_.out Zi) (fun _ _ _ h => h) (Or.inl ⟨by rfl, ?_⟩) ?_ ?_; rotate_left
  · intro w'
    go_simp
    with_reducible rfl
  rotate_left
  · simp only [Act.put, List.setIfInBounds_toArray, List.set_cons_zero, List.set_cons_succ, i64_w, i32_w]
    rfl
  refine pure_ (i := 3) (N := some 15) (v := ?_) (a' := ?_) (bT 15 4) rfl rfl (any_of HT_.out Zi) (fun _ _ _ h => h) (Or.inl ⟨by rfl, ?_⟩) ?_ ?_; rotate_left
  · intro w'
    go_simp
    with_reducible rfl
  rotate_left
  · simp only [Act.put, List.setIfInBounds_toArray, List.set_cons_zero, List.set_cons_succ, i64_w, i32_w]
    rfl
  refine pure_ (i := 4) (N := some 16) (v := ?_) (a' := ?_) (bT 15 5) rfl rfl (any_of HT_.out Zi) (fun _ _ _ h => h) (Or.inl ⟨by rfl, ?_⟩) ?_ ?_; rotate_left
  · intro w'
    go_simp
    with_reducible rfl
  rotate_left
  · simp only [Act.put, List.setIfInBounds_toArray, List.set_cons_zero, List.set_cons_succ, i64_w, i32_w]
    rfl
  refine pure_ (i := 5) (N := some 17) (v := ?_) (a' := ?_) (bT 15 6) rfl rfl (any_of HT_.out Zi) (fun _ _ _ h => h) (Or.inl ⟨by rfl, ?_⟩) ?_ ?_; rotate_left
  · intro w'
    go_simp
    with_reducible rfl
  rotate_left
  · simp only [Act.put, List.setIfInBounds_toArray, List.set_cons_zero, List.set_cons_succ, i64_w, i32_w]
    rfl
  refine pure_ (i := 6) (N := some 18) (v := ?_) (a' := ?_) (bT 15 7) rfl rfl (any_of HT_.out Zi) (fun _ _ _ h => h) (Or.inl ⟨by rfl, ?_⟩) ?_ ?_; rotate_left
  · intro w'
    go_simp
    with_reducible rfl
  rotate_left
  · simp only [Act.put, List.setIfInBounds_toArray, List.set_cons_zero, List.set_cons_succ, i64_w, i32_w]
    rfl
  refine pure_ (i := 7) (N := some 19) (v := ?_) (a' := ?_) (bT 15 8) rfl rfl (any_of HT_.out Zi) (fun _ _ _ h => h) (Or.inl ⟨by rfl, ?_⟩) ?_ ?_; rotate_left
  · intro w'
    go_simp
    with_reducible rfl
  rotate_left
  · simp only [Act.put, List.setIfInBounds_toArray, List.set_cons_zero, List.set_cons_succ, i64_w, i32_w]
    rfl
  refine pure_ (i := 8) (N := some 20) (v := ?_) (a' := ?_) (bT 15 9) rfl rfl (any_of HT_.out Zi) (fun _ _ _ h => h) (Or.inl ⟨by rfl, ?_⟩) ?_ ?_; rotate_left
  · intro w'
    go_simp
    with_reducible rfl
  rotate_left
  · simp only [Act.put, List.setIfInBounds_toArray, List.set_cons_zero, List.set_cons_succ, i64_w, i32_w]
    rfl
  refine pure_ (i := 9) (N := some 21) (v := ?_) (a' := ?_) (bT 15 10) rfl rfl (any_of HT_.out Zi) (fun _ _ _ h => h) (Or.inl ⟨by rfl, ?_⟩) ?_ ?_; rotate_left
  · intro w'
    go_simp
    with_reducible rfl
  rotate_left
  · simp only [Act.put, List.setIfInBounds_toArray, List.set_cons_zero, List.set_cons_succ, i64_w, i32_w]
    rfl
  refine pure_ (i := 10) (N := some 22) (v := ?_) (a' := ?_) (bT 15 11) rfl rfl (any_of HT_.out Zi) (fun _ _ _ h => h) (Or.inl ⟨by rfl, ?_⟩) ?_ ?_; rotate_left
  · intro w'
    go_simp
    with_reducible rfl
  rotate_left
  · simp only [Act.put, List.setIfInBounds_toArray, List.set_cons_zero, List.set_cons_succ, i64_w, i32_w]
    rfl
  refine pure_ (i := 11) (N := some 23) (v := ?_) (a' := ?_) (bT 15 12) rfl rfl (any_of HT_.out Zi) (fun _ _ _ h => h) (Or.inl ⟨by rfl, ?_⟩) ?_ ?_; rotate_left
  · intro w'
    go_simp
    with_reducible rfl
  rotate_left
  · simp only [Act.put, List.setIfInBounds_toArray, List.set_cons_zero, List.set_cons_succ, i64_w, i32_w]
    rfl
  refine one_ (i := 12) (N := some 24) (bT 15 13) rfl rfl (one_of HT_.out Zi) (by decide) (fun K hK => ?_); refine goes_ Try.func66 Zi rfl #[.slice A0 L.length c0, .slice A1 L.length c1] (by rfl) rfl rfl (by (try simp only [List.map_toArray, List.map_cons, List.map_nil]); first | done | rfl) ?_
  with_reducible refine (laws_eqBarS.calls k _ _ L _ _ L true _ (Kd.C_below HR0.out HB.out) HC0.out (Kd.C_below HR1.out HB.out) HC1.out A10.out).mono ?_
  rintro e w14 ⟨rfl, hb⟩; refine ⟨_, rfl, ?_⟩; replace HB := (bsZ HB.out hb); clear hb; refine hK.out _ _ trivial (fun hHeld => ?_); clear hK K; refine normZ 24 ?_; refine pure_ (i := 13) (N := some 25) (v := ?_) (a' := ?_) (bT 15 14) rfl rfl (any_of HT_.out Zi) (fun _ _ _ h => h) (Or.inl ⟨by rfl, ?_⟩) ?_ ?_; rotate_left
  · intro w'
    go_simp
    with_reducible rfl
  rotate_left
  · simp only [Act.put, List.setIfInBounds_toArray, List.set_cons_zero, List.set_cons_succ, i64_w, i32_w]
    rfl
  refine pure_ (i := 14) (N := some 4) (v := ?_) (a' := ?_) (bT 15 15) rfl rfl (any_of HT_.out Zi) (fun _ _ _ h => h) (Or.inl ⟨by rfl, ?_⟩) ?_ ?_; rotate_left
  · intro w'
    go_simp
    with_reducible rfl
  rotate_left
  · simp only [Act.put, List.setIfInBounds_toArray, List.set_cons_zero, List.set_cons_succ, i64_w, i32_w]
    rfl
  refine done_ (done_of HT_.out Zi) ?_
  try go_wp2
  go_ret
  exact ⟨rfl, HB.out⟩
theorem one89 : Try.prog.cellsOf 2 = 1 := by kernel_rfl
theorem size89 : Try.prog.cellsOf 89 = 2 := by kernel_rfl
def Pr89 (x : S89) : Prop := I64 x.f0 ∧ I64 x.f1
theorem open_S89 {H : Type} {enc : TypeId × Value → H} {W : World} {base : Nat} {sp : Nat → Bool} {held : Bool} {fuel : Nat} {cs : List Value} {y : DataW H × List MemPlace} (h : DataW.trod enc Try.prog W base sp held fuel 89 cs = some y) (w : World) : ∃ a : S89, k89.K w a cs ∧ Pr89 a := by
  obtain ⟨xs, n, _, rfl, hl, hlen, hf⟩ := DataW.trod_struct Try.underlying89 h; rw [size89] at hl; obtain ⟨v0, e0, _, w0⟩ := DataW.trod_int Try.underlying2 ((hf 0 _ rfl).trans (List.getElem?_eq_getElem Zw)); have g0 : cs[0]? = some (.int .i64 v0) := one_cell (by have z : List.take (Try.prog.cellsOf 2) (List.drop 0 cs) = [.int .i64 v0] := e0; rw [one89] at z; exact z); obtain ⟨v1, e1, _, w1⟩ := DataW.trod_int Try.underlying2 ((hf 1 _ rfl).trans (List.getElem?_eq_getElem Zw)); have g1 : cs[1]? = some (.int .i64 v1) := one_cell (by have z : List.take (Try.prog.cellsOf 2) (List.drop 1 cs) = [.int .i64 v1] := e1; rw [one89] at z; exact z)
  have hcs : cs = [.int .i64 v0, .int .i64 v1] := by
    apply List.ext_getElem?
    intro i
    match i with
    | 0 => exact g0
    | 1 => exact g1
    | i + 2 => rw [List.getElem?_eq_none (by omega)]; rfl
  subst hcs; exact ⟨⟨v0, v1⟩, k89_mk w _, I64_of w0, I64_of w1⟩
end Go.Proofs.Ytnifblnlpepehaa.F
namespace Go.Proofs.Ytnifblnlpepehaa.F
open Go.RowKit Go.Proofs.YtnifblnlpepehaaW.PrintWords Go.Proofs.YtnifblnlpepehaaW.PrintLast Go.Proofs.YtnifblnlpepehaaW.PrintMore
attribute [local go_sem] max2_int min2_int max_two min_two max_three min_three max_four min_four
set_option linter.unusedVariables false
set_option linter.unusedSimpArgs false
def laws_markText.l0 : Nat → Int → ByteArray → Option (ByteArray)
 | 0, _, _ => none
 | k + 1, x0, x3 => if x0 > 0 then ((some (([(wrap64 (48 + (Int.tmod x0 10))) % 256] : List Int) : List Int)).bind fun y1001 => (if (strOfNums y1001).size + x3.size ≤ 9223372036854775807 then (laws_markText.l0 k (wrap64 (Int.tdiv x0 10)) ((strOfNums y1001) ++ x3)) else (none))) else (if 1 + x3.size ≤ 9223372036854775807 then (some ((⟨#[109]⟩ : ByteArray) ++ x3)) else (none))
def laws_markText.f (k : Nat) (a0 : Int) : Option (ByteArray) := if a0 ≤ 0 then (some (⟨#[109, 48]⟩ : ByteArray)) else (laws_markText.l0 k a0 (⟨#[]⟩ : ByteArray))
theorem laws_markText.mono_l : ∀ k, (∀ y0 y1, LeO (laws_markText.l0 k y0 y1) (laws_markText.l0 (k + 1) y0 y1))
 | 0 => fun _ _ r h => by simp [laws_markText.l0] at h
 | k + 1 => by
  have ih0 := laws_markText.mono_l k
  ·intro y0 y1
   unfold laws_markText.l0
   repeat' first
   | (with_reducible exact ih0 _ _)
   | (with_reducible exact LeO.refl _)
   | (with_reducible exact LeO.none _)
   | (with_reducible refine LeO.ite ?_ ?_)
   | (with_reducible refine LeO.bind ?_ (fun _ => ?_))
   | exact ih0 _ _
   | exact LeO.none _
   | refine LeO.ite ?_ ?_
   | refine LeO.bind ?_ (fun _ => ?_)
theorem laws_markText.mono : ∀ a0 k, LeO (laws_markText.f k a0) (laws_markText.f (k + 1) a0) := by
 intro a0 k; have ih0 := laws_markText.mono_l k
 unfold laws_markText.f
 repeat' first
   | (with_reducible exact ih0 _ _)
   | (with_reducible exact LeO.refl _)
   | (with_reducible exact LeO.none _)
   | (with_reducible refine LeO.ite ?_ ?_)
   | (with_reducible refine LeO.bind ?_ (fun _ => ?_))
   | exact ih0 _ _
   | exact LeO.none _
   | refine LeO.ite ?_ ?_
   | refine LeO.bind ?_ (fun _ => ?_)
set_option maxHeartbeats 8000000 in
set_option maxRecDepth 100000 in
theorem laws_markText.calls (k : Nat) (a0 : Int) (r : ByteArray) (w : World) (h : laws_markText.f k a0 = some r) :
  Calls Try.prog 69 #[.int .i64 a0] w fun e w' => e = .returned (.string r) ∧ Below w.heap.size w w' := by
 have HB := am_ (Below.refl w.heap.size w); have H : (if a0 ≤ 0 then (some (⟨#[109, 48]⟩ : ByteArray)) else (laws_markText.l0 k a0 (⟨#[]⟩ : ByteArray))) = some r := h; clear h
 by_cases c2 : a0 ≤ 0
 ·rw [if_pos c2] at H
  have c2b0 := decide_eq_true c2; clear c2; obtain rfl := Option.some.inj H
  go_enter Try.func69, Try.ntmps69
  go_wp2
  go_ret
  exact ⟨Zj, Zd⟩
 ·rw [if_neg c2] at H
  have c2b0 := decide_eq_false c2; clear c2; have H' := am_ H; clear H
  go_enter Try.func69, Try.ntmps69
  go_wp2
  go_loopg [0, 3] k (fun kq v0 v3 w' => ∃ (x0_1 : Int) (x3_1 : ByteArray), v0 = .int .i64 x0_1 ∧ v3 = .string x3_1 ∧ Aside0 (laws_markText.l0 kq x0_1 x3_1 = some r) ∧ Aside0 (kq ≤ k) ∧ Aside0 (Below w.heap.size w w'))
  case atStart => exact ⟨(a0), ((⟨#[]⟩ : ByteArray)), Za, Za, H', ⟨Nat.le_refl _⟩, ⟨Zd⟩⟩
  case round =>
   clear H'
   try clear c2
   try clear c2b0
   try clear p2
   obtain ⟨x0_1, x3_1, rfl, rfl, HA, HK1, HB⟩ := hrel
   cases gk with
   | zero => exact absurd HA.out (by simp [laws_markText.l0])
   | succ k1 =>
    have H := HA.out; clear HA; simp only [laws_markText.l0] at H
    by_cases c3 : x0_1 > 0
    ·rw [if_pos c3] at H
     have c3b0 : decide (0 < x0_1) = true := decide_eq_true c3; clear c3; obtain ⟨y1001, hy1001⟩ : ∃ y_ : List Int, y_ = (([(wrap64 (48 + (Int.tmod x0_1 10))) % 256] : List Int)) := ⟨_, rfl⟩
     (first | (rw [← hy1001] at H; with_reducible replace H := bindZ H) | rw [← hy1001] at H | skip)
     have Ny1001 := am_ hy1001; clear hy1001
     by_cases c4 : (strOfNums y1001).size + x3_1.size ≤ 9223372036854775807
     ·rw [if_pos c4] at H
      have c4b0 := eq_true c4; have c4b1 := decide_eq_true c4
      try have c4b2 : (9223372036854775807 < (strOfNums y1001).size + x3_1.size) = False := eq_false (Nat.not_lt.2 c4)
      have H' := am_ H; clear H
      go_wp2_with (first | ((with_reducible refine gate_dst (N := 12) rfl ?_); refine Kd.R_lit (Kd.int .u8) _ 5 ?hg (N := 12) ?hd (xs := ([(wrap64 (48 + (Int.tmod x0_1 10))) % 256] : List Int)) (inner := [.int .u8 ((wrap64 (48 + (Int.tmod x0_1 10))) % 256)]) (ok := fun _ => True) (okp := fun _ => True) ?hr ?hp (fun _ hk => hk) trivial (Below.refl _ _) (Nat.le_refl _) (by simp) ?_; (case hd => rfl); (case hg => rfl); (case hr => first | (go_simp; done) | (go_simp; rfl)); (case hp => exact (Reps.one (show Kd.M (Kd.int .u8) _ _ _ ((wrap64 (48 + (Int.tmod x0_1 10))) % 256) [.int .u8 ((wrap64 (48 + (Int.tmod x0_1 10))) % 256)] from rfl) (Reps.none _ _))); intro v1002 w5 ho6 hb hg_ hnew_; clear hg_ hnew_; (first | rw [← Ny1001.out] at ho6 | (simp only [Int.reduceToNat] at ho6; rw [← Ny1001.out] at ho6)); replace HO1003 := am_ (Kd.R_lower ho6 (below_size Zd)); replace HB := (bsZ Zd hb); clear hb ho6; have hcv7 := own_string (P := Try.prog) Try.underlying42 Try.underlying5 Try.underlying9 (Kd.own_of_R HO1003.out)))
      go_roundg k1
      case measure => have := HK1.out; omega
      case rel => exact ⟨(wrap64 (Int.tdiv x0_1 10)), ((strOfNums y1001) ++ x3_1), Za, Za, H', ⟨Zs⟩, ⟨Zd⟩⟩
     ·rw [if_neg c4] at H
      exact absurd H (by simp)
    ·rw [if_neg c3] at H
     have c3b0 : decide (0 < x0_1) = false := decide_eq_false c3; clear c3
     by_cases c8 : 1 + x3_1.size ≤ 9223372036854775807
     ·rw [if_pos c8] at H
      have c8b0 := eq_true c8; have c8b1 := decide_eq_true c8
      try have c8b2 : (9223372036854775807 < 1 + x3_1.size) = False := eq_false (Nat.not_lt.2 c8)
      obtain rfl := Option.some.inj H
      go_wp2
      go_ret
      exact ⟨Zj, Zd⟩
     ·rw [if_neg c8] at H
      exact absurd H (by simp)
end Go.Proofs.Ytnifblnlpepehaa.F
