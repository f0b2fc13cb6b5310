import Derived.Test.YthhijbdekboahaaJFnEveryBurst1
import Derived.Below
import Derived.Deep.Draws
import Derived.Deep.AppendLies
import Derived.Maps.AppendAt
import Derived.OwnWalk
import Derived.Laws.BytesArg
import Derived.Laws.MakeOwn
import Derived.Laws.OwnMore
import Derived.Tactics
import Derived.Lib.ConvBytes
import Derived.Laws.Slices
import Derived.WalkKit
import Derived.KernelRfl
import Derived.RowKit3
import Derived.Deep.LoopGhost
import Derived.Deep.QuietTactic
import Derived.BigQuiet
import Derived.WideLaws
import Derived.Deep.DeepCutAuto
import Derived.Deep.CutBlock
import Derived.Deep.RegionHeld3
import Derived.Lib.AppendStr
import Derived.ArgAppend
import Derived.Laws.IdiomCopy
import Derived.RowKit
import Derived.OrdersHeld
import Derived.Laws.BitsLemmas
import Derived.Laws.StructEq
import Derived.Test.YthhijbdekboahaaProg
import Derived.ChangeSlices
import Derived.OpenShut
import Derived.Laws.Cover1
namespace Go.Proofs.Ythhijbdekboahaa.F
open Go.RowKit Go.Proofs.YthhijbdekboahaaW.PrintWords Go.Proofs.YthhijbdekboahaaW.PrintLast Go.Proofs.YthhijbdekboahaaW.PrintMore
attribute [local go_sem] max2_int min2_int max_two min_two max_three min_three max_four min_four   -- for this text's walks alone
set_option linter.unusedVariables false
set_option linter.unusedSimpArgs false
def errW : Option Int → Value
 | none => .nilIface
 | some c => .iface 0 (.int .i64 c)
theorem errW_none : errW none = .nilIface := rfl
theorem errW_some (c : Int) : errW (some c) = .iface 0 (.int .i64 c) := rfl
theorem info33 : (Try.prog.info? 33).map (fun i => (i.zero, i.size, i.bytes)) = some (some (.slice none 0 0), 1, 24) := by kernel_rfl
theorem info104 : (Try.prog.info? 104).map (fun i => (i.zero, i.size, i.bytes)) = some (some (.agg #[(.int .i64 0), (.int .i64 0)]), 2, 16) := by kernel_rfl
structure S62 where
 f0 : ByteArray
 f1 : Int
 f2 : Int
 f3 : Int
 f4 : Int
 f5 : Int
 f6 : Int
 f7 : Int
 f8 : Int
def z62 : S62 := ⟨(⟨#[]⟩ : ByteArray), (0 : Int), (0 : Int), (0 : Int), (0 : Int), (0 : Int), (0 : Int), (0 : Int), (0 : Int)⟩
def k62 : Kd S62 := Kd.iso (Kd.pair Kd.string (Kd.pair (Kd.int .i64) (Kd.pair (Kd.int .i64) (Kd.pair (Kd.int .i64) (Kd.pair (Kd.int .i64) (Kd.pair (Kd.int .i64) (Kd.pair (Kd.int .i64) (Kd.pair (Kd.int .i64) (Kd.int .i64))))))))) (fun x : S62 => (x.f0, x.f1, x.f2, x.f3, x.f4, x.f5, x.f6, x.f7, x.f8))
theorem k62_open {w : World} {x : S62} {cs : List Value} (h : k62.K w x cs) : cs = [.string x.f0, .int .i64 x.f1, .int .i64 x.f2, .int .i64 x.f3, .int .i64 x.f4, .int .i64 x.f5, .int .i64 x.f6, .int .i64 x.f7, .int .i64 x.f8] := by
 obtain ⟨_, _, rfl, rfl, ⟨_, _, rfl, rfl, ⟨_, _, rfl, rfl, ⟨_, _, rfl, rfl, ⟨_, _, rfl, rfl, ⟨_, _, rfl, rfl, ⟨_, _, rfl, rfl, ⟨_, _, rfl, rfl, rfl⟩⟩⟩⟩⟩⟩⟩⟩ := h
 exact rfl
theorem k62_mk (w : World) (x : S62)  : k62.K w x [.string x.f0, .int .i64 x.f1, .int .i64 x.f2, .int .i64 x.f3, .int .i64 x.f4, .int .i64 x.f5, .int .i64 x.f6, .int .i64 x.f7, .int .i64 x.f8] := ⟨[.string x.f0], [.int .i64 x.f1, .int .i64 x.f2, .int .i64 x.f3, .int .i64 x.f4, .int .i64 x.f5, .int .i64 x.f6, .int .i64 x.f7, .int .i64 x.f8], rfl, rfl, ⟨[.int .i64 x.f1], [.int .i64 x.f2, .int .i64 x.f3, .int .i64 x.f4, .int .i64 x.f5, .int .i64 x.f6, .int .i64 x.f7, .int .i64 x.f8], rfl, rfl, ⟨[.int .i64 x.f2], [.int .i64 x.f3, .int .i64 x.f4, .int .i64 x.f5, .int .i64 x.f6, .int .i64 x.f7, .int .i64 x.f8], rfl, rfl, ⟨[.int .i64 x.f3], [.int .i64 x.f4, .int .i64 x.f5, .int .i64 x.f6, .int .i64 x.f7, .int .i64 x.f8], rfl, rfl, ⟨[.int .i64 x.f4], [.int .i64 x.f5, .int .i64 x.f6, .int .i64 x.f7, .int .i64 x.f8], rfl, rfl, ⟨[.int .i64 x.f5], [.int .i64 x.f6, .int .i64 x.f7, .int .i64 x.f8], rfl, rfl, ⟨[.int .i64 x.f6], [.int .i64 x.f7, .int .i64 x.f8], rfl, rfl, ⟨[.int .i64 x.f7], [.int .i64 x.f8], rfl, rfl, rfl⟩⟩⟩⟩⟩⟩⟩⟩
def rd_T62 (xs : List S62) (i : Int) : S62 := xs.getD i.toNat z62
theorem at_T62 {w : World} {A : Option Addr} {n : Nat} {xs : List S62} (h : Kd.C k62 w A n xs) (i : Int) (h0 : 0 ≤ i) (h1 : i < n) : ∃ ad , A = some ad ∧ w.cell? (ad.add (i.toNat * 9)) = some (.string (rd_T62 xs i).f0) ∧ w.cell? ⟨(ad.add (i.toNat * 9)).block, (ad.add (i.toNat * 9)).off + 1, none⟩ = some (.int .i64 (rd_T62 xs i).f1) ∧ w.cell? ⟨(ad.add (i.toNat * 9)).block, (ad.add (i.toNat * 9)).off + 2, none⟩ = some (.int .i64 (rd_T62 xs i).f2) ∧ w.cell? ⟨(ad.add (i.toNat * 9)).block, (ad.add (i.toNat * 9)).off + 3, none⟩ = some (.int .i64 (rd_T62 xs i).f3) ∧ w.cell? ⟨(ad.add (i.toNat * 9)).block, (ad.add (i.toNat * 9)).off + 4, none⟩ = some (.int .i64 (rd_T62 xs i).f4) ∧ w.cell? ⟨(ad.add (i.toNat * 9)).block, (ad.add (i.toNat * 9)).off + 5, none⟩ = some (.int .i64 (rd_T62 xs i).f5) ∧ w.cell? ⟨(ad.add (i.toNat * 9)).block, (ad.add (i.toNat * 9)).off + 6, none⟩ = some (.int .i64 (rd_T62 xs i).f6) ∧ w.cell? ⟨(ad.add (i.toNat * 9)).block, (ad.add (i.toNat * 9)).off + 7, none⟩ = some (.int .i64 (rd_T62 xs i).f7) ∧ w.cell? ⟨(ad.add (i.toNat * 9)).block, (ad.add (i.toNat * 9)).off + 8, none⟩ = some (.int .i64 (rd_T62 xs i).f8) := by
 obtain ⟨ad, c, e, _, hK, hc0⟩ := Kd.C_get h z62 i h0 h1
 have hc : ∀ j u, c[j]? = some u → w.cell? (ad.add (i.toNat * 9 + j)) = some u := hc0
 obtain rfl := k62_open hK
 exact ⟨ad, e, hc 0 _ rfl, by rw [← add_field _ _ 1 (by omega)]; exact hc 1 _ rfl, by rw [← add_field _ _ 2 (by omega)]; exact hc 2 _ rfl, by rw [← add_field _ _ 3 (by omega)]; exact hc 3 _ rfl, by rw [← add_field _ _ 4 (by omega)]; exact hc 4 _ rfl, by rw [← add_field _ _ 5 (by omega)]; exact hc 5 _ rfl, by rw [← add_field _ _ 6 (by omega)]; exact hc 6 _ rfl, by rw [← add_field _ _ 7 (by omega)]; exact hc 7 _ rfl, by rw [← add_field _ _ 8 (by omega)]; exact hc 8 _ rfl⟩
structure S104 where
 f0 : Int
 f1 : Int
def z104 : S104 := ⟨(0 : Int), (0 : Int)⟩
def k104 : Kd S104 := Kd.iso (Kd.pair (Kd.int .i64) (Kd.int .i64)) (fun x : S104 => (x.f0, x.f1))
theorem k104_open {w : World} {x : S104} {cs : List Value} (h : k104.K w x cs) : cs = [.int .i64 x.f0, .int .i64 x.f1] := by
 obtain ⟨_, _, rfl, rfl, rfl⟩ := h
 exact rfl
theorem k104_mk (w : World) (x : S104)  : k104.K w x [.int .i64 x.f0, .int .i64 x.f1] := ⟨[.int .i64 x.f0], [.int .i64 x.f1], rfl, rfl, rfl⟩
def rd_T104 (xs : List S104) (i : Int) : S104 := xs.getD i.toNat z104
theorem at_T104 {w : World} {A : Option Addr} {n : Nat} {xs : List S104} (h : Kd.C k104 w A n xs) (i : Int) (h0 : 0 ≤ i) (h1 : i < n) : ∃ ad , A = some ad ∧ w.cell? (ad.add (i.toNat * 2)) = some (.int .i64 (rd_T104 xs i).f0) ∧ w.cell? ⟨(ad.add (i.toNat * 2)).block, (ad.add (i.toNat * 2)).off + 1, none⟩ = some (.int .i64 (rd_T104 xs i).f1) := by
 obtain ⟨ad, c, e, _, hK, hc0⟩ := Kd.C_get h z104 i h0 h1
 have hc : ∀ j u, c[j]? = some u → w.cell? (ad.add (i.toNat * 2 + j)) = some u := hc0
 obtain rfl := k104_open hK
 exact ⟨ad, e, hc 0 _ rfl, by rw [← add_field _ _ 1 (by omega)]; exact hc 1 _ rfl⟩
structure S39 where
 f0 : Int
 f1 : Int
 f2 : ByteArray
 f3 : Int
def z39 : S39 := ⟨(0 : Int), (0 : Int), (⟨#[]⟩ : ByteArray), (0 : Int)⟩
def k39 : Kd S39 := Kd.iso (Kd.pair (Kd.int .i64) (Kd.pair (Kd.int .i64) (Kd.pair Kd.string (Kd.int .i64)))) (fun x : S39 => (x.f0, x.f1, x.f2, x.f3))
theorem k39_open {w : World} {x : S39} {cs : List Value} (h : k39.K w x cs) : cs = [.int .i64 x.f0, .int .i64 x.f1, .string x.f2, .int .i64 x.f3] := by
 obtain ⟨_, _, rfl, rfl, ⟨_, _, rfl, rfl, ⟨_, _, rfl, rfl, rfl⟩⟩⟩ := h
 exact rfl
theorem k39_mk (w : World) (x : S39)  : k39.K w x [.int .i64 x.f0, .int .i64 x.f1, .string x.f2, .int .i64 x.f3] := ⟨[.int .i64 x.f0], [.int .i64 x.f1, .string x.f2, .int .i64 x.f3], rfl, rfl, ⟨[.int .i64 x.f1], [.string x.f2, .int .i64 x.f3], rfl, rfl, ⟨[.string x.f2], [.int .i64 x.f3], rfl, rfl, rfl⟩⟩⟩
def rd_T39 (xs : List S39) (i : Int) : S39 := xs.getD i.toNat z39
theorem at_T39 {w : World} {A : Option Addr} {n : Nat} {xs : List S39} (h : Kd.C k39 w A n xs) (i : Int) (h0 : 0 ≤ i) (h1 : i < n) : ∃ ad , A = some ad ∧ w.cell? (ad.add (i.toNat * 4)) = some (.int .i64 (rd_T39 xs i).f0) ∧ w.cell? ⟨(ad.add (i.toNat * 4)).block, (ad.add (i.toNat * 4)).off + 1, none⟩ = some (.int .i64 (rd_T39 xs i).f1) ∧ w.cell? ⟨(ad.add (i.toNat * 4)).block, (ad.add (i.toNat * 4)).off + 2, none⟩ = some (.string (rd_T39 xs i).f2) ∧ w.cell? ⟨(ad.add (i.toNat * 4)).block, (ad.add (i.toNat * 4)).off + 3, none⟩ = some (.int .i64 (rd_T39 xs i).f3) := by
 obtain ⟨ad, c, e, _, hK, hc0⟩ := Kd.C_get h z39 i h0 h1
 have hc : ∀ j u, c[j]? = some u → w.cell? (ad.add (i.toNat * 4 + j)) = some u := hc0
 obtain rfl := k39_open hK
 exact ⟨ad, e, hc 0 _ rfl, by rw [← add_field _ _ 1 (by omega)]; exact hc 1 _ rfl, by rw [← add_field _ _ 2 (by omega)]; exact hc 2 _ rfl, by rw [← add_field _ _ 3 (by omega)]; exact hc 3 _ rfl⟩
def rd_L6 (xs : List (List Int)) (i : Int) : (List Int) := xs.getD i.toNat ([] : List Int)
theorem at_L6 {w : World} {A : Option Addr} {n : Nat} {xs : List (List Int)} (h : Kd.C (Kd.slice 2 (Kd.int .i64)) w A n xs) (i : Int) (h0 : 0 ≤ i) (h1 : i < n) : ∃ ad A0 c0, A = some ad ∧ w.cell? (ad.add i.toNat) = some (.slice A0 (rd_L6 xs i).length c0) ∧ (rd_L6 xs i).length ≤ c0 ∧ (Kd.int .i64).C w A0 (rd_L6 xs i).length (rd_L6 xs i) := by
 obtain ⟨ad, c, e, _, hK, hc0⟩ := Kd.C_get h ([] : List Int) i h0 h1
 have hc : ∀ j u, c[j]? = some u → w.cell? (ad.add (i.toNat * 1 + j)) = some u := hc0
 obtain ⟨A0, c0, rfl, l0, g0⟩ := hK
 exact ⟨ad, A0, c0, e, by have hq := hc 0 _ rfl; rwa [Nat.mul_one, Nat.add_zero] at hq, l0, g0⟩
end Go.Proofs.Ythhijbdekboahaa.F
namespace Go.Proofs.Ythhijbdekboahaa.F
open Go.RowKit Go.Proofs.YthhijbdekboahaaW.PrintWords Go.Proofs.YthhijbdekboahaaW.PrintLast Go.Proofs.YthhijbdekboahaaW.PrintMore
theorem am_ {p : Prop} (h : p) : Aside0 p := ⟨h⟩
theorem cbH {w w1 : World} {a : Addr} {v : Value} (HB : Aside0 (Below w.heap.size w w1)) (h : w.cell? a = some v) : w1.cell? a = some v := (HB.out.cell (World.block_lt_of_cell? w _ h)).trans h
theorem Zput {P : Prop} (h : P := by simp only [Act.put, List.setIfInBounds_toArray, List.set_cons_zero, List.set_cons_succ, i64_w, i32_w]; rfl) : P := h
theorem Zrun {P : Prop} (h : P := by intro w'; go_simp; with_reducible rfl) : P := h
theorem pureZ {P : Program} {ops : Array Oper} {Q : Exit → Act → World → Prop} {md : Region.Mode} {S : World → Prop} {ds : List Nat} {T : Bool × List (List Nat × List Nat)} (HT_ : Aside0 (rtab md ops = T)) (i : Nat) (N : Option Tmp) (l' : Array Bool) {oi : Oper} {v : Value} {fuel : Nat} {l : Array Bool} {a a' : Act} {w : World} (h : wpAnyLast P md ops Q S ds fuel l' a' w)
    (hi : ops[i]? = some oi := by rfl) (hN : oi.dst = N := by rfl) (hc : anyT T l.toList l'.toList i = true := by kernel_rfl) (hQ : ∀ c a w, Q (.panic c) (a.put oi.dst v) w → Q (.panic c) a w := by exact fun _ _ _ h => h) (hy : Yields P ops oi v a := by exact Or.inl ⟨by rfl, by intro w'; go_simp; with_reducible rfl⟩) (ha : a.put N v = a' := by simp only [Act.put, List.setIfInBounds_toArray, List.set_cons_zero, List.set_cons_succ, i64_w, i32_w]; rfl) : wpAnyLast P md ops Q S ds (fuel + 1) l a w := pure_ l' hi hN (any_of HT_.out hc) hQ hy ha h
theorem boxZ {P : Program} {ops : Array Oper} {Q : Exit → Act → World → Prop} {rest : List Oper} {o : Oper} {a : Act} {W : World} (N : Tmp) (cs : Array Value) (t : TypeId) (h : ∀ g, g = W.heap.size → ∀ w1, w1.heap[g]? = some (.cells cs t (0, 0)) → Below W.heap.size W w1 → wpList P ops Q rest (a.put o.dst (.pointer (some ⟨g, 0, none⟩))) w1)
    (hd : o.dst = some N := by rfl) (hg : o.guard = none := by rfl) (hr : (execOp a.eval o).run P W = .ok (.value (.pointer (some ⟨W.heap.size, 0, none⟩))) (W.alloc (.cells cs t (0, 0))) := by first | (go_simp; done) | (go_simp; rfl)) : wpList P ops Q (o :: rest) a W := box_event hg hd hr h
theorem normZ {P : Program} {ops : Array Oper} {Q : Exit → Act → World → Prop} {md : Region.Mode} {S : World → Prop} {ds : List Nat} {fuel : Nat} {l : Array Bool} {a a' : Act} {v : Value} {w : World} (N : Tmp) (h : wpAnyLast P md ops Q S ds fuel l a' w) (ha : Act.put a (some N) v = a' := by simp only [Act.put, List.setIfInBounds_toArray, List.set_cons_zero, List.set_cons_succ, i64_w, i32_w]; rfl) : wpAnyLast P md ops Q S ds fuel l (Act.put a (some N) v) w := norm_ ha h
theorem normP {P : Program} {ops : Array Oper} {Q : Exit → Act → World → Prop} {md : Region.Mode} {S : World → Prop} {ds : List Nat} {fuel : Nat} {l : Array Bool} {a a' : Act} {w : World} (h : wpAnyLast P md ops Q S ds fuel l a' w) (ha : a = a' := by simp only [putAll, Act.put, List.setIfInBounds_toArray, List.set_cons_zero, List.set_cons_succ]; rfl) : wpAnyLast P md ops Q S ds fuel l a w := norm_ ha h
theorem bkZ {w w1 : World} {g : Nat} {o : Obj} (hb : Below w.heap.size w w1) (h : w.heap[g]? = some o := by (with_reducible repeat (first | refine blk_drewN ?_ _ | refine blk_drew ?_ | refine blk_alloc ?_ _)); exact z0_.out) : Aside0 (w1.heap[g]? = some o) := ⟨blk_below h hb⟩
theorem pureU {P : Program} {ops : Array Oper} {Q : Exit → Act → World → Prop} {md : Region.Mode} {S : World → Prop} {ds : List Nat} {T : Bool × List (List Nat × List Nat)} (HT_ : Aside0 (rtab md ops = T)) (i : Nat) (N : Option Tmp) (l' : Array Bool) {oi : Oper} {fuel : Nat} {l : Array Bool} {a a' : Act} {w : World} (h : wpAnyLast P md ops Q S ds fuel l' a' w)
    (hi : ops[i]? = some oi := by rfl) (hN : oi.dst = N := by rfl) (hc : anyT T l.toList l'.toList i = true := by kernel_rfl) (hQ : ∀ c a w, Q (.panic c) (a.put oi.dst undef) w → Q (.panic c) a w := by exact fun _ _ _ h => h) (hy : Yields P ops oi undef a := by exact Or.inr ⟨by rfl, rfl⟩) (ha : a.put N undef = a' := by simp only [Act.put, List.setIfInBounds_toArray, List.set_cons_zero, List.set_cons_succ, i64_w, i32_w]; rfl) : wpAnyLast P md ops Q S ds (fuel + 1) l a w := pure_ l' hi hN (any_of HT_.out hc) hQ hy ha h
theorem bindZ {α β : Type} {a : α} {f : α → Option β} {r : Option β} (H : (some a).bind f = r) : f a = r := H
theorem bsZ {w0 w w1 : World} (h : Below w0.heap.size w0 w) (hb : Below w.heap.size w w1) : Aside0 (Below w0.heap.size w0 w1) := ⟨below_step h hb⟩
def bT (n k : Nat) : Array Bool := (List.replicate k true ++ List.replicate (n - k) false).toArray
theorem cz2 {w : World} {g t : Nat} {a0 a1 : Value} (h : Aside0 (w.heap[g]? = some (.cells #[a0, a1] t (0, 0)))) : w.cell? ⟨g, 0, none⟩ = some a0 ∧ w.cell? ⟨g, 1, none⟩ = some a1 ∧ w.frozen? ⟨g, 0, none⟩ = false ∧ w.frozen? ⟨g, 1, none⟩ = false := ⟨(blk_cell h.out 0).trans rfl, (blk_cell h.out 1).trans rfl, blk_frozen h.out 0, blk_frozen h.out 1⟩
theorem cz3 {w : World} {g t : Nat} {a0 a1 a2 : Value} (h : Aside0 (w.heap[g]? = some (.cells #[a0, a1, a2] t (0, 0)))) : w.cell? ⟨g, 0, none⟩ = some a0 ∧ w.cell? ⟨g, 1, none⟩ = some a1 ∧ w.cell? ⟨g, 2, none⟩ = some a2 ∧ w.frozen? ⟨g, 0, none⟩ = false ∧ w.frozen? ⟨g, 1, none⟩ = false ∧ w.frozen? ⟨g, 2, none⟩ = false := ⟨(blk_cell h.out 0).trans rfl, (blk_cell h.out 1).trans rfl, (blk_cell h.out 2).trans rfl, blk_frozen h.out 0, blk_frozen h.out 1, blk_frozen h.out 2⟩
theorem cz4 {w : World} {g t : Nat} {a0 a1 a2 a3 : Value} (h : Aside0 (w.heap[g]? = some (.cells #[a0, a1, a2, a3] t (0, 0)))) : w.cell? ⟨g, 0, none⟩ = some a0 ∧ w.cell? ⟨g, 1, none⟩ = some a1 ∧ w.cell? ⟨g, 2, none⟩ = some a2 ∧ w.cell? ⟨g, 3, none⟩ = some a3 ∧ w.frozen? ⟨g, 0, none⟩ = false ∧ w.frozen? ⟨g, 1, none⟩ = false ∧ w.frozen? ⟨g, 2, none⟩ = false ∧ w.frozen? ⟨g, 3, none⟩ = false := ⟨(blk_cell h.out 0).trans rfl, (blk_cell h.out 1).trans rfl, (blk_cell h.out 2).trans rfl, (blk_cell h.out 3).trans rfl, blk_frozen h.out 0, blk_frozen h.out 1, blk_frozen h.out 2, blk_frozen h.out 3⟩
theorem cz9 {w : World} {g t : Nat} {a0 a1 a2 a3 a4 a5 a6 a7 a8 : Value} (h : Aside0 (w.heap[g]? = some (.cells #[a0, a1, a2, a3, a4, a5, a6, a7, a8] t (0, 0)))) : w.cell? ⟨g, 0, none⟩ = some a0 ∧ w.cell? ⟨g, 1, none⟩ = some a1 ∧ w.cell? ⟨g, 2, none⟩ = some a2 ∧ w.cell? ⟨g, 3, none⟩ = some a3 ∧ w.cell? ⟨g, 4, none⟩ = some a4 ∧ w.cell? ⟨g, 5, none⟩ = some a5 ∧ w.cell? ⟨g, 6, none⟩ = some a6 ∧ w.cell? ⟨g, 7, none⟩ = some a7 ∧ w.cell? ⟨g, 8, none⟩ = some a8 ∧ w.frozen? ⟨g, 0, none⟩ = false ∧ w.frozen? ⟨g, 1, none⟩ = false ∧ w.frozen? ⟨g, 2, none⟩ = false ∧ w.frozen? ⟨g, 3, none⟩ = false ∧ w.frozen? ⟨g, 4, none⟩ = false ∧ w.frozen? ⟨g, 5, none⟩ = false ∧ w.frozen? ⟨g, 6, none⟩ = false ∧ w.frozen? ⟨g, 7, none⟩ = false ∧ w.frozen? ⟨g, 8, none⟩ = false := ⟨(blk_cell h.out 0).trans rfl, (blk_cell h.out 1).trans rfl, (blk_cell h.out 2).trans rfl, (blk_cell h.out 3).trans rfl, (blk_cell h.out 4).trans rfl, (blk_cell h.out 5).trans rfl, (blk_cell h.out 6).trans rfl, (blk_cell h.out 7).trans rfl, (blk_cell h.out 8).trans rfl, blk_frozen h.out 0, blk_frozen h.out 1, blk_frozen h.out 2, blk_frozen h.out 3, blk_frozen h.out 4, blk_frozen h.out 5, blk_frozen h.out 6, blk_frozen h.out 7, blk_frozen h.out 8⟩
theorem takeZ2 {P : Program} {ops : Array Oper} {Q : Exit → Act → World → Prop} {md : Region.Mode} {S : World → Prop} {ds : List Nat} {T : Bool × List (List Nat × List Nat)} {B : List Nat} (HT_ : Aside0 (rtab md ops = T)) (HW_ : Aside0 (waitsOk T.2 B = true)) (i : Nat) (N : Option Tmp) (l' : Array Bool) {oi : Oper} {v : Value} {fuel : Nat} {l : Array Bool} {a a' : Act} {w : World} (hS : S w) (h : wpAnyLast P md ops Q S ds fuel l' a' w)
    (hi : ops[i]? = some oi := by rfl) (hN : oi.dst = N := by rfl) (hc : takeW T B ds l.toList l'.toList i = true := by kernel_rfl) (hQ : ∀ c a w, Q (.panic c) (a.put oi.dst v) w → Q (.panic c) a w := by exact fun _ _ _ h => h) (hy : YieldsIf P ops S oi v a := by refine Or.inl ⟨by rfl, ?_⟩; rintro w' ⟨s0, s1⟩; go_simp; with_reducible rfl) (ha : a.put N v = a' := by simp only [Act.put, List.setIfInBounds_toArray, List.set_cons_zero, List.set_cons_succ, i64_w, i32_w]; rfl) : wpAnyLast P md ops Q S ds (fuel + 1) l a w := take_ l' hi hN (take_ofW HT_.out HW_.out hc) hQ hy hS ha h
theorem takeZ7 {P : Program} {ops : Array Oper} {Q : Exit → Act → World → Prop} {md : Region.Mode} {S : World → Prop} {ds : List Nat} {T : Bool × List (List Nat × List Nat)} {B : List Nat} (HT_ : Aside0 (rtab md ops = T)) (HW_ : Aside0 (waitsOk T.2 B = true)) (i : Nat) (N : Option Tmp) (l' : Array Bool) {oi : Oper} {v : Value} {fuel : Nat} {l : Array Bool} {a a' : Act} {w : World} (hS : S w) (h : wpAnyLast P md ops Q S ds fuel l' a' w)
    (hi : ops[i]? = some oi := by rfl) (hN : oi.dst = N := by rfl) (hc : takeW T B ds l.toList l'.toList i = true := by kernel_rfl) (hQ : ∀ c a w, Q (.panic c) (a.put oi.dst v) w → Q (.panic c) a w := by exact fun _ _ _ h => h) (hy : YieldsIf P ops S oi v a := by refine Or.inl ⟨by rfl, ?_⟩; rintro w' ⟨s0, s1, s2, s3, s4, s5, s6⟩; go_simp; with_reducible rfl) (ha : a.put N v = a' := by simp only [Act.put, List.setIfInBounds_toArray, List.set_cons_zero, List.set_cons_succ, i64_w, i32_w]; rfl) : wpAnyLast P md ops Q S ds (fuel + 1) l a w := take_ l' hi hN (take_ofW HT_.out HW_.out hc) hQ hy hS ha h
theorem takeZ9 {P : Program} {ops : Array Oper} {Q : Exit → Act → World → Prop} {md : Region.Mode} {S : World → Prop} {ds : List Nat} {T : Bool × List (List Nat × List Nat)} {B : List Nat} (HT_ : Aside0 (rtab md ops = T)) (HW_ : Aside0 (waitsOk T.2 B = true)) (i : Nat) (N : Option Tmp) (l' : Array Bool) {oi : Oper} {v : Value} {fuel : Nat} {l : Array Bool} {a a' : Act} {w : World} (hS : S w) (h : wpAnyLast P md ops Q S ds fuel l' a' w)
    (hi : ops[i]? = some oi := by rfl) (hN : oi.dst = N := by rfl) (hc : takeW T B ds l.toList l'.toList i = true := by kernel_rfl) (hQ : ∀ c a w, Q (.panic c) (a.put oi.dst v) w → Q (.panic c) a w := by exact fun _ _ _ h => h) (hy : YieldsIf P ops S oi v a := by refine Or.inl ⟨by rfl, ?_⟩; rintro w' ⟨s0, s1, s2, s3, s4, s5, s6, s7, s8⟩; go_simp; with_reducible rfl) (ha : a.put N v = a' := by simp only [Act.put, List.setIfInBounds_toArray, List.set_cons_zero, List.set_cons_succ, i64_w, i32_w]; rfl) : wpAnyLast P md ops Q S ds (fuel + 1) l a w := take_ l' hi hN (take_ofW HT_.out HW_.out hc) hQ hy hS ha h
theorem takeZ11 {P : Program} {ops : Array Oper} {Q : Exit → Act → World → Prop} {md : Region.Mode} {S : World → Prop} {ds : List Nat} {T : Bool × List (List Nat × List Nat)} {B : List Nat} (HT_ : Aside0 (rtab md ops = T)) (HW_ : Aside0 (waitsOk T.2 B = true)) (i : Nat) (N : Option Tmp) (l' : Array Bool) {oi : Oper} {v : Value} {fuel : Nat} {l : Array Bool} {a a' : Act} {w : World} (hS : S w) (h : wpAnyLast P md ops Q S ds fuel l' a' w)
    (hi : ops[i]? = some oi := by rfl) (hN : oi.dst = N := by rfl) (hc : takeW T B ds l.toList l'.toList i = true := by kernel_rfl) (hQ : ∀ c a w, Q (.panic c) (a.put oi.dst v) w → Q (.panic c) a w := by exact fun _ _ _ h => h) (hy : YieldsIf P ops S oi v a := by refine Or.inl ⟨by rfl, ?_⟩; rintro w' ⟨s0, s1, s2, s3, s4, s5, s6, s7, s8, s9, s10⟩; go_simp; with_reducible rfl) (ha : a.put N v = a' := by simp only [Act.put, List.setIfInBounds_toArray, List.set_cons_zero, List.set_cons_succ, i64_w, i32_w]; rfl) : wpAnyLast P md ops Q S ds (fuel + 1) l a w := take_ l' hi hN (take_ofW HT_.out HW_.out hc) hQ hy hS ha h
theorem takeZ16 {P : Program} {ops : Array Oper} {Q : Exit → Act → World → Prop} {md : Region.Mode} {S : World → Prop} {ds : List Nat} {T : Bool × List (List Nat × List Nat)} {B : List Nat} (HT_ : Aside0 (rtab md ops = T)) (HW_ : Aside0 (waitsOk T.2 B = true)) (i : Nat) (N : Option Tmp) (l' : Array Bool) {oi : Oper} {v : Value} {fuel : Nat} {l : Array Bool} {a a' : Act} {w : World} (hS : S w) (h : wpAnyLast P md ops Q S ds fuel l' a' w)
    (hi : ops[i]? = some oi := by rfl) (hN : oi.dst = N := by rfl) (hc : takeW T B ds l.toList l'.toList i = true := by kernel_rfl) (hQ : ∀ c a w, Q (.panic c) (a.put oi.dst v) w → Q (.panic c) a w := by exact fun _ _ _ h => h) (hy : YieldsIf P ops S oi v a := by refine Or.inl ⟨by rfl, ?_⟩; rintro w' ⟨s0, s1, s2, s3, s4, s5, s6, s7, s8, s9, s10, s11, s12, s13, s14, s15⟩; go_simp; with_reducible rfl) (ha : a.put N v = a' := by simp only [Act.put, List.setIfInBounds_toArray, List.set_cons_zero, List.set_cons_succ, i64_w, i32_w]; rfl) : wpAnyLast P md ops Q S ds (fuel + 1) l a w := take_ l' hi hN (take_ofW HT_.out HW_.out hc) hQ hy hS ha h
theorem takeZ18 {P : Program} {ops : Array Oper} {Q : Exit → Act → World → Prop} {md : Region.Mode} {S : World → Prop} {ds : List Nat} {T : Bool × List (List Nat × List Nat)} {B : List Nat} (HT_ : Aside0 (rtab md ops = T)) (HW_ : Aside0 (waitsOk T.2 B = true)) (i : Nat) (N : Option Tmp) (l' : Array Bool) {oi : Oper} {v : Value} {fuel : Nat} {l : Array Bool} {a a' : Act} {w : World} (hS : S w) (h : wpAnyLast P md ops Q S ds fuel l' a' w)
    (hi : ops[i]? = some oi := by rfl) (hN : oi.dst = N := by rfl) (hc : takeW T B ds l.toList l'.toList i = true := by kernel_rfl) (hQ : ∀ c a w, Q (.panic c) (a.put oi.dst v) w → Q (.panic c) a w := by exact fun _ _ _ h => h) (hy : YieldsIf P ops S oi v a := by refine Or.inl ⟨by rfl, ?_⟩; rintro w' ⟨s0, s1, s2, s3, s4, s5, s6, s7, s8, s9, s10, s11, s12, s13, s14, s15, s16, s17⟩; go_simp; with_reducible rfl) (ha : a.put N v = a' := by simp only [Act.put, List.setIfInBounds_toArray, List.set_cons_zero, List.set_cons_succ, i64_w, i32_w]; rfl) : wpAnyLast P md ops Q S ds (fuel + 1) l a w := take_ l' hi hN (take_ofW HT_.out HW_.out hc) hQ hy hS ha h
theorem takeZ27 {P : Program} {ops : Array Oper} {Q : Exit → Act → World → Prop} {md : Region.Mode} {S : World → Prop} {ds : List Nat} {T : Bool × List (List Nat × List Nat)} {B : List Nat} (HT_ : Aside0 (rtab md ops = T)) (HW_ : Aside0 (waitsOk T.2 B = true)) (i : Nat) (N : Option Tmp) (l' : Array Bool) {oi : Oper} {v : Value} {fuel : Nat} {l : Array Bool} {a a' : Act} {w : World} (hS : S w) (h : wpAnyLast P md ops Q S ds fuel l' a' w)
    (hi : ops[i]? = some oi := by rfl) (hN : oi.dst = N := by rfl) (hc : takeW T B ds l.toList l'.toList i = true := by kernel_rfl) (hQ : ∀ c a w, Q (.panic c) (a.put oi.dst v) w → Q (.panic c) a w := by exact fun _ _ _ h => h) (hy : YieldsIf P ops S oi v a := by refine Or.inl ⟨by rfl, ?_⟩; rintro w' ⟨s0, s1, s2, s3, s4, s5, s6, s7, s8, s9, s10, s11, s12, s13, s14, s15, s16, s17, s18, s19, s20, s21, s22, s23, s24, s25, s26⟩; go_simp; with_reducible rfl) (ha : a.put N v = a' := by simp only [Act.put, List.setIfInBounds_toArray, List.set_cons_zero, List.set_cons_succ, i64_w, i32_w]; rfl) : wpAnyLast P md ops Q S ds (fuel + 1) l a w := take_ l' hi hN (take_ofW HT_.out HW_.out hc) hQ hy hS ha h
theorem ci2 {w : World} {g t : Nat} {a0 a1 : Value} (h : Aside0 (w.heap[g]? = some (.cells #[a0, a1] t (0, 0)))) {P : Prop} (k : w.cell? ⟨g, 0, none⟩ = some a0 → w.cell? ⟨g, 1, none⟩ = some a1 → w.frozen? ⟨g, 0, none⟩ = false → w.frozen? ⟨g, 1, none⟩ = false → P) : P := k ((blk_cell h.out 0).trans rfl) ((blk_cell h.out 1).trans rfl) (blk_frozen h.out 0) (blk_frozen h.out 1)
theorem ci3 {w : World} {g t : Nat} {a0 a1 a2 : Value} (h : Aside0 (w.heap[g]? = some (.cells #[a0, a1, a2] t (0, 0)))) {P : Prop} (k : w.cell? ⟨g, 0, none⟩ = some a0 → w.cell? ⟨g, 1, none⟩ = some a1 → w.cell? ⟨g, 2, none⟩ = some a2 → w.frozen? ⟨g, 0, none⟩ = false → w.frozen? ⟨g, 1, none⟩ = false → w.frozen? ⟨g, 2, none⟩ = false → P) : P := k ((blk_cell h.out 0).trans rfl) ((blk_cell h.out 1).trans rfl) ((blk_cell h.out 2).trans rfl) (blk_frozen h.out 0) (blk_frozen h.out 1) (blk_frozen h.out 2)
theorem ci4 {w : World} {g t : Nat} {a0 a1 a2 a3 : Value} (h : Aside0 (w.heap[g]? = some (.cells #[a0, a1, a2, a3] t (0, 0)))) {P : Prop} (k : w.cell? ⟨g, 0, none⟩ = some a0 → w.cell? ⟨g, 1, none⟩ = some a1 → w.cell? ⟨g, 2, none⟩ = some a2 → w.cell? ⟨g, 3, none⟩ = some a3 → w.frozen? ⟨g, 0, none⟩ = false → w.frozen? ⟨g, 1, none⟩ = false → w.frozen? ⟨g, 2, none⟩ = false → w.frozen? ⟨g, 3, none⟩ = false → P) : P := k ((blk_cell h.out 0).trans rfl) ((blk_cell h.out 1).trans rfl) ((blk_cell h.out 2).trans rfl) ((blk_cell h.out 3).trans rfl) (blk_frozen h.out 0) (blk_frozen h.out 1) (blk_frozen h.out 2) (blk_frozen h.out 3)
theorem ci9 {w : World} {g t : Nat} {a0 a1 a2 a3 a4 a5 a6 a7 a8 : Value} (h : Aside0 (w.heap[g]? = some (.cells #[a0, a1, a2, a3, a4, a5, a6, a7, a8] t (0, 0)))) {P : Prop} (k : w.cell? ⟨g, 0, none⟩ = some a0 → w.cell? ⟨g, 1, none⟩ = some a1 → w.cell? ⟨g, 2, none⟩ = some a2 → w.cell? ⟨g, 3, none⟩ = some a3 → w.cell? ⟨g, 4, none⟩ = some a4 → w.cell? ⟨g, 5, none⟩ = some a5 → w.cell? ⟨g, 6, none⟩ = some a6 → w.cell? ⟨g, 7, none⟩ = some a7 → w.cell? ⟨g, 8, none⟩ = some a8 → w.frozen? ⟨g, 0, none⟩ = false → w.frozen? ⟨g, 1, none⟩ = false → w.frozen? ⟨g, 2, none⟩ = false → w.frozen? ⟨g, 3, none⟩ = false → w.frozen? ⟨g, 4, none⟩ = false → w.frozen? ⟨g, 5, none⟩ = false → w.frozen? ⟨g, 6, none⟩ = false → w.frozen? ⟨g, 7, none⟩ = false → w.frozen? ⟨g, 8, none⟩ = false → P) : P := k ((blk_cell h.out 0).trans rfl) ((blk_cell h.out 1).trans rfl) ((blk_cell h.out 2).trans rfl) ((blk_cell h.out 3).trans rfl) ((blk_cell h.out 4).trans rfl) ((blk_cell h.out 5).trans rfl) ((blk_cell h.out 6).trans rfl) ((blk_cell h.out 7).trans rfl) ((blk_cell h.out 8).trans rfl) (blk_frozen h.out 0) (blk_frozen h.out 1) (blk_frozen h.out 2) (blk_frozen h.out 3) (blk_frozen h.out 4) (blk_frozen h.out 5) (blk_frozen h.out 6) (blk_frozen h.out 7) (blk_frozen h.out 8)
theorem Za {P : Prop} (h : P := by first | rfl | (simp; done) | (simp [*]; done)) : P := h
theorem Zb {P : Prop} (h : P := by repeat (first | exact Drawn0.refl _ | apply Drawn0.step)) : P := h
theorem Zc {P : Prop} (h : P := by first | (with_reducible assumption) | assumption) : P := h
theorem Zd {P : Prop} (h : P := by have := HK1.out; omega) : P := h
theorem Ze {P : Prop} (h : P := by first | omega | exact Nat.le_refl _) : P := h
theorem Zf {P : Prop} (h : P := by repeat (first | (with_reducible first | exact HB.out | apply below_alloc | apply pw_below_drewN | apply below_drew1) | exact HB.out)) : P := h
theorem Zg {P : Prop} (h : P := by first | rfl | (simp [errW_none, errW_some] <;> rfl) | (simp [*, errW_none, errW_some] <;> rfl)) : P := h
theorem Zh {P : Prop} (h : P := by rw [hg]; exact (below_size (by repeat (first | (with_reducible first | exact HB.out | apply below_alloc | apply pw_below_drewN | apply below_drew1) | exact HB.out)))) : P := h
theorem Zi {P : Prop} (h : P := by kernel_rfl) : P := h
theorem Zj {P : Prop} (h : P := by (try simp only [List.map_toArray, List.map_cons, List.map_nil]); first | done | rfl | (simp only [List.length_drop, List.length_take]; rfl)) : P := h
theorem Zk {P : Prop} (h : P := by repeat (first | (with_reducible first | exact HB.out | apply below_alloc | apply pw_below_drewN | apply below_drew1 | refine below_set ?_ z0_.out) | exact HB.out)) : P := h
theorem Zl {P : Prop} (h : P := by refine blk_put (cs := #[.string ((rd_T62 l0 x10_1).f0), .int .i64 ((rd_T62 l0 x10_1).f1), .int .i64 ((rd_T62 l0 x10_1).f2), .int .i64 ((rd_T62 l0 x10_1).f3), .int .i64 ((rd_T62 l0 x10_1).f4), .int .i64 ((rd_T62 l0 x10_1).f5), .int .i64 ((rd_T62 l0 x10_1).f6), .int .i64 ((rd_T62 l0 x10_1).f7), .int .i64 0]) ?_ 8 _ rfl; refine blk_put (cs := #[.string ((rd_T62 l0 x10_1).f0), .int .i64 ((rd_T62 l0 x10_1).f1), .int .i64 ((rd_T62 l0 x10_1).f2), .int .i64 ((rd_T62 l0 x10_1).f3), .int .i64 ((rd_T62 l0 x10_1).f4), .int .i64 ((rd_T62 l0 x10_1).f5), .int .i64 ((rd_T62 l0 x10_1).f6), .int .i64 0, .int .i64 0]) ?_ 7 _ rfl; refine blk_put (cs := #[.string ((rd_T62 l0 x10_1).f0), .int .i64 ((rd_T62 l0 x10_1).f1), .int .i64 ((rd_T62 l0 x10_1).f2), .int .i64 ((rd_T62 l0 x10_1).f3), .int .i64 ((rd_T62 l0 x10_1).f4), .int .i64 ((rd_T62 l0 x10_1).f5), .int .i64 0, .int .i64 0, .int .i64 0]) ?_ 6 _ rfl; refine blk_put (cs := #[.string ((rd_T62 l0 x10_1).f0), .int .i64 ((rd_T62 l0 x10_1).f1), .int .i64 ((rd_T62 l0 x10_1).f2), .int .i64 ((rd_T62 l0 x10_1).f3), .int .i64 ((rd_T62 l0 x10_1).f4), .int .i64 0, .int .i64 0, .int .i64 0, .int .i64 0]) ?_ 5 _ rfl; refine blk_put (cs := #[.string ((rd_T62 l0 x10_1).f0), .int .i64 ((rd_T62 l0 x10_1).f1), .int .i64 ((rd_T62 l0 x10_1).f2), .int .i64 ((rd_T62 l0 x10_1).f3), .int .i64 0, .int .i64 0, .int .i64 0, .int .i64 0, .int .i64 0]) ?_ 4 _ rfl; refine blk_put (cs := #[.string ((rd_T62 l0 x10_1).f0), .int .i64 ((rd_T62 l0 x10_1).f1), .int .i64 ((rd_T62 l0 x10_1).f2), .int .i64 0, .int .i64 0, .int .i64 0, .int .i64 0, .int .i64 0, .int .i64 0]) ?_ 3 _ rfl; refine blk_put (cs := #[.string ((rd_T62 l0 x10_1).f0), .int .i64 ((rd_T62 l0 x10_1).f1), .int .i64 0, .int .i64 0, .int .i64 0, .int .i64 0, .int .i64 0, .int .i64 0, .int .i64 0]) ?_ 2 _ rfl; refine blk_put (cs := #[.string ((rd_T62 l0 x10_1).f0), .int .i64 0, .int .i64 0, .int .i64 0, .int .i64 0, .int .i64 0, .int .i64 0, .int .i64 0, .int .i64 0]) ?_ 1 _ rfl; refine blk_put (cs := #[.string (⟨#[]⟩ : ByteArray), .int .i64 0, .int .i64 0, .int .i64 0, .int .i64 0, .int .i64 0, .int .i64 0, .int .i64 0, .int .i64 0]) ?_ 0 _ rfl; exact z0_.out) : P := h
theorem Zm {P : Prop} (h : P := by exact ⟨(blk_cell z0_.out 0).trans rfl, (blk_cell z0_.out 1).trans rfl, (blk_cell z0_.out 2).trans rfl, (blk_cell z0_.out 3).trans rfl, (blk_cell z0_.out 4).trans rfl, (blk_cell z0_.out 5).trans rfl, (blk_cell z0_.out 6).trans rfl, (blk_cell z0_.out 7).trans rfl, (blk_cell z0_.out 8).trans rfl⟩) : P := h
theorem Zn {P : Prop} (h : P := by rw [hg]; exact (below_size (by repeat (first | (with_reducible first | exact HB.out | apply below_alloc | apply pw_below_drewN | apply below_drew1 | refine below_set ?_ z0_.out) | exact HB.out)))) : P := h
theorem Zo {P : Prop} (h : P := by rw [hg]; exact Nat.ne_of_lt (blk_lt (g := gb566) (o := .cells #[.slice A0_0 l0_0.length c0_0, .slice A0_1 l0_1.length c0_1, .slice A0_2 l0_2.length c0_2] 28 (0, 0)) (by (with_reducible repeat (first | refine blk_drewN ?_ _ | refine blk_drew ?_ | refine blk_alloc ?_ _)); exact z0_.out))) : P := h
theorem Zp {P : Prop} (h : P := by rw [hg]; exact Nat.ne_of_gt (blk_lt (g := gb566) (o := .cells #[.slice A0_0 l0_0.length c0_0, .slice A0_1 l0_1.length c0_1, .slice A0_2 l0_2.length c0_2] 28 (0, 0)) (by (with_reducible repeat (first | refine blk_drewN ?_ _ | refine blk_drew ?_ | refine blk_alloc ?_ _)); exact z0_.out))) : P := h
theorem Zq {P : Prop} (h : P := by repeat (first | exact (Kd.C_below z0_.out HB.out) | (with_reducible refine Kd.C_alloc ?_ _) | (with_reducible refine Kd.C_drewN ?_ _) | (with_reducible refine Kd.C_drew ?_))) : P := h
theorem Zr {P : Prop} (h : P := by repeat (first | (with_reducible first | exact HB.out | apply below_alloc | apply pw_below_drewN | apply below_drew1 | refine below_set ?_ z0_.out | refine below_set ?_ z1_.out) | exact HB.out)) : P := h
theorem Zs {P : Prop} (h : P := by (with_reducible repeat (first | refine blk_drewN ?_ _ | refine blk_drew ?_ | refine blk_alloc ?_ _)); exact z0_.out) : P := h
theorem Zt {P : Prop} (h : P := by exact ⟨(blk_cell z0_.out 0).trans rfl, (blk_cell z0_.out 1).trans rfl, (blk_cell z0_.out 2).trans rfl, (blk_cell z1_.out 0).trans rfl, (blk_cell z1_.out 1).trans rfl, (blk_cell z1_.out 2).trans rfl, (blk_cell z1_.out 3).trans rfl, (cbH HB z2_ :), (cbH HB z3_ :), (cbH HB z4_ :), (cbH HB z5_ :), (cbH HB z6_ :), (cbH HB z7_ :), (cbH HB z8_ :), (cbH HB z9_ :), (cbH HB z10_ :)⟩) : P := h
theorem Zu {P : Prop} (h : P := by rw [hg]; exact Nat.ne_of_lt (blk_lt (g := gb572) (o := .cells #[.slice A0_0 l0_0.length c0_0, .slice A0_1 l0_1.length c0_1, .slice (some ad575) l0_2.length c0_2] 28 (0, 0)) (by (with_reducible repeat (first | refine blk_drewN ?_ _ | refine blk_drew ?_ | refine blk_alloc ?_ _)); exact z0_.out))) : P := h
theorem Zv {P : Prop} (h : P := by rw [hg]; exact Nat.ne_of_gt (blk_lt (g := gb572) (o := .cells #[.slice A0_0 l0_0.length c0_0, .slice A0_1 l0_1.length c0_1, .slice (some ad575) l0_2.length c0_2] 28 (0, 0)) (by (with_reducible repeat (first | refine blk_drewN ?_ _ | refine blk_drew ?_ | refine blk_alloc ?_ _)); exact z0_.out))) : P := h
theorem Zw {P : Prop} (h : P := by (with_reducible repeat (first | refine blk_drewN ?_ _ | refine blk_drew ?_ | refine blk_alloc ?_ _)); refine blk_far ?_ z0_.out _; (with_reducible repeat (first | refine blk_drewN ?_ _ | refine blk_drew ?_ | refine blk_alloc ?_ _)); refine blk_far ?_ z0_.out _; (with_reducible repeat (first | refine blk_drewN ?_ _ | refine blk_drew ?_ | refine blk_alloc ?_ _)); refine blk_far ?_ z0_.out _; (with_reducible repeat (first | refine blk_drewN ?_ _ | refine blk_drew ?_ | refine blk_alloc ?_ _)); refine blk_far ?_ z0_.out _; (with_reducible repeat (first | refine blk_drewN ?_ _ | refine blk_drew ?_ | refine blk_alloc ?_ _)); exact z1_.out) : P := h
theorem Zx {P : Prop} (h : P := by (with_reducible repeat (first | refine blk_drewN ?_ _ | refine blk_drew ?_ | refine blk_alloc ?_ _)); refine blk_put (cs := #[.int .i64 ((rd_T39 l0_2 x24_2).f0), .int .i64 ((rd_T39 l0_2 x24_2).f1), .string ((rd_T39 l0_2 x24_2).f2), .int .i64 0]) ?_ 3 _ rfl; refine blk_put (cs := #[.int .i64 ((rd_T39 l0_2 x24_2).f0), .int .i64 ((rd_T39 l0_2 x24_2).f1), .string (⟨#[]⟩ : ByteArray), .int .i64 0]) ?_ 2 _ rfl; refine blk_put (cs := #[.int .i64 ((rd_T39 l0_2 x24_2).f0), .int .i64 0, .string (⟨#[]⟩ : ByteArray), .int .i64 0]) ?_ 1 _ rfl; refine blk_put (cs := #[.int .i64 0, .int .i64 0, .string (⟨#[]⟩ : ByteArray), .int .i64 0]) ?_ 0 _ rfl; (with_reducible repeat (first | refine blk_drewN ?_ _ | refine blk_drew ?_ | refine blk_alloc ?_ _)); exact z0_.out) : P := h
theorem Zy {P : Prop} (h : P := by rw [hg]; exact Nat.ne_of_lt (blk_lt (g := gb1001) (o := .cells #[.slice A0_0 l0_0.length c0_0, .slice A0_1 l0_1.length c0_1, .slice A0_2 l0_2.length c0_2] 28 (0, 0)) (by (with_reducible repeat (first | refine blk_drewN ?_ _ | refine blk_drew ?_ | refine blk_alloc ?_ _)); exact z0_.out))) : P := h
theorem Zz {P : Prop} (h : P := by rw [hg]; exact Nat.ne_of_gt (blk_lt (g := gb1001) (o := .cells #[.slice A0_0 l0_0.length c0_0, .slice A0_1 l0_1.length c0_1, .slice A0_2 l0_2.length c0_2] 28 (0, 0)) (by (with_reducible repeat (first | refine blk_drewN ?_ _ | refine blk_drew ?_ | refine blk_alloc ?_ _)); exact z0_.out))) : P := h
theorem Zaa {P : Prop} (h : P := by rw [hg]; exact (below_size (by repeat (first | (with_reducible first | exact HB.out | apply below_alloc | apply pw_below_drewN | apply below_drew1 | refine below_set ?_ z0_.out | refine below_set ?_ z1_.out) | exact HB.out)))) : P := h
theorem Zab {P : Prop} (h : P := by repeat (first | (with_reducible first | exact HB.out | apply below_alloc | apply pw_below_drewN | apply below_drew1 | refine below_set ?_ z0_.out | refine below_set ?_ z1_.out | refine below_set ?_ z2_.out) | exact HB.out)) : P := h
theorem Zac {P : Prop} (h : P := by first | exact Nat.ne_of_lt (Nat.lt_of_lt_of_le (by have := World.block_lt_of_cell? _ _ z0_; first | rwa [add_block] at this | exact this) z1_.out) | (rw [add_block]; exact Nat.ne_of_lt (Nat.lt_of_lt_of_le (by have := World.block_lt_of_cell? _ _ z0_; first | rwa [add_block] at this | exact this) z1_.out)) | (show (Addr.add _ _).block ≠ _; rw [add_block]; exact Nat.ne_of_lt (Nat.lt_of_lt_of_le (by have := World.block_lt_of_cell? _ _ z0_; first | rwa [add_block] at this | exact this) z1_.out)) | (dsimp only; exact Nat.ne_of_lt (Nat.lt_of_lt_of_le (by have := World.block_lt_of_cell? _ _ z0_; first | rwa [add_block] at this | exact this) z1_.out))) : P := h
theorem Zad {P : Prop} (h : P := by first | exact Kd.S_nil _ _ _ _ _ | exact Kd.N_nil _ _ _ _ _ | exact Kd.V_nil _ _ _ _ _ | exact Kd.Q_nil _ _ _ _ _ | exact Kd.R_nil _ _ _ _ _) : P := h
theorem Zae {P : Prop} (h : P := by (with_reducible repeat (first | apply Kd.S_alloc | apply Kd.S_drewN | apply Kd.S_drew)); exact z0_.out) : P := h
theorem Zaf {P : Prop} (h : P := by exact ⟨(blk_cell z0_.out 0).trans rfl, (blk_cell z0_.out 1).trans rfl, (blk_cell z0_.out 2).trans rfl, (blk_cell z1_.out 0).trans rfl, (blk_cell z1_.out 1).trans rfl, (blk_cell z1_.out 2).trans rfl, (blk_cell z1_.out 3).trans rfl⟩) : P := h
theorem Zag {P : Prop} (h : P := by (with_reducible repeat (first | apply Kd.S_alloc | apply Kd.S_drewN | apply Kd.S_drew)); exact (Kd.S_mono (Kd.S_far (p := ⟨gb1204, 3, none⟩) (Kd.S_far (p := ⟨gb1204, 2, none⟩) (Kd.S_far (p := ⟨gb1204, 1, none⟩) (Kd.S_far (p := ⟨gb1204, 0, none⟩) (Kd.S_types z0_.out z1_.out (by decide)) (fun _ hk => hk.2) (.int .i64 ((rd_T39 l0_2 x11_1).f0))) (fun _ hk => hk.2) (.int .i64 ((rd_T39 l0_2 x11_1).f1))) (fun _ hk => hk.2) (.string ((rd_T39 l0_2 x11_1).f2))) (fun _ hk => hk.2) (.int .i64 ((rd_T39 l0_2 x11_1).f3))) (fun _ h_ => h_.1))) : P := h
theorem Zah {P : Prop} (h : P := by repeat (first | (with_reducible exact z0_.out) | (with_reducible refine Kd.C_alloc ?_ _) | (with_reducible refine Kd.C_drewN ?_ _) | (with_reducible refine Kd.C_drew ?_) | exact z0_.out)) : P := h
theorem Zai {P : Prop} (h : P := by (with_reducible repeat (first | apply Kd.R_alloc | apply Kd.R_drewN | apply Kd.R_drew)); exact z0_.out) : P := h
theorem Zaj {P : Prop} (h : P := by rw [hg]; exact Nat.ne_of_lt (blk_lt (g := gb132) (o := .cells #[.slice A0_0 l0_0.length c0_0, .slice A0_1 l0_1.length c0_1, .slice A0_2 l0_2.length c0_2] 28 (0, 0)) (by (with_reducible repeat (first | refine blk_drewN ?_ _ | refine blk_drew ?_ | refine blk_alloc ?_ _)); exact z0_.out))) : P := h
theorem Zak {P : Prop} (h : P := by rw [hg]; exact Nat.ne_of_gt (blk_lt (g := gb132) (o := .cells #[.slice A0_0 l0_0.length c0_0, .slice A0_1 l0_1.length c0_1, .slice A0_2 l0_2.length c0_2] 28 (0, 0)) (by (with_reducible repeat (first | refine blk_drewN ?_ _ | refine blk_drew ?_ | refine blk_alloc ?_ _)); exact z0_.out))) : P := h
theorem Zal {P : Prop} (h : P := by rw [hg]; exact Nat.ne_of_lt (blk_lt (g := gb137) (o := .cells #[.slice A0_0 l0_0.length c0_0, .slice A0_1 l0_1.length c0_1, .slice (some ad140) l0_2.length c0_2] 28 (0, 0)) (by (with_reducible repeat (first | refine blk_drewN ?_ _ | refine blk_drew ?_ | refine blk_alloc ?_ _)); exact z0_.out))) : P := h
theorem Zam {P : Prop} (h : P := by rw [hg]; exact Nat.ne_of_gt (blk_lt (g := gb137) (o := .cells #[.slice A0_0 l0_0.length c0_0, .slice A0_1 l0_1.length c0_1, .slice (some ad140) l0_2.length c0_2] 28 (0, 0)) (by (with_reducible repeat (first | refine blk_drewN ?_ _ | refine blk_drew ?_ | refine blk_alloc ?_ _)); exact z0_.out))) : P := h
theorem Zan {P : Prop} (h : P := by (with_reducible repeat (first | refine blk_drewN ?_ _ | refine blk_drew ?_ | refine blk_alloc ?_ _)); refine blk_put (cs := #[.int .i64 ((rd_T39 l0_2 x3_2).f0), .int .i64 ((rd_T39 l0_2 x3_2).f1), .string ((rd_T39 l0_2 x3_2).f2), .int .i64 0]) ?_ 3 _ rfl; refine blk_put (cs := #[.int .i64 ((rd_T39 l0_2 x3_2).f0), .int .i64 ((rd_T39 l0_2 x3_2).f1), .string (⟨#[]⟩ : ByteArray), .int .i64 0]) ?_ 2 _ rfl; refine blk_put (cs := #[.int .i64 ((rd_T39 l0_2 x3_2).f0), .int .i64 0, .string (⟨#[]⟩ : ByteArray), .int .i64 0]) ?_ 1 _ rfl; refine blk_put (cs := #[.int .i64 0, .int .i64 0, .string (⟨#[]⟩ : ByteArray), .int .i64 0]) ?_ 0 _ rfl; (with_reducible repeat (first | refine blk_drewN ?_ _ | refine blk_drew ?_ | refine blk_alloc ?_ _)); exact z0_.out) : P := h
theorem Zao {P : Prop} (h : P := by rw [hg]; exact Nat.ne_of_lt (blk_lt (g := gb1052) (o := .cells #[.slice A0_0 l0_0.length c0_0, .slice (some ad1056) l0_1.length c0_1, .slice (some ad1053) l0_2.length c0_2] 28 (0, 0)) (by (with_reducible repeat (first | refine blk_drewN ?_ _ | refine blk_drew ?_ | refine blk_alloc ?_ _)); exact z0_.out))) : P := h
theorem Zap {P : Prop} (h : P := by rw [hg]; exact Nat.ne_of_gt (blk_lt (g := gb1052) (o := .cells #[.slice A0_0 l0_0.length c0_0, .slice (some ad1056) l0_1.length c0_1, .slice (some ad1053) l0_2.length c0_2] 28 (0, 0)) (by (with_reducible repeat (first | refine blk_drewN ?_ _ | refine blk_drew ?_ | refine blk_alloc ?_ _)); exact z0_.out))) : P := h
theorem Zaq {P : Prop} (h : P := by rw [hg]; exact Nat.ne_of_lt (blk_lt (g := gb1054) (o := .cells #[.int .i64 ((rd_T39 l0_2 a1).f0), .int .i64 ((rd_T39 l0_2 a1).f1), .string ((rd_T39 l0_2 a1).f2), .int .i64 ((rd_T39 l0_2 a1).f3)] 39 (0, 0)) (by (with_reducible repeat (first | refine blk_drewN ?_ _ | refine blk_drew ?_ | refine blk_alloc ?_ _)); exact z0_.out))) : P := h
theorem Zar {P : Prop} (h : P := by rw [hg]; exact Nat.ne_of_gt (blk_lt (g := gb1054) (o := .cells #[.int .i64 ((rd_T39 l0_2 a1).f0), .int .i64 ((rd_T39 l0_2 a1).f1), .string ((rd_T39 l0_2 a1).f2), .int .i64 ((rd_T39 l0_2 a1).f3)] 39 (0, 0)) (by (with_reducible repeat (first | refine blk_drewN ?_ _ | refine blk_drew ?_ | refine blk_alloc ?_ _)); exact z0_.out))) : P := h
theorem Zas {P : Prop} (h : P := by (with_reducible repeat (first | refine blk_drewN ?_ _ | refine blk_drew ?_ | refine blk_alloc ?_ _)); refine blk_far ?_ z0_.out _; (with_reducible repeat (first | refine blk_drewN ?_ _ | refine blk_drew ?_ | refine blk_alloc ?_ _)); refine blk_far ?_ z0_.out _; (with_reducible repeat (first | refine blk_drewN ?_ _ | refine blk_drew ?_ | refine blk_alloc ?_ _)); refine blk_far ?_ z0_.out _; (with_reducible repeat (first | refine blk_drewN ?_ _ | refine blk_drew ?_ | refine blk_alloc ?_ _)); refine blk_far ?_ z0_.out _; (with_reducible repeat (first | refine blk_drewN ?_ _ | refine blk_drew ?_ | refine blk_alloc ?_ _)); refine blk_far ?_ z0_.out _; (with_reducible repeat (first | refine blk_drewN ?_ _ | refine blk_drew ?_ | refine blk_alloc ?_ _)); refine blk_far ?_ z0_.out _; (with_reducible repeat (first | refine blk_drewN ?_ _ | refine blk_drew ?_ | refine blk_alloc ?_ _)); refine blk_far ?_ z0_.out _; (with_reducible repeat (first | refine blk_drewN ?_ _ | refine blk_drew ?_ | refine blk_alloc ?_ _)); refine blk_far ?_ z0_.out _; (with_reducible repeat (first | refine blk_drewN ?_ _ | refine blk_drew ?_ | refine blk_alloc ?_ _)); refine blk_far ?_ z0_.out _; (with_reducible repeat (first | refine blk_drewN ?_ _ | refine blk_drew ?_ | refine blk_alloc ?_ _)); exact z1_.out) : P := h
theorem Zat {P : Prop} (h : P := by exact ⟨(blk_cell z0_.out 0).trans rfl, (blk_cell z0_.out 1).trans rfl, (blk_cell z0_.out 2).trans rfl, (blk_cell z0_.out 3).trans rfl, (blk_cell z0_.out 4).trans rfl, (blk_cell z0_.out 5).trans rfl, (blk_cell z0_.out 6).trans rfl, (blk_cell z0_.out 7).trans rfl, (blk_cell z0_.out 8).trans rfl, (blk_cell z1_.out 0).trans rfl, (blk_cell z1_.out 1).trans rfl, (blk_cell z1_.out 2).trans rfl, (blk_cell z2_.out 0).trans rfl, (blk_cell z2_.out 1).trans rfl, (blk_cell z2_.out 2).trans rfl, (blk_cell z2_.out 3).trans rfl⟩) : P := h
theorem Zau {P : Prop} (h : P := by (with_reducible repeat (first | apply Kd.N_alloc | apply Kd.N_drewN | apply Kd.N_drew)); exact z0_.out) : P := h
theorem Zav {P : Prop} (h : P := by rw [hlen]; decide) : P := h
end Go.Proofs.Ythhijbdekboahaa.F
namespace Go.Proofs.Ythhijbdekboahaa.F
open Go.RowKit Go.Proofs.YthhijbdekboahaaW.PrintWords Go.Proofs.YthhijbdekboahaaW.PrintLast Go.Proofs.YthhijbdekboahaaW.PrintMore
set_option linter.unusedVariables false
set_option linter.unusedSimpArgs false
open Go.ChangeShapes
section
variable {α : Type} {d : Kd α} {t : Nat} {w w0 w1 : World} {base lo hi : Nat} {v : Value} {xs : List α}
end
def I64 (n : Int) : Prop := -9223372036854775808 ≤ n ∧ n ≤ 9223372036854775807
theorem I64_of {n : Int} (h : (Lit.int .i64 n).wf = true) : I64 n := by
 simp only [Lit.wf, Bool.and_eq_true, decide_eq_true_eq] at h
 have h1 : IntKind.i64.min = -9223372036854775808 := by decide
 have h2 : IntKind.i64.max = 9223372036854775807 := by decide
 unfold I64
 omega
theorem one_cell {cs : List Value} {i : Nat} {v : Value} (h : (cs.drop i).take 1 = [v]) : cs[i]? = some v := by
 have h1 : ((cs.drop i).take 1)[0]? = some v := by rw [h]; rfl
 simpa using h1
theorem choose_list {α : Type} {n : Nat} {Q : Nat → α → Prop} (h : ∀ i, i < n → ∃ p, Q i p) : ∃ xs : List α, xs.length = n ∧ ∀ i p, xs[i]? = some p → Q i p := by
 induction n with
 | zero => exact ⟨[], rfl, fun i p hp => by simp at hp⟩
 | succ n ih =>
  obtain ⟨xs, hl, hq⟩ := ih (fun i hi => h i (by omega)); obtain ⟨p, hp⟩ := h n (by omega); refine ⟨xs ++ [p], by simp [hl], fun i q hi => ?_⟩
  rcases Nat.lt_or_ge i xs.length with hlt | hge
  ·rw [List.getElem?_append_left hlt] at hi
   exact hq i q hi
  ·rw [List.getElem?_append_right hge] at hi
   have : i - xs.length = 0 := by
    have := (List.getElem?_eq_some_iff.1 hi).1
    simpa using this
   rw [this] at hi
   have e : p = q := by simpa using hi
   have e2 : i = n := by omega
   rw [e2, ← e]; exact hp
theorem open_rows {α : Type} (d : Kd α) {Pr : α → Prop} {H : Type} {enc : TypeId × Value → H} {P : Program} {W : World} {base : Nat} {sp : Nat → Bool} {held : Bool} {t e : TypeId} {fuel : Nat} {cs : List Value} {x : DataW H × List MemPlace}
  (ht : P.underlying t = some (.slice e)) (hc : P.cellsOf e = d.sz) (hop : ∀ (fuel : Nat) (cs : List Value) (y : DataW H × List MemPlace), DataW.trod enc P W base sp held fuel e cs = some y → ∃ a : α, d.K W a cs ∧ Pr a)
  (h : DataW.trod enc P W base sp held fuel t cs = some x) :
  ∃ (A : Option Addr) (c : Nat) (xs : List α), cs = [.slice A xs.length c] ∧ xs.length ≤ c ∧ c ≤ maxLen ∧ d.C W A xs.length xs ∧ ∀ p ∈ xs, Pr p := by
 rcases DataW.trod_slice ht h with ⟨rfl, _⟩ | ⟨a, len, cap, elems, rest, n, _, rfl, rfl, hb, hl, hm, hlen, hel, _, _⟩
 ·exact ⟨none, 0, [], rfl, Nat.le_refl _, Nat.zero_le _, Kd.C_nil d W, fun p hp => by simp at hp⟩
 ·have each : ∀ i, i < len → ∃ p : α, Pr p ∧ ∃ c : List Value, c.length = d.sz ∧ d.K W p c ∧ ∀ j u, c[j]? = some u → W.cell? (a.add (i * d.sz + j)) = some u := by
   intro i hi; have h1 := hel i hi; rw [List.getElem?_eq_getElem (by omega)] at h1; obtain ⟨c, hcells, ho⟩ := Option.bind_eq_some_iff.1 h1; obtain ⟨p, hK, hp⟩ := hop _ _ _ ho; obtain ⟨_, hcl, hcell⟩ := World.cells?_some hcells; refine ⟨p, hp, c, by rw [hcl, hc], hK, fun j u hj => ?_⟩; have hjl : j < c.length := (List.getElem?_eq_some_iff.1 hj).1; have h2 := hcell j (by omega); rw [hj] at h2
   have e2 : (a.add (i * P.cellsOf e)).add j = a.add (i * d.sz + j) := by rw [hc]; exact Addr.add_add _ _ _
   rw [← e2]; exact h2
  obtain ⟨xs, hxl, hq⟩ := choose_list each; refine ⟨some a, cap, xs, by rw [hxl], by omega, hm, ⟨rfl, by rw [hxl]; simp only [maxLen] at hm; omega, fun _ => ⟨a, rfl, fun j p hj => ?_⟩⟩, fun p hp => ?_⟩
  ·obtain ⟨_, c, h1, h2, h3⟩ := hq j p hj
   exact ⟨c, h1, h2, h3⟩
  ·obtain ⟨i, hi⟩ := List.getElem?_of_mem hp
   exact (hq i p hi).1
section
variable {α : Type} {d : Kd α} {t : Nat} {w w0 w1 : World} {base lo hi : Nat} {v : Value} {xs : List α}
end
section
variable {α β γ : Type} {d : Kd α} {d1 : Kd β} {d2 : Kd γ} {t t1 t2 : Nat} {w w0 w1 : World} {base lo hi : Nat} {v v1 v2 : Value} {xs : List α} {ys : List β} {zs : List γ}
end
end Go.Proofs.Ythhijbdekboahaa.F
namespace Go.Proofs.Ythhijbdekboahaa.F
open Go.RowKit Go.Proofs.YthhijbdekboahaaW.PrintWords Go.Proofs.YthhijbdekboahaaW.PrintLast Go.Proofs.YthhijbdekboahaaW.PrintMore
set_option linter.unusedVariables false
set_option linter.unusedSimpArgs false
def Evt (P : Nat → Prop) : Prop := ∃ K, ∀ k, K ≤ k → P k
theorem Evt.mono {P Q : Nat → Prop} (h : Evt P) (hq : ∀ k, P k → Q k) : Evt Q := by
 obtain ⟨K, h⟩ := h; exact ⟨K, fun k hk => hq k (h k hk)⟩
theorem Evt.of {P : Nat → Prop} (h : ∀ k, P k) : Evt P := ⟨0, fun k _ => h k⟩
theorem Evt.succ {P : Nat → Prop} (h : Evt (fun k => P (k + 1))) : Evt P := by
 obtain ⟨K, h⟩ := h; refine ⟨K + 1, fun k hk => ?_⟩; obtain ⟨m, rfl⟩ : ∃ m, k = m + 1 := ⟨k - 1, by omega⟩; exact h m (by omega)
theorem w64 {n : Int} (h : -9223372036854775808 ≤ n ∧ n ≤ 9223372036854775807) : wrap64 n = n := by unfold wrap64; omega
def allF (p : Nat → Bool) : Nat → Nat → Bool
 | _, 0 => true
 | i, d + 1 => p i && allF p (i + 1) d
theorem allF_true {p : Nat → Bool} : ∀ (d i : Nat), allF p i d = true ↔ ∀ j, i ≤ j → j < i + d → p j = true
 | 0, i => by simp [allF]; intro j h1 h2; omega
 | d + 1, i => by
  unfold allF
  rw [Bool.and_eq_true, allF_true d (i + 1)]; constructor
  ·rintro ⟨h1, h2⟩ j h3 h4
   rcases Nat.eq_or_lt_of_le h3 with e | e
   ·exact e ▸ h1
   ·exact h2 j e (by omega)
  ·exact fun h => ⟨h i (Nat.le_refl _) (by omega), fun j h1 h2 => h j (by omega) (by omega)⟩
theorem all_loopF {f : Nat → Nat → Option Bool} {p : Nat → Bool} {e : Bool} (a n : Nat) (hs : ∀ k i, a ≤ i → i < n → f (k + 1) i = if p i = true then f k (i + 1) else some false) (he : ∀ k, f (k + 1) n = some e) :
  ∀ d k i, a ≤ i → n - i = d → i ≤ n → d < k → f k i = some (allF p i d && e) := by
 intro d
 induction d with
 | zero =>
  intro k i ha hd hi hk; obtain ⟨k, rfl⟩ : ∃ m, k = m + 1 := ⟨k - 1, by omega⟩
  have : i = n := by omega
  subst this; rw [he]
  rfl
 | succ d ih =>
  intro k i ha hd hi hk; obtain ⟨k, rfl⟩ : ∃ m, k = m + 1 := ⟨k - 1, by omega⟩; rw [hs k i ha (by omega)]
  unfold allF
  by_cases hp : p i = true
  ·rw [if_pos hp, ih k (i + 1) (by omega) (by omega) (by omega) (by omega), hp, Bool.true_and]
  ·rw [if_neg hp]
   replace hp := Bool.eq_false_iff.mpr hp; rw [hp, Bool.false_and, Bool.false_and]
theorem all_loop {f : Nat → Nat → Option Bool} {p : Nat → Bool} {e : Bool} (n : Nat) (hs : ∀ k i, i < n → f (k + 1) i = if p i = true then f k (i + 1) else some false) (he : ∀ k, f (k + 1) n = some e) :
  ∀ d k i, n - i = d → i ≤ n → d < k → f k i = some (allF p i d && e) := fun d k i => all_loopF 0 n (fun k i _ h => hs k i h) he d k i (Nat.zero_le _)
def foldF {σ : Type} (step : Nat → σ → σ) : Nat → Nat → σ → σ
 | _, 0, s => s
 | i, d + 1, s => foldF step (i + 1) d (step i s)
theorem foldF_snoc {σ : Type} (f : Nat → σ → σ) : ∀ (d i : Nat) (s : σ), foldF f i (d + 1) s = f (i + d) (foldF f i d s)
 | 0, i, s => rfl
 | d + 1, i, s => by
  have h := foldF_snoc f d (i + 1) (f i s); rw [show i + 1 + d = i + (d + 1) by omega] at h; exact h
theorem fold_loop {σ β : Type} {f : Nat → Nat → σ → Option β} {step : Nat → σ → σ} {I : Nat → σ → Prop} {e : σ → Option β} (n : Nat) (hs : ∀ k i s, i < n → I i s → f (k + 1) i s = f k (i + 1) (step i s)) (hI : ∀ i s, i < n → I i s → I (i + 1) (step i s)) (he : ∀ k s, I n s → f (k + 1) n s = e s) :
  ∀ d k i s, n - i = d → i ≤ n → I i s → d < k → f k i s = e (foldF step i d s) := by
 intro d
 induction d with
 | zero =>
  intro k i s hd hi h0 hk; obtain ⟨k, rfl⟩ : ∃ m, k = m + 1 := ⟨k - 1, by omega⟩
  have : i = n := by omega
  subst this; exact he k s h0
 | succ d ih =>
  intro k i s hd hi h0 hk; obtain ⟨k, rfl⟩ : ∃ m, k = m + 1 := ⟨k - 1, by omega⟩; rw [hs k i s (by omega) h0]; exact ih k (i + 1) _ (by omega) (by omega) (hI i s (by omega) h0) (by omega)
def inB (n lo hi : Int) : Bool := decide (lo ≤ n ∧ n ≤ hi)
theorem inB_true {n lo hi : Int} : inB n lo hi = true ↔ lo ≤ n ∧ n ≤ hi := by unfold inB; exact decide_eq_true_iff
theorem inB_false {n lo hi : Int} : inB n lo hi = false ↔ ¬ (lo ≤ n ∧ n ≤ hi) := by unfold inB; exact decide_eq_false_iff_not
theorem getD_take {α : Type} (xs : List α) (z : α) (n i : Nat) (h : i < n) : (xs.take n).getD i z = xs.getD i z := by
 rw [List.getD_eq_getElem?_getD, List.getD_eq_getElem?_getD, List.getElem?_take, if_pos h]
end Go.Proofs.Ythhijbdekboahaa.F
namespace Go.Proofs.Ythhijbdekboahaa.F
open Go.RowKit Go.Proofs.YthhijbdekboahaaW.PrintWords Go.Proofs.YthhijbdekboahaaW.PrintLast Go.Proofs.YthhijbdekboahaaW.PrintMore
attribute [local go_sem] max2_int min2_int max_two min_two max_three min_three max_four min_four
set_option linter.unusedVariables false
set_option linter.unusedSimpArgs false
def laws_likeInts.l0 : Nat → List Int → List Int → Int → Option (Bool)
 | 0, _, _, _ => none
 | k + 1, x0, x1, x5 => if x5 < (x0.length : Int) then (if 0 ≤ x5 then (if x5 < (x1.length : Int) then (if (rd x0 x5) = (rd x1 x5) then (laws_likeInts.l0 k x0 x1 (wrap64 (x5 + 1))) else (some false)) else (none)) else (none)) else (some true)
def laws_likeInts.f (k : Nat) (l0 : List Int) (l1 : List Int) : Option (Bool) := if (l0.length : Int) = (l1.length : Int) then (laws_likeInts.l0 k l0 l1 0) else (some false)
set_option maxHeartbeats 8000000 in
set_option maxRecDepth 100000 in
theorem laws_likeInts.calls (k : Nat) (A0 : Option Addr) (c0 : Nat) (l0 : List Int) (A1 : Option Addr) (c1 : Nat) (l1 : List Int) (r : Bool) (w : World) (hr0 : Kd.C (Kd.int .i64) w A0 l0.length l0) (hc0 : l0.length ≤ c0) (hr1 : Kd.C (Kd.int .i64) w A1 l1.length l1) (hc1 : l1.length ≤ c1) (h : laws_likeInts.f k l0 l1 = some r) :
  Calls Try.prog 14 #[.slice A0 l0.length c0, .slice A1 l1.length c1] w fun e w' => e = .returned (.bool r) ∧ Drawn0 w w' := by
 have HR0 := am_ hr0; have HC0 := am_ hc0; clear hr0 hc0; have HR1 := am_ hr1; have HC1 := am_ hc1; clear hr1 hc1; have H : (if (l0.length : Int) = (l1.length : Int) then (laws_likeInts.l0 k l0 l1 0) else (some false)) = some r := h; clear h
 by_cases c3 : (l0.length : Int) = (l1.length : Int)
 ·rw [if_pos c3] at H
  have c3b0 := beq_iff_eq.mpr c3; have c3b1 := bne_eq_false_iff_eq.mpr c3
  have c3b2 : (l0.length == l1.length) = true := by first | simpa using c3 | (simp at c3 ⊢; omega)
  clear c3; have H' := am_ H; clear H
  go_enter Try.func14, Try.ntmps14
  go_wp2
  repeat (go_quiet (fail); try go_wp2)
  go_loopg [5] k (fun kq v5 w' => ∃ (x5_1 : Int), v5 = .int .i64 x5_1 ∧ Aside0 (laws_likeInts.l0 kq l0 l1 x5_1 = some r) ∧ Aside0 (kq ≤ k) ∧ Drawn0 w w')
  case atStart => exact ⟨(0), Za, H', ⟨Nat.le_refl _⟩, Zb⟩
  case round =>
   clear H'
   try clear c1
   try clear p2
   try clear c3
   try clear c3b0
   try clear c3b1
   try clear c3b2
   obtain ⟨x5_1, rfl, HA, HK1, ⟨m1, rfl⟩⟩ := hrel
   cases gk with
   | zero => exact absurd HA.out (by simp [laws_likeInts.l0])
   | succ k1 =>
    have H := HA.out; clear HA; simp only [laws_likeInts.l0] at H
    by_cases c4 : x5_1 < (l0.length : Int)
    ·rw [if_pos c4] at H
     have c4b0 := decide_eq_true c4; clear c4
     by_cases c5 : 0 ≤ x5_1
     ·rw [if_pos c5] at H
      have c5b0 := decide_eq_true c5; clear c5
      by_cases c6 : x5_1 < (l1.length : Int)
      ·rw [if_pos c6] at H
       have c6b0 := decide_eq_true c6; clear c6
       by_cases c7 : (rd l0 x5_1) = (rd l1 x5_1)
       ·rw [if_pos c7] at H
        have c7b0 := beq_iff_eq.mpr c7; have c7b1 := bne_eq_false_iff_eq.mpr c7; clear c7; have H' := am_ H; clear H; have p653 : 0 ≤ (x5_1 : Int) := of_decide_eq_true Zc; have q653 : x5_1 < (l0.length : Int) := of_decide_eq_true Zc; obtain ⟨ad653, e653, hx653_0⟩ := Kd.at_int HR0.out x5_1 p653 q653
        cases e653
        replace p653 := eq_true p653; replace q653 := eq_true q653; have p654 : 0 ≤ (x5_1 : Int) := of_decide_eq_true Zc; have q654 : x5_1 < (l1.length : Int) := of_decide_eq_true Zc; obtain ⟨ad654, e654, hx654_0⟩ := Kd.at_int HR1.out x5_1 p654 q654
        cases e654
        replace p654 := eq_true p654; replace q654 := eq_true q654
        go_wp2
        repeat (go_quiet (fail); try go_wp2)
        go_roundg k1
        case measure => have := HK1.out; omega
        case rel => exact ⟨(wrap64 (x5_1 + 1)), Za, H', ⟨Zd⟩, Zb⟩
       ·rw [if_neg c7] at H
        have c7b0 := beq_eq_false_iff_ne.mpr c7; have c7b1 := bne_iff_ne.mpr c7; obtain rfl := Option.some.inj H; have p653 : 0 ≤ (x5_1 : Int) := of_decide_eq_true Zc; have q653 : x5_1 < (l0.length : Int) := of_decide_eq_true Zc; obtain ⟨ad653, e653, hx653_0⟩ := Kd.at_int HR0.out x5_1 p653 q653
        cases e653
        replace p653 := eq_true p653; replace q653 := eq_true q653; have p654 : 0 ≤ (x5_1 : Int) := of_decide_eq_true Zc; have q654 : x5_1 < (l1.length : Int) := of_decide_eq_true Zc; obtain ⟨ad654, e654, hx654_0⟩ := Kd.at_int HR1.out x5_1 p654 q654
        cases e654
        replace p654 := eq_true p654; replace q654 := eq_true q654
        go_wp2
        repeat (go_quiet (fail); try go_wp2)
        go_ret
        exact ⟨Za, Zb⟩
      ·rw [if_neg c6] at H
       exact absurd H (by simp)
     ·rw [if_neg c5] at H
      exact absurd H (by simp)
    ·rw [if_neg c4] at H
     have c4b0 := decide_eq_false c4; clear c4; obtain rfl := Option.some.inj H
     go_wp2
     repeat (go_quiet (fail); try go_wp2)
     go_ret
     exact ⟨Za, Zb⟩
 ·rw [if_neg c3] at H
  have c3b0 := beq_eq_false_iff_ne.mpr c3; have c3b1 := bne_iff_ne.mpr c3
  have c3b2 : (l0.length == l1.length) = false := by first | simpa using c3 | (simp at c3 ⊢; omega)
  obtain rfl := Option.some.inj H
  go_enter Try.func14, Try.ntmps14
  go_wp2
  repeat (go_quiet (fail); try go_wp2)
  go_ret
  exact ⟨Za, Zb⟩
def laws_likeRows.l0 : Nat → List (List Int) → List (List Int) → Int → Option (Bool)
 | 0, _, _, _ => none
 | k + 1, x0, x1, x5 => if x5 < (x0.length : Int) then (if 0 ≤ x5 then (if x5 < (x1.length : Int) then ((laws_likeInts.f k (rd_L6 x0 x5) (rd_L6 x1 x5)).bind fun t1144 => (if t1144 = true then (laws_likeRows.l0 k x0 x1 (wrap64 (x5 + 1))) else (some false))) else (none)) else (none)) else (some true)
def laws_likeRows.f (k : Nat) (l0 : List (List Int)) (l1 : List (List Int)) : Option (Bool) := if (l0.length : Int) = (l1.length : Int) then (laws_likeRows.l0 k l0 l1 0) else (some false)
set_option maxHeartbeats 8000000 in
set_option maxRecDepth 100000 in
theorem laws_likeRows.calls (k : Nat) (A0 : Option Addr) (c0 : Nat) (l0 : List (List Int)) (A1 : Option Addr) (c1 : Nat) (l1 : List (List Int)) (r : Bool) (w : World) (hr0 : Kd.C (Kd.slice 2 (Kd.int .i64)) w A0 l0.length l0) (hc0 : l0.length ≤ c0) (hr1 : Kd.C (Kd.slice 2 (Kd.int .i64)) w A1 l1.length l1) (hc1 : l1.length ≤ c1) (h : laws_likeRows.f k l0 l1 = some r) :
  Calls Try.prog 34 #[.slice A0 l0.length c0, .slice A1 l1.length c1] w fun e w' => e = .returned (.bool r) ∧ Drawn0 w w' := by
 have HR0 := am_ hr0; have HC0 := am_ hc0; clear hr0 hc0; have HR1 := am_ hr1; have HC1 := am_ hc1; clear hr1 hc1; have H : (if (l0.length : Int) = (l1.length : Int) then (laws_likeRows.l0 k l0 l1 0) else (some false)) = some r := h; clear h
 by_cases c3 : (l0.length : Int) = (l1.length : Int)
 ·rw [if_pos c3] at H
  have c3b0 := beq_iff_eq.mpr c3; have c3b1 := bne_eq_false_iff_eq.mpr c3
  have c3b2 : (l0.length == l1.length) = true := by first | simpa using c3 | (simp at c3 ⊢; omega)
  clear c3; have H' := am_ H; clear H
  go_enter Try.func34, Try.ntmps34
  go_wp2
  repeat (go_quiet (fail); try go_wp2)
  go_loopg [5] k (fun kq v5 w' => ∃ (x5_1 : Int), v5 = .int .i64 x5_1 ∧ Aside0 (laws_likeRows.l0 kq l0 l1 x5_1 = some r) ∧ Aside0 (kq ≤ k) ∧ Drawn0 w w')
  case atStart => exact ⟨(0), Za, H', ⟨Nat.le_refl _⟩, Zb⟩
  case round =>
   clear H'
   try clear c1
   try clear p2
   try clear c3
   try clear c3b0
   try clear c3b1
   try clear c3b2
   obtain ⟨x5_1, rfl, HA, HK1, ⟨m1, rfl⟩⟩ := hrel
   cases gk with
   | zero => exact absurd HA.out (by simp [laws_likeRows.l0])
   | succ k1 =>
    have H := HA.out; clear HA; simp only [laws_likeRows.l0] at H
    by_cases c4 : x5_1 < (l0.length : Int)
    ·rw [if_pos c4] at H
     have c4b0 := decide_eq_true c4; clear c4
     by_cases c5 : 0 ≤ x5_1
     ·rw [if_pos c5] at H
      have c5b0 := decide_eq_true c5; clear c5
      by_cases c6 : x5_1 < (l1.length : Int)
      ·rw [if_pos c6] at H
       have c6b0 := decide_eq_true c6; clear c6; replace H := Option.bind_eq_some_iff.mp H; obtain ⟨t1144, A70, H⟩ := H; have A7 := am_ A70; clear A70
       by_cases c8 : t1144 = true
       ·subst c8
        have H1 : (laws_likeRows.l0 k1 l0 l1 (wrap64 (x5_1 + 1))) = some r := by rw [if_pos rfl] at H; exact H
        clear H; have H := H1; clear H1; have H' := am_ H; clear H; have p1142 : 0 ≤ (x5_1 : Int) := of_decide_eq_true Zc; have q1142 : x5_1 < (l0.length : Int) := of_decide_eq_true Zc; obtain ⟨ad1142, A1142_0, c1142_0, e1142, hx1142_0, hl1142_0, hi1142_0⟩ := at_L6 HR0.out x5_1 p1142 q1142
        cases e1142
        have HR1142_0 := am_ hi1142_0; have HC1142_0 := am_ hl1142_0; clear hi1142_0 hl1142_0; replace p1142 := eq_true p1142; replace q1142 := eq_true q1142; have p1143 : 0 ≤ (x5_1 : Int) := of_decide_eq_true Zc; have q1143 : x5_1 < (l1.length : Int) := of_decide_eq_true Zc; obtain ⟨ad1143, A1143_0, c1143_0, e1143, hx1143_0, hl1143_0, hi1143_0⟩ := at_L6 HR1.out x5_1 p1143 q1143
        cases e1143
        have HR1143_0 := am_ hi1143_0; have HC1143_0 := am_ hl1143_0; clear hi1143_0 hl1143_0; replace p1143 := eq_true p1143; replace q1143 := eq_true q1143
        go_wp2_with (first | (go_at_call 14; (with_reducible refine (laws_likeInts.calls k1 _ _ (rd_L6 l0 x5_1) _ _ (rd_L6 l1 x5_1) true _ ?side1 ?side2 ?side3 ?side4 A7.out).mono ?_); (case side1 => repeat (first | exact HR1142_0.out | (with_reducible refine Kd.C_alloc ?_ _) | (with_reducible refine Kd.C_drewN ?_ _) | (with_reducible refine Kd.C_drew ?_))); (case side2 => exact HC1142_0.out); (case side3 => repeat (first | exact HR1143_0.out | (with_reducible refine Kd.C_alloc ?_ _) | (with_reducible refine Kd.C_drewN ?_ _) | (with_reducible refine Kd.C_drew ?_))); (case side4 => exact HC1143_0.out); rintro e w' ⟨rfl, ⟨nd, rfl⟩⟩; (try first | exact ⟨rfl, _, World.drewN_drewN _ _ _⟩ | exact ⟨rfl, _, Eq.trans (World.drewN_drewN _ _ _) (congrArg (World.drewN _) (Nat.add_assoc _ _ _))⟩)))
        repeat (go_quiet (first | (go_at_call 14; (with_reducible refine (laws_likeInts.calls k1 _ _ (rd_L6 l0 x5_1) _ _ (rd_L6 l1 x5_1) true _ ?side1 ?side2 ?side3 ?side4 A7.out).mono ?_); (case side1 => repeat (first | exact HR1142_0.out | (with_reducible refine Kd.C_alloc ?_ _) | (with_reducible refine Kd.C_drewN ?_ _) | (with_reducible refine Kd.C_drew ?_))); (case side2 => exact HC1142_0.out); (case side3 => repeat (first | exact HR1143_0.out | (with_reducible refine Kd.C_alloc ?_ _) | (with_reducible refine Kd.C_drewN ?_ _) | (with_reducible refine Kd.C_drew ?_))); (case side4 => exact HC1143_0.out); rintro e w' ⟨rfl, ⟨nd, rfl⟩⟩; (try first | exact ⟨rfl, _, World.drewN_drewN _ _ _⟩ | exact ⟨rfl, _, Eq.trans (World.drewN_drewN _ _ _) (congrArg (World.drewN _) (Nat.add_assoc _ _ _))⟩))); try go_wp2_with (first | (go_at_call 14; (with_reducible refine (laws_likeInts.calls k1 _ _ (rd_L6 l0 x5_1) _ _ (rd_L6 l1 x5_1) true _ ?side1 ?side2 ?side3 ?side4 A7.out).mono ?_); (case side1 => repeat (first | exact HR1142_0.out | (with_reducible refine Kd.C_alloc ?_ _) | (with_reducible refine Kd.C_drewN ?_ _) | (with_reducible refine Kd.C_drew ?_))); (case side2 => exact HC1142_0.out); (case side3 => repeat (first | exact HR1143_0.out | (with_reducible refine Kd.C_alloc ?_ _) | (with_reducible refine Kd.C_drewN ?_ _) | (with_reducible refine Kd.C_drew ?_))); (case side4 => exact HC1143_0.out); rintro e w' ⟨rfl, ⟨nd, rfl⟩⟩; (try first | exact ⟨rfl, _, World.drewN_drewN _ _ _⟩ | exact ⟨rfl, _, Eq.trans (World.drewN_drewN _ _ _) (congrArg (World.drewN _) (Nat.add_assoc _ _ _))⟩))))
        go_roundg k1
        case measure => have := HK1.out; omega
        case rel => exact ⟨(wrap64 (x5_1 + 1)), Za, H', ⟨Zd⟩, Zb⟩
       ·replace c8 := Bool.eq_false_iff.mpr c8
        subst c8
        have H1 : (some false) = some r := by rw [if_neg (show ¬ (false = true) by decide)] at H; exact H
        clear H; have H := H1; clear H1; obtain rfl := Option.some.inj H; have p1142 : 0 ≤ (x5_1 : Int) := of_decide_eq_true Zc; have q1142 : x5_1 < (l0.length : Int) := of_decide_eq_true Zc; obtain ⟨ad1142, A1142_0, c1142_0, e1142, hx1142_0, hl1142_0, hi1142_0⟩ := at_L6 HR0.out x5_1 p1142 q1142
        cases e1142
        have HR1142_0 := am_ hi1142_0; have HC1142_0 := am_ hl1142_0; clear hi1142_0 hl1142_0; replace p1142 := eq_true p1142; replace q1142 := eq_true q1142; have p1143 : 0 ≤ (x5_1 : Int) := of_decide_eq_true Zc; have q1143 : x5_1 < (l1.length : Int) := of_decide_eq_true Zc; obtain ⟨ad1143, A1143_0, c1143_0, e1143, hx1143_0, hl1143_0, hi1143_0⟩ := at_L6 HR1.out x5_1 p1143 q1143
        cases e1143
        have HR1143_0 := am_ hi1143_0; have HC1143_0 := am_ hl1143_0; clear hi1143_0 hl1143_0; replace p1143 := eq_true p1143; replace q1143 := eq_true q1143
        go_wp2_with (first | (go_at_call 14; (with_reducible refine (laws_likeInts.calls k1 _ _ (rd_L6 l0 x5_1) _ _ (rd_L6 l1 x5_1) false _ ?side1 ?side2 ?side3 ?side4 A7.out).mono ?_); (case side1 => repeat (first | exact HR1142_0.out | (with_reducible refine Kd.C_alloc ?_ _) | (with_reducible refine Kd.C_drewN ?_ _) | (with_reducible refine Kd.C_drew ?_))); (case side2 => exact HC1142_0.out); (case side3 => repeat (first | exact HR1143_0.out | (with_reducible refine Kd.C_alloc ?_ _) | (with_reducible refine Kd.C_drewN ?_ _) | (with_reducible refine Kd.C_drew ?_))); (case side4 => exact HC1143_0.out); rintro e w' ⟨rfl, ⟨nd, rfl⟩⟩; (try first | exact ⟨rfl, _, World.drewN_drewN _ _ _⟩ | exact ⟨rfl, _, Eq.trans (World.drewN_drewN _ _ _) (congrArg (World.drewN _) (Nat.add_assoc _ _ _))⟩)))
        repeat (go_quiet (first | (go_at_call 14; (with_reducible refine (laws_likeInts.calls k1 _ _ (rd_L6 l0 x5_1) _ _ (rd_L6 l1 x5_1) false _ ?side1 ?side2 ?side3 ?side4 A7.out).mono ?_); (case side1 => repeat (first | exact HR1142_0.out | (with_reducible refine Kd.C_alloc ?_ _) | (with_reducible refine Kd.C_drewN ?_ _) | (with_reducible refine Kd.C_drew ?_))); (case side2 => exact HC1142_0.out); (case side3 => repeat (first | exact HR1143_0.out | (with_reducible refine Kd.C_alloc ?_ _) | (with_reducible refine Kd.C_drewN ?_ _) | (with_reducible refine Kd.C_drew ?_))); (case side4 => exact HC1143_0.out); rintro e w' ⟨rfl, ⟨nd, rfl⟩⟩; (try first | exact ⟨rfl, _, World.drewN_drewN _ _ _⟩ | exact ⟨rfl, _, Eq.trans (World.drewN_drewN _ _ _) (congrArg (World.drewN _) (Nat.add_assoc _ _ _))⟩))); try go_wp2_with (first | (go_at_call 14; (with_reducible refine (laws_likeInts.calls k1 _ _ (rd_L6 l0 x5_1) _ _ (rd_L6 l1 x5_1) false _ ?side1 ?side2 ?side3 ?side4 A7.out).mono ?_); (case side1 => repeat (first | exact HR1142_0.out | (with_reducible refine Kd.C_alloc ?_ _) | (with_reducible refine Kd.C_drewN ?_ _) | (with_reducible refine Kd.C_drew ?_))); (case side2 => exact HC1142_0.out); (case side3 => repeat (first | exact HR1143_0.out | (with_reducible refine Kd.C_alloc ?_ _) | (with_reducible refine Kd.C_drewN ?_ _) | (with_reducible refine Kd.C_drew ?_))); (case side4 => exact HC1143_0.out); rintro e w' ⟨rfl, ⟨nd, rfl⟩⟩; (try first | exact ⟨rfl, _, World.drewN_drewN _ _ _⟩ | exact ⟨rfl, _, Eq.trans (World.drewN_drewN _ _ _) (congrArg (World.drewN _) (Nat.add_assoc _ _ _))⟩))))
        go_ret
        exact ⟨Za, Zb⟩
      ·rw [if_neg c6] at H
       exact absurd H (by simp)
     ·rw [if_neg c5] at H
      exact absurd H (by simp)
    ·rw [if_neg c4] at H
     have c4b0 := decide_eq_false c4; clear c4; obtain rfl := Option.some.inj H
     go_wp2
     repeat (go_quiet (fail); try go_wp2)
     go_ret
     exact ⟨Za, Zb⟩
 ·rw [if_neg c3] at H
  have c3b0 := beq_eq_false_iff_ne.mpr c3; have c3b1 := bne_iff_ne.mpr c3
  have c3b2 : (l0.length == l1.length) = false := by first | simpa using c3 | (simp at c3 ⊢; omega)
  obtain rfl := Option.some.inj H
  go_enter Try.func34, Try.ntmps34
  go_wp2
  repeat (go_quiet (fail); try go_wp2)
  go_ret
  exact ⟨Za, Zb⟩
def impl_within.f (a0 : Int) (a1 : Int) (a2 : Int) : Option (Bool) := if a1 ≤ a0 then (some (decide (a0 ≤ a2))) else (some false)
set_option maxHeartbeats 8000000 in
set_option maxRecDepth 100000 in
theorem impl_within.calls (a0 : Int) (a1 : Int) (a2 : Int) (r : Bool) (w : World) (h : impl_within.f a0 a1 a2 = some r) :
  Calls Try.prog 53 #[.int .i64 a0, .int .i64 a1, .int .i64 a2] w fun e w' => e = .returned (.bool r) ∧ Drawn0 w w' := by
 have H : (if a1 ≤ a0 then (some (decide (a0 ≤ a2))) else (some false)) = some r := h; clear h
 by_cases c4 : a1 ≤ a0
 ·rw [if_pos c4] at H
  have c4b0 := decide_eq_true c4; clear c4; obtain rfl := Option.some.inj H
  go_enter Try.func53, Try.ntmps53
  go_wp2
  go_ret
  exact ⟨Za, Zb⟩
 ·rw [if_neg c4] at H
  have c4b0 := decide_eq_false c4; clear c4; obtain rfl := Option.some.inj H
  go_enter Try.func53, Try.ntmps53
  go_wp2
  go_ret
  exact ⟨Za, Zb⟩
mutual
def impl_IsScore.j0 : Nat → List (S104) → Bool → Option (Bool)
 | 0, _, _ => none
 | k + 1, x0, x12 => if x12 = true then (some false) else (impl_IsScore.l0 k x0 (x0.length : Int) 0)
def impl_IsScore.l0 : Nat → List (S104) → Int → Int → Option (Bool)
 | 0, _, _, _ => none
 | k + 1, x13, x14, x15 => if x15 < x14 then (if 0 ≤ x15 then (if x15 < (x13.length : Int) then ((impl_within.f ((rd_T104 x13 x15).f0) 1 16).bind fun t537 => (if t537 = true then ((impl_within.f ((rd_T104 x13 x15).f1) 100 5000).bind fun t538 => (if t538 = true then (impl_IsScore.l0 k x13 x14 (wrap64 (x15 + 1))) else (some false))) else (some false))) else (none)) else (none)) else (some true)
end
def impl_IsScore.f (k : Nat) (l0 : List (S104)) : Option (Bool) := if (l0.length : Int) < 1 then (impl_IsScore.j0 k l0 true) else (impl_IsScore.j0 k l0 (decide ((l0.length : Int) > 20)))
set_option maxHeartbeats 8000000 in
set_option maxRecDepth 100000 in
theorem impl_IsScore.calls (k : Nat) (A0 : Option Addr) (c0 : Nat) (l0 : List (S104)) (r : Bool) (w : World) (hr0 : Kd.C k104 w A0 l0.length l0) (hc0 : l0.length ≤ c0) (h : impl_IsScore.f k l0 = some r) :
  Calls Try.prog 68 #[.slice A0 l0.length c0] w fun e w' => e = .returned (.bool r) ∧ Below w.heap.size w w' := by
 have hu104 := Try.underlying104; have HR0 := am_ hr0; have HC0 := am_ hc0; clear hr0 hc0; have HB := am_ (Below.refl w.heap.size w); have H : (if (l0.length : Int) < 1 then (impl_IsScore.j0 k l0 true) else (impl_IsScore.j0 k l0 (decide ((l0.length : Int) > 20)))) = some r := h; clear h; have HC2 := am_ H; clear H
 go_enter Try.func68, Try.ntmps68
 go_upto_region 1 with (fail)
 go_cut [12] (fun v12 wc => ∃ (kq : Nat) (x12_1 : Bool), v12 = .bool x12_1 ∧ Aside0 (impl_IsScore.j0 kq l0 x12_1 = some r) ∧ Aside0 (kq ≤ k) ∧ Aside0 (Below w.heap.size w wc))
 case first =>
  have H := HC2.out; clear HC2
  by_cases c3 : (l0.length : Int) < 1
  ·rw [if_pos c3] at H
   have c3b0 := decide_eq_true c3; have c3b1 : decide (l0.length < 1) = true := decide_eq_true (by omega); clear c3
   (first | rw [c3b0] | (simp only [i64_w, i32_w]; rw [c3b0]) | skip)
   have H' := am_ H; clear H
   go_wp2
   go_meet
   case rel => exact ⟨_, (true), Za, H', ⟨Ze⟩, ⟨Zf⟩⟩
  ·rw [if_neg c3] at H
   have c3b0 := decide_eq_false c3; have c3b1 : decide (l0.length < 1) = false := decide_eq_false (by omega); clear c3
   (first | rw [c3b0] | (simp only [i64_w, i32_w]; rw [c3b0]) | skip)
   have H' := am_ H; clear H
   go_wp2
   go_meet
   case rel => exact ⟨_, (decide ((l0.length : Int) > 20)), Za, H', ⟨Ze⟩, ⟨Zf⟩⟩
 case rest =>
  clear HC2
  try clear p2
  try clear c3
  try clear c3b0
  try clear c3b1
  obtain ⟨kq, x12_1, rfl, HA, HJ1, HB⟩ := hcut
  cases kq with
  | zero => exact absurd HA.out (by simp [impl_IsScore.j0])
  | succ kj1 =>
   have H := HA.out; clear HA; simp only [impl_IsScore.j0] at H
   by_cases c4 : x12_1 = true
   ·subst c4
    have H1 : (some false) = some r := by rw [if_pos rfl] at H; exact H
    clear H; have H := H1; clear H1; obtain rfl := Option.some.inj H
    go_wp2
    go_ret
    exact ⟨Zg, Zf⟩
   ·replace c4 := Bool.eq_false_iff.mpr c4
    subst c4
    have H1 : (impl_IsScore.l0 kj1 l0 (l0.length : Int) 0) = some r := by rw [if_neg (show ¬ (false = true) by decide)] at H; exact H
    clear H; have H := H1; clear H1; have H' := am_ H; clear H
    go_wp2
    go_loopg [15] kj1 (fun kq v15 w' => ∃ (x15_2 : Int), v15 = .int .i64 x15_2 ∧ Aside0 (impl_IsScore.l0 kq l0 (l0.length : Int) x15_2 = some r) ∧ Aside0 (kq ≤ kj1) ∧ Aside0 (Below w.heap.size w w'))
    case atStart => exact ⟨(0), Za, H', ⟨Nat.le_refl _⟩, ⟨Zf⟩⟩
    case round =>
     clear H'
     try clear p2
     try clear c3
     try clear c3b0
     try clear c3b1
     try clear c4
     try clear p2
     obtain ⟨x15_2, rfl, HA, HK2, HB⟩ := hrel
     cases gk with
     | zero => exact absurd HA.out (by simp [impl_IsScore.l0])
     | succ k2 =>
      have H := HA.out; clear HA; simp only [impl_IsScore.l0] at H
      by_cases c5 : x15_2 < (l0.length : Int)
      ·rw [if_pos c5] at H
       have c5b0 := decide_eq_true c5; clear c5
       by_cases c6 : 0 ≤ x15_2
       ·rw [if_pos c6] at H
        have c6b0 := decide_eq_true c6; clear c6
        by_cases c7 : x15_2 < (l0.length : Int)
        ·rw [if_pos c7] at H
         have c7b0 := decide_eq_true c7; clear c7; replace H := Option.bind_eq_some_iff.mp H; obtain ⟨t537, A80, H⟩ := H; have A8 := am_ A80; clear A80
         by_cases c9 : t537 = true
         ·subst c9
          have H1 : ((impl_within.f ((rd_T104 l0 x15_2).f1) 100 5000).bind fun t538 => (if t538 = true then (impl_IsScore.l0 k2 l0 (l0.length : Int) (wrap64 (x15_2 + 1))) else (some false))) = some r := by rw [if_pos rfl] at H; exact H
          clear H; have H := H1; clear H1; replace H := Option.bind_eq_some_iff.mp H; obtain ⟨t538, A100, H⟩ := H; have A10 := am_ A100; clear A100
          by_cases c11 : t538 = true
          ·subst c11
           have H1 : (impl_IsScore.l0 k2 l0 (l0.length : Int) (wrap64 (x15_2 + 1))) = some r := by rw [if_pos rfl] at H; exact H
           clear H; have H := H1; clear H1; have H' := am_ H; clear H; have p535 : 0 ≤ (x15_2 : Int) := of_decide_eq_true Zc; have q535 : x15_2 < (l0.length : Int) := of_decide_eq_true Zc; obtain ⟨ad535, e535, hx535_0, hx535_1⟩ := at_T104 HR0.out x15_2 p535 q535
           cases e535
           replace hx535_0 := cbH HB hx535_0; replace hx535_1 := cbH HB hx535_1; replace p535 := eq_true p535; replace q535 := eq_true q535
           go_wp2_with (first | ((with_reducible refine gate_dst (N := 4) rfl ?_); (try (refine gate_guard (by rfl) ?_; dsimp only)); refine boxZ 4 #[.int .i64 0, .int .i64 0] 104 ?_; intro gb536 hg w12 hbox hb; replace BK536 := am_ (hbox); replace GW536 := am_ ((Zh : w.heap.size ≤ gb536)); replace GE536 := GW536; replace HB := (bsZ Zf hb); clear hb hbox hg; refine ci2 BK536 ?_; intros) | ((with_reducible refine gate_callee (f := 53) rfl ?_); refine goesL_ (some 21) rfl rfl Try.func53 Zi rfl #[.int .i64 ((rd_T104 l0 x15_2).f0), .int .i64 1, .int .i64 16] rfl Zj ?_; (with_reducible refine (impl_within.calls ((rd_T104 l0 x15_2).f0) 1 16 true _ A8.out).mono ?_); rintro e w' ⟨rfl, ⟨nd, rfl⟩⟩; refine ⟨_, rfl, ?_⟩) | (go_at_call 53; (with_reducible refine (impl_within.calls ((rd_T104 l0 x15_2).f1) 100 5000 true _ A10.out).mono ?_); rintro e w' ⟨rfl, ⟨nd, rfl⟩⟩))
           go_roundg k2
           case measure => have := HJ1.out; have := HK2.out; omega
           case rel => exact ⟨(wrap64 (x15_2 + 1)), Za, H', ⟨by have := HJ1.out; have := HK2.out; omega⟩, ⟨(have z0_ := GE536; Zk)⟩⟩
          ·replace c11 := Bool.eq_false_iff.mpr c11
           subst c11
           have H1 : (some false) = some r := by rw [if_neg (show ¬ (false = true) by decide)] at H; exact H
           clear H; have H := H1; clear H1; obtain rfl := Option.some.inj H; have p535 : 0 ≤ (x15_2 : Int) := of_decide_eq_true Zc; have q535 : x15_2 < (l0.length : Int) := of_decide_eq_true Zc; obtain ⟨ad535, e535, hx535_0, hx535_1⟩ := at_T104 HR0.out x15_2 p535 q535
           cases e535
           replace hx535_0 := cbH HB hx535_0; replace hx535_1 := cbH HB hx535_1; replace p535 := eq_true p535; replace q535 := eq_true q535
           go_wp2_with (first | ((with_reducible refine gate_dst (N := 4) rfl ?_); (try (refine gate_guard (by rfl) ?_; dsimp only)); refine boxZ 4 #[.int .i64 0, .int .i64 0] 104 ?_; intro gb536 hg w14 hbox hb; replace BK536 := am_ (hbox); replace GW536 := am_ ((Zh : w.heap.size ≤ gb536)); replace GE536 := GW536; replace HB := (bsZ Zf hb); clear hb hbox hg; refine ci2 BK536 ?_; intros) | ((with_reducible refine gate_callee (f := 53) rfl ?_); refine goesL_ (some 21) rfl rfl Try.func53 Zi rfl #[.int .i64 ((rd_T104 l0 x15_2).f0), .int .i64 1, .int .i64 16] rfl Zj ?_; (with_reducible refine (impl_within.calls ((rd_T104 l0 x15_2).f0) 1 16 true _ A8.out).mono ?_); rintro e w' ⟨rfl, ⟨nd, rfl⟩⟩; refine ⟨_, rfl, ?_⟩) | (go_at_call 53; (with_reducible refine (impl_within.calls ((rd_T104 l0 x15_2).f1) 100 5000 false _ A10.out).mono ?_); rintro e w' ⟨rfl, ⟨nd, rfl⟩⟩))
           go_ret
           exact ⟨Zg, (have z0_ := GE536; Zk)⟩
         ·replace c9 := Bool.eq_false_iff.mpr c9
          subst c9
          have H1 : (some false) = some r := by rw [if_neg (show ¬ (false = true) by decide)] at H; exact H
          clear H; have H := H1; clear H1; obtain rfl := Option.some.inj H; have p535 : 0 ≤ (x15_2 : Int) := of_decide_eq_true Zc; have q535 : x15_2 < (l0.length : Int) := of_decide_eq_true Zc; obtain ⟨ad535, e535, hx535_0, hx535_1⟩ := at_T104 HR0.out x15_2 p535 q535
          cases e535
          replace hx535_0 := cbH HB hx535_0; replace hx535_1 := cbH HB hx535_1; replace p535 := eq_true p535; replace q535 := eq_true q535
          go_wp2_with (first | ((with_reducible refine gate_dst (N := 4) rfl ?_); (try (refine gate_guard (by rfl) ?_; dsimp only)); refine boxZ 4 #[.int .i64 0, .int .i64 0] 104 ?_; intro gb536 hg w16 hbox hb; replace BK536 := am_ (hbox); replace GW536 := am_ ((Zh : w.heap.size ≤ gb536)); replace GE536 := GW536; replace HB := (bsZ Zf hb); clear hb hbox hg; refine ci2 BK536 ?_; intros) | ((with_reducible refine gate_callee (f := 53) rfl ?_); refine goesL_ (some 21) rfl rfl Try.func53 Zi rfl #[.int .i64 ((rd_T104 l0 x15_2).f0), .int .i64 1, .int .i64 16] rfl Zj ?_; (with_reducible refine (impl_within.calls ((rd_T104 l0 x15_2).f0) 1 16 false _ A8.out).mono ?_); rintro e w' ⟨rfl, ⟨nd, rfl⟩⟩; refine ⟨_, rfl, ?_⟩))
          go_ret
          exact ⟨Zg, (have z0_ := GE536; Zk)⟩
        ·rw [if_neg c7] at H
         exact absurd H (by simp)
       ·rw [if_neg c6] at H
        exact absurd H (by simp)
      ·rw [if_neg c5] at H
       have c5b0 := decide_eq_false c5; clear c5; obtain rfl := Option.some.inj H
       go_wp2
       go_ret
       exact ⟨Zg, Zf⟩
mutual
def impl_IsWord.j0 : Nat → ByteArray → Bool → Option (Bool)
 | 0, _, _ => none
 | k + 1, x0, x11 => if x11 = true then (some false) else (impl_IsWord.l0 k x0 0)
def impl_IsWord.l0 : Nat → ByteArray → Int → Option (Bool)
 | 0, _, _ => none
 | k + 1, x0, x3 => if x3 < (x0.size : Int) then (if 0 ≤ x3 then (if (bt x0 x3) < 97 then (some false) else (if (bt x0 x3) > 122 then (some false) else (impl_IsWord.l0 k x0 (wrap64 (x3 + 1))))) else (none)) else (some true)
end
def impl_IsWord.f (k : Nat) (a0 : ByteArray) : Option (Bool) := if (a0.size : Int) < 1 then (impl_IsWord.j0 k a0 true) else (impl_IsWord.j0 k a0 (decide ((a0.size : Int) > 16)))
set_option maxHeartbeats 8000000 in
set_option maxRecDepth 100000 in
theorem impl_IsWord.calls (k : Nat) (a0 : ByteArray) (r : Bool) (w : World) (h : impl_IsWord.f k a0 = some r) :
  Calls Try.prog 100 #[.string a0] w fun e w' => e = .returned (.bool r) ∧ Drawn0 w w' := by
 have H : (if (a0.size : Int) < 1 then (impl_IsWord.j0 k a0 true) else (impl_IsWord.j0 k a0 (decide ((a0.size : Int) > 16)))) = some r := h; clear h; have HC2 := am_ H; clear H
 go_enter Try.func100, Try.ntmps100
 go_upto_region 1 with (fail)
 go_cut [11] (fun v11 wc => ∃ (kq : Nat) (x11_1 : Bool), v11 = .bool x11_1 ∧ Aside0 (impl_IsWord.j0 kq a0 x11_1 = some r) ∧ Aside0 (kq ≤ k) ∧ Drawn0 w wc)
 case first =>
  have H := HC2.out; clear HC2
  by_cases c3 : (a0.size : Int) < 1
  ·rw [if_pos c3] at H
   have c3b0 := decide_eq_true c3; have c3b1 : decide (a0.size < 1) = true := decide_eq_true (by omega); clear c3
   (first | rw [c3b0] | (simp only [i64_w, i32_w]; rw [c3b0]) | skip)
   have H' := am_ H; clear H
   go_wp2
   go_meet
   case rel => exact ⟨_, (true), Za, H', ⟨Ze⟩, Zb⟩
  ·rw [if_neg c3] at H
   have c3b0 := decide_eq_false c3; have c3b1 : decide (a0.size < 1) = false := decide_eq_false (by omega); clear c3
   (first | rw [c3b0] | (simp only [i64_w, i32_w]; rw [c3b0]) | skip)
   have H' := am_ H; clear H
   go_wp2
   go_meet
   case rel => exact ⟨_, (decide ((a0.size : Int) > 16)), Za, H', ⟨Ze⟩, Zb⟩
 case rest =>
  clear HC2
  try clear c1
  try clear p2
  try clear c3
  try clear c3b0
  try clear c3b1
  obtain ⟨kq, x11_1, rfl, HA, HJ1, ⟨mc1, rfl⟩⟩ := hcut
  cases kq with
  | zero => exact absurd HA.out (by simp [impl_IsWord.j0])
  | succ kj1 =>
   have H := HA.out; clear HA; simp only [impl_IsWord.j0] at H
   by_cases c4 : x11_1 = true
   ·subst c4
    have H1 : (some false) = some r := by rw [if_pos rfl] at H; exact H
    clear H; have H := H1; clear H1; obtain rfl := Option.some.inj H
    go_wp2
    go_ret
    exact ⟨Za, Zb⟩
   ·replace c4 := Bool.eq_false_iff.mpr c4
    subst c4
    have H1 : (impl_IsWord.l0 kj1 a0 0) = some r := by rw [if_neg (show ¬ (false = true) by decide)] at H; exact H
    clear H; have H := H1; clear H1; have H' := am_ H; clear H
    go_wp2
    go_loopg [3] kj1 (fun kq v3 w' => ∃ (x3_2 : Int), v3 = .int .i64 x3_2 ∧ Aside0 (impl_IsWord.l0 kq a0 x3_2 = some r) ∧ Aside0 (kq ≤ kj1) ∧ Drawn0 w w')
    case atStart => exact ⟨(0), Za, H', ⟨Nat.le_refl _⟩, Zb⟩
    case round =>
     clear H'
     try clear c1
     try clear p2
     try clear c3
     try clear c3b0
     try clear c3b1
     try clear c4
     try clear p2
     obtain ⟨x3_2, rfl, HA, HK2, ⟨m2, rfl⟩⟩ := hrel
     cases gk with
     | zero => exact absurd HA.out (by simp [impl_IsWord.l0])
     | succ k2 =>
      have H := HA.out; clear HA; simp only [impl_IsWord.l0] at H
      by_cases c5 : x3_2 < (a0.size : Int)
      ·rw [if_pos c5] at H
       have c5b0 := decide_eq_true c5; clear c5
       by_cases c6 : 0 ≤ x3_2
       ·rw [if_pos c6] at H
        have c6b0 := decide_eq_true c6; clear c6
        by_cases c8 : (bt a0 x3_2) < 97
        ·rw [if_pos c8] at H
         have c8b0 := decide_eq_true c8; clear c8; obtain rfl := Option.some.inj H; have p7 : 0 ≤ (x3_2 : Int) := of_decide_eq_true Zc; have q7 : x3_2 < (a0.size : Int) := of_decide_eq_true Zc; have hx7 := bt_at a0 x3_2; replace p7 := eq_true p7; replace q7 := eq_true q7
         go_wp2
         go_ret
         exact ⟨Za, Zb⟩
        ·rw [if_neg c8] at H
         have c8b0 := decide_eq_false c8; clear c8
         by_cases c10 : (bt a0 x3_2) > 122
         ·rw [if_pos c10] at H
          have c10b0 : decide (122 < (bt a0 x3_2)) = true := decide_eq_true c10; clear c10; obtain rfl := Option.some.inj H; have p7 : 0 ≤ (x3_2 : Int) := of_decide_eq_true Zc; have q7 : x3_2 < (a0.size : Int) := of_decide_eq_true Zc; have hx7 := bt_at a0 x3_2; replace p7 := eq_true p7; replace q7 := eq_true q7; have p9 : 0 ≤ (x3_2 : Int) := of_decide_eq_true Zc; have q9 : x3_2 < (a0.size : Int) := of_decide_eq_true Zc; have hx9 := bt_at a0 x3_2; replace p9 := eq_true p9; replace q9 := eq_true q9
          go_wp2
          go_ret
          exact ⟨Za, Zb⟩
         ·rw [if_neg c10] at H
          have c10b0 : decide (122 < (bt a0 x3_2)) = false := decide_eq_false c10; clear c10; have H' := am_ H; clear H; have p7 : 0 ≤ (x3_2 : Int) := of_decide_eq_true Zc; have q7 : x3_2 < (a0.size : Int) := of_decide_eq_true Zc; have hx7 := bt_at a0 x3_2; replace p7 := eq_true p7; replace q7 := eq_true q7; have p9 : 0 ≤ (x3_2 : Int) := of_decide_eq_true Zc; have q9 : x3_2 < (a0.size : Int) := of_decide_eq_true Zc; have hx9 := bt_at a0 x3_2; replace p9 := eq_true p9; replace q9 := eq_true q9
          go_wp2
          go_roundg k2
          case measure => have := HJ1.out; have := HK2.out; omega
          case rel => exact ⟨(wrap64 (x3_2 + 1)), Za, H', ⟨by have := HJ1.out; have := HK2.out; omega⟩, Zb⟩
       ·rw [if_neg c6] at H
        exact absurd H (by simp)
      ·rw [if_neg c5] at H
       have c5b0 := decide_eq_false c5; clear c5; obtain rfl := Option.some.inj H
       go_wp2
       go_ret
       exact ⟨Za, Zb⟩
def impl_IsArticle.f (k : Nat) (a0_0 : ByteArray) (a0_1 : Int) (a0_2 : Int) (a0_3 : Int) (a0_4 : Int) (a0_5 : Int) (a0_6 : Int) (a0_7 : Int) (a0_8 : Int) : Option (Bool) := (impl_IsWord.f k a0_0).bind fun t540 => (if t540 = true then ((impl_within.f a0_1 0 3).bind fun t541 => (if t541 = true then ((impl_within.f a0_2 20 300).bind fun t542 => (if t542 = true then ((impl_within.f a0_3 0 10000).bind fun t543 => (if t543 = true then ((impl_within.f a0_4 0 a0_3).bind fun t544 => (if t544 = true then ((impl_within.f a0_5 1 50).bind fun t545 => (if t545 = true then ((impl_within.f a0_6 0 10000).bind fun t546 => (if t546 = true then ((impl_within.f a0_7 1 100000).bind fun t547 => (if t547 = true then ((impl_within.f a0_8 0 3).bind fun t548 => (some t548)) else (some false))) else (some false))) else (some false))) else (some false))) else (some false))) else (some false))) else (some false))) else (some false))
set_option maxHeartbeats 8000000 in
set_option maxRecDepth 100000 in
theorem impl_IsArticle.calls (k : Nat) (a0_0 : ByteArray) (a0_1 : Int) (a0_2 : Int) (a0_3 : Int) (a0_4 : Int) (a0_5 : Int) (a0_6 : Int) (a0_7 : Int) (a0_8 : Int) (r : Bool) (w : World) (h : impl_IsArticle.f k a0_0 a0_1 a0_2 a0_3 a0_4 a0_5 a0_6 a0_7 a0_8 = some r) :
  Calls Try.prog 91 #[.agg #[.string a0_0, .int .i64 a0_1, .int .i64 a0_2, .int .i64 a0_3, .int .i64 a0_4, .int .i64 a0_5, .int .i64 a0_6, .int .i64 a0_7, .int .i64 a0_8]] w fun e w' => e = .returned (.bool r) ∧ Below w.heap.size w w' := by
 have hu62 := Try.underlying62; have HB := am_ (Below.refl w.heap.size w); have H : ((impl_IsWord.f k a0_0).bind fun t540 => (if t540 = true then ((impl_within.f a0_1 0 3).bind fun t541 => (if t541 = true then ((impl_within.f a0_2 20 300).bind fun t542 => (if t542 = true then ((impl_within.f a0_3 0 10000).bind fun t543 => (if t543 = true then ((impl_within.f a0_4 0 a0_3).bind fun t544 => (if t544 = true then ((impl_within.f a0_5 1 50).bind fun t545 => (if t545 = true then ((impl_within.f a0_6 0 10000).bind fun t546 => (if t546 = true then ((impl_within.f a0_7 1 100000).bind fun t547 => (if t547 = true then ((impl_within.f a0_8 0 3).bind fun t548 => (some t548)) else (some false))) else (some false))) else (some false))) else (some false))) else (some false))) else (some false))) else (some false))) else (some false))) = some r := h; clear h; replace H := Option.bind_eq_some_iff.mp H; obtain ⟨t540, A20, H⟩ := H; have A2 := am_ A20; clear A20
 by_cases c3 : t540 = true
 ·subst c3
  have H1 : ((impl_within.f a0_1 0 3).bind fun t541 => (if t541 = true then ((impl_within.f a0_2 20 300).bind fun t542 => (if t542 = true then ((impl_within.f a0_3 0 10000).bind fun t543 => (if t543 = true then ((impl_within.f a0_4 0 a0_3).bind fun t544 => (if t544 = true then ((impl_within.f a0_5 1 50).bind fun t545 => (if t545 = true then ((impl_within.f a0_6 0 10000).bind fun t546 => (if t546 = true then ((impl_within.f a0_7 1 100000).bind fun t547 => (if t547 = true then ((impl_within.f a0_8 0 3).bind fun t548 => (some t548)) else (some false))) else (some false))) else (some false))) else (some false))) else (some false))) else (some false))) else (some false))) = some r := by rw [if_pos rfl] at H; exact H
  clear H; have H := H1; clear H1; replace H := Option.bind_eq_some_iff.mp H; obtain ⟨t541, A40, H⟩ := H; have A4 := am_ A40; clear A40
  by_cases c5 : t541 = true
  ·subst c5
   have H1 : ((impl_within.f a0_2 20 300).bind fun t542 => (if t542 = true then ((impl_within.f a0_3 0 10000).bind fun t543 => (if t543 = true then ((impl_within.f a0_4 0 a0_3).bind fun t544 => (if t544 = true then ((impl_within.f a0_5 1 50).bind fun t545 => (if t545 = true then ((impl_within.f a0_6 0 10000).bind fun t546 => (if t546 = true then ((impl_within.f a0_7 1 100000).bind fun t547 => (if t547 = true then ((impl_within.f a0_8 0 3).bind fun t548 => (some t548)) else (some false))) else (some false))) else (some false))) else (some false))) else (some false))) else (some false))) = some r := by rw [if_pos rfl] at H; exact H
   clear H; have H := H1; clear H1; replace H := Option.bind_eq_some_iff.mp H; obtain ⟨t542, A60, H⟩ := H; have A6 := am_ A60; clear A60
   by_cases c7 : t542 = true
   ·subst c7
    have H1 : ((impl_within.f a0_3 0 10000).bind fun t543 => (if t543 = true then ((impl_within.f a0_4 0 a0_3).bind fun t544 => (if t544 = true then ((impl_within.f a0_5 1 50).bind fun t545 => (if t545 = true then ((impl_within.f a0_6 0 10000).bind fun t546 => (if t546 = true then ((impl_within.f a0_7 1 100000).bind fun t547 => (if t547 = true then ((impl_within.f a0_8 0 3).bind fun t548 => (some t548)) else (some false))) else (some false))) else (some false))) else (some false))) else (some false))) = some r := by rw [if_pos rfl] at H; exact H
    clear H; have H := H1; clear H1; replace H := Option.bind_eq_some_iff.mp H; obtain ⟨t543, A80, H⟩ := H; have A8 := am_ A80; clear A80
    by_cases c9 : t543 = true
    ·subst c9
     have H1 : ((impl_within.f a0_4 0 a0_3).bind fun t544 => (if t544 = true then ((impl_within.f a0_5 1 50).bind fun t545 => (if t545 = true then ((impl_within.f a0_6 0 10000).bind fun t546 => (if t546 = true then ((impl_within.f a0_7 1 100000).bind fun t547 => (if t547 = true then ((impl_within.f a0_8 0 3).bind fun t548 => (some t548)) else (some false))) else (some false))) else (some false))) else (some false))) = some r := by rw [if_pos rfl] at H; exact H
     clear H; have H := H1; clear H1; replace H := Option.bind_eq_some_iff.mp H; obtain ⟨t544, A100, H⟩ := H; have A10 := am_ A100; clear A100
     by_cases c11 : t544 = true
     ·subst c11
      have H1 : ((impl_within.f a0_5 1 50).bind fun t545 => (if t545 = true then ((impl_within.f a0_6 0 10000).bind fun t546 => (if t546 = true then ((impl_within.f a0_7 1 100000).bind fun t547 => (if t547 = true then ((impl_within.f a0_8 0 3).bind fun t548 => (some t548)) else (some false))) else (some false))) else (some false))) = some r := by rw [if_pos rfl] at H; exact H
      clear H; have H := H1; clear H1; replace H := Option.bind_eq_some_iff.mp H; obtain ⟨t545, A120, H⟩ := H; have A12 := am_ A120; clear A120
      by_cases c13 : t545 = true
      ·subst c13
       have H1 : ((impl_within.f a0_6 0 10000).bind fun t546 => (if t546 = true then ((impl_within.f a0_7 1 100000).bind fun t547 => (if t547 = true then ((impl_within.f a0_8 0 3).bind fun t548 => (some t548)) else (some false))) else (some false))) = some r := by rw [if_pos rfl] at H; exact H
       clear H; have H := H1; clear H1; replace H := Option.bind_eq_some_iff.mp H; obtain ⟨t546, A140, H⟩ := H; have A14 := am_ A140; clear A140
       by_cases c15 : t546 = true
       ·subst c15
        have H1 : ((impl_within.f a0_7 1 100000).bind fun t547 => (if t547 = true then ((impl_within.f a0_8 0 3).bind fun t548 => (some t548)) else (some false))) = some r := by rw [if_pos rfl] at H; exact H
        clear H; have H := H1; clear H1; replace H := Option.bind_eq_some_iff.mp H; obtain ⟨t547, A160, H⟩ := H; have A16 := am_ A160; clear A160
        by_cases c17 : t547 = true
        ·subst c17
         have H1 : ((impl_within.f a0_8 0 3).bind fun t548 => (some t548)) = some r := by rw [if_pos rfl] at H; exact H
         clear H; have H := H1; clear H1; replace H := Option.bind_eq_some_iff.mp H; obtain ⟨t548, A180, H⟩ := H; have A18 := am_ A180; clear A180; obtain rfl := Option.some.inj H
         go_enter Try.func91, Try.ntmps91
         go_wp2_with (first | ((with_reducible refine gate_dst (N := 1) rfl ?_); refine boxZ 1 #[.string a0_0, .int .i64 a0_1, .int .i64 a0_2, .int .i64 a0_3, .int .i64 a0_4, .int .i64 a0_5, .int .i64 a0_6, .int .i64 a0_7, .int .i64 a0_8] 62 ?_; intro gb539 hg w19 hbox hb; replace BK539 := am_ (hbox); replace GW539 := am_ ((Zh : w.heap.size ≤ gb539)); replace GE539 := GW539; replace HB := (bsZ Zf hb); clear hb hbox hg; refine ci9 BK539 ?_; intros) | ((with_reducible refine gate_callee (f := 100) rfl ?_); refine goesL_ (some 5) rfl rfl Try.func100 Zi rfl #[.string a0_0] rfl Zj ?_; (with_reducible refine (impl_IsWord.calls k a0_0 true _ A2.out).mono ?_); rintro e w' ⟨rfl, ⟨nd, rfl⟩⟩; refine ⟨_, rfl, ?_⟩) | (go_at_call 53; (with_reducible refine (impl_within.calls a0_1 0 3 true _ A4.out).mono ?_); rintro e w' ⟨rfl, ⟨nd, rfl⟩⟩) | (go_at_call 53; (with_reducible refine (impl_within.calls a0_2 20 300 true _ A6.out).mono ?_); rintro e w' ⟨rfl, ⟨nd, rfl⟩⟩) | (go_at_call 53; (with_reducible refine (impl_within.calls a0_3 0 10000 true _ A8.out).mono ?_); rintro e w' ⟨rfl, ⟨nd, rfl⟩⟩) | (go_at_call 53; (with_reducible refine (impl_within.calls a0_4 0 a0_3 true _ A10.out).mono ?_); rintro e w' ⟨rfl, ⟨nd, rfl⟩⟩) | (go_at_call 53; (with_reducible refine (impl_within.calls a0_5 1 50 true _ A12.out).mono ?_); rintro e w' ⟨rfl, ⟨nd, rfl⟩⟩) | (go_at_call 53; (with_reducible refine (impl_within.calls a0_6 0 10000 true _ A14.out).mono ?_); rintro e w' ⟨rfl, ⟨nd, rfl⟩⟩) | (go_at_call 53; (with_reducible refine (impl_within.calls a0_7 1 100000 true _ A16.out).mono ?_); rintro e w' ⟨rfl, ⟨nd, rfl⟩⟩) | (go_at_call 53; (with_reducible refine (impl_within.calls a0_8 0 3 t548 _ A18.out).mono ?_); rintro e w' ⟨rfl, ⟨nd, rfl⟩⟩))
         go_ret
         exact ⟨Zg, (have z0_ := GE539; Zk)⟩
        ·replace c17 := Bool.eq_false_iff.mpr c17
         subst c17
         have H1 : (some false) = some r := by rw [if_neg (show ¬ (false = true) by decide)] at H; exact H
         clear H; have H := H1; clear H1; obtain rfl := Option.some.inj H
         go_enter Try.func91, Try.ntmps91
         go_wp2_with (first | ((with_reducible refine gate_dst (N := 1) rfl ?_); refine boxZ 1 #[.string a0_0, .int .i64 a0_1, .int .i64 a0_2, .int .i64 a0_3, .int .i64 a0_4, .int .i64 a0_5, .int .i64 a0_6, .int .i64 a0_7, .int .i64 a0_8] 62 ?_; intro gb539 hg w21 hbox hb; replace BK539 := am_ (hbox); replace GW539 := am_ ((Zh : w.heap.size ≤ gb539)); replace GE539 := GW539; replace HB := (bsZ Zf hb); clear hb hbox hg; refine ci9 BK539 ?_; intros) | ((with_reducible refine gate_callee (f := 100) rfl ?_); refine goesL_ (some 5) rfl rfl Try.func100 Zi rfl #[.string a0_0] rfl Zj ?_; (with_reducible refine (impl_IsWord.calls k a0_0 true _ A2.out).mono ?_); rintro e w' ⟨rfl, ⟨nd, rfl⟩⟩; refine ⟨_, rfl, ?_⟩) | (go_at_call 53; (with_reducible refine (impl_within.calls a0_1 0 3 true _ A4.out).mono ?_); rintro e w' ⟨rfl, ⟨nd, rfl⟩⟩) | (go_at_call 53; (with_reducible refine (impl_within.calls a0_2 20 300 true _ A6.out).mono ?_); rintro e w' ⟨rfl, ⟨nd, rfl⟩⟩) | (go_at_call 53; (with_reducible refine (impl_within.calls a0_3 0 10000 true _ A8.out).mono ?_); rintro e w' ⟨rfl, ⟨nd, rfl⟩⟩) | (go_at_call 53; (with_reducible refine (impl_within.calls a0_4 0 a0_3 true _ A10.out).mono ?_); rintro e w' ⟨rfl, ⟨nd, rfl⟩⟩) | (go_at_call 53; (with_reducible refine (impl_within.calls a0_5 1 50 true _ A12.out).mono ?_); rintro e w' ⟨rfl, ⟨nd, rfl⟩⟩) | (go_at_call 53; (with_reducible refine (impl_within.calls a0_6 0 10000 true _ A14.out).mono ?_); rintro e w' ⟨rfl, ⟨nd, rfl⟩⟩) | (go_at_call 53; (with_reducible refine (impl_within.calls a0_7 1 100000 false _ A16.out).mono ?_); rintro e w' ⟨rfl, ⟨nd, rfl⟩⟩))
         go_ret
         exact ⟨Zg, (have z0_ := GE539; Zk)⟩
       ·replace c15 := Bool.eq_false_iff.mpr c15
        subst c15
        have H1 : (some false) = some r := by rw [if_neg (show ¬ (false = true) by decide)] at H; exact H
        clear H; have H := H1; clear H1; obtain rfl := Option.some.inj H
        go_enter Try.func91, Try.ntmps91
        go_wp2_with (first | ((with_reducible refine gate_dst (N := 1) rfl ?_); refine boxZ 1 #[.string a0_0, .int .i64 a0_1, .int .i64 a0_2, .int .i64 a0_3, .int .i64 a0_4, .int .i64 a0_5, .int .i64 a0_6, .int .i64 a0_7, .int .i64 a0_8] 62 ?_; intro gb539 hg w23 hbox hb; replace BK539 := am_ (hbox); replace GW539 := am_ ((Zh : w.heap.size ≤ gb539)); replace GE539 := GW539; replace HB := (bsZ Zf hb); clear hb hbox hg; refine ci9 BK539 ?_; intros) | ((with_reducible refine gate_callee (f := 100) rfl ?_); refine goesL_ (some 5) rfl rfl Try.func100 Zi rfl #[.string a0_0] rfl Zj ?_; (with_reducible refine (impl_IsWord.calls k a0_0 true _ A2.out).mono ?_); rintro e w' ⟨rfl, ⟨nd, rfl⟩⟩; refine ⟨_, rfl, ?_⟩) | (go_at_call 53; (with_reducible refine (impl_within.calls a0_1 0 3 true _ A4.out).mono ?_); rintro e w' ⟨rfl, ⟨nd, rfl⟩⟩) | (go_at_call 53; (with_reducible refine (impl_within.calls a0_2 20 300 true _ A6.out).mono ?_); rintro e w' ⟨rfl, ⟨nd, rfl⟩⟩) | (go_at_call 53; (with_reducible refine (impl_within.calls a0_3 0 10000 true _ A8.out).mono ?_); rintro e w' ⟨rfl, ⟨nd, rfl⟩⟩) | (go_at_call 53; (with_reducible refine (impl_within.calls a0_4 0 a0_3 true _ A10.out).mono ?_); rintro e w' ⟨rfl, ⟨nd, rfl⟩⟩) | (go_at_call 53; (with_reducible refine (impl_within.calls a0_5 1 50 true _ A12.out).mono ?_); rintro e w' ⟨rfl, ⟨nd, rfl⟩⟩) | (go_at_call 53; (with_reducible refine (impl_within.calls a0_6 0 10000 false _ A14.out).mono ?_); rintro e w' ⟨rfl, ⟨nd, rfl⟩⟩))
        go_ret
        exact ⟨Zg, (have z0_ := GE539; Zk)⟩
      ·replace c13 := Bool.eq_false_iff.mpr c13
       subst c13
       have H1 : (some false) = some r := by rw [if_neg (show ¬ (false = true) by decide)] at H; exact H
       clear H; have H := H1; clear H1; obtain rfl := Option.some.inj H
       go_enter Try.func91, Try.ntmps91
       go_wp2_with (first | ((with_reducible refine gate_dst (N := 1) rfl ?_); refine boxZ 1 #[.string a0_0, .int .i64 a0_1, .int .i64 a0_2, .int .i64 a0_3, .int .i64 a0_4, .int .i64 a0_5, .int .i64 a0_6, .int .i64 a0_7, .int .i64 a0_8] 62 ?_; intro gb539 hg w25 hbox hb; replace BK539 := am_ (hbox); replace GW539 := am_ ((Zh : w.heap.size ≤ gb539)); replace GE539 := GW539; replace HB := (bsZ Zf hb); clear hb hbox hg; refine ci9 BK539 ?_; intros) | ((with_reducible refine gate_callee (f := 100) rfl ?_); refine goesL_ (some 5) rfl rfl Try.func100 Zi rfl #[.string a0_0] rfl Zj ?_; (with_reducible refine (impl_IsWord.calls k a0_0 true _ A2.out).mono ?_); rintro e w' ⟨rfl, ⟨nd, rfl⟩⟩; refine ⟨_, rfl, ?_⟩) | (go_at_call 53; (with_reducible refine (impl_within.calls a0_1 0 3 true _ A4.out).mono ?_); rintro e w' ⟨rfl, ⟨nd, rfl⟩⟩) | (go_at_call 53; (with_reducible refine (impl_within.calls a0_2 20 300 true _ A6.out).mono ?_); rintro e w' ⟨rfl, ⟨nd, rfl⟩⟩) | (go_at_call 53; (with_reducible refine (impl_within.calls a0_3 0 10000 true _ A8.out).mono ?_); rintro e w' ⟨rfl, ⟨nd, rfl⟩⟩) | (go_at_call 53; (with_reducible refine (impl_within.calls a0_4 0 a0_3 true _ A10.out).mono ?_); rintro e w' ⟨rfl, ⟨nd, rfl⟩⟩) | (go_at_call 53; (with_reducible refine (impl_within.calls a0_5 1 50 false _ A12.out).mono ?_); rintro e w' ⟨rfl, ⟨nd, rfl⟩⟩))
       go_ret
       exact ⟨Zg, (have z0_ := GE539; Zk)⟩
     ·replace c11 := Bool.eq_false_iff.mpr c11
      subst c11
      have H1 : (some false) = some r := by rw [if_neg (show ¬ (false = true) by decide)] at H; exact H
      clear H; have H := H1; clear H1; obtain rfl := Option.some.inj H
      go_enter Try.func91, Try.ntmps91
      go_wp2_with (first | ((with_reducible refine gate_dst (N := 1) rfl ?_); refine boxZ 1 #[.string a0_0, .int .i64 a0_1, .int .i64 a0_2, .int .i64 a0_3, .int .i64 a0_4, .int .i64 a0_5, .int .i64 a0_6, .int .i64 a0_7, .int .i64 a0_8] 62 ?_; intro gb539 hg w27 hbox hb; replace BK539 := am_ (hbox); replace GW539 := am_ ((Zh : w.heap.size ≤ gb539)); replace GE539 := GW539; replace HB := (bsZ Zf hb); clear hb hbox hg; refine ci9 BK539 ?_; intros) | ((with_reducible refine gate_callee (f := 100) rfl ?_); refine goesL_ (some 5) rfl rfl Try.func100 Zi rfl #[.string a0_0] rfl Zj ?_; (with_reducible refine (impl_IsWord.calls k a0_0 true _ A2.out).mono ?_); rintro e w' ⟨rfl, ⟨nd, rfl⟩⟩; refine ⟨_, rfl, ?_⟩) | (go_at_call 53; (with_reducible refine (impl_within.calls a0_1 0 3 true _ A4.out).mono ?_); rintro e w' ⟨rfl, ⟨nd, rfl⟩⟩) | (go_at_call 53; (with_reducible refine (impl_within.calls a0_2 20 300 true _ A6.out).mono ?_); rintro e w' ⟨rfl, ⟨nd, rfl⟩⟩) | (go_at_call 53; (with_reducible refine (impl_within.calls a0_3 0 10000 true _ A8.out).mono ?_); rintro e w' ⟨rfl, ⟨nd, rfl⟩⟩) | (go_at_call 53; (with_reducible refine (impl_within.calls a0_4 0 a0_3 false _ A10.out).mono ?_); rintro e w' ⟨rfl, ⟨nd, rfl⟩⟩))
      go_ret
      exact ⟨Zg, (have z0_ := GE539; Zk)⟩
    ·replace c9 := Bool.eq_false_iff.mpr c9
     subst c9
     have H1 : (some false) = some r := by rw [if_neg (show ¬ (false = true) by decide)] at H; exact H
     clear H; have H := H1; clear H1; obtain rfl := Option.some.inj H
     go_enter Try.func91, Try.ntmps91
     go_wp2_with (first | ((with_reducible refine gate_dst (N := 1) rfl ?_); refine boxZ 1 #[.string a0_0, .int .i64 a0_1, .int .i64 a0_2, .int .i64 a0_3, .int .i64 a0_4, .int .i64 a0_5, .int .i64 a0_6, .int .i64 a0_7, .int .i64 a0_8] 62 ?_; intro gb539 hg w29 hbox hb; replace BK539 := am_ (hbox); replace GW539 := am_ ((Zh : w.heap.size ≤ gb539)); replace GE539 := GW539; replace HB := (bsZ Zf hb); clear hb hbox hg; refine ci9 BK539 ?_; intros) | ((with_reducible refine gate_callee (f := 100) rfl ?_); refine goesL_ (some 5) rfl rfl Try.func100 Zi rfl #[.string a0_0] rfl Zj ?_; (with_reducible refine (impl_IsWord.calls k a0_0 true _ A2.out).mono ?_); rintro e w' ⟨rfl, ⟨nd, rfl⟩⟩; refine ⟨_, rfl, ?_⟩) | (go_at_call 53; (with_reducible refine (impl_within.calls a0_1 0 3 true _ A4.out).mono ?_); rintro e w' ⟨rfl, ⟨nd, rfl⟩⟩) | (go_at_call 53; (with_reducible refine (impl_within.calls a0_2 20 300 true _ A6.out).mono ?_); rintro e w' ⟨rfl, ⟨nd, rfl⟩⟩) | (go_at_call 53; (with_reducible refine (impl_within.calls a0_3 0 10000 false _ A8.out).mono ?_); rintro e w' ⟨rfl, ⟨nd, rfl⟩⟩))
     go_ret
     exact ⟨Zg, (have z0_ := GE539; Zk)⟩
   ·replace c7 := Bool.eq_false_iff.mpr c7
    subst c7
    have H1 : (some false) = some r := by rw [if_neg (show ¬ (false = true) by decide)] at H; exact H
    clear H; have H := H1; clear H1; obtain rfl := Option.some.inj H
    go_enter Try.func91, Try.ntmps91
    go_wp2_with (first | ((with_reducible refine gate_dst (N := 1) rfl ?_); refine boxZ 1 #[.string a0_0, .int .i64 a0_1, .int .i64 a0_2, .int .i64 a0_3, .int .i64 a0_4, .int .i64 a0_5, .int .i64 a0_6, .int .i64 a0_7, .int .i64 a0_8] 62 ?_; intro gb539 hg w31 hbox hb; replace BK539 := am_ (hbox); replace GW539 := am_ ((Zh : w.heap.size ≤ gb539)); replace GE539 := GW539; replace HB := (bsZ Zf hb); clear hb hbox hg; refine ci9 BK539 ?_; intros) | ((with_reducible refine gate_callee (f := 100) rfl ?_); refine goesL_ (some 5) rfl rfl Try.func100 Zi rfl #[.string a0_0] rfl Zj ?_; (with_reducible refine (impl_IsWord.calls k a0_0 true _ A2.out).mono ?_); rintro e w' ⟨rfl, ⟨nd, rfl⟩⟩; refine ⟨_, rfl, ?_⟩) | (go_at_call 53; (with_reducible refine (impl_within.calls a0_1 0 3 true _ A4.out).mono ?_); rintro e w' ⟨rfl, ⟨nd, rfl⟩⟩) | (go_at_call 53; (with_reducible refine (impl_within.calls a0_2 20 300 false _ A6.out).mono ?_); rintro e w' ⟨rfl, ⟨nd, rfl⟩⟩))
    go_ret
    exact ⟨Zg, (have z0_ := GE539; Zk)⟩
  ·replace c5 := Bool.eq_false_iff.mpr c5
   subst c5
   have H1 : (some false) = some r := by rw [if_neg (show ¬ (false = true) by decide)] at H; exact H
   clear H; have H := H1; clear H1; obtain rfl := Option.some.inj H
   go_enter Try.func91, Try.ntmps91
   go_wp2_with (first | ((with_reducible refine gate_dst (N := 1) rfl ?_); refine boxZ 1 #[.string a0_0, .int .i64 a0_1, .int .i64 a0_2, .int .i64 a0_3, .int .i64 a0_4, .int .i64 a0_5, .int .i64 a0_6, .int .i64 a0_7, .int .i64 a0_8] 62 ?_; intro gb539 hg w33 hbox hb; replace BK539 := am_ (hbox); replace GW539 := am_ ((Zh : w.heap.size ≤ gb539)); replace GE539 := GW539; replace HB := (bsZ Zf hb); clear hb hbox hg; refine ci9 BK539 ?_; intros) | ((with_reducible refine gate_callee (f := 100) rfl ?_); refine goesL_ (some 5) rfl rfl Try.func100 Zi rfl #[.string a0_0] rfl Zj ?_; (with_reducible refine (impl_IsWord.calls k a0_0 true _ A2.out).mono ?_); rintro e w' ⟨rfl, ⟨nd, rfl⟩⟩; refine ⟨_, rfl, ?_⟩) | (go_at_call 53; (with_reducible refine (impl_within.calls a0_1 0 3 false _ A4.out).mono ?_); rintro e w' ⟨rfl, ⟨nd, rfl⟩⟩))
   go_ret
   exact ⟨Zg, (have z0_ := GE539; Zk)⟩
 ·replace c3 := Bool.eq_false_iff.mpr c3
  subst c3
  have H1 : (some false) = some r := by rw [if_neg (show ¬ (false = true) by decide)] at H; exact H
  clear H; have H := H1; clear H1; obtain rfl := Option.some.inj H
  go_enter Try.func91, Try.ntmps91
  go_wp2_with (first | ((with_reducible refine gate_dst (N := 1) rfl ?_); refine boxZ 1 #[.string a0_0, .int .i64 a0_1, .int .i64 a0_2, .int .i64 a0_3, .int .i64 a0_4, .int .i64 a0_5, .int .i64 a0_6, .int .i64 a0_7, .int .i64 a0_8] 62 ?_; intro gb539 hg w35 hbox hb; replace BK539 := am_ (hbox); replace GW539 := am_ ((Zh : w.heap.size ≤ gb539)); replace GE539 := GW539; replace HB := (bsZ Zf hb); clear hb hbox hg; refine ci9 BK539 ?_; intros) | ((with_reducible refine gate_callee (f := 100) rfl ?_); refine goesL_ (some 5) rfl rfl Try.func100 Zi rfl #[.string a0_0] rfl Zj ?_; (with_reducible refine (impl_IsWord.calls k a0_0 false _ A2.out).mono ?_); rintro e w' ⟨rfl, ⟨nd, rfl⟩⟩; refine ⟨_, rfl, ?_⟩))
  go_ret
  exact ⟨Zg, (have z0_ := GE539; Zk)⟩
def impl_AreArticles.l0 : Nat → List (S62) → List (S62) → Int → Int → Option (Bool)
 | 0, _, _, _, _ => none
 | k + 1, x0, x8, x9, x10 => if x10 < x9 then (if 0 ≤ x10 then (if x10 < (x8.length : Int) then ((impl_IsArticle.f k ((rd_T62 x8 x10).f0) ((rd_T62 x8 x10).f1) ((rd_T62 x8 x10).f2) ((rd_T62 x8 x10).f3) ((rd_T62 x8 x10).f4) ((rd_T62 x8 x10).f5) ((rd_T62 x8 x10).f6) ((rd_T62 x8 x10).f7) ((rd_T62 x8 x10).f8)).bind fun t551 => (if t551 = true then (if x10 > 0 then (if 0 ≤ (wrap64 (x10 - 1)) then (if (wrap64 (x10 - 1)) < (x0.length : Int) then (if ((Op.bytesLess (((rd_T62 x0 (wrap64 (x10 - 1))).f0).toList) (((rd_T62 x8 x10).f0).toList)) = true) then (impl_AreArticles.l0 k x0 x8 x9 (wrap64 (x10 + 1))) else (some false)) else (none)) else (none)) else (impl_AreArticles.l0 k x0 x8 x9 (wrap64 (x10 + 1)))) else (some false))) else (none)) else (none)) else (some true)
def impl_AreArticles.f (k : Nat) (l0 : List (S62)) : Option (Bool) := if (l0.length : Int) > 12 then (some false) else (impl_AreArticles.l0 k l0 l0 (l0.length : Int) 0)
def impl_AreArticles.T6 : Bool × List (List Nat × List Nat) := (true, [([], []), ([0], [0]), ([1], [1]), ([2, 1], [2]), ([3], [3]), ([4, 3], [3, 4]), ([5, 3, 3], [3, 5]), ([6], [6]), ([6], [6]), ([8, 6], [6, 8]), ([7, 9, 6], [6, 7, 9]), ([10, 6], [6, 10]), ([11, 6], [6, 11]), ([6], [6]), ([13, 6], [6, 13]), ([12, 14, 6], [6, 12, 14]), ([6, 15, 3], [3, 6, 15]), ([3, 16], [3, 16])])
def impl_AreArticles.B6 : List Nat := [0, 1, 3, 7, 15, 31, 63, 127, 127, 383, 1023, 2047, 4095, 127, 8319, 32767, 65535, 131071]
theorem impl_AreArticles.tab6 : rtab .any (opsOf Try.f69 6) = impl_AreArticles.T6 := by kernel_rfl
theorem impl_AreArticles.bits6 : waitsOk impl_AreArticles.T6.2 impl_AreArticles.B6 = true := by kernel_rfl
set_option maxHeartbeats 8000000 in
set_option maxRecDepth 100000 in
theorem impl_AreArticles.calls (k : Nat) (A0 : Option Addr) (c0 : Nat) (l0 : List (S62)) (r : Bool) (w : World) (hr0 : Kd.C k62 w A0 l0.length l0) (hc0 : l0.length ≤ c0) (h : impl_AreArticles.f k l0 = some r) :
  Calls Try.prog 69 #[.slice A0 l0.length c0] w fun e w' => e = .returned (.bool r) ∧ Below w.heap.size w w' := by
 have hu62 := Try.underlying62; have HR0 := am_ hr0; have HC0 := am_ hc0; clear hr0 hc0; have HB := am_ (Below.refl w.heap.size w); have H : (if (l0.length : Int) > 12 then (some false) else (impl_AreArticles.l0 k l0 l0 (l0.length : Int) 0)) = some r := h; clear h
 by_cases c2 : (l0.length : Int) > 12
 ·rw [if_pos c2] at H
  have c2b0 : decide (12 < (l0.length : Int)) = true := decide_eq_true c2; have c2b1 : decide (12 < l0.length) = true := decide_eq_true (by omega); clear c2; obtain rfl := Option.some.inj H
  go_enter Try.func69, Try.ntmps69
  go_wp2
  go_ret
  exact ⟨Zg, Zf⟩
 ·rw [if_neg c2] at H
  have c2b0 : decide (12 < (l0.length : Int)) = false := decide_eq_false c2; have c2b1 : decide (12 < l0.length) = false := decide_eq_false (by omega); clear c2; have H' := am_ H; clear H
  go_enter Try.func69, Try.ntmps69
  go_wp2
  go_loopg [10] k (fun kq v10 w' => ∃ (x10_1 : Int), v10 = .int .i64 x10_1 ∧ Aside0 (impl_AreArticles.l0 kq l0 l0 (l0.length : Int) x10_1 = some r) ∧ Aside0 (kq ≤ k) ∧ Aside0 (Below w.heap.size w w'))
  case atStart => exact ⟨(0), Za, H', ⟨Nat.le_refl _⟩, ⟨Zf⟩⟩
  case round =>
   clear H'
   try clear c2
   try clear c2b0
   try clear c2b1
   try clear p2
   obtain ⟨x10_1, rfl, HA, HK1, HB⟩ := hrel
   cases gk with
   | zero => exact absurd HA.out (by simp [impl_AreArticles.l0])
   | succ k1 =>
    have H := HA.out; clear HA; simp only [impl_AreArticles.l0] at H
    by_cases c3 : x10_1 < (l0.length : Int)
    ·rw [if_pos c3] at H
     have c3b0 := decide_eq_true c3; clear c3
     by_cases c4 : 0 ≤ x10_1
     ·rw [if_pos c4] at H
      have c4b0 := decide_eq_true c4; clear c4
      by_cases c5 : x10_1 < (l0.length : Int)
      ·rw [if_pos c5] at H
       have c5b0 := decide_eq_true c5; clear c5; replace H := Option.bind_eq_some_iff.mp H; obtain ⟨t551, A60, H⟩ := H; have A6 := am_ A60; clear A60
       by_cases c7 : t551 = true
       ·subst c7
        have H1 : (if x10_1 > 0 then (if 0 ≤ (wrap64 (x10_1 - 1)) then (if (wrap64 (x10_1 - 1)) < (l0.length : Int) then (if ((Op.bytesLess (((rd_T62 l0 (wrap64 (x10_1 - 1))).f0).toList) (((rd_T62 l0 x10_1).f0).toList)) = true) then (impl_AreArticles.l0 k1 l0 l0 (l0.length : Int) (wrap64 (x10_1 + 1))) else (some false)) else (none)) else (none)) else (impl_AreArticles.l0 k1 l0 l0 (l0.length : Int) (wrap64 (x10_1 + 1)))) = some r := by rw [if_pos rfl] at H; exact H
        clear H; have H := H1; clear H1
        by_cases c8 : x10_1 > 0
        ·rw [if_pos c8] at H
         have c8b0 : decide (0 < x10_1) = true := decide_eq_true c8; clear c8; obtain ⟨ji9, hji9⟩ : ∃ j_ : Int, (wrap64 (x10_1 - 1)) = j_ := ⟨_, rfl⟩
         replace H : (if 0 ≤ (ji9) then (if (ji9) < (l0.length : Int) then (if ((Op.bytesLess (((rd_T62 l0 (ji9)).f0).toList) (((rd_T62 l0 x10_1).f0).toList)) = true) then (impl_AreArticles.l0 k1 l0 l0 (l0.length : Int) (wrap64 (x10_1 + 1))) else (some false)) else (none)) else (none)) = some r := by first | (rw [hji9] at H; exact H) | (simp only [hji9] at H ⊢; exact H)
         (try rw [hji9] at A6)
         have hji9w : (IntKind.i64.wrap (x10_1 - 1)) = ji9 := (i64_w _).trans hji9
         by_cases c10 : 0 ≤ (ji9)
         ·rw [if_pos c10] at H
          have c10b0 := decide_eq_true c10; clear c10
          by_cases c11 : (ji9) < (l0.length : Int)
          ·rw [if_pos c11] at H
           have c11b0 := decide_eq_true c11; clear c11
           by_cases c12 : ((Op.bytesLess (((rd_T62 l0 (ji9)).f0).toList) (((rd_T62 l0 x10_1).f0).toList)) = true)
           ·rw [if_pos c12] at H
            have c12b0 : (Op.bytesLess (((rd_T62 l0 (ji9)).f0).toList) (((rd_T62 l0 x10_1).f0).toList)) = true := c12; clear c12; have H' := am_ H; clear H; have p549 : 0 ≤ (x10_1 : Int) := of_decide_eq_true Zc; have q549 : x10_1 < (l0.length : Int) := of_decide_eq_true Zc; obtain ⟨ad549, e549, hx549_0, hx549_1, hx549_2, hx549_3, hx549_4, hx549_5, hx549_6, hx549_7, hx549_8⟩ := at_T62 HR0.out x10_1 p549 q549
            cases e549
            replace hx549_0 := cbH HB hx549_0; replace hx549_1 := cbH HB hx549_1; replace hx549_2 := cbH HB hx549_2; replace hx549_3 := cbH HB hx549_3; replace hx549_4 := cbH HB hx549_4; replace hx549_5 := cbH HB hx549_5; replace hx549_6 := cbH HB hx549_6; replace hx549_7 := cbH HB hx549_7; replace hx549_8 := cbH HB hx549_8; replace p549 := eq_true p549; replace q549 := eq_true q549
            try go_wp2_with (first | ((with_reducible refine gate_dst (N := 4) rfl ?_); refine boxZ 4 #[.string (⟨#[]⟩ : ByteArray), .int .i64 0, .int .i64 0, .int .i64 0, .int .i64 0, .int .i64 0, .int .i64 0, .int .i64 0, .int .i64 0] 62 ?_; intro gb550 hg w13 hbox hb; replace BK550 := am_ (hbox); replace GW550 := am_ ((Zh : w.heap.size ≤ gb550)); replace GE550 := GW550; replace HB := (bsZ Zf hb); clear hb hbox hg; refine ci9 BK550 ?_; intros))
            have n0_ : Aside0 ((((((((((w13.setCell ⟨gb550, 0, none⟩ (.string ((rd_T62 l0 x10_1).f0))).setCell ⟨gb550, 1, none⟩ (.int .i64 ((rd_T62 l0 x10_1).f1))).setCell ⟨gb550, 2, none⟩ (.int .i64 ((rd_T62 l0 x10_1).f2))).setCell ⟨gb550, 3, none⟩ (.int .i64 ((rd_T62 l0 x10_1).f3))).setCell ⟨gb550, 4, none⟩ (.int .i64 ((rd_T62 l0 x10_1).f4))).setCell ⟨gb550, 5, none⟩ (.int .i64 ((rd_T62 l0 x10_1).f5))).setCell ⟨gb550, 6, none⟩ (.int .i64 ((rd_T62 l0 x10_1).f6))).setCell ⟨gb550, 7, none⟩ (.int .i64 ((rd_T62 l0 x10_1).f7))).setCell ⟨gb550, 8, none⟩ (.int .i64 ((rd_T62 l0 x10_1).f8))).heap[gb550]? = some (.cells #[.string ((rd_T62 l0 x10_1).f0), .int .i64 ((rd_T62 l0 x10_1).f1), .int .i64 ((rd_T62 l0 x10_1).f2), .int .i64 ((rd_T62 l0 x10_1).f3), .int .i64 ((rd_T62 l0 x10_1).f4), .int .i64 ((rd_T62 l0 x10_1).f5), .int .i64 ((rd_T62 l0 x10_1).f6), .int .i64 ((rd_T62 l0 x10_1).f7), .int .i64 ((rd_T62 l0 x10_1).f8)] 62 (0, 0))) := ⟨(have z0_ := BK550; Zl)⟩; have n1_ : Aside0 (Below w.heap.size w (((((((((w13.setCell ⟨gb550, 0, none⟩ (.string ((rd_T62 l0 x10_1).f0))).setCell ⟨gb550, 1, none⟩ (.int .i64 ((rd_T62 l0 x10_1).f1))).setCell ⟨gb550, 2, none⟩ (.int .i64 ((rd_T62 l0 x10_1).f2))).setCell ⟨gb550, 3, none⟩ (.int .i64 ((rd_T62 l0 x10_1).f3))).setCell ⟨gb550, 4, none⟩ (.int .i64 ((rd_T62 l0 x10_1).f4))).setCell ⟨gb550, 5, none⟩ (.int .i64 ((rd_T62 l0 x10_1).f5))).setCell ⟨gb550, 6, none⟩ (.int .i64 ((rd_T62 l0 x10_1).f6))).setCell ⟨gb550, 7, none⟩ (.int .i64 ((rd_T62 l0 x10_1).f7))).setCell ⟨gb550, 8, none⟩ (.int .i64 ((rd_T62 l0 x10_1).f8)))) := ⟨(have z0_ := GE550; Zk)⟩
            (try clear BK550)
            (try clear HB)
            generalize (((((((((w13.setCell ⟨gb550, 0, none⟩ (.string ((rd_T62 l0 x10_1).f0))).setCell ⟨gb550, 1, none⟩ (.int .i64 ((rd_T62 l0 x10_1).f1))).setCell ⟨gb550, 2, none⟩ (.int .i64 ((rd_T62 l0 x10_1).f2))).setCell ⟨gb550, 3, none⟩ (.int .i64 ((rd_T62 l0 x10_1).f3))).setCell ⟨gb550, 4, none⟩ (.int .i64 ((rd_T62 l0 x10_1).f4))).setCell ⟨gb550, 5, none⟩ (.int .i64 ((rd_T62 l0 x10_1).f5))).setCell ⟨gb550, 6, none⟩ (.int .i64 ((rd_T62 l0 x10_1).f6))).setCell ⟨gb550, 7, none⟩ (.int .i64 ((rd_T62 l0 x10_1).f7))).setCell ⟨gb550, 8, none⟩ (.int .i64 ((rd_T62 l0 x10_1).f8))) = w15 at n0_ n1_ ⊢; have BK550 := n0_; have HB := n1_; clear n0_ n1_; replace BK550 := am_ (blk_drew BK550.out); replace HB := am_ (below_drew1 HB.out); have p552 : 0 ≤ ((ji9) : Int) := of_decide_eq_true Zc; have q552 : (ji9) < (l0.length : Int) := of_decide_eq_true Zc; obtain ⟨ad552, e552, hx552_0, hx552_1, hx552_2, hx552_3, hx552_4, hx552_5, hx552_6, hx552_7, hx552_8⟩ := at_T62 HR0.out (ji9) p552 q552; have hw552_8 := hx552_8; have hw552_7 := hx552_7; have hw552_6 := hx552_6; have hw552_5 := hx552_5; have hw552_4 := hx552_4; have hw552_3 := hx552_3; have hw552_2 := hx552_2; have hw552_1 := hx552_1; have hw552_0 := hx552_0; obtain rfl : ad549 = ad552 := (by injection e552); replace hx552_0 := cbH HB hx552_0; replace hx552_1 := cbH HB hx552_1; replace hx552_2 := cbH HB hx552_2; replace hx552_3 := cbH HB hx552_3; replace hx552_4 := cbH HB hx552_4; replace hx552_5 := cbH HB hx552_5; replace hx552_6 := cbH HB hx552_6; replace hx552_7 := cbH HB hx552_7; replace hx552_8 := cbH HB hx552_8; replace p552 := eq_true p552; replace q552 := eq_true q552; refine start_ (n := 18) (S := fun w' => w'.cell? ⟨gb550, 0, none⟩ = some (.string ((rd_T62 l0 x10_1).f0)) ∧ w'.cell? ⟨gb550, 1, none⟩ = some (.int .i64 ((rd_T62 l0 x10_1).f1)) ∧ w'.cell? ⟨gb550, 2, none⟩ = some (.int .i64 ((rd_T62 l0 x10_1).f2)) ∧ w'.cell? ⟨gb550, 3, none⟩ = some (.int .i64 ((rd_T62 l0 x10_1).f3)) ∧ w'.cell? ⟨gb550, 4, none⟩ = some (.int .i64 ((rd_T62 l0 x10_1).f4)) ∧ w'.cell? ⟨gb550, 5, none⟩ = some (.int .i64 ((rd_T62 l0 x10_1).f5)) ∧ w'.cell? ⟨gb550, 6, none⟩ = some (.int .i64 ((rd_T62 l0 x10_1).f6)) ∧ w'.cell? ⟨gb550, 7, none⟩ = some (.int .i64 ((rd_T62 l0 x10_1).f7)) ∧ w'.cell? ⟨gb550, 8, none⟩ = some (.int .i64 ((rd_T62 l0 x10_1).f8)) ∧ w'.cell? (ad549.add (((ji9)).toNat * 9)) = some (.string ((rd_T62 l0 (ji9)).f0)) ∧ w'.cell? ⟨(ad549.add (((ji9)).toNat * 9)).block, (ad549.add (((ji9)).toNat * 9)).off + 1, none⟩ = some (.int .i64 ((rd_T62 l0 (ji9)).f1)) ∧ w'.cell? ⟨(ad549.add (((ji9)).toNat * 9)).block, (ad549.add (((ji9)).toNat * 9)).off + 2, none⟩ = some (.int .i64 ((rd_T62 l0 (ji9)).f2)) ∧ w'.cell? ⟨(ad549.add (((ji9)).toNat * 9)).block, (ad549.add (((ji9)).toNat * 9)).off + 3, none⟩ = some (.int .i64 ((rd_T62 l0 (ji9)).f3)) ∧ w'.cell? ⟨(ad549.add (((ji9)).toNat * 9)).block, (ad549.add (((ji9)).toNat * 9)).off + 4, none⟩ = some (.int .i64 ((rd_T62 l0 (ji9)).f4)) ∧ w'.cell? ⟨(ad549.add (((ji9)).toNat * 9)).block, (ad549.add (((ji9)).toNat * 9)).off + 5, none⟩ = some (.int .i64 ((rd_T62 l0 (ji9)).f5)) ∧ w'.cell? ⟨(ad549.add (((ji9)).toNat * 9)).block, (ad549.add (((ji9)).toNat * 9)).off + 6, none⟩ = some (.int .i64 ((rd_T62 l0 (ji9)).f6)) ∧ w'.cell? ⟨(ad549.add (((ji9)).toNat * 9)).block, (ad549.add (((ji9)).toNat * 9)).off + 7, none⟩ = some (.int .i64 ((rd_T62 l0 (ji9)).f7)) ∧ w'.cell? ⟨(ad549.add (((ji9)).toNat * 9)).block, (ad549.add (((ji9)).toNat * 9)).off + 8, none⟩ = some (.int .i64 ((rd_T62 l0 (ji9)).f8))) (ds := []) (bT 18 0) Zi rfl rfl ⟨(blk_cell BK550.out 0).trans rfl, (blk_cell BK550.out 1).trans rfl, (blk_cell BK550.out 2).trans rfl, (blk_cell BK550.out 3).trans rfl, (blk_cell BK550.out 4).trans rfl, (blk_cell BK550.out 5).trans rfl, (blk_cell BK550.out 6).trans rfl, (blk_cell BK550.out 7).trans rfl, (blk_cell BK550.out 8).trans rfl, (cbH HB hw552_0 :), (cbH HB hw552_1 :), (cbH HB hw552_2 :), (cbH HB hw552_3 :), (cbH HB hw552_4 :), (cbH HB hw552_5 :), (cbH HB hw552_6 :), (cbH HB hw552_7 :), (cbH HB hw552_8 :)⟩ (fun hHeld => ?_); refine with_tabW impl_AreArticles.tab6 impl_AreArticles.bits6 (fun HT_ HW_ => ?_)
            generalize w15.drew = w16 at BK550 HB hx552_0 hx552_1 hx552_2 hx552_3 hx552_4 hx552_5 hx552_6 hx552_7 hx552_8 hHeld ⊢; refine takeZ18 HT_ HW_ 0 (some 15) (bT 18 1) hHeld ?_; refine one_ (i := 1) (N := some 16) (bT 18 2) rfl rfl (one_of HT_.out Zi) (by decide) (fun K hK => ?_); refine goes_ Try.func91 Zi rfl #[.agg #[.string ((rd_T62 l0 x10_1).f0), .int .i64 ((rd_T62 l0 x10_1).f1), .int .i64 ((rd_T62 l0 x10_1).f2), .int .i64 ((rd_T62 l0 x10_1).f3), .int .i64 ((rd_T62 l0 x10_1).f4), .int .i64 ((rd_T62 l0 x10_1).f5), .int .i64 ((rd_T62 l0 x10_1).f6), .int .i64 ((rd_T62 l0 x10_1).f7), .int .i64 ((rd_T62 l0 x10_1).f8)]] (by rfl) rfl rfl Zj ?_
            with_reducible refine (impl_IsArticle.calls k1 ((rd_T62 l0 x10_1).f0) ((rd_T62 l0 x10_1).f1) ((rd_T62 l0 x10_1).f2) ((rd_T62 l0 x10_1).f3) ((rd_T62 l0 x10_1).f4) ((rd_T62 l0 x10_1).f5) ((rd_T62 l0 x10_1).f6) ((rd_T62 l0 x10_1).f7) ((rd_T62 l0 x10_1).f8) true _ A6.out).mono ?_
            rintro e w17 ⟨rfl, hb⟩; refine ⟨_, rfl, ?_⟩; replace BK550 := (have z0_ := BK550; bkZ hb); replace HB := (bsZ (have z0_ := GE550; Zk) hb)
            (try clear hb)
            (try clear hb2)
            (try clear hk)
            (try clear hi)
            refine hK.out _ _ (by exact ⟨(blk_cell BK550.out 0).trans rfl, (blk_cell BK550.out 1).trans rfl, (blk_cell BK550.out 2).trans rfl, (blk_cell BK550.out 3).trans rfl, (blk_cell BK550.out 4).trans rfl, (blk_cell BK550.out 5).trans rfl, (blk_cell BK550.out 6).trans rfl, (blk_cell BK550.out 7).trans rfl, (blk_cell BK550.out 8).trans rfl, (cbH HB hw552_0 :), (cbH HB hw552_1 :), (cbH HB hw552_2 :), (cbH HB hw552_3 :), (cbH HB hw552_4 :), (cbH HB hw552_5 :), (cbH HB hw552_6 :), (cbH HB hw552_7 :), (cbH HB hw552_8 :)⟩) (fun hHeld => ?_); clear hK K; refine normZ 16 ?_; refine pureZ HT_ 2 (some 17) (bT 18 3) ?_; refine pureZ HT_ 3 (some 18) (bT 18 4) ?_; refine pureZ HT_ 4 (some 19) (bT 18 5) ?_; refine pureZ HT_ 5 (some 20) (bT 18 6) ?_; refine pureZ HT_ 6 (some 21) (bT 18 7) ?_; refine pureZ HT_ 7 (some 22) (bT 18 8) ?_; refine pureZ HT_ 8 (some 23) (bT 18 9) ?_; refine pureZ HT_ 9 (some 24) (bT 18 10) ?_; refine pureZ HT_ 10 (some 25) (bT 18 11) ?_; refine pureZ HT_ 11 (some 26) (bT 18 12) ?_; refine pureZ HT_ 13 (some 28) #[true, true, true, true, true, true, true, true, true, true, true, true, false, true, false, false, false, false] ?_; refine takeZ18 HT_ HW_ 12 (some 27) (bT 18 14) hHeld ?_; refine takeZ18 HT_ HW_ 14 (some 29) (bT 18 15) hHeld ?_; refine pureZ HT_ 15 (some 30) (bT 18 16) ?_; refine pureZ HT_ 16 (some 31) (bT 18 17) ?_; refine pureZ HT_ 17 (some 32) (bT 18 18) ?_; refine done_ (done_of HT_.out Zi) ?_
            try go_wp2
            go_roundg k1
            case measure => have := HK1.out; omega
            case rel => exact ⟨(wrap64 (x10_1 + 1)), Za, H', ⟨Zd⟩, ⟨(have z0_ := GE550; Zk)⟩⟩
           ·rw [if_neg c12] at H
            have c12b0 : (Op.bytesLess (((rd_T62 l0 (ji9)).f0).toList) (((rd_T62 l0 x10_1).f0).toList)) = false := by simpa using c12
            clear c12; obtain rfl := Option.some.inj H; have p549 : 0 ≤ (x10_1 : Int) := of_decide_eq_true Zc; have q549 : x10_1 < (l0.length : Int) := of_decide_eq_true Zc; obtain ⟨ad549, e549, hx549_0, hx549_1, hx549_2, hx549_3, hx549_4, hx549_5, hx549_6, hx549_7, hx549_8⟩ := at_T62 HR0.out x10_1 p549 q549
            cases e549
            replace hx549_0 := cbH HB hx549_0; replace hx549_1 := cbH HB hx549_1; replace hx549_2 := cbH HB hx549_2; replace hx549_3 := cbH HB hx549_3; replace hx549_4 := cbH HB hx549_4; replace hx549_5 := cbH HB hx549_5; replace hx549_6 := cbH HB hx549_6; replace hx549_7 := cbH HB hx549_7; replace hx549_8 := cbH HB hx549_8; replace p549 := eq_true p549; replace q549 := eq_true q549
            try go_wp2_with (first | ((with_reducible refine gate_dst (N := 4) rfl ?_); refine boxZ 4 #[.string (⟨#[]⟩ : ByteArray), .int .i64 0, .int .i64 0, .int .i64 0, .int .i64 0, .int .i64 0, .int .i64 0, .int .i64 0, .int .i64 0] 62 ?_; intro gb550 hg w18 hbox hb; replace BK550 := am_ (hbox); replace GW550 := am_ ((Zh : w.heap.size ≤ gb550)); replace GE550 := GW550; replace HB := (bsZ Zf hb); clear hb hbox hg; refine ci9 BK550 ?_; intros))
            have n0_ : Aside0 ((((((((((w18.setCell ⟨gb550, 0, none⟩ (.string ((rd_T62 l0 x10_1).f0))).setCell ⟨gb550, 1, none⟩ (.int .i64 ((rd_T62 l0 x10_1).f1))).setCell ⟨gb550, 2, none⟩ (.int .i64 ((rd_T62 l0 x10_1).f2))).setCell ⟨gb550, 3, none⟩ (.int .i64 ((rd_T62 l0 x10_1).f3))).setCell ⟨gb550, 4, none⟩ (.int .i64 ((rd_T62 l0 x10_1).f4))).setCell ⟨gb550, 5, none⟩ (.int .i64 ((rd_T62 l0 x10_1).f5))).setCell ⟨gb550, 6, none⟩ (.int .i64 ((rd_T62 l0 x10_1).f6))).setCell ⟨gb550, 7, none⟩ (.int .i64 ((rd_T62 l0 x10_1).f7))).setCell ⟨gb550, 8, none⟩ (.int .i64 ((rd_T62 l0 x10_1).f8))).heap[gb550]? = some (.cells #[.string ((rd_T62 l0 x10_1).f0), .int .i64 ((rd_T62 l0 x10_1).f1), .int .i64 ((rd_T62 l0 x10_1).f2), .int .i64 ((rd_T62 l0 x10_1).f3), .int .i64 ((rd_T62 l0 x10_1).f4), .int .i64 ((rd_T62 l0 x10_1).f5), .int .i64 ((rd_T62 l0 x10_1).f6), .int .i64 ((rd_T62 l0 x10_1).f7), .int .i64 ((rd_T62 l0 x10_1).f8)] 62 (0, 0))) := ⟨(have z0_ := BK550; Zl)⟩; have n1_ : Aside0 (Below w.heap.size w (((((((((w18.setCell ⟨gb550, 0, none⟩ (.string ((rd_T62 l0 x10_1).f0))).setCell ⟨gb550, 1, none⟩ (.int .i64 ((rd_T62 l0 x10_1).f1))).setCell ⟨gb550, 2, none⟩ (.int .i64 ((rd_T62 l0 x10_1).f2))).setCell ⟨gb550, 3, none⟩ (.int .i64 ((rd_T62 l0 x10_1).f3))).setCell ⟨gb550, 4, none⟩ (.int .i64 ((rd_T62 l0 x10_1).f4))).setCell ⟨gb550, 5, none⟩ (.int .i64 ((rd_T62 l0 x10_1).f5))).setCell ⟨gb550, 6, none⟩ (.int .i64 ((rd_T62 l0 x10_1).f6))).setCell ⟨gb550, 7, none⟩ (.int .i64 ((rd_T62 l0 x10_1).f7))).setCell ⟨gb550, 8, none⟩ (.int .i64 ((rd_T62 l0 x10_1).f8)))) := ⟨(have z0_ := GE550; Zk)⟩
            (try clear BK550)
            (try clear HB)
            generalize (((((((((w18.setCell ⟨gb550, 0, none⟩ (.string ((rd_T62 l0 x10_1).f0))).setCell ⟨gb550, 1, none⟩ (.int .i64 ((rd_T62 l0 x10_1).f1))).setCell ⟨gb550, 2, none⟩ (.int .i64 ((rd_T62 l0 x10_1).f2))).setCell ⟨gb550, 3, none⟩ (.int .i64 ((rd_T62 l0 x10_1).f3))).setCell ⟨gb550, 4, none⟩ (.int .i64 ((rd_T62 l0 x10_1).f4))).setCell ⟨gb550, 5, none⟩ (.int .i64 ((rd_T62 l0 x10_1).f5))).setCell ⟨gb550, 6, none⟩ (.int .i64 ((rd_T62 l0 x10_1).f6))).setCell ⟨gb550, 7, none⟩ (.int .i64 ((rd_T62 l0 x10_1).f7))).setCell ⟨gb550, 8, none⟩ (.int .i64 ((rd_T62 l0 x10_1).f8))) = w20 at n0_ n1_ ⊢; have BK550 := n0_; have HB := n1_; clear n0_ n1_; replace BK550 := am_ (blk_drew BK550.out); replace HB := am_ (below_drew1 HB.out); have p552 : 0 ≤ ((ji9) : Int) := of_decide_eq_true Zc; have q552 : (ji9) < (l0.length : Int) := of_decide_eq_true Zc; obtain ⟨ad552, e552, hx552_0, hx552_1, hx552_2, hx552_3, hx552_4, hx552_5, hx552_6, hx552_7, hx552_8⟩ := at_T62 HR0.out (ji9) p552 q552; have hw552_8 := hx552_8; have hw552_7 := hx552_7; have hw552_6 := hx552_6; have hw552_5 := hx552_5; have hw552_4 := hx552_4; have hw552_3 := hx552_3; have hw552_2 := hx552_2; have hw552_1 := hx552_1; have hw552_0 := hx552_0; obtain rfl : ad549 = ad552 := (by injection e552); replace hx552_0 := cbH HB hx552_0; replace hx552_1 := cbH HB hx552_1; replace hx552_2 := cbH HB hx552_2; replace hx552_3 := cbH HB hx552_3; replace hx552_4 := cbH HB hx552_4; replace hx552_5 := cbH HB hx552_5; replace hx552_6 := cbH HB hx552_6; replace hx552_7 := cbH HB hx552_7; replace hx552_8 := cbH HB hx552_8; replace p552 := eq_true p552; replace q552 := eq_true q552; refine start_ (n := 18) (S := fun w' => w'.cell? ⟨gb550, 0, none⟩ = some (.string ((rd_T62 l0 x10_1).f0)) ∧ w'.cell? ⟨gb550, 1, none⟩ = some (.int .i64 ((rd_T62 l0 x10_1).f1)) ∧ w'.cell? ⟨gb550, 2, none⟩ = some (.int .i64 ((rd_T62 l0 x10_1).f2)) ∧ w'.cell? ⟨gb550, 3, none⟩ = some (.int .i64 ((rd_T62 l0 x10_1).f3)) ∧ w'.cell? ⟨gb550, 4, none⟩ = some (.int .i64 ((rd_T62 l0 x10_1).f4)) ∧ w'.cell? ⟨gb550, 5, none⟩ = some (.int .i64 ((rd_T62 l0 x10_1).f5)) ∧ w'.cell? ⟨gb550, 6, none⟩ = some (.int .i64 ((rd_T62 l0 x10_1).f6)) ∧ w'.cell? ⟨gb550, 7, none⟩ = some (.int .i64 ((rd_T62 l0 x10_1).f7)) ∧ w'.cell? ⟨gb550, 8, none⟩ = some (.int .i64 ((rd_T62 l0 x10_1).f8)) ∧ w'.cell? (ad549.add (((ji9)).toNat * 9)) = some (.string ((rd_T62 l0 (ji9)).f0)) ∧ w'.cell? ⟨(ad549.add (((ji9)).toNat * 9)).block, (ad549.add (((ji9)).toNat * 9)).off + 1, none⟩ = some (.int .i64 ((rd_T62 l0 (ji9)).f1)) ∧ w'.cell? ⟨(ad549.add (((ji9)).toNat * 9)).block, (ad549.add (((ji9)).toNat * 9)).off + 2, none⟩ = some (.int .i64 ((rd_T62 l0 (ji9)).f2)) ∧ w'.cell? ⟨(ad549.add (((ji9)).toNat * 9)).block, (ad549.add (((ji9)).toNat * 9)).off + 3, none⟩ = some (.int .i64 ((rd_T62 l0 (ji9)).f3)) ∧ w'.cell? ⟨(ad549.add (((ji9)).toNat * 9)).block, (ad549.add (((ji9)).toNat * 9)).off + 4, none⟩ = some (.int .i64 ((rd_T62 l0 (ji9)).f4)) ∧ w'.cell? ⟨(ad549.add (((ji9)).toNat * 9)).block, (ad549.add (((ji9)).toNat * 9)).off + 5, none⟩ = some (.int .i64 ((rd_T62 l0 (ji9)).f5)) ∧ w'.cell? ⟨(ad549.add (((ji9)).toNat * 9)).block, (ad549.add (((ji9)).toNat * 9)).off + 6, none⟩ = some (.int .i64 ((rd_T62 l0 (ji9)).f6)) ∧ w'.cell? ⟨(ad549.add (((ji9)).toNat * 9)).block, (ad549.add (((ji9)).toNat * 9)).off + 7, none⟩ = some (.int .i64 ((rd_T62 l0 (ji9)).f7)) ∧ w'.cell? ⟨(ad549.add (((ji9)).toNat * 9)).block, (ad549.add (((ji9)).toNat * 9)).off + 8, none⟩ = some (.int .i64 ((rd_T62 l0 (ji9)).f8))) (ds := []) (bT 18 0) Zi rfl rfl ⟨(blk_cell BK550.out 0).trans rfl, (blk_cell BK550.out 1).trans rfl, (blk_cell BK550.out 2).trans rfl, (blk_cell BK550.out 3).trans rfl, (blk_cell BK550.out 4).trans rfl, (blk_cell BK550.out 5).trans rfl, (blk_cell BK550.out 6).trans rfl, (blk_cell BK550.out 7).trans rfl, (blk_cell BK550.out 8).trans rfl, (cbH HB hw552_0 :), (cbH HB hw552_1 :), (cbH HB hw552_2 :), (cbH HB hw552_3 :), (cbH HB hw552_4 :), (cbH HB hw552_5 :), (cbH HB hw552_6 :), (cbH HB hw552_7 :), (cbH HB hw552_8 :)⟩ (fun hHeld => ?_); refine with_tabW impl_AreArticles.tab6 impl_AreArticles.bits6 (fun HT_ HW_ => ?_)
            generalize w20.drew = w21 at BK550 HB hx552_0 hx552_1 hx552_2 hx552_3 hx552_4 hx552_5 hx552_6 hx552_7 hx552_8 hHeld ⊢; refine takeZ18 HT_ HW_ 0 (some 15) (bT 18 1) hHeld ?_; refine one_ (i := 1) (N := some 16) (bT 18 2) rfl rfl (one_of HT_.out Zi) (by decide) (fun K hK => ?_); refine goes_ Try.func91 Zi rfl #[.agg #[.string ((rd_T62 l0 x10_1).f0), .int .i64 ((rd_T62 l0 x10_1).f1), .int .i64 ((rd_T62 l0 x10_1).f2), .int .i64 ((rd_T62 l0 x10_1).f3), .int .i64 ((rd_T62 l0 x10_1).f4), .int .i64 ((rd_T62 l0 x10_1).f5), .int .i64 ((rd_T62 l0 x10_1).f6), .int .i64 ((rd_T62 l0 x10_1).f7), .int .i64 ((rd_T62 l0 x10_1).f8)]] (by rfl) rfl rfl Zj ?_
            with_reducible refine (impl_IsArticle.calls k1 ((rd_T62 l0 x10_1).f0) ((rd_T62 l0 x10_1).f1) ((rd_T62 l0 x10_1).f2) ((rd_T62 l0 x10_1).f3) ((rd_T62 l0 x10_1).f4) ((rd_T62 l0 x10_1).f5) ((rd_T62 l0 x10_1).f6) ((rd_T62 l0 x10_1).f7) ((rd_T62 l0 x10_1).f8) true _ A6.out).mono ?_
            rintro e w22 ⟨rfl, hb⟩; refine ⟨_, rfl, ?_⟩; replace BK550 := (have z0_ := BK550; bkZ hb); replace HB := (bsZ (have z0_ := GE550; Zk) hb)
            (try clear hb)
            (try clear hb2)
            (try clear hk)
            (try clear hi)
            refine hK.out _ _ (by exact ⟨(blk_cell BK550.out 0).trans rfl, (blk_cell BK550.out 1).trans rfl, (blk_cell BK550.out 2).trans rfl, (blk_cell BK550.out 3).trans rfl, (blk_cell BK550.out 4).trans rfl, (blk_cell BK550.out 5).trans rfl, (blk_cell BK550.out 6).trans rfl, (blk_cell BK550.out 7).trans rfl, (blk_cell BK550.out 8).trans rfl, (cbH HB hw552_0 :), (cbH HB hw552_1 :), (cbH HB hw552_2 :), (cbH HB hw552_3 :), (cbH HB hw552_4 :), (cbH HB hw552_5 :), (cbH HB hw552_6 :), (cbH HB hw552_7 :), (cbH HB hw552_8 :)⟩) (fun hHeld => ?_); clear hK K; refine normZ 16 ?_; refine pureZ HT_ 2 (some 17) (bT 18 3) ?_; refine pureZ HT_ 3 (some 18) (bT 18 4) ?_; refine pureZ HT_ 4 (some 19) (bT 18 5) ?_; refine pureZ HT_ 5 (some 20) (bT 18 6) ?_; refine pureZ HT_ 6 (some 21) (bT 18 7) ?_; refine pureZ HT_ 7 (some 22) (bT 18 8) ?_; refine pureZ HT_ 8 (some 23) (bT 18 9) ?_; refine pureZ HT_ 9 (some 24) (bT 18 10) ?_; refine pureZ HT_ 10 (some 25) (bT 18 11) ?_; refine pureZ HT_ 11 (some 26) (bT 18 12) ?_; refine pureZ HT_ 13 (some 28) #[true, true, true, true, true, true, true, true, true, true, true, true, false, true, false, false, false, false] ?_; refine takeZ18 HT_ HW_ 12 (some 27) (bT 18 14) hHeld ?_; refine takeZ18 HT_ HW_ 14 (some 29) (bT 18 15) hHeld ?_; refine pureZ HT_ 15 (some 30) (bT 18 16) ?_; refine pureZ HT_ 16 (some 31) (bT 18 17) ?_; refine pureZ HT_ 17 (some 32) (bT 18 18) ?_; refine done_ (done_of HT_.out Zi) ?_
            try go_wp2
            go_ret
            exact ⟨by first | rfl | (simp [errW_none, errW_some] <;> rfl) | (simp only [← hji9]; first | rfl | (simp [errW_none, errW_some] <;> rfl)) | (simp [*, errW_none, errW_some] <;> rfl), (have z0_ := GE550; Zk)⟩
          ·rw [if_neg c11] at H
           exact absurd H (by simp)
         ·rw [if_neg c10] at H
          exact absurd H (by simp)
        ·rw [if_neg c8] at H
         have c8b0 : decide (0 < x10_1) = false := decide_eq_false c8; clear c8; have H' := am_ H; clear H; have p549 : 0 ≤ (x10_1 : Int) := of_decide_eq_true Zc; have q549 : x10_1 < (l0.length : Int) := of_decide_eq_true Zc; obtain ⟨ad549, e549, hx549_0, hx549_1, hx549_2, hx549_3, hx549_4, hx549_5, hx549_6, hx549_7, hx549_8⟩ := at_T62 HR0.out x10_1 p549 q549
         cases e549
         replace hx549_0 := cbH HB hx549_0; replace hx549_1 := cbH HB hx549_1; replace hx549_2 := cbH HB hx549_2; replace hx549_3 := cbH HB hx549_3; replace hx549_4 := cbH HB hx549_4; replace hx549_5 := cbH HB hx549_5; replace hx549_6 := cbH HB hx549_6; replace hx549_7 := cbH HB hx549_7; replace hx549_8 := cbH HB hx549_8; replace p549 := eq_true p549; replace q549 := eq_true q549
         try go_wp2_with (first | ((with_reducible refine gate_dst (N := 4) rfl ?_); refine boxZ 4 #[.string (⟨#[]⟩ : ByteArray), .int .i64 0, .int .i64 0, .int .i64 0, .int .i64 0, .int .i64 0, .int .i64 0, .int .i64 0, .int .i64 0] 62 ?_; intro gb550 hg w23 hbox hb; replace BK550 := am_ (hbox); replace GW550 := am_ ((Zh : w.heap.size ≤ gb550)); replace GE550 := GW550; replace HB := (bsZ Zf hb); clear hb hbox hg; refine ci9 BK550 ?_; intros))
         have n0_ : Aside0 ((((((((((w23.setCell ⟨gb550, 0, none⟩ (.string ((rd_T62 l0 x10_1).f0))).setCell ⟨gb550, 1, none⟩ (.int .i64 ((rd_T62 l0 x10_1).f1))).setCell ⟨gb550, 2, none⟩ (.int .i64 ((rd_T62 l0 x10_1).f2))).setCell ⟨gb550, 3, none⟩ (.int .i64 ((rd_T62 l0 x10_1).f3))).setCell ⟨gb550, 4, none⟩ (.int .i64 ((rd_T62 l0 x10_1).f4))).setCell ⟨gb550, 5, none⟩ (.int .i64 ((rd_T62 l0 x10_1).f5))).setCell ⟨gb550, 6, none⟩ (.int .i64 ((rd_T62 l0 x10_1).f6))).setCell ⟨gb550, 7, none⟩ (.int .i64 ((rd_T62 l0 x10_1).f7))).setCell ⟨gb550, 8, none⟩ (.int .i64 ((rd_T62 l0 x10_1).f8))).heap[gb550]? = some (.cells #[.string ((rd_T62 l0 x10_1).f0), .int .i64 ((rd_T62 l0 x10_1).f1), .int .i64 ((rd_T62 l0 x10_1).f2), .int .i64 ((rd_T62 l0 x10_1).f3), .int .i64 ((rd_T62 l0 x10_1).f4), .int .i64 ((rd_T62 l0 x10_1).f5), .int .i64 ((rd_T62 l0 x10_1).f6), .int .i64 ((rd_T62 l0 x10_1).f7), .int .i64 ((rd_T62 l0 x10_1).f8)] 62 (0, 0))) := ⟨(have z0_ := BK550; Zl)⟩; have n1_ : Aside0 (Below w.heap.size w (((((((((w23.setCell ⟨gb550, 0, none⟩ (.string ((rd_T62 l0 x10_1).f0))).setCell ⟨gb550, 1, none⟩ (.int .i64 ((rd_T62 l0 x10_1).f1))).setCell ⟨gb550, 2, none⟩ (.int .i64 ((rd_T62 l0 x10_1).f2))).setCell ⟨gb550, 3, none⟩ (.int .i64 ((rd_T62 l0 x10_1).f3))).setCell ⟨gb550, 4, none⟩ (.int .i64 ((rd_T62 l0 x10_1).f4))).setCell ⟨gb550, 5, none⟩ (.int .i64 ((rd_T62 l0 x10_1).f5))).setCell ⟨gb550, 6, none⟩ (.int .i64 ((rd_T62 l0 x10_1).f6))).setCell ⟨gb550, 7, none⟩ (.int .i64 ((rd_T62 l0 x10_1).f7))).setCell ⟨gb550, 8, none⟩ (.int .i64 ((rd_T62 l0 x10_1).f8)))) := ⟨(have z0_ := GE550; Zk)⟩
         (try clear BK550)
         (try clear HB)
         generalize (((((((((w23.setCell ⟨gb550, 0, none⟩ (.string ((rd_T62 l0 x10_1).f0))).setCell ⟨gb550, 1, none⟩ (.int .i64 ((rd_T62 l0 x10_1).f1))).setCell ⟨gb550, 2, none⟩ (.int .i64 ((rd_T62 l0 x10_1).f2))).setCell ⟨gb550, 3, none⟩ (.int .i64 ((rd_T62 l0 x10_1).f3))).setCell ⟨gb550, 4, none⟩ (.int .i64 ((rd_T62 l0 x10_1).f4))).setCell ⟨gb550, 5, none⟩ (.int .i64 ((rd_T62 l0 x10_1).f5))).setCell ⟨gb550, 6, none⟩ (.int .i64 ((rd_T62 l0 x10_1).f6))).setCell ⟨gb550, 7, none⟩ (.int .i64 ((rd_T62 l0 x10_1).f7))).setCell ⟨gb550, 8, none⟩ (.int .i64 ((rd_T62 l0 x10_1).f8))) = w25 at n0_ n1_ ⊢; have BK550 := n0_; have HB := n1_; clear n0_ n1_; replace BK550 := am_ (blk_drew BK550.out); replace HB := am_ (below_drew1 HB.out); refine start_ (n := 18) (S := fun w' => w'.cell? ⟨gb550, 0, none⟩ = some (.string ((rd_T62 l0 x10_1).f0)) ∧ w'.cell? ⟨gb550, 1, none⟩ = some (.int .i64 ((rd_T62 l0 x10_1).f1)) ∧ w'.cell? ⟨gb550, 2, none⟩ = some (.int .i64 ((rd_T62 l0 x10_1).f2)) ∧ w'.cell? ⟨gb550, 3, none⟩ = some (.int .i64 ((rd_T62 l0 x10_1).f3)) ∧ w'.cell? ⟨gb550, 4, none⟩ = some (.int .i64 ((rd_T62 l0 x10_1).f4)) ∧ w'.cell? ⟨gb550, 5, none⟩ = some (.int .i64 ((rd_T62 l0 x10_1).f5)) ∧ w'.cell? ⟨gb550, 6, none⟩ = some (.int .i64 ((rd_T62 l0 x10_1).f6)) ∧ w'.cell? ⟨gb550, 7, none⟩ = some (.int .i64 ((rd_T62 l0 x10_1).f7)) ∧ w'.cell? ⟨gb550, 8, none⟩ = some (.int .i64 ((rd_T62 l0 x10_1).f8))) (ds := []) (bT 18 0) Zi rfl rfl ⟨(blk_cell BK550.out 0).trans rfl, (blk_cell BK550.out 1).trans rfl, (blk_cell BK550.out 2).trans rfl, (blk_cell BK550.out 3).trans rfl, (blk_cell BK550.out 4).trans rfl, (blk_cell BK550.out 5).trans rfl, (blk_cell BK550.out 6).trans rfl, (blk_cell BK550.out 7).trans rfl, (blk_cell BK550.out 8).trans rfl⟩ (fun hHeld => ?_); refine with_tabW impl_AreArticles.tab6 impl_AreArticles.bits6 (fun HT_ HW_ => ?_); generalize w25.drew = w26 at BK550 HB hHeld ⊢; refine takeZ9 HT_ HW_ 0 (some 15) (bT 18 1) hHeld ?_; refine one_ (i := 1) (N := some 16) (bT 18 2) rfl rfl (one_of HT_.out Zi) (by decide) (fun K hK => ?_); refine goes_ Try.func91 Zi rfl #[.agg #[.string ((rd_T62 l0 x10_1).f0), .int .i64 ((rd_T62 l0 x10_1).f1), .int .i64 ((rd_T62 l0 x10_1).f2), .int .i64 ((rd_T62 l0 x10_1).f3), .int .i64 ((rd_T62 l0 x10_1).f4), .int .i64 ((rd_T62 l0 x10_1).f5), .int .i64 ((rd_T62 l0 x10_1).f6), .int .i64 ((rd_T62 l0 x10_1).f7), .int .i64 ((rd_T62 l0 x10_1).f8)]] (by rfl) rfl rfl Zj ?_
         with_reducible refine (impl_IsArticle.calls k1 ((rd_T62 l0 x10_1).f0) ((rd_T62 l0 x10_1).f1) ((rd_T62 l0 x10_1).f2) ((rd_T62 l0 x10_1).f3) ((rd_T62 l0 x10_1).f4) ((rd_T62 l0 x10_1).f5) ((rd_T62 l0 x10_1).f6) ((rd_T62 l0 x10_1).f7) ((rd_T62 l0 x10_1).f8) true _ A6.out).mono ?_
         rintro e w27 ⟨rfl, hb⟩; refine ⟨_, rfl, ?_⟩; replace BK550 := (have z0_ := BK550; bkZ hb); replace HB := (bsZ (have z0_ := GE550; Zk) hb)
         (try clear hb)
         (try clear hb2)
         (try clear hk)
         (try clear hi)
         refine hK.out _ _ (have z0_ := BK550; Zm) (fun hHeld => ?_); clear hK K; refine normZ 16 ?_; refine pureZ HT_ 2 (some 17) (bT 18 3) ?_; refine pureZ HT_ 3 (some 18) (bT 18 4) ?_; refine pureZ HT_ 4 (some 19) (bT 18 5) ?_; refine pureZ HT_ 5 (some 20) (bT 18 6) ?_; refine pureZ HT_ 6 (some 21) (bT 18 7) ?_; refine pureU HT_ 7 (some 22) (bT 18 8) ?_; refine pureU HT_ 8 (some 23) (bT 18 9) ?_; refine pureU HT_ 9 (some 24) (bT 18 10) ?_; refine pureU HT_ 10 (some 25) (bT 18 11) ?_; refine pureU HT_ 11 (some 26) (bT 18 12) ?_; refine pureU HT_ 12 (some 27) (bT 18 13) ?_; refine pureU HT_ 13 (some 28) (bT 18 14) ?_; refine pureU HT_ 14 (some 29) (bT 18 15) ?_; refine pureU HT_ 15 (some 30) (bT 18 16) ?_; refine pureZ HT_ 16 (some 31) (bT 18 17) ?_; refine pureZ HT_ 17 (some 32) (bT 18 18) ?_; refine done_ (done_of HT_.out Zi) ?_
         try go_wp2
         go_roundg k1
         case measure => have := HK1.out; omega
         case rel => exact ⟨(wrap64 (x10_1 + 1)), Za, H', ⟨Zd⟩, ⟨(have z0_ := GE550; Zk)⟩⟩
       ·replace c7 := Bool.eq_false_iff.mpr c7
        subst c7
        have H1 : (some false) = some r := by rw [if_neg (show ¬ (false = true) by decide)] at H; exact H
        clear H; have H := H1; clear H1; obtain rfl := Option.some.inj H; have p549 : 0 ≤ (x10_1 : Int) := of_decide_eq_true Zc; have q549 : x10_1 < (l0.length : Int) := of_decide_eq_true Zc; obtain ⟨ad549, e549, hx549_0, hx549_1, hx549_2, hx549_3, hx549_4, hx549_5, hx549_6, hx549_7, hx549_8⟩ := at_T62 HR0.out x10_1 p549 q549
        cases e549
        replace hx549_0 := cbH HB hx549_0; replace hx549_1 := cbH HB hx549_1; replace hx549_2 := cbH HB hx549_2; replace hx549_3 := cbH HB hx549_3; replace hx549_4 := cbH HB hx549_4; replace hx549_5 := cbH HB hx549_5; replace hx549_6 := cbH HB hx549_6; replace hx549_7 := cbH HB hx549_7; replace hx549_8 := cbH HB hx549_8; replace p549 := eq_true p549; replace q549 := eq_true q549
        try go_wp2_with (first | ((with_reducible refine gate_dst (N := 4) rfl ?_); refine boxZ 4 #[.string (⟨#[]⟩ : ByteArray), .int .i64 0, .int .i64 0, .int .i64 0, .int .i64 0, .int .i64 0, .int .i64 0, .int .i64 0, .int .i64 0] 62 ?_; intro gb550 hg w28 hbox hb; replace BK550 := am_ (hbox); replace GW550 := am_ ((Zh : w.heap.size ≤ gb550)); replace GE550 := GW550; replace HB := (bsZ Zf hb); clear hb hbox hg; refine ci9 BK550 ?_; intros))
        have n0_ : Aside0 ((((((((((w28.setCell ⟨gb550, 0, none⟩ (.string ((rd_T62 l0 x10_1).f0))).setCell ⟨gb550, 1, none⟩ (.int .i64 ((rd_T62 l0 x10_1).f1))).setCell ⟨gb550, 2, none⟩ (.int .i64 ((rd_T62 l0 x10_1).f2))).setCell ⟨gb550, 3, none⟩ (.int .i64 ((rd_T62 l0 x10_1).f3))).setCell ⟨gb550, 4, none⟩ (.int .i64 ((rd_T62 l0 x10_1).f4))).setCell ⟨gb550, 5, none⟩ (.int .i64 ((rd_T62 l0 x10_1).f5))).setCell ⟨gb550, 6, none⟩ (.int .i64 ((rd_T62 l0 x10_1).f6))).setCell ⟨gb550, 7, none⟩ (.int .i64 ((rd_T62 l0 x10_1).f7))).setCell ⟨gb550, 8, none⟩ (.int .i64 ((rd_T62 l0 x10_1).f8))).heap[gb550]? = some (.cells #[.string ((rd_T62 l0 x10_1).f0), .int .i64 ((rd_T62 l0 x10_1).f1), .int .i64 ((rd_T62 l0 x10_1).f2), .int .i64 ((rd_T62 l0 x10_1).f3), .int .i64 ((rd_T62 l0 x10_1).f4), .int .i64 ((rd_T62 l0 x10_1).f5), .int .i64 ((rd_T62 l0 x10_1).f6), .int .i64 ((rd_T62 l0 x10_1).f7), .int .i64 ((rd_T62 l0 x10_1).f8)] 62 (0, 0))) := ⟨(have z0_ := BK550; Zl)⟩; have n1_ : Aside0 (Below w.heap.size w (((((((((w28.setCell ⟨gb550, 0, none⟩ (.string ((rd_T62 l0 x10_1).f0))).setCell ⟨gb550, 1, none⟩ (.int .i64 ((rd_T62 l0 x10_1).f1))).setCell ⟨gb550, 2, none⟩ (.int .i64 ((rd_T62 l0 x10_1).f2))).setCell ⟨gb550, 3, none⟩ (.int .i64 ((rd_T62 l0 x10_1).f3))).setCell ⟨gb550, 4, none⟩ (.int .i64 ((rd_T62 l0 x10_1).f4))).setCell ⟨gb550, 5, none⟩ (.int .i64 ((rd_T62 l0 x10_1).f5))).setCell ⟨gb550, 6, none⟩ (.int .i64 ((rd_T62 l0 x10_1).f6))).setCell ⟨gb550, 7, none⟩ (.int .i64 ((rd_T62 l0 x10_1).f7))).setCell ⟨gb550, 8, none⟩ (.int .i64 ((rd_T62 l0 x10_1).f8)))) := ⟨(have z0_ := GE550; Zk)⟩
        (try clear BK550)
        (try clear HB)
        generalize (((((((((w28.setCell ⟨gb550, 0, none⟩ (.string ((rd_T62 l0 x10_1).f0))).setCell ⟨gb550, 1, none⟩ (.int .i64 ((rd_T62 l0 x10_1).f1))).setCell ⟨gb550, 2, none⟩ (.int .i64 ((rd_T62 l0 x10_1).f2))).setCell ⟨gb550, 3, none⟩ (.int .i64 ((rd_T62 l0 x10_1).f3))).setCell ⟨gb550, 4, none⟩ (.int .i64 ((rd_T62 l0 x10_1).f4))).setCell ⟨gb550, 5, none⟩ (.int .i64 ((rd_T62 l0 x10_1).f5))).setCell ⟨gb550, 6, none⟩ (.int .i64 ((rd_T62 l0 x10_1).f6))).setCell ⟨gb550, 7, none⟩ (.int .i64 ((rd_T62 l0 x10_1).f7))).setCell ⟨gb550, 8, none⟩ (.int .i64 ((rd_T62 l0 x10_1).f8))) = w30 at n0_ n1_ ⊢; have BK550 := n0_; have HB := n1_; clear n0_ n1_; replace BK550 := am_ (blk_drew BK550.out); replace HB := am_ (below_drew1 HB.out); refine start_ (n := 18) (S := fun w' => w'.cell? ⟨gb550, 0, none⟩ = some (.string ((rd_T62 l0 x10_1).f0)) ∧ w'.cell? ⟨gb550, 1, none⟩ = some (.int .i64 ((rd_T62 l0 x10_1).f1)) ∧ w'.cell? ⟨gb550, 2, none⟩ = some (.int .i64 ((rd_T62 l0 x10_1).f2)) ∧ w'.cell? ⟨gb550, 3, none⟩ = some (.int .i64 ((rd_T62 l0 x10_1).f3)) ∧ w'.cell? ⟨gb550, 4, none⟩ = some (.int .i64 ((rd_T62 l0 x10_1).f4)) ∧ w'.cell? ⟨gb550, 5, none⟩ = some (.int .i64 ((rd_T62 l0 x10_1).f5)) ∧ w'.cell? ⟨gb550, 6, none⟩ = some (.int .i64 ((rd_T62 l0 x10_1).f6)) ∧ w'.cell? ⟨gb550, 7, none⟩ = some (.int .i64 ((rd_T62 l0 x10_1).f7)) ∧ w'.cell? ⟨gb550, 8, none⟩ = some (.int .i64 ((rd_T62 l0 x10_1).f8))) (ds := []) (bT 18 0) Zi rfl rfl ⟨(blk_cell BK550.out 0).trans rfl, (blk_cell BK550.out 1).trans rfl, (blk_cell BK550.out 2).trans rfl, (blk_cell BK550.out 3).trans rfl, (blk_cell BK550.out 4).trans rfl, (blk_cell BK550.out 5).trans rfl, (blk_cell BK550.out 6).trans rfl, (blk_cell BK550.out 7).trans rfl, (blk_cell BK550.out 8).trans rfl⟩ (fun hHeld => ?_); refine with_tabW impl_AreArticles.tab6 impl_AreArticles.bits6 (fun HT_ HW_ => ?_); generalize w30.drew = w31 at BK550 HB hHeld ⊢; refine takeZ9 HT_ HW_ 0 (some 15) (bT 18 1) hHeld ?_; refine one_ (i := 1) (N := some 16) (bT 18 2) rfl rfl (one_of HT_.out Zi) (by decide) (fun K hK => ?_); refine goes_ Try.func91 Zi rfl #[.agg #[.string ((rd_T62 l0 x10_1).f0), .int .i64 ((rd_T62 l0 x10_1).f1), .int .i64 ((rd_T62 l0 x10_1).f2), .int .i64 ((rd_T62 l0 x10_1).f3), .int .i64 ((rd_T62 l0 x10_1).f4), .int .i64 ((rd_T62 l0 x10_1).f5), .int .i64 ((rd_T62 l0 x10_1).f6), .int .i64 ((rd_T62 l0 x10_1).f7), .int .i64 ((rd_T62 l0 x10_1).f8)]] (by rfl) rfl rfl Zj ?_
        with_reducible refine (impl_IsArticle.calls k1 ((rd_T62 l0 x10_1).f0) ((rd_T62 l0 x10_1).f1) ((rd_T62 l0 x10_1).f2) ((rd_T62 l0 x10_1).f3) ((rd_T62 l0 x10_1).f4) ((rd_T62 l0 x10_1).f5) ((rd_T62 l0 x10_1).f6) ((rd_T62 l0 x10_1).f7) ((rd_T62 l0 x10_1).f8) false _ A6.out).mono ?_
        rintro e w32 ⟨rfl, hb⟩; refine ⟨_, rfl, ?_⟩; replace BK550 := (have z0_ := BK550; bkZ hb); replace HB := (bsZ (have z0_ := GE550; Zk) hb)
        (try clear hb)
        (try clear hb2)
        (try clear hk)
        (try clear hi)
        refine hK.out _ _ (have z0_ := BK550; Zm) (fun hHeld => ?_); clear hK K; refine normZ 16 ?_; refine pureZ HT_ 2 (some 17) (bT 18 3) ?_; refine pureZ HT_ 3 (some 18) (bT 18 4) ?_; refine pureU HT_ 4 (some 19) (bT 18 5) ?_; refine pureU HT_ 5 (some 20) (bT 18 6) ?_; refine pureU HT_ 6 (some 21) (bT 18 7) ?_; refine pureU HT_ 7 (some 22) (bT 18 8) ?_; refine pureU HT_ 8 (some 23) (bT 18 9) ?_; refine pureU HT_ 9 (some 24) (bT 18 10) ?_; refine pureU HT_ 10 (some 25) (bT 18 11) ?_; refine pureU HT_ 11 (some 26) (bT 18 12) ?_; refine pureU HT_ 12 (some 27) (bT 18 13) ?_; refine pureU HT_ 13 (some 28) (bT 18 14) ?_; refine pureU HT_ 14 (some 29) (bT 18 15) ?_; refine pureU HT_ 15 (some 30) (bT 18 16) ?_; refine pureU HT_ 16 (some 31) (bT 18 17) ?_; refine pureZ HT_ 17 (some 32) (bT 18 18) ?_; refine done_ (done_of HT_.out Zi) ?_
        try go_wp2
        go_ret
        exact ⟨Zg, (have z0_ := GE550; Zk)⟩
      ·rw [if_neg c5] at H
       exact absurd H (by simp)
     ·rw [if_neg c4] at H
      exact absurd H (by simp)
    ·rw [if_neg c3] at H
     have c3b0 := decide_eq_false c3; clear c3; obtain rfl := Option.some.inj H
     go_wp2
     go_ret
     exact ⟨Zg, Zf⟩
def impl_articleOf.l0 : Nat → ByteArray → List (S62) → Int → Int → Option (Int)
 | 0, _, _, _, _ => none
 | k + 1, x1, x7, x8, x9 => if x9 < x8 then (if 0 ≤ x9 then (if x9 < (x7.length : Int) then (if ((rd_T62 x7 x9).f0).toList = x1.toList then (some x9) else (impl_articleOf.l0 k x1 x7 x8 (wrap64 (x9 + 1)))) else (none)) else (none)) else (some (-1))
def impl_articleOf.f (k : Nat) (l0 : List (S62)) (a1 : ByteArray) : Option (Int) := impl_articleOf.l0 k a1 l0 (l0.length : Int) 0
set_option maxHeartbeats 8000000 in
set_option maxRecDepth 100000 in
theorem impl_articleOf.calls (k : Nat) (A0 : Option Addr) (c0 : Nat) (l0 : List (S62)) (a1 : ByteArray) (r : Int) (w : World) (hr0 : Kd.C k62 w A0 l0.length l0) (hc0 : l0.length ≤ c0) (h : impl_articleOf.f k l0 a1 = some r) :
  Calls Try.prog 63 #[.slice A0 l0.length c0, .string a1] w fun e w' => e = .returned (.int .i64 r) ∧ Below w.heap.size w w' := by
 have hu62 := Try.underlying62; have HR0 := am_ hr0; have HC0 := am_ hc0; clear hr0 hc0; have HB := am_ (Below.refl w.heap.size w); have H : (impl_articleOf.l0 k a1 l0 (l0.length : Int) 0) = some r := h; clear h; have H' := am_ H; clear H
 go_enter Try.func63, Try.ntmps63
 go_wp2
 go_loopg [9] k (fun kq v9 w' => ∃ (x9_1 : Int), v9 = .int .i64 x9_1 ∧ Aside0 (impl_articleOf.l0 kq a1 l0 (l0.length : Int) x9_1 = some r) ∧ Aside0 (kq ≤ k) ∧ Aside0 (Below w.heap.size w w'))
 case atStart => exact ⟨(0), Za, H', ⟨Nat.le_refl _⟩, ⟨Zf⟩⟩
 case round =>
  clear H'
  try clear p2
  obtain ⟨x9_1, rfl, HA, HK1, HB⟩ := hrel
  cases gk with
  | zero => exact absurd HA.out (by simp [impl_articleOf.l0])
  | succ k1 =>
   have H := HA.out; clear HA; simp only [impl_articleOf.l0] at H
   by_cases c3 : x9_1 < (l0.length : Int)
   ·rw [if_pos c3] at H
    have c3b0 := decide_eq_true c3; clear c3
    by_cases c4 : 0 ≤ x9_1
    ·rw [if_pos c4] at H
     have c4b0 := decide_eq_true c4; clear c4
     by_cases c5 : x9_1 < (l0.length : Int)
     ·rw [if_pos c5] at H
      have c5b0 := decide_eq_true c5; clear c5
      by_cases c6 : ((rd_T62 l0 x9_1).f0).toList = a1.toList
      ·rw [if_pos c6] at H
       have c6b0 := beq_iff_eq.mpr c6; have c6b1 := bne_eq_false_iff_eq.mpr c6; clear c6; obtain rfl := Option.some.inj H; have p553 : 0 ≤ (x9_1 : Int) := of_decide_eq_true Zc; have q553 : x9_1 < (l0.length : Int) := of_decide_eq_true Zc; obtain ⟨ad553, e553, hx553_0, hx553_1, hx553_2, hx553_3, hx553_4, hx553_5, hx553_6, hx553_7, hx553_8⟩ := at_T62 HR0.out x9_1 p553 q553
       cases e553
       replace hx553_0 := cbH HB hx553_0; replace hx553_1 := cbH HB hx553_1; replace hx553_2 := cbH HB hx553_2; replace hx553_3 := cbH HB hx553_3; replace hx553_4 := cbH HB hx553_4; replace hx553_5 := cbH HB hx553_5; replace hx553_6 := cbH HB hx553_6; replace hx553_7 := cbH HB hx553_7; replace hx553_8 := cbH HB hx553_8; replace p553 := eq_true p553; replace q553 := eq_true q553
       go_wp2_with (first | ((with_reducible refine gate_dst (N := 6) rfl ?_); refine boxZ 6 #[.string (⟨#[]⟩ : ByteArray), .int .i64 0, .int .i64 0, .int .i64 0, .int .i64 0, .int .i64 0, .int .i64 0, .int .i64 0, .int .i64 0] 62 ?_; intro gb554 hg w7 hbox hb; replace BK554 := am_ (hbox); replace GW554 := am_ ((Zh : w.heap.size ≤ gb554)); replace GE554 := GW554; replace HB := (bsZ Zf hb); clear hb hbox hg; refine ci9 BK554 ?_; intros))
       go_ret
       exact ⟨Zg, (have z0_ := GE554; Zk)⟩
      ·rw [if_neg c6] at H
       have c6b0 := beq_eq_false_iff_ne.mpr c6; have c6b1 := bne_iff_ne.mpr c6; have H' := am_ H; clear H; have p553 : 0 ≤ (x9_1 : Int) := of_decide_eq_true Zc; have q553 : x9_1 < (l0.length : Int) := of_decide_eq_true Zc; obtain ⟨ad553, e553, hx553_0, hx553_1, hx553_2, hx553_3, hx553_4, hx553_5, hx553_6, hx553_7, hx553_8⟩ := at_T62 HR0.out x9_1 p553 q553
       cases e553
       replace hx553_0 := cbH HB hx553_0; replace hx553_1 := cbH HB hx553_1; replace hx553_2 := cbH HB hx553_2; replace hx553_3 := cbH HB hx553_3; replace hx553_4 := cbH HB hx553_4; replace hx553_5 := cbH HB hx553_5; replace hx553_6 := cbH HB hx553_6; replace hx553_7 := cbH HB hx553_7; replace hx553_8 := cbH HB hx553_8; replace p553 := eq_true p553; replace q553 := eq_true q553
       go_wp2_with (first | ((with_reducible refine gate_dst (N := 6) rfl ?_); refine boxZ 6 #[.string (⟨#[]⟩ : ByteArray), .int .i64 0, .int .i64 0, .int .i64 0, .int .i64 0, .int .i64 0, .int .i64 0, .int .i64 0, .int .i64 0] 62 ?_; intro gb554 hg w9 hbox hb; replace BK554 := am_ (hbox); replace GW554 := am_ ((Zh : w.heap.size ≤ gb554)); replace GE554 := GW554; replace HB := (bsZ Zf hb); clear hb hbox hg; refine ci9 BK554 ?_; intros))
       go_roundg k1
       case measure => have := HK1.out; omega
       case rel => exact ⟨(wrap64 (x9_1 + 1)), Za, H', ⟨Zd⟩, ⟨(have z0_ := GE554; Zk)⟩⟩
     ·rw [if_neg c5] at H
      exact absurd H (by simp)
    ·rw [if_neg c4] at H
     exact absurd H (by simp)
   ·rw [if_neg c3] at H
    have c3b0 := decide_eq_false c3; clear c3; obtain rfl := Option.some.inj H
    go_wp2
    go_ret
    exact ⟨Zg, Zf⟩
def impl_isIndex.f (a0 : Int) (a1 : Int) : Option (Bool) := (impl_within.f a0 0 (wrap64 (a1 - 1))).bind fun t555 => (some t555)
set_option maxHeartbeats 8000000 in
set_option maxRecDepth 100000 in
theorem impl_isIndex.calls (a0 : Int) (a1 : Int) (r : Bool) (w : World) (h : impl_isIndex.f a0 a1 = some r) :
  Calls Try.prog 62 #[.int .i64 a0, .int .i64 a1] w fun e w' => e = .returned (.bool r) ∧ Drawn0 w w' := by
 have H : ((impl_within.f a0 0 (wrap64 (a1 - 1))).bind fun t555 => (some t555)) = some r := h; clear h; replace H := Option.bind_eq_some_iff.mp H; obtain ⟨t555, A30, H⟩ := H; have A3 := am_ A30; clear A30; obtain rfl := Option.some.inj H
 go_enter Try.func62, Try.ntmps62
 go_wp2_with (first | ((with_reducible refine gate_callee (f := 53) rfl ?_); refine goesL_ (some 8) rfl rfl Try.func53 Zi rfl #[.int .i64 a0, .int .i64 0, .int .i64 (wrap64 (a1 - 1))] rfl Zj ?_; (with_reducible refine (impl_within.calls a0 0 (wrap64 (a1 - 1)) t555 _ A3.out).mono ?_); rintro e w' ⟨rfl, ⟨nd, rfl⟩⟩; refine ⟨_, rfl, ?_⟩))
 go_ret
 exact ⟨Za, Zb⟩
def impl_isBeat.f (l0 : List (S104)) (a1 : Int) (a2 : Int) : Option (Bool) := (impl_isIndex.f a1 (l0.length : Int)).bind fun t556 => (if t556 = true then (if 0 ≤ a1 then (if a1 < (l0.length : Int) then ((impl_within.f a2 0 (wrap64 (((rd_T104 l0 a1).f0) - 1))).bind fun t558 => (some t558)) else (none)) else (none)) else (some false))
set_option maxHeartbeats 8000000 in
set_option maxRecDepth 100000 in
theorem impl_isBeat.calls (A0 : Option Addr) (c0 : Nat) (l0 : List (S104)) (a1 : Int) (a2 : Int) (r : Bool) (w : World) (hr0 : Kd.C k104 w A0 l0.length l0) (hc0 : l0.length ≤ c0) (h : impl_isBeat.f l0 a1 a2 = some r) :
  Calls Try.prog 82 #[.slice A0 l0.length c0, .int .i64 a1, .int .i64 a2] w fun e w' => e = .returned (.bool r) ∧ Drawn0 w w' := by
 have HR0 := am_ hr0; have HC0 := am_ hc0; clear hr0 hc0; have H : ((impl_isIndex.f a1 (l0.length : Int)).bind fun t556 => (if t556 = true then (if 0 ≤ a1 then (if a1 < (l0.length : Int) then ((impl_within.f a2 0 (wrap64 (((rd_T104 l0 a1).f0) - 1))).bind fun t558 => (some t558)) else (none)) else (none)) else (some false))) = some r := h; clear h; replace H := Option.bind_eq_some_iff.mp H; obtain ⟨t556, A40, H⟩ := H; have A4 := am_ A40; clear A40
 by_cases c5 : t556 = true
 ·subst c5
  have H1 : (if 0 ≤ a1 then (if a1 < (l0.length : Int) then ((impl_within.f a2 0 (wrap64 (((rd_T104 l0 a1).f0) - 1))).bind fun t558 => (some t558)) else (none)) else (none)) = some r := by rw [if_pos rfl] at H; exact H
  clear H; have H := H1; clear H1
  by_cases c6 : 0 ≤ a1
  ·rw [if_pos c6] at H
   have c6b0 := decide_eq_true c6; clear c6
   by_cases c7 : a1 < (l0.length : Int)
   ·rw [if_pos c7] at H
    have c7b0 := decide_eq_true c7; clear c7; replace H := Option.bind_eq_some_iff.mp H; obtain ⟨t558, A80, H⟩ := H; have A8 := am_ A80; clear A80; obtain rfl := Option.some.inj H
    go_enter Try.func82, Try.ntmps82
    go_wp2_with (first | ((with_reducible refine gate_callee (f := 62) rfl ?_); refine goesL_ (some 10) rfl rfl Try.func62 Zi rfl #[.int .i64 a1, .int .i64 (l0.length : Int)] rfl Zj ?_; (with_reducible refine (impl_isIndex.calls a1 (l0.length : Int) true _ A4.out).mono ?_); rintro e w' ⟨rfl, ⟨nd, rfl⟩⟩; refine ⟨_, rfl, ?_⟩; have p557 : 0 ≤ (a1 : Int) := of_decide_eq_true Zc; have q557 : a1 < (l0.length : Int) := of_decide_eq_true Zc; obtain ⟨ad557, e557, hx557_0, hx557_1⟩ := at_T104 HR0.out a1 p557 q557; cases e557; replace p557 := eq_true p557; replace q557 := eq_true q557) | (go_at_call 53; (with_reducible refine (impl_within.calls a2 0 (wrap64 (((rd_T104 l0 a1).f0) - 1)) t558 _ A8.out).mono ?_); rintro e w' ⟨rfl, ⟨nd, rfl⟩⟩))
    go_ret
    exact ⟨Za, Zb⟩
   ·rw [if_neg c7] at H
    exact absurd H (by simp)
  ·rw [if_neg c6] at H
   exact absurd H (by simp)
 ·replace c5 := Bool.eq_false_iff.mpr c5
  subst c5
  have H1 : (some false) = some r := by rw [if_neg (show ¬ (false = true) by decide)] at H; exact H
  clear H; have H := H1; clear H1; obtain rfl := Option.some.inj H
  go_enter Try.func82, Try.ntmps82
  go_wp2_with (first | ((with_reducible refine gate_callee (f := 62) rfl ?_); refine goesL_ (some 10) rfl rfl Try.func62 Zi rfl #[.int .i64 a1, .int .i64 (l0.length : Int)] rfl Zj ?_; (with_reducible refine (impl_isIndex.calls a1 (l0.length : Int) false _ A4.out).mono ?_); rintro e w' ⟨rfl, ⟨nd, rfl⟩⟩; refine ⟨_, rfl, ?_⟩))
  go_ret
  exact ⟨Za, Zb⟩
def impl_beatTime.l0 : Nat → List (S104) → Int → Int → Int → List (S104) → Int → Int → Option (Int)
 | 0, _, _, _, _, _, _, _ => none
 | k + 1, x0, x1, x2, x7, x12, x13, x14 => if x14 < x13 then (if 0 ≤ x14 then (if x14 < (x12.length : Int) then (impl_beatTime.l0 k x0 x1 x2 (wrap64 (x7 + (wrap64 (((rd_T104 x12 x14).f0) * ((rd_T104 x12 x14).f1))))) x12 x13 (wrap64 (x14 + 1))) else (none)) else (none)) else (if x2 > 0 then (if 0 ≤ x1 then (if x1 < (x0.length : Int) then (some (wrap64 (x7 + (wrap64 (x2 * ((rd_T104 x0 x1).f1)))))) else (none)) else (none)) else (some x7))
def impl_beatTime.f (k : Nat) (l0 : List (S104)) (a1 : Int) (a2 : Int) : Option (Int) := if 0 ≤ a1 then (if a1 ≤ (l0.length : Int) then ((some (l0.take (a1 : Int).toNat : List (S104))).bind fun y559 => (impl_beatTime.l0 k l0 a1 a2 0 y559 (y559.length : Int) 0)) else (none)) else (none)
set_option maxHeartbeats 8000000 in
set_option maxRecDepth 100000 in
theorem impl_beatTime.calls (k : Nat) (A0 : Option Addr) (c0 : Nat) (l0 : List (S104)) (a1 : Int) (a2 : Int) (r : Int) (w : World) (hr0 : Kd.C k104 w A0 l0.length l0) (hc0 : l0.length ≤ c0) (h : impl_beatTime.f k l0 a1 a2 = some r) :
  Calls Try.prog 83 #[.slice A0 l0.length c0, .int .i64 a1, .int .i64 a2] w fun e w' => e = .returned (.int .i64 r) ∧ Below w.heap.size w w' := by
 have hu104 := Try.underlying104; have HR0 := am_ hr0; have HC0 := am_ hc0; clear hr0 hc0; have HB := am_ (Below.refl w.heap.size w); have H : (if 0 ≤ a1 then (if a1 ≤ (l0.length : Int) then ((some (l0.take (a1 : Int).toNat : List (S104))).bind fun y559 => (impl_beatTime.l0 k l0 a1 a2 0 y559 (y559.length : Int) 0)) else (none)) else (none)) = some r := h; clear h
 by_cases c4 : 0 ≤ a1
 ·rw [if_pos c4] at H
  have c4b0 := eq_true c4; have c4b1 := decide_eq_true c4; clear c4
  by_cases c5 : a1 ≤ (l0.length : Int)
  ·rw [if_pos c5] at H
   have c5b0 := eq_true c5; have c5b1 := decide_eq_true c5; clear c5; obtain ⟨y559, hy559⟩ : ∃ y_ : List (S104), y_ = (l0.take (a1 : Int).toNat) := ⟨_, rfl⟩
   (first | (rw [← hy559] at H; with_reducible replace H := bindZ H) | rw [← hy559] at H)
   have Ny559 := am_ hy559; clear hy559; have H' := am_ H; clear H; have q6 : (a1 : Int) ≤ ((l0.length : Int) : Int) := of_decide_eq_true Zc; obtain ⟨i06, hi06, _, hsz6, _⟩ := info_parts info104; have hroom6 : l0.length ≤ c0 := HC0.out; have hC6 : Kd.C k104 _ A0 l0.length l0 := HR0.out; have hcut6 := cut_to (P := Try.prog) 24 104 .i64 Try.underlying24 hi06 A0 l0.length c0 a1 (of_decide_eq_true Zc) q6 hroom6; have hr6 := Kd.C_take (m := (a1 : Int).toNat) hC6 (by omega); have hy6 : y559.length = (a1 : Int).toNat := (by rw [Ny559.out, List.length_take]; omega); rw [← Ny559.out] at hr6; rw [← hy6] at hcut6; have HR562 := am_ hr6; have HC562 := am_ (show y559.length ≤ c0 from by omega); clear hr6 hC6 hroom6 hi06 hsz6; have KY6 := am_ hy6; clear hy6; replace q6 := eq_true q6
   go_enter Try.func83, Try.ntmps83
   go_wp2
   go_loopg [7, 14] k (fun kq v7 v14 w' => ∃ (x7_1 : Int) (x14_1 : Int), v7 = .int .i64 x7_1 ∧ v14 = .int .i64 x14_1 ∧ Aside0 (impl_beatTime.l0 kq l0 a1 a2 x7_1 y559 (y559.length : Int) x14_1 = some r) ∧ Aside0 (kq ≤ k) ∧ Aside0 (Below w.heap.size w w'))
   case atStart => exact ⟨(0), (0), Za, Za, H', ⟨Nat.le_refl _⟩, ⟨Zf⟩⟩
   case round =>
    clear H'
    try clear p2
    try clear c4
    try clear c4b0
    try clear c4b1
    try clear c5
    try clear c5b0
    try clear c5b1
    try clear q6
    try clear q6
    obtain ⟨x7_1, x14_1, rfl, rfl, HA, HK1, HB⟩ := hrel
    cases gk with
    | zero => exact absurd HA.out (by simp [impl_beatTime.l0])
    | succ k1 =>
     have H := HA.out; clear HA; simp only [impl_beatTime.l0] at H
     by_cases c7 : x14_1 < (y559.length : Int)
     ·rw [if_pos c7] at H
      have c7b0 := decide_eq_true c7; clear c7
      by_cases c8 : 0 ≤ x14_1
      ·rw [if_pos c8] at H
       have c8b0 := decide_eq_true c8; clear c8
       by_cases c9 : x14_1 < (y559.length : Int)
       ·rw [if_pos c9] at H
        have c9b0 := decide_eq_true c9; clear c9; have H' := am_ H; clear H; have p563 : 0 ≤ (x14_1 : Int) := of_decide_eq_true Zc; have q563 : x14_1 < (y559.length : Int) := of_decide_eq_true Zc; obtain ⟨ad563, e563, hx563_0, hx563_1⟩ := at_T104 HR562.out x14_1 p563 q563
        cases e563
        replace hx563_0 := cbH HB hx563_0; replace hx563_1 := cbH HB hx563_1; replace p563 := eq_true p563; replace q563 := eq_true q563
        go_wp2_with (first | ((with_reducible refine gate_dst (N := 9) rfl ?_); refine boxZ 9 #[.int .i64 0, .int .i64 0] 104 ?_; intro gb564 hg w10 hbox hb; replace BK564 := am_ (hbox); replace GW564 := am_ ((Zh : w.heap.size ≤ gb564)); replace GE564 := GW564; replace HB := (bsZ Zf hb); clear hb hbox hg; refine ci2 BK564 ?_; intros))
        go_roundg k1
        case measure => have := HK1.out; omega
        case rel => exact ⟨(wrap64 (x7_1 + (wrap64 (((rd_T104 y559 x14_1).f0) * ((rd_T104 y559 x14_1).f1))))), (wrap64 (x14_1 + 1)), Za, Za, H', ⟨Zd⟩, ⟨(have z0_ := GE564; Zk)⟩⟩
       ·rw [if_neg c9] at H
        exact absurd H (by simp)
      ·rw [if_neg c8] at H
       exact absurd H (by simp)
     ·rw [if_neg c7] at H
      have c7b0 := decide_eq_false c7; clear c7
      by_cases c12 : a2 > 0
      ·rw [if_pos c12] at H
       have c12b0 : decide (0 < a2) = true := decide_eq_true c12; clear c12
       by_cases c13 : 0 ≤ a1
       ·rw [if_pos c13] at H
        have c13b0 := decide_eq_true c13; clear c13
        by_cases c14 : a1 < (l0.length : Int)
        ·rw [if_pos c14] at H
         have c14b0 := decide_eq_true c14; clear c14; obtain rfl := Option.some.inj H; have p565 : 0 ≤ (a1 : Int) := of_decide_eq_true Zc; have q565 : a1 < (l0.length : Int) := of_decide_eq_true Zc; obtain ⟨ad565, e565, hx565_0, hx565_1⟩ := at_T104 HR0.out a1 p565 q565
         cases e565
         replace hx565_0 := cbH HB hx565_0; replace hx565_1 := cbH HB hx565_1; replace p565 := eq_true p565; replace q565 := eq_true q565
         go_wp2
         go_ret
         exact ⟨Zg, Zf⟩
        ·rw [if_neg c14] at H
         exact absurd H (by simp)
       ·rw [if_neg c13] at H
        exact absurd H (by simp)
      ·rw [if_neg c12] at H
       have c12b0 : decide (0 < a2) = false := decide_eq_false c12; clear c12; obtain rfl := Option.some.inj H
       go_wp2
       go_ret
       exact ⟨Zg, Zf⟩
  ·rw [if_neg c5] at H
   exact absurd H (by simp)
 ·rw [if_neg c4] at H
  exact absurd H (by simp)
def impl_firedAt.f (k : Nat) (l0_0 : List (S104)) (l0_1 : List (S62)) (l0_2 : List (S39)) (a1_0 : Int) (a1_1 : Int) (a1_2 : ByteArray) (a1_3 : Int) : Option (Int) := (impl_articleOf.f k l0_1 a1_2).bind fun t568 => (if t568 < 0 then (some (-1)) else ((impl_isBeat.f l0_0 a1_0 a1_1).bind fun t569 => (if t569 = true then ((impl_beatTime.f k l0_0 a1_0 a1_1).bind fun t570 => (if 0 ≤ t568 then (if t568 < (l0_1.length : Int) then (some (mx (-1) (wrap64 (t570 - ((rd_T62 l0_1 t568).f3))))) else (none)) else (none))) else (some (-1)))))
def impl_firedAt.T4 : Bool × List (List Nat × List Nat) := (true, [([], []), ([0], [0]), ([], []), ([2], [2]), ([], []), ([4], [4]), ([1, 3, 5], [1, 3, 5]), ([], []), ([7], [7]), ([], []), ([8, 9], [8, 9]), ([10], [10]), ([11], [11]), ([6, 12], [6, 12]), ([13], [13]), ([14, 6, 0, 1, 2, 3, 4, 5, 6, 7, 8, 9, 10, 11, 12, 13, 14], [14])])
def impl_firedAt.B4 : List Nat := [0, 1, 0, 4, 0, 16, 63, 0, 128, 0, 896, 1920, 3968, 8191, 16383, 32767]
theorem impl_firedAt.tab4 : rtab .any (opsOf Try.f70 4) = impl_firedAt.T4 := by kernel_rfl
theorem impl_firedAt.bits4 : waitsOk impl_firedAt.T4.2 impl_firedAt.B4 = true := by kernel_rfl
set_option maxHeartbeats 8000000 in
set_option maxRecDepth 100000 in
theorem impl_firedAt.calls (k : Nat) (A0_0 : Option Addr) (c0_0 : Nat) (l0_0 : List (S104)) (A0_1 : Option Addr) (c0_1 : Nat) (l0_1 : List (S62)) (A0_2 : Option Addr) (c0_2 : Nat) (l0_2 : List (S39)) (a1_0 : Int) (a1_1 : Int) (a1_2 : ByteArray) (a1_3 : Int) (r : Int) (w : World) (hr0_0 : Kd.C k104 w A0_0 l0_0.length l0_0) (hc0_0 : l0_0.length ≤ c0_0) (hr0_1 : Kd.C k62 w A0_1 l0_1.length l0_1) (hc0_1 : l0_1.length ≤ c0_1) (hr0_2 : Kd.C k39 w A0_2 l0_2.length l0_2) (hc0_2 : l0_2.length ≤ c0_2) (h : impl_firedAt.f k l0_0 l0_1 l0_2 a1_0 a1_1 a1_2 a1_3 = some r) :
  Calls Try.prog 70 #[.agg #[.slice A0_0 l0_0.length c0_0, .slice A0_1 l0_1.length c0_1, .slice A0_2 l0_2.length c0_2], .agg #[.int .i64 a1_0, .int .i64 a1_1, .string a1_2, .int .i64 a1_3]] w fun e w' => e = .returned (.int .i64 r) ∧ Below w.heap.size w w' := by
 have hu28 := Try.underlying28; have hu39 := Try.underlying39; have HR0_0 := am_ hr0_0; have HC0_0 := am_ hc0_0; clear hr0_0 hc0_0; have HR0_1 := am_ hr0_1; have HC0_1 := am_ hc0_1; clear hr0_1 hc0_1; have HR0_2 := am_ hr0_2; have HC0_2 := am_ hc0_2; clear hr0_2 hc0_2; have HB := am_ (Below.refl w.heap.size w); have H : ((impl_articleOf.f k l0_1 a1_2).bind fun t568 => (if t568 < 0 then (some (-1)) else ((impl_isBeat.f l0_0 a1_0 a1_1).bind fun t569 => (if t569 = true then ((impl_beatTime.f k l0_0 a1_0 a1_1).bind fun t570 => (if 0 ≤ t568 then (if t568 < (l0_1.length : Int) then (some (mx (-1) (wrap64 (t570 - ((rd_T62 l0_1 t568).f3))))) else (none)) else (none))) else (some (-1)))))) = some r := h; clear h; replace H := Option.bind_eq_some_iff.mp H; obtain ⟨t568, A30, H⟩ := H; have A3 := am_ A30; clear A30
 by_cases c4 : t568 < 0
 ·rw [if_pos c4] at H
  have c4b0 := decide_eq_true c4; clear c4; obtain rfl := Option.some.inj H
  go_enter Try.func70, Try.ntmps70
  go_wp2_with (first | ((with_reducible refine gate_dst (N := 2) rfl ?_); refine boxZ 2 #[.slice A0_0 l0_0.length c0_0, .slice A0_1 l0_1.length c0_1, .slice A0_2 l0_2.length c0_2] 28 ?_; intro gb566 hg w5 hbox hb; replace BK566 := am_ (hbox); replace GW566 := am_ ((Zh : w.heap.size ≤ gb566)); replace GE566 := GW566; replace HB := (bsZ Zf hb); clear hb hbox hg) | ((with_reducible refine gate_dst (N := 3) rfl ?_); refine boxZ 3 #[.int .i64 a1_0, .int .i64 a1_1, .string a1_2, .int .i64 a1_3] 39 ?_; intro gb567 hg w6 hbox hb; replace BK567 := am_ (hbox); replace GW567 := am_ (((have z0_ := GE566; Zn) : w.heap.size ≤ gb567)); replace GE567 := GW567; replace HB := (bsZ (have z0_ := GE566; Zk) hb); replace NB566_567 := am_ (((have z0_ := BK566; Zo) : gb566 ≠ gb567)); replace NB567_566 := am_ (((have z0_ := BK566; Zp) : gb567 ≠ gb566)); replace BK566 := (have z0_ := BK566; bkZ hb); clear hb hbox hg; have hnb7 := NB566_567.out; have hnc7 := NB567_566.out; refine ci3 BK566 ?_; intros; refine ci4 BK567 ?_; intros) | ((with_reducible refine gate_callee (f := 63) rfl ?_); refine goesL_ (some 10) rfl rfl Try.func63 Zi rfl #[.slice A0_1 l0_1.length c0_1, .string a1_2] rfl Zj ?_; (with_reducible refine (impl_articleOf.calls k _ _ l0_1 a1_2 t568 _ ?side1 ?side2 A3.out).mono ?_); (case side1 => exact (have z0_ := HR0_1; Zq)); (case side2 => exact HC0_1.out); rintro e w10 ⟨rfl, hb⟩; refine ⟨_, rfl, ?_⟩; replace BK566 := (have z0_ := BK566; bkZ hb); replace BK567 := (have z0_ := BK567; bkZ hb); replace HB := (bsZ (have z0_ := GE566; have z1_ := GE567; Zr) hb); (try clear hb); (try clear hb2); (try clear hk); (try clear hi)))
  go_ret
  exact ⟨Zg, (have z0_ := GE566; have z1_ := GE567; Zr)⟩
 ·rw [if_neg c4] at H
  have c4b0 := decide_eq_false c4; clear c4; replace H := Option.bind_eq_some_iff.mp H; obtain ⟨t569, A110, H⟩ := H; have A11 := am_ A110; clear A110
  by_cases c12 : t569 = true
  ·subst c12
   have H1 : ((impl_beatTime.f k l0_0 a1_0 a1_1).bind fun t570 => (if 0 ≤ t568 then (if t568 < (l0_1.length : Int) then (some (mx (-1) (wrap64 (t570 - ((rd_T62 l0_1 t568).f3))))) else (none)) else (none))) = some r := by rw [if_pos rfl] at H; exact H
   clear H; have H := H1; clear H1; replace H := Option.bind_eq_some_iff.mp H; obtain ⟨t570, A130, H⟩ := H; have A13 := am_ A130; clear A130
   by_cases c14 : 0 ≤ t568
   ·rw [if_pos c14] at H
    have c14b0 := decide_eq_true c14; clear c14
    by_cases c15 : t568 < (l0_1.length : Int)
    ·rw [if_pos c15] at H
     have c15b0 := decide_eq_true c15; clear c15; obtain ⟨ji16, hji16⟩ : ∃ j_ : Int, (mx (-1) (wrap64 (t570 - ((rd_T62 l0_1 t568).f3)))) = j_ := ⟨_, rfl⟩
     replace H : (some ji16) = some r := by first | (rw [hji16] at H; exact H) | (simp only [hji16] at H ⊢; exact H)
     (try rw [hji16] at A3)
     (try rw [hji16] at A11)
     (try rw [hji16] at A13)
     have hji16_ : (if (-1) < (wrap64 (t570 - ((rd_T62 l0_1 t568).f3))) then (wrap64 (t570 - ((rd_T62 l0_1 t568).f3))) else (-1)) = ji16 := hji16; obtain rfl := Option.some.inj H
     go_enter Try.func70, Try.ntmps70
     try go_wp2_with (first | ((with_reducible refine gate_dst (N := 2) rfl ?_); refine boxZ 2 #[.slice A0_0 l0_0.length c0_0, .slice A0_1 l0_1.length c0_1, .slice A0_2 l0_2.length c0_2] 28 ?_; intro gb566 hg w17 hbox hb; replace BK566 := am_ (hbox); replace GW566 := am_ ((Zh : w.heap.size ≤ gb566)); replace GE566 := GW566; replace HB := (bsZ Zf hb); clear hb hbox hg) | ((with_reducible refine gate_dst (N := 3) rfl ?_); refine boxZ 3 #[.int .i64 a1_0, .int .i64 a1_1, .string a1_2, .int .i64 a1_3] 39 ?_; intro gb567 hg w18 hbox hb; replace BK567 := am_ (hbox); replace GW567 := am_ (((have z0_ := GE566; Zn) : w.heap.size ≤ gb567)); replace GE567 := GW567; replace HB := (bsZ (have z0_ := GE566; Zk) hb); replace NB566_567 := am_ (((have z0_ := BK566; Zo) : gb566 ≠ gb567)); replace NB567_566 := am_ (((have z0_ := BK566; Zp) : gb567 ≠ gb566)); replace BK566 := (have z0_ := BK566; bkZ hb); clear hb hbox hg; have hnb19 := NB566_567.out; have hnc19 := NB567_566.out; refine ci3 BK566 ?_; intros; refine ci4 BK567 ?_; intros) | ((with_reducible refine gate_callee (f := 63) rfl ?_); refine goesL_ (some 10) rfl rfl Try.func63 Zi rfl #[.slice A0_1 l0_1.length c0_1, .string a1_2] rfl Zj ?_; (with_reducible refine (impl_articleOf.calls k _ _ l0_1 a1_2 t568 _ ?side1 ?side2 A3.out).mono ?_); (case side1 => exact (have z0_ := HR0_1; Zq)); (case side2 => exact HC0_1.out); rintro e w22 ⟨rfl, hb⟩; refine ⟨_, rfl, ?_⟩; replace BK566 := (have z0_ := BK566; bkZ hb); replace BK567 := (have z0_ := BK567; bkZ hb); replace HB := (bsZ (have z0_ := GE566; have z1_ := GE567; Zr) hb); (try clear hb); (try clear hb2); (try clear hk); (try clear hi); refine ci3 BK566 ?_; intros; refine ci4 BK567 ?_; intros) | (go_at_call 82; (with_reducible refine (impl_isBeat.calls _ _ l0_0 a1_0 a1_1 true _ ?side1 ?side2 A11.out).mono ?_); (case side1 => exact (have z0_ := HR0_0; Zq)); (case side2 => exact HC0_0.out); rintro e w' ⟨rfl, ⟨nd, rfl⟩⟩))
     (try (rw [drewN_self w22]; generalize hq_ : World.drewN w22 _ = w22; replace BK566 : Aside0 (w22.heap[gb566]? = some (.cells #[.slice A0_0 l0_0.length c0_0, .slice A0_1 l0_1.length c0_1, .slice A0_2 l0_2.length c0_2] 28 (0, 0))) := ⟨by rw [← hq_]; exact (have z0_ := BK566; Zs)⟩; replace BK567 : Aside0 (w22.heap[gb567]? = some (.cells #[.int .i64 a1_0, .int .i64 a1_1, .string a1_2, .int .i64 a1_3] 39 (0, 0))) := ⟨by rw [← hq_]; exact (have z0_ := BK567; Zs)⟩; replace HB : Aside0 (Below w.heap.size w w22) := ⟨by rw [← hq_]; exact (have z0_ := GE566; have z1_ := GE567; Zr)⟩; clear hq_))
     replace BK566 := am_ (blk_drew BK566.out); replace BK567 := am_ (blk_drew BK567.out); replace HB := am_ (below_drew1 HB.out); have p571 : 0 ≤ (t568 : Int) := of_decide_eq_true Zc; have q571 : t568 < (l0_1.length : Int) := of_decide_eq_true Zc; obtain ⟨ad571, e571, hx571_0, hx571_1, hx571_2, hx571_3, hx571_4, hx571_5, hx571_6, hx571_7, hx571_8⟩ := at_T62 HR0_1.out t568 p571 q571; have hw571_8 := hx571_8; have hw571_7 := hx571_7; have hw571_6 := hx571_6; have hw571_5 := hx571_5; have hw571_4 := hx571_4; have hw571_3 := hx571_3; have hw571_2 := hx571_2; have hw571_1 := hx571_1; have hw571_0 := hx571_0
     cases e571
     replace hx571_0 := cbH HB hx571_0; replace hx571_1 := cbH HB hx571_1; replace hx571_2 := cbH HB hx571_2; replace hx571_3 := cbH HB hx571_3; replace hx571_4 := cbH HB hx571_4; replace hx571_5 := cbH HB hx571_5; replace hx571_6 := cbH HB hx571_6; replace hx571_7 := cbH HB hx571_7; replace hx571_8 := cbH HB hx571_8; replace p571 := eq_true p571; replace q571 := eq_true q571; refine start_ (n := 16) (S := fun w' => w'.cell? ⟨gb566, 0, none⟩ = some (.slice A0_0 l0_0.length c0_0) ∧ w'.cell? ⟨gb566, 1, none⟩ = some (.slice (some ad571) l0_1.length c0_1) ∧ w'.cell? ⟨gb566, 2, none⟩ = some (.slice A0_2 l0_2.length c0_2) ∧ w'.cell? ⟨gb567, 0, none⟩ = some (.int .i64 a1_0) ∧ w'.cell? ⟨gb567, 1, none⟩ = some (.int .i64 a1_1) ∧ w'.cell? ⟨gb567, 2, none⟩ = some (.string a1_2) ∧ w'.cell? ⟨gb567, 3, none⟩ = some (.int .i64 a1_3) ∧ w'.cell? (ad571.add ((t568).toNat * 9)) = some (.string ((rd_T62 l0_1 t568).f0)) ∧ w'.cell? ⟨(ad571.add ((t568).toNat * 9)).block, (ad571.add ((t568).toNat * 9)).off + 1, none⟩ = some (.int .i64 ((rd_T62 l0_1 t568).f1)) ∧ w'.cell? ⟨(ad571.add ((t568).toNat * 9)).block, (ad571.add ((t568).toNat * 9)).off + 2, none⟩ = some (.int .i64 ((rd_T62 l0_1 t568).f2)) ∧ w'.cell? ⟨(ad571.add ((t568).toNat * 9)).block, (ad571.add ((t568).toNat * 9)).off + 3, none⟩ = some (.int .i64 ((rd_T62 l0_1 t568).f3)) ∧ w'.cell? ⟨(ad571.add ((t568).toNat * 9)).block, (ad571.add ((t568).toNat * 9)).off + 4, none⟩ = some (.int .i64 ((rd_T62 l0_1 t568).f4)) ∧ w'.cell? ⟨(ad571.add ((t568).toNat * 9)).block, (ad571.add ((t568).toNat * 9)).off + 5, none⟩ = some (.int .i64 ((rd_T62 l0_1 t568).f5)) ∧ w'.cell? ⟨(ad571.add ((t568).toNat * 9)).block, (ad571.add ((t568).toNat * 9)).off + 6, none⟩ = some (.int .i64 ((rd_T62 l0_1 t568).f6)) ∧ w'.cell? ⟨(ad571.add ((t568).toNat * 9)).block, (ad571.add ((t568).toNat * 9)).off + 7, none⟩ = some (.int .i64 ((rd_T62 l0_1 t568).f7)) ∧ w'.cell? ⟨(ad571.add ((t568).toNat * 9)).block, (ad571.add ((t568).toNat * 9)).off + 8, none⟩ = some (.int .i64 ((rd_T62 l0_1 t568).f8))) (ds := []) (bT 16 0) Zi rfl rfl ⟨(blk_cell BK566.out 0).trans rfl, (blk_cell BK566.out 1).trans rfl, (blk_cell BK566.out 2).trans rfl, (blk_cell BK567.out 0).trans rfl, (blk_cell BK567.out 1).trans rfl, (blk_cell BK567.out 2).trans rfl, (blk_cell BK567.out 3).trans rfl, (cbH HB hw571_0 :), (cbH HB hw571_1 :), (cbH HB hw571_2 :), (cbH HB hw571_3 :), (cbH HB hw571_4 :), (cbH HB hw571_5 :), (cbH HB hw571_6 :), (cbH HB hw571_7 :), (cbH HB hw571_8 :)⟩ (fun hHeld => ?_); refine with_tabW impl_firedAt.tab4 impl_firedAt.bits4 (fun HT_ HW_ => ?_); generalize w22.drew = w25 at BK566 BK567 HB hx571_0 hx571_1 hx571_2 hx571_3 hx571_4 hx571_5 hx571_6 hx571_7 hx571_8 hHeld ⊢; refine pureZ HT_ 0 (some 23) (bT 16 1) ?_; refine pureZ HT_ 2 (some 25) #[true, false, true, false, false, false, false, false, false, false, false, false, false, false, false, false] ?_; refine pureZ HT_ 4 (some 27) #[true, false, true, false, true, false, false, false, false, false, false, false, false, false, false, false] ?_
     refine pureZ HT_ 7 (some 30) #[true, false, true, false, true, false, false, true, false, false, false, false, false, false, false, false] ?_; refine pureZ HT_ 9 (some 32) #[true, false, true, false, true, false, false, true, false, true, false, false, false, false, false, false] ?_; refine takeZ16 HT_ HW_ 1 (some 24) #[true, true, true, false, true, false, false, true, false, true, false, false, false, false, false, false] hHeld ?_; refine takeZ16 HT_ HW_ 3 (some 26) #[true, true, true, true, true, false, false, true, false, true, false, false, false, false, false, false] hHeld ?_; refine takeZ16 HT_ HW_ 5 (some 28) #[true, true, true, true, true, true, false, true, false, true, false, false, false, false, false, false] hHeld ?_; refine takeZ16 HT_ HW_ 8 (some 31) #[true, true, true, true, true, true, false, true, true, true, false, false, false, false, false, false] hHeld ?_; refine pureZ HT_ 10 (some 33) #[true, true, true, true, true, true, false, true, true, true, true, false, false, false, false, false] ?_; refine pureZ HT_ 11 (some 34) #[true, true, true, true, true, true, false, true, true, true, true, true, false, false, false, false] ?_; refine takeZ16 HT_ HW_ 12 (some 35) #[true, true, true, true, true, true, false, true, true, true, true, true, true, false, false, false] hHeld ?_; refine one_ (i := 6) (N := some 29) (bT 16 13) rfl rfl (one_of HT_.out Zi) (by decide) (fun K hK => ?_); refine goes_ Try.func83 Zi rfl #[.slice A0_0 l0_0.length c0_0, .int .i64 a1_0, .int .i64 a1_1] (by rfl) rfl rfl Zj ?_
     with_reducible refine (impl_beatTime.calls k _ _ l0_0 a1_0 a1_1 t570 _ ?side1 ?side2 A13.out).mono ?_
     (case side1 => exact (have z0_ := HR0_0; Zq))
     (case side2 => exact HC0_0.out)
     rintro e w26 ⟨rfl, hb⟩; refine ⟨_, rfl, ?_⟩; replace BK566 := (have z0_ := BK566; bkZ hb); replace BK567 := (have z0_ := BK567; bkZ hb); replace HB := (bsZ (have z0_ := GE566; have z1_ := GE567; Zr) hb)
     (try clear hb)
     (try clear hb2)
     (try clear hk)
     (try clear hi)
     refine hK.out _ _ (have z0_ := BK566; have z1_ := BK567; have z2_ := hw571_0; have z3_ := hw571_1; have z4_ := hw571_2; have z5_ := hw571_3; have z6_ := hw571_4; have z7_ := hw571_5; have z8_ := hw571_6; have z9_ := hw571_7; have z10_ := hw571_8; Zt) (fun hHeld => ?_); clear hK K; refine normZ 29 ?_; refine pureZ HT_ 13 (some 36) (bT 16 14) ?_; refine pureZ HT_ 14 (some 37) (bT 16 15) ?_; refine pureZ HT_ 15 (some 4) (bT 16 16) ?_; refine done_ (done_of HT_.out Zi) ?_
     try go_wp2
     go_ret
     exact ⟨by first | rfl | (simp [errW_none, errW_some] <;> rfl) | (simp only [← hji16]; first | rfl | (simp [errW_none, errW_some] <;> rfl)) | (simp [*, errW_none, errW_some] <;> rfl), (have z0_ := GE566; have z1_ := GE567; Zr)⟩
    ·rw [if_neg c15] at H
     exact absurd H (by simp)
   ·rw [if_neg c14] at H
    exact absurd H (by simp)
  ·replace c12 := Bool.eq_false_iff.mpr c12
   subst c12
   have H1 : (some (-1)) = some r := by rw [if_neg (show ¬ (false = true) by decide)] at H; exact H
   clear H; have H := H1; clear H1; obtain rfl := Option.some.inj H
   go_enter Try.func70, Try.ntmps70
   go_wp2_with (first | ((with_reducible refine gate_dst (N := 2) rfl ?_); refine boxZ 2 #[.slice A0_0 l0_0.length c0_0, .slice A0_1 l0_1.length c0_1, .slice A0_2 l0_2.length c0_2] 28 ?_; intro gb566 hg w27 hbox hb; replace BK566 := am_ (hbox); replace GW566 := am_ ((Zh : w.heap.size ≤ gb566)); replace GE566 := GW566; replace HB := (bsZ Zf hb); clear hb hbox hg) | ((with_reducible refine gate_dst (N := 3) rfl ?_); refine boxZ 3 #[.int .i64 a1_0, .int .i64 a1_1, .string a1_2, .int .i64 a1_3] 39 ?_; intro gb567 hg w28 hbox hb; replace BK567 := am_ (hbox); replace GW567 := am_ (((have z0_ := GE566; Zn) : w.heap.size ≤ gb567)); replace GE567 := GW567; replace HB := (bsZ (have z0_ := GE566; Zk) hb); replace NB566_567 := am_ (((have z0_ := BK566; Zo) : gb566 ≠ gb567)); replace NB567_566 := am_ (((have z0_ := BK566; Zp) : gb567 ≠ gb566)); replace BK566 := (have z0_ := BK566; bkZ hb); clear hb hbox hg; have hnb29 := NB566_567.out; have hnc29 := NB567_566.out; refine ci3 BK566 ?_; intros; refine ci4 BK567 ?_; intros) | ((with_reducible refine gate_callee (f := 63) rfl ?_); refine goesL_ (some 10) rfl rfl Try.func63 Zi rfl #[.slice A0_1 l0_1.length c0_1, .string a1_2] rfl Zj ?_; (with_reducible refine (impl_articleOf.calls k _ _ l0_1 a1_2 t568 _ ?side1 ?side2 A3.out).mono ?_); (case side1 => exact (have z0_ := HR0_1; Zq)); (case side2 => exact HC0_1.out); rintro e w32 ⟨rfl, hb⟩; refine ⟨_, rfl, ?_⟩; replace BK566 := (have z0_ := BK566; bkZ hb); replace BK567 := (have z0_ := BK567; bkZ hb); replace HB := (bsZ (have z0_ := GE566; have z1_ := GE567; Zr) hb); (try clear hb); (try clear hb2); (try clear hk); (try clear hi); refine ci3 BK566 ?_; intros; refine ci4 BK567 ?_; intros) | (go_at_call 82; (with_reducible refine (impl_isBeat.calls _ _ l0_0 a1_0 a1_1 false _ ?side1 ?side2 A11.out).mono ?_); (case side1 => exact (have z0_ := HR0_0; Zq)); (case side2 => exact HC0_0.out); rintro e w' ⟨rfl, ⟨nd, rfl⟩⟩))
   go_ret
   exact ⟨Zg, (have z0_ := GE566; have z1_ := GE567; Zr)⟩
mutual
def impl_IsShow.j0 : Nat → Bool → List (S104) → List (S62) → List (S39) → Option (Bool)
 | 0, _, _, _, _ => none
 | k + 1, x20, x573000, x573001, x573002 => if x20 = true then (some false) else (impl_IsShow.l0 k x573002 (x573002.length : Int) 0 x573000 x573001 x573002)
def impl_IsShow.l0 : Nat → List (S39) → Int → Int → List (S104) → List (S62) → List (S39) → Option (Bool)
 | 0, _, _, _, _, _, _ => none
 | k + 1, x22, x23, x24, x573000, x573001, x573002 => if x24 < x23 then (if 0 ≤ x24 then (if x24 < (x22.length : Int) then ((impl_within.f ((rd_T39 x22 x24).f3) 0 11).bind fun t577 => (if t577 = true then ((impl_firedAt.f k x573000 x573001 x573002 ((rd_T39 x22 x24).f0) ((rd_T39 x22 x24).f1) ((rd_T39 x22 x24).f2) ((rd_T39 x22 x24).f3)).bind fun t578 => (if t578 < 0 then (some false) else (impl_IsShow.l0 k x22 x23 (wrap64 (x24 + 1)) x573000 x573001 x573002))) else (some false))) else (none)) else (none)) else (some true)
end
def impl_IsShow.f (k : Nat) (l0_0 : List (S104)) (l0_1 : List (S62)) (l0_2 : List (S39)) : Option (Bool) := (impl_IsScore.f k l0_0).bind fun t573 => (if t573 = true then ((impl_AreArticles.f k l0_1).bind fun t574 => (if t574 = true then (impl_IsShow.j0 k (decide ((l0_2.length : Int) > 20)) l0_0 l0_1 l0_2) else (impl_IsShow.j0 k true l0_0 l0_1 l0_2))) else (impl_IsShow.j0 k true l0_0 l0_1 l0_2))
set_option maxHeartbeats 8000000 in
set_option maxRecDepth 100000 in
theorem impl_IsShow.calls (k : Nat) (A0_0 : Option Addr) (c0_0 : Nat) (l0_0 : List (S104)) (A0_1 : Option Addr) (c0_1 : Nat) (l0_1 : List (S62)) (A0_2 : Option Addr) (c0_2 : Nat) (l0_2 : List (S39)) (r : Bool) (w : World) (hr0_0 : Kd.C k104 w A0_0 l0_0.length l0_0) (hc0_0 : l0_0.length ≤ c0_0) (hr0_1 : Kd.C k62 w A0_1 l0_1.length l0_1) (hc0_1 : l0_1.length ≤ c0_1) (hr0_2 : Kd.C k39 w A0_2 l0_2.length l0_2) (hc0_2 : l0_2.length ≤ c0_2) (h : impl_IsShow.f k l0_0 l0_1 l0_2 = some r) :
  Calls Try.prog 25 #[.agg #[.slice A0_0 l0_0.length c0_0, .slice A0_1 l0_1.length c0_1, .slice A0_2 l0_2.length c0_2]] w fun e w' => e = .returned (.bool r) ∧ Below w.heap.size w w' := by
 have hu28 := Try.underlying28; have hu39 := Try.underlying39; have HR0_0 := am_ hr0_0; have HC0_0 := am_ hc0_0; clear hr0_0 hc0_0; have HR0_1 := am_ hr0_1; have HC0_1 := am_ hc0_1; clear hr0_1 hc0_1; have HR0_2 := am_ hr0_2; have HC0_2 := am_ hc0_2; clear hr0_2 hc0_2; have HB := am_ (Below.refl w.heap.size w); have H : ((impl_IsScore.f k l0_0).bind fun t573 => (if t573 = true then ((impl_AreArticles.f k l0_1).bind fun t574 => (if t574 = true then (impl_IsShow.j0 k (decide ((l0_2.length : Int) > 20)) l0_0 l0_1 l0_2) else (impl_IsShow.j0 k true l0_0 l0_1 l0_2))) else (impl_IsShow.j0 k true l0_0 l0_1 l0_2))) = some r := h; clear h; have HC2 := am_ H; clear H
 go_enter Try.func25, Try.ntmps25
 go_upto_region 1 with (first | ((with_reducible refine gate_dst (N := 1) rfl ?_); (try (refine gate_guard (by rfl) ?_; dsimp only)); refine boxZ 1 #[.slice A0_0 l0_0.length c0_0, .slice A0_1 l0_1.length c0_1, .slice A0_2 l0_2.length c0_2] 28 ?_; intro gb572 hg w3 hbox hb; replace BK572 := am_ (hbox); replace GW572 := am_ ((Zh : w.heap.size ≤ gb572)); replace GE572 := GW572; replace HB := (bsZ Zf hb); clear hb hbox hg))
 (try simp only [Act.put, List.setIfInBounds_toArray, List.set_cons_zero, List.set_cons_succ])
 go_cut [20] (fun v20 wc => ∃ (kq : Nat) (x20_1 : Bool), v20 = .bool x20_1 ∧ Aside0 (impl_IsShow.j0 kq x20_1 l0_0 l0_1 l0_2 = some r) ∧ Aside0 (kq ≤ k) ∧ Aside0 (wc.heap[gb572]? = some (.cells #[(.slice A0_0 l0_0.length c0_0), (.slice A0_1 l0_1.length c0_1), (.slice A0_2 l0_2.length c0_2)] 28 (0, 0))) ∧ Aside0 (Below w.heap.size w wc))
 case first =>
  have H := HC2.out; clear HC2; replace H := Option.bind_eq_some_iff.mp H; obtain ⟨t573, A40, H⟩ := H; have A4 := am_ A40; clear A40
  by_cases c5 : t573 = true
  ·subst c5
   have H1 : ((impl_AreArticles.f k l0_1).bind fun t574 => (if t574 = true then (impl_IsShow.j0 k (decide ((l0_2.length : Int) > 20)) l0_0 l0_1 l0_2) else (impl_IsShow.j0 k true l0_0 l0_1 l0_2))) = some r := by rw [if_pos rfl] at H; exact H
   clear H; have H := H1; clear H1; replace H := Option.bind_eq_some_iff.mp H; obtain ⟨t574, A60, H⟩ := H; have A6 := am_ A60; clear A60
   by_cases c7 : t574 = true
   ·subst c7
    have H1 : (impl_IsShow.j0 k (decide ((l0_2.length : Int) > 20)) l0_0 l0_1 l0_2) = some r := by rw [if_pos rfl] at H; exact H
    clear H; have H := H1; clear H1; have H' := am_ H; clear H; obtain ⟨hcz8_0, hcz8_1, hcz8_2, hfz8_0, hfz8_1, hfz8_2⟩ := cz3 BK572
    go_wp2_with (first | ((with_reducible refine gate_callee (f := 68) rfl ?_); refine goesL_ (some 7) rfl rfl Try.func68 Zi rfl #[.slice A0_0 l0_0.length c0_0] rfl Zj ?_; (with_reducible refine (impl_IsScore.calls k _ _ l0_0 true _ ?side1 ?side2 A4.out).mono ?_); (case side1 => exact (have z0_ := HR0_0; Zq)); (case side2 => exact HC0_0.out); rintro e w9 ⟨rfl, hb⟩; refine ⟨_, rfl, ?_⟩; replace BK572 := (have z0_ := BK572; bkZ hb); replace HB := (bsZ (have z0_ := GE572; Zk) hb); (try clear hb); (try clear hb2); (try clear hk); (try clear hi); obtain ⟨hcz10_0, hcz10_1, hcz10_2, hfz10_0, hfz10_1, hfz10_2⟩ := cz3 BK572) | (go_at_call 69; (with_reducible refine (impl_AreArticles.calls k _ _ l0_1 true _ ?side1 ?side2 A6.out).mono ?_); (case side1 => exact (have z0_ := HR0_1; Zq)); (case side2 => exact HC0_1.out); rintro e w11 ⟨rfl, hb⟩; replace BK572 := (have z0_ := BK572; bkZ hb); replace HB := (bsZ (have z0_ := GE572; Zk) hb); (try clear hb); (try clear hb2); (try clear hk); (try clear hi); obtain ⟨hcz12_0, hcz12_1, hcz12_2, hfz12_0, hfz12_1, hfz12_2⟩ := cz3 BK572))
    go_meet
    case rel => exact ⟨_, (decide ((l0_2.length : Int) > 20)), Za, H', ⟨Ze⟩, ⟨(have z0_ := BK572; Zs)⟩, ⟨(have z0_ := GE572; Zk)⟩⟩
   ·replace c7 := Bool.eq_false_iff.mpr c7
    subst c7
    have H1 : (impl_IsShow.j0 k true l0_0 l0_1 l0_2) = some r := by rw [if_neg (show ¬ (false = true) by decide)] at H; exact H
    clear H; have H := H1; clear H1; have H' := am_ H; clear H; obtain ⟨hcz13_0, hcz13_1, hcz13_2, hfz13_0, hfz13_1, hfz13_2⟩ := cz3 BK572
    go_wp2_with (first | ((with_reducible refine gate_callee (f := 68) rfl ?_); refine goesL_ (some 7) rfl rfl Try.func68 Zi rfl #[.slice A0_0 l0_0.length c0_0] rfl Zj ?_; (with_reducible refine (impl_IsScore.calls k _ _ l0_0 true _ ?side1 ?side2 A4.out).mono ?_); (case side1 => exact (have z0_ := HR0_0; Zq)); (case side2 => exact HC0_0.out); rintro e w14 ⟨rfl, hb⟩; refine ⟨_, rfl, ?_⟩; replace BK572 := (have z0_ := BK572; bkZ hb); replace HB := (bsZ (have z0_ := GE572; Zk) hb); (try clear hb); (try clear hb2); (try clear hk); (try clear hi); obtain ⟨hcz15_0, hcz15_1, hcz15_2, hfz15_0, hfz15_1, hfz15_2⟩ := cz3 BK572) | (go_at_call 69; (with_reducible refine (impl_AreArticles.calls k _ _ l0_1 false _ ?side1 ?side2 A6.out).mono ?_); (case side1 => exact (have z0_ := HR0_1; Zq)); (case side2 => exact HC0_1.out); rintro e w16 ⟨rfl, hb⟩; replace BK572 := (have z0_ := BK572; bkZ hb); replace HB := (bsZ (have z0_ := GE572; Zk) hb); (try clear hb); (try clear hb2); (try clear hk); (try clear hi)))
    go_meet
    case rel => exact ⟨_, (true), Za, H', ⟨Ze⟩, ⟨(have z0_ := BK572; Zs)⟩, ⟨(have z0_ := GE572; Zk)⟩⟩
  ·replace c5 := Bool.eq_false_iff.mpr c5
   subst c5
   have H1 : (impl_IsShow.j0 k true l0_0 l0_1 l0_2) = some r := by rw [if_neg (show ¬ (false = true) by decide)] at H; exact H
   clear H; have H := H1; clear H1; have H' := am_ H; clear H; obtain ⟨hcz17_0, hcz17_1, hcz17_2, hfz17_0, hfz17_1, hfz17_2⟩ := cz3 BK572
   go_wp2_with (first | ((with_reducible refine gate_callee (f := 68) rfl ?_); refine goesL_ (some 7) rfl rfl Try.func68 Zi rfl #[.slice A0_0 l0_0.length c0_0] rfl Zj ?_; (with_reducible refine (impl_IsScore.calls k _ _ l0_0 false _ ?side1 ?side2 A4.out).mono ?_); (case side1 => exact (have z0_ := HR0_0; Zq)); (case side2 => exact HC0_0.out); rintro e w18 ⟨rfl, hb⟩; refine ⟨_, rfl, ?_⟩; replace BK572 := (have z0_ := BK572; bkZ hb); replace HB := (bsZ (have z0_ := GE572; Zk) hb); (try clear hb); (try clear hb2); (try clear hk); (try clear hi)))
   go_meet
   case rel => exact ⟨_, (true), Za, H', ⟨Ze⟩, ⟨(have z0_ := BK572; Zs)⟩, ⟨(have z0_ := GE572; Zk)⟩⟩
 case rest =>
  clear HC2
  try clear c2
  try clear p2
  try clear c5
  try clear c6
  try clear c7
  try clear hcz10_0
  try clear hcz10_1
  try clear hcz10_2
  try clear hcz12_0
  try clear hcz12_1
  try clear hcz12_2
  try clear hcz13_0
  try clear hcz13_1
  try clear hcz13_2
  try clear hcz15_0
  try clear hcz15_1
  try clear hcz15_2
  try clear hcz17_0
  try clear hcz17_1
  try clear hcz17_2
  try clear hcz8_0
  try clear hcz8_1
  try clear hcz8_2
  try clear hfz10_0
  try clear hfz10_1
  try clear hfz10_2
  try clear hfz12_0
  try clear hfz12_1
  try clear hfz12_2
  try clear hfz13_0
  try clear hfz13_1
  try clear hfz13_2
  try clear hfz15_0
  try clear hfz15_1
  try clear hfz15_2
  try clear hfz17_0
  try clear hfz17_1
  try clear hfz17_2
  try clear hfz8_0
  try clear hfz8_1
  try clear hfz8_2
  obtain ⟨kq, x20_1, rfl, HA, HJ1, BK572, HB⟩ := hcut
  cases kq with
  | zero => exact absurd HA.out (by simp [impl_IsShow.j0])
  | succ kj1 =>
   have H := HA.out; clear HA; simp only [impl_IsShow.j0] at H
   by_cases c19 : x20_1 = true
   ·subst c19
    have H1 : (some false) = some r := by rw [if_pos rfl] at H; exact H
    clear H; have H := H1; clear H1; obtain rfl := Option.some.inj H
    go_wp2
    go_ret
    exact ⟨Zg, (have z0_ := GE572; Zk)⟩
   ·replace c19 := Bool.eq_false_iff.mpr c19
    subst c19
    have H1 : (impl_IsShow.l0 kj1 l0_2 (l0_2.length : Int) 0 l0_0 l0_1 l0_2) = some r := by rw [if_neg (show ¬ (false = true) by decide)] at H; exact H
    clear H; have H := H1; clear H1; have H' := am_ H; clear H; obtain ⟨hcz20_0, hcz20_1, hcz20_2, hfz20_0, hfz20_1, hfz20_2⟩ := cz3 BK572
    go_wp2
    go_loopg [24] kj1 (fun kq v24 w' => ∃ (x24_2 : Int), v24 = .int .i64 x24_2 ∧ Aside0 (impl_IsShow.l0 kq l0_2 (l0_2.length : Int) x24_2 l0_0 l0_1 l0_2 = some r) ∧ Aside0 (kq ≤ kj1) ∧ Aside0 (w'.heap[gb572]? = some (.cells #[(.slice A0_0 l0_0.length c0_0), (.slice A0_1 l0_1.length c0_1), (.slice A0_2 l0_2.length c0_2)] 28 (0, 0))) ∧ Aside0 (Below w.heap.size w w'))
    case atStart => exact ⟨(0), Za, H', ⟨Nat.le_refl _⟩, ⟨(have z0_ := BK572; Zs)⟩, ⟨(have z0_ := GE572; Zk)⟩⟩
    case round =>
     clear H'
     try clear c1
     try clear c2
     try clear p2
     try clear c5
     try clear c6
     try clear c7
     try clear c19
     try clear hcz10_0
     try clear hcz10_1
     try clear hcz10_2
     try clear hcz12_0
     try clear hcz12_1
     try clear hcz12_2
     try clear hcz13_0
     try clear hcz13_1
     try clear hcz13_2
     try clear hcz15_0
     try clear hcz15_1
     try clear hcz15_2
     try clear hcz17_0
     try clear hcz17_1
     try clear hcz17_2
     try clear hcz20_0
     try clear hcz20_1
     try clear hcz20_2
     try clear hcz8_0
     try clear hcz8_1
     try clear hcz8_2
     try clear hfz10_0
     try clear hfz10_1
     try clear hfz10_2
     try clear hfz12_0
     try clear hfz12_1
     try clear hfz12_2
     try clear hfz13_0
     try clear hfz13_1
     try clear hfz13_2
     try clear hfz15_0
     try clear hfz15_1
     try clear hfz15_2
     try clear hfz17_0
     try clear hfz17_1
     try clear hfz17_2
     try clear hfz20_0
     try clear hfz20_1
     try clear hfz20_2
     try clear hfz8_0
     try clear hfz8_1
     try clear hfz8_2
     try clear p2
     obtain ⟨x24_2, rfl, HA, HK2, BK572, HB⟩ := hrel
     cases gk with
     | zero => exact absurd HA.out (by simp [impl_IsShow.l0])
     | succ k2 =>
      have H := HA.out; clear HA; simp only [impl_IsShow.l0] at H
      by_cases c21 : x24_2 < (l0_2.length : Int)
      ·rw [if_pos c21] at H
       have c21b0 := decide_eq_true c21; clear c21
       by_cases c22 : 0 ≤ x24_2
       ·rw [if_pos c22] at H
        have c22b0 := decide_eq_true c22; clear c22
        by_cases c23 : x24_2 < (l0_2.length : Int)
        ·rw [if_pos c23] at H
         have c23b0 := decide_eq_true c23; clear c23; replace H := Option.bind_eq_some_iff.mp H; obtain ⟨t577, A240, H⟩ := H; have A24 := am_ A240; clear A240
         by_cases c25 : t577 = true
         ·subst c25
          have H1 : ((impl_firedAt.f k2 l0_0 l0_1 l0_2 ((rd_T39 l0_2 x24_2).f0) ((rd_T39 l0_2 x24_2).f1) ((rd_T39 l0_2 x24_2).f2) ((rd_T39 l0_2 x24_2).f3)).bind fun t578 => (if t578 < 0 then (some false) else (impl_IsShow.l0 k2 l0_2 (l0_2.length : Int) (wrap64 (x24_2 + 1)) l0_0 l0_1 l0_2))) = some r := by rw [if_pos rfl] at H; exact H
          clear H; have H := H1; clear H1; replace H := Option.bind_eq_some_iff.mp H; obtain ⟨t578, A260, H⟩ := H; have A26 := am_ A260; clear A260
          by_cases c27 : t578 < 0
          ·rw [if_pos c27] at H
           have c27b0 := decide_eq_true c27; clear c27; obtain rfl := Option.some.inj H; have p575 : 0 ≤ (x24_2 : Int) := of_decide_eq_true Zc; have q575 : x24_2 < (l0_2.length : Int) := of_decide_eq_true Zc; obtain ⟨ad575, e575, hx575_0, hx575_1, hx575_2, hx575_3⟩ := at_T39 HR0_2.out x24_2 p575 q575
           cases e575
           replace hx575_0 := cbH HB hx575_0; replace hx575_1 := cbH HB hx575_1; replace hx575_2 := cbH HB hx575_2; replace hx575_3 := cbH HB hx575_3; replace p575 := eq_true p575; replace q575 := eq_true q575
           go_wp2_with (first | ((with_reducible refine gate_dst (N := 4) rfl ?_); (try (refine gate_guard (by rfl) ?_; dsimp only)); refine boxZ 4 #[.int .i64 0, .int .i64 0, .string (⟨#[]⟩ : ByteArray), .int .i64 0] 39 ?_; intro gb576 hg w28 hbox hb; replace BK576 := am_ (hbox); replace GW576 := am_ (((have z0_ := GE572; Zn) : w.heap.size ≤ gb576)); replace GE576 := GW576; replace HB := (bsZ (have z0_ := GE572; Zk) hb); replace NB572_576 := am_ (((have z0_ := BK572; Zu) : gb572 ≠ gb576)); replace NB576_572 := am_ (((have z0_ := BK572; Zv) : gb576 ≠ gb572)); replace BK572 := (have z0_ := BK572; bkZ hb); clear hb hbox hg; have hnb29 := NB576_572.out; have hnc29 := NB572_576.out; refine ci4 BK576 ?_; intros) | ((with_reducible refine gate_callee (f := 53) rfl ?_); refine goesL_ (some 30) rfl rfl Try.func53 Zi rfl #[.int .i64 ((rd_T39 l0_2 x24_2).f3), .int .i64 0, .int .i64 11] rfl Zj ?_; (with_reducible refine (impl_within.calls ((rd_T39 l0_2 x24_2).f3) 0 11 true _ A24.out).mono ?_); rintro e w' ⟨rfl, ⟨nd, rfl⟩⟩; refine ⟨_, rfl, ?_⟩; refine ci3 BK572 ?_; intros) | (go_at_call 70; (with_reducible refine (impl_firedAt.calls k2 _ _ l0_0 _ _ l0_1 _ _ l0_2 ((rd_T39 l0_2 x24_2).f0) ((rd_T39 l0_2 x24_2).f1) ((rd_T39 l0_2 x24_2).f2) ((rd_T39 l0_2 x24_2).f3) t578 _ ?side1 ?side2 ?side3 ?side4 ?side5 ?side6 A26.out).mono ?_); (case side1 => exact Kd.C_below HR0_0.out (have z0_ := GE572; have z1_ := GE576; Zr)); (case side2 => exact HC0_0.out); (case side3 => exact Kd.C_below HR0_1.out (have z0_ := GE572; have z1_ := GE576; Zr)); (case side4 => exact HC0_1.out); (case side5 => exact Kd.C_below HR0_2.out (have z0_ := GE572; have z1_ := GE576; Zr)); (case side6 => exact HC0_2.out); rintro e w32 ⟨rfl, hb⟩; replace BK572 := am_ (blk_below (g := gb572) (o := .cells #[.slice A0_0 l0_0.length c0_0, .slice A0_1 l0_1.length c0_1, .slice (some ad575) l0_2.length c0_2] 28 (0, 0)) (have z0_ := NB572_576; have z1_ := BK572; Zw) hb); replace BK576 := am_ (blk_below (g := gb576) (o := .cells #[.int .i64 ((rd_T39 l0_2 x24_2).f0), .int .i64 ((rd_T39 l0_2 x24_2).f1), .string ((rd_T39 l0_2 x24_2).f2), .int .i64 ((rd_T39 l0_2 x24_2).f3)] 39 (0, 0)) (have z0_ := BK576; Zx) hb); replace HB := (bsZ (have z0_ := GE572; have z1_ := GE576; Zr) hb); (try clear hb); (try clear hb2); (try clear hk); (try clear hi)))
           go_ret
           exact ⟨Zg, (have z0_ := GE572; have z1_ := GE576; Zr)⟩
          ·rw [if_neg c27] at H
           have c27b0 := decide_eq_false c27; clear c27; have H' := am_ H; clear H; have p575 : 0 ≤ (x24_2 : Int) := of_decide_eq_true Zc; have q575 : x24_2 < (l0_2.length : Int) := of_decide_eq_true Zc; obtain ⟨ad575, e575, hx575_0, hx575_1, hx575_2, hx575_3⟩ := at_T39 HR0_2.out x24_2 p575 q575
           cases e575
           replace hx575_0 := cbH HB hx575_0; replace hx575_1 := cbH HB hx575_1; replace hx575_2 := cbH HB hx575_2; replace hx575_3 := cbH HB hx575_3; replace p575 := eq_true p575; replace q575 := eq_true q575
           go_wp2_with (first | ((with_reducible refine gate_dst (N := 4) rfl ?_); (try (refine gate_guard (by rfl) ?_; dsimp only)); refine boxZ 4 #[.int .i64 0, .int .i64 0, .string (⟨#[]⟩ : ByteArray), .int .i64 0] 39 ?_; intro gb576 hg w33 hbox hb; replace BK576 := am_ (hbox); replace GW576 := am_ (((have z0_ := GE572; Zn) : w.heap.size ≤ gb576)); replace GE576 := GW576; replace HB := (bsZ (have z0_ := GE572; Zk) hb); replace NB572_576 := am_ (((have z0_ := BK572; Zu) : gb572 ≠ gb576)); replace NB576_572 := am_ (((have z0_ := BK572; Zv) : gb576 ≠ gb572)); replace BK572 := (have z0_ := BK572; bkZ hb); clear hb hbox hg; have hnb34 := NB576_572.out; have hnc34 := NB572_576.out; refine ci4 BK576 ?_; intros) | ((with_reducible refine gate_callee (f := 53) rfl ?_); refine goesL_ (some 30) rfl rfl Try.func53 Zi rfl #[.int .i64 ((rd_T39 l0_2 x24_2).f3), .int .i64 0, .int .i64 11] rfl Zj ?_; (with_reducible refine (impl_within.calls ((rd_T39 l0_2 x24_2).f3) 0 11 true _ A24.out).mono ?_); rintro e w' ⟨rfl, ⟨nd, rfl⟩⟩; refine ⟨_, rfl, ?_⟩; refine ci3 BK572 ?_; intros) | (go_at_call 70; (with_reducible refine (impl_firedAt.calls k2 _ _ l0_0 _ _ l0_1 _ _ l0_2 ((rd_T39 l0_2 x24_2).f0) ((rd_T39 l0_2 x24_2).f1) ((rd_T39 l0_2 x24_2).f2) ((rd_T39 l0_2 x24_2).f3) t578 _ ?side1 ?side2 ?side3 ?side4 ?side5 ?side6 A26.out).mono ?_); (case side1 => exact Kd.C_below HR0_0.out (have z0_ := GE572; have z1_ := GE576; Zr)); (case side2 => exact HC0_0.out); (case side3 => exact Kd.C_below HR0_1.out (have z0_ := GE572; have z1_ := GE576; Zr)); (case side4 => exact HC0_1.out); (case side5 => exact Kd.C_below HR0_2.out (have z0_ := GE572; have z1_ := GE576; Zr)); (case side6 => exact HC0_2.out); rintro e w37 ⟨rfl, hb⟩; replace BK572 := am_ (blk_below (g := gb572) (o := .cells #[.slice A0_0 l0_0.length c0_0, .slice A0_1 l0_1.length c0_1, .slice (some ad575) l0_2.length c0_2] 28 (0, 0)) (have z0_ := NB572_576; have z1_ := BK572; Zw) hb); replace BK576 := am_ (blk_below (g := gb576) (o := .cells #[.int .i64 ((rd_T39 l0_2 x24_2).f0), .int .i64 ((rd_T39 l0_2 x24_2).f1), .string ((rd_T39 l0_2 x24_2).f2), .int .i64 ((rd_T39 l0_2 x24_2).f3)] 39 (0, 0)) (have z0_ := BK576; Zx) hb); replace HB := (bsZ (have z0_ := GE572; have z1_ := GE576; Zr) hb); (try clear hb); (try clear hb2); (try clear hk); (try clear hi)))
           go_roundg k2
           case measure => have := HJ1.out; have := HK2.out; omega
           case rel => exact ⟨(wrap64 (x24_2 + 1)), Za, H', ⟨by have := HJ1.out; have := HK2.out; omega⟩, ⟨(have z0_ := BK572; Zs)⟩, ⟨(have z0_ := GE572; have z1_ := GE576; Zr)⟩⟩
         ·replace c25 := Bool.eq_false_iff.mpr c25
          subst c25
          have H1 : (some false) = some r := by rw [if_neg (show ¬ (false = true) by decide)] at H; exact H
          clear H; have H := H1; clear H1; obtain rfl := Option.some.inj H; have p575 : 0 ≤ (x24_2 : Int) := of_decide_eq_true Zc; have q575 : x24_2 < (l0_2.length : Int) := of_decide_eq_true Zc; obtain ⟨ad575, e575, hx575_0, hx575_1, hx575_2, hx575_3⟩ := at_T39 HR0_2.out x24_2 p575 q575
          cases e575
          replace hx575_0 := cbH HB hx575_0; replace hx575_1 := cbH HB hx575_1; replace hx575_2 := cbH HB hx575_2; replace hx575_3 := cbH HB hx575_3; replace p575 := eq_true p575; replace q575 := eq_true q575
          go_wp2_with (first | ((with_reducible refine gate_dst (N := 4) rfl ?_); (try (refine gate_guard (by rfl) ?_; dsimp only)); refine boxZ 4 #[.int .i64 0, .int .i64 0, .string (⟨#[]⟩ : ByteArray), .int .i64 0] 39 ?_; intro gb576 hg w38 hbox hb; replace BK576 := am_ (hbox); replace GW576 := am_ (((have z0_ := GE572; Zn) : w.heap.size ≤ gb576)); replace GE576 := GW576; replace HB := (bsZ (have z0_ := GE572; Zk) hb); replace NB572_576 := am_ (((have z0_ := BK572; Zu) : gb572 ≠ gb576)); replace NB576_572 := am_ (((have z0_ := BK572; Zv) : gb576 ≠ gb572)); replace BK572 := (have z0_ := BK572; bkZ hb); clear hb hbox hg; have hnb39 := NB576_572.out; have hnc39 := NB572_576.out; refine ci4 BK576 ?_; intros) | ((with_reducible refine gate_callee (f := 53) rfl ?_); refine goesL_ (some 30) rfl rfl Try.func53 Zi rfl #[.int .i64 ((rd_T39 l0_2 x24_2).f3), .int .i64 0, .int .i64 11] rfl Zj ?_; (with_reducible refine (impl_within.calls ((rd_T39 l0_2 x24_2).f3) 0 11 false _ A24.out).mono ?_); rintro e w' ⟨rfl, ⟨nd, rfl⟩⟩; refine ⟨_, rfl, ?_⟩))
          go_ret
          exact ⟨Zg, (have z0_ := GE572; have z1_ := GE576; Zr)⟩
        ·rw [if_neg c23] at H
         exact absurd H (by simp)
       ·rw [if_neg c22] at H
        exact absurd H (by simp)
      ·rw [if_neg c21] at H
       have c21b0 := decide_eq_false c21; clear c21; obtain rfl := Option.some.inj H
       go_wp2
       go_ret
       exact ⟨Zg, (have z0_ := GE572; Zk)⟩
def impl_articleFor.f (k : Nat) (l0_0 : List (S104)) (l0_1 : List (S62)) (l0_2 : List (S39)) (a1_0 : Int) (a1_1 : Int) (a1_2 : ByteArray) (a1_3 : Int) : Option (ByteArray × Int × Int × Int × Int × Int × Int × Int × Int) := (impl_articleOf.f k l0_1 a1_2).bind fun t1004 => (if 0 ≤ t1004 then (if t1004 < (l0_1.length : Int) then (some ((rd_T62 l0_1 t1004).f0, (rd_T62 l0_1 t1004).f1, (rd_T62 l0_1 t1004).f2, (rd_T62 l0_1 t1004).f3, (rd_T62 l0_1 t1004).f4, (rd_T62 l0_1 t1004).f5, (rd_T62 l0_1 t1004).f6, (rd_T62 l0_1 t1004).f7, (rd_T62 l0_1 t1004).f8)) else (none)) else (none))
def impl_articleFor.T1 : Bool × List (List Nat × List Nat) := (true, [([], []), ([0], [0]), ([], []), ([2], [2]), ([], []), ([4], [4]), ([3, 5], [3, 5]), ([1, 6], [1, 6]), ([7], [7]), ([8, 6, 0, 1, 2, 3, 4, 5, 6, 7, 8], [8])])
def impl_articleFor.B1 : List Nat := [0, 1, 0, 4, 0, 16, 60, 127, 255, 511]
theorem impl_articleFor.tab1 : rtab .any (opsOf Try.f80 1) = impl_articleFor.T1 := by kernel_rfl
theorem impl_articleFor.bits1 : waitsOk impl_articleFor.T1.2 impl_articleFor.B1 = true := by kernel_rfl
set_option maxHeartbeats 8000000 in
set_option maxRecDepth 100000 in
theorem impl_articleFor.calls (k : Nat) (A0_0 : Option Addr) (c0_0 : Nat) (l0_0 : List (S104)) (A0_1 : Option Addr) (c0_1 : Nat) (l0_1 : List (S62)) (A0_2 : Option Addr) (c0_2 : Nat) (l0_2 : List (S39)) (a1_0 : Int) (a1_1 : Int) (a1_2 : ByteArray) (a1_3 : Int) (r1 : ByteArray) (r2 : Int) (r3 : Int) (r4 : Int) (r5 : Int) (r6 : Int) (r7 : Int) (r8 : Int) (r9 : Int) (w : World) (hr0_0 : Kd.C k104 w A0_0 l0_0.length l0_0) (hc0_0 : l0_0.length ≤ c0_0) (hr0_1 : Kd.C k62 w A0_1 l0_1.length l0_1) (hc0_1 : l0_1.length ≤ c0_1) (hr0_2 : Kd.C k39 w A0_2 l0_2.length l0_2) (hc0_2 : l0_2.length ≤ c0_2) (h : impl_articleFor.f k l0_0 l0_1 l0_2 a1_0 a1_1 a1_2 a1_3 = some (r1, r2, r3, r4, r5, r6, r7, r8, r9)) :
  Calls Try.prog 80 #[.agg #[.slice A0_0 l0_0.length c0_0, .slice A0_1 l0_1.length c0_1, .slice A0_2 l0_2.length c0_2], .agg #[.int .i64 a1_0, .int .i64 a1_1, .string a1_2, .int .i64 a1_3]] w fun e w' => e = .returned (.agg #[.string r1, .int .i64 r2, .int .i64 r3, .int .i64 r4, .int .i64 r5, .int .i64 r6, .int .i64 r7, .int .i64 r8, .int .i64 r9]) ∧ Below w.heap.size w w' := by
 have hu28 := Try.underlying28; have hu39 := Try.underlying39; have hu62 := Try.underlying62; have HR0_0 := am_ hr0_0; have HC0_0 := am_ hc0_0; clear hr0_0 hc0_0; have HR0_1 := am_ hr0_1; have HC0_1 := am_ hc0_1; clear hr0_1 hc0_1; have HR0_2 := am_ hr0_2; have HC0_2 := am_ hc0_2; clear hr0_2 hc0_2; have HB := am_ (Below.refl w.heap.size w); have H : ((impl_articleOf.f k l0_1 a1_2).bind fun t1004 => (if 0 ≤ t1004 then (if t1004 < (l0_1.length : Int) then (some ((rd_T62 l0_1 t1004).f0, (rd_T62 l0_1 t1004).f1, (rd_T62 l0_1 t1004).f2, (rd_T62 l0_1 t1004).f3, (rd_T62 l0_1 t1004).f4, (rd_T62 l0_1 t1004).f5, (rd_T62 l0_1 t1004).f6, (rd_T62 l0_1 t1004).f7, (rd_T62 l0_1 t1004).f8)) else (none)) else (none))) = some (r1, r2, r3, r4, r5, r6, r7, r8, r9) := h; clear h; replace H := Option.bind_eq_some_iff.mp H; obtain ⟨t1004, A30, H⟩ := H; have A3 := am_ A30; clear A30
 by_cases c4 : 0 ≤ t1004
 ·rw [if_pos c4] at H
  have c4b0 := decide_eq_true c4; clear c4
  by_cases c5 : t1004 < (l0_1.length : Int)
  ·rw [if_pos c5] at H
   have c5b0 := decide_eq_true c5; clear c5; simp only [Option.some.injEq, Prod.mk.injEq] at H; obtain ⟨rfl, rfl, rfl, rfl, rfl, rfl, rfl, rfl, rfl⟩ := H
   go_enter Try.func80, Try.ntmps80
   try go_wp2_with (first | ((with_reducible refine gate_dst (N := 2) rfl ?_); refine boxZ 2 #[.slice A0_0 l0_0.length c0_0, .slice A0_1 l0_1.length c0_1, .slice A0_2 l0_2.length c0_2] 28 ?_; intro gb1001 hg w6 hbox hb; replace BK1001 := am_ (hbox); replace GW1001 := am_ ((Zh : w.heap.size ≤ gb1001)); replace GE1001 := GW1001; replace HB := (bsZ Zf hb); clear hb hbox hg) | ((with_reducible refine gate_dst (N := 3) rfl ?_); refine boxZ 3 #[.int .i64 a1_0, .int .i64 a1_1, .string a1_2, .int .i64 a1_3] 39 ?_; intro gb1002 hg w7 hbox hb; replace BK1002 := am_ (hbox); replace GW1002 := am_ (((have z0_ := GE1001; Zn) : w.heap.size ≤ gb1002)); replace GE1002 := GW1002; replace HB := (bsZ (have z0_ := GE1001; Zk) hb); replace NB1001_1002 := am_ (((have z0_ := BK1001; Zy) : gb1001 ≠ gb1002)); replace NB1002_1001 := am_ (((have z0_ := BK1001; Zz) : gb1002 ≠ gb1001)); replace BK1001 := (have z0_ := BK1001; bkZ hb); clear hb hbox hg) | ((with_reducible refine gate_dst (N := 4) rfl ?_); refine boxZ 4 #[.string (⟨#[]⟩ : ByteArray), .int .i64 0, .int .i64 0, .int .i64 0, .int .i64 0, .int .i64 0, .int .i64 0, .int .i64 0, .int .i64 0] 62 ?_; intro gb1003 hg w8 hbox hb; replace BK1003 := am_ (hbox); replace GW1003 := am_ (((have z0_ := GE1001; have z1_ := GE1002; Zaa) : w.heap.size ≤ gb1003)); replace GE1003 := GW1003; replace HB := (bsZ (have z0_ := GE1001; have z1_ := GE1002; Zr) hb); replace NB1001_1003 := am_ (((have z0_ := BK1001; Zy) : gb1001 ≠ gb1003)); replace NB1003_1001 := am_ (((have z0_ := BK1001; Zz) : gb1003 ≠ gb1001)); replace BK1001 := (have z0_ := BK1001; bkZ hb); replace NB1002_1003 := am_ ((by rw [hg]; exact Nat.ne_of_lt (blk_lt (g := gb1002) (o := .cells #[.int .i64 a1_0, .int .i64 a1_1, .string a1_2, .int .i64 a1_3] 39 (0, 0)) (have z0_ := BK1002; Zs)) : gb1002 ≠ gb1003)); replace NB1003_1002 := am_ ((by rw [hg]; exact Nat.ne_of_gt (blk_lt (g := gb1002) (o := .cells #[.int .i64 a1_0, .int .i64 a1_1, .string a1_2, .int .i64 a1_3] 39 (0, 0)) (have z0_ := BK1002; Zs)) : gb1003 ≠ gb1002)); replace BK1002 := (have z0_ := BK1002; bkZ hb); clear hb hbox hg))
   replace BK1001 := am_ (blk_drew BK1001.out); replace BK1002 := am_ (blk_drew BK1002.out); replace BK1003 := am_ (blk_drew BK1003.out); replace HB := am_ (below_drew1 HB.out); have p1005 : 0 ≤ (t1004 : Int) := of_decide_eq_true Zc; have q1005 : t1004 < (l0_1.length : Int) := of_decide_eq_true Zc; obtain ⟨ad1005, e1005, hx1005_0, hx1005_1, hx1005_2, hx1005_3, hx1005_4, hx1005_5, hx1005_6, hx1005_7, hx1005_8⟩ := at_T62 HR0_1.out t1004 p1005 q1005; have hw1005_8 := hx1005_8; have hw1005_7 := hx1005_7; have hw1005_6 := hx1005_6; have hw1005_5 := hx1005_5; have hw1005_4 := hx1005_4; have hw1005_3 := hx1005_3; have hw1005_2 := hx1005_2; have hw1005_1 := hx1005_1; have hw1005_0 := hx1005_0
   cases e1005
   replace hx1005_0 := cbH HB hx1005_0; replace hx1005_1 := cbH HB hx1005_1; replace hx1005_2 := cbH HB hx1005_2; replace hx1005_3 := cbH HB hx1005_3; replace hx1005_4 := cbH HB hx1005_4; replace hx1005_5 := cbH HB hx1005_5; replace hx1005_6 := cbH HB hx1005_6; replace hx1005_7 := cbH HB hx1005_7; replace hx1005_8 := cbH HB hx1005_8; replace p1005 := eq_true p1005; replace q1005 := eq_true q1005; refine start_ (n := 10) (S := fun w' => w'.cell? ⟨gb1001, 0, none⟩ = some (.slice A0_0 l0_0.length c0_0) ∧ w'.cell? ⟨gb1001, 1, none⟩ = some (.slice (some ad1005) l0_1.length c0_1) ∧ w'.cell? ⟨gb1001, 2, none⟩ = some (.slice A0_2 l0_2.length c0_2) ∧ w'.cell? ⟨gb1002, 0, none⟩ = some (.int .i64 a1_0) ∧ w'.cell? ⟨gb1002, 1, none⟩ = some (.int .i64 a1_1) ∧ w'.cell? ⟨gb1002, 2, none⟩ = some (.string a1_2) ∧ w'.cell? ⟨gb1002, 3, none⟩ = some (.int .i64 a1_3) ∧ w'.cell? (ad1005.add ((t1004).toNat * 9)) = some (.string ((rd_T62 l0_1 t1004).f0)) ∧ w'.cell? ⟨(ad1005.add ((t1004).toNat * 9)).block, (ad1005.add ((t1004).toNat * 9)).off + 1, none⟩ = some (.int .i64 ((rd_T62 l0_1 t1004).f1)) ∧ w'.cell? ⟨(ad1005.add ((t1004).toNat * 9)).block, (ad1005.add ((t1004).toNat * 9)).off + 2, none⟩ = some (.int .i64 ((rd_T62 l0_1 t1004).f2)) ∧ w'.cell? ⟨(ad1005.add ((t1004).toNat * 9)).block, (ad1005.add ((t1004).toNat * 9)).off + 3, none⟩ = some (.int .i64 ((rd_T62 l0_1 t1004).f3)) ∧ w'.cell? ⟨(ad1005.add ((t1004).toNat * 9)).block, (ad1005.add ((t1004).toNat * 9)).off + 4, none⟩ = some (.int .i64 ((rd_T62 l0_1 t1004).f4)) ∧ w'.cell? ⟨(ad1005.add ((t1004).toNat * 9)).block, (ad1005.add ((t1004).toNat * 9)).off + 5, none⟩ = some (.int .i64 ((rd_T62 l0_1 t1004).f5)) ∧ w'.cell? ⟨(ad1005.add ((t1004).toNat * 9)).block, (ad1005.add ((t1004).toNat * 9)).off + 6, none⟩ = some (.int .i64 ((rd_T62 l0_1 t1004).f6)) ∧ w'.cell? ⟨(ad1005.add ((t1004).toNat * 9)).block, (ad1005.add ((t1004).toNat * 9)).off + 7, none⟩ = some (.int .i64 ((rd_T62 l0_1 t1004).f7)) ∧ w'.cell? ⟨(ad1005.add ((t1004).toNat * 9)).block, (ad1005.add ((t1004).toNat * 9)).off + 8, none⟩ = some (.int .i64 ((rd_T62 l0_1 t1004).f8))) (ds := []) (bT 10 0) Zi rfl rfl ⟨(blk_cell BK1001.out 0).trans rfl, (blk_cell BK1001.out 1).trans rfl, (blk_cell BK1001.out 2).trans rfl, (blk_cell BK1002.out 0).trans rfl, (blk_cell BK1002.out 1).trans rfl, (blk_cell BK1002.out 2).trans rfl, (blk_cell BK1002.out 3).trans rfl, (cbH HB hw1005_0 :), (cbH HB hw1005_1 :), (cbH HB hw1005_2 :), (cbH HB hw1005_3 :), (cbH HB hw1005_4 :), (cbH HB hw1005_5 :), (cbH HB hw1005_6 :), (cbH HB hw1005_7 :), (cbH HB hw1005_8 :)⟩ (fun hHeld => ?_); refine with_tabW impl_articleFor.tab1 impl_articleFor.bits1 (fun HT_ HW_ => ?_); generalize w8.drew = w9 at BK1001 BK1002 BK1003 HB hx1005_0 hx1005_1 hx1005_2 hx1005_3 hx1005_4 hx1005_5 hx1005_6 hx1005_7 hx1005_8 hHeld ⊢; refine pureZ HT_ 0 (some 5) (bT 10 1) ?_; refine pureZ HT_ 2 (some 7) #[true, false, true, false, false, false, false, false, false, false] ?_; refine pureZ HT_ 4 (some 9) #[true, false, true, false, true, false, false, false, false, false] ?_
   refine takeZ16 HT_ HW_ 1 (some 6) #[true, true, true, false, true, false, false, false, false, false] hHeld ?_; refine takeZ16 HT_ HW_ 3 (some 8) (bT 10 5) hHeld ?_; refine takeZ16 HT_ HW_ 5 (some 10) (bT 10 6) hHeld ?_; refine one_ (i := 6) (N := some 11) (bT 10 7) rfl rfl (one_of HT_.out Zi) (by decide) (fun K hK => ?_); refine goes_ Try.func63 Zi rfl #[.slice (some ad1005) l0_1.length c0_1, .string a1_2] (by rfl) rfl rfl Zj ?_
   with_reducible refine (impl_articleOf.calls k _ _ l0_1 a1_2 t1004 _ ?side1 ?side2 A3.out).mono ?_
   (case side1 => exact (have z0_ := HR0_1; Zq))
   (case side2 => exact HC0_1.out)
   rintro e w10 ⟨rfl, hb⟩; refine ⟨_, rfl, ?_⟩; replace BK1001 := (have z0_ := BK1001; bkZ hb); replace BK1002 := (have z0_ := BK1002; bkZ hb); replace BK1003 := (have z0_ := BK1003; bkZ hb); replace HB := (bsZ (have z0_ := GE1001; have z1_ := GE1002; have z2_ := GE1003; Zab) hb)
   (try clear hb)
   (try clear hb2)
   (try clear hk)
   (try clear hi)
   refine hK.out _ _ (have z0_ := BK1001; have z1_ := BK1002; have z2_ := hw1005_0; have z3_ := hw1005_1; have z4_ := hw1005_2; have z5_ := hw1005_3; have z6_ := hw1005_4; have z7_ := hw1005_5; have z8_ := hw1005_6; have z9_ := hw1005_7; have z10_ := hw1005_8; Zt) (fun hHeld => ?_); clear hK K; refine normZ 11 ?_; refine pureZ HT_ 7 (some 12) (bT 10 8) ?_; refine takeZ16 HT_ HW_ 8 (some 13) (bT 10 9) hHeld ?_; refine one_ (i := 9) (N := none) (bT 10 10) rfl rfl (one_of HT_.out Zi) (by decide) (fun K hK => ?_); have hs11 : w10.cell? ⟨gb1003, 0, none⟩ = some (.string (⟨#[]⟩ : ByteArray)) := (blk_cell BK1003.out 0).trans rfl; have hfs11 := blk_frozen BK1003.out 0; have hns11_0 := NB1001_1003.out; have hns11_1 := NB1002_1003.out; have hms11_0 := NB1003_1001.out; have hms11_1 := NB1003_1002.out; have hs12 : w10.cell? ⟨gb1003, 1, none⟩ = some (.int .i64 0) := (blk_cell BK1003.out 1).trans rfl; have hfs12 := blk_frozen BK1003.out 1; have hns12_0 := NB1001_1003.out; have hns12_1 := NB1002_1003.out; have hms12_0 := NB1003_1001.out; have hms12_1 := NB1003_1002.out; have hs13 : w10.cell? ⟨gb1003, 2, none⟩ = some (.int .i64 0) := (blk_cell BK1003.out 2).trans rfl; have hfs13 := blk_frozen BK1003.out 2; have hns13_0 := NB1001_1003.out; have hns13_1 := NB1002_1003.out; have hms13_0 := NB1003_1001.out; have hms13_1 := NB1003_1002.out; have hs14 : w10.cell? ⟨gb1003, 3, none⟩ = some (.int .i64 0) := (blk_cell BK1003.out 3).trans rfl; have hfs14 := blk_frozen BK1003.out 3; have hns14_0 := NB1001_1003.out; have hns14_1 := NB1002_1003.out; have hms14_0 := NB1003_1001.out; have hms14_1 := NB1003_1002.out; have hs15 : w10.cell? ⟨gb1003, 4, none⟩ = some (.int .i64 0) := (blk_cell BK1003.out 4).trans rfl; have hfs15 := blk_frozen BK1003.out 4; have hns15_0 := NB1001_1003.out; have hns15_1 := NB1002_1003.out; have hms15_0 := NB1003_1001.out; have hms15_1 := NB1003_1002.out; have hs16 : w10.cell? ⟨gb1003, 5, none⟩ = some (.int .i64 0) := (blk_cell BK1003.out 5).trans rfl; have hfs16 := blk_frozen BK1003.out 5; have hns16_0 := NB1001_1003.out; have hns16_1 := NB1002_1003.out; have hms16_0 := NB1003_1001.out; have hms16_1 := NB1003_1002.out; have hs17 : w10.cell? ⟨gb1003, 6, none⟩ = some (.int .i64 0) := (blk_cell BK1003.out 6).trans rfl; have hfs17 := blk_frozen BK1003.out 6; have hns17_0 := NB1001_1003.out; have hns17_1 := NB1002_1003.out; have hms17_0 := NB1003_1001.out; have hms17_1 := NB1003_1002.out; have hs18 : w10.cell? ⟨gb1003, 7, none⟩ = some (.int .i64 0) := (blk_cell BK1003.out 7).trans rfl; have hfs18 := blk_frozen BK1003.out 7; have hns18_0 := NB1001_1003.out; have hns18_1 := NB1002_1003.out; have hms18_0 := NB1003_1001.out; have hms18_1 := NB1003_1002.out; have hs19 : w10.cell? ⟨gb1003, 8, none⟩ = some (.int .i64 0) := (blk_cell BK1003.out 8).trans rfl; have hfs19 := blk_frozen BK1003.out 8; have hns19_0 := NB1001_1003.out; have hns19_1 := NB1002_1003.out; have hms19_0 := NB1003_1001.out; have hms19_1 := NB1003_1002.out; refine skip_ (w1 := ?_) (by rfl) rfl ?_ ?_
   rotate_left
   ·go_simp
    rfl
   refine hK.out _ _ ⟨((cell_far (p := ⟨gb1003, _, none⟩) NB1001_1003.out _).trans (((cell_far (p := ⟨gb1003, _, none⟩) NB1001_1003.out _).trans (((cell_far (p := ⟨gb1003, _, none⟩) NB1001_1003.out _).trans (((cell_far (p := ⟨gb1003, _, none⟩) NB1001_1003.out _).trans (((cell_far (p := ⟨gb1003, _, none⟩) NB1001_1003.out _).trans (((cell_far (p := ⟨gb1003, _, none⟩) NB1001_1003.out _).trans (((cell_far (p := ⟨gb1003, _, none⟩) NB1001_1003.out _).trans (((cell_far (p := ⟨gb1003, _, none⟩) NB1001_1003.out _).trans (((cell_far (p := ⟨gb1003, _, none⟩) NB1001_1003.out _).trans (hHeld.1)))))))))))))))))), ((cell_far (p := ⟨gb1003, _, none⟩) NB1001_1003.out _).trans (((cell_far (p := ⟨gb1003, _, none⟩) NB1001_1003.out _).trans (((cell_far (p := ⟨gb1003, _, none⟩) NB1001_1003.out _).trans (((cell_far (p := ⟨gb1003, _, none⟩) NB1001_1003.out _).trans (((cell_far (p := ⟨gb1003, _, none⟩) NB1001_1003.out _).trans (((cell_far (p := ⟨gb1003, _, none⟩) NB1001_1003.out _).trans (((cell_far (p := ⟨gb1003, _, none⟩) NB1001_1003.out _).trans (((cell_far (p := ⟨gb1003, _, none⟩) NB1001_1003.out _).trans (((cell_far (p := ⟨gb1003, _, none⟩) NB1001_1003.out _).trans (hHeld.2.1)))))))))))))))))), ((cell_far (p := ⟨gb1003, _, none⟩) NB1001_1003.out _).trans (((cell_far (p := ⟨gb1003, _, none⟩) NB1001_1003.out _).trans (((cell_far (p := ⟨gb1003, _, none⟩) NB1001_1003.out _).trans (((cell_far (p := ⟨gb1003, _, none⟩) NB1001_1003.out _).trans (((cell_far (p := ⟨gb1003, _, none⟩) NB1001_1003.out _).trans (((cell_far (p := ⟨gb1003, _, none⟩) NB1001_1003.out _).trans (((cell_far (p := ⟨gb1003, _, none⟩) NB1001_1003.out _).trans (((cell_far (p := ⟨gb1003, _, none⟩) NB1001_1003.out _).trans (((cell_far (p := ⟨gb1003, _, none⟩) NB1001_1003.out _).trans (hHeld.2.2.1)))))))))))))))))), ((cell_far (p := ⟨gb1003, _, none⟩) NB1002_1003.out _).trans (((cell_far (p := ⟨gb1003, _, none⟩) NB1002_1003.out _).trans (((cell_far (p := ⟨gb1003, _, none⟩) NB1002_1003.out _).trans (((cell_far (p := ⟨gb1003, _, none⟩) NB1002_1003.out _).trans (((cell_far (p := ⟨gb1003, _, none⟩) NB1002_1003.out _).trans (((cell_far (p := ⟨gb1003, _, none⟩) NB1002_1003.out _).trans (((cell_far (p := ⟨gb1003, _, none⟩) NB1002_1003.out _).trans (((cell_far (p := ⟨gb1003, _, none⟩) NB1002_1003.out _).trans (((cell_far (p := ⟨gb1003, _, none⟩) NB1002_1003.out _).trans (hHeld.2.2.2.1)))))))))))))))))), ((cell_far (p := ⟨gb1003, _, none⟩) NB1002_1003.out _).trans (((cell_far (p := ⟨gb1003, _, none⟩) NB1002_1003.out _).trans (((cell_far (p := ⟨gb1003, _, none⟩) NB1002_1003.out _).trans (((cell_far (p := ⟨gb1003, _, none⟩) NB1002_1003.out _).trans (((cell_far (p := ⟨gb1003, _, none⟩) NB1002_1003.out _).trans (((cell_far (p := ⟨gb1003, _, none⟩) NB1002_1003.out _).trans (((cell_far (p := ⟨gb1003, _, none⟩) NB1002_1003.out _).trans (((cell_far (p := ⟨gb1003, _, none⟩) NB1002_1003.out _).trans (((cell_far (p := ⟨gb1003, _, none⟩) NB1002_1003.out _).trans (hHeld.2.2.2.2.1)))))))))))))))))), ((cell_far (p := ⟨gb1003, _, none⟩) NB1002_1003.out _).trans (((cell_far (p := ⟨gb1003, _, none⟩) NB1002_1003.out _).trans (((cell_far (p := ⟨gb1003, _, none⟩) NB1002_1003.out _).trans (((cell_far (p := ⟨gb1003, _, none⟩) NB1002_1003.out _).trans (((cell_far (p := ⟨gb1003, _, none⟩) NB1002_1003.out _).trans (((cell_far (p := ⟨gb1003, _, none⟩) NB1002_1003.out _).trans (((cell_far (p := ⟨gb1003, _, none⟩) NB1002_1003.out _).trans (((cell_far (p := ⟨gb1003, _, none⟩) NB1002_1003.out _).trans (((cell_far (p := ⟨gb1003, _, none⟩) NB1002_1003.out _).trans (hHeld.2.2.2.2.2.1)))))))))))))))))), ((cell_far (p := ⟨gb1003, _, none⟩) NB1002_1003.out _).trans (((cell_far (p := ⟨gb1003, _, none⟩) NB1002_1003.out _).trans (((cell_far (p := ⟨gb1003, _, none⟩) NB1002_1003.out _).trans (((cell_far (p := ⟨gb1003, _, none⟩) NB1002_1003.out _).trans (((cell_far (p := ⟨gb1003, _, none⟩) NB1002_1003.out _).trans (((cell_far (p := ⟨gb1003, _, none⟩) NB1002_1003.out _).trans (((cell_far (p := ⟨gb1003, _, none⟩) NB1002_1003.out _).trans (((cell_far (p := ⟨gb1003, _, none⟩) NB1002_1003.out _).trans (((cell_far (p := ⟨gb1003, _, none⟩) NB1002_1003.out _).trans (hHeld.2.2.2.2.2.2.1)))))))))))))))))), ((cell_far (p := ⟨gb1003, _, none⟩) (have z0_ := hw1005_0; have z1_ := GW1003; Zac) _).trans (((cell_far (p := ⟨gb1003, _, none⟩) (have z0_ := hw1005_0; have z1_ := GW1003; Zac) _).trans (((cell_far (p := ⟨gb1003, _, none⟩) (have z0_ := hw1005_0; have z1_ := GW1003; Zac) _).trans (((cell_far (p := ⟨gb1003, _, none⟩) (have z0_ := hw1005_0; have z1_ := GW1003; Zac) _).trans (((cell_far (p := ⟨gb1003, _, none⟩) (have z0_ := hw1005_0; have z1_ := GW1003; Zac) _).trans (((cell_far (p := ⟨gb1003, _, none⟩) (have z0_ := hw1005_0; have z1_ := GW1003; Zac) _).trans (((cell_far (p := ⟨gb1003, _, none⟩) (have z0_ := hw1005_0; have z1_ := GW1003; Zac) _).trans (((cell_far (p := ⟨gb1003, _, none⟩) (have z0_ := hw1005_0; have z1_ := GW1003; Zac) _).trans (((cell_far (p := ⟨gb1003, _, none⟩) (have z0_ := hw1005_0; have z1_ := GW1003; Zac) _).trans (hHeld.2.2.2.2.2.2.2.1)))))))))))))))))), ((cell_far (p := ⟨gb1003, _, none⟩) (have z0_ := hw1005_1; have z1_ := GW1003; Zac) _).trans (((cell_far (p := ⟨gb1003, _, none⟩) (have z0_ := hw1005_1; have z1_ := GW1003; Zac) _).trans (((cell_far (p := ⟨gb1003, _, none⟩) (have z0_ := hw1005_1; have z1_ := GW1003; Zac) _).trans (((cell_far (p := ⟨gb1003, _, none⟩) (have z0_ := hw1005_1; have z1_ := GW1003; Zac) _).trans (((cell_far (p := ⟨gb1003, _, none⟩) (have z0_ := hw1005_1; have z1_ := GW1003; Zac) _).trans (((cell_far (p := ⟨gb1003, _, none⟩) (have z0_ := hw1005_1; have z1_ := GW1003; Zac) _).trans (((cell_far (p := ⟨gb1003, _, none⟩) (have z0_ := hw1005_1; have z1_ := GW1003; Zac) _).trans (((cell_far (p := ⟨gb1003, _, none⟩) (have z0_ := hw1005_1; have z1_ := GW1003; Zac) _).trans (((cell_far (p := ⟨gb1003, _, none⟩) (have z0_ := hw1005_1; have z1_ := GW1003; Zac) _).trans (hHeld.2.2.2.2.2.2.2.2.1)))))))))))))))))), ((cell_far (p := ⟨gb1003, _, none⟩) (have z0_ := hw1005_2; have z1_ := GW1003; Zac) _).trans (((cell_far (p := ⟨gb1003, _, none⟩) (have z0_ := hw1005_2; have z1_ := GW1003; Zac) _).trans (((cell_far (p := ⟨gb1003, _, none⟩) (have z0_ := hw1005_2; have z1_ := GW1003; Zac) _).trans (((cell_far (p := ⟨gb1003, _, none⟩) (have z0_ := hw1005_2; have z1_ := GW1003; Zac) _).trans (((cell_far (p := ⟨gb1003, _, none⟩) (have z0_ := hw1005_2; have z1_ := GW1003; Zac) _).trans (((cell_far (p := ⟨gb1003, _, none⟩) (have z0_ := hw1005_2; have z1_ := GW1003; Zac) _).trans (((cell_far (p := ⟨gb1003, _, none⟩) (have z0_ := hw1005_2; have z1_ := GW1003; Zac) _).trans (((cell_far (p := ⟨gb1003, _, none⟩) (have z0_ := hw1005_2; have z1_ := GW1003; Zac) _).trans (((cell_far (p := ⟨gb1003, _, none⟩) (have z0_ := hw1005_2; have z1_ := GW1003; Zac) _).trans (hHeld.2.2.2.2.2.2.2.2.2.1)))))))))))))))))), ((cell_far (p := ⟨gb1003, _, none⟩) (have z0_ := hw1005_3; have z1_ := GW1003; Zac) _).trans (((cell_far (p := ⟨gb1003, _, none⟩) (have z0_ := hw1005_3; have z1_ := GW1003; Zac) _).trans (((cell_far (p := ⟨gb1003, _, none⟩) (have z0_ := hw1005_3; have z1_ := GW1003; Zac) _).trans (((cell_far (p := ⟨gb1003, _, none⟩) (have z0_ := hw1005_3; have z1_ := GW1003; Zac) _).trans (((cell_far (p := ⟨gb1003, _, none⟩) (have z0_ := hw1005_3; have z1_ := GW1003; Zac) _).trans (((cell_far (p := ⟨gb1003, _, none⟩) (have z0_ := hw1005_3; have z1_ := GW1003; Zac) _).trans (((cell_far (p := ⟨gb1003, _, none⟩) (have z0_ := hw1005_3; have z1_ := GW1003; Zac) _).trans (((cell_far (p := ⟨gb1003, _, none⟩) (have z0_ := hw1005_3; have z1_ := GW1003; Zac) _).trans (((cell_far (p := ⟨gb1003, _, none⟩) (have z0_ := hw1005_3; have z1_ := GW1003; Zac) _).trans (hHeld.2.2.2.2.2.2.2.2.2.2.1)))))))))))))))))), ((cell_far (p := ⟨gb1003, _, none⟩) (have z0_ := hw1005_4; have z1_ := GW1003; Zac) _).trans (((cell_far (p := ⟨gb1003, _, none⟩) (have z0_ := hw1005_4; have z1_ := GW1003; Zac) _).trans (((cell_far (p := ⟨gb1003, _, none⟩) (have z0_ := hw1005_4; have z1_ := GW1003; Zac) _).trans (((cell_far (p := ⟨gb1003, _, none⟩) (have z0_ := hw1005_4; have z1_ := GW1003; Zac) _).trans (((cell_far (p := ⟨gb1003, _, none⟩) (have z0_ := hw1005_4; have z1_ := GW1003; Zac) _).trans (((cell_far (p := ⟨gb1003, _, none⟩) (have z0_ := hw1005_4; have z1_ := GW1003; Zac) _).trans (((cell_far (p := ⟨gb1003, _, none⟩) (have z0_ := hw1005_4; have z1_ := GW1003; Zac) _).trans (((cell_far (p := ⟨gb1003, _, none⟩) (have z0_ := hw1005_4; have z1_ := GW1003; Zac) _).trans (((cell_far (p := ⟨gb1003, _, none⟩) (have z0_ := hw1005_4; have z1_ := GW1003; Zac) _).trans (hHeld.2.2.2.2.2.2.2.2.2.2.2.1)))))))))))))))))), ((cell_far (p := ⟨gb1003, _, none⟩) (have z0_ := hw1005_5; have z1_ := GW1003; Zac) _).trans (((cell_far (p := ⟨gb1003, _, none⟩) (have z0_ := hw1005_5; have z1_ := GW1003; Zac) _).trans (((cell_far (p := ⟨gb1003, _, none⟩) (have z0_ := hw1005_5; have z1_ := GW1003; Zac) _).trans (((cell_far (p := ⟨gb1003, _, none⟩) (have z0_ := hw1005_5; have z1_ := GW1003; Zac) _).trans (((cell_far (p := ⟨gb1003, _, none⟩) (have z0_ := hw1005_5; have z1_ := GW1003; Zac) _).trans (((cell_far (p := ⟨gb1003, _, none⟩) (have z0_ := hw1005_5; have z1_ := GW1003; Zac) _).trans (((cell_far (p := ⟨gb1003, _, none⟩) (have z0_ := hw1005_5; have z1_ := GW1003; Zac) _).trans (((cell_far (p := ⟨gb1003, _, none⟩) (have z0_ := hw1005_5; have z1_ := GW1003; Zac) _).trans (((cell_far (p := ⟨gb1003, _, none⟩) (have z0_ := hw1005_5; have z1_ := GW1003; Zac) _).trans (hHeld.2.2.2.2.2.2.2.2.2.2.2.2.1)))))))))))))))))), ((cell_far (p := ⟨gb1003, _, none⟩) (have z0_ := hw1005_6; have z1_ := GW1003; Zac) _).trans (((cell_far (p := ⟨gb1003, _, none⟩) (have z0_ := hw1005_6; have z1_ := GW1003; Zac) _).trans (((cell_far (p := ⟨gb1003, _, none⟩) (have z0_ := hw1005_6; have z1_ := GW1003; Zac) _).trans (((cell_far (p := ⟨gb1003, _, none⟩) (have z0_ := hw1005_6; have z1_ := GW1003; Zac) _).trans (((cell_far (p := ⟨gb1003, _, none⟩) (have z0_ := hw1005_6; have z1_ := GW1003; Zac) _).trans (((cell_far (p := ⟨gb1003, _, none⟩) (have z0_ := hw1005_6; have z1_ := GW1003; Zac) _).trans (((cell_far (p := ⟨gb1003, _, none⟩) (have z0_ := hw1005_6; have z1_ := GW1003; Zac) _).trans (((cell_far (p := ⟨gb1003, _, none⟩) (have z0_ := hw1005_6; have z1_ := GW1003; Zac) _).trans (((cell_far (p := ⟨gb1003, _, none⟩) (have z0_ := hw1005_6; have z1_ := GW1003; Zac) _).trans (hHeld.2.2.2.2.2.2.2.2.2.2.2.2.2.1)))))))))))))))))), ((cell_far (p := ⟨gb1003, _, none⟩) (have z0_ := hw1005_7; have z1_ := GW1003; Zac) _).trans (((cell_far (p := ⟨gb1003, _, none⟩) (have z0_ := hw1005_7; have z1_ := GW1003; Zac) _).trans (((cell_far (p := ⟨gb1003, _, none⟩) (have z0_ := hw1005_7; have z1_ := GW1003; Zac) _).trans (((cell_far (p := ⟨gb1003, _, none⟩) (have z0_ := hw1005_7; have z1_ := GW1003; Zac) _).trans (((cell_far (p := ⟨gb1003, _, none⟩) (have z0_ := hw1005_7; have z1_ := GW1003; Zac) _).trans (((cell_far (p := ⟨gb1003, _, none⟩) (have z0_ := hw1005_7; have z1_ := GW1003; Zac) _).trans (((cell_far (p := ⟨gb1003, _, none⟩) (have z0_ := hw1005_7; have z1_ := GW1003; Zac) _).trans (((cell_far (p := ⟨gb1003, _, none⟩) (have z0_ := hw1005_7; have z1_ := GW1003; Zac) _).trans (((cell_far (p := ⟨gb1003, _, none⟩) (have z0_ := hw1005_7; have z1_ := GW1003; Zac) _).trans (hHeld.2.2.2.2.2.2.2.2.2.2.2.2.2.2.1)))))))))))))))))), ((cell_far (p := ⟨gb1003, _, none⟩) (have z0_ := hw1005_8; have z1_ := GW1003; Zac) _).trans (((cell_far (p := ⟨gb1003, _, none⟩) (have z0_ := hw1005_8; have z1_ := GW1003; Zac) _).trans (((cell_far (p := ⟨gb1003, _, none⟩) (have z0_ := hw1005_8; have z1_ := GW1003; Zac) _).trans (((cell_far (p := ⟨gb1003, _, none⟩) (have z0_ := hw1005_8; have z1_ := GW1003; Zac) _).trans (((cell_far (p := ⟨gb1003, _, none⟩) (have z0_ := hw1005_8; have z1_ := GW1003; Zac) _).trans (((cell_far (p := ⟨gb1003, _, none⟩) (have z0_ := hw1005_8; have z1_ := GW1003; Zac) _).trans (((cell_far (p := ⟨gb1003, _, none⟩) (have z0_ := hw1005_8; have z1_ := GW1003; Zac) _).trans (((cell_far (p := ⟨gb1003, _, none⟩) (have z0_ := hw1005_8; have z1_ := GW1003; Zac) _).trans (((cell_far (p := ⟨gb1003, _, none⟩) (have z0_ := hw1005_8; have z1_ := GW1003; Zac) _).trans (hHeld.2.2.2.2.2.2.2.2.2.2.2.2.2.2.2))))))))))))))))))⟩ (fun hHeld => ?_)
   clear hK K; refine done_ (done_of HT_.out Zi) ?_
   try go_wp2
   refine bodyPost_ret (results_cell_row rfl _ _ gb1003 62 #[.string ((rd_T62 l0_1 t1004).f0), .int .i64 ((rd_T62 l0_1 t1004).f1), .int .i64 ((rd_T62 l0_1 t1004).f2), .int .i64 ((rd_T62 l0_1 t1004).f3), .int .i64 ((rd_T62 l0_1 t1004).f4), .int .i64 ((rd_T62 l0_1 t1004).f5), .int .i64 ((rd_T62 l0_1 t1004).f6), .int .i64 ((rd_T62 l0_1 t1004).f7), .int .i64 ((rd_T62 l0_1 t1004).f8)] (0, 0) _ rfl (by (with_reducible repeat (first | refine blk_drewN ?_ _ | refine blk_drew ?_ | refine blk_alloc ?_ _)); refine blk_put (cs := #[.string ((rd_T62 l0_1 t1004).f0), .int .i64 ((rd_T62 l0_1 t1004).f1), .int .i64 ((rd_T62 l0_1 t1004).f2), .int .i64 ((rd_T62 l0_1 t1004).f3), .int .i64 ((rd_T62 l0_1 t1004).f4), .int .i64 ((rd_T62 l0_1 t1004).f5), .int .i64 ((rd_T62 l0_1 t1004).f6), .int .i64 ((rd_T62 l0_1 t1004).f7), .int .i64 0]) ?_ 8 _ rfl; refine blk_put (cs := #[.string ((rd_T62 l0_1 t1004).f0), .int .i64 ((rd_T62 l0_1 t1004).f1), .int .i64 ((rd_T62 l0_1 t1004).f2), .int .i64 ((rd_T62 l0_1 t1004).f3), .int .i64 ((rd_T62 l0_1 t1004).f4), .int .i64 ((rd_T62 l0_1 t1004).f5), .int .i64 ((rd_T62 l0_1 t1004).f6), .int .i64 0, .int .i64 0]) ?_ 7 _ rfl; refine blk_put (cs := #[.string ((rd_T62 l0_1 t1004).f0), .int .i64 ((rd_T62 l0_1 t1004).f1), .int .i64 ((rd_T62 l0_1 t1004).f2), .int .i64 ((rd_T62 l0_1 t1004).f3), .int .i64 ((rd_T62 l0_1 t1004).f4), .int .i64 ((rd_T62 l0_1 t1004).f5), .int .i64 0, .int .i64 0, .int .i64 0]) ?_ 6 _ rfl; refine blk_put (cs := #[.string ((rd_T62 l0_1 t1004).f0), .int .i64 ((rd_T62 l0_1 t1004).f1), .int .i64 ((rd_T62 l0_1 t1004).f2), .int .i64 ((rd_T62 l0_1 t1004).f3), .int .i64 ((rd_T62 l0_1 t1004).f4), .int .i64 0, .int .i64 0, .int .i64 0, .int .i64 0]) ?_ 5 _ rfl; refine blk_put (cs := #[.string ((rd_T62 l0_1 t1004).f0), .int .i64 ((rd_T62 l0_1 t1004).f1), .int .i64 ((rd_T62 l0_1 t1004).f2), .int .i64 ((rd_T62 l0_1 t1004).f3), .int .i64 0, .int .i64 0, .int .i64 0, .int .i64 0, .int .i64 0]) ?_ 4 _ rfl; refine blk_put (cs := #[.string ((rd_T62 l0_1 t1004).f0), .int .i64 ((rd_T62 l0_1 t1004).f1), .int .i64 ((rd_T62 l0_1 t1004).f2), .int .i64 0, .int .i64 0, .int .i64 0, .int .i64 0, .int .i64 0, .int .i64 0]) ?_ 3 _ rfl; refine blk_put (cs := #[.string ((rd_T62 l0_1 t1004).f0), .int .i64 ((rd_T62 l0_1 t1004).f1), .int .i64 0, .int .i64 0, .int .i64 0, .int .i64 0, .int .i64 0, .int .i64 0, .int .i64 0]) ?_ 2 _ rfl; refine blk_put (cs := #[.string ((rd_T62 l0_1 t1004).f0), .int .i64 0, .int .i64 0, .int .i64 0, .int .i64 0, .int .i64 0, .int .i64 0, .int .i64 0, .int .i64 0]) ?_ 1 _ rfl; refine blk_put (cs := #[.string (⟨#[]⟩ : ByteArray), .int .i64 0, .int .i64 0, .int .i64 0, .int .i64 0, .int .i64 0, .int .i64 0, .int .i64 0, .int .i64 0]) ?_ 0 _ rfl; (with_reducible repeat (first | refine blk_drewN ?_ _ | refine blk_drew ?_ | refine blk_alloc ?_ _)); exact BK1003.out) Try.underlying62 rfl Zi) rfl ?_; exact ⟨Zg, (have z0_ := GE1001; have z1_ := GE1002; have z2_ := GE1003; Zab)⟩
  ·rw [if_neg c5] at H
   exact absurd H (by simp)
 ·rw [if_neg c4] at H
  exact absurd H (by simp)
def impl_shotWindows.l0 : Nat → Int → List (List Int) → Int → ByteArray → Int → Int → Int → Int → Int → Int → Int → Int → Option ((List (List Int)))
 | 0, _, _, _, _, _, _, _, _, _, _, _, _ => none
 | k + 1, x1, x5, x6, x1007000, x1007001, x1007002, x1007003, x1007004, x1007005, x1007006, x1007007, x1007008 => if x6 < x1007005 then (if x5.length < 5864062014805 then (impl_shotWindows.l0 k x1 (x5 ++ [(([wrap64 ((wrap64 ((wrap64 (x1 + x1007003)) + (wrap64 (x6 * x1007006)))) - x1007004), wrap64 ((wrap64 ((wrap64 (x1 + x1007003)) + (wrap64 (x6 * x1007006)))) + x1007004)] : List Int))]) (wrap64 (x6 + 1)) x1007000 x1007001 x1007002 x1007003 x1007004 x1007005 x1007006 x1007007 x1007008) else (none)) else (some x5)
def impl_shotWindows.f (k : Nat) (a0_0 : ByteArray) (a0_1 : Int) (a0_2 : Int) (a0_3 : Int) (a0_4 : Int) (a0_5 : Int) (a0_6 : Int) (a0_7 : Int) (a0_8 : Int) (a1 : Int) : Option ((List (List Int))) := impl_shotWindows.l0 k a1 ([] : List (List Int)) 0 a0_0 a0_1 a0_2 a0_3 a0_4 a0_5 a0_6 a0_7 a0_8
set_option maxHeartbeats 8000000 in
set_option maxRecDepth 100000 in
theorem impl_shotWindows.calls (k : Nat) (a0_0 : ByteArray) (a0_1 : Int) (a0_2 : Int) (a0_3 : Int) (a0_4 : Int) (a0_5 : Int) (a0_6 : Int) (a0_7 : Int) (a0_8 : Int) (a1 : Int) (r : List (List Int)) (w : World) (h : impl_shotWindows.f k a0_0 a0_1 a0_2 a0_3 a0_4 a0_5 a0_6 a0_7 a0_8 a1 = some r) :
  Calls Try.prog 92 #[.agg #[.string a0_0, .int .i64 a0_1, .int .i64 a0_2, .int .i64 a0_3, .int .i64 a0_4, .int .i64 a0_5, .int .i64 a0_6, .int .i64 a0_7, .int .i64 a0_8], .int .i64 a1] w fun e w' => ∃ v0_ : Value, e = .returned (v0_) ∧ Kd.S (Kd.slice 2 (Kd.int .i64)) 33 w' w.heap.size (fun _ => True) v0_ r ∧ Below w.heap.size w w' := by
 have hu62 := Try.underlying62; have HB := am_ (Below.refl w.heap.size w); have H : (impl_shotWindows.l0 k a1 ([] : List (List Int)) 0 a0_0 a0_1 a0_2 a0_3 a0_4 a0_5 a0_6 a0_7 a0_8) = some r := h; clear h; have H' := am_ H; clear H
 go_enter Try.func92, Try.ntmps92
 go_wp2_with (first | ((with_reducible refine gate_dst (N := 2) rfl ?_); refine boxZ 2 #[.string a0_0, .int .i64 a0_1, .int .i64 a0_2, .int .i64 a0_3, .int .i64 a0_4, .int .i64 a0_5, .int .i64 a0_6, .int .i64 a0_7, .int .i64 a0_8] 62 ?_; intro gb1006 hg w3 hbox hb; replace BK1006 := am_ (hbox); replace GW1006 := am_ ((Zh : w.heap.size ≤ gb1006)); replace GE1006 := GW1006; replace HB := (bsZ Zf hb); clear hb hbox hg))
 go_loopg [5, 6] k (fun kq v5 v6 w' => ∃ (x5_1 : List (List Int)) (x6_1 : Int), v6 = .int .i64 x6_1 ∧ Aside0 (impl_shotWindows.l0 kq a1 x5_1 x6_1 a0_0 a0_1 a0_2 a0_3 a0_4 a0_5 a0_6 a0_7 a0_8 = some r) ∧ Aside0 (kq ≤ k) ∧ Aside0 (Kd.S (Kd.slice 2 (Kd.int .i64)) 33 w' w.heap.size (fun _ => True) v5 x5_1) ∧ Aside0 (w'.heap[gb1006]? = some (.cells #[.string a0_0, .int .i64 a0_1, .int .i64 a0_2, .int .i64 a0_3, .int .i64 a0_4, .int .i64 a0_5, .int .i64 a0_6, .int .i64 a0_7, .int .i64 a0_8] 62 (0, 0))) ∧ Aside0 (Below w.heap.size w w'))
 case atStart => exact ⟨(([] : List (List Int))), (0), Za, H', ⟨Nat.le_refl _⟩, ⟨Zad⟩, ⟨(have z0_ := BK1006; Zs)⟩, ⟨(have z0_ := GE1006; Zk)⟩⟩
 case round =>
  clear H'
  try clear p2
  obtain ⟨x5_1, x6_1, rfl, HA, HK1, HO_5, BK1006, HB⟩ := hrel
  cases gk with
  | zero => exact absurd HA.out (by simp [impl_shotWindows.l0])
  | succ k1 =>
   have H := HA.out; clear HA; simp only [impl_shotWindows.l0] at H
   by_cases c4 : x6_1 < a0_5
   ·rw [if_pos c4] at H
    have c4b0 := decide_eq_true c4; clear c4; obtain ⟨y1007, hy1007⟩ : ∃ y_ : List Int, y_ = (([wrap64 ((wrap64 ((wrap64 (a1 + a0_3)) + (wrap64 (x6_1 * a0_6)))) - a0_4), wrap64 ((wrap64 ((wrap64 (a1 + a0_3)) + (wrap64 (x6_1 * a0_6)))) + a0_4)] : List Int)) := ⟨_, rfl⟩
    (first | (rw [← hy1007] at H; with_reducible replace H := bindZ H) | rw [← hy1007] at H)
    have Ny1007 := am_ hy1007; clear hy1007
    by_cases c5 : x5_1.length < 5864062014805
    ·rw [if_pos c5] at H
     have LMc5 := am_ c5; clear c5; obtain ⟨y1010, hy1010⟩ : ∃ y_ : List (List Int), y_ = (x5_1 ++ [y1007]) := ⟨_, rfl⟩
     (first | (rw [← hy1010] at H; with_reducible replace H := bindZ H) | rw [← hy1010] at H)
     have Ny1010 := am_ hy1010; clear hy1010; have H' := am_ H; clear H; refine ci9 BK1006 ?_; intros
     go_wp2_with (first | ((with_reducible refine gate_dst (N := 32) rfl ?_); refine Kd.R_lit (Kd.int .i64) _ 2 ?hg (N := 32) ?hd (xs := ([wrap64 ((wrap64 ((wrap64 (a1 + a0_3)) + (wrap64 (x6_1 * a0_6)))) - a0_4), wrap64 ((wrap64 ((wrap64 (a1 + a0_3)) + (wrap64 (x6_1 * a0_6)))) + a0_4)] : List Int)) (inner := [.int .i64 (wrap64 ((wrap64 ((wrap64 (a1 + a0_3)) + (wrap64 (x6_1 * a0_6)))) - a0_4)), .int .i64 (wrap64 ((wrap64 ((wrap64 (a1 + a0_3)) + (wrap64 (x6_1 * a0_6)))) + a0_4))]) (ok := fun _ => True) (okp := fun _ => True) ?hr ?hp (fun _ hk => hk) trivial (Below.refl _ _) (Nat.le_refl _) (by simp) ?_; (case hd => rfl); (case hg => rfl); (case hr => first | (go_simp; done) | (go_simp; rfl)); (case hp => exact (Reps.one (show Kd.M (Kd.int .i64) _ _ _ (wrap64 ((wrap64 ((wrap64 (a1 + a0_3)) + (wrap64 (x6_1 * a0_6)))) - a0_4)) [.int .i64 (wrap64 ((wrap64 ((wrap64 (a1 + a0_3)) + (wrap64 (x6_1 * a0_6)))) - a0_4))] from rfl) (Reps.one (show Kd.M (Kd.int .i64) _ _ _ (wrap64 ((wrap64 ((wrap64 (a1 + a0_3)) + (wrap64 (x6_1 * a0_6)))) + a0_4)) [.int .i64 (wrap64 ((wrap64 ((wrap64 (a1 + a0_3)) + (wrap64 (x6_1 * a0_6)))) + a0_4))] from rfl) (Reps.none _ _)))); intro v1008 w7 ho8 hb hg_ hnew_; clear hg_ hnew_; (first | rw [← Ny1007.out] at ho8 | (simp only [Int.reduceToNat] at ho8; rw [← Ny1007.out] at ho8)); replace HO_5 := am_ (Kd.S_elder' (have z0_ := HO_5; Zae) (Kd.R_base ho8) hb); replace HO1009 := am_ (Kd.R_lower ho8 (below_size (have z0_ := GE1006; Zk))); replace BK1006 := (have z0_ := BK1006; bkZ hb); replace HB := (bsZ (have z0_ := GE1006; Zk) hb); clear hb ho8; obtain ⟨Ao10, co10, eo10⟩ := Kd.R_slice HO1009.out; subst eo10) | ((with_reducible refine gate_builtin (b := .append) (xs := #[.tmp 23, .tmp 33]) rfl ?_); at_builtin; refine Kd.S_append (Kd.slice 2 (Kd.int .i64)) (w0 := w) w.heap.size rfl (.tmp 23) (.tmp 33) 51 33 (.slice none 0 0) 24 rfl Try.underlying51 info33 rfl (by decide) (by omega) u5 x5_1 y1007 [.slice Ao10 y1007.length co10] (fun _ => True) (fun k_ => some k_ = (.slice Ao10 y1007.length co10 : Value).ownBlock) rfl rfl ?aP (fun k_ hk_ => ((Kd.R_mono (ok' := fun k_ => ((fun _ => True)) k_ ∧ some k_ ≠ (u5 : Value).ownBlock) (Kd.R_apart' (HO1009.out) (Kd.S_typed HO_5.out) (by decide)) (fun k_ hk => ⟨trivial, hk.2⟩))).1 k_ hk_.symm) ?aF ?aO ?aB ?aS ?aL ?_; (case aP => exact Kd.M_row (Kd.R_mono (Kd.R_tight rfl (Kd.R_mono (ok' := fun k_ => ((fun _ => True)) k_ ∧ some k_ ≠ (u5 : Value).ownBlock) (Kd.R_apart' (HO1009.out) (Kd.S_typed HO_5.out) (by decide)) (fun k_ hk => ⟨trivial, hk.2⟩))) (fun _ h_ => h_))); (case aB => exact (have z0_ := GE1006; Zk)); (case aF => exact (fun _ _ => trivial)); (case aO => exact (by (with_reducible repeat (first | apply Kd.S_alloc | apply Kd.S_drewN | apply Kd.S_drew)); exact Kd.S_mono HO_5.out (fun k_ hk => ⟨trivial, fun e_ => hk.2 e_⟩))); (case aS => exact (below_size (have z0_ := GE1006; Zk))); (case aL => have := LMc5.out; omega); intro v1011 w9 ho hb hg hat; rw [← Ny1010.out] at ho; replace BK1006 := am_ (blk_grown (g := gb1006) (o := .cells #[.string a0_0, .int .i64 a0_1, .int .i64 a0_2, .int .i64 a0_3, .int .i64 a0_4, .int .i64 a0_5, .int .i64 a0_6, .int .i64 a0_7, .int .i64 a0_8] 62 (0, 0)) (have z0_ := BK1006; Zs) hg (Kd.S_ne HO_5.out BK1006.out (by decide))); replace HB := am_ (hb); replace HO1012 := am_ (ho); clear HO_5 HO1009; clear ho hb hg hat))
     go_roundg k1
     case measure => have := HK1.out; omega
     case rel => exact ⟨(y1010), (wrap64 (x6_1 + 1)), Za, H', ⟨Zd⟩, ⟨(have z0_ := HO1012; Zae)⟩, ⟨(have z0_ := BK1006; Zs)⟩, ⟨(have z0_ := GE1006; Zk)⟩⟩
    ·rw [if_neg c5] at H
     exact absurd H (by simp)
   ·rw [if_neg c4] at H
    have c4b0 := decide_eq_false c4; clear c4; obtain rfl := Option.some.inj H; refine ci9 BK1006 ?_; intros
    go_wp2
    go_ret
    exact ⟨_, Zg, (have z0_ := HO_5; Zae), (have z0_ := GE1006; Zk)⟩
def impl_windowsOfCue.f (k : Nat) (l0_0 : List (S104)) (l0_1 : List (S62)) (l0_2 : List (S39)) (a1_0 : Int) (a1_1 : Int) (a1_2 : ByteArray) (a1_3 : Int) : Option ((List (List Int))) := (impl_articleFor.f k l0_0 l0_1 l0_2 a1_0 a1_1 a1_2 a1_3).bind fun bt1015 => ((impl_firedAt.f k l0_0 l0_1 l0_2 a1_0 a1_1 a1_2 a1_3).bind fun t1024 => ((impl_shotWindows.f k bt1015.1 bt1015.2.1 bt1015.2.2.1 bt1015.2.2.2.1 bt1015.2.2.2.2.1 bt1015.2.2.2.2.2.1 bt1015.2.2.2.2.2.2.1 bt1015.2.2.2.2.2.2.2.1 bt1015.2.2.2.2.2.2.2.2 t1024).bind fun t1025 => (some t1025)))
def impl_windowsOfCue.T1 : Bool × List (List Nat × List Nat) := (true, [([], []), ([], []), ([0, 1], [0, 1]), ([], []), ([], []), ([3, 4, 2], [3, 4]), ([2, 5, 5], [2, 5]), ([6, 6, 0, 1, 2, 3, 4, 5, 6], [6])])
def impl_windowsOfCue.B1 : List Nat := [0, 0, 3, 0, 0, 31, 63, 127]
theorem impl_windowsOfCue.tab1 : rtab .any (opsOf Try.f75 1) = impl_windowsOfCue.T1 := by kernel_rfl
theorem impl_windowsOfCue.bits1 : waitsOk impl_windowsOfCue.T1.2 impl_windowsOfCue.B1 = true := by kernel_rfl
set_option maxHeartbeats 8000000 in
set_option maxRecDepth 100000 in
theorem impl_windowsOfCue.calls (k : Nat) (A0_0 : Option Addr) (c0_0 : Nat) (l0_0 : List (S104)) (A0_1 : Option Addr) (c0_1 : Nat) (l0_1 : List (S62)) (A0_2 : Option Addr) (c0_2 : Nat) (l0_2 : List (S39)) (a1_0 : Int) (a1_1 : Int) (a1_2 : ByteArray) (a1_3 : Int) (r : List (List Int)) (w : World) (hr0_0 : Kd.C k104 w A0_0 l0_0.length l0_0) (hc0_0 : l0_0.length ≤ c0_0) (hr0_1 : Kd.C k62 w A0_1 l0_1.length l0_1) (hc0_1 : l0_1.length ≤ c0_1) (hr0_2 : Kd.C k39 w A0_2 l0_2.length l0_2) (hc0_2 : l0_2.length ≤ c0_2) (h : impl_windowsOfCue.f k l0_0 l0_1 l0_2 a1_0 a1_1 a1_2 a1_3 = some r) :
  Calls Try.prog 75 #[.agg #[.slice A0_0 l0_0.length c0_0, .slice A0_1 l0_1.length c0_1, .slice A0_2 l0_2.length c0_2], .agg #[.int .i64 a1_0, .int .i64 a1_1, .string a1_2, .int .i64 a1_3]] w fun e w' => ∃ v0_ : Value, e = .returned (v0_) ∧ Kd.S (Kd.slice 2 (Kd.int .i64)) 33 w' w.heap.size (fun _ => True) v0_ r ∧ Below w.heap.size w w' := by
 have hu28 := Try.underlying28; have hu39 := Try.underlying39; have HR0_0 := am_ hr0_0; have HC0_0 := am_ hc0_0; clear hr0_0 hc0_0; have HR0_1 := am_ hr0_1; have HC0_1 := am_ hc0_1; clear hr0_1 hc0_1; have HR0_2 := am_ hr0_2; have HC0_2 := am_ hc0_2; clear hr0_2 hc0_2; have HB := am_ (Below.refl w.heap.size w); have H : ((impl_articleFor.f k l0_0 l0_1 l0_2 a1_0 a1_1 a1_2 a1_3).bind fun bt1015 => ((impl_firedAt.f k l0_0 l0_1 l0_2 a1_0 a1_1 a1_2 a1_3).bind fun t1024 => ((impl_shotWindows.f k bt1015.1 bt1015.2.1 bt1015.2.2.1 bt1015.2.2.2.1 bt1015.2.2.2.2.1 bt1015.2.2.2.2.2.1 bt1015.2.2.2.2.2.2.1 bt1015.2.2.2.2.2.2.2.1 bt1015.2.2.2.2.2.2.2.2 t1024).bind fun t1025 => (some t1025)))) = some r := h; clear h; replace H := Option.bind_eq_some_iff.mp H; obtain ⟨⟨t1015, t1016, t1017, t1018, t1019, t1020, t1021, t1022, t1023⟩, A30, H⟩ := H; replace H : ((impl_firedAt.f k l0_0 l0_1 l0_2 a1_0 a1_1 a1_2 a1_3).bind fun t1024 => ((impl_shotWindows.f k t1015 t1016 t1017 t1018 t1019 t1020 t1021 t1022 t1023 t1024).bind fun t1025 => (some t1025))) = some r := H; have A3 := am_ A30; clear A30; replace H := Option.bind_eq_some_iff.mp H; obtain ⟨t1024, A40, H⟩ := H; have A4 := am_ A40; clear A40; replace H := Option.bind_eq_some_iff.mp H; obtain ⟨t1025, A50, H⟩ := H; have A5 := am_ A50; clear A50; obtain rfl := Option.some.inj H
 go_enter Try.func75, Try.ntmps75
 try go_wp2_with (first | ((with_reducible refine gate_dst (N := 2) rfl ?_); refine boxZ 2 #[.slice A0_0 l0_0.length c0_0, .slice A0_1 l0_1.length c0_1, .slice A0_2 l0_2.length c0_2] 28 ?_; intro gb1013 hg w6 hbox hb; replace BK1013 := am_ (hbox); replace GW1013 := am_ ((Zh : w.heap.size ≤ gb1013)); replace GE1013 := GW1013; replace HB := (bsZ Zf hb); clear hb hbox hg) | ((with_reducible refine gate_dst (N := 3) rfl ?_); refine boxZ 3 #[.int .i64 a1_0, .int .i64 a1_1, .string a1_2, .int .i64 a1_3] 39 ?_; intro gb1014 hg w7 hbox hb; replace BK1014 := am_ (hbox); replace GW1014 := am_ (((have z0_ := GE1013; Zn) : w.heap.size ≤ gb1014)); replace GE1014 := GW1014; replace HB := (bsZ (have z0_ := GE1013; Zk) hb); replace NB1013_1014 := am_ ((by rw [hg]; exact Nat.ne_of_lt (blk_lt (g := gb1013) (o := .cells #[.slice A0_0 l0_0.length c0_0, .slice A0_1 l0_1.length c0_1, .slice A0_2 l0_2.length c0_2] 28 (0, 0)) (have z0_ := BK1013; Zs)) : gb1013 ≠ gb1014)); replace NB1014_1013 := am_ ((by rw [hg]; exact Nat.ne_of_gt (blk_lt (g := gb1013) (o := .cells #[.slice A0_0 l0_0.length c0_0, .slice A0_1 l0_1.length c0_1, .slice A0_2 l0_2.length c0_2] 28 (0, 0)) (have z0_ := BK1013; Zs)) : gb1014 ≠ gb1013)); replace BK1013 := (have z0_ := BK1013; bkZ hb); clear hb hbox hg))
 replace BK1013 := am_ (blk_drew BK1013.out); replace BK1014 := am_ (blk_drew BK1014.out); replace HB := am_ (below_drew1 HB.out); refine start_ (n := 8) (S := fun w' => w'.cell? ⟨gb1013, 0, none⟩ = some (.slice A0_0 l0_0.length c0_0) ∧ w'.cell? ⟨gb1013, 1, none⟩ = some (.slice A0_1 l0_1.length c0_1) ∧ w'.cell? ⟨gb1013, 2, none⟩ = some (.slice A0_2 l0_2.length c0_2) ∧ w'.cell? ⟨gb1014, 0, none⟩ = some (.int .i64 a1_0) ∧ w'.cell? ⟨gb1014, 1, none⟩ = some (.int .i64 a1_1) ∧ w'.cell? ⟨gb1014, 2, none⟩ = some (.string a1_2) ∧ w'.cell? ⟨gb1014, 3, none⟩ = some (.int .i64 a1_3)) (ds := []) (bT 8 0) Zi rfl rfl ⟨(blk_cell BK1013.out 0).trans rfl, (blk_cell BK1013.out 1).trans rfl, (blk_cell BK1013.out 2).trans rfl, (blk_cell BK1014.out 0).trans rfl, (blk_cell BK1014.out 1).trans rfl, (blk_cell BK1014.out 2).trans rfl, (blk_cell BK1014.out 3).trans rfl⟩ (fun hHeld => ?_); refine with_tabW impl_windowsOfCue.tab1 impl_windowsOfCue.bits1 (fun HT_ HW_ => ?_); generalize w7.drew = w8 at BK1013 BK1014 HB hHeld ⊢; refine takeZ7 HT_ HW_ 0 (some 5) (bT 8 1) hHeld ?_; refine takeZ7 HT_ HW_ 1 (some 6) (bT 8 2) hHeld ?_; refine takeZ7 HT_ HW_ 3 (some 8) #[true, true, false, true, false, false, false, false] hHeld ?_; refine takeZ7 HT_ HW_ 4 (some 9) #[true, true, false, true, true, false, false, false] hHeld ?_; refine one_ (i := 2) (N := some 7) (bT 8 5) rfl rfl (one_of HT_.out Zi) (by decide) (fun K hK => ?_); refine goes_ Try.func80 Zi rfl #[.agg #[.slice A0_0 l0_0.length c0_0, .slice A0_1 l0_1.length c0_1, .slice A0_2 l0_2.length c0_2], .agg #[.int .i64 a1_0, .int .i64 a1_1, .string a1_2, .int .i64 a1_3]] (by rfl) rfl rfl Zj ?_
 with_reducible refine (impl_articleFor.calls k _ _ l0_0 _ _ l0_1 _ _ l0_2 a1_0 a1_1 a1_2 a1_3 t1015 t1016 t1017 t1018 t1019 t1020 t1021 t1022 t1023 _ ?side1 ?side2 ?side3 ?side4 ?side5 ?side6 A3.out).mono ?_
 (case side1 => exact (have z0_ := HR0_0; Zq))
 (case side2 => exact HC0_0.out)
 (case side3 => exact (have z0_ := HR0_1; Zq))
 (case side4 => exact HC0_1.out)
 (case side5 => exact (have z0_ := HR0_2; Zq))
 (case side6 => exact HC0_2.out)
 rintro e w9 ⟨rfl, hb⟩; refine ⟨_, rfl, ?_⟩; replace BK1013 := (have z0_ := BK1013; bkZ hb); replace BK1014 := (have z0_ := BK1014; bkZ hb); replace HB := (bsZ (have z0_ := GE1013; have z1_ := GE1014; Zr) hb)
 (try clear hb)
 (try clear hb2)
 (try clear hk)
 (try clear hi)
 refine hK.out _ _ (have z0_ := BK1013; have z1_ := BK1014; Zaf) (fun hHeld => ?_); clear hK K; refine normZ 7 ?_; refine one_ (i := 5) (N := some 10) (bT 8 6) rfl rfl (one_of HT_.out Zi) (by decide) (fun K hK => ?_); refine goes_ Try.func70 Zi rfl #[.agg #[.slice A0_0 l0_0.length c0_0, .slice A0_1 l0_1.length c0_1, .slice A0_2 l0_2.length c0_2], .agg #[.int .i64 a1_0, .int .i64 a1_1, .string a1_2, .int .i64 a1_3]] (by rfl) rfl rfl Zj ?_
 with_reducible refine (impl_firedAt.calls k _ _ l0_0 _ _ l0_1 _ _ l0_2 a1_0 a1_1 a1_2 a1_3 t1024 _ ?side1 ?side2 ?side3 ?side4 ?side5 ?side6 A4.out).mono ?_
 (case side1 => exact (have z0_ := HR0_0; Zq))
 (case side2 => exact HC0_0.out)
 (case side3 => exact (have z0_ := HR0_1; Zq))
 (case side4 => exact HC0_1.out)
 (case side5 => exact (have z0_ := HR0_2; Zq))
 (case side6 => exact HC0_2.out)
 rintro e w10 ⟨rfl, hb⟩; refine ⟨_, rfl, ?_⟩; replace BK1013 := (have z0_ := BK1013; bkZ hb); replace BK1014 := (have z0_ := BK1014; bkZ hb); replace HB := (bsZ (have z0_ := GE1013; have z1_ := GE1014; Zr) hb)
 (try clear hb)
 (try clear hb2)
 (try clear hk)
 (try clear hi)
 refine hK.out _ _ (have z0_ := BK1013; have z1_ := BK1014; Zaf) (fun hHeld => ?_); clear hK K; refine normZ 10 ?_; refine one_ (i := 6) (N := some 11) (bT 8 7) rfl rfl (one_of HT_.out Zi) (by decide) (fun K hK => ?_); refine goes_ Try.func92 Zi rfl #[.agg #[.string t1015, .int .i64 t1016, .int .i64 t1017, .int .i64 t1018, .int .i64 t1019, .int .i64 t1020, .int .i64 t1021, .int .i64 t1022, .int .i64 t1023], .int .i64 t1024] (by rfl) rfl rfl Zj ?_
 with_reducible refine (impl_shotWindows.calls k t1015 t1016 t1017 t1018 t1019 t1020 t1021 t1022 t1023 t1024 t1025 _ A5.out).mono ?_
 rintro e w11 ⟨v1026, rfl, ho0, hb⟩; refine ⟨_, rfl, ?_⟩; replace HO1027 := am_ (Kd.S_lower ho0 (below_size (have z0_ := GE1013; have z1_ := GE1014; Zr))); replace BK1013 := (have z0_ := BK1013; bkZ hb); replace BK1014 := (have z0_ := BK1014; bkZ hb); replace HB := (bsZ (have z0_ := GE1013; have z1_ := GE1014; Zr) hb)
 (try clear hb)
 (try clear hb2)
 (try clear hk)
 (try clear hi)
 (try clear ho0)
 refine hK.out _ _ (have z0_ := BK1013; have z1_ := BK1014; Zaf) (fun hHeld => ?_); clear hK K; refine normZ 11 ?_; refine pureZ HT_ 7 (some 4) (bT 8 8) ?_; refine done_ (done_of HT_.out Zi) ?_
 try go_wp2
 go_ret
 exact ⟨_, Zg, (have z0_ := HO1027; Zae), (have z0_ := GE1013; have z1_ := GE1014; Zr)⟩
end Go.Proofs.Ythhijbdekboahaa.F
