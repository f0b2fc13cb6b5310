import Derived.Test.YtnifblnlpepehaaJFnDark1
import Derived.Below
import Derived.Deep.Draws
import Derived.Deep.AppendLies
import Derived.Maps.AppendAt
import Derived.OwnWalk
import Derived.Laws.BytesArg
import Derived.Laws.MakeOwn
import Derived.Laws.OwnMore
import Derived.Tactics
import Derived.Lib.ConvBytes
import Derived.Laws.Slices
import Derived.WalkKit
import Derived.KernelRfl
import Derived.RowKit3
import Derived.Deep.LoopGhost
import Derived.Deep.QuietTactic
import Derived.BigQuiet
import Derived.WideLaws
import Derived.Deep.DeepCutAuto
import Derived.Deep.CutBlock
import Derived.Deep.RegionHeld3
import Derived.Lib.AppendStr
import Derived.ArgAppend
import Derived.Laws.IdiomCopy
import Derived.RowKit
import Derived.OrdersHeld
import Derived.Laws.BitsLemmas
import Derived.Laws.StructEq
import Derived.Test.YtnifblnlpepehaaProg
import Derived.Laws.Cover1
namespace Go.Proofs.Ytnifblnlpepehaa.F
open Go.RowKit Go.Proofs.YtnifblnlpepehaaW.PrintWords Go.Proofs.YtnifblnlpepehaaW.PrintLast Go.Proofs.YtnifblnlpepehaaW.PrintMore
attribute [local go_sem] max2_int min2_int max_two min_two max_three min_three max_four min_four   -- for this text's walks alone
set_option linter.unusedVariables false
set_option linter.unusedSimpArgs false
def errW : Option Int → Value
 | none => .nilIface
 | some c => .iface 0 (.int .i64 c)
theorem errW_none : errW none = .nilIface := rfl
theorem errW_some (c : Int) : errW (some c) = .iface 0 (.int .i64 c) := rfl
theorem info2 : (Try.prog.info? 2).map (fun i => (i.zero, i.size, i.bytes)) = some (some (.int .i64 0), 1, 8) := by kernel_rfl
theorem info47 : (Try.prog.info? 47).map (fun i => (i.zero, i.size, i.bytes)) = some (some (.slice none 0 0), 1, 24) := by kernel_rfl
theorem info80 : (Try.prog.info? 80).map (fun i => (i.zero, i.size, i.bytes)) = some (some (.agg #[(.int .i64 0), (.int .i64 0), (.string ⟨#[]⟩), (.int .i64 0)]), 4, 40) := by kernel_rfl
theorem info87 : (Try.prog.info? 87).map (fun i => (i.zero, i.size, i.bytes)) = some (some (.agg #[(.int .i64 0), (.int .i64 0)]), 2, 16) := by kernel_rfl
theorem info91 : (Try.prog.info? 91).map (fun i => (i.zero, i.size, i.bytes)) = some (some (.agg #[(.string ⟨#[]⟩), (.int .i64 0), (.int .i64 0), (.int .i64 0), (.int .i64 0), (.int .i64 0), (.int .i64 0), (.int .i64 0), (.int .i64 0)]), 9, 80) := by kernel_rfl
structure S87 where
 f0 : Int
 f1 : Int
def z87 : S87 := ⟨(0 : Int), (0 : Int)⟩
def k87 : Kd S87 := Kd.iso (Kd.pair (Kd.int .i64) (Kd.int .i64)) (fun x : S87 => (x.f0, x.f1))
theorem k87_open {w : World} {x : S87} {cs : List Value} (h : k87.K w x cs) : cs = [.int .i64 x.f0, .int .i64 x.f1] := by
 obtain ⟨_, _, rfl, rfl, rfl⟩ := h
 exact rfl
theorem k87_openM {w : World} {base : Nat} {ok : Nat → Prop} {x : S87} {cs : List Value} (h : k87.M w base ok x cs) : cs = [.int .i64 x.f0, .int .i64 x.f1] := by
 obtain ⟨_, _, rfl, rfl, rfl⟩ := h
 exact rfl
theorem k87_mkM (w : World) (base : Nat) (ok : Nat → Prop) (x : S87)  : k87.M w base ok x [.int .i64 x.f0, .int .i64 x.f1] := ⟨[.int .i64 x.f0], [.int .i64 x.f1], rfl, rfl, rfl⟩
def rd_T87 (xs : List S87) (i : Int) : S87 := xs.getD i.toNat z87
theorem at_T87 {w : World} {A : Option Addr} {n : Nat} {xs : List S87} (h : Kd.C k87 w A n xs) (i : Int) (h0 : 0 ≤ i) (h1 : i < n) : ∃ ad , A = some ad ∧ w.cell? (ad.add (i.toNat * 2)) = some (.int .i64 (rd_T87 xs i).f0) ∧ w.cell? ⟨(ad.add (i.toNat * 2)).block, (ad.add (i.toNat * 2)).off + 1, none⟩ = some (.int .i64 (rd_T87 xs i).f1) := by
 obtain ⟨ad, c, e, _, hK, hc0⟩ := Kd.C_get h z87 i h0 h1
 have hc : ∀ j u, c[j]? = some u → w.cell? (ad.add (i.toNat * 2 + j)) = some u := hc0
 obtain rfl := k87_open hK
 exact ⟨ad, e, hc 0 _ rfl, by rw [← add_field _ _ 1 (by omega)]; exact hc 1 _ rfl⟩
structure S91 where
 f0 : ByteArray
 f1 : Int
 f2 : Int
 f3 : Int
 f4 : Int
 f5 : Int
 f6 : Int
 f7 : Int
 f8 : Int
def z91 : S91 := ⟨(⟨#[]⟩ : ByteArray), (0 : Int), (0 : Int), (0 : Int), (0 : Int), (0 : Int), (0 : Int), (0 : Int), (0 : Int)⟩
def k91 : Kd S91 := Kd.iso (Kd.pair Kd.string (Kd.pair (Kd.int .i64) (Kd.pair (Kd.int .i64) (Kd.pair (Kd.int .i64) (Kd.pair (Kd.int .i64) (Kd.pair (Kd.int .i64) (Kd.pair (Kd.int .i64) (Kd.pair (Kd.int .i64) (Kd.int .i64))))))))) (fun x : S91 => (x.f0, x.f1, x.f2, x.f3, x.f4, x.f5, x.f6, x.f7, x.f8))
theorem k91_open {w : World} {x : S91} {cs : List Value} (h : k91.K w x cs) : cs = [.string x.f0, .int .i64 x.f1, .int .i64 x.f2, .int .i64 x.f3, .int .i64 x.f4, .int .i64 x.f5, .int .i64 x.f6, .int .i64 x.f7, .int .i64 x.f8] := by
 obtain ⟨_, _, rfl, rfl, ⟨_, _, rfl, rfl, ⟨_, _, rfl, rfl, ⟨_, _, rfl, rfl, ⟨_, _, rfl, rfl, ⟨_, _, rfl, rfl, ⟨_, _, rfl, rfl, ⟨_, _, rfl, rfl, rfl⟩⟩⟩⟩⟩⟩⟩⟩ := h
 exact rfl
theorem k91_mkM (w : World) (base : Nat) (ok : Nat → Prop) (x : S91)  : k91.M w base ok x [.string x.f0, .int .i64 x.f1, .int .i64 x.f2, .int .i64 x.f3, .int .i64 x.f4, .int .i64 x.f5, .int .i64 x.f6, .int .i64 x.f7, .int .i64 x.f8] := ⟨[.string x.f0], [.int .i64 x.f1, .int .i64 x.f2, .int .i64 x.f3, .int .i64 x.f4, .int .i64 x.f5, .int .i64 x.f6, .int .i64 x.f7, .int .i64 x.f8], rfl, rfl, ⟨[.int .i64 x.f1], [.int .i64 x.f2, .int .i64 x.f3, .int .i64 x.f4, .int .i64 x.f5, .int .i64 x.f6, .int .i64 x.f7, .int .i64 x.f8], rfl, rfl, ⟨[.int .i64 x.f2], [.int .i64 x.f3, .int .i64 x.f4, .int .i64 x.f5, .int .i64 x.f6, .int .i64 x.f7, .int .i64 x.f8], rfl, rfl, ⟨[.int .i64 x.f3], [.int .i64 x.f4, .int .i64 x.f5, .int .i64 x.f6, .int .i64 x.f7, .int .i64 x.f8], rfl, rfl, ⟨[.int .i64 x.f4], [.int .i64 x.f5, .int .i64 x.f6, .int .i64 x.f7, .int .i64 x.f8], rfl, rfl, ⟨[.int .i64 x.f5], [.int .i64 x.f6, .int .i64 x.f7, .int .i64 x.f8], rfl, rfl, ⟨[.int .i64 x.f6], [.int .i64 x.f7, .int .i64 x.f8], rfl, rfl, ⟨[.int .i64 x.f7], [.int .i64 x.f8], rfl, rfl, rfl⟩⟩⟩⟩⟩⟩⟩⟩
def rd_T91 (xs : List S91) (i : Int) : S91 := xs.getD i.toNat z91
theorem at_T91 {w : World} {A : Option Addr} {n : Nat} {xs : List S91} (h : Kd.C k91 w A n xs) (i : Int) (h0 : 0 ≤ i) (h1 : i < n) : ∃ ad , A = some ad ∧ w.cell? (ad.add (i.toNat * 9)) = some (.string (rd_T91 xs i).f0) ∧ w.cell? ⟨(ad.add (i.toNat * 9)).block, (ad.add (i.toNat * 9)).off + 1, none⟩ = some (.int .i64 (rd_T91 xs i).f1) ∧ w.cell? ⟨(ad.add (i.toNat * 9)).block, (ad.add (i.toNat * 9)).off + 2, none⟩ = some (.int .i64 (rd_T91 xs i).f2) ∧ w.cell? ⟨(ad.add (i.toNat * 9)).block, (ad.add (i.toNat * 9)).off + 3, none⟩ = some (.int .i64 (rd_T91 xs i).f3) ∧ w.cell? ⟨(ad.add (i.toNat * 9)).block, (ad.add (i.toNat * 9)).off + 4, none⟩ = some (.int .i64 (rd_T91 xs i).f4) ∧ w.cell? ⟨(ad.add (i.toNat * 9)).block, (ad.add (i.toNat * 9)).off + 5, none⟩ = some (.int .i64 (rd_T91 xs i).f5) ∧ w.cell? ⟨(ad.add (i.toNat * 9)).block, (ad.add (i.toNat * 9)).off + 6, none⟩ = some (.int .i64 (rd_T91 xs i).f6) ∧ w.cell? ⟨(ad.add (i.toNat * 9)).block, (ad.add (i.toNat * 9)).off + 7, none⟩ = some (.int .i64 (rd_T91 xs i).f7) ∧ w.cell? ⟨(ad.add (i.toNat * 9)).block, (ad.add (i.toNat * 9)).off + 8, none⟩ = some (.int .i64 (rd_T91 xs i).f8) := by
 obtain ⟨ad, c, e, _, hK, hc0⟩ := Kd.C_get h z91 i h0 h1
 have hc : ∀ j u, c[j]? = some u → w.cell? (ad.add (i.toNat * 9 + j)) = some u := hc0
 obtain rfl := k91_open hK
 exact ⟨ad, e, hc 0 _ rfl, by rw [← add_field _ _ 1 (by omega)]; exact hc 1 _ rfl, by rw [← add_field _ _ 2 (by omega)]; exact hc 2 _ rfl, by rw [← add_field _ _ 3 (by omega)]; exact hc 3 _ rfl, by rw [← add_field _ _ 4 (by omega)]; exact hc 4 _ rfl, by rw [← add_field _ _ 5 (by omega)]; exact hc 5 _ rfl, by rw [← add_field _ _ 6 (by omega)]; exact hc 6 _ rfl, by rw [← add_field _ _ 7 (by omega)]; exact hc 7 _ rfl, by rw [← add_field _ _ 8 (by omega)]; exact hc 8 _ rfl⟩
structure S80 where
 f0 : Int
 f1 : Int
 f2 : ByteArray
 f3 : Int
def z80 : S80 := ⟨(0 : Int), (0 : Int), (⟨#[]⟩ : ByteArray), (0 : Int)⟩
def k80 : Kd S80 := Kd.iso (Kd.pair (Kd.int .i64) (Kd.pair (Kd.int .i64) (Kd.pair Kd.string (Kd.int .i64)))) (fun x : S80 => (x.f0, x.f1, x.f2, x.f3))
theorem k80_open {w : World} {x : S80} {cs : List Value} (h : k80.K w x cs) : cs = [.int .i64 x.f0, .int .i64 x.f1, .string x.f2, .int .i64 x.f3] := by
 obtain ⟨_, _, rfl, rfl, ⟨_, _, rfl, rfl, ⟨_, _, rfl, rfl, rfl⟩⟩⟩ := h
 exact rfl
theorem k80_mkM (w : World) (base : Nat) (ok : Nat → Prop) (x : S80)  : k80.M w base ok x [.int .i64 x.f0, .int .i64 x.f1, .string x.f2, .int .i64 x.f3] := ⟨[.int .i64 x.f0], [.int .i64 x.f1, .string x.f2, .int .i64 x.f3], rfl, rfl, ⟨[.int .i64 x.f1], [.string x.f2, .int .i64 x.f3], rfl, rfl, ⟨[.string x.f2], [.int .i64 x.f3], rfl, rfl, rfl⟩⟩⟩
def rd_T80 (xs : List S80) (i : Int) : S80 := xs.getD i.toNat z80
theorem at_T80 {w : World} {A : Option Addr} {n : Nat} {xs : List S80} (h : Kd.C k80 w A n xs) (i : Int) (h0 : 0 ≤ i) (h1 : i < n) : ∃ ad , A = some ad ∧ w.cell? (ad.add (i.toNat * 4)) = some (.int .i64 (rd_T80 xs i).f0) ∧ w.cell? ⟨(ad.add (i.toNat * 4)).block, (ad.add (i.toNat * 4)).off + 1, none⟩ = some (.int .i64 (rd_T80 xs i).f1) ∧ w.cell? ⟨(ad.add (i.toNat * 4)).block, (ad.add (i.toNat * 4)).off + 2, none⟩ = some (.string (rd_T80 xs i).f2) ∧ w.cell? ⟨(ad.add (i.toNat * 4)).block, (ad.add (i.toNat * 4)).off + 3, none⟩ = some (.int .i64 (rd_T80 xs i).f3) := by
 obtain ⟨ad, c, e, _, hK, hc0⟩ := Kd.C_get h z80 i h0 h1
 have hc : ∀ j u, c[j]? = some u → w.cell? (ad.add (i.toNat * 4 + j)) = some u := hc0
 obtain rfl := k80_open hK
 exact ⟨ad, e, hc 0 _ rfl, by rw [← add_field _ _ 1 (by omega)]; exact hc 1 _ rfl, by rw [← add_field _ _ 2 (by omega)]; exact hc 2 _ rfl, by rw [← add_field _ _ 3 (by omega)]; exact hc 3 _ rfl⟩
def rd_L5 (xs : List (List Int)) (i : Int) : (List Int) := xs.getD i.toNat ([] : List Int)
theorem at_L5 {w : World} {A : Option Addr} {n : Nat} {xs : List (List Int)} (h : Kd.C (Kd.slice 2 (Kd.int .i64)) w A n xs) (i : Int) (h0 : 0 ≤ i) (h1 : i < n) : ∃ ad A0 c0, A = some ad ∧ w.cell? (ad.add i.toNat) = some (.slice A0 (rd_L5 xs i).length c0) ∧ (rd_L5 xs i).length ≤ c0 ∧ (Kd.int .i64).C w A0 (rd_L5 xs i).length (rd_L5 xs i) := by
 obtain ⟨ad, c, e, _, hK, hc0⟩ := Kd.C_get h ([] : List Int) i h0 h1
 have hc : ∀ j u, c[j]? = some u → w.cell? (ad.add (i.toNat * 1 + j)) = some u := hc0
 obtain ⟨A0, c0, rfl, l0, g0⟩ := hK
 exact ⟨ad, A0, c0, e, by have hq := hc 0 _ rfl; rwa [Nat.mul_one, Nat.add_zero] at hq, l0, g0⟩
structure S89 where
 f0 : Int
 f1 : Int
structure S74 where
 f0 : ByteArray
 f1 : Int
 f2 : Int
 f3 : Int
 f4 : Int
 f5 : Int
 f6 : Int
 f7 : Int
 f8 : Int
structure S77 where
 f0 : Int
 f1 : Int
 f2 : ByteArray
 f3 : Int
end Go.Proofs.Ytnifblnlpepehaa.F
namespace Go.Proofs.Ytnifblnlpepehaa.F
open Go.RowKit Go.Proofs.YtnifblnlpepehaaW.PrintWords Go.Proofs.YtnifblnlpepehaaW.PrintLast Go.Proofs.YtnifblnlpepehaaW.PrintMore
theorem am_ {p : Prop} (h : p) : Aside0 p := ⟨h⟩
theorem fnt_ : ¬ (false = true) := by decide
theorem nN {α : Type} {P c : Prop} [Decidable c] {a : Option α} {r : α} (hc : ¬ c) (H : (if c then a else none) = some r) : P := by rw [if_neg hc] at H; exact absurd H (by simp)
theorem bE_ {α β : Type} {x : Option α} {f : α → Option β} {b : β} (h : x.bind f = some b) : ∃ a, Aside0 (x = some a) ∧ f a = some b := (Option.bind_eq_some_iff.mp h).elim fun a h => ⟨a, ⟨h.1⟩, h.2⟩
theorem cbH {w w1 : World} {a : Addr} {v : Value} (HB : Aside0 (Below w.heap.size w w1)) (h : w.cell? a = some v) : w1.cell? a = some v := (HB.out.cell (World.block_lt_of_cell? w _ h)).trans h
theorem Zput {P : Prop} (h : P := by simp only [Act.put, List.setIfInBounds_toArray, List.set_cons_zero, List.set_cons_succ, i64_w, i32_w]; rfl) : P := h
theorem pureZ {P : Program} {ops : Array Oper} {Q : Exit → Act → World → Prop} {md : Region.Mode} {S : World → Prop} {ds : List Nat} {T : Bool × List (List Nat × List Nat)} (HT_ : Aside0 (rtab md ops = T)) (i : Nat) (N : Option Tmp) (l' : Array Bool) {oi : Oper} {v : Value} {fuel : Nat} {l : Array Bool} {a a' : Act} {w : World} (h : wpAnyLast P md ops Q S ds fuel l' a' w)
    (hi : ops[i]? = some oi := by rfl) (hN : oi.dst = N := by rfl) (hc : anyT T l.toList l'.toList i = true := by kernel_rfl) (hQ : ∀ c a w, Q (.panic c) (a.put oi.dst v) w → Q (.panic c) a w := by exact fun _ _ _ h => h) (hy : Yields P ops oi v a := by exact Or.inl ⟨by rfl, by intro w'; go_simp; with_reducible rfl⟩) (ha : a.put N v = a' := by simp only [Act.put, List.setIfInBounds_toArray, List.set_cons_zero, List.set_cons_succ, i64_w, i32_w]; rfl) : wpAnyLast P md ops Q S ds (fuel + 1) l a w := pure_ l' hi hN (any_of HT_.out hc) hQ hy ha h
theorem boxZ {P : Program} {ops : Array Oper} {Q : Exit → Act → World → Prop} {rest : List Oper} {o : Oper} {a : Act} {W : World} (N : Tmp) (cs : Array Value) (t : TypeId) (h : ∀ g, g = W.heap.size → ∀ w1, w1.heap[g]? = some (.cells cs t (0, 0)) → Below W.heap.size W w1 → wpList P ops Q rest (a.put o.dst (.pointer (some ⟨g, 0, none⟩))) w1)
    (hd : o.dst = some N := by rfl) (hg : o.guard = none := by rfl) (hr : (execOp a.eval o).run P W = .ok (.value (.pointer (some ⟨W.heap.size, 0, none⟩))) (W.alloc (.cells cs t (0, 0))) := by first | (go_simp; done) | (go_simp; rfl)) : wpList P ops Q (o :: rest) a W := box_event hg hd hr h
theorem normZ {P : Program} {ops : Array Oper} {Q : Exit → Act → World → Prop} {md : Region.Mode} {S : World → Prop} {ds : List Nat} {fuel : Nat} {l : Array Bool} {a a' : Act} {v : Value} {w : World} (N : Tmp) (h : wpAnyLast P md ops Q S ds fuel l a' w) (ha : Act.put a (some N) v = a' := by simp only [Act.put, List.setIfInBounds_toArray, List.set_cons_zero, List.set_cons_succ, i64_w, i32_w]; rfl) : wpAnyLast P md ops Q S ds fuel l (Act.put a (some N) v) w := norm_ ha h
theorem normP {P : Program} {ops : Array Oper} {Q : Exit → Act → World → Prop} {md : Region.Mode} {S : World → Prop} {ds : List Nat} {fuel : Nat} {l : Array Bool} {a a' : Act} {w : World} (h : wpAnyLast P md ops Q S ds fuel l a' w) (ha : a = a' := by simp only [putAll, Act.put, List.setIfInBounds_toArray, List.set_cons_zero, List.set_cons_succ]; rfl) : wpAnyLast P md ops Q S ds fuel l a w := norm_ ha h
theorem bkZ {w w1 : World} {g : Nat} {o : Obj} {p : Prop} (z : p) (hb : Below w.heap.size w w1) (h : p → w.heap[g]? = some o := by intro z0_; (with_reducible repeat (first | refine' blk_drewN ?_ _ | refine' blk_drew ?_ | refine' blk_alloc ?_ _)); exact z0_.out) : Aside0 (w1.heap[g]? = some o) := ⟨blk_below (h z) hb⟩
theorem pureU {P : Program} {ops : Array Oper} {Q : Exit → Act → World → Prop} {md : Region.Mode} {S : World → Prop} {ds : List Nat} {T : Bool × List (List Nat × List Nat)} (HT_ : Aside0 (rtab md ops = T)) (i : Nat) (N : Option Tmp) (l' : Array Bool) {oi : Oper} {fuel : Nat} {l : Array Bool} {a a' : Act} {w : World} (h : wpAnyLast P md ops Q S ds fuel l' a' w)
    (hi : ops[i]? = some oi := by rfl) (hN : oi.dst = N := by rfl) (hc : anyT T l.toList l'.toList i = true := by kernel_rfl) (hQ : ∀ c a w, Q (.panic c) (a.put oi.dst undef) w → Q (.panic c) a w := by exact fun _ _ _ h => h) (hy : Yields P ops oi undef a := by exact Or.inr ⟨by rfl, rfl⟩) (ha : a.put N undef = a' := by simp only [Act.put, List.setIfInBounds_toArray, List.set_cons_zero, List.set_cons_succ, i64_w, i32_w]; rfl) : wpAnyLast P md ops Q S ds (fuel + 1) l a w := pure_ l' hi hN (any_of HT_.out hc) hQ hy ha h
theorem kbZ {w w1 : World} {g g' : Nat} {o : Obj} {p : Prop} (z : p) (hk : KeepBut w w1 g none) (hn : Aside0 (g' ≠ g)) (h : p → w.heap[g']? = some o := by intro z0_; (with_reducible repeat (first | refine' blk_drewN ?_ _ | refine' blk_drew ?_ | refine' blk_alloc ?_ _)); exact z0_.out) : Aside0 (w1.heap[g']? = some o) := ⟨hk.blk (h z) hn.out (by simp)⟩
theorem gZ {P : Program} {ops : Array Oper} {Q : Exit → Act → World → Prop} {rest : List Oper} {oi : Oper} {a : Act} {w : World} (N : Nat) {f : FuncId} {fn : Func} {os : Array Operand} {ts : Array TypeId} (hf : P.funcs[f]? = some fn) (args : Array Value) (h : Calls P f args w fun e w' => ∃ v, e = .returned v ∧ wpList P ops Q rest (a.put (some N) v) w') (hd : oi.dst = some N := by rfl) (hg : oi.guard = none := by rfl) (hname : (fn.name == "runtime.NumGoroutine") = false := by kernel_rfl) (hb : fn.body.isSome = true := by rfl)
    (hop : oi.op = .call { callee := .value (.func f), args := os, argTypes := ts } := by rfl) (hargs : os.map a.eval = args := by (try simp only [List.map_toArray, List.map_cons, List.map_nil]); first | done | rfl | (simp only [List.length_drop, List.length_take]; rfl)) : wpList P ops Q (oi :: rest) a w := goesL_ (some N) hd hg hf hname hb args hop hargs h
theorem hoZ {α : Type} {d : Kd α} {e base g : Nat} {w w1 : World} {ok : Nat → Prop} {v : Value} {xs : List α} (h : d.R e w base (fun k => ok k ∧ k ≠ g) v xs) (hk : KeepBut w w1 g none) : Aside0 (d.R e w1 base ok v xs) := ⟨Kd.R_mono (Kd.R_keep h hk (fun _ h => h.2)) (fun _ h => h.1)⟩
theorem hbZ {p0 : Prop} {α : Type} {d : Kd α} {e base : Nat} {w w1 : World} {ok : Nat → Prop} {v : Value} {xs : List α} (z : p0) (hb : Below w.heap.size w w1) (h : p0 → d.R e w base ok v xs := by intro z0_; (with_reducible repeat (first | apply Kd.R_alloc | apply Kd.R_drewN | apply Kd.R_drew)); exact z0_.out) : Aside0 (d.R e w1 base ok v xs) := ⟨Kd.R_below (h z) hb⟩
theorem rfZ {α : Type} {d : Kd α} {e base : Nat} {w w1 : World} {ok : Nat → Prop} {v : Value} {xs : List α} (h : d.R e w base ok v xs) (t : d.R e w base ok v xs → d.R e w1 base ok v xs := by intro h_; (with_reducible repeat (refine Kd.R_far ?_ (fun _ hk => hk.2) _)); exact h_) : d.R e w1 base ok v xs := t h
theorem bindZ {α β : Type} {a : α} {f : α → Option β} {r : Option β} (H : (some a).bind f = r) : f a = r := H
theorem bsZ {w0 w w1 : World} (h : Below w0.heap.size w0 w) (hb : Below w.heap.size w w1) : Aside0 (Below w0.heap.size w0 w1) := ⟨below_step h hb⟩
theorem blk_farO {w : World} {g : Nat} {o : Obj} {p : Addr} {u : Value} (h : w.heap[g]? = some o) (hp : g ≠ p.block) : (w.setCell p u).heap[g]? = some o := (Below.heap_setCell w p u g hp).trans h
theorem b0Z {p0 : Prop} {W : World} {g : Nat} {o : Obj} (z0 : p0) (h : p0 → W.heap[g]? = some o := by intro z0_; (with_reducible repeat (first | refine' blk_drewN ?_ _ | refine' blk_drew ?_ | refine' blk_alloc ?_ _)); exact z0_.out) : W.heap[g]? = some o := h z0
theorem bfZ {p0 p1 : Prop} {W : World} {g : Nat} {o : Obj} (z0 : p0) (z1 : p1) (h : p0 → p1 → W.heap[g]? = some o := by intro z0_ z1_; (repeat (first | (with_reducible first | refine' blk_drewN ?_ _ | refine' blk_drew ?_ | refine' blk_alloc ?_ _) | refine' blk_farO ?_ z1_.out)); exact z0_.out) : W.heap[g]? = some o := h z0 z1
theorem exb_drewN {w : World} {g t n : Nat} {E : Array Value → Prop} (h : ∃ cs, w.heap[g]? = some (.cells cs t (0, 0)) ∧ E cs) : ∃ cs, (w.drewN n).heap[g]? = some (.cells cs t (0, 0)) ∧ E cs := h.elim fun cs h => ⟨cs, blk_drewN h.1 _, h.2⟩
theorem exb_drew {w : World} {g t : Nat} {E : Array Value → Prop} (h : ∃ cs, w.heap[g]? = some (.cells cs t (0, 0)) ∧ E cs) : ∃ cs, w.drew.heap[g]? = some (.cells cs t (0, 0)) ∧ E cs := h.elim fun cs h => ⟨cs, blk_drew h.1, h.2⟩
theorem exb_alloc {w : World} {g t : Nat} {o : Obj} {E : Array Value → Prop} (h : ∃ cs, w.heap[g]? = some (.cells cs t (0, 0)) ∧ E cs) : ∃ cs, (w.alloc o).heap[g]? = some (.cells cs t (0, 0)) ∧ E cs := h.elim fun cs h => ⟨cs, blk_alloc h.1 _, h.2⟩
theorem exb_set {w : World} {g t i : Nat} {u : Value} {E : Array Value → Prop} (h : ∃ cs, w.heap[g]? = some (.cells cs t (0, 0)) ∧ E (cs.setIfInBounds i u)) : ∃ cs, (w.setCell ⟨g, i, none⟩ u).heap[g]? = some (.cells cs t (0, 0)) ∧ E cs := h.elim fun cs h => ⟨cs.setIfInBounds i u, blk_set h.1 i u, h.2⟩
theorem exb_far {w : World} {g t : Nat} {p : Addr} {u : Value} {E : Array Value → Prop} (h : ∃ cs, w.heap[g]? = some (.cells cs t (0, 0)) ∧ E cs) (hp : g ≠ p.block) : ∃ cs, (w.setCell p u).heap[g]? = some (.cells cs t (0, 0)) ∧ E cs := h.elim fun cs h => ⟨cs, blk_far h.1 hp u, h.2⟩
theorem bpZ {p0 : Prop} {W : World} {g t : Nat} {cs' : Array Value} (z0 : p0) (h : p0 → ∃ cs, W.heap[g]? = some (.cells cs t (0, 0)) ∧ cs = cs' := by intro z0_; (repeat (with_reducible first | refine exb_drewN ?_ | refine exb_drew ?_ | refine exb_alloc ?_ | refine exb_set ?_)); exact ⟨_, z0_.out, by first | (simp only [List.setIfInBounds_toArray, List.set_cons_zero, List.set_cons_succ]; done) | rfl⟩) : W.heap[g]? = some (.cells cs' t (0, 0)) := (h z0).elim fun _ h => h.2 ▸ h.1
theorem bmZ {p0 p1 : Prop} {W : World} {g t : Nat} {cs' : Array Value} (z0 : p0) (z1 : p1) (h : p0 → p1 → ∃ cs, W.heap[g]? = some (.cells cs t (0, 0)) ∧ cs = cs' := by intro z0_ z1_; (repeat (first | (with_reducible first | refine exb_drewN ?_ | refine exb_drew ?_ | refine exb_alloc ?_ | refine exb_set ?_) | refine exb_far ?_ z1_.out)); exact ⟨_, z0_.out, by first | (simp only [List.setIfInBounds_toArray, List.set_cons_zero, List.set_cons_succ]; done) | rfl⟩) : W.heap[g]? = some (.cells cs' t (0, 0)) := (h z0 z1).elim fun _ h => h.2 ▸ h.1
theorem cell_farE {w : World} {p a : Addr} {u : Value} {v : Option Value} (h : w.cell? a = v) (hp : a.block ≠ p.block) : (w.setCell p u).cell? a = v := (cell_far hp u).trans h
theorem cfZ {w W : World} {a : Addr} {v : Option Value} (g : Nat) (z0 : w.cell? a = v) (z1 : a.block ≠ g) (h : w.cell? a = v → a.block ≠ g → W.cell? a = v := by intro z0_ z1_; (repeat (refine cell_farE ?_ z1_)); exact z0_) : W.cell? a = v := h z0 z1
theorem cg1 {p0 p1 P : Prop} (z0 : p0) (z1 : p1) (h : p0 → p1 → P := by intro z0_ z1_; (repeat (refine cell_farE ?_ z1_.out)); exact z0_) : P := h z0 z1
def bB (n m : Nat) : Array Bool := ((List.range n).map fun i => m.testBit i).toArray
def bT (n k : Nat) : Array Bool := (List.replicate k true ++ List.replicate (n - k) false).toArray
theorem cz3 {w : World} {g t : Nat} {a0 a1 a2 : Value} (h : Aside0 (w.heap[g]? = some (.cells #[a0, a1, a2] t (0, 0)))) : w.cell? ⟨g, 0, none⟩ = some a0 ∧ w.cell? ⟨g, 1, none⟩ = some a1 ∧ w.cell? ⟨g, 2, none⟩ = some a2 ∧ w.frozen? ⟨g, 0, none⟩ = false ∧ w.frozen? ⟨g, 1, none⟩ = false ∧ w.frozen? ⟨g, 2, none⟩ = false := ⟨(blk_cell h.out 0).trans rfl, (blk_cell h.out 1).trans rfl, (blk_cell h.out 2).trans rfl, blk_frozen h.out 0, blk_frozen h.out 1, blk_frozen h.out 2⟩
theorem cz4 {w : World} {g t : Nat} {a0 a1 a2 a3 : Value} (h : Aside0 (w.heap[g]? = some (.cells #[a0, a1, a2, a3] t (0, 0)))) : w.cell? ⟨g, 0, none⟩ = some a0 ∧ w.cell? ⟨g, 1, none⟩ = some a1 ∧ w.cell? ⟨g, 2, none⟩ = some a2 ∧ w.cell? ⟨g, 3, none⟩ = some a3 ∧ w.frozen? ⟨g, 0, none⟩ = false ∧ w.frozen? ⟨g, 1, none⟩ = false ∧ w.frozen? ⟨g, 2, none⟩ = false ∧ w.frozen? ⟨g, 3, none⟩ = false := ⟨(blk_cell h.out 0).trans rfl, (blk_cell h.out 1).trans rfl, (blk_cell h.out 2).trans rfl, (blk_cell h.out 3).trans rfl, blk_frozen h.out 0, blk_frozen h.out 1, blk_frozen h.out 2, blk_frozen h.out 3⟩
theorem takeZ2 {P : Program} {ops : Array Oper} {Q : Exit → Act → World → Prop} {md : Region.Mode} {S : World → Prop} {ds : List Nat} {T : Bool × List (List Nat × List Nat)} {B : List Nat} (HT_ : Aside0 (rtab md ops = T)) (HW_ : Aside0 (waitsOk T.2 B = true)) (i : Nat) (N : Option Tmp) (l' : Array Bool) {oi : Oper} {v : Value} {fuel : Nat} {l : Array Bool} {a a' : Act} {w : World} (hS : S w) (h : wpAnyLast P md ops Q S ds fuel l' a' w)
    (hi : ops[i]? = some oi := by rfl) (hN : oi.dst = N := by rfl) (hc : takeW T B ds l.toList l'.toList i = true := by kernel_rfl) (hQ : ∀ c a w, Q (.panic c) (a.put oi.dst v) w → Q (.panic c) a w := by exact fun _ _ _ h => h) (hy : YieldsIf P ops S oi v a := by refine Or.inl ⟨by rfl, ?_⟩; rintro w' ⟨s0, s1⟩; go_simp; with_reducible rfl) (ha : a.put N v = a' := by simp only [Act.put, List.setIfInBounds_toArray, List.set_cons_zero, List.set_cons_succ, i64_w, i32_w]; rfl) : wpAnyLast P md ops Q S ds (fuel + 1) l a w := take_ l' hi hN (take_ofW HT_.out HW_.out hc) hQ hy hS ha h
theorem takeZ3 {P : Program} {ops : Array Oper} {Q : Exit → Act → World → Prop} {md : Region.Mode} {S : World → Prop} {ds : List Nat} {T : Bool × List (List Nat × List Nat)} {B : List Nat} (HT_ : Aside0 (rtab md ops = T)) (HW_ : Aside0 (waitsOk T.2 B = true)) (i : Nat) (N : Option Tmp) (l' : Array Bool) {oi : Oper} {v : Value} {fuel : Nat} {l : Array Bool} {a a' : Act} {w : World} (hS : S w) (h : wpAnyLast P md ops Q S ds fuel l' a' w)
    (hi : ops[i]? = some oi := by rfl) (hN : oi.dst = N := by rfl) (hc : takeW T B ds l.toList l'.toList i = true := by kernel_rfl) (hQ : ∀ c a w, Q (.panic c) (a.put oi.dst v) w → Q (.panic c) a w := by exact fun _ _ _ h => h) (hy : YieldsIf P ops S oi v a := by refine Or.inl ⟨by rfl, ?_⟩; rintro w' ⟨s0, s1, s2⟩; go_simp; with_reducible rfl) (ha : a.put N v = a' := by simp only [Act.put, List.setIfInBounds_toArray, List.set_cons_zero, List.set_cons_succ, i64_w, i32_w]; rfl) : wpAnyLast P md ops Q S ds (fuel + 1) l a w := take_ l' hi hN (take_ofW HT_.out HW_.out hc) hQ hy hS ha h
theorem takeZ4 {P : Program} {ops : Array Oper} {Q : Exit → Act → World → Prop} {md : Region.Mode} {S : World → Prop} {ds : List Nat} {T : Bool × List (List Nat × List Nat)} {B : List Nat} (HT_ : Aside0 (rtab md ops = T)) (HW_ : Aside0 (waitsOk T.2 B = true)) (i : Nat) (N : Option Tmp) (l' : Array Bool) {oi : Oper} {v : Value} {fuel : Nat} {l : Array Bool} {a a' : Act} {w : World} (hS : S w) (h : wpAnyLast P md ops Q S ds fuel l' a' w)
    (hi : ops[i]? = some oi := by rfl) (hN : oi.dst = N := by rfl) (hc : takeW T B ds l.toList l'.toList i = true := by kernel_rfl) (hQ : ∀ c a w, Q (.panic c) (a.put oi.dst v) w → Q (.panic c) a w := by exact fun _ _ _ h => h) (hy : YieldsIf P ops S oi v a := by refine Or.inl ⟨by rfl, ?_⟩; rintro w' ⟨s0, s1, s2, s3⟩; go_simp; with_reducible rfl) (ha : a.put N v = a' := by simp only [Act.put, List.setIfInBounds_toArray, List.set_cons_zero, List.set_cons_succ, i64_w, i32_w]; rfl) : wpAnyLast P md ops Q S ds (fuel + 1) l a w := take_ l' hi hN (take_ofW HT_.out HW_.out hc) hQ hy hS ha h
theorem takeZ7 {P : Program} {ops : Array Oper} {Q : Exit → Act → World → Prop} {md : Region.Mode} {S : World → Prop} {ds : List Nat} {T : Bool × List (List Nat × List Nat)} {B : List Nat} (HT_ : Aside0 (rtab md ops = T)) (HW_ : Aside0 (waitsOk T.2 B = true)) (i : Nat) (N : Option Tmp) (l' : Array Bool) {oi : Oper} {v : Value} {fuel : Nat} {l : Array Bool} {a a' : Act} {w : World} (hS : S w) (h : wpAnyLast P md ops Q S ds fuel l' a' w)
    (hi : ops[i]? = some oi := by rfl) (hN : oi.dst = N := by rfl) (hc : takeW T B ds l.toList l'.toList i = true := by kernel_rfl) (hQ : ∀ c a w, Q (.panic c) (a.put oi.dst v) w → Q (.panic c) a w := by exact fun _ _ _ h => h) (hy : YieldsIf P ops S oi v a := by refine Or.inl ⟨by rfl, ?_⟩; rintro w' ⟨s0, s1, s2, s3, s4, s5, s6⟩; go_simp; with_reducible rfl) (ha : a.put N v = a' := by simp only [Act.put, List.setIfInBounds_toArray, List.set_cons_zero, List.set_cons_succ, i64_w, i32_w]; rfl) : wpAnyLast P md ops Q S ds (fuel + 1) l a w := take_ l' hi hN (take_ofW HT_.out HW_.out hc) hQ hy hS ha h
theorem takeZ8 {P : Program} {ops : Array Oper} {Q : Exit → Act → World → Prop} {md : Region.Mode} {S : World → Prop} {ds : List Nat} {T : Bool × List (List Nat × List Nat)} {B : List Nat} (HT_ : Aside0 (rtab md ops = T)) (HW_ : Aside0 (waitsOk T.2 B = true)) (i : Nat) (N : Option Tmp) (l' : Array Bool) {oi : Oper} {v : Value} {fuel : Nat} {l : Array Bool} {a a' : Act} {w : World} (hS : S w) (h : wpAnyLast P md ops Q S ds fuel l' a' w)
    (hi : ops[i]? = some oi := by rfl) (hN : oi.dst = N := by rfl) (hc : takeW T B ds l.toList l'.toList i = true := by kernel_rfl) (hQ : ∀ c a w, Q (.panic c) (a.put oi.dst v) w → Q (.panic c) a w := by exact fun _ _ _ h => h) (hy : YieldsIf P ops S oi v a := by refine Or.inl ⟨by rfl, ?_⟩; rintro w' ⟨s0, s1, s2, s3, s4, s5, s6, s7⟩; go_simp; with_reducible rfl) (ha : a.put N v = a' := by simp only [Act.put, List.setIfInBounds_toArray, List.set_cons_zero, List.set_cons_succ, i64_w, i32_w]; rfl) : wpAnyLast P md ops Q S ds (fuel + 1) l a w := take_ l' hi hN (take_ofW HT_.out HW_.out hc) hQ hy hS ha h
theorem takeZ9 {P : Program} {ops : Array Oper} {Q : Exit → Act → World → Prop} {md : Region.Mode} {S : World → Prop} {ds : List Nat} {T : Bool × List (List Nat × List Nat)} {B : List Nat} (HT_ : Aside0 (rtab md ops = T)) (HW_ : Aside0 (waitsOk T.2 B = true)) (i : Nat) (N : Option Tmp) (l' : Array Bool) {oi : Oper} {v : Value} {fuel : Nat} {l : Array Bool} {a a' : Act} {w : World} (hS : S w) (h : wpAnyLast P md ops Q S ds fuel l' a' w)
    (hi : ops[i]? = some oi := by rfl) (hN : oi.dst = N := by rfl) (hc : takeW T B ds l.toList l'.toList i = true := by kernel_rfl) (hQ : ∀ c a w, Q (.panic c) (a.put oi.dst v) w → Q (.panic c) a w := by exact fun _ _ _ h => h) (hy : YieldsIf P ops S oi v a := by refine Or.inl ⟨by rfl, ?_⟩; rintro w' ⟨s0, s1, s2, s3, s4, s5, s6, s7, s8⟩; go_simp; with_reducible rfl) (ha : a.put N v = a' := by simp only [Act.put, List.setIfInBounds_toArray, List.set_cons_zero, List.set_cons_succ, i64_w, i32_w]; rfl) : wpAnyLast P md ops Q S ds (fuel + 1) l a w := take_ l' hi hN (take_ofW HT_.out HW_.out hc) hQ hy hS ha h
theorem takeZ14 {P : Program} {ops : Array Oper} {Q : Exit → Act → World → Prop} {md : Region.Mode} {S : World → Prop} {ds : List Nat} {T : Bool × List (List Nat × List Nat)} {B : List Nat} (HT_ : Aside0 (rtab md ops = T)) (HW_ : Aside0 (waitsOk T.2 B = true)) (i : Nat) (N : Option Tmp) (l' : Array Bool) {oi : Oper} {v : Value} {fuel : Nat} {l : Array Bool} {a a' : Act} {w : World} (hS : S w) (h : wpAnyLast P md ops Q S ds fuel l' a' w)
    (hi : ops[i]? = some oi := by rfl) (hN : oi.dst = N := by rfl) (hc : takeW T B ds l.toList l'.toList i = true := by kernel_rfl) (hQ : ∀ c a w, Q (.panic c) (a.put oi.dst v) w → Q (.panic c) a w := by exact fun _ _ _ h => h) (hy : YieldsIf P ops S oi v a := by refine Or.inl ⟨by rfl, ?_⟩; rintro w' ⟨s0, s1, s2, s3, s4, s5, s6, s7, s8, s9, s10, s11, s12, s13⟩; go_simp; with_reducible rfl) (ha : a.put N v = a' := by simp only [Act.put, List.setIfInBounds_toArray, List.set_cons_zero, List.set_cons_succ, i64_w, i32_w]; rfl) : wpAnyLast P md ops Q S ds (fuel + 1) l a w := take_ l' hi hN (take_ofW HT_.out HW_.out hc) hQ hy hS ha h
theorem takeZ16 {P : Program} {ops : Array Oper} {Q : Exit → Act → World → Prop} {md : Region.Mode} {S : World → Prop} {ds : List Nat} {T : Bool × List (List Nat × List Nat)} {B : List Nat} (HT_ : Aside0 (rtab md ops = T)) (HW_ : Aside0 (waitsOk T.2 B = true)) (i : Nat) (N : Option Tmp) (l' : Array Bool) {oi : Oper} {v : Value} {fuel : Nat} {l : Array Bool} {a a' : Act} {w : World} (hS : S w) (h : wpAnyLast P md ops Q S ds fuel l' a' w)
    (hi : ops[i]? = some oi := by rfl) (hN : oi.dst = N := by rfl) (hc : takeW T B ds l.toList l'.toList i = true := by kernel_rfl) (hQ : ∀ c a w, Q (.panic c) (a.put oi.dst v) w → Q (.panic c) a w := by exact fun _ _ _ h => h) (hy : YieldsIf P ops S oi v a := by refine Or.inl ⟨by rfl, ?_⟩; rintro w' ⟨s0, s1, s2, s3, s4, s5, s6, s7, s8, s9, s10, s11, s12, s13, s14, s15⟩; go_simp; with_reducible rfl) (ha : a.put N v = a' := by simp only [Act.put, List.setIfInBounds_toArray, List.set_cons_zero, List.set_cons_succ, i64_w, i32_w]; rfl) : wpAnyLast P md ops Q S ds (fuel + 1) l a w := take_ l' hi hN (take_ofW HT_.out HW_.out hc) hQ hy hS ha h
theorem takeZ18 {P : Program} {ops : Array Oper} {Q : Exit → Act → World → Prop} {md : Region.Mode} {S : World → Prop} {ds : List Nat} {T : Bool × List (List Nat × List Nat)} {B : List Nat} (HT_ : Aside0 (rtab md ops = T)) (HW_ : Aside0 (waitsOk T.2 B = true)) (i : Nat) (N : Option Tmp) (l' : Array Bool) {oi : Oper} {v : Value} {fuel : Nat} {l : Array Bool} {a a' : Act} {w : World} (hS : S w) (h : wpAnyLast P md ops Q S ds fuel l' a' w)
    (hi : ops[i]? = some oi := by rfl) (hN : oi.dst = N := by rfl) (hc : takeW T B ds l.toList l'.toList i = true := by kernel_rfl) (hQ : ∀ c a w, Q (.panic c) (a.put oi.dst v) w → Q (.panic c) a w := by exact fun _ _ _ h => h) (hy : YieldsIf P ops S oi v a := by refine Or.inl ⟨by rfl, ?_⟩; rintro w' ⟨s0, s1, s2, s3, s4, s5, s6, s7, s8, s9, s10, s11, s12, s13, s14, s15, s16, s17⟩; go_simp; with_reducible rfl) (ha : a.put N v = a' := by simp only [Act.put, List.setIfInBounds_toArray, List.set_cons_zero, List.set_cons_succ, i64_w, i32_w]; rfl) : wpAnyLast P md ops Q S ds (fuel + 1) l a w := take_ l' hi hN (take_ofW HT_.out HW_.out hc) hQ hy hS ha h
theorem takeZ27 {P : Program} {ops : Array Oper} {Q : Exit → Act → World → Prop} {md : Region.Mode} {S : World → Prop} {ds : List Nat} {T : Bool × List (List Nat × List Nat)} {B : List Nat} (HT_ : Aside0 (rtab md ops = T)) (HW_ : Aside0 (waitsOk T.2 B = true)) (i : Nat) (N : Option Tmp) (l' : Array Bool) {oi : Oper} {v : Value} {fuel : Nat} {l : Array Bool} {a a' : Act} {w : World} (hS : S w) (h : wpAnyLast P md ops Q S ds fuel l' a' w)
    (hi : ops[i]? = some oi := by rfl) (hN : oi.dst = N := by rfl) (hc : takeW T B ds l.toList l'.toList i = true := by kernel_rfl) (hQ : ∀ c a w, Q (.panic c) (a.put oi.dst v) w → Q (.panic c) a w := by exact fun _ _ _ h => h) (hy : YieldsIf P ops S oi v a := by refine Or.inl ⟨by rfl, ?_⟩; rintro w' ⟨s0, s1, s2, s3, s4, s5, s6, s7, s8, s9, s10, s11, s12, s13, s14, s15, s16, s17, s18, s19, s20, s21, s22, s23, s24, s25, s26⟩; go_simp; with_reducible rfl) (ha : a.put N v = a' := by simp only [Act.put, List.setIfInBounds_toArray, List.set_cons_zero, List.set_cons_succ, i64_w, i32_w]; rfl) : wpAnyLast P md ops Q S ds (fuel + 1) l a w := take_ l' hi hN (take_ofW HT_.out HW_.out hc) hQ hy hS ha h
theorem ci2 {w : World} {g t : Nat} {a0 a1 : Value} (h : Aside0 (w.heap[g]? = some (.cells #[a0, a1] t (0, 0)))) {P : Prop} (k : w.cell? ⟨g, 0, none⟩ = some a0 → w.cell? ⟨g, 1, none⟩ = some a1 → w.frozen? ⟨g, 0, none⟩ = false → w.frozen? ⟨g, 1, none⟩ = false → P) : P := k ((blk_cell h.out 0).trans rfl) ((blk_cell h.out 1).trans rfl) (blk_frozen h.out 0) (blk_frozen h.out 1)
theorem ci3 {w : World} {g t : Nat} {a0 a1 a2 : Value} (h : Aside0 (w.heap[g]? = some (.cells #[a0, a1, a2] t (0, 0)))) {P : Prop} (k : w.cell? ⟨g, 0, none⟩ = some a0 → w.cell? ⟨g, 1, none⟩ = some a1 → w.cell? ⟨g, 2, none⟩ = some a2 → w.frozen? ⟨g, 0, none⟩ = false → w.frozen? ⟨g, 1, none⟩ = false → w.frozen? ⟨g, 2, none⟩ = false → P) : P := k ((blk_cell h.out 0).trans rfl) ((blk_cell h.out 1).trans rfl) ((blk_cell h.out 2).trans rfl) (blk_frozen h.out 0) (blk_frozen h.out 1) (blk_frozen h.out 2)
theorem ci4 {w : World} {g t : Nat} {a0 a1 a2 a3 : Value} (h : Aside0 (w.heap[g]? = some (.cells #[a0, a1, a2, a3] t (0, 0)))) {P : Prop} (k : w.cell? ⟨g, 0, none⟩ = some a0 → w.cell? ⟨g, 1, none⟩ = some a1 → w.cell? ⟨g, 2, none⟩ = some a2 → w.cell? ⟨g, 3, none⟩ = some a3 → w.frozen? ⟨g, 0, none⟩ = false → w.frozen? ⟨g, 1, none⟩ = false → w.frozen? ⟨g, 2, none⟩ = false → w.frozen? ⟨g, 3, none⟩ = false → P) : P := k ((blk_cell h.out 0).trans rfl) ((blk_cell h.out 1).trans rfl) ((blk_cell h.out 2).trans rfl) ((blk_cell h.out 3).trans rfl) (blk_frozen h.out 0) (blk_frozen h.out 1) (blk_frozen h.out 2) (blk_frozen h.out 3)
theorem ci9 {w : World} {g t : Nat} {a0 a1 a2 a3 a4 a5 a6 a7 a8 : Value} (h : Aside0 (w.heap[g]? = some (.cells #[a0, a1, a2, a3, a4, a5, a6, a7, a8] t (0, 0)))) {P : Prop} (k : w.cell? ⟨g, 0, none⟩ = some a0 → w.cell? ⟨g, 1, none⟩ = some a1 → w.cell? ⟨g, 2, none⟩ = some a2 → w.cell? ⟨g, 3, none⟩ = some a3 → w.cell? ⟨g, 4, none⟩ = some a4 → w.cell? ⟨g, 5, none⟩ = some a5 → w.cell? ⟨g, 6, none⟩ = some a6 → w.cell? ⟨g, 7, none⟩ = some a7 → w.cell? ⟨g, 8, none⟩ = some a8 → w.frozen? ⟨g, 0, none⟩ = false → w.frozen? ⟨g, 1, none⟩ = false → w.frozen? ⟨g, 2, none⟩ = false → w.frozen? ⟨g, 3, none⟩ = false → w.frozen? ⟨g, 4, none⟩ = false → w.frozen? ⟨g, 5, none⟩ = false → w.frozen? ⟨g, 6, none⟩ = false → w.frozen? ⟨g, 7, none⟩ = false → w.frozen? ⟨g, 8, none⟩ = false → P) : P := k ((blk_cell h.out 0).trans rfl) ((blk_cell h.out 1).trans rfl) ((blk_cell h.out 2).trans rfl) ((blk_cell h.out 3).trans rfl) ((blk_cell h.out 4).trans rfl) ((blk_cell h.out 5).trans rfl) ((blk_cell h.out 6).trans rfl) ((blk_cell h.out 7).trans rfl) ((blk_cell h.out 8).trans rfl) (blk_frozen h.out 0) (blk_frozen h.out 1) (blk_frozen h.out 2) (blk_frozen h.out 3) (blk_frozen h.out 4) (blk_frozen h.out 5) (blk_frozen h.out 6) (blk_frozen h.out 7) (blk_frozen h.out 8)
theorem Za {P : Prop} (h : P := by first | rfl | (simp; done) | (simp [*]; done)) : P := h
theorem Zb {P : Prop} (h : P := by repeat (first | exact Drawn0.refl _ | apply Drawn0.step)) : P := h
theorem Zc {P : Prop} (h : P := by first | (with_reducible assumption) | assumption) : P := h
theorem Zd {P : Prop} (h : P := by have := HK1.out; omega) : P := h
theorem Ze {P : Prop} (h : P := by rw [hg]; exact (below_size (by repeat (first | (with_reducible first | exact HB.out | apply below_alloc | apply pw_below_drewN | apply below_drew1) | exact HB.out)))) : P := h
theorem Zf {P : Prop} (h : P := by repeat (first | (with_reducible first | exact HB.out | apply below_alloc | apply pw_below_drewN | apply below_drew1) | exact HB.out)) : P := h
theorem Zg {P : Prop} (h : P := by first | rfl | (simp [errW_none, errW_some] <;> rfl) | (simp [*, errW_none, errW_some] <;> rfl)) : P := h
theorem Zh {p0 P : Prop} (z0_ : p0) (h : p0 → P := by intro z0_; repeat (first | (with_reducible first | exact HB.out | apply below_alloc | apply pw_below_drewN | apply below_drew1 | refine below_set ?_ z0_.out) | exact HB.out)) : P := h z0_
theorem Zi {P : Prop} (h : P := by kernel_rfl) : P := h
theorem Zj {P : Prop} (h : P := by (try simp only [List.map_toArray, List.map_cons, List.map_nil]); first | done | rfl | (simp only [List.length_drop, List.length_take]; rfl)) : P := h
theorem Zk {p0 P : Prop} (z0_ : p0) (h : p0 → P := by intro z0_; rw [hg]; exact (below_size (by repeat (first | (with_reducible first | exact HB.out | apply below_alloc | apply pw_below_drewN | apply below_drew1 | refine below_set ?_ z0_.out) | exact HB.out)))) : P := h z0_
theorem Zl {p0 P : Prop} (z0_ : p0) (h : p0 → P := by intro z0_; repeat (first | exact (Kd.C_below z0_.out HB.out) | (with_reducible refine Kd.C_alloc ?_ _) | (with_reducible refine Kd.C_drewN ?_ _) | (with_reducible refine Kd.C_drew ?_))) : P := h z0_
theorem Zm {p0 p1 p2 P : Prop} (z0_ : p0) (z1_ : p1) (z2_ : p2) (h : p0 → p1 → p2 → P := by intro z0_ z1_ z2_; repeat (first | exact (Kd.C_below z0_.out (by repeat (first | (with_reducible first | exact HB.out | apply below_alloc | apply pw_below_drewN | apply below_drew1 | refine below_set ?_ z1_.out | refine below_set ?_ z2_.out) | exact HB.out))) | (with_reducible refine Kd.C_alloc ?_ _) | (with_reducible refine Kd.C_drewN ?_ _) | (with_reducible refine Kd.C_drew ?_))) : P := h z0_ z1_ z2_
theorem Zn {p0 p1 P : Prop} (z0_ : p0) (z1_ : p1) (h : p0 → p1 → P := by intro z0_ z1_; repeat (first | (with_reducible first | exact HB.out | apply below_alloc | apply pw_below_drewN | apply below_drew1 | refine below_set ?_ z0_.out | refine below_set ?_ z1_.out) | exact HB.out)) : P := h z0_ z1_
theorem Zo {p0 p1 P : Prop} (z0_ : p0) (z1_ : p1) (h : p0 → p1 → P := by intro z0_ z1_; repeat (first | exact (Kd.C_below z0_.out (by repeat (first | (with_reducible first | exact HB.out | apply below_alloc | apply pw_below_drewN | apply below_drew1 | refine below_set ?_ z1_.out) | exact HB.out))) | (with_reducible refine Kd.C_alloc ?_ _) | (with_reducible refine Kd.C_drewN ?_ _) | (with_reducible refine Kd.C_drew ?_))) : P := h z0_ z1_
theorem Zp {P : Prop} (h : P := by first | omega | exact Nat.le_refl _) : P := h
theorem Zq {p0 P : Prop} (z0_ : p0) (h : p0 → P := by intro z0_; (with_reducible repeat (first | refine blk_drewN ?_ _ | refine blk_drew ?_ | refine blk_alloc ?_ _)); exact z0_.out) : P := h z0_
theorem Zr {p0 P : Prop} (z0_ : p0) (h : p0 → P := by intro z0_; (with_reducible repeat (first | apply Kd.R_alloc | apply Kd.R_drewN | apply Kd.R_drew)); exact z0_.out) : P := h z0_
theorem Zs {p0 p1 p2 p3 p4 p5 p6 p7 p8 p9 p10 P : Prop} (z0_ : p0) (z1_ : p1) (z2_ : p2) (z3_ : p3) (z4_ : p4) (z5_ : p5) (z6_ : p6) (z7_ : p7) (z8_ : p8) (z9_ : p9) (z10_ : p10) (h : p0 → p1 → p2 → p3 → p4 → p5 → p6 → p7 → p8 → p9 → p10 → P := by intro z0_ z1_ z2_ z3_ z4_ z5_ z6_ z7_ z8_ z9_ z10_; exact ⟨(blk_cell z0_.out 0).trans rfl, (blk_cell z0_.out 1).trans rfl, (blk_cell z0_.out 2).trans rfl, (blk_cell z1_.out 0).trans rfl, (blk_cell z1_.out 1).trans rfl, (blk_cell z1_.out 2).trans rfl, (blk_cell z1_.out 3).trans rfl, (cbH HB z2_ :), (cbH HB z3_ :), (cbH HB z4_ :), (cbH HB z5_ :), (cbH HB z6_ :), (cbH HB z7_ :), (cbH HB z8_ :), (cbH HB z9_ :), (cbH HB z10_ :)⟩) : P := h z0_ z1_ z2_ z3_ z4_ z5_ z6_ z7_ z8_ z9_ z10_
theorem Zt {p0 p1 P : Prop} (z0_ : p0) (z1_ : p1) (h : p0 → p1 → P := by intro z0_ z1_; rw [hg]; exact (below_size (by repeat (first | (with_reducible first | exact HB.out | apply below_alloc | apply pw_below_drewN | apply below_drew1 | refine below_set ?_ z0_.out | refine below_set ?_ z1_.out) | exact HB.out)))) : P := h z0_ z1_
theorem Zu {P : Prop} (h : P := by simp only [putAll, Act.put, List.setIfInBounds_toArray, List.set_cons_zero, List.set_cons_succ]) : P := h
theorem Zv {p0 p1 p2 P : Prop} (z0_ : p0) (z1_ : p1) (z2_ : p2) (h : p0 → p1 → p2 → P := by intro z0_ z1_ z2_; repeat (first | (with_reducible first | exact HB.out | apply below_alloc | apply pw_below_drewN | apply below_drew1 | refine below_set ?_ z0_.out | refine below_set ?_ z1_.out | refine below_set ?_ z2_.out) | exact HB.out)) : P := h z0_ z1_ z2_
theorem Zw {p0 p1 P : Prop} (z0_ : p0) (z1_ : p1) (h : p0 → p1 → P := by intro z0_ z1_; first | exact Nat.ne_of_lt (Nat.lt_of_lt_of_le (by have := World.block_lt_of_cell? _ _ z0_; first | rwa [add_block] at this | exact this) z1_.out) | (rw [add_block]; exact Nat.ne_of_lt (Nat.lt_of_lt_of_le (by have := World.block_lt_of_cell? _ _ z0_; first | rwa [add_block] at this | exact this) z1_.out)) | (show (Addr.add _ _).block ≠ _; rw [add_block]; exact Nat.ne_of_lt (Nat.lt_of_lt_of_le (by have := World.block_lt_of_cell? _ _ z0_; first | rwa [add_block] at this | exact this) z1_.out)) | (dsimp only; exact Nat.ne_of_lt (Nat.lt_of_lt_of_le (by have := World.block_lt_of_cell? _ _ z0_; first | rwa [add_block] at this | exact this) z1_.out))) : P := h z0_ z1_
theorem Zx {p0 P : Prop} (z0_ : p0) (h : p0 → P := by intro z0_; (with_reducible repeat (first | apply Kd.S_alloc | apply Kd.S_drewN | apply Kd.S_drew)); exact z0_.out) : P := h z0_
theorem Zy {p0 p1 p2 P : Prop} (z0_ : p0) (z1_ : p1) (z2_ : p2) (h : p0 → p1 → p2 → P := by intro z0_ z1_ z2_; exact ⟨(blk_cell z0_.out 0).trans rfl, (blk_cell z0_.out 1).trans rfl, (blk_cell z0_.out 2).trans rfl, (blk_cell z0_.out 3).trans rfl, (blk_cell z0_.out 4).trans rfl, (blk_cell z0_.out 5).trans rfl, (blk_cell z0_.out 6).trans rfl, (blk_cell z0_.out 7).trans rfl, (blk_cell z0_.out 8).trans rfl, (blk_cell z1_.out 0).trans rfl, (blk_cell z1_.out 1).trans rfl, (blk_cell z1_.out 2).trans rfl, (blk_cell z2_.out 0).trans rfl, (blk_cell z2_.out 1).trans rfl, (blk_cell z2_.out 2).trans rfl, (blk_cell z2_.out 3).trans rfl⟩) : P := h z0_ z1_ z2_
theorem Zz {p0 P : Prop} (z0_ : p0) (h : p0 → P := by intro z0_; (with_reducible repeat (first | apply Kd.S_alloc | apply Kd.S_drewN | apply Kd.S_drew)); exact Kd.S_mono z0_.out (fun _ hk => trivial)) : P := h z0_
theorem Zaa {p0 P : Prop} (z0_ : p0) (h : p0 → P := by intro z0_; (with_reducible repeat (first | apply Kd.N_alloc | apply Kd.N_drewN | apply Kd.N_drew)); exact z0_.out) : P := h z0_
theorem Zab {p0 P : Prop} (z0_ : p0) (h : p0 → P := by intro z0_; (with_reducible repeat (first | apply Kd.N_alloc | apply Kd.N_drewN | apply Kd.N_drew)); exact Kd.N_mono z0_.out (fun _ hk => hk.1)) : P := h z0_
theorem Zac {P : Prop} (h : P := by have := HK1.out; have := HK2.out; omega) : P := h
theorem Zad {p0 P : Prop} (z0_ : p0) (h : p0 → P := by intro z0_; repeat (first | (with_reducible exact z0_.out) | (with_reducible refine Kd.C_alloc ?_ _) | (with_reducible refine Kd.C_drewN ?_ _) | (with_reducible refine Kd.C_drew ?_) | exact z0_.out)) : P := h z0_
theorem Zae {p0 P : Prop} (z0_ : p0) (h : p0 → P := by intro z0_; (with_reducible repeat (first | apply Kd.R_alloc | apply Kd.R_drewN | apply Kd.R_drew)); exact Kd.R_mono z0_.out (fun _ hk => hk.2)) : P := h z0_
theorem Zaf {p0 P : Prop} (z0_ : p0) (h : p0 → P := by intro z0_; (with_reducible repeat (first | apply Kd.R_alloc | apply Kd.R_drewN | apply Kd.R_drew)); exact Kd.R_mono z0_.out (fun _ hk => ⟨hk.2, hk.1⟩)) : P := h z0_
theorem Zag {p0 P : Prop} (z0_ : p0) (h : p0 → P := by intro z0_; (with_reducible repeat (first | apply Kd.R_alloc | apply Kd.R_drewN | apply Kd.R_drew)); exact Kd.R_mono z0_.out (fun _ hk => ⟨hk.2, hk.1.2⟩)) : P := h z0_
theorem Zah {p0 P : Prop} (z0_ : p0) (h : p0 → P := by intro z0_; (with_reducible repeat (first | apply Kd.R_alloc | apply Kd.R_drewN | apply Kd.R_drew)); exact Kd.R_mono z0_.out (fun _ hk => ⟨hk.1.2, hk.2⟩)) : P := h z0_
theorem Zai {p0 P : Prop} (z0_ : p0) (h : p0 → P := by intro z0_; (with_reducible repeat (first | apply Kd.N_alloc | apply Kd.N_drewN | apply Kd.N_drew)); exact Kd.N_mono z0_.out (fun _ hk => ⟨hk.1.1, ⟨hk.1.2.1, ⟨hk.2, hk.1.2.2⟩⟩⟩)) : P := h z0_
theorem Zaj {p0 P : Prop} (z0_ : p0) (h : p0 → P := by intro z0_; (with_reducible repeat (first | apply Kd.R_alloc | apply Kd.R_drewN | apply Kd.R_drew)); exact Kd.R_mono z0_.out (fun _ hk => hk.1)) : P := h z0_
theorem Zak {p0 P : Prop} (z0_ : p0) (h : p0 → P := by intro z0_; repeat (first | exact (Kd.R_reads' z0_.out).2.2 | (with_reducible refine Kd.C_alloc ?_ _) | (with_reducible refine Kd.C_drewN ?_ _) | (with_reducible refine Kd.C_drew ?_))) : P := h z0_
theorem Zal {p0 P : Prop} (z0_ : p0) (h : p0 → P := by intro z0_; first | exact q250 | exact of_decide_eq_true (by first | (with_reducible assumption) | assumption) | (have e_ := (Kd.N_reads' z0_.out).1; omega)) : P := h z0_
theorem Zam {p0 P : Prop} (z0_ : p0) (h : p0 → P := by intro z0_; (with_reducible repeat (first | apply Kd.V_alloc | apply Kd.V_drewN | apply Kd.V_drew)); exact z0_.out) : P := h z0_
theorem Zan {p0 P : Prop} (z0_ : p0) (h : p0 → P := by intro z0_; (with_reducible repeat (first | apply Kd.N_alloc | apply Kd.N_drewN | apply Kd.N_drew)); exact Kd.N_mono z0_.out (fun _ hk => ⟨hk.1.1, ⟨hk.1.2.1, ⟨hk.1.2.2.1, hk.1.2.2.2⟩⟩⟩)) : P := h z0_
theorem Zao {p0 P : Prop} (z0_ : p0) (h : p0 → P := by intro z0_; (with_reducible repeat (first | apply Kd.N_alloc | apply Kd.N_drewN | apply Kd.N_drew)); exact Kd.N_mono z0_.out (fun _ hk => ⟨⟨hk.1.1, ⟨hk.1.2.2.1, ⟨hk.2, hk.1.2.2.2⟩⟩⟩, hk.1.2.1⟩)) : P := h z0_
theorem Zap {p0 P : Prop} (z0_ : p0) (h : p0 → P := by intro z0_; (with_reducible repeat (first | apply Kd.V_alloc | apply Kd.V_drewN | apply Kd.V_drew)); exact Kd.V_mono z0_.out (fun _ hk => ⟨⟨hk.1.1.1, ⟨hk.1.2, ⟨hk.1.1.2.2.1, ⟨hk.2, hk.1.1.2.2.2⟩⟩⟩⟩, hk.1.1.2.1⟩)) : P := h z0_
theorem Zaq {p0 P : Prop} (z0_ : p0) (h : p0 → P := by intro z0_; (with_reducible repeat (first | apply Kd.N_alloc | apply Kd.N_drewN | apply Kd.N_drew)); exact Kd.N_mono z0_.out (fun _ hk => ⟨hk.1.1, ⟨hk.2, ⟨hk.1.2.1, hk.1.2.2.2⟩⟩⟩)) : P := h z0_
theorem Zar {P : Prop} (h : P := by first | exact Kd.S_nil _ _ _ _ _ | exact Kd.N_nil _ _ _ _ _ | exact Kd.V_nil _ _ _ _ _ | exact Kd.Q_nil _ _ _ _ _ | exact Kd.R_nil _ _ _ _ _) : P := h
theorem Zas {p0 P : Prop} (z0_ : p0) (h : p0 → P := by intro z0_; refine blk_put (cs := #[.string ((rd_T91 l0 x10_1).f0), .int .i64 ((rd_T91 l0 x10_1).f1), .int .i64 ((rd_T91 l0 x10_1).f2), .int .i64 ((rd_T91 l0 x10_1).f3), .int .i64 ((rd_T91 l0 x10_1).f4), .int .i64 ((rd_T91 l0 x10_1).f5), .int .i64 ((rd_T91 l0 x10_1).f6), .int .i64 ((rd_T91 l0 x10_1).f7), .int .i64 0]) ?_ 8 _ rfl; refine blk_put (cs := #[.string ((rd_T91 l0 x10_1).f0), .int .i64 ((rd_T91 l0 x10_1).f1), .int .i64 ((rd_T91 l0 x10_1).f2), .int .i64 ((rd_T91 l0 x10_1).f3), .int .i64 ((rd_T91 l0 x10_1).f4), .int .i64 ((rd_T91 l0 x10_1).f5), .int .i64 ((rd_T91 l0 x10_1).f6), .int .i64 0, .int .i64 0]) ?_ 7 _ rfl; refine blk_put (cs := #[.string ((rd_T91 l0 x10_1).f0), .int .i64 ((rd_T91 l0 x10_1).f1), .int .i64 ((rd_T91 l0 x10_1).f2), .int .i64 ((rd_T91 l0 x10_1).f3), .int .i64 ((rd_T91 l0 x10_1).f4), .int .i64 ((rd_T91 l0 x10_1).f5), .int .i64 0, .int .i64 0, .int .i64 0]) ?_ 6 _ rfl; refine blk_put (cs := #[.string ((rd_T91 l0 x10_1).f0), .int .i64 ((rd_T91 l0 x10_1).f1), .int .i64 ((rd_T91 l0 x10_1).f2), .int .i64 ((rd_T91 l0 x10_1).f3), .int .i64 ((rd_T91 l0 x10_1).f4), .int .i64 0, .int .i64 0, .int .i64 0, .int .i64 0]) ?_ 5 _ rfl; refine blk_put (cs := #[.string ((rd_T91 l0 x10_1).f0), .int .i64 ((rd_T91 l0 x10_1).f1), .int .i64 ((rd_T91 l0 x10_1).f2), .int .i64 ((rd_T91 l0 x10_1).f3), .int .i64 0, .int .i64 0, .int .i64 0, .int .i64 0, .int .i64 0]) ?_ 4 _ rfl; refine blk_put (cs := #[.string ((rd_T91 l0 x10_1).f0), .int .i64 ((rd_T91 l0 x10_1).f1), .int .i64 ((rd_T91 l0 x10_1).f2), .int .i64 0, .int .i64 0, .int .i64 0, .int .i64 0, .int .i64 0, .int .i64 0]) ?_ 3 _ rfl; refine blk_put (cs := #[.string ((rd_T91 l0 x10_1).f0), .int .i64 ((rd_T91 l0 x10_1).f1), .int .i64 0, .int .i64 0, .int .i64 0, .int .i64 0, .int .i64 0, .int .i64 0, .int .i64 0]) ?_ 2 _ rfl; refine blk_put (cs := #[.string ((rd_T91 l0 x10_1).f0), .int .i64 0, .int .i64 0, .int .i64 0, .int .i64 0, .int .i64 0, .int .i64 0, .int .i64 0, .int .i64 0]) ?_ 1 _ rfl; refine blk_put (cs := #[.string (⟨#[]⟩ : ByteArray), .int .i64 0, .int .i64 0, .int .i64 0, .int .i64 0, .int .i64 0, .int .i64 0, .int .i64 0, .int .i64 0]) ?_ 0 _ rfl; exact z0_.out) : P := h z0_
theorem Zat {p0 P : Prop} (z0_ : p0) (h : p0 → P := by intro z0_; exact ⟨(blk_cell z0_.out 0).trans rfl, (blk_cell z0_.out 1).trans rfl, (blk_cell z0_.out 2).trans rfl, (blk_cell z0_.out 3).trans rfl, (blk_cell z0_.out 4).trans rfl, (blk_cell z0_.out 5).trans rfl, (blk_cell z0_.out 6).trans rfl, (blk_cell z0_.out 7).trans rfl, (blk_cell z0_.out 8).trans rfl⟩) : P := h z0_
theorem Zau {p0 p1 P : Prop} (z0_ : p0) (z1_ : p1) (h : p0 → p1 → P := by intro z0_ z1_; exact ⟨(blk_cell z0_.out 0).trans rfl, (blk_cell z0_.out 1).trans rfl, (blk_cell z0_.out 2).trans rfl, (blk_cell z1_.out 0).trans rfl, (blk_cell z1_.out 1).trans rfl, (blk_cell z1_.out 2).trans rfl, (blk_cell z1_.out 3).trans rfl⟩) : P := h z0_ z1_
theorem Zav {p0 p1 P : Prop} (z0_ : p0) (z1_ : p1) (h : p0 → p1 → P := by intro z0_ z1_; (with_reducible repeat (first | apply Kd.S_alloc | apply Kd.S_drewN | apply Kd.S_drew)); exact (Kd.S_mono (Kd.S_far (p := ⟨gb341, 3, none⟩) (Kd.S_far (p := ⟨gb341, 2, none⟩) (Kd.S_far (p := ⟨gb341, 1, none⟩) (Kd.S_far (p := ⟨gb341, 0, none⟩) (Kd.S_types z0_.out z1_.out (by decide)) (fun _ hk => hk.2) (.int .i64 ((rd_T80 l0_2 x11_1).f0))) (fun _ hk => hk.2) (.int .i64 ((rd_T80 l0_2 x11_1).f1))) (fun _ hk => hk.2) (.string ((rd_T80 l0_2 x11_1).f2))) (fun _ hk => hk.2) (.int .i64 ((rd_T80 l0_2 x11_1).f3))) (fun _ h_ => h_.1))) : P := h z0_ z1_
theorem Zaw {p0 P : Prop} (z0_ : p0) (h : p0 → P := by intro z0_; (with_reducible repeat (first | apply Kd.S_alloc | apply Kd.S_drewN | apply Kd.S_drew)); exact Kd.S_mono z0_.out (fun _ hk => hk.2)) : P := h z0_
theorem Zax {p0 P : Prop} (z0_ : p0) (h : p0 → P := by intro z0_; (try simp only [hl6_1]); (with_reducible repeat (first | apply Kd.N_alloc | apply Kd.N_drewN | apply Kd.N_drew)); exact z0_.out) : P := h z0_
theorem Zay {p0 P : Prop} (z0_ : p0) (h : p0 → P := by intro z0_; (try simp only [hl6_1]); (with_reducible repeat (first | refine blk_drewN ?_ _ | refine blk_drew ?_ | refine blk_alloc ?_ _)); exact z0_.out) : P := h z0_
theorem Zaz {p0 P : Prop} (z0_ : p0) (h : p0 → P := by intro z0_; (try simp only [hl6_1]); (with_reducible repeat (first | apply Kd.S_alloc | apply Kd.S_drewN | apply Kd.S_drew)); exact z0_.out) : P := h z0_
theorem Zba {p0 P : Prop} (z0_ : p0) (h : p0 → P := by intro z0_; repeat (first | (with_reducible first | exact HBW.out | apply below_alloc | apply pw_below_drewN | apply below_drew1 | refine below_set ?_ z0_.out) | exact HBW.out)) : P := h z0_
theorem Zbb {P : Prop} (h : P := by repeat (first | (with_reducible first | exact HI0.out | apply IsS99.alloc | apply IsS99.drewN | apply IsS99.drew | apply IsS99.set_1 | apply IsS99.set_2) | exact HI0.out)) : P := h
theorem Zbc {P : Prop} (h : P := by repeat (first | (with_reducible first | exact HB.out | apply below_alloc | apply pw_below_drewN | apply below_drew1 | refine below_set ?_ (IsS99.ge HI0.out)) | exact HB.out)) : P := h
theorem Zbd {P : Prop} (h : P := by repeat (first | (with_reducible first | exact HK.out | apply KeepBut.set_ | apply keep_drewN | apply keep_drew | apply keep_alloc) | exact HK.out)) : P := h
theorem Zbe {p0 P : Prop} (z0_ : p0) (h : p0 → P := by intro z0_; have := World.block_lt_of_cell? _ _ z0_; first | rwa [add_block] at this | exact this) : P := h z0_
theorem Zbf {P : Prop} (h : P := by first | (rw [add_block]; exact hn388_0) | (show (Addr.add _ _).block ≠ _; rw [add_block]; exact hn388_0) | exact hn388_0) : P := h
theorem Zbg {P : Prop} (h : P := by rw [hg]; exact (keep_size (w := w) (g := g) (row := none) (by repeat (first | (with_reducible first | exact HK.out | apply KeepBut.set_ | apply keep_drewN | apply keep_drew | apply keep_alloc) | exact HK.out)))) : P := h
theorem Zbh {P : Prop} (h : P := by rw [hg]; exact Nat.ne_of_lt (IsS99.lt (show IsS99 w0 _ g s0_0 s0_1 s0_2 from (by repeat (first | (with_reducible first | exact HI0.out | apply IsS99.alloc | apply IsS99.drewN | apply IsS99.drew | apply IsS99.set_1 | apply IsS99.set_2) | exact HI0.out))))) : P := h
theorem Zbi {P : Prop} (h : P := by rw [hg]; exact Nat.ne_of_gt (IsS99.lt (show IsS99 w0 _ g s0_0 s0_1 s0_2 from (by repeat (first | (with_reducible first | exact HI0.out | apply IsS99.alloc | apply IsS99.drewN | apply IsS99.drew | apply IsS99.set_1 | apply IsS99.set_2) | exact HI0.out))))) : P := h
theorem Zbj {p0 P : Prop} (z0_ : p0) (h : p0 → P := by intro z0_; repeat (first | (with_reducible first | exact HI0.out | apply IsS99.alloc | apply IsS99.drewN | apply IsS99.drew | apply IsS99.set_1 | apply IsS99.set_2 | refine IsS99.far ?_ z0_.out _) | exact HI0.out)) : P := h z0_
theorem Zbk {p0 P : Prop} (z0_ : p0) (h : p0 → P := by intro z0_; repeat (first | (with_reducible first | exact HB.out | apply below_alloc | apply pw_below_drewN | apply below_drew1 | refine below_set ?_ (IsS99.ge HI0.out) | refine below_set ?_ z0_.out) | exact HB.out)) : P := h z0_
theorem Zbl {p0 P : Prop} (z0_ : p0) (h : p0 → P := by intro z0_; repeat (first | (with_reducible first | exact HK.out | apply KeepBut.set_ | apply keep_drewN | apply keep_drew | apply keep_alloc | refine keep_far ?_ z0_.out _) | exact HK.out)) : P := h z0_
theorem Zbm {p0 P : Prop} (z0_ : p0) (h : p0 → P := by intro z0_; rw [hg]; exact (keep_size (w := w) (g := g) (row := none) (by repeat (first | (with_reducible first | exact HK.out | apply KeepBut.set_ | apply keep_drewN | apply keep_drew | apply keep_alloc | refine keep_far ?_ z0_.out _) | exact HK.out)))) : P := h z0_
theorem Zbn {p0 P : Prop} (z0_ : p0) (h : p0 → P := by intro z0_; rw [hg]; exact Nat.ne_of_lt (IsS99.lt (show IsS99 w0 _ g s0_0 t435 t436 from (by repeat (first | (with_reducible first | exact HI0.out | apply IsS99.alloc | apply IsS99.drewN | apply IsS99.drew | apply IsS99.set_1 | apply IsS99.set_2 | refine IsS99.far ?_ z0_.out _) | exact HI0.out))))) : P := h z0_
theorem Zbo {p0 P : Prop} (z0_ : p0) (h : p0 → P := by intro z0_; rw [hg]; exact Nat.ne_of_gt (IsS99.lt (show IsS99 w0 _ g s0_0 t435 t436 from (by repeat (first | (with_reducible first | exact HI0.out | apply IsS99.alloc | apply IsS99.drewN | apply IsS99.drew | apply IsS99.set_1 | apply IsS99.set_2 | refine IsS99.far ?_ z0_.out _) | exact HI0.out))))) : P := h z0_
theorem Zbp {p0 p1 P : Prop} (z0_ : p0) (z1_ : p1) (h : p0 → p1 → P := by intro z0_ z1_; repeat (first | (with_reducible first | exact HI0.out | apply IsS99.alloc | apply IsS99.drewN | apply IsS99.drew | apply IsS99.set_1 | apply IsS99.set_2 | refine IsS99.far ?_ z0_.out _ | refine IsS99.far ?_ z1_.out _) | exact HI0.out)) : P := h z0_ z1_
theorem Zbq {p0 p1 P : Prop} (z0_ : p0) (z1_ : p1) (h : p0 → p1 → P := by intro z0_ z1_; repeat (first | (with_reducible first | exact HB.out | apply below_alloc | apply pw_below_drewN | apply below_drew1 | refine below_set ?_ (IsS99.ge HI0.out) | refine below_set ?_ z0_.out | refine below_set ?_ z1_.out) | exact HB.out)) : P := h z0_ z1_
theorem Zbr {p0 p1 P : Prop} (z0_ : p0) (z1_ : p1) (h : p0 → p1 → P := by intro z0_ z1_; (with_reducible repeat (first | apply Kd.R_alloc | apply Kd.R_drewN | apply Kd.R_drew)); exact (Kd.R_mono (rfZ (Kd.R_types z0_.out z1_.out (by decide))) (fun _ h_ => h_.1))) : P := h z0_ z1_
theorem Zbs {p0 p1 P : Prop} (z0_ : p0) (z1_ : p1) (h : p0 → p1 → P := by intro z0_ z1_; repeat (first | (with_reducible first | exact HK.out | apply KeepBut.set_ | apply keep_drewN | apply keep_drew | apply keep_alloc | refine keep_far ?_ z0_.out _ | refine keep_far ?_ z1_.out _) | exact HK.out)) : P := h z0_ z1_
theorem Zbt {P : Prop} (h : P := by simp only [List.setIfInBounds_toArray, List.set_cons_zero, List.set_cons_succ]) : P := h
theorem Zbu {p0 P : Prop} (z0_ : p0) (h : p0 → P := by intro z0_; exact ⟨(blk_cell z0_.out 0).trans rfl, (blk_cell z0_.out 1).trans rfl, (blk_cell z0_.out 2).trans rfl⟩) : P := h z0_
theorem Zbv {P : Prop} (h : P := by first | (simp only [putAll, Act.put, List.setIfInBounds_toArray, List.set_cons_zero, List.set_cons_succ]; done) | (simp only [putAll, Act.put, List.setIfInBounds_toArray, List.set_cons_zero, List.set_cons_succ]; rfl)) : P := h
theorem Zbw {p0 p1 P : Prop} (z0_ : p0) (z1_ : p1) (h : p0 → p1 → P := by intro z0_ z1_; (with_reducible repeat (first | apply Kd.R_alloc | apply Kd.R_drewN | apply Kd.R_drew)); exact Kd.R_mono (rfZ (Kd.R_types z0_.out z1_.out (by decide))) (fun _ hk => trivial)) : P := h z0_ z1_
theorem Zbx {p0 P : Prop} (z0_ : p0) (h : p0 → P := by intro z0_; rw [hg]; exact Nat.ne_of_lt (blk_lt (g := gb464) (b0Z z0_))) : P := h z0_
theorem Zby {p0 P : Prop} (z0_ : p0) (h : p0 → P := by intro z0_; rw [hg]; exact Nat.ne_of_gt (blk_lt (g := gb464) (b0Z z0_))) : P := h z0_
theorem Zbz {p0 P : Prop} (z0_ : p0) (h : p0 → P := by intro z0_; rw [hg]; exact Nat.ne_of_lt (blk_lt (g := gb465) (b0Z z0_))) : P := h z0_
theorem Zca {p0 P : Prop} (z0_ : p0) (h : p0 → P := by intro z0_; rw [hg]; exact Nat.ne_of_gt (blk_lt (g := gb465) (b0Z z0_))) : P := h z0_
theorem Zcb {P : Prop} (h : P := by first | exact Kd.R_nil _ _ _ _ _ | exact Kd.N_nil _ _ _ _ _ | exact Kd.V_nil _ _ _ _ _ | exact Kd.Q_nil _ _ _ _ _ | exact Kd.S_nil _ _ _ _ _) : P := h
theorem Zcc {p0 p1 p2 P : Prop} (z0_ : p0) (z1_ : p1) (z2_ : p2) (h : p0 → p1 → p2 → P := by intro z0_ z1_ z2_; rw [hg]; exact (below_size (by repeat (first | (with_reducible first | exact HB.out | apply below_alloc | apply pw_below_drewN | apply below_drew1 | refine below_set ?_ z0_.out | refine below_set ?_ z1_.out | refine below_set ?_ z2_.out) | exact HB.out)))) : P := h z0_ z1_ z2_
theorem Zcd {p0 P : Prop} (z0_ : p0) (h : p0 → P := by intro z0_; rw [hg]; exact Nat.ne_of_lt (blk_lt (g := gb466) (b0Z z0_))) : P := h z0_
theorem Zce {p0 P : Prop} (z0_ : p0) (h : p0 → P := by intro z0_; rw [hg]; exact Nat.ne_of_gt (blk_lt (g := gb466) (b0Z z0_))) : P := h z0_
theorem Zcf {p0 p1 p2 p3 P : Prop} (z0_ : p0) (z1_ : p1) (z2_ : p2) (z3_ : p3) (h : p0 → p1 → p2 → p3 → P := by intro z0_ z1_ z2_ z3_; repeat (first | (with_reducible first | exact HB.out | apply below_alloc | apply pw_below_drewN | apply below_drew1 | refine below_set ?_ z0_.out | refine below_set ?_ z1_.out | refine below_set ?_ z2_.out | refine below_set ?_ z3_.out) | exact HB.out)) : P := h z0_ z1_ z2_ z3_
theorem Zcg {p0 P : Prop} (z0_ : p0) (h : p0 → P := by intro z0_; (with_reducible repeat (first | apply Kd.R_alloc | apply Kd.R_drewN | apply Kd.R_drew)); exact Kd.R_mono z0_.out (fun _ hk => ⟨hk.1.1, ⟨hk.2, hk.1.2⟩⟩)) : P := h z0_
theorem Zch {p0 P : Prop} (z0_ : p0) (h : p0 → P := by intro z0_; rw [hg]; exact Nat.ne_of_lt (blk_lt (g := gb491) (b0Z z0_))) : P := h z0_
theorem Zci {p0 P : Prop} (z0_ : p0) (h : p0 → P := by intro z0_; rw [hg]; exact Nat.ne_of_gt (blk_lt (g := gb491) (b0Z z0_))) : P := h z0_
theorem Zcj {p0 p1 P : Prop} (z0_ : p0) (z1_ : p1) (h : p0 → p1 → P := by intro z0_ z1_; rw [hg]; exact (keep_size (w := w) (g := g) (row := none) (by repeat (first | (with_reducible first | exact HK.out | apply KeepBut.set_ | apply keep_drewN | apply keep_drew | apply keep_alloc | refine keep_far ?_ z0_.out _ | refine keep_far ?_ z1_.out _) | exact HK.out)))) : P := h z0_ z1_
theorem Zck {p0 P : Prop} (z0_ : p0) (h : p0 → P := by intro z0_; rw [hg]; exact Nat.ne_of_lt (blk_lt (g := gb503) (b0Z z0_))) : P := h z0_
theorem Zcl {p0 P : Prop} (z0_ : p0) (h : p0 → P := by intro z0_; rw [hg]; exact Nat.ne_of_gt (blk_lt (g := gb503) (b0Z z0_))) : P := h z0_
theorem Zcm {p0 p1 p2 P : Prop} (z0_ : p0) (z1_ : p1) (z2_ : p2) (h : p0 → p1 → p2 → P := by intro z0_ z1_ z2_; repeat (first | (with_reducible first | exact HK.out | apply KeepBut.set_ | apply keep_drewN | apply keep_drew | apply keep_alloc | refine keep_far ?_ z0_.out _ | refine keep_far ?_ z1_.out _ | refine keep_far ?_ z2_.out _) | exact HK.out)) : P := h z0_ z1_ z2_
theorem Zcn {p0 P : Prop} (z0_ : p0) (h : p0 → P := by intro z0_; (with_reducible repeat (first | apply Kd.R_alloc | apply Kd.R_drewN | apply Kd.R_drew)); exact (Kd.R_mono (rfZ (Kd.R_mono z0_.out (fun k_ hk => (⟨hk, hk.2⟩ : _ ∧ k_ ≠ gb522)))) (fun _ h_ => h_.1))) : P := h z0_
theorem Zco {p0 p1 p2 P : Prop} (z0_ : p0) (z1_ : p1) (z2_ : p2) (h : p0 → p1 → p2 → P := by intro z0_ z1_ z2_; repeat (first | (with_reducible first | exact HB.out | apply below_alloc | apply pw_below_drewN | apply below_drew1 | refine below_set ?_ (IsS99.ge HI0.out) | refine below_set ?_ z0_.out | refine below_set ?_ z1_.out | refine below_set ?_ z2_.out) | exact HB.out)) : P := h z0_ z1_ z2_
theorem Zcp {p0 p1 p2 P : Prop} (z0_ : p0) (z1_ : p1) (z2_ : p2) (h : p0 → p1 → p2 → P := by intro z0_ z1_ z2_; repeat (first | (with_reducible first | exact HI0.out | apply IsS99.alloc | apply IsS99.drewN | apply IsS99.drew | apply IsS99.set_1 | apply IsS99.set_2 | refine IsS99.far ?_ z0_.out _ | refine IsS99.far ?_ z1_.out _ | refine IsS99.far ?_ z2_.out _) | exact HI0.out)) : P := h z0_ z1_ z2_
theorem Zcq {p0 p1 P : Prop} (z0_ : p0) (z1_ : p1) (h : p0 → p1 → P := by intro z0_ z1_; (with_reducible repeat (first | refine blk_drewN ?_ _ | refine blk_drew ?_ | refine blk_alloc ?_ _)); refine blk_far ?_ z0_.out _; (with_reducible repeat (first | refine blk_drewN ?_ _ | refine blk_drew ?_ | refine blk_alloc ?_ _)); exact z1_.out) : P := h z0_ z1_
theorem Zcr {p0 P : Prop} (z0_ : p0) (h : p0 → P := by intro z0_; first | (rw [add_block]; exact Kd.own_blk (IsS99.own_ne HI0.out z0_.out (by decide))) | (show (Addr.add _ _).block ≠ _; rw [add_block]; exact Kd.own_blk (IsS99.own_ne HI0.out z0_.out (by decide))) | exact Kd.own_blk (IsS99.own_ne HI0.out z0_.out (by decide))) : P := h z0_
theorem Zcs {p0 P : Prop} (z0_ : p0) (h : p0 → P := by intro z0_; exact ⟨(blk_cell z0_.out 0).trans rfl, (blk_cell z0_.out 1).trans rfl, (blk_cell z0_.out 2).trans rfl, HS3_, HS4_, HS5_, HS6_, HS7_, HS8_, HS9_, HS10_, HS11_, HS12_, HS13_⟩) : P := h z0_
theorem Zct {p0 p1 P : Prop} (z0_ : p0) (z1_ : p1) (h : p0 → p1 → P := by intro z0_ z1_; first | exact Kd.own_blk (Kd.R_ne z0_.out z1_.out (by decide)) | (rw [add_block]; exact Kd.own_blk (Kd.R_ne z0_.out z1_.out (by decide))) | (show (Addr.add _ _).block ≠ _; rw [add_block]; exact Kd.own_blk (Kd.R_ne z0_.out z1_.out (by decide))) | (dsimp only; exact Kd.own_blk (Kd.R_ne z0_.out z1_.out (by decide)))) : P := h z0_ z1_
theorem Zcu {p0 P : Prop} (z0_ : p0) (h : p0 → P := by intro z0_; (with_reducible repeat (first | apply Kd.R_alloc | apply Kd.R_drewN | apply Kd.R_drew)); exact (Kd.R_mono (rfZ (Kd.R_mono z0_.out (fun k_ hk => (⟨hk, hk⟩ : _ ∧ k_ ≠ gb543)))) (fun _ h_ => h_.1))) : P := h z0_
theorem Zcv {p0 p1 p2 P : Prop} (z0_ : p0) (z1_ : p1) (z2_ : p2) (h : p0 → p1 → p2 → P := by intro z0_ z1_ z2_; rw [hg]; exact (keep_size (w := w) (g := g) (row := none) (by repeat (first | (with_reducible first | exact HK.out | apply KeepBut.set_ | apply keep_drewN | apply keep_drew | apply keep_alloc | refine keep_far ?_ z0_.out _ | refine keep_far ?_ z1_.out _ | refine keep_far ?_ z2_.out _) | exact HK.out)))) : P := h z0_ z1_ z2_
theorem Zcw {p0 p1 p2 P : Prop} (z0_ : p0) (z1_ : p1) (z2_ : p2) (h : p0 → p1 → p2 → P := by intro z0_ z1_ z2_; rw [hg]; exact Nat.ne_of_lt (IsS99.lt (show IsS99 w0 _ g s0_0 t541 t542 from (by repeat (first | (with_reducible first | exact HI0.out | apply IsS99.alloc | apply IsS99.drewN | apply IsS99.drew | apply IsS99.set_1 | apply IsS99.set_2 | refine IsS99.far ?_ z0_.out _ | refine IsS99.far ?_ z1_.out _ | refine IsS99.far ?_ z2_.out _) | exact HI0.out))))) : P := h z0_ z1_ z2_
theorem Zcx {p0 p1 p2 P : Prop} (z0_ : p0) (z1_ : p1) (z2_ : p2) (h : p0 → p1 → p2 → P := by intro z0_ z1_ z2_; rw [hg]; exact Nat.ne_of_gt (IsS99.lt (show IsS99 w0 _ g s0_0 t541 t542 from (by repeat (first | (with_reducible first | exact HI0.out | apply IsS99.alloc | apply IsS99.drewN | apply IsS99.drew | apply IsS99.set_1 | apply IsS99.set_2 | refine IsS99.far ?_ z0_.out _ | refine IsS99.far ?_ z1_.out _ | refine IsS99.far ?_ z2_.out _) | exact HI0.out))))) : P := h z0_ z1_ z2_
theorem Zcy {p0 p1 p2 P : Prop} (z0_ : p0) (z1_ : p1) (z2_ : p2) (h : p0 → p1 → p2 → P := by intro z0_ z1_ z2_; (with_reducible repeat (first | apply Kd.R_alloc | apply Kd.R_drewN | apply Kd.R_drew)); exact Kd.R_mono (Kd.R_far (p := ⟨gb503, 2, none⟩) (Kd.R_far (p := ⟨gb503, 1, none⟩) (Kd.R_far (p := ⟨gb503, 0, none⟩) (Kd.R_far (p := ⟨gb554, 2, none⟩) (Kd.R_far (p := ⟨gb554, 1, none⟩) (Kd.R_far (p := ⟨gb554, 0, none⟩) (Kd.R_types (Kd.R_types z0_.out z1_.out (by decide)) z2_.out (by decide)) (fun _ hk => hk.1.2) (.slice Ao85 t544.length co85)) (fun _ hk => hk.1.2) (.slice Ao91 t547.length co91)) (fun _ hk => hk.1.2) (.slice Ao92 t550.length co92)) (fun _ hk => hk.2) (.slice Ao85 t544.length co85)) (fun _ hk => hk.2) (.slice Ao91 t547.length co91)) (fun _ hk => hk.2) (.slice Ao92 t550.length co92)) (fun _ hk => trivial)) : P := h z0_ z1_ z2_
theorem Zcz {p0 p1 p2 p3 P : Prop} (z0_ : p0) (z1_ : p1) (z2_ : p2) (z3_ : p3) (h : p0 → p1 → p2 → p3 → P := by intro z0_ z1_ z2_ z3_; repeat (first | (with_reducible first | exact HI0.out | apply IsS99.alloc | apply IsS99.drewN | apply IsS99.drew | apply IsS99.set_1 | apply IsS99.set_2 | refine IsS99.far ?_ z0_.out _ | refine IsS99.far ?_ z1_.out _ | refine IsS99.far ?_ z2_.out _ | refine IsS99.far ?_ z3_.out _) | exact HI0.out)) : P := h z0_ z1_ z2_ z3_
theorem Zda {p0 p1 p2 p3 P : Prop} (z0_ : p0) (z1_ : p1) (z2_ : p2) (z3_ : p3) (h : p0 → p1 → p2 → p3 → P := by intro z0_ z1_ z2_ z3_; repeat (first | (with_reducible first | exact HK.out | apply KeepBut.set_ | apply keep_drewN | apply keep_drew | apply keep_alloc | refine keep_far ?_ z0_.out _ | refine keep_far ?_ z1_.out _ | refine keep_far ?_ z2_.out _ | refine keep_far ?_ z3_.out _) | exact HK.out)) : P := h z0_ z1_ z2_ z3_
theorem Zdb {p0 p1 p2 p3 P : Prop} (z0_ : p0) (z1_ : p1) (z2_ : p2) (z3_ : p3) (h : p0 → p1 → p2 → p3 → P := by intro z0_ z1_ z2_ z3_; repeat (first | (with_reducible first | exact HB.out | apply below_alloc | apply pw_below_drewN | apply below_drew1 | refine below_set ?_ (IsS99.ge HI0.out) | refine below_set ?_ z0_.out | refine below_set ?_ z1_.out | refine below_set ?_ z2_.out | refine below_set ?_ z3_.out) | exact HB.out)) : P := h z0_ z1_ z2_ z3_
theorem Zdc {p0 p1 P : Prop} (z0_ : p0) (z1_ : p1) (h : p0 → p1 → P := by intro z0_ z1_; (with_reducible repeat (first | refine blk_drewN ?_ _ | refine blk_drew ?_ | refine blk_alloc ?_ _)); refine blk_far ?_ z0_.out _; (with_reducible repeat (first | refine blk_drewN ?_ _ | refine blk_drew ?_ | refine blk_alloc ?_ _)); refine blk_far ?_ z0_.out _; (with_reducible repeat (first | refine blk_drewN ?_ _ | refine blk_drew ?_ | refine blk_alloc ?_ _)); refine blk_far ?_ z0_.out _; (with_reducible repeat (first | refine blk_drewN ?_ _ | refine blk_drew ?_ | refine blk_alloc ?_ _)); exact z1_.out) : P := h z0_ z1_
theorem Zdd {p0 p1 p2 P : Prop} (z0_ : p0) (z1_ : p1) (z2_ : p2) (h : p0 → p1 → p2 → P := by intro z0_ z1_ z2_; (with_reducible repeat (first | apply Kd.R_alloc | apply Kd.R_drewN | apply Kd.R_drew)); exact Kd.R_mono (Kd.R_far (p := ⟨gb707, 2, none⟩) (Kd.R_far (p := ⟨gb707, 1, none⟩) (Kd.R_far (p := ⟨gb707, 0, none⟩) (Kd.R_far (p := ⟨gb719, 0, none⟩) (Kd.R_types (Kd.R_types z0_.out z1_.out (by decide)) z2_.out (by decide)) (fun _ hk => hk.1.2) (.slice Ao17 t723.length co17)) (fun _ hk => hk.2) (.slice Ao17 t723.length co17)) (fun _ hk => hk.2) (.slice Ao13 t711.length co13)) (fun _ hk => hk.2) (.slice Ao14 t714.length co14)) (fun _ hk => trivial)) : P := h z0_ z1_ z2_
theorem Zde {p0 p1 p2 P : Prop} (z0_ : p0) (z1_ : p1) (z2_ : p2) (h : p0 → p1 → p2 → P := by intro z0_ z1_ z2_; (with_reducible repeat (first | apply Kd.R_alloc | apply Kd.R_drewN | apply Kd.R_drew)); exact Kd.R_mono (Kd.R_far (p := ⟨gb707, 2, none⟩) (Kd.R_far (p := ⟨gb707, 1, none⟩) (Kd.R_far (p := ⟨gb707, 0, none⟩) (Kd.R_far (p := ⟨gb719, 1, none⟩) (Kd.R_types (Kd.R_types z0_.out z1_.out (by decide)) z2_.out (by decide)) (fun _ hk => hk.1.2) (.slice Ao34 t728.length co34)) (fun _ hk => hk.2) (.slice Ao9 t708.length co9)) (fun _ hk => hk.2) (.slice Ao34 t728.length co34)) (fun _ hk => hk.2) (.slice Ao14 t714.length co14)) (fun _ hk => trivial)) : P := h z0_ z1_ z2_
theorem Zdf {p0 p1 p2 P : Prop} (z0_ : p0) (z1_ : p1) (z2_ : p2) (h : p0 → p1 → p2 → P := by intro z0_ z1_ z2_; (with_reducible repeat (first | apply Kd.R_alloc | apply Kd.R_drewN | apply Kd.R_drew)); exact Kd.R_mono (Kd.R_far (p := ⟨gb707, 2, none⟩) (Kd.R_far (p := ⟨gb707, 1, none⟩) (Kd.R_far (p := ⟨gb707, 0, none⟩) (Kd.R_far (p := ⟨gb719, 2, none⟩) (Kd.R_types (Kd.R_types z0_.out z1_.out (by decide)) z2_.out (by decide)) (fun _ hk => hk.1.2) (.slice Ao58 y742.length co58)) (fun _ hk => hk.2) (.slice Ao9 t708.length co9)) (fun _ hk => hk.2) (.slice Ao13 t711.length co13)) (fun _ hk => hk.2) (.slice Ao58 y742.length co58)) (fun _ hk => trivial)) : P := h z0_ z1_ z2_
theorem Zdg {p0 p1 P : Prop} (z0_ : p0) (z1_ : p1) (h : p0 → p1 → P := by intro z0_ z1_; (with_reducible repeat (first | refine blk_drewN ?_ _ | refine blk_drew ?_ | refine blk_alloc ?_ _)); refine blk_far ?_ z0_.out _; (with_reducible repeat (first | refine blk_drewN ?_ _ | refine blk_drew ?_ | refine blk_alloc ?_ _)); refine blk_far ?_ z0_.out _; (with_reducible repeat (first | refine blk_drewN ?_ _ | refine blk_drew ?_ | refine blk_alloc ?_ _)); refine blk_far ?_ z0_.out _; (with_reducible repeat (first | refine blk_drewN ?_ _ | refine blk_drew ?_ | refine blk_alloc ?_ _)); refine blk_far ?_ z0_.out _; (with_reducible repeat (first | refine blk_drewN ?_ _ | refine blk_drew ?_ | refine blk_alloc ?_ _)); exact z1_.out) : P := h z0_ z1_
theorem Zdh {p0 P : Prop} (z0_ : p0) (h : p0 → P := by intro z0_; repeat (first | (with_reducible first | exact HI757.out | apply IsS99.alloc | apply IsS99.drewN | apply IsS99.drew | apply IsS99.set_1 | apply IsS99.set_2 | refine IsS99.far ?_ z0_.out _) | exact HI757.out)) : P := h z0_
theorem Zdi {p0 P : Prop} (z0_ : p0) (h : p0 → P := by intro z0_; repeat (first | (with_reducible first | exact HB.out | apply below_alloc | apply pw_below_drewN | apply below_drew1 | refine below_set ?_ (IsS99.ge HI757.out) | refine below_set ?_ z0_.out) | exact HB.out)) : P := h z0_
theorem Zdj {p0 p1 P : Prop} (z0_ : p0) (z1_ : p1) (h : p0 → p1 → P := by intro z0_ z1_; repeat (first | (with_reducible first | exact HI757.out | apply IsS99.alloc | apply IsS99.drewN | apply IsS99.drew | apply IsS99.set_1 | apply IsS99.set_2 | refine IsS99.far ?_ z0_.out _ | refine IsS99.far ?_ z1_.out _) | exact HI757.out)) : P := h z0_ z1_
theorem Zdk {p0 p1 P : Prop} (z0_ : p0) (z1_ : p1) (h : p0 → p1 → P := by intro z0_ z1_; repeat (first | (with_reducible first | exact HB.out | apply below_alloc | apply pw_below_drewN | apply below_drew1 | refine below_set ?_ (IsS99.ge HI757.out) | refine below_set ?_ z0_.out | refine below_set ?_ z1_.out) | exact HB.out)) : P := h z0_ z1_
theorem Zdl {p0 P : Prop} (z0_ : p0) (h : p0 → P := by intro z0_; repeat (first | exact z0_.out | (with_reducible refine Kd.C_alloc ?_ _) | (with_reducible refine Kd.C_drewN ?_ _) | (with_reducible refine Kd.C_drew ?_))) : P := h z0_
theorem Zdm {p0 P : Prop} (z0_ : p0) (h : p0 → P := by intro z0_; repeat (first | exact (Kd.N_reads' z0_.out).2.2 | (with_reducible refine Kd.C_alloc ?_ _) | (with_reducible refine Kd.C_drewN ?_ _) | (with_reducible refine Kd.C_drew ?_))) : P := h z0_
theorem Zdn {p0 P : Prop} (z0_ : p0) (h : p0 → P := by intro z0_; (with_reducible repeat (first | apply Kd.N_alloc | apply Kd.N_drewN | apply Kd.N_drew)); exact Kd.N_mono z0_.out (fun _ hk => ⟨hk.1.1, ⟨hk.2, ⟨hk.1.2.1, ⟨hk.1.2.2.1, ⟨hk.1.2.2.2.1, hk.1.2.2.2.2⟩⟩⟩⟩⟩)) : P := h z0_
theorem Zdo {P : Prop} (h : P := by have := HJ6.out; have := HJ24.out; have := HJ35.out; have := HK4.out; have := HJ44.out; have := HK6.out; omega) : P := h
theorem Zdp {P : Prop} (h : P := by rw [List.length_append, List.length_singleton]; omega) : P := h
end Go.Proofs.Ytnifblnlpepehaa.F
namespace Go.Proofs.Ytnifblnlpepehaa.F
open Go.RowKit Go.Proofs.YtnifblnlpepehaaW.PrintWords Go.Proofs.YtnifblnlpepehaaW.PrintLast Go.Proofs.YtnifblnlpepehaaW.PrintMore
attribute [local go_sem] max2_int min2_int max_two min_two max_three min_three max_four min_four
set_option linter.unusedVariables false
set_option linter.unusedSimpArgs false
set_option maxHeartbeats 8000000
set_option maxRecDepth 100000
def spec_l01In.f (a0 : Int) (a1 : Int) (a2 : Int) : Option (Bool) := if a0 ≥ a1 then (some (decide (a0 ≤ a2))) else (some false)
theorem spec_l01In.calls (a0 : Int) (a1 : Int) (a2 : Int) (r : Bool) (w : World) (h : spec_l01In.f a0 a1 a2 = some r) :
  Calls Try.prog 24 #[.int .i64 a0, .int .i64 a1, .int .i64 a2] w fun e w' => e = .returned (.bool r) ∧ Drawn0 w w' := by
 have H : (if a0 ≥ a1 then (some (decide (a0 ≤ a2))) else (some false)) = some r := h; clear h
 by_cases c4 : a0 ≥ a1
 ·rw [if_pos c4] at H
  have c4b0 : decide (a1 ≤ a0) = true := decide_eq_true c4; clear c4; obtain rfl := Option.some.inj H
  go_enter Try.func24, Try.ntmps24
  go_wp2
  go_ret
  exact ⟨Za, Zb⟩
 ·rw [if_neg c4] at H
  have c4b0 : decide (a1 ≤ a0) = false := decide_eq_false c4; clear c4; obtain rfl := Option.some.inj H
  go_enter Try.func24, Try.ntmps24
  go_wp2
  go_ret
  exact ⟨Za, Zb⟩
end Go.Proofs.Ytnifblnlpepehaa.F
namespace Go.Proofs.Ytnifblnlpepehaa.F
open Go.RowKit Go.Proofs.YtnifblnlpepehaaW.PrintWords Go.Proofs.YtnifblnlpepehaaW.PrintLast Go.Proofs.YtnifblnlpepehaaW.PrintMore
attribute [local go_sem] max2_int min2_int max_two min_two max_three min_three max_four min_four
set_option linter.unusedVariables false
set_option linter.unusedSimpArgs false
set_option maxHeartbeats 8000000
set_option maxRecDepth 100000
def spec_IsScore.l0 : Nat → List (S87) → Int → Option (Bool)
 | 0, _, _ => none
 | k + 1, x0, x3 => if x3 < (x0.length : Int) then (if 0 ≤ x3 then ((spec_l01In.f ((rd_T87 x0 x3).f0) 1 16).bind fun t103 => (if t103 = true then ((spec_l01In.f ((rd_T87 x0 x3).f1) 100 5000).bind fun t105 => (if t105 = true then (spec_IsScore.l0 k x0 (wrap64 (x3 + 1))) else (some false))) else (some false))) else (none)) else ((spec_l01In.f (x0.length : Int) 1 20).bind fun t101 => (some t101))
def spec_IsScore.f (k : Nat) (l0 : List (S87)) : Option (Bool) := spec_IsScore.l0 k l0 0
theorem spec_IsScore.calls (k : Nat) (A0 : Option Addr) (c0 : Nat) (l0 : List (S87)) (r : Bool) (w : World) (hr0 : Kd.C k87 w A0 l0.length l0) (hc0 : l0.length ≤ c0) (h : spec_IsScore.f k l0 = some r) :
  Calls Try.prog 49 #[.slice A0 l0.length c0] w fun e w' => e = .returned (.bool r) ∧ Drawn0 w w' := by
 have HR0 := am_ hr0; have HC0 := am_ hc0; clear hr0 hc0; have H : (spec_IsScore.l0 k l0 0) = some r := h; clear h; have H' := am_ H; clear H
 go_enter Try.func49, Try.ntmps49
 go_wp2
 go_loopg [3] k (fun kq v3 w' => ∃ (x3_1 : Int), v3 = .int .i64 x3_1 ∧ Aside0 (spec_IsScore.l0 kq l0 x3_1 = some r) ∧ Aside0 (kq ≤ k) ∧ Drawn0 w w')
 case atStart => exact ⟨(0), Za, H', ⟨Nat.le_refl _⟩, Zb⟩
 case round =>
  clear H'; obtain ⟨x3_1, rfl, HA, HK1, ⟨m1, rfl⟩⟩ := hrel
  cases gk with
  | zero => exact absurd HA.out (by simp [spec_IsScore.l0])
  | succ k1 =>
   have H := HA.out; clear HA; simp only [spec_IsScore.l0] at H
   by_cases c2 : x3_1 < (l0.length : Int)
   ·rw [if_pos c2] at H
    have c2b0 := decide_eq_true c2; clear c2
    by_cases c3 : 0 ≤ x3_1
    ·rw [if_pos c3] at H
     have c3b0 := decide_eq_true c3; clear c3; obtain ⟨t103, A4, H⟩ := bE_ H; have HS_ := am_ H; clear H; have p102 : 0 ≤ (x3_1 : Int) := of_decide_eq_true Zc; have q102 : x3_1 < (l0.length : Int) := of_decide_eq_true Zc; obtain ⟨ad102, e102, hx102_0, hx102_1⟩ := at_T87 HR0.out x3_1 p102 q102
     cases e102
     replace p102 := eq_true p102; replace q102 := eq_true q102
     go_wp2_with (first | ((with_reducible refine gate_callee (f := 24) rfl ?_); refine gZ 15 Try.func24 #[.int .i64 ((rd_T87 l0 x3_1).f0), .int .i64 1, .int .i64 16] ?_; (with_reducible refine (spec_l01In.calls ((rd_T87 l0 x3_1).f0) 1 16 t103 _ A4.out).mono ?_); rintro e w' ⟨rfl, ⟨nd, rfl⟩⟩; refine ⟨_, rfl, ?_⟩; refine ?roundEnd))
     case roundEnd =>
      by_cases c5 : t103 = true
      ·have H := HS_.out
       clear HS_; subst c5; rw [if_pos rfl] at H; obtain ⟨t105, A6, H⟩ := bE_ H; have HS_ := am_ H; clear H; have p104 : 0 ≤ (x3_1 : Int) := of_decide_eq_true Zc; have q104 : x3_1 < (l0.length : Int) := of_decide_eq_true Zc; obtain ⟨ad104, e104, hx104_0, hx104_1⟩ := at_T87 HR0.out x3_1 p104 q104; obtain rfl : ad102 = ad104 := (by injection e104); replace p104 := eq_true p104; replace q104 := eq_true q104
       go_wp2_with (first | (go_at_call 24; (with_reducible refine (spec_l01In.calls ((rd_T87 l0 x3_1).f1) 100 5000 t105 _ A6.out).mono ?_); rintro e w' ⟨rfl, ⟨nd, rfl⟩⟩; refine ?roundEnd))
       case roundEnd =>
        by_cases c7 : t105 = true
        ·have H := HS_.out
         clear HS_; subst c7; rw [if_pos rfl] at H; have H' := am_ H; clear H
         go_wp2_with (first | fail)
         go_roundg k1
         case measure => have := HK1.out; omega
         case rel => exact ⟨(wrap64 (x3_1 + 1)), Za, H', ⟨Zd⟩, Zb⟩
        ·have H := HS_.out
         clear HS_; replace c7 := Bool.eq_false_iff.mpr c7; subst c7; rw [if_neg fnt_] at H; obtain rfl := Option.some.inj H
         go_wp2_with (first | fail)
         go_ret
         exact ⟨Za, Zb⟩
      ·have H := HS_.out
       clear HS_; replace c5 := Bool.eq_false_iff.mpr c5; subst c5; rw [if_neg fnt_] at H; obtain rfl := Option.some.inj H
       go_wp2_with (first | fail)
       go_ret
       exact ⟨Za, Zb⟩
    ·exact nN c3 H
   ·rw [if_neg c2] at H
    have c2b0 := decide_eq_false c2; clear c2; obtain ⟨t101, A8, H⟩ := bE_ H; obtain rfl := Option.some.inj H
    go_wp2_with (first | ((with_reducible refine gate_callee (f := 24) rfl ?_); refine gZ 28 Try.func24 #[.int .i64 (l0.length : Int), .int .i64 1, .int .i64 20] ?_; (with_reducible refine (spec_l01In.calls (l0.length : Int) 1 20 t101 _ A8.out).mono ?_); rintro e w' ⟨rfl, ⟨nd, rfl⟩⟩; refine ⟨_, rfl, ?_⟩))
    go_ret
    exact ⟨Za, Zb⟩
def spec_IsWord.l0 : Nat → ByteArray → Int → Option (Bool)
 | 0, _, _ => none
 | k + 1, x0, x3 => if x3 < (x0.size : Int) then (if 0 ≤ x3 then (if (bt x0 x3) < 97 then (some false) else (if (bt x0 x3) > 122 then (some false) else (spec_IsWord.l0 k x0 (wrap64 (x3 + 1))))) else (none)) else ((spec_l01In.f (x0.size : Int) 1 16).bind fun t106 => (some t106))
def spec_IsWord.f (k : Nat) (a0 : ByteArray) : Option (Bool) := spec_IsWord.l0 k a0 0
theorem spec_IsWord.calls (k : Nat) (a0 : ByteArray) (r : Bool) (w : World) (h : spec_IsWord.f k a0 = some r) :
  Calls Try.prog 90 #[.string a0] w fun e w' => e = .returned (.bool r) ∧ Drawn0 w w' := by
 have H : (spec_IsWord.l0 k a0 0) = some r := h; clear h; have H' := am_ H; clear H
 go_enter Try.func90, Try.ntmps90
 go_wp2
 go_loopg [3] k (fun kq v3 w' => ∃ (x3_1 : Int), v3 = .int .i64 x3_1 ∧ Aside0 (spec_IsWord.l0 kq a0 x3_1 = some r) ∧ Aside0 (kq ≤ k) ∧ Drawn0 w w')
 case atStart => exact ⟨(0), Za, H', ⟨Nat.le_refl _⟩, Zb⟩
 case round =>
  clear H'; obtain ⟨x3_1, rfl, HA, HK1, ⟨m1, rfl⟩⟩ := hrel
  cases gk with
  | zero => exact absurd HA.out (by simp [spec_IsWord.l0])
  | succ k1 =>
   have H := HA.out; clear HA; simp only [spec_IsWord.l0] at H
   by_cases c2 : x3_1 < (a0.size : Int)
   ·rw [if_pos c2] at H
    have c2b0 := decide_eq_true c2; clear c2
    by_cases c3 : 0 ≤ x3_1
    ·rw [if_pos c3] at H
     have c3b0 := decide_eq_true c3; clear c3
     by_cases c5 : (bt a0 x3_1) < 97
     ·rw [if_pos c5] at H
      have c5b0 := decide_eq_true c5; clear c5; obtain rfl := Option.some.inj H; have p4 : 0 ≤ (x3_1 : Int) := of_decide_eq_true Zc; have q4 : x3_1 < (a0.size : Int) := of_decide_eq_true Zc; have hx4 := bt_at a0 x3_1; replace p4 := eq_true p4; replace q4 := eq_true q4
      go_wp2
      go_ret
      exact ⟨Za, Zb⟩
     ·rw [if_neg c5] at H
      have c5b0 := decide_eq_false c5; clear c5
      by_cases c7 : (bt a0 x3_1) > 122
      ·rw [if_pos c7] at H
       have c7b0 : decide (122 < (bt a0 x3_1)) = true := decide_eq_true c7; clear c7; obtain rfl := Option.some.inj H; have p4 : 0 ≤ (x3_1 : Int) := of_decide_eq_true Zc; have q4 : x3_1 < (a0.size : Int) := of_decide_eq_true Zc; have hx4 := bt_at a0 x3_1; replace p4 := eq_true p4; replace q4 := eq_true q4; have p6 : 0 ≤ (x3_1 : Int) := of_decide_eq_true Zc; have q6 : x3_1 < (a0.size : Int) := of_decide_eq_true Zc; have hx6 := bt_at a0 x3_1; replace p6 := eq_true p6; replace q6 := eq_true q6
       go_wp2
       go_ret
       exact ⟨Za, Zb⟩
      ·rw [if_neg c7] at H
       have c7b0 : decide (122 < (bt a0 x3_1)) = false := decide_eq_false c7; clear c7; have H' := am_ H; clear H; have p4 : 0 ≤ (x3_1 : Int) := of_decide_eq_true Zc; have q4 : x3_1 < (a0.size : Int) := of_decide_eq_true Zc; have hx4 := bt_at a0 x3_1; replace p4 := eq_true p4; replace q4 := eq_true q4; have p6 : 0 ≤ (x3_1 : Int) := of_decide_eq_true Zc; have q6 : x3_1 < (a0.size : Int) := of_decide_eq_true Zc; have hx6 := bt_at a0 x3_1; replace p6 := eq_true p6; replace q6 := eq_true q6
       go_wp2
       go_roundg k1
       case measure => have := HK1.out; omega
       case rel => exact ⟨(wrap64 (x3_1 + 1)), Za, H', ⟨Zd⟩, Zb⟩
    ·exact nN c3 H
   ·rw [if_neg c2] at H
    have c2b0 := decide_eq_false c2; clear c2; obtain ⟨t106, A8, H⟩ := bE_ H; obtain rfl := Option.some.inj H
    go_wp2_with (first | ((with_reducible refine gate_callee (f := 24) rfl ?_); refine gZ 22 Try.func24 #[.int .i64 (a0.size : Int), .int .i64 1, .int .i64 16] ?_; (with_reducible refine (spec_l01In.calls (a0.size : Int) 1 16 t106 _ A8.out).mono ?_); rintro e w' ⟨rfl, ⟨nd, rfl⟩⟩; refine ⟨_, rfl, ?_⟩))
    go_ret
    exact ⟨Za, Zb⟩
def spec_IsArticle.f (k : Nat) (a0_0 : ByteArray) (a0_1 : Int) (a0_2 : Int) (a0_3 : Int) (a0_4 : Int) (a0_5 : Int) (a0_6 : Int) (a0_7 : Int) (a0_8 : Int) : Option (Bool) := (spec_IsWord.f k a0_0).bind fun t108 => (if t108 = true then ((spec_l01In.f a0_1 0 3).bind fun t109 => (if t109 = true then ((spec_l01In.f a0_2 20 300).bind fun t110 => (if t110 = true then ((spec_l01In.f a0_3 0 10000).bind fun t111 => (if t111 = true then ((spec_l01In.f a0_4 0 a0_3).bind fun t112 => (if t112 = true then ((spec_l01In.f a0_5 1 50).bind fun t113 => (if t113 = true then ((spec_l01In.f a0_6 0 10000).bind fun t114 => (if t114 = true then ((spec_l01In.f a0_7 1 100000).bind fun t115 => (if t115 = true then ((spec_l01In.f a0_8 0 3).bind fun t116 => (some t116)) else (some false))) else (some false))) else (some false))) else (some false))) else (some false))) else (some false))) else (some false))) else (some false))
theorem spec_IsArticle.calls (k : Nat) (a0_0 : ByteArray) (a0_1 : Int) (a0_2 : Int) (a0_3 : Int) (a0_4 : Int) (a0_5 : Int) (a0_6 : Int) (a0_7 : Int) (a0_8 : Int) (r : Bool) (w : World) (h : spec_IsArticle.f k a0_0 a0_1 a0_2 a0_3 a0_4 a0_5 a0_6 a0_7 a0_8 = some r) :
  Calls Try.prog 73 #[.agg #[.string a0_0, .int .i64 a0_1, .int .i64 a0_2, .int .i64 a0_3, .int .i64 a0_4, .int .i64 a0_5, .int .i64 a0_6, .int .i64 a0_7, .int .i64 a0_8]] w fun e w' => e = .returned (.bool r) ∧ Below w.heap.size w w' := by
 have hu91 := Try.underlying91; have HB := am_ (Below.refl w.heap.size w); have H : ((spec_IsWord.f k a0_0).bind fun t108 => (if t108 = true then ((spec_l01In.f a0_1 0 3).bind fun t109 => (if t109 = true then ((spec_l01In.f a0_2 20 300).bind fun t110 => (if t110 = true then ((spec_l01In.f a0_3 0 10000).bind fun t111 => (if t111 = true then ((spec_l01In.f a0_4 0 a0_3).bind fun t112 => (if t112 = true then ((spec_l01In.f a0_5 1 50).bind fun t113 => (if t113 = true then ((spec_l01In.f a0_6 0 10000).bind fun t114 => (if t114 = true then ((spec_l01In.f a0_7 1 100000).bind fun t115 => (if t115 = true then ((spec_l01In.f a0_8 0 3).bind fun t116 => (some t116)) else (some false))) else (some false))) else (some false))) else (some false))) else (some false))) else (some false))) else (some false))) else (some false))) = some r := h; clear h; obtain ⟨t108, A2, H⟩ := bE_ H; have HS_ := am_ H; clear H
 go_enter Try.func73, Try.ntmps73
 go_wp2_with (first | ((with_reducible refine gate_dst (N := 1) rfl ?_); refine boxZ 1 #[.string a0_0, .int .i64 a0_1, .int .i64 a0_2, .int .i64 a0_3, .int .i64 a0_4, .int .i64 a0_5, .int .i64 a0_6, .int .i64 a0_7, .int .i64 a0_8] 91 ?_; intro gb107 hg w19 hbox hb; replace BK107 := am_ (hbox); replace GW107 := am_ ((Ze : w.heap.size ≤ gb107)); replace GE107 := GW107; replace HB := (bsZ Zf hb); clear hb hbox hg; refine ci9 BK107 ?_; intros) | ((with_reducible refine gate_callee (f := 90) rfl ?_); refine gZ 5 Try.func90 #[.string a0_0] ?_; (with_reducible refine (spec_IsWord.calls k a0_0 t108 _ A2.out).mono ?_); rintro e w' ⟨rfl, ⟨nd, rfl⟩⟩; refine ⟨_, rfl, ?_⟩; refine ?roundEnd))
 case roundEnd =>
  by_cases c3 : t108 = true
  ·have H := HS_.out
   clear HS_; subst c3; rw [if_pos rfl] at H; obtain ⟨t109, A4, H⟩ := bE_ H; have HS_ := am_ H; clear H
   go_wp2_with (first | (go_at_call 24; (with_reducible refine (spec_l01In.calls a0_1 0 3 t109 _ A4.out).mono ?_); rintro e w' ⟨rfl, ⟨nd, rfl⟩⟩; refine ?roundEnd))
   case roundEnd =>
    by_cases c5 : t109 = true
    ·have H := HS_.out
     clear HS_; subst c5; rw [if_pos rfl] at H; obtain ⟨t110, A6, H⟩ := bE_ H; have HS_ := am_ H; clear H
     go_wp2_with (first | (go_at_call 24; (with_reducible refine (spec_l01In.calls a0_2 20 300 t110 _ A6.out).mono ?_); rintro e w' ⟨rfl, ⟨nd, rfl⟩⟩; refine ?roundEnd))
     case roundEnd =>
      by_cases c7 : t110 = true
      ·have H := HS_.out
       clear HS_; subst c7; rw [if_pos rfl] at H; obtain ⟨t111, A8, H⟩ := bE_ H; have HS_ := am_ H; clear H
       go_wp2_with (first | (go_at_call 24; (with_reducible refine (spec_l01In.calls a0_3 0 10000 t111 _ A8.out).mono ?_); rintro e w' ⟨rfl, ⟨nd, rfl⟩⟩; refine ?roundEnd))
       case roundEnd =>
        by_cases c9 : t111 = true
        ·have H := HS_.out
         clear HS_; subst c9; rw [if_pos rfl] at H; obtain ⟨t112, A10, H⟩ := bE_ H; have HS_ := am_ H; clear H
         go_wp2_with (first | (go_at_call 24; (with_reducible refine (spec_l01In.calls a0_4 0 a0_3 t112 _ A10.out).mono ?_); rintro e w' ⟨rfl, ⟨nd, rfl⟩⟩; refine ?roundEnd))
         case roundEnd =>
          by_cases c11 : t112 = true
          ·have H := HS_.out
           clear HS_; subst c11; rw [if_pos rfl] at H; obtain ⟨t113, A12, H⟩ := bE_ H; have HS_ := am_ H; clear H
           go_wp2_with (first | (go_at_call 24; (with_reducible refine (spec_l01In.calls a0_5 1 50 t113 _ A12.out).mono ?_); rintro e w' ⟨rfl, ⟨nd, rfl⟩⟩; refine ?roundEnd))
           case roundEnd =>
            by_cases c13 : t113 = true
            ·have H := HS_.out
             clear HS_; subst c13; rw [if_pos rfl] at H; obtain ⟨t114, A14, H⟩ := bE_ H; have HS_ := am_ H; clear H
             go_wp2_with (first | (go_at_call 24; (with_reducible refine (spec_l01In.calls a0_6 0 10000 t114 _ A14.out).mono ?_); rintro e w' ⟨rfl, ⟨nd, rfl⟩⟩; refine ?roundEnd))
             case roundEnd =>
              by_cases c15 : t114 = true
              ·have H := HS_.out
               clear HS_; subst c15; rw [if_pos rfl] at H; obtain ⟨t115, A16, H⟩ := bE_ H; have HS_ := am_ H; clear H
               go_wp2_with (first | (go_at_call 24; (with_reducible refine (spec_l01In.calls a0_7 1 100000 t115 _ A16.out).mono ?_); rintro e w' ⟨rfl, ⟨nd, rfl⟩⟩; refine ?roundEnd))
               case roundEnd =>
                by_cases c17 : t115 = true
                ·have H := HS_.out
                 clear HS_; subst c17; rw [if_pos rfl] at H; obtain ⟨t116, A18, H⟩ := bE_ H; obtain rfl := Option.some.inj H
                 go_wp2_with (first | (go_at_call 24; (with_reducible refine (spec_l01In.calls a0_8 0 3 t116 _ A18.out).mono ?_); rintro e w' ⟨rfl, ⟨nd, rfl⟩⟩))
                 go_ret
                 exact ⟨Zg, (Zh GE107)⟩
                ·have H := HS_.out
                 clear HS_; replace c17 := Bool.eq_false_iff.mpr c17; subst c17; rw [if_neg fnt_] at H; obtain rfl := Option.some.inj H
                 go_wp2_with (first | fail)
                 go_ret
                 exact ⟨Zg, (Zh GE107)⟩
              ·have H := HS_.out
               clear HS_; replace c15 := Bool.eq_false_iff.mpr c15; subst c15; rw [if_neg fnt_] at H; obtain rfl := Option.some.inj H
               go_wp2_with (first | fail)
               go_ret
               exact ⟨Zg, (Zh GE107)⟩
            ·have H := HS_.out
             clear HS_; replace c13 := Bool.eq_false_iff.mpr c13; subst c13; rw [if_neg fnt_] at H; obtain rfl := Option.some.inj H
             go_wp2_with (first | fail)
             go_ret
             exact ⟨Zg, (Zh GE107)⟩
          ·have H := HS_.out
           clear HS_; replace c11 := Bool.eq_false_iff.mpr c11; subst c11; rw [if_neg fnt_] at H; obtain rfl := Option.some.inj H
           go_wp2_with (first | fail)
           go_ret
           exact ⟨Zg, (Zh GE107)⟩
        ·have H := HS_.out
         clear HS_; replace c9 := Bool.eq_false_iff.mpr c9; subst c9; rw [if_neg fnt_] at H; obtain rfl := Option.some.inj H
         go_wp2_with (first | fail)
         go_ret
         exact ⟨Zg, (Zh GE107)⟩
      ·have H := HS_.out
       clear HS_; replace c7 := Bool.eq_false_iff.mpr c7; subst c7; rw [if_neg fnt_] at H; obtain rfl := Option.some.inj H
       go_wp2_with (first | fail)
       go_ret
       exact ⟨Zg, (Zh GE107)⟩
    ·have H := HS_.out
     clear HS_; replace c5 := Bool.eq_false_iff.mpr c5; subst c5; rw [if_neg fnt_] at H; obtain rfl := Option.some.inj H
     go_wp2_with (first | fail)
     go_ret
     exact ⟨Zg, (Zh GE107)⟩
  ·have H := HS_.out
   clear HS_; replace c3 := Bool.eq_false_iff.mpr c3; subst c3; rw [if_neg fnt_] at H; obtain rfl := Option.some.inj H
   go_wp2_with (first | fail)
   go_ret
   exact ⟨Zg, (Zh GE107)⟩
def spec_AreArticles.l0 : Nat → List (S91) → Int → Option (Bool)
 | 0, _, _ => none
 | k + 1, x0, x3 => if x3 < (x0.length : Int) then (if 0 ≤ x3 then ((spec_IsArticle.f k ((rd_T91 x0 x3).f0) ((rd_T91 x0 x3).f1) ((rd_T91 x0 x3).f2) ((rd_T91 x0 x3).f3) ((rd_T91 x0 x3).f4) ((rd_T91 x0 x3).f5) ((rd_T91 x0 x3).f6) ((rd_T91 x0 x3).f7) ((rd_T91 x0 x3).f8)).bind fun t118 => (if t118 = true then (if x3 > 0 then (if 0 ≤ (wrap64 (x3 - 1)) then (if (wrap64 (x3 - 1)) < (x0.length : Int) then (if ((Op.bytesLess (((rd_T91 x0 (wrap64 (x3 - 1))).f0).toList) (((rd_T91 x0 x3).f0).toList)) = true) then (spec_AreArticles.l0 k x0 (wrap64 (x3 + 1))) else (some false)) else (none)) else (none)) else (spec_AreArticles.l0 k x0 (wrap64 (x3 + 1)))) else (some false))) else (none)) else (some (decide ((x0.length : Int) ≤ 12)))
def spec_AreArticles.f (k : Nat) (l0 : List (S91)) : Option (Bool) := spec_AreArticles.l0 k l0 0
def spec_AreArticles.T4 : Bool × List (List Nat × List Nat) := (true, [([], []), ([], []), ([0, 1], [0, 1]), ([2], [2]), ([3], [3]), ([4], [4]), ([5, 4], [5]), ([6], [6]), ([7, 6], [6, 7]), ([8, 6, 6], [6, 8]), ([9], [9]), ([9], [9]), ([11, 9], [9, 11]), ([10, 12, 9], [9, 10, 12]), ([13, 9], [9, 13]), ([14, 9], [9, 14]), ([9], [9]), ([9], [9]), ([16, 17, 9], [9, 16, 17]), ([18, 9], [9, 18]), ([19, 9], [9, 19]), ([15, 20, 9], [9, 15, 20]), ([9, 21, 6], [6, 9, 21]), ([6, 22], [6, 22])])
def spec_AreArticles.B4 : List Nat := [0, 0, 3, 7, 15, 31, 63, 127, 255, 511, 1023, 1023, 3071, 8191, 16383, 32767, 1023, 1023, 197631, 459775, 984063, 2097151, 4194303, 8388607]
theorem spec_AreArticles.tab4 : rtab .any (opsOf Try.f50 4) = spec_AreArticles.T4 := by kernel_rfl
theorem spec_AreArticles.bits4 : waitsOk spec_AreArticles.T4.2 spec_AreArticles.B4 = true := by kernel_rfl
theorem spec_AreArticles.calls (k : Nat) (A0 : Option Addr) (c0 : Nat) (l0 : List (S91)) (r : Bool) (w : World) (hr0 : Kd.C k91 w A0 l0.length l0) (hc0 : l0.length ≤ c0) (h : spec_AreArticles.f k l0 = some r) :
  Calls Try.prog 50 #[.slice A0 l0.length c0] w fun e w' => e = .returned (.bool r) ∧ Below w.heap.size w w' := by
 have hu91 := Try.underlying91; have HR0 := am_ hr0; have HC0 := am_ hc0; clear hr0 hc0; have HB := am_ (Below.refl w.heap.size w); have H : (spec_AreArticles.l0 k l0 0) = some r := h; clear h; have H' := am_ H; clear H
 go_enter Try.func50, Try.ntmps50
 go_wp2
 go_loopg [3] k (fun kq v3 w' => ∃ (x3_1 : Int), v3 = .int .i64 x3_1 ∧ Aside0 (spec_AreArticles.l0 kq l0 x3_1 = some r) ∧ Aside0 (kq ≤ k) ∧ Aside0 (Below w.heap.size w w'))
 case atStart => exact ⟨(0), Za, H', ⟨Nat.le_refl _⟩, ⟨Zf⟩⟩
 case round =>
  clear H'; obtain ⟨x3_1, rfl, HA, HK1, HB⟩ := hrel
  cases gk with
  | zero => exact absurd HA.out (by simp [spec_AreArticles.l0])
  | succ k1 =>
   have H := HA.out; clear HA; simp only [spec_AreArticles.l0] at H
   by_cases c2 : x3_1 < (l0.length : Int)
   ·rw [if_pos c2] at H
    have c2b0 := decide_eq_true c2; clear c2
    by_cases c3 : 0 ≤ x3_1
    ·rw [if_pos c3] at H
     have c3b0 := decide_eq_true c3; clear c3; obtain ⟨t118, A4, H⟩ := bE_ H
     by_cases c5 : t118 = true
     ·subst c5
      rw [if_pos rfl] at H
      by_cases c6 : x3_1 > 0
      ·rw [if_pos c6] at H
       have c6b0 : decide (0 < x3_1) = true := decide_eq_true c6; clear c6; obtain ⟨ji7, hji7⟩ : ∃ j_ : Int, (wrap64 (x3_1 - 1)) = j_ := ⟨_, rfl⟩
       replace H : (if 0 ≤ (ji7) then (if (ji7) < (l0.length : Int) then (if ((Op.bytesLess (((rd_T91 l0 (ji7)).f0).toList) (((rd_T91 l0 x3_1).f0).toList)) = true) then (spec_AreArticles.l0 k1 l0 (wrap64 (x3_1 + 1))) else (some false)) else (none)) else (none)) = some r := by first | (rw [hji7] at H; exact H) | (simp only [hji7] at H ⊢; exact H)
       (try rw [hji7] at A4)
       have hji7w : (IntKind.i64.wrap (x3_1 - 1)) = ji7 := (i64_w _).trans hji7
       by_cases c8 : 0 ≤ (ji7)
       ·rw [if_pos c8] at H
        have c8b0 := decide_eq_true c8; clear c8
        by_cases c9 : (ji7) < (l0.length : Int)
        ·rw [if_pos c9] at H
         have c9b0 := decide_eq_true c9; clear c9; have HS_ := am_ H; clear H
         try go_wp2
         replace HB := am_ (below_drew1 HB.out); have p117 : 0 ≤ (x3_1 : Int) := of_decide_eq_true Zc; have q117 : x3_1 < (l0.length : Int) := of_decide_eq_true Zc; obtain ⟨ad117, e117, hx117_0, hx117_1, hx117_2, hx117_3, hx117_4, hx117_5, hx117_6, hx117_7, hx117_8⟩ := at_T91 HR0.out x3_1 p117 q117; have hw117_8 := hx117_8; have hw117_7 := hx117_7; have hw117_6 := hx117_6; have hw117_5 := hx117_5; have hw117_4 := hx117_4; have hw117_3 := hx117_3; have hw117_2 := hx117_2; have hw117_1 := hx117_1; have hw117_0 := hx117_0
         cases e117
         replace hx117_0 := cbH HB hx117_0; replace hx117_1 := cbH HB hx117_1; replace hx117_2 := cbH HB hx117_2; replace hx117_3 := cbH HB hx117_3; replace hx117_4 := cbH HB hx117_4; replace hx117_5 := cbH HB hx117_5; replace hx117_6 := cbH HB hx117_6; replace hx117_7 := cbH HB hx117_7; replace hx117_8 := cbH HB hx117_8; replace p117 := eq_true p117; replace q117 := eq_true q117; have p119 : 0 ≤ ((ji7) : Int) := of_decide_eq_true Zc; have q119 : (ji7) < (l0.length : Int) := of_decide_eq_true Zc; obtain ⟨ad119, e119, hx119_0, hx119_1, hx119_2, hx119_3, hx119_4, hx119_5, hx119_6, hx119_7, hx119_8⟩ := at_T91 HR0.out (ji7) p119 q119; have hw119_8 := hx119_8; have hw119_7 := hx119_7; have hw119_6 := hx119_6; have hw119_5 := hx119_5; have hw119_4 := hx119_4; have hw119_3 := hx119_3; have hw119_2 := hx119_2; have hw119_1 := hx119_1; have hw119_0 := hx119_0; obtain rfl : ad117 = ad119 := (by injection e119); replace hx119_0 := cbH HB hx119_0; replace hx119_1 := cbH HB hx119_1; replace hx119_2 := cbH HB hx119_2; replace hx119_3 := cbH HB hx119_3; replace hx119_4 := cbH HB hx119_4; replace hx119_5 := cbH HB hx119_5; replace hx119_6 := cbH HB hx119_6; replace hx119_7 := cbH HB hx119_7; replace hx119_8 := cbH HB hx119_8; replace p119 := eq_true p119; replace q119 := eq_true q119; have p120 : 0 ≤ (x3_1 : Int) := of_decide_eq_true Zc; have q120 : x3_1 < (l0.length : Int) := of_decide_eq_true Zc; obtain ⟨ad120, e120, hx120_0, hx120_1, hx120_2, hx120_3, hx120_4, hx120_5, hx120_6, hx120_7, hx120_8⟩ := at_T91 HR0.out x3_1 p120 q120; have hw120_8 := hx120_8; have hw120_7 := hx120_7; have hw120_6 := hx120_6; have hw120_5 := hx120_5; have hw120_4 := hx120_4; have hw120_3 := hx120_3; have hw120_2 := hx120_2; have hw120_1 := hx120_1; have hw120_0 := hx120_0; obtain rfl : ad117 = ad120 := (by injection e120); replace hx120_0 := cbH HB hx120_0; replace hx120_1 := cbH HB hx120_1; replace hx120_2 := cbH HB hx120_2; replace hx120_3 := cbH HB hx120_3; replace hx120_4 := cbH HB hx120_4; replace hx120_5 := cbH HB hx120_5; replace hx120_6 := cbH HB hx120_6; replace hx120_7 := cbH HB hx120_7; replace hx120_8 := cbH HB hx120_8; replace p120 := eq_true p120; replace q120 := eq_true q120; refine start_ (n := 24) (S := fun w' => w'.cell? (ad117.add ((x3_1).toNat * 9)) = some (.string ((rd_T91 l0 x3_1).f0)) ∧ w'.cell? ⟨(ad117.add ((x3_1).toNat * 9)).block, (ad117.add ((x3_1).toNat * 9)).off + 1, none⟩ = some (.int .i64 ((rd_T91 l0 x3_1).f1)) ∧ w'.cell? ⟨(ad117.add ((x3_1).toNat * 9)).block, (ad117.add ((x3_1).toNat * 9)).off + 2, none⟩ = some (.int .i64 ((rd_T91 l0 x3_1).f2)) ∧ w'.cell? ⟨(ad117.add ((x3_1).toNat * 9)).block, (ad117.add ((x3_1).toNat * 9)).off + 3, none⟩ = some (.int .i64 ((rd_T91 l0 x3_1).f3)) ∧ w'.cell? ⟨(ad117.add ((x3_1).toNat * 9)).block, (ad117.add ((x3_1).toNat * 9)).off + 4, none⟩ = some (.int .i64 ((rd_T91 l0 x3_1).f4)) ∧ w'.cell? ⟨(ad117.add ((x3_1).toNat * 9)).block, (ad117.add ((x3_1).toNat * 9)).off + 5, none⟩ = some (.int .i64 ((rd_T91 l0 x3_1).f5)) ∧ w'.cell? ⟨(ad117.add ((x3_1).toNat * 9)).block, (ad117.add ((x3_1).toNat * 9)).off + 6, none⟩ = some (.int .i64 ((rd_T91 l0 x3_1).f6)) ∧ w'.cell? ⟨(ad117.add ((x3_1).toNat * 9)).block, (ad117.add ((x3_1).toNat * 9)).off + 7, none⟩ = some (.int .i64 ((rd_T91 l0 x3_1).f7)) ∧ w'.cell? ⟨(ad117.add ((x3_1).toNat * 9)).block, (ad117.add ((x3_1).toNat * 9)).off + 8, none⟩ = some (.int .i64 ((rd_T91 l0 x3_1).f8)) ∧ w'.cell? (ad117.add (((ji7)).toNat * 9)) = some (.string ((rd_T91 l0 (ji7)).f0)) ∧ w'.cell? ⟨(ad117.add (((ji7)).toNat * 9)).block, (ad117.add (((ji7)).toNat * 9)).off + 1, none⟩ = some (.int .i64 ((rd_T91 l0 (ji7)).f1)) ∧ w'.cell? ⟨(ad117.add (((ji7)).toNat * 9)).block, (ad117.add (((ji7)).toNat * 9)).off + 2, none⟩ = some (.int .i64 ((rd_T91 l0 (ji7)).f2)) ∧ w'.cell? ⟨(ad117.add (((ji7)).toNat * 9)).block, (ad117.add (((ji7)).toNat * 9)).off + 3, none⟩ = some (.int .i64 ((rd_T91 l0 (ji7)).f3)) ∧ w'.cell? ⟨(ad117.add (((ji7)).toNat * 9)).block, (ad117.add (((ji7)).toNat * 9)).off + 4, none⟩ = some (.int .i64 ((rd_T91 l0 (ji7)).f4)) ∧ w'.cell? ⟨(ad117.add (((ji7)).toNat * 9)).block, (ad117.add (((ji7)).toNat * 9)).off + 5, none⟩ = some (.int .i64 ((rd_T91 l0 (ji7)).f5)) ∧ w'.cell? ⟨(ad117.add (((ji7)).toNat * 9)).block, (ad117.add (((ji7)).toNat * 9)).off + 6, none⟩ = some (.int .i64 ((rd_T91 l0 (ji7)).f6)) ∧ w'.cell? ⟨(ad117.add (((ji7)).toNat * 9)).block, (ad117.add (((ji7)).toNat * 9)).off + 7, none⟩ = some (.int .i64 ((rd_T91 l0 (ji7)).f7)) ∧ w'.cell? ⟨(ad117.add (((ji7)).toNat * 9)).block, (ad117.add (((ji7)).toNat * 9)).off + 8, none⟩ = some (.int .i64 ((rd_T91 l0 (ji7)).f8)) ∧ w'.cell? (ad117.add ((x3_1).toNat * 9)) = some (.string ((rd_T91 l0 x3_1).f0)) ∧ w'.cell? ⟨(ad117.add ((x3_1).toNat * 9)).block, (ad117.add ((x3_1).toNat * 9)).off + 1, none⟩ = some (.int .i64 ((rd_T91 l0 x3_1).f1)) ∧ w'.cell? ⟨(ad117.add ((x3_1).toNat * 9)).block, (ad117.add ((x3_1).toNat * 9)).off + 2, none⟩ = some (.int .i64 ((rd_T91 l0 x3_1).f2)) ∧ w'.cell? ⟨(ad117.add ((x3_1).toNat * 9)).block, (ad117.add ((x3_1).toNat * 9)).off + 3, none⟩ = some (.int .i64 ((rd_T91 l0 x3_1).f3)) ∧ w'.cell? ⟨(ad117.add ((x3_1).toNat * 9)).block, (ad117.add ((x3_1).toNat * 9)).off + 4, none⟩ = some (.int .i64 ((rd_T91 l0 x3_1).f4)) ∧ w'.cell? ⟨(ad117.add ((x3_1).toNat * 9)).block, (ad117.add ((x3_1).toNat * 9)).off + 5, none⟩ = some (.int .i64 ((rd_T91 l0 x3_1).f5)) ∧ w'.cell? ⟨(ad117.add ((x3_1).toNat * 9)).block, (ad117.add ((x3_1).toNat * 9)).off + 6, none⟩ = some (.int .i64 ((rd_T91 l0 x3_1).f6)) ∧ w'.cell? ⟨(ad117.add ((x3_1).toNat * 9)).block, (ad117.add ((x3_1).toNat * 9)).off + 7, none⟩ = some (.int .i64 ((rd_T91 l0 x3_1).f7)) ∧ w'.cell? ⟨(ad117.add ((x3_1).toNat * 9)).block, (ad117.add ((x3_1).toNat * 9)).off + 8, none⟩ = some (.int .i64 ((rd_T91 l0 x3_1).f8))) (ds := []) (bT 24 0) Zi rfl rfl ⟨(cbH HB hw117_0 :), (cbH HB hw117_1 :), (cbH HB hw117_2 :), (cbH HB hw117_3 :), (cbH HB hw117_4 :), (cbH HB hw117_5 :), (cbH HB hw117_6 :), (cbH HB hw117_7 :), (cbH HB hw117_8 :), (cbH HB hw119_0 :), (cbH HB hw119_1 :), (cbH HB hw119_2 :), (cbH HB hw119_3 :), (cbH HB hw119_4 :), (cbH HB hw119_5 :), (cbH HB hw119_6 :), (cbH HB hw119_7 :), (cbH HB hw119_8 :), (cbH HB hw120_0 :), (cbH HB hw120_1 :), (cbH HB hw120_2 :), (cbH HB hw120_3 :), (cbH HB hw120_4 :), (cbH HB hw120_5 :), (cbH HB hw120_6 :), (cbH HB hw120_7 :), (cbH HB hw120_8 :)⟩ (fun hHeld => ?_); refine with_tabW spec_AreArticles.tab4 spec_AreArticles.bits4 (fun HT_ HW_ => ?_)
         generalize wr.drew = w11 at HB hx117_0 hx117_1 hx117_2 hx117_3 hx117_4 hx117_5 hx117_6 hx117_7 hx117_8 hx119_0 hx119_1 hx119_2 hx119_3 hx119_4 hx119_5 hx119_6 hx119_7 hx119_8 hx120_0 hx120_1 hx120_2 hx120_3 hx120_4 hx120_5 hx120_6 hx120_7 hx120_8 hHeld ⊢; refine pureZ HT_ 0 (some 10) (bT 24 1) ?_; refine pureZ HT_ 1 (some 11) (bT 24 2) ?_; refine pureZ HT_ 2 (some 12) (bT 24 3) ?_; refine takeZ27 HT_ HW_ 3 (some 13) (bT 24 4) hHeld ?_; refine one_ (i := 4) (N := some 14) (bT 24 5) rfl rfl (one_of HT_.out Zi) (by decide) (fun K hK => ?_); refine goes_ Try.func73 Zi rfl #[.agg #[.string ((rd_T91 l0 x3_1).f0), .int .i64 ((rd_T91 l0 x3_1).f1), .int .i64 ((rd_T91 l0 x3_1).f2), .int .i64 ((rd_T91 l0 x3_1).f3), .int .i64 ((rd_T91 l0 x3_1).f4), .int .i64 ((rd_T91 l0 x3_1).f5), .int .i64 ((rd_T91 l0 x3_1).f6), .int .i64 ((rd_T91 l0 x3_1).f7), .int .i64 ((rd_T91 l0 x3_1).f8)]] (by rfl) rfl rfl Zj ?_
         with_reducible refine (spec_IsArticle.calls k1 ((rd_T91 l0 x3_1).f0) ((rd_T91 l0 x3_1).f1) ((rd_T91 l0 x3_1).f2) ((rd_T91 l0 x3_1).f3) ((rd_T91 l0 x3_1).f4) ((rd_T91 l0 x3_1).f5) ((rd_T91 l0 x3_1).f6) ((rd_T91 l0 x3_1).f7) ((rd_T91 l0 x3_1).f8) true _ A4.out).mono ?_
         rintro e w12 ⟨rfl, hb⟩; refine ⟨_, rfl, ?_⟩; replace HB := (bsZ Zf hb)
         (try clear hb)
         (try clear hb2)
         (try clear hk)
         (try clear hi)
         refine hK.out _ _ ⟨(cbH HB hw117_0 :), (cbH HB hw117_1 :), (cbH HB hw117_2 :), (cbH HB hw117_3 :), (cbH HB hw117_4 :), (cbH HB hw117_5 :), (cbH HB hw117_6 :), (cbH HB hw117_7 :), (cbH HB hw117_8 :), (cbH HB hw119_0 :), (cbH HB hw119_1 :), (cbH HB hw119_2 :), (cbH HB hw119_3 :), (cbH HB hw119_4 :), (cbH HB hw119_5 :), (cbH HB hw119_6 :), (cbH HB hw119_7 :), (cbH HB hw119_8 :), (cbH HB hw120_0 :), (cbH HB hw120_1 :), (cbH HB hw120_2 :), (cbH HB hw120_3 :), (cbH HB hw120_4 :), (cbH HB hw120_5 :), (cbH HB hw120_6 :), (cbH HB hw120_7 :), (cbH HB hw120_8 :)⟩ (fun hHeld => ?_); clear hK K; refine normZ 14 ?_; refine pureZ HT_ 5 (some 15) (bT 24 6) ?_; refine pureZ HT_ 6 (some 16) (bT 24 7) ?_; refine pureZ HT_ 7 (some 17) (bT 24 8) ?_; refine pureZ HT_ 8 (some 18) (bT 24 9) ?_; refine pureZ HT_ 9 (some 19) (bT 24 10) ?_; refine pureZ HT_ 10 (some 20) (bT 24 11) ?_; refine pureZ HT_ 11 (some 21) (bT 24 12) ?_; refine pureZ HT_ 12 (some 22) (bT 24 13) ?_; refine pureZ HT_ 13 (some 23) (bT 24 14) ?_; refine pureZ HT_ 14 (some 24) (bT 24 15) ?_; refine pureZ HT_ 16 (some 26) (bB 24 98303) ?_; refine pureZ HT_ 17 (some 27) (bB 24 229375) ?_; refine pureZ HT_ 18 (some 28) (bB 24 491519) ?_; refine pureZ HT_ 19 (some 29) (bB 24 1015807) ?_; refine takeZ27 HT_ HW_ 15 (some 25) (bT 24 20) hHeld ?_; refine takeZ27 HT_ HW_ 20 (some 30) (bT 24 21) hHeld ?_; refine pureZ HT_ 21 (some 31) (bT 24 22) ?_; refine pureZ HT_ 22 (some 32) (bT 24 23) ?_; refine pureZ HT_ 23 (some 33) (bT 24 24) ?_; refine done_ (done_of HT_.out Zi) ?_
         by_cases c10 : ((Op.bytesLess (((rd_T91 l0 (ji7)).f0).toList) (((rd_T91 l0 x3_1).f0).toList)) = true)
         ·have H := HS_.out
          clear HS_; rw [if_pos c10] at H; have c10b0 : (Op.bytesLess (((rd_T91 l0 (ji7)).f0).toList) (((rd_T91 l0 x3_1).f0).toList)) = true := c10; clear c10; have H' := am_ H; clear H
          (try simp only [c10b0, Bool.not_true, Bool.not_false])
          try go_wp2
          go_roundg k1
          case measure => have := HK1.out; omega
          case rel => exact ⟨(wrap64 (x3_1 + 1)), Za, H', ⟨Zd⟩, ⟨Zf⟩⟩
         ·have H := HS_.out
          clear HS_; rw [if_neg c10] at H
          have c10b0 : (Op.bytesLess (((rd_T91 l0 (ji7)).f0).toList) (((rd_T91 l0 x3_1).f0).toList)) = false := by simpa using c10
          clear c10; obtain rfl := Option.some.inj H
          (try simp only [c10b0, Bool.not_true, Bool.not_false])
          try go_wp2
          go_ret
          exact ⟨by first | rfl | (simp [errW_none, errW_some] <;> rfl) | (simp only [← hji7]; first | rfl | (simp [errW_none, errW_some] <;> rfl)) | (simp [*, errW_none, errW_some] <;> rfl), Zf⟩
        ·exact nN c9 H
       ·exact nN c8 H
      ·rw [if_neg c6] at H
       have c6b0 : decide (0 < x3_1) = false := decide_eq_false c6; clear c6; have H' := am_ H; clear H
       try go_wp2
       replace HB := am_ (below_drew1 HB.out); have p117 : 0 ≤ (x3_1 : Int) := of_decide_eq_true Zc; have q117 : x3_1 < (l0.length : Int) := of_decide_eq_true Zc; obtain ⟨ad117, e117, hx117_0, hx117_1, hx117_2, hx117_3, hx117_4, hx117_5, hx117_6, hx117_7, hx117_8⟩ := at_T91 HR0.out x3_1 p117 q117; have hw117_8 := hx117_8; have hw117_7 := hx117_7; have hw117_6 := hx117_6; have hw117_5 := hx117_5; have hw117_4 := hx117_4; have hw117_3 := hx117_3; have hw117_2 := hx117_2; have hw117_1 := hx117_1; have hw117_0 := hx117_0
       cases e117
       replace hx117_0 := cbH HB hx117_0; replace hx117_1 := cbH HB hx117_1; replace hx117_2 := cbH HB hx117_2; replace hx117_3 := cbH HB hx117_3; replace hx117_4 := cbH HB hx117_4; replace hx117_5 := cbH HB hx117_5; replace hx117_6 := cbH HB hx117_6; replace hx117_7 := cbH HB hx117_7; replace hx117_8 := cbH HB hx117_8; replace p117 := eq_true p117; replace q117 := eq_true q117; refine start_ (n := 24) (S := fun w' => w'.cell? (ad117.add ((x3_1).toNat * 9)) = some (.string ((rd_T91 l0 x3_1).f0)) ∧ w'.cell? ⟨(ad117.add ((x3_1).toNat * 9)).block, (ad117.add ((x3_1).toNat * 9)).off + 1, none⟩ = some (.int .i64 ((rd_T91 l0 x3_1).f1)) ∧ w'.cell? ⟨(ad117.add ((x3_1).toNat * 9)).block, (ad117.add ((x3_1).toNat * 9)).off + 2, none⟩ = some (.int .i64 ((rd_T91 l0 x3_1).f2)) ∧ w'.cell? ⟨(ad117.add ((x3_1).toNat * 9)).block, (ad117.add ((x3_1).toNat * 9)).off + 3, none⟩ = some (.int .i64 ((rd_T91 l0 x3_1).f3)) ∧ w'.cell? ⟨(ad117.add ((x3_1).toNat * 9)).block, (ad117.add ((x3_1).toNat * 9)).off + 4, none⟩ = some (.int .i64 ((rd_T91 l0 x3_1).f4)) ∧ w'.cell? ⟨(ad117.add ((x3_1).toNat * 9)).block, (ad117.add ((x3_1).toNat * 9)).off + 5, none⟩ = some (.int .i64 ((rd_T91 l0 x3_1).f5)) ∧ w'.cell? ⟨(ad117.add ((x3_1).toNat * 9)).block, (ad117.add ((x3_1).toNat * 9)).off + 6, none⟩ = some (.int .i64 ((rd_T91 l0 x3_1).f6)) ∧ w'.cell? ⟨(ad117.add ((x3_1).toNat * 9)).block, (ad117.add ((x3_1).toNat * 9)).off + 7, none⟩ = some (.int .i64 ((rd_T91 l0 x3_1).f7)) ∧ w'.cell? ⟨(ad117.add ((x3_1).toNat * 9)).block, (ad117.add ((x3_1).toNat * 9)).off + 8, none⟩ = some (.int .i64 ((rd_T91 l0 x3_1).f8))) (ds := []) (bT 24 0) Zi rfl rfl ⟨(cbH HB hw117_0 :), (cbH HB hw117_1 :), (cbH HB hw117_2 :), (cbH HB hw117_3 :), (cbH HB hw117_4 :), (cbH HB hw117_5 :), (cbH HB hw117_6 :), (cbH HB hw117_7 :), (cbH HB hw117_8 :)⟩ (fun hHeld => ?_); refine with_tabW spec_AreArticles.tab4 spec_AreArticles.bits4 (fun HT_ HW_ => ?_); generalize wr.drew = w15 at HB hx117_0 hx117_1 hx117_2 hx117_3 hx117_4 hx117_5 hx117_6 hx117_7 hx117_8 hHeld ⊢; refine pureZ HT_ 0 (some 10) (bT 24 1) ?_; refine pureZ HT_ 1 (some 11) (bT 24 2) ?_; refine pureZ HT_ 2 (some 12) (bT 24 3) ?_; refine takeZ9 HT_ HW_ 3 (some 13) (bT 24 4) hHeld ?_; refine one_ (i := 4) (N := some 14) (bT 24 5) rfl rfl (one_of HT_.out Zi) (by decide) (fun K hK => ?_); refine goes_ Try.func73 Zi rfl #[.agg #[.string ((rd_T91 l0 x3_1).f0), .int .i64 ((rd_T91 l0 x3_1).f1), .int .i64 ((rd_T91 l0 x3_1).f2), .int .i64 ((rd_T91 l0 x3_1).f3), .int .i64 ((rd_T91 l0 x3_1).f4), .int .i64 ((rd_T91 l0 x3_1).f5), .int .i64 ((rd_T91 l0 x3_1).f6), .int .i64 ((rd_T91 l0 x3_1).f7), .int .i64 ((rd_T91 l0 x3_1).f8)]] (by rfl) rfl rfl Zj ?_
       with_reducible refine (spec_IsArticle.calls k1 ((rd_T91 l0 x3_1).f0) ((rd_T91 l0 x3_1).f1) ((rd_T91 l0 x3_1).f2) ((rd_T91 l0 x3_1).f3) ((rd_T91 l0 x3_1).f4) ((rd_T91 l0 x3_1).f5) ((rd_T91 l0 x3_1).f6) ((rd_T91 l0 x3_1).f7) ((rd_T91 l0 x3_1).f8) true _ A4.out).mono ?_
       rintro e w16 ⟨rfl, hb⟩; refine ⟨_, rfl, ?_⟩; replace HB := (bsZ Zf hb)
       (try clear hb)
       (try clear hb2)
       (try clear hk)
       (try clear hi)
       refine hK.out _ _ ⟨(cbH HB hw117_0 :), (cbH HB hw117_1 :), (cbH HB hw117_2 :), (cbH HB hw117_3 :), (cbH HB hw117_4 :), (cbH HB hw117_5 :), (cbH HB hw117_6 :), (cbH HB hw117_7 :), (cbH HB hw117_8 :)⟩ (fun hHeld => ?_); clear hK K; refine normZ 14 ?_; refine pureZ HT_ 5 (some 15) (bT 24 6) ?_; refine pureZ HT_ 6 (some 16) (bT 24 7) ?_; refine pureZ HT_ 7 (some 17) (bT 24 8) ?_; refine pureZ HT_ 8 (some 18) (bT 24 9) ?_; refine pureZ HT_ 9 (some 19) (bT 24 10) ?_; refine pureU HT_ 10 (some 20) (bT 24 11) ?_; refine pureU HT_ 11 (some 21) (bT 24 12) ?_; refine pureU HT_ 12 (some 22) (bT 24 13) ?_; refine pureU HT_ 13 (some 23) (bT 24 14) ?_; refine pureU HT_ 14 (some 24) (bT 24 15) ?_; refine pureU HT_ 15 (some 25) (bT 24 16) ?_; refine pureU HT_ 16 (some 26) (bT 24 17) ?_; refine pureU HT_ 17 (some 27) (bT 24 18) ?_; refine pureU HT_ 18 (some 28) (bT 24 19) ?_; refine pureU HT_ 19 (some 29) (bT 24 20) ?_; refine pureU HT_ 20 (some 30) (bT 24 21) ?_; refine pureU HT_ 21 (some 31) (bT 24 22) ?_; refine pureZ HT_ 22 (some 32) (bT 24 23) ?_; refine pureZ HT_ 23 (some 33) (bT 24 24) ?_; refine done_ (done_of HT_.out Zi) ?_
       try go_wp2
       go_roundg k1
       case measure => have := HK1.out; omega
       case rel => exact ⟨(wrap64 (x3_1 + 1)), Za, H', ⟨Zd⟩, ⟨Zf⟩⟩
     ·replace c5 := Bool.eq_false_iff.mpr c5
      subst c5; rw [if_neg fnt_] at H; obtain rfl := Option.some.inj H
      try go_wp2
      replace HB := am_ (below_drew1 HB.out); have p117 : 0 ≤ (x3_1 : Int) := of_decide_eq_true Zc; have q117 : x3_1 < (l0.length : Int) := of_decide_eq_true Zc; obtain ⟨ad117, e117, hx117_0, hx117_1, hx117_2, hx117_3, hx117_4, hx117_5, hx117_6, hx117_7, hx117_8⟩ := at_T91 HR0.out x3_1 p117 q117; have hw117_8 := hx117_8; have hw117_7 := hx117_7; have hw117_6 := hx117_6; have hw117_5 := hx117_5; have hw117_4 := hx117_4; have hw117_3 := hx117_3; have hw117_2 := hx117_2; have hw117_1 := hx117_1; have hw117_0 := hx117_0
      cases e117
      replace hx117_0 := cbH HB hx117_0; replace hx117_1 := cbH HB hx117_1; replace hx117_2 := cbH HB hx117_2; replace hx117_3 := cbH HB hx117_3; replace hx117_4 := cbH HB hx117_4; replace hx117_5 := cbH HB hx117_5; replace hx117_6 := cbH HB hx117_6; replace hx117_7 := cbH HB hx117_7; replace hx117_8 := cbH HB hx117_8; replace p117 := eq_true p117; replace q117 := eq_true q117; refine start_ (n := 24) (S := fun w' => w'.cell? (ad117.add ((x3_1).toNat * 9)) = some (.string ((rd_T91 l0 x3_1).f0)) ∧ w'.cell? ⟨(ad117.add ((x3_1).toNat * 9)).block, (ad117.add ((x3_1).toNat * 9)).off + 1, none⟩ = some (.int .i64 ((rd_T91 l0 x3_1).f1)) ∧ w'.cell? ⟨(ad117.add ((x3_1).toNat * 9)).block, (ad117.add ((x3_1).toNat * 9)).off + 2, none⟩ = some (.int .i64 ((rd_T91 l0 x3_1).f2)) ∧ w'.cell? ⟨(ad117.add ((x3_1).toNat * 9)).block, (ad117.add ((x3_1).toNat * 9)).off + 3, none⟩ = some (.int .i64 ((rd_T91 l0 x3_1).f3)) ∧ w'.cell? ⟨(ad117.add ((x3_1).toNat * 9)).block, (ad117.add ((x3_1).toNat * 9)).off + 4, none⟩ = some (.int .i64 ((rd_T91 l0 x3_1).f4)) ∧ w'.cell? ⟨(ad117.add ((x3_1).toNat * 9)).block, (ad117.add ((x3_1).toNat * 9)).off + 5, none⟩ = some (.int .i64 ((rd_T91 l0 x3_1).f5)) ∧ w'.cell? ⟨(ad117.add ((x3_1).toNat * 9)).block, (ad117.add ((x3_1).toNat * 9)).off + 6, none⟩ = some (.int .i64 ((rd_T91 l0 x3_1).f6)) ∧ w'.cell? ⟨(ad117.add ((x3_1).toNat * 9)).block, (ad117.add ((x3_1).toNat * 9)).off + 7, none⟩ = some (.int .i64 ((rd_T91 l0 x3_1).f7)) ∧ w'.cell? ⟨(ad117.add ((x3_1).toNat * 9)).block, (ad117.add ((x3_1).toNat * 9)).off + 8, none⟩ = some (.int .i64 ((rd_T91 l0 x3_1).f8))) (ds := []) (bT 24 0) Zi rfl rfl ⟨(cbH HB hw117_0 :), (cbH HB hw117_1 :), (cbH HB hw117_2 :), (cbH HB hw117_3 :), (cbH HB hw117_4 :), (cbH HB hw117_5 :), (cbH HB hw117_6 :), (cbH HB hw117_7 :), (cbH HB hw117_8 :)⟩ (fun hHeld => ?_); refine with_tabW spec_AreArticles.tab4 spec_AreArticles.bits4 (fun HT_ HW_ => ?_); generalize wr.drew = w17 at HB hx117_0 hx117_1 hx117_2 hx117_3 hx117_4 hx117_5 hx117_6 hx117_7 hx117_8 hHeld ⊢; refine pureZ HT_ 0 (some 10) (bT 24 1) ?_; refine pureZ HT_ 1 (some 11) (bT 24 2) ?_; refine pureZ HT_ 2 (some 12) (bT 24 3) ?_; refine takeZ9 HT_ HW_ 3 (some 13) (bT 24 4) hHeld ?_; refine one_ (i := 4) (N := some 14) (bT 24 5) rfl rfl (one_of HT_.out Zi) (by decide) (fun K hK => ?_); refine goes_ Try.func73 Zi rfl #[.agg #[.string ((rd_T91 l0 x3_1).f0), .int .i64 ((rd_T91 l0 x3_1).f1), .int .i64 ((rd_T91 l0 x3_1).f2), .int .i64 ((rd_T91 l0 x3_1).f3), .int .i64 ((rd_T91 l0 x3_1).f4), .int .i64 ((rd_T91 l0 x3_1).f5), .int .i64 ((rd_T91 l0 x3_1).f6), .int .i64 ((rd_T91 l0 x3_1).f7), .int .i64 ((rd_T91 l0 x3_1).f8)]] (by rfl) rfl rfl Zj ?_
      with_reducible refine (spec_IsArticle.calls k1 ((rd_T91 l0 x3_1).f0) ((rd_T91 l0 x3_1).f1) ((rd_T91 l0 x3_1).f2) ((rd_T91 l0 x3_1).f3) ((rd_T91 l0 x3_1).f4) ((rd_T91 l0 x3_1).f5) ((rd_T91 l0 x3_1).f6) ((rd_T91 l0 x3_1).f7) ((rd_T91 l0 x3_1).f8) false _ A4.out).mono ?_
      rintro e w18 ⟨rfl, hb⟩; refine ⟨_, rfl, ?_⟩; replace HB := (bsZ Zf hb)
      (try clear hb)
      (try clear hb2)
      (try clear hk)
      (try clear hi)
      refine hK.out _ _ ⟨(cbH HB hw117_0 :), (cbH HB hw117_1 :), (cbH HB hw117_2 :), (cbH HB hw117_3 :), (cbH HB hw117_4 :), (cbH HB hw117_5 :), (cbH HB hw117_6 :), (cbH HB hw117_7 :), (cbH HB hw117_8 :)⟩ (fun hHeld => ?_); clear hK K; refine normZ 14 ?_; refine pureZ HT_ 5 (some 15) (bT 24 6) ?_; refine pureZ HT_ 6 (some 16) (bT 24 7) ?_; refine pureU HT_ 7 (some 17) (bT 24 8) ?_; refine pureU HT_ 8 (some 18) (bT 24 9) ?_; refine pureU HT_ 9 (some 19) (bT 24 10) ?_; refine pureU HT_ 10 (some 20) (bT 24 11) ?_; refine pureU HT_ 11 (some 21) (bT 24 12) ?_; refine pureU HT_ 12 (some 22) (bT 24 13) ?_; refine pureU HT_ 13 (some 23) (bT 24 14) ?_; refine pureU HT_ 14 (some 24) (bT 24 15) ?_; refine pureU HT_ 15 (some 25) (bT 24 16) ?_; refine pureU HT_ 16 (some 26) (bT 24 17) ?_; refine pureU HT_ 17 (some 27) (bT 24 18) ?_; refine pureU HT_ 18 (some 28) (bT 24 19) ?_; refine pureU HT_ 19 (some 29) (bT 24 20) ?_; refine pureU HT_ 20 (some 30) (bT 24 21) ?_; refine pureU HT_ 21 (some 31) (bT 24 22) ?_; refine pureU HT_ 22 (some 32) (bT 24 23) ?_; refine pureZ HT_ 23 (some 33) (bT 24 24) ?_; refine done_ (done_of HT_.out Zi) ?_
      try go_wp2
      go_ret
      exact ⟨Zg, Zf⟩
    ·exact nN c3 H
   ·rw [if_neg c2] at H
    have c2b0 := decide_eq_false c2; clear c2; obtain rfl := Option.some.inj H
    go_wp2
    go_ret
    exact ⟨Zg, Zf⟩
def spec_l07Has.f (l0 : List (S87)) (a1 : Int) (a2 : Int) : Option (Bool) := (spec_l01In.f a1 0 (wrap64 ((l0.length : Int) - 1))).bind fun t121 => (if t121 = true then (if 0 ≤ a1 then (if a1 < (l0.length : Int) then ((spec_l01In.f a2 0 (wrap64 (((rd_T87 l0 a1).f0) - 1))).bind fun t123 => (some t123)) else (none)) else (none)) else (some false))
theorem spec_l07Has.calls (A0 : Option Addr) (c0 : Nat) (l0 : List (S87)) (a1 : Int) (a2 : Int) (r : Bool) (w : World) (hr0 : Kd.C k87 w A0 l0.length l0) (hc0 : l0.length ≤ c0) (h : spec_l07Has.f l0 a1 a2 = some r) :
  Calls Try.prog 51 #[.slice A0 l0.length c0, .int .i64 a1, .int .i64 a2] w fun e w' => e = .returned (.bool r) ∧ Drawn0 w w' := by
 have HR0 := am_ hr0; have HC0 := am_ hc0; clear hr0 hc0; have H : ((spec_l01In.f a1 0 (wrap64 ((l0.length : Int) - 1))).bind fun t121 => (if t121 = true then (if 0 ≤ a1 then (if a1 < (l0.length : Int) then ((spec_l01In.f a2 0 (wrap64 (((rd_T87 l0 a1).f0) - 1))).bind fun t123 => (some t123)) else (none)) else (none)) else (some false))) = some r := h; clear h; obtain ⟨t121, A4, H⟩ := bE_ H; have HS_ := am_ H; clear H
 go_enter Try.func51, Try.ntmps51
 go_wp2_with (first | ((with_reducible refine gate_callee (f := 24) rfl ?_); refine gZ 11 Try.func24 #[.int .i64 a1, .int .i64 0, .int .i64 (wrap64 ((l0.length : Int) - 1))] ?_; (with_reducible refine (spec_l01In.calls a1 0 (wrap64 ((l0.length : Int) - 1)) t121 _ A4.out).mono ?_); rintro e w' ⟨rfl, ⟨nd, rfl⟩⟩; refine ⟨_, rfl, ?_⟩; refine ?roundEnd))
 case roundEnd =>
  by_cases c5 : t121 = true
  ·have H := HS_.out
   clear HS_; subst c5; rw [if_pos rfl] at H
   by_cases c6 : 0 ≤ a1
   ·rw [if_pos c6] at H
    have c6b0 := decide_eq_true c6; clear c6
    by_cases c7 : a1 < (l0.length : Int)
    ·rw [if_pos c7] at H
     have c7b0 := decide_eq_true c7; clear c7; obtain ⟨t123, A8, H⟩ := bE_ H; obtain rfl := Option.some.inj H; have p122 : 0 ≤ (a1 : Int) := of_decide_eq_true Zc; have q122 : a1 < (l0.length : Int) := of_decide_eq_true Zc; obtain ⟨ad122, e122, hx122_0, hx122_1⟩ := at_T87 HR0.out a1 p122 q122
     cases e122
     replace p122 := eq_true p122; replace q122 := eq_true q122
     go_wp2_with (first | (go_at_call 24; (with_reducible refine (spec_l01In.calls a2 0 (wrap64 (((rd_T87 l0 a1).f0) - 1)) t123 _ A8.out).mono ?_); rintro e w' ⟨rfl, ⟨nd, rfl⟩⟩))
     go_ret
     exact ⟨Za, Zb⟩
    ·exact nN c7 H
   ·exact nN c6 H
  ·have H := HS_.out
   clear HS_; replace c5 := Bool.eq_false_iff.mpr c5; subst c5; rw [if_neg fnt_] at H; obtain rfl := Option.some.inj H
   go_wp2_with (first | fail)
   go_ret
   exact ⟨Za, Zb⟩
def spec_l03Find.l0 : Nat → List (S91) → ByteArray → Int → Option (Int)
 | 0, _, _, _ => none
 | k + 1, x0, x1, x5 => if x5 < (x0.length : Int) then (if 0 ≤ x5 then (if ((rd_T91 x0 x5).f0).toList = x1.toList then (some x5) else (spec_l03Find.l0 k x0 x1 (wrap64 (x5 + 1)))) else (none)) else (some (-1))
def spec_l03Find.f (k : Nat) (l0 : List (S91)) (a1 : ByteArray) : Option (Int) := spec_l03Find.l0 k l0 a1 0
theorem spec_l03Find.calls (k : Nat) (A0 : Option Addr) (c0 : Nat) (l0 : List (S91)) (a1 : ByteArray) (r : Int) (w : World) (hr0 : Kd.C k91 w A0 l0.length l0) (hc0 : l0.length ≤ c0) (h : spec_l03Find.f k l0 a1 = some r) :
  Calls Try.prog 52 #[.slice A0 l0.length c0, .string a1] w fun e w' => e = .returned (.int .i64 r) ∧ Drawn0 w w' := by
 have HR0 := am_ hr0; have HC0 := am_ hc0; clear hr0 hc0; have H : (spec_l03Find.l0 k l0 a1 0) = some r := h; clear h; have H' := am_ H; clear H
 go_enter Try.func52, Try.ntmps52
 go_wp2
 go_loopg [5] k (fun kq v5 w' => ∃ (x5_1 : Int), v5 = .int .i64 x5_1 ∧ Aside0 (spec_l03Find.l0 kq l0 a1 x5_1 = some r) ∧ Aside0 (kq ≤ k) ∧ Drawn0 w w')
 case atStart => exact ⟨(0), Za, H', ⟨Nat.le_refl _⟩, Zb⟩
 case round =>
  clear H'
  try clear p2
  obtain ⟨x5_1, rfl, HA, HK1, ⟨m1, rfl⟩⟩ := hrel
  cases gk with
  | zero => exact absurd HA.out (by simp [spec_l03Find.l0])
  | succ k1 =>
   have H := HA.out; clear HA; simp only [spec_l03Find.l0] at H
   by_cases c3 : x5_1 < (l0.length : Int)
   ·rw [if_pos c3] at H
    have c3b0 := decide_eq_true c3; clear c3
    by_cases c4 : 0 ≤ x5_1
    ·rw [if_pos c4] at H
     have c4b0 := decide_eq_true c4; clear c4
     by_cases c5 : ((rd_T91 l0 x5_1).f0).toList = a1.toList
     ·rw [if_pos c5] at H
      have c5b0 := beq_iff_eq.mpr c5; have c5b1 := bne_eq_false_iff_eq.mpr c5; clear c5; obtain rfl := Option.some.inj H; have p124 : 0 ≤ (x5_1 : Int) := of_decide_eq_true Zc; have q124 : x5_1 < (l0.length : Int) := of_decide_eq_true Zc; obtain ⟨ad124, e124, hx124_0, hx124_1, hx124_2, hx124_3, hx124_4, hx124_5, hx124_6, hx124_7, hx124_8⟩ := at_T91 HR0.out x5_1 p124 q124
      cases e124
      replace p124 := eq_true p124; replace q124 := eq_true q124
      go_wp2
      go_ret
      exact ⟨Za, Zb⟩
     ·rw [if_neg c5] at H
      have c5b0 := beq_eq_false_iff_ne.mpr c5; have c5b1 := bne_iff_ne.mpr c5; have H' := am_ H; clear H; have p124 : 0 ≤ (x5_1 : Int) := of_decide_eq_true Zc; have q124 : x5_1 < (l0.length : Int) := of_decide_eq_true Zc; obtain ⟨ad124, e124, hx124_0, hx124_1, hx124_2, hx124_3, hx124_4, hx124_5, hx124_6, hx124_7, hx124_8⟩ := at_T91 HR0.out x5_1 p124 q124
      cases e124
      replace p124 := eq_true p124; replace q124 := eq_true q124
      go_wp2
      go_roundg k1
      case measure => have := HK1.out; omega
      case rel => exact ⟨(wrap64 (x5_1 + 1)), Za, H', ⟨Zd⟩, Zb⟩
    ·exact nN c4 H
   ·rw [if_neg c3] at H
    have c3b0 := decide_eq_false c3; clear c3; obtain rfl := Option.some.inj H
    go_wp2
    go_ret
    exact ⟨Za, Zb⟩
def spec_l07Time.l0 : Nat → List (S87) → Int → Int → Int → Int → Option (Int)
 | 0, _, _, _, _, _ => none
 | k + 1, x0, x1, x2, x7, x8 => if x8 < x1 then (if 0 ≤ x8 then (if x8 < (x0.length : Int) then (spec_l07Time.l0 k x0 x1 x2 (wrap64 (x7 + (wrap64 (((rd_T87 x0 x8).f0) * ((rd_T87 x0 x8).f1))))) (wrap64 (x8 + 1))) else (none)) else (none)) else (if 0 ≤ x1 then (if x1 < (x0.length : Int) then (some (wrap64 (x7 + (wrap64 (x2 * ((rd_T87 x0 x1).f1)))))) else (none)) else (none))
def spec_l07Time.f (k : Nat) (l0 : List (S87)) (a1 : Int) (a2 : Int) : Option (Int) := spec_l07Time.l0 k l0 a1 a2 0 0
theorem spec_l07Time.calls (k : Nat) (A0 : Option Addr) (c0 : Nat) (l0 : List (S87)) (a1 : Int) (a2 : Int) (r : Int) (w : World) (hr0 : Kd.C k87 w A0 l0.length l0) (hc0 : l0.length ≤ c0) (h : spec_l07Time.f k l0 a1 a2 = some r) :
  Calls Try.prog 74 #[.slice A0 l0.length c0, .int .i64 a1, .int .i64 a2] w fun e w' => e = .returned (.int .i64 r) ∧ Drawn0 w w' := by
 have HR0 := am_ hr0; have HC0 := am_ hc0; clear hr0 hc0; have H : (spec_l07Time.l0 k l0 a1 a2 0 0) = some r := h; clear h; have H' := am_ H; clear H
 go_enter Try.func74, Try.ntmps74
 go_wp2
 repeat (go_quiet (fail); try go_wp2)
 go_loopg [7, 8] k (fun kq v7 v8 w' => ∃ (x7_1 : Int) (x8_1 : Int), v7 = .int .i64 x7_1 ∧ v8 = .int .i64 x8_1 ∧ Aside0 (spec_l07Time.l0 kq l0 a1 a2 x7_1 x8_1 = some r) ∧ Aside0 (kq ≤ k) ∧ Drawn0 w w')
 case atStart => exact ⟨(0), (0), Za, Za, H', ⟨Nat.le_refl _⟩, Zb⟩
 case round =>
  clear H'
  try clear p2
  obtain ⟨x7_1, x8_1, rfl, rfl, HA, HK1, ⟨m1, rfl⟩⟩ := hrel
  cases gk with
  | zero => exact absurd HA.out (by simp [spec_l07Time.l0])
  | succ k1 =>
   have H := HA.out; clear HA; simp only [spec_l07Time.l0] at H
   by_cases c4 : x8_1 < a1
   ·rw [if_pos c4] at H
    have c4b0 := decide_eq_true c4; clear c4
    by_cases c5 : 0 ≤ x8_1
    ·rw [if_pos c5] at H
     have c5b0 := decide_eq_true c5; clear c5
     by_cases c6 : x8_1 < (l0.length : Int)
     ·rw [if_pos c6] at H
      have c6b0 := decide_eq_true c6; clear c6; have H' := am_ H; clear H; have p125 : 0 ≤ (x8_1 : Int) := of_decide_eq_true Zc; have q125 : x8_1 < (l0.length : Int) := of_decide_eq_true Zc; obtain ⟨ad125, e125, hx125_0, hx125_1⟩ := at_T87 HR0.out x8_1 p125 q125
      cases e125
      replace p125 := eq_true p125; replace q125 := eq_true q125; have p126 : 0 ≤ (x8_1 : Int) := of_decide_eq_true Zc; have q126 : x8_1 < (l0.length : Int) := of_decide_eq_true Zc; obtain ⟨ad126, e126, hx126_0, hx126_1⟩ := at_T87 HR0.out x8_1 p126 q126; obtain rfl : ad125 = ad126 := (by injection e126); replace p126 := eq_true p126; replace q126 := eq_true q126
      go_wp2
      repeat (go_quiet (fail); try go_wp2)
      go_roundg k1
      case measure => have := HK1.out; omega
      case rel => exact ⟨(wrap64 (x7_1 + (wrap64 (((rd_T87 l0 x8_1).f0) * ((rd_T87 l0 x8_1).f1))))), (wrap64 (x8_1 + 1)), Za, Za, H', ⟨Zd⟩, Zb⟩
     ·exact nN c6 H
    ·exact nN c5 H
   ·rw [if_neg c4] at H
    have c4b0 := decide_eq_false c4; clear c4
    by_cases c7 : 0 ≤ a1
    ·rw [if_pos c7] at H
     have c7b0 := decide_eq_true c7; clear c7
     by_cases c8 : a1 < (l0.length : Int)
     ·rw [if_pos c8] at H
      have c8b0 := decide_eq_true c8; clear c8; obtain rfl := Option.some.inj H; have p127 : 0 ≤ (a1 : Int) := of_decide_eq_true Zc; have q127 : a1 < (l0.length : Int) := of_decide_eq_true Zc; obtain ⟨ad127, e127, hx127_0, hx127_1⟩ := at_T87 HR0.out a1 p127 q127
      cases e127
      replace p127 := eq_true p127; replace q127 := eq_true q127
      go_wp2
      repeat (go_quiet (fail); try go_wp2)
      go_ret
      exact ⟨Za, Zb⟩
     ·exact nN c8 H
    ·exact nN c7 H
def spec_l08Time.f (k : Nat) (l0_0 : List (S87)) (l0_1 : List (S91)) (l0_2 : List (S80)) (a1_0 : Int) (a1_1 : Int) (a1_2 : ByteArray) (a1_3 : Int) : Option (Int) := (spec_l07Time.f k l0_0 a1_0 a1_1).bind fun t130 => ((spec_l03Find.f k l0_1 a1_2).bind fun t131 => (if 0 ≤ t131 then (if t131 < (l0_1.length : Int) then (some (wrap64 (t130 - ((rd_T91 l0_1 t131).f3)))) else (none)) else (none)))
theorem spec_l08Time.calls (k : Nat) (A0_0 : Option Addr) (c0_0 : Nat) (l0_0 : List (S87)) (A0_1 : Option Addr) (c0_1 : Nat) (l0_1 : List (S91)) (A0_2 : Option Addr) (c0_2 : Nat) (l0_2 : List (S80)) (a1_0 : Int) (a1_1 : Int) (a1_2 : ByteArray) (a1_3 : Int) (r : Int) (w : World) (hr0_0 : Kd.C k87 w A0_0 l0_0.length l0_0) (hc0_0 : l0_0.length ≤ c0_0) (hr0_1 : Kd.C k91 w A0_1 l0_1.length l0_1) (hc0_1 : l0_1.length ≤ c0_1) (hr0_2 : Kd.C k80 w A0_2 l0_2.length l0_2) (hc0_2 : l0_2.length ≤ c0_2) (h : spec_l08Time.f k l0_0 l0_1 l0_2 a1_0 a1_1 a1_2 a1_3 = some r) :
  Calls Try.prog 53 #[.agg #[.slice A0_0 l0_0.length c0_0, .slice A0_1 l0_1.length c0_1, .slice A0_2 l0_2.length c0_2], .agg #[.int .i64 a1_0, .int .i64 a1_1, .string a1_2, .int .i64 a1_3]] w fun e w' => e = .returned (.int .i64 r) ∧ Below w.heap.size w w' := by
 have hu35 := Try.underlying35; have hu80 := Try.underlying80; have HR0_0 := am_ hr0_0; have HC0_0 := am_ hc0_0; clear hr0_0 hc0_0; have HR0_1 := am_ hr0_1; have HC0_1 := am_ hc0_1; clear hr0_1 hc0_1; have HR0_2 := am_ hr0_2; have HC0_2 := am_ hc0_2; clear hr0_2 hc0_2; have HB := am_ (Below.refl w.heap.size w); have H : ((spec_l07Time.f k l0_0 a1_0 a1_1).bind fun t130 => ((spec_l03Find.f k l0_1 a1_2).bind fun t131 => (if 0 ≤ t131 then (if t131 < (l0_1.length : Int) then (some (wrap64 (t130 - ((rd_T91 l0_1 t131).f3)))) else (none)) else (none)))) = some r := h; clear h; obtain ⟨t130, A3, H⟩ := bE_ H; obtain ⟨t131, A4, H⟩ := bE_ H
 by_cases c5 : 0 ≤ t131
 ·rw [if_pos c5] at H
  have c5b0 := decide_eq_true c5; clear c5
  by_cases c6 : t131 < (l0_1.length : Int)
  ·rw [if_pos c6] at H
   have c6b0 := decide_eq_true c6; clear c6; obtain rfl := Option.some.inj H
   go_enter Try.func53, Try.ntmps53
   go_wp2_with (first | ((with_reducible refine gate_dst (N := 2) rfl ?_); refine boxZ 2 #[.slice A0_0 l0_0.length c0_0, .slice A0_1 l0_1.length c0_1, .slice A0_2 l0_2.length c0_2] 35 ?_; intro gb128 hg w7 hbox hb; replace BK128 := am_ (hbox); replace GW128 := am_ ((Ze : w.heap.size ≤ gb128)); replace GE128 := GW128; replace HB := (bsZ Zf hb); clear hb hbox hg) | ((with_reducible refine gate_dst (N := 3) rfl ?_); refine boxZ 3 #[.int .i64 a1_0, .int .i64 a1_1, .string a1_2, .int .i64 a1_3] 80 ?_; intro gb129 hg w8 hbox hb; replace BK129 := am_ (hbox); replace GW129 := am_ (((Zk GE128) : w.heap.size ≤ gb129)); replace GE129 := GW129; replace HB := (bsZ (Zh GE128) hb); replace NB128_129 := am_ ((by rw [hg]; exact Nat.ne_of_lt (blk_lt (g := gb128) (b0Z BK128)) : gb128 ≠ gb129)); replace NB129_128 := am_ ((by rw [hg]; exact Nat.ne_of_gt (blk_lt (g := gb128) (b0Z BK128)) : gb129 ≠ gb128)); replace BK128 := (bkZ BK128 hb); clear hb hbox hg; have hnb9 := NB128_129.out; have hnc9 := NB129_128.out; obtain ⟨hcz10_0, hcz10_1, hcz10_2, hfz10_0, hfz10_1, hfz10_2⟩ := cz3 BK128; obtain ⟨hcz11_0, hcz11_1, hcz11_2, hcz11_3, hfz11_0, hfz11_1, hfz11_2, hfz11_3⟩ := cz4 BK129) | (go_at_call 74; (with_reducible refine (spec_l07Time.calls k _ _ l0_0 a1_0 a1_1 t130 _ ?_ ?_ A3.out).mono ?_); exact (Zl HR0_0); exact HC0_0.out; rintro e w' ⟨rfl, ⟨nd, rfl⟩⟩; (try first | exact ⟨rfl, _, World.drewN_drewN _ _ _⟩ | exact ⟨rfl, _, Eq.trans (World.drewN_drewN _ _ _) (congrArg (World.drewN _) (Nat.add_assoc _ _ _))⟩)) | (go_at_call 52; (with_reducible refine (spec_l03Find.calls k _ _ l0_1 a1_2 t131 _ ?_ ?_ A4.out).mono ?_); exact (Zm HR0_1 GE128 GE129); exact HC0_1.out; rintro e w' ⟨rfl, ⟨nd, rfl⟩⟩; (try first | exact ⟨rfl, _, World.drewN_drewN _ _ _⟩ | exact ⟨rfl, _, Eq.trans (World.drewN_drewN _ _ _) (congrArg (World.drewN _) (Nat.add_assoc _ _ _))⟩); have p132 : 0 ≤ (t131 : Int) := of_decide_eq_true Zc; have q132 : t131 < (l0_1.length : Int) := of_decide_eq_true Zc; obtain ⟨ad132, e132, hx132_0, hx132_1, hx132_2, hx132_3, hx132_4, hx132_5, hx132_6, hx132_7, hx132_8⟩ := at_T91 HR0_1.out t131 p132 q132; cases e132; replace hx132_0 := cbH HB hx132_0; replace hx132_1 := cbH HB hx132_1; replace hx132_2 := cbH HB hx132_2; replace hx132_3 := cbH HB hx132_3; replace hx132_4 := cbH HB hx132_4; replace hx132_5 := cbH HB hx132_5; replace hx132_6 := cbH HB hx132_6; replace hx132_7 := cbH HB hx132_7; replace hx132_8 := cbH HB hx132_8; replace p132 := eq_true p132; replace q132 := eq_true q132))
   repeat (go_quiet (first | ((with_reducible refine gate_dst (N := 2) rfl ?_); refine boxZ 2 #[.slice A0_0 l0_0.length c0_0, .slice A0_1 l0_1.length c0_1, .slice A0_2 l0_2.length c0_2] 35 ?_; intro gb128 hg w7 hbox hb; replace BK128 := am_ (hbox); replace GW128 := am_ ((Ze : w.heap.size ≤ gb128)); replace GE128 := GW128; replace HB := (bsZ Zf hb); clear hb hbox hg) | ((with_reducible refine gate_dst (N := 3) rfl ?_); refine boxZ 3 #[.int .i64 a1_0, .int .i64 a1_1, .string a1_2, .int .i64 a1_3] 80 ?_; intro gb129 hg w8 hbox hb; replace BK129 := am_ (hbox); replace GW129 := am_ (((Zk GE128) : w.heap.size ≤ gb129)); replace GE129 := GW129; replace HB := (bsZ (Zh GE128) hb); replace NB128_129 := am_ ((by rw [hg]; exact Nat.ne_of_lt (blk_lt (g := gb128) (b0Z BK128)) : gb128 ≠ gb129)); replace NB129_128 := am_ ((by rw [hg]; exact Nat.ne_of_gt (blk_lt (g := gb128) (b0Z BK128)) : gb129 ≠ gb128)); replace BK128 := (bkZ BK128 hb); clear hb hbox hg; have hnb9 := NB128_129.out; have hnc9 := NB129_128.out; obtain ⟨hcz10_0, hcz10_1, hcz10_2, hfz10_0, hfz10_1, hfz10_2⟩ := cz3 BK128; obtain ⟨hcz11_0, hcz11_1, hcz11_2, hcz11_3, hfz11_0, hfz11_1, hfz11_2, hfz11_3⟩ := cz4 BK129) | (go_at_call 74; (with_reducible refine (spec_l07Time.calls k _ _ l0_0 a1_0 a1_1 t130 _ ?_ ?_ A3.out).mono ?_); exact (Zl HR0_0); exact HC0_0.out; rintro e w' ⟨rfl, ⟨nd, rfl⟩⟩; (try first | exact ⟨rfl, _, World.drewN_drewN _ _ _⟩ | exact ⟨rfl, _, Eq.trans (World.drewN_drewN _ _ _) (congrArg (World.drewN _) (Nat.add_assoc _ _ _))⟩)) | (go_at_call 52; (with_reducible refine (spec_l03Find.calls k _ _ l0_1 a1_2 t131 _ ?_ ?_ A4.out).mono ?_); exact (Zm HR0_1 GE128 GE129); exact HC0_1.out; rintro e w' ⟨rfl, ⟨nd, rfl⟩⟩; (try first | exact ⟨rfl, _, World.drewN_drewN _ _ _⟩ | exact ⟨rfl, _, Eq.trans (World.drewN_drewN _ _ _) (congrArg (World.drewN _) (Nat.add_assoc _ _ _))⟩); have p132 : 0 ≤ (t131 : Int) := of_decide_eq_true Zc; have q132 : t131 < (l0_1.length : Int) := of_decide_eq_true Zc; obtain ⟨ad132, e132, hx132_0, hx132_1, hx132_2, hx132_3, hx132_4, hx132_5, hx132_6, hx132_7, hx132_8⟩ := at_T91 HR0_1.out t131 p132 q132; cases e132; replace hx132_0 := cbH HB hx132_0; replace hx132_1 := cbH HB hx132_1; replace hx132_2 := cbH HB hx132_2; replace hx132_3 := cbH HB hx132_3; replace hx132_4 := cbH HB hx132_4; replace hx132_5 := cbH HB hx132_5; replace hx132_6 := cbH HB hx132_6; replace hx132_7 := cbH HB hx132_7; replace hx132_8 := cbH HB hx132_8; replace p132 := eq_true p132; replace q132 := eq_true q132)); try go_wp2_with (first | ((with_reducible refine gate_dst (N := 2) rfl ?_); refine boxZ 2 #[.slice A0_0 l0_0.length c0_0, .slice A0_1 l0_1.length c0_1, .slice A0_2 l0_2.length c0_2] 35 ?_; intro gb128 hg w7 hbox hb; replace BK128 := am_ (hbox); replace GW128 := am_ ((Ze : w.heap.size ≤ gb128)); replace GE128 := GW128; replace HB := (bsZ Zf hb); clear hb hbox hg) | ((with_reducible refine gate_dst (N := 3) rfl ?_); refine boxZ 3 #[.int .i64 a1_0, .int .i64 a1_1, .string a1_2, .int .i64 a1_3] 80 ?_; intro gb129 hg w8 hbox hb; replace BK129 := am_ (hbox); replace GW129 := am_ (((Zk GE128) : w.heap.size ≤ gb129)); replace GE129 := GW129; replace HB := (bsZ (Zh GE128) hb); replace NB128_129 := am_ ((by rw [hg]; exact Nat.ne_of_lt (blk_lt (g := gb128) (b0Z BK128)) : gb128 ≠ gb129)); replace NB129_128 := am_ ((by rw [hg]; exact Nat.ne_of_gt (blk_lt (g := gb128) (b0Z BK128)) : gb129 ≠ gb128)); replace BK128 := (bkZ BK128 hb); clear hb hbox hg; have hnb9 := NB128_129.out; have hnc9 := NB129_128.out; obtain ⟨hcz10_0, hcz10_1, hcz10_2, hfz10_0, hfz10_1, hfz10_2⟩ := cz3 BK128; obtain ⟨hcz11_0, hcz11_1, hcz11_2, hcz11_3, hfz11_0, hfz11_1, hfz11_2, hfz11_3⟩ := cz4 BK129) | (go_at_call 74; (with_reducible refine (spec_l07Time.calls k _ _ l0_0 a1_0 a1_1 t130 _ ?_ ?_ A3.out).mono ?_); exact (Zl HR0_0); exact HC0_0.out; rintro e w' ⟨rfl, ⟨nd, rfl⟩⟩; (try first | exact ⟨rfl, _, World.drewN_drewN _ _ _⟩ | exact ⟨rfl, _, Eq.trans (World.drewN_drewN _ _ _) (congrArg (World.drewN _) (Nat.add_assoc _ _ _))⟩)) | (go_at_call 52; (with_reducible refine (spec_l03Find.calls k _ _ l0_1 a1_2 t131 _ ?_ ?_ A4.out).mono ?_); exact (Zm HR0_1 GE128 GE129); exact HC0_1.out; rintro e w' ⟨rfl, ⟨nd, rfl⟩⟩; (try first | exact ⟨rfl, _, World.drewN_drewN _ _ _⟩ | exact ⟨rfl, _, Eq.trans (World.drewN_drewN _ _ _) (congrArg (World.drewN _) (Nat.add_assoc _ _ _))⟩); have p132 : 0 ≤ (t131 : Int) := of_decide_eq_true Zc; have q132 : t131 < (l0_1.length : Int) := of_decide_eq_true Zc; obtain ⟨ad132, e132, hx132_0, hx132_1, hx132_2, hx132_3, hx132_4, hx132_5, hx132_6, hx132_7, hx132_8⟩ := at_T91 HR0_1.out t131 p132 q132; cases e132; replace hx132_0 := cbH HB hx132_0; replace hx132_1 := cbH HB hx132_1; replace hx132_2 := cbH HB hx132_2; replace hx132_3 := cbH HB hx132_3; replace hx132_4 := cbH HB hx132_4; replace hx132_5 := cbH HB hx132_5; replace hx132_6 := cbH HB hx132_6; replace hx132_7 := cbH HB hx132_7; replace hx132_8 := cbH HB hx132_8; replace p132 := eq_true p132; replace q132 := eq_true q132)))
   go_ret
   exact ⟨by first | rfl | (simp only [i64_w]; done) | (simp only [i64_w]; rfl) | (simp [errW_none, errW_some] <;> rfl) | (simp [*, errW_none, errW_some] <;> rfl), (Zn GE128 GE129)⟩
  ·exact nN c6 H
 ·exact nN c5 H
mutual
def spec_IsShow.j0 : Nat → Bool → List (S87) → List (S91) → List (S80) → Option (Bool)
 | 0, _, _, _, _ => none
 | k + 1, x20, x134000, x134001, x134002 => if x20 = true then (some false) else (spec_IsShow.l0 k 0 x134000 x134001 x134002)
def spec_IsShow.l0 : Nat → Int → List (S87) → List (S91) → List (S80) → Option (Bool)
 | 0, _, _, _, _ => none
 | k + 1, x3, x134000, x134001, x134002 => if x3 < (x134002.length : Int) then (if 0 ≤ x3 then ((spec_l07Has.f x134000 ((rd_T80 x134002 x3).f0) ((rd_T80 x134002 x3).f1)).bind fun t138 => (if t138 = true then ((spec_l03Find.f k x134001 ((rd_T80 x134002 x3).f2)).bind fun t139 => (if t139 < 0 then (some false) else ((spec_l01In.f ((rd_T80 x134002 x3).f3) 0 11).bind fun t140 => (if t140 = true then ((spec_l08Time.f k x134000 x134001 x134002 ((rd_T80 x134002 x3).f0) ((rd_T80 x134002 x3).f1) ((rd_T80 x134002 x3).f2) ((rd_T80 x134002 x3).f3)).bind fun t141 => (if t141 < 0 then (some false) else (spec_IsShow.l0 k (wrap64 (x3 + 1)) x134000 x134001 x134002))) else (some false))))) else (some false))) else (none)) else (some true)
end
def spec_IsShow.f (k : Nat) (l0_0 : List (S87)) (l0_1 : List (S91)) (l0_2 : List (S80)) : Option (Bool) := (spec_IsScore.f k l0_0).bind fun t134 => (if t134 = true then ((spec_AreArticles.f k l0_1).bind fun t135 => (if t135 = true then (spec_IsShow.j0 k (decide ((l0_2.length : Int) > 20)) l0_0 l0_1 l0_2) else (spec_IsShow.j0 k true l0_0 l0_1 l0_2))) else (spec_IsShow.j0 k true l0_0 l0_1 l0_2))
theorem spec_IsShow.calls (k : Nat) (A0_0 : Option Addr) (c0_0 : Nat) (l0_0 : List (S87)) (A0_1 : Option Addr) (c0_1 : Nat) (l0_1 : List (S91)) (A0_2 : Option Addr) (c0_2 : Nat) (l0_2 : List (S80)) (r : Bool) (w : World) (hr0_0 : Kd.C k87 w A0_0 l0_0.length l0_0) (hc0_0 : l0_0.length ≤ c0_0) (hr0_1 : Kd.C k91 w A0_1 l0_1.length l0_1) (hc0_1 : l0_1.length ≤ c0_1) (hr0_2 : Kd.C k80 w A0_2 l0_2.length l0_2) (hc0_2 : l0_2.length ≤ c0_2) (h : spec_IsShow.f k l0_0 l0_1 l0_2 = some r) :
  Calls Try.prog 23 #[.agg #[.slice A0_0 l0_0.length c0_0, .slice A0_1 l0_1.length c0_1, .slice A0_2 l0_2.length c0_2]] w fun e w' => e = .returned (.bool r) ∧ Below w.heap.size w w' := by
 have hu35 := Try.underlying35; have hu80 := Try.underlying80; have HR0_0 := am_ hr0_0; have HC0_0 := am_ hc0_0; clear hr0_0 hc0_0; have HR0_1 := am_ hr0_1; have HC0_1 := am_ hc0_1; clear hr0_1 hc0_1; have HR0_2 := am_ hr0_2; have HC0_2 := am_ hc0_2; clear hr0_2 hc0_2; have HB := am_ (Below.refl w.heap.size w); have H : ((spec_IsScore.f k l0_0).bind fun t134 => (if t134 = true then ((spec_AreArticles.f k l0_1).bind fun t135 => (if t135 = true then (spec_IsShow.j0 k (decide ((l0_2.length : Int) > 20)) l0_0 l0_1 l0_2) else (spec_IsShow.j0 k true l0_0 l0_1 l0_2))) else (spec_IsShow.j0 k true l0_0 l0_1 l0_2))) = some r := h; clear h; have HC2 := am_ H; clear H
 go_enter Try.func23, Try.ntmps23
 go_upto_region 1 with (first | ((with_reducible refine gate_dst (N := 1) rfl ?_); (try (refine gate_guard (by rfl) ?_; dsimp only)); refine boxZ 1 #[.slice A0_0 l0_0.length c0_0, .slice A0_1 l0_1.length c0_1, .slice A0_2 l0_2.length c0_2] 35 ?_; intro gb133 hg w3 hbox hb; replace BK133 := am_ (hbox); replace GW133 := am_ ((Ze : w.heap.size ≤ gb133)); replace GE133 := GW133; replace HB := (bsZ Zf hb); clear hb hbox hg))
 (try simp only [Act.put, List.setIfInBounds_toArray, List.set_cons_zero, List.set_cons_succ])
 go_cut [20] (fun v20 wc => ∃ (kq : Nat) (x20_1 : Bool), v20 = .bool x20_1 ∧ Aside0 (spec_IsShow.j0 kq x20_1 l0_0 l0_1 l0_2 = some r) ∧ Aside0 (kq ≤ k) ∧ Aside0 (wc.heap[gb133]? = some (.cells #[(.slice A0_0 l0_0.length c0_0), (.slice A0_1 l0_1.length c0_1), (.slice A0_2 l0_2.length c0_2)] 35 (0, 0))) ∧ Aside0 (Below w.heap.size w wc))
 case first =>
  have H := HC2.out; clear HC2; obtain ⟨t134, A4, H⟩ := bE_ H; have HS_ := am_ H; clear H; refine ci3 BK133 ?_; intros
  go_wp2_with (first | ((with_reducible refine gate_callee (f := 49) rfl ?_); refine gZ 7 Try.func49 #[.slice A0_0 l0_0.length c0_0] ?_; (with_reducible refine (spec_IsScore.calls k _ _ l0_0 t134 _ ?_ ?_ A4.out).mono ?_); exact (Zl HR0_0); exact HC0_0.out; rintro e w' ⟨rfl, ⟨nd, rfl⟩⟩; refine ⟨_, rfl, ?_⟩; refine ?roundEnd))
  case roundEnd =>
   by_cases c5 : t134 = true
   ·have H := HS_.out
    clear HS_; subst c5; rw [if_pos rfl] at H; obtain ⟨t135, A6, H⟩ := bE_ H; have HS_ := am_ H; clear H
    go_wp2_with (first | (go_at_call 50; (with_reducible refine (spec_AreArticles.calls k _ _ l0_1 t135 _ ?_ ?_ A6.out).mono ?_); exact (Zo HR0_1 GE133); exact HC0_1.out; rintro e w9 ⟨rfl, hb⟩; replace BK133 := (bkZ BK133 hb); replace HB := (bsZ (Zh GE133) hb); clear hb; refine ?roundEnd))
    case roundEnd =>
     by_cases c7 : t135 = true
     ·have H := HS_.out
      clear HS_; subst c7; rw [if_pos rfl] at H; have H' := am_ H; clear H; refine ci3 BK133 ?_; intros
      go_wp2_with (first | fail)
      go_meet
      case rel => exact ⟨_, (decide ((l0_2.length : Int) > 20)), Za, H', ⟨Zp⟩, ⟨(Zq BK133)⟩, ⟨(Zh GE133)⟩⟩
     ·have H := HS_.out
      clear HS_; replace c7 := Bool.eq_false_iff.mpr c7; subst c7; rw [if_neg fnt_] at H; have H' := am_ H; clear H
      go_wp2_with (first | fail)
      go_meet
      case rel => exact ⟨_, (true), Za, H', ⟨Zp⟩, ⟨(Zq BK133)⟩, ⟨(Zh GE133)⟩⟩
   ·have H := HS_.out
    clear HS_; replace c5 := Bool.eq_false_iff.mpr c5; subst c5; rw [if_neg fnt_] at H; have H' := am_ H; clear H
    go_wp2_with (first | fail)
    go_meet
    case rel => exact ⟨_, (true), Za, H', ⟨Zp⟩, ⟨(Zq BK133)⟩, ⟨(Zh GE133)⟩⟩
 case rest =>
  clear HC2
  try clear c2
  try clear p2
  try clear c4
  try clear c5
  try clear c7
  obtain ⟨kq, x20_1, rfl, HA, HJ1, BK133, HB⟩ := hcut
  cases kq with
  | zero => exact absurd HA.out (by simp [spec_IsShow.j0])
  | succ kj1 =>
   have H := HA.out; clear HA; simp only [spec_IsShow.j0] at H
   by_cases c14 : x20_1 = true
   ·subst c14
    rw [if_pos rfl] at H; obtain rfl := Option.some.inj H
    go_wp2
    go_ret
    exact ⟨Zg, (Zh GE133)⟩
   ·replace c14 := Bool.eq_false_iff.mpr c14
    subst c14; rw [if_neg fnt_] at H; have H' := am_ H; clear H
    go_wp2
    go_loopg [3] kj1 (fun kq v3 w' => ∃ (x3_2 : Int), v3 = .int .i64 x3_2 ∧ Aside0 (spec_IsShow.l0 kq x3_2 l0_0 l0_1 l0_2 = some r) ∧ Aside0 (kq ≤ kj1) ∧ Aside0 (w'.heap[gb133]? = some (.cells #[(.slice A0_0 l0_0.length c0_0), (.slice A0_1 l0_1.length c0_1), (.slice A0_2 l0_2.length c0_2)] 35 (0, 0))) ∧ Aside0 (Below w.heap.size w w'))
    case atStart => exact ⟨(0), Za, H', ⟨Nat.le_refl _⟩, ⟨(Zq BK133)⟩, ⟨(Zh GE133)⟩⟩
    case round =>
     clear H'
     try clear c1
     try clear c2
     try clear p2
     try clear c4
     try clear c5
     try clear c7
     try clear c14
     try clear p2
     obtain ⟨x3_2, rfl, HA, HK2, BK133, HB⟩ := hrel
     cases gk with
     | zero => exact absurd HA.out (by simp [spec_IsShow.l0])
     | succ k2 =>
      have H := HA.out; clear HA; simp only [spec_IsShow.l0] at H
      by_cases c15 : x3_2 < (l0_2.length : Int)
      ·rw [if_pos c15] at H
       have c15b0 := decide_eq_true c15; clear c15
       by_cases c16 : 0 ≤ x3_2
       ·rw [if_pos c16] at H
        have c16b0 := decide_eq_true c16; clear c16; obtain ⟨t138, A17, H⟩ := bE_ H; have HS_ := am_ H; clear H; refine ci3 BK133 ?_; intros; have p136 : 0 ≤ (x3_2 : Int) := of_decide_eq_true Zc; have q136 : x3_2 < (l0_2.length : Int) := of_decide_eq_true Zc; obtain ⟨ad136, e136, hx136_0, hx136_1, hx136_2, hx136_3⟩ := at_T80 HR0_2.out x3_2 p136 q136
        cases e136
        replace hx136_0 := cbH HB hx136_0; replace hx136_1 := cbH HB hx136_1; replace hx136_2 := cbH HB hx136_2; replace hx136_3 := cbH HB hx136_3; replace p136 := eq_true p136; replace q136 := eq_true q136
        go_wp2_with (first | ((with_reducible refine gate_dst (N := 4) rfl ?_); (try (refine gate_guard (by rfl) ?_; dsimp only)); refine boxZ 4 #[.int .i64 0, .int .i64 0, .string (⟨#[]⟩ : ByteArray), .int .i64 0] 80 ?_; intro gb137 hg w22 hbox hb; replace BK137 := am_ (hbox); replace GW137 := am_ (((Zk GE133) : w.heap.size ≤ gb137)); replace GE137 := GW137; replace HB := (bsZ (Zh GE133) hb); replace NB133_137 := am_ ((by rw [hg]; exact Nat.ne_of_lt (blk_lt (g := gb133) (b0Z BK133)) : gb133 ≠ gb137)); replace NB137_133 := am_ ((by rw [hg]; exact Nat.ne_of_gt (blk_lt (g := gb133) (b0Z BK133)) : gb137 ≠ gb133)); replace BK133 := (bkZ BK133 hb); clear hb hbox hg; have hnb23 := NB137_133.out; have hnc23 := NB133_137.out; refine ci4 BK137 ?_; intros; refine ci3 BK133 ?_; intros) | ((with_reducible refine gate_callee (f := 51) rfl ?_); refine gZ 39 Try.func51 #[.slice A0_0 l0_0.length c0_0, .int .i64 ((rd_T80 l0_2 x3_2).f0), .int .i64 ((rd_T80 l0_2 x3_2).f1)] ?_; (with_reducible refine (spec_l07Has.calls _ _ l0_0 ((rd_T80 l0_2 x3_2).f0) ((rd_T80 l0_2 x3_2).f1) t138 _ ?_ ?_ A17.out).mono ?_); exact Kd.C_below HR0_0.out (Zn GE133 GE137); exact HC0_0.out; rintro e w' ⟨rfl, ⟨nd, rfl⟩⟩; refine ⟨_, rfl, ?_⟩; refine ?roundEnd))
        case roundEnd =>
         by_cases c18 : t138 = true
         ·have H := HS_.out
          clear HS_; subst c18; rw [if_pos rfl] at H; obtain ⟨t139, A19, H⟩ := bE_ H; have HS_ := am_ H; clear H
          go_wp2_with (first | (go_at_call 52; (with_reducible refine (spec_l03Find.calls k2 _ _ l0_1 ((rd_T80 l0_2 x3_2).f2) t139 _ ?_ ?_ A19.out).mono ?_); exact Kd.C_below HR0_1.out (Zn GE133 GE137); exact HC0_1.out; rintro e w' ⟨rfl, ⟨nd, rfl⟩⟩; refine ?roundEnd))
          case roundEnd =>
           by_cases c20 : t139 < 0
           ·have H := HS_.out
            clear HS_; rw [if_pos c20] at H; have c20b0 := decide_eq_true c20; clear c20; obtain rfl := Option.some.inj H
            go_wp2_with (first | fail)
            go_ret
            exact ⟨Zg, (Zn GE133 GE137)⟩
           ·have H := HS_.out
            clear HS_; rw [if_neg c20] at H; have c20b0 := decide_eq_false c20; clear c20; obtain ⟨t140, A26, H⟩ := bE_ H; have HS_ := am_ H; clear H
            go_wp2_with (first | (go_at_call 24; (with_reducible refine (spec_l01In.calls ((rd_T80 l0_2 x3_2).f3) 0 11 t140 _ A26.out).mono ?_); rintro e w' ⟨rfl, ⟨nd, rfl⟩⟩; refine ?roundEnd))
            case roundEnd =>
             by_cases c27 : t140 = true
             ·have H := HS_.out
              clear HS_; subst c27; rw [if_pos rfl] at H; obtain ⟨t141, A28, H⟩ := bE_ H; have HS_ := am_ H; clear H
              go_wp2_with (first | (go_at_call 53; (with_reducible refine (spec_l08Time.calls k2 _ _ l0_0 _ _ l0_1 _ _ l0_2 ((rd_T80 l0_2 x3_2).f0) ((rd_T80 l0_2 x3_2).f1) ((rd_T80 l0_2 x3_2).f2) ((rd_T80 l0_2 x3_2).f3) t141 _ ?_ ?_ ?_ ?_ ?_ ?_ A28.out).mono ?_); exact Kd.C_below HR0_0.out (Zn GE133 GE137); exact HC0_0.out; exact Kd.C_below HR0_1.out (Zn GE133 GE137); exact HC0_1.out; exact Kd.C_below HR0_2.out (Zn GE133 GE137); exact HC0_2.out; rintro e w35 ⟨rfl, hb⟩; replace BK133 := am_ (blk_below (g := gb133) (bfZ BK133 NB133_137) hb); replace BK137 := am_ (blk_below (g := gb137) (o := .cells #[.int .i64 ((rd_T80 l0_2 x3_2).f0), .int .i64 ((rd_T80 l0_2 x3_2).f1), .string ((rd_T80 l0_2 x3_2).f2), .int .i64 ((rd_T80 l0_2 x3_2).f3)] 80 (0, 0)) (bpZ BK137) hb); replace HB := (bsZ (Zn GE133 GE137) hb); clear hb; refine ?roundEnd))
              case roundEnd =>
               by_cases c29 : t141 < 0
               ·have H := HS_.out
                clear HS_; rw [if_pos c29] at H; have c29b0 := decide_eq_true c29; clear c29; obtain rfl := Option.some.inj H
                go_wp2_with (first | fail)
                go_ret
                exact ⟨Zg, (Zn GE133 GE137)⟩
               ·have H := HS_.out
                clear HS_; rw [if_neg c29] at H; have c29b0 := decide_eq_false c29; clear c29; have H' := am_ H; clear H
                go_wp2_with (first | fail)
                go_roundg k2
                case measure => have := HJ1.out; have := HK2.out; omega
                case rel => exact ⟨(wrap64 (x3_2 + 1)), Za, H', ⟨by have := HJ1.out; have := HK2.out; omega⟩, ⟨(Zq BK133)⟩, ⟨(Zn GE133 GE137)⟩⟩
             ·have H := HS_.out
              clear HS_; replace c27 := Bool.eq_false_iff.mpr c27; subst c27; rw [if_neg fnt_] at H; obtain rfl := Option.some.inj H
              go_wp2_with (first | fail)
              go_ret
              exact ⟨Zg, (Zn GE133 GE137)⟩
         ·have H := HS_.out
          clear HS_; replace c18 := Bool.eq_false_iff.mpr c18; subst c18; rw [if_neg fnt_] at H; obtain rfl := Option.some.inj H
          go_wp2_with (first | fail)
          go_ret
          exact ⟨Zg, (Zn GE133 GE137)⟩
       ·exact nN c16 H
      ·rw [if_neg c15] at H
       have c15b0 := decide_eq_false c15; clear c15; obtain rfl := Option.some.inj H; refine ci3 BK133 ?_; intros
       go_wp2
       go_ret
       exact ⟨Zg, (Zh GE133)⟩
def spec_l03Window.f (a0_0 : ByteArray) (a0_1 : Int) (a0_2 : Int) (a0_3 : Int) (a0_4 : Int) (a0_5 : Int) (a0_6 : Int) (a0_7 : Int) (a0_8 : Int) (a1 : Int) (a2 : Int) : Option (List Int) := some (([wrap64 ((wrap64 ((wrap64 (a1 + a0_3)) + (wrap64 (a2 * a0_6)))) - a0_4), wrap64 ((wrap64 ((wrap64 (a1 + a0_3)) + (wrap64 (a2 * a0_6)))) + a0_4)] : List Int))
theorem spec_l03Window.calls (a0_0 : ByteArray) (a0_1 : Int) (a0_2 : Int) (a0_3 : Int) (a0_4 : Int) (a0_5 : Int) (a0_6 : Int) (a0_7 : Int) (a0_8 : Int) (a1 : Int) (a2 : Int) (r : List Int) (w : World) (h : spec_l03Window.f a0_0 a0_1 a0_2 a0_3 a0_4 a0_5 a0_6 a0_7 a0_8 a1 a2 = some r) :
  Calls Try.prog 75 #[.agg #[.string a0_0, .int .i64 a0_1, .int .i64 a0_2, .int .i64 a0_3, .int .i64 a0_4, .int .i64 a0_5, .int .i64 a0_6, .int .i64 a0_7, .int .i64 a0_8], .int .i64 a1, .int .i64 a2] w fun e w' => ∃ v0_ : Value, e = .returned (v0_) ∧ Kd.R (Kd.int .i64) 2 w' w.heap.size (fun _ => True) v0_ r ∧ Below w.heap.size w w' := by
 have hu91 := Try.underlying91; have HB := am_ (Below.refl w.heap.size w); have H : (some (([wrap64 ((wrap64 ((wrap64 (a1 + a0_3)) + (wrap64 (a2 * a0_6)))) - a0_4), wrap64 ((wrap64 ((wrap64 (a1 + a0_3)) + (wrap64 (a2 * a0_6)))) + a0_4)] : List Int))) = some r := h; clear h; obtain ⟨y143, hy143⟩ : ∃ y_ : List Int, y_ = (([wrap64 ((wrap64 ((wrap64 (a1 + a0_3)) + (wrap64 (a2 * a0_6)))) - a0_4), wrap64 ((wrap64 ((wrap64 (a1 + a0_3)) + (wrap64 (a2 * a0_6)))) + a0_4)] : List Int)) := ⟨_, rfl⟩
 (first | (rw [← hy143] at H; with_reducible replace H := bindZ H) | rw [← hy143] at H | skip)
 have Ny143 := am_ hy143; clear hy143; obtain rfl := Option.some.inj H
 go_enter Try.func75, Try.ntmps75
 go_wp2_with (first | ((with_reducible refine gate_dst (N := 3) rfl ?_); refine boxZ 3 #[.string a0_0, .int .i64 a0_1, .int .i64 a0_2, .int .i64 a0_3, .int .i64 a0_4, .int .i64 a0_5, .int .i64 a0_6, .int .i64 a0_7, .int .i64 a0_8] 91 ?_; intro gb142 hg w4 hbox hb; replace BK142 := am_ (hbox); replace GW142 := am_ ((Ze : w.heap.size ≤ gb142)); replace GE142 := GW142; replace HB := (bsZ Zf hb); clear hb hbox hg; refine ci9 BK142 ?_; intros) | ((with_reducible refine gate_dst (N := 25) rfl ?_); refine Kd.R_lit (Kd.int .i64) _ 2 ?hg (N := 25) ?hd (xs := ([wrap64 ((wrap64 ((wrap64 (a1 + a0_3)) + (wrap64 (a2 * a0_6)))) - a0_4), wrap64 ((wrap64 ((wrap64 (a1 + a0_3)) + (wrap64 (a2 * a0_6)))) + a0_4)] : List Int)) (inner := [.int .i64 (wrap64 ((wrap64 ((wrap64 (a1 + a0_3)) + (wrap64 (a2 * a0_6)))) - a0_4)), .int .i64 (wrap64 ((wrap64 ((wrap64 (a1 + a0_3)) + (wrap64 (a2 * a0_6)))) + a0_4))]) (ok := fun _ => True) (okp := fun _ => True) ?hr ?hp (fun _ hk => hk) trivial (Below.refl _ _) (Nat.le_refl _) (by simp) ?_; (case hd => rfl); (case hg => rfl); (case hr => first | (go_simp; done) | (go_simp; rfl)); (case hp => exact (Reps.one (show Kd.M (Kd.int .i64) _ _ _ (wrap64 ((wrap64 ((wrap64 (a1 + a0_3)) + (wrap64 (a2 * a0_6)))) - a0_4)) [.int .i64 (wrap64 ((wrap64 ((wrap64 (a1 + a0_3)) + (wrap64 (a2 * a0_6)))) - a0_4))] from rfl) (Reps.one (show Kd.M (Kd.int .i64) _ _ _ (wrap64 ((wrap64 ((wrap64 (a1 + a0_3)) + (wrap64 (a2 * a0_6)))) + a0_4)) [.int .i64 (wrap64 ((wrap64 ((wrap64 (a1 + a0_3)) + (wrap64 (a2 * a0_6)))) + a0_4))] from rfl) (Reps.none _ _)))); intro v144 w6 ho7 hb hg_ hnew_; clear hg_ hnew_; (first | rw [← Ny143.out] at ho7 | (simp only [Int.reduceToNat] at ho7; rw [← Ny143.out] at ho7)); replace HO145 := am_ (Kd.R_lower ho7 (below_size (Zh GE142))); replace BK142 := (bkZ BK142 hb); replace HB := (bsZ (Zh GE142) hb); clear hb ho7))
 go_ret
 exact ⟨_, Zg, (Zr HO145), (Zh GE142)⟩
def spec_l09Cue.l0 : Nat → Int → List (List Int) → Int → List (S87) → List (S91) → List (S80) → Int → Int → ByteArray → Int → ByteArray → Int → Int → Int → Int → Int → Int → Int → Int → Option ((List (List Int)))
 | 0, _, _, _, _, _, _, _, _, _, _, _, _, _, _, _, _, _, _, _ => none
 | k + 1, x1, x7, x8, x147000, x147001, x147002, x149000, x149001, x149002, x149003, x152000, x152001, x152002, x152003, x152004, x152005, x152006, x152007, x152008 => if x8 < x152005 then ((spec_l08Time.f k x147000 x147001 x147002 x149000 x149001 x149002 x149003).bind fun t155 => ((spec_l03Window.f x152000 x152001 x152002 x152003 x152004 x152005 x152006 x152007 x152008 t155 x8).bind fun t156 => (if 0 < (t156.length : Int) then (if 1 < (t156.length : Int) then (if x7.length < 5864062014805 then (spec_l09Cue.l0 k x1 (x7 ++ [(([rd t156 0, rd t156 1, x1] : List Int))]) (wrap64 (x8 + 1)) x147000 x147001 x147002 x149000 x149001 x149002 x149003 x152000 x152001 x152002 x152003 x152004 x152005 x152006 x152007 x152008) else (none)) else (none)) else (none)))) else (some x7)
def spec_l09Cue.f (k : Nat) (l0_0 : List (S87)) (l0_1 : List (S91)) (l0_2 : List (S80)) (a1 : Int) : Option ((List (List Int))) := if 0 ≤ a1 then (if a1 < (l0_2.length : Int) then ((spec_l03Find.f k l0_1 ((rd_T80 l0_2 a1).f2)).bind fun t149 => (if 0 ≤ t149 then (if t149 < (l0_1.length : Int) then (spec_l09Cue.l0 k a1 (([] : List (List Int))) 0 l0_0 l0_1 l0_2 ((rd_T80 l0_2 a1).f0) ((rd_T80 l0_2 a1).f1) ((rd_T80 l0_2 a1).f2) ((rd_T80 l0_2 a1).f3) ((rd_T91 l0_1 t149).f0) ((rd_T91 l0_1 t149).f1) ((rd_T91 l0_1 t149).f2) ((rd_T91 l0_1 t149).f3) ((rd_T91 l0_1 t149).f4) ((rd_T91 l0_1 t149).f5) ((rd_T91 l0_1 t149).f6) ((rd_T91 l0_1 t149).f7) ((rd_T91 l0_1 t149).f8)) else (none)) else (none))) else (none)) else (none)
def spec_l09Cue.T2 : Bool × List (List Nat × List Nat) := (true, [([], []), ([0], [0]), ([], []), ([2], [2]), ([], []), ([4], [4]), ([3, 5], [3, 5]), ([1, 6], [1, 6]), ([7], [7]), ([], []), ([9, 8, 6, 0, 1, 2, 3, 4, 5, 6, 7, 8, 9], [8, 9])])
def spec_l09Cue.B2 : List Nat := [0, 1, 0, 4, 0, 16, 60, 127, 255, 0, 1023]
theorem spec_l09Cue.tab2 : rtab .any (opsOf Try.f54 2) = spec_l09Cue.T2 := by kernel_rfl
theorem spec_l09Cue.bits2 : waitsOk spec_l09Cue.T2.2 spec_l09Cue.B2 = true := by kernel_rfl
def spec_l09Cue.T8 : Bool × List (List Nat × List Nat) := (true, [([], []), ([], []), ([1], [1]), ([2], [2]), ([], []), ([4], [4]), ([5], [5]), ([], []), ([3, 6, 7], [3, 6, 7]), ([8], [8]), ([0, 9], [0, 9]), ([10, 10, 0, 1, 2, 3, 4, 5, 6, 7, 8, 9, 10], [0, 10])])
def spec_l09Cue.B8 : List Nat := [0, 0, 2, 6, 0, 16, 48, 0, 254, 510, 1023, 2047]
theorem spec_l09Cue.tab8 : rtab .any (opsOf Try.f54 8) = spec_l09Cue.T8 := by kernel_rfl
theorem spec_l09Cue.bits8 : waitsOk spec_l09Cue.T8.2 spec_l09Cue.B8 = true := by kernel_rfl
theorem spec_l09Cue.calls (k : Nat) (A0_0 : Option Addr) (c0_0 : Nat) (l0_0 : List (S87)) (A0_1 : Option Addr) (c0_1 : Nat) (l0_1 : List (S91)) (A0_2 : Option Addr) (c0_2 : Nat) (l0_2 : List (S80)) (a1 : Int) (r : List (List Int)) (w : World) (hr0_0 : Kd.C k87 w A0_0 l0_0.length l0_0) (hc0_0 : l0_0.length ≤ c0_0) (hr0_1 : Kd.C k91 w A0_1 l0_1.length l0_1) (hc0_1 : l0_1.length ≤ c0_1) (hr0_2 : Kd.C k80 w A0_2 l0_2.length l0_2) (hc0_2 : l0_2.length ≤ c0_2) (h : spec_l09Cue.f k l0_0 l0_1 l0_2 a1 = some r) :
  Calls Try.prog 54 #[.agg #[.slice A0_0 l0_0.length c0_0, .slice A0_1 l0_1.length c0_1, .slice A0_2 l0_2.length c0_2], .int .i64 a1] w fun e w' => ∃ v0_ : Value, e = .returned (v0_) ∧ Kd.S (Kd.slice 2 (Kd.int .i64)) 47 w' w.heap.size (fun _ => True) v0_ r ∧ Below w.heap.size w w' := by
 have hu35 := Try.underlying35; have hu80 := Try.underlying80; have hu91 := Try.underlying91; have HR0_0 := am_ hr0_0; have HC0_0 := am_ hc0_0; clear hr0_0 hc0_0; have HR0_1 := am_ hr0_1; have HC0_1 := am_ hc0_1; clear hr0_1 hc0_1; have HR0_2 := am_ hr0_2; have HC0_2 := am_ hc0_2; clear hr0_2 hc0_2; have HB := am_ (Below.refl w.heap.size w); have H : (if 0 ≤ a1 then (if a1 < (l0_2.length : Int) then ((spec_l03Find.f k l0_1 ((rd_T80 l0_2 a1).f2)).bind fun t149 => (if 0 ≤ t149 then (if t149 < (l0_1.length : Int) then (spec_l09Cue.l0 k a1 (([] : List (List Int))) 0 l0_0 l0_1 l0_2 ((rd_T80 l0_2 a1).f0) ((rd_T80 l0_2 a1).f1) ((rd_T80 l0_2 a1).f2) ((rd_T80 l0_2 a1).f3) ((rd_T91 l0_1 t149).f0) ((rd_T91 l0_1 t149).f1) ((rd_T91 l0_1 t149).f2) ((rd_T91 l0_1 t149).f3) ((rd_T91 l0_1 t149).f4) ((rd_T91 l0_1 t149).f5) ((rd_T91 l0_1 t149).f6) ((rd_T91 l0_1 t149).f7) ((rd_T91 l0_1 t149).f8)) else (none)) else (none))) else (none)) else (none)) = some r := h; clear h
 by_cases c3 : 0 ≤ a1
 ·rw [if_pos c3] at H
  have c3b0 := decide_eq_true c3; clear c3
  by_cases c4 : a1 < (l0_2.length : Int)
  ·rw [if_pos c4] at H
   have c4b0 := decide_eq_true c4; clear c4; obtain ⟨t149, A5, H⟩ := bE_ H
   by_cases c6 : 0 ≤ t149
   ·rw [if_pos c6] at H
    have c6b0 := decide_eq_true c6; clear c6
    by_cases c7 : t149 < (l0_1.length : Int)
    ·rw [if_pos c7] at H
     have c7b0 := decide_eq_true c7; clear c7; obtain ⟨y152, hy152⟩ : ∃ y_ : List (List Int), y_ = (([] : List (List Int))) := ⟨_, rfl⟩
     replace H : (spec_l09Cue.l0 k a1 y152 0 l0_0 l0_1 l0_2 ((rd_T80 l0_2 a1).f0) ((rd_T80 l0_2 a1).f1) ((rd_T80 l0_2 a1).f2) ((rd_T80 l0_2 a1).f3) ((rd_T91 l0_1 t149).f0) ((rd_T91 l0_1 t149).f1) ((rd_T91 l0_1 t149).f2) ((rd_T91 l0_1 t149).f3) ((rd_T91 l0_1 t149).f4) ((rd_T91 l0_1 t149).f5) ((rd_T91 l0_1 t149).f6) ((rd_T91 l0_1 t149).f7) ((rd_T91 l0_1 t149).f8)) = some r := by (try rw [hy152]); first | with_reducible exact H | with_reducible exact (Option.bind_some _ _).symm.trans H | exact H
     have Ny152 := am_ hy152; clear hy152; have H' := am_ H; clear H
     go_enter Try.func54, Try.ntmps54
     try go_wp2_with (first | ((with_reducible refine gate_dst (N := 2) rfl ?_); refine boxZ 2 #[.slice A0_0 l0_0.length c0_0, .slice A0_1 l0_1.length c0_1, .slice A0_2 l0_2.length c0_2] 35 ?_; intro gb146 hg w8 hbox hb; replace BK146 := am_ (hbox); replace GW146 := am_ ((Ze : w.heap.size ≤ gb146)); replace GE146 := GW146; replace HB := (bsZ Zf hb); clear hb hbox hg; refine ci3 BK146 ?_; intros; have p147 : 0 ≤ (a1 : Int) := of_decide_eq_true Zc; have q147 : a1 < (l0_2.length : Int) := of_decide_eq_true Zc; obtain ⟨ad147, e147, hx147_0, hx147_1, hx147_2, hx147_3⟩ := at_T80 HR0_2.out a1 p147 q147; cases e147; replace hx147_0 := cbH HB hx147_0; replace hx147_1 := cbH HB hx147_1; replace hx147_2 := cbH HB hx147_2; replace hx147_3 := cbH HB hx147_3; replace p147 := eq_true p147; replace q147 := eq_true q147) | ((with_reducible refine gate_dst (N := 5) rfl ?_); refine boxZ 5 #[.int .i64 0, .int .i64 0, .string (⟨#[]⟩ : ByteArray), .int .i64 0] 80 ?_; intro gb148 hg w10 hbox hb; replace BK148 := am_ (hbox); replace GW148 := am_ (((Zk GE146) : w.heap.size ≤ gb148)); replace GE148 := GW148; replace HB := (bsZ (Zh GE146) hb); replace NB146_148 := am_ ((by rw [hg]; exact Nat.ne_of_lt (blk_lt (g := gb146) (b0Z BK146)) : gb146 ≠ gb148)); replace NB148_146 := am_ ((by rw [hg]; exact Nat.ne_of_gt (blk_lt (g := gb146) (b0Z BK146)) : gb148 ≠ gb146)); replace BK146 := (bkZ BK146 hb); clear hb hbox hg; have hnb11 := NB148_146.out; have hnc11 := NB146_148.out; refine ci4 BK148 ?_; intros))
     have n0_ : Aside0 (((((w10.setCell ⟨gb148, 0, none⟩ (.int .i64 ((rd_T80 l0_2 a1).f0))).setCell ⟨gb148, 1, none⟩ (.int .i64 ((rd_T80 l0_2 a1).f1))).setCell ⟨gb148, 2, none⟩ (.string ((rd_T80 l0_2 a1).f2))).setCell ⟨gb148, 3, none⟩ (.int .i64 ((rd_T80 l0_2 a1).f3))).heap[gb146]? = some (.cells #[.slice A0_0 l0_0.length c0_0, .slice A0_1 l0_1.length c0_1, .slice (some ad147) l0_2.length c0_2] 35 (0, 0))) := ⟨by refine blk_far ?_ NB146_148.out _; refine blk_far ?_ NB146_148.out _; refine blk_far ?_ NB146_148.out _; refine blk_far ?_ NB146_148.out _; exact BK146.out⟩; have n1_ : Aside0 (((((w10.setCell ⟨gb148, 0, none⟩ (.int .i64 ((rd_T80 l0_2 a1).f0))).setCell ⟨gb148, 1, none⟩ (.int .i64 ((rd_T80 l0_2 a1).f1))).setCell ⟨gb148, 2, none⟩ (.string ((rd_T80 l0_2 a1).f2))).setCell ⟨gb148, 3, none⟩ (.int .i64 ((rd_T80 l0_2 a1).f3))).heap[gb148]? = some (.cells #[.int .i64 ((rd_T80 l0_2 a1).f0), .int .i64 ((rd_T80 l0_2 a1).f1), .string ((rd_T80 l0_2 a1).f2), .int .i64 ((rd_T80 l0_2 a1).f3)] 80 (0, 0))) := ⟨by refine blk_put (cs := #[.int .i64 ((rd_T80 l0_2 a1).f0), .int .i64 ((rd_T80 l0_2 a1).f1), .string ((rd_T80 l0_2 a1).f2), .int .i64 0]) ?_ 3 _ rfl; refine blk_put (cs := #[.int .i64 ((rd_T80 l0_2 a1).f0), .int .i64 ((rd_T80 l0_2 a1).f1), .string (⟨#[]⟩ : ByteArray), .int .i64 0]) ?_ 2 _ rfl; refine blk_put (cs := #[.int .i64 ((rd_T80 l0_2 a1).f0), .int .i64 0, .string (⟨#[]⟩ : ByteArray), .int .i64 0]) ?_ 1 _ rfl; refine blk_put (cs := #[.int .i64 0, .int .i64 0, .string (⟨#[]⟩ : ByteArray), .int .i64 0]) ?_ 0 _ rfl; exact BK148.out⟩; have n2_ : Aside0 (Below w.heap.size w ((((w10.setCell ⟨gb148, 0, none⟩ (.int .i64 ((rd_T80 l0_2 a1).f0))).setCell ⟨gb148, 1, none⟩ (.int .i64 ((rd_T80 l0_2 a1).f1))).setCell ⟨gb148, 2, none⟩ (.string ((rd_T80 l0_2 a1).f2))).setCell ⟨gb148, 3, none⟩ (.int .i64 ((rd_T80 l0_2 a1).f3)))) := ⟨(Zn GE146 GE148)⟩
     (try clear BK146)
     (try clear BK148)
     (try clear HB)
     generalize ((((w10.setCell ⟨gb148, 0, none⟩ (.int .i64 ((rd_T80 l0_2 a1).f0))).setCell ⟨gb148, 1, none⟩ (.int .i64 ((rd_T80 l0_2 a1).f1))).setCell ⟨gb148, 2, none⟩ (.string ((rd_T80 l0_2 a1).f2))).setCell ⟨gb148, 3, none⟩ (.int .i64 ((rd_T80 l0_2 a1).f3))) = w13 at n0_ n1_ n2_ ⊢; have BK146 := n0_; have BK148 := n1_; have HB := n2_; clear n0_ n1_ n2_; replace BK146 := am_ (blk_drew BK146.out); replace BK148 := am_ (blk_drew BK148.out); replace HB := am_ (below_drew1 HB.out); have p150 : 0 ≤ (t149 : Int) := of_decide_eq_true Zc; have q150 : t149 < (l0_1.length : Int) := of_decide_eq_true Zc; obtain ⟨ad150, e150, hx150_0, hx150_1, hx150_2, hx150_3, hx150_4, hx150_5, hx150_6, hx150_7, hx150_8⟩ := at_T91 HR0_1.out t149 p150 q150; have hw150_8 := hx150_8; have hw150_7 := hx150_7; have hw150_6 := hx150_6; have hw150_5 := hx150_5; have hw150_4 := hx150_4; have hw150_3 := hx150_3; have hw150_2 := hx150_2; have hw150_1 := hx150_1; have hw150_0 := hx150_0
     cases e150
     replace hx150_0 := cbH HB hx150_0; replace hx150_1 := cbH HB hx150_1; replace hx150_2 := cbH HB hx150_2; replace hx150_3 := cbH HB hx150_3; replace hx150_4 := cbH HB hx150_4; replace hx150_5 := cbH HB hx150_5; replace hx150_6 := cbH HB hx150_6; replace hx150_7 := cbH HB hx150_7; replace hx150_8 := cbH HB hx150_8; replace p150 := eq_true p150; replace q150 := eq_true q150; refine start_ (n := 11) (S := fun w' => w'.cell? ⟨gb146, 0, none⟩ = some (.slice A0_0 l0_0.length c0_0) ∧ w'.cell? ⟨gb146, 1, none⟩ = some (.slice (some ad150) l0_1.length c0_1) ∧ w'.cell? ⟨gb146, 2, none⟩ = some (.slice (some ad147) l0_2.length c0_2) ∧ w'.cell? ⟨gb148, 0, none⟩ = some (.int .i64 ((rd_T80 l0_2 a1).f0)) ∧ w'.cell? ⟨gb148, 1, none⟩ = some (.int .i64 ((rd_T80 l0_2 a1).f1)) ∧ w'.cell? ⟨gb148, 2, none⟩ = some (.string ((rd_T80 l0_2 a1).f2)) ∧ w'.cell? ⟨gb148, 3, none⟩ = some (.int .i64 ((rd_T80 l0_2 a1).f3)) ∧ w'.cell? (ad150.add ((t149).toNat * 9)) = some (.string ((rd_T91 l0_1 t149).f0)) ∧ w'.cell? ⟨(ad150.add ((t149).toNat * 9)).block, (ad150.add ((t149).toNat * 9)).off + 1, none⟩ = some (.int .i64 ((rd_T91 l0_1 t149).f1)) ∧ w'.cell? ⟨(ad150.add ((t149).toNat * 9)).block, (ad150.add ((t149).toNat * 9)).off + 2, none⟩ = some (.int .i64 ((rd_T91 l0_1 t149).f2)) ∧ w'.cell? ⟨(ad150.add ((t149).toNat * 9)).block, (ad150.add ((t149).toNat * 9)).off + 3, none⟩ = some (.int .i64 ((rd_T91 l0_1 t149).f3)) ∧ w'.cell? ⟨(ad150.add ((t149).toNat * 9)).block, (ad150.add ((t149).toNat * 9)).off + 4, none⟩ = some (.int .i64 ((rd_T91 l0_1 t149).f4)) ∧ w'.cell? ⟨(ad150.add ((t149).toNat * 9)).block, (ad150.add ((t149).toNat * 9)).off + 5, none⟩ = some (.int .i64 ((rd_T91 l0_1 t149).f5)) ∧ w'.cell? ⟨(ad150.add ((t149).toNat * 9)).block, (ad150.add ((t149).toNat * 9)).off + 6, none⟩ = some (.int .i64 ((rd_T91 l0_1 t149).f6)) ∧ w'.cell? ⟨(ad150.add ((t149).toNat * 9)).block, (ad150.add ((t149).toNat * 9)).off + 7, none⟩ = some (.int .i64 ((rd_T91 l0_1 t149).f7)) ∧ w'.cell? ⟨(ad150.add ((t149).toNat * 9)).block, (ad150.add ((t149).toNat * 9)).off + 8, none⟩ = some (.int .i64 ((rd_T91 l0_1 t149).f8))) (ds := []) (bT 11 0) Zi rfl rfl ⟨(blk_cell BK146.out 0).trans rfl, (blk_cell BK146.out 1).trans rfl, (blk_cell BK146.out 2).trans rfl, (blk_cell BK148.out 0).trans rfl, (blk_cell BK148.out 1).trans rfl, (blk_cell BK148.out 2).trans rfl, (blk_cell BK148.out 3).trans rfl, (cbH HB hw150_0 :), (cbH HB hw150_1 :), (cbH HB hw150_2 :), (cbH HB hw150_3 :), (cbH HB hw150_4 :), (cbH HB hw150_5 :), (cbH HB hw150_6 :), (cbH HB hw150_7 :), (cbH HB hw150_8 :)⟩ (fun hHeld => ?_); refine with_tabW spec_l09Cue.tab2 spec_l09Cue.bits2 (fun HT_ HW_ => ?_); generalize w13.drew = w14 at BK146 BK148 HB hx150_0 hx150_1 hx150_2 hx150_3 hx150_4 hx150_5 hx150_6 hx150_7 hx150_8 hHeld ⊢; refine pureZ HT_ 0 (some 15) (bT 11 1) ?_; refine pureZ HT_ 2 (some 17) (bB 11 5) ?_; refine pureZ HT_ 4 (some 19) (bB 11 21) ?_; refine takeZ16 HT_ HW_ 1 (some 16) (bB 11 23) hHeld ?_; refine takeZ16 HT_ HW_ 3 (some 18) (bT 11 5) hHeld ?_
     refine takeZ16 HT_ HW_ 5 (some 20) (bT 11 6) hHeld ?_; refine join_ (σ := Nat) 1 (bT 11 10) (fun s_ => [(21, .int .i64 t149), (6, .pointer (some ⟨s_, 0, none⟩)), (22, .pointer (some (ad150.add ((t149).toNat * 9)))), (23, .agg #[.string ((rd_T91 l0_1 t149).f0), .int .i64 ((rd_T91 l0_1 t149).f1), .int .i64 ((rd_T91 l0_1 t149).f2), .int .i64 ((rd_T91 l0_1 t149).f3), .int .i64 ((rd_T91 l0_1 t149).f4), .int .i64 ((rd_T91 l0_1 t149).f5), .int .i64 ((rd_T91 l0_1 t149).f6), .int .i64 ((rd_T91 l0_1 t149).f7), .int .i64 ((rd_T91 l0_1 t149).f8)])]) (fun s_ w' => (w'.cell? ⟨gb146, 0, none⟩ = some (.slice A0_0 l0_0.length c0_0) ∧ w'.cell? ⟨gb146, 1, none⟩ = some (.slice (some ad150) l0_1.length c0_1) ∧ w'.cell? ⟨gb146, 2, none⟩ = some (.slice (some ad147) l0_2.length c0_2) ∧ w'.cell? ⟨gb148, 0, none⟩ = some (.int .i64 ((rd_T80 l0_2 a1).f0)) ∧ w'.cell? ⟨gb148, 1, none⟩ = some (.int .i64 ((rd_T80 l0_2 a1).f1)) ∧ w'.cell? ⟨gb148, 2, none⟩ = some (.string ((rd_T80 l0_2 a1).f2)) ∧ w'.cell? ⟨gb148, 3, none⟩ = some (.int .i64 ((rd_T80 l0_2 a1).f3)) ∧ w'.cell? (ad150.add ((t149).toNat * 9)) = some (.string ((rd_T91 l0_1 t149).f0)) ∧ w'.cell? ⟨(ad150.add ((t149).toNat * 9)).block, (ad150.add ((t149).toNat * 9)).off + 1, none⟩ = some (.int .i64 ((rd_T91 l0_1 t149).f1)) ∧ w'.cell? ⟨(ad150.add ((t149).toNat * 9)).block, (ad150.add ((t149).toNat * 9)).off + 2, none⟩ = some (.int .i64 ((rd_T91 l0_1 t149).f2)) ∧ w'.cell? ⟨(ad150.add ((t149).toNat * 9)).block, (ad150.add ((t149).toNat * 9)).off + 3, none⟩ = some (.int .i64 ((rd_T91 l0_1 t149).f3)) ∧ w'.cell? ⟨(ad150.add ((t149).toNat * 9)).block, (ad150.add ((t149).toNat * 9)).off + 4, none⟩ = some (.int .i64 ((rd_T91 l0_1 t149).f4)) ∧ w'.cell? ⟨(ad150.add ((t149).toNat * 9)).block, (ad150.add ((t149).toNat * 9)).off + 5, none⟩ = some (.int .i64 ((rd_T91 l0_1 t149).f5)) ∧ w'.cell? ⟨(ad150.add ((t149).toNat * 9)).block, (ad150.add ((t149).toNat * 9)).off + 6, none⟩ = some (.int .i64 ((rd_T91 l0_1 t149).f6)) ∧ w'.cell? ⟨(ad150.add ((t149).toNat * 9)).block, (ad150.add ((t149).toNat * 9)).off + 7, none⟩ = some (.int .i64 ((rd_T91 l0_1 t149).f7)) ∧ w'.cell? ⟨(ad150.add ((t149).toNat * 9)).block, (ad150.add ((t149).toNat * 9)).off + 8, none⟩ = some (.int .i64 ((rd_T91 l0_1 t149).f8))) ∧ (w'.heap[gb146]? = some (.cells #[.slice A0_0 l0_0.length c0_0, .slice (some ad150) l0_1.length c0_1, .slice (some ad147) l0_2.length c0_2] 35 (0, 0))) ∧ (w'.heap[gb148]? = some (.cells #[.int .i64 ((rd_T80 l0_2 a1).f0), .int .i64 ((rd_T80 l0_2 a1).f1), .string ((rd_T80 l0_2 a1).f2), .int .i64 ((rd_T80 l0_2 a1).f3)] 80 (0, 0))) ∧ (w'.heap[s_]? = some (.cells #[.string (⟨#[]⟩ : ByteArray), .int .i64 0, .int .i64 0, .int .i64 0, .int .i64 0, .int .i64 0, .int .i64 0, .int .i64 0, .int .i64 0] 91 (0, 0))) ∧ (w.heap.size ≤ s_) ∧ (w.heap.size ≤ s_) ∧ (gb146 ≠ s_) ∧ (s_ ≠ gb146) ∧ (gb148 ≠ s_) ∧ (s_ ≠ gb148) ∧ (Below w.heap.size w w')) ?_ ?_; rotate_left
     ·intro hCont
      refine two_ (i := 6) (j := 9) (Ni := some 21) (Nj := some 6) (bT 11 7) (bB 11 575) rfl rfl rfl rfl (two_of HT_.out Zi) (by decide) (by decide) (fun K hK => ?_) (fun K hK => ?_)
      ·skip
       refine goes_ Try.func52 Zi rfl #[.slice (some ad150) l0_1.length c0_1, .string ((rd_T80 l0_2 a1).f2)] (by rfl) rfl rfl Zj ?_
       with_reducible refine (spec_l03Find.calls k _ _ l0_1 ((rd_T80 l0_2 a1).f2) t149 _ ?side1 ?side2 A5.out).mono ?_
       (case side1 => exact (Zl HR0_1))
       (case side2 => exact HC0_1.out)
       rintro e w' ⟨rfl, ⟨nd, rfl⟩⟩; refine ⟨_, rfl, ?_⟩; refine hK.out _ _ (Zs BK146 BK148 hw150_0 hw150_1 hw150_2 hw150_3 hw150_4 hw150_5 hw150_6 hw150_7 hw150_8) (fun hHeld => ?_); clear hK K; refine normZ 21 ?_; refine pureZ HT_ 7 (some 22) (bT 11 8) ?_; refine takeZ16 HT_ HW_ 8 (some 23) (bT 11 9) hHeld ?_; refine one_ (i := 9) (N := some 6) (bT 11 10) rfl rfl (one_of HT_.out Zi) (by decide) (fun K hK => ?_); refine box_step ?hg (N := 6) ?hd (cs := #[.string (⟨#[]⟩ : ByteArray), .int .i64 0, .int .i64 0, .int .i64 0, .int .i64 0, .int .i64 0, .int .i64 0, .int .i64 0, .int .i64 0]) (t := 91) ?hr ?_; (case hd => rfl); (case hg => rfl); (case hr => first | (go_simp; done) | (go_simp; rfl)); intro gb151 hg w15 hbox hb; replace BK151 := am_ (hbox); replace GW151 := am_ (((Zt GE146 GE148) : w.heap.size ≤ gb151)); replace GE151 := GW151; replace HB := (bsZ (Zn GE146 GE148) hb); replace NB146_151 := am_ ((by rw [hg]; exact Nat.ne_of_lt (blk_lt (g := gb146) (b0Z BK146)) : gb146 ≠ gb151)); replace NB151_146 := am_ ((by rw [hg]; exact Nat.ne_of_gt (blk_lt (g := gb146) (b0Z BK146)) : gb151 ≠ gb146)); replace BK146 := (bkZ BK146 hb); replace NB148_151 := am_ ((by rw [hg]; exact Nat.ne_of_lt (blk_lt (g := gb148) (b0Z BK148)) : gb148 ≠ gb151)); replace NB151_148 := am_ ((by rw [hg]; exact Nat.ne_of_gt (blk_lt (g := gb148) (b0Z BK148)) : gb151 ≠ gb148)); replace BK148 := (bkZ BK148 hb); clear hb hbox hg; refine hK.out _ _ (Zs BK146 BK148 hw150_0 hw150_1 hw150_2 hw150_3 hw150_4 hw150_5 hw150_6 hw150_7 hw150_8) (fun hHeld => ?_); clear hK K; refine normZ 6 ?_; exact norm_ Zu (hCont (gb151) _ ⟨hHeld, (b0Z BK146), (b0Z BK148), (b0Z BK151), GW151.out, GE151.out, NB146_151.out, NB151_146.out, NB148_151.out, NB151_148.out, (Zv GE146 GE148 GE151)⟩)
      ·skip
       refine box_step ?hg (N := 6) ?hd (cs := #[.string (⟨#[]⟩ : ByteArray), .int .i64 0, .int .i64 0, .int .i64 0, .int .i64 0, .int .i64 0, .int .i64 0, .int .i64 0, .int .i64 0]) (t := 91) ?hr ?_; (case hd => rfl); (case hg => rfl); (case hr => first | (go_simp; done) | (go_simp; rfl)); intro gb151 hg w15 hbox hb; replace BK151 := am_ (hbox); replace GW151 := am_ (((Zt GE146 GE148) : w.heap.size ≤ gb151)); replace GE151 := GW151; replace HB := (bsZ (Zn GE146 GE148) hb); replace NB146_151 := am_ ((by rw [hg]; exact Nat.ne_of_lt (blk_lt (g := gb146) (b0Z BK146)) : gb146 ≠ gb151)); replace NB151_146 := am_ ((by rw [hg]; exact Nat.ne_of_gt (blk_lt (g := gb146) (b0Z BK146)) : gb151 ≠ gb146)); replace BK146 := (bkZ BK146 hb); replace NB148_151 := am_ ((by rw [hg]; exact Nat.ne_of_lt (blk_lt (g := gb148) (b0Z BK148)) : gb148 ≠ gb151)); replace NB151_148 := am_ ((by rw [hg]; exact Nat.ne_of_gt (blk_lt (g := gb148) (b0Z BK148)) : gb151 ≠ gb148)); replace BK148 := (bkZ BK148 hb); clear hb hbox hg; refine hK.out _ _ (Zs BK146 BK148 hw150_0 hw150_1 hw150_2 hw150_3 hw150_4 hw150_5 hw150_6 hw150_7 hw150_8) (fun hHeld => ?_); clear hK K; refine normZ 6 ?_; refine one_ (i := 6) (N := some 21) (bB 11 639) rfl rfl (one_of HT_.out Zi) (by decide) (fun K hK => ?_); refine goes_ Try.func52 Zi rfl #[.slice (some ad150) l0_1.length c0_1, .string ((rd_T80 l0_2 a1).f2)] (by rfl) rfl rfl Zj ?_
       with_reducible refine (spec_l03Find.calls k _ _ l0_1 ((rd_T80 l0_2 a1).f2) t149 _ ?side1 ?side2 A5.out).mono ?_
       (case side1 => exact (Zl HR0_1))
       (case side2 => exact HC0_1.out)
       rintro e w' ⟨rfl, ⟨nd, rfl⟩⟩; refine ⟨_, rfl, ?_⟩; refine hK.out _ _ (Zs BK146 BK148 hw150_0 hw150_1 hw150_2 hw150_3 hw150_4 hw150_5 hw150_6 hw150_7 hw150_8) (fun hHeld => ?_); clear hK K; refine normZ 21 ?_; refine pureZ HT_ 7 (some 22) (bB 11 767) ?_; refine takeZ16 HT_ HW_ 8 (some 23) (bT 11 10) hHeld ?_; exact norm_ Zu (hCont (gb151) _ ⟨hHeld, (b0Z BK146), (b0Z BK148), (b0Z BK151), GW151.out, GE151.out, NB146_151.out, NB151_146.out, NB148_151.out, NB151_148.out, (Zv GE146 GE148 GE151)⟩)
     rintro gb151 w16 ⟨hS_, h0_, h1_, h2_, h3_, h4_, h5_, h6_, h7_, h8_, h9_⟩
     (try dsimp only at hS_ h0_ h1_ h2_ h3_ h4_ h5_ h6_ h7_ h8_ h9_)
     replace BK146 := am_ h0_; replace BK148 := am_ h1_; replace BK151 := am_ h2_; replace GW151 := am_ h3_; replace GE151 := am_ h4_; replace NB146_151 := am_ h5_; replace NB151_146 := am_ h6_; replace NB148_151 := am_ h7_; replace NB151_148 := am_ h8_; replace HB := am_ h9_; clear h0_ h1_ h2_ h3_ h4_ h5_ h6_ h7_ h8_ h9_; have hHeld := hS_; refine normP ?_; refine one_ (i := 10) (N := none) (bT 11 11) rfl rfl (one_of HT_.out Zi) (by decide) (fun K hK => ?_); have hs17 : w16.cell? ⟨gb151, 0, none⟩ = some (.string (⟨#[]⟩ : ByteArray)) := (blk_cell BK151.out 0).trans rfl; have hfs17 := blk_frozen BK151.out 0; have hns17_0 := NB146_151.out; have hns17_1 := NB148_151.out; have hms17_0 := NB151_146.out; have hms17_1 := NB151_148.out; have hs18 : w16.cell? ⟨gb151, 1, none⟩ = some (.int .i64 0) := (blk_cell BK151.out 1).trans rfl; have hfs18 := blk_frozen BK151.out 1; have hns18_0 := NB146_151.out; have hns18_1 := NB148_151.out; have hms18_0 := NB151_146.out; have hms18_1 := NB151_148.out; have hs19 : w16.cell? ⟨gb151, 2, none⟩ = some (.int .i64 0) := (blk_cell BK151.out 2).trans rfl; have hfs19 := blk_frozen BK151.out 2; have hns19_0 := NB146_151.out; have hns19_1 := NB148_151.out; have hms19_0 := NB151_146.out; have hms19_1 := NB151_148.out; have hs20 : w16.cell? ⟨gb151, 3, none⟩ = some (.int .i64 0) := (blk_cell BK151.out 3).trans rfl; have hfs20 := blk_frozen BK151.out 3; have hns20_0 := NB146_151.out; have hns20_1 := NB148_151.out; have hms20_0 := NB151_146.out; have hms20_1 := NB151_148.out; have hs21 : w16.cell? ⟨gb151, 4, none⟩ = some (.int .i64 0) := (blk_cell BK151.out 4).trans rfl; have hfs21 := blk_frozen BK151.out 4; have hns21_0 := NB146_151.out; have hns21_1 := NB148_151.out; have hms21_0 := NB151_146.out; have hms21_1 := NB151_148.out; have hs22 : w16.cell? ⟨gb151, 5, none⟩ = some (.int .i64 0) := (blk_cell BK151.out 5).trans rfl; have hfs22 := blk_frozen BK151.out 5; have hns22_0 := NB146_151.out; have hns22_1 := NB148_151.out; have hms22_0 := NB151_146.out; have hms22_1 := NB151_148.out; have hs23 : w16.cell? ⟨gb151, 6, none⟩ = some (.int .i64 0) := (blk_cell BK151.out 6).trans rfl; have hfs23 := blk_frozen BK151.out 6; have hns23_0 := NB146_151.out; have hns23_1 := NB148_151.out; have hms23_0 := NB151_146.out; have hms23_1 := NB151_148.out; have hs24 : w16.cell? ⟨gb151, 7, none⟩ = some (.int .i64 0) := (blk_cell BK151.out 7).trans rfl; have hfs24 := blk_frozen BK151.out 7; have hns24_0 := NB146_151.out; have hns24_1 := NB148_151.out; have hms24_0 := NB151_146.out; have hms24_1 := NB151_148.out; have hs25 : w16.cell? ⟨gb151, 8, none⟩ = some (.int .i64 0) := (blk_cell BK151.out 8).trans rfl; have hfs25 := blk_frozen BK151.out 8; have hns25_0 := NB146_151.out; have hns25_1 := NB148_151.out; have hms25_0 := NB151_146.out; have hms25_1 := NB151_148.out; refine skip_ (w1 := ?_) (by rfl) rfl ?_ ?_; rotate_left
     ·go_simp
      rfl
     refine hK.out _ _ ⟨(cg1 (hHeld.1) NB146_151), (cg1 (hHeld.2.1) NB146_151), (cg1 (hHeld.2.2.1) NB146_151), (cg1 (hHeld.2.2.2.1) NB148_151), (cg1 (hHeld.2.2.2.2.1) NB148_151), (cg1 (hHeld.2.2.2.2.2.1) NB148_151), (cg1 (hHeld.2.2.2.2.2.2.1) NB148_151), (cfZ gb151 (hHeld.2.2.2.2.2.2.2.1) (Zw hw150_0 GW151)), (cfZ gb151 (hHeld.2.2.2.2.2.2.2.2.1) (Zw hw150_1 GW151)), (cfZ gb151 (hHeld.2.2.2.2.2.2.2.2.2.1) (Zw hw150_2 GW151)), (cfZ gb151 (hHeld.2.2.2.2.2.2.2.2.2.2.1) (Zw hw150_3 GW151)), (cfZ gb151 (hHeld.2.2.2.2.2.2.2.2.2.2.2.1) (Zw hw150_4 GW151)), (cfZ gb151 (hHeld.2.2.2.2.2.2.2.2.2.2.2.2.1) (Zw hw150_5 GW151)), (cfZ gb151 (hHeld.2.2.2.2.2.2.2.2.2.2.2.2.2.1) (Zw hw150_6 GW151)), (cfZ gb151 (hHeld.2.2.2.2.2.2.2.2.2.2.2.2.2.2.1) (Zw hw150_7 GW151)), (cfZ gb151 (hHeld.2.2.2.2.2.2.2.2.2.2.2.2.2.2.2) (Zw hw150_8 GW151))⟩ (fun hHeld => ?_); clear hK K; refine done_ (done_of HT_.out Zi) ?_
     try go_wp2_with (first | ((with_reducible refine gate_dst (N := 24) rfl ?_); refine Kd.S_lit (Kd.slice 2 (Kd.int .i64)) _ 47 ?hg (N := 24) ?hd (xs := ([] : List (List Int))) (inner := []) (ok := fun _ => True) (okp := fun _ => True) ?hr ?hp (fun _ hk => hk) trivial (Below.refl _ _) (Nat.le_refl _) (by simp) ?_; (case hd => rfl); (case hg => rfl); (case hr => first | (go_simp; done) | (go_simp; rfl)); (case hp => exact (Reps.none _ _)); intro v153 w26 ho27 hb hg_ hnew_; clear hg_ hnew_; (first | rw [← Ny152.out] at ho27 | (simp only [Int.reduceToNat] at ho27; rw [← Ny152.out] at ho27)); replace HO154 := am_ (Kd.S_lower ho27 (below_size (Zv GE146 GE148 GE151))); replace BK146 := am_ (blk_below (g := gb146) (bfZ BK146 NB146_151) hb); replace BK148 := am_ (blk_below (g := gb148) (bfZ BK148 NB148_151) hb); replace BK151 := am_ (blk_below (g := gb151) (o := .cells #[.string ((rd_T91 l0_1 t149).f0), .int .i64 ((rd_T91 l0_1 t149).f1), .int .i64 ((rd_T91 l0_1 t149).f2), .int .i64 ((rd_T91 l0_1 t149).f3), .int .i64 ((rd_T91 l0_1 t149).f4), .int .i64 ((rd_T91 l0_1 t149).f5), .int .i64 ((rd_T91 l0_1 t149).f6), .int .i64 ((rd_T91 l0_1 t149).f7), .int .i64 ((rd_T91 l0_1 t149).f8)] 91 (0, 0)) (bpZ BK151) hb); replace HB := (bsZ (Zv GE146 GE148 GE151) hb); clear hb ho27))
     go_loopg [7, 8] k (fun kq v7 v8 w' => ∃ (x7_1 : List (List Int)) (x8_1 : Int), v8 = .int .i64 x8_1 ∧ Aside0 (spec_l09Cue.l0 kq a1 x7_1 x8_1 l0_0 l0_1 l0_2 ((rd_T80 l0_2 a1).f0) ((rd_T80 l0_2 a1).f1) ((rd_T80 l0_2 a1).f2) ((rd_T80 l0_2 a1).f3) ((rd_T91 l0_1 t149).f0) ((rd_T91 l0_1 t149).f1) ((rd_T91 l0_1 t149).f2) ((rd_T91 l0_1 t149).f3) ((rd_T91 l0_1 t149).f4) ((rd_T91 l0_1 t149).f5) ((rd_T91 l0_1 t149).f6) ((rd_T91 l0_1 t149).f7) ((rd_T91 l0_1 t149).f8) = some r) ∧ Aside0 (kq ≤ k) ∧ Aside0 (Kd.S (Kd.slice 2 (Kd.int .i64)) 47 w' w.heap.size (fun _ => True) v7 x7_1) ∧ Aside0 (w'.heap[gb146]? = some (.cells #[(.slice A0_0 l0_0.length c0_0), (.slice (some ad150) l0_1.length c0_1), (.slice (some ad147) l0_2.length c0_2)] 35 (0, 0))) ∧ Aside0 (w'.heap[gb148]? = some (.cells #[.int .i64 ((rd_T80 l0_2 a1).f0), .int .i64 ((rd_T80 l0_2 a1).f1), .string ((rd_T80 l0_2 a1).f2), .int .i64 ((rd_T80 l0_2 a1).f3)] 80 (0, 0))) ∧ Aside0 (w'.heap[gb151]? = some (.cells #[.string ((rd_T91 l0_1 t149).f0), .int .i64 ((rd_T91 l0_1 t149).f1), .int .i64 ((rd_T91 l0_1 t149).f2), .int .i64 ((rd_T91 l0_1 t149).f3), .int .i64 ((rd_T91 l0_1 t149).f4), .int .i64 ((rd_T91 l0_1 t149).f5), .int .i64 ((rd_T91 l0_1 t149).f6), .int .i64 ((rd_T91 l0_1 t149).f7), .int .i64 ((rd_T91 l0_1 t149).f8)] 91 (0, 0))) ∧ Aside0 (Below w.heap.size w w'))
     case atStart => exact ⟨(y152), (0), Za, H', ⟨Nat.le_refl _⟩, ⟨(Zx HO154)⟩, ⟨(Zq BK146)⟩, ⟨(Zq BK148)⟩, ⟨(Zq BK151)⟩, ⟨(Zv GE146 GE148 GE151)⟩⟩
     case round =>
      clear H'
      try clear c1
      try clear p1
      try clear q1
      try clear hx1
      try clear p2
      try clear c3
      try clear c3b0
      try clear c4
      try clear c4b0
      try clear c5
      try clear c6
      try clear c6b0
      try clear c7
      try clear c7b0
      try clear c11
      try clear p14
      try clear q14
      try clear hx14
      try clear p15
      try clear q15
      try clear hx15
      try clear hx147_0
      try clear hx147_1
      try clear hx147_2
      try clear hx147_3
      try clear hx150_0
      try clear hx150_1
      try clear hx150_2
      try clear hx150_3
      try clear hx150_4
      try clear hx150_5
      try clear hx150_6
      try clear hx150_7
      try clear hx150_8
      try clear p147
      try clear p150
      try clear q147
      try clear q150
      obtain ⟨x7_1, x8_1, rfl, HA, HK1, HO_7, BK146, BK148, BK151, HB⟩ := hrel
      cases gk with
      | zero => exact absurd HA.out (by simp [spec_l09Cue.l0])
      | succ k1 =>
       have H := HA.out; clear HA; simp only [spec_l09Cue.l0] at H
       by_cases c28 : x8_1 < ((rd_T91 l0_1 t149).f5)
       ·rw [if_pos c28] at H
        have c28b0 := decide_eq_true c28; clear c28; obtain ⟨t155, A29, H⟩ := bE_ H; obtain ⟨t156, A30, H⟩ := bE_ H
        by_cases c31 : 0 < (t156.length : Int)
        ·rw [if_pos c31] at H
         have c31b0 := decide_eq_true c31; have c31b1 : decide (0 < t156.length) = true := decide_eq_true (by omega); clear c31
         by_cases c32 : 1 < (t156.length : Int)
         ·rw [if_pos c32] at H
          have c32b0 := decide_eq_true c32; have c32b1 : decide (1 < t156.length) = true := decide_eq_true (by omega); clear c32; obtain ⟨y161, hy161⟩ : ∃ y_ : List Int, y_ = (([rd t156 0, rd t156 1, a1] : List Int)) := ⟨_, rfl⟩
          (first | (rw [← hy161] at H; with_reducible replace H := bindZ H) | rw [← hy161] at H | skip)
          have Ny161 := am_ hy161; clear hy161
          by_cases c33 : x7_1.length < 5864062014805
          ·rw [if_pos c33] at H
           have LMc33 := am_ c33; clear c33; obtain ⟨y164, hy164⟩ : ∃ y_ : List (List Int), y_ = (x7_1 ++ [y161]) := ⟨_, rfl⟩
           (first | (rw [← hy164] at H; with_reducible replace H := bindZ H) | rw [← hy164] at H | skip)
           have Ny164 := am_ hy164; clear hy164; have H' := am_ H; clear H; have hnb34 := NB151_146.out; have hnc34 := NB146_151.out; have hnb35 := NB151_148.out; have hnc35 := NB148_151.out; refine ci9 BK151 ?_; intros
           try go_wp2
           replace HO_7 := am_ (Kd.S_drew HO_7.out); replace BK146 := am_ (blk_drew BK146.out); replace BK148 := am_ (blk_drew BK148.out); replace BK151 := am_ (blk_drew BK151.out); replace HB := am_ (below_drew1 HB.out); refine start_ (n := 7) (S := fun w' => w'.cell? ⟨gb151, 0, none⟩ = some (.string ((rd_T91 l0_1 t149).f0)) ∧ w'.cell? ⟨gb151, 1, none⟩ = some (.int .i64 ((rd_T91 l0_1 t149).f1)) ∧ w'.cell? ⟨gb151, 2, none⟩ = some (.int .i64 ((rd_T91 l0_1 t149).f2)) ∧ w'.cell? ⟨gb151, 3, none⟩ = some (.int .i64 ((rd_T91 l0_1 t149).f3)) ∧ w'.cell? ⟨gb151, 4, none⟩ = some (.int .i64 ((rd_T91 l0_1 t149).f4)) ∧ w'.cell? ⟨gb151, 5, none⟩ = some (.int .i64 ((rd_T91 l0_1 t149).f5)) ∧ w'.cell? ⟨gb151, 6, none⟩ = some (.int .i64 ((rd_T91 l0_1 t149).f6)) ∧ w'.cell? ⟨gb151, 7, none⟩ = some (.int .i64 ((rd_T91 l0_1 t149).f7)) ∧ w'.cell? ⟨gb151, 8, none⟩ = some (.int .i64 ((rd_T91 l0_1 t149).f8)) ∧ w'.cell? ⟨gb146, 0, none⟩ = some (.slice A0_0 l0_0.length c0_0) ∧ w'.cell? ⟨gb146, 1, none⟩ = some (.slice (some ad150) l0_1.length c0_1) ∧ w'.cell? ⟨gb146, 2, none⟩ = some (.slice (some ad147) l0_2.length c0_2) ∧ w'.cell? ⟨gb148, 0, none⟩ = some (.int .i64 ((rd_T80 l0_2 a1).f0)) ∧ w'.cell? ⟨gb148, 1, none⟩ = some (.int .i64 ((rd_T80 l0_2 a1).f1)) ∧ w'.cell? ⟨gb148, 2, none⟩ = some (.string ((rd_T80 l0_2 a1).f2)) ∧ w'.cell? ⟨gb148, 3, none⟩ = some (.int .i64 ((rd_T80 l0_2 a1).f3))) (ds := []) (bT 7 0) Zi rfl rfl ⟨(blk_cell BK151.out 0).trans rfl, (blk_cell BK151.out 1).trans rfl, (blk_cell BK151.out 2).trans rfl, (blk_cell BK151.out 3).trans rfl, (blk_cell BK151.out 4).trans rfl, (blk_cell BK151.out 5).trans rfl, (blk_cell BK151.out 6).trans rfl, (blk_cell BK151.out 7).trans rfl, (blk_cell BK151.out 8).trans rfl, (blk_cell BK146.out 0).trans rfl, (blk_cell BK146.out 1).trans rfl, (blk_cell BK146.out 2).trans rfl, (blk_cell BK148.out 0).trans rfl, (blk_cell BK148.out 1).trans rfl, (blk_cell BK148.out 2).trans rfl, (blk_cell BK148.out 3).trans rfl⟩ (fun hHeld => ?_); generalize wr.drew = w37 at HO_7 BK146 BK148 BK151 HB hHeld ⊢; refine pure_ (i := 4) (N := some 35) (v := ?_) (a' := ?_) (bB 7 16) rfl rfl Zi (fun _ _ _ h => h) (Or.inl ⟨by rfl, ?_⟩) ?_ ?_; rotate_left
           ·intro w'
            go_simp
            with_reducible rfl
           rotate_left
           ·exact Zput
           refine take_ (i := 0) (N := some 31) (v := ?_) (a' := ?_) (bB 7 17) rfl rfl Zi (fun _ _ _ h => h) (Or.inl ⟨by rfl, ?_⟩) hHeld ?_ ?_; rotate_left
           ·rintro w' ⟨s0, s1, s2, s3, s4, s5, s6, s7, s8, s9, s10, s11, s12, s13, s14, s15⟩
            go_simp
            with_reducible rfl
           rotate_left
           ·exact Zput
           refine take_ (i := 1) (N := some 32) (v := ?_) (a' := ?_) (bB 7 19) rfl rfl Zi (fun _ _ _ h => h) (Or.inl ⟨by rfl, ?_⟩) hHeld ?_ ?_; rotate_left
           ·rintro w' ⟨s0, s1, s2, s3, s4, s5, s6, s7, s8, s9, s10, s11, s12, s13, s14, s15⟩
            go_simp
            with_reducible rfl
           rotate_left
           ·exact Zput
           refine take_ (i := 2) (N := some 33) (v := ?_) (a' := ?_) (bB 7 23) rfl rfl Zi (fun _ _ _ h => h) (Or.inl ⟨by rfl, ?_⟩) hHeld ?_ ?_; rotate_left
           ·rintro w' ⟨s0, s1, s2, s3, s4, s5, s6, s7, s8, s9, s10, s11, s12, s13, s14, s15⟩
            go_simp
            with_reducible rfl
           rotate_left
           ·exact Zput
           refine one_ (i := 3) (N := some 34) (bT 7 5) rfl rfl Zi (by decide) (fun K hK => ?_); refine goes_ Try.func53 Zi rfl #[.agg #[.slice A0_0 l0_0.length c0_0, .slice (some ad150) l0_1.length c0_1, .slice (some ad147) l0_2.length c0_2], .agg #[.int .i64 ((rd_T80 l0_2 a1).f0), .int .i64 ((rd_T80 l0_2 a1).f1), .string ((rd_T80 l0_2 a1).f2), .int .i64 ((rd_T80 l0_2 a1).f3)]] (by rfl) rfl rfl Zj ?_
           with_reducible refine (spec_l08Time.calls k1 _ _ l0_0 _ _ l0_1 _ _ l0_2 ((rd_T80 l0_2 a1).f0) ((rd_T80 l0_2 a1).f1) ((rd_T80 l0_2 a1).f2) ((rd_T80 l0_2 a1).f3) t155 _ ?side1 ?side2 ?side3 ?side4 ?side5 ?side6 A29.out).mono ?_
           (case side1 => exact (Zl HR0_0))
           (case side2 => exact HC0_0.out)
           (case side3 => exact (Zl HR0_1))
           (case side4 => exact HC0_1.out)
           (case side5 => exact (Zl HR0_2))
           (case side6 => exact HC0_2.out)
           rintro e w38 ⟨rfl, hb⟩; refine ⟨_, rfl, ?_⟩; replace HO_7 := am_ (Kd.S_below (Zx HO_7) hb); replace BK146 := (bkZ BK146 hb); replace BK148 := (bkZ BK148 hb); replace BK151 := (bkZ BK151 hb); replace HB := (bsZ (Zv GE146 GE148 GE151) hb)
           (try clear hb)
           (try clear hb2)
           (try clear hk)
           (try clear hi)
           refine hK.out _ _ (Zy BK151 BK146 BK148) (fun hHeld => ?_); clear hK K; refine normZ 34 ?_; refine one_ (i := 5) (N := some 36) (bT 7 6) rfl rfl Zi (by decide) (fun K hK => ?_); refine goes_ Try.func75 Zi rfl #[.agg #[.string ((rd_T91 l0_1 t149).f0), .int .i64 ((rd_T91 l0_1 t149).f1), .int .i64 ((rd_T91 l0_1 t149).f2), .int .i64 ((rd_T91 l0_1 t149).f3), .int .i64 ((rd_T91 l0_1 t149).f4), .int .i64 ((rd_T91 l0_1 t149).f5), .int .i64 ((rd_T91 l0_1 t149).f6), .int .i64 ((rd_T91 l0_1 t149).f7), .int .i64 ((rd_T91 l0_1 t149).f8)], .int .i64 t155, .int .i64 x8_1] (by rfl) rfl rfl Zj ?_
           with_reducible refine (spec_l03Window.calls ((rd_T91 l0_1 t149).f0) ((rd_T91 l0_1 t149).f1) ((rd_T91 l0_1 t149).f2) ((rd_T91 l0_1 t149).f3) ((rd_T91 l0_1 t149).f4) ((rd_T91 l0_1 t149).f5) ((rd_T91 l0_1 t149).f6) ((rd_T91 l0_1 t149).f7) ((rd_T91 l0_1 t149).f8) t155 x8_1 t156 _ A30.out).mono ?_
           rintro e w39 ⟨v157, rfl, ho0, hb⟩; refine ⟨_, rfl, ?_⟩; replace HO_7 := am_ (Kd.S_elder' (Zx HO_7) (Kd.R_base ho0) hb); replace HO158 := am_ (Kd.R_lower ho0 (below_size (Zv GE146 GE148 GE151))); replace BK146 := (bkZ BK146 hb); replace BK148 := (bkZ BK148 hb); replace BK151 := (bkZ BK151 hb); replace HB := (bsZ (Zv GE146 GE148 GE151) hb)
           (try clear hb)
           (try clear hb2)
           (try clear hk)
           (try clear hi)
           (try clear ho0)
           refine hK.out _ _ (Zy BK151 BK146 BK148) (fun hHeld => ?_); clear hK K; refine normZ 36 ?_; refine pure_ (i := 6) (N := some 9) (v := ?_) (a' := ?_) (bT 7 7) rfl rfl Zi (fun _ _ _ h => h) (Or.inl ⟨by rfl, ?_⟩) ?_ ?_; rotate_left
           ·intro w'
            go_simp
            with_reducible rfl
           rotate_left
           ·exact Zput
           refine done_ Zi ?_
           try go_wp2
           replace HO_7 := am_ (Kd.S_drew HO_7.out); replace HO158 := am_ (Kd.R_drew HO158.out); replace BK146 := am_ (blk_drew BK146.out); replace BK148 := am_ (blk_drew BK148.out); replace BK151 := am_ (blk_drew BK151.out); replace HB := am_ (below_drew1 HB.out); obtain ⟨Ao41, co41, eo41⟩ := Kd.R_slice HO158.out
           (first | subst eo41 | (injection eo41 with f1_ f2_ f3_; have f4_ := f1_.symm; have f5_ := f3_.symm; clear f1_ f2_ f3_; subst f4_; subst f5_))
           have p159 : 0 ≤ (0 : Int) := (by omega); have q159 : 0 < (t156.length : Int) := of_decide_eq_true Zc; obtain ⟨ad159, e159, hx159_0⟩ := Kd.at_int (Kd.R_reads' HO158.out).2.2 0 p159 q159
           cases e159
           have qi159 : (0 < t156.length) = True := eq_true (by omega)
           (try rw [show ((0 : Int)).toNat = 0 from rfl] at hx159_0)
           (try rw [Addr.add_zero'] at hx159_0)
           replace p159 := eq_true p159; replace q159 := eq_true q159; have p160 : 0 ≤ (1 : Int) := (by omega); have q160 : 1 < (t156.length : Int) := of_decide_eq_true Zc; obtain ⟨ad160, e160, hx160_0⟩ := Kd.at_int (Kd.R_reads' HO158.out).2.2 1 p160 q160; obtain rfl : ad159 = ad160 := (by injection e160)
           (try simp only [show (1 : Int).toNat = 1 from rfl, Nat.reduceMul, Nat.reduceEqDiff, Go.Addr.add, ↓reduceIte] at hx160_0)
           have qi160 : (1 < t156.length) = True := eq_true (by omega)
           (try rw [show ((1 : Int)).toNat = 1 from rfl] at hx160_0)
           replace p160 := eq_true p160; replace q160 := eq_true q160; refine start_ (n := 12) (S := fun w' => w'.cell? ad159 = some (.int .i64 (rd t156 0)) ∧ w'.cell? ⟨ad159.block, ad159.off + 1, none⟩ = some (.int .i64 (rd t156 1))) (ds := [9, 10]) (bT 12 0) Zi rfl rfl ⟨hx159_0, hx160_0⟩ (fun hHeld => ?_); refine with_tabW spec_l09Cue.tab8 spec_l09Cue.bits8 (fun HT_ HW_ => ?_); generalize w39.drew = w40 at HO_7 HO158 BK146 BK148 BK151 HB hx159_0 hx160_0 hHeld ⊢; refine pureZ HT_ 0 (some 37) (bT 12 1) ?_; refine pureZ HT_ 1 (some 38) (bT 12 2) ?_; refine pureZ HT_ 2 (some 39) (bT 12 3) ?_; refine pureZ HT_ 4 (some 41) (bB 12 23) ?_; refine pureZ HT_ 5 (some 42) (bB 12 55) ?_; refine pureZ HT_ 7 (some 44) (bB 12 183) ?_; refine takeZ2 HT_ HW_ 3 (some 40) (bB 12 191) hHeld ?_; refine takeZ2 HT_ HW_ 6 (some 43) (bT 12 8) hHeld ?_; refine one_ (i := 8) (N := some 45) (bT 12 9) rfl rfl (one_of HT_.out Zi) (by decide) (fun K hK => ?_); refine Kd.R_lit_step (Kd.int .i64) _ 2 ?hg (N := 45) ?hd (xs := ([rd t156 0, rd t156 1, a1] : List Int)) (inner := [.int .i64 (rd t156 0), .int .i64 (rd t156 1), .int .i64 a1]) (ok := fun _ => True) (okp := fun _ => True) ?hr ?hp (fun _ hk => hk) trivial (Below.refl _ _) (Nat.le_refl _) (by simp) ?_; (case hd => rfl); (case hg => rfl); (case hr => first | (go_simp; done) | (go_simp; rfl)); (case hp => exact (Reps.one (show Kd.M (Kd.int .i64) _ _ _ (rd t156 0) [.int .i64 (rd t156 0)] from rfl) (Reps.one (show Kd.M (Kd.int .i64) _ _ _ (rd t156 1) [.int .i64 (rd t156 1)] from rfl) (Reps.one (show Kd.M (Kd.int .i64) _ _ _ a1 [.int .i64 a1] from rfl) (Reps.none _ _))))); intro v162 w42 ho43 hb hg_ hnew_; have HS0_ := (hb.cell (World.block_lt_of_cell? _ _ (hHeld.1))).trans (hHeld.1); have HS1_ := (hb.cell (World.block_lt_of_cell? _ _ (hHeld.2))).trans (hHeld.2); clear hg_ hnew_
           (first | rw [← Ny161.out] at ho43 | (simp only [Int.reduceToNat] at ho43; rw [← Ny161.out] at ho43))
           replace HO_7 := am_ (Kd.S_elder' (Zx HO_7) (Kd.R_base ho43) hb); replace HO163 := am_ (Kd.R_lower (Kd.R_new' ho43 (Kd.R_lt (Zr HO158))) (below_size (Zv GE146 GE148 GE151))); replace HO158 := am_ (Kd.R_elder' (Zr HO158) (Kd.R_base ho43) hb); replace BK146 := (bkZ BK146 hb); replace BK148 := (bkZ BK148 hb); replace BK151 := (bkZ BK151 hb); replace HB := (bsZ (Zv GE146 GE148 GE151) hb); clear hb ho43; obtain ⟨Ao45, co45, eo45⟩ := Kd.R_slice HO163.out
           (first | subst eo45 | (injection eo45 with f1_ f2_ f3_; have f4_ := f1_.symm; have f5_ := f3_.symm; clear f1_ f2_ f3_; subst f4_; subst f5_))
           refine hK.out _ _ ⟨HS0_, HS1_⟩ (fun hHeld => ?_); clear hK K; refine normZ 45 ?_; refine last_ (i := 9) (N := some 46) (bT 12 10) rfl rfl (one_of HT_.out Zi) (by decide) (fun K hK => ?_); refine value_ (w1 := ?_) (v := ?_) (by rfl) rfl ?_ ?_; rotate_left 2
           ·go_simp
            constructor
            ·rfl
            ·rfl
           refine hK.out _ _ ?_; clear hK K; refine normZ 46 ?_; refine last_ (i := 10) (N := some 47) (bT 12 11) rfl rfl (one_of HT_.out Zi) (by decide) (fun K hK => ?_); refine Kd.S_append_step (Kd.slice 2 (Kd.int .i64)) (w0 := w) w.heap.size (by rfl) (.tmp 37) (.tmp 46) 28 47 (.slice none 0 0) 24 rfl Try.underlying28 info47 rfl (by decide) (by omega) u7 x7_1 y161 [.slice Ao45 y161.length co45] (fun k_ => some k_ ≠ (.slice (some ad159) t156.length co41 : Value).ownBlock) (fun k_ => some k_ = (.slice Ao45 y161.length co45 : Value).ownBlock) rfl rfl ?aP (fun k_ hk_ => ((Kd.R_mono (ok' := fun k_ => ((fun k_ => some k_ ≠ (.slice (some ad159) t156.length co41 : Value).ownBlock)) k_ ∧ some k_ ≠ (u7 : Value).ownBlock) (Kd.R_apart' (HO163.out) (Kd.S_typed HO_7.out) (by decide)) (fun k_ hk => ⟨hk.1.2, hk.2⟩))).1 k_ hk_.symm) ?aF ?aO ?aB ?aS ?aL ?_
           (case aP => exact Kd.M_row (Kd.R_mono (Kd.R_tight rfl (Kd.R_mono (ok' := fun k_ => ((fun k_ => some k_ ≠ (.slice (some ad159) t156.length co41 : Value).ownBlock)) k_ ∧ some k_ ≠ (u7 : Value).ownBlock) (Kd.R_apart' (HO163.out) (Kd.S_typed HO_7.out) (by decide)) (fun k_ hk => ⟨hk.1.2, hk.2⟩))) (fun _ h_ => h_)))
           (case aB => exact (Zv GE146 GE148 GE151))
           (case aF => exact (fun k_ hk => Kd.fresh' (Kd.R_lt (Zr HO158)) k_ hk))
           (case aO => exact (by (with_reducible repeat (first | apply Kd.S_alloc | apply Kd.S_drewN | apply Kd.S_drew)); exact Kd.S_mono HO_7.out (fun k_ hk => ⟨hk.1.2, fun e_ => hk.2 e_⟩)))
           (case aS => exact (below_size (Zv GE146 GE148 GE151)))
           (case aL => have := LMc33.out; omega)
           intro v165 w44 ho hb hg hat; rw [← Ny164.out] at ho; replace BK146 := am_ (blk_grown (g := gb146) (b0Z BK146) hg (Kd.S_ne HO_7.out BK146.out (by decide))); replace BK148 := am_ (blk_grown (g := gb148) (b0Z BK148) hg (Kd.S_ne HO_7.out BK148.out (by decide))); replace BK151 := am_ (blk_grown (g := gb151) (b0Z BK151) hg (Kd.S_ne HO_7.out BK151.out (by decide))); replace HO158 := am_ (Kd.R_over' (Zr HO158) (Kd.S_typed (Zx HO_7)) (by decide) hg); replace HB := am_ (hb); replace HO166 := am_ (ho); clear HO_7 HO163; clear ho hb hg hat; refine hK.out _ _ ?_; clear hK K; refine normZ 47 ?_; refine pureZ HT_ 11 (some 7) (bT 12 12) ?_; refine done_ (done_of HT_.out Zi) ?_
           try go_wp2
           go_roundg k1
           case measure => have := HK1.out; omega
           case rel => exact ⟨(y164), (wrap64 (x8_1 + 1)), Za, H', ⟨Zd⟩, ⟨(Zz HO166)⟩, ⟨(Zq BK146)⟩, ⟨(Zq BK148)⟩, ⟨(Zq BK151)⟩, ⟨(Zv GE146 GE148 GE151)⟩⟩
          ·exact nN c33 H
         ·exact nN c32 H
        ·exact nN c31 H
       ·rw [if_neg c28] at H
        have c28b0 := decide_eq_false c28; clear c28; obtain rfl := Option.some.inj H; have hnb46 := NB151_146.out; have hnc46 := NB146_151.out; have hnb47 := NB151_148.out; have hnc47 := NB148_151.out; refine ci9 BK151 ?_; intros
        go_wp2
        go_ret
        exact ⟨_, Zg, (Zx HO_7), (Zv GE146 GE148 GE151)⟩
    ·exact nN c7 H
   ·exact nN c6 H
  ·exact nN c4 H
 ·exact nN c3 H
def spec_l09All.l0 : Nat → List (List Int) → Int → List (S87) → List (S91) → List (S80) → Option ((List (List Int)))
 | 0, _, _, _, _, _ => none
 | k + 1, x3, x4, x168000, x168001, x168002 => if x4 < (x168002.length : Int) then ((spec_l09Cue.f k x168000 x168001 x168002 x4).bind fun t171 => (if x3.length + t171.length < 5864062014805 then (spec_l09All.l0 k (x3 ++ t171) (wrap64 (x4 + 1)) x168000 x168001 x168002) else (none))) else (some x3)
def spec_l09All.f (k : Nat) (l0_0 : List (S87)) (l0_1 : List (S91)) (l0_2 : List (S80)) : Option ((List (List Int))) := spec_l09All.l0 k (([] : List (List Int))) 0 l0_0 l0_1 l0_2
theorem spec_l09All.calls (k : Nat) (A0_0 : Option Addr) (c0_0 : Nat) (l0_0 : List (S87)) (A0_1 : Option Addr) (c0_1 : Nat) (l0_1 : List (S91)) (A0_2 : Option Addr) (c0_2 : Nat) (l0_2 : List (S80)) (r : List (List Int)) (w : World) (hr0_0 : Kd.C k87 w A0_0 l0_0.length l0_0) (hc0_0 : l0_0.length ≤ c0_0) (hr0_1 : Kd.C k91 w A0_1 l0_1.length l0_1) (hc0_1 : l0_1.length ≤ c0_1) (hr0_2 : Kd.C k80 w A0_2 l0_2.length l0_2) (hc0_2 : l0_2.length ≤ c0_2) (h : spec_l09All.f k l0_0 l0_1 l0_2 = some r) :
  Calls Try.prog 25 #[.agg #[.slice A0_0 l0_0.length c0_0, .slice A0_1 l0_1.length c0_1, .slice A0_2 l0_2.length c0_2]] w fun e w' => ∃ v0_ : Value, e = .returned (v0_) ∧ Kd.N (Kd.slice 2 (Kd.int .i64)) 47 w' w.heap.size (fun k_ => (w.heap.size ≤ k_)) v0_ r ∧ Below w.heap.size w w' := by
 have hu35 := Try.underlying35; have HR0_0 := am_ hr0_0; have HC0_0 := am_ hc0_0; clear hr0_0 hc0_0; have HR0_1 := am_ hr0_1; have HC0_1 := am_ hc0_1; clear hr0_1 hc0_1; have HR0_2 := am_ hr0_2; have HC0_2 := am_ hc0_2; clear hr0_2 hc0_2; have HB := am_ (Below.refl w.heap.size w); have H : (spec_l09All.l0 k (([] : List (List Int))) 0 l0_0 l0_1 l0_2) = some r := h; clear h; obtain ⟨y168, hy168⟩ : ∃ y_ : List (List Int), y_ = (([] : List (List Int))) := ⟨_, rfl⟩
 replace H : (spec_l09All.l0 k y168 0 l0_0 l0_1 l0_2) = some r := by (try rw [hy168]); first | with_reducible exact H | with_reducible exact (Option.bind_some _ _).symm.trans H | exact H
 have Ny168 := am_ hy168; clear hy168; have H' := am_ H; clear H
 go_enter Try.func25, Try.ntmps25
 go_wp2_with (first | ((with_reducible refine gate_dst (N := 1) rfl ?_); refine boxZ 1 #[.slice A0_0 l0_0.length c0_0, .slice A0_1 l0_1.length c0_1, .slice A0_2 l0_2.length c0_2] 35 ?_; intro gb167 hg w2 hbox hb; replace BK167 := am_ (hbox); replace GW167 := am_ ((Ze : w.heap.size ≤ gb167)); replace GE167 := GW167; replace HB := (bsZ Zf hb); clear hb hbox hg) | ((with_reducible refine gate_dst (N := 5) rfl ?_); refine Kd.N_lit (Kd.slice 2 (Kd.int .i64)) _ 47 ?hg (N' := 5) ?hd (xs := ([] : List (List Int))) (inner := []) (ok := (fun k_ => (w.heap.size ≤ k_) ∧ k_ ≠ gb167)) (okp := (fun k_ => (w.heap.size ≤ k_) ∧ k_ ≠ gb167)) ?hr ?hp (fun _ hk => hk) ((show ∀ k_, w2.heap.size ≤ k_ → (fun k_ => (w.heap.size ≤ k_) ∧ k_ ≠ gb167) k_ from fun k_ hk => ⟨(Nat.le_trans (below_size (Zh GE167)) hk), Kd.freshB (g := gb167) (b0Z BK167) k_ hk⟩) _ (Nat.le_refl _)) (Below.refl _ _) (Nat.le_refl _) (by simp) ?_; (case hd => rfl); (case hg => rfl); (case hr => first | (go_simp; done) | (go_simp; rfl)); (case hp => exact (Reps.none _ _)); intro v169 w3 ho4 hb hg_ hnew_; clear hg_ hnew_; (first | rw [← Ny168.out] at ho4 | (simp only [Int.reduceToNat] at ho4; rw [← Ny168.out] at ho4)); replace HO170 := am_ (Kd.N_lower ho4 (below_size (Zh GE167))); replace BK167 := (bkZ BK167 hb); replace HB := (bsZ (Zh GE167) hb); clear hb ho4))
 go_loopg [3, 4] k (fun kq v3 v4 w' => ∃ (x3_1 : List (List Int)) (x4_1 : Int), v4 = .int .i64 x4_1 ∧ Aside0 (spec_l09All.l0 kq x3_1 x4_1 l0_0 l0_1 l0_2 = some r) ∧ Aside0 (kq ≤ k) ∧ Aside0 (Kd.N (Kd.slice 2 (Kd.int .i64)) 47 w' w.heap.size (fun k_ => (w.heap.size ≤ k_) ∧ k_ ≠ gb167) v3 x3_1) ∧ Aside0 (w'.heap[gb167]? = some (.cells #[(.slice A0_0 l0_0.length c0_0), (.slice A0_1 l0_1.length c0_1), (.slice A0_2 l0_2.length c0_2)] 35 (0, 0))) ∧ Aside0 (Below w.heap.size w w'))
 case atStart => exact ⟨(y168), (0), Za, H', ⟨Nat.le_refl _⟩, ⟨(Zaa HO170)⟩, ⟨(Zq BK167)⟩, ⟨(Zh GE167)⟩⟩
 case round =>
  clear H'
  try clear c2
  try clear p2
  obtain ⟨x3_1, x4_1, rfl, HA, HK1, HO_3, BK167, HB⟩ := hrel
  cases gk with
  | zero => exact absurd HA.out (by simp [spec_l09All.l0])
  | succ k1 =>
   have H := HA.out; clear HA; simp only [spec_l09All.l0] at H
   by_cases c5 : x4_1 < (l0_2.length : Int)
   ·rw [if_pos c5] at H
    have c5b0 := decide_eq_true c5; clear c5; obtain ⟨t171, A6, H⟩ := bE_ H
    by_cases c7 : x3_1.length + t171.length < 5864062014805
    ·rw [if_pos c7] at H
     have LMc7 := am_ c7; clear c7; obtain ⟨y174, hy174⟩ : ∃ y_ : List (List Int), y_ = (x3_1 ++ t171) := ⟨_, rfl⟩
     (first | (rw [← hy174] at H; with_reducible replace H := bindZ H) | rw [← hy174] at H | skip)
     have Ny174 := am_ hy174; clear hy174; have H' := am_ H; clear H; refine ci3 BK167 ?_; intros
     go_wp2_with (first | ((with_reducible refine gate_callee (f := 54) rfl ?_); refine gZ 16 Try.func54 #[.agg #[.slice A0_0 l0_0.length c0_0, .slice A0_1 l0_1.length c0_1, .slice A0_2 l0_2.length c0_2], .int .i64 x4_1] ?_; (with_reducible refine (spec_l09Cue.calls k1 _ _ l0_0 _ _ l0_1 _ _ l0_2 x4_1 t171 _ ?_ ?_ ?_ ?_ ?_ ?_ A6.out).mono ?_); exact (Zl HR0_0); exact HC0_0.out; exact (Zl HR0_1); exact HC0_1.out; exact (Zl HR0_2); exact HC0_2.out; rintro e w9 ⟨v172, rfl, ho0, hb⟩; refine ⟨_, rfl, ?_⟩; replace HO173 := am_ (Kd.N_lower (Kd.N_mono (ok' := fun k_ => (w.heap.size ≤ k_) ∧ some k_ ≠ (u3 : Value).ownBlock ∧ k_ ≠ gb167) (Kd.S_N (Kd.S_bound ho0)) (fun k_ hk_ => ⟨(Nat.le_trans (below_size (Zh GE167)) hk_.2.1), (Kd.fresh' (Kd.N_lt (Zaa HO_3)) k_ hk_.2.1), (Kd.freshB (g := gb167) (b0Z BK167) k_ hk_.2.1)⟩)) (below_size (Zh GE167))); replace HO_3 := am_ (Kd.N_elder' (Zaa HO_3) (Kd.S_base ho0) hb); replace BK167 := (bkZ BK167 hb); replace HB := (bsZ (Zh GE167) hb); clear hb ho0; obtain ⟨Ao11, co11, eo11⟩ := Kd.N_slice HO173.out; subst eo11) | ((with_reducible refine gate_builtin (b := .append) (xs := #[.tmp 13, .tmp 16]) rfl ?_); at_builtin; refine Kd.N_append_rows (Kd.slice 2 (Kd.int .i64)) (w0 := w) w.heap.size rfl (.tmp 13) (.tmp 16) 28 47 (.slice none 0 0) 24 rfl Try.underlying28 info47 rfl (by decide) (by omega) u3 x3_1 t171 _ _ _ (fun k_ => (w.heap.size ≤ k_) ∧ k_ ≠ gb167) (fun k_ => ((fun k_ => (w.heap.size ≤ k_) ∧ k_ ≠ gb167)) k_ ∧ some k_ ≠ (u3 : Value).ownBlock) rfl rfl ?aO ?aR (fun _ hk => hk) ?aF ?aB ?aS ?aL ?_; (case aR => exact (by skip; exact Kd.N_F (Kd.N_mono (ok' := (fun k_ => ((fun k_ => (w.heap.size ≤ k_) ∧ k_ ≠ gb167)) k_ ∧ some k_ ≠ (u3 : Value).ownBlock)) (HO173.out) (fun k_ hk => ⟨⟨hk.1, hk.2.2⟩, hk.2.1⟩)))); (case aB => exact (Zh GE167)); (case aF => exact (fun k_ hk => ⟨(Nat.le_trans (below_size (Zh GE167)) hk), Kd.freshB (g := gb167) (b0Z BK167) k_ hk⟩)); (case aO => exact (by (with_reducible repeat (first | apply Kd.N_alloc | apply Kd.N_drewN | apply Kd.N_drew)); exact Kd.N_mono HO_3.out (fun _ hk => ⟨hk.1.1, hk.1.2⟩))); (case aS => exact (below_size (Zh GE167))); (case aL => have := LMc7.out; omega); intro v175 w10 ho hb hg hat; rw [← Ny174.out] at ho; replace BK167 := am_ (blk_grown (g := gb167) (b0Z BK167) hg (Kd.N_ne HO_3.out BK167.out (by decide))); replace HO173 := am_ (Kd.N_afterv (ok := (fun k_ => (w.heap.size ≤ k_) ∧ k_ ≠ gb167)) (by (with_reducible repeat (first | apply Kd.N_alloc | apply Kd.N_drewN | apply Kd.N_drew)); exact Kd.N_mono HO173.out (fun _ hk => ⟨⟨hk.1, hk.2.2⟩, hk.2.1⟩)) hg hat); replace HB := am_ (hb); replace HO176 := am_ (ho); clear HO_3; clear ho hb hg hat))
     go_roundg k1
     case measure => have := HK1.out; omega
     case rel => exact ⟨(y174), (wrap64 (x4_1 + 1)), Za, H', ⟨Zd⟩, ⟨(Zaa HO176)⟩, ⟨(Zq BK167)⟩, ⟨(Zh GE167)⟩⟩
    ·exact nN c7 H
   ·rw [if_neg c5] at H
    have c5b0 := decide_eq_false c5; clear c5; obtain rfl := Option.some.inj H; refine ci3 BK167 ?_; intros
    go_wp2
    go_ret
    exact ⟨_, Zg, (Zab HO_3), (Zh GE167)⟩
end Go.Proofs.Ytnifblnlpepehaa.F
