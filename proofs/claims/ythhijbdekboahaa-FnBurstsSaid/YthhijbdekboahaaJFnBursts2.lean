import Derived.Test.YthhijbdekboahaaJFnBursts1
import Derived.Below
import Derived.Deep.Draws
import Derived.Deep.AppendLies
import Derived.Maps.AppendAt
import Derived.OwnWalk
import Derived.Laws.BytesArg
import Derived.Laws.MakeOwn
import Derived.Laws.OwnMore
import Derived.Tactics
import Derived.Lib.ConvBytes
import Derived.Laws.Slices
import Derived.WalkKit
import Derived.KernelRfl
import Derived.RowKit3
import Derived.Deep.LoopGhost
import Derived.Deep.QuietTactic
import Derived.BigQuiet
import Derived.WideLaws
import Derived.Deep.DeepCutAuto
import Derived.Deep.CutBlock
import Derived.Deep.RegionHeld3
import Derived.Lib.AppendStr
import Derived.ArgAppend
import Derived.Laws.IdiomCopy
import Derived.RowKit
import Derived.OrdersHeld
import Derived.Laws.BitsLemmas
import Derived.Laws.StructEq
import Derived.Test.YthhijbdekboahaaProg
import Derived.Laws.Cover1
namespace Go.Proofs.Ythhijbdekboahaa.F
open Go.RowKit Go.Proofs.YthhijbdekboahaaW.PrintWords Go.Proofs.YthhijbdekboahaaW.PrintLast Go.Proofs.YthhijbdekboahaaW.PrintMore
attribute [local go_sem] max2_int min2_int max_two min_two max_three min_three max_four min_four   -- for this text's walks alone
set_option linter.unusedVariables false
set_option linter.unusedSimpArgs false
def errW : Option Int → Value
 | none => .nilIface
 | some c => .iface 0 (.int .i64 c)
theorem errW_none : errW none = .nilIface := rfl
theorem errW_some (c : Int) : errW (some c) = .iface 0 (.int .i64 c) := rfl
theorem info2 : (Try.prog.info? 2).map (fun i => (i.zero, i.size, i.bytes)) = some (some (.int .i64 0), 1, 8) := by kernel_rfl
theorem info33 : (Try.prog.info? 33).map (fun i => (i.zero, i.size, i.bytes)) = some (some (.slice none 0 0), 1, 24) := by kernel_rfl
theorem info39 : (Try.prog.info? 39).map (fun i => (i.zero, i.size, i.bytes)) = some (some (.agg #[(.int .i64 0), (.int .i64 0), (.string ⟨#[]⟩), (.int .i64 0)]), 4, 40) := by kernel_rfl
theorem info62 : (Try.prog.info? 62).map (fun i => (i.zero, i.size, i.bytes)) = some (some (.agg #[(.string ⟨#[]⟩), (.int .i64 0), (.int .i64 0), (.int .i64 0), (.int .i64 0), (.int .i64 0), (.int .i64 0), (.int .i64 0), (.int .i64 0)]), 9, 80) := by kernel_rfl
theorem info104 : (Try.prog.info? 104).map (fun i => (i.zero, i.size, i.bytes)) = some (some (.agg #[(.int .i64 0), (.int .i64 0)]), 2, 16) := by kernel_rfl
structure S62 where
 f0 : ByteArray
 f1 : Int
 f2 : Int
 f3 : Int
 f4 : Int
 f5 : Int
 f6 : Int
 f7 : Int
 f8 : Int
def z62 : S62 := ⟨(⟨#[]⟩ : ByteArray), (0 : Int), (0 : Int), (0 : Int), (0 : Int), (0 : Int), (0 : Int), (0 : Int), (0 : Int)⟩
def k62 : Kd S62 := Kd.iso (Kd.pair Kd.string (Kd.pair (Kd.int .i64) (Kd.pair (Kd.int .i64) (Kd.pair (Kd.int .i64) (Kd.pair (Kd.int .i64) (Kd.pair (Kd.int .i64) (Kd.pair (Kd.int .i64) (Kd.pair (Kd.int .i64) (Kd.int .i64))))))))) (fun x : S62 => (x.f0, x.f1, x.f2, x.f3, x.f4, x.f5, x.f6, x.f7, x.f8))
theorem k62_open {w : World} {x : S62} {cs : List Value} (h : k62.K w x cs) : cs = [.string x.f0, .int .i64 x.f1, .int .i64 x.f2, .int .i64 x.f3, .int .i64 x.f4, .int .i64 x.f5, .int .i64 x.f6, .int .i64 x.f7, .int .i64 x.f8] := by
 obtain ⟨_, _, rfl, rfl, ⟨_, _, rfl, rfl, ⟨_, _, rfl, rfl, ⟨_, _, rfl, rfl, ⟨_, _, rfl, rfl, ⟨_, _, rfl, rfl, ⟨_, _, rfl, rfl, ⟨_, _, rfl, rfl, rfl⟩⟩⟩⟩⟩⟩⟩⟩ := h
 exact rfl
theorem k62_mkM (w : World) (base : Nat) (ok : Nat → Prop) (x : S62)  : k62.M w base ok x [.string x.f0, .int .i64 x.f1, .int .i64 x.f2, .int .i64 x.f3, .int .i64 x.f4, .int .i64 x.f5, .int .i64 x.f6, .int .i64 x.f7, .int .i64 x.f8] := ⟨[.string x.f0], [.int .i64 x.f1, .int .i64 x.f2, .int .i64 x.f3, .int .i64 x.f4, .int .i64 x.f5, .int .i64 x.f6, .int .i64 x.f7, .int .i64 x.f8], rfl, rfl, ⟨[.int .i64 x.f1], [.int .i64 x.f2, .int .i64 x.f3, .int .i64 x.f4, .int .i64 x.f5, .int .i64 x.f6, .int .i64 x.f7, .int .i64 x.f8], rfl, rfl, ⟨[.int .i64 x.f2], [.int .i64 x.f3, .int .i64 x.f4, .int .i64 x.f5, .int .i64 x.f6, .int .i64 x.f7, .int .i64 x.f8], rfl, rfl, ⟨[.int .i64 x.f3], [.int .i64 x.f4, .int .i64 x.f5, .int .i64 x.f6, .int .i64 x.f7, .int .i64 x.f8], rfl, rfl, ⟨[.int .i64 x.f4], [.int .i64 x.f5, .int .i64 x.f6, .int .i64 x.f7, .int .i64 x.f8], rfl, rfl, ⟨[.int .i64 x.f5], [.int .i64 x.f6, .int .i64 x.f7, .int .i64 x.f8], rfl, rfl, ⟨[.int .i64 x.f6], [.int .i64 x.f7, .int .i64 x.f8], rfl, rfl, ⟨[.int .i64 x.f7], [.int .i64 x.f8], rfl, rfl, rfl⟩⟩⟩⟩⟩⟩⟩⟩
def rd_T62 (xs : List S62) (i : Int) : S62 := xs.getD i.toNat z62
theorem at_T62 {w : World} {A : Option Addr} {n : Nat} {xs : List S62} (h : Kd.C k62 w A n xs) (i : Int) (h0 : 0 ≤ i) (h1 : i < n) : ∃ ad , A = some ad ∧ w.cell? (ad.add (i.toNat * 9)) = some (.string (rd_T62 xs i).f0) ∧ w.cell? ⟨(ad.add (i.toNat * 9)).block, (ad.add (i.toNat * 9)).off + 1, none⟩ = some (.int .i64 (rd_T62 xs i).f1) ∧ w.cell? ⟨(ad.add (i.toNat * 9)).block, (ad.add (i.toNat * 9)).off + 2, none⟩ = some (.int .i64 (rd_T62 xs i).f2) ∧ w.cell? ⟨(ad.add (i.toNat * 9)).block, (ad.add (i.toNat * 9)).off + 3, none⟩ = some (.int .i64 (rd_T62 xs i).f3) ∧ w.cell? ⟨(ad.add (i.toNat * 9)).block, (ad.add (i.toNat * 9)).off + 4, none⟩ = some (.int .i64 (rd_T62 xs i).f4) ∧ w.cell? ⟨(ad.add (i.toNat * 9)).block, (ad.add (i.toNat * 9)).off + 5, none⟩ = some (.int .i64 (rd_T62 xs i).f5) ∧ w.cell? ⟨(ad.add (i.toNat * 9)).block, (ad.add (i.toNat * 9)).off + 6, none⟩ = some (.int .i64 (rd_T62 xs i).f6) ∧ w.cell? ⟨(ad.add (i.toNat * 9)).block, (ad.add (i.toNat * 9)).off + 7, none⟩ = some (.int .i64 (rd_T62 xs i).f7) ∧ w.cell? ⟨(ad.add (i.toNat * 9)).block, (ad.add (i.toNat * 9)).off + 8, none⟩ = some (.int .i64 (rd_T62 xs i).f8) := by
 obtain ⟨ad, c, e, _, hK, hc0⟩ := Kd.C_get h z62 i h0 h1
 have hc : ∀ j u, c[j]? = some u → w.cell? (ad.add (i.toNat * 9 + j)) = some u := hc0
 obtain rfl := k62_open hK
 exact ⟨ad, e, hc 0 _ rfl, by rw [← add_field _ _ 1 (by omega)]; exact hc 1 _ rfl, by rw [← add_field _ _ 2 (by omega)]; exact hc 2 _ rfl, by rw [← add_field _ _ 3 (by omega)]; exact hc 3 _ rfl, by rw [← add_field _ _ 4 (by omega)]; exact hc 4 _ rfl, by rw [← add_field _ _ 5 (by omega)]; exact hc 5 _ rfl, by rw [← add_field _ _ 6 (by omega)]; exact hc 6 _ rfl, by rw [← add_field _ _ 7 (by omega)]; exact hc 7 _ rfl, by rw [← add_field _ _ 8 (by omega)]; exact hc 8 _ rfl⟩
structure S104 where
 f0 : Int
 f1 : Int
def z104 : S104 := ⟨(0 : Int), (0 : Int)⟩
def k104 : Kd S104 := Kd.iso (Kd.pair (Kd.int .i64) (Kd.int .i64)) (fun x : S104 => (x.f0, x.f1))
theorem k104_open {w : World} {x : S104} {cs : List Value} (h : k104.K w x cs) : cs = [.int .i64 x.f0, .int .i64 x.f1] := by
 obtain ⟨_, _, rfl, rfl, rfl⟩ := h
 exact rfl
theorem k104_openM {w : World} {base : Nat} {ok : Nat → Prop} {x : S104} {cs : List Value} (h : k104.M w base ok x cs) : cs = [.int .i64 x.f0, .int .i64 x.f1] := by
 obtain ⟨_, _, rfl, rfl, rfl⟩ := h
 exact rfl
theorem k104_mkM (w : World) (base : Nat) (ok : Nat → Prop) (x : S104)  : k104.M w base ok x [.int .i64 x.f0, .int .i64 x.f1] := ⟨[.int .i64 x.f0], [.int .i64 x.f1], rfl, rfl, rfl⟩
def rd_T104 (xs : List S104) (i : Int) : S104 := xs.getD i.toNat z104
theorem at_T104 {w : World} {A : Option Addr} {n : Nat} {xs : List S104} (h : Kd.C k104 w A n xs) (i : Int) (h0 : 0 ≤ i) (h1 : i < n) : ∃ ad , A = some ad ∧ w.cell? (ad.add (i.toNat * 2)) = some (.int .i64 (rd_T104 xs i).f0) ∧ w.cell? ⟨(ad.add (i.toNat * 2)).block, (ad.add (i.toNat * 2)).off + 1, none⟩ = some (.int .i64 (rd_T104 xs i).f1) := by
 obtain ⟨ad, c, e, _, hK, hc0⟩ := Kd.C_get h z104 i h0 h1
 have hc : ∀ j u, c[j]? = some u → w.cell? (ad.add (i.toNat * 2 + j)) = some u := hc0
 obtain rfl := k104_open hK
 exact ⟨ad, e, hc 0 _ rfl, by rw [← add_field _ _ 1 (by omega)]; exact hc 1 _ rfl⟩
structure S39 where
 f0 : Int
 f1 : Int
 f2 : ByteArray
 f3 : Int
def z39 : S39 := ⟨(0 : Int), (0 : Int), (⟨#[]⟩ : ByteArray), (0 : Int)⟩
def k39 : Kd S39 := Kd.iso (Kd.pair (Kd.int .i64) (Kd.pair (Kd.int .i64) (Kd.pair Kd.string (Kd.int .i64)))) (fun x : S39 => (x.f0, x.f1, x.f2, x.f3))
theorem k39_open {w : World} {x : S39} {cs : List Value} (h : k39.K w x cs) : cs = [.int .i64 x.f0, .int .i64 x.f1, .string x.f2, .int .i64 x.f3] := by
 obtain ⟨_, _, rfl, rfl, ⟨_, _, rfl, rfl, ⟨_, _, rfl, rfl, rfl⟩⟩⟩ := h
 exact rfl
theorem k39_mkM (w : World) (base : Nat) (ok : Nat → Prop) (x : S39)  : k39.M w base ok x [.int .i64 x.f0, .int .i64 x.f1, .string x.f2, .int .i64 x.f3] := ⟨[.int .i64 x.f0], [.int .i64 x.f1, .string x.f2, .int .i64 x.f3], rfl, rfl, ⟨[.int .i64 x.f1], [.string x.f2, .int .i64 x.f3], rfl, rfl, ⟨[.string x.f2], [.int .i64 x.f3], rfl, rfl, rfl⟩⟩⟩
def rd_T39 (xs : List S39) (i : Int) : S39 := xs.getD i.toNat z39
theorem at_T39 {w : World} {A : Option Addr} {n : Nat} {xs : List S39} (h : Kd.C k39 w A n xs) (i : Int) (h0 : 0 ≤ i) (h1 : i < n) : ∃ ad , A = some ad ∧ w.cell? (ad.add (i.toNat * 4)) = some (.int .i64 (rd_T39 xs i).f0) ∧ w.cell? ⟨(ad.add (i.toNat * 4)).block, (ad.add (i.toNat * 4)).off + 1, none⟩ = some (.int .i64 (rd_T39 xs i).f1) ∧ w.cell? ⟨(ad.add (i.toNat * 4)).block, (ad.add (i.toNat * 4)).off + 2, none⟩ = some (.string (rd_T39 xs i).f2) ∧ w.cell? ⟨(ad.add (i.toNat * 4)).block, (ad.add (i.toNat * 4)).off + 3, none⟩ = some (.int .i64 (rd_T39 xs i).f3) := by
 obtain ⟨ad, c, e, _, hK, hc0⟩ := Kd.C_get h z39 i h0 h1
 have hc : ∀ j u, c[j]? = some u → w.cell? (ad.add (i.toNat * 4 + j)) = some u := hc0
 obtain rfl := k39_open hK
 exact ⟨ad, e, hc 0 _ rfl, by rw [← add_field _ _ 1 (by omega)]; exact hc 1 _ rfl, by rw [← add_field _ _ 2 (by omega)]; exact hc 2 _ rfl, by rw [← add_field _ _ 3 (by omega)]; exact hc 3 _ rfl⟩
def rd_L6 (xs : List (List Int)) (i : Int) : (List Int) := xs.getD i.toNat ([] : List Int)
theorem at_L6 {w : World} {A : Option Addr} {n : Nat} {xs : List (List Int)} (h : Kd.C (Kd.slice 2 (Kd.int .i64)) w A n xs) (i : Int) (h0 : 0 ≤ i) (h1 : i < n) : ∃ ad A0 c0, A = some ad ∧ w.cell? (ad.add i.toNat) = some (.slice A0 (rd_L6 xs i).length c0) ∧ (rd_L6 xs i).length ≤ c0 ∧ (Kd.int .i64).C w A0 (rd_L6 xs i).length (rd_L6 xs i) := by
 obtain ⟨ad, c, e, _, hK, hc0⟩ := Kd.C_get h ([] : List Int) i h0 h1
 have hc : ∀ j u, c[j]? = some u → w.cell? (ad.add (i.toNat * 1 + j)) = some u := hc0
 obtain ⟨A0, c0, rfl, l0, g0⟩ := hK
 exact ⟨ad, A0, c0, e, by have hq := hc 0 _ rfl; rwa [Nat.mul_one, Nat.add_zero] at hq, l0, g0⟩
end Go.Proofs.Ythhijbdekboahaa.F
namespace Go.Proofs.Ythhijbdekboahaa.F
open Go.RowKit Go.Proofs.YthhijbdekboahaaW.PrintWords Go.Proofs.YthhijbdekboahaaW.PrintLast Go.Proofs.YthhijbdekboahaaW.PrintMore
theorem am_ {p : Prop} (h : p) : Aside0 p := ⟨h⟩
theorem cbH {w w1 : World} {a : Addr} {v : Value} (HB : Aside0 (Below w.heap.size w w1)) (h : w.cell? a = some v) : w1.cell? a = some v := (HB.out.cell (World.block_lt_of_cell? w _ h)).trans h
theorem Zput {P : Prop} (h : P := by simp only [Act.put, List.setIfInBounds_toArray, List.set_cons_zero, List.set_cons_succ, i64_w, i32_w]; rfl) : P := h
theorem Zrun {P : Prop} (h : P := by intro w'; go_simp; with_reducible rfl) : P := h
theorem pureZ {P : Program} {ops : Array Oper} {Q : Exit → Act → World → Prop} {md : Region.Mode} {S : World → Prop} {ds : List Nat} {T : Bool × List (List Nat × List Nat)} (HT_ : Aside0 (rtab md ops = T)) (i : Nat) (N : Option Tmp) (l' : Array Bool) {oi : Oper} {v : Value} {fuel : Nat} {l : Array Bool} {a a' : Act} {w : World} (h : wpAnyLast P md ops Q S ds fuel l' a' w)
    (hi : ops[i]? = some oi := by rfl) (hN : oi.dst = N := by rfl) (hc : anyT T l.toList l'.toList i = true := by kernel_rfl) (hQ : ∀ c a w, Q (.panic c) (a.put oi.dst v) w → Q (.panic c) a w := by exact fun _ _ _ h => h) (hy : Yields P ops oi v a := by exact Or.inl ⟨by rfl, by intro w'; go_simp; with_reducible rfl⟩) (ha : a.put N v = a' := by simp only [Act.put, List.setIfInBounds_toArray, List.set_cons_zero, List.set_cons_succ, i64_w, i32_w]; rfl) : wpAnyLast P md ops Q S ds (fuel + 1) l a w := pure_ l' hi hN (any_of HT_.out hc) hQ hy ha h
theorem boxZ {P : Program} {ops : Array Oper} {Q : Exit → Act → World → Prop} {rest : List Oper} {o : Oper} {a : Act} {W : World} (N : Tmp) (cs : Array Value) (t : TypeId) (h : ∀ g, g = W.heap.size → ∀ w1, w1.heap[g]? = some (.cells cs t (0, 0)) → Below W.heap.size W w1 → wpList P ops Q rest (a.put o.dst (.pointer (some ⟨g, 0, none⟩))) w1)
    (hd : o.dst = some N := by rfl) (hg : o.guard = none := by rfl) (hr : (execOp a.eval o).run P W = .ok (.value (.pointer (some ⟨W.heap.size, 0, none⟩))) (W.alloc (.cells cs t (0, 0))) := by first | (go_simp; done) | (go_simp; rfl)) : wpList P ops Q (o :: rest) a W := box_event hg hd hr h
theorem normZ {P : Program} {ops : Array Oper} {Q : Exit → Act → World → Prop} {md : Region.Mode} {S : World → Prop} {ds : List Nat} {fuel : Nat} {l : Array Bool} {a a' : Act} {v : Value} {w : World} (N : Tmp) (h : wpAnyLast P md ops Q S ds fuel l a' w) (ha : Act.put a (some N) v = a' := by simp only [Act.put, List.setIfInBounds_toArray, List.set_cons_zero, List.set_cons_succ, i64_w, i32_w]; rfl) : wpAnyLast P md ops Q S ds fuel l (Act.put a (some N) v) w := norm_ ha h
theorem normP {P : Program} {ops : Array Oper} {Q : Exit → Act → World → Prop} {md : Region.Mode} {S : World → Prop} {ds : List Nat} {fuel : Nat} {l : Array Bool} {a a' : Act} {w : World} (h : wpAnyLast P md ops Q S ds fuel l a' w) (ha : a = a' := by simp only [putAll, Act.put, List.setIfInBounds_toArray, List.set_cons_zero, List.set_cons_succ]; rfl) : wpAnyLast P md ops Q S ds fuel l a w := norm_ ha h
theorem bkZ {w w1 : World} {g : Nat} {o : Obj} {p : Prop} (z : p) (hb : Below w.heap.size w w1) (h : p → w.heap[g]? = some o := by intro z0_; (with_reducible repeat (first | refine' blk_drewN ?_ _ | refine' blk_drew ?_ | refine' blk_alloc ?_ _)); exact z0_.out) : Aside0 (w1.heap[g]? = some o) := ⟨blk_below (h z) hb⟩
theorem pureU {P : Program} {ops : Array Oper} {Q : Exit → Act → World → Prop} {md : Region.Mode} {S : World → Prop} {ds : List Nat} {T : Bool × List (List Nat × List Nat)} (HT_ : Aside0 (rtab md ops = T)) (i : Nat) (N : Option Tmp) (l' : Array Bool) {oi : Oper} {fuel : Nat} {l : Array Bool} {a a' : Act} {w : World} (h : wpAnyLast P md ops Q S ds fuel l' a' w)
    (hi : ops[i]? = some oi := by rfl) (hN : oi.dst = N := by rfl) (hc : anyT T l.toList l'.toList i = true := by kernel_rfl) (hQ : ∀ c a w, Q (.panic c) (a.put oi.dst undef) w → Q (.panic c) a w := by exact fun _ _ _ h => h) (hy : Yields P ops oi undef a := by exact Or.inr ⟨by rfl, rfl⟩) (ha : a.put N undef = a' := by simp only [Act.put, List.setIfInBounds_toArray, List.set_cons_zero, List.set_cons_succ, i64_w, i32_w]; rfl) : wpAnyLast P md ops Q S ds (fuel + 1) l a w := pure_ l' hi hN (any_of HT_.out hc) hQ hy ha h
theorem kbZ {w w1 : World} {g g' : Nat} {o : Obj} {p : Prop} (z : p) (hk : KeepBut w w1 g none) (hn : Aside0 (g' ≠ g)) (h : p → w.heap[g']? = some o := by intro z0_; (with_reducible repeat (first | refine' blk_drewN ?_ _ | refine' blk_drew ?_ | refine' blk_alloc ?_ _)); exact z0_.out) : Aside0 (w1.heap[g']? = some o) := ⟨hk.blk (h z) hn.out (by simp)⟩
theorem gZ {P : Program} {ops : Array Oper} {Q : Exit → Act → World → Prop} {rest : List Oper} {oi : Oper} {a : Act} {w : World} (N : Nat) {f : FuncId} {fn : Func} {os : Array Operand} {ts : Array TypeId} (hf : P.funcs[f]? = some fn) (args : Array Value) (h : Calls P f args w fun e w' => ∃ v, e = .returned v ∧ wpList P ops Q rest (a.put (some N) v) w') (hd : oi.dst = some N := by rfl) (hg : oi.guard = none := by rfl) (hname : (fn.name == "runtime.NumGoroutine") = false := by kernel_rfl) (hb : fn.body.isSome = true := by rfl)
    (hop : oi.op = .call { callee := .value (.func f), args := os, argTypes := ts } := by rfl) (hargs : os.map a.eval = args := by (try simp only [List.map_toArray, List.map_cons, List.map_nil]); first | done | rfl | (simp only [List.length_drop, List.length_take]; rfl)) : wpList P ops Q (oi :: rest) a w := goesL_ (some N) hd hg hf hname hb args hop hargs h
theorem hoZ {α : Type} {d : Kd α} {e base g : Nat} {w w1 : World} {ok : Nat → Prop} {v : Value} {xs : List α} (h : d.R e w base (fun k => ok k ∧ k ≠ g) v xs) (hk : KeepBut w w1 g none) : Aside0 (d.R e w1 base ok v xs) := ⟨Kd.R_mono (Kd.R_keep h hk (fun _ h => h.2)) (fun _ h => h.1)⟩
theorem hbZ {p0 : Prop} {α : Type} {d : Kd α} {e base : Nat} {w w1 : World} {ok : Nat → Prop} {v : Value} {xs : List α} (z : p0) (hb : Below w.heap.size w w1) (h : p0 → d.R e w base ok v xs := by intro z0_; (with_reducible repeat (first | apply Kd.R_alloc | apply Kd.R_drewN | apply Kd.R_drew)); exact z0_.out) : Aside0 (d.R e w1 base ok v xs) := ⟨Kd.R_below (h z) hb⟩
theorem rfZ {α : Type} {d : Kd α} {e base : Nat} {w w1 : World} {ok : Nat → Prop} {v : Value} {xs : List α} (h : d.R e w base ok v xs) (t : d.R e w base ok v xs → d.R e w1 base ok v xs := by intro h_; (with_reducible repeat (refine Kd.R_far ?_ (fun _ hk => hk.2) _)); exact h_) : d.R e w1 base ok v xs := t h
theorem bindZ {α β : Type} {a : α} {f : α → Option β} {r : Option β} (H : (some a).bind f = r) : f a = r := H
theorem bsZ {w0 w w1 : World} (h : Below w0.heap.size w0 w) (hb : Below w.heap.size w w1) : Aside0 (Below w0.heap.size w0 w1) := ⟨below_step h hb⟩
theorem blk_farO {w : World} {g : Nat} {o : Obj} {p : Addr} {u : Value} (h : w.heap[g]? = some o) (hp : g ≠ p.block) : (w.setCell p u).heap[g]? = some o := (Below.heap_setCell w p u g hp).trans h
theorem b0Z {p0 : Prop} {W : World} {g : Nat} {o : Obj} (z0 : p0) (h : p0 → W.heap[g]? = some o := by intro z0_; (with_reducible repeat (first | refine' blk_drewN ?_ _ | refine' blk_drew ?_ | refine' blk_alloc ?_ _)); exact z0_.out) : W.heap[g]? = some o := h z0
theorem bfZ {p0 p1 : Prop} {W : World} {g : Nat} {o : Obj} (z0 : p0) (z1 : p1) (h : p0 → p1 → W.heap[g]? = some o := by intro z0_ z1_; (repeat (first | (with_reducible first | refine' blk_drewN ?_ _ | refine' blk_drew ?_ | refine' blk_alloc ?_ _) | refine' blk_farO ?_ z1_.out)); exact z0_.out) : W.heap[g]? = some o := h z0 z1
theorem exb_drewN {w : World} {g t n : Nat} {E : Array Value → Prop} (h : ∃ cs, w.heap[g]? = some (.cells cs t (0, 0)) ∧ E cs) : ∃ cs, (w.drewN n).heap[g]? = some (.cells cs t (0, 0)) ∧ E cs := h.elim fun cs h => ⟨cs, blk_drewN h.1 _, h.2⟩
theorem exb_drew {w : World} {g t : Nat} {E : Array Value → Prop} (h : ∃ cs, w.heap[g]? = some (.cells cs t (0, 0)) ∧ E cs) : ∃ cs, w.drew.heap[g]? = some (.cells cs t (0, 0)) ∧ E cs := h.elim fun cs h => ⟨cs, blk_drew h.1, h.2⟩
theorem exb_alloc {w : World} {g t : Nat} {o : Obj} {E : Array Value → Prop} (h : ∃ cs, w.heap[g]? = some (.cells cs t (0, 0)) ∧ E cs) : ∃ cs, (w.alloc o).heap[g]? = some (.cells cs t (0, 0)) ∧ E cs := h.elim fun cs h => ⟨cs, blk_alloc h.1 _, h.2⟩
theorem exb_set {w : World} {g t i : Nat} {u : Value} {E : Array Value → Prop} (h : ∃ cs, w.heap[g]? = some (.cells cs t (0, 0)) ∧ E (cs.setIfInBounds i u)) : ∃ cs, (w.setCell ⟨g, i, none⟩ u).heap[g]? = some (.cells cs t (0, 0)) ∧ E cs := h.elim fun cs h => ⟨cs.setIfInBounds i u, blk_set h.1 i u, h.2⟩
theorem exb_far {w : World} {g t : Nat} {p : Addr} {u : Value} {E : Array Value → Prop} (h : ∃ cs, w.heap[g]? = some (.cells cs t (0, 0)) ∧ E cs) (hp : g ≠ p.block) : ∃ cs, (w.setCell p u).heap[g]? = some (.cells cs t (0, 0)) ∧ E cs := h.elim fun cs h => ⟨cs, blk_far h.1 hp u, h.2⟩
theorem bpZ {p0 : Prop} {W : World} {g t : Nat} {cs' : Array Value} (z0 : p0) (h : p0 → ∃ cs, W.heap[g]? = some (.cells cs t (0, 0)) ∧ cs = cs' := by intro z0_; (repeat (with_reducible first | refine exb_drewN ?_ | refine exb_drew ?_ | refine exb_alloc ?_ | refine exb_set ?_)); exact ⟨_, z0_.out, by first | (simp only [List.setIfInBounds_toArray, List.set_cons_zero, List.set_cons_succ]; done) | rfl⟩) : W.heap[g]? = some (.cells cs' t (0, 0)) := (h z0).elim fun _ h => h.2 ▸ h.1
theorem bmZ {p0 p1 : Prop} {W : World} {g t : Nat} {cs' : Array Value} (z0 : p0) (z1 : p1) (h : p0 → p1 → ∃ cs, W.heap[g]? = some (.cells cs t (0, 0)) ∧ cs = cs' := by intro z0_ z1_; (repeat (first | (with_reducible first | refine exb_drewN ?_ | refine exb_drew ?_ | refine exb_alloc ?_ | refine exb_set ?_) | refine exb_far ?_ z1_.out)); exact ⟨_, z0_.out, by first | (simp only [List.setIfInBounds_toArray, List.set_cons_zero, List.set_cons_succ]; done) | rfl⟩) : W.heap[g]? = some (.cells cs' t (0, 0)) := (h z0 z1).elim fun _ h => h.2 ▸ h.1
theorem cell_farE {w : World} {p a : Addr} {u : Value} {v : Option Value} (h : w.cell? a = v) (hp : a.block ≠ p.block) : (w.setCell p u).cell? a = v := (cell_far hp u).trans h
theorem cfZ {w W : World} {a : Addr} {v : Option Value} (g : Nat) (z0 : w.cell? a = v) (z1 : a.block ≠ g) (h : w.cell? a = v → a.block ≠ g → W.cell? a = v := by intro z0_ z1_; (repeat (refine cell_farE ?_ z1_)); exact z0_) : W.cell? a = v := h z0 z1
theorem cg1 {p0 p1 P : Prop} (z0 : p0) (z1 : p1) (h : p0 → p1 → P := by intro z0_ z1_; (repeat (refine cell_farE ?_ z1_.out)); exact z0_) : P := h z0 z1
theorem cg2 {p0 p1 p2 P : Prop} (z0 : p0) (z1 : p1) (z2 : p2) (h : p0 → p1 → p2 → P := by intro z0_ z1_ z2_; (repeat (first | refine cell_farE ?_ z1_.out | refine cell_farE ?_ z2_.out)); exact z0_) : P := h z0 z1 z2
theorem cg3 {p0 p1 p2 p3 P : Prop} (z0 : p0) (z1 : p1) (z2 : p2) (z3 : p3) (h : p0 → p1 → p2 → p3 → P := by intro z0_ z1_ z2_ z3_; (repeat (first | refine cell_farE ?_ z1_.out | refine cell_farE ?_ z2_.out | refine cell_farE ?_ z3_.out)); exact z0_) : P := h z0 z1 z2 z3
def bB (n m : Nat) : Array Bool := ((List.range n).map fun i => m.testBit i).toArray
def bT (n k : Nat) : Array Bool := (List.replicate k true ++ List.replicate (n - k) false).toArray
theorem cz2 {w : World} {g t : Nat} {a0 a1 : Value} (h : Aside0 (w.heap[g]? = some (.cells #[a0, a1] t (0, 0)))) : w.cell? ⟨g, 0, none⟩ = some a0 ∧ w.cell? ⟨g, 1, none⟩ = some a1 ∧ w.frozen? ⟨g, 0, none⟩ = false ∧ w.frozen? ⟨g, 1, none⟩ = false := ⟨(blk_cell h.out 0).trans rfl, (blk_cell h.out 1).trans rfl, blk_frozen h.out 0, blk_frozen h.out 1⟩
theorem cz3 {w : World} {g t : Nat} {a0 a1 a2 : Value} (h : Aside0 (w.heap[g]? = some (.cells #[a0, a1, a2] t (0, 0)))) : w.cell? ⟨g, 0, none⟩ = some a0 ∧ w.cell? ⟨g, 1, none⟩ = some a1 ∧ w.cell? ⟨g, 2, none⟩ = some a2 ∧ w.frozen? ⟨g, 0, none⟩ = false ∧ w.frozen? ⟨g, 1, none⟩ = false ∧ w.frozen? ⟨g, 2, none⟩ = false := ⟨(blk_cell h.out 0).trans rfl, (blk_cell h.out 1).trans rfl, (blk_cell h.out 2).trans rfl, blk_frozen h.out 0, blk_frozen h.out 1, blk_frozen h.out 2⟩
theorem cz4 {w : World} {g t : Nat} {a0 a1 a2 a3 : Value} (h : Aside0 (w.heap[g]? = some (.cells #[a0, a1, a2, a3] t (0, 0)))) : w.cell? ⟨g, 0, none⟩ = some a0 ∧ w.cell? ⟨g, 1, none⟩ = some a1 ∧ w.cell? ⟨g, 2, none⟩ = some a2 ∧ w.cell? ⟨g, 3, none⟩ = some a3 ∧ w.frozen? ⟨g, 0, none⟩ = false ∧ w.frozen? ⟨g, 1, none⟩ = false ∧ w.frozen? ⟨g, 2, none⟩ = false ∧ w.frozen? ⟨g, 3, none⟩ = false := ⟨(blk_cell h.out 0).trans rfl, (blk_cell h.out 1).trans rfl, (blk_cell h.out 2).trans rfl, (blk_cell h.out 3).trans rfl, blk_frozen h.out 0, blk_frozen h.out 1, blk_frozen h.out 2, blk_frozen h.out 3⟩
theorem cz9 {w : World} {g t : Nat} {a0 a1 a2 a3 a4 a5 a6 a7 a8 : Value} (h : Aside0 (w.heap[g]? = some (.cells #[a0, a1, a2, a3, a4, a5, a6, a7, a8] t (0, 0)))) : w.cell? ⟨g, 0, none⟩ = some a0 ∧ w.cell? ⟨g, 1, none⟩ = some a1 ∧ w.cell? ⟨g, 2, none⟩ = some a2 ∧ w.cell? ⟨g, 3, none⟩ = some a3 ∧ w.cell? ⟨g, 4, none⟩ = some a4 ∧ w.cell? ⟨g, 5, none⟩ = some a5 ∧ w.cell? ⟨g, 6, none⟩ = some a6 ∧ w.cell? ⟨g, 7, none⟩ = some a7 ∧ w.cell? ⟨g, 8, none⟩ = some a8 ∧ w.frozen? ⟨g, 0, none⟩ = false ∧ w.frozen? ⟨g, 1, none⟩ = false ∧ w.frozen? ⟨g, 2, none⟩ = false ∧ w.frozen? ⟨g, 3, none⟩ = false ∧ w.frozen? ⟨g, 4, none⟩ = false ∧ w.frozen? ⟨g, 5, none⟩ = false ∧ w.frozen? ⟨g, 6, none⟩ = false ∧ w.frozen? ⟨g, 7, none⟩ = false ∧ w.frozen? ⟨g, 8, none⟩ = false := ⟨(blk_cell h.out 0).trans rfl, (blk_cell h.out 1).trans rfl, (blk_cell h.out 2).trans rfl, (blk_cell h.out 3).trans rfl, (blk_cell h.out 4).trans rfl, (blk_cell h.out 5).trans rfl, (blk_cell h.out 6).trans rfl, (blk_cell h.out 7).trans rfl, (blk_cell h.out 8).trans rfl, blk_frozen h.out 0, blk_frozen h.out 1, blk_frozen h.out 2, blk_frozen h.out 3, blk_frozen h.out 4, blk_frozen h.out 5, blk_frozen h.out 6, blk_frozen h.out 7, blk_frozen h.out 8⟩
theorem takeZ2 {P : Program} {ops : Array Oper} {Q : Exit → Act → World → Prop} {md : Region.Mode} {S : World → Prop} {ds : List Nat} {T : Bool × List (List Nat × List Nat)} {B : List Nat} (HT_ : Aside0 (rtab md ops = T)) (HW_ : Aside0 (waitsOk T.2 B = true)) (i : Nat) (N : Option Tmp) (l' : Array Bool) {oi : Oper} {v : Value} {fuel : Nat} {l : Array Bool} {a a' : Act} {w : World} (hS : S w) (h : wpAnyLast P md ops Q S ds fuel l' a' w)
    (hi : ops[i]? = some oi := by rfl) (hN : oi.dst = N := by rfl) (hc : takeW T B ds l.toList l'.toList i = true := by kernel_rfl) (hQ : ∀ c a w, Q (.panic c) (a.put oi.dst v) w → Q (.panic c) a w := by exact fun _ _ _ h => h) (hy : YieldsIf P ops S oi v a := by refine Or.inl ⟨by rfl, ?_⟩; rintro w' ⟨s0, s1⟩; go_simp; with_reducible rfl) (ha : a.put N v = a' := by simp only [Act.put, List.setIfInBounds_toArray, List.set_cons_zero, List.set_cons_succ, i64_w, i32_w]; rfl) : wpAnyLast P md ops Q S ds (fuel + 1) l a w := take_ l' hi hN (take_ofW HT_.out HW_.out hc) hQ hy hS ha h
theorem takeZ3 {P : Program} {ops : Array Oper} {Q : Exit → Act → World → Prop} {md : Region.Mode} {S : World → Prop} {ds : List Nat} {T : Bool × List (List Nat × List Nat)} {B : List Nat} (HT_ : Aside0 (rtab md ops = T)) (HW_ : Aside0 (waitsOk T.2 B = true)) (i : Nat) (N : Option Tmp) (l' : Array Bool) {oi : Oper} {v : Value} {fuel : Nat} {l : Array Bool} {a a' : Act} {w : World} (hS : S w) (h : wpAnyLast P md ops Q S ds fuel l' a' w)
    (hi : ops[i]? = some oi := by rfl) (hN : oi.dst = N := by rfl) (hc : takeW T B ds l.toList l'.toList i = true := by kernel_rfl) (hQ : ∀ c a w, Q (.panic c) (a.put oi.dst v) w → Q (.panic c) a w := by exact fun _ _ _ h => h) (hy : YieldsIf P ops S oi v a := by refine Or.inl ⟨by rfl, ?_⟩; rintro w' ⟨s0, s1, s2⟩; go_simp; with_reducible rfl) (ha : a.put N v = a' := by simp only [Act.put, List.setIfInBounds_toArray, List.set_cons_zero, List.set_cons_succ, i64_w, i32_w]; rfl) : wpAnyLast P md ops Q S ds (fuel + 1) l a w := take_ l' hi hN (take_ofW HT_.out HW_.out hc) hQ hy hS ha h
theorem takeZ4 {P : Program} {ops : Array Oper} {Q : Exit → Act → World → Prop} {md : Region.Mode} {S : World → Prop} {ds : List Nat} {T : Bool × List (List Nat × List Nat)} {B : List Nat} (HT_ : Aside0 (rtab md ops = T)) (HW_ : Aside0 (waitsOk T.2 B = true)) (i : Nat) (N : Option Tmp) (l' : Array Bool) {oi : Oper} {v : Value} {fuel : Nat} {l : Array Bool} {a a' : Act} {w : World} (hS : S w) (h : wpAnyLast P md ops Q S ds fuel l' a' w)
    (hi : ops[i]? = some oi := by rfl) (hN : oi.dst = N := by rfl) (hc : takeW T B ds l.toList l'.toList i = true := by kernel_rfl) (hQ : ∀ c a w, Q (.panic c) (a.put oi.dst v) w → Q (.panic c) a w := by exact fun _ _ _ h => h) (hy : YieldsIf P ops S oi v a := by refine Or.inl ⟨by rfl, ?_⟩; rintro w' ⟨s0, s1, s2, s3⟩; go_simp; with_reducible rfl) (ha : a.put N v = a' := by simp only [Act.put, List.setIfInBounds_toArray, List.set_cons_zero, List.set_cons_succ, i64_w, i32_w]; rfl) : wpAnyLast P md ops Q S ds (fuel + 1) l a w := take_ l' hi hN (take_ofW HT_.out HW_.out hc) hQ hy hS ha h
theorem takeZ7 {P : Program} {ops : Array Oper} {Q : Exit → Act → World → Prop} {md : Region.Mode} {S : World → Prop} {ds : List Nat} {T : Bool × List (List Nat × List Nat)} {B : List Nat} (HT_ : Aside0 (rtab md ops = T)) (HW_ : Aside0 (waitsOk T.2 B = true)) (i : Nat) (N : Option Tmp) (l' : Array Bool) {oi : Oper} {v : Value} {fuel : Nat} {l : Array Bool} {a a' : Act} {w : World} (hS : S w) (h : wpAnyLast P md ops Q S ds fuel l' a' w)
    (hi : ops[i]? = some oi := by rfl) (hN : oi.dst = N := by rfl) (hc : takeW T B ds l.toList l'.toList i = true := by kernel_rfl) (hQ : ∀ c a w, Q (.panic c) (a.put oi.dst v) w → Q (.panic c) a w := by exact fun _ _ _ h => h) (hy : YieldsIf P ops S oi v a := by refine Or.inl ⟨by rfl, ?_⟩; rintro w' ⟨s0, s1, s2, s3, s4, s5, s6⟩; go_simp; with_reducible rfl) (ha : a.put N v = a' := by simp only [Act.put, List.setIfInBounds_toArray, List.set_cons_zero, List.set_cons_succ, i64_w, i32_w]; rfl) : wpAnyLast P md ops Q S ds (fuel + 1) l a w := take_ l' hi hN (take_ofW HT_.out HW_.out hc) hQ hy hS ha h
theorem takeZ9 {P : Program} {ops : Array Oper} {Q : Exit → Act → World → Prop} {md : Region.Mode} {S : World → Prop} {ds : List Nat} {T : Bool × List (List Nat × List Nat)} {B : List Nat} (HT_ : Aside0 (rtab md ops = T)) (HW_ : Aside0 (waitsOk T.2 B = true)) (i : Nat) (N : Option Tmp) (l' : Array Bool) {oi : Oper} {v : Value} {fuel : Nat} {l : Array Bool} {a a' : Act} {w : World} (hS : S w) (h : wpAnyLast P md ops Q S ds fuel l' a' w)
    (hi : ops[i]? = some oi := by rfl) (hN : oi.dst = N := by rfl) (hc : takeW T B ds l.toList l'.toList i = true := by kernel_rfl) (hQ : ∀ c a w, Q (.panic c) (a.put oi.dst v) w → Q (.panic c) a w := by exact fun _ _ _ h => h) (hy : YieldsIf P ops S oi v a := by refine Or.inl ⟨by rfl, ?_⟩; rintro w' ⟨s0, s1, s2, s3, s4, s5, s6, s7, s8⟩; go_simp; with_reducible rfl) (ha : a.put N v = a' := by simp only [Act.put, List.setIfInBounds_toArray, List.set_cons_zero, List.set_cons_succ, i64_w, i32_w]; rfl) : wpAnyLast P md ops Q S ds (fuel + 1) l a w := take_ l' hi hN (take_ofW HT_.out HW_.out hc) hQ hy hS ha h
theorem takeZ12 {P : Program} {ops : Array Oper} {Q : Exit → Act → World → Prop} {md : Region.Mode} {S : World → Prop} {ds : List Nat} {T : Bool × List (List Nat × List Nat)} {B : List Nat} (HT_ : Aside0 (rtab md ops = T)) (HW_ : Aside0 (waitsOk T.2 B = true)) (i : Nat) (N : Option Tmp) (l' : Array Bool) {oi : Oper} {v : Value} {fuel : Nat} {l : Array Bool} {a a' : Act} {w : World} (hS : S w) (h : wpAnyLast P md ops Q S ds fuel l' a' w)
    (hi : ops[i]? = some oi := by rfl) (hN : oi.dst = N := by rfl) (hc : takeW T B ds l.toList l'.toList i = true := by kernel_rfl) (hQ : ∀ c a w, Q (.panic c) (a.put oi.dst v) w → Q (.panic c) a w := by exact fun _ _ _ h => h) (hy : YieldsIf P ops S oi v a := by refine Or.inl ⟨by rfl, ?_⟩; rintro w' ⟨s0, s1, s2, s3, s4, s5, s6, s7, s8, s9, s10, s11⟩; go_simp; with_reducible rfl) (ha : a.put N v = a' := by simp only [Act.put, List.setIfInBounds_toArray, List.set_cons_zero, List.set_cons_succ, i64_w, i32_w]; rfl) : wpAnyLast P md ops Q S ds (fuel + 1) l a w := take_ l' hi hN (take_ofW HT_.out HW_.out hc) hQ hy hS ha h
theorem takeZ14 {P : Program} {ops : Array Oper} {Q : Exit → Act → World → Prop} {md : Region.Mode} {S : World → Prop} {ds : List Nat} {T : Bool × List (List Nat × List Nat)} {B : List Nat} (HT_ : Aside0 (rtab md ops = T)) (HW_ : Aside0 (waitsOk T.2 B = true)) (i : Nat) (N : Option Tmp) (l' : Array Bool) {oi : Oper} {v : Value} {fuel : Nat} {l : Array Bool} {a a' : Act} {w : World} (hS : S w) (h : wpAnyLast P md ops Q S ds fuel l' a' w)
    (hi : ops[i]? = some oi := by rfl) (hN : oi.dst = N := by rfl) (hc : takeW T B ds l.toList l'.toList i = true := by kernel_rfl) (hQ : ∀ c a w, Q (.panic c) (a.put oi.dst v) w → Q (.panic c) a w := by exact fun _ _ _ h => h) (hy : YieldsIf P ops S oi v a := by refine Or.inl ⟨by rfl, ?_⟩; rintro w' ⟨s0, s1, s2, s3, s4, s5, s6, s7, s8, s9, s10, s11, s12, s13⟩; go_simp; with_reducible rfl) (ha : a.put N v = a' := by simp only [Act.put, List.setIfInBounds_toArray, List.set_cons_zero, List.set_cons_succ, i64_w, i32_w]; rfl) : wpAnyLast P md ops Q S ds (fuel + 1) l a w := take_ l' hi hN (take_ofW HT_.out HW_.out hc) hQ hy hS ha h
theorem takeZ16 {P : Program} {ops : Array Oper} {Q : Exit → Act → World → Prop} {md : Region.Mode} {S : World → Prop} {ds : List Nat} {T : Bool × List (List Nat × List Nat)} {B : List Nat} (HT_ : Aside0 (rtab md ops = T)) (HW_ : Aside0 (waitsOk T.2 B = true)) (i : Nat) (N : Option Tmp) (l' : Array Bool) {oi : Oper} {v : Value} {fuel : Nat} {l : Array Bool} {a a' : Act} {w : World} (hS : S w) (h : wpAnyLast P md ops Q S ds fuel l' a' w)
    (hi : ops[i]? = some oi := by rfl) (hN : oi.dst = N := by rfl) (hc : takeW T B ds l.toList l'.toList i = true := by kernel_rfl) (hQ : ∀ c a w, Q (.panic c) (a.put oi.dst v) w → Q (.panic c) a w := by exact fun _ _ _ h => h) (hy : YieldsIf P ops S oi v a := by refine Or.inl ⟨by rfl, ?_⟩; rintro w' ⟨s0, s1, s2, s3, s4, s5, s6, s7, s8, s9, s10, s11, s12, s13, s14, s15⟩; go_simp; with_reducible rfl) (ha : a.put N v = a' := by simp only [Act.put, List.setIfInBounds_toArray, List.set_cons_zero, List.set_cons_succ, i64_w, i32_w]; rfl) : wpAnyLast P md ops Q S ds (fuel + 1) l a w := take_ l' hi hN (take_ofW HT_.out HW_.out hc) hQ hy hS ha h
theorem takeZ18 {P : Program} {ops : Array Oper} {Q : Exit → Act → World → Prop} {md : Region.Mode} {S : World → Prop} {ds : List Nat} {T : Bool × List (List Nat × List Nat)} {B : List Nat} (HT_ : Aside0 (rtab md ops = T)) (HW_ : Aside0 (waitsOk T.2 B = true)) (i : Nat) (N : Option Tmp) (l' : Array Bool) {oi : Oper} {v : Value} {fuel : Nat} {l : Array Bool} {a a' : Act} {w : World} (hS : S w) (h : wpAnyLast P md ops Q S ds fuel l' a' w)
    (hi : ops[i]? = some oi := by rfl) (hN : oi.dst = N := by rfl) (hc : takeW T B ds l.toList l'.toList i = true := by kernel_rfl) (hQ : ∀ c a w, Q (.panic c) (a.put oi.dst v) w → Q (.panic c) a w := by exact fun _ _ _ h => h) (hy : YieldsIf P ops S oi v a := by refine Or.inl ⟨by rfl, ?_⟩; rintro w' ⟨s0, s1, s2, s3, s4, s5, s6, s7, s8, s9, s10, s11, s12, s13, s14, s15, s16, s17⟩; go_simp; with_reducible rfl) (ha : a.put N v = a' := by simp only [Act.put, List.setIfInBounds_toArray, List.set_cons_zero, List.set_cons_succ, i64_w, i32_w]; rfl) : wpAnyLast P md ops Q S ds (fuel + 1) l a w := take_ l' hi hN (take_ofW HT_.out HW_.out hc) hQ hy hS ha h
theorem takeZ27 {P : Program} {ops : Array Oper} {Q : Exit → Act → World → Prop} {md : Region.Mode} {S : World → Prop} {ds : List Nat} {T : Bool × List (List Nat × List Nat)} {B : List Nat} (HT_ : Aside0 (rtab md ops = T)) (HW_ : Aside0 (waitsOk T.2 B = true)) (i : Nat) (N : Option Tmp) (l' : Array Bool) {oi : Oper} {v : Value} {fuel : Nat} {l : Array Bool} {a a' : Act} {w : World} (hS : S w) (h : wpAnyLast P md ops Q S ds fuel l' a' w)
    (hi : ops[i]? = some oi := by rfl) (hN : oi.dst = N := by rfl) (hc : takeW T B ds l.toList l'.toList i = true := by kernel_rfl) (hQ : ∀ c a w, Q (.panic c) (a.put oi.dst v) w → Q (.panic c) a w := by exact fun _ _ _ h => h) (hy : YieldsIf P ops S oi v a := by refine Or.inl ⟨by rfl, ?_⟩; rintro w' ⟨s0, s1, s2, s3, s4, s5, s6, s7, s8, s9, s10, s11, s12, s13, s14, s15, s16, s17, s18, s19, s20, s21, s22, s23, s24, s25, s26⟩; go_simp; with_reducible rfl) (ha : a.put N v = a' := by simp only [Act.put, List.setIfInBounds_toArray, List.set_cons_zero, List.set_cons_succ, i64_w, i32_w]; rfl) : wpAnyLast P md ops Q S ds (fuel + 1) l a w := take_ l' hi hN (take_ofW HT_.out HW_.out hc) hQ hy hS ha h
theorem ci2 {w : World} {g t : Nat} {a0 a1 : Value} (h : Aside0 (w.heap[g]? = some (.cells #[a0, a1] t (0, 0)))) {P : Prop} (k : w.cell? ⟨g, 0, none⟩ = some a0 → w.cell? ⟨g, 1, none⟩ = some a1 → w.frozen? ⟨g, 0, none⟩ = false → w.frozen? ⟨g, 1, none⟩ = false → P) : P := k ((blk_cell h.out 0).trans rfl) ((blk_cell h.out 1).trans rfl) (blk_frozen h.out 0) (blk_frozen h.out 1)
theorem ci3 {w : World} {g t : Nat} {a0 a1 a2 : Value} (h : Aside0 (w.heap[g]? = some (.cells #[a0, a1, a2] t (0, 0)))) {P : Prop} (k : w.cell? ⟨g, 0, none⟩ = some a0 → w.cell? ⟨g, 1, none⟩ = some a1 → w.cell? ⟨g, 2, none⟩ = some a2 → w.frozen? ⟨g, 0, none⟩ = false → w.frozen? ⟨g, 1, none⟩ = false → w.frozen? ⟨g, 2, none⟩ = false → P) : P := k ((blk_cell h.out 0).trans rfl) ((blk_cell h.out 1).trans rfl) ((blk_cell h.out 2).trans rfl) (blk_frozen h.out 0) (blk_frozen h.out 1) (blk_frozen h.out 2)
theorem ci4 {w : World} {g t : Nat} {a0 a1 a2 a3 : Value} (h : Aside0 (w.heap[g]? = some (.cells #[a0, a1, a2, a3] t (0, 0)))) {P : Prop} (k : w.cell? ⟨g, 0, none⟩ = some a0 → w.cell? ⟨g, 1, none⟩ = some a1 → w.cell? ⟨g, 2, none⟩ = some a2 → w.cell? ⟨g, 3, none⟩ = some a3 → w.frozen? ⟨g, 0, none⟩ = false → w.frozen? ⟨g, 1, none⟩ = false → w.frozen? ⟨g, 2, none⟩ = false → w.frozen? ⟨g, 3, none⟩ = false → P) : P := k ((blk_cell h.out 0).trans rfl) ((blk_cell h.out 1).trans rfl) ((blk_cell h.out 2).trans rfl) ((blk_cell h.out 3).trans rfl) (blk_frozen h.out 0) (blk_frozen h.out 1) (blk_frozen h.out 2) (blk_frozen h.out 3)
theorem ci9 {w : World} {g t : Nat} {a0 a1 a2 a3 a4 a5 a6 a7 a8 : Value} (h : Aside0 (w.heap[g]? = some (.cells #[a0, a1, a2, a3, a4, a5, a6, a7, a8] t (0, 0)))) {P : Prop} (k : w.cell? ⟨g, 0, none⟩ = some a0 → w.cell? ⟨g, 1, none⟩ = some a1 → w.cell? ⟨g, 2, none⟩ = some a2 → w.cell? ⟨g, 3, none⟩ = some a3 → w.cell? ⟨g, 4, none⟩ = some a4 → w.cell? ⟨g, 5, none⟩ = some a5 → w.cell? ⟨g, 6, none⟩ = some a6 → w.cell? ⟨g, 7, none⟩ = some a7 → w.cell? ⟨g, 8, none⟩ = some a8 → w.frozen? ⟨g, 0, none⟩ = false → w.frozen? ⟨g, 1, none⟩ = false → w.frozen? ⟨g, 2, none⟩ = false → w.frozen? ⟨g, 3, none⟩ = false → w.frozen? ⟨g, 4, none⟩ = false → w.frozen? ⟨g, 5, none⟩ = false → w.frozen? ⟨g, 6, none⟩ = false → w.frozen? ⟨g, 7, none⟩ = false → w.frozen? ⟨g, 8, none⟩ = false → P) : P := k ((blk_cell h.out 0).trans rfl) ((blk_cell h.out 1).trans rfl) ((blk_cell h.out 2).trans rfl) ((blk_cell h.out 3).trans rfl) ((blk_cell h.out 4).trans rfl) ((blk_cell h.out 5).trans rfl) ((blk_cell h.out 6).trans rfl) ((blk_cell h.out 7).trans rfl) ((blk_cell h.out 8).trans rfl) (blk_frozen h.out 0) (blk_frozen h.out 1) (blk_frozen h.out 2) (blk_frozen h.out 3) (blk_frozen h.out 4) (blk_frozen h.out 5) (blk_frozen h.out 6) (blk_frozen h.out 7) (blk_frozen h.out 8)
theorem Za {P : Prop} (h : P := by first | rfl | (simp; done) | (simp [*]; done)) : P := h
theorem Zb {P : Prop} (h : P := by repeat (first | exact Drawn0.refl _ | apply Drawn0.step)) : P := h
theorem Zc {P : Prop} (h : P := by first | (with_reducible assumption) | assumption) : P := h
theorem Zd {P : Prop} (h : P := by have := HK1.out; omega) : P := h
theorem Ze {p0 P : Prop} (z0_ : p0) (h : p0 → P := by intro z0_; repeat (first | exact z0_.out | (with_reducible refine Kd.C_alloc ?_ _) | (with_reducible refine Kd.C_drewN ?_ _) | (with_reducible refine Kd.C_drew ?_))) : P := h z0_
theorem Zf {P : Prop} (h : P := by repeat (first | (with_reducible first | exact HB.out | apply below_alloc | apply pw_below_drewN | apply below_drew1) | exact HB.out)) : P := h
theorem Zg {P : Prop} (h : P := by rw [hg]; exact (below_size (by repeat (first | (with_reducible first | exact HBW.out | apply below_alloc | apply pw_below_drewN | apply below_drew1) | exact HBW.out)))) : P := h
theorem Zh {p0 P : Prop} (z0_ : p0) (h : p0 → P := by intro z0_; (with_reducible repeat (first | refine blk_drewN ?_ _ | refine blk_drew ?_ | refine blk_alloc ?_ _)); exact z0_.out) : P := h z0_
theorem Zi {p0 P : Prop} (z0_ : p0) (h : p0 → P := by intro z0_; repeat (first | (with_reducible first | exact HB.out | apply below_alloc | apply pw_below_drewN | apply below_drew1 | refine below_set ?_ z0_.out) | exact HB.out)) : P := h z0_
theorem Zj {p0 P : Prop} (z0_ : p0) (h : p0 → P := by intro z0_; repeat (first | (with_reducible first | exact HBW.out | apply below_alloc | apply pw_below_drewN | apply below_drew1 | refine below_set ?_ z0_.out) | exact HBW.out)) : P := h z0_
theorem Zk {P : Prop} (h : P := by kernel_rfl) : P := h
theorem Zl {P : Prop} (h : P := by first | rfl | (simp [errW_none, errW_some] <;> rfl) | (simp [*, errW_none, errW_some] <;> rfl)) : P := h
theorem Zm {P : Prop} (h : P := by repeat (first | (with_reducible first | exact HI0.out | apply IsS100.alloc | apply IsS100.drewN | apply IsS100.drew | apply IsS100.set_1 | apply IsS100.set_2) | exact HI0.out)) : P := h
theorem Zn {P : Prop} (h : P := by repeat (first | (with_reducible first | exact HB.out | apply below_alloc | apply pw_below_drewN | apply below_drew1 | refine below_set ?_ (IsS100.ge HI0.out)) | exact HB.out)) : P := h
theorem Zo {P : Prop} (h : P := by repeat (first | (with_reducible first | exact HK.out | apply KeepBut.set_ | apply keep_drewN | apply keep_drew | apply keep_alloc) | exact HK.out)) : P := h
theorem Zp {p0 P : Prop} (z0_ : p0) (h : p0 → P := by intro z0_; have := World.block_lt_of_cell? _ _ z0_; first | rwa [add_block] at this | exact this) : P := h z0_
theorem Zq {P : Prop} (h : P := by first | (rw [add_block]; exact hn103_0) | (show (Addr.add _ _).block ≠ _; rw [add_block]; exact hn103_0) | exact hn103_0) : P := h
theorem Zr {P : Prop} (h : P := by rw [hg]; exact (below_size (by repeat (first | (with_reducible first | exact HB.out | apply below_alloc | apply pw_below_drewN | apply below_drew1) | exact HB.out)))) : P := h
theorem Zs {P : Prop} (h : P := by (try simp only [List.map_toArray, List.map_cons, List.map_nil]); first | done | rfl | (simp only [List.length_drop, List.length_take]; rfl)) : P := h
theorem Zt {p0 P : Prop} (z0_ : p0) (h : p0 → P := by intro z0_; rw [hg]; exact (below_size (by repeat (first | (with_reducible first | exact HB.out | apply below_alloc | apply pw_below_drewN | apply below_drew1 | refine below_set ?_ z0_.out) | exact HB.out)))) : P := h z0_
theorem Zu {p0 P : Prop} (z0_ : p0) (h : p0 → P := by intro z0_; repeat (first | exact (Kd.C_below z0_.out HB.out) | (with_reducible refine Kd.C_alloc ?_ _) | (with_reducible refine Kd.C_drewN ?_ _) | (with_reducible refine Kd.C_drew ?_))) : P := h z0_
theorem Zv {p0 p1 p2 P : Prop} (z0_ : p0) (z1_ : p1) (z2_ : p2) (h : p0 → p1 → p2 → P := by intro z0_ z1_ z2_; repeat (first | exact (Kd.C_below z0_.out (by repeat (first | (with_reducible first | exact HB.out | apply below_alloc | apply pw_below_drewN | apply below_drew1 | refine below_set ?_ z1_.out | refine below_set ?_ z2_.out) | exact HB.out))) | (with_reducible refine Kd.C_alloc ?_ _) | (with_reducible refine Kd.C_drewN ?_ _) | (with_reducible refine Kd.C_drew ?_))) : P := h z0_ z1_ z2_
theorem Zw {p0 p1 P : Prop} (z0_ : p0) (z1_ : p1) (h : p0 → p1 → P := by intro z0_ z1_; repeat (first | (with_reducible first | exact HB.out | apply below_alloc | apply pw_below_drewN | apply below_drew1 | refine below_set ?_ z0_.out | refine below_set ?_ z1_.out) | exact HB.out)) : P := h z0_ z1_
theorem Zx {P : Prop} (h : P := by first | omega | exact Nat.le_refl _) : P := h
theorem Zy {p0 P : Prop} (z0_ : p0) (h : p0 → P := by intro z0_; exact ⟨(blk_cell z0_.out 0).trans rfl, (blk_cell z0_.out 1).trans rfl, (blk_cell z0_.out 2).trans rfl⟩) : P := h z0_
theorem Zz {P : Prop} (h : P := by first | (simp only [putAll, Act.put, List.setIfInBounds_toArray, List.set_cons_zero, List.set_cons_succ]; done) | (simp only [putAll, Act.put, List.setIfInBounds_toArray, List.set_cons_zero, List.set_cons_succ]; rfl)) : P := h
theorem Zaa {p0 P : Prop} (z0_ : p0) (h : p0 → P := by intro z0_; (with_reducible repeat (first | apply Kd.R_alloc | apply Kd.R_drewN | apply Kd.R_drew)); exact z0_.out) : P := h z0_
theorem Zab {p0 p1 P : Prop} (z0_ : p0) (z1_ : p1) (h : p0 → p1 → P := by intro z0_ z1_; (with_reducible repeat (first | apply Kd.R_alloc | apply Kd.R_drewN | apply Kd.R_drew)); exact Kd.R_mono (rfZ (Kd.R_types z0_.out z1_.out (by decide))) (fun _ hk => trivial)) : P := h z0_ z1_
theorem Zac {p0 P : Prop} (z0_ : p0) (h : p0 → P := by intro z0_; rw [hg]; exact Nat.ne_of_lt (blk_lt (g := gb166) (b0Z z0_))) : P := h z0_
theorem Zad {p0 P : Prop} (z0_ : p0) (h : p0 → P := by intro z0_; rw [hg]; exact Nat.ne_of_gt (blk_lt (g := gb166) (b0Z z0_))) : P := h z0_
theorem Zae {p0 p1 P : Prop} (z0_ : p0) (z1_ : p1) (h : p0 → p1 → P := by intro z0_ z1_; rw [hg]; exact (below_size (by repeat (first | (with_reducible first | exact HB.out | apply below_alloc | apply pw_below_drewN | apply below_drew1 | refine below_set ?_ z0_.out | refine below_set ?_ z1_.out) | exact HB.out)))) : P := h z0_ z1_
theorem Zaf {p0 P : Prop} (z0_ : p0) (h : p0 → P := by intro z0_; rw [hg]; exact Nat.ne_of_lt (blk_lt (g := gb167) (b0Z z0_))) : P := h z0_
theorem Zag {p0 P : Prop} (z0_ : p0) (h : p0 → P := by intro z0_; rw [hg]; exact Nat.ne_of_gt (blk_lt (g := gb167) (b0Z z0_))) : P := h z0_
theorem Zah {p0 p1 p2 P : Prop} (z0_ : p0) (z1_ : p1) (z2_ : p2) (h : p0 → p1 → p2 → P := by intro z0_ z1_ z2_; repeat (first | (with_reducible first | exact HB.out | apply below_alloc | apply pw_below_drewN | apply below_drew1 | refine below_set ?_ z0_.out | refine below_set ?_ z1_.out | refine below_set ?_ z2_.out) | exact HB.out)) : P := h z0_ z1_ z2_
theorem Zai {P : Prop} (h : P := by first | exact Kd.R_nil _ _ _ _ _ | exact Kd.N_nil _ _ _ _ _ | exact Kd.V_nil _ _ _ _ _ | exact Kd.Q_nil _ _ _ _ _ | exact Kd.S_nil _ _ _ _ _) : P := h
theorem Zaj {p0 p1 P : Prop} (z0_ : p0) (z1_ : p1) (h : p0 → p1 → P := by intro z0_ z1_; exact ⟨(blk_cell z0_.out 0).trans rfl, (blk_cell z0_.out 1).trans rfl, (blk_cell z0_.out 2).trans rfl, (blk_cell z1_.out 0).trans rfl, (blk_cell z1_.out 1).trans rfl, (blk_cell z1_.out 2).trans rfl, (blk_cell z1_.out 3).trans rfl⟩) : P := h z0_ z1_
theorem Zak {p0 P : Prop} (z0_ : p0) (h : p0 → P := by intro z0_; (with_reducible repeat (first | apply Kd.R_alloc | apply Kd.R_drewN | apply Kd.R_drew)); exact Kd.R_mono z0_.out (fun _ hk => hk.2)) : P := h z0_
theorem Zal {p0 p1 p2 P : Prop} (z0_ : p0) (z1_ : p1) (z2_ : p2) (h : p0 → p1 → p2 → P := by intro z0_ z1_ z2_; rw [hg]; exact (below_size (by repeat (first | (with_reducible first | exact HB.out | apply below_alloc | apply pw_below_drewN | apply below_drew1 | refine below_set ?_ z0_.out | refine below_set ?_ z1_.out | refine below_set ?_ z2_.out) | exact HB.out)))) : P := h z0_ z1_ z2_
theorem Zam {p0 P : Prop} (z0_ : p0) (h : p0 → P := by intro z0_; rw [hg]; exact Nat.ne_of_lt (blk_lt (g := gb168) (b0Z z0_))) : P := h z0_
theorem Zan {p0 P : Prop} (z0_ : p0) (h : p0 → P := by intro z0_; rw [hg]; exact Nat.ne_of_gt (blk_lt (g := gb168) (b0Z z0_))) : P := h z0_
theorem Zao {p0 p1 p2 p3 P : Prop} (z0_ : p0) (z1_ : p1) (z2_ : p2) (z3_ : p3) (h : p0 → p1 → p2 → p3 → P := by intro z0_ z1_ z2_ z3_; repeat (first | (with_reducible first | exact HB.out | apply below_alloc | apply pw_below_drewN | apply below_drew1 | refine below_set ?_ z0_.out | refine below_set ?_ z1_.out | refine below_set ?_ z2_.out | refine below_set ?_ z3_.out) | exact HB.out)) : P := h z0_ z1_ z2_ z3_
theorem Zap {p0 P : Prop} (z0_ : p0) (h : p0 → P := by intro z0_; (with_reducible repeat (first | apply Kd.R_alloc | apply Kd.R_drewN | apply Kd.R_drew)); exact Kd.R_mono z0_.out (fun _ hk => ⟨hk.1.2, hk.2⟩)) : P := h z0_
theorem Zaq {p0 P : Prop} (z0_ : p0) (h : p0 → P := by intro z0_; (with_reducible repeat (first | apply Kd.R_alloc | apply Kd.R_drewN | apply Kd.R_drew)); exact Kd.R_mono z0_.out (fun _ hk => ⟨hk.2, hk.1⟩)) : P := h z0_
theorem Zar {p0 P : Prop} (z0_ : p0) (h : p0 → P := by intro z0_; repeat (first | exact (Kd.R_reads' z0_.out).2.2 | (with_reducible refine Kd.C_alloc ?_ _) | (with_reducible refine Kd.C_drewN ?_ _) | (with_reducible refine Kd.C_drew ?_))) : P := h z0_
theorem Zas {p0 P : Prop} (z0_ : p0) (h : p0 → P := by intro z0_; (with_reducible repeat (first | apply Kd.R_alloc | apply Kd.R_drewN | apply Kd.R_drew)); exact Kd.R_mono z0_.out (fun _ hk => ⟨hk.1.1, ⟨hk.2, hk.1.2⟩⟩)) : P := h z0_
theorem Zat {p0 p1 P : Prop} (z0_ : p0) (z1_ : p1) (h : p0 → p1 → P := by intro z0_ z1_; (with_reducible repeat (first | apply Kd.R_alloc | apply Kd.R_drewN | apply Kd.R_drew)); exact (Kd.R_mono (rfZ (Kd.R_types z0_.out z1_.out (by decide))) (fun _ h_ => h_.1))) : P := h z0_ z1_
theorem Zau {P : Prop} (h : P := by rw [hg]; exact (keep_size (w := w) (g := g) (row := none) (by repeat (first | (with_reducible first | exact HK.out | apply KeepBut.set_ | apply keep_drewN | apply keep_drew | apply keep_alloc) | exact HK.out)))) : P := h
theorem Zav {P : Prop} (h : P := by rw [hg]; exact Nat.ne_of_lt (IsS100.lt (show IsS100 w0 _ g s0_0 s0_1 s0_2 from (by repeat (first | (with_reducible first | exact HI0.out | apply IsS100.alloc | apply IsS100.drewN | apply IsS100.drew | apply IsS100.set_1 | apply IsS100.set_2) | exact HI0.out))))) : P := h
theorem Zaw {P : Prop} (h : P := by rw [hg]; exact Nat.ne_of_gt (IsS100.lt (show IsS100 w0 _ g s0_0 s0_1 s0_2 from (by repeat (first | (with_reducible first | exact HI0.out | apply IsS100.alloc | apply IsS100.drewN | apply IsS100.drew | apply IsS100.set_1 | apply IsS100.set_2) | exact HI0.out))))) : P := h
theorem Zax {p0 P : Prop} (z0_ : p0) (h : p0 → P := by intro z0_; repeat (first | (with_reducible first | exact HI0.out | apply IsS100.alloc | apply IsS100.drewN | apply IsS100.drew | apply IsS100.set_1 | apply IsS100.set_2 | refine IsS100.far ?_ z0_.out _) | exact HI0.out)) : P := h z0_
theorem Zay {p0 P : Prop} (z0_ : p0) (h : p0 → P := by intro z0_; repeat (first | (with_reducible first | exact HB.out | apply below_alloc | apply pw_below_drewN | apply below_drew1 | refine below_set ?_ (IsS100.ge HI0.out) | refine below_set ?_ z0_.out) | exact HB.out)) : P := h z0_
theorem Zaz {p0 P : Prop} (z0_ : p0) (h : p0 → P := by intro z0_; repeat (first | (with_reducible first | exact HK.out | apply KeepBut.set_ | apply keep_drewN | apply keep_drew | apply keep_alloc | refine keep_far ?_ z0_.out _) | exact HK.out)) : P := h z0_
theorem Zba {p0 P : Prop} (z0_ : p0) (h : p0 → P := by intro z0_; rw [hg]; exact (keep_size (w := w) (g := g) (row := none) (by repeat (first | (with_reducible first | exact HK.out | apply KeepBut.set_ | apply keep_drewN | apply keep_drew | apply keep_alloc | refine keep_far ?_ z0_.out _) | exact HK.out)))) : P := h z0_
theorem Zbb {p0 P : Prop} (z0_ : p0) (h : p0 → P := by intro z0_; rw [hg]; exact Nat.ne_of_lt (IsS100.lt (show IsS100 w0 _ g s0_0 t238 t239 from (by repeat (first | (with_reducible first | exact HI0.out | apply IsS100.alloc | apply IsS100.drewN | apply IsS100.drew | apply IsS100.set_1 | apply IsS100.set_2 | refine IsS100.far ?_ z0_.out _) | exact HI0.out))))) : P := h z0_
theorem Zbc {p0 P : Prop} (z0_ : p0) (h : p0 → P := by intro z0_; rw [hg]; exact Nat.ne_of_gt (IsS100.lt (show IsS100 w0 _ g s0_0 t238 t239 from (by repeat (first | (with_reducible first | exact HI0.out | apply IsS100.alloc | apply IsS100.drewN | apply IsS100.drew | apply IsS100.set_1 | apply IsS100.set_2 | refine IsS100.far ?_ z0_.out _) | exact HI0.out))))) : P := h z0_
theorem Zbd {p0 p1 P : Prop} (z0_ : p0) (z1_ : p1) (h : p0 → p1 → P := by intro z0_ z1_; repeat (first | (with_reducible first | exact HI0.out | apply IsS100.alloc | apply IsS100.drewN | apply IsS100.drew | apply IsS100.set_1 | apply IsS100.set_2 | refine IsS100.far ?_ z0_.out _ | refine IsS100.far ?_ z1_.out _) | exact HI0.out)) : P := h z0_ z1_
theorem Zbe {p0 p1 P : Prop} (z0_ : p0) (z1_ : p1) (h : p0 → p1 → P := by intro z0_ z1_; repeat (first | (with_reducible first | exact HB.out | apply below_alloc | apply pw_below_drewN | apply below_drew1 | refine below_set ?_ (IsS100.ge HI0.out) | refine below_set ?_ z0_.out | refine below_set ?_ z1_.out) | exact HB.out)) : P := h z0_ z1_
theorem Zbf {p0 p1 P : Prop} (z0_ : p0) (z1_ : p1) (h : p0 → p1 → P := by intro z0_ z1_; repeat (first | (with_reducible first | exact HK.out | apply KeepBut.set_ | apply keep_drewN | apply keep_drew | apply keep_alloc | refine keep_far ?_ z0_.out _ | refine keep_far ?_ z1_.out _) | exact HK.out)) : P := h z0_ z1_
theorem Zbg {P : Prop} (h : P := by simp only [List.setIfInBounds_toArray, List.set_cons_zero, List.set_cons_succ]) : P := h
theorem Zbh {p0 P : Prop} (z0_ : p0) (h : p0 → P := by intro z0_; rw [hg]; exact Nat.ne_of_lt (blk_lt (g := gb247) (b0Z z0_))) : P := h z0_
theorem Zbi {p0 P : Prop} (z0_ : p0) (h : p0 → P := by intro z0_; rw [hg]; exact Nat.ne_of_gt (blk_lt (g := gb247) (b0Z z0_))) : P := h z0_
theorem Zbj {p0 p1 P : Prop} (z0_ : p0) (z1_ : p1) (h : p0 → p1 → P := by intro z0_ z1_; rw [hg]; exact (keep_size (w := w) (g := g) (row := none) (by repeat (first | (with_reducible first | exact HK.out | apply KeepBut.set_ | apply keep_drewN | apply keep_drew | apply keep_alloc | refine keep_far ?_ z0_.out _ | refine keep_far ?_ z1_.out _) | exact HK.out)))) : P := h z0_ z1_
theorem Zbk {p0 P : Prop} (z0_ : p0) (h : p0 → P := by intro z0_; rw [hg]; exact Nat.ne_of_lt (blk_lt (g := gb259) (b0Z z0_))) : P := h z0_
theorem Zbl {p0 P : Prop} (z0_ : p0) (h : p0 → P := by intro z0_; rw [hg]; exact Nat.ne_of_gt (blk_lt (g := gb259) (b0Z z0_))) : P := h z0_
theorem Zbm {p0 p1 p2 P : Prop} (z0_ : p0) (z1_ : p1) (z2_ : p2) (h : p0 → p1 → p2 → P := by intro z0_ z1_ z2_; repeat (first | (with_reducible first | exact HK.out | apply KeepBut.set_ | apply keep_drewN | apply keep_drew | apply keep_alloc | refine keep_far ?_ z0_.out _ | refine keep_far ?_ z1_.out _ | refine keep_far ?_ z2_.out _) | exact HK.out)) : P := h z0_ z1_ z2_
theorem Zbn {p0 P : Prop} (z0_ : p0) (h : p0 → P := by intro z0_; (with_reducible repeat (first | apply Kd.R_alloc | apply Kd.R_drewN | apply Kd.R_drew)); exact (Kd.R_mono (rfZ (Kd.R_mono z0_.out (fun k_ hk => (⟨hk, hk.2⟩ : _ ∧ k_ ≠ gb278)))) (fun _ h_ => h_.1))) : P := h z0_
theorem Zbo {p0 p1 p2 P : Prop} (z0_ : p0) (z1_ : p1) (z2_ : p2) (h : p0 → p1 → p2 → P := by intro z0_ z1_ z2_; repeat (first | (with_reducible first | exact HB.out | apply below_alloc | apply pw_below_drewN | apply below_drew1 | refine below_set ?_ (IsS100.ge HI0.out) | refine below_set ?_ z0_.out | refine below_set ?_ z1_.out | refine below_set ?_ z2_.out) | exact HB.out)) : P := h z0_ z1_ z2_
theorem Zbp {p0 p1 p2 P : Prop} (z0_ : p0) (z1_ : p1) (z2_ : p2) (h : p0 → p1 → p2 → P := by intro z0_ z1_ z2_; repeat (first | (with_reducible first | exact HI0.out | apply IsS100.alloc | apply IsS100.drewN | apply IsS100.drew | apply IsS100.set_1 | apply IsS100.set_2 | refine IsS100.far ?_ z0_.out _ | refine IsS100.far ?_ z1_.out _ | refine IsS100.far ?_ z2_.out _) | exact HI0.out)) : P := h z0_ z1_ z2_
theorem Zbq {p0 p1 P : Prop} (z0_ : p0) (z1_ : p1) (h : p0 → p1 → P := by intro z0_ z1_; (with_reducible repeat (first | refine blk_drewN ?_ _ | refine blk_drew ?_ | refine blk_alloc ?_ _)); refine blk_far ?_ z0_.out _; (with_reducible repeat (first | refine blk_drewN ?_ _ | refine blk_drew ?_ | refine blk_alloc ?_ _)); exact z1_.out) : P := h z0_ z1_
theorem Zbr {p0 P : Prop} (z0_ : p0) (h : p0 → P := by intro z0_; first | (rw [add_block]; exact Kd.own_blk (IsS100.own_ne HI0.out z0_.out (by decide))) | (show (Addr.add _ _).block ≠ _; rw [add_block]; exact Kd.own_blk (IsS100.own_ne HI0.out z0_.out (by decide))) | exact Kd.own_blk (IsS100.own_ne HI0.out z0_.out (by decide))) : P := h z0_
theorem Zbs {p0 P : Prop} (z0_ : p0) (h : p0 → P := by intro z0_; exact ⟨(blk_cell z0_.out 0).trans rfl, (blk_cell z0_.out 1).trans rfl, (blk_cell z0_.out 2).trans rfl, HS3_, HS4_, HS5_, HS6_, HS7_, HS8_, HS9_, HS10_, HS11_, HS12_, HS13_⟩) : P := h z0_
theorem Zbt {P : Prop} (h : P := by simp only [putAll, Act.put, List.setIfInBounds_toArray, List.set_cons_zero, List.set_cons_succ]) : P := h
theorem Zbu {p0 p1 P : Prop} (z0_ : p0) (z1_ : p1) (h : p0 → p1 → P := by intro z0_ z1_; first | exact Kd.own_blk (Kd.R_ne z0_.out z1_.out (by decide)) | (rw [add_block]; exact Kd.own_blk (Kd.R_ne z0_.out z1_.out (by decide))) | (show (Addr.add _ _).block ≠ _; rw [add_block]; exact Kd.own_blk (Kd.R_ne z0_.out z1_.out (by decide))) | (dsimp only; exact Kd.own_blk (Kd.R_ne z0_.out z1_.out (by decide)))) : P := h z0_ z1_
theorem Zbv {p0 P : Prop} (z0_ : p0) (h : p0 → P := by intro z0_; (with_reducible repeat (first | apply Kd.R_alloc | apply Kd.R_drewN | apply Kd.R_drew)); exact (Kd.R_mono (rfZ (Kd.R_mono z0_.out (fun k_ hk => (⟨hk, hk⟩ : _ ∧ k_ ≠ gb299)))) (fun _ h_ => h_.1))) : P := h z0_
theorem Zbw {p0 p1 p2 P : Prop} (z0_ : p0) (z1_ : p1) (z2_ : p2) (h : p0 → p1 → p2 → P := by intro z0_ z1_ z2_; rw [hg]; exact (keep_size (w := w) (g := g) (row := none) (by repeat (first | (with_reducible first | exact HK.out | apply KeepBut.set_ | apply keep_drewN | apply keep_drew | apply keep_alloc | refine keep_far ?_ z0_.out _ | refine keep_far ?_ z1_.out _ | refine keep_far ?_ z2_.out _) | exact HK.out)))) : P := h z0_ z1_ z2_
theorem Zbx {p0 p1 p2 P : Prop} (z0_ : p0) (z1_ : p1) (z2_ : p2) (h : p0 → p1 → p2 → P := by intro z0_ z1_ z2_; rw [hg]; exact Nat.ne_of_lt (IsS100.lt (show IsS100 w0 _ g s0_0 t297 t298 from (by repeat (first | (with_reducible first | exact HI0.out | apply IsS100.alloc | apply IsS100.drewN | apply IsS100.drew | apply IsS100.set_1 | apply IsS100.set_2 | refine IsS100.far ?_ z0_.out _ | refine IsS100.far ?_ z1_.out _ | refine IsS100.far ?_ z2_.out _) | exact HI0.out))))) : P := h z0_ z1_ z2_
theorem Zby {p0 p1 p2 P : Prop} (z0_ : p0) (z1_ : p1) (z2_ : p2) (h : p0 → p1 → p2 → P := by intro z0_ z1_ z2_; rw [hg]; exact Nat.ne_of_gt (IsS100.lt (show IsS100 w0 _ g s0_0 t297 t298 from (by repeat (first | (with_reducible first | exact HI0.out | apply IsS100.alloc | apply IsS100.drewN | apply IsS100.drew | apply IsS100.set_1 | apply IsS100.set_2 | refine IsS100.far ?_ z0_.out _ | refine IsS100.far ?_ z1_.out _ | refine IsS100.far ?_ z2_.out _) | exact HI0.out))))) : P := h z0_ z1_ z2_
theorem Zbz {p0 p1 p2 P : Prop} (z0_ : p0) (z1_ : p1) (z2_ : p2) (h : p0 → p1 → p2 → P := by intro z0_ z1_ z2_; (with_reducible repeat (first | apply Kd.R_alloc | apply Kd.R_drewN | apply Kd.R_drew)); exact Kd.R_mono (Kd.R_far (p := ⟨gb259, 2, none⟩) (Kd.R_far (p := ⟨gb259, 1, none⟩) (Kd.R_far (p := ⟨gb259, 0, none⟩) (Kd.R_far (p := ⟨gb310, 2, none⟩) (Kd.R_far (p := ⟨gb310, 1, none⟩) (Kd.R_far (p := ⟨gb310, 0, none⟩) (Kd.R_types (Kd.R_types z0_.out z1_.out (by decide)) z2_.out (by decide)) (fun _ hk => hk.1.2) (.slice Ao85 t300.length co85)) (fun _ hk => hk.1.2) (.slice Ao91 t303.length co91)) (fun _ hk => hk.1.2) (.slice Ao92 t306.length co92)) (fun _ hk => hk.2) (.slice Ao85 t300.length co85)) (fun _ hk => hk.2) (.slice Ao91 t303.length co91)) (fun _ hk => hk.2) (.slice Ao92 t306.length co92)) (fun _ hk => trivial)) : P := h z0_ z1_ z2_
theorem Zca {p0 p1 p2 p3 P : Prop} (z0_ : p0) (z1_ : p1) (z2_ : p2) (z3_ : p3) (h : p0 → p1 → p2 → p3 → P := by intro z0_ z1_ z2_ z3_; repeat (first | (with_reducible first | exact HI0.out | apply IsS100.alloc | apply IsS100.drewN | apply IsS100.drew | apply IsS100.set_1 | apply IsS100.set_2 | refine IsS100.far ?_ z0_.out _ | refine IsS100.far ?_ z1_.out _ | refine IsS100.far ?_ z2_.out _ | refine IsS100.far ?_ z3_.out _) | exact HI0.out)) : P := h z0_ z1_ z2_ z3_
theorem Zcb {p0 p1 p2 p3 P : Prop} (z0_ : p0) (z1_ : p1) (z2_ : p2) (z3_ : p3) (h : p0 → p1 → p2 → p3 → P := by intro z0_ z1_ z2_ z3_; repeat (first | (with_reducible first | exact HK.out | apply KeepBut.set_ | apply keep_drewN | apply keep_drew | apply keep_alloc | refine keep_far ?_ z0_.out _ | refine keep_far ?_ z1_.out _ | refine keep_far ?_ z2_.out _ | refine keep_far ?_ z3_.out _) | exact HK.out)) : P := h z0_ z1_ z2_ z3_
theorem Zcc {p0 p1 p2 p3 P : Prop} (z0_ : p0) (z1_ : p1) (z2_ : p2) (z3_ : p3) (h : p0 → p1 → p2 → p3 → P := by intro z0_ z1_ z2_ z3_; repeat (first | (with_reducible first | exact HB.out | apply below_alloc | apply pw_below_drewN | apply below_drew1 | refine below_set ?_ (IsS100.ge HI0.out) | refine below_set ?_ z0_.out | refine below_set ?_ z1_.out | refine below_set ?_ z2_.out | refine below_set ?_ z3_.out) | exact HB.out)) : P := h z0_ z1_ z2_ z3_
theorem Zcd {p0 p1 P : Prop} (z0_ : p0) (z1_ : p1) (h : p0 → p1 → P := by intro z0_ z1_; (with_reducible repeat (first | refine blk_drewN ?_ _ | refine blk_drew ?_ | refine blk_alloc ?_ _)); refine blk_far ?_ z0_.out _; (with_reducible repeat (first | refine blk_drewN ?_ _ | refine blk_drew ?_ | refine blk_alloc ?_ _)); refine blk_far ?_ z0_.out _; (with_reducible repeat (first | refine blk_drewN ?_ _ | refine blk_drew ?_ | refine blk_alloc ?_ _)); refine blk_far ?_ z0_.out _; (with_reducible repeat (first | refine blk_drewN ?_ _ | refine blk_drew ?_ | refine blk_alloc ?_ _)); exact z1_.out) : P := h z0_ z1_
theorem Zce {P : Prop} (h : P := by have := HK1.out; have := HK2.out; omega) : P := h
theorem Zcf {p0 p1 p2 P : Prop} (z0_ : p0) (z1_ : p1) (z2_ : p2) (h : p0 → p1 → p2 → P := by intro z0_ z1_ z2_; (with_reducible repeat (first | apply Kd.R_alloc | apply Kd.R_drewN | apply Kd.R_drew)); exact Kd.R_mono (Kd.R_far (p := ⟨gb463, 2, none⟩) (Kd.R_far (p := ⟨gb463, 1, none⟩) (Kd.R_far (p := ⟨gb463, 0, none⟩) (Kd.R_far (p := ⟨gb475, 0, none⟩) (Kd.R_types (Kd.R_types z0_.out z1_.out (by decide)) z2_.out (by decide)) (fun _ hk => hk.1.2) (.slice Ao17 t479.length co17)) (fun _ hk => hk.2) (.slice Ao17 t479.length co17)) (fun _ hk => hk.2) (.slice Ao13 t467.length co13)) (fun _ hk => hk.2) (.slice Ao14 t470.length co14)) (fun _ hk => trivial)) : P := h z0_ z1_ z2_
theorem Zcg {p0 p1 p2 P : Prop} (z0_ : p0) (z1_ : p1) (z2_ : p2) (h : p0 → p1 → p2 → P := by intro z0_ z1_ z2_; (with_reducible repeat (first | apply Kd.R_alloc | apply Kd.R_drewN | apply Kd.R_drew)); exact Kd.R_mono (Kd.R_far (p := ⟨gb463, 2, none⟩) (Kd.R_far (p := ⟨gb463, 1, none⟩) (Kd.R_far (p := ⟨gb463, 0, none⟩) (Kd.R_far (p := ⟨gb475, 1, none⟩) (Kd.R_types (Kd.R_types z0_.out z1_.out (by decide)) z2_.out (by decide)) (fun _ hk => hk.1.2) (.slice Ao34 t484.length co34)) (fun _ hk => hk.2) (.slice Ao9 t464.length co9)) (fun _ hk => hk.2) (.slice Ao34 t484.length co34)) (fun _ hk => hk.2) (.slice Ao14 t470.length co14)) (fun _ hk => trivial)) : P := h z0_ z1_ z2_
theorem Zch {p0 p1 p2 P : Prop} (z0_ : p0) (z1_ : p1) (z2_ : p2) (h : p0 → p1 → p2 → P := by intro z0_ z1_ z2_; (with_reducible repeat (first | apply Kd.R_alloc | apply Kd.R_drewN | apply Kd.R_drew)); exact Kd.R_mono (Kd.R_far (p := ⟨gb463, 2, none⟩) (Kd.R_far (p := ⟨gb463, 1, none⟩) (Kd.R_far (p := ⟨gb463, 0, none⟩) (Kd.R_far (p := ⟨gb475, 2, none⟩) (Kd.R_types (Kd.R_types z0_.out z1_.out (by decide)) z2_.out (by decide)) (fun _ hk => hk.1.2) (.slice Ao58 y498.length co58)) (fun _ hk => hk.2) (.slice Ao9 t464.length co9)) (fun _ hk => hk.2) (.slice Ao13 t467.length co13)) (fun _ hk => hk.2) (.slice Ao58 y498.length co58)) (fun _ hk => trivial)) : P := h z0_ z1_ z2_
theorem Zci {p0 p1 P : Prop} (z0_ : p0) (z1_ : p1) (h : p0 → p1 → P := by intro z0_ z1_; (with_reducible repeat (first | refine blk_drewN ?_ _ | refine blk_drew ?_ | refine blk_alloc ?_ _)); refine blk_far ?_ z0_.out _; (with_reducible repeat (first | refine blk_drewN ?_ _ | refine blk_drew ?_ | refine blk_alloc ?_ _)); refine blk_far ?_ z0_.out _; (with_reducible repeat (first | refine blk_drewN ?_ _ | refine blk_drew ?_ | refine blk_alloc ?_ _)); refine blk_far ?_ z0_.out _; (with_reducible repeat (first | refine blk_drewN ?_ _ | refine blk_drew ?_ | refine blk_alloc ?_ _)); refine blk_far ?_ z0_.out _; (with_reducible repeat (first | refine blk_drewN ?_ _ | refine blk_drew ?_ | refine blk_alloc ?_ _)); exact z1_.out) : P := h z0_ z1_
theorem Zcj {p0 P : Prop} (z0_ : p0) (h : p0 → P := by intro z0_; repeat (first | (with_reducible first | exact HB.out | apply below_alloc | apply pw_below_drewN | apply below_drew1 | refine below_set ?_ (IsS100.ge HI1190.out) | refine below_set ?_ z0_.out) | exact HB.out)) : P := h z0_
theorem Zck {p0 P : Prop} (z0_ : p0) (h : p0 → P := by intro z0_; refine blk_put (cs := #[.string ((rd_T62 l0 x10_1).f0), .int .i64 ((rd_T62 l0 x10_1).f1), .int .i64 ((rd_T62 l0 x10_1).f2), .int .i64 ((rd_T62 l0 x10_1).f3), .int .i64 ((rd_T62 l0 x10_1).f4), .int .i64 ((rd_T62 l0 x10_1).f5), .int .i64 ((rd_T62 l0 x10_1).f6), .int .i64 ((rd_T62 l0 x10_1).f7), .int .i64 0]) ?_ 8 _ rfl; refine blk_put (cs := #[.string ((rd_T62 l0 x10_1).f0), .int .i64 ((rd_T62 l0 x10_1).f1), .int .i64 ((rd_T62 l0 x10_1).f2), .int .i64 ((rd_T62 l0 x10_1).f3), .int .i64 ((rd_T62 l0 x10_1).f4), .int .i64 ((rd_T62 l0 x10_1).f5), .int .i64 ((rd_T62 l0 x10_1).f6), .int .i64 0, .int .i64 0]) ?_ 7 _ rfl; refine blk_put (cs := #[.string ((rd_T62 l0 x10_1).f0), .int .i64 ((rd_T62 l0 x10_1).f1), .int .i64 ((rd_T62 l0 x10_1).f2), .int .i64 ((rd_T62 l0 x10_1).f3), .int .i64 ((rd_T62 l0 x10_1).f4), .int .i64 ((rd_T62 l0 x10_1).f5), .int .i64 0, .int .i64 0, .int .i64 0]) ?_ 6 _ rfl; refine blk_put (cs := #[.string ((rd_T62 l0 x10_1).f0), .int .i64 ((rd_T62 l0 x10_1).f1), .int .i64 ((rd_T62 l0 x10_1).f2), .int .i64 ((rd_T62 l0 x10_1).f3), .int .i64 ((rd_T62 l0 x10_1).f4), .int .i64 0, .int .i64 0, .int .i64 0, .int .i64 0]) ?_ 5 _ rfl; refine blk_put (cs := #[.string ((rd_T62 l0 x10_1).f0), .int .i64 ((rd_T62 l0 x10_1).f1), .int .i64 ((rd_T62 l0 x10_1).f2), .int .i64 ((rd_T62 l0 x10_1).f3), .int .i64 0, .int .i64 0, .int .i64 0, .int .i64 0, .int .i64 0]) ?_ 4 _ rfl; refine blk_put (cs := #[.string ((rd_T62 l0 x10_1).f0), .int .i64 ((rd_T62 l0 x10_1).f1), .int .i64 ((rd_T62 l0 x10_1).f2), .int .i64 0, .int .i64 0, .int .i64 0, .int .i64 0, .int .i64 0, .int .i64 0]) ?_ 3 _ rfl; refine blk_put (cs := #[.string ((rd_T62 l0 x10_1).f0), .int .i64 ((rd_T62 l0 x10_1).f1), .int .i64 0, .int .i64 0, .int .i64 0, .int .i64 0, .int .i64 0, .int .i64 0, .int .i64 0]) ?_ 2 _ rfl; refine blk_put (cs := #[.string ((rd_T62 l0 x10_1).f0), .int .i64 0, .int .i64 0, .int .i64 0, .int .i64 0, .int .i64 0, .int .i64 0, .int .i64 0, .int .i64 0]) ?_ 1 _ rfl; refine blk_put (cs := #[.string (⟨#[]⟩ : ByteArray), .int .i64 0, .int .i64 0, .int .i64 0, .int .i64 0, .int .i64 0, .int .i64 0, .int .i64 0, .int .i64 0]) ?_ 0 _ rfl; exact z0_.out) : P := h z0_
theorem Zcl {p0 P : Prop} (z0_ : p0) (h : p0 → P := by intro z0_; exact ⟨(blk_cell z0_.out 0).trans rfl, (blk_cell z0_.out 1).trans rfl, (blk_cell z0_.out 2).trans rfl, (blk_cell z0_.out 3).trans rfl, (blk_cell z0_.out 4).trans rfl, (blk_cell z0_.out 5).trans rfl, (blk_cell z0_.out 6).trans rfl, (blk_cell z0_.out 7).trans rfl, (blk_cell z0_.out 8).trans rfl⟩) : P := h z0_
theorem Zcm {p0 p1 p2 p3 p4 p5 p6 p7 p8 p9 p10 P : Prop} (z0_ : p0) (z1_ : p1) (z2_ : p2) (z3_ : p3) (z4_ : p4) (z5_ : p5) (z6_ : p6) (z7_ : p7) (z8_ : p8) (z9_ : p9) (z10_ : p10) (h : p0 → p1 → p2 → p3 → p4 → p5 → p6 → p7 → p8 → p9 → p10 → P := by intro z0_ z1_ z2_ z3_ z4_ z5_ z6_ z7_ z8_ z9_ z10_; exact ⟨(blk_cell z0_.out 0).trans rfl, (blk_cell z0_.out 1).trans rfl, (blk_cell z0_.out 2).trans rfl, (blk_cell z1_.out 0).trans rfl, (blk_cell z1_.out 1).trans rfl, (blk_cell z1_.out 2).trans rfl, (blk_cell z1_.out 3).trans rfl, (cbH HB z2_ :), (cbH HB z3_ :), (cbH HB z4_ :), (cbH HB z5_ :), (cbH HB z6_ :), (cbH HB z7_ :), (cbH HB z8_ :), (cbH HB z9_ :), (cbH HB z10_ :)⟩) : P := h z0_ z1_ z2_ z3_ z4_ z5_ z6_ z7_ z8_ z9_ z10_
theorem Zcn {p0 p1 P : Prop} (z0_ : p0) (z1_ : p1) (h : p0 → p1 → P := by intro z0_ z1_; first | exact Nat.ne_of_lt (Nat.lt_of_lt_of_le (by have := World.block_lt_of_cell? _ _ z0_; first | rwa [add_block] at this | exact this) z1_.out) | (rw [add_block]; exact Nat.ne_of_lt (Nat.lt_of_lt_of_le (by have := World.block_lt_of_cell? _ _ z0_; first | rwa [add_block] at this | exact this) z1_.out)) | (show (Addr.add _ _).block ≠ _; rw [add_block]; exact Nat.ne_of_lt (Nat.lt_of_lt_of_le (by have := World.block_lt_of_cell? _ _ z0_; first | rwa [add_block] at this | exact this) z1_.out)) | (dsimp only; exact Nat.ne_of_lt (Nat.lt_of_lt_of_le (by have := World.block_lt_of_cell? _ _ z0_; first | rwa [add_block] at this | exact this) z1_.out))) : P := h z0_ z1_
theorem Zco {P : Prop} (h : P := by first | exact Kd.S_nil _ _ _ _ _ | exact Kd.N_nil _ _ _ _ _ | exact Kd.V_nil _ _ _ _ _ | exact Kd.Q_nil _ _ _ _ _ | exact Kd.R_nil _ _ _ _ _) : P := h
theorem Zcp {p0 P : Prop} (z0_ : p0) (h : p0 → P := by intro z0_; (with_reducible repeat (first | apply Kd.S_alloc | apply Kd.S_drewN | apply Kd.S_drew)); exact z0_.out) : P := h z0_
theorem Zcq {p0 p1 P : Prop} (z0_ : p0) (z1_ : p1) (h : p0 → p1 → P := by intro z0_ z1_; (with_reducible repeat (first | apply Kd.S_alloc | apply Kd.S_drewN | apply Kd.S_drew)); exact (Kd.S_mono (Kd.S_far (p := ⟨gb1204, 3, none⟩) (Kd.S_far (p := ⟨gb1204, 2, none⟩) (Kd.S_far (p := ⟨gb1204, 1, none⟩) (Kd.S_far (p := ⟨gb1204, 0, none⟩) (Kd.S_types z0_.out z1_.out (by decide)) (fun _ hk => hk.2) (.int .i64 ((rd_T39 l0_2 x11_1).f0))) (fun _ hk => hk.2) (.int .i64 ((rd_T39 l0_2 x11_1).f1))) (fun _ hk => hk.2) (.string ((rd_T39 l0_2 x11_1).f2))) (fun _ hk => hk.2) (.int .i64 ((rd_T39 l0_2 x11_1).f3))) (fun _ h_ => h_.1))) : P := h z0_ z1_
theorem Zcr {p0 P : Prop} (z0_ : p0) (h : p0 → P := by intro z0_; (with_reducible repeat (first | apply Kd.S_alloc | apply Kd.S_drewN | apply Kd.S_drew)); exact Kd.S_mono z0_.out (fun _ hk => hk.2)) : P := h z0_
theorem Zcs {p0 P : Prop} (z0_ : p0) (h : p0 → P := by intro z0_; repeat (first | (with_reducible exact z0_.out) | (with_reducible refine Kd.C_alloc ?_ _) | (with_reducible refine Kd.C_drewN ?_ _) | (with_reducible refine Kd.C_drew ?_) | exact z0_.out)) : P := h z0_
theorem Zct {p0 p1 p2 P : Prop} (z0_ : p0) (z1_ : p1) (z2_ : p2) (h : p0 → p1 → p2 → P := by intro z0_ z1_ z2_; exact ⟨(blk_cell z0_.out 0).trans rfl, (blk_cell z0_.out 1).trans rfl, (blk_cell z0_.out 2).trans rfl, (blk_cell z0_.out 3).trans rfl, (blk_cell z0_.out 4).trans rfl, (blk_cell z0_.out 5).trans rfl, (blk_cell z0_.out 6).trans rfl, (blk_cell z0_.out 7).trans rfl, (blk_cell z0_.out 8).trans rfl, (blk_cell z1_.out 0).trans rfl, (blk_cell z1_.out 1).trans rfl, (blk_cell z1_.out 2).trans rfl, (blk_cell z2_.out 0).trans rfl, (blk_cell z2_.out 1).trans rfl, (blk_cell z2_.out 2).trans rfl, (blk_cell z2_.out 3).trans rfl⟩) : P := h z0_ z1_ z2_
theorem Zcu {p0 P : Prop} (z0_ : p0) (h : p0 → P := by intro z0_; (with_reducible repeat (first | apply Kd.N_alloc | apply Kd.N_drewN | apply Kd.N_drew)); exact z0_.out) : P := h z0_
theorem Zcv {p0 P : Prop} (z0_ : p0) (h : p0 → P := by intro z0_; first | exact q1248 | exact of_decide_eq_true (by first | (with_reducible assumption) | assumption) | (have e_ := (Kd.N_reads' z0_.out).1; omega)) : P := h z0_
theorem Zcw {p0 P : Prop} (z0_ : p0) (h : p0 → P := by intro z0_; repeat (first | exact (Kd.N_reads' z0_.out).2.2 | (with_reducible refine Kd.C_alloc ?_ _) | (with_reducible refine Kd.C_drewN ?_ _) | (with_reducible refine Kd.C_drew ?_))) : P := h z0_
theorem Zcx {p0 P : Prop} (z0_ : p0) (h : p0 → P := by intro z0_; repeat (first | (with_reducible first | exact HI1271.out | apply IsS100.alloc | apply IsS100.drewN | apply IsS100.drew | apply IsS100.set_1 | apply IsS100.set_2 | refine IsS100.far ?_ z0_.out _) | exact HI1271.out)) : P := h z0_
theorem Zcy {p0 P : Prop} (z0_ : p0) (h : p0 → P := by intro z0_; repeat (first | (with_reducible first | exact HB.out | apply below_alloc | apply pw_below_drewN | apply below_drew1 | refine below_set ?_ (IsS100.ge HI1271.out) | refine below_set ?_ z0_.out) | exact HB.out)) : P := h z0_
theorem Zcz {p0 p1 P : Prop} (z0_ : p0) (z1_ : p1) (h : p0 → p1 → P := by intro z0_ z1_; repeat (first | (with_reducible first | exact HI1271.out | apply IsS100.alloc | apply IsS100.drewN | apply IsS100.drew | apply IsS100.set_1 | apply IsS100.set_2 | refine IsS100.far ?_ z0_.out _ | refine IsS100.far ?_ z1_.out _) | exact HI1271.out)) : P := h z0_ z1_
theorem Zda {p0 p1 P : Prop} (z0_ : p0) (z1_ : p1) (h : p0 → p1 → P := by intro z0_ z1_; repeat (first | (with_reducible first | exact HB.out | apply below_alloc | apply pw_below_drewN | apply below_drew1 | refine below_set ?_ (IsS100.ge HI1271.out) | refine below_set ?_ z0_.out | refine below_set ?_ z1_.out) | exact HB.out)) : P := h z0_ z1_
theorem Zdb {p0 P : Prop} (z0_ : p0) (h : p0 → P := by intro z0_; (with_reducible repeat (first | apply Kd.N_alloc | apply Kd.N_drewN | apply Kd.N_drew)); exact (Kd.N_mono (Kd.N_far (p := ⟨gb1367, 2, none⟩) (Kd.N_far (p := ⟨gb1367, 1, none⟩) (Kd.N_far (p := ⟨gb1367, 0, none⟩) (Kd.N_mono z0_.out (fun k_ hk => (⟨hk, hk.2⟩ : _ ∧ k_ ≠ gb1367))) (fun _ hk => hk.2) (.slice Ao28 t1357.length co28)) (fun _ hk => hk.2) (.slice Ao31 t1360.length co31)) (fun _ hk => hk.2) (.slice Ao32 t1363.length co32)) (fun _ h_ => h_.1))) : P := h z0_
theorem Zdc {p0 P : Prop} (z0_ : p0) (h : p0 → P := by intro z0_; (with_reducible repeat (first | apply Kd.N_alloc | apply Kd.N_drewN | apply Kd.N_drew)); exact Kd.N_mono z0_.out (fun _ hk => ⟨hk.1, ⟨hk.2.2.1, ⟨hk.2.2.2.1, ⟨hk.2.2.2.2.1, ⟨hk.2.2.2.2.2.1, ⟨hk.2.2.2.2.2.2.1, ⟨hk.2.2.2.2.2.2.2.1, ⟨hk.2.2.2.2.2.2.2.2.1, hk.2.2.2.2.2.2.2.2.2⟩⟩⟩⟩⟩⟩⟩⟩)) : P := h z0_
theorem Zdd {p0 p1 P : Prop} (z0_ : p0) (z1_ : p1) (h : p0 → p1 → P := by intro z0_ z1_; repeat (first | (with_reducible first | exact HI1389.out | apply IsS95.alloc | apply IsS95.drewN | apply IsS95.drew | apply IsS95.set_1 | apply IsS95.set_2 | refine IsS95.far ?_ z0_.out _ | refine IsS95.far ?_ z1_.out _) | exact HI1389.out)) : P := h z0_ z1_
theorem Zde {p0 P : Prop} (z0_ : p0) (h : p0 → P := by intro z0_; (with_reducible repeat (first | apply Kd.N_alloc | apply Kd.N_drewN | apply Kd.N_drew)); exact Kd.N_mono z0_.out (fun _ hk => ⟨hk.1.1, ⟨hk.1.2.1, ⟨hk.1.2.2.1, ⟨hk.1.2.2.2.1, ⟨hk.1.2.2.2.2.1, ⟨hk.1.2.2.2.2.2.1, ⟨hk.1.2.2.2.2.2.2.1, ⟨hk.1.2.2.2.2.2.2.2.1, hk.1.2.2.2.2.2.2.2.2⟩⟩⟩⟩⟩⟩⟩⟩)) : P := h z0_
theorem Zdf {p0 P : Prop} (z0_ : p0) (h : p0 → P := by intro z0_; first | exact q1399 | exact of_decide_eq_true (by first | (with_reducible assumption) | assumption) | (have e_ := (Kd.N_reads' z0_.out).1; omega)) : P := h z0_
theorem Zdg {P : Prop} (h : P := by have := HJ11.out; have := HK2.out; have := HJ57.out; have := HJ83.out; have := HK5.out; have := HJ98.out; omega) : P := h
theorem Zdh {p0 P : Prop} (z0_ : p0) (h : p0 → P := by intro z0_; first | exact q1403 | exact of_decide_eq_true (by first | (with_reducible assumption) | assumption) | (have e_ := (Kd.N_reads' z0_.out).1; omega)) : P := h z0_
theorem Zdi {P : Prop} (h : P := by rw [List.length_append, List.length_singleton]; omega) : P := h
end Go.Proofs.Ythhijbdekboahaa.F
namespace Go.Proofs.Ythhijbdekboahaa.F
open Go.RowKit Go.Proofs.YthhijbdekboahaaW.PrintWords Go.Proofs.YthhijbdekboahaaW.PrintLast Go.Proofs.YthhijbdekboahaaW.PrintMore
attribute [local go_sem] max2_int min2_int max_two min_two max_three min_three max_four min_four
set_option linter.unusedVariables false
set_option linter.unusedSimpArgs false
def laws_big.f (l0 : List Int) : Option (Bool) := some (decide ((l0.length : Int) > 4096))
set_option maxHeartbeats 8000000 in
set_option maxRecDepth 100000 in
theorem laws_big.calls (A0 : Option Addr) (c0 : Nat) (l0 : List Int) (r : Bool) (w : World) (hr0 : Kd.C (Kd.int .u8) w A0 l0.length l0) (hc0 : l0.length ≤ c0) (h : laws_big.f l0 = some r) :
  Calls Try.prog 8 #[.slice A0 l0.length c0] w fun e w' => e = .returned (.bool r) ∧ Drawn0 w w' := by
 have HR0 := am_ hr0; have HC0 := am_ hc0; clear hr0 hc0; have H : (some (decide ((l0.length : Int) > 4096))) = some r := h; clear h; obtain rfl := Option.some.inj H
 go_enter Try.func8, Try.ntmps8
 go_wp2
 go_ret
 exact ⟨Za, Zb⟩
end Go.Proofs.Ythhijbdekboahaa.F
namespace Go.Proofs.Ythhijbdekboahaa.F
open Go.RowKit Go.Proofs.YthhijbdekboahaaW.PrintWords Go.Proofs.YthhijbdekboahaaW.PrintLast Go.Proofs.YthhijbdekboahaaW.PrintMore
attribute [local go_sem] max2_int min2_int max_two min_two max_three min_three max_four min_four
set_option linter.unusedVariables false
set_option linter.unusedSimpArgs false
def laws_likeInts.l0 : Nat → List Int → List Int → Int → Option (Bool)
 | 0, _, _, _ => none
 | k + 1, x0, x1, x5 => if x5 < (x0.length : Int) then (if 0 ≤ x5 then (if x5 < (x1.length : Int) then (if (rd x0 x5) = (rd x1 x5) then (laws_likeInts.l0 k x0 x1 (wrap64 (x5 + 1))) else (some false)) else (none)) else (none)) else (some true)
def laws_likeInts.f (k : Nat) (l0 : List Int) (l1 : List Int) : Option (Bool) := if (l0.length : Int) = (l1.length : Int) then (laws_likeInts.l0 k l0 l1 0) else (some false)
set_option maxHeartbeats 8000000 in
set_option maxRecDepth 100000 in
theorem laws_likeInts.calls (k : Nat) (A0 : Option Addr) (c0 : Nat) (l0 : List Int) (A1 : Option Addr) (c1 : Nat) (l1 : List Int) (r : Bool) (w : World) (hr0 : Kd.C (Kd.int .i64) w A0 l0.length l0) (hc0 : l0.length ≤ c0) (hr1 : Kd.C (Kd.int .i64) w A1 l1.length l1) (hc1 : l1.length ≤ c1) (h : laws_likeInts.f k l0 l1 = some r) :
  Calls Try.prog 14 #[.slice A0 l0.length c0, .slice A1 l1.length c1] w fun e w' => e = .returned (.bool r) ∧ Drawn0 w w' := by
 have HR0 := am_ hr0; have HC0 := am_ hc0; clear hr0 hc0; have HR1 := am_ hr1; have HC1 := am_ hc1; clear hr1 hc1; have H : (if (l0.length : Int) = (l1.length : Int) then (laws_likeInts.l0 k l0 l1 0) else (some false)) = some r := h; clear h
 by_cases c3 : (l0.length : Int) = (l1.length : Int)
 ·rw [if_pos c3] at H
  have c3b0 := beq_iff_eq.mpr c3; have c3b1 := bne_eq_false_iff_eq.mpr c3
  have c3b2 : (l0.length == l1.length) = true := by first | simpa using c3 | (simp at c3 ⊢; omega)
  clear c3; have H' := am_ H; clear H
  go_enter Try.func14, Try.ntmps14
  go_wp2
  repeat (go_quiet (fail); try go_wp2)
  go_loopg [5] k (fun kq v5 w' => ∃ (x5_1 : Int), v5 = .int .i64 x5_1 ∧ Aside0 (laws_likeInts.l0 kq l0 l1 x5_1 = some r) ∧ Aside0 (kq ≤ k) ∧ Drawn0 w w')
  case atStart => exact ⟨(0), Za, H', ⟨Nat.le_refl _⟩, Zb⟩
  case round =>
   clear H'
   try clear c1
   try clear p2
   try clear c3
   try clear c3b0
   try clear c3b1
   try clear c3b2
   obtain ⟨x5_1, rfl, HA, HK1, ⟨m1, rfl⟩⟩ := hrel
   cases gk with
   | zero => exact absurd HA.out (by simp [laws_likeInts.l0])
   | succ k1 =>
    have H := HA.out; clear HA; simp only [laws_likeInts.l0] at H
    by_cases c4 : x5_1 < (l0.length : Int)
    ·rw [if_pos c4] at H
     have c4b0 := decide_eq_true c4; clear c4
     by_cases c5 : 0 ≤ x5_1
     ·rw [if_pos c5] at H
      have c5b0 := decide_eq_true c5; clear c5
      by_cases c6 : x5_1 < (l1.length : Int)
      ·rw [if_pos c6] at H
       have c6b0 := decide_eq_true c6; clear c6
       by_cases c7 : (rd l0 x5_1) = (rd l1 x5_1)
       ·rw [if_pos c7] at H
        have c7b0 := beq_iff_eq.mpr c7; have c7b1 := bne_eq_false_iff_eq.mpr c7; clear c7; have H' := am_ H; clear H; have p653 : 0 ≤ (x5_1 : Int) := of_decide_eq_true Zc; have q653 : x5_1 < (l0.length : Int) := of_decide_eq_true Zc; obtain ⟨ad653, e653, hx653_0⟩ := Kd.at_int HR0.out x5_1 p653 q653
        cases e653
        replace p653 := eq_true p653; replace q653 := eq_true q653; have p654 : 0 ≤ (x5_1 : Int) := of_decide_eq_true Zc; have q654 : x5_1 < (l1.length : Int) := of_decide_eq_true Zc; obtain ⟨ad654, e654, hx654_0⟩ := Kd.at_int HR1.out x5_1 p654 q654
        cases e654
        replace p654 := eq_true p654; replace q654 := eq_true q654
        go_wp2
        repeat (go_quiet (fail); try go_wp2)
        go_roundg k1
        case measure => have := HK1.out; omega
        case rel => exact ⟨(wrap64 (x5_1 + 1)), Za, H', ⟨Zd⟩, Zb⟩
       ·rw [if_neg c7] at H
        have c7b0 := beq_eq_false_iff_ne.mpr c7; have c7b1 := bne_iff_ne.mpr c7; obtain rfl := Option.some.inj H; have p653 : 0 ≤ (x5_1 : Int) := of_decide_eq_true Zc; have q653 : x5_1 < (l0.length : Int) := of_decide_eq_true Zc; obtain ⟨ad653, e653, hx653_0⟩ := Kd.at_int HR0.out x5_1 p653 q653
        cases e653
        replace p653 := eq_true p653; replace q653 := eq_true q653; have p654 : 0 ≤ (x5_1 : Int) := of_decide_eq_true Zc; have q654 : x5_1 < (l1.length : Int) := of_decide_eq_true Zc; obtain ⟨ad654, e654, hx654_0⟩ := Kd.at_int HR1.out x5_1 p654 q654
        cases e654
        replace p654 := eq_true p654; replace q654 := eq_true q654
        go_wp2
        repeat (go_quiet (fail); try go_wp2)
        go_ret
        exact ⟨Za, Zb⟩
      ·rw [if_neg c6] at H
       exact absurd H (by simp)
     ·rw [if_neg c5] at H
      exact absurd H (by simp)
    ·rw [if_neg c4] at H
     have c4b0 := decide_eq_false c4; clear c4; obtain rfl := Option.some.inj H
     go_wp2
     repeat (go_quiet (fail); try go_wp2)
     go_ret
     exact ⟨Za, Zb⟩
 ·rw [if_neg c3] at H
  have c3b0 := beq_eq_false_iff_ne.mpr c3; have c3b1 := bne_iff_ne.mpr c3
  have c3b2 : (l0.length == l1.length) = false := by first | simpa using c3 | (simp at c3 ⊢; omega)
  obtain rfl := Option.some.inj H
  go_enter Try.func14, Try.ntmps14
  go_wp2
  repeat (go_quiet (fail); try go_wp2)
  go_ret
  exact ⟨Za, Zb⟩
def laws_hasInt.l0 : Nat → List Int → Int → Int → Option (Bool)
 | 0, _, _, _ => none
 | k + 1, x0, x1, x5 => if x5 < (x0.length : Int) then (if 0 ≤ x5 then (if (rd x0 x5) = x1 then (some true) else (laws_hasInt.l0 k x0 x1 (wrap64 (x5 + 1)))) else (none)) else (some false)
def laws_hasInt.f (k : Nat) (l0 : List Int) (a1 : Int) : Option (Bool) := laws_hasInt.l0 k l0 a1 0
set_option maxHeartbeats 8000000 in
set_option maxRecDepth 100000 in
theorem laws_hasInt.calls (k : Nat) (A0 : Option Addr) (c0 : Nat) (l0 : List Int) (a1 : Int) (r : Bool) (w : World) (hr0 : Kd.C (Kd.int .i64) w A0 l0.length l0) (hc0 : l0.length ≤ c0) (h : laws_hasInt.f k l0 a1 = some r) :
  Calls Try.prog 15 #[.slice A0 l0.length c0, .int .i64 a1] w fun e w' => e = .returned (.bool r) ∧ Drawn0 w w' := by
 have HR0 := am_ hr0; have HC0 := am_ hc0; clear hr0 hc0; have H : (laws_hasInt.l0 k l0 a1 0) = some r := h; clear h; have H' := am_ H; clear H
 go_enter Try.func15, Try.ntmps15
 go_wp2
 go_loopg [5] k (fun kq v5 w' => ∃ (x5_1 : Int), v5 = .int .i64 x5_1 ∧ Aside0 (laws_hasInt.l0 kq l0 a1 x5_1 = some r) ∧ Aside0 (kq ≤ k) ∧ Drawn0 w w')
 case atStart => exact ⟨(0), Za, H', ⟨Nat.le_refl _⟩, Zb⟩
 case round =>
  clear H'
  try clear c1
  try clear p2
  obtain ⟨x5_1, rfl, HA, HK1, ⟨m1, rfl⟩⟩ := hrel
  cases gk with
  | zero => exact absurd HA.out (by simp [laws_hasInt.l0])
  | succ k1 =>
   have H := HA.out; clear HA; simp only [laws_hasInt.l0] at H
   by_cases c3 : x5_1 < (l0.length : Int)
   ·rw [if_pos c3] at H
    have c3b0 := decide_eq_true c3; clear c3
    by_cases c4 : 0 ≤ x5_1
    ·rw [if_pos c4] at H
     have c4b0 := decide_eq_true c4; clear c4
     by_cases c5 : (rd l0 x5_1) = a1
     ·rw [if_pos c5] at H
      have c5b0 := beq_iff_eq.mpr c5; have c5b1 := bne_eq_false_iff_eq.mpr c5; clear c5; obtain rfl := Option.some.inj H; have p655 : 0 ≤ (x5_1 : Int) := of_decide_eq_true Zc; have q655 : x5_1 < (l0.length : Int) := of_decide_eq_true Zc; obtain ⟨ad655, e655, hx655_0⟩ := Kd.at_int HR0.out x5_1 p655 q655
      cases e655
      replace p655 := eq_true p655; replace q655 := eq_true q655
      go_wp2
      go_ret
      exact ⟨Za, Zb⟩
     ·rw [if_neg c5] at H
      have c5b0 := beq_eq_false_iff_ne.mpr c5; have c5b1 := bne_iff_ne.mpr c5; have H' := am_ H; clear H; have p655 : 0 ≤ (x5_1 : Int) := of_decide_eq_true Zc; have q655 : x5_1 < (l0.length : Int) := of_decide_eq_true Zc; obtain ⟨ad655, e655, hx655_0⟩ := Kd.at_int HR0.out x5_1 p655 q655
      cases e655
      replace p655 := eq_true p655; replace q655 := eq_true q655
      go_wp2
      go_roundg k1
      case measure => have := HK1.out; omega
      case rel => exact ⟨(wrap64 (x5_1 + 1)), Za, H', ⟨Zd⟩, Zb⟩
    ·rw [if_neg c4] at H
     exact absurd H (by simp)
   ·rw [if_neg c3] at H
    have c3b0 := decide_eq_false c3; clear c3; obtain rfl := Option.some.inj H
    go_wp2
    go_ret
    exact ⟨Za, Zb⟩
def laws_likeRows.l0 : Nat → List (List Int) → List (List Int) → Int → Option (Bool)
 | 0, _, _, _ => none
 | k + 1, x0, x1, x5 => if x5 < (x0.length : Int) then (if 0 ≤ x5 then (if x5 < (x1.length : Int) then ((laws_likeInts.f k (rd_L6 x0 x5) (rd_L6 x1 x5)).bind fun t1144 => (if t1144 = true then (laws_likeRows.l0 k x0 x1 (wrap64 (x5 + 1))) else (some false))) else (none)) else (none)) else (some true)
def laws_likeRows.f (k : Nat) (l0 : List (List Int)) (l1 : List (List Int)) : Option (Bool) := if (l0.length : Int) = (l1.length : Int) then (laws_likeRows.l0 k l0 l1 0) else (some false)
set_option maxHeartbeats 8000000 in
set_option maxRecDepth 100000 in
theorem laws_likeRows.calls (k : Nat) (A0 : Option Addr) (c0 : Nat) (l0 : List (List Int)) (A1 : Option Addr) (c1 : Nat) (l1 : List (List Int)) (r : Bool) (w : World) (hr0 : Kd.C (Kd.slice 2 (Kd.int .i64)) w A0 l0.length l0) (hc0 : l0.length ≤ c0) (hr1 : Kd.C (Kd.slice 2 (Kd.int .i64)) w A1 l1.length l1) (hc1 : l1.length ≤ c1) (h : laws_likeRows.f k l0 l1 = some r) :
  Calls Try.prog 34 #[.slice A0 l0.length c0, .slice A1 l1.length c1] w fun e w' => e = .returned (.bool r) ∧ Drawn0 w w' := by
 have HR0 := am_ hr0; have HC0 := am_ hc0; clear hr0 hc0; have HR1 := am_ hr1; have HC1 := am_ hc1; clear hr1 hc1; have H : (if (l0.length : Int) = (l1.length : Int) then (laws_likeRows.l0 k l0 l1 0) else (some false)) = some r := h; clear h
 by_cases c3 : (l0.length : Int) = (l1.length : Int)
 ·rw [if_pos c3] at H
  have c3b0 := beq_iff_eq.mpr c3; have c3b1 := bne_eq_false_iff_eq.mpr c3
  have c3b2 : (l0.length == l1.length) = true := by first | simpa using c3 | (simp at c3 ⊢; omega)
  clear c3; have H' := am_ H; clear H
  go_enter Try.func34, Try.ntmps34
  go_wp2
  repeat (go_quiet (fail); try go_wp2)
  go_loopg [5] k (fun kq v5 w' => ∃ (x5_1 : Int), v5 = .int .i64 x5_1 ∧ Aside0 (laws_likeRows.l0 kq l0 l1 x5_1 = some r) ∧ Aside0 (kq ≤ k) ∧ Drawn0 w w')
  case atStart => exact ⟨(0), Za, H', ⟨Nat.le_refl _⟩, Zb⟩
  case round =>
   clear H'
   try clear c1
   try clear p2
   try clear c3
   try clear c3b0
   try clear c3b1
   try clear c3b2
   obtain ⟨x5_1, rfl, HA, HK1, ⟨m1, rfl⟩⟩ := hrel
   cases gk with
   | zero => exact absurd HA.out (by simp [laws_likeRows.l0])
   | succ k1 =>
    have H := HA.out; clear HA; simp only [laws_likeRows.l0] at H
    by_cases c4 : x5_1 < (l0.length : Int)
    ·rw [if_pos c4] at H
     have c4b0 := decide_eq_true c4; clear c4
     by_cases c5 : 0 ≤ x5_1
     ·rw [if_pos c5] at H
      have c5b0 := decide_eq_true c5; clear c5
      by_cases c6 : x5_1 < (l1.length : Int)
      ·rw [if_pos c6] at H
       have c6b0 := decide_eq_true c6; clear c6; replace H := Option.bind_eq_some_iff.mp H; obtain ⟨t1144, A70, H⟩ := H; have A7 := am_ A70; clear A70
       by_cases c8 : t1144 = true
       ·subst c8
        rw [if_pos rfl] at H; have H' := am_ H; clear H; have p1142 : 0 ≤ (x5_1 : Int) := of_decide_eq_true Zc; have q1142 : x5_1 < (l0.length : Int) := of_decide_eq_true Zc; obtain ⟨ad1142, A1142_0, c1142_0, e1142, hx1142_0, hl1142_0, hi1142_0⟩ := at_L6 HR0.out x5_1 p1142 q1142
        cases e1142
        have HR1142_0 := am_ hi1142_0; have HC1142_0 := am_ hl1142_0; clear hi1142_0 hl1142_0; replace p1142 := eq_true p1142; replace q1142 := eq_true q1142; have p1143 : 0 ≤ (x5_1 : Int) := of_decide_eq_true Zc; have q1143 : x5_1 < (l1.length : Int) := of_decide_eq_true Zc; obtain ⟨ad1143, A1143_0, c1143_0, e1143, hx1143_0, hl1143_0, hi1143_0⟩ := at_L6 HR1.out x5_1 p1143 q1143
        cases e1143
        have HR1143_0 := am_ hi1143_0; have HC1143_0 := am_ hl1143_0; clear hi1143_0 hl1143_0; replace p1143 := eq_true p1143; replace q1143 := eq_true q1143
        go_wp2_with (first | (go_at_call 14; (with_reducible refine (laws_likeInts.calls k1 _ _ (rd_L6 l0 x5_1) _ _ (rd_L6 l1 x5_1) true _ ?_ ?_ ?_ ?_ A7.out).mono ?_); exact (Ze HR1142_0); exact HC1142_0.out; exact (Ze HR1143_0); exact HC1143_0.out; rintro e w' ⟨rfl, ⟨nd, rfl⟩⟩; (try first | exact ⟨rfl, _, World.drewN_drewN _ _ _⟩ | exact ⟨rfl, _, Eq.trans (World.drewN_drewN _ _ _) (congrArg (World.drewN _) (Nat.add_assoc _ _ _))⟩)))
        repeat (go_quiet (first | (go_at_call 14; (with_reducible refine (laws_likeInts.calls k1 _ _ (rd_L6 l0 x5_1) _ _ (rd_L6 l1 x5_1) true _ ?_ ?_ ?_ ?_ A7.out).mono ?_); exact (Ze HR1142_0); exact HC1142_0.out; exact (Ze HR1143_0); exact HC1143_0.out; rintro e w' ⟨rfl, ⟨nd, rfl⟩⟩; (try first | exact ⟨rfl, _, World.drewN_drewN _ _ _⟩ | exact ⟨rfl, _, Eq.trans (World.drewN_drewN _ _ _) (congrArg (World.drewN _) (Nat.add_assoc _ _ _))⟩))); try go_wp2_with (first | (go_at_call 14; (with_reducible refine (laws_likeInts.calls k1 _ _ (rd_L6 l0 x5_1) _ _ (rd_L6 l1 x5_1) true _ ?_ ?_ ?_ ?_ A7.out).mono ?_); exact (Ze HR1142_0); exact HC1142_0.out; exact (Ze HR1143_0); exact HC1143_0.out; rintro e w' ⟨rfl, ⟨nd, rfl⟩⟩; (try first | exact ⟨rfl, _, World.drewN_drewN _ _ _⟩ | exact ⟨rfl, _, Eq.trans (World.drewN_drewN _ _ _) (congrArg (World.drewN _) (Nat.add_assoc _ _ _))⟩))))
        go_roundg k1
        case measure => have := HK1.out; omega
        case rel => exact ⟨(wrap64 (x5_1 + 1)), Za, H', ⟨Zd⟩, Zb⟩
       ·replace c8 := Bool.eq_false_iff.mpr c8
        subst c8; rw [if_neg (show ¬ (false = true) by decide)] at H; obtain rfl := Option.some.inj H; have p1142 : 0 ≤ (x5_1 : Int) := of_decide_eq_true Zc; have q1142 : x5_1 < (l0.length : Int) := of_decide_eq_true Zc; obtain ⟨ad1142, A1142_0, c1142_0, e1142, hx1142_0, hl1142_0, hi1142_0⟩ := at_L6 HR0.out x5_1 p1142 q1142
        cases e1142
        have HR1142_0 := am_ hi1142_0; have HC1142_0 := am_ hl1142_0; clear hi1142_0 hl1142_0; replace p1142 := eq_true p1142; replace q1142 := eq_true q1142; have p1143 : 0 ≤ (x5_1 : Int) := of_decide_eq_true Zc; have q1143 : x5_1 < (l1.length : Int) := of_decide_eq_true Zc; obtain ⟨ad1143, A1143_0, c1143_0, e1143, hx1143_0, hl1143_0, hi1143_0⟩ := at_L6 HR1.out x5_1 p1143 q1143
        cases e1143
        have HR1143_0 := am_ hi1143_0; have HC1143_0 := am_ hl1143_0; clear hi1143_0 hl1143_0; replace p1143 := eq_true p1143; replace q1143 := eq_true q1143
        go_wp2_with (first | (go_at_call 14; (with_reducible refine (laws_likeInts.calls k1 _ _ (rd_L6 l0 x5_1) _ _ (rd_L6 l1 x5_1) false _ ?_ ?_ ?_ ?_ A7.out).mono ?_); exact (Ze HR1142_0); exact HC1142_0.out; exact (Ze HR1143_0); exact HC1143_0.out; rintro e w' ⟨rfl, ⟨nd, rfl⟩⟩; (try first | exact ⟨rfl, _, World.drewN_drewN _ _ _⟩ | exact ⟨rfl, _, Eq.trans (World.drewN_drewN _ _ _) (congrArg (World.drewN _) (Nat.add_assoc _ _ _))⟩)))
        repeat (go_quiet (first | (go_at_call 14; (with_reducible refine (laws_likeInts.calls k1 _ _ (rd_L6 l0 x5_1) _ _ (rd_L6 l1 x5_1) false _ ?_ ?_ ?_ ?_ A7.out).mono ?_); exact (Ze HR1142_0); exact HC1142_0.out; exact (Ze HR1143_0); exact HC1143_0.out; rintro e w' ⟨rfl, ⟨nd, rfl⟩⟩; (try first | exact ⟨rfl, _, World.drewN_drewN _ _ _⟩ | exact ⟨rfl, _, Eq.trans (World.drewN_drewN _ _ _) (congrArg (World.drewN _) (Nat.add_assoc _ _ _))⟩))); try go_wp2_with (first | (go_at_call 14; (with_reducible refine (laws_likeInts.calls k1 _ _ (rd_L6 l0 x5_1) _ _ (rd_L6 l1 x5_1) false _ ?_ ?_ ?_ ?_ A7.out).mono ?_); exact (Ze HR1142_0); exact HC1142_0.out; exact (Ze HR1143_0); exact HC1143_0.out; rintro e w' ⟨rfl, ⟨nd, rfl⟩⟩; (try first | exact ⟨rfl, _, World.drewN_drewN _ _ _⟩ | exact ⟨rfl, _, Eq.trans (World.drewN_drewN _ _ _) (congrArg (World.drewN _) (Nat.add_assoc _ _ _))⟩))))
        go_ret
        exact ⟨Za, Zb⟩
      ·rw [if_neg c6] at H
       exact absurd H (by simp)
     ·rw [if_neg c5] at H
      exact absurd H (by simp)
    ·rw [if_neg c4] at H
     have c4b0 := decide_eq_false c4; clear c4; obtain rfl := Option.some.inj H
     go_wp2
     repeat (go_quiet (fail); try go_wp2)
     go_ret
     exact ⟨Za, Zb⟩
 ·rw [if_neg c3] at H
  have c3b0 := beq_eq_false_iff_ne.mpr c3; have c3b1 := bne_iff_ne.mpr c3
  have c3b2 : (l0.length == l1.length) = false := by first | simpa using c3 | (simp at c3 ⊢; omega)
  obtain rfl := Option.some.inj H
  go_enter Try.func34, Try.ntmps34
  go_wp2
  repeat (go_quiet (fail); try go_wp2)
  go_ret
  exact ⟨Za, Zb⟩
def IsS100 (w0 W : World) (g : Nat) (f0 : List Int) (f1 : Int) (f2 : Int) : Prop := ∃ A0 c0, W.heap[g]? = some (.cells #[.slice A0 f0.length c0, .int .i64 f1, .int .i64 f2] 100 (0, 0)) ∧ w0.heap.size ≤ g ∧ Kd.C (Kd.int .u8) w0 A0 f0.length f0
theorem IsS100.grown {w0 W : World} {g : Nat} {f0 : List Int} {f1 : Int} {f2 : Int} {W1 : World} {row : Option Nat} (h : IsS100 w0 W g f0 f1 f2) (hw : W.grownBy W1 row) (hne : some g ≠ row) : IsS100 w0 W1 g f0 f1 f2 := by
 obtain ⟨A0, c0, hb, hg, hr0⟩ := h; exact ⟨A0, c0, blk_grown hb hw hne, hg, hr0⟩
theorem IsS100.kept {w0 W : World} {g : Nat} {f0 : List Int} {f1 : Int} {f2 : Int} {W1 : World} {S : Nat → Prop} (h : IsS100 w0 W g f0 f1 f2) (hk : Kept W W1 S) (hne : ¬ S g) : IsS100 w0 W1 g f0 f1 f2 := by
 obtain ⟨A0, c0, hb, hg, hr0⟩ := h; exact ⟨A0, c0, blk_kept hb hk hne, hg, hr0⟩
theorem IsS100.below {w0 W : World} {g : Nat} {f0 : List Int} {f1 : Int} {f2 : Int} {W1 : World} (h : IsS100 w0 W g f0 f1 f2) (hw : Below W.heap.size W W1) : IsS100 w0 W1 g f0 f1 f2 := h.grown (grown_of_below hw none) (by simp)
theorem IsS100.alloc {w0 W : World} {g : Nat} {f0 : List Int} {f1 : Int} {f2 : Int} (h : IsS100 w0 W g f0 f1 f2) (o : Obj) : IsS100 w0 (W.alloc o) g f0 f1 f2 := h.below (below_alloc (Below.refl _ _) o)
theorem IsS100.drewN {w0 W : World} {g : Nat} {f0 : List Int} {f1 : Int} {f2 : Int} (h : IsS100 w0 W g f0 f1 f2) (m : Nat) : IsS100 w0 (W.drewN m) g f0 f1 f2 := h
theorem IsS100.drew {w0 W : World} {g : Nat} {f0 : List Int} {f1 : Int} {f2 : Int} (h : IsS100 w0 W g f0 f1 f2) : IsS100 w0 W.drew g f0 f1 f2 := h
theorem IsS100.at_ {w0 W : World} {g : Nat} {f0 : List Int} {f1 : Int} {f2 : Int} {w' : World} {m : Nat} (hq : W.drewN m = w') (h : IsS100 w0 W g f0 f1 f2) : IsS100 w0 w' g f0 f1 f2 := by subst hq; exact IsS100.drewN h m
theorem IsS100.apart {w0 W : World} {g : Nat} {f0 : List Int} {f1 : Int} {f2 : Int} {α : Type} {d : Kd α} {e : Nat} {base : Nat} {ok : Nat → Prop} {v : Value} {xs : List α} (h : IsS100 w0 W g f0 f1 f2) (ho : d.R e W base ok v xs) (ht : ∀ q, q ∈ e :: d.E → q ≠ 100) : d.R e W base (fun k => ok k ∧ k ≠ g) v xs := by
 obtain ⟨A0, c0, hb, hg, hr0⟩ := h; exact Kd.R_types ho hb ht
theorem IsS100.own_ne {w0 W : World} {g : Nat} {f0 : List Int} {f1 : Int} {f2 : Int} {α : Type} {d : Kd α} {e : Nat} {base : Nat} {ok : Nat → Prop} {v : Value} {xs : List α} (h : IsS100 w0 W g f0 f1 f2) (ho : d.R e W base ok v xs) (ht : e ≠ 100) : some g ≠ v.ownBlock := by
 obtain ⟨A0, c0, hb, hg, hr0⟩ := h; exact Kd.R_ne ho hb ht
theorem IsS100.lt {w0 W : World} {g : Nat} {f0 : List Int} {f1 : Int} {f2 : Int} (h : IsS100 w0 W g f0 f1 f2) : g < W.heap.size := by
 obtain ⟨A0, c0, hb, hg, hr0⟩ := h; exact blk_lt hb
theorem IsS100.ge {w0 W : World} {g : Nat} {f0 : List Int} {f1 : Int} {f2 : Int} (h : IsS100 w0 W g f0 f1 f2) : w0.heap.size ≤ g := by
 obtain ⟨A0, c0, hb, hg, hr0⟩ := h; exact hg
theorem IsS100.ne_blk {w0 W : World} {g : Nat} {f0 : List Int} {f1 : Int} {f2 : Int} {a : Nat} {cs : Array Value} {t : TypeId} {fr : Nat × Nat} (h : IsS100 w0 W g f0 f1 f2) (hb2 : W.heap[a]? = some (.cells cs t fr)) (ht : t ≠ 100) : g ≠ a := by
 obtain ⟨A0, c0, hb, hg, hr0⟩ := h; rintro rfl; rw [hb] at hb2; injection hb2 with hb2; injection hb2 with _ ht2; exact ht ht2.symm
theorem IsS100.far {w0 W : World} {g : Nat} {f0 : List Int} {f1 : Int} {f2 : Int} {p : Addr} (h : IsS100 w0 W g f0 f1 f2) (hne : g ≠ p.block) (u : Value) : IsS100 w0 (W.setCell p u) g f0 f1 f2 := by
 obtain ⟨A0, c0, hb, hg, hr0⟩ := h; exact ⟨A0, c0, blk_far hb hne u, hg, hr0⟩
theorem cellS100_0 {W : World} {g : Nat} {A0 : Option Addr} {c0 : Nat} {f0 : List Int} {f1 : Int} {f2 : Int} (h : W.heap[g]? = some (.cells #[.slice A0 f0.length c0, .int .i64 f1, .int .i64 f2] 100 (0, 0))) : W.cell? ⟨g, 0, none⟩ = some (.slice A0 f0.length c0) := (blk_cell h 0).trans rfl
theorem cellS100_1 {W : World} {g : Nat} {A0 : Option Addr} {c0 : Nat} {f0 : List Int} {f1 : Int} {f2 : Int} (h : W.heap[g]? = some (.cells #[.slice A0 f0.length c0, .int .i64 f1, .int .i64 f2] 100 (0, 0))) : W.cell? ⟨g, 1, none⟩ = some (.int .i64 f1) := (blk_cell h 1).trans rfl
theorem IsS100.set_1 {w0 W : World} {g : Nat} {f0 : List Int} {f1 : Int} {f2 : Int} (h : IsS100 w0 W g f0 f1 f2) (x : Int) : IsS100 w0 (W.setCell ⟨g, 1, none⟩ (.int .i64 x)) g f0 x f2 := by
 obtain ⟨A0, c0, hb, hg, hr0⟩ := h; exact ⟨A0, c0, by simpa using blk_set hb 1 (.int .i64 x), hg, hr0⟩
theorem cellS100_2 {W : World} {g : Nat} {A0 : Option Addr} {c0 : Nat} {f0 : List Int} {f1 : Int} {f2 : Int} (h : W.heap[g]? = some (.cells #[.slice A0 f0.length c0, .int .i64 f1, .int .i64 f2] 100 (0, 0))) : W.cell? ⟨g, 2, none⟩ = some (.int .i64 f2) := (blk_cell h 2).trans rfl
theorem IsS100.set_2 {w0 W : World} {g : Nat} {f0 : List Int} {f1 : Int} {f2 : Int} (h : IsS100 w0 W g f0 f1 f2) (x : Int) : IsS100 w0 (W.setCell ⟨g, 2, none⟩ (.int .i64 x)) g f0 f1 x := by
 obtain ⟨A0, c0, hb, hg, hr0⟩ := h; exact ⟨A0, c0, by simpa using blk_set hb 2 (.int .i64 x), hg, hr0⟩
def spec_l01From.l0 : Nat → List Int → Int → List Int → Int → Int → Option (List Int × Int × Int)
 | 0, _, _, _, _, _ => none
 | k + 1, x0, x4, x102000, x102001, x102002 => if x4 < (x0.length : Int) then (if x4 < 64 then (if 0 ≤ x4 then (spec_l01From.l0 k x0 (wrap64 (x4 + 1)) x102000 x102001 (Int.tmod (wrap64 ((wrap64 (x102002 * 83)) + (wrap64 (rd x0 x4)))) 2147483647)) else (none)) else (some (x102000, x102001, x102002))) else (some (x102000, x102001, x102002))
def spec_l01From.f (k : Nat) (l0 : List Int) : Option (List Int × Int × Int) := spec_l01From.l0 k l0 0 l0 0 61043
def spec_l01From.T5 : Bool × List (List Nat × List Nat) := (true, [([], []), ([], []), ([1], [1]), ([2], [2]), ([3], [3]), ([4], [4]), ([], []), ([], []), ([6, 7], [6, 7]), ([8], [8]), ([9], [9]), ([5, 10], [5, 10]), ([11], [11]), ([0, 0, 1, 2, 3, 4, 5, 6, 7, 8, 9, 10, 11, 12], [0]), ([13, 0, 1, 2, 3, 4, 5, 6, 7, 8, 9, 10, 11, 12], [13]), ([14, 12, 0, 1, 2, 3, 4, 5, 6, 7, 8, 9, 10, 11, 12], [12, 14])])
def spec_l01From.B5 : List Nat := [0, 0, 2, 6, 14, 30, 0, 0, 192, 448, 960, 2046, 4094, 8191, 16383, 32767]
theorem spec_l01From.tab5 : rtab .any (opsOf Try.f49 5) = spec_l01From.T5 := by kernel_rfl
theorem spec_l01From.bits5 : waitsOk spec_l01From.T5.2 spec_l01From.B5 = true := by kernel_rfl
set_option maxHeartbeats 8000000 in
set_option maxRecDepth 100000 in
theorem spec_l01From.calls (k : Nat) (A0 : Option Addr) (c0 : Nat) (l0 : List Int) (r1 : List Int) (r2 : Int) (r3 : Int) (w0 w : World) (hB : Below w0.heap.size w0 w) (hr0 : Kd.C (Kd.int .u8) w0 A0 l0.length l0) (hc0 : l0.length ≤ c0) (h : spec_l01From.f k l0 = some (r1, r2, r3)) :
  Calls Try.prog 49 #[.slice A0 l0.length c0] w fun e w' => ∃ g_ : Nat, e = .returned (.pointer (some ⟨g_, 0, none⟩)) ∧ IsS100 w0 w' g_ r1 r2 r3 ∧ Below w0.heap.size w0 w' ∧ Below w.heap.size w w' := by
 have hu100 := Try.underlying100; have HR0 := am_ hr0; have HC0 := am_ hc0; clear hr0 hc0; have HBW := am_ (Below.refl w.heap.size w); have HW0 := am_ hB.size; have HB := am_ hB; clear hB; have H : (spec_l01From.l0 k l0 0 l0 0 61043) = some (r1, r2, r3) := h; clear h; have H' := am_ H; clear H
 go_enter Try.func49, Try.ntmps49
 go_wp2_with (first | ((with_reducible refine gate_dst (N := 7) rfl ?_); refine boxZ 7 #[.slice A0 l0.length c0, .int .i64 0, .int .i64 61043] 100 ?_; intro gb101 hg w2 hbox hb; replace HB := (bsZ Zf hb); replace BK101 := am_ (hbox); replace GW101 := am_ ((Zg : w.heap.size ≤ gb101)); replace GE101 := am_ ((Nat.le_trans HW0.out (Zg : w.heap.size ≤ gb101) : w0.heap.size ≤ gb101)); replace HBW := (bsZ HBW.out hb); clear hb hbox hg))
 go_loopg [4] k (fun kq v4 w' => ∃ (x4_1 : Int) (x102002_1 : Int), v4 = .int .i64 x4_1 ∧ Aside0 (spec_l01From.l0 kq l0 x4_1 l0 0 x102002_1 = some (r1, r2, r3)) ∧ Aside0 (kq ≤ k) ∧ Aside0 (w'.heap[gb101]? = some (.cells #[(.slice A0 l0.length c0), .int .i64 0, .int .i64 x102002_1] 100 (0, 0))) ∧ Aside0 (Below w0.heap.size w0 w') ∧ Aside0 (Below w.heap.size w w'))
 case atStart => exact ⟨(0), (61043), Za, H', ⟨Nat.le_refl _⟩, ⟨(Zh BK101)⟩, ⟨(Zi GE101)⟩, ⟨(Zj GW101)⟩⟩
 case round =>
  clear H'
  try clear p2
  obtain ⟨x4_1, x102002_1, rfl, HA, HK1, BK101, HB, HBW⟩ := hrel
  cases gk with
  | zero => exact absurd HA.out (by simp [spec_l01From.l0])
  | succ k1 =>
   have H := HA.out; clear HA; simp only [spec_l01From.l0] at H
   by_cases c3 : x4_1 < (l0.length : Int)
   ·rw [if_pos c3] at H
    have c3b0 := decide_eq_true c3; clear c3
    by_cases c4 : x4_1 < 64
    ·rw [if_pos c4] at H
     have c4b0 := decide_eq_true c4; clear c4
     by_cases c5 : 0 ≤ x4_1
     ·rw [if_pos c5] at H
      have c5b0 := decide_eq_true c5; clear c5; have H' := am_ H; clear H
      try go_wp2
      replace BK101 := am_ (blk_drew BK101.out); replace HB := am_ (below_drew1 HB.out); replace HBW := am_ (below_drew1 HBW.out); have p102 : 0 ≤ (x4_1 : Int) := of_decide_eq_true Zc; have q102 : x4_1 < (l0.length : Int) := of_decide_eq_true Zc; obtain ⟨ad102, e102, hx102_0⟩ := Kd.at_int HR0.out x4_1 p102 q102; have hw102_0 := hx102_0
      cases e102
      replace hx102_0 := pw_cell_below HB.out hx102_0; replace p102 := eq_true p102; replace q102 := eq_true q102; refine start_ (n := 16) (S := fun w' => w'.cell? ⟨gb101, 0, none⟩ = some (.slice (some ad102) l0.length c0) ∧ w'.cell? ⟨gb101, 1, none⟩ = some (.int .i64 0) ∧ w'.cell? ⟨gb101, 2, none⟩ = some (.int .i64 x102002_1) ∧ w'.cell? (ad102.add (x4_1).toNat) = some (.int .u8 (rd l0 x4_1))) (ds := [15]) (bT 16 0) Zk rfl rfl ⟨(blk_cell BK101.out 0).trans rfl, (blk_cell BK101.out 1).trans rfl, (blk_cell BK101.out 2).trans rfl, ((HB.out.cell (World.block_lt_of_cell? w0 _ hw102_0)).trans hw102_0)⟩ (fun hHeld => ?_); refine with_tabW spec_l01From.tab5 spec_l01From.bits5 (fun HT_ HW_ => ?_); generalize wr.drew = w6 at BK101 HB HBW hx102_0 hHeld ⊢; refine pureZ HT_ 0 (some 18) (bT 16 1) ?_; refine pureZ HT_ 1 (some 19) (bT 16 2) ?_; refine pureZ HT_ 2 (some 20) (bT 16 3) ?_; refine pureZ HT_ 3 (some 21) (bT 16 4) ?_; refine pureZ HT_ 6 (some 24) (bB 16 79) ?_; refine pureZ HT_ 7 (some 25) (bB 16 207) ?_; refine pureZ HT_ 8 (some 26) (bB 16 463) ?_; refine takeZ4 HT_ HW_ 4 (some 22) (bB 16 479) hHeld ?_; refine pureZ HT_ 5 (some 23) (bT 16 9) ?_; refine takeZ4 HT_ HW_ 9 (some 27) (bT 16 10) hHeld ?_; refine pureZ HT_ 10 (some 28) (bT 16 11) ?_; refine pureZ HT_ 11 (some 29) (bT 16 12) ?_; refine pureZ HT_ 12 (some 30) (bT 16 13) ?_; refine pureZ HT_ 13 (some 31) (bT 16 14) ?_; refine pureZ HT_ 14 (some 32) (bT 16 15) ?_; refine last_ (i := 15) (N := none) (bT 16 16) rfl rfl (one_of HT_.out Zk) (by decide) (fun K hK => ?_); have hs7 : w6.cell? ⟨gb101, 2, none⟩ = some (.int .i64 x102002_1) := (blk_cell BK101.out 2).trans rfl; have hfs7 := blk_frozen BK101.out 2; refine skip_ (w1 := ?_) (by rfl) rfl ?_ ?_; rotate_left
      ·go_simp
       rfl
      refine hK.out _ _ ?_; clear hK K; refine done_ (done_of HT_.out Zk) ?_
      try go_wp2
      go_roundg k1
      case measure => have := HK1.out; omega
      case rel => exact ⟨(wrap64 (x4_1 + 1)), (Int.tmod (wrap64 ((wrap64 (x102002_1 * 83)) + (wrap64 (rd l0 x4_1)))) 2147483647), Za, H', ⟨Zd⟩, ⟨by (with_reducible repeat (first | refine blk_drewN ?_ _ | refine blk_drew ?_ | refine blk_alloc ?_ _)); refine blk_put (cs := #[.slice (some ad102) l0.length c0, .int .i64 0, .int .i64 x102002_1]) ?_ 2 _ rfl; (with_reducible repeat (first | refine blk_drewN ?_ _ | refine blk_drew ?_ | refine blk_alloc ?_ _)); exact BK101.out⟩, ⟨(Zi GE101)⟩, ⟨(Zj GW101)⟩⟩
     ·rw [if_neg c5] at H
      exact absurd H (by simp)
    ·rw [if_neg c4] at H
     have c4b0 := decide_eq_false c4; clear c4; simp only [Option.some.injEq, Prod.mk.injEq] at H; obtain ⟨rfl, rfl, rfl⟩ := H
     go_wp2
     go_ret
     exact ⟨_, rfl, (show IsS100 w0 _ gb101 l0 0 x102002_1 from ⟨_, _, (Zh BK101), GE101.out, HR0.out⟩), (Zi GE101), (Zj GW101)⟩
   ·rw [if_neg c3] at H
    have c3b0 := decide_eq_false c3; clear c3; simp only [Option.some.injEq, Prod.mk.injEq] at H; obtain ⟨rfl, rfl, rfl⟩ := H
    go_wp2
    go_ret
    exact ⟨_, rfl, (show IsS100 w0 _ gb101 l0 0 x102002_1 from ⟨_, _, (Zh BK101), GE101.out, HR0.out⟩), (Zi GE101), (Zj GW101)⟩
def spec_l01Next.f (s0_0 : List Int) (s0_1 : Int) (s0_2 : Int) (a1 : Int) : Option (Int × Int × Int) := if a1 ≤ 1 then (some (0, s0_1, s0_2)) else (if s0_1 < (s0_0.length : Int) then (if 0 ≤ s0_1 then (if a1 ≤ 256 then (if (Int.tmod (wrap64 (s0_1 + 1)) 2) = 0 then (if 0 ≤ (wrap64 ((wrap64 (s0_1 + 1)) - 1)) then (if (wrap64 ((wrap64 (s0_1 + 1)) - 1)) < (s0_0.length : Int) then (if a1 = 0 then (none) else (some (Int.tmod (wrap64 (rd s0_0 (wrap64 ((wrap64 (s0_1 + 1)) - 1)))) a1, wrap64 (s0_1 + 1), Int.tmod (wrap64 ((wrap64 (s0_2 * 48271)) + 29)) 2147483647))) else (none)) else (none)) else (if a1 = 0 then (none) else (some (Int.tmod (wrap64 ((wrap64 (Int.tdiv (Int.tmod (wrap64 ((wrap64 (s0_2 * 48271)) + 29)) 2147483647) 31)) + (wrap64 (rd s0_0 s0_1)))) a1, wrap64 (s0_1 + 1), Int.tmod (wrap64 ((wrap64 (s0_2 * 48271)) + 29)) 2147483647)))) else (if a1 = 0 then (none) else (some (Int.tmod (wrap64 ((wrap64 (Int.tdiv (Int.tmod (wrap64 ((wrap64 (s0_2 * 48271)) + 29)) 2147483647) 31)) + (wrap64 (rd s0_0 s0_1)))) a1, wrap64 (s0_1 + 1), Int.tmod (wrap64 ((wrap64 (s0_2 * 48271)) + 29)) 2147483647)))) else (none)) else (if a1 = 0 then (none) else (some (Int.tmod (wrap64 (Int.tdiv (Int.tmod (wrap64 ((wrap64 (s0_2 * 48271)) + 29)) 2147483647) 31)) a1, s0_1, Int.tmod (wrap64 ((wrap64 (s0_2 * 48271)) + 29)) 2147483647))))
set_option maxHeartbeats 8000000 in
set_option maxRecDepth 100000 in
theorem spec_l01Next.calls (g : Nat) (s0_0 : List Int) (s0_1 : Int) (s0_2 : Int) (a1 : Int) (r1 : Int) (r2 : Int) (r3 : Int) (w0 w : World) (hI : IsS100 w0 w g s0_0 s0_1 s0_2) (hB : Below w0.heap.size w0 w) (h : spec_l01Next.f s0_0 s0_1 s0_2 a1 = some (r1, r2, r3)) :
  Calls Try.prog 52 #[.pointer (some ⟨g, 0, none⟩), .int .i64 a1] w fun e w' => e = .returned (.int .i64 r1) ∧ IsS100 w0 w' g s0_0 r2 r3 ∧ Below w0.heap.size w0 w' ∧ KeepBut w w' g none := by
 have HI0 := am_ hI; have HK := am_ (KeepBut.refl w g none); have HL := am_ hB.size; clear hI; have HW0 := am_ hB.size; have HB := am_ hB; clear hB; have H : (if a1 ≤ 1 then (some (0, s0_1, s0_2)) else (if s0_1 < (s0_0.length : Int) then (if 0 ≤ s0_1 then (if a1 ≤ 256 then (if (Int.tmod (wrap64 (s0_1 + 1)) 2) = 0 then (if 0 ≤ (wrap64 ((wrap64 (s0_1 + 1)) - 1)) then (if (wrap64 ((wrap64 (s0_1 + 1)) - 1)) < (s0_0.length : Int) then (if a1 = 0 then (none) else (some (Int.tmod (wrap64 (rd s0_0 (wrap64 ((wrap64 (s0_1 + 1)) - 1)))) a1, wrap64 (s0_1 + 1), Int.tmod (wrap64 ((wrap64 (s0_2 * 48271)) + 29)) 2147483647))) else (none)) else (none)) else (if a1 = 0 then (none) else (some (Int.tmod (wrap64 ((wrap64 (Int.tdiv (Int.tmod (wrap64 ((wrap64 (s0_2 * 48271)) + 29)) 2147483647) 31)) + (wrap64 (rd s0_0 s0_1)))) a1, wrap64 (s0_1 + 1), Int.tmod (wrap64 ((wrap64 (s0_2 * 48271)) + 29)) 2147483647)))) else (if a1 = 0 then (none) else (some (Int.tmod (wrap64 ((wrap64 (Int.tdiv (Int.tmod (wrap64 ((wrap64 (s0_2 * 48271)) + 29)) 2147483647) 31)) + (wrap64 (rd s0_0 s0_1)))) a1, wrap64 (s0_1 + 1), Int.tmod (wrap64 ((wrap64 (s0_2 * 48271)) + 29)) 2147483647)))) else (none)) else (if a1 = 0 then (none) else (some (Int.tmod (wrap64 (Int.tdiv (Int.tmod (wrap64 ((wrap64 (s0_2 * 48271)) + 29)) 2147483647) 31)) a1, s0_1, Int.tmod (wrap64 ((wrap64 (s0_2 * 48271)) + 29)) 2147483647))))) = some (r1, r2, r3) := h; clear h
 by_cases c3 : a1 ≤ 1
 ·rw [if_pos c3] at H
  have c3b0 := decide_eq_true c3; clear c3; simp only [Option.some.injEq, Prod.mk.injEq] at H; obtain ⟨rfl, rfl, rfl⟩ := H
  go_enter Try.func52, Try.ntmps52
  go_wp2
  repeat (go_quiet (fail); try go_wp2)
  go_ret
  exact ⟨Zl, Zm, Zn, Zo⟩
 ·rw [if_neg c3] at H
  have c3b0 := decide_eq_false c3; clear c3
  by_cases c4 : s0_1 < (s0_0.length : Int)
  ·rw [if_pos c4] at H
   have c4b0 := decide_eq_true c4; clear c4
   by_cases c5 : 0 ≤ s0_1
   ·rw [if_pos c5] at H
    have c5b0 := decide_eq_true c5; clear c5
    by_cases c6 : a1 ≤ 256
    ·rw [if_pos c6] at H
     have c6b0 := decide_eq_true c6; clear c6
     by_cases c7 : (Int.tmod (wrap64 (s0_1 + 1)) 2) = 0
     ·rw [if_pos c7] at H
      have c7b0 := beq_iff_eq.mpr c7; have c7b1 := bne_eq_false_iff_eq.mpr c7; clear c7; obtain ⟨ji8, hji8⟩ : ∃ j_ : Int, (wrap64 ((wrap64 (s0_1 + 1)) - 1)) = j_ := ⟨_, rfl⟩
      replace H : (if 0 ≤ (ji8) then (if (ji8) < (s0_0.length : Int) then (if a1 = 0 then (none) else (some (Int.tmod (wrap64 (rd s0_0 (ji8))) a1, wrap64 (s0_1 + 1), Int.tmod (wrap64 ((wrap64 (s0_2 * 48271)) + 29)) 2147483647))) else (none)) else (none)) = some (r1, r2, r3) := by first | (rw [hji8] at H; exact H) | (simp only [hji8] at H ⊢; exact H)
      have hji8w : (IntKind.i64.wrap ((wrap64 (s0_1 + 1)) - 1)) = ji8 := (i64_w _).trans hji8
      by_cases c9 : 0 ≤ (ji8)
      ·rw [if_pos c9] at H
       have c9b0 := decide_eq_true c9; clear c9
       by_cases c10 : (ji8) < (s0_0.length : Int)
       ·rw [if_pos c10] at H
        have c10b0 := decide_eq_true c10; clear c10
        by_cases c11 : a1 = 0
        ·rw [if_pos c11] at H
         exact absurd H (by simp)
        ·rw [if_neg c11] at H
         have c11b0 := beq_eq_false_iff_ne.mpr c11; have c11b1 := bne_iff_ne.mpr c11; simp only [Option.some.injEq, Prod.mk.injEq] at H; obtain ⟨rfl, rfl, rfl⟩ := H; obtain ⟨ASz12_0, cSz12_0, HGz12, hgz12, HSz12_0⟩ := HI0.out; have hcz12_0 := cellS100_0 HGz12; have hcz12_1 := cellS100_1 HGz12; have hcz12_2 := cellS100_2 HGz12; have hfz12_1 := blk_frozen HGz12 1; have hfz12_2 := blk_frozen HGz12 2; clear HGz12 hgz12; have p103 : 0 ≤ (s0_1 : Int) := of_decide_eq_true Zc; have q103 : s0_1 < (s0_0.length : Int) := of_decide_eq_true Zc; obtain ⟨ad103, e103, hx103_0⟩ := Kd.at_int HSz12_0 s0_1 p103 q103
         cases e103
         have hn103_0 : ad103.block ≠ g := Nat.ne_of_lt (Nat.lt_of_lt_of_le (Zp hx103_0) (IsS100.ge HI0.out)); replace hx103_0 := pw_cell_below HB.out hx103_0; replace hx103_0 := (cell_far (p := ⟨g, 2, none⟩) Zq (.int .i64 (Int.tmod (wrap64 ((wrap64 (s0_2 * 48271)) + 29)) 2147483647))).trans hx103_0
         (try have hy103_0 := fun (n_ : Nat) => (show (((w.drewN n_).setCell ⟨g, 2, none⟩ (.int .i64 (Int.tmod (wrap64 ((wrap64 (s0_2 * 48271)) + 29)) 2147483647)))).cell? _ = some _ from hx103_0))
         clear hn103_0; replace p103 := eq_true p103; replace q103 := eq_true q103; have p104 : 0 ≤ ((ji8) : Int) := of_decide_eq_true Zc; have q104 : (ji8) < (s0_0.length : Int) := of_decide_eq_true Zc; obtain ⟨ad104, e104, hx104_0⟩ := Kd.at_int HSz12_0 (ji8) p104 q104; obtain rfl : ad103 = ad104 := (by injection e104); have hn104_0 : ad103.block ≠ g := Nat.ne_of_lt (Nat.lt_of_lt_of_le (Zp hx104_0) (IsS100.ge HI0.out)); have hn104_1 : ad103.block ≠ g := Nat.ne_of_lt (Nat.lt_of_lt_of_le (Zp hx104_0) (IsS100.ge HI0.out)); replace hx104_0 := pw_cell_below HB.out hx104_0; replace hx104_0 := (cell_far (p := ⟨g, 2, none⟩) (by first | (rw [add_block]; exact hn104_0) | (show (Addr.add _ _).block ≠ _; rw [add_block]; exact hn104_0) | exact hn104_0) (.int .i64 (Int.tmod (wrap64 ((wrap64 (s0_2 * 48271)) + 29)) 2147483647))).trans hx104_0; replace hx104_0 := (cell_far (p := ⟨g, 1, none⟩) (by first | (rw [add_block]; exact hn104_1) | (show (Addr.add _ _).block ≠ _; rw [add_block]; exact hn104_1) | exact hn104_1) (.int .i64 (wrap64 (s0_1 + 1)))).trans hx104_0
         (try have hy104_0 := fun (n_ : Nat) => (show ((((w.drewN n_).setCell ⟨g, 2, none⟩ (.int .i64 (Int.tmod (wrap64 ((wrap64 (s0_2 * 48271)) + 29)) 2147483647))).setCell ⟨g, 1, none⟩ (.int .i64 (wrap64 (s0_1 + 1))))).cell? _ = some _ from hx104_0))
         (try have hz104_0 := fun (n_ : Nat) => (show (((w.setCell ⟨g, 2, none⟩ (.int .i64 (Int.tmod (wrap64 ((wrap64 (s0_2 * 48271)) + 29)) 2147483647))).drewN n_).setCell ⟨g, 1, none⟩ (.int .i64 (wrap64 (s0_1 + 1)))).cell? _ = some _ from hx104_0))
         clear hn104_0; clear hn104_1; replace p104 := eq_true p104; replace q104 := eq_true q104
         go_enter Try.func52, Try.ntmps52
         go_wp2
         repeat (go_quiet (fail); try go_wp2)
         go_ret
         exact ⟨by first | rfl | (simp [errW_none, errW_some] <;> rfl) | (simp only [← hji8]; first | rfl | (simp [errW_none, errW_some] <;> rfl)) | (simp [*, errW_none, errW_some] <;> rfl), Zm, Zn, Zo⟩
       ·rw [if_neg c10] at H
        exact absurd H (by simp)
      ·rw [if_neg c9] at H
       exact absurd H (by simp)
     ·rw [if_neg c7] at H
      have c7b0 := beq_eq_false_iff_ne.mpr c7; have c7b1 := bne_iff_ne.mpr c7
      by_cases c13 : a1 = 0
      ·rw [if_pos c13] at H
       exact absurd H (by simp)
      ·rw [if_neg c13] at H
       have c13b0 := beq_eq_false_iff_ne.mpr c13; have c13b1 := bne_iff_ne.mpr c13; simp only [Option.some.injEq, Prod.mk.injEq] at H; obtain ⟨rfl, rfl, rfl⟩ := H; obtain ⟨ASz14_0, cSz14_0, HGz14, hgz14, HSz14_0⟩ := HI0.out; have hcz14_0 := cellS100_0 HGz14; have hcz14_1 := cellS100_1 HGz14; have hcz14_2 := cellS100_2 HGz14; have hfz14_1 := blk_frozen HGz14 1; have hfz14_2 := blk_frozen HGz14 2; clear HGz14 hgz14; have p103 : 0 ≤ (s0_1 : Int) := of_decide_eq_true Zc; have q103 : s0_1 < (s0_0.length : Int) := of_decide_eq_true Zc; obtain ⟨ad103, e103, hx103_0⟩ := Kd.at_int HSz14_0 s0_1 p103 q103
       cases e103
       have hn103_0 : ad103.block ≠ g := Nat.ne_of_lt (Nat.lt_of_lt_of_le (Zp hx103_0) (IsS100.ge HI0.out)); replace hx103_0 := pw_cell_below HB.out hx103_0; replace hx103_0 := (cell_far (p := ⟨g, 2, none⟩) Zq (.int .i64 (Int.tmod (wrap64 ((wrap64 (s0_2 * 48271)) + 29)) 2147483647))).trans hx103_0
       (try have hy103_0 := fun (n_ : Nat) => (show (((w.drewN n_).setCell ⟨g, 2, none⟩ (.int .i64 (Int.tmod (wrap64 ((wrap64 (s0_2 * 48271)) + 29)) 2147483647)))).cell? _ = some _ from hx103_0))
       clear hn103_0; replace p103 := eq_true p103; replace q103 := eq_true q103
       go_enter Try.func52, Try.ntmps52
       go_wp2
       repeat (go_quiet (fail); try go_wp2)
       go_ret
       exact ⟨Zl, Zm, Zn, Zo⟩
    ·rw [if_neg c6] at H
     have c6b0 := decide_eq_false c6; clear c6
     by_cases c15 : a1 = 0
     ·rw [if_pos c15] at H
      exact absurd H (by simp)
     ·rw [if_neg c15] at H
      have c15b0 := beq_eq_false_iff_ne.mpr c15; have c15b1 := bne_iff_ne.mpr c15; simp only [Option.some.injEq, Prod.mk.injEq] at H; obtain ⟨rfl, rfl, rfl⟩ := H; obtain ⟨ASz16_0, cSz16_0, HGz16, hgz16, HSz16_0⟩ := HI0.out; have hcz16_0 := cellS100_0 HGz16; have hcz16_1 := cellS100_1 HGz16; have hcz16_2 := cellS100_2 HGz16; have hfz16_1 := blk_frozen HGz16 1; have hfz16_2 := blk_frozen HGz16 2; clear HGz16 hgz16; have p103 : 0 ≤ (s0_1 : Int) := of_decide_eq_true Zc; have q103 : s0_1 < (s0_0.length : Int) := of_decide_eq_true Zc; obtain ⟨ad103, e103, hx103_0⟩ := Kd.at_int HSz16_0 s0_1 p103 q103
      cases e103
      have hn103_0 : ad103.block ≠ g := Nat.ne_of_lt (Nat.lt_of_lt_of_le (Zp hx103_0) (IsS100.ge HI0.out)); replace hx103_0 := pw_cell_below HB.out hx103_0; replace hx103_0 := (cell_far (p := ⟨g, 2, none⟩) Zq (.int .i64 (Int.tmod (wrap64 ((wrap64 (s0_2 * 48271)) + 29)) 2147483647))).trans hx103_0
      (try have hy103_0 := fun (n_ : Nat) => (show (((w.drewN n_).setCell ⟨g, 2, none⟩ (.int .i64 (Int.tmod (wrap64 ((wrap64 (s0_2 * 48271)) + 29)) 2147483647)))).cell? _ = some _ from hx103_0))
      clear hn103_0; replace p103 := eq_true p103; replace q103 := eq_true q103
      go_enter Try.func52, Try.ntmps52
      go_wp2
      repeat (go_quiet (fail); try go_wp2)
      go_ret
      exact ⟨Zl, Zm, Zn, Zo⟩
   ·rw [if_neg c5] at H
    exact absurd H (by simp)
  ·rw [if_neg c4] at H
   have c4b0 := decide_eq_false c4; clear c4
   by_cases c17 : a1 = 0
   ·rw [if_pos c17] at H
    exact absurd H (by simp)
   ·rw [if_neg c17] at H
    have c17b0 := beq_eq_false_iff_ne.mpr c17; have c17b1 := bne_iff_ne.mpr c17; simp only [Option.some.injEq, Prod.mk.injEq] at H; obtain ⟨rfl, rfl, rfl⟩ := H; obtain ⟨ASz18_0, cSz18_0, HGz18, hgz18, HSz18_0⟩ := HI0.out; have hcz18_0 := cellS100_0 HGz18; have hcz18_1 := cellS100_1 HGz18; have hcz18_2 := cellS100_2 HGz18; have hfz18_1 := blk_frozen HGz18 1; have hfz18_2 := blk_frozen HGz18 2; clear HGz18 hgz18
    go_enter Try.func52, Try.ntmps52
    go_wp2
    repeat (go_quiet (fail); try go_wp2)
    go_ret
    exact ⟨Zl, Zm, Zn, Zo⟩
def spec_l01In.f (a0 : Int) (a1 : Int) (a2 : Int) : Option (Bool) := if a0 ≥ a1 then (some (decide (a0 ≤ a2))) else (some false)
set_option maxHeartbeats 8000000 in
set_option maxRecDepth 100000 in
theorem spec_l01In.calls (a0 : Int) (a1 : Int) (a2 : Int) (r : Bool) (w : World) (h : spec_l01In.f a0 a1 a2 = some r) :
  Calls Try.prog 57 #[.int .i64 a0, .int .i64 a1, .int .i64 a2] w fun e w' => e = .returned (.bool r) ∧ Drawn0 w w' := by
 have H : (if a0 ≥ a1 then (some (decide (a0 ≤ a2))) else (some false)) = some r := h; clear h
 by_cases c4 : a0 ≥ a1
 ·rw [if_pos c4] at H
  have c4b0 : decide (a1 ≤ a0) = true := decide_eq_true c4; clear c4; obtain rfl := Option.some.inj H
  go_enter Try.func57, Try.ntmps57
  go_wp2
  go_ret
  exact ⟨Za, Zb⟩
 ·rw [if_neg c4] at H
  have c4b0 : decide (a1 ≤ a0) = false := decide_eq_false c4; clear c4; obtain rfl := Option.some.inj H
  go_enter Try.func57, Try.ntmps57
  go_wp2
  go_ret
  exact ⟨Za, Zb⟩
def spec_l03Find.l0 : Nat → List (S62) → ByteArray → Int → Option (Int)
 | 0, _, _, _ => none
 | k + 1, x0, x1, x5 => if x5 < (x0.length : Int) then (if 0 ≤ x5 then (if ((rd_T62 x0 x5).f0).toList = x1.toList then (some x5) else (spec_l03Find.l0 k x0 x1 (wrap64 (x5 + 1)))) else (none)) else (some (-1))
def spec_l03Find.f (k : Nat) (l0 : List (S62)) (a1 : ByteArray) : Option (Int) := spec_l03Find.l0 k l0 a1 0
set_option maxHeartbeats 8000000 in
set_option maxRecDepth 100000 in
theorem spec_l03Find.calls (k : Nat) (A0 : Option Addr) (c0 : Nat) (l0 : List (S62)) (a1 : ByteArray) (r : Int) (w : World) (hr0 : Kd.C k62 w A0 l0.length l0) (hc0 : l0.length ≤ c0) (h : spec_l03Find.f k l0 a1 = some r) :
  Calls Try.prog 64 #[.slice A0 l0.length c0, .string a1] w fun e w' => e = .returned (.int .i64 r) ∧ Drawn0 w w' := by
 have HR0 := am_ hr0; have HC0 := am_ hc0; clear hr0 hc0; have H : (spec_l03Find.l0 k l0 a1 0) = some r := h; clear h; have H' := am_ H; clear H
 go_enter Try.func64, Try.ntmps64
 go_wp2
 go_loopg [5] k (fun kq v5 w' => ∃ (x5_1 : Int), v5 = .int .i64 x5_1 ∧ Aside0 (spec_l03Find.l0 kq l0 a1 x5_1 = some r) ∧ Aside0 (kq ≤ k) ∧ Drawn0 w w')
 case atStart => exact ⟨(0), Za, H', ⟨Nat.le_refl _⟩, Zb⟩
 case round =>
  clear H'
  try clear p2
  obtain ⟨x5_1, rfl, HA, HK1, ⟨m1, rfl⟩⟩ := hrel
  cases gk with
  | zero => exact absurd HA.out (by simp [spec_l03Find.l0])
  | succ k1 =>
   have H := HA.out; clear HA; simp only [spec_l03Find.l0] at H
   by_cases c3 : x5_1 < (l0.length : Int)
   ·rw [if_pos c3] at H
    have c3b0 := decide_eq_true c3; clear c3
    by_cases c4 : 0 ≤ x5_1
    ·rw [if_pos c4] at H
     have c4b0 := decide_eq_true c4; clear c4
     by_cases c5 : ((rd_T62 l0 x5_1).f0).toList = a1.toList
     ·rw [if_pos c5] at H
      have c5b0 := beq_iff_eq.mpr c5; have c5b1 := bne_eq_false_iff_eq.mpr c5; clear c5; obtain rfl := Option.some.inj H; have p105 : 0 ≤ (x5_1 : Int) := of_decide_eq_true Zc; have q105 : x5_1 < (l0.length : Int) := of_decide_eq_true Zc; obtain ⟨ad105, e105, hx105_0, hx105_1, hx105_2, hx105_3, hx105_4, hx105_5, hx105_6, hx105_7, hx105_8⟩ := at_T62 HR0.out x5_1 p105 q105
      cases e105
      replace p105 := eq_true p105; replace q105 := eq_true q105
      go_wp2
      go_ret
      exact ⟨Za, Zb⟩
     ·rw [if_neg c5] at H
      have c5b0 := beq_eq_false_iff_ne.mpr c5; have c5b1 := bne_iff_ne.mpr c5; have H' := am_ H; clear H; have p105 : 0 ≤ (x5_1 : Int) := of_decide_eq_true Zc; have q105 : x5_1 < (l0.length : Int) := of_decide_eq_true Zc; obtain ⟨ad105, e105, hx105_0, hx105_1, hx105_2, hx105_3, hx105_4, hx105_5, hx105_6, hx105_7, hx105_8⟩ := at_T62 HR0.out x5_1 p105 q105
      cases e105
      replace p105 := eq_true p105; replace q105 := eq_true q105
      go_wp2
      go_roundg k1
      case measure => have := HK1.out; omega
      case rel => exact ⟨(wrap64 (x5_1 + 1)), Za, H', ⟨Zd⟩, Zb⟩
    ·rw [if_neg c4] at H
     exact absurd H (by simp)
   ·rw [if_neg c3] at H
    have c3b0 := decide_eq_false c3; clear c3; obtain rfl := Option.some.inj H
    go_wp2
    go_ret
    exact ⟨Za, Zb⟩
def spec_IsWord.l0 : Nat → ByteArray → Int → Option (Bool)
 | 0, _, _ => none
 | k + 1, x0, x3 => if x3 < (x0.size : Int) then (if 0 ≤ x3 then (if (bt x0 x3) < 97 then (some false) else (if (bt x0 x3) > 122 then (some false) else (spec_IsWord.l0 k x0 (wrap64 (x3 + 1))))) else (none)) else ((spec_l01In.f (x0.size : Int) 1 16).bind fun t106 => (some t106))
def spec_IsWord.f (k : Nat) (a0 : ByteArray) : Option (Bool) := spec_IsWord.l0 k a0 0
set_option maxHeartbeats 8000000 in
set_option maxRecDepth 100000 in
theorem spec_IsWord.calls (k : Nat) (a0 : ByteArray) (r : Bool) (w : World) (h : spec_IsWord.f k a0 = some r) :
  Calls Try.prog 101 #[.string a0] w fun e w' => e = .returned (.bool r) ∧ Drawn0 w w' := by
 have H : (spec_IsWord.l0 k a0 0) = some r := h; clear h; have H' := am_ H; clear H
 go_enter Try.func101, Try.ntmps101
 go_wp2
 go_loopg [3] k (fun kq v3 w' => ∃ (x3_1 : Int), v3 = .int .i64 x3_1 ∧ Aside0 (spec_IsWord.l0 kq a0 x3_1 = some r) ∧ Aside0 (kq ≤ k) ∧ Drawn0 w w')
 case atStart => exact ⟨(0), Za, H', ⟨Nat.le_refl _⟩, Zb⟩
 case round =>
  clear H'
  try clear c1
  obtain ⟨x3_1, rfl, HA, HK1, ⟨m1, rfl⟩⟩ := hrel
  cases gk with
  | zero => exact absurd HA.out (by simp [spec_IsWord.l0])
  | succ k1 =>
   have H := HA.out; clear HA; simp only [spec_IsWord.l0] at H
   by_cases c2 : x3_1 < (a0.size : Int)
   ·rw [if_pos c2] at H
    have c2b0 := decide_eq_true c2; clear c2
    by_cases c3 : 0 ≤ x3_1
    ·rw [if_pos c3] at H
     have c3b0 := decide_eq_true c3; clear c3
     by_cases c5 : (bt a0 x3_1) < 97
     ·rw [if_pos c5] at H
      have c5b0 := decide_eq_true c5; clear c5; obtain rfl := Option.some.inj H; have p4 : 0 ≤ (x3_1 : Int) := of_decide_eq_true Zc; have q4 : x3_1 < (a0.size : Int) := of_decide_eq_true Zc; have hx4 := bt_at a0 x3_1; replace p4 := eq_true p4; replace q4 := eq_true q4
      go_wp2
      go_ret
      exact ⟨Za, Zb⟩
     ·rw [if_neg c5] at H
      have c5b0 := decide_eq_false c5; clear c5
      by_cases c7 : (bt a0 x3_1) > 122
      ·rw [if_pos c7] at H
       have c7b0 : decide (122 < (bt a0 x3_1)) = true := decide_eq_true c7; clear c7; obtain rfl := Option.some.inj H; have p4 : 0 ≤ (x3_1 : Int) := of_decide_eq_true Zc; have q4 : x3_1 < (a0.size : Int) := of_decide_eq_true Zc; have hx4 := bt_at a0 x3_1; replace p4 := eq_true p4; replace q4 := eq_true q4; have p6 : 0 ≤ (x3_1 : Int) := of_decide_eq_true Zc; have q6 : x3_1 < (a0.size : Int) := of_decide_eq_true Zc; have hx6 := bt_at a0 x3_1; replace p6 := eq_true p6; replace q6 := eq_true q6
       go_wp2
       go_ret
       exact ⟨Za, Zb⟩
      ·rw [if_neg c7] at H
       have c7b0 : decide (122 < (bt a0 x3_1)) = false := decide_eq_false c7; clear c7; have H' := am_ H; clear H; have p4 : 0 ≤ (x3_1 : Int) := of_decide_eq_true Zc; have q4 : x3_1 < (a0.size : Int) := of_decide_eq_true Zc; have hx4 := bt_at a0 x3_1; replace p4 := eq_true p4; replace q4 := eq_true q4; have p6 : 0 ≤ (x3_1 : Int) := of_decide_eq_true Zc; have q6 : x3_1 < (a0.size : Int) := of_decide_eq_true Zc; have hx6 := bt_at a0 x3_1; replace p6 := eq_true p6; replace q6 := eq_true q6
       go_wp2
       go_roundg k1
       case measure => have := HK1.out; omega
       case rel => exact ⟨(wrap64 (x3_1 + 1)), Za, H', ⟨Zd⟩, Zb⟩
    ·rw [if_neg c3] at H
     exact absurd H (by simp)
   ·rw [if_neg c2] at H
    have c2b0 := decide_eq_false c2; clear c2; replace H := Option.bind_eq_some_iff.mp H; obtain ⟨t106, A80, H⟩ := H; have A8 := am_ A80; clear A80; obtain rfl := Option.some.inj H
    go_wp2_with (first | ((with_reducible refine gate_callee (f := 57) rfl ?_); refine gZ 22 Try.func57 #[.int .i64 (a0.size : Int), .int .i64 1, .int .i64 16] ?_; (with_reducible refine (spec_l01In.calls (a0.size : Int) 1 16 t106 _ A8.out).mono ?_); rintro e w' ⟨rfl, ⟨nd, rfl⟩⟩; refine ⟨_, rfl, ?_⟩))
    go_ret
    exact ⟨Za, Zb⟩
def spec_IsArticle.f (k : Nat) (a0_0 : ByteArray) (a0_1 : Int) (a0_2 : Int) (a0_3 : Int) (a0_4 : Int) (a0_5 : Int) (a0_6 : Int) (a0_7 : Int) (a0_8 : Int) : Option (Bool) := (spec_IsWord.f k a0_0).bind fun t108 => (if t108 = true then ((spec_l01In.f a0_1 0 3).bind fun t109 => (if t109 = true then ((spec_l01In.f a0_2 20 300).bind fun t110 => (if t110 = true then ((spec_l01In.f a0_3 0 10000).bind fun t111 => (if t111 = true then ((spec_l01In.f a0_4 0 a0_3).bind fun t112 => (if t112 = true then ((spec_l01In.f a0_5 1 50).bind fun t113 => (if t113 = true then ((spec_l01In.f a0_6 0 10000).bind fun t114 => (if t114 = true then ((spec_l01In.f a0_7 1 100000).bind fun t115 => (if t115 = true then ((spec_l01In.f a0_8 0 3).bind fun t116 => (some t116)) else (some false))) else (some false))) else (some false))) else (some false))) else (some false))) else (some false))) else (some false))) else (some false))
set_option maxHeartbeats 8000000 in
set_option maxRecDepth 100000 in
theorem spec_IsArticle.calls (k : Nat) (a0_0 : ByteArray) (a0_1 : Int) (a0_2 : Int) (a0_3 : Int) (a0_4 : Int) (a0_5 : Int) (a0_6 : Int) (a0_7 : Int) (a0_8 : Int) (r : Bool) (w : World) (h : spec_IsArticle.f k a0_0 a0_1 a0_2 a0_3 a0_4 a0_5 a0_6 a0_7 a0_8 = some r) :
  Calls Try.prog 94 #[.agg #[.string a0_0, .int .i64 a0_1, .int .i64 a0_2, .int .i64 a0_3, .int .i64 a0_4, .int .i64 a0_5, .int .i64 a0_6, .int .i64 a0_7, .int .i64 a0_8]] w fun e w' => e = .returned (.bool r) ∧ Below w.heap.size w w' := by
 have hu62 := Try.underlying62; have HB := am_ (Below.refl w.heap.size w); have H : ((spec_IsWord.f k a0_0).bind fun t108 => (if t108 = true then ((spec_l01In.f a0_1 0 3).bind fun t109 => (if t109 = true then ((spec_l01In.f a0_2 20 300).bind fun t110 => (if t110 = true then ((spec_l01In.f a0_3 0 10000).bind fun t111 => (if t111 = true then ((spec_l01In.f a0_4 0 a0_3).bind fun t112 => (if t112 = true then ((spec_l01In.f a0_5 1 50).bind fun t113 => (if t113 = true then ((spec_l01In.f a0_6 0 10000).bind fun t114 => (if t114 = true then ((spec_l01In.f a0_7 1 100000).bind fun t115 => (if t115 = true then ((spec_l01In.f a0_8 0 3).bind fun t116 => (some t116)) else (some false))) else (some false))) else (some false))) else (some false))) else (some false))) else (some false))) else (some false))) else (some false))) = some r := h; clear h; replace H := Option.bind_eq_some_iff.mp H; obtain ⟨t108, A20, H⟩ := H; have A2 := am_ A20; clear A20; have HS_ := am_ H; clear H
 go_enter Try.func94, Try.ntmps94
 go_wp2_with (first | ((with_reducible refine gate_dst (N := 1) rfl ?_); refine boxZ 1 #[.string a0_0, .int .i64 a0_1, .int .i64 a0_2, .int .i64 a0_3, .int .i64 a0_4, .int .i64 a0_5, .int .i64 a0_6, .int .i64 a0_7, .int .i64 a0_8] 62 ?_; intro gb107 hg w19 hbox hb; replace BK107 := am_ (hbox); replace GW107 := am_ ((Zr : w.heap.size ≤ gb107)); replace GE107 := GW107; replace HB := (bsZ Zf hb); clear hb hbox hg; refine ci9 BK107 ?_; intros) | ((with_reducible refine gate_callee (f := 101) rfl ?_); refine gZ 5 Try.func101 #[.string a0_0] ?_; (with_reducible refine (spec_IsWord.calls k a0_0 t108 _ A2.out).mono ?_); rintro e w' ⟨rfl, ⟨nd, rfl⟩⟩; refine ⟨_, rfl, ?_⟩; refine ?roundEnd))
 case roundEnd =>
  by_cases c3 : t108 = true
  ·have H := HS_.out
   clear HS_; subst c3; rw [if_pos rfl] at H; replace H := Option.bind_eq_some_iff.mp H; obtain ⟨t109, A40, H⟩ := H; have A4 := am_ A40; clear A40; have HS_ := am_ H; clear H
   go_wp2_with (first | (go_at_call 57; (with_reducible refine (spec_l01In.calls a0_1 0 3 t109 _ A4.out).mono ?_); rintro e w' ⟨rfl, ⟨nd, rfl⟩⟩; refine ?roundEnd))
   case roundEnd =>
    by_cases c5 : t109 = true
    ·have H := HS_.out
     clear HS_; subst c5; rw [if_pos rfl] at H; replace H := Option.bind_eq_some_iff.mp H; obtain ⟨t110, A60, H⟩ := H; have A6 := am_ A60; clear A60; have HS_ := am_ H; clear H
     go_wp2_with (first | (go_at_call 57; (with_reducible refine (spec_l01In.calls a0_2 20 300 t110 _ A6.out).mono ?_); rintro e w' ⟨rfl, ⟨nd, rfl⟩⟩; refine ?roundEnd))
     case roundEnd =>
      by_cases c7 : t110 = true
      ·have H := HS_.out
       clear HS_; subst c7; rw [if_pos rfl] at H; replace H := Option.bind_eq_some_iff.mp H; obtain ⟨t111, A80, H⟩ := H; have A8 := am_ A80; clear A80; have HS_ := am_ H; clear H
       go_wp2_with (first | (go_at_call 57; (with_reducible refine (spec_l01In.calls a0_3 0 10000 t111 _ A8.out).mono ?_); rintro e w' ⟨rfl, ⟨nd, rfl⟩⟩; refine ?roundEnd))
       case roundEnd =>
        by_cases c9 : t111 = true
        ·have H := HS_.out
         clear HS_; subst c9; rw [if_pos rfl] at H; replace H := Option.bind_eq_some_iff.mp H; obtain ⟨t112, A100, H⟩ := H; have A10 := am_ A100; clear A100; have HS_ := am_ H; clear H
         go_wp2_with (first | (go_at_call 57; (with_reducible refine (spec_l01In.calls a0_4 0 a0_3 t112 _ A10.out).mono ?_); rintro e w' ⟨rfl, ⟨nd, rfl⟩⟩; refine ?roundEnd))
         case roundEnd =>
          by_cases c11 : t112 = true
          ·have H := HS_.out
           clear HS_; subst c11; rw [if_pos rfl] at H; replace H := Option.bind_eq_some_iff.mp H; obtain ⟨t113, A120, H⟩ := H; have A12 := am_ A120; clear A120; have HS_ := am_ H; clear H
           go_wp2_with (first | (go_at_call 57; (with_reducible refine (spec_l01In.calls a0_5 1 50 t113 _ A12.out).mono ?_); rintro e w' ⟨rfl, ⟨nd, rfl⟩⟩; refine ?roundEnd))
           case roundEnd =>
            by_cases c13 : t113 = true
            ·have H := HS_.out
             clear HS_; subst c13; rw [if_pos rfl] at H; replace H := Option.bind_eq_some_iff.mp H; obtain ⟨t114, A140, H⟩ := H; have A14 := am_ A140; clear A140; have HS_ := am_ H; clear H
             go_wp2_with (first | (go_at_call 57; (with_reducible refine (spec_l01In.calls a0_6 0 10000 t114 _ A14.out).mono ?_); rintro e w' ⟨rfl, ⟨nd, rfl⟩⟩; refine ?roundEnd))
             case roundEnd =>
              by_cases c15 : t114 = true
              ·have H := HS_.out
               clear HS_; subst c15; rw [if_pos rfl] at H; replace H := Option.bind_eq_some_iff.mp H; obtain ⟨t115, A160, H⟩ := H; have A16 := am_ A160; clear A160; have HS_ := am_ H; clear H
               go_wp2_with (first | (go_at_call 57; (with_reducible refine (spec_l01In.calls a0_7 1 100000 t115 _ A16.out).mono ?_); rintro e w' ⟨rfl, ⟨nd, rfl⟩⟩; refine ?roundEnd))
               case roundEnd =>
                by_cases c17 : t115 = true
                ·have H := HS_.out
                 clear HS_; subst c17; rw [if_pos rfl] at H; replace H := Option.bind_eq_some_iff.mp H; obtain ⟨t116, A180, H⟩ := H; have A18 := am_ A180; clear A180; obtain rfl := Option.some.inj H
                 go_wp2_with (first | (go_at_call 57; (with_reducible refine (spec_l01In.calls a0_8 0 3 t116 _ A18.out).mono ?_); rintro e w' ⟨rfl, ⟨nd, rfl⟩⟩))
                 go_ret
                 exact ⟨Zl, (Zi GE107)⟩
                ·have H := HS_.out
                 clear HS_; replace c17 := Bool.eq_false_iff.mpr c17; subst c17; rw [if_neg (show ¬ (false = true) by decide)] at H; obtain rfl := Option.some.inj H
                 go_wp2_with (first | fail)
                 go_ret
                 exact ⟨Zl, (Zi GE107)⟩
              ·have H := HS_.out
               clear HS_; replace c15 := Bool.eq_false_iff.mpr c15; subst c15; rw [if_neg (show ¬ (false = true) by decide)] at H; obtain rfl := Option.some.inj H
               go_wp2_with (first | fail)
               go_ret
               exact ⟨Zl, (Zi GE107)⟩
            ·have H := HS_.out
             clear HS_; replace c13 := Bool.eq_false_iff.mpr c13; subst c13; rw [if_neg (show ¬ (false = true) by decide)] at H; obtain rfl := Option.some.inj H
             go_wp2_with (first | fail)
             go_ret
             exact ⟨Zl, (Zi GE107)⟩
          ·have H := HS_.out
           clear HS_; replace c11 := Bool.eq_false_iff.mpr c11; subst c11; rw [if_neg (show ¬ (false = true) by decide)] at H; obtain rfl := Option.some.inj H
           go_wp2_with (first | fail)
           go_ret
           exact ⟨Zl, (Zi GE107)⟩
        ·have H := HS_.out
         clear HS_; replace c9 := Bool.eq_false_iff.mpr c9; subst c9; rw [if_neg (show ¬ (false = true) by decide)] at H; obtain rfl := Option.some.inj H
         go_wp2_with (first | fail)
         go_ret
         exact ⟨Zl, (Zi GE107)⟩
      ·have H := HS_.out
       clear HS_; replace c7 := Bool.eq_false_iff.mpr c7; subst c7; rw [if_neg (show ¬ (false = true) by decide)] at H; obtain rfl := Option.some.inj H
       go_wp2_with (first | fail)
       go_ret
       exact ⟨Zl, (Zi GE107)⟩
    ·have H := HS_.out
     clear HS_; replace c5 := Bool.eq_false_iff.mpr c5; subst c5; rw [if_neg (show ¬ (false = true) by decide)] at H; obtain rfl := Option.some.inj H
     go_wp2_with (first | fail)
     go_ret
     exact ⟨Zl, (Zi GE107)⟩
  ·have H := HS_.out
   clear HS_; replace c3 := Bool.eq_false_iff.mpr c3; subst c3; rw [if_neg (show ¬ (false = true) by decide)] at H; obtain rfl := Option.some.inj H
   go_wp2_with (first | fail)
   go_ret
   exact ⟨Zl, (Zi GE107)⟩
def spec_AreArticles.l0 : Nat → List (S62) → Int → Option (Bool)
 | 0, _, _ => none
 | k + 1, x0, x3 => if x3 < (x0.length : Int) then (if 0 ≤ x3 then ((spec_IsArticle.f k ((rd_T62 x0 x3).f0) ((rd_T62 x0 x3).f1) ((rd_T62 x0 x3).f2) ((rd_T62 x0 x3).f3) ((rd_T62 x0 x3).f4) ((rd_T62 x0 x3).f5) ((rd_T62 x0 x3).f6) ((rd_T62 x0 x3).f7) ((rd_T62 x0 x3).f8)).bind fun t118 => (if t118 = true then (if x3 > 0 then (if 0 ≤ (wrap64 (x3 - 1)) then (if (wrap64 (x3 - 1)) < (x0.length : Int) then (if ((Op.bytesLess (((rd_T62 x0 (wrap64 (x3 - 1))).f0).toList) (((rd_T62 x0 x3).f0).toList)) = true) then (spec_AreArticles.l0 k x0 (wrap64 (x3 + 1))) else (some false)) else (none)) else (none)) else (spec_AreArticles.l0 k x0 (wrap64 (x3 + 1)))) else (some false))) else (none)) else (some (decide ((x0.length : Int) ≤ 12)))
def spec_AreArticles.f (k : Nat) (l0 : List (S62)) : Option (Bool) := spec_AreArticles.l0 k l0 0
def spec_AreArticles.T4 : Bool × List (List Nat × List Nat) := (true, [([], []), ([], []), ([0, 1], [0, 1]), ([2], [2]), ([3], [3]), ([4], [4]), ([5, 4], [5]), ([6], [6]), ([7, 6], [6, 7]), ([8, 6, 6], [6, 8]), ([9], [9]), ([9], [9]), ([11, 9], [9, 11]), ([10, 12, 9], [9, 10, 12]), ([13, 9], [9, 13]), ([14, 9], [9, 14]), ([9], [9]), ([9], [9]), ([16, 17, 9], [9, 16, 17]), ([18, 9], [9, 18]), ([19, 9], [9, 19]), ([15, 20, 9], [9, 15, 20]), ([9, 21, 6], [6, 9, 21]), ([6, 22], [6, 22])])
def spec_AreArticles.B4 : List Nat := [0, 0, 3, 7, 15, 31, 63, 127, 255, 511, 1023, 1023, 3071, 8191, 16383, 32767, 1023, 1023, 197631, 459775, 984063, 2097151, 4194303, 8388607]
theorem spec_AreArticles.tab4 : rtab .any (opsOf Try.f81 4) = spec_AreArticles.T4 := by kernel_rfl
theorem spec_AreArticles.bits4 : waitsOk spec_AreArticles.T4.2 spec_AreArticles.B4 = true := by kernel_rfl
set_option maxHeartbeats 8000000 in
set_option maxRecDepth 100000 in
theorem spec_AreArticles.calls (k : Nat) (A0 : Option Addr) (c0 : Nat) (l0 : List (S62)) (r : Bool) (w : World) (hr0 : Kd.C k62 w A0 l0.length l0) (hc0 : l0.length ≤ c0) (h : spec_AreArticles.f k l0 = some r) :
  Calls Try.prog 81 #[.slice A0 l0.length c0] w fun e w' => e = .returned (.bool r) ∧ Below w.heap.size w w' := by
 have hu62 := Try.underlying62; have HR0 := am_ hr0; have HC0 := am_ hc0; clear hr0 hc0; have HB := am_ (Below.refl w.heap.size w); have H : (spec_AreArticles.l0 k l0 0) = some r := h; clear h; have H' := am_ H; clear H
 go_enter Try.func81, Try.ntmps81
 go_wp2
 go_loopg [3] k (fun kq v3 w' => ∃ (x3_1 : Int), v3 = .int .i64 x3_1 ∧ Aside0 (spec_AreArticles.l0 kq l0 x3_1 = some r) ∧ Aside0 (kq ≤ k) ∧ Aside0 (Below w.heap.size w w'))
 case atStart => exact ⟨(0), Za, H', ⟨Nat.le_refl _⟩, ⟨Zf⟩⟩
 case round =>
  clear H'; obtain ⟨x3_1, rfl, HA, HK1, HB⟩ := hrel
  cases gk with
  | zero => exact absurd HA.out (by simp [spec_AreArticles.l0])
  | succ k1 =>
   have H := HA.out; clear HA; simp only [spec_AreArticles.l0] at H
   by_cases c2 : x3_1 < (l0.length : Int)
   ·rw [if_pos c2] at H
    have c2b0 := decide_eq_true c2; clear c2
    by_cases c3 : 0 ≤ x3_1
    ·rw [if_pos c3] at H
     have c3b0 := decide_eq_true c3; clear c3; replace H := Option.bind_eq_some_iff.mp H; obtain ⟨t118, A40, H⟩ := H; have A4 := am_ A40; clear A40
     by_cases c5 : t118 = true
     ·subst c5
      rw [if_pos rfl] at H
      by_cases c6 : x3_1 > 0
      ·rw [if_pos c6] at H
       have c6b0 : decide (0 < x3_1) = true := decide_eq_true c6; clear c6; obtain ⟨ji7, hji7⟩ : ∃ j_ : Int, (wrap64 (x3_1 - 1)) = j_ := ⟨_, rfl⟩
       replace H : (if 0 ≤ (ji7) then (if (ji7) < (l0.length : Int) then (if ((Op.bytesLess (((rd_T62 l0 (ji7)).f0).toList) (((rd_T62 l0 x3_1).f0).toList)) = true) then (spec_AreArticles.l0 k1 l0 (wrap64 (x3_1 + 1))) else (some false)) else (none)) else (none)) = some r := by first | (rw [hji7] at H; exact H) | (simp only [hji7] at H ⊢; exact H)
       (try rw [hji7] at A4)
       have hji7w : (IntKind.i64.wrap (x3_1 - 1)) = ji7 := (i64_w _).trans hji7
       by_cases c8 : 0 ≤ (ji7)
       ·rw [if_pos c8] at H
        have c8b0 := decide_eq_true c8; clear c8
        by_cases c9 : (ji7) < (l0.length : Int)
        ·rw [if_pos c9] at H
         have c9b0 := decide_eq_true c9; clear c9; have HS_ := am_ H; clear H
         try go_wp2
         replace HB := am_ (below_drew1 HB.out); have p117 : 0 ≤ (x3_1 : Int) := of_decide_eq_true Zc; have q117 : x3_1 < (l0.length : Int) := of_decide_eq_true Zc; obtain ⟨ad117, e117, hx117_0, hx117_1, hx117_2, hx117_3, hx117_4, hx117_5, hx117_6, hx117_7, hx117_8⟩ := at_T62 HR0.out x3_1 p117 q117; have hw117_8 := hx117_8; have hw117_7 := hx117_7; have hw117_6 := hx117_6; have hw117_5 := hx117_5; have hw117_4 := hx117_4; have hw117_3 := hx117_3; have hw117_2 := hx117_2; have hw117_1 := hx117_1; have hw117_0 := hx117_0
         cases e117
         replace hx117_0 := cbH HB hx117_0; replace hx117_1 := cbH HB hx117_1; replace hx117_2 := cbH HB hx117_2; replace hx117_3 := cbH HB hx117_3; replace hx117_4 := cbH HB hx117_4; replace hx117_5 := cbH HB hx117_5; replace hx117_6 := cbH HB hx117_6; replace hx117_7 := cbH HB hx117_7; replace hx117_8 := cbH HB hx117_8; replace p117 := eq_true p117; replace q117 := eq_true q117; have p119 : 0 ≤ ((ji7) : Int) := of_decide_eq_true Zc; have q119 : (ji7) < (l0.length : Int) := of_decide_eq_true Zc; obtain ⟨ad119, e119, hx119_0, hx119_1, hx119_2, hx119_3, hx119_4, hx119_5, hx119_6, hx119_7, hx119_8⟩ := at_T62 HR0.out (ji7) p119 q119; have hw119_8 := hx119_8; have hw119_7 := hx119_7; have hw119_6 := hx119_6; have hw119_5 := hx119_5; have hw119_4 := hx119_4; have hw119_3 := hx119_3; have hw119_2 := hx119_2; have hw119_1 := hx119_1; have hw119_0 := hx119_0; obtain rfl : ad117 = ad119 := (by injection e119); replace hx119_0 := cbH HB hx119_0; replace hx119_1 := cbH HB hx119_1; replace hx119_2 := cbH HB hx119_2; replace hx119_3 := cbH HB hx119_3; replace hx119_4 := cbH HB hx119_4; replace hx119_5 := cbH HB hx119_5; replace hx119_6 := cbH HB hx119_6; replace hx119_7 := cbH HB hx119_7; replace hx119_8 := cbH HB hx119_8; replace p119 := eq_true p119; replace q119 := eq_true q119; have p120 : 0 ≤ (x3_1 : Int) := of_decide_eq_true Zc; have q120 : x3_1 < (l0.length : Int) := of_decide_eq_true Zc; obtain ⟨ad120, e120, hx120_0, hx120_1, hx120_2, hx120_3, hx120_4, hx120_5, hx120_6, hx120_7, hx120_8⟩ := at_T62 HR0.out x3_1 p120 q120; have hw120_8 := hx120_8; have hw120_7 := hx120_7; have hw120_6 := hx120_6; have hw120_5 := hx120_5; have hw120_4 := hx120_4; have hw120_3 := hx120_3; have hw120_2 := hx120_2; have hw120_1 := hx120_1; have hw120_0 := hx120_0; obtain rfl : ad117 = ad120 := (by injection e120); replace hx120_0 := cbH HB hx120_0; replace hx120_1 := cbH HB hx120_1; replace hx120_2 := cbH HB hx120_2; replace hx120_3 := cbH HB hx120_3; replace hx120_4 := cbH HB hx120_4; replace hx120_5 := cbH HB hx120_5; replace hx120_6 := cbH HB hx120_6; replace hx120_7 := cbH HB hx120_7; replace hx120_8 := cbH HB hx120_8; replace p120 := eq_true p120; replace q120 := eq_true q120; refine start_ (n := 24) (S := fun w' => w'.cell? (ad117.add ((x3_1).toNat * 9)) = some (.string ((rd_T62 l0 x3_1).f0)) ∧ w'.cell? ⟨(ad117.add ((x3_1).toNat * 9)).block, (ad117.add ((x3_1).toNat * 9)).off + 1, none⟩ = some (.int .i64 ((rd_T62 l0 x3_1).f1)) ∧ w'.cell? ⟨(ad117.add ((x3_1).toNat * 9)).block, (ad117.add ((x3_1).toNat * 9)).off + 2, none⟩ = some (.int .i64 ((rd_T62 l0 x3_1).f2)) ∧ w'.cell? ⟨(ad117.add ((x3_1).toNat * 9)).block, (ad117.add ((x3_1).toNat * 9)).off + 3, none⟩ = some (.int .i64 ((rd_T62 l0 x3_1).f3)) ∧ w'.cell? ⟨(ad117.add ((x3_1).toNat * 9)).block, (ad117.add ((x3_1).toNat * 9)).off + 4, none⟩ = some (.int .i64 ((rd_T62 l0 x3_1).f4)) ∧ w'.cell? ⟨(ad117.add ((x3_1).toNat * 9)).block, (ad117.add ((x3_1).toNat * 9)).off + 5, none⟩ = some (.int .i64 ((rd_T62 l0 x3_1).f5)) ∧ w'.cell? ⟨(ad117.add ((x3_1).toNat * 9)).block, (ad117.add ((x3_1).toNat * 9)).off + 6, none⟩ = some (.int .i64 ((rd_T62 l0 x3_1).f6)) ∧ w'.cell? ⟨(ad117.add ((x3_1).toNat * 9)).block, (ad117.add ((x3_1).toNat * 9)).off + 7, none⟩ = some (.int .i64 ((rd_T62 l0 x3_1).f7)) ∧ w'.cell? ⟨(ad117.add ((x3_1).toNat * 9)).block, (ad117.add ((x3_1).toNat * 9)).off + 8, none⟩ = some (.int .i64 ((rd_T62 l0 x3_1).f8)) ∧ w'.cell? (ad117.add (((ji7)).toNat * 9)) = some (.string ((rd_T62 l0 (ji7)).f0)) ∧ w'.cell? ⟨(ad117.add (((ji7)).toNat * 9)).block, (ad117.add (((ji7)).toNat * 9)).off + 1, none⟩ = some (.int .i64 ((rd_T62 l0 (ji7)).f1)) ∧ w'.cell? ⟨(ad117.add (((ji7)).toNat * 9)).block, (ad117.add (((ji7)).toNat * 9)).off + 2, none⟩ = some (.int .i64 ((rd_T62 l0 (ji7)).f2)) ∧ w'.cell? ⟨(ad117.add (((ji7)).toNat * 9)).block, (ad117.add (((ji7)).toNat * 9)).off + 3, none⟩ = some (.int .i64 ((rd_T62 l0 (ji7)).f3)) ∧ w'.cell? ⟨(ad117.add (((ji7)).toNat * 9)).block, (ad117.add (((ji7)).toNat * 9)).off + 4, none⟩ = some (.int .i64 ((rd_T62 l0 (ji7)).f4)) ∧ w'.cell? ⟨(ad117.add (((ji7)).toNat * 9)).block, (ad117.add (((ji7)).toNat * 9)).off + 5, none⟩ = some (.int .i64 ((rd_T62 l0 (ji7)).f5)) ∧ w'.cell? ⟨(ad117.add (((ji7)).toNat * 9)).block, (ad117.add (((ji7)).toNat * 9)).off + 6, none⟩ = some (.int .i64 ((rd_T62 l0 (ji7)).f6)) ∧ w'.cell? ⟨(ad117.add (((ji7)).toNat * 9)).block, (ad117.add (((ji7)).toNat * 9)).off + 7, none⟩ = some (.int .i64 ((rd_T62 l0 (ji7)).f7)) ∧ w'.cell? ⟨(ad117.add (((ji7)).toNat * 9)).block, (ad117.add (((ji7)).toNat * 9)).off + 8, none⟩ = some (.int .i64 ((rd_T62 l0 (ji7)).f8)) ∧ w'.cell? (ad117.add ((x3_1).toNat * 9)) = some (.string ((rd_T62 l0 x3_1).f0)) ∧ w'.cell? ⟨(ad117.add ((x3_1).toNat * 9)).block, (ad117.add ((x3_1).toNat * 9)).off + 1, none⟩ = some (.int .i64 ((rd_T62 l0 x3_1).f1)) ∧ w'.cell? ⟨(ad117.add ((x3_1).toNat * 9)).block, (ad117.add ((x3_1).toNat * 9)).off + 2, none⟩ = some (.int .i64 ((rd_T62 l0 x3_1).f2)) ∧ w'.cell? ⟨(ad117.add ((x3_1).toNat * 9)).block, (ad117.add ((x3_1).toNat * 9)).off + 3, none⟩ = some (.int .i64 ((rd_T62 l0 x3_1).f3)) ∧ w'.cell? ⟨(ad117.add ((x3_1).toNat * 9)).block, (ad117.add ((x3_1).toNat * 9)).off + 4, none⟩ = some (.int .i64 ((rd_T62 l0 x3_1).f4)) ∧ w'.cell? ⟨(ad117.add ((x3_1).toNat * 9)).block, (ad117.add ((x3_1).toNat * 9)).off + 5, none⟩ = some (.int .i64 ((rd_T62 l0 x3_1).f5)) ∧ w'.cell? ⟨(ad117.add ((x3_1).toNat * 9)).block, (ad117.add ((x3_1).toNat * 9)).off + 6, none⟩ = some (.int .i64 ((rd_T62 l0 x3_1).f6)) ∧ w'.cell? ⟨(ad117.add ((x3_1).toNat * 9)).block, (ad117.add ((x3_1).toNat * 9)).off + 7, none⟩ = some (.int .i64 ((rd_T62 l0 x3_1).f7)) ∧ w'.cell? ⟨(ad117.add ((x3_1).toNat * 9)).block, (ad117.add ((x3_1).toNat * 9)).off + 8, none⟩ = some (.int .i64 ((rd_T62 l0 x3_1).f8))) (ds := []) (bT 24 0) Zk rfl rfl ⟨(cbH HB hw117_0 :), (cbH HB hw117_1 :), (cbH HB hw117_2 :), (cbH HB hw117_3 :), (cbH HB hw117_4 :), (cbH HB hw117_5 :), (cbH HB hw117_6 :), (cbH HB hw117_7 :), (cbH HB hw117_8 :), (cbH HB hw119_0 :), (cbH HB hw119_1 :), (cbH HB hw119_2 :), (cbH HB hw119_3 :), (cbH HB hw119_4 :), (cbH HB hw119_5 :), (cbH HB hw119_6 :), (cbH HB hw119_7 :), (cbH HB hw119_8 :), (cbH HB hw120_0 :), (cbH HB hw120_1 :), (cbH HB hw120_2 :), (cbH HB hw120_3 :), (cbH HB hw120_4 :), (cbH HB hw120_5 :), (cbH HB hw120_6 :), (cbH HB hw120_7 :), (cbH HB hw120_8 :)⟩ (fun hHeld => ?_); refine with_tabW spec_AreArticles.tab4 spec_AreArticles.bits4 (fun HT_ HW_ => ?_)
         generalize wr.drew = w11 at HB hx117_0 hx117_1 hx117_2 hx117_3 hx117_4 hx117_5 hx117_6 hx117_7 hx117_8 hx119_0 hx119_1 hx119_2 hx119_3 hx119_4 hx119_5 hx119_6 hx119_7 hx119_8 hx120_0 hx120_1 hx120_2 hx120_3 hx120_4 hx120_5 hx120_6 hx120_7 hx120_8 hHeld ⊢; refine pureZ HT_ 0 (some 10) (bT 24 1) ?_; refine pureZ HT_ 1 (some 11) (bT 24 2) ?_; refine pureZ HT_ 2 (some 12) (bT 24 3) ?_; refine takeZ27 HT_ HW_ 3 (some 13) (bT 24 4) hHeld ?_; refine one_ (i := 4) (N := some 14) (bT 24 5) rfl rfl (one_of HT_.out Zk) (by decide) (fun K hK => ?_); refine goes_ Try.func94 Zk rfl #[.agg #[.string ((rd_T62 l0 x3_1).f0), .int .i64 ((rd_T62 l0 x3_1).f1), .int .i64 ((rd_T62 l0 x3_1).f2), .int .i64 ((rd_T62 l0 x3_1).f3), .int .i64 ((rd_T62 l0 x3_1).f4), .int .i64 ((rd_T62 l0 x3_1).f5), .int .i64 ((rd_T62 l0 x3_1).f6), .int .i64 ((rd_T62 l0 x3_1).f7), .int .i64 ((rd_T62 l0 x3_1).f8)]] (by rfl) rfl rfl Zs ?_
         with_reducible refine (spec_IsArticle.calls k1 ((rd_T62 l0 x3_1).f0) ((rd_T62 l0 x3_1).f1) ((rd_T62 l0 x3_1).f2) ((rd_T62 l0 x3_1).f3) ((rd_T62 l0 x3_1).f4) ((rd_T62 l0 x3_1).f5) ((rd_T62 l0 x3_1).f6) ((rd_T62 l0 x3_1).f7) ((rd_T62 l0 x3_1).f8) true _ A4.out).mono ?_
         rintro e w12 ⟨rfl, hb⟩; refine ⟨_, rfl, ?_⟩; replace HB := (bsZ Zf hb)
         (try clear hb)
         (try clear hb2)
         (try clear hk)
         (try clear hi)
         refine hK.out _ _ ⟨(cbH HB hw117_0 :), (cbH HB hw117_1 :), (cbH HB hw117_2 :), (cbH HB hw117_3 :), (cbH HB hw117_4 :), (cbH HB hw117_5 :), (cbH HB hw117_6 :), (cbH HB hw117_7 :), (cbH HB hw117_8 :), (cbH HB hw119_0 :), (cbH HB hw119_1 :), (cbH HB hw119_2 :), (cbH HB hw119_3 :), (cbH HB hw119_4 :), (cbH HB hw119_5 :), (cbH HB hw119_6 :), (cbH HB hw119_7 :), (cbH HB hw119_8 :), (cbH HB hw120_0 :), (cbH HB hw120_1 :), (cbH HB hw120_2 :), (cbH HB hw120_3 :), (cbH HB hw120_4 :), (cbH HB hw120_5 :), (cbH HB hw120_6 :), (cbH HB hw120_7 :), (cbH HB hw120_8 :)⟩ (fun hHeld => ?_); clear hK K; refine normZ 14 ?_; refine pureZ HT_ 5 (some 15) (bT 24 6) ?_; refine pureZ HT_ 6 (some 16) (bT 24 7) ?_; refine pureZ HT_ 7 (some 17) (bT 24 8) ?_; refine pureZ HT_ 8 (some 18) (bT 24 9) ?_; refine pureZ HT_ 9 (some 19) (bT 24 10) ?_; refine pureZ HT_ 10 (some 20) (bT 24 11) ?_; refine pureZ HT_ 11 (some 21) (bT 24 12) ?_; refine pureZ HT_ 12 (some 22) (bT 24 13) ?_; refine pureZ HT_ 13 (some 23) (bT 24 14) ?_; refine pureZ HT_ 14 (some 24) (bT 24 15) ?_; refine pureZ HT_ 16 (some 26) (bB 24 98303) ?_; refine pureZ HT_ 17 (some 27) (bB 24 229375) ?_; refine pureZ HT_ 18 (some 28) (bB 24 491519) ?_; refine pureZ HT_ 19 (some 29) (bB 24 1015807) ?_; refine takeZ27 HT_ HW_ 15 (some 25) (bT 24 20) hHeld ?_; refine takeZ27 HT_ HW_ 20 (some 30) (bT 24 21) hHeld ?_; refine pureZ HT_ 21 (some 31) (bT 24 22) ?_; refine pureZ HT_ 22 (some 32) (bT 24 23) ?_; refine pureZ HT_ 23 (some 33) (bT 24 24) ?_; refine done_ (done_of HT_.out Zk) ?_
         by_cases c10 : ((Op.bytesLess (((rd_T62 l0 (ji7)).f0).toList) (((rd_T62 l0 x3_1).f0).toList)) = true)
         ·have H := HS_.out
          clear HS_; rw [if_pos c10] at H; have c10b0 : (Op.bytesLess (((rd_T62 l0 (ji7)).f0).toList) (((rd_T62 l0 x3_1).f0).toList)) = true := c10; clear c10; have H' := am_ H; clear H
          (try simp only [c10b0, Bool.not_true, Bool.not_false])
          try go_wp2
          go_roundg k1
          case measure => have := HK1.out; omega
          case rel => exact ⟨(wrap64 (x3_1 + 1)), Za, H', ⟨Zd⟩, ⟨Zf⟩⟩
         ·have H := HS_.out
          clear HS_; rw [if_neg c10] at H
          have c10b0 : (Op.bytesLess (((rd_T62 l0 (ji7)).f0).toList) (((rd_T62 l0 x3_1).f0).toList)) = false := by simpa using c10
          clear c10; obtain rfl := Option.some.inj H
          (try simp only [c10b0, Bool.not_true, Bool.not_false])
          try go_wp2
          go_ret
          exact ⟨by first | rfl | (simp [errW_none, errW_some] <;> rfl) | (simp only [← hji7]; first | rfl | (simp [errW_none, errW_some] <;> rfl)) | (simp [*, errW_none, errW_some] <;> rfl), Zf⟩
        ·rw [if_neg c9] at H
         exact absurd H (by simp)
       ·rw [if_neg c8] at H
        exact absurd H (by simp)
      ·rw [if_neg c6] at H
       have c6b0 : decide (0 < x3_1) = false := decide_eq_false c6; clear c6; have H' := am_ H; clear H
       try go_wp2
       replace HB := am_ (below_drew1 HB.out); have p117 : 0 ≤ (x3_1 : Int) := of_decide_eq_true Zc; have q117 : x3_1 < (l0.length : Int) := of_decide_eq_true Zc; obtain ⟨ad117, e117, hx117_0, hx117_1, hx117_2, hx117_3, hx117_4, hx117_5, hx117_6, hx117_7, hx117_8⟩ := at_T62 HR0.out x3_1 p117 q117; have hw117_8 := hx117_8; have hw117_7 := hx117_7; have hw117_6 := hx117_6; have hw117_5 := hx117_5; have hw117_4 := hx117_4; have hw117_3 := hx117_3; have hw117_2 := hx117_2; have hw117_1 := hx117_1; have hw117_0 := hx117_0
       cases e117
       replace hx117_0 := cbH HB hx117_0; replace hx117_1 := cbH HB hx117_1; replace hx117_2 := cbH HB hx117_2; replace hx117_3 := cbH HB hx117_3; replace hx117_4 := cbH HB hx117_4; replace hx117_5 := cbH HB hx117_5; replace hx117_6 := cbH HB hx117_6; replace hx117_7 := cbH HB hx117_7; replace hx117_8 := cbH HB hx117_8; replace p117 := eq_true p117; replace q117 := eq_true q117; refine start_ (n := 24) (S := fun w' => w'.cell? (ad117.add ((x3_1).toNat * 9)) = some (.string ((rd_T62 l0 x3_1).f0)) ∧ w'.cell? ⟨(ad117.add ((x3_1).toNat * 9)).block, (ad117.add ((x3_1).toNat * 9)).off + 1, none⟩ = some (.int .i64 ((rd_T62 l0 x3_1).f1)) ∧ w'.cell? ⟨(ad117.add ((x3_1).toNat * 9)).block, (ad117.add ((x3_1).toNat * 9)).off + 2, none⟩ = some (.int .i64 ((rd_T62 l0 x3_1).f2)) ∧ w'.cell? ⟨(ad117.add ((x3_1).toNat * 9)).block, (ad117.add ((x3_1).toNat * 9)).off + 3, none⟩ = some (.int .i64 ((rd_T62 l0 x3_1).f3)) ∧ w'.cell? ⟨(ad117.add ((x3_1).toNat * 9)).block, (ad117.add ((x3_1).toNat * 9)).off + 4, none⟩ = some (.int .i64 ((rd_T62 l0 x3_1).f4)) ∧ w'.cell? ⟨(ad117.add ((x3_1).toNat * 9)).block, (ad117.add ((x3_1).toNat * 9)).off + 5, none⟩ = some (.int .i64 ((rd_T62 l0 x3_1).f5)) ∧ w'.cell? ⟨(ad117.add ((x3_1).toNat * 9)).block, (ad117.add ((x3_1).toNat * 9)).off + 6, none⟩ = some (.int .i64 ((rd_T62 l0 x3_1).f6)) ∧ w'.cell? ⟨(ad117.add ((x3_1).toNat * 9)).block, (ad117.add ((x3_1).toNat * 9)).off + 7, none⟩ = some (.int .i64 ((rd_T62 l0 x3_1).f7)) ∧ w'.cell? ⟨(ad117.add ((x3_1).toNat * 9)).block, (ad117.add ((x3_1).toNat * 9)).off + 8, none⟩ = some (.int .i64 ((rd_T62 l0 x3_1).f8))) (ds := []) (bT 24 0) Zk rfl rfl ⟨(cbH HB hw117_0 :), (cbH HB hw117_1 :), (cbH HB hw117_2 :), (cbH HB hw117_3 :), (cbH HB hw117_4 :), (cbH HB hw117_5 :), (cbH HB hw117_6 :), (cbH HB hw117_7 :), (cbH HB hw117_8 :)⟩ (fun hHeld => ?_); refine with_tabW spec_AreArticles.tab4 spec_AreArticles.bits4 (fun HT_ HW_ => ?_); generalize wr.drew = w15 at HB hx117_0 hx117_1 hx117_2 hx117_3 hx117_4 hx117_5 hx117_6 hx117_7 hx117_8 hHeld ⊢; refine pureZ HT_ 0 (some 10) (bT 24 1) ?_; refine pureZ HT_ 1 (some 11) (bT 24 2) ?_; refine pureZ HT_ 2 (some 12) (bT 24 3) ?_; refine takeZ9 HT_ HW_ 3 (some 13) (bT 24 4) hHeld ?_; refine one_ (i := 4) (N := some 14) (bT 24 5) rfl rfl (one_of HT_.out Zk) (by decide) (fun K hK => ?_); refine goes_ Try.func94 Zk rfl #[.agg #[.string ((rd_T62 l0 x3_1).f0), .int .i64 ((rd_T62 l0 x3_1).f1), .int .i64 ((rd_T62 l0 x3_1).f2), .int .i64 ((rd_T62 l0 x3_1).f3), .int .i64 ((rd_T62 l0 x3_1).f4), .int .i64 ((rd_T62 l0 x3_1).f5), .int .i64 ((rd_T62 l0 x3_1).f6), .int .i64 ((rd_T62 l0 x3_1).f7), .int .i64 ((rd_T62 l0 x3_1).f8)]] (by rfl) rfl rfl Zs ?_
       with_reducible refine (spec_IsArticle.calls k1 ((rd_T62 l0 x3_1).f0) ((rd_T62 l0 x3_1).f1) ((rd_T62 l0 x3_1).f2) ((rd_T62 l0 x3_1).f3) ((rd_T62 l0 x3_1).f4) ((rd_T62 l0 x3_1).f5) ((rd_T62 l0 x3_1).f6) ((rd_T62 l0 x3_1).f7) ((rd_T62 l0 x3_1).f8) true _ A4.out).mono ?_
       rintro e w16 ⟨rfl, hb⟩; refine ⟨_, rfl, ?_⟩; replace HB := (bsZ Zf hb)
       (try clear hb)
       (try clear hb2)
       (try clear hk)
       (try clear hi)
       refine hK.out _ _ ⟨(cbH HB hw117_0 :), (cbH HB hw117_1 :), (cbH HB hw117_2 :), (cbH HB hw117_3 :), (cbH HB hw117_4 :), (cbH HB hw117_5 :), (cbH HB hw117_6 :), (cbH HB hw117_7 :), (cbH HB hw117_8 :)⟩ (fun hHeld => ?_); clear hK K; refine normZ 14 ?_; refine pureZ HT_ 5 (some 15) (bT 24 6) ?_; refine pureZ HT_ 6 (some 16) (bT 24 7) ?_; refine pureZ HT_ 7 (some 17) (bT 24 8) ?_; refine pureZ HT_ 8 (some 18) (bT 24 9) ?_; refine pureZ HT_ 9 (some 19) (bT 24 10) ?_; refine pureU HT_ 10 (some 20) (bT 24 11) ?_; refine pureU HT_ 11 (some 21) (bT 24 12) ?_; refine pureU HT_ 12 (some 22) (bT 24 13) ?_; refine pureU HT_ 13 (some 23) (bT 24 14) ?_; refine pureU HT_ 14 (some 24) (bT 24 15) ?_; refine pureU HT_ 15 (some 25) (bT 24 16) ?_; refine pureU HT_ 16 (some 26) (bT 24 17) ?_; refine pureU HT_ 17 (some 27) (bT 24 18) ?_; refine pureU HT_ 18 (some 28) (bT 24 19) ?_; refine pureU HT_ 19 (some 29) (bT 24 20) ?_; refine pureU HT_ 20 (some 30) (bT 24 21) ?_; refine pureU HT_ 21 (some 31) (bT 24 22) ?_; refine pureZ HT_ 22 (some 32) (bT 24 23) ?_; refine pureZ HT_ 23 (some 33) (bT 24 24) ?_; refine done_ (done_of HT_.out Zk) ?_
       try go_wp2
       go_roundg k1
       case measure => have := HK1.out; omega
       case rel => exact ⟨(wrap64 (x3_1 + 1)), Za, H', ⟨Zd⟩, ⟨Zf⟩⟩
     ·replace c5 := Bool.eq_false_iff.mpr c5
      subst c5; rw [if_neg (show ¬ (false = true) by decide)] at H; obtain rfl := Option.some.inj H
      try go_wp2
      replace HB := am_ (below_drew1 HB.out); have p117 : 0 ≤ (x3_1 : Int) := of_decide_eq_true Zc; have q117 : x3_1 < (l0.length : Int) := of_decide_eq_true Zc; obtain ⟨ad117, e117, hx117_0, hx117_1, hx117_2, hx117_3, hx117_4, hx117_5, hx117_6, hx117_7, hx117_8⟩ := at_T62 HR0.out x3_1 p117 q117; have hw117_8 := hx117_8; have hw117_7 := hx117_7; have hw117_6 := hx117_6; have hw117_5 := hx117_5; have hw117_4 := hx117_4; have hw117_3 := hx117_3; have hw117_2 := hx117_2; have hw117_1 := hx117_1; have hw117_0 := hx117_0
      cases e117
      replace hx117_0 := cbH HB hx117_0; replace hx117_1 := cbH HB hx117_1; replace hx117_2 := cbH HB hx117_2; replace hx117_3 := cbH HB hx117_3; replace hx117_4 := cbH HB hx117_4; replace hx117_5 := cbH HB hx117_5; replace hx117_6 := cbH HB hx117_6; replace hx117_7 := cbH HB hx117_7; replace hx117_8 := cbH HB hx117_8; replace p117 := eq_true p117; replace q117 := eq_true q117; refine start_ (n := 24) (S := fun w' => w'.cell? (ad117.add ((x3_1).toNat * 9)) = some (.string ((rd_T62 l0 x3_1).f0)) ∧ w'.cell? ⟨(ad117.add ((x3_1).toNat * 9)).block, (ad117.add ((x3_1).toNat * 9)).off + 1, none⟩ = some (.int .i64 ((rd_T62 l0 x3_1).f1)) ∧ w'.cell? ⟨(ad117.add ((x3_1).toNat * 9)).block, (ad117.add ((x3_1).toNat * 9)).off + 2, none⟩ = some (.int .i64 ((rd_T62 l0 x3_1).f2)) ∧ w'.cell? ⟨(ad117.add ((x3_1).toNat * 9)).block, (ad117.add ((x3_1).toNat * 9)).off + 3, none⟩ = some (.int .i64 ((rd_T62 l0 x3_1).f3)) ∧ w'.cell? ⟨(ad117.add ((x3_1).toNat * 9)).block, (ad117.add ((x3_1).toNat * 9)).off + 4, none⟩ = some (.int .i64 ((rd_T62 l0 x3_1).f4)) ∧ w'.cell? ⟨(ad117.add ((x3_1).toNat * 9)).block, (ad117.add ((x3_1).toNat * 9)).off + 5, none⟩ = some (.int .i64 ((rd_T62 l0 x3_1).f5)) ∧ w'.cell? ⟨(ad117.add ((x3_1).toNat * 9)).block, (ad117.add ((x3_1).toNat * 9)).off + 6, none⟩ = some (.int .i64 ((rd_T62 l0 x3_1).f6)) ∧ w'.cell? ⟨(ad117.add ((x3_1).toNat * 9)).block, (ad117.add ((x3_1).toNat * 9)).off + 7, none⟩ = some (.int .i64 ((rd_T62 l0 x3_1).f7)) ∧ w'.cell? ⟨(ad117.add ((x3_1).toNat * 9)).block, (ad117.add ((x3_1).toNat * 9)).off + 8, none⟩ = some (.int .i64 ((rd_T62 l0 x3_1).f8))) (ds := []) (bT 24 0) Zk rfl rfl ⟨(cbH HB hw117_0 :), (cbH HB hw117_1 :), (cbH HB hw117_2 :), (cbH HB hw117_3 :), (cbH HB hw117_4 :), (cbH HB hw117_5 :), (cbH HB hw117_6 :), (cbH HB hw117_7 :), (cbH HB hw117_8 :)⟩ (fun hHeld => ?_); refine with_tabW spec_AreArticles.tab4 spec_AreArticles.bits4 (fun HT_ HW_ => ?_); generalize wr.drew = w17 at HB hx117_0 hx117_1 hx117_2 hx117_3 hx117_4 hx117_5 hx117_6 hx117_7 hx117_8 hHeld ⊢; refine pureZ HT_ 0 (some 10) (bT 24 1) ?_; refine pureZ HT_ 1 (some 11) (bT 24 2) ?_; refine pureZ HT_ 2 (some 12) (bT 24 3) ?_; refine takeZ9 HT_ HW_ 3 (some 13) (bT 24 4) hHeld ?_; refine one_ (i := 4) (N := some 14) (bT 24 5) rfl rfl (one_of HT_.out Zk) (by decide) (fun K hK => ?_); refine goes_ Try.func94 Zk rfl #[.agg #[.string ((rd_T62 l0 x3_1).f0), .int .i64 ((rd_T62 l0 x3_1).f1), .int .i64 ((rd_T62 l0 x3_1).f2), .int .i64 ((rd_T62 l0 x3_1).f3), .int .i64 ((rd_T62 l0 x3_1).f4), .int .i64 ((rd_T62 l0 x3_1).f5), .int .i64 ((rd_T62 l0 x3_1).f6), .int .i64 ((rd_T62 l0 x3_1).f7), .int .i64 ((rd_T62 l0 x3_1).f8)]] (by rfl) rfl rfl Zs ?_
      with_reducible refine (spec_IsArticle.calls k1 ((rd_T62 l0 x3_1).f0) ((rd_T62 l0 x3_1).f1) ((rd_T62 l0 x3_1).f2) ((rd_T62 l0 x3_1).f3) ((rd_T62 l0 x3_1).f4) ((rd_T62 l0 x3_1).f5) ((rd_T62 l0 x3_1).f6) ((rd_T62 l0 x3_1).f7) ((rd_T62 l0 x3_1).f8) false _ A4.out).mono ?_
      rintro e w18 ⟨rfl, hb⟩; refine ⟨_, rfl, ?_⟩; replace HB := (bsZ Zf hb)
      (try clear hb)
      (try clear hb2)
      (try clear hk)
      (try clear hi)
      refine hK.out _ _ ⟨(cbH HB hw117_0 :), (cbH HB hw117_1 :), (cbH HB hw117_2 :), (cbH HB hw117_3 :), (cbH HB hw117_4 :), (cbH HB hw117_5 :), (cbH HB hw117_6 :), (cbH HB hw117_7 :), (cbH HB hw117_8 :)⟩ (fun hHeld => ?_); clear hK K; refine normZ 14 ?_; refine pureZ HT_ 5 (some 15) (bT 24 6) ?_; refine pureZ HT_ 6 (some 16) (bT 24 7) ?_; refine pureU HT_ 7 (some 17) (bT 24 8) ?_; refine pureU HT_ 8 (some 18) (bT 24 9) ?_; refine pureU HT_ 9 (some 19) (bT 24 10) ?_; refine pureU HT_ 10 (some 20) (bT 24 11) ?_; refine pureU HT_ 11 (some 21) (bT 24 12) ?_; refine pureU HT_ 12 (some 22) (bT 24 13) ?_; refine pureU HT_ 13 (some 23) (bT 24 14) ?_; refine pureU HT_ 14 (some 24) (bT 24 15) ?_; refine pureU HT_ 15 (some 25) (bT 24 16) ?_; refine pureU HT_ 16 (some 26) (bT 24 17) ?_; refine pureU HT_ 17 (some 27) (bT 24 18) ?_; refine pureU HT_ 18 (some 28) (bT 24 19) ?_; refine pureU HT_ 19 (some 29) (bT 24 20) ?_; refine pureU HT_ 20 (some 30) (bT 24 21) ?_; refine pureU HT_ 21 (some 31) (bT 24 22) ?_; refine pureU HT_ 22 (some 32) (bT 24 23) ?_; refine pureZ HT_ 23 (some 33) (bT 24 24) ?_; refine done_ (done_of HT_.out Zk) ?_
      try go_wp2
      go_ret
      exact ⟨Zl, Zf⟩
    ·rw [if_neg c3] at H
     exact absurd H (by simp)
   ·rw [if_neg c2] at H
    have c2b0 := decide_eq_false c2; clear c2; obtain rfl := Option.some.inj H
    go_wp2
    go_ret
    exact ⟨Zl, Zf⟩
def spec_IsScore.l0 : Nat → List (S104) → Int → Option (Bool)
 | 0, _, _ => none
 | k + 1, x0, x3 => if x3 < (x0.length : Int) then (if 0 ≤ x3 then ((spec_l01In.f ((rd_T104 x0 x3).f0) 1 16).bind fun t123 => (if t123 = true then ((spec_l01In.f ((rd_T104 x0 x3).f1) 100 5000).bind fun t125 => (if t125 = true then (spec_IsScore.l0 k x0 (wrap64 (x3 + 1))) else (some false))) else (some false))) else (none)) else ((spec_l01In.f (x0.length : Int) 1 20).bind fun t121 => (some t121))
def spec_IsScore.f (k : Nat) (l0 : List (S104)) : Option (Bool) := spec_IsScore.l0 k l0 0
set_option maxHeartbeats 8000000 in
set_option maxRecDepth 100000 in
theorem spec_IsScore.calls (k : Nat) (A0 : Option Addr) (c0 : Nat) (l0 : List (S104)) (r : Bool) (w : World) (hr0 : Kd.C k104 w A0 l0.length l0) (hc0 : l0.length ≤ c0) (h : spec_IsScore.f k l0 = some r) :
  Calls Try.prog 88 #[.slice A0 l0.length c0] w fun e w' => e = .returned (.bool r) ∧ Drawn0 w w' := by
 have HR0 := am_ hr0; have HC0 := am_ hc0; clear hr0 hc0; have H : (spec_IsScore.l0 k l0 0) = some r := h; clear h; have H' := am_ H; clear H
 go_enter Try.func88, Try.ntmps88
 go_wp2
 go_loopg [3] k (fun kq v3 w' => ∃ (x3_1 : Int), v3 = .int .i64 x3_1 ∧ Aside0 (spec_IsScore.l0 kq l0 x3_1 = some r) ∧ Aside0 (kq ≤ k) ∧ Drawn0 w w')
 case atStart => exact ⟨(0), Za, H', ⟨Nat.le_refl _⟩, Zb⟩
 case round =>
  clear H'; obtain ⟨x3_1, rfl, HA, HK1, ⟨m1, rfl⟩⟩ := hrel
  cases gk with
  | zero => exact absurd HA.out (by simp [spec_IsScore.l0])
  | succ k1 =>
   have H := HA.out; clear HA; simp only [spec_IsScore.l0] at H
   by_cases c2 : x3_1 < (l0.length : Int)
   ·rw [if_pos c2] at H
    have c2b0 := decide_eq_true c2; clear c2
    by_cases c3 : 0 ≤ x3_1
    ·rw [if_pos c3] at H
     have c3b0 := decide_eq_true c3; clear c3; replace H := Option.bind_eq_some_iff.mp H; obtain ⟨t123, A40, H⟩ := H; have A4 := am_ A40; clear A40; have HS_ := am_ H; clear H; have p122 : 0 ≤ (x3_1 : Int) := of_decide_eq_true Zc; have q122 : x3_1 < (l0.length : Int) := of_decide_eq_true Zc; obtain ⟨ad122, e122, hx122_0, hx122_1⟩ := at_T104 HR0.out x3_1 p122 q122
     cases e122
     replace p122 := eq_true p122; replace q122 := eq_true q122
     go_wp2_with (first | ((with_reducible refine gate_callee (f := 57) rfl ?_); refine gZ 15 Try.func57 #[.int .i64 ((rd_T104 l0 x3_1).f0), .int .i64 1, .int .i64 16] ?_; (with_reducible refine (spec_l01In.calls ((rd_T104 l0 x3_1).f0) 1 16 t123 _ A4.out).mono ?_); rintro e w' ⟨rfl, ⟨nd, rfl⟩⟩; refine ⟨_, rfl, ?_⟩; refine ?roundEnd))
     case roundEnd =>
      by_cases c5 : t123 = true
      ·have H := HS_.out
       clear HS_; subst c5; rw [if_pos rfl] at H; replace H := Option.bind_eq_some_iff.mp H; obtain ⟨t125, A60, H⟩ := H; have A6 := am_ A60; clear A60; have HS_ := am_ H; clear H; have p124 : 0 ≤ (x3_1 : Int) := of_decide_eq_true Zc; have q124 : x3_1 < (l0.length : Int) := of_decide_eq_true Zc; obtain ⟨ad124, e124, hx124_0, hx124_1⟩ := at_T104 HR0.out x3_1 p124 q124; obtain rfl : ad122 = ad124 := (by injection e124); replace p124 := eq_true p124; replace q124 := eq_true q124
       go_wp2_with (first | (go_at_call 57; (with_reducible refine (spec_l01In.calls ((rd_T104 l0 x3_1).f1) 100 5000 t125 _ A6.out).mono ?_); rintro e w' ⟨rfl, ⟨nd, rfl⟩⟩; refine ?roundEnd))
       case roundEnd =>
        by_cases c7 : t125 = true
        ·have H := HS_.out
         clear HS_; subst c7; rw [if_pos rfl] at H; have H' := am_ H; clear H
         go_wp2_with (first | fail)
         go_roundg k1
         case measure => have := HK1.out; omega
         case rel => exact ⟨(wrap64 (x3_1 + 1)), Za, H', ⟨Zd⟩, Zb⟩
        ·have H := HS_.out
         clear HS_; replace c7 := Bool.eq_false_iff.mpr c7; subst c7; rw [if_neg (show ¬ (false = true) by decide)] at H; obtain rfl := Option.some.inj H
         go_wp2_with (first | fail)
         go_ret
         exact ⟨Za, Zb⟩
      ·have H := HS_.out
       clear HS_; replace c5 := Bool.eq_false_iff.mpr c5; subst c5; rw [if_neg (show ¬ (false = true) by decide)] at H; obtain rfl := Option.some.inj H
       go_wp2_with (first | fail)
       go_ret
       exact ⟨Za, Zb⟩
    ·rw [if_neg c3] at H
     exact absurd H (by simp)
   ·rw [if_neg c2] at H
    have c2b0 := decide_eq_false c2; clear c2; replace H := Option.bind_eq_some_iff.mp H; obtain ⟨t121, A80, H⟩ := H; have A8 := am_ A80; clear A80; obtain rfl := Option.some.inj H
    go_wp2_with (first | ((with_reducible refine gate_callee (f := 57) rfl ?_); refine gZ 28 Try.func57 #[.int .i64 (l0.length : Int), .int .i64 1, .int .i64 20] ?_; (with_reducible refine (spec_l01In.calls (l0.length : Int) 1 20 t121 _ A8.out).mono ?_); rintro e w' ⟨rfl, ⟨nd, rfl⟩⟩; refine ⟨_, rfl, ?_⟩))
    go_ret
    exact ⟨Za, Zb⟩
def spec_l07Has.f (l0 : List (S104)) (a1 : Int) (a2 : Int) : Option (Bool) := (spec_l01In.f a1 0 (wrap64 ((l0.length : Int) - 1))).bind fun t126 => (if t126 = true then (if 0 ≤ a1 then (if a1 < (l0.length : Int) then ((spec_l01In.f a2 0 (wrap64 (((rd_T104 l0 a1).f0) - 1))).bind fun t128 => (some t128)) else (none)) else (none)) else (some false))
set_option maxHeartbeats 8000000 in
set_option maxRecDepth 100000 in
theorem spec_l07Has.calls (A0 : Option Addr) (c0 : Nat) (l0 : List (S104)) (a1 : Int) (a2 : Int) (r : Bool) (w : World) (hr0 : Kd.C k104 w A0 l0.length l0) (hc0 : l0.length ≤ c0) (h : spec_l07Has.f l0 a1 a2 = some r) :
  Calls Try.prog 89 #[.slice A0 l0.length c0, .int .i64 a1, .int .i64 a2] w fun e w' => e = .returned (.bool r) ∧ Drawn0 w w' := by
 have HR0 := am_ hr0; have HC0 := am_ hc0; clear hr0 hc0; have H : ((spec_l01In.f a1 0 (wrap64 ((l0.length : Int) - 1))).bind fun t126 => (if t126 = true then (if 0 ≤ a1 then (if a1 < (l0.length : Int) then ((spec_l01In.f a2 0 (wrap64 (((rd_T104 l0 a1).f0) - 1))).bind fun t128 => (some t128)) else (none)) else (none)) else (some false))) = some r := h; clear h; replace H := Option.bind_eq_some_iff.mp H; obtain ⟨t126, A40, H⟩ := H; have A4 := am_ A40; clear A40; have HS_ := am_ H; clear H
 go_enter Try.func89, Try.ntmps89
 go_wp2_with (first | ((with_reducible refine gate_callee (f := 57) rfl ?_); refine gZ 11 Try.func57 #[.int .i64 a1, .int .i64 0, .int .i64 (wrap64 ((l0.length : Int) - 1))] ?_; (with_reducible refine (spec_l01In.calls a1 0 (wrap64 ((l0.length : Int) - 1)) t126 _ A4.out).mono ?_); rintro e w' ⟨rfl, ⟨nd, rfl⟩⟩; refine ⟨_, rfl, ?_⟩; refine ?roundEnd))
 case roundEnd =>
  by_cases c5 : t126 = true
  ·have H := HS_.out
   clear HS_; subst c5; rw [if_pos rfl] at H
   by_cases c6 : 0 ≤ a1
   ·rw [if_pos c6] at H
    have c6b0 := decide_eq_true c6; clear c6
    by_cases c7 : a1 < (l0.length : Int)
    ·rw [if_pos c7] at H
     have c7b0 := decide_eq_true c7; clear c7; replace H := Option.bind_eq_some_iff.mp H; obtain ⟨t128, A80, H⟩ := H; have A8 := am_ A80; clear A80; obtain rfl := Option.some.inj H; have p127 : 0 ≤ (a1 : Int) := of_decide_eq_true Zc; have q127 : a1 < (l0.length : Int) := of_decide_eq_true Zc; obtain ⟨ad127, e127, hx127_0, hx127_1⟩ := at_T104 HR0.out a1 p127 q127
     cases e127
     replace p127 := eq_true p127; replace q127 := eq_true q127
     go_wp2_with (first | (go_at_call 57; (with_reducible refine (spec_l01In.calls a2 0 (wrap64 (((rd_T104 l0 a1).f0) - 1)) t128 _ A8.out).mono ?_); rintro e w' ⟨rfl, ⟨nd, rfl⟩⟩))
     go_ret
     exact ⟨Za, Zb⟩
    ·rw [if_neg c7] at H
     exact absurd H (by simp)
   ·rw [if_neg c6] at H
    exact absurd H (by simp)
  ·have H := HS_.out
   clear HS_; replace c5 := Bool.eq_false_iff.mpr c5; subst c5; rw [if_neg (show ¬ (false = true) by decide)] at H; obtain rfl := Option.some.inj H
   go_wp2_with (first | fail)
   go_ret
   exact ⟨Za, Zb⟩
def spec_l07Time.l0 : Nat → List (S104) → Int → Int → Int → Int → Option (Int)
 | 0, _, _, _, _, _ => none
 | k + 1, x0, x1, x2, x7, x8 => if x8 < x1 then (if 0 ≤ x8 then (if x8 < (x0.length : Int) then (spec_l07Time.l0 k x0 x1 x2 (wrap64 (x7 + (wrap64 (((rd_T104 x0 x8).f0) * ((rd_T104 x0 x8).f1))))) (wrap64 (x8 + 1))) else (none)) else (none)) else (if 0 ≤ x1 then (if x1 < (x0.length : Int) then (some (wrap64 (x7 + (wrap64 (x2 * ((rd_T104 x0 x1).f1)))))) else (none)) else (none))
def spec_l07Time.f (k : Nat) (l0 : List (S104)) (a1 : Int) (a2 : Int) : Option (Int) := spec_l07Time.l0 k l0 a1 a2 0 0
set_option maxHeartbeats 8000000 in
set_option maxRecDepth 100000 in
theorem spec_l07Time.calls (k : Nat) (A0 : Option Addr) (c0 : Nat) (l0 : List (S104)) (a1 : Int) (a2 : Int) (r : Int) (w : World) (hr0 : Kd.C k104 w A0 l0.length l0) (hc0 : l0.length ≤ c0) (h : spec_l07Time.f k l0 a1 a2 = some r) :
  Calls Try.prog 99 #[.slice A0 l0.length c0, .int .i64 a1, .int .i64 a2] w fun e w' => e = .returned (.int .i64 r) ∧ Drawn0 w w' := by
 have HR0 := am_ hr0; have HC0 := am_ hc0; clear hr0 hc0; have H : (spec_l07Time.l0 k l0 a1 a2 0 0) = some r := h; clear h; have H' := am_ H; clear H
 go_enter Try.func99, Try.ntmps99
 go_wp2
 repeat (go_quiet (fail); try go_wp2)
 go_loopg [7, 8] k (fun kq v7 v8 w' => ∃ (x7_1 : Int) (x8_1 : Int), v7 = .int .i64 x7_1 ∧ v8 = .int .i64 x8_1 ∧ Aside0 (spec_l07Time.l0 kq l0 a1 a2 x7_1 x8_1 = some r) ∧ Aside0 (kq ≤ k) ∧ Drawn0 w w')
 case atStart => exact ⟨(0), (0), Za, Za, H', ⟨Nat.le_refl _⟩, Zb⟩
 case round =>
  clear H'
  try clear p2
  obtain ⟨x7_1, x8_1, rfl, rfl, HA, HK1, ⟨m1, rfl⟩⟩ := hrel
  cases gk with
  | zero => exact absurd HA.out (by simp [spec_l07Time.l0])
  | succ k1 =>
   have H := HA.out; clear HA; simp only [spec_l07Time.l0] at H
   by_cases c4 : x8_1 < a1
   ·rw [if_pos c4] at H
    have c4b0 := decide_eq_true c4; clear c4
    by_cases c5 : 0 ≤ x8_1
    ·rw [if_pos c5] at H
     have c5b0 := decide_eq_true c5; clear c5
     by_cases c6 : x8_1 < (l0.length : Int)
     ·rw [if_pos c6] at H
      have c6b0 := decide_eq_true c6; clear c6; have H' := am_ H; clear H; have p129 : 0 ≤ (x8_1 : Int) := of_decide_eq_true Zc; have q129 : x8_1 < (l0.length : Int) := of_decide_eq_true Zc; obtain ⟨ad129, e129, hx129_0, hx129_1⟩ := at_T104 HR0.out x8_1 p129 q129
      cases e129
      replace p129 := eq_true p129; replace q129 := eq_true q129; have p130 : 0 ≤ (x8_1 : Int) := of_decide_eq_true Zc; have q130 : x8_1 < (l0.length : Int) := of_decide_eq_true Zc; obtain ⟨ad130, e130, hx130_0, hx130_1⟩ := at_T104 HR0.out x8_1 p130 q130; obtain rfl : ad129 = ad130 := (by injection e130); replace p130 := eq_true p130; replace q130 := eq_true q130
      go_wp2
      repeat (go_quiet (fail); try go_wp2)
      go_roundg k1
      case measure => have := HK1.out; omega
      case rel => exact ⟨(wrap64 (x7_1 + (wrap64 (((rd_T104 l0 x8_1).f0) * ((rd_T104 l0 x8_1).f1))))), (wrap64 (x8_1 + 1)), Za, Za, H', ⟨Zd⟩, Zb⟩
     ·rw [if_neg c6] at H
      exact absurd H (by simp)
    ·rw [if_neg c5] at H
     exact absurd H (by simp)
   ·rw [if_neg c4] at H
    have c4b0 := decide_eq_false c4; clear c4
    by_cases c7 : 0 ≤ a1
    ·rw [if_pos c7] at H
     have c7b0 := decide_eq_true c7; clear c7
     by_cases c8 : a1 < (l0.length : Int)
     ·rw [if_pos c8] at H
      have c8b0 := decide_eq_true c8; clear c8; obtain rfl := Option.some.inj H; have p131 : 0 ≤ (a1 : Int) := of_decide_eq_true Zc; have q131 : a1 < (l0.length : Int) := of_decide_eq_true Zc; obtain ⟨ad131, e131, hx131_0, hx131_1⟩ := at_T104 HR0.out a1 p131 q131
      cases e131
      replace p131 := eq_true p131; replace q131 := eq_true q131
      go_wp2
      repeat (go_quiet (fail); try go_wp2)
      go_ret
      exact ⟨Za, Zb⟩
     ·rw [if_neg c8] at H
      exact absurd H (by simp)
    ·rw [if_neg c7] at H
     exact absurd H (by simp)
def spec_l08Time.f (k : Nat) (l0_0 : List (S104)) (l0_1 : List (S62)) (l0_2 : List (S39)) (a1_0 : Int) (a1_1 : Int) (a1_2 : ByteArray) (a1_3 : Int) : Option (Int) := (spec_l07Time.f k l0_0 a1_0 a1_1).bind fun t134 => ((spec_l03Find.f k l0_1 a1_2).bind fun t135 => (if 0 ≤ t135 then (if t135 < (l0_1.length : Int) then (some (wrap64 (t134 - ((rd_T62 l0_1 t135).f3)))) else (none)) else (none)))
set_option maxHeartbeats 8000000 in
set_option maxRecDepth 100000 in
theorem spec_l08Time.calls (k : Nat) (A0_0 : Option Addr) (c0_0 : Nat) (l0_0 : List (S104)) (A0_1 : Option Addr) (c0_1 : Nat) (l0_1 : List (S62)) (A0_2 : Option Addr) (c0_2 : Nat) (l0_2 : List (S39)) (a1_0 : Int) (a1_1 : Int) (a1_2 : ByteArray) (a1_3 : Int) (r : Int) (w : World) (hr0_0 : Kd.C k104 w A0_0 l0_0.length l0_0) (hc0_0 : l0_0.length ≤ c0_0) (hr0_1 : Kd.C k62 w A0_1 l0_1.length l0_1) (hc0_1 : l0_1.length ≤ c0_1) (hr0_2 : Kd.C k39 w A0_2 l0_2.length l0_2) (hc0_2 : l0_2.length ≤ c0_2) (h : spec_l08Time.f k l0_0 l0_1 l0_2 a1_0 a1_1 a1_2 a1_3 = some r) :
  Calls Try.prog 90 #[.agg #[.slice A0_0 l0_0.length c0_0, .slice A0_1 l0_1.length c0_1, .slice A0_2 l0_2.length c0_2], .agg #[.int .i64 a1_0, .int .i64 a1_1, .string a1_2, .int .i64 a1_3]] w fun e w' => e = .returned (.int .i64 r) ∧ Below w.heap.size w w' := by
 have hu28 := Try.underlying28; have hu39 := Try.underlying39; have HR0_0 := am_ hr0_0; have HC0_0 := am_ hc0_0; clear hr0_0 hc0_0; have HR0_1 := am_ hr0_1; have HC0_1 := am_ hc0_1; clear hr0_1 hc0_1; have HR0_2 := am_ hr0_2; have HC0_2 := am_ hc0_2; clear hr0_2 hc0_2; have HB := am_ (Below.refl w.heap.size w); have H : ((spec_l07Time.f k l0_0 a1_0 a1_1).bind fun t134 => ((spec_l03Find.f k l0_1 a1_2).bind fun t135 => (if 0 ≤ t135 then (if t135 < (l0_1.length : Int) then (some (wrap64 (t134 - ((rd_T62 l0_1 t135).f3)))) else (none)) else (none)))) = some r := h; clear h; replace H := Option.bind_eq_some_iff.mp H; obtain ⟨t134, A30, H⟩ := H; have A3 := am_ A30; clear A30; replace H := Option.bind_eq_some_iff.mp H; obtain ⟨t135, A40, H⟩ := H; have A4 := am_ A40; clear A40
 by_cases c5 : 0 ≤ t135
 ·rw [if_pos c5] at H
  have c5b0 := decide_eq_true c5; clear c5
  by_cases c6 : t135 < (l0_1.length : Int)
  ·rw [if_pos c6] at H
   have c6b0 := decide_eq_true c6; clear c6; obtain rfl := Option.some.inj H
   go_enter Try.func90, Try.ntmps90
   go_wp2_with (first | ((with_reducible refine gate_dst (N := 2) rfl ?_); refine boxZ 2 #[.slice A0_0 l0_0.length c0_0, .slice A0_1 l0_1.length c0_1, .slice A0_2 l0_2.length c0_2] 28 ?_; intro gb132 hg w7 hbox hb; replace BK132 := am_ (hbox); replace GW132 := am_ ((Zr : w.heap.size ≤ gb132)); replace GE132 := GW132; replace HB := (bsZ Zf hb); clear hb hbox hg) | ((with_reducible refine gate_dst (N := 3) rfl ?_); refine boxZ 3 #[.int .i64 a1_0, .int .i64 a1_1, .string a1_2, .int .i64 a1_3] 39 ?_; intro gb133 hg w8 hbox hb; replace BK133 := am_ (hbox); replace GW133 := am_ (((Zt GE132) : w.heap.size ≤ gb133)); replace GE133 := GW133; replace HB := (bsZ (Zi GE132) hb); replace NB132_133 := am_ ((by rw [hg]; exact Nat.ne_of_lt (blk_lt (g := gb132) (b0Z BK132)) : gb132 ≠ gb133)); replace NB133_132 := am_ ((by rw [hg]; exact Nat.ne_of_gt (blk_lt (g := gb132) (b0Z BK132)) : gb133 ≠ gb132)); replace BK132 := (bkZ BK132 hb); clear hb hbox hg; have hnb9 := NB132_133.out; have hnc9 := NB133_132.out; obtain ⟨hcz10_0, hcz10_1, hcz10_2, hfz10_0, hfz10_1, hfz10_2⟩ := cz3 BK132; obtain ⟨hcz11_0, hcz11_1, hcz11_2, hcz11_3, hfz11_0, hfz11_1, hfz11_2, hfz11_3⟩ := cz4 BK133) | (go_at_call 99; (with_reducible refine (spec_l07Time.calls k _ _ l0_0 a1_0 a1_1 t134 _ ?_ ?_ A3.out).mono ?_); exact (Zu HR0_0); exact HC0_0.out; rintro e w' ⟨rfl, ⟨nd, rfl⟩⟩; (try first | exact ⟨rfl, _, World.drewN_drewN _ _ _⟩ | exact ⟨rfl, _, Eq.trans (World.drewN_drewN _ _ _) (congrArg (World.drewN _) (Nat.add_assoc _ _ _))⟩)) | (go_at_call 64; (with_reducible refine (spec_l03Find.calls k _ _ l0_1 a1_2 t135 _ ?_ ?_ A4.out).mono ?_); exact (Zv HR0_1 GE132 GE133); exact HC0_1.out; rintro e w' ⟨rfl, ⟨nd, rfl⟩⟩; (try first | exact ⟨rfl, _, World.drewN_drewN _ _ _⟩ | exact ⟨rfl, _, Eq.trans (World.drewN_drewN _ _ _) (congrArg (World.drewN _) (Nat.add_assoc _ _ _))⟩); have p136 : 0 ≤ (t135 : Int) := of_decide_eq_true Zc; have q136 : t135 < (l0_1.length : Int) := of_decide_eq_true Zc; obtain ⟨ad136, e136, hx136_0, hx136_1, hx136_2, hx136_3, hx136_4, hx136_5, hx136_6, hx136_7, hx136_8⟩ := at_T62 HR0_1.out t135 p136 q136; cases e136; replace hx136_0 := cbH HB hx136_0; replace hx136_1 := cbH HB hx136_1; replace hx136_2 := cbH HB hx136_2; replace hx136_3 := cbH HB hx136_3; replace hx136_4 := cbH HB hx136_4; replace hx136_5 := cbH HB hx136_5; replace hx136_6 := cbH HB hx136_6; replace hx136_7 := cbH HB hx136_7; replace hx136_8 := cbH HB hx136_8; replace p136 := eq_true p136; replace q136 := eq_true q136))
   repeat (go_quiet (first | ((with_reducible refine gate_dst (N := 2) rfl ?_); refine boxZ 2 #[.slice A0_0 l0_0.length c0_0, .slice A0_1 l0_1.length c0_1, .slice A0_2 l0_2.length c0_2] 28 ?_; intro gb132 hg w7 hbox hb; replace BK132 := am_ (hbox); replace GW132 := am_ ((Zr : w.heap.size ≤ gb132)); replace GE132 := GW132; replace HB := (bsZ Zf hb); clear hb hbox hg) | ((with_reducible refine gate_dst (N := 3) rfl ?_); refine boxZ 3 #[.int .i64 a1_0, .int .i64 a1_1, .string a1_2, .int .i64 a1_3] 39 ?_; intro gb133 hg w8 hbox hb; replace BK133 := am_ (hbox); replace GW133 := am_ (((Zt GE132) : w.heap.size ≤ gb133)); replace GE133 := GW133; replace HB := (bsZ (Zi GE132) hb); replace NB132_133 := am_ ((by rw [hg]; exact Nat.ne_of_lt (blk_lt (g := gb132) (b0Z BK132)) : gb132 ≠ gb133)); replace NB133_132 := am_ ((by rw [hg]; exact Nat.ne_of_gt (blk_lt (g := gb132) (b0Z BK132)) : gb133 ≠ gb132)); replace BK132 := (bkZ BK132 hb); clear hb hbox hg; have hnb9 := NB132_133.out; have hnc9 := NB133_132.out; obtain ⟨hcz10_0, hcz10_1, hcz10_2, hfz10_0, hfz10_1, hfz10_2⟩ := cz3 BK132; obtain ⟨hcz11_0, hcz11_1, hcz11_2, hcz11_3, hfz11_0, hfz11_1, hfz11_2, hfz11_3⟩ := cz4 BK133) | (go_at_call 99; (with_reducible refine (spec_l07Time.calls k _ _ l0_0 a1_0 a1_1 t134 _ ?_ ?_ A3.out).mono ?_); exact (Zu HR0_0); exact HC0_0.out; rintro e w' ⟨rfl, ⟨nd, rfl⟩⟩; (try first | exact ⟨rfl, _, World.drewN_drewN _ _ _⟩ | exact ⟨rfl, _, Eq.trans (World.drewN_drewN _ _ _) (congrArg (World.drewN _) (Nat.add_assoc _ _ _))⟩)) | (go_at_call 64; (with_reducible refine (spec_l03Find.calls k _ _ l0_1 a1_2 t135 _ ?_ ?_ A4.out).mono ?_); exact (Zv HR0_1 GE132 GE133); exact HC0_1.out; rintro e w' ⟨rfl, ⟨nd, rfl⟩⟩; (try first | exact ⟨rfl, _, World.drewN_drewN _ _ _⟩ | exact ⟨rfl, _, Eq.trans (World.drewN_drewN _ _ _) (congrArg (World.drewN _) (Nat.add_assoc _ _ _))⟩); have p136 : 0 ≤ (t135 : Int) := of_decide_eq_true Zc; have q136 : t135 < (l0_1.length : Int) := of_decide_eq_true Zc; obtain ⟨ad136, e136, hx136_0, hx136_1, hx136_2, hx136_3, hx136_4, hx136_5, hx136_6, hx136_7, hx136_8⟩ := at_T62 HR0_1.out t135 p136 q136; cases e136; replace hx136_0 := cbH HB hx136_0; replace hx136_1 := cbH HB hx136_1; replace hx136_2 := cbH HB hx136_2; replace hx136_3 := cbH HB hx136_3; replace hx136_4 := cbH HB hx136_4; replace hx136_5 := cbH HB hx136_5; replace hx136_6 := cbH HB hx136_6; replace hx136_7 := cbH HB hx136_7; replace hx136_8 := cbH HB hx136_8; replace p136 := eq_true p136; replace q136 := eq_true q136)); try go_wp2_with (first | ((with_reducible refine gate_dst (N := 2) rfl ?_); refine boxZ 2 #[.slice A0_0 l0_0.length c0_0, .slice A0_1 l0_1.length c0_1, .slice A0_2 l0_2.length c0_2] 28 ?_; intro gb132 hg w7 hbox hb; replace BK132 := am_ (hbox); replace GW132 := am_ ((Zr : w.heap.size ≤ gb132)); replace GE132 := GW132; replace HB := (bsZ Zf hb); clear hb hbox hg) | ((with_reducible refine gate_dst (N := 3) rfl ?_); refine boxZ 3 #[.int .i64 a1_0, .int .i64 a1_1, .string a1_2, .int .i64 a1_3] 39 ?_; intro gb133 hg w8 hbox hb; replace BK133 := am_ (hbox); replace GW133 := am_ (((Zt GE132) : w.heap.size ≤ gb133)); replace GE133 := GW133; replace HB := (bsZ (Zi GE132) hb); replace NB132_133 := am_ ((by rw [hg]; exact Nat.ne_of_lt (blk_lt (g := gb132) (b0Z BK132)) : gb132 ≠ gb133)); replace NB133_132 := am_ ((by rw [hg]; exact Nat.ne_of_gt (blk_lt (g := gb132) (b0Z BK132)) : gb133 ≠ gb132)); replace BK132 := (bkZ BK132 hb); clear hb hbox hg; have hnb9 := NB132_133.out; have hnc9 := NB133_132.out; obtain ⟨hcz10_0, hcz10_1, hcz10_2, hfz10_0, hfz10_1, hfz10_2⟩ := cz3 BK132; obtain ⟨hcz11_0, hcz11_1, hcz11_2, hcz11_3, hfz11_0, hfz11_1, hfz11_2, hfz11_3⟩ := cz4 BK133) | (go_at_call 99; (with_reducible refine (spec_l07Time.calls k _ _ l0_0 a1_0 a1_1 t134 _ ?_ ?_ A3.out).mono ?_); exact (Zu HR0_0); exact HC0_0.out; rintro e w' ⟨rfl, ⟨nd, rfl⟩⟩; (try first | exact ⟨rfl, _, World.drewN_drewN _ _ _⟩ | exact ⟨rfl, _, Eq.trans (World.drewN_drewN _ _ _) (congrArg (World.drewN _) (Nat.add_assoc _ _ _))⟩)) | (go_at_call 64; (with_reducible refine (spec_l03Find.calls k _ _ l0_1 a1_2 t135 _ ?_ ?_ A4.out).mono ?_); exact (Zv HR0_1 GE132 GE133); exact HC0_1.out; rintro e w' ⟨rfl, ⟨nd, rfl⟩⟩; (try first | exact ⟨rfl, _, World.drewN_drewN _ _ _⟩ | exact ⟨rfl, _, Eq.trans (World.drewN_drewN _ _ _) (congrArg (World.drewN _) (Nat.add_assoc _ _ _))⟩); have p136 : 0 ≤ (t135 : Int) := of_decide_eq_true Zc; have q136 : t135 < (l0_1.length : Int) := of_decide_eq_true Zc; obtain ⟨ad136, e136, hx136_0, hx136_1, hx136_2, hx136_3, hx136_4, hx136_5, hx136_6, hx136_7, hx136_8⟩ := at_T62 HR0_1.out t135 p136 q136; cases e136; replace hx136_0 := cbH HB hx136_0; replace hx136_1 := cbH HB hx136_1; replace hx136_2 := cbH HB hx136_2; replace hx136_3 := cbH HB hx136_3; replace hx136_4 := cbH HB hx136_4; replace hx136_5 := cbH HB hx136_5; replace hx136_6 := cbH HB hx136_6; replace hx136_7 := cbH HB hx136_7; replace hx136_8 := cbH HB hx136_8; replace p136 := eq_true p136; replace q136 := eq_true q136)))
   go_ret
   exact ⟨by first | rfl | (simp only [i64_w]; done) | (simp only [i64_w]; rfl) | (simp [errW_none, errW_some] <;> rfl) | (simp [*, errW_none, errW_some] <;> rfl), (Zw GE132 GE133)⟩
  ·rw [if_neg c6] at H
   exact absurd H (by simp)
 ·rw [if_neg c5] at H
  exact absurd H (by simp)
mutual
def spec_IsShow.j0 : Nat → Bool → List (S104) → List (S62) → List (S39) → Option (Bool)
 | 0, _, _, _, _ => none
 | k + 1, x20, x138000, x138001, x138002 => if x20 = true then (some false) else (spec_IsShow.l0 k 0 x138000 x138001 x138002)
def spec_IsShow.l0 : Nat → Int → List (S104) → List (S62) → List (S39) → Option (Bool)
 | 0, _, _, _, _ => none
 | k + 1, x3, x138000, x138001, x138002 => if x3 < (x138002.length : Int) then (if 0 ≤ x3 then ((spec_l07Has.f x138000 ((rd_T39 x138002 x3).f0) ((rd_T39 x138002 x3).f1)).bind fun t142 => (if t142 = true then ((spec_l03Find.f k x138001 ((rd_T39 x138002 x3).f2)).bind fun t143 => (if t143 < 0 then (some false) else ((spec_l01In.f ((rd_T39 x138002 x3).f3) 0 11).bind fun t144 => (if t144 = true then ((spec_l08Time.f k x138000 x138001 x138002 ((rd_T39 x138002 x3).f0) ((rd_T39 x138002 x3).f1) ((rd_T39 x138002 x3).f2) ((rd_T39 x138002 x3).f3)).bind fun t145 => (if t145 < 0 then (some false) else (spec_IsShow.l0 k (wrap64 (x3 + 1)) x138000 x138001 x138002))) else (some false))))) else (some false))) else (none)) else (some true)
end
def spec_IsShow.f (k : Nat) (l0_0 : List (S104)) (l0_1 : List (S62)) (l0_2 : List (S39)) : Option (Bool) := (spec_IsScore.f k l0_0).bind fun t138 => (if t138 = true then ((spec_AreArticles.f k l0_1).bind fun t139 => (if t139 = true then (spec_IsShow.j0 k (decide ((l0_2.length : Int) > 20)) l0_0 l0_1 l0_2) else (spec_IsShow.j0 k true l0_0 l0_1 l0_2))) else (spec_IsShow.j0 k true l0_0 l0_1 l0_2))
set_option maxHeartbeats 8000000 in
set_option maxRecDepth 100000 in
theorem spec_IsShow.calls (k : Nat) (A0_0 : Option Addr) (c0_0 : Nat) (l0_0 : List (S104)) (A0_1 : Option Addr) (c0_1 : Nat) (l0_1 : List (S62)) (A0_2 : Option Addr) (c0_2 : Nat) (l0_2 : List (S39)) (r : Bool) (w : World) (hr0_0 : Kd.C k104 w A0_0 l0_0.length l0_0) (hc0_0 : l0_0.length ≤ c0_0) (hr0_1 : Kd.C k62 w A0_1 l0_1.length l0_1) (hc0_1 : l0_1.length ≤ c0_1) (hr0_2 : Kd.C k39 w A0_2 l0_2.length l0_2) (hc0_2 : l0_2.length ≤ c0_2) (h : spec_IsShow.f k l0_0 l0_1 l0_2 = some r) :
  Calls Try.prog 56 #[.agg #[.slice A0_0 l0_0.length c0_0, .slice A0_1 l0_1.length c0_1, .slice A0_2 l0_2.length c0_2]] w fun e w' => e = .returned (.bool r) ∧ Below w.heap.size w w' := by
 have hu28 := Try.underlying28; have hu39 := Try.underlying39; have HR0_0 := am_ hr0_0; have HC0_0 := am_ hc0_0; clear hr0_0 hc0_0; have HR0_1 := am_ hr0_1; have HC0_1 := am_ hc0_1; clear hr0_1 hc0_1; have HR0_2 := am_ hr0_2; have HC0_2 := am_ hc0_2; clear hr0_2 hc0_2; have HB := am_ (Below.refl w.heap.size w); have H : ((spec_IsScore.f k l0_0).bind fun t138 => (if t138 = true then ((spec_AreArticles.f k l0_1).bind fun t139 => (if t139 = true then (spec_IsShow.j0 k (decide ((l0_2.length : Int) > 20)) l0_0 l0_1 l0_2) else (spec_IsShow.j0 k true l0_0 l0_1 l0_2))) else (spec_IsShow.j0 k true l0_0 l0_1 l0_2))) = some r := h; clear h; have HC2 := am_ H; clear H
 go_enter Try.func56, Try.ntmps56
 go_upto_region 1 with (first | ((with_reducible refine gate_dst (N := 1) rfl ?_); (try (refine gate_guard (by rfl) ?_; dsimp only)); refine boxZ 1 #[.slice A0_0 l0_0.length c0_0, .slice A0_1 l0_1.length c0_1, .slice A0_2 l0_2.length c0_2] 28 ?_; intro gb137 hg w3 hbox hb; replace BK137 := am_ (hbox); replace GW137 := am_ ((Zr : w.heap.size ≤ gb137)); replace GE137 := GW137; replace HB := (bsZ Zf hb); clear hb hbox hg))
 (try simp only [Act.put, List.setIfInBounds_toArray, List.set_cons_zero, List.set_cons_succ])
 go_cut [20] (fun v20 wc => ∃ (kq : Nat) (x20_1 : Bool), v20 = .bool x20_1 ∧ Aside0 (spec_IsShow.j0 kq x20_1 l0_0 l0_1 l0_2 = some r) ∧ Aside0 (kq ≤ k) ∧ Aside0 (wc.heap[gb137]? = some (.cells #[(.slice A0_0 l0_0.length c0_0), (.slice A0_1 l0_1.length c0_1), (.slice A0_2 l0_2.length c0_2)] 28 (0, 0))) ∧ Aside0 (Below w.heap.size w wc))
 case first =>
  have H := HC2.out; clear HC2; replace H := Option.bind_eq_some_iff.mp H; obtain ⟨t138, A40, H⟩ := H; have A4 := am_ A40; clear A40; have HS_ := am_ H; clear H; refine ci3 BK137 ?_; intros
  go_wp2_with (first | ((with_reducible refine gate_callee (f := 88) rfl ?_); refine gZ 7 Try.func88 #[.slice A0_0 l0_0.length c0_0] ?_; (with_reducible refine (spec_IsScore.calls k _ _ l0_0 t138 _ ?_ ?_ A4.out).mono ?_); exact (Zu HR0_0); exact HC0_0.out; rintro e w' ⟨rfl, ⟨nd, rfl⟩⟩; refine ⟨_, rfl, ?_⟩; refine ?roundEnd))
  case roundEnd =>
   by_cases c5 : t138 = true
   ·have H := HS_.out
    clear HS_; subst c5; rw [if_pos rfl] at H; replace H := Option.bind_eq_some_iff.mp H; obtain ⟨t139, A60, H⟩ := H; have A6 := am_ A60; clear A60; have HS_ := am_ H; clear H
    go_wp2_with (first | (go_at_call 81; (with_reducible refine (spec_AreArticles.calls k _ _ l0_1 t139 _ ?_ ?_ A6.out).mono ?_); exact (by repeat (first | exact (Kd.C_below HR0_1.out (Zi GE137)) | (with_reducible refine Kd.C_alloc ?_ _) | (with_reducible refine Kd.C_drewN ?_ _) | (with_reducible refine Kd.C_drew ?_))); exact HC0_1.out; rintro e w9 ⟨rfl, hb⟩; replace BK137 := (bkZ BK137 hb); replace HB := (bsZ (Zi GE137) hb); clear hb; refine ?roundEnd))
    case roundEnd =>
     by_cases c7 : t139 = true
     ·have H := HS_.out
      clear HS_; subst c7; rw [if_pos rfl] at H; have H' := am_ H; clear H; refine ci3 BK137 ?_; intros
      go_wp2_with (first | fail)
      go_meet
      case rel => exact ⟨_, (decide ((l0_2.length : Int) > 20)), Za, H', ⟨Zx⟩, ⟨(Zh BK137)⟩, ⟨(Zi GE137)⟩⟩
     ·have H := HS_.out
      clear HS_; replace c7 := Bool.eq_false_iff.mpr c7; subst c7; rw [if_neg (show ¬ (false = true) by decide)] at H; have H' := am_ H; clear H
      go_wp2_with (first | fail)
      go_meet
      case rel => exact ⟨_, (true), Za, H', ⟨Zx⟩, ⟨(Zh BK137)⟩, ⟨(Zi GE137)⟩⟩
   ·have H := HS_.out
    clear HS_; replace c5 := Bool.eq_false_iff.mpr c5; subst c5; rw [if_neg (show ¬ (false = true) by decide)] at H; have H' := am_ H; clear H
    go_wp2_with (first | fail)
    go_meet
    case rel => exact ⟨_, (true), Za, H', ⟨Zx⟩, ⟨(Zh BK137)⟩, ⟨(Zi GE137)⟩⟩
 case rest =>
  clear HC2
  try clear p2
  try clear c5
  try clear c7
  try clear c8
  obtain ⟨kq, x20_1, rfl, HA, HJ1, BK137, HB⟩ := hcut
  cases kq with
  | zero => exact absurd HA.out (by simp [spec_IsShow.j0])
  | succ kj1 =>
   have H := HA.out; clear HA; simp only [spec_IsShow.j0] at H
   by_cases c14 : x20_1 = true
   ·subst c14
    rw [if_pos rfl] at H; obtain rfl := Option.some.inj H
    go_wp2
    go_ret
    exact ⟨Zl, (Zi GE137)⟩
   ·replace c14 := Bool.eq_false_iff.mpr c14
    subst c14; rw [if_neg (show ¬ (false = true) by decide)] at H; have H' := am_ H; clear H
    go_wp2
    go_loopg [3] kj1 (fun kq v3 w' => ∃ (x3_2 : Int), v3 = .int .i64 x3_2 ∧ Aside0 (spec_IsShow.l0 kq x3_2 l0_0 l0_1 l0_2 = some r) ∧ Aside0 (kq ≤ kj1) ∧ Aside0 (w'.heap[gb137]? = some (.cells #[(.slice A0_0 l0_0.length c0_0), (.slice A0_1 l0_1.length c0_1), (.slice A0_2 l0_2.length c0_2)] 28 (0, 0))) ∧ Aside0 (Below w.heap.size w w'))
    case atStart => exact ⟨(0), Za, H', ⟨Nat.le_refl _⟩, ⟨(Zh BK137)⟩, ⟨(Zi GE137)⟩⟩
    case round =>
     clear H'
     try clear c1
     try clear p2
     try clear c5
     try clear c7
     try clear c8
     try clear c14
     try clear p2
     obtain ⟨x3_2, rfl, HA, HK2, BK137, HB⟩ := hrel
     cases gk with
     | zero => exact absurd HA.out (by simp [spec_IsShow.l0])
     | succ k2 =>
      have H := HA.out; clear HA; simp only [spec_IsShow.l0] at H
      by_cases c15 : x3_2 < (l0_2.length : Int)
      ·rw [if_pos c15] at H
       have c15b0 := decide_eq_true c15; clear c15
       by_cases c16 : 0 ≤ x3_2
       ·rw [if_pos c16] at H
        have c16b0 := decide_eq_true c16; clear c16; replace H := Option.bind_eq_some_iff.mp H; obtain ⟨t142, A170, H⟩ := H; have A17 := am_ A170; clear A170; have HS_ := am_ H; clear H; refine ci3 BK137 ?_; intros; have p140 : 0 ≤ (x3_2 : Int) := of_decide_eq_true Zc; have q140 : x3_2 < (l0_2.length : Int) := of_decide_eq_true Zc; obtain ⟨ad140, e140, hx140_0, hx140_1, hx140_2, hx140_3⟩ := at_T39 HR0_2.out x3_2 p140 q140
        cases e140
        replace hx140_0 := cbH HB hx140_0; replace hx140_1 := cbH HB hx140_1; replace hx140_2 := cbH HB hx140_2; replace hx140_3 := cbH HB hx140_3; replace p140 := eq_true p140; replace q140 := eq_true q140
        go_wp2_with (first | ((with_reducible refine gate_dst (N := 4) rfl ?_); (try (refine gate_guard (by rfl) ?_; dsimp only)); refine boxZ 4 #[.int .i64 0, .int .i64 0, .string (⟨#[]⟩ : ByteArray), .int .i64 0] 39 ?_; intro gb141 hg w22 hbox hb; replace BK141 := am_ (hbox); replace GW141 := am_ (((Zt GE137) : w.heap.size ≤ gb141)); replace GE141 := GW141; replace HB := (bsZ (Zi GE137) hb); replace NB137_141 := am_ ((by rw [hg]; exact Nat.ne_of_lt (blk_lt (g := gb137) (b0Z BK137)) : gb137 ≠ gb141)); replace NB141_137 := am_ ((by rw [hg]; exact Nat.ne_of_gt (blk_lt (g := gb137) (b0Z BK137)) : gb141 ≠ gb137)); replace BK137 := (bkZ BK137 hb); clear hb hbox hg; have hnb23 := NB141_137.out; have hnc23 := NB137_141.out; refine ci4 BK141 ?_; intros; refine ci3 BK137 ?_; intros) | ((with_reducible refine gate_callee (f := 89) rfl ?_); refine gZ 39 Try.func89 #[.slice A0_0 l0_0.length c0_0, .int .i64 ((rd_T39 l0_2 x3_2).f0), .int .i64 ((rd_T39 l0_2 x3_2).f1)] ?_; (with_reducible refine (spec_l07Has.calls _ _ l0_0 ((rd_T39 l0_2 x3_2).f0) ((rd_T39 l0_2 x3_2).f1) t142 _ ?_ ?_ A17.out).mono ?_); exact Kd.C_below HR0_0.out (Zw GE137 GE141); exact HC0_0.out; rintro e w' ⟨rfl, ⟨nd, rfl⟩⟩; refine ⟨_, rfl, ?_⟩; refine ?roundEnd))
        case roundEnd =>
         by_cases c18 : t142 = true
         ·have H := HS_.out
          clear HS_; subst c18; rw [if_pos rfl] at H; replace H := Option.bind_eq_some_iff.mp H; obtain ⟨t143, A190, H⟩ := H; have A19 := am_ A190; clear A190; have HS_ := am_ H; clear H
          go_wp2_with (first | (go_at_call 64; (with_reducible refine (spec_l03Find.calls k2 _ _ l0_1 ((rd_T39 l0_2 x3_2).f2) t143 _ ?_ ?_ A19.out).mono ?_); exact Kd.C_below HR0_1.out (Zw GE137 GE141); exact HC0_1.out; rintro e w' ⟨rfl, ⟨nd, rfl⟩⟩; refine ?roundEnd))
          case roundEnd =>
           by_cases c20 : t143 < 0
           ·have H := HS_.out
            clear HS_; rw [if_pos c20] at H; have c20b0 := decide_eq_true c20; clear c20; obtain rfl := Option.some.inj H
            go_wp2_with (first | fail)
            go_ret
            exact ⟨Zl, (Zw GE137 GE141)⟩
           ·have H := HS_.out
            clear HS_; rw [if_neg c20] at H; have c20b0 := decide_eq_false c20; clear c20; replace H := Option.bind_eq_some_iff.mp H; obtain ⟨t144, A260, H⟩ := H; have A26 := am_ A260; clear A260; have HS_ := am_ H; clear H
            go_wp2_with (first | (go_at_call 57; (with_reducible refine (spec_l01In.calls ((rd_T39 l0_2 x3_2).f3) 0 11 t144 _ A26.out).mono ?_); rintro e w' ⟨rfl, ⟨nd, rfl⟩⟩; refine ?roundEnd))
            case roundEnd =>
             by_cases c27 : t144 = true
             ·have H := HS_.out
              clear HS_; subst c27; rw [if_pos rfl] at H; replace H := Option.bind_eq_some_iff.mp H; obtain ⟨t145, A280, H⟩ := H; have A28 := am_ A280; clear A280; have HS_ := am_ H; clear H
              go_wp2_with (first | (go_at_call 90; (with_reducible refine (spec_l08Time.calls k2 _ _ l0_0 _ _ l0_1 _ _ l0_2 ((rd_T39 l0_2 x3_2).f0) ((rd_T39 l0_2 x3_2).f1) ((rd_T39 l0_2 x3_2).f2) ((rd_T39 l0_2 x3_2).f3) t145 _ ?_ ?_ ?_ ?_ ?_ ?_ A28.out).mono ?_); exact Kd.C_below HR0_0.out (Zw GE137 GE141); exact HC0_0.out; exact Kd.C_below HR0_1.out (Zw GE137 GE141); exact HC0_1.out; exact Kd.C_below HR0_2.out (Zw GE137 GE141); exact HC0_2.out; rintro e w35 ⟨rfl, hb⟩; replace BK137 := am_ (blk_below (g := gb137) (bfZ BK137 NB137_141) hb); replace BK141 := am_ (blk_below (g := gb141) (o := .cells #[.int .i64 ((rd_T39 l0_2 x3_2).f0), .int .i64 ((rd_T39 l0_2 x3_2).f1), .string ((rd_T39 l0_2 x3_2).f2), .int .i64 ((rd_T39 l0_2 x3_2).f3)] 39 (0, 0)) (bpZ BK141) hb); replace HB := (bsZ (Zw GE137 GE141) hb); clear hb; refine ?roundEnd))
              case roundEnd =>
               by_cases c29 : t145 < 0
               ·have H := HS_.out
                clear HS_; rw [if_pos c29] at H; have c29b0 := decide_eq_true c29; clear c29; obtain rfl := Option.some.inj H
                go_wp2_with (first | fail)
                go_ret
                exact ⟨Zl, (Zw GE137 GE141)⟩
               ·have H := HS_.out
                clear HS_; rw [if_neg c29] at H; have c29b0 := decide_eq_false c29; clear c29; have H' := am_ H; clear H
                go_wp2_with (first | fail)
                go_roundg k2
                case measure => have := HJ1.out; have := HK2.out; omega
                case rel => exact ⟨(wrap64 (x3_2 + 1)), Za, H', ⟨by have := HJ1.out; have := HK2.out; omega⟩, ⟨(Zh BK137)⟩, ⟨(Zw GE137 GE141)⟩⟩
             ·have H := HS_.out
              clear HS_; replace c27 := Bool.eq_false_iff.mpr c27; subst c27; rw [if_neg (show ¬ (false = true) by decide)] at H; obtain rfl := Option.some.inj H
              go_wp2_with (first | fail)
              go_ret
              exact ⟨Zl, (Zw GE137 GE141)⟩
         ·have H := HS_.out
          clear HS_; replace c18 := Bool.eq_false_iff.mpr c18; subst c18; rw [if_neg (show ¬ (false = true) by decide)] at H; obtain rfl := Option.some.inj H
          go_wp2_with (first | fail)
          go_ret
          exact ⟨Zl, (Zw GE137 GE141)⟩
       ·rw [if_neg c16] at H
        exact absurd H (by simp)
      ·rw [if_neg c15] at H
       have c15b0 := decide_eq_false c15; clear c15; obtain rfl := Option.some.inj H; refine ci3 BK137 ?_; intros
       go_wp2
       go_ret
       exact ⟨Zl, (Zi GE137)⟩
def spec_l08With.f (l0_0 : List (S104)) (l0_1 : List (S62)) (l0_2 : List (S39)) (l1 : List (S39)) : Option ((List (S104)) × (List (S62)) × (List (S39))) := (some (([] : List (S104)) : List (S104))).bind fun y148 => (if y148.length + l0_0.length < 8796093022208 then ((some (([] : List (S62)) : List (S62))).bind fun y154 => (if y154.length + l0_1.length < 1759218604441 then ((some (([] : List (S39)) : List (S39))).bind fun y160 => (if y160.length + l1.length < 3518437208883 then (some ((y148 ++ l0_0), (y154 ++ l0_1), (y160 ++ l1))) else (none))) else (none))) else (none))
def spec_l08With.T1 : Bool × List (List Nat × List Nat) := (true, [([], []), ([], []), ([1], [1]), ([0, 2], [0, 2]), ([], []), ([], []), ([5], [5]), ([4, 6, 3], [4, 6]), ([], []), ([], []), ([8, 9, 7], [8, 9]), ([3, 7, 10], [3, 7, 10]), ([11, 10, 0, 1, 2, 3, 4, 5, 6, 7, 8, 9, 10, 11], [11])])
def spec_l08With.B1 : List Nat := [0, 0, 2, 7, 0, 0, 32, 127, 0, 0, 1023, 2047, 4095]
theorem spec_l08With.tab1 : rtab .any (opsOf Try.f61 1) = spec_l08With.T1 := by kernel_rfl
theorem spec_l08With.bits1 : waitsOk spec_l08With.T1.2 spec_l08With.B1 = true := by kernel_rfl
set_option maxHeartbeats 8000000 in
set_option maxRecDepth 100000 in
theorem spec_l08With.calls (A0_0 : Option Addr) (c0_0 : Nat) (l0_0 : List (S104)) (A0_1 : Option Addr) (c0_1 : Nat) (l0_1 : List (S62)) (A0_2 : Option Addr) (c0_2 : Nat) (l0_2 : List (S39)) (A1 : Option Addr) (c1 : Nat) (l1 : List (S39)) (r1 : List (S104)) (r2 : List (S62)) (r3 : List (S39)) (w : World) (hr0_0 : Kd.C k104 w A0_0 l0_0.length l0_0) (hc0_0 : l0_0.length ≤ c0_0) (hr0_1 : Kd.C k62 w A0_1 l0_1.length l0_1) (hc0_1 : l0_1.length ≤ c0_1) (hr0_2 : Kd.C k39 w A0_2 l0_2.length l0_2) (hc0_2 : l0_2.length ≤ c0_2) (hr1 : Kd.C k39 w A1 l1.length l1) (hc1 : l1.length ≤ c1) (h : spec_l08With.f l0_0 l0_1 l0_2 l1 = some (r1, r2, r3)) :
  Calls Try.prog 61 #[.agg #[.slice A0_0 l0_0.length c0_0, .slice A0_1 l0_1.length c0_1, .slice A0_2 l0_2.length c0_2], .slice A1 l1.length c1] w fun e w' => ∃ v0_ v1_ v2_ : Value, e = .returned (.agg #[v0_, v1_, v2_]) ∧ Kd.R k104 104 w' w.heap.size (fun _ => True) v0_ r1 ∧ Kd.R k62 62 w' w.heap.size (fun _ => True) v1_ r2 ∧ Kd.R k39 39 w' w.heap.size (fun _ => True) v2_ r3 ∧ Below w.heap.size w w' := by
 have hu28 := Try.underlying28; have HR0_0 := am_ hr0_0; have HC0_0 := am_ hc0_0; clear hr0_0 hc0_0; have HR0_1 := am_ hr0_1; have HC0_1 := am_ hc0_1; clear hr0_1 hc0_1; have HR0_2 := am_ hr0_2; have HC0_2 := am_ hc0_2; clear hr0_2 hc0_2; have HR1 := am_ hr1; have HC1 := am_ hc1; clear hr1 hc1; have HB := am_ (Below.refl w.heap.size w); have H : ((some (([] : List (S104)) : List (S104))).bind fun y148 => (if y148.length + l0_0.length < 8796093022208 then ((some (([] : List (S62)) : List (S62))).bind fun y154 => (if y154.length + l0_1.length < 1759218604441 then ((some (([] : List (S39)) : List (S39))).bind fun y160 => (if y160.length + l1.length < 3518437208883 then (some ((y148 ++ l0_0), (y154 ++ l0_1), (y160 ++ l1))) else (none))) else (none))) else (none))) = some (r1, r2, r3) := h; clear h; obtain ⟨y148, hy148⟩ : ∃ y_ : List (S104), y_ = (([] : List (S104))) := ⟨_, rfl⟩
 replace H : (if y148.length + l0_0.length < 8796093022208 then ((some (([] : List (S62)) : List (S62))).bind fun y154 => (if y154.length + l0_1.length < 1759218604441 then ((some (([] : List (S39)) : List (S39))).bind fun y160 => (if y160.length + l1.length < 3518437208883 then (some ((y148 ++ l0_0), (y154 ++ l0_1), (y160 ++ l1))) else (none))) else (none))) else (none)) = some (r1, r2, r3) := by (try rw [hy148]); first | with_reducible exact H | with_reducible exact (Option.bind_some _ _).symm.trans H | exact H
 have Ny148 := am_ hy148; clear hy148
 by_cases c3 : y148.length + l0_0.length < 8796093022208
 ·rw [if_pos c3] at H
  have LMc3 := am_ c3; clear c3; obtain ⟨y151, hy151⟩ : ∃ y_ : List (S104), y_ = (y148 ++ l0_0) := ⟨_, rfl⟩
  (first | (rw [← hy151] at H; with_reducible replace H := bindZ H) | rw [← hy151] at H | skip)
  have Ny151 := am_ hy151; clear hy151; obtain ⟨y154, hy154⟩ : ∃ y_ : List (S62), y_ = (([] : List (S62))) := ⟨_, rfl⟩
  replace H : (if y154.length + l0_1.length < 1759218604441 then ((some (([] : List (S39)) : List (S39))).bind fun y160 => (if y160.length + l1.length < 3518437208883 then (some (y151, (y154 ++ l0_1), (y160 ++ l1))) else (none))) else (none)) = some (r1, r2, r3) := by (try rw [hy154]); first | with_reducible exact H | with_reducible exact (Option.bind_some _ _).symm.trans H | exact H
  have Ny154 := am_ hy154; clear hy154
  by_cases c4 : y154.length + l0_1.length < 1759218604441
  ·rw [if_pos c4] at H
   have LMc4 := am_ c4; clear c4; obtain ⟨y157, hy157⟩ : ∃ y_ : List (S62), y_ = (y154 ++ l0_1) := ⟨_, rfl⟩
   (first | (rw [← hy157] at H; with_reducible replace H := bindZ H) | rw [← hy157] at H | skip)
   have Ny157 := am_ hy157; clear hy157; obtain ⟨y160, hy160⟩ : ∃ y_ : List (S39), y_ = (([] : List (S39))) := ⟨_, rfl⟩
   replace H : (if y160.length + l1.length < 3518437208883 then (some (y151, y157, (y160 ++ l1))) else (none)) = some (r1, r2, r3) := by (try rw [hy160]); first | with_reducible exact H | with_reducible exact (Option.bind_some _ _).symm.trans H | exact H
   have Ny160 := am_ hy160; clear hy160
   by_cases c5 : y160.length + l1.length < 3518437208883
   ·rw [if_pos c5] at H
    have LMc5 := am_ c5; clear c5; obtain ⟨y163, hy163⟩ : ∃ y_ : List (S39), y_ = (y160 ++ l1) := ⟨_, rfl⟩
    (first | (rw [← hy163] at H; with_reducible replace H := bindZ H) | rw [← hy163] at H | skip)
    have Ny163 := am_ hy163; clear hy163; simp only [Option.some.injEq, Prod.mk.injEq] at H; obtain ⟨rfl, rfl, rfl⟩ := H
    go_enter Try.func61, Try.ntmps61
    try go_wp2_with (first | ((with_reducible refine gate_dst (N := 2) rfl ?_); refine boxZ 2 #[.slice A0_0 l0_0.length c0_0, .slice A0_1 l0_1.length c0_1, .slice A0_2 l0_2.length c0_2] 28 ?_; intro gb146 hg w6 hbox hb; replace BK146 := am_ (hbox); replace GW146 := am_ ((Zr : w.heap.size ≤ gb146)); replace GE146 := GW146; replace HB := (bsZ Zf hb); clear hb hbox hg) | ((with_reducible refine gate_dst (N := 4) rfl ?_); refine boxZ 4 #[.slice none 0 0, .slice none 0 0, .slice none 0 0] 28 ?_; intro gb147 hg w7 hbox hb; replace BK147 := am_ (hbox); replace GW147 := am_ (((Zt GE146) : w.heap.size ≤ gb147)); replace GE147 := GW147; replace HB := (bsZ (Zi GE146) hb); replace NB146_147 := am_ ((by rw [hg]; exact Nat.ne_of_lt (blk_lt (g := gb146) (b0Z BK146)) : gb146 ≠ gb147)); replace NB147_146 := am_ ((by rw [hg]; exact Nat.ne_of_gt (blk_lt (g := gb146) (b0Z BK146)) : gb147 ≠ gb146)); replace BK146 := (bkZ BK146 hb); clear hb hbox hg))
    replace BK146 := am_ (blk_drew BK146.out); replace BK147 := am_ (blk_drew BK147.out); replace HB := am_ (below_drew1 HB.out); refine start_ (n := 13) (S := fun w' => w'.cell? ⟨gb146, 0, none⟩ = some (.slice A0_0 l0_0.length c0_0) ∧ w'.cell? ⟨gb146, 1, none⟩ = some (.slice A0_1 l0_1.length c0_1) ∧ w'.cell? ⟨gb146, 2, none⟩ = some (.slice A0_2 l0_2.length c0_2)) (ds := []) (bT 13 0) Zk rfl rfl ⟨(blk_cell BK146.out 0).trans rfl, (blk_cell BK146.out 1).trans rfl, (blk_cell BK146.out 2).trans rfl⟩ (fun hHeld => ?_); refine with_tabW spec_l08With.tab1 spec_l08With.bits1 (fun HT_ HW_ => ?_); generalize w7.drew = w8 at BK146 BK147 HB hHeld ⊢; refine pureZ HT_ 1 (some 6) (bB 13 2) ?_; refine pureZ HT_ 5 (some 10) (bB 13 34) ?_; refine pureZ HT_ 9 (some 14) (bB 13 546) ?_; refine takeZ3 HT_ HW_ 2 (some 7) (bB 13 550) hHeld ?_; refine takeZ3 HT_ HW_ 6 (some 11) (bB 13 614) hHeld ?_; refine join_ (σ := Value × Value × Value × Value × Value) 3 (bT 13 10) (fun s_ => [(5, s_.1), (8, s_.2.1), (9, s_.2.2.1), (12, s_.2.2.2.1), (13, s_.2.2.2.2)]) (fun s_ w' => (w'.cell? ⟨gb146, 0, none⟩ = some (.slice A0_0 l0_0.length c0_0) ∧ w'.cell? ⟨gb146, 1, none⟩ = some (.slice A0_1 l0_1.length c0_1) ∧ w'.cell? ⟨gb146, 2, none⟩ = some (.slice A0_2 l0_2.length c0_2)) ∧ (Kd.R k104 104 w' w.heap.size (fun _ => True) s_.2.1 y151) ∧ (Kd.R k62 62 w' w.heap.size (fun _ => True) s_.2.2.2.1 y157) ∧ (Kd.R k39 39 w' w.heap.size (fun _ => True) s_.2.2.2.2 y160) ∧ (w'.heap[gb146]? = some (.cells #[.slice A0_0 l0_0.length c0_0, .slice A0_1 l0_1.length c0_1, .slice A0_2 l0_2.length c0_2] 28 (0, 0))) ∧ (w'.heap[gb147]? = some (.cells #[.slice none 0 0, .slice none 0 0, .slice none 0 0] 28 (0, 0))) ∧ (Below w.heap.size w w')) ?_ ?_; rotate_left
    ·intro hJ0_3_4_7_8
     refine join_ (σ := Value × Value × Value × Value) 4 (bB 13 767) (fun s_ => [(5, s_.1), (8, s_.2.1), (9, s_.2.2.1), (12, s_.2.2.2)]) (fun s_ w' => (w'.cell? ⟨gb146, 0, none⟩ = some (.slice A0_0 l0_0.length c0_0) ∧ w'.cell? ⟨gb146, 1, none⟩ = some (.slice A0_1 l0_1.length c0_1) ∧ w'.cell? ⟨gb146, 2, none⟩ = some (.slice A0_2 l0_2.length c0_2)) ∧ (Kd.R k104 104 w' w.heap.size (fun _ => True) s_.2.1 y151) ∧ (Kd.R k62 62 w' w.heap.size (fun _ => True) s_.2.2.2 y157) ∧ (w'.heap[gb146]? = some (.cells #[.slice A0_0 l0_0.length c0_0, .slice A0_1 l0_1.length c0_1, .slice A0_2 l0_2.length c0_2] 28 (0, 0))) ∧ (w'.heap[gb147]? = some (.cells #[.slice none 0 0, .slice none 0 0, .slice none 0 0] 28 (0, 0))) ∧ (Below w.heap.size w w')) ?_ ?_; rotate_left
     ·intro hJ0_3_4_7
      refine join_ (σ := Value × Value × Value × Value) 4 (bB 13 895) (fun s_ => [(5, s_.1), (8, s_.2.1), (9, s_.2.2.1), (13, s_.2.2.2)]) (fun s_ w' => (w'.cell? ⟨gb146, 0, none⟩ = some (.slice A0_0 l0_0.length c0_0) ∧ w'.cell? ⟨gb146, 1, none⟩ = some (.slice A0_1 l0_1.length c0_1) ∧ w'.cell? ⟨gb146, 2, none⟩ = some (.slice A0_2 l0_2.length c0_2)) ∧ (Kd.R k104 104 w' w.heap.size (fun _ => True) s_.2.1 y151) ∧ (Kd.R k62 62 w' w.heap.size (fun _ => True) s_.2.2.1 y154) ∧ (Kd.R k39 39 w' w.heap.size (fun _ => True) s_.2.2.2 y160) ∧ (w'.heap[gb146]? = some (.cells #[.slice A0_0 l0_0.length c0_0, .slice A0_1 l0_1.length c0_1, .slice A0_2 l0_2.length c0_2] 28 (0, 0))) ∧ (w'.heap[gb147]? = some (.cells #[.slice none 0 0, .slice none 0 0, .slice none 0 0] 28 (0, 0))) ∧ (Below w.heap.size w w')) ?_ ?_; rotate_left
      ·intro hJ0_3_4_8
       refine join_ (σ := Value × Value × Value) 5 (bB 13 639) (fun s_ => [(5, s_.1), (8, s_.2.1), (9, s_.2.2)]) (fun s_ w' => (w'.cell? ⟨gb146, 0, none⟩ = some (.slice A0_0 l0_0.length c0_0) ∧ w'.cell? ⟨gb146, 1, none⟩ = some (.slice A0_1 l0_1.length c0_1) ∧ w'.cell? ⟨gb146, 2, none⟩ = some (.slice A0_2 l0_2.length c0_2)) ∧ (Kd.R k104 104 w' w.heap.size (fun _ => True) s_.2.1 y151) ∧ (Kd.R k62 62 w' w.heap.size (fun _ => True) s_.2.2 y154) ∧ (w'.heap[gb146]? = some (.cells #[.slice A0_0 l0_0.length c0_0, .slice A0_1 l0_1.length c0_1, .slice A0_2 l0_2.length c0_2] 28 (0, 0))) ∧ (w'.heap[gb147]? = some (.cells #[.slice none 0 0, .slice none 0 0, .slice none 0 0] 28 (0, 0))) ∧ (Below w.heap.size w w')) ?_ ?_; rotate_left
       ·intro hJ0_3_4
        refine join_ (σ := Value × Value × Value) 5 (bB 13 879) (fun s_ => [(5, s_.1), (8, s_.2.1), (13, s_.2.2)]) (fun s_ w' => (w'.cell? ⟨gb146, 0, none⟩ = some (.slice A0_0 l0_0.length c0_0) ∧ w'.cell? ⟨gb146, 1, none⟩ = some (.slice A0_1 l0_1.length c0_1) ∧ w'.cell? ⟨gb146, 2, none⟩ = some (.slice A0_2 l0_2.length c0_2)) ∧ (Kd.R k104 104 w' w.heap.size (fun _ => True) s_.2.1 y151) ∧ (Kd.R k39 39 w' w.heap.size (fun _ => True) s_.2.2 y160) ∧ (w'.heap[gb146]? = some (.cells #[.slice A0_0 l0_0.length c0_0, .slice A0_1 l0_1.length c0_1, .slice A0_2 l0_2.length c0_2] 28 (0, 0))) ∧ (w'.heap[gb147]? = some (.cells #[.slice none 0 0, .slice none 0 0, .slice none 0 0] 28 (0, 0))) ∧ (Below w.heap.size w w')) ?_ ?_; rotate_left
        ·intro hJ0_3_8
         refine join_ (σ := Value × Value × Value) 5 (bB 13 887) (fun s_ => [(5, s_.1), (9, s_.2.1), (13, s_.2.2)]) (fun s_ w' => (w'.cell? ⟨gb146, 0, none⟩ = some (.slice A0_0 l0_0.length c0_0) ∧ w'.cell? ⟨gb146, 1, none⟩ = some (.slice A0_1 l0_1.length c0_1) ∧ w'.cell? ⟨gb146, 2, none⟩ = some (.slice A0_2 l0_2.length c0_2)) ∧ (Kd.R k104 104 w' w.heap.size (fun _ => True) s_.1 y148) ∧ (Kd.R k62 62 w' w.heap.size (fun _ => True) s_.2.1 y154) ∧ (Kd.R k39 39 w' w.heap.size (fun _ => True) s_.2.2 y160) ∧ (w'.heap[gb146]? = some (.cells #[.slice A0_0 l0_0.length c0_0, .slice A0_1 l0_1.length c0_1, .slice A0_2 l0_2.length c0_2] 28 (0, 0))) ∧ (w'.heap[gb147]? = some (.cells #[.slice none 0 0, .slice none 0 0, .slice none 0 0] 28 (0, 0))) ∧ (Below w.heap.size w w')) ?_ ?_; rotate_left
         ·intro hJ0_4_8
          refine join_ (σ := Value × Value) 6 (bB 13 623) (fun s_ => [(5, s_.1), (8, s_.2)]) (fun s_ w' => (w'.cell? ⟨gb146, 0, none⟩ = some (.slice A0_0 l0_0.length c0_0) ∧ w'.cell? ⟨gb146, 1, none⟩ = some (.slice A0_1 l0_1.length c0_1) ∧ w'.cell? ⟨gb146, 2, none⟩ = some (.slice A0_2 l0_2.length c0_2)) ∧ (Kd.R k104 104 w' w.heap.size (fun _ => True) s_.2 y151) ∧ (w'.heap[gb146]? = some (.cells #[.slice A0_0 l0_0.length c0_0, .slice A0_1 l0_1.length c0_1, .slice A0_2 l0_2.length c0_2] 28 (0, 0))) ∧ (w'.heap[gb147]? = some (.cells #[.slice none 0 0, .slice none 0 0, .slice none 0 0] 28 (0, 0))) ∧ (Below w.heap.size w w')) ?_ ?_; rotate_left
          ·intro hJ0_3
           refine join_ (σ := Value × Value) 6 (bB 13 631) (fun s_ => [(5, s_.1), (9, s_.2)]) (fun s_ w' => (w'.cell? ⟨gb146, 0, none⟩ = some (.slice A0_0 l0_0.length c0_0) ∧ w'.cell? ⟨gb146, 1, none⟩ = some (.slice A0_1 l0_1.length c0_1) ∧ w'.cell? ⟨gb146, 2, none⟩ = some (.slice A0_2 l0_2.length c0_2)) ∧ (Kd.R k104 104 w' w.heap.size (fun _ => True) s_.1 y148) ∧ (Kd.R k62 62 w' w.heap.size (fun _ => True) s_.2 y154) ∧ (w'.heap[gb146]? = some (.cells #[.slice A0_0 l0_0.length c0_0, .slice A0_1 l0_1.length c0_1, .slice A0_2 l0_2.length c0_2] 28 (0, 0))) ∧ (w'.heap[gb147]? = some (.cells #[.slice none 0 0, .slice none 0 0, .slice none 0 0] 28 (0, 0))) ∧ (Below w.heap.size w w')) ?_ ?_; rotate_left
           ·intro hJ0_4
            refine join_ (σ := Value × Value) 6 (bB 13 871) (fun s_ => [(5, s_.1), (13, s_.2)]) (fun s_ w' => (w'.cell? ⟨gb146, 0, none⟩ = some (.slice A0_0 l0_0.length c0_0) ∧ w'.cell? ⟨gb146, 1, none⟩ = some (.slice A0_1 l0_1.length c0_1) ∧ w'.cell? ⟨gb146, 2, none⟩ = some (.slice A0_2 l0_2.length c0_2)) ∧ (Kd.R k104 104 w' w.heap.size (fun _ => True) s_.1 y148) ∧ (Kd.R k39 39 w' w.heap.size (fun _ => True) s_.2 y160) ∧ (w'.heap[gb146]? = some (.cells #[.slice A0_0 l0_0.length c0_0, .slice A0_1 l0_1.length c0_1, .slice A0_2 l0_2.length c0_2] 28 (0, 0))) ∧ (w'.heap[gb147]? = some (.cells #[.slice none 0 0, .slice none 0 0, .slice none 0 0] 28 (0, 0))) ∧ (Below w.heap.size w w')) ?_ ?_; rotate_left
            ·intro hJ0_8
             refine join_ (σ := Value × Value) 6 (bB 13 886) (fun s_ => [(9, s_.1), (13, s_.2)]) (fun s_ w' => (w'.cell? ⟨gb146, 0, none⟩ = some (.slice A0_0 l0_0.length c0_0) ∧ w'.cell? ⟨gb146, 1, none⟩ = some (.slice A0_1 l0_1.length c0_1) ∧ w'.cell? ⟨gb146, 2, none⟩ = some (.slice A0_2 l0_2.length c0_2)) ∧ (Kd.R k62 62 w' w.heap.size (fun _ => True) s_.1 y154) ∧ (Kd.R k39 39 w' w.heap.size (fun _ => True) s_.2 y160) ∧ (w'.heap[gb146]? = some (.cells #[.slice A0_0 l0_0.length c0_0, .slice A0_1 l0_1.length c0_1, .slice A0_2 l0_2.length c0_2] 28 (0, 0))) ∧ (w'.heap[gb147]? = some (.cells #[.slice none 0 0, .slice none 0 0, .slice none 0 0] 28 (0, 0))) ∧ (Below w.heap.size w w')) ?_ ?_; rotate_left
             ·intro hJ4_8
              refine join_ (σ := Value) 7 (bB 13 615) (fun s_ => [(5, s_)]) (fun s_ w' => (w'.cell? ⟨gb146, 0, none⟩ = some (.slice A0_0 l0_0.length c0_0) ∧ w'.cell? ⟨gb146, 1, none⟩ = some (.slice A0_1 l0_1.length c0_1) ∧ w'.cell? ⟨gb146, 2, none⟩ = some (.slice A0_2 l0_2.length c0_2)) ∧ (Kd.R k104 104 w' w.heap.size (fun _ => True) s_ y148) ∧ (w'.heap[gb146]? = some (.cells #[.slice A0_0 l0_0.length c0_0, .slice A0_1 l0_1.length c0_1, .slice A0_2 l0_2.length c0_2] 28 (0, 0))) ∧ (w'.heap[gb147]? = some (.cells #[.slice none 0 0, .slice none 0 0, .slice none 0 0] 28 (0, 0))) ∧ (Below w.heap.size w w')) ?_ ?_; rotate_left
              ·intro hJ0
               refine join_ (σ := Value) 7 (bB 13 630) (fun s_ => [(9, s_)]) (fun s_ w' => (w'.cell? ⟨gb146, 0, none⟩ = some (.slice A0_0 l0_0.length c0_0) ∧ w'.cell? ⟨gb146, 1, none⟩ = some (.slice A0_1 l0_1.length c0_1) ∧ w'.cell? ⟨gb146, 2, none⟩ = some (.slice A0_2 l0_2.length c0_2)) ∧ (Kd.R k62 62 w' w.heap.size (fun _ => True) s_ y154) ∧ (w'.heap[gb146]? = some (.cells #[.slice A0_0 l0_0.length c0_0, .slice A0_1 l0_1.length c0_1, .slice A0_2 l0_2.length c0_2] 28 (0, 0))) ∧ (w'.heap[gb147]? = some (.cells #[.slice none 0 0, .slice none 0 0, .slice none 0 0] 28 (0, 0))) ∧ (Below w.heap.size w w')) ?_ ?_; rotate_left
               ·intro hJ4
                refine join_ (σ := Value) 7 (bB 13 870) (fun s_ => [(13, s_)]) (fun s_ w' => (w'.cell? ⟨gb146, 0, none⟩ = some (.slice A0_0 l0_0.length c0_0) ∧ w'.cell? ⟨gb146, 1, none⟩ = some (.slice A0_1 l0_1.length c0_1) ∧ w'.cell? ⟨gb146, 2, none⟩ = some (.slice A0_2 l0_2.length c0_2)) ∧ (Kd.R k39 39 w' w.heap.size (fun _ => True) s_ y160) ∧ (w'.heap[gb146]? = some (.cells #[.slice A0_0 l0_0.length c0_0, .slice A0_1 l0_1.length c0_1, .slice A0_2 l0_2.length c0_2] 28 (0, 0))) ∧ (w'.heap[gb147]? = some (.cells #[.slice none 0 0, .slice none 0 0, .slice none 0 0] 28 (0, 0))) ∧ (Below w.heap.size w w')) ?_ ?_; rotate_left
                ·intro hJ8
                 refine three_ (i := 0) (j := 4) (k := 8) (Ni := some 5) (Nj := some 9) (Nk := some 13) (bB 13 615) (bB 13 630) (bB 13 870) rfl rfl rfl rfl rfl rfl (three_of HT_.out Zk) (by decide) (by decide) (by decide) (fun K hK => ?_) (fun K hK => ?_) (fun K hK => ?_)
                 ·skip
                  refine Kd.R_lit_step k104 _ 104 ?hg (N := 5) ?hd (xs := ([] : List (S104))) (inner := []) (ok := fun _ => True) (okp := fun _ => True) ?hr ?hp (fun _ hk => hk) trivial (Below.refl _ _) (Nat.le_refl _) (by simp) ?_; (case hd => rfl); (case hg => rfl); (case hr => first | (go_simp; done) | (go_simp; rfl)); (case hp => exact (Reps.none _ _)); intro v149 w9 ho10 hb hg_ hnew_; clear hg_ hnew_
                  (first | rw [← Ny148.out] at ho10 | (simp only [Int.reduceToNat] at ho10; rw [← Ny148.out] at ho10))
                  replace HO150 := am_ (Kd.R_lower ho10 (below_size (Zw GE146 GE147))); replace BK146 := (bkZ BK146 hb); replace BK147 := (bkZ BK147 hb); replace HB := (bsZ (Zw GE146 GE147) hb); clear hb ho10; refine hK.out _ _ (Zy BK146) (fun hHeld => ?_); clear hK K; refine normZ 5 ?_; exact norm_ Zz (hJ0 (v149) _ ⟨hHeld, (Zaa HO150), (b0Z BK146), (b0Z BK147), (Zw GE146 GE147)⟩)
                 ·skip
                  refine Kd.R_lit_step k62 _ 62 ?hg (N := 9) ?hd (xs := ([] : List (S62))) (inner := []) (ok := fun _ => True) (okp := fun _ => True) ?hr ?hp (fun _ hk => hk) trivial (Below.refl _ _) (Nat.le_refl _) (by simp) ?_; (case hd => rfl); (case hg => rfl); (case hr => first | (go_simp; done) | (go_simp; rfl)); (case hp => exact (Reps.none _ _)); intro v155 w9 ho10 hb hg_ hnew_; clear hg_ hnew_
                  (first | rw [← Ny154.out] at ho10 | (simp only [Int.reduceToNat] at ho10; rw [← Ny154.out] at ho10))
                  replace HO156 := am_ (Kd.R_lower ho10 (below_size (Zw GE146 GE147))); replace BK146 := (bkZ BK146 hb); replace BK147 := (bkZ BK147 hb); replace HB := (bsZ (Zw GE146 GE147) hb); clear hb ho10; refine hK.out _ _ (Zy BK146) (fun hHeld => ?_); clear hK K; refine normZ 9 ?_; exact norm_ Zz (hJ4 (v155) _ ⟨hHeld, (Zaa HO156), (b0Z BK146), (b0Z BK147), (Zw GE146 GE147)⟩)
                 ·skip
                  refine Kd.R_lit_step k39 _ 39 ?hg (N := 13) ?hd (xs := ([] : List (S39))) (inner := []) (ok := fun _ => True) (okp := fun _ => True) ?hr ?hp (fun _ hk => hk) trivial (Below.refl _ _) (Nat.le_refl _) (by simp) ?_; (case hd => rfl); (case hg => rfl); (case hr => first | (go_simp; done) | (go_simp; rfl)); (case hp => exact (Reps.none _ _)); intro v161 w9 ho10 hb hg_ hnew_; clear hg_ hnew_
                  (first | rw [← Ny160.out] at ho10 | (simp only [Int.reduceToNat] at ho10; rw [← Ny160.out] at ho10))
                  replace HO162 := am_ (Kd.R_lower ho10 (below_size (Zw GE146 GE147))); replace BK146 := (bkZ BK146 hb); replace BK147 := (bkZ BK147 hb); replace HB := (bsZ (Zw GE146 GE147) hb); clear hb ho10; refine hK.out _ _ (Zy BK146) (fun hHeld => ?_); clear hK K; refine normZ 13 ?_; exact norm_ Zz (hJ8 (v161) _ ⟨hHeld, (Zaa HO162), (b0Z BK146), (b0Z BK147), (Zw GE146 GE147)⟩)
                ·skip
                 rintro v161 w11 ⟨hS_, h0_, h1_, h2_, h3_⟩
                 (try dsimp only at hS_ h0_ h1_ h2_ h3_)
                 replace HO162 := am_ h0_; replace BK146 := am_ h1_; replace BK147 := am_ h2_; replace HB := am_ h3_; clear h0_ h1_ h2_ h3_; have hHeld := hS_; refine normP ?_; refine two_ (i := 0) (j := 4) (Ni := some 5) (Nj := some 9) (bB 13 871) (bB 13 886) rfl rfl rfl rfl (two_of HT_.out Zk) (by decide) (by decide) (fun K hK => ?_) (fun K hK => ?_)
                 ·skip
                  refine Kd.R_lit_step k104 _ 104 ?hg (N := 5) ?hd (xs := ([] : List (S104))) (inner := []) (ok := fun _ => True) (okp := fun _ => True) ?hr ?hp (fun _ hk => hk) trivial (Below.refl _ _) (Nat.le_refl _) (by simp) ?_; (case hd => rfl); (case hg => rfl); (case hr => first | (go_simp; done) | (go_simp; rfl)); (case hp => exact (Reps.none _ _)); intro v149 w12 ho13 hb hg_ hnew_; clear hg_ hnew_
                  (first | rw [← Ny148.out] at ho13 | (simp only [Int.reduceToNat] at ho13; rw [← Ny148.out] at ho13))
                  replace HO162 := (hbZ HO162 hb); replace HO150 := am_ (Kd.R_lower ho13 (below_size (Zw GE146 GE147))); replace BK146 := (bkZ BK146 hb); replace BK147 := (bkZ BK147 hb); replace HB := (bsZ (Zw GE146 GE147) hb); clear hb ho13; refine hK.out _ _ (Zy BK146) (fun hHeld => ?_); clear hK K; refine normZ 5 ?_; exact norm_ Zz (hJ0_8 (v149, v161) _ ⟨hHeld, (Zaa HO150), (Zaa HO162), (b0Z BK146), (b0Z BK147), (Zw GE146 GE147)⟩)
                 ·skip
                  refine Kd.R_lit_step k62 _ 62 ?hg (N := 9) ?hd (xs := ([] : List (S62))) (inner := []) (ok := fun _ => True) (okp := fun _ => True) ?hr ?hp (fun _ hk => hk) trivial (Below.refl _ _) (Nat.le_refl _) (by simp) ?_; (case hd => rfl); (case hg => rfl); (case hr => first | (go_simp; done) | (go_simp; rfl)); (case hp => exact (Reps.none _ _)); intro v155 w12 ho13 hb hg_ hnew_; clear hg_ hnew_
                  (first | rw [← Ny154.out] at ho13 | (simp only [Int.reduceToNat] at ho13; rw [← Ny154.out] at ho13))
                  replace HO162 := (hbZ HO162 hb); replace HO156 := am_ (Kd.R_lower ho13 (below_size (Zw GE146 GE147))); replace BK146 := (bkZ BK146 hb); replace BK147 := (bkZ BK147 hb); replace HB := (bsZ (Zw GE146 GE147) hb); clear hb ho13; refine hK.out _ _ (Zy BK146) (fun hHeld => ?_); clear hK K; refine normZ 9 ?_; exact norm_ Zz (hJ4_8 (v155, v161) _ ⟨hHeld, (Zaa HO156), (Zaa HO162), (b0Z BK146), (b0Z BK147), (Zw GE146 GE147)⟩)
               ·skip
                rintro v155 w11 ⟨hS_, h0_, h1_, h2_, h3_⟩
                (try dsimp only at hS_ h0_ h1_ h2_ h3_)
                replace HO156 := am_ h0_; replace BK146 := am_ h1_; replace BK147 := am_ h2_; replace HB := am_ h3_; clear h0_ h1_ h2_ h3_; have hHeld := hS_; refine normP ?_; refine two_ (i := 0) (j := 8) (Ni := some 5) (Nj := some 13) (bB 13 631) (bB 13 886) rfl rfl rfl rfl (two_of HT_.out Zk) (by decide) (by decide) (fun K hK => ?_) (fun K hK => ?_)
                ·skip
                 refine Kd.R_lit_step k104 _ 104 ?hg (N := 5) ?hd (xs := ([] : List (S104))) (inner := []) (ok := fun _ => True) (okp := fun _ => True) ?hr ?hp (fun _ hk => hk) trivial (Below.refl _ _) (Nat.le_refl _) (by simp) ?_; (case hd => rfl); (case hg => rfl); (case hr => first | (go_simp; done) | (go_simp; rfl)); (case hp => exact (Reps.none _ _)); intro v149 w12 ho13 hb hg_ hnew_; clear hg_ hnew_
                 (first | rw [← Ny148.out] at ho13 | (simp only [Int.reduceToNat] at ho13; rw [← Ny148.out] at ho13))
                 replace HO156 := (hbZ HO156 hb); replace HO150 := am_ (Kd.R_lower ho13 (below_size (Zw GE146 GE147))); replace BK146 := (bkZ BK146 hb); replace BK147 := (bkZ BK147 hb); replace HB := (bsZ (Zw GE146 GE147) hb); clear hb ho13; refine hK.out _ _ (Zy BK146) (fun hHeld => ?_); clear hK K; refine normZ 5 ?_; exact norm_ Zz (hJ0_4 (v149, v155) _ ⟨hHeld, (Zaa HO150), (Zaa HO156), (b0Z BK146), (b0Z BK147), (Zw GE146 GE147)⟩)
                ·skip
                 refine Kd.R_lit_step k39 _ 39 ?hg (N := 13) ?hd (xs := ([] : List (S39))) (inner := []) (ok := fun _ => True) (okp := fun _ => True) ?hr ?hp (fun _ hk => hk) trivial (Below.refl _ _) (Nat.le_refl _) (by simp) ?_; (case hd => rfl); (case hg => rfl); (case hr => first | (go_simp; done) | (go_simp; rfl)); (case hp => exact (Reps.none _ _)); intro v161 w12 ho13 hb hg_ hnew_; clear hg_ hnew_
                 (first | rw [← Ny160.out] at ho13 | (simp only [Int.reduceToNat] at ho13; rw [← Ny160.out] at ho13))
                 replace HO156 := (hbZ HO156 hb); replace HO162 := am_ (Kd.R_lower ho13 (below_size (Zw GE146 GE147))); replace BK146 := (bkZ BK146 hb); replace BK147 := (bkZ BK147 hb); replace HB := (bsZ (Zw GE146 GE147) hb); clear hb ho13; refine hK.out _ _ (Zy BK146) (fun hHeld => ?_); clear hK K; refine normZ 13 ?_; exact norm_ Zz (hJ4_8 (v155, v161) _ ⟨hHeld, (Zaa HO156), (Zaa HO162), (b0Z BK146), (b0Z BK147), (Zw GE146 GE147)⟩)
              ·skip
               rintro v149 w11 ⟨hS_, h0_, h1_, h2_, h3_⟩
               (try dsimp only at hS_ h0_ h1_ h2_ h3_)
               replace HO150 := am_ h0_; replace BK146 := am_ h1_; replace BK147 := am_ h2_; replace HB := am_ h3_; clear h0_ h1_ h2_ h3_; have hHeld := hS_; refine normP ?_; refine three_ (i := 3) (j := 4) (k := 8) (Ni := some 8) (Nj := some 9) (Nk := some 13) (bB 13 623) (bB 13 631) (bB 13 871) rfl rfl rfl rfl rfl rfl (three_of HT_.out Zk) (by decide) (by decide) (by decide) (fun K hK => ?_) (fun K hK => ?_) (fun K hK => ?_)
               ·skip
                refine Kd.R_append_rows_step k104 (w0 := w) w.heap.size (by rfl) (.tmp 5) (.tmp 7) 24 104 (.agg #[(.int .i64 0), (.int .i64 0)]) 16 rfl Try.underlying24 info104 rfl (by decide) (by omega) v149 y148 l0_0 _ _ _ (fun _ => True) (fun _ => False) rfl rfl ?aO ?aR (fun _ _ h => h) (fun _ h => h.elim) ?aF ?aB ?aS ?aL ?_
                (case aR => repeat (first | exact (Kd.C_below HR0_0.out HB.out) | (with_reducible refine Kd.C_alloc ?_ _) | (with_reducible refine Kd.C_drewN ?_ _) | (with_reducible refine Kd.C_drew ?_)))
                (case aB => exact (Zw GE146 GE147))
                (case aF => exact (fun _ _ => trivial))
                (case aO => exact (Zaa HO150))
                (case aS => exact (below_size (Zw GE146 GE147)))
                (case aL => have := LMc3.out; omega)
                intro v152 w12 ho hb hg hat; rw [← Ny151.out] at ho; replace BK146 := am_ (blk_grown (g := gb146) (b0Z BK146) hg (Kd.R_ne HO150.out BK146.out (by decide))); replace BK147 := am_ (blk_grown (g := gb147) (b0Z BK147) hg (Kd.R_ne HO150.out BK147.out (by decide))); replace HB := am_ (hb); replace HO153 := am_ (ho); clear HO150; clear ho hb hg hat; refine hK.out _ _ (Zy BK146) (fun hHeld => ?_); clear hK K; refine normZ 8 ?_; exact norm_ Zz (hJ0_3 (v149, v152) _ ⟨hHeld, (Zaa HO153), (b0Z BK146), (b0Z BK147), (Zw GE146 GE147)⟩)
               ·skip
                refine Kd.R_lit_step k62 _ 62 ?hg (N := 9) ?hd (xs := ([] : List (S62))) (inner := []) (ok := fun _ => True) (okp := fun _ => True) ?hr ?hp (fun _ hk => hk) trivial (Below.refl _ _) (Nat.le_refl _) (by simp) ?_; (case hd => rfl); (case hg => rfl); (case hr => first | (go_simp; done) | (go_simp; rfl)); (case hp => exact (Reps.none _ _)); intro v155 w12 ho13 hb hg_ hnew_; clear hg_ hnew_
                (first | rw [← Ny154.out] at ho13 | (simp only [Int.reduceToNat] at ho13; rw [← Ny154.out] at ho13))
                replace HO150 := (hbZ HO150 hb); replace HO156 := am_ (Kd.R_lower ho13 (below_size (Zw GE146 GE147))); replace BK146 := (bkZ BK146 hb); replace BK147 := (bkZ BK147 hb); replace HB := (bsZ (Zw GE146 GE147) hb); clear hb ho13; refine hK.out _ _ (Zy BK146) (fun hHeld => ?_); clear hK K; refine normZ 9 ?_; exact norm_ Zz (hJ0_4 (v149, v155) _ ⟨hHeld, (Zaa HO150), (Zaa HO156), (b0Z BK146), (b0Z BK147), (Zw GE146 GE147)⟩)
               ·skip
                refine Kd.R_lit_step k39 _ 39 ?hg (N := 13) ?hd (xs := ([] : List (S39))) (inner := []) (ok := fun _ => True) (okp := fun _ => True) ?hr ?hp (fun _ hk => hk) trivial (Below.refl _ _) (Nat.le_refl _) (by simp) ?_; (case hd => rfl); (case hg => rfl); (case hr => first | (go_simp; done) | (go_simp; rfl)); (case hp => exact (Reps.none _ _)); intro v161 w12 ho13 hb hg_ hnew_; clear hg_ hnew_
                (first | rw [← Ny160.out] at ho13 | (simp only [Int.reduceToNat] at ho13; rw [← Ny160.out] at ho13))
                replace HO150 := (hbZ HO150 hb); replace HO162 := am_ (Kd.R_lower ho13 (below_size (Zw GE146 GE147))); replace BK146 := (bkZ BK146 hb); replace BK147 := (bkZ BK147 hb); replace HB := (bsZ (Zw GE146 GE147) hb); clear hb ho13; refine hK.out _ _ (Zy BK146) (fun hHeld => ?_); clear hK K; refine normZ 13 ?_; exact norm_ Zz (hJ0_8 (v149, v161) _ ⟨hHeld, (Zaa HO150), (Zaa HO162), (b0Z BK146), (b0Z BK147), (Zw GE146 GE147)⟩)
             ·skip
              rintro ⟨v155, v161⟩ w13 ⟨hS_, h0_, h1_, h2_, h3_, h4_⟩
              (try dsimp only at hS_ h0_ h1_ h2_ h3_ h4_)
              replace HO156 := am_ h0_; replace HO162 := am_ h1_; replace BK146 := am_ h2_; replace BK147 := am_ h3_; replace HB := am_ h4_; clear h0_ h1_ h2_ h3_ h4_; have hHeld := hS_; refine normP ?_; refine one_ (i := 0) (N := some 5) (bB 13 887) rfl rfl (one_of HT_.out Zk) (by decide) (fun K hK => ?_); refine Kd.R_lit_step k104 _ 104 ?hg (N := 5) ?hd (xs := ([] : List (S104))) (inner := []) (ok := fun _ => True) (okp := fun _ => True) ?hr ?hp (fun _ hk => hk) trivial (Below.refl _ _) (Nat.le_refl _) (by simp) ?_; (case hd => rfl); (case hg => rfl); (case hr => first | (go_simp; done) | (go_simp; rfl)); (case hp => exact (Reps.none _ _)); intro v149 w14 ho15 hb hg_ hnew_; clear hg_ hnew_
              (first | rw [← Ny148.out] at ho15 | (simp only [Int.reduceToNat] at ho15; rw [← Ny148.out] at ho15))
              replace HO156 := (hbZ HO156 hb); replace HO162 := (hbZ HO162 hb); replace HO150 := am_ (Kd.R_lower ho15 (below_size (Zw GE146 GE147))); replace BK146 := (bkZ BK146 hb); replace BK147 := (bkZ BK147 hb); replace HB := (bsZ (Zw GE146 GE147) hb); clear hb ho15; refine hK.out _ _ (Zy BK146) (fun hHeld => ?_); clear hK K; refine normZ 5 ?_; exact norm_ Zz (hJ0_4_8 (v149, v155, v161) _ ⟨hHeld, (Zaa HO150), (Zaa HO156), (Zaa HO162), (b0Z BK146), (b0Z BK147), (Zw GE146 GE147)⟩)
            ·skip
             rintro ⟨v149, v161⟩ w13 ⟨hS_, h0_, h1_, h2_, h3_, h4_⟩
             (try dsimp only at hS_ h0_ h1_ h2_ h3_ h4_)
             replace HO150 := am_ h0_; replace HO162 := am_ h1_; replace BK146 := am_ h2_; replace BK147 := am_ h3_; replace HB := am_ h4_; clear h0_ h1_ h2_ h3_ h4_; have hHeld := hS_; refine normP ?_; refine two_ (i := 3) (j := 4) (Ni := some 8) (Nj := some 9) (bB 13 879) (bB 13 887) rfl rfl rfl rfl (two_of HT_.out Zk) (by decide) (by decide) (fun K hK => ?_) (fun K hK => ?_)
             ·skip
              refine Kd.R_append_rows_step k104 (w0 := w) w.heap.size (by rfl) (.tmp 5) (.tmp 7) 24 104 (.agg #[(.int .i64 0), (.int .i64 0)]) 16 rfl Try.underlying24 info104 rfl (by decide) (by omega) v149 y148 l0_0 _ _ _ (fun _ => True) (fun _ => False) rfl rfl ?aO ?aR (fun _ _ h => h) (fun _ h => h.elim) ?aF ?aB ?aS ?aL ?_
              (case aR => repeat (first | exact (Kd.C_below HR0_0.out HB.out) | (with_reducible refine Kd.C_alloc ?_ _) | (with_reducible refine Kd.C_drewN ?_ _) | (with_reducible refine Kd.C_drew ?_)))
              (case aB => exact (Zw GE146 GE147))
              (case aF => exact (fun _ _ => trivial))
              (case aO => exact (Zaa HO150))
              (case aS => exact (below_size (Zw GE146 GE147)))
              (case aL => have := LMc3.out; omega)
              intro v152 w14 ho hb hg hat; rw [← Ny151.out] at ho; replace BK146 := am_ (blk_grown (g := gb146) (b0Z BK146) hg (Kd.R_ne HO150.out BK146.out (by decide))); replace BK147 := am_ (blk_grown (g := gb147) (b0Z BK147) hg (Kd.R_ne HO150.out BK147.out (by decide))); replace HO162 := am_ (Kd.R_over' (Zaa HO162) (Kd.R_typed (Zaa HO150)) (by decide) hg); replace HB := am_ (hb); replace HO153 := am_ (ho); clear HO150; clear ho hb hg hat; refine hK.out _ _ (Zy BK146) (fun hHeld => ?_); clear hK K; refine normZ 8 ?_; exact norm_ Zz (hJ0_3_8 (v149, v152, v161) _ ⟨hHeld, (Zaa HO153), (Zaa HO162), (b0Z BK146), (b0Z BK147), (Zw GE146 GE147)⟩)
             ·skip
              refine Kd.R_lit_step k62 _ 62 ?hg (N := 9) ?hd (xs := ([] : List (S62))) (inner := []) (ok := fun _ => True) (okp := fun _ => True) ?hr ?hp (fun _ hk => hk) trivial (Below.refl _ _) (Nat.le_refl _) (by simp) ?_; (case hd => rfl); (case hg => rfl); (case hr => first | (go_simp; done) | (go_simp; rfl)); (case hp => exact (Reps.none _ _)); intro v155 w14 ho15 hb hg_ hnew_; clear hg_ hnew_
              (first | rw [← Ny154.out] at ho15 | (simp only [Int.reduceToNat] at ho15; rw [← Ny154.out] at ho15))
              replace HO150 := (hbZ HO150 hb); replace HO162 := (hbZ HO162 hb); replace HO156 := am_ (Kd.R_lower ho15 (below_size (Zw GE146 GE147))); replace BK146 := (bkZ BK146 hb); replace BK147 := (bkZ BK147 hb); replace HB := (bsZ (Zw GE146 GE147) hb); clear hb ho15; refine hK.out _ _ (Zy BK146) (fun hHeld => ?_); clear hK K; refine normZ 9 ?_; exact norm_ Zz (hJ0_4_8 (v149, v155, v161) _ ⟨hHeld, (Zaa HO150), (Zaa HO156), (Zaa HO162), (b0Z BK146), (b0Z BK147), (Zw GE146 GE147)⟩)
           ·skip
            rintro ⟨v149, v155⟩ w13 ⟨hS_, h0_, h1_, h2_, h3_, h4_⟩
            (try dsimp only at hS_ h0_ h1_ h2_ h3_ h4_)
            replace HO150 := am_ h0_; replace HO156 := am_ h1_; replace BK146 := am_ h2_; replace BK147 := am_ h3_; replace HB := am_ h4_; clear h0_ h1_ h2_ h3_ h4_; have hHeld := hS_; refine normP ?_; refine two_ (i := 3) (j := 8) (Ni := some 8) (Nj := some 13) (bB 13 639) (bB 13 887) rfl rfl rfl rfl (two_of HT_.out Zk) (by decide) (by decide) (fun K hK => ?_) (fun K hK => ?_)
            ·skip
             refine Kd.R_append_rows_step k104 (w0 := w) w.heap.size (by rfl) (.tmp 5) (.tmp 7) 24 104 (.agg #[(.int .i64 0), (.int .i64 0)]) 16 rfl Try.underlying24 info104 rfl (by decide) (by omega) v149 y148 l0_0 _ _ _ (fun _ => True) (fun _ => False) rfl rfl ?aO ?aR (fun _ _ h => h) (fun _ h => h.elim) ?aF ?aB ?aS ?aL ?_
             (case aR => repeat (first | exact (Kd.C_below HR0_0.out HB.out) | (with_reducible refine Kd.C_alloc ?_ _) | (with_reducible refine Kd.C_drewN ?_ _) | (with_reducible refine Kd.C_drew ?_)))
             (case aB => exact (Zw GE146 GE147))
             (case aF => exact (fun _ _ => trivial))
             (case aO => exact (Zaa HO150))
             (case aS => exact (below_size (Zw GE146 GE147)))
             (case aL => have := LMc3.out; omega)
             intro v152 w14 ho hb hg hat; rw [← Ny151.out] at ho; replace BK146 := am_ (blk_grown (g := gb146) (b0Z BK146) hg (Kd.R_ne HO150.out BK146.out (by decide))); replace BK147 := am_ (blk_grown (g := gb147) (b0Z BK147) hg (Kd.R_ne HO150.out BK147.out (by decide))); replace HO156 := am_ (Kd.R_over' (Zaa HO156) (Kd.R_typed (Zaa HO150)) (by decide) hg); replace HB := am_ (hb); replace HO153 := am_ (ho); clear HO150; clear ho hb hg hat; refine hK.out _ _ (Zy BK146) (fun hHeld => ?_); clear hK K; refine normZ 8 ?_; exact norm_ Zz (hJ0_3_4 (v149, v152, v155) _ ⟨hHeld, (Zaa HO153), (Zaa HO156), (b0Z BK146), (b0Z BK147), (Zw GE146 GE147)⟩)
            ·skip
             refine Kd.R_lit_step k39 _ 39 ?hg (N := 13) ?hd (xs := ([] : List (S39))) (inner := []) (ok := fun _ => True) (okp := fun _ => True) ?hr ?hp (fun _ hk => hk) trivial (Below.refl _ _) (Nat.le_refl _) (by simp) ?_; (case hd => rfl); (case hg => rfl); (case hr => first | (go_simp; done) | (go_simp; rfl)); (case hp => exact (Reps.none _ _)); intro v161 w14 ho15 hb hg_ hnew_; clear hg_ hnew_
             (first | rw [← Ny160.out] at ho15 | (simp only [Int.reduceToNat] at ho15; rw [← Ny160.out] at ho15))
             replace HO150 := (hbZ HO150 hb); replace HO156 := (hbZ HO156 hb); replace HO162 := am_ (Kd.R_lower ho15 (below_size (Zw GE146 GE147))); replace BK146 := (bkZ BK146 hb); replace BK147 := (bkZ BK147 hb); replace HB := (bsZ (Zw GE146 GE147) hb); clear hb ho15; refine hK.out _ _ (Zy BK146) (fun hHeld => ?_); clear hK K; refine normZ 13 ?_; exact norm_ Zz (hJ0_4_8 (v149, v155, v161) _ ⟨hHeld, (Zaa HO150), (Zaa HO156), (Zaa HO162), (b0Z BK146), (b0Z BK147), (Zw GE146 GE147)⟩)
          ·skip
           rintro ⟨v149, v152⟩ w12 ⟨hS_, h0_, h1_, h2_, h3_⟩
           (try dsimp only at hS_ h0_ h1_ h2_ h3_)
           replace HO153 := am_ h0_; replace BK146 := am_ h1_; replace BK147 := am_ h2_; replace HB := am_ h3_; clear h0_ h1_ h2_ h3_; have hHeld := hS_; refine normP ?_; refine two_ (i := 4) (j := 8) (Ni := some 9) (Nj := some 13) (bB 13 639) (bB 13 879) rfl rfl rfl rfl (two_of HT_.out Zk) (by decide) (by decide) (fun K hK => ?_) (fun K hK => ?_)
           ·skip
            refine Kd.R_lit_step k62 _ 62 ?hg (N := 9) ?hd (xs := ([] : List (S62))) (inner := []) (ok := fun _ => True) (okp := fun _ => True) ?hr ?hp (fun _ hk => hk) trivial (Below.refl _ _) (Nat.le_refl _) (by simp) ?_; (case hd => rfl); (case hg => rfl); (case hr => first | (go_simp; done) | (go_simp; rfl)); (case hp => exact (Reps.none _ _)); intro v155 w13 ho14 hb hg_ hnew_; clear hg_ hnew_
            (first | rw [← Ny154.out] at ho14 | (simp only [Int.reduceToNat] at ho14; rw [← Ny154.out] at ho14))
            replace HO153 := (hbZ HO153 hb); replace HO156 := am_ (Kd.R_lower ho14 (below_size (Zw GE146 GE147))); replace BK146 := (bkZ BK146 hb); replace BK147 := (bkZ BK147 hb); replace HB := (bsZ (Zw GE146 GE147) hb); clear hb ho14; refine hK.out _ _ (Zy BK146) (fun hHeld => ?_); clear hK K; refine normZ 9 ?_; exact norm_ Zz (hJ0_3_4 (v149, v152, v155) _ ⟨hHeld, (Zaa HO153), (Zaa HO156), (b0Z BK146), (b0Z BK147), (Zw GE146 GE147)⟩)
           ·skip
            refine Kd.R_lit_step k39 _ 39 ?hg (N := 13) ?hd (xs := ([] : List (S39))) (inner := []) (ok := fun _ => True) (okp := fun _ => True) ?hr ?hp (fun _ hk => hk) trivial (Below.refl _ _) (Nat.le_refl _) (by simp) ?_; (case hd => rfl); (case hg => rfl); (case hr => first | (go_simp; done) | (go_simp; rfl)); (case hp => exact (Reps.none _ _)); intro v161 w13 ho14 hb hg_ hnew_; clear hg_ hnew_
            (first | rw [← Ny160.out] at ho14 | (simp only [Int.reduceToNat] at ho14; rw [← Ny160.out] at ho14))
            replace HO153 := (hbZ HO153 hb); replace HO162 := am_ (Kd.R_lower ho14 (below_size (Zw GE146 GE147))); replace BK146 := (bkZ BK146 hb); replace BK147 := (bkZ BK147 hb); replace HB := (bsZ (Zw GE146 GE147) hb); clear hb ho14; refine hK.out _ _ (Zy BK146) (fun hHeld => ?_); clear hK K; refine normZ 13 ?_; exact norm_ Zz (hJ0_3_8 (v149, v152, v161) _ ⟨hHeld, (Zaa HO153), (Zaa HO162), (b0Z BK146), (b0Z BK147), (Zw GE146 GE147)⟩)
         ·skip
          rintro ⟨v149, v155, v161⟩ w15 ⟨hS_, h0_, h1_, h2_, h3_, h4_, h5_⟩
          (try dsimp only at hS_ h0_ h1_ h2_ h3_ h4_ h5_)
          replace HO150 := am_ h0_; replace HO156 := am_ h1_; replace HO162 := am_ h2_; replace BK146 := am_ h3_; replace BK147 := am_ h4_; replace HB := am_ h5_; clear h0_ h1_ h2_ h3_ h4_ h5_; have hHeld := hS_; refine normP ?_; refine one_ (i := 3) (N := some 8) (bB 13 895) rfl rfl (one_of HT_.out Zk) (by decide) (fun K hK => ?_); refine Kd.R_append_rows_step k104 (w0 := w) w.heap.size (by rfl) (.tmp 5) (.tmp 7) 24 104 (.agg #[(.int .i64 0), (.int .i64 0)]) 16 rfl Try.underlying24 info104 rfl (by decide) (by omega) v149 y148 l0_0 _ _ _ (fun _ => True) (fun _ => False) rfl rfl ?aO ?aR (fun _ _ h => h) (fun _ h => h.elim) ?aF ?aB ?aS ?aL ?_
          (case aR => repeat (first | exact (Kd.C_below HR0_0.out HB.out) | (with_reducible refine Kd.C_alloc ?_ _) | (with_reducible refine Kd.C_drewN ?_ _) | (with_reducible refine Kd.C_drew ?_)))
          (case aB => exact (Zw GE146 GE147))
          (case aF => exact (fun _ _ => trivial))
          (case aO => exact (Zaa HO150))
          (case aS => exact (below_size (Zw GE146 GE147)))
          (case aL => have := LMc3.out; omega)
          intro v152 w16 ho hb hg hat; rw [← Ny151.out] at ho; replace BK146 := am_ (blk_grown (g := gb146) (b0Z BK146) hg (Kd.R_ne HO150.out BK146.out (by decide))); replace BK147 := am_ (blk_grown (g := gb147) (b0Z BK147) hg (Kd.R_ne HO150.out BK147.out (by decide))); replace HO156 := am_ (Kd.R_over' (Zaa HO156) (Kd.R_typed (Zaa HO150)) (by decide) hg); replace HO162 := am_ (Kd.R_over' (Zaa HO162) (Kd.R_typed (Zaa HO150)) (by decide) hg); replace HB := am_ (hb); replace HO153 := am_ (ho); clear HO150; clear ho hb hg hat; refine hK.out _ _ (Zy BK146) (fun hHeld => ?_); clear hK K; refine normZ 8 ?_; exact norm_ Zz (hJ0_3_4_8 (v149, v152, v155, v161) _ ⟨hHeld, (Zaa HO153), (Zaa HO156), (Zaa HO162), (b0Z BK146), (b0Z BK147), (Zw GE146 GE147)⟩)
        ·skip
         rintro ⟨v149, v152, v161⟩ w14 ⟨hS_, h0_, h1_, h2_, h3_, h4_⟩
         (try dsimp only at hS_ h0_ h1_ h2_ h3_ h4_)
         replace HO153 := am_ h0_; replace HO162 := am_ h1_; replace BK146 := am_ h2_; replace BK147 := am_ h3_; replace HB := am_ h4_; clear h0_ h1_ h2_ h3_ h4_; have hHeld := hS_; refine normP ?_; refine one_ (i := 4) (N := some 9) (bB 13 895) rfl rfl (one_of HT_.out Zk) (by decide) (fun K hK => ?_); refine Kd.R_lit_step k62 _ 62 ?hg (N := 9) ?hd (xs := ([] : List (S62))) (inner := []) (ok := fun _ => True) (okp := fun _ => True) ?hr ?hp (fun _ hk => hk) trivial (Below.refl _ _) (Nat.le_refl _) (by simp) ?_; (case hd => rfl); (case hg => rfl); (case hr => first | (go_simp; done) | (go_simp; rfl)); (case hp => exact (Reps.none _ _)); intro v155 w15 ho16 hb hg_ hnew_; clear hg_ hnew_
         (first | rw [← Ny154.out] at ho16 | (simp only [Int.reduceToNat] at ho16; rw [← Ny154.out] at ho16))
         replace HO153 := (hbZ HO153 hb); replace HO162 := (hbZ HO162 hb); replace HO156 := am_ (Kd.R_lower ho16 (below_size (Zw GE146 GE147))); replace BK146 := (bkZ BK146 hb); replace BK147 := (bkZ BK147 hb); replace HB := (bsZ (Zw GE146 GE147) hb); clear hb ho16; refine hK.out _ _ (Zy BK146) (fun hHeld => ?_); clear hK K; refine normZ 9 ?_; exact norm_ Zz (hJ0_3_4_8 (v149, v152, v155, v161) _ ⟨hHeld, (Zaa HO153), (Zaa HO156), (Zaa HO162), (b0Z BK146), (b0Z BK147), (Zw GE146 GE147)⟩)
       ·skip
        rintro ⟨v149, v152, v155⟩ w14 ⟨hS_, h0_, h1_, h2_, h3_, h4_⟩
        (try dsimp only at hS_ h0_ h1_ h2_ h3_ h4_)
        replace HO153 := am_ h0_; replace HO156 := am_ h1_; replace BK146 := am_ h2_; replace BK147 := am_ h3_; replace HB := am_ h4_; clear h0_ h1_ h2_ h3_ h4_; have hHeld := hS_; refine normP ?_; refine two_ (i := 7) (j := 8) (Ni := some 12) (Nj := some 13) (bB 13 767) (bB 13 895) rfl rfl rfl rfl (two_of HT_.out Zk) (by decide) (by decide) (fun K hK => ?_) (fun K hK => ?_)
        ·skip
         refine Kd.R_append_rows_step k62 (w0 := w) w.heap.size (by rfl) (.tmp 9) (.tmp 11) 25 62 (.agg #[(.string ⟨#[]⟩), (.int .i64 0), (.int .i64 0), (.int .i64 0), (.int .i64 0), (.int .i64 0), (.int .i64 0), (.int .i64 0), (.int .i64 0)]) 80 rfl Try.underlying25 info62 rfl (by decide) (by omega) v155 y154 l0_1 _ _ _ (fun _ => True) (fun _ => False) rfl rfl ?aO ?aR (fun _ _ h => h) (fun _ h => h.elim) ?aF ?aB ?aS ?aL ?_
         (case aR => repeat (first | exact (Kd.C_below HR0_1.out HB.out) | (with_reducible refine Kd.C_alloc ?_ _) | (with_reducible refine Kd.C_drewN ?_ _) | (with_reducible refine Kd.C_drew ?_)))
         (case aB => exact (Zw GE146 GE147))
         (case aF => exact (fun _ _ => trivial))
         (case aO => exact (Zaa HO156))
         (case aS => exact (below_size (Zw GE146 GE147)))
         (case aL => have := LMc4.out; omega)
         intro v158 w15 ho hb hg hat; rw [← Ny157.out] at ho; replace BK146 := am_ (blk_grown (g := gb146) (b0Z BK146) hg (Kd.R_ne HO156.out BK146.out (by decide))); replace BK147 := am_ (blk_grown (g := gb147) (b0Z BK147) hg (Kd.R_ne HO156.out BK147.out (by decide))); replace HO153 := am_ (Kd.R_over' (Zaa HO153) (Kd.R_typed (Zaa HO156)) (by decide) hg); replace HB := am_ (hb); replace HO159 := am_ (ho); clear HO156; clear ho hb hg hat; refine hK.out _ _ (Zy BK146) (fun hHeld => ?_); clear hK K; refine normZ 12 ?_; exact norm_ Zz (hJ0_3_4_7 (v149, v152, v155, v158) _ ⟨hHeld, (Zaa HO153), (Zaa HO159), (b0Z BK146), (b0Z BK147), (Zw GE146 GE147)⟩)
        ·skip
         refine Kd.R_lit_step k39 _ 39 ?hg (N := 13) ?hd (xs := ([] : List (S39))) (inner := []) (ok := fun _ => True) (okp := fun _ => True) ?hr ?hp (fun _ hk => hk) trivial (Below.refl _ _) (Nat.le_refl _) (by simp) ?_; (case hd => rfl); (case hg => rfl); (case hr => first | (go_simp; done) | (go_simp; rfl)); (case hp => exact (Reps.none _ _)); intro v161 w15 ho16 hb hg_ hnew_; clear hg_ hnew_
         (first | rw [← Ny160.out] at ho16 | (simp only [Int.reduceToNat] at ho16; rw [← Ny160.out] at ho16))
         replace HO153 := (hbZ HO153 hb); replace HO156 := (hbZ HO156 hb); replace HO162 := am_ (Kd.R_lower ho16 (below_size (Zw GE146 GE147))); replace BK146 := (bkZ BK146 hb); replace BK147 := (bkZ BK147 hb); replace HB := (bsZ (Zw GE146 GE147) hb); clear hb ho16; refine hK.out _ _ (Zy BK146) (fun hHeld => ?_); clear hK K; refine normZ 13 ?_; exact norm_ Zz (hJ0_3_4_8 (v149, v152, v155, v161) _ ⟨hHeld, (Zaa HO153), (Zaa HO156), (Zaa HO162), (b0Z BK146), (b0Z BK147), (Zw GE146 GE147)⟩)
      ·skip
       rintro ⟨v149, v152, v155, v161⟩ w16 ⟨hS_, h0_, h1_, h2_, h3_, h4_, h5_⟩
       (try dsimp only at hS_ h0_ h1_ h2_ h3_ h4_ h5_)
       replace HO153 := am_ h0_; replace HO156 := am_ h1_; replace HO162 := am_ h2_; replace BK146 := am_ h3_; replace BK147 := am_ h4_; replace HB := am_ h5_; clear h0_ h1_ h2_ h3_ h4_ h5_; have hHeld := hS_; refine normP ?_; refine one_ (i := 7) (N := some 12) (bT 13 10) rfl rfl (one_of HT_.out Zk) (by decide) (fun K hK => ?_); refine Kd.R_append_rows_step k62 (w0 := w) w.heap.size (by rfl) (.tmp 9) (.tmp 11) 25 62 (.agg #[(.string ⟨#[]⟩), (.int .i64 0), (.int .i64 0), (.int .i64 0), (.int .i64 0), (.int .i64 0), (.int .i64 0), (.int .i64 0), (.int .i64 0)]) 80 rfl Try.underlying25 info62 rfl (by decide) (by omega) v155 y154 l0_1 _ _ _ (fun _ => True) (fun _ => False) rfl rfl ?aO ?aR (fun _ _ h => h) (fun _ h => h.elim) ?aF ?aB ?aS ?aL ?_
       (case aR => repeat (first | exact (Kd.C_below HR0_1.out HB.out) | (with_reducible refine Kd.C_alloc ?_ _) | (with_reducible refine Kd.C_drewN ?_ _) | (with_reducible refine Kd.C_drew ?_)))
       (case aB => exact (Zw GE146 GE147))
       (case aF => exact (fun _ _ => trivial))
       (case aO => exact (Zaa HO156))
       (case aS => exact (below_size (Zw GE146 GE147)))
       (case aL => have := LMc4.out; omega)
       intro v158 w17 ho hb hg hat; rw [← Ny157.out] at ho; replace BK146 := am_ (blk_grown (g := gb146) (b0Z BK146) hg (Kd.R_ne HO156.out BK146.out (by decide))); replace BK147 := am_ (blk_grown (g := gb147) (b0Z BK147) hg (Kd.R_ne HO156.out BK147.out (by decide))); replace HO153 := am_ (Kd.R_over' (Zaa HO153) (Kd.R_typed (Zaa HO156)) (by decide) hg); replace HO162 := am_ (Kd.R_over' (Zaa HO162) (Kd.R_typed (Zaa HO156)) (by decide) hg); replace HB := am_ (hb); replace HO159 := am_ (ho); clear HO156; clear ho hb hg hat; refine hK.out _ _ (Zy BK146) (fun hHeld => ?_); clear hK K; refine normZ 12 ?_; exact norm_ Zz (hJ0_3_4_7_8 (v149, v152, v155, v158, v161) _ ⟨hHeld, (Zaa HO153), (Zaa HO159), (Zaa HO162), (b0Z BK146), (b0Z BK147), (Zw GE146 GE147)⟩)
     ·skip
      rintro ⟨v149, v152, v155, v158⟩ w15 ⟨hS_, h0_, h1_, h2_, h3_, h4_⟩
      (try dsimp only at hS_ h0_ h1_ h2_ h3_ h4_)
      replace HO153 := am_ h0_; replace HO159 := am_ h1_; replace BK146 := am_ h2_; replace BK147 := am_ h3_; replace HB := am_ h4_; clear h0_ h1_ h2_ h3_ h4_; have hHeld := hS_; refine normP ?_; refine one_ (i := 8) (N := some 13) (bT 13 10) rfl rfl (one_of HT_.out Zk) (by decide) (fun K hK => ?_); refine Kd.R_lit_step k39 _ 39 ?hg (N := 13) ?hd (xs := ([] : List (S39))) (inner := []) (ok := fun _ => True) (okp := fun _ => True) ?hr ?hp (fun _ hk => hk) trivial (Below.refl _ _) (Nat.le_refl _) (by simp) ?_; (case hd => rfl); (case hg => rfl); (case hr => first | (go_simp; done) | (go_simp; rfl)); (case hp => exact (Reps.none _ _)); intro v161 w16 ho17 hb hg_ hnew_; clear hg_ hnew_
      (first | rw [← Ny160.out] at ho17 | (simp only [Int.reduceToNat] at ho17; rw [← Ny160.out] at ho17))
      replace HO153 := (hbZ HO153 hb); replace HO159 := (hbZ HO159 hb); replace HO162 := am_ (Kd.R_lower ho17 (below_size (Zw GE146 GE147))); replace BK146 := (bkZ BK146 hb); replace BK147 := (bkZ BK147 hb); replace HB := (bsZ (Zw GE146 GE147) hb); clear hb ho17; refine hK.out _ _ (Zy BK146) (fun hHeld => ?_); clear hK K; refine normZ 13 ?_; exact norm_ Zz (hJ0_3_4_7_8 (v149, v152, v155, v158, v161) _ ⟨hHeld, (Zaa HO153), (Zaa HO159), (Zaa HO162), (b0Z BK146), (b0Z BK147), (Zw GE146 GE147)⟩)
    rintro ⟨v149, v152, v155, v158, v161⟩ w17 ⟨hS_, h0_, h1_, h2_, h3_, h4_, h5_⟩
    (try dsimp only at hS_ h0_ h1_ h2_ h3_ h4_ h5_)
    replace HO153 := am_ h0_; replace HO159 := am_ h1_; replace HO162 := am_ h2_; replace BK146 := am_ h3_; replace BK147 := am_ h4_; replace HB := am_ h5_; clear h0_ h1_ h2_ h3_ h4_ h5_; have hHeld := hS_; refine normP ?_; refine one_ (i := 10) (N := some 15) (bT 13 11) rfl rfl (one_of HT_.out Zk) (by decide) (fun K hK => ?_); refine Kd.R_append_rows_step k39 (w0 := w) w.heap.size (by rfl) (.tmp 13) (.tmp 14) 26 39 (.agg #[(.int .i64 0), (.int .i64 0), (.string ⟨#[]⟩), (.int .i64 0)]) 40 rfl Try.underlying26 info39 rfl (by decide) (by omega) v161 y160 l1 _ _ _ (fun _ => True) (fun _ => False) rfl rfl ?aO ?aR (fun _ _ h => h) (fun _ h => h.elim) ?aF ?aB ?aS ?aL ?_
    (case aR => repeat (first | exact (Kd.C_below HR1.out HB.out) | (with_reducible refine Kd.C_alloc ?_ _) | (with_reducible refine Kd.C_drewN ?_ _) | (with_reducible refine Kd.C_drew ?_)))
    (case aB => exact (Zw GE146 GE147))
    (case aF => exact (fun _ _ => trivial))
    (case aO => exact (Zaa HO162))
    (case aS => exact (below_size (Zw GE146 GE147)))
    (case aL => have := LMc5.out; omega)
    intro v164 w18 ho hb hg hat; rw [← Ny163.out] at ho; replace BK146 := am_ (blk_grown (g := gb146) (b0Z BK146) hg (Kd.R_ne HO162.out BK146.out (by decide))); replace BK147 := am_ (blk_grown (g := gb147) (b0Z BK147) hg (Kd.R_ne HO162.out BK147.out (by decide))); replace HO153 := am_ (Kd.R_over' (Zaa HO153) (Kd.R_typed (Zaa HO162)) (by decide) hg); replace HO159 := am_ (Kd.R_over' (Zaa HO159) (Kd.R_typed (Zaa HO162)) (by decide) hg); replace HB := am_ (hb); replace HO165 := am_ (ho); clear HO162; clear ho hb hg hat; obtain ⟨Ao19, co19, eo19⟩ := Kd.R_slice HO165.out
    (first | subst eo19 | (injection eo19 with f1_ f2_ f3_; have f4_ := f1_.symm; have f5_ := f3_.symm; clear f1_ f2_ f3_; subst f4_; subst f5_))
    obtain ⟨Ao20, co20, eo20⟩ := Kd.R_slice HO159.out
    (first | subst eo20 | (injection eo20 with f1_ f2_ f3_; have f4_ := f1_.symm; have f5_ := f3_.symm; clear f1_ f2_ f3_; subst f4_; subst f5_))
    obtain ⟨Ao21, co21, eo21⟩ := Kd.R_slice HO153.out
    (first | subst eo21 | (injection eo21 with f1_ f2_ f3_; have f4_ := f1_.symm; have f5_ := f3_.symm; clear f1_ f2_ f3_; subst f4_; subst f5_))
    refine hK.out _ _ (Zy BK146) (fun hHeld => ?_); clear hK K; refine normZ 15 ?_; refine pureZ HT_ 11 (some 16) (bT 13 12) ?_; refine one_ (i := 12) (N := none) (bT 13 13) rfl rfl (one_of HT_.out Zk) (by decide) (fun K hK => ?_); have hs22 : w18.cell? ⟨gb147, 0, none⟩ = some (.slice none 0 0) := (blk_cell BK147.out 0).trans rfl; have hfs22 := blk_frozen BK147.out 0; have hns22_0 := NB146_147.out; have hms22_0 := NB147_146.out; have hs23 : w18.cell? ⟨gb147, 1, none⟩ = some (.slice none 0 0) := (blk_cell BK147.out 1).trans rfl; have hfs23 := blk_frozen BK147.out 1; have hns23_0 := NB146_147.out; have hms23_0 := NB147_146.out; have hs24 : w18.cell? ⟨gb147, 2, none⟩ = some (.slice none 0 0) := (blk_cell BK147.out 2).trans rfl; have hfs24 := blk_frozen BK147.out 2; have hns24_0 := NB146_147.out; have hms24_0 := NB147_146.out; refine skip_ (w1 := ?_) (by rfl) rfl ?_ ?_; rotate_left
    ·go_simp
     rfl
    refine hK.out _ _ ⟨(cg1 (hHeld.1) NB146_147), (cg1 (hHeld.2.1) NB146_147), (cg1 (hHeld.2.2) NB146_147)⟩ (fun hHeld => ?_); clear hK K; refine done_ (done_of HT_.out Zk) ?_
    try go_wp2
    refine bodyPost_ret (results_cell_row rfl _ _ gb147 28 #[.slice Ao21 y151.length co21, .slice Ao20 y157.length co20, .slice Ao19 y163.length co19] (0, 0) _ rfl (bpZ BK147) Try.underlying28 rfl Zk) rfl ?_; exact ⟨_, _, _, Zl, (Zab HO153 BK147), (Zab HO159 BK147), (Zab HO165 BK147), (Zw GE146 GE147)⟩
   ·rw [if_neg c5] at H
    exact absurd H (by simp)
  ·rw [if_neg c4] at H
   exact absurd H (by simp)
 ·rw [if_neg c3] at H
  exact absurd H (by simp)
end Go.Proofs.Ythhijbdekboahaa.F
