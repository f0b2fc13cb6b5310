import Derived.Test.YtmnnbmdfepogiaaJFnShows1
import Derived.Below
import Derived.Deep.Draws
import Derived.Deep.AppendLies
import Derived.Maps.AppendAt
import Derived.OwnWalk
import Derived.Laws.BytesArg
import Derived.Laws.MakeOwn
import Derived.Laws.OwnMore
import Derived.Tactics
import Derived.Lib.ConvBytes
import Derived.Laws.Slices
import Derived.WalkKit
import Derived.KernelRfl
import Derived.RowKit3
import Derived.Deep.LoopGhost
import Derived.Deep.QuietTactic
import Derived.BigQuiet
import Derived.WideLaws
import Derived.Deep.DeepCutAuto
import Derived.Deep.CutBlock
import Derived.Deep.RegionHeld3
import Derived.Lib.AppendStr
import Derived.ArgAppend
import Derived.Laws.IdiomCopy
import Derived.RowKit
import Derived.OrdersHeld
import Derived.Laws.BitsLemmas
import Derived.Laws.StructEq
import Derived.Test.YtmnnbmdfepogiaaProg
import Derived.Laws.Cover1
namespace Go.Proofs.Ytmnnbmdfepogiaa.F
open Go.RowKit Go.Proofs.YtmnnbmdfepogiaaW.PrintWords Go.Proofs.YtmnnbmdfepogiaaW.PrintLast Go.Proofs.YtmnnbmdfepogiaaW.PrintMore
attribute [local go_sem] max2_int min2_int max_two min_two max_three min_three max_four min_four   -- for this text's walks alone
set_option linter.unusedVariables false
set_option linter.unusedSimpArgs false
def errW : Option Int → Value
 | none => .nilIface
 | some c => .iface 0 (.int .i64 c)
theorem errW_none : errW none = .nilIface := rfl
theorem errW_some (c : Int) : errW (some c) = .iface 0 (.int .i64 c) := rfl
theorem info2 : (Try.prog.info? 2).map (fun i => (i.zero, i.size, i.bytes)) = some (some (.int .i64 0), 1, 8) := by kernel_rfl
theorem info58 : (Try.prog.info? 58).map (fun i => (i.zero, i.size, i.bytes)) = some (some (.agg #[(.int .i64 0), (.int .i64 0), (.string ⟨#[]⟩), (.int .i64 0)]), 4, 40) := by kernel_rfl
theorem info61 : (Try.prog.info? 61).map (fun i => (i.zero, i.size, i.bytes)) = some (some (.agg #[(.string ⟨#[]⟩), (.int .i64 0), (.int .i64 0), (.int .i64 0), (.int .i64 0), (.int .i64 0), (.int .i64 0), (.int .i64 0), (.int .i64 0)]), 9, 80) := by kernel_rfl
theorem info104 : (Try.prog.info? 104).map (fun i => (i.zero, i.size, i.bytes)) = some (some (.agg #[(.int .i64 0), (.int .i64 0)]), 2, 16) := by kernel_rfl
structure S61 where
 f0 : ByteArray
 f1 : Int
 f2 : Int
 f3 : Int
 f4 : Int
 f5 : Int
 f6 : Int
 f7 : Int
 f8 : Int
def z61 : S61 := ⟨(⟨#[]⟩ : ByteArray), (0 : Int), (0 : Int), (0 : Int), (0 : Int), (0 : Int), (0 : Int), (0 : Int), (0 : Int)⟩
def k61 : Kd S61 := Kd.iso (Kd.pair Kd.string (Kd.pair (Kd.int .i64) (Kd.pair (Kd.int .i64) (Kd.pair (Kd.int .i64) (Kd.pair (Kd.int .i64) (Kd.pair (Kd.int .i64) (Kd.pair (Kd.int .i64) (Kd.pair (Kd.int .i64) (Kd.int .i64))))))))) (fun x : S61 => (x.f0, x.f1, x.f2, x.f3, x.f4, x.f5, x.f6, x.f7, x.f8))
theorem k61_open {w : World} {x : S61} {cs : List Value} (h : k61.K w x cs) : cs = [.string x.f0, .int .i64 x.f1, .int .i64 x.f2, .int .i64 x.f3, .int .i64 x.f4, .int .i64 x.f5, .int .i64 x.f6, .int .i64 x.f7, .int .i64 x.f8] := by
 obtain ⟨_, _, rfl, rfl, ⟨_, _, rfl, rfl, ⟨_, _, rfl, rfl, ⟨_, _, rfl, rfl, ⟨_, _, rfl, rfl, ⟨_, _, rfl, rfl, ⟨_, _, rfl, rfl, ⟨_, _, rfl, rfl, rfl⟩⟩⟩⟩⟩⟩⟩⟩ := h
 exact rfl
theorem k61_mkM (w : World) (base : Nat) (ok : Nat → Prop) (x : S61)  : k61.M w base ok x [.string x.f0, .int .i64 x.f1, .int .i64 x.f2, .int .i64 x.f3, .int .i64 x.f4, .int .i64 x.f5, .int .i64 x.f6, .int .i64 x.f7, .int .i64 x.f8] := ⟨[.string x.f0], [.int .i64 x.f1, .int .i64 x.f2, .int .i64 x.f3, .int .i64 x.f4, .int .i64 x.f5, .int .i64 x.f6, .int .i64 x.f7, .int .i64 x.f8], rfl, rfl, ⟨[.int .i64 x.f1], [.int .i64 x.f2, .int .i64 x.f3, .int .i64 x.f4, .int .i64 x.f5, .int .i64 x.f6, .int .i64 x.f7, .int .i64 x.f8], rfl, rfl, ⟨[.int .i64 x.f2], [.int .i64 x.f3, .int .i64 x.f4, .int .i64 x.f5, .int .i64 x.f6, .int .i64 x.f7, .int .i64 x.f8], rfl, rfl, ⟨[.int .i64 x.f3], [.int .i64 x.f4, .int .i64 x.f5, .int .i64 x.f6, .int .i64 x.f7, .int .i64 x.f8], rfl, rfl, ⟨[.int .i64 x.f4], [.int .i64 x.f5, .int .i64 x.f6, .int .i64 x.f7, .int .i64 x.f8], rfl, rfl, ⟨[.int .i64 x.f5], [.int .i64 x.f6, .int .i64 x.f7, .int .i64 x.f8], rfl, rfl, ⟨[.int .i64 x.f6], [.int .i64 x.f7, .int .i64 x.f8], rfl, rfl, ⟨[.int .i64 x.f7], [.int .i64 x.f8], rfl, rfl, rfl⟩⟩⟩⟩⟩⟩⟩⟩
def rd_T61 (xs : List S61) (i : Int) : S61 := xs.getD i.toNat z61
theorem at_T61 {w : World} {A : Option Addr} {n : Nat} {xs : List S61} (h : Kd.C k61 w A n xs) (i : Int) (h0 : 0 ≤ i) (h1 : i < n) : ∃ ad , A = some ad ∧ w.cell? (ad.add (i.toNat * 9)) = some (.string (rd_T61 xs i).f0) ∧ w.cell? ⟨(ad.add (i.toNat * 9)).block, (ad.add (i.toNat * 9)).off + 1, none⟩ = some (.int .i64 (rd_T61 xs i).f1) ∧ w.cell? ⟨(ad.add (i.toNat * 9)).block, (ad.add (i.toNat * 9)).off + 2, none⟩ = some (.int .i64 (rd_T61 xs i).f2) ∧ w.cell? ⟨(ad.add (i.toNat * 9)).block, (ad.add (i.toNat * 9)).off + 3, none⟩ = some (.int .i64 (rd_T61 xs i).f3) ∧ w.cell? ⟨(ad.add (i.toNat * 9)).block, (ad.add (i.toNat * 9)).off + 4, none⟩ = some (.int .i64 (rd_T61 xs i).f4) ∧ w.cell? ⟨(ad.add (i.toNat * 9)).block, (ad.add (i.toNat * 9)).off + 5, none⟩ = some (.int .i64 (rd_T61 xs i).f5) ∧ w.cell? ⟨(ad.add (i.toNat * 9)).block, (ad.add (i.toNat * 9)).off + 6, none⟩ = some (.int .i64 (rd_T61 xs i).f6) ∧ w.cell? ⟨(ad.add (i.toNat * 9)).block, (ad.add (i.toNat * 9)).off + 7, none⟩ = some (.int .i64 (rd_T61 xs i).f7) ∧ w.cell? ⟨(ad.add (i.toNat * 9)).block, (ad.add (i.toNat * 9)).off + 8, none⟩ = some (.int .i64 (rd_T61 xs i).f8) := by
 obtain ⟨ad, c, e, _, hK, hc0⟩ := Kd.C_get h z61 i h0 h1
 have hc : ∀ j u, c[j]? = some u → w.cell? (ad.add (i.toNat * 9 + j)) = some u := hc0
 obtain rfl := k61_open hK
 exact ⟨ad, e, hc 0 _ rfl, by rw [← add_field _ _ 1 (by omega)]; exact hc 1 _ rfl, by rw [← add_field _ _ 2 (by omega)]; exact hc 2 _ rfl, by rw [← add_field _ _ 3 (by omega)]; exact hc 3 _ rfl, by rw [← add_field _ _ 4 (by omega)]; exact hc 4 _ rfl, by rw [← add_field _ _ 5 (by omega)]; exact hc 5 _ rfl, by rw [← add_field _ _ 6 (by omega)]; exact hc 6 _ rfl, by rw [← add_field _ _ 7 (by omega)]; exact hc 7 _ rfl, by rw [← add_field _ _ 8 (by omega)]; exact hc 8 _ rfl⟩
structure S104 where
 f0 : Int
 f1 : Int
def z104 : S104 := ⟨(0 : Int), (0 : Int)⟩
def k104 : Kd S104 := Kd.iso (Kd.pair (Kd.int .i64) (Kd.int .i64)) (fun x : S104 => (x.f0, x.f1))
theorem k104_open {w : World} {x : S104} {cs : List Value} (h : k104.K w x cs) : cs = [.int .i64 x.f0, .int .i64 x.f1] := by
 obtain ⟨_, _, rfl, rfl, rfl⟩ := h
 exact rfl
theorem k104_openM {w : World} {base : Nat} {ok : Nat → Prop} {x : S104} {cs : List Value} (h : k104.M w base ok x cs) : cs = [.int .i64 x.f0, .int .i64 x.f1] := by
 obtain ⟨_, _, rfl, rfl, rfl⟩ := h
 exact rfl
theorem k104_mkM (w : World) (base : Nat) (ok : Nat → Prop) (x : S104)  : k104.M w base ok x [.int .i64 x.f0, .int .i64 x.f1] := ⟨[.int .i64 x.f0], [.int .i64 x.f1], rfl, rfl, rfl⟩
def rd_T104 (xs : List S104) (i : Int) : S104 := xs.getD i.toNat z104
theorem at_T104 {w : World} {A : Option Addr} {n : Nat} {xs : List S104} (h : Kd.C k104 w A n xs) (i : Int) (h0 : 0 ≤ i) (h1 : i < n) : ∃ ad , A = some ad ∧ w.cell? (ad.add (i.toNat * 2)) = some (.int .i64 (rd_T104 xs i).f0) ∧ w.cell? ⟨(ad.add (i.toNat * 2)).block, (ad.add (i.toNat * 2)).off + 1, none⟩ = some (.int .i64 (rd_T104 xs i).f1) := by
 obtain ⟨ad, c, e, _, hK, hc0⟩ := Kd.C_get h z104 i h0 h1
 have hc : ∀ j u, c[j]? = some u → w.cell? (ad.add (i.toNat * 2 + j)) = some u := hc0
 obtain rfl := k104_open hK
 exact ⟨ad, e, hc 0 _ rfl, by rw [← add_field _ _ 1 (by omega)]; exact hc 1 _ rfl⟩
structure S58 where
 f0 : Int
 f1 : Int
 f2 : ByteArray
 f3 : Int
def z58 : S58 := ⟨(0 : Int), (0 : Int), (⟨#[]⟩ : ByteArray), (0 : Int)⟩
def k58 : Kd S58 := Kd.iso (Kd.pair (Kd.int .i64) (Kd.pair (Kd.int .i64) (Kd.pair Kd.string (Kd.int .i64)))) (fun x : S58 => (x.f0, x.f1, x.f2, x.f3))
theorem k58_open {w : World} {x : S58} {cs : List Value} (h : k58.K w x cs) : cs = [.int .i64 x.f0, .int .i64 x.f1, .string x.f2, .int .i64 x.f3] := by
 obtain ⟨_, _, rfl, rfl, ⟨_, _, rfl, rfl, ⟨_, _, rfl, rfl, rfl⟩⟩⟩ := h
 exact rfl
theorem k58_mkM (w : World) (base : Nat) (ok : Nat → Prop) (x : S58)  : k58.M w base ok x [.int .i64 x.f0, .int .i64 x.f1, .string x.f2, .int .i64 x.f3] := ⟨[.int .i64 x.f0], [.int .i64 x.f1, .string x.f2, .int .i64 x.f3], rfl, rfl, ⟨[.int .i64 x.f1], [.string x.f2, .int .i64 x.f3], rfl, rfl, ⟨[.string x.f2], [.int .i64 x.f3], rfl, rfl, rfl⟩⟩⟩
def rd_T58 (xs : List S58) (i : Int) : S58 := xs.getD i.toNat z58
theorem at_T58 {w : World} {A : Option Addr} {n : Nat} {xs : List S58} (h : Kd.C k58 w A n xs) (i : Int) (h0 : 0 ≤ i) (h1 : i < n) : ∃ ad , A = some ad ∧ w.cell? (ad.add (i.toNat * 4)) = some (.int .i64 (rd_T58 xs i).f0) ∧ w.cell? ⟨(ad.add (i.toNat * 4)).block, (ad.add (i.toNat * 4)).off + 1, none⟩ = some (.int .i64 (rd_T58 xs i).f1) ∧ w.cell? ⟨(ad.add (i.toNat * 4)).block, (ad.add (i.toNat * 4)).off + 2, none⟩ = some (.string (rd_T58 xs i).f2) ∧ w.cell? ⟨(ad.add (i.toNat * 4)).block, (ad.add (i.toNat * 4)).off + 3, none⟩ = some (.int .i64 (rd_T58 xs i).f3) := by
 obtain ⟨ad, c, e, _, hK, hc0⟩ := Kd.C_get h z58 i h0 h1
 have hc : ∀ j u, c[j]? = some u → w.cell? (ad.add (i.toNat * 4 + j)) = some u := hc0
 obtain rfl := k58_open hK
 exact ⟨ad, e, hc 0 _ rfl, by rw [← add_field _ _ 1 (by omega)]; exact hc 1 _ rfl, by rw [← add_field _ _ 2 (by omega)]; exact hc 2 _ rfl, by rw [← add_field _ _ 3 (by omega)]; exact hc 3 _ rfl⟩
structure S106 where
 f0 : Int
 f1 : Int
structure S99 where
 f0 : ByteArray
 f1 : Int
 f2 : Int
 f3 : Int
 f4 : Int
 f5 : Int
 f6 : Int
 f7 : Int
 f8 : Int
structure S101 where
 f0 : Int
 f1 : Int
 f2 : ByteArray
 f3 : Int
end Go.Proofs.Ytmnnbmdfepogiaa.F
namespace Go.Proofs.Ytmnnbmdfepogiaa.F
open Go.RowKit Go.Proofs.YtmnnbmdfepogiaaW.PrintWords Go.Proofs.YtmnnbmdfepogiaaW.PrintLast Go.Proofs.YtmnnbmdfepogiaaW.PrintMore
theorem am_ {p : Prop} (h : p) : Aside0 p := ⟨h⟩
theorem cbH {w w1 : World} {a : Addr} {v : Value} (HB : Aside0 (Below w.heap.size w w1)) (h : w.cell? a = some v) : w1.cell? a = some v := (HB.out.cell (World.block_lt_of_cell? w _ h)).trans h
theorem Zput {P : Prop} (h : P := by simp only [Act.put, List.setIfInBounds_toArray, List.set_cons_zero, List.set_cons_succ, i64_w, i32_w]; rfl) : P := h
theorem pureZ {P : Program} {ops : Array Oper} {Q : Exit → Act → World → Prop} {md : Region.Mode} {S : World → Prop} {ds : List Nat} {T : Bool × List (List Nat × List Nat)} (HT_ : Aside0 (rtab md ops = T)) (i : Nat) (N : Option Tmp) (l' : Array Bool) {oi : Oper} {v : Value} {fuel : Nat} {l : Array Bool} {a a' : Act} {w : World} (h : wpAnyLast P md ops Q S ds fuel l' a' w)
    (hi : ops[i]? = some oi := by rfl) (hN : oi.dst = N := by rfl) (hc : anyT T l.toList l'.toList i = true := by kernel_rfl) (hQ : ∀ c a w, Q (.panic c) (a.put oi.dst v) w → Q (.panic c) a w := by exact fun _ _ _ h => h) (hy : Yields P ops oi v a := by exact Or.inl ⟨by rfl, by intro w'; go_simp; with_reducible rfl⟩) (ha : a.put N v = a' := by simp only [Act.put, List.setIfInBounds_toArray, List.set_cons_zero, List.set_cons_succ, i64_w, i32_w]; rfl) : wpAnyLast P md ops Q S ds (fuel + 1) l a w := pure_ l' hi hN (any_of HT_.out hc) hQ hy ha h
theorem boxZ {P : Program} {ops : Array Oper} {Q : Exit → Act → World → Prop} {rest : List Oper} {o : Oper} {a : Act} {W : World} (N : Tmp) (cs : Array Value) (t : TypeId) (h : ∀ g, g = W.heap.size → ∀ w1, w1.heap[g]? = some (.cells cs t (0, 0)) → Below W.heap.size W w1 → wpList P ops Q rest (a.put o.dst (.pointer (some ⟨g, 0, none⟩))) w1)
    (hd : o.dst = some N := by rfl) (hg : o.guard = none := by rfl) (hr : (execOp a.eval o).run P W = .ok (.value (.pointer (some ⟨W.heap.size, 0, none⟩))) (W.alloc (.cells cs t (0, 0))) := by first | (go_simp; done) | (go_simp; rfl)) : wpList P ops Q (o :: rest) a W := box_event hg hd hr h
theorem normZ {P : Program} {ops : Array Oper} {Q : Exit → Act → World → Prop} {md : Region.Mode} {S : World → Prop} {ds : List Nat} {fuel : Nat} {l : Array Bool} {a a' : Act} {v : Value} {w : World} (N : Tmp) (h : wpAnyLast P md ops Q S ds fuel l a' w) (ha : Act.put a (some N) v = a' := by simp only [Act.put, List.setIfInBounds_toArray, List.set_cons_zero, List.set_cons_succ, i64_w, i32_w]; rfl) : wpAnyLast P md ops Q S ds fuel l (Act.put a (some N) v) w := norm_ ha h
theorem normP {P : Program} {ops : Array Oper} {Q : Exit → Act → World → Prop} {md : Region.Mode} {S : World → Prop} {ds : List Nat} {fuel : Nat} {l : Array Bool} {a a' : Act} {w : World} (h : wpAnyLast P md ops Q S ds fuel l a' w) (ha : a = a' := by simp only [putAll, Act.put, List.setIfInBounds_toArray, List.set_cons_zero, List.set_cons_succ]; rfl) : wpAnyLast P md ops Q S ds fuel l a w := norm_ ha h
theorem bkZ {w w1 : World} {g : Nat} {o : Obj} {p : Prop} (z : p) (hb : Below w.heap.size w w1) (h : p → w.heap[g]? = some o := by intro z0_; (with_reducible repeat (first | refine' blk_drewN ?_ _ | refine' blk_drew ?_ | refine' blk_alloc ?_ _)); exact z0_.out) : Aside0 (w1.heap[g]? = some o) := ⟨blk_below (h z) hb⟩
theorem pureU {P : Program} {ops : Array Oper} {Q : Exit → Act → World → Prop} {md : Region.Mode} {S : World → Prop} {ds : List Nat} {T : Bool × List (List Nat × List Nat)} (HT_ : Aside0 (rtab md ops = T)) (i : Nat) (N : Option Tmp) (l' : Array Bool) {oi : Oper} {fuel : Nat} {l : Array Bool} {a a' : Act} {w : World} (h : wpAnyLast P md ops Q S ds fuel l' a' w)
    (hi : ops[i]? = some oi := by rfl) (hN : oi.dst = N := by rfl) (hc : anyT T l.toList l'.toList i = true := by kernel_rfl) (hQ : ∀ c a w, Q (.panic c) (a.put oi.dst undef) w → Q (.panic c) a w := by exact fun _ _ _ h => h) (hy : Yields P ops oi undef a := by exact Or.inr ⟨by rfl, rfl⟩) (ha : a.put N undef = a' := by simp only [Act.put, List.setIfInBounds_toArray, List.set_cons_zero, List.set_cons_succ, i64_w, i32_w]; rfl) : wpAnyLast P md ops Q S ds (fuel + 1) l a w := pure_ l' hi hN (any_of HT_.out hc) hQ hy ha h
theorem kbZ {w w1 : World} {g g' : Nat} {o : Obj} {p : Prop} (z : p) (hk : KeepBut w w1 g none) (hn : Aside0 (g' ≠ g)) (h : p → w.heap[g']? = some o := by intro z0_; (with_reducible repeat (first | refine' blk_drewN ?_ _ | refine' blk_drew ?_ | refine' blk_alloc ?_ _)); exact z0_.out) : Aside0 (w1.heap[g']? = some o) := ⟨hk.blk (h z) hn.out (by simp)⟩
theorem gZ {P : Program} {ops : Array Oper} {Q : Exit → Act → World → Prop} {rest : List Oper} {oi : Oper} {a : Act} {w : World} (N : Nat) {f : FuncId} {fn : Func} {os : Array Operand} {ts : Array TypeId} (hf : P.funcs[f]? = some fn) (args : Array Value) (h : Calls P f args w fun e w' => ∃ v, e = .returned v ∧ wpList P ops Q rest (a.put (some N) v) w') (hd : oi.dst = some N := by rfl) (hg : oi.guard = none := by rfl) (hname : (fn.name == "runtime.NumGoroutine") = false := by kernel_rfl) (hb : fn.body.isSome = true := by rfl)
    (hop : oi.op = .call { callee := .value (.func f), args := os, argTypes := ts } := by rfl) (hargs : os.map a.eval = args := by (try simp only [List.map_toArray, List.map_cons, List.map_nil]); first | done | rfl | (simp only [List.length_drop, List.length_take]; rfl)) : wpList P ops Q (oi :: rest) a w := goesL_ (some N) hd hg hf hname hb args hop hargs h
theorem hoZ {α : Type} {d : Kd α} {e base g : Nat} {w w1 : World} {ok : Nat → Prop} {v : Value} {xs : List α} (h : d.R e w base (fun k => ok k ∧ k ≠ g) v xs) (hk : KeepBut w w1 g none) : Aside0 (d.R e w1 base ok v xs) := ⟨Kd.R_mono (Kd.R_keep h hk (fun _ h => h.2)) (fun _ h => h.1)⟩
theorem hbZ {p0 : Prop} {α : Type} {d : Kd α} {e base : Nat} {w w1 : World} {ok : Nat → Prop} {v : Value} {xs : List α} (z : p0) (hb : Below w.heap.size w w1) (h : p0 → d.R e w base ok v xs := by intro z0_; (with_reducible repeat (first | apply Kd.R_alloc | apply Kd.R_drewN | apply Kd.R_drew)); exact z0_.out) : Aside0 (d.R e w1 base ok v xs) := ⟨Kd.R_below (h z) hb⟩
theorem rfZ {α : Type} {d : Kd α} {e base : Nat} {w w1 : World} {ok : Nat → Prop} {v : Value} {xs : List α} (h : d.R e w base ok v xs) (t : d.R e w base ok v xs → d.R e w1 base ok v xs := by intro h_; (with_reducible repeat (refine Kd.R_far ?_ (fun _ hk => hk.2) _)); exact h_) : d.R e w1 base ok v xs := t h
theorem bindZ {α β : Type} {a : α} {f : α → Option β} {r : Option β} (H : (some a).bind f = r) : f a = r := H
theorem bsZ {w0 w w1 : World} (h : Below w0.heap.size w0 w) (hb : Below w.heap.size w w1) : Aside0 (Below w0.heap.size w0 w1) := ⟨below_step h hb⟩
theorem blk_farO {w : World} {g : Nat} {o : Obj} {p : Addr} {u : Value} (h : w.heap[g]? = some o) (hp : g ≠ p.block) : (w.setCell p u).heap[g]? = some o := (Below.heap_setCell w p u g hp).trans h
theorem b0Z {p0 : Prop} {W : World} {g : Nat} {o : Obj} (z0 : p0) (h : p0 → W.heap[g]? = some o := by intro z0_; (with_reducible repeat (first | refine' blk_drewN ?_ _ | refine' blk_drew ?_ | refine' blk_alloc ?_ _)); exact z0_.out) : W.heap[g]? = some o := h z0
theorem bfZ {p0 p1 : Prop} {W : World} {g : Nat} {o : Obj} (z0 : p0) (z1 : p1) (h : p0 → p1 → W.heap[g]? = some o := by intro z0_ z1_; (repeat (first | (with_reducible first | refine' blk_drewN ?_ _ | refine' blk_drew ?_ | refine' blk_alloc ?_ _) | refine' blk_farO ?_ z1_.out)); exact z0_.out) : W.heap[g]? = some o := h z0 z1
theorem exb_drewN {w : World} {g t n : Nat} {E : Array Value → Prop} (h : ∃ cs, w.heap[g]? = some (.cells cs t (0, 0)) ∧ E cs) : ∃ cs, (w.drewN n).heap[g]? = some (.cells cs t (0, 0)) ∧ E cs := h.elim fun cs h => ⟨cs, blk_drewN h.1 _, h.2⟩
theorem exb_drew {w : World} {g t : Nat} {E : Array Value → Prop} (h : ∃ cs, w.heap[g]? = some (.cells cs t (0, 0)) ∧ E cs) : ∃ cs, w.drew.heap[g]? = some (.cells cs t (0, 0)) ∧ E cs := h.elim fun cs h => ⟨cs, blk_drew h.1, h.2⟩
theorem exb_alloc {w : World} {g t : Nat} {o : Obj} {E : Array Value → Prop} (h : ∃ cs, w.heap[g]? = some (.cells cs t (0, 0)) ∧ E cs) : ∃ cs, (w.alloc o).heap[g]? = some (.cells cs t (0, 0)) ∧ E cs := h.elim fun cs h => ⟨cs, blk_alloc h.1 _, h.2⟩
theorem exb_set {w : World} {g t i : Nat} {u : Value} {E : Array Value → Prop} (h : ∃ cs, w.heap[g]? = some (.cells cs t (0, 0)) ∧ E (cs.setIfInBounds i u)) : ∃ cs, (w.setCell ⟨g, i, none⟩ u).heap[g]? = some (.cells cs t (0, 0)) ∧ E cs := h.elim fun cs h => ⟨cs.setIfInBounds i u, blk_set h.1 i u, h.2⟩
theorem exb_far {w : World} {g t : Nat} {p : Addr} {u : Value} {E : Array Value → Prop} (h : ∃ cs, w.heap[g]? = some (.cells cs t (0, 0)) ∧ E cs) (hp : g ≠ p.block) : ∃ cs, (w.setCell p u).heap[g]? = some (.cells cs t (0, 0)) ∧ E cs := h.elim fun cs h => ⟨cs, blk_far h.1 hp u, h.2⟩
theorem bpZ {p0 : Prop} {W : World} {g t : Nat} {cs' : Array Value} (z0 : p0) (h : p0 → ∃ cs, W.heap[g]? = some (.cells cs t (0, 0)) ∧ cs = cs' := by intro z0_; (repeat (with_reducible first | refine exb_drewN ?_ | refine exb_drew ?_ | refine exb_alloc ?_ | refine exb_set ?_)); exact ⟨_, z0_.out, by first | (simp only [List.setIfInBounds_toArray, List.set_cons_zero, List.set_cons_succ]; done) | rfl⟩) : W.heap[g]? = some (.cells cs' t (0, 0)) := (h z0).elim fun _ h => h.2 ▸ h.1
theorem bmZ {p0 p1 : Prop} {W : World} {g t : Nat} {cs' : Array Value} (z0 : p0) (z1 : p1) (h : p0 → p1 → ∃ cs, W.heap[g]? = some (.cells cs t (0, 0)) ∧ cs = cs' := by intro z0_ z1_; (repeat (first | (with_reducible first | refine exb_drewN ?_ | refine exb_drew ?_ | refine exb_alloc ?_ | refine exb_set ?_) | refine exb_far ?_ z1_.out)); exact ⟨_, z0_.out, by first | (simp only [List.setIfInBounds_toArray, List.set_cons_zero, List.set_cons_succ]; done) | rfl⟩) : W.heap[g]? = some (.cells cs' t (0, 0)) := (h z0 z1).elim fun _ h => h.2 ▸ h.1
theorem cell_farE {w : World} {p a : Addr} {u : Value} {v : Option Value} (h : w.cell? a = v) (hp : a.block ≠ p.block) : (w.setCell p u).cell? a = v := (cell_far hp u).trans h
theorem cfZ {w W : World} {a : Addr} {v : Option Value} (g : Nat) (z0 : w.cell? a = v) (z1 : a.block ≠ g) (h : w.cell? a = v → a.block ≠ g → W.cell? a = v := by intro z0_ z1_; (repeat (refine cell_farE ?_ z1_)); exact z0_) : W.cell? a = v := h z0 z1
theorem cg1 {p0 p1 P : Prop} (z0 : p0) (z1 : p1) (h : p0 → p1 → P := by intro z0_ z1_; (repeat (refine cell_farE ?_ z1_.out)); exact z0_) : P := h z0 z1
def bB (n m : Nat) : Array Bool := ((List.range n).map fun i => m.testBit i).toArray
def bT (n k : Nat) : Array Bool := (List.replicate k true ++ List.replicate (n - k) false).toArray
theorem cz3 {w : World} {g t : Nat} {a0 a1 a2 : Value} (h : Aside0 (w.heap[g]? = some (.cells #[a0, a1, a2] t (0, 0)))) : w.cell? ⟨g, 0, none⟩ = some a0 ∧ w.cell? ⟨g, 1, none⟩ = some a1 ∧ w.cell? ⟨g, 2, none⟩ = some a2 ∧ w.frozen? ⟨g, 0, none⟩ = false ∧ w.frozen? ⟨g, 1, none⟩ = false ∧ w.frozen? ⟨g, 2, none⟩ = false := ⟨(blk_cell h.out 0).trans rfl, (blk_cell h.out 1).trans rfl, (blk_cell h.out 2).trans rfl, blk_frozen h.out 0, blk_frozen h.out 1, blk_frozen h.out 2⟩
theorem cz4 {w : World} {g t : Nat} {a0 a1 a2 a3 : Value} (h : Aside0 (w.heap[g]? = some (.cells #[a0, a1, a2, a3] t (0, 0)))) : w.cell? ⟨g, 0, none⟩ = some a0 ∧ w.cell? ⟨g, 1, none⟩ = some a1 ∧ w.cell? ⟨g, 2, none⟩ = some a2 ∧ w.cell? ⟨g, 3, none⟩ = some a3 ∧ w.frozen? ⟨g, 0, none⟩ = false ∧ w.frozen? ⟨g, 1, none⟩ = false ∧ w.frozen? ⟨g, 2, none⟩ = false ∧ w.frozen? ⟨g, 3, none⟩ = false := ⟨(blk_cell h.out 0).trans rfl, (blk_cell h.out 1).trans rfl, (blk_cell h.out 2).trans rfl, (blk_cell h.out 3).trans rfl, blk_frozen h.out 0, blk_frozen h.out 1, blk_frozen h.out 2, blk_frozen h.out 3⟩
theorem takeZ3 {P : Program} {ops : Array Oper} {Q : Exit → Act → World → Prop} {md : Region.Mode} {S : World → Prop} {ds : List Nat} {T : Bool × List (List Nat × List Nat)} {B : List Nat} (HT_ : Aside0 (rtab md ops = T)) (HW_ : Aside0 (waitsOk T.2 B = true)) (i : Nat) (N : Option Tmp) (l' : Array Bool) {oi : Oper} {v : Value} {fuel : Nat} {l : Array Bool} {a a' : Act} {w : World} (hS : S w) (h : wpAnyLast P md ops Q S ds fuel l' a' w)
    (hi : ops[i]? = some oi := by rfl) (hN : oi.dst = N := by rfl) (hc : takeW T B ds l.toList l'.toList i = true := by kernel_rfl) (hQ : ∀ c a w, Q (.panic c) (a.put oi.dst v) w → Q (.panic c) a w := by exact fun _ _ _ h => h) (hy : YieldsIf P ops S oi v a := by refine Or.inl ⟨by rfl, ?_⟩; rintro w' ⟨s0, s1, s2⟩; go_simp; with_reducible rfl) (ha : a.put N v = a' := by simp only [Act.put, List.setIfInBounds_toArray, List.set_cons_zero, List.set_cons_succ, i64_w, i32_w]; rfl) : wpAnyLast P md ops Q S ds (fuel + 1) l a w := take_ l' hi hN (take_ofW HT_.out HW_.out hc) hQ hy hS ha h
theorem takeZ4 {P : Program} {ops : Array Oper} {Q : Exit → Act → World → Prop} {md : Region.Mode} {S : World → Prop} {ds : List Nat} {T : Bool × List (List Nat × List Nat)} {B : List Nat} (HT_ : Aside0 (rtab md ops = T)) (HW_ : Aside0 (waitsOk T.2 B = true)) (i : Nat) (N : Option Tmp) (l' : Array Bool) {oi : Oper} {v : Value} {fuel : Nat} {l : Array Bool} {a a' : Act} {w : World} (hS : S w) (h : wpAnyLast P md ops Q S ds fuel l' a' w)
    (hi : ops[i]? = some oi := by rfl) (hN : oi.dst = N := by rfl) (hc : takeW T B ds l.toList l'.toList i = true := by kernel_rfl) (hQ : ∀ c a w, Q (.panic c) (a.put oi.dst v) w → Q (.panic c) a w := by exact fun _ _ _ h => h) (hy : YieldsIf P ops S oi v a := by refine Or.inl ⟨by rfl, ?_⟩; rintro w' ⟨s0, s1, s2, s3⟩; go_simp; with_reducible rfl) (ha : a.put N v = a' := by simp only [Act.put, List.setIfInBounds_toArray, List.set_cons_zero, List.set_cons_succ, i64_w, i32_w]; rfl) : wpAnyLast P md ops Q S ds (fuel + 1) l a w := take_ l' hi hN (take_ofW HT_.out HW_.out hc) hQ hy hS ha h
theorem takeZ7 {P : Program} {ops : Array Oper} {Q : Exit → Act → World → Prop} {md : Region.Mode} {S : World → Prop} {ds : List Nat} {T : Bool × List (List Nat × List Nat)} {B : List Nat} (HT_ : Aside0 (rtab md ops = T)) (HW_ : Aside0 (waitsOk T.2 B = true)) (i : Nat) (N : Option Tmp) (l' : Array Bool) {oi : Oper} {v : Value} {fuel : Nat} {l : Array Bool} {a a' : Act} {w : World} (hS : S w) (h : wpAnyLast P md ops Q S ds fuel l' a' w)
    (hi : ops[i]? = some oi := by rfl) (hN : oi.dst = N := by rfl) (hc : takeW T B ds l.toList l'.toList i = true := by kernel_rfl) (hQ : ∀ c a w, Q (.panic c) (a.put oi.dst v) w → Q (.panic c) a w := by exact fun _ _ _ h => h) (hy : YieldsIf P ops S oi v a := by refine Or.inl ⟨by rfl, ?_⟩; rintro w' ⟨s0, s1, s2, s3, s4, s5, s6⟩; go_simp; with_reducible rfl) (ha : a.put N v = a' := by simp only [Act.put, List.setIfInBounds_toArray, List.set_cons_zero, List.set_cons_succ, i64_w, i32_w]; rfl) : wpAnyLast P md ops Q S ds (fuel + 1) l a w := take_ l' hi hN (take_ofW HT_.out HW_.out hc) hQ hy hS ha h
theorem takeZ8 {P : Program} {ops : Array Oper} {Q : Exit → Act → World → Prop} {md : Region.Mode} {S : World → Prop} {ds : List Nat} {T : Bool × List (List Nat × List Nat)} {B : List Nat} (HT_ : Aside0 (rtab md ops = T)) (HW_ : Aside0 (waitsOk T.2 B = true)) (i : Nat) (N : Option Tmp) (l' : Array Bool) {oi : Oper} {v : Value} {fuel : Nat} {l : Array Bool} {a a' : Act} {w : World} (hS : S w) (h : wpAnyLast P md ops Q S ds fuel l' a' w)
    (hi : ops[i]? = some oi := by rfl) (hN : oi.dst = N := by rfl) (hc : takeW T B ds l.toList l'.toList i = true := by kernel_rfl) (hQ : ∀ c a w, Q (.panic c) (a.put oi.dst v) w → Q (.panic c) a w := by exact fun _ _ _ h => h) (hy : YieldsIf P ops S oi v a := by refine Or.inl ⟨by rfl, ?_⟩; rintro w' ⟨s0, s1, s2, s3, s4, s5, s6, s7⟩; go_simp; with_reducible rfl) (ha : a.put N v = a' := by simp only [Act.put, List.setIfInBounds_toArray, List.set_cons_zero, List.set_cons_succ, i64_w, i32_w]; rfl) : wpAnyLast P md ops Q S ds (fuel + 1) l a w := take_ l' hi hN (take_ofW HT_.out HW_.out hc) hQ hy hS ha h
theorem takeZ9 {P : Program} {ops : Array Oper} {Q : Exit → Act → World → Prop} {md : Region.Mode} {S : World → Prop} {ds : List Nat} {T : Bool × List (List Nat × List Nat)} {B : List Nat} (HT_ : Aside0 (rtab md ops = T)) (HW_ : Aside0 (waitsOk T.2 B = true)) (i : Nat) (N : Option Tmp) (l' : Array Bool) {oi : Oper} {v : Value} {fuel : Nat} {l : Array Bool} {a a' : Act} {w : World} (hS : S w) (h : wpAnyLast P md ops Q S ds fuel l' a' w)
    (hi : ops[i]? = some oi := by rfl) (hN : oi.dst = N := by rfl) (hc : takeW T B ds l.toList l'.toList i = true := by kernel_rfl) (hQ : ∀ c a w, Q (.panic c) (a.put oi.dst v) w → Q (.panic c) a w := by exact fun _ _ _ h => h) (hy : YieldsIf P ops S oi v a := by refine Or.inl ⟨by rfl, ?_⟩; rintro w' ⟨s0, s1, s2, s3, s4, s5, s6, s7, s8⟩; go_simp; with_reducible rfl) (ha : a.put N v = a' := by simp only [Act.put, List.setIfInBounds_toArray, List.set_cons_zero, List.set_cons_succ, i64_w, i32_w]; rfl) : wpAnyLast P md ops Q S ds (fuel + 1) l a w := take_ l' hi hN (take_ofW HT_.out HW_.out hc) hQ hy hS ha h
theorem takeZ10 {P : Program} {ops : Array Oper} {Q : Exit → Act → World → Prop} {md : Region.Mode} {S : World → Prop} {ds : List Nat} {T : Bool × List (List Nat × List Nat)} {B : List Nat} (HT_ : Aside0 (rtab md ops = T)) (HW_ : Aside0 (waitsOk T.2 B = true)) (i : Nat) (N : Option Tmp) (l' : Array Bool) {oi : Oper} {v : Value} {fuel : Nat} {l : Array Bool} {a a' : Act} {w : World} (hS : S w) (h : wpAnyLast P md ops Q S ds fuel l' a' w)
    (hi : ops[i]? = some oi := by rfl) (hN : oi.dst = N := by rfl) (hc : takeW T B ds l.toList l'.toList i = true := by kernel_rfl) (hQ : ∀ c a w, Q (.panic c) (a.put oi.dst v) w → Q (.panic c) a w := by exact fun _ _ _ h => h) (hy : YieldsIf P ops S oi v a := by refine Or.inl ⟨by rfl, ?_⟩; rintro w' ⟨s0, s1, s2, s3, s4, s5, s6, s7, s8, s9⟩; go_simp; with_reducible rfl) (ha : a.put N v = a' := by simp only [Act.put, List.setIfInBounds_toArray, List.set_cons_zero, List.set_cons_succ, i64_w, i32_w]; rfl) : wpAnyLast P md ops Q S ds (fuel + 1) l a w := take_ l' hi hN (take_ofW HT_.out HW_.out hc) hQ hy hS ha h
theorem takeZ11 {P : Program} {ops : Array Oper} {Q : Exit → Act → World → Prop} {md : Region.Mode} {S : World → Prop} {ds : List Nat} {T : Bool × List (List Nat × List Nat)} {B : List Nat} (HT_ : Aside0 (rtab md ops = T)) (HW_ : Aside0 (waitsOk T.2 B = true)) (i : Nat) (N : Option Tmp) (l' : Array Bool) {oi : Oper} {v : Value} {fuel : Nat} {l : Array Bool} {a a' : Act} {w : World} (hS : S w) (h : wpAnyLast P md ops Q S ds fuel l' a' w)
    (hi : ops[i]? = some oi := by rfl) (hN : oi.dst = N := by rfl) (hc : takeW T B ds l.toList l'.toList i = true := by kernel_rfl) (hQ : ∀ c a w, Q (.panic c) (a.put oi.dst v) w → Q (.panic c) a w := by exact fun _ _ _ h => h) (hy : YieldsIf P ops S oi v a := by refine Or.inl ⟨by rfl, ?_⟩; rintro w' ⟨s0, s1, s2, s3, s4, s5, s6, s7, s8, s9, s10⟩; go_simp; with_reducible rfl) (ha : a.put N v = a' := by simp only [Act.put, List.setIfInBounds_toArray, List.set_cons_zero, List.set_cons_succ, i64_w, i32_w]; rfl) : wpAnyLast P md ops Q S ds (fuel + 1) l a w := take_ l' hi hN (take_ofW HT_.out HW_.out hc) hQ hy hS ha h
theorem takeZ14 {P : Program} {ops : Array Oper} {Q : Exit → Act → World → Prop} {md : Region.Mode} {S : World → Prop} {ds : List Nat} {T : Bool × List (List Nat × List Nat)} {B : List Nat} (HT_ : Aside0 (rtab md ops = T)) (HW_ : Aside0 (waitsOk T.2 B = true)) (i : Nat) (N : Option Tmp) (l' : Array Bool) {oi : Oper} {v : Value} {fuel : Nat} {l : Array Bool} {a a' : Act} {w : World} (hS : S w) (h : wpAnyLast P md ops Q S ds fuel l' a' w)
    (hi : ops[i]? = some oi := by rfl) (hN : oi.dst = N := by rfl) (hc : takeW T B ds l.toList l'.toList i = true := by kernel_rfl) (hQ : ∀ c a w, Q (.panic c) (a.put oi.dst v) w → Q (.panic c) a w := by exact fun _ _ _ h => h) (hy : YieldsIf P ops S oi v a := by refine Or.inl ⟨by rfl, ?_⟩; rintro w' ⟨s0, s1, s2, s3, s4, s5, s6, s7, s8, s9, s10, s11, s12, s13⟩; go_simp; with_reducible rfl) (ha : a.put N v = a' := by simp only [Act.put, List.setIfInBounds_toArray, List.set_cons_zero, List.set_cons_succ, i64_w, i32_w]; rfl) : wpAnyLast P md ops Q S ds (fuel + 1) l a w := take_ l' hi hN (take_ofW HT_.out HW_.out hc) hQ hy hS ha h
theorem takeZ16 {P : Program} {ops : Array Oper} {Q : Exit → Act → World → Prop} {md : Region.Mode} {S : World → Prop} {ds : List Nat} {T : Bool × List (List Nat × List Nat)} {B : List Nat} (HT_ : Aside0 (rtab md ops = T)) (HW_ : Aside0 (waitsOk T.2 B = true)) (i : Nat) (N : Option Tmp) (l' : Array Bool) {oi : Oper} {v : Value} {fuel : Nat} {l : Array Bool} {a a' : Act} {w : World} (hS : S w) (h : wpAnyLast P md ops Q S ds fuel l' a' w)
    (hi : ops[i]? = some oi := by rfl) (hN : oi.dst = N := by rfl) (hc : takeW T B ds l.toList l'.toList i = true := by kernel_rfl) (hQ : ∀ c a w, Q (.panic c) (a.put oi.dst v) w → Q (.panic c) a w := by exact fun _ _ _ h => h) (hy : YieldsIf P ops S oi v a := by refine Or.inl ⟨by rfl, ?_⟩; rintro w' ⟨s0, s1, s2, s3, s4, s5, s6, s7, s8, s9, s10, s11, s12, s13, s14, s15⟩; go_simp; with_reducible rfl) (ha : a.put N v = a' := by simp only [Act.put, List.setIfInBounds_toArray, List.set_cons_zero, List.set_cons_succ, i64_w, i32_w]; rfl) : wpAnyLast P md ops Q S ds (fuel + 1) l a w := take_ l' hi hN (take_ofW HT_.out HW_.out hc) hQ hy hS ha h
theorem takeZ18 {P : Program} {ops : Array Oper} {Q : Exit → Act → World → Prop} {md : Region.Mode} {S : World → Prop} {ds : List Nat} {T : Bool × List (List Nat × List Nat)} {B : List Nat} (HT_ : Aside0 (rtab md ops = T)) (HW_ : Aside0 (waitsOk T.2 B = true)) (i : Nat) (N : Option Tmp) (l' : Array Bool) {oi : Oper} {v : Value} {fuel : Nat} {l : Array Bool} {a a' : Act} {w : World} (hS : S w) (h : wpAnyLast P md ops Q S ds fuel l' a' w)
    (hi : ops[i]? = some oi := by rfl) (hN : oi.dst = N := by rfl) (hc : takeW T B ds l.toList l'.toList i = true := by kernel_rfl) (hQ : ∀ c a w, Q (.panic c) (a.put oi.dst v) w → Q (.panic c) a w := by exact fun _ _ _ h => h) (hy : YieldsIf P ops S oi v a := by refine Or.inl ⟨by rfl, ?_⟩; rintro w' ⟨s0, s1, s2, s3, s4, s5, s6, s7, s8, s9, s10, s11, s12, s13, s14, s15, s16, s17⟩; go_simp; with_reducible rfl) (ha : a.put N v = a' := by simp only [Act.put, List.setIfInBounds_toArray, List.set_cons_zero, List.set_cons_succ, i64_w, i32_w]; rfl) : wpAnyLast P md ops Q S ds (fuel + 1) l a w := take_ l' hi hN (take_ofW HT_.out HW_.out hc) hQ hy hS ha h
theorem takeZ27 {P : Program} {ops : Array Oper} {Q : Exit → Act → World → Prop} {md : Region.Mode} {S : World → Prop} {ds : List Nat} {T : Bool × List (List Nat × List Nat)} {B : List Nat} (HT_ : Aside0 (rtab md ops = T)) (HW_ : Aside0 (waitsOk T.2 B = true)) (i : Nat) (N : Option Tmp) (l' : Array Bool) {oi : Oper} {v : Value} {fuel : Nat} {l : Array Bool} {a a' : Act} {w : World} (hS : S w) (h : wpAnyLast P md ops Q S ds fuel l' a' w)
    (hi : ops[i]? = some oi := by rfl) (hN : oi.dst = N := by rfl) (hc : takeW T B ds l.toList l'.toList i = true := by kernel_rfl) (hQ : ∀ c a w, Q (.panic c) (a.put oi.dst v) w → Q (.panic c) a w := by exact fun _ _ _ h => h) (hy : YieldsIf P ops S oi v a := by refine Or.inl ⟨by rfl, ?_⟩; rintro w' ⟨s0, s1, s2, s3, s4, s5, s6, s7, s8, s9, s10, s11, s12, s13, s14, s15, s16, s17, s18, s19, s20, s21, s22, s23, s24, s25, s26⟩; go_simp; with_reducible rfl) (ha : a.put N v = a' := by simp only [Act.put, List.setIfInBounds_toArray, List.set_cons_zero, List.set_cons_succ, i64_w, i32_w]; rfl) : wpAnyLast P md ops Q S ds (fuel + 1) l a w := take_ l' hi hN (take_ofW HT_.out HW_.out hc) hQ hy hS ha h
theorem ci2 {w : World} {g t : Nat} {a0 a1 : Value} (h : Aside0 (w.heap[g]? = some (.cells #[a0, a1] t (0, 0)))) {P : Prop} (k : w.cell? ⟨g, 0, none⟩ = some a0 → w.cell? ⟨g, 1, none⟩ = some a1 → w.frozen? ⟨g, 0, none⟩ = false → w.frozen? ⟨g, 1, none⟩ = false → P) : P := k ((blk_cell h.out 0).trans rfl) ((blk_cell h.out 1).trans rfl) (blk_frozen h.out 0) (blk_frozen h.out 1)
theorem ci3 {w : World} {g t : Nat} {a0 a1 a2 : Value} (h : Aside0 (w.heap[g]? = some (.cells #[a0, a1, a2] t (0, 0)))) {P : Prop} (k : w.cell? ⟨g, 0, none⟩ = some a0 → w.cell? ⟨g, 1, none⟩ = some a1 → w.cell? ⟨g, 2, none⟩ = some a2 → w.frozen? ⟨g, 0, none⟩ = false → w.frozen? ⟨g, 1, none⟩ = false → w.frozen? ⟨g, 2, none⟩ = false → P) : P := k ((blk_cell h.out 0).trans rfl) ((blk_cell h.out 1).trans rfl) ((blk_cell h.out 2).trans rfl) (blk_frozen h.out 0) (blk_frozen h.out 1) (blk_frozen h.out 2)
theorem ci4 {w : World} {g t : Nat} {a0 a1 a2 a3 : Value} (h : Aside0 (w.heap[g]? = some (.cells #[a0, a1, a2, a3] t (0, 0)))) {P : Prop} (k : w.cell? ⟨g, 0, none⟩ = some a0 → w.cell? ⟨g, 1, none⟩ = some a1 → w.cell? ⟨g, 2, none⟩ = some a2 → w.cell? ⟨g, 3, none⟩ = some a3 → w.frozen? ⟨g, 0, none⟩ = false → w.frozen? ⟨g, 1, none⟩ = false → w.frozen? ⟨g, 2, none⟩ = false → w.frozen? ⟨g, 3, none⟩ = false → P) : P := k ((blk_cell h.out 0).trans rfl) ((blk_cell h.out 1).trans rfl) ((blk_cell h.out 2).trans rfl) ((blk_cell h.out 3).trans rfl) (blk_frozen h.out 0) (blk_frozen h.out 1) (blk_frozen h.out 2) (blk_frozen h.out 3)
theorem ci9 {w : World} {g t : Nat} {a0 a1 a2 a3 a4 a5 a6 a7 a8 : Value} (h : Aside0 (w.heap[g]? = some (.cells #[a0, a1, a2, a3, a4, a5, a6, a7, a8] t (0, 0)))) {P : Prop} (k : w.cell? ⟨g, 0, none⟩ = some a0 → w.cell? ⟨g, 1, none⟩ = some a1 → w.cell? ⟨g, 2, none⟩ = some a2 → w.cell? ⟨g, 3, none⟩ = some a3 → w.cell? ⟨g, 4, none⟩ = some a4 → w.cell? ⟨g, 5, none⟩ = some a5 → w.cell? ⟨g, 6, none⟩ = some a6 → w.cell? ⟨g, 7, none⟩ = some a7 → w.cell? ⟨g, 8, none⟩ = some a8 → w.frozen? ⟨g, 0, none⟩ = false → w.frozen? ⟨g, 1, none⟩ = false → w.frozen? ⟨g, 2, none⟩ = false → w.frozen? ⟨g, 3, none⟩ = false → w.frozen? ⟨g, 4, none⟩ = false → w.frozen? ⟨g, 5, none⟩ = false → w.frozen? ⟨g, 6, none⟩ = false → w.frozen? ⟨g, 7, none⟩ = false → w.frozen? ⟨g, 8, none⟩ = false → P) : P := k ((blk_cell h.out 0).trans rfl) ((blk_cell h.out 1).trans rfl) ((blk_cell h.out 2).trans rfl) ((blk_cell h.out 3).trans rfl) ((blk_cell h.out 4).trans rfl) ((blk_cell h.out 5).trans rfl) ((blk_cell h.out 6).trans rfl) ((blk_cell h.out 7).trans rfl) ((blk_cell h.out 8).trans rfl) (blk_frozen h.out 0) (blk_frozen h.out 1) (blk_frozen h.out 2) (blk_frozen h.out 3) (blk_frozen h.out 4) (blk_frozen h.out 5) (blk_frozen h.out 6) (blk_frozen h.out 7) (blk_frozen h.out 8)
theorem Za {P : Prop} (h : P := by first | rfl | (simp; done) | (simp [*]; done)) : P := h
theorem Zb {P : Prop} (h : P := by repeat (first | exact Drawn0.refl _ | apply Drawn0.step)) : P := h
theorem Zc {P : Prop} (h : P := by first | (with_reducible assumption) | assumption) : P := h
theorem Zd {P : Prop} (h : P := by have := HK1.out; omega) : P := h
theorem Ze {P : Prop} (h : P := by rw [hg]; exact (below_size (by repeat (first | (with_reducible first | exact HB.out | apply below_alloc | apply pw_below_drewN | apply below_drew1) | exact HB.out)))) : P := h
theorem Zf {P : Prop} (h : P := by repeat (first | (with_reducible first | exact HB.out | apply below_alloc | apply pw_below_drewN | apply below_drew1) | exact HB.out)) : P := h
theorem Zg {p0 P : Prop} (z0_ : p0) (h : p0 → P := by intro z0_; rw [hg]; exact (below_size (by repeat (first | (with_reducible first | exact HB.out | apply below_alloc | apply pw_below_drewN | apply below_drew1 | refine below_set ?_ z0_.out) | exact HB.out)))) : P := h z0_
theorem Zh {p0 P : Prop} (z0_ : p0) (h : p0 → P := by intro z0_; repeat (first | (with_reducible first | exact HB.out | apply below_alloc | apply pw_below_drewN | apply below_drew1 | refine below_set ?_ z0_.out) | exact HB.out)) : P := h z0_
theorem Zi {p0 P : Prop} (z0_ : p0) (h : p0 → P := by intro z0_; repeat (first | exact (Kd.C_below z0_.out HB.out) | (with_reducible refine Kd.C_alloc ?_ _) | (with_reducible refine Kd.C_drewN ?_ _) | (with_reducible refine Kd.C_drew ?_))) : P := h z0_
theorem Zj {p0 p1 p2 P : Prop} (z0_ : p0) (z1_ : p1) (z2_ : p2) (h : p0 → p1 → p2 → P := by intro z0_ z1_ z2_; repeat (first | exact (Kd.C_below z0_.out (by repeat (first | (with_reducible first | exact HB.out | apply below_alloc | apply pw_below_drewN | apply below_drew1 | refine below_set ?_ z1_.out | refine below_set ?_ z2_.out) | exact HB.out))) | (with_reducible refine Kd.C_alloc ?_ _) | (with_reducible refine Kd.C_drewN ?_ _) | (with_reducible refine Kd.C_drew ?_))) : P := h z0_ z1_ z2_
theorem Zk {p0 p1 P : Prop} (z0_ : p0) (z1_ : p1) (h : p0 → p1 → P := by intro z0_ z1_; repeat (first | (with_reducible first | exact HB.out | apply below_alloc | apply pw_below_drewN | apply below_drew1 | refine below_set ?_ z0_.out | refine below_set ?_ z1_.out) | exact HB.out)) : P := h z0_ z1_
theorem Zl {P : Prop} (h : P := by first | rfl | (simp [errW_none, errW_some] <;> rfl) | (simp [*, errW_none, errW_some] <;> rfl)) : P := h
theorem Zm {P : Prop} (h : P := by kernel_rfl) : P := h
theorem Zn {P : Prop} (h : P := by (try simp only [List.map_toArray, List.map_cons, List.map_nil]); first | done | rfl | (simp only [List.length_drop, List.length_take]; rfl)) : P := h
theorem Zo {p0 p1 P : Prop} (z0_ : p0) (z1_ : p1) (h : p0 → p1 → P := by intro z0_ z1_; repeat (first | exact (Kd.C_below z0_.out (by repeat (first | (with_reducible first | exact HB.out | apply below_alloc | apply pw_below_drewN | apply below_drew1 | refine below_set ?_ z1_.out) | exact HB.out))) | (with_reducible refine Kd.C_alloc ?_ _) | (with_reducible refine Kd.C_drewN ?_ _) | (with_reducible refine Kd.C_drew ?_))) : P := h z0_ z1_
theorem Zp {P : Prop} (h : P := by first | omega | exact Nat.le_refl _) : P := h
theorem Zq {p0 P : Prop} (z0_ : p0) (h : p0 → P := by intro z0_; (with_reducible repeat (first | refine blk_drewN ?_ _ | refine blk_drew ?_ | refine blk_alloc ?_ _)); exact z0_.out) : P := h z0_
theorem Zr {p0 P : Prop} (z0_ : p0) (h : p0 → P := by intro z0_; (with_reducible repeat (first | apply Kd.R_alloc | apply Kd.R_drewN | apply Kd.R_drew)); exact z0_.out) : P := h z0_
theorem Zs {P : Prop} (h : P := by have := HK1.out; have := HK2.out; omega) : P := h
theorem Zt {p0 P : Prop} (z0_ : p0) (h : p0 → P := by intro z0_; repeat (first | (with_reducible exact z0_.out) | (with_reducible refine Kd.C_alloc ?_ _) | (with_reducible refine Kd.C_drewN ?_ _) | (with_reducible refine Kd.C_drew ?_) | exact z0_.out)) : P := h z0_
theorem Zu {p0 P : Prop} (z0_ : p0) (h : p0 → P := by intro z0_; (with_reducible repeat (first | apply Kd.R_alloc | apply Kd.R_drewN | apply Kd.R_drew)); exact Kd.R_mono z0_.out (fun _ hk => hk.2)) : P := h z0_
theorem Zv {P : Prop} (h : P := by simp only [putAll, Act.put, List.setIfInBounds_toArray, List.set_cons_zero, List.set_cons_succ]) : P := h
theorem Zw {p0 P : Prop} (z0_ : p0) (h : p0 → P := by intro z0_; (with_reducible repeat (first | apply Kd.R_alloc | apply Kd.R_drewN | apply Kd.R_drew)); exact Kd.R_mono z0_.out (fun _ hk => ⟨hk.2, hk.1⟩)) : P := h z0_
theorem Zx {p0 P : Prop} (z0_ : p0) (h : p0 → P := by intro z0_; (with_reducible repeat (first | apply Kd.R_alloc | apply Kd.R_drewN | apply Kd.R_drew)); exact Kd.R_mono z0_.out (fun _ hk => ⟨hk.2, hk.1.2⟩)) : P := h z0_
theorem Zy {p0 P : Prop} (z0_ : p0) (h : p0 → P := by intro z0_; (with_reducible repeat (first | apply Kd.R_alloc | apply Kd.R_drewN | apply Kd.R_drew)); exact Kd.R_mono z0_.out (fun _ hk => ⟨hk.1.2, hk.2⟩)) : P := h z0_
theorem Zz {p0 P : Prop} (z0_ : p0) (h : p0 → P := by intro z0_; (with_reducible repeat (first | apply Kd.R_alloc | apply Kd.R_drewN | apply Kd.R_drew)); exact Kd.R_mono z0_.out (fun _ hk => trivial)) : P := h z0_
theorem Zaa {p0 P : Prop} (z0_ : p0) (h : p0 → P := by intro z0_; repeat (first | exact (Kd.R_reads' z0_.out).2.2 | (with_reducible refine Kd.C_alloc ?_ _) | (with_reducible refine Kd.C_drewN ?_ _) | (with_reducible refine Kd.C_drew ?_))) : P := h z0_
theorem Zab {P : Prop} (h : P := by first | exact Kd.R_nil _ _ _ _ _ | exact Kd.N_nil _ _ _ _ _ | exact Kd.V_nil _ _ _ _ _ | exact Kd.Q_nil _ _ _ _ _ | exact Kd.S_nil _ _ _ _ _) : P := h
theorem Zac {p0 p1 p2 p3 p4 p5 p6 p7 p8 p9 p10 P : Prop} (z0_ : p0) (z1_ : p1) (z2_ : p2) (z3_ : p3) (z4_ : p4) (z5_ : p5) (z6_ : p6) (z7_ : p7) (z8_ : p8) (z9_ : p9) (z10_ : p10) (h : p0 → p1 → p2 → p3 → p4 → p5 → p6 → p7 → p8 → p9 → p10 → P := by intro z0_ z1_ z2_ z3_ z4_ z5_ z6_ z7_ z8_ z9_ z10_; exact ⟨(blk_cell z0_.out 0).trans rfl, (blk_cell z0_.out 1).trans rfl, (blk_cell z0_.out 2).trans rfl, (blk_cell z1_.out 0).trans rfl, (blk_cell z1_.out 1).trans rfl, (blk_cell z1_.out 2).trans rfl, (blk_cell z1_.out 3).trans rfl, (cbH HB z2_ :), (cbH HB z3_ :), (cbH HB z4_ :), (cbH HB z5_ :), (cbH HB z6_ :), (cbH HB z7_ :), (cbH HB z8_ :), (cbH HB z9_ :), (cbH HB z10_ :)⟩) : P := h z0_ z1_ z2_ z3_ z4_ z5_ z6_ z7_ z8_ z9_ z10_
theorem Zad {p0 P : Prop} (z0_ : p0) (h : p0 → P := by intro z0_; refine blk_put (cs := #[.string ((rd_T61 l0 x10_1).f0), .int .i64 ((rd_T61 l0 x10_1).f1), .int .i64 ((rd_T61 l0 x10_1).f2), .int .i64 ((rd_T61 l0 x10_1).f3), .int .i64 ((rd_T61 l0 x10_1).f4), .int .i64 ((rd_T61 l0 x10_1).f5), .int .i64 ((rd_T61 l0 x10_1).f6), .int .i64 ((rd_T61 l0 x10_1).f7), .int .i64 0]) ?_ 8 _ rfl; refine blk_put (cs := #[.string ((rd_T61 l0 x10_1).f0), .int .i64 ((rd_T61 l0 x10_1).f1), .int .i64 ((rd_T61 l0 x10_1).f2), .int .i64 ((rd_T61 l0 x10_1).f3), .int .i64 ((rd_T61 l0 x10_1).f4), .int .i64 ((rd_T61 l0 x10_1).f5), .int .i64 ((rd_T61 l0 x10_1).f6), .int .i64 0, .int .i64 0]) ?_ 7 _ rfl; refine blk_put (cs := #[.string ((rd_T61 l0 x10_1).f0), .int .i64 ((rd_T61 l0 x10_1).f1), .int .i64 ((rd_T61 l0 x10_1).f2), .int .i64 ((rd_T61 l0 x10_1).f3), .int .i64 ((rd_T61 l0 x10_1).f4), .int .i64 ((rd_T61 l0 x10_1).f5), .int .i64 0, .int .i64 0, .int .i64 0]) ?_ 6 _ rfl; refine blk_put (cs := #[.string ((rd_T61 l0 x10_1).f0), .int .i64 ((rd_T61 l0 x10_1).f1), .int .i64 ((rd_T61 l0 x10_1).f2), .int .i64 ((rd_T61 l0 x10_1).f3), .int .i64 ((rd_T61 l0 x10_1).f4), .int .i64 0, .int .i64 0, .int .i64 0, .int .i64 0]) ?_ 5 _ rfl; refine blk_put (cs := #[.string ((rd_T61 l0 x10_1).f0), .int .i64 ((rd_T61 l0 x10_1).f1), .int .i64 ((rd_T61 l0 x10_1).f2), .int .i64 ((rd_T61 l0 x10_1).f3), .int .i64 0, .int .i64 0, .int .i64 0, .int .i64 0, .int .i64 0]) ?_ 4 _ rfl; refine blk_put (cs := #[.string ((rd_T61 l0 x10_1).f0), .int .i64 ((rd_T61 l0 x10_1).f1), .int .i64 ((rd_T61 l0 x10_1).f2), .int .i64 0, .int .i64 0, .int .i64 0, .int .i64 0, .int .i64 0, .int .i64 0]) ?_ 3 _ rfl; refine blk_put (cs := #[.string ((rd_T61 l0 x10_1).f0), .int .i64 ((rd_T61 l0 x10_1).f1), .int .i64 0, .int .i64 0, .int .i64 0, .int .i64 0, .int .i64 0, .int .i64 0, .int .i64 0]) ?_ 2 _ rfl; refine blk_put (cs := #[.string ((rd_T61 l0 x10_1).f0), .int .i64 0, .int .i64 0, .int .i64 0, .int .i64 0, .int .i64 0, .int .i64 0, .int .i64 0, .int .i64 0]) ?_ 1 _ rfl; refine blk_put (cs := #[.string (⟨#[]⟩ : ByteArray), .int .i64 0, .int .i64 0, .int .i64 0, .int .i64 0, .int .i64 0, .int .i64 0, .int .i64 0, .int .i64 0]) ?_ 0 _ rfl; exact z0_.out) : P := h z0_
theorem Zae {p0 P : Prop} (z0_ : p0) (h : p0 → P := by intro z0_; exact ⟨(blk_cell z0_.out 0).trans rfl, (blk_cell z0_.out 1).trans rfl, (blk_cell z0_.out 2).trans rfl, (blk_cell z0_.out 3).trans rfl, (blk_cell z0_.out 4).trans rfl, (blk_cell z0_.out 5).trans rfl, (blk_cell z0_.out 6).trans rfl, (blk_cell z0_.out 7).trans rfl, (blk_cell z0_.out 8).trans rfl⟩) : P := h z0_
theorem Zaf {p0 p1 P : Prop} (z0_ : p0) (z1_ : p1) (h : p0 → p1 → P := by intro z0_ z1_; (with_reducible repeat (first | apply Kd.R_alloc | apply Kd.R_drewN | apply Kd.R_drew)); exact (Kd.R_mono (rfZ (Kd.R_types z0_.out z1_.out (by decide))) (fun _ h_ => h_.1))) : P := h z0_ z1_
theorem Zag {p0 P : Prop} (z0_ : p0) (h : p0 → P := by intro z0_; (try simp only [hl4_1]); (with_reducible repeat (first | apply Kd.R_alloc | apply Kd.R_drewN | apply Kd.R_drew)); exact z0_.out) : P := h z0_
theorem Zah {p0 P : Prop} (z0_ : p0) (h : p0 → P := by intro z0_; (try simp only [hl4_1]); (with_reducible repeat (first | refine blk_drewN ?_ _ | refine blk_drew ?_ | refine blk_alloc ?_ _)); exact z0_.out) : P := h z0_
theorem Zai {p0 P : Prop} (z0_ : p0) (h : p0 → P := by intro z0_; (with_reducible repeat (first | apply Kd.R_alloc | apply Kd.R_drewN | apply Kd.R_drew)); exact Kd.R_mono z0_.out (fun _ hk => ⟨trivial, hk⟩)) : P := h z0_
theorem Zaj {p0 P : Prop} (z0_ : p0) (h : p0 → P := by intro z0_; repeat (first | (with_reducible first | exact HBW.out | apply below_alloc | apply pw_below_drewN | apply below_drew1 | refine below_set ?_ z0_.out) | exact HBW.out)) : P := h z0_
theorem Zak {P : Prop} (h : P := by repeat (first | (with_reducible first | exact HI0.out | apply IsS116.alloc | apply IsS116.drewN | apply IsS116.drew | apply IsS116.set_1 | apply IsS116.set_2) | exact HI0.out)) : P := h
theorem Zal {P : Prop} (h : P := by repeat (first | (with_reducible first | exact HB.out | apply below_alloc | apply pw_below_drewN | apply below_drew1 | refine below_set ?_ (IsS116.ge HI0.out)) | exact HB.out)) : P := h
theorem Zam {P : Prop} (h : P := by repeat (first | (with_reducible first | exact HK.out | apply KeepBut.set_ | apply keep_drewN | apply keep_drew | apply keep_alloc) | exact HK.out)) : P := h
theorem Zan {p0 P : Prop} (z0_ : p0) (h : p0 → P := by intro z0_; have := World.block_lt_of_cell? _ _ z0_; first | rwa [add_block] at this | exact this) : P := h z0_
theorem Zao {P : Prop} (h : P := by first | (rw [add_block]; exact hn307_0) | (show (Addr.add _ _).block ≠ _; rw [add_block]; exact hn307_0) | exact hn307_0) : P := h
theorem Zap {P : Prop} (h : P := by rw [hg]; exact (keep_size (w := w) (g := g) (row := none) (by repeat (first | (with_reducible first | exact HK.out | apply KeepBut.set_ | apply keep_drewN | apply keep_drew | apply keep_alloc) | exact HK.out)))) : P := h
theorem Zaq {P : Prop} (h : P := by rw [hg]; exact Nat.ne_of_lt (IsS116.lt (show IsS116 w0 _ g s0_0 s0_1 s0_2 from (by repeat (first | (with_reducible first | exact HI0.out | apply IsS116.alloc | apply IsS116.drewN | apply IsS116.drew | apply IsS116.set_1 | apply IsS116.set_2) | exact HI0.out))))) : P := h
theorem Zar {P : Prop} (h : P := by rw [hg]; exact Nat.ne_of_gt (IsS116.lt (show IsS116 w0 _ g s0_0 s0_1 s0_2 from (by repeat (first | (with_reducible first | exact HI0.out | apply IsS116.alloc | apply IsS116.drewN | apply IsS116.drew | apply IsS116.set_1 | apply IsS116.set_2) | exact HI0.out))))) : P := h
theorem Zas {p0 P : Prop} (z0_ : p0) (h : p0 → P := by intro z0_; repeat (first | (with_reducible first | exact HI0.out | apply IsS116.alloc | apply IsS116.drewN | apply IsS116.drew | apply IsS116.set_1 | apply IsS116.set_2 | refine IsS116.far ?_ z0_.out _) | exact HI0.out)) : P := h z0_
theorem Zat {p0 P : Prop} (z0_ : p0) (h : p0 → P := by intro z0_; repeat (first | (with_reducible first | exact HB.out | apply below_alloc | apply pw_below_drewN | apply below_drew1 | refine below_set ?_ (IsS116.ge HI0.out) | refine below_set ?_ z0_.out) | exact HB.out)) : P := h z0_
theorem Zau {p0 P : Prop} (z0_ : p0) (h : p0 → P := by intro z0_; repeat (first | (with_reducible first | exact HK.out | apply KeepBut.set_ | apply keep_drewN | apply keep_drew | apply keep_alloc | refine keep_far ?_ z0_.out _) | exact HK.out)) : P := h z0_
theorem Zav {p0 P : Prop} (z0_ : p0) (h : p0 → P := by intro z0_; rw [hg]; exact (keep_size (w := w) (g := g) (row := none) (by repeat (first | (with_reducible first | exact HK.out | apply KeepBut.set_ | apply keep_drewN | apply keep_drew | apply keep_alloc | refine keep_far ?_ z0_.out _) | exact HK.out)))) : P := h z0_
theorem Zaw {p0 P : Prop} (z0_ : p0) (h : p0 → P := by intro z0_; rw [hg]; exact Nat.ne_of_lt (IsS116.lt (show IsS116 w0 _ g s0_0 t354 t355 from (by repeat (first | (with_reducible first | exact HI0.out | apply IsS116.alloc | apply IsS116.drewN | apply IsS116.drew | apply IsS116.set_1 | apply IsS116.set_2 | refine IsS116.far ?_ z0_.out _) | exact HI0.out))))) : P := h z0_
theorem Zax {p0 P : Prop} (z0_ : p0) (h : p0 → P := by intro z0_; rw [hg]; exact Nat.ne_of_gt (IsS116.lt (show IsS116 w0 _ g s0_0 t354 t355 from (by repeat (first | (with_reducible first | exact HI0.out | apply IsS116.alloc | apply IsS116.drewN | apply IsS116.drew | apply IsS116.set_1 | apply IsS116.set_2 | refine IsS116.far ?_ z0_.out _) | exact HI0.out))))) : P := h z0_
theorem Zay {p0 p1 P : Prop} (z0_ : p0) (z1_ : p1) (h : p0 → p1 → P := by intro z0_ z1_; repeat (first | (with_reducible first | exact HI0.out | apply IsS116.alloc | apply IsS116.drewN | apply IsS116.drew | apply IsS116.set_1 | apply IsS116.set_2 | refine IsS116.far ?_ z0_.out _ | refine IsS116.far ?_ z1_.out _) | exact HI0.out)) : P := h z0_ z1_
theorem Zaz {p0 p1 P : Prop} (z0_ : p0) (z1_ : p1) (h : p0 → p1 → P := by intro z0_ z1_; repeat (first | (with_reducible first | exact HB.out | apply below_alloc | apply pw_below_drewN | apply below_drew1 | refine below_set ?_ (IsS116.ge HI0.out) | refine below_set ?_ z0_.out | refine below_set ?_ z1_.out) | exact HB.out)) : P := h z0_ z1_
theorem Zba {p0 p1 P : Prop} (z0_ : p0) (z1_ : p1) (h : p0 → p1 → P := by intro z0_ z1_; repeat (first | (with_reducible first | exact HK.out | apply KeepBut.set_ | apply keep_drewN | apply keep_drew | apply keep_alloc | refine keep_far ?_ z0_.out _ | refine keep_far ?_ z1_.out _) | exact HK.out)) : P := h z0_ z1_
theorem Zbb {P : Prop} (h : P := by simp only [List.setIfInBounds_toArray, List.set_cons_zero, List.set_cons_succ]) : P := h
theorem Zbc {p0 P : Prop} (z0_ : p0) (h : p0 → P := by intro z0_; exact ⟨(blk_cell z0_.out 0).trans rfl, (blk_cell z0_.out 1).trans rfl, (blk_cell z0_.out 2).trans rfl⟩) : P := h z0_
theorem Zbd {P : Prop} (h : P := by first | (simp only [putAll, Act.put, List.setIfInBounds_toArray, List.set_cons_zero, List.set_cons_succ]; done) | (simp only [putAll, Act.put, List.setIfInBounds_toArray, List.set_cons_zero, List.set_cons_succ]; rfl)) : P := h
theorem Zbe {p0 p1 P : Prop} (z0_ : p0) (z1_ : p1) (h : p0 → p1 → P := by intro z0_ z1_; (with_reducible repeat (first | apply Kd.R_alloc | apply Kd.R_drewN | apply Kd.R_drew)); exact Kd.R_mono (rfZ (Kd.R_types z0_.out z1_.out (by decide))) (fun _ hk => trivial)) : P := h z0_ z1_
theorem Zbf {p0 P : Prop} (z0_ : p0) (h : p0 → P := by intro z0_; rw [hg]; exact Nat.ne_of_lt (blk_lt (g := gb383) (b0Z z0_))) : P := h z0_
theorem Zbg {p0 P : Prop} (z0_ : p0) (h : p0 → P := by intro z0_; rw [hg]; exact Nat.ne_of_gt (blk_lt (g := gb383) (b0Z z0_))) : P := h z0_
theorem Zbh {p0 P : Prop} (z0_ : p0) (h : p0 → P := by intro z0_; rw [hg]; exact Nat.ne_of_lt (blk_lt (g := gb384) (b0Z z0_))) : P := h z0_
theorem Zbi {p0 P : Prop} (z0_ : p0) (h : p0 → P := by intro z0_; rw [hg]; exact Nat.ne_of_gt (blk_lt (g := gb384) (b0Z z0_))) : P := h z0_
theorem Zbj {p0 p1 p2 P : Prop} (z0_ : p0) (z1_ : p1) (z2_ : p2) (h : p0 → p1 → p2 → P := by intro z0_ z1_ z2_; repeat (first | (with_reducible first | exact HB.out | apply below_alloc | apply pw_below_drewN | apply below_drew1 | refine below_set ?_ z0_.out | refine below_set ?_ z1_.out | refine below_set ?_ z2_.out) | exact HB.out)) : P := h z0_ z1_ z2_
theorem Zbk {p0 p1 P : Prop} (z0_ : p0) (z1_ : p1) (h : p0 → p1 → P := by intro z0_ z1_; exact ⟨(blk_cell z0_.out 0).trans rfl, (blk_cell z0_.out 1).trans rfl, (blk_cell z0_.out 2).trans rfl, (blk_cell z1_.out 0).trans rfl, (blk_cell z1_.out 1).trans rfl, (blk_cell z1_.out 2).trans rfl, (blk_cell z1_.out 3).trans rfl⟩) : P := h z0_ z1_
theorem Zbl {p0 p1 p2 P : Prop} (z0_ : p0) (z1_ : p1) (z2_ : p2) (h : p0 → p1 → p2 → P := by intro z0_ z1_ z2_; rw [hg]; exact (below_size (by repeat (first | (with_reducible first | exact HB.out | apply below_alloc | apply pw_below_drewN | apply below_drew1 | refine below_set ?_ z0_.out | refine below_set ?_ z1_.out | refine below_set ?_ z2_.out) | exact HB.out)))) : P := h z0_ z1_ z2_
theorem Zbm {p0 P : Prop} (z0_ : p0) (h : p0 → P := by intro z0_; rw [hg]; exact Nat.ne_of_lt (blk_lt (g := gb385) (b0Z z0_))) : P := h z0_
theorem Zbn {p0 P : Prop} (z0_ : p0) (h : p0 → P := by intro z0_; rw [hg]; exact Nat.ne_of_gt (blk_lt (g := gb385) (b0Z z0_))) : P := h z0_
theorem Zbo {p0 p1 p2 p3 P : Prop} (z0_ : p0) (z1_ : p1) (z2_ : p2) (z3_ : p3) (h : p0 → p1 → p2 → p3 → P := by intro z0_ z1_ z2_ z3_; repeat (first | (with_reducible first | exact HB.out | apply below_alloc | apply pw_below_drewN | apply below_drew1 | refine below_set ?_ z0_.out | refine below_set ?_ z1_.out | refine below_set ?_ z2_.out | refine below_set ?_ z3_.out) | exact HB.out)) : P := h z0_ z1_ z2_ z3_
theorem Zbp {p0 P : Prop} (z0_ : p0) (h : p0 → P := by intro z0_; (with_reducible repeat (first | apply Kd.R_alloc | apply Kd.R_drewN | apply Kd.R_drew)); exact Kd.R_mono z0_.out (fun _ hk => ⟨hk.1.1, ⟨hk.2, hk.1.2⟩⟩)) : P := h z0_
theorem Zbq {p0 P : Prop} (z0_ : p0) (h : p0 → P := by intro z0_; rw [hg]; exact Nat.ne_of_lt (blk_lt (g := gb410) (b0Z z0_))) : P := h z0_
theorem Zbr {p0 P : Prop} (z0_ : p0) (h : p0 → P := by intro z0_; rw [hg]; exact Nat.ne_of_gt (blk_lt (g := gb410) (b0Z z0_))) : P := h z0_
theorem Zbs {p0 p1 P : Prop} (z0_ : p0) (z1_ : p1) (h : p0 → p1 → P := by intro z0_ z1_; rw [hg]; exact (keep_size (w := w) (g := g) (row := none) (by repeat (first | (with_reducible first | exact HK.out | apply KeepBut.set_ | apply keep_drewN | apply keep_drew | apply keep_alloc | refine keep_far ?_ z0_.out _ | refine keep_far ?_ z1_.out _) | exact HK.out)))) : P := h z0_ z1_
theorem Zbt {p0 P : Prop} (z0_ : p0) (h : p0 → P := by intro z0_; rw [hg]; exact Nat.ne_of_lt (blk_lt (g := gb422) (b0Z z0_))) : P := h z0_
theorem Zbu {p0 P : Prop} (z0_ : p0) (h : p0 → P := by intro z0_; rw [hg]; exact Nat.ne_of_gt (blk_lt (g := gb422) (b0Z z0_))) : P := h z0_
theorem Zbv {p0 p1 p2 P : Prop} (z0_ : p0) (z1_ : p1) (z2_ : p2) (h : p0 → p1 → p2 → P := by intro z0_ z1_ z2_; repeat (first | (with_reducible first | exact HK.out | apply KeepBut.set_ | apply keep_drewN | apply keep_drew | apply keep_alloc | refine keep_far ?_ z0_.out _ | refine keep_far ?_ z1_.out _ | refine keep_far ?_ z2_.out _) | exact HK.out)) : P := h z0_ z1_ z2_
theorem Zbw {p0 P : Prop} (z0_ : p0) (h : p0 → P := by intro z0_; (with_reducible repeat (first | apply Kd.R_alloc | apply Kd.R_drewN | apply Kd.R_drew)); exact (Kd.R_mono (rfZ (Kd.R_mono z0_.out (fun k_ hk => (⟨hk, hk.2⟩ : _ ∧ k_ ≠ gb441)))) (fun _ h_ => h_.1))) : P := h z0_
theorem Zbx {p0 p1 p2 P : Prop} (z0_ : p0) (z1_ : p1) (z2_ : p2) (h : p0 → p1 → p2 → P := by intro z0_ z1_ z2_; repeat (first | (with_reducible first | exact HB.out | apply below_alloc | apply pw_below_drewN | apply below_drew1 | refine below_set ?_ (IsS116.ge HI0.out) | refine below_set ?_ z0_.out | refine below_set ?_ z1_.out | refine below_set ?_ z2_.out) | exact HB.out)) : P := h z0_ z1_ z2_
theorem Zby {p0 p1 p2 P : Prop} (z0_ : p0) (z1_ : p1) (z2_ : p2) (h : p0 → p1 → p2 → P := by intro z0_ z1_ z2_; repeat (first | (with_reducible first | exact HI0.out | apply IsS116.alloc | apply IsS116.drewN | apply IsS116.drew | apply IsS116.set_1 | apply IsS116.set_2 | refine IsS116.far ?_ z0_.out _ | refine IsS116.far ?_ z1_.out _ | refine IsS116.far ?_ z2_.out _) | exact HI0.out)) : P := h z0_ z1_ z2_
theorem Zbz {p0 p1 P : Prop} (z0_ : p0) (z1_ : p1) (h : p0 → p1 → P := by intro z0_ z1_; (with_reducible repeat (first | refine blk_drewN ?_ _ | refine blk_drew ?_ | refine blk_alloc ?_ _)); refine blk_far ?_ z0_.out _; (with_reducible repeat (first | refine blk_drewN ?_ _ | refine blk_drew ?_ | refine blk_alloc ?_ _)); exact z1_.out) : P := h z0_ z1_
theorem Zca {p0 P : Prop} (z0_ : p0) (h : p0 → P := by intro z0_; first | (rw [add_block]; exact Kd.own_blk (IsS116.own_ne HI0.out z0_.out (by decide))) | (show (Addr.add _ _).block ≠ _; rw [add_block]; exact Kd.own_blk (IsS116.own_ne HI0.out z0_.out (by decide))) | exact Kd.own_blk (IsS116.own_ne HI0.out z0_.out (by decide))) : P := h z0_
theorem Zcb {p0 P : Prop} (z0_ : p0) (h : p0 → P := by intro z0_; exact ⟨(blk_cell z0_.out 0).trans rfl, (blk_cell z0_.out 1).trans rfl, (blk_cell z0_.out 2).trans rfl, HS3_, HS4_, HS5_, HS6_, HS7_, HS8_, HS9_, HS10_, HS11_, HS12_, HS13_⟩) : P := h z0_
theorem Zcc {p0 p1 P : Prop} (z0_ : p0) (z1_ : p1) (h : p0 → p1 → P := by intro z0_ z1_; first | exact Kd.own_blk (Kd.R_ne z0_.out z1_.out (by decide)) | (rw [add_block]; exact Kd.own_blk (Kd.R_ne z0_.out z1_.out (by decide))) | (show (Addr.add _ _).block ≠ _; rw [add_block]; exact Kd.own_blk (Kd.R_ne z0_.out z1_.out (by decide))) | (dsimp only; exact Kd.own_blk (Kd.R_ne z0_.out z1_.out (by decide)))) : P := h z0_ z1_
theorem Zcd {p0 P : Prop} (z0_ : p0) (h : p0 → P := by intro z0_; (with_reducible repeat (first | apply Kd.R_alloc | apply Kd.R_drewN | apply Kd.R_drew)); exact (Kd.R_mono (rfZ (Kd.R_mono z0_.out (fun k_ hk => (⟨hk, hk⟩ : _ ∧ k_ ≠ gb462)))) (fun _ h_ => h_.1))) : P := h z0_
theorem Zce {p0 p1 p2 P : Prop} (z0_ : p0) (z1_ : p1) (z2_ : p2) (h : p0 → p1 → p2 → P := by intro z0_ z1_ z2_; rw [hg]; exact (keep_size (w := w) (g := g) (row := none) (by repeat (first | (with_reducible first | exact HK.out | apply KeepBut.set_ | apply keep_drewN | apply keep_drew | apply keep_alloc | refine keep_far ?_ z0_.out _ | refine keep_far ?_ z1_.out _ | refine keep_far ?_ z2_.out _) | exact HK.out)))) : P := h z0_ z1_ z2_
theorem Zcf {p0 p1 p2 P : Prop} (z0_ : p0) (z1_ : p1) (z2_ : p2) (h : p0 → p1 → p2 → P := by intro z0_ z1_ z2_; rw [hg]; exact Nat.ne_of_lt (IsS116.lt (show IsS116 w0 _ g s0_0 t460 t461 from (by repeat (first | (with_reducible first | exact HI0.out | apply IsS116.alloc | apply IsS116.drewN | apply IsS116.drew | apply IsS116.set_1 | apply IsS116.set_2 | refine IsS116.far ?_ z0_.out _ | refine IsS116.far ?_ z1_.out _ | refine IsS116.far ?_ z2_.out _) | exact HI0.out))))) : P := h z0_ z1_ z2_
theorem Zcg {p0 p1 p2 P : Prop} (z0_ : p0) (z1_ : p1) (z2_ : p2) (h : p0 → p1 → p2 → P := by intro z0_ z1_ z2_; rw [hg]; exact Nat.ne_of_gt (IsS116.lt (show IsS116 w0 _ g s0_0 t460 t461 from (by repeat (first | (with_reducible first | exact HI0.out | apply IsS116.alloc | apply IsS116.drewN | apply IsS116.drew | apply IsS116.set_1 | apply IsS116.set_2 | refine IsS116.far ?_ z0_.out _ | refine IsS116.far ?_ z1_.out _ | refine IsS116.far ?_ z2_.out _) | exact HI0.out))))) : P := h z0_ z1_ z2_
theorem Zch {p0 p1 p2 P : Prop} (z0_ : p0) (z1_ : p1) (z2_ : p2) (h : p0 → p1 → p2 → P := by intro z0_ z1_ z2_; (with_reducible repeat (first | apply Kd.R_alloc | apply Kd.R_drewN | apply Kd.R_drew)); exact Kd.R_mono (Kd.R_far (p := ⟨gb422, 2, none⟩) (Kd.R_far (p := ⟨gb422, 1, none⟩) (Kd.R_far (p := ⟨gb422, 0, none⟩) (Kd.R_far (p := ⟨gb473, 2, none⟩) (Kd.R_far (p := ⟨gb473, 1, none⟩) (Kd.R_far (p := ⟨gb473, 0, none⟩) (Kd.R_types (Kd.R_types z0_.out z1_.out (by decide)) z2_.out (by decide)) (fun _ hk => hk.1.2) (.slice Ao85 t463.length co85)) (fun _ hk => hk.1.2) (.slice Ao91 t466.length co91)) (fun _ hk => hk.1.2) (.slice Ao92 t469.length co92)) (fun _ hk => hk.2) (.slice Ao85 t463.length co85)) (fun _ hk => hk.2) (.slice Ao91 t466.length co91)) (fun _ hk => hk.2) (.slice Ao92 t469.length co92)) (fun _ hk => trivial)) : P := h z0_ z1_ z2_
theorem Zci {p0 p1 p2 p3 P : Prop} (z0_ : p0) (z1_ : p1) (z2_ : p2) (z3_ : p3) (h : p0 → p1 → p2 → p3 → P := by intro z0_ z1_ z2_ z3_; repeat (first | (with_reducible first | exact HI0.out | apply IsS116.alloc | apply IsS116.drewN | apply IsS116.drew | apply IsS116.set_1 | apply IsS116.set_2 | refine IsS116.far ?_ z0_.out _ | refine IsS116.far ?_ z1_.out _ | refine IsS116.far ?_ z2_.out _ | refine IsS116.far ?_ z3_.out _) | exact HI0.out)) : P := h z0_ z1_ z2_ z3_
theorem Zcj {p0 p1 p2 p3 P : Prop} (z0_ : p0) (z1_ : p1) (z2_ : p2) (z3_ : p3) (h : p0 → p1 → p2 → p3 → P := by intro z0_ z1_ z2_ z3_; repeat (first | (with_reducible first | exact HK.out | apply KeepBut.set_ | apply keep_drewN | apply keep_drew | apply keep_alloc | refine keep_far ?_ z0_.out _ | refine keep_far ?_ z1_.out _ | refine keep_far ?_ z2_.out _ | refine keep_far ?_ z3_.out _) | exact HK.out)) : P := h z0_ z1_ z2_ z3_
theorem Zck {p0 p1 p2 p3 P : Prop} (z0_ : p0) (z1_ : p1) (z2_ : p2) (z3_ : p3) (h : p0 → p1 → p2 → p3 → P := by intro z0_ z1_ z2_ z3_; repeat (first | (with_reducible first | exact HB.out | apply below_alloc | apply pw_below_drewN | apply below_drew1 | refine below_set ?_ (IsS116.ge HI0.out) | refine below_set ?_ z0_.out | refine below_set ?_ z1_.out | refine below_set ?_ z2_.out | refine below_set ?_ z3_.out) | exact HB.out)) : P := h z0_ z1_ z2_ z3_
theorem Zcl {p0 p1 P : Prop} (z0_ : p0) (z1_ : p1) (h : p0 → p1 → P := by intro z0_ z1_; (with_reducible repeat (first | refine blk_drewN ?_ _ | refine blk_drew ?_ | refine blk_alloc ?_ _)); refine blk_far ?_ z0_.out _; (with_reducible repeat (first | refine blk_drewN ?_ _ | refine blk_drew ?_ | refine blk_alloc ?_ _)); refine blk_far ?_ z0_.out _; (with_reducible repeat (first | refine blk_drewN ?_ _ | refine blk_drew ?_ | refine blk_alloc ?_ _)); refine blk_far ?_ z0_.out _; (with_reducible repeat (first | refine blk_drewN ?_ _ | refine blk_drew ?_ | refine blk_alloc ?_ _)); exact z1_.out) : P := h z0_ z1_
theorem Zcm {p0 p1 p2 P : Prop} (z0_ : p0) (z1_ : p1) (z2_ : p2) (h : p0 → p1 → p2 → P := by intro z0_ z1_ z2_; (with_reducible repeat (first | apply Kd.R_alloc | apply Kd.R_drewN | apply Kd.R_drew)); exact Kd.R_mono (Kd.R_far (p := ⟨gb626, 2, none⟩) (Kd.R_far (p := ⟨gb626, 1, none⟩) (Kd.R_far (p := ⟨gb626, 0, none⟩) (Kd.R_far (p := ⟨gb638, 0, none⟩) (Kd.R_types (Kd.R_types z0_.out z1_.out (by decide)) z2_.out (by decide)) (fun _ hk => hk.1.2) (.slice Ao17 t642.length co17)) (fun _ hk => hk.2) (.slice Ao17 t642.length co17)) (fun _ hk => hk.2) (.slice Ao13 t630.length co13)) (fun _ hk => hk.2) (.slice Ao14 t633.length co14)) (fun _ hk => trivial)) : P := h z0_ z1_ z2_
theorem Zcn {p0 p1 p2 P : Prop} (z0_ : p0) (z1_ : p1) (z2_ : p2) (h : p0 → p1 → p2 → P := by intro z0_ z1_ z2_; (with_reducible repeat (first | apply Kd.R_alloc | apply Kd.R_drewN | apply Kd.R_drew)); exact Kd.R_mono (Kd.R_far (p := ⟨gb626, 2, none⟩) (Kd.R_far (p := ⟨gb626, 1, none⟩) (Kd.R_far (p := ⟨gb626, 0, none⟩) (Kd.R_far (p := ⟨gb638, 1, none⟩) (Kd.R_types (Kd.R_types z0_.out z1_.out (by decide)) z2_.out (by decide)) (fun _ hk => hk.1.2) (.slice Ao34 t647.length co34)) (fun _ hk => hk.2) (.slice Ao9 t627.length co9)) (fun _ hk => hk.2) (.slice Ao34 t647.length co34)) (fun _ hk => hk.2) (.slice Ao14 t633.length co14)) (fun _ hk => trivial)) : P := h z0_ z1_ z2_
theorem Zco {p0 p1 p2 P : Prop} (z0_ : p0) (z1_ : p1) (z2_ : p2) (h : p0 → p1 → p2 → P := by intro z0_ z1_ z2_; (with_reducible repeat (first | apply Kd.R_alloc | apply Kd.R_drewN | apply Kd.R_drew)); exact Kd.R_mono (Kd.R_far (p := ⟨gb626, 2, none⟩) (Kd.R_far (p := ⟨gb626, 1, none⟩) (Kd.R_far (p := ⟨gb626, 0, none⟩) (Kd.R_far (p := ⟨gb638, 2, none⟩) (Kd.R_types (Kd.R_types z0_.out z1_.out (by decide)) z2_.out (by decide)) (fun _ hk => hk.1.2) (.slice Ao58 y661.length co58)) (fun _ hk => hk.2) (.slice Ao9 t627.length co9)) (fun _ hk => hk.2) (.slice Ao13 t630.length co13)) (fun _ hk => hk.2) (.slice Ao58 y661.length co58)) (fun _ hk => trivial)) : P := h z0_ z1_ z2_
theorem Zcp {p0 p1 P : Prop} (z0_ : p0) (z1_ : p1) (h : p0 → p1 → P := by intro z0_ z1_; (with_reducible repeat (first | refine blk_drewN ?_ _ | refine blk_drew ?_ | refine blk_alloc ?_ _)); refine blk_far ?_ z0_.out _; (with_reducible repeat (first | refine blk_drewN ?_ _ | refine blk_drew ?_ | refine blk_alloc ?_ _)); refine blk_far ?_ z0_.out _; (with_reducible repeat (first | refine blk_drewN ?_ _ | refine blk_drew ?_ | refine blk_alloc ?_ _)); refine blk_far ?_ z0_.out _; (with_reducible repeat (first | refine blk_drewN ?_ _ | refine blk_drew ?_ | refine blk_alloc ?_ _)); refine blk_far ?_ z0_.out _; (with_reducible repeat (first | refine blk_drewN ?_ _ | refine blk_drew ?_ | refine blk_alloc ?_ _)); exact z1_.out) : P := h z0_ z1_
theorem Zcq {p0 P : Prop} (z0_ : p0) (h : p0 → P := by intro z0_; repeat (first | (with_reducible first | exact HI700.out | apply IsS116.alloc | apply IsS116.drewN | apply IsS116.drew | apply IsS116.set_1 | apply IsS116.set_2 | refine IsS116.far ?_ z0_.out _) | exact HI700.out)) : P := h z0_
theorem Zcr {p0 P : Prop} (z0_ : p0) (h : p0 → P := by intro z0_; repeat (first | (with_reducible first | exact HB.out | apply below_alloc | apply pw_below_drewN | apply below_drew1 | refine below_set ?_ (IsS116.ge HI700.out) | refine below_set ?_ z0_.out) | exact HB.out)) : P := h z0_
theorem Zcs {p0 p1 P : Prop} (z0_ : p0) (z1_ : p1) (h : p0 → p1 → P := by intro z0_ z1_; repeat (first | (with_reducible first | exact HB.out | apply below_alloc | apply pw_below_drewN | apply below_drew1 | refine below_set ?_ (IsS116.ge HI700.out) | refine below_set ?_ z0_.out | refine below_set ?_ z1_.out) | exact HB.out)) : P := h z0_ z1_
theorem Zct {p0 p1 P : Prop} (z0_ : p0) (z1_ : p1) (h : p0 → p1 → P := by intro z0_ z1_; repeat (first | (with_reducible first | exact HI700.out | apply IsS116.alloc | apply IsS116.drewN | apply IsS116.drew | apply IsS116.set_1 | apply IsS116.set_2 | refine IsS116.far ?_ z0_.out _ | refine IsS116.far ?_ z1_.out _) | exact HI700.out)) : P := h z0_ z1_
theorem Zcu {p0 p1 P : Prop} (z0_ : p0) (z1_ : p1) (h : p0 → p1 → P := by intro z0_ z1_; first | exact Nat.ne_of_lt (Nat.lt_of_lt_of_le (by have := World.block_lt_of_cell? _ _ z0_; first | rwa [add_block] at this | exact this) z1_.out) | (rw [add_block]; exact Nat.ne_of_lt (Nat.lt_of_lt_of_le (by have := World.block_lt_of_cell? _ _ z0_; first | rwa [add_block] at this | exact this) z1_.out)) | (show (Addr.add _ _).block ≠ _; rw [add_block]; exact Nat.ne_of_lt (Nat.lt_of_lt_of_le (by have := World.block_lt_of_cell? _ _ z0_; first | rwa [add_block] at this | exact this) z1_.out)) | (dsimp only; exact Nat.ne_of_lt (Nat.lt_of_lt_of_le (by have := World.block_lt_of_cell? _ _ z0_; first | rwa [add_block] at this | exact this) z1_.out))) : P := h z0_ z1_
theorem Zcv {p0 p1 p2 p3 p4 p5 p6 p7 p8 p9 p10 p11 p12 p13 P : Prop} (z0_ : p0) (z1_ : p1) (z2_ : p2) (z3_ : p3) (z4_ : p4) (z5_ : p5) (z6_ : p6) (z7_ : p7) (z8_ : p8) (z9_ : p9) (z10_ : p10) (z11_ : p11) (z12_ : p12) (z13_ : p13) (h : p0 → p1 → p2 → p3 → p4 → p5 → p6 → p7 → p8 → p9 → p10 → p11 → p12 → p13 → P := by intro z0_ z1_ z2_ z3_ z4_ z5_ z6_ z7_ z8_ z9_ z10_ z11_ z12_ z13_; exact ⟨(blk_cell z0_.out 0).trans rfl, (blk_cell z0_.out 1).trans rfl, (blk_cell z0_.out 2).trans rfl, (cbH HB z1_ :), (cbH HB z2_ :), (cbH HB z3_ :), (cbH HB z4_ :), (cbH HB z5_ :), (cbH HB z6_ :), (cbH HB z7_ :), (cbH HB z8_ :), (cbH HB z9_ :), (cbH HB z10_ :), (cbH HB z11_ :), (cbH HB z12_ :), (cbH HB z13_ :)⟩) : P := h z0_ z1_ z2_ z3_ z4_ z5_ z6_ z7_ z8_ z9_ z10_ z11_ z12_ z13_
theorem Zcw {p0 p1 p2 p3 p4 p5 P : Prop} (z0_ : p0) (z1_ : p1) (z2_ : p2) (z3_ : p3) (z4_ : p4) (z5_ : p5) (h : p0 → p1 → p2 → p3 → p4 → p5 → P := by intro z0_ z1_ z2_ z3_ z4_ z5_; exact ⟨(blk_cell z0_.out 0).trans rfl, (blk_cell z0_.out 1).trans rfl, (blk_cell z0_.out 2).trans rfl, (blk_cell z0_.out 3).trans rfl, (blk_cell z0_.out 4).trans rfl, (blk_cell z0_.out 5).trans rfl, (blk_cell z0_.out 6).trans rfl, (blk_cell z0_.out 7).trans rfl, (blk_cell z0_.out 8).trans rfl, (blk_cell z1_.out 0).trans rfl, (blk_cell z1_.out 1).trans rfl, (blk_cell z1_.out 2).trans rfl, (cbH HB z2_ :), (cbH HB z3_ :), (cbH HB z4_ :), (cbH HB z5_ :)⟩) : P := h z0_ z1_ z2_ z3_ z4_ z5_
theorem Zcx {p0 P : Prop} (z0_ : p0) (h : p0 → P := by intro z0_; repeat (first | exact z0_.out | (with_reducible refine Kd.C_alloc ?_ _) | (with_reducible refine Kd.C_drewN ?_ _) | (with_reducible refine Kd.C_drew ?_))) : P := h z0_
theorem Zcy {P : Prop} (h : P := by rw [List.length_append, List.length_singleton]; omega) : P := h
end Go.Proofs.Ytmnnbmdfepogiaa.F
namespace Go.Proofs.Ytmnnbmdfepogiaa.F
open Go.RowKit Go.Proofs.YtmnnbmdfepogiaaW.PrintWords Go.Proofs.YtmnnbmdfepogiaaW.PrintLast Go.Proofs.YtmnnbmdfepogiaaW.PrintMore
attribute [local go_sem] max2_int min2_int max_two min_two max_three min_three max_four min_four
set_option linter.unusedVariables false
set_option linter.unusedSimpArgs false
def spec_l01In.f (a0 : Int) (a1 : Int) (a2 : Int) : Option (Bool) := if a0 ≥ a1 then (some (decide (a0 ≤ a2))) else (some false)
set_option maxHeartbeats 8000000 in
set_option maxRecDepth 100000 in
theorem spec_l01In.calls (a0 : Int) (a1 : Int) (a2 : Int) (r : Bool) (w : World) (h : spec_l01In.f a0 a1 a2 = some r) :
  Calls Try.prog 56 #[.int .i64 a0, .int .i64 a1, .int .i64 a2] w fun e w' => e = .returned (.bool r) ∧ Drawn0 w w' := by
 have H : (if a0 ≥ a1 then (some (decide (a0 ≤ a2))) else (some false)) = some r := h; clear h
 by_cases c4 : a0 ≥ a1
 ·rw [if_pos c4] at H
  have c4b0 : decide (a1 ≤ a0) = true := decide_eq_true c4; clear c4; obtain rfl := Option.some.inj H
  go_enter Try.func56, Try.ntmps56
  go_wp2
  go_ret
  exact ⟨Za, Zb⟩
 ·rw [if_neg c4] at H
  have c4b0 : decide (a1 ≤ a0) = false := decide_eq_false c4; clear c4; obtain rfl := Option.some.inj H
  go_enter Try.func56, Try.ntmps56
  go_wp2
  go_ret
  exact ⟨Za, Zb⟩
end Go.Proofs.Ytmnnbmdfepogiaa.F
namespace Go.Proofs.Ytmnnbmdfepogiaa.F
open Go.RowKit Go.Proofs.YtmnnbmdfepogiaaW.PrintWords Go.Proofs.YtmnnbmdfepogiaaW.PrintLast Go.Proofs.YtmnnbmdfepogiaaW.PrintMore
attribute [local go_sem] max2_int min2_int max_two min_two max_three min_three max_four min_four
set_option linter.unusedVariables false
set_option linter.unusedSimpArgs false
def spec_l03Find.l0 : Nat → List (S61) → ByteArray → Int → Option (Int)
 | 0, _, _, _ => none
 | k + 1, x0, x1, x5 => if x5 < (x0.length : Int) then (if 0 ≤ x5 then (if ((rd_T61 x0 x5).f0).toList = x1.toList then (some x5) else (spec_l03Find.l0 k x0 x1 (wrap64 (x5 + 1)))) else (none)) else (some (-1))
def spec_l03Find.f (k : Nat) (l0 : List (S61)) (a1 : ByteArray) : Option (Int) := spec_l03Find.l0 k l0 a1 0
set_option maxHeartbeats 8000000 in
set_option maxRecDepth 100000 in
theorem spec_l03Find.calls (k : Nat) (A0 : Option Addr) (c0 : Nat) (l0 : List (S61)) (a1 : ByteArray) (r : Int) (w : World) (hr0 : Kd.C k61 w A0 l0.length l0) (hc0 : l0.length ≤ c0) (h : spec_l03Find.f k l0 a1 = some r) :
  Calls Try.prog 70 #[.slice A0 l0.length c0, .string a1] w fun e w' => e = .returned (.int .i64 r) ∧ Drawn0 w w' := by
 have HR0 := am_ hr0; have HC0 := am_ hc0; clear hr0 hc0; have H : (spec_l03Find.l0 k l0 a1 0) = some r := h; clear h; have H' := am_ H; clear H
 go_enter Try.func70, Try.ntmps70
 go_wp2
 go_loopg [5] k (fun kq v5 w' => ∃ (x5_1 : Int), v5 = .int .i64 x5_1 ∧ Aside0 (spec_l03Find.l0 kq l0 a1 x5_1 = some r) ∧ Aside0 (kq ≤ k) ∧ Drawn0 w w')
 case atStart => exact ⟨(0), Za, H', ⟨Nat.le_refl _⟩, Zb⟩
 case round =>
  clear H'
  try clear p2
  obtain ⟨x5_1, rfl, HA, HK1, ⟨m1, rfl⟩⟩ := hrel
  cases gk with
  | zero => exact absurd HA.out (by simp [spec_l03Find.l0])
  | succ k1 =>
   have H := HA.out; clear HA; simp only [spec_l03Find.l0] at H
   by_cases c3 : x5_1 < (l0.length : Int)
   ·rw [if_pos c3] at H
    have c3b0 := decide_eq_true c3; clear c3
    by_cases c4 : 0 ≤ x5_1
    ·rw [if_pos c4] at H
     have c4b0 := decide_eq_true c4; clear c4
     by_cases c5 : ((rd_T61 l0 x5_1).f0).toList = a1.toList
     ·rw [if_pos c5] at H
      have c5b0 := beq_iff_eq.mpr c5; have c5b1 := bne_eq_false_iff_eq.mpr c5; clear c5; obtain rfl := Option.some.inj H; have p101 : 0 ≤ (x5_1 : Int) := of_decide_eq_true Zc; have q101 : x5_1 < (l0.length : Int) := of_decide_eq_true Zc; obtain ⟨ad101, e101, hx101_0, hx101_1, hx101_2, hx101_3, hx101_4, hx101_5, hx101_6, hx101_7, hx101_8⟩ := at_T61 HR0.out x5_1 p101 q101
      cases e101
      replace p101 := eq_true p101; replace q101 := eq_true q101
      go_wp2
      go_ret
      exact ⟨Za, Zb⟩
     ·rw [if_neg c5] at H
      have c5b0 := beq_eq_false_iff_ne.mpr c5; have c5b1 := bne_iff_ne.mpr c5; have H' := am_ H; clear H; have p101 : 0 ≤ (x5_1 : Int) := of_decide_eq_true Zc; have q101 : x5_1 < (l0.length : Int) := of_decide_eq_true Zc; obtain ⟨ad101, e101, hx101_0, hx101_1, hx101_2, hx101_3, hx101_4, hx101_5, hx101_6, hx101_7, hx101_8⟩ := at_T61 HR0.out x5_1 p101 q101
      cases e101
      replace p101 := eq_true p101; replace q101 := eq_true q101
      go_wp2
      go_roundg k1
      case measure => have := HK1.out; omega
      case rel => exact ⟨(wrap64 (x5_1 + 1)), Za, H', ⟨Zd⟩, Zb⟩
    ·rw [if_neg c4] at H
     exact absurd H (by simp)
   ·rw [if_neg c3] at H
    have c3b0 := decide_eq_false c3; clear c3; obtain rfl := Option.some.inj H
    go_wp2
    go_ret
    exact ⟨Za, Zb⟩
def spec_l07Time.l0 : Nat → List (S104) → Int → Int → Int → Int → Option (Int)
 | 0, _, _, _, _, _ => none
 | k + 1, x0, x1, x2, x7, x8 => if x8 < x1 then (if 0 ≤ x8 then (if x8 < (x0.length : Int) then (spec_l07Time.l0 k x0 x1 x2 (wrap64 (x7 + (wrap64 (((rd_T104 x0 x8).f0) * ((rd_T104 x0 x8).f1))))) (wrap64 (x8 + 1))) else (none)) else (none)) else (if 0 ≤ x1 then (if x1 < (x0.length : Int) then (some (wrap64 (x7 + (wrap64 (x2 * ((rd_T104 x0 x1).f1)))))) else (none)) else (none))
def spec_l07Time.f (k : Nat) (l0 : List (S104)) (a1 : Int) (a2 : Int) : Option (Int) := spec_l07Time.l0 k l0 a1 a2 0 0
set_option maxHeartbeats 8000000 in
set_option maxRecDepth 100000 in
theorem spec_l07Time.calls (k : Nat) (A0 : Option Addr) (c0 : Nat) (l0 : List (S104)) (a1 : Int) (a2 : Int) (r : Int) (w : World) (hr0 : Kd.C k104 w A0 l0.length l0) (hc0 : l0.length ≤ c0) (h : spec_l07Time.f k l0 a1 a2 = some r) :
  Calls Try.prog 100 #[.slice A0 l0.length c0, .int .i64 a1, .int .i64 a2] w fun e w' => e = .returned (.int .i64 r) ∧ Drawn0 w w' := by
 have HR0 := am_ hr0; have HC0 := am_ hc0; clear hr0 hc0; have H : (spec_l07Time.l0 k l0 a1 a2 0 0) = some r := h; clear h; have H' := am_ H; clear H
 go_enter Try.func100, Try.ntmps100
 go_wp2
 repeat (go_quiet (fail); try go_wp2)
 go_loopg [7, 8] k (fun kq v7 v8 w' => ∃ (x7_1 : Int) (x8_1 : Int), v7 = .int .i64 x7_1 ∧ v8 = .int .i64 x8_1 ∧ Aside0 (spec_l07Time.l0 kq l0 a1 a2 x7_1 x8_1 = some r) ∧ Aside0 (kq ≤ k) ∧ Drawn0 w w')
 case atStart => exact ⟨(0), (0), Za, Za, H', ⟨Nat.le_refl _⟩, Zb⟩
 case round =>
  clear H'
  try clear c1
  try clear p2
  obtain ⟨x7_1, x8_1, rfl, rfl, HA, HK1, ⟨m1, rfl⟩⟩ := hrel
  cases gk with
  | zero => exact absurd HA.out (by simp [spec_l07Time.l0])
  | succ k1 =>
   have H := HA.out; clear HA; simp only [spec_l07Time.l0] at H
   by_cases c4 : x8_1 < a1
   ·rw [if_pos c4] at H
    have c4b0 := decide_eq_true c4; clear c4
    by_cases c5 : 0 ≤ x8_1
    ·rw [if_pos c5] at H
     have c5b0 := decide_eq_true c5; clear c5
     by_cases c6 : x8_1 < (l0.length : Int)
     ·rw [if_pos c6] at H
      have c6b0 := decide_eq_true c6; clear c6; have H' := am_ H; clear H; have p102 : 0 ≤ (x8_1 : Int) := of_decide_eq_true Zc; have q102 : x8_1 < (l0.length : Int) := of_decide_eq_true Zc; obtain ⟨ad102, e102, hx102_0, hx102_1⟩ := at_T104 HR0.out x8_1 p102 q102
      cases e102
      replace p102 := eq_true p102; replace q102 := eq_true q102; have p103 : 0 ≤ (x8_1 : Int) := of_decide_eq_true Zc; have q103 : x8_1 < (l0.length : Int) := of_decide_eq_true Zc; obtain ⟨ad103, e103, hx103_0, hx103_1⟩ := at_T104 HR0.out x8_1 p103 q103; obtain rfl : ad102 = ad103 := (by injection e103); replace p103 := eq_true p103; replace q103 := eq_true q103
      go_wp2
      repeat (go_quiet (fail); try go_wp2)
      go_roundg k1
      case measure => have := HK1.out; omega
      case rel => exact ⟨(wrap64 (x7_1 + (wrap64 (((rd_T104 l0 x8_1).f0) * ((rd_T104 l0 x8_1).f1))))), (wrap64 (x8_1 + 1)), Za, Za, H', ⟨Zd⟩, Zb⟩
     ·rw [if_neg c6] at H
      exact absurd H (by simp)
    ·rw [if_neg c5] at H
     exact absurd H (by simp)
   ·rw [if_neg c4] at H
    have c4b0 := decide_eq_false c4; clear c4
    by_cases c7 : 0 ≤ a1
    ·rw [if_pos c7] at H
     have c7b0 := decide_eq_true c7; clear c7
     by_cases c8 : a1 < (l0.length : Int)
     ·rw [if_pos c8] at H
      have c8b0 := decide_eq_true c8; clear c8; obtain rfl := Option.some.inj H; have p104 : 0 ≤ (a1 : Int) := of_decide_eq_true Zc; have q104 : a1 < (l0.length : Int) := of_decide_eq_true Zc; obtain ⟨ad104, e104, hx104_0, hx104_1⟩ := at_T104 HR0.out a1 p104 q104
      cases e104
      replace p104 := eq_true p104; replace q104 := eq_true q104
      go_wp2
      repeat (go_quiet (fail); try go_wp2)
      go_ret
      exact ⟨Za, Zb⟩
     ·rw [if_neg c8] at H
      exact absurd H (by simp)
    ·rw [if_neg c7] at H
     exact absurd H (by simp)
def spec_l08Time.f (k : Nat) (l0_0 : List (S104)) (l0_1 : List (S61)) (l0_2 : List (S58)) (a1_0 : Int) (a1_1 : Int) (a1_2 : ByteArray) (a1_3 : Int) : Option (Int) := (spec_l07Time.f k l0_0 a1_0 a1_1).bind fun t107 => ((spec_l03Find.f k l0_1 a1_2).bind fun t108 => (if 0 ≤ t108 then (if t108 < (l0_1.length : Int) then (some (wrap64 (t107 - ((rd_T61 l0_1 t108).f3)))) else (none)) else (none)))
set_option maxHeartbeats 8000000 in
set_option maxRecDepth 100000 in
theorem spec_l08Time.calls (k : Nat) (A0_0 : Option Addr) (c0_0 : Nat) (l0_0 : List (S104)) (A0_1 : Option Addr) (c0_1 : Nat) (l0_1 : List (S61)) (A0_2 : Option Addr) (c0_2 : Nat) (l0_2 : List (S58)) (a1_0 : Int) (a1_1 : Int) (a1_2 : ByteArray) (a1_3 : Int) (r : Int) (w : World) (hr0_0 : Kd.C k104 w A0_0 l0_0.length l0_0) (hc0_0 : l0_0.length ≤ c0_0) (hr0_1 : Kd.C k61 w A0_1 l0_1.length l0_1) (hc0_1 : l0_1.length ≤ c0_1) (hr0_2 : Kd.C k58 w A0_2 l0_2.length l0_2) (hc0_2 : l0_2.length ≤ c0_2) (h : spec_l08Time.f k l0_0 l0_1 l0_2 a1_0 a1_1 a1_2 a1_3 = some r) :
  Calls Try.prog 72 #[.agg #[.slice A0_0 l0_0.length c0_0, .slice A0_1 l0_1.length c0_1, .slice A0_2 l0_2.length c0_2], .agg #[.int .i64 a1_0, .int .i64 a1_1, .string a1_2, .int .i64 a1_3]] w fun e w' => e = .returned (.int .i64 r) ∧ Below w.heap.size w w' := by
 have hu35 := Try.underlying35; have hu58 := Try.underlying58; have HR0_0 := am_ hr0_0; have HC0_0 := am_ hc0_0; clear hr0_0 hc0_0; have HR0_1 := am_ hr0_1; have HC0_1 := am_ hc0_1; clear hr0_1 hc0_1; have HR0_2 := am_ hr0_2; have HC0_2 := am_ hc0_2; clear hr0_2 hc0_2; have HB := am_ (Below.refl w.heap.size w); have H : ((spec_l07Time.f k l0_0 a1_0 a1_1).bind fun t107 => ((spec_l03Find.f k l0_1 a1_2).bind fun t108 => (if 0 ≤ t108 then (if t108 < (l0_1.length : Int) then (some (wrap64 (t107 - ((rd_T61 l0_1 t108).f3)))) else (none)) else (none)))) = some r := h; clear h; replace H := Option.bind_eq_some_iff.mp H; obtain ⟨t107, A30, H⟩ := H; have A3 := am_ A30; clear A30; replace H := Option.bind_eq_some_iff.mp H; obtain ⟨t108, A40, H⟩ := H; have A4 := am_ A40; clear A40
 by_cases c5 : 0 ≤ t108
 ·rw [if_pos c5] at H
  have c5b0 := decide_eq_true c5; clear c5
  by_cases c6 : t108 < (l0_1.length : Int)
  ·rw [if_pos c6] at H
   have c6b0 := decide_eq_true c6; clear c6; obtain rfl := Option.some.inj H
   go_enter Try.func72, Try.ntmps72
   go_wp2_with (first | ((with_reducible refine gate_dst (N := 2) rfl ?_); refine boxZ 2 #[.slice A0_0 l0_0.length c0_0, .slice A0_1 l0_1.length c0_1, .slice A0_2 l0_2.length c0_2] 35 ?_; intro gb105 hg w7 hbox hb; replace BK105 := am_ (hbox); replace GW105 := am_ ((Ze : w.heap.size ≤ gb105)); replace GE105 := GW105; replace HB := (bsZ Zf hb); clear hb hbox hg) | ((with_reducible refine gate_dst (N := 3) rfl ?_); refine boxZ 3 #[.int .i64 a1_0, .int .i64 a1_1, .string a1_2, .int .i64 a1_3] 58 ?_; intro gb106 hg w8 hbox hb; replace BK106 := am_ (hbox); replace GW106 := am_ (((Zg GE105) : w.heap.size ≤ gb106)); replace GE106 := GW106; replace HB := (bsZ (Zh GE105) hb); replace NB105_106 := am_ ((by rw [hg]; exact Nat.ne_of_lt (blk_lt (g := gb105) (b0Z BK105)) : gb105 ≠ gb106)); replace NB106_105 := am_ ((by rw [hg]; exact Nat.ne_of_gt (blk_lt (g := gb105) (b0Z BK105)) : gb106 ≠ gb105)); replace BK105 := (bkZ BK105 hb); clear hb hbox hg; have hnb9 := NB105_106.out; have hnc9 := NB106_105.out; obtain ⟨hcz10_0, hcz10_1, hcz10_2, hfz10_0, hfz10_1, hfz10_2⟩ := cz3 BK105; obtain ⟨hcz11_0, hcz11_1, hcz11_2, hcz11_3, hfz11_0, hfz11_1, hfz11_2, hfz11_3⟩ := cz4 BK106) | (go_at_call 100; (with_reducible refine (spec_l07Time.calls k _ _ l0_0 a1_0 a1_1 t107 _ ?_ ?_ A3.out).mono ?_); exact (Zi HR0_0); exact HC0_0.out; rintro e w' ⟨rfl, ⟨nd, rfl⟩⟩; (try first | exact ⟨rfl, _, World.drewN_drewN _ _ _⟩ | exact ⟨rfl, _, Eq.trans (World.drewN_drewN _ _ _) (congrArg (World.drewN _) (Nat.add_assoc _ _ _))⟩)) | (go_at_call 70; (with_reducible refine (spec_l03Find.calls k _ _ l0_1 a1_2 t108 _ ?_ ?_ A4.out).mono ?_); exact (Zj HR0_1 GE105 GE106); exact HC0_1.out; rintro e w' ⟨rfl, ⟨nd, rfl⟩⟩; (try first | exact ⟨rfl, _, World.drewN_drewN _ _ _⟩ | exact ⟨rfl, _, Eq.trans (World.drewN_drewN _ _ _) (congrArg (World.drewN _) (Nat.add_assoc _ _ _))⟩); have p109 : 0 ≤ (t108 : Int) := of_decide_eq_true Zc; have q109 : t108 < (l0_1.length : Int) := of_decide_eq_true Zc; obtain ⟨ad109, e109, hx109_0, hx109_1, hx109_2, hx109_3, hx109_4, hx109_5, hx109_6, hx109_7, hx109_8⟩ := at_T61 HR0_1.out t108 p109 q109; cases e109; replace hx109_0 := cbH HB hx109_0; replace hx109_1 := cbH HB hx109_1; replace hx109_2 := cbH HB hx109_2; replace hx109_3 := cbH HB hx109_3; replace hx109_4 := cbH HB hx109_4; replace hx109_5 := cbH HB hx109_5; replace hx109_6 := cbH HB hx109_6; replace hx109_7 := cbH HB hx109_7; replace hx109_8 := cbH HB hx109_8; replace p109 := eq_true p109; replace q109 := eq_true q109))
   repeat (go_quiet (first | ((with_reducible refine gate_dst (N := 2) rfl ?_); refine boxZ 2 #[.slice A0_0 l0_0.length c0_0, .slice A0_1 l0_1.length c0_1, .slice A0_2 l0_2.length c0_2] 35 ?_; intro gb105 hg w7 hbox hb; replace BK105 := am_ (hbox); replace GW105 := am_ ((Ze : w.heap.size ≤ gb105)); replace GE105 := GW105; replace HB := (bsZ Zf hb); clear hb hbox hg) | ((with_reducible refine gate_dst (N := 3) rfl ?_); refine boxZ 3 #[.int .i64 a1_0, .int .i64 a1_1, .string a1_2, .int .i64 a1_3] 58 ?_; intro gb106 hg w8 hbox hb; replace BK106 := am_ (hbox); replace GW106 := am_ (((Zg GE105) : w.heap.size ≤ gb106)); replace GE106 := GW106; replace HB := (bsZ (Zh GE105) hb); replace NB105_106 := am_ ((by rw [hg]; exact Nat.ne_of_lt (blk_lt (g := gb105) (b0Z BK105)) : gb105 ≠ gb106)); replace NB106_105 := am_ ((by rw [hg]; exact Nat.ne_of_gt (blk_lt (g := gb105) (b0Z BK105)) : gb106 ≠ gb105)); replace BK105 := (bkZ BK105 hb); clear hb hbox hg; have hnb9 := NB105_106.out; have hnc9 := NB106_105.out; obtain ⟨hcz10_0, hcz10_1, hcz10_2, hfz10_0, hfz10_1, hfz10_2⟩ := cz3 BK105; obtain ⟨hcz11_0, hcz11_1, hcz11_2, hcz11_3, hfz11_0, hfz11_1, hfz11_2, hfz11_3⟩ := cz4 BK106) | (go_at_call 100; (with_reducible refine (spec_l07Time.calls k _ _ l0_0 a1_0 a1_1 t107 _ ?_ ?_ A3.out).mono ?_); exact (Zi HR0_0); exact HC0_0.out; rintro e w' ⟨rfl, ⟨nd, rfl⟩⟩; (try first | exact ⟨rfl, _, World.drewN_drewN _ _ _⟩ | exact ⟨rfl, _, Eq.trans (World.drewN_drewN _ _ _) (congrArg (World.drewN _) (Nat.add_assoc _ _ _))⟩)) | (go_at_call 70; (with_reducible refine (spec_l03Find.calls k _ _ l0_1 a1_2 t108 _ ?_ ?_ A4.out).mono ?_); exact (Zj HR0_1 GE105 GE106); exact HC0_1.out; rintro e w' ⟨rfl, ⟨nd, rfl⟩⟩; (try first | exact ⟨rfl, _, World.drewN_drewN _ _ _⟩ | exact ⟨rfl, _, Eq.trans (World.drewN_drewN _ _ _) (congrArg (World.drewN _) (Nat.add_assoc _ _ _))⟩); have p109 : 0 ≤ (t108 : Int) := of_decide_eq_true Zc; have q109 : t108 < (l0_1.length : Int) := of_decide_eq_true Zc; obtain ⟨ad109, e109, hx109_0, hx109_1, hx109_2, hx109_3, hx109_4, hx109_5, hx109_6, hx109_7, hx109_8⟩ := at_T61 HR0_1.out t108 p109 q109; cases e109; replace hx109_0 := cbH HB hx109_0; replace hx109_1 := cbH HB hx109_1; replace hx109_2 := cbH HB hx109_2; replace hx109_3 := cbH HB hx109_3; replace hx109_4 := cbH HB hx109_4; replace hx109_5 := cbH HB hx109_5; replace hx109_6 := cbH HB hx109_6; replace hx109_7 := cbH HB hx109_7; replace hx109_8 := cbH HB hx109_8; replace p109 := eq_true p109; replace q109 := eq_true q109)); try go_wp2_with (first | ((with_reducible refine gate_dst (N := 2) rfl ?_); refine boxZ 2 #[.slice A0_0 l0_0.length c0_0, .slice A0_1 l0_1.length c0_1, .slice A0_2 l0_2.length c0_2] 35 ?_; intro gb105 hg w7 hbox hb; replace BK105 := am_ (hbox); replace GW105 := am_ ((Ze : w.heap.size ≤ gb105)); replace GE105 := GW105; replace HB := (bsZ Zf hb); clear hb hbox hg) | ((with_reducible refine gate_dst (N := 3) rfl ?_); refine boxZ 3 #[.int .i64 a1_0, .int .i64 a1_1, .string a1_2, .int .i64 a1_3] 58 ?_; intro gb106 hg w8 hbox hb; replace BK106 := am_ (hbox); replace GW106 := am_ (((Zg GE105) : w.heap.size ≤ gb106)); replace GE106 := GW106; replace HB := (bsZ (Zh GE105) hb); replace NB105_106 := am_ ((by rw [hg]; exact Nat.ne_of_lt (blk_lt (g := gb105) (b0Z BK105)) : gb105 ≠ gb106)); replace NB106_105 := am_ ((by rw [hg]; exact Nat.ne_of_gt (blk_lt (g := gb105) (b0Z BK105)) : gb106 ≠ gb105)); replace BK105 := (bkZ BK105 hb); clear hb hbox hg; have hnb9 := NB105_106.out; have hnc9 := NB106_105.out; obtain ⟨hcz10_0, hcz10_1, hcz10_2, hfz10_0, hfz10_1, hfz10_2⟩ := cz3 BK105; obtain ⟨hcz11_0, hcz11_1, hcz11_2, hcz11_3, hfz11_0, hfz11_1, hfz11_2, hfz11_3⟩ := cz4 BK106) | (go_at_call 100; (with_reducible refine (spec_l07Time.calls k _ _ l0_0 a1_0 a1_1 t107 _ ?_ ?_ A3.out).mono ?_); exact (Zi HR0_0); exact HC0_0.out; rintro e w' ⟨rfl, ⟨nd, rfl⟩⟩; (try first | exact ⟨rfl, _, World.drewN_drewN _ _ _⟩ | exact ⟨rfl, _, Eq.trans (World.drewN_drewN _ _ _) (congrArg (World.drewN _) (Nat.add_assoc _ _ _))⟩)) | (go_at_call 70; (with_reducible refine (spec_l03Find.calls k _ _ l0_1 a1_2 t108 _ ?_ ?_ A4.out).mono ?_); exact (Zj HR0_1 GE105 GE106); exact HC0_1.out; rintro e w' ⟨rfl, ⟨nd, rfl⟩⟩; (try first | exact ⟨rfl, _, World.drewN_drewN _ _ _⟩ | exact ⟨rfl, _, Eq.trans (World.drewN_drewN _ _ _) (congrArg (World.drewN _) (Nat.add_assoc _ _ _))⟩); have p109 : 0 ≤ (t108 : Int) := of_decide_eq_true Zc; have q109 : t108 < (l0_1.length : Int) := of_decide_eq_true Zc; obtain ⟨ad109, e109, hx109_0, hx109_1, hx109_2, hx109_3, hx109_4, hx109_5, hx109_6, hx109_7, hx109_8⟩ := at_T61 HR0_1.out t108 p109 q109; cases e109; replace hx109_0 := cbH HB hx109_0; replace hx109_1 := cbH HB hx109_1; replace hx109_2 := cbH HB hx109_2; replace hx109_3 := cbH HB hx109_3; replace hx109_4 := cbH HB hx109_4; replace hx109_5 := cbH HB hx109_5; replace hx109_6 := cbH HB hx109_6; replace hx109_7 := cbH HB hx109_7; replace hx109_8 := cbH HB hx109_8; replace p109 := eq_true p109; replace q109 := eq_true q109)))
   go_ret
   exact ⟨by first | rfl | (simp only [i64_w]; done) | (simp only [i64_w]; rfl) | (simp [errW_none, errW_some] <;> rfl) | (simp [*, errW_none, errW_some] <;> rfl), (Zk GE105 GE106)⟩
  ·rw [if_neg c6] at H
   exact absurd H (by simp)
 ·rw [if_neg c5] at H
  exact absurd H (by simp)
def spec_IsWord.l0 : Nat → ByteArray → Int → Option (Bool)
 | 0, _, _ => none
 | k + 1, x0, x3 => if x3 < (x0.size : Int) then (if 0 ≤ x3 then (if (bt x0 x3) < 97 then (some false) else (if (bt x0 x3) > 122 then (some false) else (spec_IsWord.l0 k x0 (wrap64 (x3 + 1))))) else (none)) else ((spec_l01In.f (x0.size : Int) 1 16).bind fun t110 => (some t110))
def spec_IsWord.f (k : Nat) (a0 : ByteArray) : Option (Bool) := spec_IsWord.l0 k a0 0
set_option maxHeartbeats 8000000 in
set_option maxRecDepth 100000 in
theorem spec_IsWord.calls (k : Nat) (a0 : ByteArray) (r : Bool) (w : World) (h : spec_IsWord.f k a0 = some r) :
  Calls Try.prog 114 #[.string a0] w fun e w' => e = .returned (.bool r) ∧ Drawn0 w w' := by
 have H : (spec_IsWord.l0 k a0 0) = some r := h; clear h; have H' := am_ H; clear H
 go_enter Try.func114, Try.ntmps114
 go_wp2
 go_loopg [3] k (fun kq v3 w' => ∃ (x3_1 : Int), v3 = .int .i64 x3_1 ∧ Aside0 (spec_IsWord.l0 kq a0 x3_1 = some r) ∧ Aside0 (kq ≤ k) ∧ Drawn0 w w')
 case atStart => exact ⟨(0), Za, H', ⟨Nat.le_refl _⟩, Zb⟩
 case round =>
  clear H'
  try clear c1
  obtain ⟨x3_1, rfl, HA, HK1, ⟨m1, rfl⟩⟩ := hrel
  cases gk with
  | zero => exact absurd HA.out (by simp [spec_IsWord.l0])
  | succ k1 =>
   have H := HA.out; clear HA; simp only [spec_IsWord.l0] at H
   by_cases c2 : x3_1 < (a0.size : Int)
   ·rw [if_pos c2] at H
    have c2b0 := decide_eq_true c2; clear c2
    by_cases c3 : 0 ≤ x3_1
    ·rw [if_pos c3] at H
     have c3b0 := decide_eq_true c3; clear c3
     by_cases c5 : (bt a0 x3_1) < 97
     ·rw [if_pos c5] at H
      have c5b0 := decide_eq_true c5; clear c5; obtain rfl := Option.some.inj H; have p4 : 0 ≤ (x3_1 : Int) := of_decide_eq_true Zc; have q4 : x3_1 < (a0.size : Int) := of_decide_eq_true Zc; have hx4 := bt_at a0 x3_1; replace p4 := eq_true p4; replace q4 := eq_true q4
      go_wp2
      go_ret
      exact ⟨Za, Zb⟩
     ·rw [if_neg c5] at H
      have c5b0 := decide_eq_false c5; clear c5
      by_cases c7 : (bt a0 x3_1) > 122
      ·rw [if_pos c7] at H
       have c7b0 : decide (122 < (bt a0 x3_1)) = true := decide_eq_true c7; clear c7; obtain rfl := Option.some.inj H; have p4 : 0 ≤ (x3_1 : Int) := of_decide_eq_true Zc; have q4 : x3_1 < (a0.size : Int) := of_decide_eq_true Zc; have hx4 := bt_at a0 x3_1; replace p4 := eq_true p4; replace q4 := eq_true q4; have p6 : 0 ≤ (x3_1 : Int) := of_decide_eq_true Zc; have q6 : x3_1 < (a0.size : Int) := of_decide_eq_true Zc; have hx6 := bt_at a0 x3_1; replace p6 := eq_true p6; replace q6 := eq_true q6
       go_wp2
       go_ret
       exact ⟨Za, Zb⟩
      ·rw [if_neg c7] at H
       have c7b0 : decide (122 < (bt a0 x3_1)) = false := decide_eq_false c7; clear c7; have H' := am_ H; clear H; have p4 : 0 ≤ (x3_1 : Int) := of_decide_eq_true Zc; have q4 : x3_1 < (a0.size : Int) := of_decide_eq_true Zc; have hx4 := bt_at a0 x3_1; replace p4 := eq_true p4; replace q4 := eq_true q4; have p6 : 0 ≤ (x3_1 : Int) := of_decide_eq_true Zc; have q6 : x3_1 < (a0.size : Int) := of_decide_eq_true Zc; have hx6 := bt_at a0 x3_1; replace p6 := eq_true p6; replace q6 := eq_true q6
       go_wp2
       go_roundg k1
       case measure => have := HK1.out; omega
       case rel => exact ⟨(wrap64 (x3_1 + 1)), Za, H', ⟨Zd⟩, Zb⟩
    ·rw [if_neg c3] at H
     exact absurd H (by simp)
   ·rw [if_neg c2] at H
    have c2b0 := decide_eq_false c2; clear c2; replace H := Option.bind_eq_some_iff.mp H; obtain ⟨t110, A80, H⟩ := H; have A8 := am_ A80; clear A80; obtain rfl := Option.some.inj H
    go_wp2_with (first | ((with_reducible refine gate_callee (f := 56) rfl ?_); refine gZ 22 Try.func56 #[.int .i64 (a0.size : Int), .int .i64 1, .int .i64 16] ?_; (with_reducible refine (spec_l01In.calls (a0.size : Int) 1 16 t110 _ A8.out).mono ?_); rintro e w' ⟨rfl, ⟨nd, rfl⟩⟩; refine ⟨_, rfl, ?_⟩))
    go_ret
    exact ⟨Za, Zb⟩
def spec_IsArticle.f (k : Nat) (a0_0 : ByteArray) (a0_1 : Int) (a0_2 : Int) (a0_3 : Int) (a0_4 : Int) (a0_5 : Int) (a0_6 : Int) (a0_7 : Int) (a0_8 : Int) : Option (Bool) := (spec_IsWord.f k a0_0).bind fun t112 => (if t112 = true then ((spec_l01In.f a0_1 0 3).bind fun t113 => (if t113 = true then ((spec_l01In.f a0_2 20 300).bind fun t114 => (if t114 = true then ((spec_l01In.f a0_3 0 10000).bind fun t115 => (if t115 = true then ((spec_l01In.f a0_4 0 a0_3).bind fun t116 => (if t116 = true then ((spec_l01In.f a0_5 1 50).bind fun t117 => (if t117 = true then ((spec_l01In.f a0_6 0 10000).bind fun t118 => (if t118 = true then ((spec_l01In.f a0_7 1 100000).bind fun t119 => (if t119 = true then ((spec_l01In.f a0_8 0 3).bind fun t120 => (some t120)) else (some false))) else (some false))) else (some false))) else (some false))) else (some false))) else (some false))) else (some false))) else (some false))
set_option maxHeartbeats 8000000 in
set_option maxRecDepth 100000 in
theorem spec_IsArticle.calls (k : Nat) (a0_0 : ByteArray) (a0_1 : Int) (a0_2 : Int) (a0_3 : Int) (a0_4 : Int) (a0_5 : Int) (a0_6 : Int) (a0_7 : Int) (a0_8 : Int) (r : Bool) (w : World) (h : spec_IsArticle.f k a0_0 a0_1 a0_2 a0_3 a0_4 a0_5 a0_6 a0_7 a0_8 = some r) :
  Calls Try.prog 103 #[.agg #[.string a0_0, .int .i64 a0_1, .int .i64 a0_2, .int .i64 a0_3, .int .i64 a0_4, .int .i64 a0_5, .int .i64 a0_6, .int .i64 a0_7, .int .i64 a0_8]] w fun e w' => e = .returned (.bool r) ∧ Below w.heap.size w w' := by
 have hu61 := Try.underlying61; have HB := am_ (Below.refl w.heap.size w); have H : ((spec_IsWord.f k a0_0).bind fun t112 => (if t112 = true then ((spec_l01In.f a0_1 0 3).bind fun t113 => (if t113 = true then ((spec_l01In.f a0_2 20 300).bind fun t114 => (if t114 = true then ((spec_l01In.f a0_3 0 10000).bind fun t115 => (if t115 = true then ((spec_l01In.f a0_4 0 a0_3).bind fun t116 => (if t116 = true then ((spec_l01In.f a0_5 1 50).bind fun t117 => (if t117 = true then ((spec_l01In.f a0_6 0 10000).bind fun t118 => (if t118 = true then ((spec_l01In.f a0_7 1 100000).bind fun t119 => (if t119 = true then ((spec_l01In.f a0_8 0 3).bind fun t120 => (some t120)) else (some false))) else (some false))) else (some false))) else (some false))) else (some false))) else (some false))) else (some false))) else (some false))) = some r := h; clear h; replace H := Option.bind_eq_some_iff.mp H; obtain ⟨t112, A20, H⟩ := H; have A2 := am_ A20; clear A20; have HS_ := am_ H; clear H
 go_enter Try.func103, Try.ntmps103
 go_wp2_with (first | ((with_reducible refine gate_dst (N := 1) rfl ?_); refine boxZ 1 #[.string a0_0, .int .i64 a0_1, .int .i64 a0_2, .int .i64 a0_3, .int .i64 a0_4, .int .i64 a0_5, .int .i64 a0_6, .int .i64 a0_7, .int .i64 a0_8] 61 ?_; intro gb111 hg w19 hbox hb; replace BK111 := am_ (hbox); replace GW111 := am_ ((Ze : w.heap.size ≤ gb111)); replace GE111 := GW111; replace HB := (bsZ Zf hb); clear hb hbox hg; refine ci9 BK111 ?_; intros) | ((with_reducible refine gate_callee (f := 114) rfl ?_); refine gZ 5 Try.func114 #[.string a0_0] ?_; (with_reducible refine (spec_IsWord.calls k a0_0 t112 _ A2.out).mono ?_); rintro e w' ⟨rfl, ⟨nd, rfl⟩⟩; refine ⟨_, rfl, ?_⟩; refine ?roundEnd))
 case roundEnd =>
  by_cases c3 : t112 = true
  ·have H := HS_.out
   clear HS_; subst c3; rw [if_pos rfl] at H; replace H := Option.bind_eq_some_iff.mp H; obtain ⟨t113, A40, H⟩ := H; have A4 := am_ A40; clear A40; have HS_ := am_ H; clear H
   go_wp2_with (first | (go_at_call 56; (with_reducible refine (spec_l01In.calls a0_1 0 3 t113 _ A4.out).mono ?_); rintro e w' ⟨rfl, ⟨nd, rfl⟩⟩; refine ?roundEnd))
   case roundEnd =>
    by_cases c5 : t113 = true
    ·have H := HS_.out
     clear HS_; subst c5; rw [if_pos rfl] at H; replace H := Option.bind_eq_some_iff.mp H; obtain ⟨t114, A60, H⟩ := H; have A6 := am_ A60; clear A60; have HS_ := am_ H; clear H
     go_wp2_with (first | (go_at_call 56; (with_reducible refine (spec_l01In.calls a0_2 20 300 t114 _ A6.out).mono ?_); rintro e w' ⟨rfl, ⟨nd, rfl⟩⟩; refine ?roundEnd))
     case roundEnd =>
      by_cases c7 : t114 = true
      ·have H := HS_.out
       clear HS_; subst c7; rw [if_pos rfl] at H; replace H := Option.bind_eq_some_iff.mp H; obtain ⟨t115, A80, H⟩ := H; have A8 := am_ A80; clear A80; have HS_ := am_ H; clear H
       go_wp2_with (first | (go_at_call 56; (with_reducible refine (spec_l01In.calls a0_3 0 10000 t115 _ A8.out).mono ?_); rintro e w' ⟨rfl, ⟨nd, rfl⟩⟩; refine ?roundEnd))
       case roundEnd =>
        by_cases c9 : t115 = true
        ·have H := HS_.out
         clear HS_; subst c9; rw [if_pos rfl] at H; replace H := Option.bind_eq_some_iff.mp H; obtain ⟨t116, A100, H⟩ := H; have A10 := am_ A100; clear A100; have HS_ := am_ H; clear H
         go_wp2_with (first | (go_at_call 56; (with_reducible refine (spec_l01In.calls a0_4 0 a0_3 t116 _ A10.out).mono ?_); rintro e w' ⟨rfl, ⟨nd, rfl⟩⟩; refine ?roundEnd))
         case roundEnd =>
          by_cases c11 : t116 = true
          ·have H := HS_.out
           clear HS_; subst c11; rw [if_pos rfl] at H; replace H := Option.bind_eq_some_iff.mp H; obtain ⟨t117, A120, H⟩ := H; have A12 := am_ A120; clear A120; have HS_ := am_ H; clear H
           go_wp2_with (first | (go_at_call 56; (with_reducible refine (spec_l01In.calls a0_5 1 50 t117 _ A12.out).mono ?_); rintro e w' ⟨rfl, ⟨nd, rfl⟩⟩; refine ?roundEnd))
           case roundEnd =>
            by_cases c13 : t117 = true
            ·have H := HS_.out
             clear HS_; subst c13; rw [if_pos rfl] at H; replace H := Option.bind_eq_some_iff.mp H; obtain ⟨t118, A140, H⟩ := H; have A14 := am_ A140; clear A140; have HS_ := am_ H; clear H
             go_wp2_with (first | (go_at_call 56; (with_reducible refine (spec_l01In.calls a0_6 0 10000 t118 _ A14.out).mono ?_); rintro e w' ⟨rfl, ⟨nd, rfl⟩⟩; refine ?roundEnd))
             case roundEnd =>
              by_cases c15 : t118 = true
              ·have H := HS_.out
               clear HS_; subst c15; rw [if_pos rfl] at H; replace H := Option.bind_eq_some_iff.mp H; obtain ⟨t119, A160, H⟩ := H; have A16 := am_ A160; clear A160; have HS_ := am_ H; clear H
               go_wp2_with (first | (go_at_call 56; (with_reducible refine (spec_l01In.calls a0_7 1 100000 t119 _ A16.out).mono ?_); rintro e w' ⟨rfl, ⟨nd, rfl⟩⟩; refine ?roundEnd))
               case roundEnd =>
                by_cases c17 : t119 = true
                ·have H := HS_.out
                 clear HS_; subst c17; rw [if_pos rfl] at H; replace H := Option.bind_eq_some_iff.mp H; obtain ⟨t120, A180, H⟩ := H; have A18 := am_ A180; clear A180; obtain rfl := Option.some.inj H
                 go_wp2_with (first | (go_at_call 56; (with_reducible refine (spec_l01In.calls a0_8 0 3 t120 _ A18.out).mono ?_); rintro e w' ⟨rfl, ⟨nd, rfl⟩⟩))
                 go_ret
                 exact ⟨Zl, (Zh GE111)⟩
                ·have H := HS_.out
                 clear HS_; replace c17 := Bool.eq_false_iff.mpr c17; subst c17; rw [if_neg (show ¬ (false = true) by decide)] at H; obtain rfl := Option.some.inj H
                 go_wp2_with (first | fail)
                 go_ret
                 exact ⟨Zl, (Zh GE111)⟩
              ·have H := HS_.out
               clear HS_; replace c15 := Bool.eq_false_iff.mpr c15; subst c15; rw [if_neg (show ¬ (false = true) by decide)] at H; obtain rfl := Option.some.inj H
               go_wp2_with (first | fail)
               go_ret
               exact ⟨Zl, (Zh GE111)⟩
            ·have H := HS_.out
             clear HS_; replace c13 := Bool.eq_false_iff.mpr c13; subst c13; rw [if_neg (show ¬ (false = true) by decide)] at H; obtain rfl := Option.some.inj H
             go_wp2_with (first | fail)
             go_ret
             exact ⟨Zl, (Zh GE111)⟩
          ·have H := HS_.out
           clear HS_; replace c11 := Bool.eq_false_iff.mpr c11; subst c11; rw [if_neg (show ¬ (false = true) by decide)] at H; obtain rfl := Option.some.inj H
           go_wp2_with (first | fail)
           go_ret
           exact ⟨Zl, (Zh GE111)⟩
        ·have H := HS_.out
         clear HS_; replace c9 := Bool.eq_false_iff.mpr c9; subst c9; rw [if_neg (show ¬ (false = true) by decide)] at H; obtain rfl := Option.some.inj H
         go_wp2_with (first | fail)
         go_ret
         exact ⟨Zl, (Zh GE111)⟩
      ·have H := HS_.out
       clear HS_; replace c7 := Bool.eq_false_iff.mpr c7; subst c7; rw [if_neg (show ¬ (false = true) by decide)] at H; obtain rfl := Option.some.inj H
       go_wp2_with (first | fail)
       go_ret
       exact ⟨Zl, (Zh GE111)⟩
    ·have H := HS_.out
     clear HS_; replace c5 := Bool.eq_false_iff.mpr c5; subst c5; rw [if_neg (show ¬ (false = true) by decide)] at H; obtain rfl := Option.some.inj H
     go_wp2_with (first | fail)
     go_ret
     exact ⟨Zl, (Zh GE111)⟩
  ·have H := HS_.out
   clear HS_; replace c3 := Bool.eq_false_iff.mpr c3; subst c3; rw [if_neg (show ¬ (false = true) by decide)] at H; obtain rfl := Option.some.inj H
   go_wp2_with (first | fail)
   go_ret
   exact ⟨Zl, (Zh GE111)⟩
def spec_AreArticles.l0 : Nat → List (S61) → Int → Option (Bool)
 | 0, _, _ => none
 | k + 1, x0, x3 => if x3 < (x0.length : Int) then (if 0 ≤ x3 then ((spec_IsArticle.f k ((rd_T61 x0 x3).f0) ((rd_T61 x0 x3).f1) ((rd_T61 x0 x3).f2) ((rd_T61 x0 x3).f3) ((rd_T61 x0 x3).f4) ((rd_T61 x0 x3).f5) ((rd_T61 x0 x3).f6) ((rd_T61 x0 x3).f7) ((rd_T61 x0 x3).f8)).bind fun t122 => (if t122 = true then (if x3 > 0 then (if 0 ≤ (wrap64 (x3 - 1)) then (if (wrap64 (x3 - 1)) < (x0.length : Int) then (if ((Op.bytesLess (((rd_T61 x0 (wrap64 (x3 - 1))).f0).toList) (((rd_T61 x0 x3).f0).toList)) = true) then (spec_AreArticles.l0 k x0 (wrap64 (x3 + 1))) else (some false)) else (none)) else (none)) else (spec_AreArticles.l0 k x0 (wrap64 (x3 + 1)))) else (some false))) else (none)) else (some (decide ((x0.length : Int) ≤ 12)))
def spec_AreArticles.f (k : Nat) (l0 : List (S61)) : Option (Bool) := spec_AreArticles.l0 k l0 0
def spec_AreArticles.T4 : Bool × List (List Nat × List Nat) := (true, [([], []), ([], []), ([0, 1], [0, 1]), ([2], [2]), ([3], [3]), ([4], [4]), ([5, 4], [5]), ([6], [6]), ([7, 6], [6, 7]), ([8, 6, 6], [6, 8]), ([9], [9]), ([9], [9]), ([11, 9], [9, 11]), ([10, 12, 9], [9, 10, 12]), ([13, 9], [9, 13]), ([14, 9], [9, 14]), ([9], [9]), ([9], [9]), ([16, 17, 9], [9, 16, 17]), ([18, 9], [9, 18]), ([19, 9], [9, 19]), ([15, 20, 9], [9, 15, 20]), ([9, 21, 6], [6, 9, 21]), ([6, 22], [6, 22])])
def spec_AreArticles.B4 : List Nat := [0, 0, 3, 7, 15, 31, 63, 127, 255, 511, 1023, 1023, 3071, 8191, 16383, 32767, 1023, 1023, 197631, 459775, 984063, 2097151, 4194303, 8388607]
theorem spec_AreArticles.tab4 : rtab .any (opsOf Try.f78 4) = spec_AreArticles.T4 := by kernel_rfl
theorem spec_AreArticles.bits4 : waitsOk spec_AreArticles.T4.2 spec_AreArticles.B4 = true := by kernel_rfl
set_option maxHeartbeats 8000000 in
set_option maxRecDepth 100000 in
theorem spec_AreArticles.calls (k : Nat) (A0 : Option Addr) (c0 : Nat) (l0 : List (S61)) (r : Bool) (w : World) (hr0 : Kd.C k61 w A0 l0.length l0) (hc0 : l0.length ≤ c0) (h : spec_AreArticles.f k l0 = some r) :
  Calls Try.prog 78 #[.slice A0 l0.length c0] w fun e w' => e = .returned (.bool r) ∧ Below w.heap.size w w' := by
 have hu61 := Try.underlying61; have HR0 := am_ hr0; have HC0 := am_ hc0; clear hr0 hc0; have HB := am_ (Below.refl w.heap.size w); have H : (spec_AreArticles.l0 k l0 0) = some r := h; clear h; have H' := am_ H; clear H
 go_enter Try.func78, Try.ntmps78
 go_wp2
 go_loopg [3] k (fun kq v3 w' => ∃ (x3_1 : Int), v3 = .int .i64 x3_1 ∧ Aside0 (spec_AreArticles.l0 kq l0 x3_1 = some r) ∧ Aside0 (kq ≤ k) ∧ Aside0 (Below w.heap.size w w'))
 case atStart => exact ⟨(0), Za, H', ⟨Nat.le_refl _⟩, ⟨Zf⟩⟩
 case round =>
  clear H'; obtain ⟨x3_1, rfl, HA, HK1, HB⟩ := hrel
  cases gk with
  | zero => exact absurd HA.out (by simp [spec_AreArticles.l0])
  | succ k1 =>
   have H := HA.out; clear HA; simp only [spec_AreArticles.l0] at H
   by_cases c2 : x3_1 < (l0.length : Int)
   ·rw [if_pos c2] at H
    have c2b0 := decide_eq_true c2; clear c2
    by_cases c3 : 0 ≤ x3_1
    ·rw [if_pos c3] at H
     have c3b0 := decide_eq_true c3; clear c3; replace H := Option.bind_eq_some_iff.mp H; obtain ⟨t122, A40, H⟩ := H; have A4 := am_ A40; clear A40
     by_cases c5 : t122 = true
     ·subst c5
      rw [if_pos rfl] at H
      by_cases c6 : x3_1 > 0
      ·rw [if_pos c6] at H
       have c6b0 : decide (0 < x3_1) = true := decide_eq_true c6; clear c6; obtain ⟨ji7, hji7⟩ : ∃ j_ : Int, (wrap64 (x3_1 - 1)) = j_ := ⟨_, rfl⟩
       replace H : (if 0 ≤ (ji7) then (if (ji7) < (l0.length : Int) then (if ((Op.bytesLess (((rd_T61 l0 (ji7)).f0).toList) (((rd_T61 l0 x3_1).f0).toList)) = true) then (spec_AreArticles.l0 k1 l0 (wrap64 (x3_1 + 1))) else (some false)) else (none)) else (none)) = some r := by first | (rw [hji7] at H; exact H) | (simp only [hji7] at H ⊢; exact H)
       (try rw [hji7] at A4)
       have hji7w : (IntKind.i64.wrap (x3_1 - 1)) = ji7 := (i64_w _).trans hji7
       by_cases c8 : 0 ≤ (ji7)
       ·rw [if_pos c8] at H
        have c8b0 := decide_eq_true c8; clear c8
        by_cases c9 : (ji7) < (l0.length : Int)
        ·rw [if_pos c9] at H
         have c9b0 := decide_eq_true c9; clear c9; have HS_ := am_ H; clear H
         try go_wp2
         replace HB := am_ (below_drew1 HB.out); have p121 : 0 ≤ (x3_1 : Int) := of_decide_eq_true Zc; have q121 : x3_1 < (l0.length : Int) := of_decide_eq_true Zc; obtain ⟨ad121, e121, hx121_0, hx121_1, hx121_2, hx121_3, hx121_4, hx121_5, hx121_6, hx121_7, hx121_8⟩ := at_T61 HR0.out x3_1 p121 q121; have hw121_8 := hx121_8; have hw121_7 := hx121_7; have hw121_6 := hx121_6; have hw121_5 := hx121_5; have hw121_4 := hx121_4; have hw121_3 := hx121_3; have hw121_2 := hx121_2; have hw121_1 := hx121_1; have hw121_0 := hx121_0
         cases e121
         replace hx121_0 := cbH HB hx121_0; replace hx121_1 := cbH HB hx121_1; replace hx121_2 := cbH HB hx121_2; replace hx121_3 := cbH HB hx121_3; replace hx121_4 := cbH HB hx121_4; replace hx121_5 := cbH HB hx121_5; replace hx121_6 := cbH HB hx121_6; replace hx121_7 := cbH HB hx121_7; replace hx121_8 := cbH HB hx121_8; replace p121 := eq_true p121; replace q121 := eq_true q121; have p123 : 0 ≤ ((ji7) : Int) := of_decide_eq_true Zc; have q123 : (ji7) < (l0.length : Int) := of_decide_eq_true Zc; obtain ⟨ad123, e123, hx123_0, hx123_1, hx123_2, hx123_3, hx123_4, hx123_5, hx123_6, hx123_7, hx123_8⟩ := at_T61 HR0.out (ji7) p123 q123; have hw123_8 := hx123_8; have hw123_7 := hx123_7; have hw123_6 := hx123_6; have hw123_5 := hx123_5; have hw123_4 := hx123_4; have hw123_3 := hx123_3; have hw123_2 := hx123_2; have hw123_1 := hx123_1; have hw123_0 := hx123_0; obtain rfl : ad121 = ad123 := (by injection e123); replace hx123_0 := cbH HB hx123_0; replace hx123_1 := cbH HB hx123_1; replace hx123_2 := cbH HB hx123_2; replace hx123_3 := cbH HB hx123_3; replace hx123_4 := cbH HB hx123_4; replace hx123_5 := cbH HB hx123_5; replace hx123_6 := cbH HB hx123_6; replace hx123_7 := cbH HB hx123_7; replace hx123_8 := cbH HB hx123_8; replace p123 := eq_true p123; replace q123 := eq_true q123; have p124 : 0 ≤ (x3_1 : Int) := of_decide_eq_true Zc; have q124 : x3_1 < (l0.length : Int) := of_decide_eq_true Zc; obtain ⟨ad124, e124, hx124_0, hx124_1, hx124_2, hx124_3, hx124_4, hx124_5, hx124_6, hx124_7, hx124_8⟩ := at_T61 HR0.out x3_1 p124 q124; have hw124_8 := hx124_8; have hw124_7 := hx124_7; have hw124_6 := hx124_6; have hw124_5 := hx124_5; have hw124_4 := hx124_4; have hw124_3 := hx124_3; have hw124_2 := hx124_2; have hw124_1 := hx124_1; have hw124_0 := hx124_0; obtain rfl : ad121 = ad124 := (by injection e124); replace hx124_0 := cbH HB hx124_0; replace hx124_1 := cbH HB hx124_1; replace hx124_2 := cbH HB hx124_2; replace hx124_3 := cbH HB hx124_3; replace hx124_4 := cbH HB hx124_4; replace hx124_5 := cbH HB hx124_5; replace hx124_6 := cbH HB hx124_6; replace hx124_7 := cbH HB hx124_7; replace hx124_8 := cbH HB hx124_8; replace p124 := eq_true p124; replace q124 := eq_true q124; refine start_ (n := 24) (S := fun w' => w'.cell? (ad121.add ((x3_1).toNat * 9)) = some (.string ((rd_T61 l0 x3_1).f0)) ∧ w'.cell? ⟨(ad121.add ((x3_1).toNat * 9)).block, (ad121.add ((x3_1).toNat * 9)).off + 1, none⟩ = some (.int .i64 ((rd_T61 l0 x3_1).f1)) ∧ w'.cell? ⟨(ad121.add ((x3_1).toNat * 9)).block, (ad121.add ((x3_1).toNat * 9)).off + 2, none⟩ = some (.int .i64 ((rd_T61 l0 x3_1).f2)) ∧ w'.cell? ⟨(ad121.add ((x3_1).toNat * 9)).block, (ad121.add ((x3_1).toNat * 9)).off + 3, none⟩ = some (.int .i64 ((rd_T61 l0 x3_1).f3)) ∧ w'.cell? ⟨(ad121.add ((x3_1).toNat * 9)).block, (ad121.add ((x3_1).toNat * 9)).off + 4, none⟩ = some (.int .i64 ((rd_T61 l0 x3_1).f4)) ∧ w'.cell? ⟨(ad121.add ((x3_1).toNat * 9)).block, (ad121.add ((x3_1).toNat * 9)).off + 5, none⟩ = some (.int .i64 ((rd_T61 l0 x3_1).f5)) ∧ w'.cell? ⟨(ad121.add ((x3_1).toNat * 9)).block, (ad121.add ((x3_1).toNat * 9)).off + 6, none⟩ = some (.int .i64 ((rd_T61 l0 x3_1).f6)) ∧ w'.cell? ⟨(ad121.add ((x3_1).toNat * 9)).block, (ad121.add ((x3_1).toNat * 9)).off + 7, none⟩ = some (.int .i64 ((rd_T61 l0 x3_1).f7)) ∧ w'.cell? ⟨(ad121.add ((x3_1).toNat * 9)).block, (ad121.add ((x3_1).toNat * 9)).off + 8, none⟩ = some (.int .i64 ((rd_T61 l0 x3_1).f8)) ∧ w'.cell? (ad121.add (((ji7)).toNat * 9)) = some (.string ((rd_T61 l0 (ji7)).f0)) ∧ w'.cell? ⟨(ad121.add (((ji7)).toNat * 9)).block, (ad121.add (((ji7)).toNat * 9)).off + 1, none⟩ = some (.int .i64 ((rd_T61 l0 (ji7)).f1)) ∧ w'.cell? ⟨(ad121.add (((ji7)).toNat * 9)).block, (ad121.add (((ji7)).toNat * 9)).off + 2, none⟩ = some (.int .i64 ((rd_T61 l0 (ji7)).f2)) ∧ w'.cell? ⟨(ad121.add (((ji7)).toNat * 9)).block, (ad121.add (((ji7)).toNat * 9)).off + 3, none⟩ = some (.int .i64 ((rd_T61 l0 (ji7)).f3)) ∧ w'.cell? ⟨(ad121.add (((ji7)).toNat * 9)).block, (ad121.add (((ji7)).toNat * 9)).off + 4, none⟩ = some (.int .i64 ((rd_T61 l0 (ji7)).f4)) ∧ w'.cell? ⟨(ad121.add (((ji7)).toNat * 9)).block, (ad121.add (((ji7)).toNat * 9)).off + 5, none⟩ = some (.int .i64 ((rd_T61 l0 (ji7)).f5)) ∧ w'.cell? ⟨(ad121.add (((ji7)).toNat * 9)).block, (ad121.add (((ji7)).toNat * 9)).off + 6, none⟩ = some (.int .i64 ((rd_T61 l0 (ji7)).f6)) ∧ w'.cell? ⟨(ad121.add (((ji7)).toNat * 9)).block, (ad121.add (((ji7)).toNat * 9)).off + 7, none⟩ = some (.int .i64 ((rd_T61 l0 (ji7)).f7)) ∧ w'.cell? ⟨(ad121.add (((ji7)).toNat * 9)).block, (ad121.add (((ji7)).toNat * 9)).off + 8, none⟩ = some (.int .i64 ((rd_T61 l0 (ji7)).f8)) ∧ w'.cell? (ad121.add ((x3_1).toNat * 9)) = some (.string ((rd_T61 l0 x3_1).f0)) ∧ w'.cell? ⟨(ad121.add ((x3_1).toNat * 9)).block, (ad121.add ((x3_1).toNat * 9)).off + 1, none⟩ = some (.int .i64 ((rd_T61 l0 x3_1).f1)) ∧ w'.cell? ⟨(ad121.add ((x3_1).toNat * 9)).block, (ad121.add ((x3_1).toNat * 9)).off + 2, none⟩ = some (.int .i64 ((rd_T61 l0 x3_1).f2)) ∧ w'.cell? ⟨(ad121.add ((x3_1).toNat * 9)).block, (ad121.add ((x3_1).toNat * 9)).off + 3, none⟩ = some (.int .i64 ((rd_T61 l0 x3_1).f3)) ∧ w'.cell? ⟨(ad121.add ((x3_1).toNat * 9)).block, (ad121.add ((x3_1).toNat * 9)).off + 4, none⟩ = some (.int .i64 ((rd_T61 l0 x3_1).f4)) ∧ w'.cell? ⟨(ad121.add ((x3_1).toNat * 9)).block, (ad121.add ((x3_1).toNat * 9)).off + 5, none⟩ = some (.int .i64 ((rd_T61 l0 x3_1).f5)) ∧ w'.cell? ⟨(ad121.add ((x3_1).toNat * 9)).block, (ad121.add ((x3_1).toNat * 9)).off + 6, none⟩ = some (.int .i64 ((rd_T61 l0 x3_1).f6)) ∧ w'.cell? ⟨(ad121.add ((x3_1).toNat * 9)).block, (ad121.add ((x3_1).toNat * 9)).off + 7, none⟩ = some (.int .i64 ((rd_T61 l0 x3_1).f7)) ∧ w'.cell? ⟨(ad121.add ((x3_1).toNat * 9)).block, (ad121.add ((x3_1).toNat * 9)).off + 8, none⟩ = some (.int .i64 ((rd_T61 l0 x3_1).f8))) (ds := []) (bT 24 0) Zm rfl rfl ⟨(cbH HB hw121_0 :), (cbH HB hw121_1 :), (cbH HB hw121_2 :), (cbH HB hw121_3 :), (cbH HB hw121_4 :), (cbH HB hw121_5 :), (cbH HB hw121_6 :), (cbH HB hw121_7 :), (cbH HB hw121_8 :), (cbH HB hw123_0 :), (cbH HB hw123_1 :), (cbH HB hw123_2 :), (cbH HB hw123_3 :), (cbH HB hw123_4 :), (cbH HB hw123_5 :), (cbH HB hw123_6 :), (cbH HB hw123_7 :), (cbH HB hw123_8 :), (cbH HB hw124_0 :), (cbH HB hw124_1 :), (cbH HB hw124_2 :), (cbH HB hw124_3 :), (cbH HB hw124_4 :), (cbH HB hw124_5 :), (cbH HB hw124_6 :), (cbH HB hw124_7 :), (cbH HB hw124_8 :)⟩ (fun hHeld => ?_); refine with_tabW spec_AreArticles.tab4 spec_AreArticles.bits4 (fun HT_ HW_ => ?_)
         generalize wr.drew = w11 at HB hx121_0 hx121_1 hx121_2 hx121_3 hx121_4 hx121_5 hx121_6 hx121_7 hx121_8 hx123_0 hx123_1 hx123_2 hx123_3 hx123_4 hx123_5 hx123_6 hx123_7 hx123_8 hx124_0 hx124_1 hx124_2 hx124_3 hx124_4 hx124_5 hx124_6 hx124_7 hx124_8 hHeld ⊢; refine pureZ HT_ 0 (some 10) (bT 24 1) ?_; refine pureZ HT_ 1 (some 11) (bT 24 2) ?_; refine pureZ HT_ 2 (some 12) (bT 24 3) ?_; refine takeZ27 HT_ HW_ 3 (some 13) (bT 24 4) hHeld ?_; refine one_ (i := 4) (N := some 14) (bT 24 5) rfl rfl (one_of HT_.out Zm) (by decide) (fun K hK => ?_); refine goes_ Try.func103 Zm rfl #[.agg #[.string ((rd_T61 l0 x3_1).f0), .int .i64 ((rd_T61 l0 x3_1).f1), .int .i64 ((rd_T61 l0 x3_1).f2), .int .i64 ((rd_T61 l0 x3_1).f3), .int .i64 ((rd_T61 l0 x3_1).f4), .int .i64 ((rd_T61 l0 x3_1).f5), .int .i64 ((rd_T61 l0 x3_1).f6), .int .i64 ((rd_T61 l0 x3_1).f7), .int .i64 ((rd_T61 l0 x3_1).f8)]] (by rfl) rfl rfl Zn ?_
         with_reducible refine (spec_IsArticle.calls k1 ((rd_T61 l0 x3_1).f0) ((rd_T61 l0 x3_1).f1) ((rd_T61 l0 x3_1).f2) ((rd_T61 l0 x3_1).f3) ((rd_T61 l0 x3_1).f4) ((rd_T61 l0 x3_1).f5) ((rd_T61 l0 x3_1).f6) ((rd_T61 l0 x3_1).f7) ((rd_T61 l0 x3_1).f8) true _ A4.out).mono ?_
         rintro e w12 ⟨rfl, hb⟩; refine ⟨_, rfl, ?_⟩; replace HB := (bsZ Zf hb)
         (try clear hb)
         (try clear hb2)
         (try clear hk)
         (try clear hi)
         refine hK.out _ _ ⟨(cbH HB hw121_0 :), (cbH HB hw121_1 :), (cbH HB hw121_2 :), (cbH HB hw121_3 :), (cbH HB hw121_4 :), (cbH HB hw121_5 :), (cbH HB hw121_6 :), (cbH HB hw121_7 :), (cbH HB hw121_8 :), (cbH HB hw123_0 :), (cbH HB hw123_1 :), (cbH HB hw123_2 :), (cbH HB hw123_3 :), (cbH HB hw123_4 :), (cbH HB hw123_5 :), (cbH HB hw123_6 :), (cbH HB hw123_7 :), (cbH HB hw123_8 :), (cbH HB hw124_0 :), (cbH HB hw124_1 :), (cbH HB hw124_2 :), (cbH HB hw124_3 :), (cbH HB hw124_4 :), (cbH HB hw124_5 :), (cbH HB hw124_6 :), (cbH HB hw124_7 :), (cbH HB hw124_8 :)⟩ (fun hHeld => ?_); clear hK K; refine normZ 14 ?_; refine pureZ HT_ 5 (some 15) (bT 24 6) ?_; refine pureZ HT_ 6 (some 16) (bT 24 7) ?_; refine pureZ HT_ 7 (some 17) (bT 24 8) ?_; refine pureZ HT_ 8 (some 18) (bT 24 9) ?_; refine pureZ HT_ 9 (some 19) (bT 24 10) ?_; refine pureZ HT_ 10 (some 20) (bT 24 11) ?_; refine pureZ HT_ 11 (some 21) (bT 24 12) ?_; refine pureZ HT_ 12 (some 22) (bT 24 13) ?_; refine pureZ HT_ 13 (some 23) (bT 24 14) ?_; refine pureZ HT_ 14 (some 24) (bT 24 15) ?_; refine pureZ HT_ 16 (some 26) (bB 24 98303) ?_; refine pureZ HT_ 17 (some 27) (bB 24 229375) ?_; refine pureZ HT_ 18 (some 28) (bB 24 491519) ?_; refine pureZ HT_ 19 (some 29) (bB 24 1015807) ?_; refine takeZ27 HT_ HW_ 15 (some 25) (bT 24 20) hHeld ?_; refine takeZ27 HT_ HW_ 20 (some 30) (bT 24 21) hHeld ?_; refine pureZ HT_ 21 (some 31) (bT 24 22) ?_; refine pureZ HT_ 22 (some 32) (bT 24 23) ?_; refine pureZ HT_ 23 (some 33) (bT 24 24) ?_; refine done_ (done_of HT_.out Zm) ?_
         by_cases c10 : ((Op.bytesLess (((rd_T61 l0 (ji7)).f0).toList) (((rd_T61 l0 x3_1).f0).toList)) = true)
         ·have H := HS_.out
          clear HS_; rw [if_pos c10] at H; have c10b0 : (Op.bytesLess (((rd_T61 l0 (ji7)).f0).toList) (((rd_T61 l0 x3_1).f0).toList)) = true := c10; clear c10; have H' := am_ H; clear H
          (try simp only [c10b0, Bool.not_true, Bool.not_false])
          try go_wp2
          go_roundg k1
          case measure => have := HK1.out; omega
          case rel => exact ⟨(wrap64 (x3_1 + 1)), Za, H', ⟨Zd⟩, ⟨Zf⟩⟩
         ·have H := HS_.out
          clear HS_; rw [if_neg c10] at H
          have c10b0 : (Op.bytesLess (((rd_T61 l0 (ji7)).f0).toList) (((rd_T61 l0 x3_1).f0).toList)) = false := by simpa using c10
          clear c10; obtain rfl := Option.some.inj H
          (try simp only [c10b0, Bool.not_true, Bool.not_false])
          try go_wp2
          go_ret
          exact ⟨by first | rfl | (simp [errW_none, errW_some] <;> rfl) | (simp only [← hji7]; first | rfl | (simp [errW_none, errW_some] <;> rfl)) | (simp [*, errW_none, errW_some] <;> rfl), Zf⟩
        ·rw [if_neg c9] at H
         exact absurd H (by simp)
       ·rw [if_neg c8] at H
        exact absurd H (by simp)
      ·rw [if_neg c6] at H
       have c6b0 : decide (0 < x3_1) = false := decide_eq_false c6; clear c6; have H' := am_ H; clear H
       try go_wp2
       replace HB := am_ (below_drew1 HB.out); have p121 : 0 ≤ (x3_1 : Int) := of_decide_eq_true Zc; have q121 : x3_1 < (l0.length : Int) := of_decide_eq_true Zc; obtain ⟨ad121, e121, hx121_0, hx121_1, hx121_2, hx121_3, hx121_4, hx121_5, hx121_6, hx121_7, hx121_8⟩ := at_T61 HR0.out x3_1 p121 q121; have hw121_8 := hx121_8; have hw121_7 := hx121_7; have hw121_6 := hx121_6; have hw121_5 := hx121_5; have hw121_4 := hx121_4; have hw121_3 := hx121_3; have hw121_2 := hx121_2; have hw121_1 := hx121_1; have hw121_0 := hx121_0
       cases e121
       replace hx121_0 := cbH HB hx121_0; replace hx121_1 := cbH HB hx121_1; replace hx121_2 := cbH HB hx121_2; replace hx121_3 := cbH HB hx121_3; replace hx121_4 := cbH HB hx121_4; replace hx121_5 := cbH HB hx121_5; replace hx121_6 := cbH HB hx121_6; replace hx121_7 := cbH HB hx121_7; replace hx121_8 := cbH HB hx121_8; replace p121 := eq_true p121; replace q121 := eq_true q121; refine start_ (n := 24) (S := fun w' => w'.cell? (ad121.add ((x3_1).toNat * 9)) = some (.string ((rd_T61 l0 x3_1).f0)) ∧ w'.cell? ⟨(ad121.add ((x3_1).toNat * 9)).block, (ad121.add ((x3_1).toNat * 9)).off + 1, none⟩ = some (.int .i64 ((rd_T61 l0 x3_1).f1)) ∧ w'.cell? ⟨(ad121.add ((x3_1).toNat * 9)).block, (ad121.add ((x3_1).toNat * 9)).off + 2, none⟩ = some (.int .i64 ((rd_T61 l0 x3_1).f2)) ∧ w'.cell? ⟨(ad121.add ((x3_1).toNat * 9)).block, (ad121.add ((x3_1).toNat * 9)).off + 3, none⟩ = some (.int .i64 ((rd_T61 l0 x3_1).f3)) ∧ w'.cell? ⟨(ad121.add ((x3_1).toNat * 9)).block, (ad121.add ((x3_1).toNat * 9)).off + 4, none⟩ = some (.int .i64 ((rd_T61 l0 x3_1).f4)) ∧ w'.cell? ⟨(ad121.add ((x3_1).toNat * 9)).block, (ad121.add ((x3_1).toNat * 9)).off + 5, none⟩ = some (.int .i64 ((rd_T61 l0 x3_1).f5)) ∧ w'.cell? ⟨(ad121.add ((x3_1).toNat * 9)).block, (ad121.add ((x3_1).toNat * 9)).off + 6, none⟩ = some (.int .i64 ((rd_T61 l0 x3_1).f6)) ∧ w'.cell? ⟨(ad121.add ((x3_1).toNat * 9)).block, (ad121.add ((x3_1).toNat * 9)).off + 7, none⟩ = some (.int .i64 ((rd_T61 l0 x3_1).f7)) ∧ w'.cell? ⟨(ad121.add ((x3_1).toNat * 9)).block, (ad121.add ((x3_1).toNat * 9)).off + 8, none⟩ = some (.int .i64 ((rd_T61 l0 x3_1).f8))) (ds := []) (bT 24 0) Zm rfl rfl ⟨(cbH HB hw121_0 :), (cbH HB hw121_1 :), (cbH HB hw121_2 :), (cbH HB hw121_3 :), (cbH HB hw121_4 :), (cbH HB hw121_5 :), (cbH HB hw121_6 :), (cbH HB hw121_7 :), (cbH HB hw121_8 :)⟩ (fun hHeld => ?_); refine with_tabW spec_AreArticles.tab4 spec_AreArticles.bits4 (fun HT_ HW_ => ?_); generalize wr.drew = w15 at HB hx121_0 hx121_1 hx121_2 hx121_3 hx121_4 hx121_5 hx121_6 hx121_7 hx121_8 hHeld ⊢; refine pureZ HT_ 0 (some 10) (bT 24 1) ?_; refine pureZ HT_ 1 (some 11) (bT 24 2) ?_; refine pureZ HT_ 2 (some 12) (bT 24 3) ?_; refine takeZ9 HT_ HW_ 3 (some 13) (bT 24 4) hHeld ?_; refine one_ (i := 4) (N := some 14) (bT 24 5) rfl rfl (one_of HT_.out Zm) (by decide) (fun K hK => ?_); refine goes_ Try.func103 Zm rfl #[.agg #[.string ((rd_T61 l0 x3_1).f0), .int .i64 ((rd_T61 l0 x3_1).f1), .int .i64 ((rd_T61 l0 x3_1).f2), .int .i64 ((rd_T61 l0 x3_1).f3), .int .i64 ((rd_T61 l0 x3_1).f4), .int .i64 ((rd_T61 l0 x3_1).f5), .int .i64 ((rd_T61 l0 x3_1).f6), .int .i64 ((rd_T61 l0 x3_1).f7), .int .i64 ((rd_T61 l0 x3_1).f8)]] (by rfl) rfl rfl Zn ?_
       with_reducible refine (spec_IsArticle.calls k1 ((rd_T61 l0 x3_1).f0) ((rd_T61 l0 x3_1).f1) ((rd_T61 l0 x3_1).f2) ((rd_T61 l0 x3_1).f3) ((rd_T61 l0 x3_1).f4) ((rd_T61 l0 x3_1).f5) ((rd_T61 l0 x3_1).f6) ((rd_T61 l0 x3_1).f7) ((rd_T61 l0 x3_1).f8) true _ A4.out).mono ?_
       rintro e w16 ⟨rfl, hb⟩; refine ⟨_, rfl, ?_⟩; replace HB := (bsZ Zf hb)
       (try clear hb)
       (try clear hb2)
       (try clear hk)
       (try clear hi)
       refine hK.out _ _ ⟨(cbH HB hw121_0 :), (cbH HB hw121_1 :), (cbH HB hw121_2 :), (cbH HB hw121_3 :), (cbH HB hw121_4 :), (cbH HB hw121_5 :), (cbH HB hw121_6 :), (cbH HB hw121_7 :), (cbH HB hw121_8 :)⟩ (fun hHeld => ?_); clear hK K; refine normZ 14 ?_; refine pureZ HT_ 5 (some 15) (bT 24 6) ?_; refine pureZ HT_ 6 (some 16) (bT 24 7) ?_; refine pureZ HT_ 7 (some 17) (bT 24 8) ?_; refine pureZ HT_ 8 (some 18) (bT 24 9) ?_; refine pureZ HT_ 9 (some 19) (bT 24 10) ?_; refine pureU HT_ 10 (some 20) (bT 24 11) ?_; refine pureU HT_ 11 (some 21) (bT 24 12) ?_; refine pureU HT_ 12 (some 22) (bT 24 13) ?_; refine pureU HT_ 13 (some 23) (bT 24 14) ?_; refine pureU HT_ 14 (some 24) (bT 24 15) ?_; refine pureU HT_ 15 (some 25) (bT 24 16) ?_; refine pureU HT_ 16 (some 26) (bT 24 17) ?_; refine pureU HT_ 17 (some 27) (bT 24 18) ?_; refine pureU HT_ 18 (some 28) (bT 24 19) ?_; refine pureU HT_ 19 (some 29) (bT 24 20) ?_; refine pureU HT_ 20 (some 30) (bT 24 21) ?_; refine pureU HT_ 21 (some 31) (bT 24 22) ?_; refine pureZ HT_ 22 (some 32) (bT 24 23) ?_; refine pureZ HT_ 23 (some 33) (bT 24 24) ?_; refine done_ (done_of HT_.out Zm) ?_
       try go_wp2
       go_roundg k1
       case measure => have := HK1.out; omega
       case rel => exact ⟨(wrap64 (x3_1 + 1)), Za, H', ⟨Zd⟩, ⟨Zf⟩⟩
     ·replace c5 := Bool.eq_false_iff.mpr c5
      subst c5; rw [if_neg (show ¬ (false = true) by decide)] at H; obtain rfl := Option.some.inj H
      try go_wp2
      replace HB := am_ (below_drew1 HB.out); have p121 : 0 ≤ (x3_1 : Int) := of_decide_eq_true Zc; have q121 : x3_1 < (l0.length : Int) := of_decide_eq_true Zc; obtain ⟨ad121, e121, hx121_0, hx121_1, hx121_2, hx121_3, hx121_4, hx121_5, hx121_6, hx121_7, hx121_8⟩ := at_T61 HR0.out x3_1 p121 q121; have hw121_8 := hx121_8; have hw121_7 := hx121_7; have hw121_6 := hx121_6; have hw121_5 := hx121_5; have hw121_4 := hx121_4; have hw121_3 := hx121_3; have hw121_2 := hx121_2; have hw121_1 := hx121_1; have hw121_0 := hx121_0
      cases e121
      replace hx121_0 := cbH HB hx121_0; replace hx121_1 := cbH HB hx121_1; replace hx121_2 := cbH HB hx121_2; replace hx121_3 := cbH HB hx121_3; replace hx121_4 := cbH HB hx121_4; replace hx121_5 := cbH HB hx121_5; replace hx121_6 := cbH HB hx121_6; replace hx121_7 := cbH HB hx121_7; replace hx121_8 := cbH HB hx121_8; replace p121 := eq_true p121; replace q121 := eq_true q121; refine start_ (n := 24) (S := fun w' => w'.cell? (ad121.add ((x3_1).toNat * 9)) = some (.string ((rd_T61 l0 x3_1).f0)) ∧ w'.cell? ⟨(ad121.add ((x3_1).toNat * 9)).block, (ad121.add ((x3_1).toNat * 9)).off + 1, none⟩ = some (.int .i64 ((rd_T61 l0 x3_1).f1)) ∧ w'.cell? ⟨(ad121.add ((x3_1).toNat * 9)).block, (ad121.add ((x3_1).toNat * 9)).off + 2, none⟩ = some (.int .i64 ((rd_T61 l0 x3_1).f2)) ∧ w'.cell? ⟨(ad121.add ((x3_1).toNat * 9)).block, (ad121.add ((x3_1).toNat * 9)).off + 3, none⟩ = some (.int .i64 ((rd_T61 l0 x3_1).f3)) ∧ w'.cell? ⟨(ad121.add ((x3_1).toNat * 9)).block, (ad121.add ((x3_1).toNat * 9)).off + 4, none⟩ = some (.int .i64 ((rd_T61 l0 x3_1).f4)) ∧ w'.cell? ⟨(ad121.add ((x3_1).toNat * 9)).block, (ad121.add ((x3_1).toNat * 9)).off + 5, none⟩ = some (.int .i64 ((rd_T61 l0 x3_1).f5)) ∧ w'.cell? ⟨(ad121.add ((x3_1).toNat * 9)).block, (ad121.add ((x3_1).toNat * 9)).off + 6, none⟩ = some (.int .i64 ((rd_T61 l0 x3_1).f6)) ∧ w'.cell? ⟨(ad121.add ((x3_1).toNat * 9)).block, (ad121.add ((x3_1).toNat * 9)).off + 7, none⟩ = some (.int .i64 ((rd_T61 l0 x3_1).f7)) ∧ w'.cell? ⟨(ad121.add ((x3_1).toNat * 9)).block, (ad121.add ((x3_1).toNat * 9)).off + 8, none⟩ = some (.int .i64 ((rd_T61 l0 x3_1).f8))) (ds := []) (bT 24 0) Zm rfl rfl ⟨(cbH HB hw121_0 :), (cbH HB hw121_1 :), (cbH HB hw121_2 :), (cbH HB hw121_3 :), (cbH HB hw121_4 :), (cbH HB hw121_5 :), (cbH HB hw121_6 :), (cbH HB hw121_7 :), (cbH HB hw121_8 :)⟩ (fun hHeld => ?_); refine with_tabW spec_AreArticles.tab4 spec_AreArticles.bits4 (fun HT_ HW_ => ?_); generalize wr.drew = w17 at HB hx121_0 hx121_1 hx121_2 hx121_3 hx121_4 hx121_5 hx121_6 hx121_7 hx121_8 hHeld ⊢; refine pureZ HT_ 0 (some 10) (bT 24 1) ?_; refine pureZ HT_ 1 (some 11) (bT 24 2) ?_; refine pureZ HT_ 2 (some 12) (bT 24 3) ?_; refine takeZ9 HT_ HW_ 3 (some 13) (bT 24 4) hHeld ?_; refine one_ (i := 4) (N := some 14) (bT 24 5) rfl rfl (one_of HT_.out Zm) (by decide) (fun K hK => ?_); refine goes_ Try.func103 Zm rfl #[.agg #[.string ((rd_T61 l0 x3_1).f0), .int .i64 ((rd_T61 l0 x3_1).f1), .int .i64 ((rd_T61 l0 x3_1).f2), .int .i64 ((rd_T61 l0 x3_1).f3), .int .i64 ((rd_T61 l0 x3_1).f4), .int .i64 ((rd_T61 l0 x3_1).f5), .int .i64 ((rd_T61 l0 x3_1).f6), .int .i64 ((rd_T61 l0 x3_1).f7), .int .i64 ((rd_T61 l0 x3_1).f8)]] (by rfl) rfl rfl Zn ?_
      with_reducible refine (spec_IsArticle.calls k1 ((rd_T61 l0 x3_1).f0) ((rd_T61 l0 x3_1).f1) ((rd_T61 l0 x3_1).f2) ((rd_T61 l0 x3_1).f3) ((rd_T61 l0 x3_1).f4) ((rd_T61 l0 x3_1).f5) ((rd_T61 l0 x3_1).f6) ((rd_T61 l0 x3_1).f7) ((rd_T61 l0 x3_1).f8) false _ A4.out).mono ?_
      rintro e w18 ⟨rfl, hb⟩; refine ⟨_, rfl, ?_⟩; replace HB := (bsZ Zf hb)
      (try clear hb)
      (try clear hb2)
      (try clear hk)
      (try clear hi)
      refine hK.out _ _ ⟨(cbH HB hw121_0 :), (cbH HB hw121_1 :), (cbH HB hw121_2 :), (cbH HB hw121_3 :), (cbH HB hw121_4 :), (cbH HB hw121_5 :), (cbH HB hw121_6 :), (cbH HB hw121_7 :), (cbH HB hw121_8 :)⟩ (fun hHeld => ?_); clear hK K; refine normZ 14 ?_; refine pureZ HT_ 5 (some 15) (bT 24 6) ?_; refine pureZ HT_ 6 (some 16) (bT 24 7) ?_; refine pureU HT_ 7 (some 17) (bT 24 8) ?_; refine pureU HT_ 8 (some 18) (bT 24 9) ?_; refine pureU HT_ 9 (some 19) (bT 24 10) ?_; refine pureU HT_ 10 (some 20) (bT 24 11) ?_; refine pureU HT_ 11 (some 21) (bT 24 12) ?_; refine pureU HT_ 12 (some 22) (bT 24 13) ?_; refine pureU HT_ 13 (some 23) (bT 24 14) ?_; refine pureU HT_ 14 (some 24) (bT 24 15) ?_; refine pureU HT_ 15 (some 25) (bT 24 16) ?_; refine pureU HT_ 16 (some 26) (bT 24 17) ?_; refine pureU HT_ 17 (some 27) (bT 24 18) ?_; refine pureU HT_ 18 (some 28) (bT 24 19) ?_; refine pureU HT_ 19 (some 29) (bT 24 20) ?_; refine pureU HT_ 20 (some 30) (bT 24 21) ?_; refine pureU HT_ 21 (some 31) (bT 24 22) ?_; refine pureU HT_ 22 (some 32) (bT 24 23) ?_; refine pureZ HT_ 23 (some 33) (bT 24 24) ?_; refine done_ (done_of HT_.out Zm) ?_
      try go_wp2
      go_ret
      exact ⟨Zl, Zf⟩
    ·rw [if_neg c3] at H
     exact absurd H (by simp)
   ·rw [if_neg c2] at H
    have c2b0 := decide_eq_false c2; clear c2; obtain rfl := Option.some.inj H
    go_wp2
    go_ret
    exact ⟨Zl, Zf⟩
def spec_IsScore.l0 : Nat → List (S104) → Int → Option (Bool)
 | 0, _, _ => none
 | k + 1, x0, x3 => if x3 < (x0.length : Int) then (if 0 ≤ x3 then ((spec_l01In.f ((rd_T104 x0 x3).f0) 1 16).bind fun t127 => (if t127 = true then ((spec_l01In.f ((rd_T104 x0 x3).f1) 100 5000).bind fun t129 => (if t129 = true then (spec_IsScore.l0 k x0 (wrap64 (x3 + 1))) else (some false))) else (some false))) else (none)) else ((spec_l01In.f (x0.length : Int) 1 20).bind fun t125 => (some t125))
def spec_IsScore.f (k : Nat) (l0 : List (S104)) : Option (Bool) := spec_IsScore.l0 k l0 0
set_option maxHeartbeats 8000000 in
set_option maxRecDepth 100000 in
theorem spec_IsScore.calls (k : Nat) (A0 : Option Addr) (c0 : Nat) (l0 : List (S104)) (r : Bool) (w : World) (hr0 : Kd.C k104 w A0 l0.length l0) (hc0 : l0.length ≤ c0) (h : spec_IsScore.f k l0 = some r) :
  Calls Try.prog 82 #[.slice A0 l0.length c0] w fun e w' => e = .returned (.bool r) ∧ Drawn0 w w' := by
 have HR0 := am_ hr0; have HC0 := am_ hc0; clear hr0 hc0; have H : (spec_IsScore.l0 k l0 0) = some r := h; clear h; have H' := am_ H; clear H
 go_enter Try.func82, Try.ntmps82
 go_wp2
 go_loopg [3] k (fun kq v3 w' => ∃ (x3_1 : Int), v3 = .int .i64 x3_1 ∧ Aside0 (spec_IsScore.l0 kq l0 x3_1 = some r) ∧ Aside0 (kq ≤ k) ∧ Drawn0 w w')
 case atStart => exact ⟨(0), Za, H', ⟨Nat.le_refl _⟩, Zb⟩
 case round =>
  clear H'; obtain ⟨x3_1, rfl, HA, HK1, ⟨m1, rfl⟩⟩ := hrel
  cases gk with
  | zero => exact absurd HA.out (by simp [spec_IsScore.l0])
  | succ k1 =>
   have H := HA.out; clear HA; simp only [spec_IsScore.l0] at H
   by_cases c2 : x3_1 < (l0.length : Int)
   ·rw [if_pos c2] at H
    have c2b0 := decide_eq_true c2; clear c2
    by_cases c3 : 0 ≤ x3_1
    ·rw [if_pos c3] at H
     have c3b0 := decide_eq_true c3; clear c3; replace H := Option.bind_eq_some_iff.mp H; obtain ⟨t127, A40, H⟩ := H; have A4 := am_ A40; clear A40; have HS_ := am_ H; clear H; have p126 : 0 ≤ (x3_1 : Int) := of_decide_eq_true Zc; have q126 : x3_1 < (l0.length : Int) := of_decide_eq_true Zc; obtain ⟨ad126, e126, hx126_0, hx126_1⟩ := at_T104 HR0.out x3_1 p126 q126
     cases e126
     replace p126 := eq_true p126; replace q126 := eq_true q126
     go_wp2_with (first | ((with_reducible refine gate_callee (f := 56) rfl ?_); refine gZ 15 Try.func56 #[.int .i64 ((rd_T104 l0 x3_1).f0), .int .i64 1, .int .i64 16] ?_; (with_reducible refine (spec_l01In.calls ((rd_T104 l0 x3_1).f0) 1 16 t127 _ A4.out).mono ?_); rintro e w' ⟨rfl, ⟨nd, rfl⟩⟩; refine ⟨_, rfl, ?_⟩; refine ?roundEnd))
     case roundEnd =>
      by_cases c5 : t127 = true
      ·have H := HS_.out
       clear HS_; subst c5; rw [if_pos rfl] at H; replace H := Option.bind_eq_some_iff.mp H; obtain ⟨t129, A60, H⟩ := H; have A6 := am_ A60; clear A60; have HS_ := am_ H; clear H; have p128 : 0 ≤ (x3_1 : Int) := of_decide_eq_true Zc; have q128 : x3_1 < (l0.length : Int) := of_decide_eq_true Zc; obtain ⟨ad128, e128, hx128_0, hx128_1⟩ := at_T104 HR0.out x3_1 p128 q128; obtain rfl : ad126 = ad128 := (by injection e128); replace p128 := eq_true p128; replace q128 := eq_true q128
       go_wp2_with (first | (go_at_call 56; (with_reducible refine (spec_l01In.calls ((rd_T104 l0 x3_1).f1) 100 5000 t129 _ A6.out).mono ?_); rintro e w' ⟨rfl, ⟨nd, rfl⟩⟩; refine ?roundEnd))
       case roundEnd =>
        by_cases c7 : t129 = true
        ·have H := HS_.out
         clear HS_; subst c7; rw [if_pos rfl] at H; have H' := am_ H; clear H
         go_wp2_with (first | fail)
         go_roundg k1
         case measure => have := HK1.out; omega
         case rel => exact ⟨(wrap64 (x3_1 + 1)), Za, H', ⟨Zd⟩, Zb⟩
        ·have H := HS_.out
         clear HS_; replace c7 := Bool.eq_false_iff.mpr c7; subst c7; rw [if_neg (show ¬ (false = true) by decide)] at H; obtain rfl := Option.some.inj H
         go_wp2_with (first | fail)
         go_ret
         exact ⟨Za, Zb⟩
      ·have H := HS_.out
       clear HS_; replace c5 := Bool.eq_false_iff.mpr c5; subst c5; rw [if_neg (show ¬ (false = true) by decide)] at H; obtain rfl := Option.some.inj H
       go_wp2_with (first | fail)
       go_ret
       exact ⟨Za, Zb⟩
    ·rw [if_neg c3] at H
     exact absurd H (by simp)
   ·rw [if_neg c2] at H
    have c2b0 := decide_eq_false c2; clear c2; replace H := Option.bind_eq_some_iff.mp H; obtain ⟨t125, A80, H⟩ := H; have A8 := am_ A80; clear A80; obtain rfl := Option.some.inj H
    go_wp2_with (first | ((with_reducible refine gate_callee (f := 56) rfl ?_); refine gZ 28 Try.func56 #[.int .i64 (l0.length : Int), .int .i64 1, .int .i64 20] ?_; (with_reducible refine (spec_l01In.calls (l0.length : Int) 1 20 t125 _ A8.out).mono ?_); rintro e w' ⟨rfl, ⟨nd, rfl⟩⟩; refine ⟨_, rfl, ?_⟩))
    go_ret
    exact ⟨Za, Zb⟩
def spec_l07Has.f (l0 : List (S104)) (a1 : Int) (a2 : Int) : Option (Bool) := (spec_l01In.f a1 0 (wrap64 ((l0.length : Int) - 1))).bind fun t130 => (if t130 = true then (if 0 ≤ a1 then (if a1 < (l0.length : Int) then ((spec_l01In.f a2 0 (wrap64 (((rd_T104 l0 a1).f0) - 1))).bind fun t132 => (some t132)) else (none)) else (none)) else (some false))
set_option maxHeartbeats 8000000 in
set_option maxRecDepth 100000 in
theorem spec_l07Has.calls (A0 : Option Addr) (c0 : Nat) (l0 : List (S104)) (a1 : Int) (a2 : Int) (r : Bool) (w : World) (hr0 : Kd.C k104 w A0 l0.length l0) (hc0 : l0.length ≤ c0) (h : spec_l07Has.f l0 a1 a2 = some r) :
  Calls Try.prog 83 #[.slice A0 l0.length c0, .int .i64 a1, .int .i64 a2] w fun e w' => e = .returned (.bool r) ∧ Drawn0 w w' := by
 have HR0 := am_ hr0; have HC0 := am_ hc0; clear hr0 hc0; have H : ((spec_l01In.f a1 0 (wrap64 ((l0.length : Int) - 1))).bind fun t130 => (if t130 = true then (if 0 ≤ a1 then (if a1 < (l0.length : Int) then ((spec_l01In.f a2 0 (wrap64 (((rd_T104 l0 a1).f0) - 1))).bind fun t132 => (some t132)) else (none)) else (none)) else (some false))) = some r := h; clear h; replace H := Option.bind_eq_some_iff.mp H; obtain ⟨t130, A40, H⟩ := H; have A4 := am_ A40; clear A40; have HS_ := am_ H; clear H
 go_enter Try.func83, Try.ntmps83
 go_wp2_with (first | ((with_reducible refine gate_callee (f := 56) rfl ?_); refine gZ 11 Try.func56 #[.int .i64 a1, .int .i64 0, .int .i64 (wrap64 ((l0.length : Int) - 1))] ?_; (with_reducible refine (spec_l01In.calls a1 0 (wrap64 ((l0.length : Int) - 1)) t130 _ A4.out).mono ?_); rintro e w' ⟨rfl, ⟨nd, rfl⟩⟩; refine ⟨_, rfl, ?_⟩; refine ?roundEnd))
 case roundEnd =>
  by_cases c5 : t130 = true
  ·have H := HS_.out
   clear HS_; subst c5; rw [if_pos rfl] at H
   by_cases c6 : 0 ≤ a1
   ·rw [if_pos c6] at H
    have c6b0 := decide_eq_true c6; clear c6
    by_cases c7 : a1 < (l0.length : Int)
    ·rw [if_pos c7] at H
     have c7b0 := decide_eq_true c7; clear c7; replace H := Option.bind_eq_some_iff.mp H; obtain ⟨t132, A80, H⟩ := H; have A8 := am_ A80; clear A80; obtain rfl := Option.some.inj H; have p131 : 0 ≤ (a1 : Int) := of_decide_eq_true Zc; have q131 : a1 < (l0.length : Int) := of_decide_eq_true Zc; obtain ⟨ad131, e131, hx131_0, hx131_1⟩ := at_T104 HR0.out a1 p131 q131
     cases e131
     replace p131 := eq_true p131; replace q131 := eq_true q131
     go_wp2_with (first | (go_at_call 56; (with_reducible refine (spec_l01In.calls a2 0 (wrap64 (((rd_T104 l0 a1).f0) - 1)) t132 _ A8.out).mono ?_); rintro e w' ⟨rfl, ⟨nd, rfl⟩⟩))
     go_ret
     exact ⟨Za, Zb⟩
    ·rw [if_neg c7] at H
     exact absurd H (by simp)
   ·rw [if_neg c6] at H
    exact absurd H (by simp)
  ·have H := HS_.out
   clear HS_; replace c5 := Bool.eq_false_iff.mpr c5; subst c5; rw [if_neg (show ¬ (false = true) by decide)] at H; obtain rfl := Option.some.inj H
   go_wp2_with (first | fail)
   go_ret
   exact ⟨Za, Zb⟩
mutual
def spec_IsShow.j0 : Nat → Bool → List (S104) → List (S61) → List (S58) → Option (Bool)
 | 0, _, _, _, _ => none
 | k + 1, x20, x134000, x134001, x134002 => if x20 = true then (some false) else (spec_IsShow.l0 k 0 x134000 x134001 x134002)
def spec_IsShow.l0 : Nat → Int → List (S104) → List (S61) → List (S58) → Option (Bool)
 | 0, _, _, _, _ => none
 | k + 1, x3, x134000, x134001, x134002 => if x3 < (x134002.length : Int) then (if 0 ≤ x3 then ((spec_l07Has.f x134000 ((rd_T58 x134002 x3).f0) ((rd_T58 x134002 x3).f1)).bind fun t138 => (if t138 = true then ((spec_l03Find.f k x134001 ((rd_T58 x134002 x3).f2)).bind fun t139 => (if t139 < 0 then (some false) else ((spec_l01In.f ((rd_T58 x134002 x3).f3) 0 11).bind fun t140 => (if t140 = true then ((spec_l08Time.f k x134000 x134001 x134002 ((rd_T58 x134002 x3).f0) ((rd_T58 x134002 x3).f1) ((rd_T58 x134002 x3).f2) ((rd_T58 x134002 x3).f3)).bind fun t141 => (if t141 < 0 then (some false) else (spec_IsShow.l0 k (wrap64 (x3 + 1)) x134000 x134001 x134002))) else (some false))))) else (some false))) else (none)) else (some true)
end
def spec_IsShow.f (k : Nat) (l0_0 : List (S104)) (l0_1 : List (S61)) (l0_2 : List (S58)) : Option (Bool) := (spec_IsScore.f k l0_0).bind fun t134 => (if t134 = true then ((spec_AreArticles.f k l0_1).bind fun t135 => (if t135 = true then (spec_IsShow.j0 k (decide ((l0_2.length : Int) > 20)) l0_0 l0_1 l0_2) else (spec_IsShow.j0 k true l0_0 l0_1 l0_2))) else (spec_IsShow.j0 k true l0_0 l0_1 l0_2))
set_option maxHeartbeats 8000000 in
set_option maxRecDepth 100000 in
theorem spec_IsShow.calls (k : Nat) (A0_0 : Option Addr) (c0_0 : Nat) (l0_0 : List (S104)) (A0_1 : Option Addr) (c0_1 : Nat) (l0_1 : List (S61)) (A0_2 : Option Addr) (c0_2 : Nat) (l0_2 : List (S58)) (r : Bool) (w : World) (hr0_0 : Kd.C k104 w A0_0 l0_0.length l0_0) (hc0_0 : l0_0.length ≤ c0_0) (hr0_1 : Kd.C k61 w A0_1 l0_1.length l0_1) (hc0_1 : l0_1.length ≤ c0_1) (hr0_2 : Kd.C k58 w A0_2 l0_2.length l0_2) (hc0_2 : l0_2.length ≤ c0_2) (h : spec_IsShow.f k l0_0 l0_1 l0_2 = some r) :
  Calls Try.prog 43 #[.agg #[.slice A0_0 l0_0.length c0_0, .slice A0_1 l0_1.length c0_1, .slice A0_2 l0_2.length c0_2]] w fun e w' => e = .returned (.bool r) ∧ Below w.heap.size w w' := by
 have hu35 := Try.underlying35; have hu58 := Try.underlying58; have HR0_0 := am_ hr0_0; have HC0_0 := am_ hc0_0; clear hr0_0 hc0_0; have HR0_1 := am_ hr0_1; have HC0_1 := am_ hc0_1; clear hr0_1 hc0_1; have HR0_2 := am_ hr0_2; have HC0_2 := am_ hc0_2; clear hr0_2 hc0_2; have HB := am_ (Below.refl w.heap.size w); have H : ((spec_IsScore.f k l0_0).bind fun t134 => (if t134 = true then ((spec_AreArticles.f k l0_1).bind fun t135 => (if t135 = true then (spec_IsShow.j0 k (decide ((l0_2.length : Int) > 20)) l0_0 l0_1 l0_2) else (spec_IsShow.j0 k true l0_0 l0_1 l0_2))) else (spec_IsShow.j0 k true l0_0 l0_1 l0_2))) = some r := h; clear h; have HC2 := am_ H; clear H
 go_enter Try.func43, Try.ntmps43
 go_upto_region 1 with (first | ((with_reducible refine gate_dst (N := 1) rfl ?_); (try (refine gate_guard (by rfl) ?_; dsimp only)); refine boxZ 1 #[.slice A0_0 l0_0.length c0_0, .slice A0_1 l0_1.length c0_1, .slice A0_2 l0_2.length c0_2] 35 ?_; intro gb133 hg w3 hbox hb; replace BK133 := am_ (hbox); replace GW133 := am_ ((Ze : w.heap.size ≤ gb133)); replace GE133 := GW133; replace HB := (bsZ Zf hb); clear hb hbox hg))
 (try simp only [Act.put, List.setIfInBounds_toArray, List.set_cons_zero, List.set_cons_succ])
 go_cut [20] (fun v20 wc => ∃ (kq : Nat) (x20_1 : Bool), v20 = .bool x20_1 ∧ Aside0 (spec_IsShow.j0 kq x20_1 l0_0 l0_1 l0_2 = some r) ∧ Aside0 (kq ≤ k) ∧ Aside0 (wc.heap[gb133]? = some (.cells #[(.slice A0_0 l0_0.length c0_0), (.slice A0_1 l0_1.length c0_1), (.slice A0_2 l0_2.length c0_2)] 35 (0, 0))) ∧ Aside0 (Below w.heap.size w wc))
 case first =>
  have H := HC2.out; clear HC2; replace H := Option.bind_eq_some_iff.mp H; obtain ⟨t134, A40, H⟩ := H; have A4 := am_ A40; clear A40; have HS_ := am_ H; clear H; refine ci3 BK133 ?_; intros
  go_wp2_with (first | ((with_reducible refine gate_callee (f := 82) rfl ?_); refine gZ 7 Try.func82 #[.slice A0_0 l0_0.length c0_0] ?_; (with_reducible refine (spec_IsScore.calls k _ _ l0_0 t134 _ ?_ ?_ A4.out).mono ?_); exact (Zi HR0_0); exact HC0_0.out; rintro e w' ⟨rfl, ⟨nd, rfl⟩⟩; refine ⟨_, rfl, ?_⟩; refine ?roundEnd))
  case roundEnd =>
   by_cases c5 : t134 = true
   ·have H := HS_.out
    clear HS_; subst c5; rw [if_pos rfl] at H; replace H := Option.bind_eq_some_iff.mp H; obtain ⟨t135, A60, H⟩ := H; have A6 := am_ A60; clear A60; have HS_ := am_ H; clear H
    go_wp2_with (first | (go_at_call 78; (with_reducible refine (spec_AreArticles.calls k _ _ l0_1 t135 _ ?_ ?_ A6.out).mono ?_); exact (Zo HR0_1 GE133); exact HC0_1.out; rintro e w9 ⟨rfl, hb⟩; replace BK133 := (bkZ BK133 hb); replace HB := (bsZ (Zh GE133) hb); clear hb; refine ?roundEnd))
    case roundEnd =>
     by_cases c7 : t135 = true
     ·have H := HS_.out
      clear HS_; subst c7; rw [if_pos rfl] at H; have H' := am_ H; clear H; refine ci3 BK133 ?_; intros
      go_wp2_with (first | fail)
      go_meet
      case rel => exact ⟨_, (decide ((l0_2.length : Int) > 20)), Za, H', ⟨Zp⟩, ⟨(Zq BK133)⟩, ⟨(Zh GE133)⟩⟩
     ·have H := HS_.out
      clear HS_; replace c7 := Bool.eq_false_iff.mpr c7; subst c7; rw [if_neg (show ¬ (false = true) by decide)] at H; have H' := am_ H; clear H
      go_wp2_with (first | fail)
      go_meet
      case rel => exact ⟨_, (true), Za, H', ⟨Zp⟩, ⟨(Zq BK133)⟩, ⟨(Zh GE133)⟩⟩
   ·have H := HS_.out
    clear HS_; replace c5 := Bool.eq_false_iff.mpr c5; subst c5; rw [if_neg (show ¬ (false = true) by decide)] at H; have H' := am_ H; clear H
    go_wp2_with (first | fail)
    go_meet
    case rel => exact ⟨_, (true), Za, H', ⟨Zp⟩, ⟨(Zq BK133)⟩, ⟨(Zh GE133)⟩⟩
 case rest =>
  clear HC2
  try clear p2
  try clear c4
  try clear c5
  try clear c7
  try clear c8
  obtain ⟨kq, x20_1, rfl, HA, HJ1, BK133, HB⟩ := hcut
  cases kq with
  | zero => exact absurd HA.out (by simp [spec_IsShow.j0])
  | succ kj1 =>
   have H := HA.out; clear HA; simp only [spec_IsShow.j0] at H
   by_cases c14 : x20_1 = true
   ·subst c14
    rw [if_pos rfl] at H; obtain rfl := Option.some.inj H
    go_wp2
    go_ret
    exact ⟨Zl, (Zh GE133)⟩
   ·replace c14 := Bool.eq_false_iff.mpr c14
    subst c14; rw [if_neg (show ¬ (false = true) by decide)] at H; have H' := am_ H; clear H
    go_wp2
    go_loopg [3] kj1 (fun kq v3 w' => ∃ (x3_2 : Int), v3 = .int .i64 x3_2 ∧ Aside0 (spec_IsShow.l0 kq x3_2 l0_0 l0_1 l0_2 = some r) ∧ Aside0 (kq ≤ kj1) ∧ Aside0 (w'.heap[gb133]? = some (.cells #[(.slice A0_0 l0_0.length c0_0), (.slice A0_1 l0_1.length c0_1), (.slice A0_2 l0_2.length c0_2)] 35 (0, 0))) ∧ Aside0 (Below w.heap.size w w'))
    case atStart => exact ⟨(0), Za, H', ⟨Nat.le_refl _⟩, ⟨(Zq BK133)⟩, ⟨(Zh GE133)⟩⟩
    case round =>
     clear H'
     try clear c1
     try clear p2
     try clear c4
     try clear c5
     try clear c7
     try clear c8
     try clear c14
     try clear p2
     obtain ⟨x3_2, rfl, HA, HK2, BK133, HB⟩ := hrel
     cases gk with
     | zero => exact absurd HA.out (by simp [spec_IsShow.l0])
     | succ k2 =>
      have H := HA.out; clear HA; simp only [spec_IsShow.l0] at H
      by_cases c15 : x3_2 < (l0_2.length : Int)
      ·rw [if_pos c15] at H
       have c15b0 := decide_eq_true c15; clear c15
       by_cases c16 : 0 ≤ x3_2
       ·rw [if_pos c16] at H
        have c16b0 := decide_eq_true c16; clear c16; replace H := Option.bind_eq_some_iff.mp H; obtain ⟨t138, A170, H⟩ := H; have A17 := am_ A170; clear A170; have HS_ := am_ H; clear H; refine ci3 BK133 ?_; intros; have p136 : 0 ≤ (x3_2 : Int) := of_decide_eq_true Zc; have q136 : x3_2 < (l0_2.length : Int) := of_decide_eq_true Zc; obtain ⟨ad136, e136, hx136_0, hx136_1, hx136_2, hx136_3⟩ := at_T58 HR0_2.out x3_2 p136 q136
        cases e136
        replace hx136_0 := cbH HB hx136_0; replace hx136_1 := cbH HB hx136_1; replace hx136_2 := cbH HB hx136_2; replace hx136_3 := cbH HB hx136_3; replace p136 := eq_true p136; replace q136 := eq_true q136
        go_wp2_with (first | ((with_reducible refine gate_dst (N := 4) rfl ?_); (try (refine gate_guard (by rfl) ?_; dsimp only)); refine boxZ 4 #[.int .i64 0, .int .i64 0, .string (⟨#[]⟩ : ByteArray), .int .i64 0] 58 ?_; intro gb137 hg w22 hbox hb; replace BK137 := am_ (hbox); replace GW137 := am_ (((Zg GE133) : w.heap.size ≤ gb137)); replace GE137 := GW137; replace HB := (bsZ (Zh GE133) hb); replace NB133_137 := am_ ((by rw [hg]; exact Nat.ne_of_lt (blk_lt (g := gb133) (b0Z BK133)) : gb133 ≠ gb137)); replace NB137_133 := am_ ((by rw [hg]; exact Nat.ne_of_gt (blk_lt (g := gb133) (b0Z BK133)) : gb137 ≠ gb133)); replace BK133 := (bkZ BK133 hb); clear hb hbox hg; have hnb23 := NB137_133.out; have hnc23 := NB133_137.out; refine ci4 BK137 ?_; intros; refine ci3 BK133 ?_; intros) | ((with_reducible refine gate_callee (f := 83) rfl ?_); refine gZ 39 Try.func83 #[.slice A0_0 l0_0.length c0_0, .int .i64 ((rd_T58 l0_2 x3_2).f0), .int .i64 ((rd_T58 l0_2 x3_2).f1)] ?_; (with_reducible refine (spec_l07Has.calls _ _ l0_0 ((rd_T58 l0_2 x3_2).f0) ((rd_T58 l0_2 x3_2).f1) t138 _ ?_ ?_ A17.out).mono ?_); exact Kd.C_below HR0_0.out (Zk GE133 GE137); exact HC0_0.out; rintro e w' ⟨rfl, ⟨nd, rfl⟩⟩; refine ⟨_, rfl, ?_⟩; refine ?roundEnd))
        case roundEnd =>
         by_cases c18 : t138 = true
         ·have H := HS_.out
          clear HS_; subst c18; rw [if_pos rfl] at H; replace H := Option.bind_eq_some_iff.mp H; obtain ⟨t139, A190, H⟩ := H; have A19 := am_ A190; clear A190; have HS_ := am_ H; clear H
          go_wp2_with (first | (go_at_call 70; (with_reducible refine (spec_l03Find.calls k2 _ _ l0_1 ((rd_T58 l0_2 x3_2).f2) t139 _ ?_ ?_ A19.out).mono ?_); exact Kd.C_below HR0_1.out (Zk GE133 GE137); exact HC0_1.out; rintro e w' ⟨rfl, ⟨nd, rfl⟩⟩; refine ?roundEnd))
          case roundEnd =>
           by_cases c20 : t139 < 0
           ·have H := HS_.out
            clear HS_; rw [if_pos c20] at H; have c20b0 := decide_eq_true c20; clear c20; obtain rfl := Option.some.inj H
            go_wp2_with (first | fail)
            go_ret
            exact ⟨Zl, (Zk GE133 GE137)⟩
           ·have H := HS_.out
            clear HS_; rw [if_neg c20] at H; have c20b0 := decide_eq_false c20; clear c20; replace H := Option.bind_eq_some_iff.mp H; obtain ⟨t140, A260, H⟩ := H; have A26 := am_ A260; clear A260; have HS_ := am_ H; clear H
            go_wp2_with (first | (go_at_call 56; (with_reducible refine (spec_l01In.calls ((rd_T58 l0_2 x3_2).f3) 0 11 t140 _ A26.out).mono ?_); rintro e w' ⟨rfl, ⟨nd, rfl⟩⟩; refine ?roundEnd))
            case roundEnd =>
             by_cases c27 : t140 = true
             ·have H := HS_.out
              clear HS_; subst c27; rw [if_pos rfl] at H; replace H := Option.bind_eq_some_iff.mp H; obtain ⟨t141, A280, H⟩ := H; have A28 := am_ A280; clear A280; have HS_ := am_ H; clear H
              go_wp2_with (first | (go_at_call 72; (with_reducible refine (spec_l08Time.calls k2 _ _ l0_0 _ _ l0_1 _ _ l0_2 ((rd_T58 l0_2 x3_2).f0) ((rd_T58 l0_2 x3_2).f1) ((rd_T58 l0_2 x3_2).f2) ((rd_T58 l0_2 x3_2).f3) t141 _ ?_ ?_ ?_ ?_ ?_ ?_ A28.out).mono ?_); exact Kd.C_below HR0_0.out (Zk GE133 GE137); exact HC0_0.out; exact Kd.C_below HR0_1.out (Zk GE133 GE137); exact HC0_1.out; exact Kd.C_below HR0_2.out (Zk GE133 GE137); exact HC0_2.out; rintro e w35 ⟨rfl, hb⟩; replace BK133 := am_ (blk_below (g := gb133) (bfZ BK133 NB133_137) hb); replace BK137 := am_ (blk_below (g := gb137) (o := .cells #[.int .i64 ((rd_T58 l0_2 x3_2).f0), .int .i64 ((rd_T58 l0_2 x3_2).f1), .string ((rd_T58 l0_2 x3_2).f2), .int .i64 ((rd_T58 l0_2 x3_2).f3)] 58 (0, 0)) (bpZ BK137) hb); replace HB := (bsZ (Zk GE133 GE137) hb); clear hb; refine ?roundEnd))
              case roundEnd =>
               by_cases c29 : t141 < 0
               ·have H := HS_.out
                clear HS_; rw [if_pos c29] at H; have c29b0 := decide_eq_true c29; clear c29; obtain rfl := Option.some.inj H
                go_wp2_with (first | fail)
                go_ret
                exact ⟨Zl, (Zk GE133 GE137)⟩
               ·have H := HS_.out
                clear HS_; rw [if_neg c29] at H; have c29b0 := decide_eq_false c29; clear c29; have H' := am_ H; clear H
                go_wp2_with (first | fail)
                go_roundg k2
                case measure => have := HJ1.out; have := HK2.out; omega
                case rel => exact ⟨(wrap64 (x3_2 + 1)), Za, H', ⟨by have := HJ1.out; have := HK2.out; omega⟩, ⟨(Zq BK133)⟩, ⟨(Zk GE133 GE137)⟩⟩
             ·have H := HS_.out
              clear HS_; replace c27 := Bool.eq_false_iff.mpr c27; subst c27; rw [if_neg (show ¬ (false = true) by decide)] at H; obtain rfl := Option.some.inj H
              go_wp2_with (first | fail)
              go_ret
              exact ⟨Zl, (Zk GE133 GE137)⟩
         ·have H := HS_.out
          clear HS_; replace c18 := Bool.eq_false_iff.mpr c18; subst c18; rw [if_neg (show ¬ (false = true) by decide)] at H; obtain rfl := Option.some.inj H
          go_wp2_with (first | fail)
          go_ret
          exact ⟨Zl, (Zk GE133 GE137)⟩
       ·rw [if_neg c16] at H
        exact absurd H (by simp)
      ·rw [if_neg c15] at H
       have c15b0 := decide_eq_false c15; clear c15; obtain rfl := Option.some.inj H; refine ci3 BK133 ?_; intros
       go_wp2
       go_ret
       exact ⟨Zl, (Zh GE133)⟩
mutual
def spec_l08Order.l0 : Nat → List Int → List Int → Int → Option (List Int)
 | 0, _, _, _ => none
 | k + 1, x0, x3, x4 => if x4 < (x0.length : Int) then (spec_l08Order.l1 k x0 x3 x4 0) else (some x3)
def spec_l08Order.l1 : Nat → List Int → List Int → Int → Int → Option (List Int)
 | 0, _, _, _, _ => none
 | k + 1, x0, x3, x4, x5 => if x5 < (x3.length : Int) then (if 0 ≤ x5 then (if 0 ≤ (rd x3 x5) then (if (rd x3 x5) < (x0.length : Int) then (if 0 ≤ x4 then (if x4 < (x0.length : Int) then (if (rd x0 (rd x3 x5)) ≤ (rd x0 x4) then (spec_l08Order.l1 k x0 x3 x4 (wrap64 (x5 + 1))) else ((some (([] : List Int) : List Int)).bind fun y148 => (if x5 ≤ (x3.length : Int) then ((some (x3.take (x5 : Int).toNat : List Int)).bind fun y151 => (if y148.length + y151.length < 17592186044416 then ((some (y148 ++ y151 : List Int)).bind fun y155 => ((some (([x4] : List Int) : List Int)).bind fun y158 => (if y155.length + y158.length < 17592186044416 then ((some (y155 ++ y158 : List Int)).bind fun y161 => ((some (x3.drop (x5 : Int).toNat : List Int)).bind fun y164 => (if y161.length + y164.length < 17592186044416 then (spec_l08Order.l0 k x0 (y161 ++ y164) (wrap64 (x4 + 1))) else (none)))) else (none)))) else (none))) else (none)))) else (none)) else (none)) else (none)) else (none)) else (none)) else ((some (([] : List Int) : List Int)).bind fun y171 => (if 0 ≤ x5 then (if x5 ≤ (x3.length : Int) then ((some (x3.take (x5 : Int).toNat : List Int)).bind fun y174 => (if y171.length + y174.length < 17592186044416 then ((some (y171 ++ y174 : List Int)).bind fun y178 => ((some (([x4] : List Int) : List Int)).bind fun y181 => (if y178.length + y181.length < 17592186044416 then ((some (y178 ++ y181 : List Int)).bind fun y184 => ((some (x3.drop (x5 : Int).toNat : List Int)).bind fun y187 => (if y184.length + y187.length < 17592186044416 then (spec_l08Order.l0 k x0 (y184 ++ y187) (wrap64 (x4 + 1))) else (none)))) else (none)))) else (none))) else (none)) else (none)))
end
def spec_l08Order.f (k : Nat) (l0 : List Int) : Option (List Int) := spec_l08Order.l0 k l0 (([] : List Int)) 0
def spec_l08Order.T6 : Bool × List (List Nat × List Nat) := (true, [([], []), ([], []), ([1], [1]), ([0, 2], [0, 2]), ([3], [3]), ([4], [4]), ([4], [4]), ([4], [4]), ([6, 7, 4], [4, 6, 7]), ([8, 4], [4, 8]), ([5, 9, 4], [4, 5, 9]), ([10, 4], [4, 10]), ([4], [4]), ([4], [4]), ([12, 13, 4], [4, 12, 13]), ([14, 4], [4, 14]), ([11, 15, 4], [4, 11, 15]), ([4, 16], [4, 16])])
def spec_l08Order.B6 : List Nat := [0, 0, 2, 7, 15, 31, 31, 31, 223, 479, 1023, 2047, 31, 31, 12319, 28703, 65535, 131071]
theorem spec_l08Order.tab6 : rtab .any (opsOf Try.f44 6) = spec_l08Order.T6 := by kernel_rfl
theorem spec_l08Order.bits6 : waitsOk spec_l08Order.T6.2 spec_l08Order.B6 = true := by kernel_rfl
def spec_l08Order.T8 : Bool × List (List Nat × List Nat) := (true, [([], []), ([], []), ([], []), ([1, 2], [1, 2]), ([0, 3], [0, 3]), ([], []), ([5], [5]), ([4, 6, 4], [4, 6]), ([], []), ([], []), ([8, 9], [8, 9]), ([7, 10, 7], [7, 10]), ([11, 11, 0, 1, 2, 3, 4, 5, 6, 7, 8, 9, 10, 11], [1, 8, 11])])
def spec_l08Order.B8 : List Nat := [0, 0, 0, 6, 15, 0, 32, 127, 0, 0, 768, 2047, 4095]
theorem spec_l08Order.tab8 : rtab .any (opsOf Try.f44 8) = spec_l08Order.T8 := by kernel_rfl
theorem spec_l08Order.bits8 : waitsOk spec_l08Order.T8.2 spec_l08Order.B8 = true := by kernel_rfl
set_option maxHeartbeats 8000000 in
set_option maxRecDepth 100000 in
theorem spec_l08Order.calls (k : Nat) (A0 : Option Addr) (c0 : Nat) (l0 : List Int) (r : List Int) (w : World) (hr0 : Kd.C (Kd.int .i64) w A0 l0.length l0) (hc0 : l0.length ≤ c0) (h : spec_l08Order.f k l0 = some r) :
  Calls Try.prog 44 #[.slice A0 l0.length c0] w fun e w' => ∃ v0_ : Value, e = .returned (v0_) ∧ Kd.R (Kd.int .i64) 2 w' w.heap.size (fun _ => True) v0_ r ∧ Below w.heap.size w w' := by
 have HR0 := am_ hr0; have HC0 := am_ hc0; clear hr0 hc0; have HB := am_ (Below.refl w.heap.size w); have H : (spec_l08Order.l0 k l0 (([] : List Int)) 0) = some r := h; clear h; obtain ⟨y142, hy142⟩ : ∃ y_ : List Int, y_ = (([] : List Int)) := ⟨_, rfl⟩
 replace H : (spec_l08Order.l0 k l0 y142 0) = some r := by (try rw [hy142]); first | with_reducible exact H | with_reducible exact (Option.bind_some _ _).symm.trans H | exact H
 have Ny142 := am_ hy142; clear hy142; have H' := am_ H; clear H
 go_enter Try.func44, Try.ntmps44
 go_wp2_with (first | ((with_reducible refine gate_dst (N := 6) rfl ?_); refine Kd.R_lit (Kd.int .i64) _ 2 ?hg (N := 6) ?hd (xs := ([] : List Int)) (inner := []) (ok := fun _ => True) (okp := fun _ => True) ?hr ?hp (fun _ hk => hk) trivial (Below.refl _ _) (Nat.le_refl _) (by simp) ?_; (case hd => rfl); (case hg => rfl); (case hr => first | (go_simp; done) | (go_simp; rfl)); (case hp => exact (Reps.none _ _)); intro v143 w2 ho3 hb hg_ hnew_; clear hg_ hnew_; (first | rw [← Ny142.out] at ho3 | (simp only [Int.reduceToNat] at ho3; rw [← Ny142.out] at ho3)); replace HO144 := am_ (Kd.R_lower ho3 (below_size Zf)); replace HB := (bsZ Zf hb); clear hb ho3))
 go_loopg [3, 4] k (fun kq v3 v4 w' => ∃ (x3_1 : List Int) (x4_1 : Int), v4 = .int .i64 x4_1 ∧ Aside0 (spec_l08Order.l0 kq l0 x3_1 x4_1 = some r) ∧ Aside0 (kq ≤ k) ∧ Aside0 (Kd.R (Kd.int .i64) 2 w' w.heap.size (fun _ => True) v3 x3_1) ∧ Aside0 (Below w.heap.size w w'))
 case atStart => exact ⟨(y142), (0), Za, H', ⟨Nat.le_refl _⟩, ⟨(Zr HO144)⟩, ⟨Zf⟩⟩
 case round =>
  clear H'
  try clear p2
  obtain ⟨x3_1, x4_1, rfl, HA, HK1, HO_3, HB⟩ := hrel
  cases gk with
  | zero => exact absurd HA.out (by simp [spec_l08Order.l0])
  | succ k1 =>
   have H := HA.out; clear HA; simp only [spec_l08Order.l0] at H
   by_cases c4 : x4_1 < (l0.length : Int)
   ·rw [if_pos c4] at H
    have c4b0 := decide_eq_true c4; clear c4; have H' := am_ H; clear H
    go_wp2
    go_loopg [5] k1 (fun kq v5 w' => ∃ (x5_2 : Int), v5 = .int .i64 x5_2 ∧ Aside0 (spec_l08Order.l1 kq l0 x3_1 x4_1 x5_2 = some r) ∧ Aside0 (kq ≤ k1) ∧ Aside0 (Kd.R (Kd.int .i64) 2 w' w.heap.size (fun _ => True) u3 x3_1) ∧ Aside0 (Below w.heap.size w w'))
    case atStart => exact ⟨(0), Za, H', ⟨Nat.le_refl _⟩, ⟨(Zr HO_3)⟩, ⟨Zf⟩⟩
    case round =>
     clear H'
     try clear p2
     try clear c4
     try clear c4b0
     try clear p2
     obtain ⟨x5_2, rfl, HA, HK2, HO_3, HB⟩ := hrel
     cases gk with
     | zero => exact absurd HA.out (by simp [spec_l08Order.l1])
     | succ k2 =>
      have H := HA.out; clear HA; simp only [spec_l08Order.l1] at H
      by_cases c5 : x5_2 < (x3_1.length : Int)
      ·rw [if_pos c5] at H
       have c5b0 := decide_eq_true c5; clear c5
       by_cases c6 : 0 ≤ x5_2
       ·rw [if_pos c6] at H
        have c6b0 := decide_eq_true c6; clear c6
        by_cases c7 : 0 ≤ (rd x3_1 x5_2)
        ·rw [if_pos c7] at H
         have c7b0 := decide_eq_true c7; clear c7
         by_cases c8 : (rd x3_1 x5_2) < (l0.length : Int)
         ·rw [if_pos c8] at H
          have c8b0 := decide_eq_true c8; clear c8
          by_cases c9 : 0 ≤ x4_1
          ·rw [if_pos c9] at H
           have c9b0 := decide_eq_true c9; clear c9
           by_cases c10 : x4_1 < (l0.length : Int)
           ·rw [if_pos c10] at H
            have c10b0 := decide_eq_true c10; clear c10
            by_cases c11 : (rd l0 (rd x3_1 x5_2)) ≤ (rd l0 x4_1)
            ·rw [if_pos c11] at H
             have c11b0 := decide_eq_true c11; clear c11; have H' := am_ H; clear H
             try go_wp2
             replace HO_3 := am_ (Kd.R_drew HO_3.out); replace HB := am_ (below_drew1 HB.out); obtain ⟨Ao13, co13, eo13⟩ := Kd.R_slice HO_3.out
             (first | subst eo13 | (injection eo13 with f1_ f2_ f3_; have f4_ := f1_.symm; have f5_ := f3_.symm; clear f1_ f2_ f3_; subst f4_; subst f5_))
             have p145 : 0 ≤ (x5_2 : Int) := of_decide_eq_true Zc; have q145 : x5_2 < (x3_1.length : Int) := of_decide_eq_true Zc; obtain ⟨ad145, e145, hx145_0⟩ := Kd.at_int (Kd.R_reads' HO_3.out).2.2 x5_2 p145 q145
             cases e145
             replace p145 := eq_true p145; replace q145 := eq_true q145; have p146 : 0 ≤ ((rd x3_1 x5_2) : Int) := of_decide_eq_true Zc; have q146 : (rd x3_1 x5_2) < (l0.length : Int) := of_decide_eq_true Zc; obtain ⟨ad146, e146, hx146_0⟩ := Kd.at_int HR0.out (rd x3_1 x5_2) p146 q146; have hw146_0 := hx146_0
             cases e146
             replace hx146_0 := cbH HB hx146_0; replace p146 := eq_true p146; replace q146 := eq_true q146; have p147 : 0 ≤ (x4_1 : Int) := of_decide_eq_true Zc; have q147 : x4_1 < (l0.length : Int) := of_decide_eq_true Zc; obtain ⟨ad147, e147, hx147_0⟩ := Kd.at_int HR0.out x4_1 p147 q147; have hw147_0 := hx147_0; obtain rfl : ad146 = ad147 := (by injection e147); replace hx147_0 := cbH HB hx147_0; replace p147 := eq_true p147; replace q147 := eq_true q147; refine start_ (n := 18) (S := fun w' => w'.cell? (ad145.add (x5_2).toNat) = some (.int .i64 (rd x3_1 x5_2)) ∧ w'.cell? (ad146.add ((rd x3_1 x5_2)).toNat) = some (.int .i64 (rd l0 (rd x3_1 x5_2))) ∧ w'.cell? (ad146.add (x4_1).toNat) = some (.int .i64 (rd l0 x4_1))) (ds := []) (bT 18 0) Zm rfl rfl ⟨hx145_0, (cbH HB hw146_0 :), (cbH HB hw147_0 :)⟩ (fun hHeld => ?_); refine with_tabW spec_l08Order.tab6 spec_l08Order.bits6 (fun HT_ HW_ => ?_); generalize wr.drew = w12 at HO_3 HB hx145_0 hx146_0 hx147_0 hHeld ⊢; refine pureZ HT_ 0 (some 13) (bT 18 1) ?_; refine pureZ HT_ 1 (some 14) (bT 18 2) ?_; refine pureZ HT_ 2 (some 15) (bT 18 3) ?_; refine pureZ HT_ 3 (some 16) (bT 18 4) ?_; refine pureZ HT_ 4 (some 17) (bT 18 5) ?_; refine pureZ HT_ 5 (some 18) (bT 18 6) ?_; refine pureZ HT_ 6 (some 19) (bT 18 7) ?_; refine pureZ HT_ 7 (some 20) (bT 18 8) ?_; refine pureZ HT_ 8 (some 21) (bT 18 9) ?_; refine pureZ HT_ 12 (some 25) (bB 18 4607) ?_; refine pureZ HT_ 13 (some 26) (bB 18 12799) ?_; refine pureZ HT_ 14 (some 27) (bB 18 29183) ?_; refine takeZ3 HT_ HW_ 9 (some 22) (bB 18 29695) hHeld ?_; refine pureZ HT_ 10 (some 23) (bB 18 30719) ?_; refine takeZ3 HT_ HW_ 11 (some 24) (bT 18 15) hHeld ?_; refine takeZ3 HT_ HW_ 15 (some 28) (bT 18 16) hHeld ?_; refine pureZ HT_ 16 (some 29) (bT 18 17) ?_; refine pureZ HT_ 17 (some 30) (bT 18 18) ?_; refine done_ (done_of HT_.out Zm) ?_
             try go_wp2
             go_roundg k2
             case measure => have := HK1.out; have := HK2.out; omega
             case rel => exact ⟨(wrap64 (x5_2 + 1)), Za, H', ⟨Zs⟩, ⟨(Zr HO_3)⟩, ⟨Zf⟩⟩
            ·rw [if_neg c11] at H
             have c11b0 := decide_eq_false c11; clear c11; obtain ⟨y148, hy148⟩ : ∃ y_ : List Int, y_ = (([] : List Int)) := ⟨_, rfl⟩
             replace H : (if x5_2 ≤ (x3_1.length : Int) then ((some (x3_1.take (x5_2 : Int).toNat : List Int)).bind fun y151 => (if y148.length + y151.length < 17592186044416 then ((some (y148 ++ y151 : List Int)).bind fun y155 => ((some (([x4_1] : List Int) : List Int)).bind fun y158 => (if y155.length + y158.length < 17592186044416 then ((some (y155 ++ y158 : List Int)).bind fun y161 => ((some (x3_1.drop (x5_2 : Int).toNat : List Int)).bind fun y164 => (if y161.length + y164.length < 17592186044416 then (spec_l08Order.l0 k2 l0 (y161 ++ y164) (wrap64 (x4_1 + 1))) else (none)))) else (none)))) else (none))) else (none)) = some r := by (try rw [hy148]); first | with_reducible exact H | with_reducible exact (Option.bind_some _ _).symm.trans H | exact H
             have Ny148 := am_ hy148; clear hy148; have c14b0 := eq_true (of_decide_eq_true Zc : 0 ≤ x5_2)
             by_cases c15 : x5_2 ≤ (x3_1.length : Int)
             ·rw [if_pos c15] at H
              have c15b0 := eq_true c15; have c15b1 := decide_eq_true c15; clear c15; obtain ⟨y151, hy151⟩ : ∃ y_ : List Int, y_ = (x3_1.take (x5_2 : Int).toNat) := ⟨_, rfl⟩
              (first | (rw [← hy151] at H; with_reducible replace H := bindZ H) | rw [← hy151] at H | skip)
              have Ny151 := am_ hy151; clear hy151
              by_cases c16 : y148.length + y151.length < 17592186044416
              ·rw [if_pos c16] at H
               have LMc16 := am_ c16; clear c16; obtain ⟨y155, hy155⟩ : ∃ y_ : List Int, y_ = (y148 ++ y151) := ⟨_, rfl⟩
               (first | (rw [← hy155] at H; with_reducible replace H := bindZ H) | rw [← hy155] at H | skip)
               have Ny155 := am_ hy155; clear hy155; obtain ⟨y158, hy158⟩ : ∃ y_ : List Int, y_ = (([x4_1] : List Int)) := ⟨_, rfl⟩
               (first | (rw [← hy158] at H; with_reducible replace H := bindZ H) | rw [← hy158] at H | skip)
               have Ny158 := am_ hy158; clear hy158
               by_cases c17 : y155.length + y158.length < 17592186044416
               ·rw [if_pos c17] at H
                have LMc17 := am_ c17; clear c17; obtain ⟨y161, hy161⟩ : ∃ y_ : List Int, y_ = (y155 ++ y158) := ⟨_, rfl⟩
                (first | (rw [← hy161] at H; with_reducible replace H := bindZ H) | rw [← hy161] at H | skip)
                have Ny161 := am_ hy161; clear hy161; have c18b0 := eq_true (of_decide_eq_true Zc : 0 ≤ x5_2); have c19b0 := eq_true (of_decide_eq_true Zc : x5_2 ≤ (x3_1.length : Int)); obtain ⟨y164, hy164⟩ : ∃ y_ : List Int, y_ = (x3_1.drop (x5_2 : Int).toNat) := ⟨_, rfl⟩
                (first | (rw [← hy164] at H; with_reducible replace H := bindZ H) | rw [← hy164] at H | skip)
                have Ny164 := am_ hy164; clear hy164
                by_cases c20 : y161.length + y164.length < 17592186044416
                ·rw [if_pos c20] at H
                 have LMc20 := am_ c20; clear c20; obtain ⟨y168, hy168⟩ : ∃ y_ : List Int, y_ = (y161 ++ y164) := ⟨_, rfl⟩
                 (first | (rw [← hy168] at H; with_reducible replace H := bindZ H) | rw [← hy168] at H | skip)
                 have Ny168 := am_ hy168; clear hy168; have H' := am_ H; clear H
                 try go_wp2
                 replace HO_3 := am_ (Kd.R_drew HO_3.out); replace HB := am_ (below_drew1 HB.out); obtain ⟨Ao22, co22, eo22⟩ := Kd.R_slice HO_3.out
                 (first | subst eo22 | (injection eo22 with f1_ f2_ f3_; have f4_ := f1_.symm; have f5_ := f3_.symm; clear f1_ f2_ f3_; subst f4_; subst f5_))
                 have p145 : 0 ≤ (x5_2 : Int) := of_decide_eq_true Zc; have q145 : x5_2 < (x3_1.length : Int) := of_decide_eq_true Zc; obtain ⟨ad145, e145, hx145_0⟩ := Kd.at_int (Kd.R_reads' HO_3.out).2.2 x5_2 p145 q145
                 cases e145
                 replace p145 := eq_true p145; replace q145 := eq_true q145; have p146 : 0 ≤ ((rd x3_1 x5_2) : Int) := of_decide_eq_true Zc; have q146 : (rd x3_1 x5_2) < (l0.length : Int) := of_decide_eq_true Zc; obtain ⟨ad146, e146, hx146_0⟩ := Kd.at_int HR0.out (rd x3_1 x5_2) p146 q146; have hw146_0 := hx146_0
                 cases e146
                 replace hx146_0 := cbH HB hx146_0; replace p146 := eq_true p146; replace q146 := eq_true q146; have p147 : 0 ≤ (x4_1 : Int) := of_decide_eq_true Zc; have q147 : x4_1 < (l0.length : Int) := of_decide_eq_true Zc; obtain ⟨ad147, e147, hx147_0⟩ := Kd.at_int HR0.out x4_1 p147 q147; have hw147_0 := hx147_0; obtain rfl : ad146 = ad147 := (by injection e147); replace hx147_0 := cbH HB hx147_0; replace p147 := eq_true p147; replace q147 := eq_true q147; refine start_ (n := 18) (S := fun w' => w'.cell? (ad145.add (x5_2).toNat) = some (.int .i64 (rd x3_1 x5_2)) ∧ w'.cell? (ad146.add ((rd x3_1 x5_2)).toNat) = some (.int .i64 (rd l0 (rd x3_1 x5_2))) ∧ w'.cell? (ad146.add (x4_1).toNat) = some (.int .i64 (rd l0 x4_1))) (ds := []) (bT 18 0) Zm rfl rfl ⟨hx145_0, (cbH HB hw146_0 :), (cbH HB hw147_0 :)⟩ (fun hHeld => ?_); refine with_tabW spec_l08Order.tab6 spec_l08Order.bits6 (fun HT_ HW_ => ?_); generalize wr.drew = w21 at HO_3 HB hx145_0 hx146_0 hx147_0 hHeld ⊢; refine pureZ HT_ 0 (some 13) (bT 18 1) ?_; refine pureZ HT_ 1 (some 14) (bT 18 2) ?_; refine pureZ HT_ 2 (some 15) (bT 18 3) ?_; refine pureZ HT_ 3 (some 16) (bT 18 4) ?_; refine pureZ HT_ 4 (some 17) (bT 18 5) ?_; refine pureZ HT_ 5 (some 18) (bT 18 6) ?_; refine pureZ HT_ 6 (some 19) (bT 18 7) ?_; refine pureZ HT_ 7 (some 20) (bT 18 8) ?_; refine pureZ HT_ 8 (some 21) (bT 18 9) ?_; refine pureZ HT_ 12 (some 25) (bB 18 4607) ?_; refine pureZ HT_ 13 (some 26) (bB 18 12799) ?_; refine pureZ HT_ 14 (some 27) (bB 18 29183) ?_; refine takeZ3 HT_ HW_ 9 (some 22) (bB 18 29695) hHeld ?_; refine pureZ HT_ 10 (some 23) (bB 18 30719) ?_; refine takeZ3 HT_ HW_ 11 (some 24) (bT 18 15) hHeld ?_; refine takeZ3 HT_ HW_ 15 (some 28) (bT 18 16) hHeld ?_; refine pureZ HT_ 16 (some 29) (bT 18 17) ?_; refine pureZ HT_ 17 (some 30) (bT 18 18) ?_; refine done_ (done_of HT_.out Zm) ?_
                 try go_wp2
                 replace HO_3 := am_ (Kd.R_drew HO_3.out); replace HB := am_ (below_drew1 HB.out); have q24 : (x5_2 : Int) ≤ ((x3_1.length : Int) : Int) := of_decide_eq_true Zc; obtain ⟨i024, hi024, _, hsz24, _⟩ := info_parts info2; have hroom24 : x3_1.length ≤ co22 := (Kd.R_reads' HO_3.out).2.1; have hC24 : Kd.C (Kd.int .i64) _ (some ad145) x3_1.length x3_1 := (Kd.R_reads' HO_3.out).2.2; have hcut24 := cut_to (P := Try.prog) 28 2 .i64 Try.underlying28 hi024 (some ad145) x3_1.length co22 x5_2 (of_decide_eq_true Zc) q24 hroom24; have hr24 := Kd.C_take (m := (x5_2 : Int).toNat) hC24 (by omega); have hy24 : y151.length = (x5_2 : Int).toNat := (by rw [Ny151.out, List.length_take]; omega); rw [← Ny151.out] at hr24; rw [← hy24] at hcut24; have HR154 := am_ hr24; have HC154 := am_ (show y151.length ≤ co22 from (by omega)); clear hr24 hC24 hroom24 hi024 hsz24; have KY24 := am_ hy24; clear hy24; have KL24 := am_ (show (x5_2 : Int).toNat ≤ x3_1.length from (by omega)); replace q24 := eq_true q24; have q25 : (x5_2 : Int) ≤ ((x3_1.length : Int) : Int) := of_decide_eq_true Zc; obtain ⟨i025, hi025, _, hsz25, _⟩ := info_parts info2; have hroom25 : x3_1.length ≤ co22 := (Kd.R_reads' HO_3.out).2.1; have hC25 : Kd.C (Kd.int .i64) _ (some ad145) x3_1.length x3_1 := (Kd.R_reads' HO_3.out).2.2; have q025 : (0 : Int) ≤ (x5_2 : Int) := of_decide_eq_true Zc; have hcut25 := cut_from (P := Try.prog) 28 2 .i64 Try.underlying28 hi025 1 hsz25 (some ad145) x3_1.length co22 x5_2 q025 q25; have hr25 := Kd.C_drop (m := (x5_2 : Int).toNat) (c := co22) hC25 (by omega) hroom25; obtain ⟨A25, hA25⟩ : ∃ A1, A1 = (if co22 = (x5_2 : Int).toNat then (some ad145) else ((some ad145) : Option Addr).map (·.add ((x5_2 : Int).toNat * 1))) := ⟨_, rfl⟩; obtain ⟨c25, hc25⟩ : ∃ c1, c1 = co22 - (x5_2 : Int).toNat := ⟨_, rfl⟩; have hy25 : y164.length = x3_1.length - (x5_2 : Int).toNat := (by rw [Ny164.out, List.length_drop] <;> omega); rw [show (x3_1).drop (x5_2 : Int).toNat = y164 from Ny164.out.symm] at hr25; replace hr25 : Kd.C (Kd.int .i64) _ A25 y164.length y164 := (by rw [hA25]; exact hr25); rw [← hy25, ← hA25, ← hc25] at hcut25; have HR167 := am_ hr25; have HC167 := am_ (show y164.length ≤ c25 from (by rw [hy25, hc25]; exact Nat.sub_le_sub_right hroom25 _)); clear hr25 hC25 hroom25 hi025 hsz25 hc25; have KY25 := am_ hy25; have KA25 := am_ hA25; clear hy25 hA25; have KL25 := am_ (show (x5_2 : Int).toNat ≤ x3_1.length from (by omega)); replace q25 := eq_true q25; refine start_ (n := 13) (S := fun w' => True) (ds := []) (bT 13 0) Zm rfl rfl trivial (fun hHeld => ?_); refine with_tabW spec_l08Order.tab8 spec_l08Order.bits8 (fun HT_ HW_ => ?_); generalize w21.drew = w23 at HO_3 HB HR154 HR167 hHeld ⊢; refine pureZ HT_ 1 (some 34) (bB 13 2) ?_; refine pureZ HT_ 2 (some 35) (bB 13 6) ?_; refine pureZ HT_ 3 (some 36) (bB 13 14) ?_; refine pureZ HT_ 5 (some 38) (bB 13 46) ?_; refine pureZ HT_ 8 (some 41) (bB 13 302) ?_; refine pureZ HT_ 9 (some 42) (bB 13 814) ?_
                 refine pureZ HT_ 10 (some 43) (bB 13 1838) ?_; refine join_ (σ := Value × Value × Value) 3 (bB 13 1919) (fun s_ => [(33, s_.1), (37, s_.2.1), (39, s_.2.2)]) (fun s_ w' => (Kd.R (Kd.int .i64) 2 w' w.heap.size (fun k_ => some k_ ≠ (s_.2.2 : Value).ownBlock ∧ some k_ ≠ (.slice (some ad145) x3_1.length co22 : Value).ownBlock) s_.2.1 y155) ∧ (Kd.R (Kd.int .i64) 2 w' w.heap.size (fun k_ => some k_ ≠ (s_.2.1 : Value).ownBlock ∧ some k_ ≠ (.slice (some ad145) x3_1.length co22 : Value).ownBlock) s_.2.2 y158) ∧ (Kd.R (Kd.int .i64) 2 w' w.heap.size (fun k_ => some k_ ≠ (s_.2.1 : Value).ownBlock ∧ some k_ ≠ (s_.2.2 : Value).ownBlock) (.slice (some ad145) x3_1.length co22) x3_1) ∧ (Kd.C (Kd.int .i64) w' (some ad145) y151.length y151) ∧ (Kd.C (Kd.int .i64) w' A25 y164.length y164) ∧ (Below w.heap.size w w')) ?_ ?_; rotate_left
                 ·intro hCont
                  refine two_ (i := 0) (j := 6) (Ni := some 33) (Nj := some 39) (bB 13 1839) (bB 13 1902) rfl rfl rfl rfl (two_of HT_.out Zm) (by decide) (by decide) (fun K hK => ?_) (fun K hK => ?_)
                  ·skip
                   refine Kd.R_lit_step (Kd.int .i64) _ 2 ?hg (N := 33) ?hd (xs := ([] : List Int)) (inner := []) (ok := fun _ => True) (okp := fun _ => True) ?hr ?hp (fun _ hk => hk) trivial (Below.refl _ _) (Nat.le_refl _) (by simp) ?_; (case hd => rfl); (case hg => rfl); (case hr => first | (go_simp; done) | (go_simp; rfl)); (case hp => exact (Reps.none _ _)); intro v149 w26 ho27 hb hg_ hnew_; clear hg_ hnew_
                   (first | rw [← Ny148.out] at ho27 | (simp only [Int.reduceToNat] at ho27; rw [← Ny148.out] at ho27))
                   replace HO150 := am_ (Kd.R_lower (Kd.R_new' ho27 (Kd.R_lt (Zr HO_3))) (below_size Zf)); replace HO_3 := am_ (Kd.R_elder' (Zr HO_3) (Kd.R_base ho27) hb); replace HR154 := am_ (Kd.C_below (Zt HR154) hb); replace HR167 := am_ (Kd.C_below (Zt HR167) hb); replace HB := (bsZ Zf hb); clear hb ho27; refine hK.out _ _ trivial (fun hHeld => ?_); clear hK K; refine normZ 33 ?_; refine two_ (i := 4) (j := 6) (Ni := some 37) (Nj := some 39) (bB 13 1855) (bB 13 1903) rfl rfl rfl rfl (two_of HT_.out Zm) (by decide) (by decide) (fun K hK => ?_) (fun K hK => ?_)
                   ·skip
                    refine Kd.R_append_rows_step (Kd.int .i64) (w0 := w) w.heap.size (by rfl) (.tmp 33) (.tmp 36) 28 2 (.int .i64 0) 8 rfl Try.underlying28 info2 rfl (by decide) (by omega) v149 y148 y151 _ _ _ (fun k_ => some k_ ≠ (.slice (some ad145) x3_1.length co22 : Value).ownBlock) (fun _ => False) rfl rfl ?aO ?aR (fun _ _ h => h) (fun _ h => h.elim) ?aF ?aB ?aS ?aL ?_
                    (case aR => repeat (first | exact (Zt HR154) | (with_reducible refine Kd.C_alloc ?_ _) | (with_reducible refine Kd.C_drewN ?_ _) | (with_reducible refine Kd.C_drew ?_)))
                    (case aB => exact Zf)
                    (case aF => exact (fun k_ hk => Kd.fresh' (Kd.R_lt (Zr HO_3)) k_ hk))
                    (case aO => exact (Zu HO150))
                    (case aS => exact (below_size Zf))
                    (case aL => have := LMc16.out; omega)
                    intro v156 w28 ho hb hg hat; rw [← Ny155.out] at ho; replace HB := am_ (hb); replace HR154 := am_ ((show Kd.C (Kd.int .i64) w28 (some ad145) y151.length y151 from (by rw [Ny151.out]; exact Kd.C_take (m := (x5_2 : Int).toNat) ((Kd.R_reads' (Kd.R_after (ok := (fun _ => True)) (Zr HO_3) hg hat)).2.2) KL24.out))); replace HR167 := am_ ((show Kd.C (Kd.int .i64) w28 A25 y164.length y164 from (by rw [Ny164.out, KA25.out]; exact Kd.C_drop (m := (x5_2 : Int).toNat) (c := co22) ((Kd.R_reads' (Kd.R_after (ok := (fun _ => True)) (Zr HO_3) hg hat)).2.2) KL25.out ((Kd.R_reads' (Kd.R_after (ok := (fun _ => True)) (Zr HO_3) hg hat)).2.1)))); replace HO_3 := am_ (Kd.R_after (ok := (fun _ => True)) (Zr HO_3) hg hat); replace HO157 := am_ (ho); clear HO150; clear ho hb hg hat; refine hK.out _ _ trivial (fun hHeld => ?_); clear hK K; refine normZ 37 ?_; refine one_ (i := 6) (N := some 39) (bB 13 1919) rfl rfl (one_of HT_.out Zm) (by decide) (fun K hK => ?_); refine Kd.R_lit_step (Kd.int .i64) _ 2 ?hg (N := 39) ?hd (xs := ([x4_1] : List Int)) (inner := [.int .i64 x4_1]) (ok := fun _ => True) (okp := fun _ => True) ?hr ?hp (fun _ hk => hk) trivial (Below.refl _ _) (Nat.le_refl _) (by simp) ?_; (case hd => rfl); (case hg => rfl); (case hr => first | (go_simp; done) | (go_simp; rfl)); (case hp => exact (Reps.one (show Kd.M (Kd.int .i64) _ _ _ x4_1 [.int .i64 x4_1] from rfl) (Reps.none _ _))); intro v159 w29 ho30 hb hg_ hnew_; clear hg_ hnew_
                    (first | rw [← Ny158.out] at ho30 | (simp only [Int.reduceToNat] at ho30; rw [← Ny158.out] at ho30))
                    replace HO160 := am_ (Kd.R_lower (Kd.R_new' (Kd.R_new' ho30 (Kd.R_lt (Zr HO_3))) (Kd.R_lt (Zr HO157))) (below_size Zf)); replace HO_3 := am_ (Kd.R_elder' (Zr HO_3) (Kd.R_base ho30) hb); replace HO157 := am_ (Kd.R_elder' (Zr HO157) (Kd.R_base ho30) hb); replace HR154 := am_ (Kd.C_below (Zt HR154) hb); replace HR167 := am_ (Kd.C_below (Zt HR167) hb); replace HB := (bsZ Zf hb); clear hb ho30; refine hK.out _ _ trivial (fun hHeld => ?_); clear hK K; refine normZ 39 ?_; exact norm_ Zv (hCont (v149, v156, v159) _ ⟨(Zw HO157), (Zx HO160), (Zy HO_3), (Zt HR154), (Zt HR167), Zf⟩)
                   ·skip
                    refine Kd.R_lit_step (Kd.int .i64) _ 2 ?hg (N := 39) ?hd (xs := ([x4_1] : List Int)) (inner := [.int .i64 x4_1]) (ok := fun _ => True) (okp := fun _ => True) ?hr ?hp (fun _ hk => hk) trivial (Below.refl _ _) (Nat.le_refl _) (by simp) ?_; (case hd => rfl); (case hg => rfl); (case hr => first | (go_simp; done) | (go_simp; rfl)); (case hp => exact (Reps.one (show Kd.M (Kd.int .i64) _ _ _ x4_1 [.int .i64 x4_1] from rfl) (Reps.none _ _))); intro v159 w28 ho29 hb hg_ hnew_; clear hg_ hnew_
                    (first | rw [← Ny158.out] at ho29 | (simp only [Int.reduceToNat] at ho29; rw [← Ny158.out] at ho29))
                    replace HO160 := am_ (Kd.R_lower (Kd.R_new' (Kd.R_new' ho29 (Kd.R_lt (Zr HO_3))) (Kd.R_lt (Zr HO150))) (below_size Zf)); replace HO_3 := am_ (Kd.R_elder' (Zr HO_3) (Kd.R_base ho29) hb); replace HO150 := am_ (Kd.R_elder' (Zr HO150) (Kd.R_base ho29) hb); replace HR154 := am_ (Kd.C_below (Zt HR154) hb); replace HR167 := am_ (Kd.C_below (Zt HR167) hb); replace HB := (bsZ Zf hb); clear hb ho29; refine hK.out _ _ trivial (fun hHeld => ?_); clear hK K; refine normZ 39 ?_; refine one_ (i := 4) (N := some 37) (bB 13 1919) rfl rfl (one_of HT_.out Zm) (by decide) (fun K hK => ?_); refine Kd.R_append_rows_step (Kd.int .i64) (w0 := w) w.heap.size (by rfl) (.tmp 33) (.tmp 36) 28 2 (.int .i64 0) 8 rfl Try.underlying28 info2 rfl (by decide) (by omega) v149 y148 y151 _ _ _ (fun k_ => some k_ ≠ (.slice (some ad145) x3_1.length co22 : Value).ownBlock ∧ some k_ ≠ (v159 : Value).ownBlock) (fun _ => False) rfl rfl ?aO ?aR (fun _ _ h => h) (fun _ h => h.elim) ?aF ?aB ?aS ?aL ?_
                    (case aR => repeat (first | exact (Zt HR154) | (with_reducible refine Kd.C_alloc ?_ _) | (with_reducible refine Kd.C_drewN ?_ _) | (with_reducible refine Kd.C_drew ?_)))
                    (case aB => exact Zf)
                    (case aF => exact (fun k_ hk => ⟨Kd.fresh' (Kd.R_lt (Zr HO_3)) k_ hk, Kd.fresh' (Kd.R_lt (Zr HO160)) k_ hk⟩))
                    (case aO => exact (Zy HO150))
                    (case aS => exact (below_size Zf))
                    (case aL => have := LMc16.out; omega)
                    intro v156 w30 ho hb hg hat; rw [← Ny155.out] at ho; replace HO160 := am_ (Kd.R_after (ok := (fun k_ => some k_ ≠ (.slice (some ad145) x3_1.length co22 : Value).ownBlock)) (Zy HO160) hg hat); replace HB := am_ (hb); replace HR154 := am_ ((show Kd.C (Kd.int .i64) w30 (some ad145) y151.length y151 from (by rw [Ny151.out]; exact Kd.C_take (m := (x5_2 : Int).toNat) ((Kd.R_reads' (Kd.R_after (ok := (fun k_ => some k_ ≠ (v159 : Value).ownBlock)) (Zx HO_3) hg hat)).2.2) KL24.out))); replace HR167 := am_ ((show Kd.C (Kd.int .i64) w30 A25 y164.length y164 from (by rw [Ny164.out, KA25.out]; exact Kd.C_drop (m := (x5_2 : Int).toNat) (c := co22) ((Kd.R_reads' (Kd.R_after (ok := (fun k_ => some k_ ≠ (v159 : Value).ownBlock)) (Zx HO_3) hg hat)).2.2) KL25.out ((Kd.R_reads' (Kd.R_after (ok := (fun k_ => some k_ ≠ (v159 : Value).ownBlock)) (Zx HO_3) hg hat)).2.1)))); replace HO_3 := am_ (Kd.R_after (ok := (fun k_ => some k_ ≠ (v159 : Value).ownBlock)) (Zx HO_3) hg hat); replace HO157 := am_ (ho); clear HO150; clear ho hb hg hat; refine hK.out _ _ trivial (fun hHeld => ?_); clear hK K; refine normZ 37 ?_; exact norm_ Zv (hCont (v149, v156, v159) _ ⟨(Zw HO157), (Zw HO160), (Zw HO_3), (Zt HR154), (Zt HR167), Zf⟩)
                  ·skip
                   refine Kd.R_lit_step (Kd.int .i64) _ 2 ?hg (N := 39) ?hd (xs := ([x4_1] : List Int)) (inner := [.int .i64 x4_1]) (ok := fun _ => True) (okp := fun _ => True) ?hr ?hp (fun _ hk => hk) trivial (Below.refl _ _) (Nat.le_refl _) (by simp) ?_; (case hd => rfl); (case hg => rfl); (case hr => first | (go_simp; done) | (go_simp; rfl)); (case hp => exact (Reps.one (show Kd.M (Kd.int .i64) _ _ _ x4_1 [.int .i64 x4_1] from rfl) (Reps.none _ _))); intro v159 w26 ho27 hb hg_ hnew_; clear hg_ hnew_
                   (first | rw [← Ny158.out] at ho27 | (simp only [Int.reduceToNat] at ho27; rw [← Ny158.out] at ho27))
                   replace HO160 := am_ (Kd.R_lower (Kd.R_new' ho27 (Kd.R_lt (Zr HO_3))) (below_size Zf)); replace HO_3 := am_ (Kd.R_elder' (Zr HO_3) (Kd.R_base ho27) hb); replace HR154 := am_ (Kd.C_below (Zt HR154) hb); replace HR167 := am_ (Kd.C_below (Zt HR167) hb); replace HB := (bsZ Zf hb); clear hb ho27; refine hK.out _ _ trivial (fun hHeld => ?_); clear hK K; refine normZ 39 ?_; refine one_ (i := 0) (N := some 33) (bB 13 1903) rfl rfl (one_of HT_.out Zm) (by decide) (fun K hK => ?_); refine Kd.R_lit_step (Kd.int .i64) _ 2 ?hg (N := 33) ?hd (xs := ([] : List Int)) (inner := []) (ok := fun _ => True) (okp := fun _ => True) ?hr ?hp (fun _ hk => hk) trivial (Below.refl _ _) (Nat.le_refl _) (by simp) ?_; (case hd => rfl); (case hg => rfl); (case hr => first | (go_simp; done) | (go_simp; rfl)); (case hp => exact (Reps.none _ _)); intro v149 w28 ho29 hb hg_ hnew_; clear hg_ hnew_
                   (first | rw [← Ny148.out] at ho29 | (simp only [Int.reduceToNat] at ho29; rw [← Ny148.out] at ho29))
                   replace HO150 := am_ (Kd.R_lower (Kd.R_new' (Kd.R_new' ho29 (Kd.R_lt (Zr HO_3))) (Kd.R_lt (Zr HO160))) (below_size Zf)); replace HO_3 := am_ (Kd.R_elder' (Zr HO_3) (Kd.R_base ho29) hb); replace HO160 := am_ (Kd.R_elder' (Zr HO160) (Kd.R_base ho29) hb); replace HR154 := am_ (Kd.C_below (Zt HR154) hb); replace HR167 := am_ (Kd.C_below (Zt HR167) hb); replace HB := (bsZ Zf hb); clear hb ho29; refine hK.out _ _ trivial (fun hHeld => ?_); clear hK K; refine normZ 33 ?_; refine one_ (i := 4) (N := some 37) (bB 13 1919) rfl rfl (one_of HT_.out Zm) (by decide) (fun K hK => ?_); refine Kd.R_append_rows_step (Kd.int .i64) (w0 := w) w.heap.size (by rfl) (.tmp 33) (.tmp 36) 28 2 (.int .i64 0) 8 rfl Try.underlying28 info2 rfl (by decide) (by omega) v149 y148 y151 _ _ _ (fun k_ => some k_ ≠ (.slice (some ad145) x3_1.length co22 : Value).ownBlock ∧ some k_ ≠ (v159 : Value).ownBlock) (fun _ => False) rfl rfl ?aO ?aR (fun _ _ h => h) (fun _ h => h.elim) ?aF ?aB ?aS ?aL ?_
                   (case aR => repeat (first | exact (Zt HR154) | (with_reducible refine Kd.C_alloc ?_ _) | (with_reducible refine Kd.C_drewN ?_ _) | (with_reducible refine Kd.C_drew ?_)))
                   (case aB => exact Zf)
                   (case aF => exact (fun k_ hk => ⟨Kd.fresh' (Kd.R_lt (Zr HO_3)) k_ hk, Kd.fresh' (Kd.R_lt (Zr HO160)) k_ hk⟩))
                   (case aO => exact (Zy HO150))
                   (case aS => exact (below_size Zf))
                   (case aL => have := LMc16.out; omega)
                   intro v156 w30 ho hb hg hat; rw [← Ny155.out] at ho; replace HO160 := am_ (Kd.R_after (ok := (fun k_ => some k_ ≠ (.slice (some ad145) x3_1.length co22 : Value).ownBlock)) (Zy HO160) hg hat); replace HB := am_ (hb); replace HR154 := am_ ((show Kd.C (Kd.int .i64) w30 (some ad145) y151.length y151 from (by rw [Ny151.out]; exact Kd.C_take (m := (x5_2 : Int).toNat) ((Kd.R_reads' (Kd.R_after (ok := (fun k_ => some k_ ≠ (v159 : Value).ownBlock)) (Zy HO_3) hg hat)).2.2) KL24.out))); replace HR167 := am_ ((show Kd.C (Kd.int .i64) w30 A25 y164.length y164 from (by rw [Ny164.out, KA25.out]; exact Kd.C_drop (m := (x5_2 : Int).toNat) (c := co22) ((Kd.R_reads' (Kd.R_after (ok := (fun k_ => some k_ ≠ (v159 : Value).ownBlock)) (Zy HO_3) hg hat)).2.2) KL25.out ((Kd.R_reads' (Kd.R_after (ok := (fun k_ => some k_ ≠ (v159 : Value).ownBlock)) (Zy HO_3) hg hat)).2.1)))); replace HO_3 := am_ (Kd.R_after (ok := (fun k_ => some k_ ≠ (v159 : Value).ownBlock)) (Zy HO_3) hg hat); replace HO157 := am_ (ho); clear HO150; clear ho hb hg hat; refine hK.out _ _ trivial (fun hHeld => ?_); clear hK K; refine normZ 37 ?_; exact norm_ Zv (hCont (v149, v156, v159) _ ⟨(Zw HO157), (Zw HO160), (Zw HO_3), (Zt HR154), (Zt HR167), Zf⟩)
                 rintro ⟨v149, v156, v159⟩ w31 ⟨h0_, h1_, h2_, h3_, h4_, h5_⟩; replace HO157 : Aside0 (Kd.R (Kd.int .i64) 2 w31 w.heap.size (fun k_ => some k_ ≠ (v159 : Value).ownBlock ∧ some k_ ≠ (.slice (some ad145) x3_1.length co22 : Value).ownBlock) v156 y155) := ⟨h0_⟩; replace HO160 : Aside0 (Kd.R (Kd.int .i64) 2 w31 w.heap.size (fun k_ => some k_ ≠ (v156 : Value).ownBlock ∧ some k_ ≠ (.slice (some ad145) x3_1.length co22 : Value).ownBlock) v159 y158) := ⟨h1_⟩; replace HO_3 : Aside0 (Kd.R (Kd.int .i64) 2 w31 w.heap.size (fun k_ => some k_ ≠ (v156 : Value).ownBlock ∧ some k_ ≠ (v159 : Value).ownBlock) (.slice (some ad145) x3_1.length co22) x3_1) := ⟨h2_⟩; replace HR154 : Aside0 (Kd.C (Kd.int .i64) w31 (some ad145) y151.length y151) := ⟨h3_⟩; replace HR167 : Aside0 (Kd.C (Kd.int .i64) w31 A25 y164.length y164) := ⟨h4_⟩; replace HB : Aside0 (Below w.heap.size w w31) := ⟨h5_⟩; clear h0_ h1_ h2_ h3_ h4_ h5_; have hHeld := trivial; obtain ⟨Ao33, co33, eo33⟩ := Kd.R_slice HO160.out
                 (first | subst eo33 | (injection eo33 with f1_ f2_ f3_; have f4_ := f1_.symm; have f5_ := f3_.symm; clear f1_ f2_ f3_; subst f4_; subst f5_))
                 refine normP ?_; refine one_ (i := 7) (N := some 40) (bT 13 11) rfl rfl (one_of HT_.out Zm) (by decide) (fun K hK => ?_); refine Kd.R_append_rows_step (Kd.int .i64) (w0 := w) w.heap.size (by rfl) (.tmp 37) (.tmp 39) 28 2 (.int .i64 0) 8 rfl Try.underlying28 info2 rfl (by decide) (by omega) v156 y155 y158 _ _ _ (fun k_ => some k_ ≠ (.slice (some ad145) x3_1.length co22 : Value).ownBlock ∧ some k_ ≠ (.slice Ao33 y158.length co33 : Value).ownBlock) (fun _ => False) rfl rfl ?aO ?aR (fun _ _ h => h) (fun _ h => h.elim) ?aF ?aB ?aS ?aL ?_
                 (case aR => repeat (first | exact (Kd.R_reads' HO160.out).2.2 | (with_reducible refine Kd.C_alloc ?_ _) | (with_reducible refine Kd.C_drewN ?_ _) | (with_reducible refine Kd.C_drew ?_)))
                 (case aB => exact Zf)
                 (case aF => exact (fun k_ hk => ⟨Kd.fresh' (Kd.R_lt (Zr HO_3)) k_ hk, Kd.fresh' (Kd.R_lt (Zr HO160)) k_ hk⟩))
                 (case aO => exact (Zw HO157))
                 (case aS => exact (below_size Zf))
                 (case aL => have := LMc17.out; omega)
                 intro v162 w32 ho hb hg hat; rw [← Ny161.out] at ho; replace HO160 := am_ (Kd.R_after (ok := (fun k_ => some k_ ≠ (.slice (some ad145) x3_1.length co22 : Value).ownBlock)) (Zw HO160) hg hat); replace HB := am_ (hb); replace HR154 := am_ ((show Kd.C (Kd.int .i64) w32 (some ad145) y151.length y151 from (by rw [Ny151.out]; exact Kd.C_take (m := (x5_2 : Int).toNat) ((Kd.R_reads' (Kd.R_after (ok := (fun k_ => some k_ ≠ (.slice Ao33 y158.length co33 : Value).ownBlock)) (Zw HO_3) hg hat)).2.2) KL24.out))); replace HR167 := am_ ((show Kd.C (Kd.int .i64) w32 A25 y164.length y164 from (by rw [Ny164.out, KA25.out]; exact Kd.C_drop (m := (x5_2 : Int).toNat) (c := co22) ((Kd.R_reads' (Kd.R_after (ok := (fun k_ => some k_ ≠ (.slice Ao33 y158.length co33 : Value).ownBlock)) (Zw HO_3) hg hat)).2.2) KL25.out ((Kd.R_reads' (Kd.R_after (ok := (fun k_ => some k_ ≠ (.slice Ao33 y158.length co33 : Value).ownBlock)) (Zw HO_3) hg hat)).2.1)))); replace HO_3 := am_ (Kd.R_after (ok := (fun k_ => some k_ ≠ (.slice Ao33 y158.length co33 : Value).ownBlock)) (Zw HO_3) hg hat); replace HO163 := am_ (ho); clear HO157; clear ho hb hg hat; refine hK.out _ _ trivial (fun hHeld => ?_); clear hK K; refine normZ 40 ?_; refine one_ (i := 11) (N := some 44) (bT 13 12) rfl rfl (one_of HT_.out Zm) (by decide) (fun K hK => ?_); refine Kd.R_append_rows_step (Kd.int .i64) (w0 := w) w.heap.size (by rfl) (.tmp 40) (.tmp 43) 28 2 (.int .i64 0) 8 rfl Try.underlying28 info2 rfl (by decide) (by omega) v162 y161 y164 _ _ _ (fun k_ => some k_ ≠ (.slice (some ad145) x3_1.length co22 : Value).ownBlock ∧ some k_ ≠ (.slice Ao33 y158.length co33 : Value).ownBlock) (fun _ => False) rfl rfl ?aO ?aR (fun _ _ h => h) (fun _ h => h.elim) ?aF ?aB ?aS ?aL ?_
                 (case aR => repeat (first | exact (Zt HR167) | (with_reducible refine Kd.C_alloc ?_ _) | (with_reducible refine Kd.C_drewN ?_ _) | (with_reducible refine Kd.C_drew ?_)))
                 (case aB => exact Zf)
                 (case aF => exact (fun k_ hk => ⟨Kd.fresh' (Kd.R_lt (Zr HO_3)) k_ hk, Kd.fresh' (Kd.R_lt (Zr HO160)) k_ hk⟩))
                 (case aO => exact (Zr HO163))
                 (case aS => exact (below_size Zf))
                 (case aL => have := LMc20.out; omega)
                 intro v169 w34 ho hb hg hat; rw [← Ny168.out] at ho; replace HO160 := am_ (Kd.R_after (ok := (fun k_ => some k_ ≠ (.slice (some ad145) x3_1.length co22 : Value).ownBlock)) (Zr HO160) hg hat); replace HB := am_ (hb); replace HR154 := am_ ((show Kd.C (Kd.int .i64) w34 (some ad145) y151.length y151 from (by rw [Ny151.out]; exact Kd.C_take (m := (x5_2 : Int).toNat) ((Kd.R_reads' (Kd.R_after (ok := (fun k_ => some k_ ≠ (.slice Ao33 y158.length co33 : Value).ownBlock)) (Zr HO_3) hg hat)).2.2) KL24.out))); replace HR167 := am_ ((show Kd.C (Kd.int .i64) w34 A25 y164.length y164 from (by rw [Ny164.out, KA25.out]; exact Kd.C_drop (m := (x5_2 : Int).toNat) (c := co22) ((Kd.R_reads' (Kd.R_after (ok := (fun k_ => some k_ ≠ (.slice Ao33 y158.length co33 : Value).ownBlock)) (Zr HO_3) hg hat)).2.2) KL25.out ((Kd.R_reads' (Kd.R_after (ok := (fun k_ => some k_ ≠ (.slice Ao33 y158.length co33 : Value).ownBlock)) (Zr HO_3) hg hat)).2.1)))); replace HO_3 := am_ (Kd.R_after (ok := (fun k_ => some k_ ≠ (.slice Ao33 y158.length co33 : Value).ownBlock)) (Zr HO_3) hg hat); replace HO170 := am_ (ho); clear HO163; clear ho hb hg hat; refine hK.out _ _ trivial (fun hHeld => ?_); clear hK K; refine normZ 44 ?_; refine pureZ HT_ 12 (some 3) (bT 13 13) ?_; refine done_ (done_of HT_.out Zm) ?_
                 try go_wp2
                 go_roundg k2
                 case measure => have := HK1.out; have := HK2.out; omega
                 case rel => exact ⟨(y168), (wrap64 (x4_1 + 1)), Za, H', ⟨Zs⟩, ⟨(Zz HO170)⟩, ⟨Zf⟩⟩
                ·rw [if_neg c20] at H
                 exact absurd H (by simp)
               ·rw [if_neg c17] at H
                exact absurd H (by simp)
              ·rw [if_neg c16] at H
               exact absurd H (by simp)
             ·rw [if_neg c15] at H
              exact absurd H (by simp)
           ·rw [if_neg c10] at H
            exact absurd H (by simp)
          ·rw [if_neg c9] at H
           exact absurd H (by simp)
         ·rw [if_neg c8] at H
          exact absurd H (by simp)
        ·rw [if_neg c7] at H
         exact absurd H (by simp)
       ·rw [if_neg c6] at H
        exact absurd H (by simp)
      ·rw [if_neg c5] at H
       have c5b0 := decide_eq_false c5; clear c5; obtain ⟨y171, hy171⟩ : ∃ y_ : List Int, y_ = (([] : List Int)) := ⟨_, rfl⟩
       replace H : (if 0 ≤ x5_2 then (if x5_2 ≤ (x3_1.length : Int) then ((some (x3_1.take (x5_2 : Int).toNat : List Int)).bind fun y174 => (if y171.length + y174.length < 17592186044416 then ((some (y171 ++ y174 : List Int)).bind fun y178 => ((some (([x4_1] : List Int) : List Int)).bind fun y181 => (if y178.length + y181.length < 17592186044416 then ((some (y178 ++ y181 : List Int)).bind fun y184 => ((some (x3_1.drop (x5_2 : Int).toNat : List Int)).bind fun y187 => (if y184.length + y187.length < 17592186044416 then (spec_l08Order.l0 k2 l0 (y184 ++ y187) (wrap64 (x4_1 + 1))) else (none)))) else (none)))) else (none))) else (none)) else (none)) = some r := by (try rw [hy171]); first | with_reducible exact H | with_reducible exact (Option.bind_some _ _).symm.trans H | exact H
       have Ny171 := am_ hy171; clear hy171
       by_cases c35 : 0 ≤ x5_2
       ·rw [if_pos c35] at H
        have c35b0 := eq_true c35; have c35b1 := decide_eq_true c35; clear c35
        by_cases c36 : x5_2 ≤ (x3_1.length : Int)
        ·rw [if_pos c36] at H
         have c36b0 := eq_true c36; have c36b1 := decide_eq_true c36; clear c36; obtain ⟨y174, hy174⟩ : ∃ y_ : List Int, y_ = (x3_1.take (x5_2 : Int).toNat) := ⟨_, rfl⟩
         (first | (rw [← hy174] at H; with_reducible replace H := bindZ H) | rw [← hy174] at H | skip)
         have Ny174 := am_ hy174; clear hy174
         by_cases c37 : y171.length + y174.length < 17592186044416
         ·rw [if_pos c37] at H
          have LMc37 := am_ c37; clear c37; obtain ⟨y178, hy178⟩ : ∃ y_ : List Int, y_ = (y171 ++ y174) := ⟨_, rfl⟩
          (first | (rw [← hy178] at H; with_reducible replace H := bindZ H) | rw [← hy178] at H | skip)
          have Ny178 := am_ hy178; clear hy178; obtain ⟨y181, hy181⟩ : ∃ y_ : List Int, y_ = (([x4_1] : List Int)) := ⟨_, rfl⟩
          (first | (rw [← hy181] at H; with_reducible replace H := bindZ H) | rw [← hy181] at H | skip)
          have Ny181 := am_ hy181; clear hy181
          by_cases c38 : y178.length + y181.length < 17592186044416
          ·rw [if_pos c38] at H
           have LMc38 := am_ c38; clear c38; obtain ⟨y184, hy184⟩ : ∃ y_ : List Int, y_ = (y178 ++ y181) := ⟨_, rfl⟩
           (first | (rw [← hy184] at H; with_reducible replace H := bindZ H) | rw [← hy184] at H | skip)
           have Ny184 := am_ hy184; clear hy184; have c39b0 := eq_true (of_decide_eq_true Zc : 0 ≤ x5_2); have c40b0 := eq_true (of_decide_eq_true Zc : x5_2 ≤ (x3_1.length : Int)); obtain ⟨y187, hy187⟩ : ∃ y_ : List Int, y_ = (x3_1.drop (x5_2 : Int).toNat) := ⟨_, rfl⟩
           (first | (rw [← hy187] at H; with_reducible replace H := bindZ H) | rw [← hy187] at H | skip)
           have Ny187 := am_ hy187; clear hy187
           by_cases c41 : y184.length + y187.length < 17592186044416
           ·rw [if_pos c41] at H
            have LMc41 := am_ c41; clear c41; obtain ⟨y191, hy191⟩ : ∃ y_ : List Int, y_ = (y184 ++ y187) := ⟨_, rfl⟩
            (first | (rw [← hy191] at H; with_reducible replace H := bindZ H) | rw [← hy191] at H | skip)
            have Ny191 := am_ hy191; clear hy191; have H' := am_ H; clear H
            try go_wp2
            replace HO_3 := am_ (Kd.R_drew HO_3.out); replace HB := am_ (below_drew1 HB.out); obtain ⟨Ao43, co43, eo43⟩ := Kd.R_slice HO_3.out
            (first | subst eo43 | (injection eo43 with f1_ f2_ f3_; have f4_ := f1_.symm; have f5_ := f3_.symm; clear f1_ f2_ f3_; subst f4_; subst f5_))
            refine start_ (n := 18) (S := fun w' => True) (ds := []) (bT 18 0) Zm rfl rfl trivial (fun hHeld => ?_); refine with_tabW spec_l08Order.tab6 spec_l08Order.bits6 (fun HT_ HW_ => ?_); generalize wr.drew = w42 at HO_3 HB hHeld ⊢; refine pureZ HT_ 0 (some 13) (bT 18 1) ?_; refine pureZ HT_ 1 (some 14) (bT 18 2) ?_; refine pureZ HT_ 2 (some 15) (bT 18 3) ?_; refine pureZ HT_ 3 (some 16) (bT 18 4) ?_; refine pureZ HT_ 4 (some 17) (bT 18 5) ?_; refine pureU HT_ 5 (some 18) (bT 18 6) ?_; refine pureU HT_ 6 (some 19) (bT 18 7) ?_; refine pureU HT_ 7 (some 20) (bT 18 8) ?_; refine pureU HT_ 8 (some 21) (bT 18 9) ?_; refine pureU HT_ 9 (some 22) (bT 18 10) ?_; refine pureU HT_ 10 (some 23) (bT 18 11) ?_; refine pureU HT_ 11 (some 24) (bT 18 12) ?_; refine pureU HT_ 12 (some 25) (bT 18 13) ?_; refine pureU HT_ 13 (some 26) (bT 18 14) ?_; refine pureU HT_ 14 (some 27) (bT 18 15) ?_; refine pureU HT_ 15 (some 28) (bT 18 16) ?_; refine pureU HT_ 16 (some 29) (bT 18 17) ?_; refine pureZ HT_ 17 (some 30) (bT 18 18) ?_; refine done_ (done_of HT_.out Zm) ?_
            try go_wp2
            replace HO_3 := am_ (Kd.R_drew HO_3.out); replace HB := am_ (below_drew1 HB.out); have q45 : (x5_2 : Int) ≤ ((x3_1.length : Int) : Int) := of_decide_eq_true Zc; obtain ⟨i045, hi045, _, hsz45, _⟩ := info_parts info2; have hroom45 : x3_1.length ≤ co43 := (Kd.R_reads' HO_3.out).2.1; have hC45 : Kd.C (Kd.int .i64) _ Ao43 x3_1.length x3_1 := (Kd.R_reads' HO_3.out).2.2; have hcut45 := cut_to (P := Try.prog) 28 2 .i64 Try.underlying28 hi045 Ao43 x3_1.length co43 x5_2 (of_decide_eq_true Zc) q45 hroom45; have hr45 := Kd.C_take (m := (x5_2 : Int).toNat) hC45 (by omega); have hy45 : y174.length = (x5_2 : Int).toNat := (by rw [Ny174.out, List.length_take]; omega); rw [← Ny174.out] at hr45; rw [← hy45] at hcut45; have HR177 := am_ hr45; have HC177 := am_ (show y174.length ≤ co43 from (by omega)); clear hr45 hC45 hroom45 hi045 hsz45; have KY45 := am_ hy45; clear hy45; have KL45 := am_ (show (x5_2 : Int).toNat ≤ x3_1.length from (by omega)); replace q45 := eq_true q45; have q46 : (x5_2 : Int) ≤ ((x3_1.length : Int) : Int) := of_decide_eq_true Zc; obtain ⟨i046, hi046, _, hsz46, _⟩ := info_parts info2; have hroom46 : x3_1.length ≤ co43 := (Kd.R_reads' HO_3.out).2.1; have hC46 : Kd.C (Kd.int .i64) _ Ao43 x3_1.length x3_1 := (Kd.R_reads' HO_3.out).2.2; have q046 : (0 : Int) ≤ (x5_2 : Int) := of_decide_eq_true Zc; have hcut46 := cut_from (P := Try.prog) 28 2 .i64 Try.underlying28 hi046 1 hsz46 Ao43 x3_1.length co43 x5_2 q046 q46; have hr46 := Kd.C_drop (m := (x5_2 : Int).toNat) (c := co43) hC46 (by omega) hroom46; obtain ⟨A46, hA46⟩ : ∃ A1, A1 = (if co43 = (x5_2 : Int).toNat then Ao43 else (Ao43 : Option Addr).map (·.add ((x5_2 : Int).toNat * 1))) := ⟨_, rfl⟩; obtain ⟨c46, hc46⟩ : ∃ c1, c1 = co43 - (x5_2 : Int).toNat := ⟨_, rfl⟩; have hy46 : y187.length = x3_1.length - (x5_2 : Int).toNat := (by rw [Ny187.out, List.length_drop] <;> omega); rw [show (x3_1).drop (x5_2 : Int).toNat = y187 from Ny187.out.symm] at hr46; replace hr46 : Kd.C (Kd.int .i64) _ A46 y187.length y187 := (by rw [hA46]; exact hr46); rw [← hy46, ← hA46, ← hc46] at hcut46; have HR190 := am_ hr46; have HC190 := am_ (show y187.length ≤ c46 from (by rw [hy46, hc46]; exact Nat.sub_le_sub_right hroom46 _)); clear hr46 hC46 hroom46 hi046 hsz46 hc46; have KY46 := am_ hy46; have KA46 := am_ hA46; clear hy46 hA46; have KL46 := am_ (show (x5_2 : Int).toNat ≤ x3_1.length from (by omega)); replace q46 := eq_true q46; refine start_ (n := 13) (S := fun w' => True) (ds := []) (bT 13 0) Zm rfl rfl trivial (fun hHeld => ?_); refine with_tabW spec_l08Order.tab8 spec_l08Order.bits8 (fun HT_ HW_ => ?_); generalize w42.drew = w44 at HO_3 HB HR177 HR190 hHeld ⊢; refine pureZ HT_ 1 (some 34) (bB 13 2) ?_; refine pureZ HT_ 2 (some 35) (bB 13 6) ?_; refine pureZ HT_ 3 (some 36) (bB 13 14) ?_; refine pureZ HT_ 5 (some 38) (bB 13 46) ?_; refine pureZ HT_ 8 (some 41) (bB 13 302) ?_; refine pureZ HT_ 9 (some 42) (bB 13 814) ?_; refine pureZ HT_ 10 (some 43) (bB 13 1838) ?_
            refine join_ (σ := Value × Value × Value) 3 (bB 13 1919) (fun s_ => [(33, s_.1), (37, s_.2.1), (39, s_.2.2)]) (fun s_ w' => (Kd.R (Kd.int .i64) 2 w' w.heap.size (fun k_ => some k_ ≠ (s_.2.2 : Value).ownBlock ∧ some k_ ≠ (.slice Ao43 x3_1.length co43 : Value).ownBlock) s_.2.1 y178) ∧ (Kd.R (Kd.int .i64) 2 w' w.heap.size (fun k_ => some k_ ≠ (s_.2.1 : Value).ownBlock ∧ some k_ ≠ (.slice Ao43 x3_1.length co43 : Value).ownBlock) s_.2.2 y181) ∧ (Kd.R (Kd.int .i64) 2 w' w.heap.size (fun k_ => some k_ ≠ (s_.2.1 : Value).ownBlock ∧ some k_ ≠ (s_.2.2 : Value).ownBlock) (.slice Ao43 x3_1.length co43) x3_1) ∧ (Kd.C (Kd.int .i64) w' Ao43 y174.length y174) ∧ (Kd.C (Kd.int .i64) w' A46 y187.length y187) ∧ (Below w.heap.size w w')) ?_ ?_; rotate_left
            ·intro hCont
             refine two_ (i := 0) (j := 6) (Ni := some 33) (Nj := some 39) (bB 13 1839) (bB 13 1902) rfl rfl rfl rfl (two_of HT_.out Zm) (by decide) (by decide) (fun K hK => ?_) (fun K hK => ?_)
             ·skip
              refine Kd.R_lit_step (Kd.int .i64) _ 2 ?hg (N := 33) ?hd (xs := ([] : List Int)) (inner := []) (ok := fun _ => True) (okp := fun _ => True) ?hr ?hp (fun _ hk => hk) trivial (Below.refl _ _) (Nat.le_refl _) (by simp) ?_; (case hd => rfl); (case hg => rfl); (case hr => first | (go_simp; done) | (go_simp; rfl)); (case hp => exact (Reps.none _ _)); intro v172 w47 ho48 hb hg_ hnew_; clear hg_ hnew_
              (first | rw [← Ny171.out] at ho48 | (simp only [Int.reduceToNat] at ho48; rw [← Ny171.out] at ho48))
              replace HO173 := am_ (Kd.R_lower (Kd.R_new' ho48 (Kd.R_lt (Zr HO_3))) (below_size Zf)); replace HO_3 := am_ (Kd.R_elder' (Zr HO_3) (Kd.R_base ho48) hb); replace HR177 := am_ (Kd.C_below (Zt HR177) hb); replace HR190 := am_ (Kd.C_below (Zt HR190) hb); replace HB := (bsZ Zf hb); clear hb ho48; refine hK.out _ _ trivial (fun hHeld => ?_); clear hK K; refine normZ 33 ?_; refine two_ (i := 4) (j := 6) (Ni := some 37) (Nj := some 39) (bB 13 1855) (bB 13 1903) rfl rfl rfl rfl (two_of HT_.out Zm) (by decide) (by decide) (fun K hK => ?_) (fun K hK => ?_)
              ·skip
               refine Kd.R_append_rows_step (Kd.int .i64) (w0 := w) w.heap.size (by rfl) (.tmp 33) (.tmp 36) 28 2 (.int .i64 0) 8 rfl Try.underlying28 info2 rfl (by decide) (by omega) v172 y171 y174 _ _ _ (fun k_ => some k_ ≠ (.slice Ao43 x3_1.length co43 : Value).ownBlock) (fun _ => False) rfl rfl ?aO ?aR (fun _ _ h => h) (fun _ h => h.elim) ?aF ?aB ?aS ?aL ?_
               (case aR => repeat (first | exact (Zt HR177) | (with_reducible refine Kd.C_alloc ?_ _) | (with_reducible refine Kd.C_drewN ?_ _) | (with_reducible refine Kd.C_drew ?_)))
               (case aB => exact Zf)
               (case aF => exact (fun k_ hk => Kd.fresh' (Kd.R_lt (Zr HO_3)) k_ hk))
               (case aO => exact (Zu HO173))
               (case aS => exact (below_size Zf))
               (case aL => have := LMc37.out; omega)
               intro v179 w49 ho hb hg hat; rw [← Ny178.out] at ho; replace HB := am_ (hb); replace HR177 := am_ ((show Kd.C (Kd.int .i64) w49 Ao43 y174.length y174 from (by rw [Ny174.out]; exact Kd.C_take (m := (x5_2 : Int).toNat) ((Kd.R_reads' (Kd.R_after (ok := (fun _ => True)) (Zr HO_3) hg hat)).2.2) KL45.out))); replace HR190 := am_ ((show Kd.C (Kd.int .i64) w49 A46 y187.length y187 from (by rw [Ny187.out, KA46.out]; exact Kd.C_drop (m := (x5_2 : Int).toNat) (c := co43) ((Kd.R_reads' (Kd.R_after (ok := (fun _ => True)) (Zr HO_3) hg hat)).2.2) KL46.out ((Kd.R_reads' (Kd.R_after (ok := (fun _ => True)) (Zr HO_3) hg hat)).2.1)))); replace HO_3 := am_ (Kd.R_after (ok := (fun _ => True)) (Zr HO_3) hg hat); replace HO180 := am_ (ho); clear HO173; clear ho hb hg hat; refine hK.out _ _ trivial (fun hHeld => ?_); clear hK K; refine normZ 37 ?_; refine one_ (i := 6) (N := some 39) (bB 13 1919) rfl rfl (one_of HT_.out Zm) (by decide) (fun K hK => ?_); refine Kd.R_lit_step (Kd.int .i64) _ 2 ?hg (N := 39) ?hd (xs := ([x4_1] : List Int)) (inner := [.int .i64 x4_1]) (ok := fun _ => True) (okp := fun _ => True) ?hr ?hp (fun _ hk => hk) trivial (Below.refl _ _) (Nat.le_refl _) (by simp) ?_; (case hd => rfl); (case hg => rfl); (case hr => first | (go_simp; done) | (go_simp; rfl)); (case hp => exact (Reps.one (show Kd.M (Kd.int .i64) _ _ _ x4_1 [.int .i64 x4_1] from rfl) (Reps.none _ _))); intro v182 w50 ho51 hb hg_ hnew_; clear hg_ hnew_
               (first | rw [← Ny181.out] at ho51 | (simp only [Int.reduceToNat] at ho51; rw [← Ny181.out] at ho51))
               replace HO183 := am_ (Kd.R_lower (Kd.R_new' (Kd.R_new' ho51 (Kd.R_lt (Zr HO_3))) (Kd.R_lt (Zr HO180))) (below_size Zf)); replace HO_3 := am_ (Kd.R_elder' (Zr HO_3) (Kd.R_base ho51) hb); replace HO180 := am_ (Kd.R_elder' (Zr HO180) (Kd.R_base ho51) hb); replace HR177 := am_ (Kd.C_below (Zt HR177) hb); replace HR190 := am_ (Kd.C_below (Zt HR190) hb); replace HB := (bsZ Zf hb); clear hb ho51; refine hK.out _ _ trivial (fun hHeld => ?_); clear hK K; refine normZ 39 ?_; exact norm_ Zv (hCont (v172, v179, v182) _ ⟨(Zw HO180), (Zx HO183), (Zy HO_3), (Zt HR177), (Zt HR190), Zf⟩)
              ·skip
               refine Kd.R_lit_step (Kd.int .i64) _ 2 ?hg (N := 39) ?hd (xs := ([x4_1] : List Int)) (inner := [.int .i64 x4_1]) (ok := fun _ => True) (okp := fun _ => True) ?hr ?hp (fun _ hk => hk) trivial (Below.refl _ _) (Nat.le_refl _) (by simp) ?_; (case hd => rfl); (case hg => rfl); (case hr => first | (go_simp; done) | (go_simp; rfl)); (case hp => exact (Reps.one (show Kd.M (Kd.int .i64) _ _ _ x4_1 [.int .i64 x4_1] from rfl) (Reps.none _ _))); intro v182 w49 ho50 hb hg_ hnew_; clear hg_ hnew_
               (first | rw [← Ny181.out] at ho50 | (simp only [Int.reduceToNat] at ho50; rw [← Ny181.out] at ho50))
               replace HO183 := am_ (Kd.R_lower (Kd.R_new' (Kd.R_new' ho50 (Kd.R_lt (Zr HO_3))) (Kd.R_lt (Zr HO173))) (below_size Zf)); replace HO_3 := am_ (Kd.R_elder' (Zr HO_3) (Kd.R_base ho50) hb); replace HO173 := am_ (Kd.R_elder' (Zr HO173) (Kd.R_base ho50) hb); replace HR177 := am_ (Kd.C_below (Zt HR177) hb); replace HR190 := am_ (Kd.C_below (Zt HR190) hb); replace HB := (bsZ Zf hb); clear hb ho50; refine hK.out _ _ trivial (fun hHeld => ?_); clear hK K; refine normZ 39 ?_; refine one_ (i := 4) (N := some 37) (bB 13 1919) rfl rfl (one_of HT_.out Zm) (by decide) (fun K hK => ?_); refine Kd.R_append_rows_step (Kd.int .i64) (w0 := w) w.heap.size (by rfl) (.tmp 33) (.tmp 36) 28 2 (.int .i64 0) 8 rfl Try.underlying28 info2 rfl (by decide) (by omega) v172 y171 y174 _ _ _ (fun k_ => some k_ ≠ (.slice Ao43 x3_1.length co43 : Value).ownBlock ∧ some k_ ≠ (v182 : Value).ownBlock) (fun _ => False) rfl rfl ?aO ?aR (fun _ _ h => h) (fun _ h => h.elim) ?aF ?aB ?aS ?aL ?_
               (case aR => repeat (first | exact (Zt HR177) | (with_reducible refine Kd.C_alloc ?_ _) | (with_reducible refine Kd.C_drewN ?_ _) | (with_reducible refine Kd.C_drew ?_)))
               (case aB => exact Zf)
               (case aF => exact (fun k_ hk => ⟨Kd.fresh' (Kd.R_lt (Zr HO_3)) k_ hk, Kd.fresh' (Kd.R_lt (Zr HO183)) k_ hk⟩))
               (case aO => exact (Zy HO173))
               (case aS => exact (below_size Zf))
               (case aL => have := LMc37.out; omega)
               intro v179 w51 ho hb hg hat; rw [← Ny178.out] at ho; replace HO183 := am_ (Kd.R_after (ok := (fun k_ => some k_ ≠ (.slice Ao43 x3_1.length co43 : Value).ownBlock)) (Zy HO183) hg hat); replace HB := am_ (hb); replace HR177 := am_ ((show Kd.C (Kd.int .i64) w51 Ao43 y174.length y174 from (by rw [Ny174.out]; exact Kd.C_take (m := (x5_2 : Int).toNat) ((Kd.R_reads' (Kd.R_after (ok := (fun k_ => some k_ ≠ (v182 : Value).ownBlock)) (Zx HO_3) hg hat)).2.2) KL45.out))); replace HR190 := am_ ((show Kd.C (Kd.int .i64) w51 A46 y187.length y187 from (by rw [Ny187.out, KA46.out]; exact Kd.C_drop (m := (x5_2 : Int).toNat) (c := co43) ((Kd.R_reads' (Kd.R_after (ok := (fun k_ => some k_ ≠ (v182 : Value).ownBlock)) (Zx HO_3) hg hat)).2.2) KL46.out ((Kd.R_reads' (Kd.R_after (ok := (fun k_ => some k_ ≠ (v182 : Value).ownBlock)) (Zx HO_3) hg hat)).2.1)))); replace HO_3 := am_ (Kd.R_after (ok := (fun k_ => some k_ ≠ (v182 : Value).ownBlock)) (Zx HO_3) hg hat); replace HO180 := am_ (ho); clear HO173; clear ho hb hg hat; refine hK.out _ _ trivial (fun hHeld => ?_); clear hK K; refine normZ 37 ?_; exact norm_ Zv (hCont (v172, v179, v182) _ ⟨(Zw HO180), (Zw HO183), (Zw HO_3), (Zt HR177), (Zt HR190), Zf⟩)
             ·skip
              refine Kd.R_lit_step (Kd.int .i64) _ 2 ?hg (N := 39) ?hd (xs := ([x4_1] : List Int)) (inner := [.int .i64 x4_1]) (ok := fun _ => True) (okp := fun _ => True) ?hr ?hp (fun _ hk => hk) trivial (Below.refl _ _) (Nat.le_refl _) (by simp) ?_; (case hd => rfl); (case hg => rfl); (case hr => first | (go_simp; done) | (go_simp; rfl)); (case hp => exact (Reps.one (show Kd.M (Kd.int .i64) _ _ _ x4_1 [.int .i64 x4_1] from rfl) (Reps.none _ _))); intro v182 w47 ho48 hb hg_ hnew_; clear hg_ hnew_
              (first | rw [← Ny181.out] at ho48 | (simp only [Int.reduceToNat] at ho48; rw [← Ny181.out] at ho48))
              replace HO183 := am_ (Kd.R_lower (Kd.R_new' ho48 (Kd.R_lt (Zr HO_3))) (below_size Zf)); replace HO_3 := am_ (Kd.R_elder' (Zr HO_3) (Kd.R_base ho48) hb); replace HR177 := am_ (Kd.C_below (Zt HR177) hb); replace HR190 := am_ (Kd.C_below (Zt HR190) hb); replace HB := (bsZ Zf hb); clear hb ho48; refine hK.out _ _ trivial (fun hHeld => ?_); clear hK K; refine normZ 39 ?_; refine one_ (i := 0) (N := some 33) (bB 13 1903) rfl rfl (one_of HT_.out Zm) (by decide) (fun K hK => ?_); refine Kd.R_lit_step (Kd.int .i64) _ 2 ?hg (N := 33) ?hd (xs := ([] : List Int)) (inner := []) (ok := fun _ => True) (okp := fun _ => True) ?hr ?hp (fun _ hk => hk) trivial (Below.refl _ _) (Nat.le_refl _) (by simp) ?_; (case hd => rfl); (case hg => rfl); (case hr => first | (go_simp; done) | (go_simp; rfl)); (case hp => exact (Reps.none _ _)); intro v172 w49 ho50 hb hg_ hnew_; clear hg_ hnew_
              (first | rw [← Ny171.out] at ho50 | (simp only [Int.reduceToNat] at ho50; rw [← Ny171.out] at ho50))
              replace HO173 := am_ (Kd.R_lower (Kd.R_new' (Kd.R_new' ho50 (Kd.R_lt (Zr HO_3))) (Kd.R_lt (Zr HO183))) (below_size Zf)); replace HO_3 := am_ (Kd.R_elder' (Zr HO_3) (Kd.R_base ho50) hb); replace HO183 := am_ (Kd.R_elder' (Zr HO183) (Kd.R_base ho50) hb); replace HR177 := am_ (Kd.C_below (Zt HR177) hb); replace HR190 := am_ (Kd.C_below (Zt HR190) hb); replace HB := (bsZ Zf hb); clear hb ho50; refine hK.out _ _ trivial (fun hHeld => ?_); clear hK K; refine normZ 33 ?_; refine one_ (i := 4) (N := some 37) (bB 13 1919) rfl rfl (one_of HT_.out Zm) (by decide) (fun K hK => ?_); refine Kd.R_append_rows_step (Kd.int .i64) (w0 := w) w.heap.size (by rfl) (.tmp 33) (.tmp 36) 28 2 (.int .i64 0) 8 rfl Try.underlying28 info2 rfl (by decide) (by omega) v172 y171 y174 _ _ _ (fun k_ => some k_ ≠ (.slice Ao43 x3_1.length co43 : Value).ownBlock ∧ some k_ ≠ (v182 : Value).ownBlock) (fun _ => False) rfl rfl ?aO ?aR (fun _ _ h => h) (fun _ h => h.elim) ?aF ?aB ?aS ?aL ?_
              (case aR => repeat (first | exact (Zt HR177) | (with_reducible refine Kd.C_alloc ?_ _) | (with_reducible refine Kd.C_drewN ?_ _) | (with_reducible refine Kd.C_drew ?_)))
              (case aB => exact Zf)
              (case aF => exact (fun k_ hk => ⟨Kd.fresh' (Kd.R_lt (Zr HO_3)) k_ hk, Kd.fresh' (Kd.R_lt (Zr HO183)) k_ hk⟩))
              (case aO => exact (Zy HO173))
              (case aS => exact (below_size Zf))
              (case aL => have := LMc37.out; omega)
              intro v179 w51 ho hb hg hat; rw [← Ny178.out] at ho; replace HO183 := am_ (Kd.R_after (ok := (fun k_ => some k_ ≠ (.slice Ao43 x3_1.length co43 : Value).ownBlock)) (Zy HO183) hg hat); replace HB := am_ (hb); replace HR177 := am_ ((show Kd.C (Kd.int .i64) w51 Ao43 y174.length y174 from (by rw [Ny174.out]; exact Kd.C_take (m := (x5_2 : Int).toNat) ((Kd.R_reads' (Kd.R_after (ok := (fun k_ => some k_ ≠ (v182 : Value).ownBlock)) (Zy HO_3) hg hat)).2.2) KL45.out))); replace HR190 := am_ ((show Kd.C (Kd.int .i64) w51 A46 y187.length y187 from (by rw [Ny187.out, KA46.out]; exact Kd.C_drop (m := (x5_2 : Int).toNat) (c := co43) ((Kd.R_reads' (Kd.R_after (ok := (fun k_ => some k_ ≠ (v182 : Value).ownBlock)) (Zy HO_3) hg hat)).2.2) KL46.out ((Kd.R_reads' (Kd.R_after (ok := (fun k_ => some k_ ≠ (v182 : Value).ownBlock)) (Zy HO_3) hg hat)).2.1)))); replace HO_3 := am_ (Kd.R_after (ok := (fun k_ => some k_ ≠ (v182 : Value).ownBlock)) (Zy HO_3) hg hat); replace HO180 := am_ (ho); clear HO173; clear ho hb hg hat; refine hK.out _ _ trivial (fun hHeld => ?_); clear hK K; refine normZ 37 ?_; exact norm_ Zv (hCont (v172, v179, v182) _ ⟨(Zw HO180), (Zw HO183), (Zw HO_3), (Zt HR177), (Zt HR190), Zf⟩)
            rintro ⟨v172, v179, v182⟩ w52 ⟨h0_, h1_, h2_, h3_, h4_, h5_⟩; replace HO180 : Aside0 (Kd.R (Kd.int .i64) 2 w52 w.heap.size (fun k_ => some k_ ≠ (v182 : Value).ownBlock ∧ some k_ ≠ (.slice Ao43 x3_1.length co43 : Value).ownBlock) v179 y178) := ⟨h0_⟩; replace HO183 : Aside0 (Kd.R (Kd.int .i64) 2 w52 w.heap.size (fun k_ => some k_ ≠ (v179 : Value).ownBlock ∧ some k_ ≠ (.slice Ao43 x3_1.length co43 : Value).ownBlock) v182 y181) := ⟨h1_⟩; replace HO_3 : Aside0 (Kd.R (Kd.int .i64) 2 w52 w.heap.size (fun k_ => some k_ ≠ (v179 : Value).ownBlock ∧ some k_ ≠ (v182 : Value).ownBlock) (.slice Ao43 x3_1.length co43) x3_1) := ⟨h2_⟩; replace HR177 : Aside0 (Kd.C (Kd.int .i64) w52 Ao43 y174.length y174) := ⟨h3_⟩; replace HR190 : Aside0 (Kd.C (Kd.int .i64) w52 A46 y187.length y187) := ⟨h4_⟩; replace HB : Aside0 (Below w.heap.size w w52) := ⟨h5_⟩; clear h0_ h1_ h2_ h3_ h4_ h5_; have hHeld := trivial; obtain ⟨Ao54, co54, eo54⟩ := Kd.R_slice HO183.out
            (first | subst eo54 | (injection eo54 with f1_ f2_ f3_; have f4_ := f1_.symm; have f5_ := f3_.symm; clear f1_ f2_ f3_; subst f4_; subst f5_))
            refine normP ?_; refine one_ (i := 7) (N := some 40) (bT 13 11) rfl rfl (one_of HT_.out Zm) (by decide) (fun K hK => ?_); refine Kd.R_append_rows_step (Kd.int .i64) (w0 := w) w.heap.size (by rfl) (.tmp 37) (.tmp 39) 28 2 (.int .i64 0) 8 rfl Try.underlying28 info2 rfl (by decide) (by omega) v179 y178 y181 _ _ _ (fun k_ => some k_ ≠ (.slice Ao43 x3_1.length co43 : Value).ownBlock ∧ some k_ ≠ (.slice Ao54 y181.length co54 : Value).ownBlock) (fun _ => False) rfl rfl ?aO ?aR (fun _ _ h => h) (fun _ h => h.elim) ?aF ?aB ?aS ?aL ?_
            (case aR => repeat (first | exact (Kd.R_reads' HO183.out).2.2 | (with_reducible refine Kd.C_alloc ?_ _) | (with_reducible refine Kd.C_drewN ?_ _) | (with_reducible refine Kd.C_drew ?_)))
            (case aB => exact Zf)
            (case aF => exact (fun k_ hk => ⟨Kd.fresh' (Kd.R_lt (Zr HO_3)) k_ hk, Kd.fresh' (Kd.R_lt (Zr HO183)) k_ hk⟩))
            (case aO => exact (Zw HO180))
            (case aS => exact (below_size Zf))
            (case aL => have := LMc38.out; omega)
            intro v185 w53 ho hb hg hat; rw [← Ny184.out] at ho; replace HO183 := am_ (Kd.R_after (ok := (fun k_ => some k_ ≠ (.slice Ao43 x3_1.length co43 : Value).ownBlock)) (Zw HO183) hg hat); replace HB := am_ (hb); replace HR177 := am_ ((show Kd.C (Kd.int .i64) w53 Ao43 y174.length y174 from (by rw [Ny174.out]; exact Kd.C_take (m := (x5_2 : Int).toNat) ((Kd.R_reads' (Kd.R_after (ok := (fun k_ => some k_ ≠ (.slice Ao54 y181.length co54 : Value).ownBlock)) (Zw HO_3) hg hat)).2.2) KL45.out))); replace HR190 := am_ ((show Kd.C (Kd.int .i64) w53 A46 y187.length y187 from (by rw [Ny187.out, KA46.out]; exact Kd.C_drop (m := (x5_2 : Int).toNat) (c := co43) ((Kd.R_reads' (Kd.R_after (ok := (fun k_ => some k_ ≠ (.slice Ao54 y181.length co54 : Value).ownBlock)) (Zw HO_3) hg hat)).2.2) KL46.out ((Kd.R_reads' (Kd.R_after (ok := (fun k_ => some k_ ≠ (.slice Ao54 y181.length co54 : Value).ownBlock)) (Zw HO_3) hg hat)).2.1)))); replace HO_3 := am_ (Kd.R_after (ok := (fun k_ => some k_ ≠ (.slice Ao54 y181.length co54 : Value).ownBlock)) (Zw HO_3) hg hat); replace HO186 := am_ (ho); clear HO180; clear ho hb hg hat; refine hK.out _ _ trivial (fun hHeld => ?_); clear hK K; refine normZ 40 ?_; refine one_ (i := 11) (N := some 44) (bT 13 12) rfl rfl (one_of HT_.out Zm) (by decide) (fun K hK => ?_); refine Kd.R_append_rows_step (Kd.int .i64) (w0 := w) w.heap.size (by rfl) (.tmp 40) (.tmp 43) 28 2 (.int .i64 0) 8 rfl Try.underlying28 info2 rfl (by decide) (by omega) v185 y184 y187 _ _ _ (fun k_ => some k_ ≠ (.slice Ao43 x3_1.length co43 : Value).ownBlock ∧ some k_ ≠ (.slice Ao54 y181.length co54 : Value).ownBlock) (fun _ => False) rfl rfl ?aO ?aR (fun _ _ h => h) (fun _ h => h.elim) ?aF ?aB ?aS ?aL ?_
            (case aR => repeat (first | exact (Zt HR190) | (with_reducible refine Kd.C_alloc ?_ _) | (with_reducible refine Kd.C_drewN ?_ _) | (with_reducible refine Kd.C_drew ?_)))
            (case aB => exact Zf)
            (case aF => exact (fun k_ hk => ⟨Kd.fresh' (Kd.R_lt (Zr HO_3)) k_ hk, Kd.fresh' (Kd.R_lt (Zr HO183)) k_ hk⟩))
            (case aO => exact (Zr HO186))
            (case aS => exact (below_size Zf))
            (case aL => have := LMc41.out; omega)
            intro v192 w55 ho hb hg hat; rw [← Ny191.out] at ho; replace HO183 := am_ (Kd.R_after (ok := (fun k_ => some k_ ≠ (.slice Ao43 x3_1.length co43 : Value).ownBlock)) (Zr HO183) hg hat); replace HB := am_ (hb); replace HR177 := am_ ((show Kd.C (Kd.int .i64) w55 Ao43 y174.length y174 from (by rw [Ny174.out]; exact Kd.C_take (m := (x5_2 : Int).toNat) ((Kd.R_reads' (Kd.R_after (ok := (fun k_ => some k_ ≠ (.slice Ao54 y181.length co54 : Value).ownBlock)) (Zr HO_3) hg hat)).2.2) KL45.out))); replace HR190 := am_ ((show Kd.C (Kd.int .i64) w55 A46 y187.length y187 from (by rw [Ny187.out, KA46.out]; exact Kd.C_drop (m := (x5_2 : Int).toNat) (c := co43) ((Kd.R_reads' (Kd.R_after (ok := (fun k_ => some k_ ≠ (.slice Ao54 y181.length co54 : Value).ownBlock)) (Zr HO_3) hg hat)).2.2) KL46.out ((Kd.R_reads' (Kd.R_after (ok := (fun k_ => some k_ ≠ (.slice Ao54 y181.length co54 : Value).ownBlock)) (Zr HO_3) hg hat)).2.1)))); replace HO_3 := am_ (Kd.R_after (ok := (fun k_ => some k_ ≠ (.slice Ao54 y181.length co54 : Value).ownBlock)) (Zr HO_3) hg hat); replace HO193 := am_ (ho); clear HO186; clear ho hb hg hat; refine hK.out _ _ trivial (fun hHeld => ?_); clear hK K; refine normZ 44 ?_; refine pureZ HT_ 12 (some 3) (bT 13 13) ?_; refine done_ (done_of HT_.out Zm) ?_
            try go_wp2
            go_roundg k2
            case measure => have := HK1.out; have := HK2.out; omega
            case rel => exact ⟨(y191), (wrap64 (x4_1 + 1)), Za, H', ⟨Zs⟩, ⟨(Zz HO193)⟩, ⟨Zf⟩⟩
           ·rw [if_neg c41] at H
            exact absurd H (by simp)
          ·rw [if_neg c38] at H
           exact absurd H (by simp)
         ·rw [if_neg c37] at H
          exact absurd H (by simp)
        ·rw [if_neg c36] at H
         exact absurd H (by simp)
       ·rw [if_neg c35] at H
        exact absurd H (by simp)
   ·rw [if_neg c4] at H
    have c4b0 := decide_eq_false c4; clear c4; obtain rfl := Option.some.inj H
    go_wp2
    go_ret
    exact ⟨_, Zl, (Zr HO_3), Zf⟩
def spec_l08Times.l0 : Nat → List Int → Int → List (S104) → List (S61) → List (S58) → Option (List Int)
 | 0, _, _, _, _, _ => none
 | k + 1, x3, x4, x195000, x195001, x195002 => if x4 < (x195002.length : Int) then (if 0 ≤ x4 then ((spec_l08Time.f k x195000 x195001 x195002 ((rd_T58 x195002 x4).f0) ((rd_T58 x195002 x4).f1) ((rd_T58 x195002 x4).f2) ((rd_T58 x195002 x4).f3)).bind fun t199 => (if x3.length < 17592186044416 then (spec_l08Times.l0 k (x3 ++ [t199]) (wrap64 (x4 + 1)) x195000 x195001 x195002) else (none))) else (none)) else (some x3)
def spec_l08Times.f (k : Nat) (l0_0 : List (S104)) (l0_1 : List (S61)) (l0_2 : List (S58)) : Option (List Int) := spec_l08Times.l0 k (([] : List Int)) 0 l0_0 l0_1 l0_2
def spec_l08Times.T5 : Bool × List (List Nat × List Nat) := (true, [([], []), ([], []), ([], []), ([2], [2]), ([], []), ([3, 4], [3, 4]), ([5], [5]), ([1, 6], [1, 6]), ([7], [7]), ([0, 8, 7], [0, 8]), ([9, 9, 0, 1, 2, 3, 4, 5, 6, 7, 8, 9], [0, 9])])
def spec_l08Times.B5 : List Nat := [0, 0, 0, 4, 0, 28, 60, 126, 254, 511, 1023]
theorem spec_l08Times.tab5 : rtab .any (opsOf Try.f45 5) = spec_l08Times.T5 := by kernel_rfl
theorem spec_l08Times.bits5 : waitsOk spec_l08Times.T5.2 spec_l08Times.B5 = true := by kernel_rfl
set_option maxHeartbeats 8000000 in
set_option maxRecDepth 100000 in
theorem spec_l08Times.calls (k : Nat) (A0_0 : Option Addr) (c0_0 : Nat) (l0_0 : List (S104)) (A0_1 : Option Addr) (c0_1 : Nat) (l0_1 : List (S61)) (A0_2 : Option Addr) (c0_2 : Nat) (l0_2 : List (S58)) (r : List Int) (w : World) (hr0_0 : Kd.C k104 w A0_0 l0_0.length l0_0) (hc0_0 : l0_0.length ≤ c0_0) (hr0_1 : Kd.C k61 w A0_1 l0_1.length l0_1) (hc0_1 : l0_1.length ≤ c0_1) (hr0_2 : Kd.C k58 w A0_2 l0_2.length l0_2) (hc0_2 : l0_2.length ≤ c0_2) (h : spec_l08Times.f k l0_0 l0_1 l0_2 = some r) :
  Calls Try.prog 45 #[.agg #[.slice A0_0 l0_0.length c0_0, .slice A0_1 l0_1.length c0_1, .slice A0_2 l0_2.length c0_2]] w fun e w' => ∃ v0_ : Value, e = .returned (v0_) ∧ Kd.R (Kd.int .i64) 2 w' w.heap.size (fun _ => True) v0_ r ∧ Below w.heap.size w w' := by
 have hu35 := Try.underlying35; have hu58 := Try.underlying58; have HR0_0 := am_ hr0_0; have HC0_0 := am_ hc0_0; clear hr0_0 hc0_0; have HR0_1 := am_ hr0_1; have HC0_1 := am_ hc0_1; clear hr0_1 hc0_1; have HR0_2 := am_ hr0_2; have HC0_2 := am_ hc0_2; clear hr0_2 hc0_2; have HB := am_ (Below.refl w.heap.size w); have H : (spec_l08Times.l0 k (([] : List Int)) 0 l0_0 l0_1 l0_2) = some r := h; clear h; obtain ⟨y195, hy195⟩ : ∃ y_ : List Int, y_ = (([] : List Int)) := ⟨_, rfl⟩
 replace H : (spec_l08Times.l0 k y195 0 l0_0 l0_1 l0_2) = some r := by (try rw [hy195]); first | with_reducible exact H | with_reducible exact (Option.bind_some _ _).symm.trans H | exact H
 have Ny195 := am_ hy195; clear hy195; have H' := am_ H; clear H
 go_enter Try.func45, Try.ntmps45
 go_wp2_with (first | ((with_reducible refine gate_dst (N := 1) rfl ?_); refine boxZ 1 #[.slice A0_0 l0_0.length c0_0, .slice A0_1 l0_1.length c0_1, .slice A0_2 l0_2.length c0_2] 35 ?_; intro gb194 hg w2 hbox hb; replace BK194 := am_ (hbox); replace GW194 := am_ ((Ze : w.heap.size ≤ gb194)); replace GE194 := GW194; replace HB := (bsZ Zf hb); clear hb hbox hg) | ((with_reducible refine gate_dst (N := 5) rfl ?_); refine Kd.R_lit (Kd.int .i64) _ 2 ?hg (N := 5) ?hd (xs := ([] : List Int)) (inner := []) (ok := fun _ => True) (okp := fun _ => True) ?hr ?hp (fun _ hk => hk) trivial (Below.refl _ _) (Nat.le_refl _) (by simp) ?_; (case hd => rfl); (case hg => rfl); (case hr => first | (go_simp; done) | (go_simp; rfl)); (case hp => exact (Reps.none _ _)); intro v196 w3 ho4 hb hg_ hnew_; clear hg_ hnew_; (first | rw [← Ny195.out] at ho4 | (simp only [Int.reduceToNat] at ho4; rw [← Ny195.out] at ho4)); replace HO197 := am_ (Kd.R_lower ho4 (below_size (Zh GE194))); replace BK194 := (bkZ BK194 hb); replace HB := (bsZ (Zh GE194) hb); clear hb ho4))
 go_loopg [3, 4] k (fun kq v3 v4 w' => ∃ (x3_1 : List Int) (x4_1 : Int), v4 = .int .i64 x4_1 ∧ Aside0 (spec_l08Times.l0 kq x3_1 x4_1 l0_0 l0_1 l0_2 = some r) ∧ Aside0 (kq ≤ k) ∧ Aside0 (Kd.R (Kd.int .i64) 2 w' w.heap.size (fun _ => True) v3 x3_1) ∧ Aside0 (w'.heap[gb194]? = some (.cells #[(.slice A0_0 l0_0.length c0_0), (.slice A0_1 l0_1.length c0_1), (.slice A0_2 l0_2.length c0_2)] 35 (0, 0))) ∧ Aside0 (Below w.heap.size w w'))
 case atStart => exact ⟨(y195), (0), Za, H', ⟨Nat.le_refl _⟩, ⟨(Zr HO197)⟩, ⟨(Zq BK194)⟩, ⟨(Zh GE194)⟩⟩
 case round =>
  clear H'
  try clear p2
  try clear c4
  obtain ⟨x3_1, x4_1, rfl, HA, HK1, HO_3, BK194, HB⟩ := hrel
  cases gk with
  | zero => exact absurd HA.out (by simp [spec_l08Times.l0])
  | succ k1 =>
   have H := HA.out; clear HA; simp only [spec_l08Times.l0] at H
   by_cases c5 : x4_1 < (l0_2.length : Int)
   ·rw [if_pos c5] at H
    have c5b0 := decide_eq_true c5; clear c5
    by_cases c6 : 0 ≤ x4_1
    ·rw [if_pos c6] at H
     have c6b0 := decide_eq_true c6; clear c6; replace H := Option.bind_eq_some_iff.mp H; obtain ⟨t199, A70, H⟩ := H; have A7 := am_ A70; clear A70
     by_cases c8 : x3_1.length < 17592186044416
     ·rw [if_pos c8] at H
      have LMc8 := am_ c8; clear c8; obtain ⟨y200, hy200⟩ : ∃ y_ : List Int, y_ = (x3_1 ++ [t199]) := ⟨_, rfl⟩
      (first | (rw [← hy200] at H; with_reducible replace H := bindZ H) | rw [← hy200] at H | skip)
      have Ny200 := am_ hy200; clear hy200; have H' := am_ H; clear H; refine ci3 BK194 ?_; intros
      try go_wp2
      replace HO_3 := am_ (Kd.R_drew HO_3.out); replace BK194 := am_ (blk_drew BK194.out); replace HB := am_ (below_drew1 HB.out); have p198 : 0 ≤ (x4_1 : Int) := of_decide_eq_true Zc; have q198 : x4_1 < (l0_2.length : Int) := of_decide_eq_true Zc; obtain ⟨ad198, e198, hx198_0, hx198_1, hx198_2, hx198_3⟩ := at_T58 HR0_2.out x4_1 p198 q198; have hw198_3 := hx198_3; have hw198_2 := hx198_2; have hw198_1 := hx198_1; have hw198_0 := hx198_0
      cases e198
      replace hx198_0 := cbH HB hx198_0; replace hx198_1 := cbH HB hx198_1; replace hx198_2 := cbH HB hx198_2; replace hx198_3 := cbH HB hx198_3; replace p198 := eq_true p198; replace q198 := eq_true q198; refine start_ (n := 11) (S := fun w' => w'.cell? ⟨gb194, 0, none⟩ = some (.slice A0_0 l0_0.length c0_0) ∧ w'.cell? ⟨gb194, 1, none⟩ = some (.slice A0_1 l0_1.length c0_1) ∧ w'.cell? ⟨gb194, 2, none⟩ = some (.slice (some ad198) l0_2.length c0_2) ∧ w'.cell? (ad198.add ((x4_1).toNat * 4)) = some (.int .i64 ((rd_T58 l0_2 x4_1).f0)) ∧ w'.cell? ⟨(ad198.add ((x4_1).toNat * 4)).block, (ad198.add ((x4_1).toNat * 4)).off + 1, none⟩ = some (.int .i64 ((rd_T58 l0_2 x4_1).f1)) ∧ w'.cell? ⟨(ad198.add ((x4_1).toNat * 4)).block, (ad198.add ((x4_1).toNat * 4)).off + 2, none⟩ = some (.string ((rd_T58 l0_2 x4_1).f2)) ∧ w'.cell? ⟨(ad198.add ((x4_1).toNat * 4)).block, (ad198.add ((x4_1).toNat * 4)).off + 3, none⟩ = some (.int .i64 ((rd_T58 l0_2 x4_1).f3))) (ds := []) (bT 11 0) Zm rfl rfl ⟨(blk_cell BK194.out 0).trans rfl, (blk_cell BK194.out 1).trans rfl, (blk_cell BK194.out 2).trans rfl, (cbH HB hw198_0 :), (cbH HB hw198_1 :), (cbH HB hw198_2 :), (cbH HB hw198_3 :)⟩ (fun hHeld => ?_); refine with_tabW spec_l08Times.tab5 spec_l08Times.bits5 (fun HT_ HW_ => ?_); generalize wr.drew = w10 at HO_3 BK194 HB hx198_0 hx198_1 hx198_2 hx198_3 hHeld ⊢; refine pureZ HT_ 0 (some 13) (bT 11 1) ?_; refine pureZ HT_ 2 (some 15) (bB 11 5) ?_; refine pureZ HT_ 4 (some 17) (bB 11 21) ?_; refine takeZ7 HT_ HW_ 1 (some 14) (bB 11 23) hHeld ?_; refine takeZ7 HT_ HW_ 3 (some 16) (bT 11 5) hHeld ?_; refine pureZ HT_ 5 (some 18) (bT 11 6) ?_; refine takeZ7 HT_ HW_ 6 (some 19) (bT 11 7) hHeld ?_; refine one_ (i := 7) (N := some 20) (bT 11 8) rfl rfl (one_of HT_.out Zm) (by decide) (fun K hK => ?_); refine goes_ Try.func72 Zm rfl #[.agg #[.slice A0_0 l0_0.length c0_0, .slice A0_1 l0_1.length c0_1, .slice (some ad198) l0_2.length c0_2], .agg #[.int .i64 ((rd_T58 l0_2 x4_1).f0), .int .i64 ((rd_T58 l0_2 x4_1).f1), .string ((rd_T58 l0_2 x4_1).f2), .int .i64 ((rd_T58 l0_2 x4_1).f3)]] (by rfl) rfl rfl Zn ?_
      with_reducible refine (spec_l08Time.calls k1 _ _ l0_0 _ _ l0_1 _ _ l0_2 ((rd_T58 l0_2 x4_1).f0) ((rd_T58 l0_2 x4_1).f1) ((rd_T58 l0_2 x4_1).f2) ((rd_T58 l0_2 x4_1).f3) t199 _ ?side1 ?side2 ?side3 ?side4 ?side5 ?side6 A7.out).mono ?_
      (case side1 => exact (Zi HR0_0))
      (case side2 => exact HC0_0.out)
      (case side3 => exact (Zi HR0_1))
      (case side4 => exact HC0_1.out)
      (case side5 => exact (Zi HR0_2))
      (case side6 => exact HC0_2.out)
      rintro e w11 ⟨rfl, hb⟩; refine ⟨_, rfl, ?_⟩; replace HO_3 := (hbZ HO_3 hb); replace BK194 := (bkZ BK194 hb); replace HB := (bsZ (Zh GE194) hb)
      (try clear hb)
      (try clear hb2)
      (try clear hk)
      (try clear hi)
      refine hK.out _ _ (by exact ⟨(blk_cell BK194.out 0).trans rfl, (blk_cell BK194.out 1).trans rfl, (blk_cell BK194.out 2).trans rfl, (cbH HB hw198_0 :), (cbH HB hw198_1 :), (cbH HB hw198_2 :), (cbH HB hw198_3 :)⟩) (fun hHeld => ?_); clear hK K; refine normZ 20 ?_; refine one_ (i := 8) (N := some 21) (bT 11 9) rfl rfl (one_of HT_.out Zm) (by decide) (fun K hK => ?_); refine value_ (w1 := ?_) (v := ?_) (by rfl) rfl ?_ ?_; rotate_left 2
      ·go_simp
       constructor
       ·rfl
       ·rfl
      refine hK.out _ _ ⟨(blk_cell (blk_alloc BK194.out _) 0).trans rfl, (blk_cell (blk_alloc BK194.out _) 1).trans rfl, (blk_cell (blk_alloc BK194.out _) 2).trans rfl, (World.cell?_alloc_lt _ _ _ (World.block_lt_of_cell? _ _ ((cbH HB hw198_0 :)))).trans ((cbH HB hw198_0 :)), (World.cell?_alloc_lt _ _ _ (World.block_lt_of_cell? _ _ ((cbH HB hw198_1 :)))).trans ((cbH HB hw198_1 :)), (World.cell?_alloc_lt _ _ _ (World.block_lt_of_cell? _ _ ((cbH HB hw198_2 :)))).trans ((cbH HB hw198_2 :)), (World.cell?_alloc_lt _ _ _ (World.block_lt_of_cell? _ _ ((cbH HB hw198_3 :)))).trans ((cbH HB hw198_3 :))⟩ (fun hHeld => ?_); clear hK K; refine normZ 21 ?_; refine one_ (i := 9) (N := some 22) (bT 11 10) rfl rfl (one_of HT_.out Zm) (by decide) (fun K hK => ?_); refine Kd.R_append_step (Kd.int .i64) (w0 := w) w.heap.size (by rfl) (.tmp 13) (.tmp 21) 28 2 (.int .i64 0) 8 rfl Try.underlying28 info2 rfl (by decide) (by omega) u3 x3_1 t199 [.int .i64 t199] (fun _ => True) (fun _ => False) rfl rfl ?aP (fun _ hk => hk.elim) ?aF ?aO ?aB ?aS ?aL ?_
      (case aP => exact rfl)
      (case aB => exact (Zh GE194))
      (case aF => exact (fun _ _ => trivial))
      (case aO => exact (Zr HO_3))
      (case aS => exact (below_size (Zh GE194)))
      (case aL => have := LMc8.out; omega)
      intro v201 w12 ho hb hg hat; rw [← Ny200.out] at ho; replace BK194 := am_ (blk_grown (g := gb194) (b0Z BK194) hg (Kd.R_ne HO_3.out BK194.out (by decide))); replace HB := am_ (hb); replace HO202 := am_ (ho); clear HO_3; clear ho hb hg hat; refine hK.out _ _ (by exact ⟨(blk_cell BK194.out 0).trans rfl, (blk_cell BK194.out 1).trans rfl, (blk_cell BK194.out 2).trans rfl, (cbH HB hw198_0 :), (cbH HB hw198_1 :), (cbH HB hw198_2 :), (cbH HB hw198_3 :)⟩) (fun hHeld => ?_); clear hK K; refine normZ 22 ?_; refine pureZ HT_ 10 (some 3) (bT 11 11) ?_; refine done_ (done_of HT_.out Zm) ?_
      try go_wp2
      go_roundg k1
      case measure => have := HK1.out; omega
      case rel => exact ⟨(y200), (wrap64 (x4_1 + 1)), Za, H', ⟨Zd⟩, ⟨(Zr HO202)⟩, ⟨(Zq BK194)⟩, ⟨(Zh GE194)⟩⟩
     ·rw [if_neg c8] at H
      exact absurd H (by simp)
    ·rw [if_neg c6] at H
     exact absurd H (by simp)
   ·rw [if_neg c5] at H
    have c5b0 := decide_eq_false c5; clear c5; obtain rfl := Option.some.inj H; refine ci3 BK194 ?_; intros
    go_wp2
    go_ret
    exact ⟨_, Zl, (Zr HO_3), (Zh GE194)⟩
def spec_FireOrder.f (k : Nat) (l0_0 : List (S104)) (l0_1 : List (S61)) (l0_2 : List (S58)) : Option (List Int × Int) := (spec_IsShow.f k l0_0 l0_1 l0_2).bind fun t204 => (if t204 = true then ((spec_l08Times.f k l0_0 l0_1 l0_2).bind fun t205 => ((spec_l08Order.f k t205).bind fun t208 => (some (t208, 0)))) else (some (([] : List Int), 1)))
set_option maxHeartbeats 8000000 in
set_option maxRecDepth 100000 in
theorem spec_FireOrder.calls (k : Nat) (A0_0 : Option Addr) (c0_0 : Nat) (l0_0 : List (S104)) (A0_1 : Option Addr) (c0_1 : Nat) (l0_1 : List (S61)) (A0_2 : Option Addr) (c0_2 : Nat) (l0_2 : List (S58)) (r1 : List Int) (r2 : Int) (w : World) (hr0_0 : Kd.C k104 w A0_0 l0_0.length l0_0) (hc0_0 : l0_0.length ≤ c0_0) (hr0_1 : Kd.C k61 w A0_1 l0_1.length l0_1) (hc0_1 : l0_1.length ≤ c0_1) (hr0_2 : Kd.C k58 w A0_2 l0_2.length l0_2) (hc0_2 : l0_2.length ≤ c0_2) (h : spec_FireOrder.f k l0_0 l0_1 l0_2 = some (r1, r2)) :
  Calls Try.prog 8 #[.agg #[.slice A0_0 l0_0.length c0_0, .slice A0_1 l0_1.length c0_1, .slice A0_2 l0_2.length c0_2]] w fun e w' => ∃ v0_ : Value, e = .returned (.tuple #[v0_, .int .i64 r2]) ∧ Kd.R (Kd.int .i64) 2 w' w.heap.size (fun _ => True) v0_ r1 ∧ Below w.heap.size w w' := by
 have hu35 := Try.underlying35; have HR0_0 := am_ hr0_0; have HC0_0 := am_ hc0_0; clear hr0_0 hc0_0; have HR0_1 := am_ hr0_1; have HC0_1 := am_ hc0_1; clear hr0_1 hc0_1; have HR0_2 := am_ hr0_2; have HC0_2 := am_ hc0_2; clear hr0_2 hc0_2; have HB := am_ (Below.refl w.heap.size w); have H : ((spec_IsShow.f k l0_0 l0_1 l0_2).bind fun t204 => (if t204 = true then ((spec_l08Times.f k l0_0 l0_1 l0_2).bind fun t205 => ((spec_l08Order.f k t205).bind fun t208 => (some (t208, 0)))) else (some (([] : List Int), 1)))) = some (r1, r2) := h; clear h; replace H := Option.bind_eq_some_iff.mp H; obtain ⟨t204, A20, H⟩ := H; have A2 := am_ A20; clear A20; have HS_ := am_ H; clear H
 go_enter Try.func8, Try.ntmps8
 go_wp2_with (first | ((with_reducible refine gate_dst (N := 1) rfl ?_); refine boxZ 1 #[.slice A0_0 l0_0.length c0_0, .slice A0_1 l0_1.length c0_1, .slice A0_2 l0_2.length c0_2] 35 ?_; intro gb203 hg w6 hbox hb; replace BK203 := am_ (hbox); replace GW203 := am_ ((Ze : w.heap.size ≤ gb203)); replace GE203 := GW203; replace HB := (bsZ Zf hb); clear hb hbox hg; refine ci3 BK203 ?_; intros) | ((with_reducible refine gate_callee (f := 43) rfl ?_); refine gZ 5 Try.func43 #[.agg #[.slice A0_0 l0_0.length c0_0, .slice A0_1 l0_1.length c0_1, .slice A0_2 l0_2.length c0_2]] ?_; (with_reducible refine (spec_IsShow.calls k _ _ l0_0 _ _ l0_1 _ _ l0_2 t204 _ ?_ ?_ ?_ ?_ ?_ ?_ A2.out).mono ?_); exact (Zi HR0_0); exact HC0_0.out; exact (Zi HR0_1); exact HC0_1.out; exact (Zi HR0_2); exact HC0_2.out; rintro e w8 ⟨rfl, hb⟩; refine ⟨_, rfl, ?_⟩; replace BK203 := (bkZ BK203 hb); replace HB := (bsZ (Zh GE203) hb); clear hb; refine ?roundEnd))
 case roundEnd =>
  by_cases c3 : t204 = true
  ·have H := HS_.out
   clear HS_; subst c3; rw [if_pos rfl] at H; replace H := Option.bind_eq_some_iff.mp H; obtain ⟨t205, A40, H⟩ := H; have A4 := am_ A40; clear A40; replace H := Option.bind_eq_some_iff.mp H; obtain ⟨t208, A50, H⟩ := H; have A5 := am_ A50; clear A50; simp only [Option.some.injEq, Prod.mk.injEq] at H; obtain ⟨rfl, rfl⟩ := H; refine ci3 BK203 ?_; intros
   go_wp2_with (first | ((with_reducible refine gate_callee (f := 45) rfl ?_); refine gZ 8 Try.func45 #[.agg #[.slice A0_0 l0_0.length c0_0, .slice A0_1 l0_1.length c0_1, .slice A0_2 l0_2.length c0_2]] ?_; (with_reducible refine (spec_l08Times.calls k _ _ l0_0 _ _ l0_1 _ _ l0_2 t205 _ ?_ ?_ ?_ ?_ ?_ ?_ A4.out).mono ?_); exact (Zi HR0_0); exact HC0_0.out; exact (Zi HR0_1); exact HC0_1.out; exact (Zi HR0_2); exact HC0_2.out; rintro e w10 ⟨v206, rfl, ho0, hb⟩; refine ⟨_, rfl, ?_⟩; replace HO207 := am_ (Kd.R_lower ho0 (below_size (Zh GE203))); replace BK203 := (bkZ BK203 hb); replace HB := (bsZ (Zh GE203) hb); clear hb ho0; obtain ⟨Ao11, co11, eo11⟩ := Kd.R_slice HO207.out; subst eo11) | ((with_reducible refine gate_callee (f := 44) rfl ?_); refine gZ 9 Try.func44 #[.slice Ao11 t205.length co11] ?_; (with_reducible refine (spec_l08Order.calls k _ _ t205 t208 _ ?_ ?_ A5.out).mono ?_); exact (Zaa HO207); exact (Kd.R_reads' HO207.out).2.1; rintro e w12 ⟨v209, rfl, ho0, hb⟩; refine ⟨_, rfl, ?_⟩; replace HO210 := am_ (Kd.R_lower (Kd.R_new' ho0 (Kd.R_lt (Zr HO207))) (below_size (Zh GE203))); replace HO207 := am_ (Kd.R_elder' (Zr HO207) (Kd.R_base ho0) hb); replace BK203 := (bkZ BK203 hb); replace HB := (bsZ (Zh GE203) hb); clear hb ho0))
   go_ret2
   exact ⟨_, Zl, (Zz HO210), (Zh GE203)⟩
  ·have H := HS_.out
   clear HS_; replace c3 := Bool.eq_false_iff.mpr c3; subst c3; rw [if_neg (show ¬ (false = true) by decide)] at H; simp only [Option.some.injEq, Prod.mk.injEq] at H; obtain ⟨rfl, rfl⟩ := H
   go_wp2_with (first | fail)
   go_ret2
   exact ⟨_, Zl, Zab, (Zh GE203)⟩
def impl_within.f (a0 : Int) (a1 : Int) (a2 : Int) : Option (Bool) := if a1 ≤ a0 then (some (decide (a0 ≤ a2))) else (some false)
set_option maxHeartbeats 8000000 in
set_option maxRecDepth 100000 in
theorem impl_within.calls (a0 : Int) (a1 : Int) (a2 : Int) (r : Bool) (w : World) (h : impl_within.f a0 a1 a2 = some r) :
  Calls Try.prog 58 #[.int .i64 a0, .int .i64 a1, .int .i64 a2] w fun e w' => e = .returned (.bool r) ∧ Drawn0 w w' := by
 have H : (if a1 ≤ a0 then (some (decide (a0 ≤ a2))) else (some false)) = some r := h; clear h
 by_cases c4 : a1 ≤ a0
 ·rw [if_pos c4] at H
  have c4b0 := decide_eq_true c4; clear c4; obtain rfl := Option.some.inj H
  go_enter Try.func58, Try.ntmps58
  go_wp2
  go_ret
  exact ⟨Za, Zb⟩
 ·rw [if_neg c4] at H
  have c4b0 := decide_eq_false c4; clear c4; obtain rfl := Option.some.inj H
  go_enter Try.func58, Try.ntmps58
  go_wp2
  go_ret
  exact ⟨Za, Zb⟩
def impl_isIndex.f (a0 : Int) (a1 : Int) : Option (Bool) := (impl_within.f a0 0 (wrap64 (a1 - 1))).bind fun t211 => (some t211)
set_option maxHeartbeats 8000000 in
set_option maxRecDepth 100000 in
theorem impl_isIndex.calls (a0 : Int) (a1 : Int) (r : Bool) (w : World) (h : impl_isIndex.f a0 a1 = some r) :
  Calls Try.prog 102 #[.int .i64 a0, .int .i64 a1] w fun e w' => e = .returned (.bool r) ∧ Drawn0 w w' := by
 have H : ((impl_within.f a0 0 (wrap64 (a1 - 1))).bind fun t211 => (some t211)) = some r := h; clear h; replace H := Option.bind_eq_some_iff.mp H; obtain ⟨t211, A30, H⟩ := H; have A3 := am_ A30; clear A30; obtain rfl := Option.some.inj H
 go_enter Try.func102, Try.ntmps102
 go_wp2_with (first | ((with_reducible refine gate_callee (f := 58) rfl ?_); refine gZ 8 Try.func58 #[.int .i64 a0, .int .i64 0, .int .i64 (wrap64 (a1 - 1))] ?_; (with_reducible refine (impl_within.calls a0 0 (wrap64 (a1 - 1)) t211 _ A3.out).mono ?_); rintro e w' ⟨rfl, ⟨nd, rfl⟩⟩; refine ⟨_, rfl, ?_⟩))
 go_ret
 exact ⟨Za, Zb⟩
def impl_isBeat.f (l0 : List (S104)) (a1 : Int) (a2 : Int) : Option (Bool) := (impl_isIndex.f a1 (l0.length : Int)).bind fun t212 => (if t212 = true then (if 0 ≤ a1 then (if a1 < (l0.length : Int) then ((impl_within.f a2 0 (wrap64 (((rd_T104 l0 a1).f0) - 1))).bind fun t214 => (some t214)) else (none)) else (none)) else (some false))
set_option maxHeartbeats 8000000 in
set_option maxRecDepth 100000 in
theorem impl_isBeat.calls (A0 : Option Addr) (c0 : Nat) (l0 : List (S104)) (a1 : Int) (a2 : Int) (r : Bool) (w : World) (hr0 : Kd.C k104 w A0 l0.length l0) (hc0 : l0.length ≤ c0) (h : impl_isBeat.f l0 a1 a2 = some r) :
  Calls Try.prog 75 #[.slice A0 l0.length c0, .int .i64 a1, .int .i64 a2] w fun e w' => e = .returned (.bool r) ∧ Drawn0 w w' := by
 have HR0 := am_ hr0; have HC0 := am_ hc0; clear hr0 hc0; have H : ((impl_isIndex.f a1 (l0.length : Int)).bind fun t212 => (if t212 = true then (if 0 ≤ a1 then (if a1 < (l0.length : Int) then ((impl_within.f a2 0 (wrap64 (((rd_T104 l0 a1).f0) - 1))).bind fun t214 => (some t214)) else (none)) else (none)) else (some false))) = some r := h; clear h; replace H := Option.bind_eq_some_iff.mp H; obtain ⟨t212, A40, H⟩ := H; have A4 := am_ A40; clear A40; have HS_ := am_ H; clear H
 go_enter Try.func75, Try.ntmps75
 go_wp2_with (first | ((with_reducible refine gate_callee (f := 102) rfl ?_); refine gZ 10 Try.func102 #[.int .i64 a1, .int .i64 (l0.length : Int)] ?_; (with_reducible refine (impl_isIndex.calls a1 (l0.length : Int) t212 _ A4.out).mono ?_); rintro e w' ⟨rfl, ⟨nd, rfl⟩⟩; refine ⟨_, rfl, ?_⟩; refine ?roundEnd))
 case roundEnd =>
  by_cases c5 : t212 = true
  ·have H := HS_.out
   clear HS_; subst c5; rw [if_pos rfl] at H
   by_cases c6 : 0 ≤ a1
   ·rw [if_pos c6] at H
    have c6b0 := decide_eq_true c6; clear c6
    by_cases c7 : a1 < (l0.length : Int)
    ·rw [if_pos c7] at H
     have c7b0 := decide_eq_true c7; clear c7; replace H := Option.bind_eq_some_iff.mp H; obtain ⟨t214, A80, H⟩ := H; have A8 := am_ A80; clear A80; obtain rfl := Option.some.inj H; have p213 : 0 ≤ (a1 : Int) := of_decide_eq_true Zc; have q213 : a1 < (l0.length : Int) := of_decide_eq_true Zc; obtain ⟨ad213, e213, hx213_0, hx213_1⟩ := at_T104 HR0.out a1 p213 q213
     cases e213
     replace p213 := eq_true p213; replace q213 := eq_true q213
     go_wp2_with (first | (go_at_call 58; (with_reducible refine (impl_within.calls a2 0 (wrap64 (((rd_T104 l0 a1).f0) - 1)) t214 _ A8.out).mono ?_); rintro e w' ⟨rfl, ⟨nd, rfl⟩⟩))
     go_ret
     exact ⟨Za, Zb⟩
    ·rw [if_neg c7] at H
     exact absurd H (by simp)
   ·rw [if_neg c6] at H
    exact absurd H (by simp)
  ·have H := HS_.out
   clear HS_; replace c5 := Bool.eq_false_iff.mpr c5; subst c5; rw [if_neg (show ¬ (false = true) by decide)] at H; obtain rfl := Option.some.inj H
   go_wp2_with (first | fail)
   go_ret
   exact ⟨Za, Zb⟩
def impl_beatTime.l0 : Nat → List (S104) → Int → Int → Int → List (S104) → Int → Int → Option (Int)
 | 0, _, _, _, _, _, _, _ => none
 | k + 1, x0, x1, x2, x7, x12, x13, x14 => if x14 < x13 then (if 0 ≤ x14 then (if x14 < (x12.length : Int) then (impl_beatTime.l0 k x0 x1 x2 (wrap64 (x7 + (wrap64 (((rd_T104 x12 x14).f0) * ((rd_T104 x12 x14).f1))))) x12 x13 (wrap64 (x14 + 1))) else (none)) else (none)) else (if x2 > 0 then (if 0 ≤ x1 then (if x1 < (x0.length : Int) then (some (wrap64 (x7 + (wrap64 (x2 * ((rd_T104 x0 x1).f1)))))) else (none)) else (none)) else (some x7))
def impl_beatTime.f (k : Nat) (l0 : List (S104)) (a1 : Int) (a2 : Int) : Option (Int) := if 0 ≤ a1 then (if a1 ≤ (l0.length : Int) then ((some (l0.take (a1 : Int).toNat : List (S104))).bind fun y215 => (impl_beatTime.l0 k l0 a1 a2 0 y215 (y215.length : Int) 0)) else (none)) else (none)
set_option maxHeartbeats 8000000 in
set_option maxRecDepth 100000 in
theorem impl_beatTime.calls (k : Nat) (A0 : Option Addr) (c0 : Nat) (l0 : List (S104)) (a1 : Int) (a2 : Int) (r : Int) (w : World) (hr0 : Kd.C k104 w A0 l0.length l0) (hc0 : l0.length ≤ c0) (h : impl_beatTime.f k l0 a1 a2 = some r) :
  Calls Try.prog 76 #[.slice A0 l0.length c0, .int .i64 a1, .int .i64 a2] w fun e w' => e = .returned (.int .i64 r) ∧ Below w.heap.size w w' := by
 have hu104 := Try.underlying104; have HR0 := am_ hr0; have HC0 := am_ hc0; clear hr0 hc0; have HB := am_ (Below.refl w.heap.size w); have H : (if 0 ≤ a1 then (if a1 ≤ (l0.length : Int) then ((some (l0.take (a1 : Int).toNat : List (S104))).bind fun y215 => (impl_beatTime.l0 k l0 a1 a2 0 y215 (y215.length : Int) 0)) else (none)) else (none)) = some r := h; clear h
 by_cases c4 : 0 ≤ a1
 ·rw [if_pos c4] at H
  have c4b0 := eq_true c4; have c4b1 := decide_eq_true c4; clear c4
  by_cases c5 : a1 ≤ (l0.length : Int)
  ·rw [if_pos c5] at H
   have c5b0 := eq_true c5; have c5b1 := decide_eq_true c5; clear c5; obtain ⟨y215, hy215⟩ : ∃ y_ : List (S104), y_ = (l0.take (a1 : Int).toNat) := ⟨_, rfl⟩
   (first | (rw [← hy215] at H; with_reducible replace H := bindZ H) | rw [← hy215] at H | skip)
   have Ny215 := am_ hy215; clear hy215; have H' := am_ H; clear H; have q6 : (a1 : Int) ≤ ((l0.length : Int) : Int) := of_decide_eq_true Zc; obtain ⟨i06, hi06, _, hsz6, _⟩ := info_parts info104; have hroom6 : l0.length ≤ c0 := HC0.out; have hC6 : Kd.C k104 _ A0 l0.length l0 := HR0.out; have hcut6 := cut_to (P := Try.prog) 31 104 .i64 Try.underlying31 hi06 A0 l0.length c0 a1 (of_decide_eq_true Zc) q6 hroom6; have hr6 := Kd.C_take (m := (a1 : Int).toNat) hC6 (by omega); have hy6 : y215.length = (a1 : Int).toNat := (by rw [Ny215.out, List.length_take]; omega); rw [← Ny215.out] at hr6; rw [← hy6] at hcut6; have HR218 := am_ hr6; have HC218 := am_ (show y215.length ≤ c0 from (by omega)); clear hr6 hC6 hroom6 hi06 hsz6; have KY6 := am_ hy6; clear hy6; replace q6 := eq_true q6
   go_enter Try.func76, Try.ntmps76
   go_wp2
   go_loopg [7, 14] k (fun kq v7 v14 w' => ∃ (x7_1 : Int) (x14_1 : Int), v7 = .int .i64 x7_1 ∧ v14 = .int .i64 x14_1 ∧ Aside0 (impl_beatTime.l0 kq l0 a1 a2 x7_1 y215 (y215.length : Int) x14_1 = some r) ∧ Aside0 (kq ≤ k) ∧ Aside0 (Below w.heap.size w w'))
   case atStart => exact ⟨(0), (0), Za, Za, H', ⟨Nat.le_refl _⟩, ⟨Zf⟩⟩
   case round =>
    clear H'
    try clear p2
    try clear c4
    try clear c4b0
    try clear c4b1
    try clear c5
    try clear c5b0
    try clear c5b1
    try clear q6
    try clear q6
    obtain ⟨x7_1, x14_1, rfl, rfl, HA, HK1, HB⟩ := hrel
    cases gk with
    | zero => exact absurd HA.out (by simp [impl_beatTime.l0])
    | succ k1 =>
     have H := HA.out; clear HA; simp only [impl_beatTime.l0] at H
     by_cases c7 : x14_1 < (y215.length : Int)
     ·rw [if_pos c7] at H
      have c7b0 := decide_eq_true c7; clear c7
      by_cases c8 : 0 ≤ x14_1
      ·rw [if_pos c8] at H
       have c8b0 := decide_eq_true c8; clear c8
       by_cases c9 : x14_1 < (y215.length : Int)
       ·rw [if_pos c9] at H
        have c9b0 := decide_eq_true c9; clear c9; have H' := am_ H; clear H; have p219 : 0 ≤ (x14_1 : Int) := of_decide_eq_true Zc; have q219 : x14_1 < (y215.length : Int) := of_decide_eq_true Zc; obtain ⟨ad219, e219, hx219_0, hx219_1⟩ := at_T104 HR218.out x14_1 p219 q219
        cases e219
        replace hx219_0 := cbH HB hx219_0; replace hx219_1 := cbH HB hx219_1; replace p219 := eq_true p219; replace q219 := eq_true q219
        go_wp2_with (first | ((with_reducible refine gate_dst (N := 9) rfl ?_); refine boxZ 9 #[.int .i64 0, .int .i64 0] 104 ?_; intro gb220 hg w10 hbox hb; replace BK220 := am_ (hbox); replace GW220 := am_ ((Ze : w.heap.size ≤ gb220)); replace GE220 := GW220; replace HB := (bsZ Zf hb); clear hb hbox hg; refine ci2 BK220 ?_; intros))
        go_roundg k1
        case measure => have := HK1.out; omega
        case rel => exact ⟨(wrap64 (x7_1 + (wrap64 (((rd_T104 y215 x14_1).f0) * ((rd_T104 y215 x14_1).f1))))), (wrap64 (x14_1 + 1)), Za, Za, H', ⟨Zd⟩, ⟨(Zh GE220)⟩⟩
       ·rw [if_neg c9] at H
        exact absurd H (by simp)
      ·rw [if_neg c8] at H
       exact absurd H (by simp)
     ·rw [if_neg c7] at H
      have c7b0 := decide_eq_false c7; clear c7
      by_cases c12 : a2 > 0
      ·rw [if_pos c12] at H
       have c12b0 : decide (0 < a2) = true := decide_eq_true c12; clear c12
       by_cases c13 : 0 ≤ a1
       ·rw [if_pos c13] at H
        have c13b0 := decide_eq_true c13; clear c13
        by_cases c14 : a1 < (l0.length : Int)
        ·rw [if_pos c14] at H
         have c14b0 := decide_eq_true c14; clear c14; obtain rfl := Option.some.inj H; have p221 : 0 ≤ (a1 : Int) := of_decide_eq_true Zc; have q221 : a1 < (l0.length : Int) := of_decide_eq_true Zc; obtain ⟨ad221, e221, hx221_0, hx221_1⟩ := at_T104 HR0.out a1 p221 q221
         cases e221
         replace hx221_0 := cbH HB hx221_0; replace hx221_1 := cbH HB hx221_1; replace p221 := eq_true p221; replace q221 := eq_true q221
         go_wp2
         go_ret
         exact ⟨Zl, Zf⟩
        ·rw [if_neg c14] at H
         exact absurd H (by simp)
       ·rw [if_neg c13] at H
        exact absurd H (by simp)
      ·rw [if_neg c12] at H
       have c12b0 : decide (0 < a2) = false := decide_eq_false c12; clear c12; obtain rfl := Option.some.inj H
       go_wp2
       go_ret
       exact ⟨Zl, Zf⟩
  ·rw [if_neg c5] at H
   exact absurd H (by simp)
 ·rw [if_neg c4] at H
  exact absurd H (by simp)
def impl_articleOf.l0 : Nat → ByteArray → List (S61) → Int → Int → Option (Int)
 | 0, _, _, _, _ => none
 | k + 1, x1, x7, x8, x9 => if x9 < x8 then (if 0 ≤ x9 then (if x9 < (x7.length : Int) then (if ((rd_T61 x7 x9).f0).toList = x1.toList then (some x9) else (impl_articleOf.l0 k x1 x7 x8 (wrap64 (x9 + 1)))) else (none)) else (none)) else (some (-1))
def impl_articleOf.f (k : Nat) (l0 : List (S61)) (a1 : ByteArray) : Option (Int) := impl_articleOf.l0 k a1 l0 (l0.length : Int) 0
set_option maxHeartbeats 8000000 in
set_option maxRecDepth 100000 in
theorem impl_articleOf.calls (k : Nat) (A0 : Option Addr) (c0 : Nat) (l0 : List (S61)) (a1 : ByteArray) (r : Int) (w : World) (hr0 : Kd.C k61 w A0 l0.length l0) (hc0 : l0.length ≤ c0) (h : impl_articleOf.f k l0 a1 = some r) :
  Calls Try.prog 77 #[.slice A0 l0.length c0, .string a1] w fun e w' => e = .returned (.int .i64 r) ∧ Below w.heap.size w w' := by
 have hu61 := Try.underlying61; have HR0 := am_ hr0; have HC0 := am_ hc0; clear hr0 hc0; have HB := am_ (Below.refl w.heap.size w); have H : (impl_articleOf.l0 k a1 l0 (l0.length : Int) 0) = some r := h; clear h; have H' := am_ H; clear H
 go_enter Try.func77, Try.ntmps77
 go_wp2
 go_loopg [9] k (fun kq v9 w' => ∃ (x9_1 : Int), v9 = .int .i64 x9_1 ∧ Aside0 (impl_articleOf.l0 kq a1 l0 (l0.length : Int) x9_1 = some r) ∧ Aside0 (kq ≤ k) ∧ Aside0 (Below w.heap.size w w'))
 case atStart => exact ⟨(0), Za, H', ⟨Nat.le_refl _⟩, ⟨Zf⟩⟩
 case round =>
  clear H'
  try clear p2
  obtain ⟨x9_1, rfl, HA, HK1, HB⟩ := hrel
  cases gk with
  | zero => exact absurd HA.out (by simp [impl_articleOf.l0])
  | succ k1 =>
   have H := HA.out; clear HA; simp only [impl_articleOf.l0] at H
   by_cases c3 : x9_1 < (l0.length : Int)
   ·rw [if_pos c3] at H
    have c3b0 := decide_eq_true c3; clear c3
    by_cases c4 : 0 ≤ x9_1
    ·rw [if_pos c4] at H
     have c4b0 := decide_eq_true c4; clear c4
     by_cases c5 : x9_1 < (l0.length : Int)
     ·rw [if_pos c5] at H
      have c5b0 := decide_eq_true c5; clear c5
      by_cases c6 : ((rd_T61 l0 x9_1).f0).toList = a1.toList
      ·rw [if_pos c6] at H
       have c6b0 := beq_iff_eq.mpr c6; have c6b1 := bne_eq_false_iff_eq.mpr c6; clear c6; obtain rfl := Option.some.inj H; have p222 : 0 ≤ (x9_1 : Int) := of_decide_eq_true Zc; have q222 : x9_1 < (l0.length : Int) := of_decide_eq_true Zc; obtain ⟨ad222, e222, hx222_0, hx222_1, hx222_2, hx222_3, hx222_4, hx222_5, hx222_6, hx222_7, hx222_8⟩ := at_T61 HR0.out x9_1 p222 q222
       cases e222
       replace hx222_0 := cbH HB hx222_0; replace hx222_1 := cbH HB hx222_1; replace hx222_2 := cbH HB hx222_2; replace hx222_3 := cbH HB hx222_3; replace hx222_4 := cbH HB hx222_4; replace hx222_5 := cbH HB hx222_5; replace hx222_6 := cbH HB hx222_6; replace hx222_7 := cbH HB hx222_7; replace hx222_8 := cbH HB hx222_8; replace p222 := eq_true p222; replace q222 := eq_true q222
       go_wp2_with (first | ((with_reducible refine gate_dst (N := 6) rfl ?_); refine boxZ 6 #[.string (⟨#[]⟩ : ByteArray), .int .i64 0, .int .i64 0, .int .i64 0, .int .i64 0, .int .i64 0, .int .i64 0, .int .i64 0, .int .i64 0] 61 ?_; intro gb223 hg w7 hbox hb; replace BK223 := am_ (hbox); replace GW223 := am_ ((Ze : w.heap.size ≤ gb223)); replace GE223 := GW223; replace HB := (bsZ Zf hb); clear hb hbox hg; refine ci9 BK223 ?_; intros))
       go_ret
       exact ⟨Zl, (Zh GE223)⟩
      ·rw [if_neg c6] at H
       have c6b0 := beq_eq_false_iff_ne.mpr c6; have c6b1 := bne_iff_ne.mpr c6; have H' := am_ H; clear H; have p222 : 0 ≤ (x9_1 : Int) := of_decide_eq_true Zc; have q222 : x9_1 < (l0.length : Int) := of_decide_eq_true Zc; obtain ⟨ad222, e222, hx222_0, hx222_1, hx222_2, hx222_3, hx222_4, hx222_5, hx222_6, hx222_7, hx222_8⟩ := at_T61 HR0.out x9_1 p222 q222
       cases e222
       replace hx222_0 := cbH HB hx222_0; replace hx222_1 := cbH HB hx222_1; replace hx222_2 := cbH HB hx222_2; replace hx222_3 := cbH HB hx222_3; replace hx222_4 := cbH HB hx222_4; replace hx222_5 := cbH HB hx222_5; replace hx222_6 := cbH HB hx222_6; replace hx222_7 := cbH HB hx222_7; replace hx222_8 := cbH HB hx222_8; replace p222 := eq_true p222; replace q222 := eq_true q222
       go_wp2_with (first | ((with_reducible refine gate_dst (N := 6) rfl ?_); refine boxZ 6 #[.string (⟨#[]⟩ : ByteArray), .int .i64 0, .int .i64 0, .int .i64 0, .int .i64 0, .int .i64 0, .int .i64 0, .int .i64 0, .int .i64 0] 61 ?_; intro gb223 hg w9 hbox hb; replace BK223 := am_ (hbox); replace GW223 := am_ ((Ze : w.heap.size ≤ gb223)); replace GE223 := GW223; replace HB := (bsZ Zf hb); clear hb hbox hg; refine ci9 BK223 ?_; intros))
       go_roundg k1
       case measure => have := HK1.out; omega
       case rel => exact ⟨(wrap64 (x9_1 + 1)), Za, H', ⟨Zd⟩, ⟨(Zh GE223)⟩⟩
     ·rw [if_neg c5] at H
      exact absurd H (by simp)
    ·rw [if_neg c4] at H
     exact absurd H (by simp)
   ·rw [if_neg c3] at H
    have c3b0 := decide_eq_false c3; clear c3; obtain rfl := Option.some.inj H
    go_wp2
    go_ret
    exact ⟨Zl, Zf⟩
end Go.Proofs.Ytmnnbmdfepogiaa.F
