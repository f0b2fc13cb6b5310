import Derived.Test.YtgboijlipcimkaaF0
import Derived.ChangeSlices
import Derived.OpenShut
namespace Go.Proofs.Ytgboijlipcimkaa.F
open Go.RowKit Go.Proofs.YtgboijlipcimkaaW.PrintWords Go.Proofs.YtgboijlipcimkaaW.PrintLast Go.Proofs.YtgboijlipcimkaaW.PrintMore
set_option linter.unusedVariables false
set_option linter.unusedSimpArgs false
open Go.ChangeShapes
/-! ### words of this session: the laws' own walks -/
theorem cut_cap {P : Program} (t e : TypeId) (kh : IntKind) {i : TypeInfo} (ht : P.underlying t = some (.slice e)) (hi : P.info? e = some i) (A : Option Addr) (n c : Nat) (j : Int) (h0 : 0 ≤ j) (hm : j ≤ c) :
    ∀ W : World, (Instr.slice t (.slice A n c) none (some (.int kh j)) none).run P W = .ok (.slice A j.toNat c) W := by
  intro W
  have hel : P.elem t = e := by simp [Program.elem, ht]
  have hu : P.underlying t = some (.slice (P.elem t)) := by rw [hel]; exact ht
  have ha : (A.map fun x => x.add 0) = A := by cases A <;> simp [Addr.add]
  rw [run_slice_h W t A n c hu kh j h0 hm, hel]
  simp [sizeOf, typeInfo, hi, sliced, Result.andThen, ha]
/-- A slice of length n that was made with the whole row r under its capacity. -/
def Full {α : Type} (d : Kd α) (t : Nat) (w : World) (base : Nat) (n : Nat) (v : Value) (r : List α) : Prop := r ≠ [] → ∃ A c, v = .slice A n c ∧ n ≤ r.length ∧ Kd.R d t w base (fun _ => True) (.slice A r.length c) r
/-- An object of the call's own: its blocks lie from lo to hi. -/
def Ob {α : Type} (d : Kd α) (t : Nat) (w : World) (base lo hi : Nat) (v : Value) (xs : List α) : Prop := Kd.R d t w base (fun k => lo ≤ k ∧ k < hi) v xs ∧ base ≤ lo ∧ hi ≤ w.heap.size
section
variable {α : Type} {d : Kd α} {t : Nat} {w w0 w1 : World} {base lo hi : Nat} {v : Value} {xs : List α}
theorem Ob_new (h : Kd.R d t w1 w0.heap.size (fun _ => True) v xs) (hb : base ≤ w0.heap.size) : Ob d t w1 base w0.heap.size w1.heap.size v xs :=
  ⟨Kd.R_lower (Kd.R_mono (Kd.R_bound h) (fun k hk => ⟨hk.2.1, hk.2.2.1⟩)) hb, hb, Nat.le_refl _⟩
theorem Ob_below (h : Ob d t w base lo hi v xs) (hb : Below w.heap.size w w1) : Ob d t w1 base lo hi v xs := ⟨Kd.R_below h.1 hb, h.2.1, Nat.le_trans h.2.2 hb.size⟩
theorem Ob_alloc (h : Ob d t w base lo hi v xs) (o : Obj) : Ob d t (w.alloc o) base lo hi v xs := Ob_below h (below_alloc (Below.refl _ _) o)
theorem Ob_drew (h : Ob d t w base lo hi v xs) : Ob d t w.drew base lo hi v xs := Ob_below h (below_drew (Below.refl _ _))
theorem Ob_drewN (h : Ob d t w base lo hi v xs) (m : Nat) : Ob d t (w.drewN m) base lo hi v xs := Ob_below h (pw_below_drewN (Below.refl _ _) m)
theorem Ob_kept {lo' hi' : Nat} (h : Ob d t w base lo hi v xs) (hk : Kept w w1 (fun k => lo' ≤ k ∧ k < hi')) (ha : hi' ≤ lo ∨ hi ≤ lo') : Ob d t w1 base lo hi v xs :=
  ⟨Kd.R_step h.1 (fun k hk1 hk2 => hk.2 k hk2 (by omega)), h.2.1, Nat.le_trans h.2.2 hk.1⟩
theorem Ob_slice (h : Ob d t w base lo hi v xs) : ∃ A c, v = .slice A xs.length c := Kd.R_slice h.1
theorem Ob_C {A : Option Addr} {n c : Nat} (h : Ob d t w base lo hi (.slice A n c) xs) : n = xs.length ∧ xs.length ≤ c ∧ d.C w A xs.length xs := by
  have h2 := Kd.R_reads' h.1
  exact ⟨h2.1, by have := h2.2.1; have := h2.1; omega, h2.2.2⟩
theorem Ob_take {A : Option Addr} {n c m : Nat} (h : Ob d t w base lo hi (.slice A n c) xs) (hm : m ≤ xs.length) : Ob d t w base lo hi (.slice A m c) (xs.take m) := ⟨Kd.R_take h.1 hm, h.2⟩
/-- What the program reads of a whole row: its first m elements. -/
theorem fullC {A : Option Addr} {c m : Nat} {L M : List α} (h : Ob d t w base lo hi (.slice A L.length c) L) (hM : M = L.take m ∧ m ≤ L.length) : Kd.C d w A M.length M ∧ M.length ≤ c ∧ L.length ≤ c ∧ Kd.C d w A L.length L := by
  obtain ⟨rfl, hm⟩ := hM
  have h2 := Kd.R_reads' h.1
  exact ⟨Kd.C_take h2.2.2 hm, by rw [List.length_take]; omega, h2.2.1, h2.2.2⟩
theorem fullT {A : Option Addr} {c m : Nat} {L M : List α} (h : Ob d t w base lo hi (.slice A L.length c) L) (hM : M = L.take m ∧ m ≤ L.length) : Ob d t w base lo hi (.slice A M.length c) M := by
  obtain ⟨rfl, hm⟩ := hM
  have h2 := Ob_take h hm
  have e : (L.take m).length = m := by rw [List.length_take]; omega
  rw [← e] at h2
  have e2 : L.take (L.take m).length = L.take m := by rw [e]
  rw [e2] at h2
  exact h2
end
/-! ### whole numbers -/
def I64 (n : Int) : Prop := -9223372036854775808 ≤ n ∧ n ≤ 9223372036854775807
theorem I64_of {n : Int} (h : (Lit.int .i64 n).wf = true) : I64 n := by
  simp only [Lit.wf, Bool.and_eq_true, decide_eq_true_eq] at h
  have h1 : IntKind.i64.min = -9223372036854775808 := by decide
  have h2 : IntKind.i64.max = 9223372036854775807 := by decide
  unfold I64
  omega
/-! ### a row's slice, laid open -/
theorem one_cell {cs : List Value} {i : Nat} {v : Value} (h : (cs.drop i).take 1 = [v]) : cs[i]? = some v := by
  have h1 : ((cs.drop i).take 1)[0]? = some v := by rw [h]; rfl
  simpa using h1
theorem choose_list {α : Type} {n : Nat} {Q : Nat → α → Prop} (h : ∀ i, i < n → ∃ p, Q i p) : ∃ xs : List α, xs.length = n ∧ ∀ i p, xs[i]? = some p → Q i p := by
  induction n with
  | zero => exact ⟨[], rfl, fun i p hp => by simp at hp⟩
  | succ n ih =>
    obtain ⟨xs, hl, hq⟩ := ih (fun i hi => h i (by omega))
    obtain ⟨p, hp⟩ := h n (by omega)
    refine ⟨xs ++ [p], by simp [hl], fun i q hi => ?_⟩
    rcases Nat.lt_or_ge i xs.length with hlt | hge
    · rw [List.getElem?_append_left hlt] at hi
      exact hq i q hi
    · rw [List.getElem?_append_right hge] at hi
      have : i - xs.length = 0 := by
        have := (List.getElem?_eq_some_iff.1 hi).1
        simpa using this
      rw [this] at hi
      have e : p = q := by simpa using hi
      have e2 : i = n := by omega
      rw [e2, ← e]
      exact hp
theorem open_rows {α : Type} (d : Kd α) {Pr : α → Prop} {H : Type} {enc : TypeId × Value → H} {P : Program} {W : World} {base : Nat} {sp : Nat → Bool} {held : Bool} {t e : TypeId} {fuel : Nat} {cs : List Value} {x : DataW H × List MemPlace}
    (ht : P.underlying t = some (.slice e)) (hc : P.cellsOf e = d.sz) (hop : ∀ (fuel : Nat) (cs : List Value) (y : DataW H × List MemPlace), DataW.trod enc P W base sp held fuel e cs = some y → ∃ a : α, d.K W a cs ∧ Pr a)
    (h : DataW.trod enc P W base sp held fuel t cs = some x) :
    ∃ (A : Option Addr) (c : Nat) (xs : List α), cs = [.slice A xs.length c] ∧ xs.length ≤ c ∧ c ≤ maxLen ∧ d.C W A xs.length xs ∧ ∀ p ∈ xs, Pr p := by
  rcases DataW.trod_slice ht h with ⟨rfl, _⟩ | ⟨a, len, cap, elems, rest, n, _, rfl, rfl, hb, hl, hm, hlen, hel, _, _⟩
  · exact ⟨none, 0, [], rfl, Nat.le_refl _, Nat.zero_le _, Kd.C_nil d W, fun p hp => by simp at hp⟩
  · have each : ∀ i, i < len → ∃ p : α, Pr p ∧ ∃ c : List Value, c.length = d.sz ∧ d.K W p c ∧ ∀ j u, c[j]? = some u → W.cell? (a.add (i * d.sz + j)) = some u := by
      intro i hi
      have h1 := hel i hi
      rw [List.getElem?_eq_getElem (by omega)] at h1
      obtain ⟨c, hcells, ho⟩ := Option.bind_eq_some_iff.1 h1
      obtain ⟨p, hK, hp⟩ := hop _ _ _ ho
      obtain ⟨_, hcl, hcell⟩ := World.cells?_some hcells
      refine ⟨p, hp, c, by rw [hcl, hc], hK, fun j u hj => ?_⟩
      have hjl : j < c.length := (List.getElem?_eq_some_iff.1 hj).1
      have h2 := hcell j (by omega)
      rw [hj] at h2
      have e2 : (a.add (i * P.cellsOf e)).add j = a.add (i * d.sz + j) := by rw [hc]; exact Addr.add_add _ _ _
      rw [← e2]
      exact h2
    obtain ⟨xs, hxl, hq⟩ := choose_list each
    refine ⟨some a, cap, xs, by rw [hxl], by omega, hm, ⟨rfl, by rw [hxl]; simp only [maxLen] at hm; omega, fun _ => ⟨a, rfl, fun j p hj => ?_⟩⟩, fun p hp => ?_⟩
    · obtain ⟨_, c, h1, h2, h3⟩ := hq j p hj
      exact ⟨c, h1, h2, h3⟩
    · obtain ⟨i, hi⟩ := List.getElem?_of_mem hp
      exact (hq i p hi).1
section
variable {α : Type} {d : Kd α} {t : Nat} {w w0 w1 : World} {base lo hi : Nat} {v : Value} {xs : List α}
theorem Ob_mk {last : Nat} (h : Kd.R d t w1 w0.heap.size (fun _ => True) v xs) (hb : Below w0.heap.size w0 w1) (hB : base ≤ w0.heap.size) (hl : last ≤ w0.heap.size) :
    ∃ lo hi, Ob d t w1 base lo hi v xs ∧ last ≤ lo ∧ lo ≤ hi ∧ hi ≤ w1.heap.size := ⟨_, _, Ob_new h hB, hl, hb.size, Nat.le_refl _⟩
end
theorem below_le {w w1 : World} (h : Below w.heap.size w w1) : w.heap.size ≤ w1.heap.size := h.size
theorem Ob_hi {α : Type} {d : Kd α} {t : Nat} {w : World} {base lo hi : Nat} {v : Value} {xs : List α} (h : Ob d t w base lo hi v xs) : hi ≤ w.heap.size := h.2.2
theorem Ob_R {α : Type} {d : Kd α} {t : Nat} {w : World} {base lo hi : Nat} {v : Value} {xs : List α} (h : Ob d t w base lo hi v xs) : Kd.R d t w base (fun k => lo ≤ k ∧ k < hi) v xs := h.1
theorem calls_len {P : Program} {f : FuncId} {A : Option Addr} {n m c : Nat} {v : Value} {w : World} {Q : Ending → World → Prop} (h : m = n) (hc : Calls P f #[.slice A m c, v] w Q) : Calls P f #[.slice A n c, v] w Q := h ▸ hc
theorem calls_len3 {P : Program} {f : FuncId} {A0 A1 A2 : Option Addr} {n0 m0 c0 n1 m1 c1 n2 m2 c2 : Nat} {v : Value} {w : World} {Q : Ending → World → Prop} (h0 : m0 = n0) (h1 : m1 = n1) (h2 : m2 = n2) (hc : Calls P f #[.agg #[.slice A0 m0 c0, .slice A1 m1 c1, .slice A2 m2 c2], v] w Q) : Calls P f #[.agg #[.slice A0 n0 c0, .slice A1 n1 c1, .slice A2 n2 c2], v] w Q := by subst h0; subst h1; subst h2; exact hc
/-! ### three rows of one struct -/
section
variable {α β γ : Type} {d : Kd α} {d1 : Kd β} {d2 : Kd γ} {t t1 t2 : Nat} {w w0 w1 : World} {base lo hi : Nat} {v v1 v2 : Value} {xs : List α} {ys : List β} {zs : List γ}
theorem Ob_mk3 {last : Nat} (h : Kd.R d t w1 w0.heap.size (fun _ => True) v xs) (h1 : Kd.R d1 t1 w1 w0.heap.size (fun _ => True) v1 ys) (h2 : Kd.R d2 t2 w1 w0.heap.size (fun _ => True) v2 zs) (hb : Below w0.heap.size w0 w1) (hB : base ≤ w0.heap.size) (hl : last ≤ w0.heap.size) :
    ∃ lo hi, Ob d t w1 base lo hi v xs ∧ Ob d1 t1 w1 base lo hi v1 ys ∧ Ob d2 t2 w1 base lo hi v2 zs ∧ last ≤ lo ∧ lo ≤ hi ∧ hi ≤ w1.heap.size := ⟨_, _, Ob_new h hB, Ob_new h1 hB, Ob_new h2 hB, hl, hb.size, Nat.le_refl _⟩
theorem Ob_fresh3 {ok ok1 ok2 : Nat → Prop} (h : Kd.R d t w base ok v xs) (h1 : Kd.R d1 t1 w base ok1 v1 ys) (h2 : Kd.R d2 t2 w base ok2 v2 zs) : ∃ hi, Ob d t w base base hi v xs ∧ Ob d1 t1 w base base hi v1 ys ∧ Ob d2 t2 w base base hi v2 zs ∧ hi = w.heap.size :=
  ⟨_, ⟨Kd.R_mono (Kd.R_bound h) (fun _ hz => ⟨hz.2.1, hz.2.2.1⟩), Nat.le_refl _, Nat.le_refl _⟩, ⟨Kd.R_mono (Kd.R_bound h1) (fun _ hz => ⟨hz.2.1, hz.2.2.1⟩), Nat.le_refl _, Nat.le_refl _⟩, ⟨Kd.R_mono (Kd.R_bound h2) (fun _ hz => ⟨hz.2.1, hz.2.2.1⟩), Nat.le_refl _, Nat.le_refl _⟩, rfl⟩
theorem Kept3 {w w' : World} {P : Nat → Prop} (h : Kept w w' (fun k => P k ∨ P k ∨ P k)) : Kept w w' P := ⟨h.1, fun i hi hn => h.2 i hi (fun x => hn (by rcases x with x | x | x <;> exact x))⟩
theorem Ob_set (h : Ob d t w base lo hi v xs) {g j : Nat} (hg : g < lo ∨ hi ≤ g) (u : Value) : Ob d t (w.setCell ⟨g, j, none⟩ u) base lo hi v xs :=
  ⟨Kd.R_far (p := ⟨g, j, none⟩) h.1 (fun k hk => by show k ≠ g; omega) u, h.2.1, Nat.le_trans h.2.2 (Nat.le_of_eq (World.size_setCell _ _ _).symm)⟩
end
/-- a variable's own block, made as one step of a region that draws -/
theorem alloc_ {P : Program} {ops : Array Oper} {Q : Exit → Act → World → Prop} {oi : Oper} {N : Option Tmp} {a : Act} {w : World} {K : Act → World → Prop} (cs : Array Value) (t : TypeId) (hw : Region.wanted oi (yielded ops a.tmps) = true) (hN : oi.dst = N)
    (hrun : (execOp a.eval oi).run P w = .ok (.value (.pointer (some ⟨w.heap.size, 0, none⟩))) (w.alloc (.cells cs t (0, 0))))
    (h : ∀ g, g = w.heap.size → ∀ w1, w1.heap[g]? = some (.cells cs t (0, 0)) → Below w.heap.size w w1 → K (a.put N (.pointer (some ⟨g, 0, none⟩))) w1) : if Region.wanted oi (yielded ops a.tmps) = true then Oper.wp P oi a w K Q else K (a.put N undef) w :=
  value_ hw hN hrun (h _ rfl _ (blk_new w _) (below_alloc (Below.refl _ _) _))
/-- a region that draws, begun in a world of its own name -/
theorem start_w {P : Program} {ops : Array Oper} {Q : Exit → Act → World → Prop} {S : World → Prop} {ds : List Nat} {id n : Nat} {a : Act} {w : World} (l : Array Bool) (hm : P.follows .mixedOrders = true) (hn : ops.size = n) (hl : Array.replicate n false = l)
    (h : ∀ w1, Below w.heap.size w w1 → S w1 ∧ (S w1 → wpAnyLast P .any ops Q S ds n l a w1)) : (Code.region id ops true).wp P Q a w :=
  start_ l hm hn hl (h _ (below_drew (Below.refl _ _))).1 (h _ (below_drew (Below.refl _ _))).2

end Go.Proofs.Ytgboijlipcimkaa.F
