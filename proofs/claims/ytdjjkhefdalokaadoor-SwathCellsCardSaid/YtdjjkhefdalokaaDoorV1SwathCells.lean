/- Part 1 of what the proof of SwathCells stands on. -/
import Derived.Test.YtdjjkhefdalokaaDoorProg
import Derived.WalkKit
import Derived.WalkSpells
import Derived.WalkLawsBesides
import Derived.Handy
import Derived.Laws.EntriesVeiled
import Derived.Lib.Hide
import Derived.Deep.QuietTactic
import Derived.BigQuiet
import Derived.Deep.RegionHeld3
import Derived.Lib.TrailingZeros
import Derived.Scope
import Derived.RangeFuncOwn
import Derived.RangeFuncNested
import Derived.RangeFuncBound
import Derived.RangeFuncCalls
import Derived.RangeFuncLeaves
import Derived.RangeFuncBox
import Derived.Shelf.Abstract
import Derived.Shelf.RegionOpen
import Derived.OwnWalkIn
import Derived.TacticsInMore
import Derived.LoopNIn
import Derived.LoopIn
import Derived.OwnWalk
import Derived.Maps.AppendAt
import Derived.OrdersIn
import Derived.TacticsIn
import Derived.Maps.RangeRun
import Derived.Shelf.SlSortCmp.WholeK
import Derived.Shelf.Lay
import Derived.Ground.SlsfProg
/- Small lemmas that every walk of this seat uses: what a world that has only grown keeps. -/
namespace Go.Proofs.YtdjjkhefdalokaaDoor
open Go.RowKit

theorem ret_int {k : IntKind} {a b : Int} (h : a = b) : Ending.returned (.int k a) = .returned (.int k b) := by rw [h]
theorem ret2_int {k : IntKind} {a b : Int} {v : Value} (h : a = b) : Ending.returned (.tuple #[.int k a, v]) = .returned (.tuple #[.int k b, v]) := by rw [h]
theorem ret_bool {a b : Bool} (h : a = b) : Ending.returned (.bool a) = .returned (.bool b) := by rw [h]

/-- A world under a name, with what is wanted of it. -/
theorem wp_name {P : Program} {c : Code} {Q : Exit → Act → World → Prop} {a : Act} {W : World} (S : World → Prop) (hS : S W) (h : ∀ V, S V → c.wp P Q a V) : c.wp P Q a W := h W hS

/-- The world has grown: nothing that was there has turned. -/
def Ext (w w' : World) : Prop := Below w.heap.size w w'
theorem Ext.refl (w : World) : Ext w w := Below.refl _ _
theorem Ext.trans {a b c : World} (h : Ext a b) (k : Ext b c) : Ext a c := Below.trans h (Below.mono k (Below.size h))
theorem Ext.alloc {a b : World} (h : Ext a b) (o : Obj) : Ext a (b.alloc o) := Below.alloc h (Below.size h) o
theorem Ext.drew {a b : World} (h : Ext a b) : Ext a b.drew := Below.drew h
theorem Ext.drewN {a b : World} (h : Ext a b) (n : Nat) : Ext a (b.drewN n) := Below.trans h ⟨rfl, rfl, rfl, Nat.le_refl _, fun _ _ => rfl⟩
theorem Ext.setCell {a b : World} (h : Ext a b) {p : Addr} (hp : a.heap.size ≤ p.block) (u : Value) : Ext a (b.setCell p u) := Below.setCell h hp u
theorem Ext.size {a b : World} (h : Ext a b) : a.heap.size ≤ b.heap.size := Below.size h
theorem Ext.below {a b : World} (h : Ext a b) : Below a.heap.size a b := h
/-- What lay in W reads in w1 as it did. The premise says 'b < W.heap.size' in a form that the walk's own procedure on addresses decides by omega. -/
theorem Ext.cellE {W w1 : World} (hb : Ext W w1) : ∀ b o, (⟨b + 1 - W.heap.size, 0, none⟩ : Addr) = ⟨0, 0, none⟩ → w1.cell? ⟨b, o, none⟩ = W.cell? ⟨b, o, none⟩ := fun b o h => Below.cell hb (p := ⟨b, o, none⟩) (by simp at h; show b < W.heap.size; omega)
theorem Ext.frozenE {W w1 : World} (hb : Ext W w1) : ∀ b o, (⟨b + 1 - W.heap.size, 0, none⟩ : Addr) = ⟨0, 0, none⟩ → w1.frozen? ⟨b, o, none⟩ = W.frozen? ⟨b, o, none⟩ := fun b o h => Below.frozen hb (p := ⟨b, o, none⟩) (by simp at h; show b < W.heap.size; omega)
theorem Ext.cell {W w1 : World} (hb : Ext W w1) {a : Addr} {v : Value} (h : W.cell? a = some v) : w1.cell? a = some v := by
  rw [Below.cell hb (World.block_lt_of_cell? W a h)]; exact h

theorem Ext.free {W w1 : World} (hb : Ext W w1) {a : Addr} {v : Value} (h : W.cell? a = some v) (hf : W.frozen? a = false) : w1.frozen? a = false := by
  rw [Below.frozen hb (World.block_lt_of_cell? W a h)]; exact hf

theorem lt_of_addr {b n : Nat} (h : (⟨b + 1 - n, 0, none⟩ : Addr) = ⟨0, 0, none⟩) : b < n := by simp at h; omega
/-- New blocks change no old cell: the rules that the walk wants of a world that is a name. -/
theorem alloc_keeps (w : World) :
    (∀ o1 b o, (⟨b + 1 - w.heap.size, 0, none⟩ : Addr) = ⟨0, 0, none⟩ → (w.alloc o1).cell? ⟨b, o, none⟩ = w.cell? ⟨b, o, none⟩) ∧
    (∀ o1 b o, (⟨b + 1 - w.heap.size, 0, none⟩ : Addr) = ⟨0, 0, none⟩ → (w.alloc o1).frozen? ⟨b, o, none⟩ = w.frozen? ⟨b, o, none⟩) ∧
    (∀ o1 o2 b o, (⟨b + 1 - w.heap.size, 0, none⟩ : Addr) = ⟨0, 0, none⟩ → ((w.alloc o1).alloc o2).cell? ⟨b, o, none⟩ = w.cell? ⟨b, o, none⟩) ∧
    (∀ o1 o2 b o, (⟨b + 1 - w.heap.size, 0, none⟩ : Addr) = ⟨0, 0, none⟩ → ((w.alloc o1).alloc o2).frozen? ⟨b, o, none⟩ = w.frozen? ⟨b, o, none⟩) ∧
    (∀ o1 o2 o3 b o, (⟨b + 1 - w.heap.size, 0, none⟩ : Addr) = ⟨0, 0, none⟩ → (((w.alloc o1).alloc o2).alloc o3).cell? ⟨b, o, none⟩ = w.cell? ⟨b, o, none⟩) ∧
    (∀ o1 o2 o3 b o, (⟨b + 1 - w.heap.size, 0, none⟩ : Addr) = ⟨0, 0, none⟩ → (((w.alloc o1).alloc o2).alloc o3).frozen? ⟨b, o, none⟩ = w.frozen? ⟨b, o, none⟩) ∧
    (∀ o1 o2 o3 o4 b o, (⟨b + 1 - w.heap.size, 0, none⟩ : Addr) = ⟨0, 0, none⟩ → ((((w.alloc o1).alloc o2).alloc o3).alloc o4).cell? ⟨b, o, none⟩ = w.cell? ⟨b, o, none⟩) ∧
    (∀ o1 o2 o3 o4 b o, (⟨b + 1 - w.heap.size, 0, none⟩ : Addr) = ⟨0, 0, none⟩ → ((((w.alloc o1).alloc o2).alloc o3).alloc o4).frozen? ⟨b, o, none⟩ = w.frozen? ⟨b, o, none⟩) ∧
    (∀ o1 o2 o3 o4 o5 b o, (⟨b + 1 - w.heap.size, 0, none⟩ : Addr) = ⟨0, 0, none⟩ → (((((w.alloc o1).alloc o2).alloc o3).alloc o4).alloc o5).cell? ⟨b, o, none⟩ = w.cell? ⟨b, o, none⟩) ∧
    (∀ o1 o2 o3 o4 o5 b o, (⟨b + 1 - w.heap.size, 0, none⟩ : Addr) = ⟨0, 0, none⟩ → (((((w.alloc o1).alloc o2).alloc o3).alloc o4).alloc o5).frozen? ⟨b, o, none⟩ = w.frozen? ⟨b, o, none⟩) := by
  have e : ∀ (W : World) (h : Ext w W) (b o : Nat), b < w.heap.size → W.cell? ⟨b, o, none⟩ = w.cell? ⟨b, o, none⟩ ∧ W.frozen? ⟨b, o, none⟩ = w.frozen? ⟨b, o, none⟩ :=
    fun W h b o hb => ⟨Below.cell h (p := ⟨b, o, none⟩) hb, Below.frozen h (p := ⟨b, o, none⟩) hb⟩
  refine ⟨?_, ?_, ?_, ?_, ?_, ?_, ?_, ?_, ?_, ?_⟩ <;> intros <;> rename_i h <;> first
    | exact (e _ (by repeat' (first | exact Ext.refl _ | refine Ext.alloc ?_ _)) _ _ (lt_of_addr h)).1
    | exact (e _ (by repeat' (first | exact Ext.refl _ | refine Ext.alloc ?_ _)) _ _ (lt_of_addr h)).2

end Go.Proofs.YtdjjkhefdalokaaDoor

/- The plain mathematics of the globe: cells, rows. No program in sight. -/
namespace Go.Proofs.YtdjjkhefdalokaaDoor
namespace Globe

def vcB (x y : Int) : Bool := decide (0 ≤ x ∧ x ≤ 47 ∧ 0 ≤ y ∧ y ≤ 23)
theorem vcB_t {x y : Int} : vcB x y = true ↔ 0 ≤ x ∧ x ≤ 47 ∧ 0 ≤ y ∧ y ≤ 23 := by simp [vcB]
def inB (n lo hi : Int) : Bool := decide (lo ≤ n ∧ n ≤ hi)
theorem inB_t {n lo hi : Int} : inB n lo hi = true ↔ lo ≤ n ∧ n ≤ hi := by simp [inB]
theorem inB_f {n lo hi : Int} : inB n lo hi = false ↔ n < lo ∨ hi < n := by simp [inB]; omega
theorem vcB_in (x y : Int) : vcB x y = (inB x 0 47 && inB y 0 23) := by
  rw [Bool.eq_iff_iff, Bool.and_eq_true, vcB_t, inB_t, inB_t]; omega

/-- The element with an index; 0 behind the end. (Not reducible: the walk takes it as it stands.) -/
def nth (l : List Int) (i : Nat) : Int := l[i]?.getD 0
theorem nth_lt {l : List Int} {i : Nat} (h : i < l.length) : nth l i = l[i] := by rw [nth, List.getElem?_eq_getElem h]; rfl
theorem nth_ge {l : List Int} {i : Nat} (h : l.length ≤ i) : nth l i = 0 := by rw [nth, List.getElem?_eq_none h]; rfl
theorem nth_mem {l : List Int} {i : Nat} (h : i < l.length) : nth l i ∈ l := by rw [nth_lt h]; exact List.getElem_mem h
theorem ext_nth {a b : List Int} (hl : a.length = b.length) (h : ∀ i, i < a.length → nth a i = nth b i) : a = b :=
  List.ext_getElem hl fun i h1 h2 => by rw [← nth_lt h1, ← nth_lt h2]; exact h i h1

/-- A row of an area: its cells as bits. -/
def rowOk (r : Int) : Bool := decide (0 ≤ r ∧ r ≤ 281474976710655)
theorem rowOk_t {r : Int} : rowOk r = true ↔ 0 ≤ r ∧ r ≤ 281474976710655 := by simp [rowOk]
/-- A valid area. -/
def validL (l : List Int) : Bool := l.length == 24 && l.all rowOk
theorem validL_t {l : List Int} : validL l = true ↔ l.length = 24 ∧ ∀ r ∈ l, 0 ≤ r ∧ r ≤ 281474976710655 := by
  simp only [validL, Bool.and_eq_true, beq_iff_eq, List.all_eq_true, rowOk_t]
/-- The index of the first row that is not one; -1: none. -/
def badAt : List Int → Int
  | [] => -1
  | r :: l => if rowOk r then (if badAt l < 0 then -1 else badAt l + 1) else 0
theorem badAt_all : ∀ {l : List Int}, l.all rowOk = true → badAt l = -1
  | [], _ => rfl
  | r :: l, h => by
    simp only [List.all_cons, Bool.and_eq_true] at h
    rw [badAt, if_pos h.1, badAt_all h.2]; rfl
theorem badAt_no : ∀ {l : List Int}, l.all rowOk = false → 0 ≤ badAt l
  | [], h => by simp at h
  | r :: l, h => by
    cases hr : rowOk r with
    | false => rw [badAt, if_neg (by rw [hr]; decide)]; decide
    | true =>
      have ih := badAt_no (l := l) (by simpa [List.all_cons, hr] using h)
      rw [badAt, if_pos hr, if_neg (by omega)]; omega
theorem badAt_first : ∀ {l : List Int} {k : Nat}, k < l.length → (∀ j, j < k → rowOk (nth l j) = true) → rowOk (nth l k) = false → badAt l = (k : Int)
  | r :: l, 0, _, _, hk => by simp [nth] at hk; rw [badAt, if_neg (by rw [hk]; decide)]; rfl
  | r :: l, k + 1, h, hp, hk => by
    have ih := badAt_first (l := l) (k := k) (by simpa using h) (fun j hj => by simpa [nth] using hp (j + 1) (by omega)) (by simpa [nth] using hk)
    have h0 : rowOk r = true := by simpa [nth] using hp 0 (by omega)
    rw [badAt, if_pos h0, ih, if_neg (by omega)]; omega

end Globe
end Go.Proofs.YtdjjkhefdalokaaDoor

/- A slice of ints that reads as a list. -/
namespace Go.Proofs.YtdjjkhefdalokaaDoor
open Go.RowKit

/-- At the address a (if there is one) the world w holds the ints l, one behind the other. -/
def IntsAt (w : World) (a : Option Addr) (l : List Int) : Prop :=
  l = [] ∨ ∃ b off, a = some ⟨b, off, none⟩ ∧ ∀ i, i < l.length → w.cell? ⟨b, off + i, none⟩ = some (.int .i64 (Globe.nth l i))
theorem IntsAt.ext {w w' : World} {a : Option Addr} {l : List Int} (h : IntsAt w a l) (hE : Ext w w') : IntsAt w' a l := by
  rcases h with h | ⟨b, off, rfl, h⟩
  · exact .inl h
  · exact .inr ⟨b, off, rfl, fun i hi => hE.cell (h i hi)⟩

/-- 'make([]int, 24)'. -/
theorem make24 (w : World) : (Instr.makeSlice 37 (.int .i64 24) (.int .i64 24)).run Tryd.prog w = .ok (.slice (some ⟨w.heap.size, 0, none⟩) 24 24) (w.alloc (.cells #[.int .i64 0, .int .i64 0, .int .i64 0, .int .i64 0, .int .i64 0, .int .i64 0, .int .i64 0, .int .i64 0, .int .i64 0, .int .i64 0, .int .i64 0, .int .i64 0, .int .i64 0, .int .i64 0, .int .i64 0, .int .i64 0, .int .i64 0, .int .i64 0, .int .i64 0, .int .i64 0, .int .i64 0, .int .i64 0, .int .i64 0, .int .i64 0] 3)) := by kernel_rfl

/-- A new block of ints reads as the list. -/
theorem new_ints (w : World) (l : List Int) (t : TypeId) : ∀ i, i < l.length → (w.alloc (.cells (l.map (Value.int .i64)).toArray t)).cell? ⟨w.heap.size, 0 + i, none⟩ = some (.int .i64 (Globe.nth l i)) := by
  intro i hi
  rw [Nat.zero_add]
  rw [cell_of_row _ _ i _ t (0, 0) (heap_alloc_new w _)]
  simp [Globe.nth, hi]

end Go.Proofs.YtdjjkhefdalokaaDoor

/- Bits of a number that is not negative, in the spelling of the walk. -/
namespace Go.Proofs.YtdjjkhefdalokaaDoor
open Go.RowKit

theorem and_i64 (a b : Nat) (ha : a < 4611686018427387904) (hb : b < 4611686018427387904) : bits .and .i64 (a : Int) (b : Int) = ((a &&& b : Nat) : Int) :=
  (bits_nat .i64 62 (by decide) (fun n h1 h2 => by rw [IntKind.wrap_i64]; omega) a b (by omega) (by omega)).1
theorem or_i64 (a b : Nat) (ha : a < 4611686018427387904) (hb : b < 4611686018427387904) : bits .or .i64 (a : Int) (b : Int) = ((a ||| b : Nat) : Int) :=
  (bits_nat .i64 62 (by decide) (fun n h1 h2 => by rw [IntKind.wrap_i64]; omega) a b (by omega) (by omega)).2
theorem testBit_div (R x : Nat) : R / 2 ^ x % 2 = if R.testBit x then 1 else 0 := by
  rw [← Nat.shiftRight_eq_div_pow, Nat.testBit, Nat.one_and_eq_mod_two]
  have h2 : (R >>> x) % 2 < 2 := Nat.mod_lt _ (by decide)
  by_cases h : (R >>> x) % 2 = 0
  · rw [h]; rfl
  · have h1 : (R >>> x) % 2 = 1 := by omega
    rw [h1]; rfl
theorem div_pow_cast (R x : Nat) : (R : Int) / 2 ^ x = ((R / 2 ^ x : Nat) : Int) := by simp
theorem bit_and1 (R x : Nat) (h : R < 4611686018427387904) : bits .and .i64 ((R : Int) / 2 ^ x) 1 = if R.testBit x then 1 else 0 := by
  rw [div_pow_cast, show (1 : Int) = ((1 : Nat) : Int) from rfl, and_i64 _ _ (Nat.lt_of_le_of_lt (Nat.div_le_self _ _) h) (by decide), Nat.and_one_is_mod, testBit_div]
  split <;> rfl
end Go.Proofs.YtdjjkhefdalokaaDoor

/- The cells of an area: plain mathematics of bits. -/
namespace Go.Proofs.YtdjjkhefdalokaaDoor
namespace Globe

/-- The columns of a row, ascending. -/
def bitsN (R : Nat) : List Nat := (List.range 48).filter fun x => R.testBit x
theorem bitsN_zero : bitsN 0 = [] := by simp [bitsN]

theorem lowest (R : Nat) (h0 : R ≠ 0) (h : R < 2 ^ 64) : ∃ m, R = 2 ^ Lib.ctz 64 R * (2 * m + 1) ∧ R &&& (R - 1) = 2 ^ (Lib.ctz 64 R + 1) * m := by
  obtain ⟨m, hm, _⟩ := Lib.ctzFrom_spec 64 R (by omega) h
  have e : Lib.ctz 64 R = Lib.ctzFrom 64 R := by simp [Lib.ctz, h0]
  rw [e]
  generalize Lib.ctzFrom 64 R = k at hm ⊢
  refine ⟨m, hm, ?_⟩
  have hp : 0 < 2 ^ k := Nat.two_pow_pos k
  have h1 : R = 2 ^ (k + 1) * m + 2 ^ k := by rw [hm, Nat.pow_succ, Nat.mul_add, Nat.mul_one, Nat.mul_assoc]
  have h2 : R - 1 = 2 ^ (k + 1) * m + (2 ^ k - 1) := by omega
  have l1 : 2 ^ k < 2 ^ (k + 1) := by rw [Nat.pow_succ]; omega
  apply Nat.eq_of_testBit_eq
  intro j
  rw [h2, Nat.testBit_and, h1, Nat.testBit_two_pow_mul_add _ l1, Nat.testBit_two_pow_mul_add _ (by omega)]
  rw [Nat.testBit_two_pow_mul]
  by_cases hj : j < k + 1
  · simp only [hj, if_true, Nat.testBit_two_pow, Nat.testBit_two_pow_sub_one]
    rw [show decide (j ≥ k + 1) = false by simp; omega]
    by_cases e : k = j
    · subst e; simp
    · simp [e]
  · simp only [hj, if_false]
    rw [show decide (j ≥ k + 1) = true by simp; omega]
    simp

theorem testBit_ctz (R : Nat) (h0 : R ≠ 0) (h : R < 2 ^ 64) : R.testBit (Lib.ctz 64 R) = true ∧ (∀ j, j < Lib.ctz 64 R → R.testBit j = false) ∧ ∀ j, (R &&& (R - 1)).testBit j = (R.testBit j && decide (j ≠ Lib.ctz 64 R)) := by
  obtain ⟨m, hm, ha⟩ := lowest R h0 h
  generalize Lib.ctz 64 R = k at *
  have h1 : R = 2 ^ (k + 1) * m + 2 ^ k := by rw [hm, Nat.pow_succ, Nat.mul_add, Nat.mul_one, Nat.mul_assoc]
  have l1 : 2 ^ k < 2 ^ (k + 1) := by rw [Nat.pow_succ]; have := Nat.two_pow_pos k; omega
  have tb : ∀ j, R.testBit j = if j < k + 1 then decide (k = j) else m.testBit (j - (k + 1)) := by
    intro j
    rw [h1, Nat.testBit_two_pow_mul_add _ l1, Nat.testBit_two_pow]
  refine ⟨by rw [tb]; simp, fun j hj => by rw [tb, if_pos (by omega)]; simp; omega, fun j => ?_⟩
  rw [ha, tb, Nat.testBit_two_pow_mul]
  by_cases hj : j < k + 1
  · rw [if_pos hj, show decide (j ≥ k + 1) = false by simp; omega]
    by_cases e : k = j
    · subst e; simp
    · simp [e]
  · rw [if_neg hj, show decide (j ≥ k + 1) = true by simp; omega, show decide (j ≠ k) = true by simp; omega]
    simp

theorem ctz_lt (R : Nat) (h0 : R ≠ 0) (h : R < 2 ^ 48) : Lib.ctz 64 R < 48 := by
  have h64 : R < 2 ^ 64 := by omega
  obtain ⟨t, _⟩ := testBit_ctz R h0 h64
  apply Nat.lt_of_not_le
  intro hle
  have : R < 2 ^ Lib.ctz 64 R := Nat.lt_of_lt_of_le h (Nat.pow_le_pow_right (by decide) hle)
  rw [Nat.testBit_lt_two_pow this] at t
  cases t

/-- Taking the lowest column away. -/
theorem bitsN_step (R : Nat) (h0 : R ≠ 0) (h : R < 2 ^ 48) : bitsN R = Lib.ctz 64 R :: bitsN (R &&& (R - 1)) := by
  have h64 : R < 2 ^ 64 := by omega
  obtain ⟨t, tl, ta⟩ := testBit_ctz R h0 h64
  have hk := ctz_lt R h0 h
  generalize Lib.ctz 64 R = k at *
  unfold bitsN
  obtain ⟨r, hr⟩ : ∃ r, 48 = k + (1 + r) := ⟨47 - k, by omega⟩
  rw [hr, List.range_add, List.range_add, List.filter_append, List.filter_append, List.map_append, List.filter_append, List.filter_append]
  have e1 : (List.range k).filter (fun x => R.testBit x) = [] := List.filter_eq_nil_iff.2 fun j hj => by rw [tl j (List.mem_range.1 hj)]; simp
  have e2 : (List.range k).filter (fun x => (R &&& (R - 1)).testBit x) = [] := List.filter_eq_nil_iff.2 fun j hj => by rw [ta, tl j (List.mem_range.1 hj)]; simp
  have e3 : (List.map (fun x => k + x) (List.range 1)).filter (fun x => R.testBit x) = [k] := by simp [List.range_succ, t]
  have e4 : (List.map (fun x => k + x) (List.range 1)).filter (fun x => (R &&& (R - 1)).testBit x) = [] := by simp [List.range_succ, ta]
  rw [e1, e2, e3, e4]
  simp only [List.nil_append, List.singleton_append, List.cons.injEq, true_and]
  refine List.filter_congr fun j hj => ?_
  rw [ta]
  simp only [List.map_map, List.mem_map, List.mem_range, Function.comp] at hj
  obtain ⟨i, _, rfl⟩ := hj
  rw [show decide (k + (1 + i) ≠ k) = true by simp, Bool.and_true]

theorem and_pred_lt (R : Nat) (h : R < 2 ^ 48) : R &&& (R - 1) < 2 ^ 48 := Nat.and_lt_two_pow _ (by omega)
theorem and_pred_less (R : Nat) (h0 : R ≠ 0) : R &&& (R - 1) < R := by
  have : R &&& (R - 1) ≤ R - 1 := Nat.and_le_right
  omega

/-- The cells of a row, and those of the rows below y, in order. -/
def rowCells (l : List Int) (j : Nat) : List (Nat × Nat) := (bitsN (nth l j).toNat).map fun x => (x, j)
def cellsTo (l : List Int) (y : Nat) : List (Nat × Nat) := (List.range y).flatMap (rowCells l)
theorem cellsTo_succ (l : List Int) (y : Nat) : cellsTo l (y + 1) = cellsTo l y ++ rowCells l y := by simp [cellsTo, List.range_succ]
theorem bitsN_len (R : Nat) : (bitsN R).length ≤ 48 := by
  unfold bitsN
  exact Nat.le_trans (List.length_filter_le _ _) (by simp)
theorem cellsTo_len (l : List Int) : ∀ y, (cellsTo l y).length ≤ 48 * y
  | 0 => by simp [cellsTo]
  | y + 1 => by
    rw [cellsTo_succ, List.length_append]
    have := cellsTo_len l y
    have h2 : (rowCells l y).length ≤ 48 := by unfold rowCells; rw [List.length_map]; exact bitsN_len _
    omega

theorem cellsTo_pre (l : List Int) {y n : Nat} (h : y ≤ n) : cellsTo l y <+: cellsTo l n := by
  obtain ⟨r, rfl⟩ : ∃ r, n = y + r := ⟨n - y, by omega⟩
  unfold cellsTo
  rw [List.range_add, List.flatMap_append]
  exact List.prefix_append _ _
/-- In the midst of a row. -/
theorem cells_mid {l : List Int} {y x : Nat} {done rest : List (Nat × Nat)} (hy : y < 24) (h : done ++ (x, y) :: rest = rowCells l y) :
    (cellsTo l y ++ done).length < (cellsTo l 24).length ∧ cellsTo l y ++ done ++ [(x, y)] <+: cellsTo l 24 := by
  have hp := cellsTo_pre l (show y + 1 ≤ 24 by omega)
  rw [cellsTo_succ, ← h] at hp
  refine ⟨?_, ?_⟩
  · have := hp.length_le
    simp only [List.length_append, List.length_cons] at this ⊢
    omega
  · refine List.IsPrefix.trans ?_ hp
    exact ⟨rest, by simp⟩

/-- The cells of an area; how many. -/
def cellsL (l : List Int) : List (Nat × Nat) := if validL l then cellsTo l 24 else []
def countL (l : List Int) : Nat := (cellsL l).length
end Globe
end Go.Proofs.YtdjjkhefdalokaaDoor

/- Areas as lists of rows: has, put. Plain mathematics of bits. -/
namespace Go.Proofs.YtdjjkhefdalokaaDoor
namespace Globe

/-- Whether an area has a cell. -/
def hasL (l : List Int) (x y : Nat) : Bool := (nth l y).toNat.testBit x
/-- The area with a cell. -/
def putL (l : List Int) (x y : Nat) : List Int := l.set y (((nth l y).toNat ||| 2 ^ x : Nat) : Int)
def zeroL : List Int := List.replicate 24 0

theorem nth_set {l : List Int} {y : Nat} {v : Int} (j : Nat) (h : y < l.length) : nth (l.set y v) j = if y = j then v else nth l j := by
  unfold nth
  rw [List.getElem?_set]
  by_cases e : y = j
  · subst e; simp [h]
  · simp [e]
theorem has_put {l : List Int} {x y : Nat} (h : y < l.length) (x' y' : Nat) : hasL (putL l x y) x' y' = (hasL l x' y' || (decide (x = x') && decide (y = y'))) := by
  unfold hasL putL
  rw [nth_set _ h]
  by_cases e : y = y'
  · subst e; rw [if_pos rfl, Int.toNat_natCast, Nat.testBit_or, Nat.testBit_two_pow]; simp
  · rw [if_neg e]; simp [e]
theorem nth_zero (j : Nat) : nth zeroL j = 0 := by
  unfold nth zeroL
  rw [List.getElem?_replicate]; split <;> rfl
theorem has_zero (x y : Nat) : hasL zeroL x y = false := by unfold hasL; rw [nth_zero]; simp
theorem len_of_valid {l : List Int} (h : validL l = true) : l.length = 24 := (validL_t.1 h).1
theorem row_of_valid {l : List Int} (h : validL l = true) (y : Nat) : 0 ≤ nth l y ∧ nth l y ≤ 281474976710655 := by
  by_cases hy : y < l.length
  · exact (validL_t.1 h).2 _ (nth_mem hy)
  · rw [nth_ge (by omega)]; omega
theorem valid_set {l : List Int} (h : validL l = true) {y : Nat} {v : Int} (h0 : 0 ≤ v) (h1 : v ≤ 281474976710655) : validL (l.set y v) = true := by
  rw [validL_t] at h ⊢
  refine ⟨by simp [h.1], fun r hr => ?_⟩
  rcases List.mem_or_eq_of_mem_set hr with hr | rfl
  · exact h.2 r hr
  · exact ⟨h0, h1⟩
theorem or_lt {R x : Nat} (h : R < 281474976710656) (hx : x < 48) : R ||| 2 ^ x < 281474976710656 :=
  Nat.or_lt_two_pow (n := 48) h (Nat.pow_lt_pow_right (by decide) hx)
theorem valid_put {l : List Int} (h : validL l = true) {x y : Nat} (hx : x < 48) : validL (putL l x y) = true := by
  obtain ⟨h0, h1⟩ := row_of_valid h y
  have := @or_lt (nth l y).toNat x (by omega) hx
  exact valid_set h (by omega) (by omega)
theorem mem_cells {l : List Int} {n : Nat} {p : Nat × Nat} : p ∈ cellsTo l n ↔ p.2 < n ∧ p.1 < 48 ∧ hasL l p.1 p.2 = true := by
  obtain ⟨x, y⟩ := p
  simp only [cellsTo, rowCells, List.mem_flatMap, List.mem_range, List.mem_map, bitsN, List.mem_filter, hasL, Prod.mk.injEq]
  constructor
  · rintro ⟨y', hy, x', ⟨hx, ht⟩, rfl, rfl⟩; exact ⟨hy, hx, ht⟩
  · rintro ⟨hy, hx, ht⟩; exact ⟨y, hy, x, ⟨hx, ht⟩, rfl, rfl⟩

end Globe
end Go.Proofs.YtdjjkhefdalokaaDoor

/- An area of one's own in memory: 24 rows that are written in place. -/
namespace Go.Proofs.YtdjjkhefdalokaaDoor
open Go.RowKit

/-- At block B stand the 24 rows of the list, and may be written. -/
def RowsAt (w : World) (B : Nat) (L : List Int) : Prop := L.length = 24 ∧ (∀ i, i < 24 → w.cell? ⟨B, i, none⟩ = some (.int .i64 (Globe.nth L i))) ∧ ∀ i, i < 24 → w.frozen? ⟨B, i, none⟩ = false
theorem RowsAt.len {w : World} {B : Nat} {L : List Int} (h : RowsAt w B L) : L.length = 24 := h.1
theorem RowsAt.cell {w : World} {B : Nat} {L : List Int} (h : RowsAt w B L) {i : Nat} (hi : i < 24) : w.cell? ⟨B, i, none⟩ = some (.int .i64 (Globe.nth L i)) := h.2.1 i hi
theorem RowsAt.free {w : World} {B : Nat} {L : List Int} (h : RowsAt w B L) {i : Nat} (hi : i < 24) : w.frozen? ⟨B, i, none⟩ = false := h.2.2 i hi
theorem RowsAt.ext {w w' : World} {B : Nat} {L : List Int} (h : RowsAt w B L) (hE : Ext w w') : RowsAt w' B L :=
  ⟨h.1, fun _ hi => hE.cell (h.cell hi), fun _ hi => hE.free (h.cell hi) (h.free hi)⟩
theorem RowsAt.lt {w : World} {B : Nat} {L : List Int} (h : RowsAt w B L) : B < w.heap.size := World.block_lt_of_cell? w _ (h.cell (i := 0) (by omega))
theorem RowsAt.set {w : World} {B : Nat} {L : List Int} (h : RowsAt w B L) {y : Nat} (hy : y < 24) (v : Int) : RowsAt (w.setCell ⟨B, y, none⟩ (.int .i64 v)) B (L.set y v) := by
  refine ⟨by rw [List.length_set]; exact h.1, fun i hi => ?_, fun i hi => ?_⟩
  · rw [Globe.nth_set _ (by rw [h.1]; exact hy)]
    by_cases e : y = i
    · subst e; rw [if_pos rfl]; have := h.cell hy; simp [go_sem, this]
    · rw [if_neg e, ← h.cell hi]
      exact World.cell?_setCell_other w _ _ _ (by intro c; exact e (congrArg Addr.off c))
  · have := h.free hi; simpa [go_sem] using this
theorem RowsAt.ints {w : World} {B : Nat} {L : List Int} (h : RowsAt w B L) : ∀ i, i < L.length → w.cell? ⟨B, 0 + i, none⟩ = some (.int .i64 (Globe.nth L i)) := fun i hi => by
  rw [Nat.zero_add]; exact h.cell (by rw [← h.1]; exact hi)
theorem RowsAt.new (w : World) (L : List Int) (t : TypeId) (hl : L.length = 24) : RowsAt (w.alloc (.cells (L.map (Value.int .i64)).toArray t)) w.heap.size L := by
  refine ⟨hl, fun i hi => ?_, fun i hi => by simp [go_sem]⟩
  have := new_ints w L t i (by omega)
  rwa [Nat.zero_add] at this

end Go.Proofs.YtdjjkhefdalokaaDoor

/- Union, meet, difference, shifting and growing of areas as lists of rows. Plain mathematics of bits. -/
namespace Go.Proofs.YtdjjkhefdalokaaDoor
namespace Globe

/-- A list of 24 rows out of a function on the row's number. -/
def rowsF (f : Nat → Nat) : List Int := (List.range 24).map fun y => ((f y : Nat) : Int)
theorem rowsF_len (f : Nat → Nat) : (rowsF f).length = 24 := by simp [rowsF]
theorem nth_rowsF (f : Nat → Nat) {y : Nat} (h : y < 24) : nth (rowsF f) y = ((f y : Nat) : Int) := by
  rw [nth_lt (by rw [rowsF_len]; exact h)]; simp [rowsF]
theorem rowsF_valid {f : Nat → Nat} (h : ∀ y, y < 24 → f y < 281474976710656) : validL (rowsF f) = true := by
  rw [validL_t]
  refine ⟨rowsF_len f, fun r hr => ?_⟩
  simp only [rowsF, List.mem_map, List.mem_range] at hr
  obtain ⟨y, hy, rfl⟩ := hr
  have := h y hy
  omega
theorem has_rowsF (f : Nat → Nat) {x y : Nat} (h : y < 24) : hasL (rowsF f) x y = (f y).testBit x := by
  unfold hasL; rw [nth_rowsF f h]; simp
/-- The first y rows of a list, and zeros. -/
def partL (L : List Int) (y : Nat) : List Int := L.take y ++ List.replicate (24 - y) 0
theorem partL_zero (L : List Int) : partL L 0 = zeroL := by simp [partL, zeroL]
theorem partL_all {L : List Int} (h : L.length = 24) : partL L 24 = L := by simp [partL]; rw [← h, List.take_length]
theorem partL_len {L : List Int} (h : L.length = 24) {y : Nat} (hy : y ≤ 24) : (partL L y).length = 24 := by
  unfold partL; rw [List.length_append, List.length_take, List.length_replicate]; omega
theorem nth_partL {L : List Int} (h : L.length = 24) {y j : Nat} (hy : y ≤ 24) (_hj : j < 24) : nth (partL L y) j = if j < y then nth L j else 0 := by
  unfold nth partL
  rw [List.getElem?_append, List.length_take, Nat.min_eq_left (by omega)]
  by_cases e : j < y
  · rw [if_pos e, if_pos e, List.getElem?_take_of_lt e]
  · rw [if_neg e, if_neg e, List.getElem?_replicate]; split <;> rfl
theorem partL_succ {L : List Int} (h : L.length = 24) {y : Nat} (hy : y < 24) : (partL L y).set y (nth L y) = partL L (y + 1) := by
  refine ext_nth (by rw [List.length_set, partL_len h (by omega), partL_len h (by omega)]) fun j hj => ?_
  rw [List.length_set, partL_len h (by omega)] at hj
  rw [nth_set _ (by rw [partL_len h (by omega)]; exact hy), nth_partL h (by omega) hj, nth_partL h (by omega) hj]
  by_cases e : y = j
  · subst e; rw [if_pos rfl, if_pos (by omega)]
  · rw [if_neg e]
    by_cases e2 : j < y
    · rw [if_pos e2, if_pos (by omega)]
    · rw [if_neg e2, if_neg (by omega)]

def rowN (l : List Int) (y : Nat) : Nat := (nth l y).toNat
theorem rowN_lt {l : List Int} (h : validL l = true) (y : Nat) : rowN l y < 281474976710656 := by
  have := row_of_valid h y; unfold rowN; omega
theorem rowN_cast {l : List Int} (h : validL l = true) (y : Nat) : nth l y = (rowN l y : Int) := by
  have := row_of_valid h y; unfold rowN; omega
theorem rowN_bit (l : List Int) (x y : Nat) : (rowN l y).testBit x = hasL l x y := rfl
/-! Two areas, row by row. -/
def unionL (a b : List Int) : List Int := rowsF fun y => rowN a y ||| rowN b y
def meetL (a b : List Int) : List Int := rowsF fun y => rowN a y &&& rowN b y
def lessN (p q : Nat) : Nat := p ^^^ (p &&& q)
theorem lessN_bit (p q x : Nat) : (lessN p q).testBit x = (p.testBit x && !q.testBit x) := by
  unfold lessN
  rw [Nat.testBit_xor, Nat.testBit_and]
  cases p.testBit x <;> cases q.testBit x <;> rfl
theorem lessN_lt {p q : Nat} (h : p < 281474976710656) : lessN p q < 281474976710656 :=
  Nat.xor_lt_two_pow (n := 48) h (Nat.lt_of_le_of_lt Nat.and_le_left h)
def lessL (a b : List Int) : List Int := rowsF fun y => lessN (rowN a y) (rowN b y)
theorem union_valid {a b : List Int} (ha : validL a = true) (hb : validL b = true) : validL (unionL a b) = true :=
  rowsF_valid fun y _ => Nat.or_lt_two_pow (n := 48) (rowN_lt ha y) (rowN_lt hb y)
theorem meet_valid {a b : List Int} (ha : validL a = true) : validL (meetL a b) = true :=
  rowsF_valid fun y _ => Nat.lt_of_le_of_lt Nat.and_le_left (rowN_lt ha y)
theorem less_valid {a b : List Int} (ha : validL a = true) : validL (lessL a b) = true := rowsF_valid fun y _ => lessN_lt (rowN_lt ha y)
theorem has_union {a b : List Int} {x y : Nat} (h : y < 24) : hasL (unionL a b) x y = (hasL a x y || hasL b x y) := by
  unfold unionL; rw [has_rowsF _ h, Nat.testBit_or, rowN_bit, rowN_bit]
theorem has_meet {a b : List Int} {x y : Nat} (h : y < 24) : hasL (meetL a b) x y = (hasL a x y && hasL b x y) := by
  unfold meetL; rw [has_rowsF _ h, Nat.testBit_and, rowN_bit, rowN_bit]
/-! Turning. -/
/-! Growing by one cell. -/
/-! Boxes. -/
end Globe
end Go.Proofs.YtdjjkhefdalokaaDoor

/- What a function that makes an area returns. -/
namespace Go.Proofs.YtdjjkhefdalokaaDoor
open Go.RowKit

/-- A fresh area that reads as L (and may be written), alone, or with no error. -/
def RetA (w : World) (L : List Int) (e : Ending) (w' : World) : Prop :=
  ∃ B : Nat, e = .returned (.agg #[.slice (some ⟨B, 0, none⟩) 24 24]) ∧ w.heap.size ≤ B ∧ RowsAt w' B L ∧ Ext w w'
def RetAE (w : World) (L : List Int) (e : Ending) (w' : World) : Prop :=
  ∃ B : Nat, e = .returned (.tuple #[.agg #[.slice (some ⟨B, 0, none⟩) 24 24], .int .i64 0]) ∧ w.heap.size ≤ B ∧ RowsAt w' B L ∧ Ext w w'
/-- No area, and an error. -/
def RetErr (w : World) (c : Int) (e : Ending) (w' : World) : Prop := e = .returned (.tuple #[.agg #[.slice none 0 0], .int .i64 c]) ∧ Ext w w'
/-- Either. -/
def orL (ok : Bool) (L : List Int) : List Int := if ok then L else []
def orE (ok : Bool) (c : Int) : Int := if ok then 0 else c
def RetAny (w : World) (ok : Bool) (L : List Int) (c : Int) (e : Ending) (w' : World) : Prop :=
  ∃ (a : Option Addr) (k : Nat), e = .returned (.tuple #[.agg #[.slice a (orL ok L).length k], .int .i64 (orE ok c)]) ∧ IntsAt w' a (orL ok L) ∧ Ext w w' ∧ ∀ ad, a = some ad → w.heap.size ≤ ad.block ∧ ad.block < w'.heap.size
theorem RetAny.no {w : World} {L : List Int} {c : Int} {e : Ending} {w' : World} (h : RetErr w c e w') : RetAny w false L c e w' := by
  obtain ⟨rfl, hE⟩ := h
  exact ⟨none, 0, rfl, .inl rfl, hE, fun ad e => by cases e⟩
theorem RowsAt.any {w : World} {B : Nat} {L : List Int} (h : RowsAt w B L) : IntsAt w (some ⟨B, 0, none⟩) L := .inr ⟨B, 0, rfl, h.ints⟩
/-- The rows of a valid area that came from anywhere. -/
theorem IntsAt.rows {w : World} {a : Option Addr} {l : List Int} (h : IntsAt w a l) (hl : l.length = 24) : ∃ b off, a = some ⟨b, off, none⟩ ∧ ∀ i, i < 24 → w.cell? ⟨b, off + i, none⟩ = some (.int .i64 (Globe.nth l i)) := by
  rcases h with rfl | ⟨b, off, rfl, h⟩
  · simp at hl
  · exact ⟨b, off, rfl, fun i hi => h i (by omega)⟩
theorem IntsAt.lt {w : World} {b off : Nat} {l : List Int} (h : ∀ i, i < 24 → w.cell? ⟨b, off + i, none⟩ = some (.int .i64 (Globe.nth l i))) : b < w.heap.size := World.block_lt_of_cell? w _ (h 0 (by omega))

theorem RowsAt.keep {w w' : World} {B : Nat} {L : List Int} (h : RowsAt w B L) (hc : ∀ o, w'.cell? ⟨B, o, none⟩ = w.cell? ⟨B, o, none⟩) (hf : ∀ o, w'.frozen? ⟨B, o, none⟩ = w.frozen? ⟨B, o, none⟩) : RowsAt w' B L :=
  ⟨h.1, fun i hi => by rw [hc]; exact h.cell hi, fun i hi => by rw [hf]; exact h.free hi⟩
theorem RowsAt.other {w : World} {B : Nat} {L : List Int} (h : RowsAt w B L) {p : Addr} (hp : p.block ≠ B) (v : Value) : RowsAt (w.setCell p v) B L :=
  h.keep (fun o => World.cell?_setCell_other w _ _ _ (fun e => hp (by rw [e]))) (fun o => by simp [go_sem])

/-- A box of the call's own: what it holds, and that it may be written. -/
def BoxAt (w : World) (b o : Nat) (v : Value) : Prop := w.cell? ⟨b, o, none⟩ = some v ∧ w.frozen? ⟨b, o, none⟩ = false
theorem BoxAt.ext {w w' : World} {b o : Nat} {v : Value} (hE : Ext w w') (h : BoxAt w b o v) : BoxAt w' b o v := ⟨hE.cell h.1, hE.free h.1 h.2⟩
theorem BoxAt.lt {w : World} {b o : Nat} {v : Value} (h : BoxAt w b o v) : b < w.heap.size := World.block_lt_of_cell? w _ h.1
theorem BoxAt.other {w : World} {b o : Nat} {v : Value} (h : BoxAt w b o v) {p : Addr} (hp : p.block ≠ b) (u : Value) : BoxAt (w.setCell p u) b o v :=
  ⟨by rw [World.cell?_setCell_other w _ _ _ (fun e => hp (by rw [e]))]; exact h.1, by simp [go_sem, h.2]⟩
theorem BoxAt.drew {w : World} {b o : Nat} {v : Value} (h : BoxAt w b o v) : BoxAt w.drew b o v := ⟨h.1, h.2⟩
theorem BoxAt.drewN {w : World} {b o : Nat} {v : Value} (h : BoxAt w b o v) (n : Nat) : BoxAt (w.drewN n) b o v := ⟨h.1, h.2⟩
theorem RowsAt.drewN {w : World} {B : Nat} {L : List Int} (h : RowsAt w B L) (n : Nat) : RowsAt (w.drewN n) B L := ⟨h.1, fun _ hi => h.cell hi, fun _ hi => h.free hi⟩
theorem RowsAt.drew {w : World} {B : Nat} {L : List Int} (h : RowsAt w B L) : RowsAt w.drew B L := ⟨h.1, fun _ hi => h.cell hi, fun _ hi => h.free hi⟩

/-- What a caller knows of an area in memory: any rows, or a valid area. -/
def AA (w : World) (a : Option Addr) (l : List Int) (n : Nat) (v : Bool) : Prop := IntsAt w a l ∧ l.length = n ∧ n ≤ 140737488355328 ∧ Globe.validL l = v
def VA (w : World) (b o : Nat) (l : List Int) : Prop := (∀ i, i < 24 → w.cell? ⟨b, o + i, none⟩ = some (.int .i64 (Globe.nth l i))) ∧ Globe.validL l = true
theorem AA.ext {w w' : World} {a : Option Addr} {l : List Int} {n : Nat} {v : Bool} (h : AA w a l n v) (hE : Ext w w') : AA w' a l n v := ⟨h.1.ext hE, h.2⟩
theorem VA.ext {w w' : World} {b o : Nat} {l : List Int} (h : VA w b o l) (hE : Ext w w') : VA w' b o l := ⟨fun i hi => hE.cell (h.1 i hi), h.2⟩
theorem VA.lt {w : World} {b o : Nat} {l : List Int} (h : VA w b o l) : b < w.heap.size := IntsAt.lt h.1
theorem VA.len {w : World} {b o : Nat} {l : List Int} (h : VA w b o l) : l.length = 24 := Globe.len_of_valid h.2
theorem VA.cell {w : World} {b o : Nat} {l : List Int} (h : VA w b o l) {y : Nat} (hy : y < 24) : w.cell? ⟨b, o + y, none⟩ = some (.int .i64 (Globe.rowN l y : Nat)) := by rw [← Globe.rowN_cast h.2]; exact h.1 y hy
theorem VA.aa {w : World} {b o : Nat} {l : List Int} (h : VA w b o l) : AA w (some ⟨b, o, none⟩) l 24 true :=
  ⟨.inr ⟨b, o, rfl, fun i hi => h.1 i (by rw [← h.len]; exact hi)⟩, h.len, by omega, h.2⟩
theorem AA.va {w : World} {a : Option Addr} {l : List Int} {n : Nat} (h : AA w a l n true) : ∃ b o, a = some ⟨b, o, none⟩ ∧ n = 24 ∧ VA w b o l := by
  have hl := Globe.len_of_valid h.2.2.2
  obtain ⟨b, o, rfl, hr⟩ := h.1.rows hl
  exact ⟨b, o, rfl, by rw [← h.2.1]; exact hl, hr, h.2.2.2⟩
theorem RowsAt.va {w : World} {B : Nat} {L : List Int} (h : RowsAt w B L) (hv : Globe.validL L = true) : VA w B 0 L := ⟨fun i hi => by rw [Nat.zero_add]; exact h.cell hi, hv⟩
/-- A fresh valid area, and no error. -/
def RetV (w : World) (L : List Int) (e : Ending) (w' : World) : Prop :=
  ∃ B k : Nat, e = .returned (.tuple #[.agg #[.slice (some ⟨B, 0, none⟩) 24 k], .int .i64 0]) ∧ w.heap.size ≤ B ∧ RowsAt w' B L ∧ VA w' B 0 L ∧ Ext w w'
theorem RetAE.v {w : World} {L : List Int} {e : Ending} {w' : World} (h : RetAE w L e w') (hv : Globe.validL L = true) : RetV w L e w' := by
  obtain ⟨B, rfl, hB, hr, hE⟩ := h
  exact ⟨B, 24, rfl, hB, hr, hr.va hv, hE⟩
theorem RetV.any {w : World} {L : List Int} {c : Int} {e : Ending} {w' : World} (h : RetV w L e w') : RetAny w true L c e w' := by
  obtain ⟨B, k, rfl, hB, hr, hv, hE⟩ := h
  exact ⟨some ⟨B, 0, none⟩, k, by show _ = Ending.returned (.tuple #[.agg #[.slice _ L.length _], _]); rw [hr.len]; rfl, .inr ⟨B, 0, rfl, hr.ints⟩, hE, fun ad e => by cases e; exact ⟨hB, hr.lt⟩⟩

end Go.Proofs.YtdjjkhefdalokaaDoor

/- A region that draws its order, gone through over a list of what its operations have written so far: the frame itself stays behind a name till the region's end. -/
namespace Go.Proofs.YtdjjkhefdalokaaDoor
open Go.RowKit

/-- What was written last at a slot. -/
def look : List (Nat × Value) → (Nat → Value) → Nat → Value
  | [], f, k => f k
  | (d, v) :: ws, f, k => if k = d then v else look ws f k
theorem look_cons (d : Nat) (v : Value) (ws : List (Nat × Value)) (f : Nat → Value) (k : Nat) : look ((d, v) :: ws) f k = if k = d then v else look ws f k := rfl
def base (L : List Value) (t : Nat) : Value := L.toArray.getD t undef
def evalW (L : List Value) (ws : List (Nat × Value)) : Operand → Value
  | .tmp t => look ws (base L) t
  | o => Act.eval ⟨#[], []⟩ o
def setAll (L : List Value) : List (Nat × Value) → List Value
  | [] => L
  | (d, v) :: ws => (setAll L ws).set d v
theorem setAll_len (L : List Value) : ∀ ws, (setAll L ws).length = L.length
  | [] => rfl
  | (d, v) :: ws => by rw [setAll, List.length_set, setAll_len L ws]
theorem setAll_get (L : List Value) : ∀ ws : List (Nat × Value), (∀ p ∈ ws, p.1 < L.length) → ∀ t, (setAll L ws).toArray.getD t undef = look ws (base L) t
  | [], _, t => rfl
  | (d, v) :: ws, h, t => by
    have ih := setAll_get L ws (fun p hp => h p (List.mem_cons_of_mem _ hp)) t
    have hd : d < (setAll L ws).length := by rw [setAll_len]; exact h (d, v) (by simp)
    rw [look_cons, ← ih, setAll]
    by_cases e : t = d
    · subst e; simp [hd]
    · have e' : d ≠ t := fun c => e c.symm
      simp [e, List.getElem?_set_ne e']
def lset (m : Nat) : List Nat → Array Bool
  | [] => Array.replicate m false
  | i :: r => (lset m r).setIfInBounds i true
theorem lset_size (m : Nat) : ∀ l, (lset m l).size = m
  | [] => by simp [lset]
  | i :: r => by simp [lset, lset_size m r]
theorem lset_get (m : Nat) (b : Bool) : ∀ (l : List Nat) (j : Nat), (lset m l).getD j b = if j < m then l.contains j else b
  | [], j => by by_cases h : j < m <;> simp [lset, h]
  | i :: r, j => by
    have ih := lset_get m b r j
    have hs := lset_size m r
    by_cases h : j < m
    · rw [if_pos h] at ih ⊢
      by_cases e : i = j
      · subst e; simp [lset, hs, h]
      · have e2 : j ≠ i := fun c => e c.symm
        simp only [lset, Array.getD_eq_getD_getElem?, Array.getElem?_setIfInBounds_ne e, List.contains_cons] at ih ⊢
        rw [ih]
        have : (j == i) = false := by simp [e2]
        rw [this, Bool.false_or]
    · rw [if_neg h] at ih ⊢
      have h1 : m ≤ j := by omega
      simp [lset, hs, h1]

/-- A region's rows: where an operation writes, what it looks at, what it waits for. -/
abbrev Row := Option Nat × List Nat × List Nat
def waits (o : Oper) : List Nat := (o.after.toList.filter (Region.binds .any)).map (·.on)
def rowOf (ops : Array Oper) (o : Oper) : Row := (o.dst, o.looksAt ops, waits o)
def tableR (ops : Array Oper) : List Row := ops.toList.map (rowOf ops)
def ordered (x y : Row × Nat) : Bool := x.1.2.2.contains y.2 || y.1.2.2.contains x.2
/-- Two rows: where they touch one slot, one waits for the other. -/
def fits (x y : Row × Nat) : Bool :=
  (match x.1.1 with
   | some d => (!(y.1.2.1.contains d) || ordered x y) && (!(y.1.1 == some d) || ordered x y)
   | none => true) &&
  (match y.1.1 with
   | some d => !(x.1.2.1.contains d) || ordered x y
   | none => true)
def fitsAll (x : Row × Nat) : List (Row × Nat) → Bool
  | [] => true
  | y :: r => fits x y && fitsAll x r
def goodL : List (Row × Nat) → Bool
  | [] => true
  | x :: r => fitsAll x r && goodL r
def numbered : List Row → Nat → List (Row × Nat)
  | [], _ => []
  | x :: r, k => (x, k) :: numbered r (k + 1)
def inRB (n : Nat) : List Row → Bool
  | [] => true
  | x :: r => (match x.1 with | some d => Nat.blt d n | none => true) && inRB n r
def inA (m : Nat) : List Row → Bool
  | [] => true
  | x :: r => x.2.2.all (fun k => Nat.blt k m) && inA m r
def goodT (n m : Nat) (T : List Row) : Bool := goodL (numbered T 0) && (inRB n T && inA m T)
theorem fits_comm (x y : Row × Nat) (h : fits x y = true) : fits y x = true := by
  obtain ⟨⟨dx, lx, ax⟩, i⟩ := x
  obtain ⟨⟨dy, ly, ay⟩, j⟩ := y
  have e : ∀ a b : Bool, (a || b) = (b || a) := fun a b => Bool.or_comm a b
  cases dx <;> cases dy <;> simp only [fits, ordered, Bool.and_true, Bool.true_and] at h ⊢
  · rw [e (ay.contains i)]; simpa using h
  · rw [e (ay.contains i)]; simpa using h
  · rename_i d d'
    rw [e (ay.contains i)]
    simp only [Bool.and_eq_true] at h ⊢
    obtain ⟨⟨h1, h2⟩, h3⟩ := h
    refine ⟨⟨h3, ?_⟩, h1⟩
    by_cases c : d = d'
    · subst c; simpa using h2
    · have : (some d == some d') = false := by simp [c]
      rw [this]; rfl
theorem fitsAll_mem {x y : Row × Nat} : ∀ {l}, fitsAll x l = true → y ∈ l → fits x y = true
  | z :: r, h, hy => by
    simp only [fitsAll, Bool.and_eq_true] at h
    rcases List.mem_cons.1 hy with rfl | hy
    · exact h.1
    · exact fitsAll_mem h.2 hy
theorem goodL_mem {x y : Row × Nat} : ∀ {l}, goodL l = true → x ∈ l → y ∈ l → x ≠ y → fits x y = true
  | z :: r, h, hx, hy, hne => by
    simp only [goodL, Bool.and_eq_true] at h
    rcases List.mem_cons.1 hx with e1 | h1
    · rcases List.mem_cons.1 hy with e2 | h2
      · exact absurd (e1.trans e2.symm) hne
      · rw [e1]; exact fitsAll_mem h.1 h2
    · rcases List.mem_cons.1 hy with e2 | h2
      · rw [e2]; exact fits_comm _ _ (fitsAll_mem h.1 h1)
      · exact goodL_mem h.2 h1 h2 hne
theorem mem_numbered : ∀ {T : List Row} {k i : Nat} {x : Row}, T[i]? = some x → (x, k + i) ∈ numbered T k
  | y :: r, k, 0, x, h => by simp at h; subst h; simp [numbered]
  | y :: r, k, i + 1, x, h => by
    simp at h
    have := mem_numbered (k := k + 1) h
    rw [numbered, show k + (i + 1) = k + 1 + i by omega]
    exact List.mem_cons_of_mem _ this
theorem inRB_get {n : Nat} : ∀ {T : List Row} {i : Nat} {x : Row} {d : Nat}, inRB n T = true → T[i]? = some x → x.1 = some d → d < n
  | y :: r, 0, x, d, h, hx, hd => by
    simp at hx; subst hx
    simp only [inRB, Bool.and_eq_true, hd] at h
    exact Nat.blt_eq.mp h.1
  | y :: r, i + 1, x, d, h, hx, hd => by
    simp only [inRB, Bool.and_eq_true] at h
    exact inRB_get h.2 (by simpa using hx) hd

theorem inA_get {m : Nat} : ∀ {T : List Row} {i : Nat} {x : Row}, inA m T = true → T[i]? = some x → ∀ k ∈ x.2.2, k < m
  | y :: r, 0, x, h, hx => by
    simp at hx; subst hx
    simp only [inA, Bool.and_eq_true] at h
    exact fun k hk => Nat.blt_eq.mp (List.all_eq_true.1 h.1 k hk)
  | y :: r, i + 1, x, h, hx => by
    simp only [inA, Bool.and_eq_true] at h
    exact inA_get h.2 (by simpa using hx)

section
variable {P : Program} {ops : Array Oper} {Q : Exit → Act → World → Prop} {S : World → Prop} {T : List Row}

theorem table_get {i : Nat} {oi : Oper} (ht : tableR ops = T) (hi : ops[i]? = some oi) : T[i]? = some (rowOf ops oi) := by
  rw [← ht]; simp [tableR, hi]
theorem table_len (ht : tableR ops = T) : T.length = ops.size := by rw [← ht]; simp [tableR]
/-- May number i come up? -/
def readyT (T : List Row) (done : List Nat) (i : Nat) : Bool := !done.contains i && match T.drop i with | (_, _, a) :: _ => a.all (fun k => done.contains k) | [] => false
theorem lt_of_get {α : Type} {l : Array α} {i : Nat} {x : α} (h : l[i]? = some x) : i < l.size := by
  rcases Nat.lt_or_ge i l.size with h1 | h1
  · exact h1
  · rw [Array.getElem?_eq_none h1] at h; cases h
theorem drop_get {α : Type} {l : List α} {i : Nat} {x : α} (h : l[i]? = some x) : ∃ r, l.drop i = x :: r := by
  have hl : i < l.length := by
    rcases Nat.lt_or_ge i l.length with h1 | h1
    · exact h1
    · rw [List.getElem?_eq_none h1] at h; cases h
  rw [List.getElem?_eq_getElem hl] at h
  exact ⟨_, by rw [List.drop_eq_getElem_cons hl]; simp at h; rw [h]⟩
theorem mem_waits {o : Oper} {e : Edge} (he : e ∈ o.after) (hb : Region.binds .any e = true) : e.on ∈ waits o := by
  unfold waits
  rw [List.mem_map]
  exact ⟨e, by rw [List.mem_filter]; exact ⟨by simpa using he, hb⟩, rfl⟩
theorem waits_mem {o : Oper} {k : Nat} (h : k ∈ waits o) : ∃ e ∈ o.after, Region.binds .any e = true ∧ e.on = k := by
  unfold waits at h
  rw [List.mem_map] at h
  obtain ⟨e, h1, h2⟩ := h
  rw [List.mem_filter] at h1
  exact ⟨e, by simpa using h1.1, h1.2, h2⟩
theorem ready_iff {done : List Nat} {i : Nat} {oi : Oper} (hi : ops[i]? = some oi) (hin : ∀ k ∈ waits oi, k < ops.size) :
    i ∈ Region.ready .any ops (lset ops.size done) ↔ done.contains i = false ∧ ∀ k ∈ waits oi, done.contains k = true := by
  have hlt := lt_of_get hi
  rw [mem_ready, lset_get, if_pos hlt]
  constructor
  · rintro ⟨h1, o, ho, h2⟩
    rw [hi] at ho; cases ho
    refine ⟨h1, fun k hk => ?_⟩
    obtain ⟨e, he, hb, rfl⟩ := waits_mem hk
    have := h2 e he hb
    rwa [lset_get, if_pos (hin _ hk)] at this
  · rintro ⟨h1, h2⟩
    refine ⟨h1, oi, hi, fun e he hb => ?_⟩
    rw [lset_get, if_pos (hin _ (mem_waits he hb))]
    exact h2 _ (mem_waits he hb)
theorem readyT_mem {n : Nat} {done : List Nat} {i : Nat} {oi : Oper} (ht : tableR ops = T) (hg : goodT n ops.size T = true) (hi : ops[i]? = some oi) (h : readyT T done i = true) :
    i ∈ Region.ready .any ops (lset ops.size done) := by
  have hT := table_get ht hi
  simp only [goodT, Bool.and_eq_true] at hg
  rw [ready_iff hi (inA_get hg.2.2 hT)]
  obtain ⟨r, hr⟩ := drop_get hT
  unfold readyT at h
  rw [hr] at h
  simp only [rowOf, Bool.and_eq_true] at h
  exact ⟨by simpa using h.1, List.all_eq_true.1 h.2⟩
/-- What may come up touches nothing that another one, which does not wait for it, touches. -/
theorem apart_of_good {n : Nat} {done : List Nat} {i : Nat} {oi : Oper} (ht : tableR ops = T) (hg : goodT n ops.size T = true) (hi : ops[i]? = some oi) (hr : readyT T done i = true)
    (j : Nat) (oj : Oper) (hj : ops[j]? = some oj) (hne : j ≠ i) (hun : (lset ops.size done).getD j true = false) (hno : ∀ e ∈ oj.after, Region.binds .any e = true → e.on ≠ i) : oi.apart ops oj = true := by
  have hmi := readyT_mem ht hg hi hr
  have hTi := table_get ht hi
  have hTj := table_get ht hj
  simp only [goodT, Bool.and_eq_true] at hg
  rw [ready_iff hi (inA_get hg.2.2 hTi)] at hmi
  rw [lset_get, if_pos (lt_of_get hj)] at hun
  have hf := goodL_mem hg.1 (mem_numbered (k := 0) hTi) (mem_numbered (k := 0) hTj) (by
    intro c
    have := congrArg Prod.snd c
    simp at this
    exact hne this.symm)
  have hord : ordered (rowOf ops oi, 0 + i) (rowOf ops oj, 0 + j) = false := by
    simp only [ordered, rowOf, Nat.zero_add, Bool.or_eq_false_iff]
    constructor
    · rcases h : (waits oi).contains j with _ | _
      · rfl
      · have := hmi.2 j (by simpa using h)
        rw [hun] at this; cases this
    · rcases h : (waits oj).contains i with _ | _
      · rfl
      · obtain ⟨e, he, hb, hk⟩ := waits_mem (o := oj) (k := i) (by simpa using h)
        exact absurd hk (hno e he hb)
  unfold fits at hf
  rw [hord] at hf
  simp only [rowOf, Bool.or_false] at hf
  unfold Oper.apart
  cases h1 : oi.dst <;> cases h2 : oj.dst <;> rw [h1, h2] at hf <;> first | rfl | simpa [bne] using hf

/-- The walk through a region: the operations 'done' have come up, 'ws' is what they have written. -/
def W (P : Program) (ops : Array Oper) (Q : Exit → Act → World → Prop) (S : World → Prop) (L : List Value) (ds : List Deferred) (fuel : Nat) (done : List Nat) (ws : List (Nat × Value)) (w : World) : Prop :=
  (∀ p ∈ ws, p.1 < L.length) → wpAnyH P .any ops Q S fuel (lset ops.size done) ⟨(setAll L ws).toArray, ds⟩ w
theorem eval_W {L : List Value} {ws : List (Nat × Value)} (h : ∀ p ∈ ws, p.1 < L.length) (ds : List Deferred) : Act.eval ⟨(setAll L ws).toArray, ds⟩ = evalW L ws := by
  funext o
  cases o with
  | tmp t => exact setAll_get L ws h t
  | const v => rfl
  | global g => rfl
  | func f => rfl
def putW : Option Nat → Value → List (Nat × Value) → List (Nat × Value)
  | some d, v, ws => (d, v) :: ws
  | none, _, ws => ws
theorem put_W (L : List Value) (ws : List (Nat × Value)) (ds : List Deferred) (d : Option Nat) (v : Value) : Act.put ⟨(setAll L ws).toArray, ds⟩ d v = ⟨(setAll L (putW d v ws)).toArray, ds⟩ := by
  cases d with
  | none => rfl
  | some d => simp [Act.put, putW, setAll]
theorem putW_lt {L : List Value} {ws : List (Nat × Value)} {d : Option Nat} {v : Value} (h : ∀ p ∈ ws, p.1 < L.length) (hd : ∀ k, d = some k → k < L.length) : ∀ p ∈ putW d v ws, p.1 < L.length := by
  cases d with
  | none => exact h
  | some d =>
    intro p hp
    rcases List.mem_cons.1 hp with rfl | hp
    · exact hd _ rfl
    · exact h p hp
/-- Is an operation wanted? -/
def wantedW (T : List Row) (L : List Value) (ws : List (Nat × Value)) : Option (Nat × Bool) → Bool
  | none => true
  | some (g, want) => match T.drop g with
    | (some d, _, _) :: _ => (match look ws (base L) d with | .bool b => b == want | _ => false)
    | _ => false
theorem wanted_W {n : Nat} {L : List Value} {ws : List (Nat × Value)} {o : Oper} {b : Bool} (ds : List Deferred) (ht : tableR ops = T) (hg : goodT L.length n T = true) (h : ∀ p ∈ ws, p.1 < L.length) (hw : wantedW T L ws o.guard = b) :
    Region.wanted o (yielded ops (⟨(setAll L ws).toArray, ds⟩ : Act).tmps) = b := by
  subst hw
  unfold Region.wanted wantedW
  cases hgd : o.guard with
  | none => rfl
  | some p =>
    obtain ⟨g, want⟩ := p
    simp only [yielded]
    cases hj : ops[g]? with
    | none =>
      have : T.drop g = [] := by
        rw [List.drop_eq_nil_iff, table_len ht]
        rcases Nat.lt_or_ge g ops.size with h1 | h1
        · rw [Array.getElem?_eq_getElem h1] at hj; cases hj
        · exact h1
      rw [this]; rfl
    | some og =>
      have hT := table_get ht hj
      obtain ⟨r, hr⟩ := drop_get hT
      rw [hr]
      simp only [rowOf, Option.bind_some]
      cases hd : og.dst with
      | none => rfl
      | some d =>
        simp only [goodT, Bool.and_eq_true] at hg
        have hlt : d < L.length := inRB_get hg.2.1 hT hd
        have hget := setAll_get L ws h d
        have hlt2 : d < (setAll L ws).toArray.size := by simp [setAll_len, hlt]
        simp only [Array.getD, hlt2, dif_pos] at hget
        simp only [Option.bind_some]
        rw [Array.getElem?_eq_getElem hlt2]
        have e : (setAll L ws).toArray[d] = look ws (base L) d := hget
        rw [e]
        cases look ws (base L) d <;> rfl

section
variable {L : List Value} {ds : List Deferred} {fuel : Nat} {done : List Nat} {ws : List (Nat × Value)} {w : World}
/-- All that is fixed through a region. -/
structure Reg (P : Program) (ops0 ops : Array Oper) (Q : Exit → Act → World → Prop) (L : List Value) (T : List Row) : Prop where
  ops_eq : ops = ops0
  tab : tableR ops = T
  good : goodT L.length ops.size T = true
  nosel : Region.noSelect ops = true
  calm : ∀ c d v a w, Q (.panic c) (Act.put a d v) w → Q (.panic c) a w
variable {ops0 : Array Oper}
theorem dst_lt (hR : Reg P ops0 ops Q L T) {i : Nat} {oi : Oper} (hi : ops[i]? = some oi) : ∀ k, oi.dst = some k → k < L.length := fun k hk => by
  have := hR.good
  simp only [goodT, Bool.and_eq_true] at this
  exact inRB_get this.2.1 (table_get hR.tab hi) hk
theorem op_at (hR : Reg P ops0 ops Q L T) {i : Nat} {oi : Oper} {r : List Oper} (hi : ops0.toList.drop i = oi :: r) : ops[i]? = some oi := by
  rw [hR.ops_eq, ← Array.getElem?_toList, ← Nat.add_zero i, ← List.getElem?_drop, hi]; rfl
/-- Number i, which only reads, comes first. -/
theorem wg_take (i : Nat) {oi : Oper} {r : List Oper} {v : Value} (hR : Reg P ops0 ops Q L T) (hi : ops0.toList.drop i = oi :: r) (hr : readyT T done i = true)
    (hw : wantedW T L ws oi.guard = true) (hy : ∀ w, S w → (execOp (evalW L ws) oi).run P w = .ok (.value v) w) (hS : S w)
    (h : W P ops Q S L ds fuel (i :: done) (putW oi.dst v ws) w) : W P ops Q S L ds (fuel + 1) done ws w := fun hb => by
  have ho := op_at hR hi
  refine wpAnyH_first (v := v) ho (Region.noSelect_spec hR.nosel) (fun c a w => hR.calm c _ _ a w) fuel _ _ w (apart_of_good hR.tab hR.good ho hr) (readyT_mem hR.tab hR.good ho hr) ?_ hS ?_
  · exact .inl ⟨wanted_W ds hR.tab hR.good hb hw, fun w hw => by rw [eval_W hb]; exact hy w hw⟩
  · rw [put_W]; exact h (putW_lt hb (dst_lt hR ho))
/-- What comes of an operation that is carried out. -/
def StepW (P : Program) (S : World → Prop) (L : List Value) (ws : List (Nat × Value)) (oi : Oper) (w : World) (N : Value → World → Prop) : Prop :=
  (∃ v w', (execOp (evalW L ws) oi).run P w = .ok (.value v) w' ∧ S w' ∧ N v w') ∨ (∃ w', (execOp (evalW L ws) oi).run P w = .ok .skip w' ∧ S w' ∧ N undef w') ∨
  (∃ f args, (execOp (evalW L ws) oi).run P w = .ok (.enter f args) w ∧ Calls P f args w fun e w' => ∃ v, e = .returned v ∧ S w' ∧ N v w')
theorem StepW.wp {oi : Oper} {N : Value → World → Prop} {a : Act} {K : Act → World → Prop} (h : StepW P S L ws oi w N) (he : a.eval = evalW L ws) (hK : ∀ v w', S w' → N v w' → K (a.put oi.dst v) w') : Oper.wp P oi a w K Q := by
  unfold Oper.wp
  rw [he]
  rcases h with ⟨v, w', h1, h2, h3⟩ | ⟨w', h1, h2, h3⟩ | ⟨f, args, h1, h2⟩
  · rw [h1, Oper.upon_value]; exact hK v w' h2 h3
  · rw [h1, Oper.upon_skip]; exact hK undef w' h2 h3
  · rw [h1, Oper.upon_enter]
    exact h2.mono fun e w' ⟨v, he, hs, hn⟩ => by subst he; exact hK v w' hs hn
/-- Which numbers may come up. -/
def upT (done : List Nat) : List (Row × Nat) → List Nat
  | [] => []
  | (x, k) :: r => if !done.contains k && x.2.2.all (fun j => done.contains j) then k :: upT done r else upT done r
theorem mem_upT {done : List Nat} {x : Row} {k : Nat} (h1 : done.contains k = false) (h2 : ∀ j ∈ x.2.2, done.contains j = true) : ∀ {l}, (x, k) ∈ l → k ∈ upT done l
  | (y, j) :: r, h => by
    rcases List.mem_cons.1 h with e | h
    · cases e
      unfold upT
      rw [if_pos (by simp only [h1, Bool.not_false, Bool.true_and]; exact List.all_eq_true.2 h2)]
      exact List.mem_cons_self
    · have ih := mem_upT h1 h2 h
      unfold upT
      split
      · exact List.mem_cons_of_mem _ ih
      · exact ih
theorem ready_up (hR : Reg P ops0 ops Q L T) {j : Nat} (h : j ∈ Region.ready .any ops (lset ops.size done)) : j ∈ upT done (numbered T 0) := by
  obtain ⟨_, oj, hj, _⟩ := mem_ready.1 h
  have hT := table_get hR.tab hj
  have hg := hR.good
  simp only [goodT, Bool.and_eq_true] at hg
  rw [ready_iff hj (inA_get hg.2.2 hT)] at h
  have hm := mem_numbered (k := 0) hT
  rw [Nat.zero_add] at hm
  exact mem_upT (x := rowOf ops oj) h.1 h.2 hm
/-- One operation alone may come up. -/
theorem wg_step (i : Nat) {oi : Oper} {r : List Oper} (hR : Reg P ops0 ops Q L T) (hi : ops0.toList.drop i = oi :: r) (hr : upT done (numbered T 0) = [i])
    (hw : wantedW T L ws oi.guard = true)
    (h : StepW P S L ws oi w fun v w' => S w' → W P ops Q S L ds fuel (i :: done) (putW oi.dst v ws) w') (hr2 : readyT T done i = true) : W P ops Q S L ds (fuel + 1) done ws w := fun hb => by
  have ho := op_at hR hi
  refine ⟨fun h0 => ?_, fun j hj => ?_⟩
  · have := readyT_mem hR.tab hR.good ho hr2
    rw [h0] at this; cases this
  · have := ready_up hR hj
    rw [hr] at this
    obtain rfl := List.mem_singleton.1 this
    refine wpOp_step ho fun K' hK => ?_
    rw [if_pos (wanted_W ds hR.tab hR.good hb hw)]
    exact h.wp (eval_W hb ds) fun v w' hs hn => hK _ _ ⟨hs, by rw [put_W]; exact hn hs (putW_lt hb (dst_lt hR ho))⟩
/-- Either of two may come up. -/
theorem wg_two (i j : Nat) {oi oj : Oper} {r s : List Oper} (hR : Reg P ops0 ops Q L T) (hi : ops0.toList.drop i = oi :: r) (hj : ops0.toList.drop j = oj :: s) (hr : upT done (numbered T 0) = [i, j])
    (hwi : wantedW T L ws oi.guard = true) (hwj : wantedW T L ws oj.guard = true) (hr2 : readyT T done i = true)
    (h1 : StepW P S L ws oi w fun v w' => S w' → W P ops Q S L ds fuel (i :: done) (putW oi.dst v ws) w')
    (h2 : StepW P S L ws oj w fun v w' => S w' → W P ops Q S L ds fuel (j :: done) (putW oj.dst v ws) w') : W P ops Q S L ds (fuel + 1) done ws w := fun hb => by
  have ho := op_at hR hi
  have ho2 := op_at hR hj
  refine ⟨fun h0 => ?_, fun k hk => ?_⟩
  · have := readyT_mem hR.tab hR.good ho hr2
    rw [h0] at this; cases this
  · have := ready_up hR hk
    rw [hr] at this
    rcases List.mem_cons.1 this with rfl | this
    · refine wpOp_step ho fun K' hK => ?_
      rw [if_pos (wanted_W ds hR.tab hR.good hb hwi)]
      exact h1.wp (eval_W hb ds) fun v w' hs hn => hK _ _ ⟨hs, by rw [put_W]; exact hn hs (putW_lt hb (dst_lt hR ho))⟩
    · obtain rfl := List.mem_singleton.1 this
      refine wpOp_step ho2 fun K' hK => ?_
      rw [if_pos (wanted_W ds hR.tab hR.good hb hwj)]
      exact h2.wp (eval_W hb ds) fun v w' hs hn => hK _ _ ⟨hs, by rw [put_W]; exact hn hs (putW_lt hb (dst_lt hR ho2))⟩
def lookO : List (Nat × Value) → Nat → Option Value
  | [], _ => none
  | (d, v) :: ws, k => if k = d then some v else lookO ws k
theorem setAll_get? (L : List Value) : ∀ (ws : List (Nat × Value)) (t : Nat), (setAll L ws)[t]? = if t < L.length then (lookO ws t).or (L[t]?) else none
  | [], t => by by_cases h : t < L.length <;> simp [setAll, lookO, h]
  | (d, v) :: ws, t => by
    have ih := setAll_get? L ws t
    rw [setAll, List.getElem?_set, lookO, setAll_len]
    by_cases e : t = d
    · subst e
      by_cases h : t < L.length <;> simp [h]
    · have e' : d ≠ t := fun c => e c.symm
      rw [if_neg e', ih, if_neg e]
/-- Only block O has turned. -/
def Only (O : Nat) (w X : World) : Prop := ∃ j v, X = w.setCell ⟨O, j, none⟩ v
theorem Only.ext {O : Nat} {a w X : World} (h : Only O w X) (hE : Ext a w) (hO : a.heap.size ≤ O) : Ext a X := by
  obtain ⟨j, v, rfl⟩ := h; exact hE.setCell hO v
theorem Only.size {O : Nat} {w X : World} (h : Only O w X) : X.heap.size = w.heap.size := by
  obtain ⟨j, v, rfl⟩ := h; simp
theorem Only.va {O : Nat} {w X : World} (h : Only O w X) {b o : Nat} {l : List Int} (hb : O ≠ b) (hv : VA w b o l) : VA X b o l := by
  obtain ⟨j, v, rfl⟩ := h
  exact ⟨fun i hi => by rw [World.cell?_setCell_other w _ _ _ (fun e => hb (congrArg Addr.block e))]; exact hv.1 i hi, hv.2⟩
theorem Only.box {O : Nat} {w X : World} (h : Only O w X) {b o : Nat} {u : Value} (hb : O ≠ b) (hv : BoxAt w b o u) : BoxAt X b o u := by
  obtain ⟨j, v, rfl⟩ := h; exact hv.other (p := ⟨O, j, none⟩) hb v
theorem Only.rows {O : Nat} {w X : World} (h : Only O w X) {b : Nat} {l : List Int} (hb : O ≠ b) (hv : RowsAt w b l) : RowsAt X b l := by
  obtain ⟨j, v, rfl⟩ := h; exact hv.other (p := ⟨O, j, none⟩) hb v
theorem Only.cell {O : Nat} {w X : World} (h : Only O w X) {p : Addr} {u : Value} (hb : O ≠ p.block) (hv : w.cell? p = some u) : X.cell? p = some u := by
  obtain ⟨j, v, rfl⟩ := h
  rw [World.cell?_setCell_other w _ _ _ (fun e => hb (congrArg Addr.block e))]; exact hv
end
end

end Go.Proofs.YtdjjkhefdalokaaDoor

/- The walk over a list of what has been written: the frame stays behind a name from a function's head to its end. -/
namespace Go.Proofs.YtdjjkhefdalokaaDoor
open Go.RowKit

section
variable {P : Program} {n : Nat} {L : List Value} {ws : List (Nat × Value)} {w : World} {Q : Exit → Act → World → Prop}

/-- The frame has n slots, and what was written lies in them. -/
def Bd (n : Nat) (L : List Value) (ws : List (Nat × Value)) : Prop := L.length = n ∧ ∀ p ∈ ws, p.1 < n
theorem Bd.lt (h : Bd n L ws) : ∀ p ∈ ws, p.1 < L.length := fun p hp => by rw [h.1]; exact h.2 p hp
theorem Bd.put (h : Bd n L ws) {d : Nat} {v : Value} (hd : Nat.blt d n = true) : Bd n L ((d, v) :: ws) :=
  ⟨h.1, fun p hp => by rcases List.mem_cons.1 hp with rfl | hp; exact Nat.blt_eq.mp hd; exact h.2 p hp⟩
/-- (Structures, that no unifier opens them.) -/
structure CW (P : Program) (c : Code) (Q : Exit → Act → World → Prop) (n : Nat) (L : List Value) (ws : List (Nat × Value)) (w : World) : Prop where
  out : Bd n L ws → c.wp P Q ⟨(setAll L ws).toArray, []⟩ w
structure QW (Q : Exit → Act → World → Prop) (e : Exit) (n : Nat) (L : List Value) (ws : List (Nat × Value)) (w : World) : Prop where
  out : Bd n L ws → Q e ⟨(setAll L ws).toArray, []⟩ w
structure PL (P : Program) (ops rest : List Oper) (Q : Exit → Act → World → Prop) (n : Nat) (L : List Value) (ws : List (Nat × Value)) (w : World) : Prop where
  out : Bd n L ws → wpList P ops.toArray Q rest ⟨(setAll L ws).toArray, []⟩ w
structure WD (P : Program) (ops : Array Oper) (Q : Exit → Act → World → Prop) (S : World → Prop) (L : List Value) (fuel : Nat) (done : List Nat) (ws : List (Nat × Value)) (w : World) : Prop where
  out : W P ops Q S L [] fuel done ws w

theorem calls_cw {f : FuncId} {fn : Func} {c : Code} {av : List Value} {R : Ending → World → Prop} (n : Nat) (ws : List (Nat × Value)) (hf : P.funcs[f]? = some fn) (hb : fn.body = some c) (hn : fn.ntmps = n)
    (he : av ++ List.replicate (n - av.length) undef = setAll (List.replicate n undef) ws) (hl : ws.all (fun p => Nat.blt p.1 n) = true)
    (h : ∀ L, CW P c (bodyPost P fn R) n L ws w) : Calls P f av.toArray w R := by
  refine calls_of_wp hf hb ?_
  have e : (av.toArray ++ Array.replicate (fn.ntmps - av.toArray.size) undef : Array Value) = (setAll (List.replicate n undef) ws).toArray := by
    rw [hn, ← he]; simp
  rw [e]
  exact (h _).out ⟨List.length_replicate, fun p hp => Nat.blt_eq.mp (List.all_eq_true.1 hl p hp)⟩

theorem cw_seq {x y : Code} (h : CW P x (Exit.then (y.wp P Q) Q) n L ws w) : CW P (.seq x y) Q n L ws w := ⟨fun b => wp_seq (h.out b)⟩
theorem cw_block {id : Nat} {c : Code} (h : CW P c (Exit.inBlock id Q) n L ws w) : CW P (.block id c) Q n L ws w := ⟨fun b => wp_block (h.out b)⟩
theorem cw_skip (h : QW Q .normal n L ws w) : CW P .skip Q n L ws w := ⟨fun b => wp_skip (h.out b)⟩
theorem cw_exit {id : Nat} (h : QW Q (.exit id) n L ws w) : CW P (.exit id) Q n L ws w := ⟨fun b => wp_exit (h.out b)⟩
theorem cw_ret (h : QW Q .ret n L ws w) : CW P .ret Q n L ws w := ⟨fun b => wp_ret (h.out b)⟩
theorem cw_plain {id : Nat} {l : List Oper} (h : PL P l l Q n L ws w) : CW P (.region id l.toArray false) Q n L ws w := ⟨fun b => wp_region_lit (h.out b)⟩
theorem cw_t {c : Operand} {x y : Code} (hc : evalW L ws c = .bool true) (h : CW P x Q n L ws w) : CW P (.cond c x y) Q n L ws w := ⟨fun b => wp_cond_true (by rw [eval_W b.lt]; exact hc) (h.out b)⟩
theorem cw_f {c : Operand} {x y : Code} (hc : evalW L ws c = .bool false) (h : CW P y Q n L ws w) : CW P (.cond c x y) Q n L ws w := ⟨fun b => wp_cond_false (by rw [eval_W b.lt]; exact hc) (h.out b)⟩
theorem qw_then {y : Code} (h : CW P y Q n L ws w) : QW (Exit.then (y.wp P Q) Q) .normal n L ws w := ⟨h.out⟩
theorem qw_then_ret {K : Act → World → Prop} (h : QW Q .ret n L ws w) : QW (Exit.then K Q) .ret n L ws w := ⟨h.out⟩
theorem qw_then_exit {K : Act → World → Prop} {id : Nat} (h : QW Q (.exit id) n L ws w) : QW (Exit.then K Q) (.exit id) n L ws w := ⟨h.out⟩
theorem qw_block {id : Nat} (h : QW Q .normal n L ws w) : QW (Exit.inBlock id Q) .normal n L ws w := ⟨h.out⟩
theorem qw_block_ret {id : Nat} (h : QW Q .ret n L ws w) : QW (Exit.inBlock id Q) .ret n L ws w := ⟨h.out⟩
theorem qw_block_out {id : Nat} (h : QW Q .normal n L ws w) : QW (Exit.inBlock id Q) (.exit id) n L ws w := ⟨fun b => by
  show (if id = id then _ else _)
  rw [if_pos rfl]; exact h.out b⟩
theorem qw_block_on {id id' : Nat} (hne : id' ≠ id) (h : QW Q (.exit id') n L ws w) : QW (Exit.inBlock id Q) (.exit id') n L ws w := ⟨fun b => by
  show (if id' = id then _ else _)
  rw [if_neg hne]; exact h.out b⟩

/-- What a function returns: its result slots and cells. -/
def ResV (P : Program) (ev : Operand → Value) (w : World) : List ResultVar → List Value → Prop
  | [], [] => True
  | .tmp t :: rs, v :: vs => ev (.tmp t) = v ∧ ResV P ev w rs vs
  | .cell a t :: rs, v :: vs => (∃ ad, ev (.tmp a) = .pointer (some ad) ∧ (loadVar t ad).run P w = .ok v w) ∧ ResV P ev w rs vs
  | _, _ => False
def resOf : List Value → Value
  | [v] => v
  | vs => .tuple vs.toArray
theorem res_map {ev : Operand → Value} {g : ResultVar → Sem Value} (h1 : ∀ t, g (.tmp t) = pure (ev (.tmp t))) (h2 : ∀ b t, g (.cell b t) = do loadVar t (← asAddr (ev (.tmp b)))) :
    ∀ {rs : List ResultVar} {vs : List Value}, ResV P ev w rs vs → (rs.mapM g).run P w = .ok vs w
  | [], [], _ => by simp [go_sem]
  | .tmp t :: rs, v :: vs, h => by
    have ih := res_map h1 h2 h.2
    rw [List.mapM_cons, h1, h.1]
    simp [ih, Result.andThen]
  | .cell b t :: rs, v :: vs, h => by
    have ih := res_map h1 h2 h.2
    obtain ⟨ad, e1, e2⟩ := h.1
    rw [List.mapM_cons, h2, e1]
    simp [ih, asAddr, e2, Result.andThen]
theorem results_g (fn : Func) (tmps : Array Value) : ∃ g : ResultVar → Sem Value, (∀ t, g (.tmp t) = pure (tmps.getD t undef)) ∧ (∀ b t, g (.cell b t) = do loadVar t (← asAddr (tmps.getD b undef))) ∧
    results fn tmps = (do let vs ← fn.results.mapM g; pure (if h : vs.size = 1 then vs[0] else .tuple vs)) := ⟨_, fun _ => rfl, fun _ _ => rfl, rfl⟩
theorem res_run {fn : Func} {a : Act} {rs : List ResultVar} {vs : List Value} (hf : fn.results = rs.toArray) (h : ResV P a.eval w rs vs) : (results fn a.tmps).run P w = .ok (resOf vs) w := by
  obtain ⟨g, h1, h2, e⟩ := results_g fn a.tmps
  have := res_map (P := P) (w := w) (ev := a.eval) h1 h2 h
  rw [e, hf, List.mapM_toArray]
  simp only [Sem.run_bind, Sem.run_map, this, Result.andThen]
  match vs with
  | [] => rfl
  | [v] => rfl
  | u :: v :: r => simp [resOf]
theorem qw_ret {fn : Func} {R : Ending → World → Prop} {rs : List ResultVar} (vs : List Value) (hf : fn.results = rs.toArray) (h : ResV P (evalW L ws) w rs vs) (hR : R (.returned (resOf vs)) w) : QW (bodyPost P fn R) .ret n L ws w := ⟨fun b =>
  bodyPost_ret (res_run hf (by rw [eval_W b.lt]; exact h)) rfl hR⟩
/-! One operation. -/
def StepN (P : Program) (ev : Operand → Value) (oi : Oper) (w : World) (N : Value → World → Prop) : Prop :=
  (∃ v w', (execOp ev oi).run P w = .ok (.value v) w' ∧ N v w') ∨ (∃ w', (execOp ev oi).run P w = .ok .skip w' ∧ N undef w') ∨
  (∃ f args, (execOp ev oi).run P w = .ok (.enter f args) w ∧ Calls P f args w fun e w' => ∃ v, e = .returned v ∧ N v w')
theorem StepN.wp {ev : Operand → Value} {oi : Oper} {N : Value → World → Prop} {a : Act} {K : Act → World → Prop} (h : StepN P ev oi w N) (he : a.eval = ev) (hK : ∀ v w', N v w' → K (a.put oi.dst v) w') : Oper.wp P oi a w K Q := by
  unfold Oper.wp
  rw [he]
  rcases h with ⟨v, w', h1, h3⟩ | ⟨w', h1, h3⟩ | ⟨f, args, h1, h2⟩
  · rw [h1, Oper.upon_value]; exact hK v w' h3
  · rw [h1, Oper.upon_skip]; exact hK undef w' h3
  · rw [h1, Oper.upon_enter]
    exact h2.mono fun e w' ⟨v, he, hn⟩ => by subst he; exact hK v w' hn
theorem StepN.toW {S : World → Prop} {oi : Oper} {N : Value → World → Prop} (h : StepN P (evalW L ws) oi w fun v w' => S w' ∧ N v w') : StepW P S L ws oi w fun v w' => S w' → N v w' := by
  rcases h with ⟨v, w', h1, h3⟩ | ⟨w', h1, h3⟩ | ⟨f, args, h1, h2⟩
  · exact .inl ⟨v, w', h1, h3.1, fun _ => h3.2⟩
  · exact .inr (.inl ⟨w', h1, h3.1, fun _ => h3.2⟩)
  · exact .inr (.inr ⟨f, args, h1, h2.mono fun e w' ⟨v, he, hn⟩ => ⟨v, he, hn.1, fun _ => hn.2⟩⟩)
theorem sn_call {ev : Operand → Value} {oi : Oper} {N : Value → World → Prop} {f : FuncId} {args : Array Value} (h1 : (execOp ev oi).run P w = .ok (.enter f args) w) (h2 : Calls P f args w fun e w' => ∃ v, e = .returned v ∧ N v w') : StepN P ev oi w N := .inr (.inr ⟨f, args, h1, h2⟩)
theorem sn_eff {ev : Operand → Value} {oi : Oper} {N : Value → World → Prop} {v : Value} {w' : World} (h1 : (execOp ev oi).run P w = .ok (.value v) w') (h3 : N v w') : StepN P ev oi w N := .inl ⟨v, w', h1, h3⟩
theorem sn_skp {ev : Operand → Value} {oi : Oper} {N : Value → World → Prop} {w' : World} (h1 : (execOp ev oi).run P w = .ok .skip w') (h3 : N undef w') : StepN P ev oi w N := .inr (.inl ⟨w', h1, h3⟩)
theorem sn_new {ev : Operand → Value} {oi : Oper} {N : Value → World → Prop} {us : Array Value} {t : TypeId} (h1 : (execOp ev oi).run P w = .ok (.value (.pointer (some ⟨w.heap.size, 0, none⟩))) (w.alloc (.cells us t)))
    (h : ∀ O X, w.heap.size = O → X.heap.size = O + 1 → Ext w X → (∀ i u, us[i]? = some u → BoxAt X O i u) → N (.pointer (some ⟨O, 0, none⟩)) X) : StepN P ev oi w N := by
  refine sn_eff h1 (h _ _ rfl (by simp) (Ext.alloc (Ext.refl _) _) (fun i u hu => ⟨?_, ?_⟩))
  · rw [cell_of_row _ _ i _ t (0, 0) (heap_alloc_new w _)]; exact hu
  · simp [go_sem]
theorem sn_newS {ev : Operand → Value} {oi : Oper} {N : Value → World → Prop} {us : Array Value} {t : TypeId} {k c : Nat} (h1 : (execOp ev oi).run P w = .ok (.value (.slice (some ⟨w.heap.size, 0, none⟩) k c)) (w.alloc (.cells us t)))
    (h : ∀ O X, w.heap.size = O → X.heap.size = O + 1 → Ext w X → (∀ i u, us[i]? = some u → BoxAt X O i u) → N (.slice (some ⟨O, 0, none⟩) k c) X) : StepN P ev oi w N := by
  refine sn_eff h1 (h _ _ rfl (by simp) (Ext.alloc (Ext.refl _) _) (fun i u hu => ⟨?_, ?_⟩))
  · rw [cell_of_row _ _ i _ t (0, 0) (heap_alloc_new w _)]; exact hu
  · simp [go_sem]
/-! A region whose order is fixed. -/
def wantP (ops : List Oper) (L : List Value) (ws : List (Nat × Value)) : Option (Nat × Bool) → Bool
  | none => true
  | some (g, want) => match ops.drop g with
    | o :: _ => (match o.dst with | some d => (match look ws (base L) d with | .bool b => b == want | _ => false) | none => false)
    | [] => false
theorem wantP_spec {ops : List Oper} {o : Oper} {b : Bool} (h : Bd n L ws) (hok : ∀ x ∈ ops, ∀ d, x.dst = some d → d < n) (hw : wantP ops L ws o.guard = b) :
    Region.wanted o (yielded ops.toArray (⟨(setAll L ws).toArray, []⟩ : Act).tmps) = b := by
  subst hw
  unfold Region.wanted wantP
  cases hgd : o.guard with
  | none => rfl
  | some p =>
    obtain ⟨g, want⟩ := p
    have ho : ops.toArray[g]? = ops[g]? := by simp
    simp only [yielded, ho]
    cases hj : ops[g]? with
    | none =>
      have : ops.drop g = [] := by
        rw [List.drop_eq_nil_iff]
        rcases Nat.lt_or_ge g ops.length with h1 | h1
        · rw [List.getElem?_eq_getElem h1] at hj; cases hj
        · exact h1
      rw [this]; rfl
    | some og =>
      obtain ⟨r, hr⟩ := drop_get hj
      rw [hr]
      simp only [Option.bind_some]
      cases hd : og.dst with
      | none => rfl
      | some d =>
        have hlt : d < n := hok og (List.mem_of_getElem? hj) d hd
        have hget := setAll_get L ws h.lt d
        have hlt2 : d < (setAll L ws).toArray.size := by simp [setAll_len, h.1, hlt]
        simp only [Array.getD, hlt2, dif_pos] at hget
        simp only [Option.bind_some]
        rw [Array.getElem?_eq_getElem hlt2]
        have e : (setAll L ws).toArray[d] = look ws (base L) d := hget
        rw [e]
        cases look ws (base L) d <;> rfl
/-- All slots that a region writes lie in the frame. -/
def dstOk (n : Nat) : List Oper → Bool
  | [] => true
  | o :: r => (match o.dst with | some d => Nat.blt d n | none => true) && dstOk n r
theorem dstOk_spec {ops : List Oper} (h : dstOk n ops = true) : ∀ x ∈ ops, ∀ d, x.dst = some d → d < n := by
  induction ops with
  | nil => intro x hx; cases hx
  | cons o r ih =>
    unfold dstOk at h
    obtain ⟨h1, h2⟩ := Bool.and_eq_true_iff.1 h
    intro x hx d hd
    rcases List.mem_cons.1 hx with e | hx
    · rw [← e, hd] at h1; exact Nat.blt_eq.mp h1
    · exact ih h2 x hx d hd
theorem pl_nil {ops : List Oper} (h : QW Q .normal n L ws w) : PL P ops [] Q n L ws w := ⟨h.out⟩
theorem pl_take {ops rest : List Oper} {o : Oper} {d : Nat} (v : Value) (hdst : o.dst = some d) (hok : dstOk n ops = true) (hd : Nat.blt d n = true) (hw : wantP ops L ws o.guard = true)
    (hr : (execOp (evalW L ws) o).run P w = .ok (.value v) w) (h : PL P ops rest Q n L ((d, v) :: ws) w) : PL P ops (o :: rest) Q n L ws w := ⟨fun b => by
  refine wpList_step fun K hK => ?_
  rw [if_pos (wantP_spec b (dstOk_spec hok) hw)]
  unfold Oper.wp
  rw [eval_W b.lt, hr, Oper.upon_value]
  refine hK _ _ ?_
  rw [put_W, hdst]; exact h.out (b.put hd)⟩
theorem pl_skip {ops rest : List Oper} {o : Oper} {d : Nat} (hdst : o.dst = some d) (hok : dstOk n ops = true) (hd : Nat.blt d n = true) (hw : wantP ops L ws o.guard = false)
    (h : PL P ops rest Q n L ((d, undef) :: ws) w) : PL P ops (o :: rest) Q n L ws w := ⟨fun b => by
  refine wpList_step fun K hK => ?_
  rw [if_neg (by rw [wantP_spec b (dstOk_spec hok) hw]; simp)]
  refine hK _ _ ?_
  rw [put_W, hdst]; exact h.out (b.put hd)⟩
theorem pl_step {ops rest : List Oper} {o : Oper} {d : Nat} (hdst : o.dst = some d) (hok : dstOk n ops = true) (hd : Nat.blt d n = true) (hw : wantP ops L ws o.guard = true)
    (h : StepN P (evalW L ws) o w fun v w' => PL P ops rest Q n L ((d, v) :: ws) w') : PL P ops (o :: rest) Q n L ws w := ⟨fun b => by
  refine wpList_step fun K hK => ?_
  rw [if_pos (wantP_spec b (dstOk_spec hok) hw)]
  exact h.wp (eval_W b.lt []) fun v w' hn => hK _ _ (by rw [put_W, hdst]; exact hn.out (b.put hd))⟩
theorem pl_put {ops rest : List Oper} {o : Oper} (hdst : o.dst = none) (hok : dstOk n ops = true) (hw : wantP ops L ws o.guard = true)
    (h : StepN P (evalW L ws) o w fun _ w' => PL P ops rest Q n L ws w') : PL P ops (o :: rest) Q n L ws w := ⟨fun b => by
  refine wpList_step fun K hK => ?_
  rw [if_pos (wantP_spec b (dstOk_spec hok) hw)]
  exact h.wp (eval_W b.lt []) fun v w' hn => hK _ _ (by rw [put_W, hdst]; exact hn.out b)⟩
/-! A region that draws its order. -/
def Calm (Q : Exit → Act → World → Prop) : Prop := ∀ c d v a w, Q (.panic c) (Act.put a d v) w → Q (.panic c) a w
theorem calm_then {K : Act → World → Prop} (h : Calm Q) : Calm (Exit.then K Q) := fun c d v a w h' => h c d v a w h'
theorem calm_block {id : Nat} (h : Calm Q) : Calm (Exit.inBlock id Q) := fun c d v a w h' => h c d v a w h'
theorem calm_body {fn : Func} {R : Ending → World → Prop} : Calm (bodyPost P fn R) := fun c d v a w h => by cases d <;> exact h
theorem cw_draw {id : Nat} {ops0 : Array Oper} (T : List Row) (S : World → Prop) (hm : P.follows .mixedOrders = true) (ht : tableR ops0 = T) (hg : goodT n ops0.size T = true) (hs : Region.noSelect ops0 = true) (hQ : Calm Q) (hS : S w.drew)
    (h : ∀ (ops : Array Oper) (Q' : Exit → Act → World → Prop) (X : World), Ext w X → L.length = n → Reg P ops0 ops Q' L T → Shut (∀ ws w, QW Q .normal n L ws w → QW Q' .normal n L ws w) → WD P ops Q' S L ops0.size [] ws X) : CW P (.region id ops0 true) Q n L ws w := ⟨fun b => by
  refine wp_region_held_drew hm hS fun hS => ?_
  exact (h ops0 Q _ (Ext.drew (Ext.refl _)) b.1 ⟨rfl, ht, by rw [b.1]; exact hg, hs, hQ⟩ (fun _ _ h => h)).out b.lt⟩
variable {ops0 ops : Array Oper} {Q' : Exit → Act → World → Prop} {T : List Row} {S : World → Prop} {fuel : Nat} {done : List Nat}
theorem StepN.toD {S : World → Prop} {oi : Oper} {L' : Value → List (Nat × Value)} {Q' : Exit → Act → World → Prop} {ops : Array Oper} {fuel : Nat} {done : List Nat} (h : StepN P (evalW L ws) oi w fun v w' => S w' ∧ WD P ops Q' S L fuel done (L' v) w') : StepW P S L ws oi w fun v w' => S w' → W P ops Q' S L [] fuel done (L' v) w' :=
  StepN.toW (N := fun v w' => W P ops Q' S L [] fuel done (L' v) w') (by
    rcases h with ⟨v, w', h1, h3⟩ | ⟨w', h1, h3⟩ | ⟨f, args, h1, h2⟩
    · exact .inl ⟨v, w', h1, h3.1, h3.2.out⟩
    · exact .inr (.inl ⟨w', h1, h3.1, h3.2.out⟩)
    · exact .inr (.inr ⟨f, args, h1, h2.mono fun e w' ⟨v, he, hn⟩ => ⟨v, he, hn.1, hn.2.out⟩⟩))
theorem wd_end (hL : L.length = n) (hR : Reg P ops0 ops Q' L T) (hK : Shut (∀ ws w, QW Q .normal n L ws w → QW Q' .normal n L ws w)) (hd : upT done (numbered T 0) = []) (h : QW Q .normal n L ws w) : WD P ops Q' S L fuel done ws w := ⟨fun hb => by
  refine wpAnyH_done ?_ ?_ fuel
  · rw [List.eq_nil_iff_forall_not_mem]
    intro j hj
    have := ready_up hR hj
    rw [hd] at this; cases this
  · exact (hK _ _ h).out ⟨hL, fun p hp => by rw [← hL]; exact hb p hp⟩⟩
theorem wd_take (i : Nat) {d : Nat} {oi : Oper} {r : List Oper} (v : Value) (hR : Reg P ops0 ops Q' L T) (hi : ops0.toList.drop i = oi :: r) (hr : readyT T done i = true) (hdst : oi.dst = some d)
    (hw : wantedW T L ws oi.guard = true) (hy : ∀ w, S w → (execOp (evalW L ws) oi).run P w = .ok (.value v) w) (hS : S w)
    (h : WD P ops Q' S L fuel (i :: done) ((d, v) :: ws) w) : WD P ops Q' S L (fuel + 1) done ws w := ⟨wg_take i hR hi hr hw hy hS (by rw [hdst]; exact h.out)⟩
theorem wd_step (i : Nat) {oi : Oper} {r : List Oper} (hR : Reg P ops0 ops Q' L T) (hi : ops0.toList.drop i = oi :: r) (hr : upT done (numbered T 0) = [i]) (hr2 : readyT T done i = true)
    (hw : wantedW T L ws oi.guard = true) (h : StepN P (evalW L ws) oi w fun v w' => S w' ∧ WD P ops Q' S L fuel (i :: done) (putW oi.dst v ws) w') : WD P ops Q' S L (fuel + 1) done ws w := ⟨wg_step i hR hi hr hw h.toD hr2⟩
theorem wd_two (i j : Nat) {oi oj : Oper} {r s : List Oper} (hR : Reg P ops0 ops Q' L T) (hi : ops0.toList.drop i = oi :: r) (hj : ops0.toList.drop j = oj :: s) (hr : upT done (numbered T 0) = [i, j]) (hr2 : readyT T done i = true)
    (hwi : wantedW T L ws oi.guard = true) (hwj : wantedW T L ws oj.guard = true)
    (h1 : StepN P (evalW L ws) oi w fun v w' => S w' ∧ WD P ops Q' S L fuel (i :: done) (putW oi.dst v ws) w')
    (h2 : StepN P (evalW L ws) oj w fun v w' => S w' ∧ WD P ops Q' S L fuel (j :: done) (putW oj.dst v ws) w') : WD P ops Q' S L (fuel + 1) done ws w := ⟨wg_two i j hR hi hj hr hwi hwj hr2 h1.toD h2.toD⟩
/-! What of the frame is kept: the rest is forgotten. -/
def pickW (ws : List (Nat × Value)) : List Nat → Option (List (Nat × Value))
  | [] => some []
  | k :: ks => match lookO ws k, pickW ws ks with
    | some v, some r => some ((k, v) :: r)
    | _, _ => none
theorem pick_look : ∀ {ks : List Nat} {ws' : List (Nat × Value)}, pickW ws ks = some ws' → ∀ t v, lookO ws' t = some v → lookO ws t = some v
  | [], ws', h, t, v, ht => by cases h; cases ht
  | k :: ks, ws', h, t, v, ht => by
    unfold pickW at h
    cases e1 : lookO ws k with
    | none => rw [e1] at h; cases h
    | some u =>
      cases e2 : pickW ws ks with
      | none => rw [e1, e2] at h; cases h
      | some r =>
        rw [e1, e2] at h; cases h
        unfold lookO at ht
        by_cases e : t = k
        · rw [if_pos e] at ht; subst e; rw [e1]; exact ht
        · rw [if_neg e] at ht; exact pick_look e2 t v ht
theorem look_mem : ∀ {ws : List (Nat × Value)} {t : Nat} {v : Value}, lookO ws t = some v → (t, v) ∈ ws
  | (d, u) :: r, t, v, h => by
    unfold lookO at h
    by_cases e : t = d
    · rw [if_pos e] at h; cases h; subst e; exact List.mem_cons_self
    · rw [if_neg e] at h; exact List.mem_cons_of_mem _ (look_mem h)
theorem mem_look : ∀ {ws : List (Nat × Value)} {p : Nat × Value}, p ∈ ws → ∃ v, lookO ws p.1 = some v
  | (d, u) :: r, p, h => by
    by_cases e : p.1 = d
    · exact ⟨u, by rw [lookO, if_pos e]⟩
    · rcases List.mem_cons.1 h with rfl | h
      · exact absurd rfl e
      · obtain ⟨v, hv⟩ := mem_look h
        exact ⟨v, by rw [lookO, if_neg e, hv]⟩
theorem pick_set {ks : List Nat} {ws' : List (Nat × Value)} (h : pickW ws ks = some ws') : setAll (setAll L ws) ws' = setAll L ws := by
  refine List.ext_getElem? fun t => ?_
  rw [setAll_get?, setAll_len]
  split
  · rename_i ht
    cases e : lookO ws' t with
    | none => simp
    | some v =>
      have := pick_look h t v e
      rw [setAll_get?, if_pos ht, this]; rfl
  · rename_i ht
    rw [setAll_get?, if_neg ht]
theorem pick_bd {ks : List Nat} {ws' : List (Nat × Value)} (h : pickW ws ks = some ws') (b : Bd n L ws) : Bd n (setAll L ws) ws' :=
  ⟨by rw [setAll_len]; exact b.1, fun p hp => by
    obtain ⟨v, hv⟩ := mem_look hp
    exact b.2 (p.1, v) (look_mem (pick_look h _ _ hv))⟩
theorem cw_clean {c : Code} (ks : List Nat) {ws' : List (Nat × Value)} (hp : pickW ws ks = some ws') (h : ∀ L', CW P c Q n L' ws' w) : CW P c Q n L ws w := ⟨fun b => by
  have := (h (setAll L ws)).out (pick_bd hp b)
  rwa [pick_set hp] at this⟩
/-- Several ways, one continuation. -/
theorem cw_join {c : Code} (R : List (Nat × Value) → World → Prop) (main : (∀ L' ws' w', R ws' w' → QW Q .normal n L' ws' w') → CW P c Q n L ws w) (rest : ∀ L' ws' w', R ws' w' → QW Q .normal n L' ws' w') : CW P c Q n L ws w := main rest
theorem qw_leaf {R : List (Nat × Value) → World → Prop} (hJ : ∀ L' ws' w', R ws' w' → QW Q .normal n L' ws' w') (ks : List Nat) {ws' : List (Nat × Value)} (hp : pickW ws ks = some ws') (h : R ws' w) : QW Q .normal n L ws w := ⟨fun b => by
  have := (hJ (setAll L ws) ws' w h).out (pick_bd hp b)
  rwa [pick_set hp] at this⟩

/-! Loops. -/
theorem least {p : Nat → Prop} : (∃ m, p m) → ∃ m, p m ∧ ∀ k, p k → m ≤ k := by
  rintro ⟨m, hm⟩
  induction m using Nat.strongRecOn with
  | _ m ih =>
    by_cases h : ∃ k, k < m ∧ p k
    · obtain ⟨k, hk, hp⟩ := h; exact ih k hk hp
    · exact ⟨m, hm, fun k hk => Nat.le_of_not_lt fun hlt => h ⟨k, hlt, hk⟩⟩
def LoopK (n : Nat) (Inv : List (Nat × Value) → World → Nat → Prop) (m : Nat) : Act → World → Prop := fun a w => ∃ L' ws' m', m' < m ∧ Bd n L' ws' ∧ a = ⟨(setAll L' ws').toArray, []⟩ ∧ Inv ws' w m'
open Classical in
theorem cw_loop {c : Code} (ks : List Nat) (Inv : List (Nat × Value) → World → Nat → Prop) {ws0 : List (Nat × Value)} (hp : pickW ws ks = some ws0) (m0 : Nat) (h0 : Inv ws0 w m0)
    (round : ∀ m L' ws' w', Inv ws' w' m → CW P c (Exit.then (LoopK n Inv m) Q) n L' ws' w') : CW P (.loop c) Q n L ws w := ⟨fun b => by
  let J : Nat → Act → World → Prop := fun m a w => ∃ L' ws', Bd n L' ws' ∧ a = ⟨(setAll L' ws').toArray, []⟩ ∧ Inv ws' w m
  let μ : Act → World → Nat := fun a w => if h : ∃ m, J m a w then Classical.choose (least h) else 0
  have hμ : ∀ a w (h : ∃ m, J m a w), J (μ a w) a w ∧ ∀ k, J k a w → μ a w ≤ k := fun a w h => by
    have e : μ a w = Classical.choose (least h) := dif_pos h
    rw [e]; exact Classical.choose_spec (least h)
  refine wp_loop (fun a w => ∃ m, J m a w) μ ⟨m0, setAll L ws, ws0, pick_bd hp b, by rw [pick_set hp], h0⟩ fun a w h => ?_
  obtain ⟨⟨L', ws', hb, ha, hI⟩, _⟩ := hμ a w h
  have := (round (μ a w) L' ws' w hI).out hb
  rw [← ha] at this
  refine Code.wp_mono (fun e a' w' q => ?_) this
  cases e with
  | normal =>
    obtain ⟨L2, ws2, m2, hlt, hb2, ha2, hI2⟩ := q
    have hJ : J m2 a' w' := ⟨L2, ws2, hb2, ha2, hI2⟩
    exact ⟨⟨m2, hJ⟩, Nat.lt_of_le_of_lt ((hμ a' w' ⟨m2, hJ⟩).2 m2 hJ) hlt⟩
  | _ => exact q⟩
theorem qw_round {Inv : List (Nat × Value) → World → Nat → Prop} {m : Nat} (ks : List Nat) {ws' : List (Nat × Value)} (hp : pickW ws ks = some ws') (m' : Nat) (hlt : m' < m) (h : Inv ws' w m') : QW (Exit.then (LoopK n Inv m) Q) .normal n L ws w := ⟨fun b =>
  ⟨setAll L ws, ws', m', hlt, pick_bd hp b, by rw [pick_set hp], h⟩⟩
end

end Go.Proofs.YtdjjkhefdalokaaDoor

/- Operations: what they yield, in the forms that the walk over a list of writes wants. -/
namespace Go.Proofs.YtdjjkhefdalokaaDoor
open Go.RowKit

section
variable {P : Program} {ev : Operand → Value} {o : Oper} {w : World}
theorem ex_load {t : TypeId} {x : Operand} {p v : Value} (hop : o.op = .load t x) (hx : ev x = p) (h : (Instr.loadAt t p).run P w = .ok v w) : (execOp ev o).run P w = .ok (.value v) w := by
  simp [execOp, hop, hx, h, Result.andThen]
theorem ex_store {t : TypeId} {x y : Operand} {p v : Value} {w' : World} (hop : o.op = .store t x y) (hx : ev x = p) (hy : ev y = v) (h : (Instr.storeAt t p v).run P w = .ok () w') : (execOp ev o).run P w = .ok .skip w' := by
  simp [execOp, hop, hx, hy, h, Result.andThen]
theorem ex_index {t : TypeId} {x y : Operand} {p i v : Value} (hop : o.op = .indexAddr t x y) (hx : ev x = p) (hy : ev y = i) (h : (Instr.indexAt t p i).run P w = .ok v w) : (execOp ev o).run P w = .ok (.value v) w := by
  simp [execOp, hop, hx, hy, h, Result.andThen]
theorem ev_wrap {a : Int} {r : Result Next} (h : r = .ok (.value (.int .i64 (IntKind.i64.wrap a))) w) (h0 : -9223372036854775808 ≤ a) (h1 : a ≤ 9223372036854775807) : r = .ok (.value (.int .i64 a)) w := by
  have e : IntKind.i64.wrap a = a := by rw [IntKind.wrap_i64]; omega
  rw [h, e]
theorem ev_int {a b : Int} {k : IntKind} {r : Result Next} (h : r = .ok (.value (.int k a)) w) (e : a = b) : r = .ok (.value (.int k b)) w := by rw [h, e]
theorem ev_bool {b b' : Bool} {r : Result Next} (h : r = .ok (.value (.bool b)) w) (e : b = b') : r = .ok (.value (.bool b')) w := by rw [h, e]
theorem ev_dec {p : Prop} [Decidable p] {r : Result Next} (h : r = .ok (.value (.bool (decide p))) w) (e : p) : r = .ok (.value (.bool true)) w := by rw [h, decide_eq_true e]
theorem ev_ndec {p : Prop} [Decidable p] {r : Result Next} (h : r = .ok (.value (.bool (decide p))) w) (e : ¬ p) : r = .ok (.value (.bool false)) w := by rw [h, decide_eq_false e]
theorem ev_eq {a b : Int} {r : Result Next} (h : r = .ok (.value (.bool (a == b))) w) (e : a = b) : r = .ok (.value (.bool true)) w := by rw [h, e]; simp
theorem ev_neq {a b : Int} {r : Result Next} (h : r = .ok (.value (.bool (a == b))) w) (e : a ≠ b) : r = .ok (.value (.bool false)) w := by rw [h]; simp [e]
end

theorem res_ld {P : Program} {t : TypeId} {ad : Addr} {v : Value} {w : World} (h : (Instr.loadAt t (.pointer (some ad))).run P w = .ok v w) : (loadVar t ad).run P w = .ok v w := h

/-! Sums and bits of naturals. -/
theorem ex_bin {P : Program} {ev : Operand → Value} {o : Oper} {w : World} {op : BinOp} {t t2 : TypeId} {x y : Operand} {a b : Int} {v : Value} (hop : o.op = .binOp op t x y t2) (hx : ev x = .int .i64 a) (hy : ev y = .int .i64 b)
    (h : (binOp op t (.int .i64 a) (.int .i64 b)).run P w = .ok v w) : (execOp ev o).run P w = .ok (.value v) w := by
  have e : (eqGuard op t x y (.int .i64 a) (.int .i64 b)).run P w = .ok () w := by cases op <;> simp [eqGuard]
  simp [execOp, hop, hx, hy, e, h, Result.andThen]
theorem bin_shl1 {P : Program} {w : World} {t : TypeId} {i : Nat} (hi : i < 62) : (binOp .shl t (.int .i64 1) (.int .i64 (i : Int))).run P w = .ok (.int .i64 ((2 ^ i : Nat) : Int)) w := by
  have h0 : ¬ ((i : Int) < 0) := by omega
  have h1 : min (i : Int).toNat 64 = i := by simp; omega
  have h2 : (2 ^ i : Nat) < 2 ^ 62 := Nat.pow_lt_pow_right (by decide) hi
  have e : IntKind.i64.wrap (1 * 2 ^ i) = ((2 ^ i : Nat) : Int) := by
    rw [Int.one_mul, show ((2 : Int) ^ i) = ((2 ^ i : Nat) : Int) by simp, IntKind.wrap_i64]
    generalize (2 ^ i : Nat) = k at h2 ⊢
    omega
  simp only [binOp, Op.shift, if_neg h0, IntKind.bits, h1, e]
  rfl
theorem bin_tmod {P : Program} {w : World} {t : TypeId} {a b : Int} (hb : b ≠ 0) : (binOp .rem t (.int .i64 a) (.int .i64 b)).run P w = .ok (.int .i64 (a.tmod b)) w := by
  simp only [binOp, Op.intDiv, if_neg hb]
  simp
theorem bin_tdiv {P : Program} {w : World} {t : TypeId} {a b : Int} (hb : 0 < b) (h0 : -9223372036854775808 ≤ a) (h1 : a ≤ 9223372036854775807) : (binOp .quo t (.int .i64 a) (.int .i64 b)).run P w = .ok (.int .i64 (a.tdiv b)) w := by
  have hne : ¬ b = 0 := by omega
  have h2 : (a.tdiv b).natAbs ≤ a.natAbs := by rw [Int.natAbs_tdiv]; exact Nat.div_le_self _ _
  have e2 : IntKind.i64.wrap (a.tdiv b) = a.tdiv b := by
    rw [IntKind.wrap_i64]
    have h3 : 0 ≤ a → 0 ≤ a.tdiv b := fun h => Int.tdiv_nonneg h (by omega)
    have h4 : a ≤ 0 → a.tdiv b ≤ 0 := fun h => by
      have := Int.tdiv_nonneg (a := -a) (b := b) (by omega) (by omega)
      rw [Int.neg_tdiv] at this; omega
    generalize a.tdiv b = q at h2 h3 h4 ⊢
    omega
  simp only [binOp, Op.intDiv, if_neg hne, e2]
  simp
theorem VA.cell0 {w : World} {b : Nat} {l : List Int} (h : VA w b 0 l) {y : Nat} (hy : y < 24) : w.cell? ⟨b, y, none⟩ = some (.int .i64 ((Globe.rowN l y : Nat) : Int)) := by have := h.cell hy; rwa [Nat.zero_add] at this

/-- In the world X nothing but some cells of block O has turned. -/
structure Turns (O : Nat) (w X : World) : Prop where
  size : X.heap.size = w.heap.size
  cell' : ∀ p : Addr, p.block ≠ O → X.cell? p = w.cell? p
  froz' : ∀ p : Addr, X.frozen? p = w.frozen? p
  ext' : ∀ a, Ext a w → a.heap.size ≤ O → Ext a X
  heap' : ∀ k, k ≠ O → X.heap[k]? = w.heap[k]?
  oth' : ∀ o : Obj, w.heap[O]? = some o → o.isCells = false → X.heap[O]? = some o
theorem Turns.ext {O : Nat} {a w X : World} (h : Turns O w X) (hE : Ext a w) (hO : a.heap.size ≤ O) : Ext a X := h.ext' a hE hO
theorem Turns.cell {O : Nat} {w X : World} (h : Turns O w X) {p : Addr} {u : Value} (hb : O ≠ p.block) (hv : w.cell? p = some u) : X.cell? p = some u := by
  rw [h.cell' p (fun e => hb e.symm)]; exact hv
theorem Turns.va {O : Nat} {w X : World} (h : Turns O w X) {b o : Nat} {l : List Int} (hb : O ≠ b) (hv : VA w b o l) : VA X b o l := ⟨fun i hi => h.cell hb (hv.1 i hi), hv.2⟩
theorem Turns.box {O : Nat} {w X : World} (h : Turns O w X) {b o : Nat} {u : Value} (hb : O ≠ b) (hv : BoxAt w b o u) : BoxAt X b o u := ⟨h.cell hb hv.1, by rw [h.froz']; exact hv.2⟩
theorem Turns.rows {O : Nat} {w X : World} (h : Turns O w X) {b : Nat} {l : List Int} (hb : O ≠ b) (hv : RowsAt w b l) : RowsAt X b l := ⟨hv.1, fun i hi => h.cell hb (hv.cell hi), fun i hi => by rw [h.froz']; exact hv.free hi⟩
theorem turns_set (w : World) (O j : Nat) (v : Value) : Turns O w (w.setCell ⟨O, j, none⟩ v) :=
  ⟨by simp, fun p hp => World.cell?_setCell_other w _ _ _ (fun e => hp (congrArg Addr.block e).symm), fun p => by simp [go_sem], fun _ hE hO => hE.setCell hO v, fun k hk => Below.heap_setCell _ _ _ _ (fun e => hk e), fun o ho hc => by
    have h2 : (w.setCell ⟨O, j, none⟩ v).heap[O]? = _ := Array.getElem?_modify
    rw [h2, if_pos rfl, ho]
    cases o <;> first | rfl | simp [Obj.isCells] at hc⟩
theorem Turns.trans {O : Nat} {a b c : World} (h : Turns O a b) (k : Turns O b c) : Turns O a c :=
  ⟨k.size.trans h.size, fun p hp => (k.cell' p hp).trans (h.cell' p hp), fun p => (k.froz' p).trans (h.froz' p), fun x hE hO => k.ext' x (h.ext' x hE hO) hO, fun i hi => (k.heap' i hi).trans (h.heap' i hi), fun o ho hc => k.oth' o (h.oth' o ho hc) hc⟩
section
variable {P : Program} {ev : Operand → Value} {oi : Oper} {w : World} {N : Value → World → Prop}
/-- A store into a box of the call's own: the world goes under a name. -/
theorem sn_set {O j : Nat} {u v : Value} (h1 : (execOp ev oi).run P w = .ok .skip (w.setCell ⟨O, j, none⟩ v)) (hO : BoxAt w O j u)
    (h : ∀ X, Turns O w X → BoxAt X O j v → (∀ i x, i ≠ j → BoxAt w O i x → BoxAt X O i x) → N undef X) : StepN P ev oi w N := by
  have hB : BoxAt (w.setCell ⟨O, j, none⟩ v) O j v := ⟨by have := hO.1; simp [go_sem, this], by have := hO.2; simpa [go_sem] using this⟩
  exact sn_skp h1 (h _ (turns_set _ _ _ _) hB fun i x hi hx => ⟨by rw [World.cell?_setCell_other w _ _ _ (fun e => hi (congrArg Addr.off e).symm)]; exact hx.1, by simp [go_sem, hx.2]⟩)
theorem sn_set2 {O j : Nat} {u u' v v' : Value} (h1 : (execOp ev oi).run P w = .ok .skip ((w.setCell ⟨O, j, none⟩ v).setCell ⟨O, j + 1, none⟩ v')) (hO : BoxAt w O j u) (hO' : BoxAt w O (j + 1) u')
    (h : ∀ X, Turns O w X → BoxAt X O j v → BoxAt X O (j + 1) v' → (∀ i x, i ≠ j → i ≠ j + 1 → BoxAt w O i x → BoxAt X O i x) → N undef X) : StepN P ev oi w N := by
  have k : ∀ (W : World) (j : Nat) (u v : Value), BoxAt W O j u → BoxAt (W.setCell ⟨O, j, none⟩ v) O j v := fun W j u v hO => ⟨by have := hO.1; simp [go_sem, this], by have := hO.2; simpa [go_sem] using this⟩
  have k2 : ∀ (W : World) (j i : Nat) (x v : Value), i ≠ j → BoxAt W O i x → BoxAt (W.setCell ⟨O, j, none⟩ v) O i x := fun W j i x v hi hx => ⟨by rw [World.cell?_setCell_other W _ _ _ (fun e => hi (congrArg Addr.off e).symm)]; exact hx.1, by simp [go_sem, hx.2]⟩
  exact sn_skp h1 (h _ ((turns_set _ _ _ _).trans (turns_set _ _ _ _)) (k2 _ _ _ _ _ (by omega) (k _ _ _ _ hO)) (k _ _ _ _ (k2 _ _ _ _ _ (by omega) hO')) fun i x hi hi' hx => k2 _ _ _ _ _ hi' (k2 _ _ _ _ _ hi hx))
end
section
variable {P : Program} {n : Nat} {L : List Value} {ws : List (Nat × Value)} {w : World} {Q : Exit → Act → World → Prop}
theorem cw_label {l : Nat} (h : QW Q .normal n L ws w) : CW P (.label l) Q n L ws w := ⟨fun b => wp_label (h.out b)⟩
theorem cw_scope {c : Code} (h : CW P c (Exit.noGoto Q) n L ws w) : CW P (.scope c) Q n L ws w := ⟨fun b => wp_scope_straight (h.out b)⟩
theorem qw_scope_ret (h : QW Q .ret n L ws w) : QW (Exit.noGoto Q) .ret n L ws w := ⟨h.out⟩
end
/-- A row that is written in place. -/
theorem sn_row {P : Program} {ev : Operand → Value} {oi : Oper} {w : World} {N : Value → World → Prop} {g y : Nat} {L : List Int} {v : Int} (h1 : (execOp ev oi).run P w = .ok .skip (w.setCell ⟨g, y, none⟩ (.int .i64 v))) (hr : RowsAt w g L) (hy : y < 24)
    (h : ∀ X, Turns g w X → RowsAt X g (L.set y v) → N undef X) : StepN P ev oi w N := sn_skp h1 (h _ (turns_set _ _ _ _) (hr.set hy v))

end Go.Proofs.YtdjjkhefdalokaaDoor

/- What a range over a function wants, in the form in which this seat uses it. -/
namespace Go.Proofs.YtdjjkhefdalokaaDoor
open Go.RowKit

theorem Ext.others {a b : World} (h : Ext a b) : KeepsOthers a b := ⟨h.size, fun k _ ho _ => (Below.block h k (Array.getElem?_eq_some_iff.1 ho).1).trans ho⟩

theorem wide_depth {n : Nat} : Fence.wide.depth.isSome = true → 1 ≤ n := fun h => by simp [Fence.wide] at h

/-- What lies below n₀ lies as it lay, but for the blocks of X (which a round may write). -/
structure KeepX (n₀ : Nat) (X : Nat → Prop) (A B : World) : Prop where
  size : A.heap.size ≤ B.heap.size
  block : ∀ k, k < n₀ → ¬ X k → B.heap[k]? = A.heap[k]?
theorem KeepX.refl (n₀ : Nat) (X : Nat → Prop) (A : World) : KeepX n₀ X A A := ⟨Nat.le_refl _, fun _ _ _ => rfl⟩
theorem KeepX.trans {n₀ : Nat} {X : Nat → Prop} {A B C : World} (h : KeepX n₀ X A B) (k : KeepX n₀ X B C) : KeepX n₀ X A C :=
  ⟨Nat.le_trans h.size k.size, fun i hi hx => (k.block i hi hx).trans (h.block i hi hx)⟩
theorem KeepX.of_below {n₀ : Nat} {X : Nat → Prop} {A B : World} (h : Below n₀ A B) : KeepX n₀ X A B := ⟨h.size, fun k hk _ => h.block k hk⟩
theorem KeepX.of_ext {n₀ : Nat} {X : Nat → Prop} {A B : World} (h : Ext A B) (hn : n₀ ≤ A.heap.size) : KeepX n₀ X A B := KeepX.of_below (Below.mono h hn)
theorem KeepX.cell {n₀ : Nat} {X : Nat → Prop} {A B : World} (h : KeepX n₀ X A B) {b o : Nat} (hb : b < n₀) (hx : ¬ X b) : B.cell? ⟨b, o, none⟩ = A.cell? ⟨b, o, none⟩ := World.cell?_of_block (w := A) (h.block b hb hx)
theorem KeepX.setCell {n₀ : Nat} {X : Nat → Prop} (A : World) {p : Addr} (hp : X p.block) (u : Value) : KeepX n₀ X A (A.setCell p u) :=
  ⟨by simp [World.setCell], fun k _ hx => Below.heap_setCell _ _ _ _ (fun e => hx (e ▸ hp))⟩
theorem KeepX.putObj {n₀ : Nat} {X : Nat → Prop} {w : World} (hn : n₀ ≤ w.heap.size) (W : World) (l : Nat) (o o' : Obj) (hl : w.heap.size ≤ l) (h : W.heap[l]? = some o) (hc : o.isCells = false) (hw : o.isWalk = false) : KeepX n₀ X W (W.putObj l o') :=
  KeepX.of_below (belowK_b hn W l o o' hl h hc hw)

theorem Ext.shut {w W : World} {D : Nat} (h : Ext w W) (hD : w.heap.size ≤ D) (hK : W.heap[D]? = some (.deferred (some []))) : Ext w (W.putObj D (.deferred none)) :=
  Below.trans h (belowK_b (w := w) (Nat.le_refl _) W D _ _ hD hK rfl rfl)

end Go.Proofs.YtdjjkhefdalokaaDoor

/- Writing into a block of one's own; a valid area that is being made. -/
namespace Go.Proofs.YtdjjkhefdalokaaDoor
open Go.RowKit

/-- 2 to the n. -/
def p2 (n : Nat) : Nat := 2 ^ n
/-- What lay below the block that was written reads as it did. -/
theorem Ext.grown {w0 w w' : World} {B : Nat} (h : Ext w0 w) (hg : w.grownBy w' (some B)) (hB : w0.heap.size ≤ B) : Ext w0 w' := Below.grown h hg h.size (fun k e => by cases e; exact hB)
theorem grown_cell {w w' : World} {B : Nat} (hg : w.grownBy w' (some B)) {a : Addr} {v : Value} (h : w.cell? a = some v) (hne : a.block ≠ B) : w'.cell? a = some v := hg.cell h (fun e => hne (by simpa using e))
theorem grown_free {w w' : World} {B : Nat} (hg : w.grownBy w' (some B)) {a : Addr} {v : Value} (h : w.cell? a = some v) (hf : w.frozen? a = false) (hne : a.block ≠ B) : w'.frozen? a = false :=
  (World.frozen?_of_block (hg.block a.block (World.block_lt_of_cell? w a h) (fun e => hne (by simpa using e)))).trans hf
theorem BoxAt.grown {w w' : World} {B : Nat} (hg : w.grownBy w' (some B)) {b o : Nat} {v : Value} (h : BoxAt w b o v) (hne : b ≠ B) : BoxAt w' b o v := ⟨grown_cell hg h.1 hne, grown_free hg h.1 h.2 hne⟩
/-- In the midst of Made: the area's own block B, its box O. -/
def Mk (w : World) (O B : Nat) (wr : World) : Prop :=
  (∃ L, Globe.validL L = true ∧ RowsAt wr B L) ∧ wr.cell? ⟨O, 0, none⟩ = some (.slice (some ⟨B, 0, none⟩) 24 24) ∧ BoxAt wr w.heap.size 0 (.slice none 0 0) ∧ Ext w wr
theorem Mk.ext {w w1 w2 : World} {O B : Nat} (h : Mk w O B w1) (hE : Ext w1 w2) : Mk w O B w2 :=
  ⟨by obtain ⟨L, hv, hr⟩ := h.1; exact ⟨L, hv, hr.ext hE⟩, hE.cell h.2.1, BoxAt.ext hE h.2.2.1, h.2.2.2.trans hE⟩

end Go.Proofs.YtdjjkhefdalokaaDoor

/- Rows of one's own (slices that are appended to), as worlds grow. -/
namespace Go.Proofs.YtdjjkhefdalokaaDoor
open Go.RowKit

theorem Ext.grownNone {w w' : World} (h : Ext w w') : w.grownBy w' none := ⟨h.os, h.tape, h.output, Below.size h, fun k hk _ => Below.block h k hk⟩
theorem own_ext {w w' : World} {base : Nat} {e : TypeId} {size : Nat} {v : Value} {n : Nat} {xs : List Value} (h : w.ownsRow base e size v n xs) (hE : Ext w w') : w'.ownsRow base e size v n xs :=
  h.kept hE.grownNone (by cases v.ownBlock <;> simp)
/-- What lies below a slice's own base is as it was. -/
theorem Ext.own {w0 w w' : World} {e : TypeId} {size : Nat} {v : Value} {n : Nat} {xs : List Value} (h : Ext w0 w) (hr : w.ownsRow w0.heap.size e size v n xs) (hg : w.grownBy w' v.ownBlock) : Ext w0 w' :=
  Below.grown h hg h.size (fun k e => (hr.lt k e).1)


theorem VA.grownR {w w' : World} {r : Option Nat} {b o : Nat} {l : List Int} (h : VA w b o l) (hg : w.grownBy w' r) (hne : r ≠ some b) : VA w' b o l := ⟨fun i hi => hg.cell (h.1 i hi) (fun e => hne e.symm), h.2⟩
theorem BoxAt.grownR {w w' : World} {r : Option Nat} {b o : Nat} {v : Value} (h : BoxAt w b o v) (hg : w.grownBy w' r) (hne : r ≠ some b) : BoxAt w' b o v :=
  ⟨hg.cell h.1 (fun e => hne e.symm), (World.frozen?_of_block (hg.block b (World.block_lt_of_cell? w _ h.1) (fun e => hne e.symm))).trans h.2⟩
theorem Ext.own' {w0 w w' : World} {base : Nat} {e : TypeId} {size : Nat} {v : Value} {n : Nat} {xs : List Value} (h : Ext w0 w) (hr : w.ownsRow base e size v n xs) (hb : w0.heap.size ≤ base) (hg : w.grownBy w' v.ownBlock) : Ext w0 w' :=
  Below.grown h hg h.size (fun k e => Nat.le_trans hb (hr.lt k e).1)

end Go.Proofs.YtdjjkhefdalokaaDoor

/- A range over a function whose yields hand on memory: the round may lean on a fact Φ of what it is handed (a list that has just been laid, say). The iterator shows Φ at each of its calls of yield. -/
namespace Go.Proofs.YtdjjkhefdalokaaDoor
open Go.RowKit

/-- The loop's record. -/
def recOf (a : Act) (ps : Array Tmp) (assign body : Code) (fn : FuncId) (D : Nat) (st : LoopState) (pe : Option Code) : Loop := { state := st, pending := pe, fn, tmps := a.tmps, params := ps, assign, body, defers := D }

/-- Leaving with the marks of several such loops: each block for deferred calls is taken over, and is empty. -/
theorem leaves_marks {F : Fence} {n : Nat} {P : Program} {fn : Func} {tmps : Array Value} {R : Ending → World → Prop} (n₀ : Nat) (Pw : World → Prop)
    (hP : ∀ D W, n₀ ≤ D → Pw W → W.heap[D]? = some (.deferred (some [])) → Pw (W.putObj D (.deferred none))) (hend : ∀ W, Pw W → LeavesIn F n P fn tmps R [] .returning W) :
    ∀ (Ds : List Nat) (W : World), Ds.Nodup → (∀ D ∈ Ds, n₀ ≤ D ∧ W.heap[D]? = some (.deferred (some []))) → Pw W → LeavesInM F n P fn tmps R (Ds.map fun D => { target := .collected D, args := #[] }) .returning W
  | [], W, _, _, h => hend W h
  | D :: r, W, hn, hd, h => by
    obtain ⟨hD, hn'⟩ := List.nodup_cons.1 hn
    obtain ⟨h0, h1⟩ := hd D (by simp)
    refine ⟨by simp, .inl ⟨D, _, rfl, run_takeDeferred h1, ?_⟩⟩
    refine leaves_marks n₀ Pw hP hend r _ hn' (fun D' hD' => ?_) (hP D W h0 h h1)
    obtain ⟨q0, q1⟩ := hd D' (by simp [hD'])
    exact ⟨q0, (World.putObj_heap_other (fun e => hD (by rw [← e]; exact hD'))).trans q1⟩

end Go.Proofs.YtdjjkhefdalokaaDoor

/- Lists of elements in memory: lists of one's own that are appended to, and lists that came from anywhere, over any way to read an element's cells. -/
namespace Go.Proofs.YtdjjkhefdalokaaDoor
open Go.RowKit

/-- A way to read an element's cells: 'rel w c x F': in the world w the cells c read as x; F: the blocks that it looks into. -/
structure Rep (α : Type) where
  rel : World → List Value → α → List Nat → Prop
  keep : ∀ {w w' : World} {c : List Value} {x : α} {F : List Nat}, rel w c x F → (∀ b ∈ F, ∀ o u, w.cell? ⟨b, o, none⟩ = some u → w'.cell? ⟨b, o, none⟩ = some u) → rel w' c x F
  lt : ∀ {w : World} {c : List Value} {x : α} {F : List Nat}, rel w c x F → ∀ b ∈ F, b < w.heap.size
theorem Rep.ext {α : Type} (R : Rep α) {w w' : World} {c : List Value} {x : α} {F : List Nat} (h : R.rel w c x F) (hE : Ext w w') : R.rel w' c x F := R.keep h fun _ _ _ _ hu => hE.cell hu
/-- A list of one's own: it begins nowhere, or at the head of a row of one's own. -/
def OwnL {α : Type} (R : Rep α) (n₀ : Nat) (e : TypeId) (size : Nat) (v : Value) (w : World) (l : List α) : Prop :=
  ∃ cs : List (List Value), cs.length = l.length ∧ (∀ c ∈ cs, c.length = size) ∧ w.ownsRow n₀ e size v l.length cs.flatten ∧
    ∀ (j : Nat) x c, l[j]? = some x → cs[j]? = some c → ∃ F, R.rel w c x F ∧ ∀ b ∈ F, v.ownBlock ≠ some b
/-- Behind it what lies below n₀ is as it was. -/
structure Grew (n₀ : Nat) (w w' : World) : Prop where
  size : w.heap.size ≤ w'.heap.size
  ext : ∀ U, Ext U w → U.heap.size ≤ n₀ → Ext U w'
theorem OwnL.nil {α : Type} (R : Rep α) (n₀ : Nat) (e : TypeId) (size : Nat) (w : World) : OwnL R n₀ e size (.slice none 0 0) w [] := ⟨[], rfl, (fun c hc => by cases hc), World.ownsRow_nil w n₀ e size, (fun j x c hx => by simp at hx)⟩
theorem OwnL.ext {α : Type} {R : Rep α} {n₀ : Nat} {e : TypeId} {size : Nat} {v : Value} {w w' : World} {l : List α} (h : OwnL R n₀ e size v w l) (hE : Ext w w') : OwnL R n₀ e size v w' l := by
  obtain ⟨cs, h1, h2, h3, h4⟩ := h
  exact ⟨cs, h1, h2, own_ext h3 hE, fun j x c hx hc => by obtain ⟨F, q1, q2⟩ := h4 j x c hx hc; exact ⟨F, R.ext q1 hE, q2⟩⟩
theorem OwnL.lt {α : Type} {R : Rep α} {n₀ : Nat} {e : TypeId} {size : Nat} {v : Value} {w : World} {l : List α} (h : OwnL R n₀ e size v w l) : ∀ b, v.ownBlock = some b → b < w.heap.size := by
  obtain ⟨cs, h1, h2, h3, h4⟩ := h
  exact fun b hb => (h3.lt b hb).2
/-- What the program says of a slice type and its elements. -/
structure ElemT (P : Program) (t e : TypeId) (z : Value) (size bytes : Nat) : Prop where
  under : P.underlying t = some (.slice e)
  info : (P.info? e).map (fun i => (i.zero, i.size, i.bytes)) = some (some z, size, bytes)
  zs : z.cells.size = size
  pos : 0 < size
theorem flatten_get {size : Nat} : ∀ {cs : List (List Value)}, (∀ c ∈ cs, c.length = size) → ∀ (j : Nat) {c : List Value}, cs[j]? = some c → ∀ i, i < size → cs.flatten[j * size + i]? = c[i]?
  | [], _, j, c, h, _, _ => by simp at h
  | d :: r, h, 0, c, hc, i, hi => by
    simp at hc; subst hc
    rw [List.flatten_cons, Nat.zero_mul, Nat.zero_add, List.getElem?_append_left (by rw [h d (by simp)]; exact hi)]
  | d :: r, h, j + 1, c, hc, i, hi => by
    have hd := h d (by simp)
    rw [List.flatten_cons, List.getElem?_append_right (by rw [hd, Nat.add_mul]; omega), hd, show (j + 1) * size + i - size = j * size + i by rw [Nat.add_mul]; omega]
    exact flatten_get (fun d hd => h d (List.mem_cons_of_mem _ hd)) j (by simpa using hc) i hi
theorem cells2 {w : World} {O : Nat} {x y : Value} (h : w.cell? ⟨O, 0, none⟩ = some x) (h2 : w.cell? ⟨O, 1, none⟩ = some y) : ∀ j u, [x, y][j]? = some u → w.cell? ⟨O, j, none⟩ = some u
  | 0, u, hu => by simp at hu; subst hu; exact h
  | 1, u, hu => by simp at hu; subst hu; exact h2
  | _ + 2, u, hu => by simp at hu
theorem OwnL.base {α : Type} {R : Rep α} {n₀ : Nat} {e : TypeId} {size : Nat} {v : Value} {w : World} {l : List α} (h : OwnL R n₀ e size v w l) : ∀ b, v.ownBlock = some b → n₀ ≤ b := by
  obtain ⟨cs, h1, h2, h3, h4⟩ := h
  exact fun b hb => (h3.lt b hb).1
/-- An empty slice with no room, in a block of its own. -/
theorem sn_newS0 {P : Program} {ev : Operand → Value} {oi : Oper} {w : World} {N : Value → World → Prop} {t : TypeId} (h1 : (execOp ev oi).run P w = .ok (.value (.slice (some ⟨w.heap.size, 0, none⟩) 0 0)) (w.alloc (.cells #[] t)))
    (h : ∀ O X, w.heap.size = O → X.heap.size = O + 1 → Ext w X → X.heap[O]? = some (.cells #[] t (0, 0)) → N (.slice (some ⟨O, 0, none⟩) 0 0) X) : StepN P ev oi w N :=
  sn_eff h1 (h _ _ rfl (by simp) (Ext.alloc (Ext.refl _) _) (heap_alloc_new w _))
theorem own_empty {w : World} {base O size : Nat} {e : TypeId} (h : w.heap[O]? = some (.cells #[] e (0, 0))) (hb : base ≤ O) : w.ownsRow base e size (.slice (some ⟨O, 0, none⟩) 0 0) 0 [] :=
  ⟨by simp, .inr ⟨O, 0, #[], rfl, hb, h, Nat.le_refl _, by unfold maxLen; omega, by simp, by simp⟩⟩
theorem OwnL.empty {α : Type} (R : Rep α) {n₀ O : Nat} {e : TypeId} {size : Nat} {w : World} (h : w.heap[O]? = some (.cells #[] e (0, 0))) (hb : n₀ ≤ O) : OwnL R n₀ e size (.slice (some ⟨O, 0, none⟩) 0 0) w [] :=
  ⟨[], rfl, (fun c hc => by cases hc), own_empty h hb, (fun j x c hx => by simp at hx)⟩
theorem ex_append {P : Program} {ev : Operand → Value} {o : Oper} {w : World} {x y : Operand} {t1 t2 : TypeId} {v s v' : Value} {w' : World} (hop : o.op = .call { callee := .builtin .append, args := #[x, y], argTypes := #[t1, t2] }) (hx : ev x = v) (hy : ev y = s)
    (h : (Builtin.append_ #[t1, t2] o.type #[v, s]).run P w = .ok v' w') : (execOp ev o).run P w = .ok (.value v') w' := by
  simp [execOp, hop, resolve, invoke, builtin, hx, hy, h, Result.andThen]

end Go.Proofs.YtdjjkhefdalokaaDoor

/- The walk over a list of what has been written, within the rounds of a range over a function, and in functions that hold such loops or that yield. -/
namespace Go.Proofs.YtdjjkhefdalokaaDoor
open Go.RowKit

/-- The fence of a function's activation (none), or of a round of the loop l. -/
def FR (r : Option Nat) : Fence := { Fence.wide with round := r }
def marks (Ds : List Nat) : List Deferred := Ds.map fun D => { target := .collected D, args := #[] }

section
variable {P : Program} {n : Nat} {L : List Value} {ws : List (Nat × Value)} {w : World} {Q : Exit → Act → World → Prop} {r : Option Nat} {m : Nat} {Ds : List Nat}

theorem calls_fr {f : FuncId} {args : Array Value} {R : Ending → World → Prop} (h : Calls P f args w R) : CallsIn (FR r) m P f args w R := (callsIn_wide (n := m)).2 h
theorem semAt_of {ev : Operand → Value} {o : Oper} {nx : Next} {w' : World} (h : (execOp ev o).run P w = .ok nx w') (hd : ∀ d, nx ≠ .defer d) : (o.semAt r ev).run P w = .ok nx w' := by
  rw [Oper.semAt_eq]
  · exact h
  · intro c hc
    simp only [execOp, hc, Sem.run_bind] at h
    cases e : (resolve ev c o.type).run P w with
    | ok d w1 => rw [e] at h; simp [Result.andThen] at h; exact hd _ h.1.symm
    | halt x w1 => rw [e] at h; simp [Result.andThen] at h
theorem StepN.wpI {ev : Operand → Value} {oi : Oper} {N : Value → World → Prop} {a : Act} {K : Act → World → Prop} (h : StepN P ev oi w N) (he : a.eval = ev) (hK : ∀ v w', N v w' → K (a.put oi.dst v) w') : Oper.wpIn (FR r) m P oi a w K Q := by
  refine ⟨fun _ _ => trivial, ?_⟩
  rw [he]
  show oi.uponIn (FR r) m P a K Q ((oi.semAt r ev).run P w)
  rcases h with ⟨v, w', h1, h3⟩ | ⟨w', h1, h3⟩ | ⟨f, args, h1, h2⟩
  · rw [semAt_of h1 (by simp), Oper.uponIn_value]; exact hK v w' h3
  · rw [semAt_of h1 (by simp), Oper.uponIn_skip]; exact hK undef w' h3
  · rw [semAt_of h1 (by simp), Oper.uponIn_enter]
    exact ⟨fun h => by simp [FR, Fence.wide] at h, calls_fr (h2.mono fun e w' ⟨v, he, hn⟩ => by subst he; exact hK v w' hn)⟩
/-- A call of yield. -/
def StepY (P : Program) (m : Nat) (ev : Operand → Value) (oi : Oper) (w : World) (N : Value → World → Prop) : Prop :=
  ∃ l fn tmps assign body, (execOp ev oi).run P w = .ok (.round l fn tmps assign body) w ∧ RoundIn Fence.wide (m - 1) P l fn tmps assign body w fun e w' => ∃ v, e = .returned v ∧ N v w'
theorem StepY.wpI {ev : Operand → Value} {oi : Oper} {N : Value → World → Prop} {a : Act} {K : Act → World → Prop} (h : StepY P m ev oi w N) (he : a.eval = ev) (hK : ∀ v w', N v w' → K (a.put oi.dst v) w') : Oper.wpIn (FR r) m P oi a w K Q := by
  refine ⟨fun _ _ => trivial, ?_⟩
  rw [he]
  show oi.uponIn (FR r) m P a K Q ((oi.semAt r ev).run P w)
  obtain ⟨l, fn, tmps, assign, body, h1, h2⟩ := h
  rw [semAt_of h1 (by simp), Oper.uponIn_round]
  exact ⟨fun h => by simp [FR, Fence.wide] at h, (RoundIn.mono h2 fun e w' ⟨v, he, hn⟩ => by subst he; exact hK v w' hn : RoundIn Fence.wide (m - 1) P l fn tmps assign body w _)⟩
theorem sy_yield {ev : Operand → Value} {oi : Oper} {x : Operand} {ys : Array Operand} {ts : Array TypeId} {l : Nat} {args : Array Value} {N : Value → World → Prop} (hop : oi.op = .call { callee := .value x, args := ys, argTypes := ts }) (hx : ev x = .func (.yield l) #[] #[]) (hy : ys.map ev = args)
    (h : YieldAt Fence.wide (m - 1) P l args w fun e w' => ∃ v, e = .returned v ∧ N v w') : StepY P m ev oi w N := by
  obtain ⟨fn, tmps, assign, body, h1, h2⟩ := h
  refine ⟨l, fn, tmps, assign, body, ?_, h2⟩
  simp only [execOp, hop, resolve, hx, hy, Sem.run_bind]
  simp [Result.andThen, invoke, h1, Deferred.ofValue]

structure ICW (P : Program) (r : Option Nat) (m : Nat) (Ds : List Nat) (c : Code) (Q : Exit → Act → World → Prop) (n : Nat) (L : List Value) (ws : List (Nat × Value)) (w : World) : Prop where
  out : Bd n L ws → c.wpIn (FR r) m P Q ⟨(setAll L ws).toArray, marks Ds⟩ w
structure IQW (Ds : List Nat) (Q : Exit → Act → World → Prop) (e : Exit) (n : Nat) (L : List Value) (ws : List (Nat × Value)) (w : World) : Prop where
  out : Bd n L ws → Q e ⟨(setAll L ws).toArray, marks Ds⟩ w
structure IPL (P : Program) (r : Option Nat) (m : Nat) (Ds : List Nat) (ops rest : List Oper) (Q : Exit → Act → World → Prop) (n : Nat) (L : List Value) (ws : List (Nat × Value)) (w : World) : Prop where
  out : Bd n L ws → wpListIn (FR r) m P ops.toArray Q rest ⟨(setAll L ws).toArray, marks Ds⟩ w

/-- A function's end, with the marks of its loops. -/
def IBody (m : Nat) (P : Program) (fn : Func) (R : Ending → World → Prop) : Exit → Act → World → Prop
  | .normal, a, w => bodyPostM Fence.wide m P fn R .normal a w
  | .ret, a, w => bodyPostM Fence.wide m P fn R .ret a w
  | _, _, _ => False
theorem icalls {f : FuncId} {fn : Func} {c : Code} {av : List Value} {R : Ending → World → Prop} (n : Nat) (ws : List (Nat × Value)) (hf : P.funcs[f]? = some fn) (hb : fn.body = some c) (hn : fn.ntmps = n)
    (he : av ++ List.replicate (n - av.length) undef = setAll (List.replicate n undef) ws) (hl : ws.all (fun p => Nat.blt p.1 n) = true)
    (h : ∀ L m, ICW P none m [] c (IBody m P fn R) n L ws w) : CallsIn Fence.wide m P f av.toArray w R := by
  refine callsIn_of_wp_marks hf hb trivial ?_ rfl
  have e : (av.toArray ++ Array.replicate (fn.ntmps - av.toArray.size) undef : Array Value) = (setAll (List.replicate n undef) ws).toArray := by
    rw [hn, ← he]; simp
  rw [e]
  refine Go.wpIn_mono ((h _ m).out ⟨List.length_replicate, fun p hp => Nat.blt_eq.mp (List.all_eq_true.1 hl p hp)⟩) fun e a' w' q => ?_
  cases e with
  | normal => exact q
  | ret => exact q
  | _ => exact q.elim
theorem icalls_cw {f : FuncId} {fn : Func} {c : Code} {av : List Value} {R : Ending → World → Prop} (n : Nat) (ws : List (Nat × Value)) (hf : P.funcs[f]? = some fn) (hb : fn.body = some c) (hn : fn.ntmps = n)
    (he : av ++ List.replicate (n - av.length) undef = setAll (List.replicate n undef) ws) (hl : ws.all (fun p => Nat.blt p.1 n) = true)
    (h : ∀ L m, ICW P none m [] c (IBody m P fn R) n L ws w) : Calls P f av.toArray w R := (callsIn_wide (n := 0)).1 (icalls n ws hf hb hn he hl h)

theorem icw_seq {x y : Code} (h : ICW P r m Ds x (Exit.then (y.wpIn (FR r) m P Q) Q) n L ws w) : ICW P r m Ds (.seq x y) Q n L ws w := ⟨fun b => wpIn_seq (h.out b)⟩
theorem icw_block {id : Nat} {c : Code} (h : ICW P r m Ds c (Exit.inBlock id Q) n L ws w) : ICW P r m Ds (.block id c) Q n L ws w := ⟨fun b => wpIn_block (h.out b)⟩
theorem icw_skip (h : IQW Ds Q .normal n L ws w) : ICW P r m Ds .skip Q n L ws w := ⟨fun b => wpIn_skip (h.out b)⟩
theorem icw_exit {id : Nat} (h : IQW Ds Q (.exit id) n L ws w) : ICW P r m Ds (.exit id) Q n L ws w := ⟨fun b => wpIn_exit (h.out b)⟩
theorem icw_ret (h : IQW Ds Q .ret n L ws w) : ICW P r m Ds .ret Q n L ws w := ⟨fun b => wpIn_ret (h.out b)⟩
theorem icw_plain {id : Nat} {l : List Oper} (h : IPL P r m Ds l l Q n L ws w) : ICW P r m Ds (.region id l.toArray false) Q n L ws w := ⟨fun b => wpIn_region_lit (h.out b)⟩
theorem icw_t {c : Operand} {x y : Code} (hc : evalW L ws c = .bool true) (h : ICW P r m Ds x Q n L ws w) : ICW P r m Ds (.cond c x y) Q n L ws w := ⟨fun b => wpIn_cond_true (by rw [eval_W b.lt]; exact hc) (h.out b)⟩
theorem icw_f {c : Operand} {x y : Code} (hc : evalW L ws c = .bool false) (h : ICW P r m Ds y Q n L ws w) : ICW P r m Ds (.cond c x y) Q n L ws w := ⟨fun b => wpIn_cond_false (by rw [eval_W b.lt]; exact hc) (h.out b)⟩

theorem iqw_then {y : Code} (h : ICW P r m Ds y Q n L ws w) : IQW Ds (Exit.then (y.wpIn (FR r) m P Q) Q) .normal n L ws w := ⟨h.out⟩
theorem iqw_then_ret {K : Act → World → Prop} (h : IQW Ds Q .ret n L ws w) : IQW Ds (Exit.then K Q) .ret n L ws w := ⟨h.out⟩
theorem iqw_then_exit {K : Act → World → Prop} {id : Nat} (h : IQW Ds Q (.exit id) n L ws w) : IQW Ds (Exit.then K Q) (.exit id) n L ws w := ⟨h.out⟩
theorem iqw_block {id : Nat} (h : IQW Ds Q .normal n L ws w) : IQW Ds (Exit.inBlock id Q) .normal n L ws w := ⟨h.out⟩
theorem iqw_block_ret {id : Nat} (h : IQW Ds Q .ret n L ws w) : IQW Ds (Exit.inBlock id Q) .ret n L ws w := ⟨h.out⟩
theorem iqw_block_out {id : Nat} (h : IQW Ds Q .normal n L ws w) : IQW Ds (Exit.inBlock id Q) (.exit id) n L ws w := ⟨fun b => by
  show (if id = id then _ else _)
  rw [if_pos rfl]; exact h.out b⟩
theorem ipl_nil {ops : List Oper} (h : IQW Ds Q .normal n L ws w) : IPL P r m Ds ops [] Q n L ws w := ⟨h.out⟩
theorem wantP_specD {ops : List Oper} {o : Oper} {b : Bool} (h : Bd n L ws) (hok : ∀ x ∈ ops, ∀ d, x.dst = some d → d < n) (hw : wantP ops L ws o.guard = b) :
    Region.wanted o (yielded ops.toArray (⟨(setAll L ws).toArray, marks Ds⟩ : Act).tmps) = b := wantP_spec h hok hw
theorem ipl_take {ops rest : List Oper} {o : Oper} {d : Nat} (v : Value) (hdst : o.dst = some d) (hok : dstOk n ops = true) (hd : Nat.blt d n = true) (hw : wantP ops L ws o.guard = true)
    (hr : (execOp (evalW L ws) o).run P w = .ok (.value v) w) (h : IPL P r m Ds ops rest Q n L ((d, v) :: ws) w) : IPL P r m Ds ops (o :: rest) Q n L ws w := ⟨fun b => by
  refine wpListIn_step fun K hK => ?_
  rw [if_pos (wantP_specD b (dstOk_spec hok) hw)]
  refine StepN.wpI (N := fun v' w' => v' = v ∧ w' = w) (.inl ⟨v, w, hr, rfl, rfl⟩) (eval_W b.lt _) fun v' w' ⟨e1, e2⟩ => hK _ _ ?_
  subst e1 e2
  rw [put_W, hdst]; exact h.out (b.put hd)⟩
theorem ipl_step {ops rest : List Oper} {o : Oper} {d : Nat} (hdst : o.dst = some d) (hok : dstOk n ops = true) (hd : Nat.blt d n = true) (hw : wantP ops L ws o.guard = true)
    (h : StepN P (evalW L ws) o w fun v w' => IPL P r m Ds ops rest Q n L ((d, v) :: ws) w') : IPL P r m Ds ops (o :: rest) Q n L ws w := ⟨fun b => by
  refine wpListIn_step fun K hK => ?_
  rw [if_pos (wantP_specD b (dstOk_spec hok) hw)]
  exact h.wpI (eval_W b.lt _) fun v w' hn => hK _ _ (by rw [put_W, hdst]; exact hn.out (b.put hd))⟩
theorem ipl_yield {ops rest : List Oper} {o : Oper} {d : Nat} (hdst : o.dst = some d) (hok : dstOk n ops = true) (hd : Nat.blt d n = true) (hw : wantP ops L ws o.guard = true)
    (h : StepY P m (evalW L ws) o w fun v w' => IPL P r m Ds ops rest Q n L ((d, v) :: ws) w') : IPL P r m Ds ops (o :: rest) Q n L ws w := ⟨fun b => by
  refine wpListIn_step fun K hK => ?_
  rw [if_pos (wantP_specD b (dstOk_spec hok) hw)]
  exact h.wpI (eval_W b.lt _) fun v w' hn => hK _ _ (by rw [put_W, hdst]; exact hn.out (b.put hd))⟩
theorem ipl_put {ops rest : List Oper} {o : Oper} (hdst : o.dst = none) (hok : dstOk n ops = true) (hw : wantP ops L ws o.guard = true)
    (h : StepN P (evalW L ws) o w fun _ w' => IPL P r m Ds ops rest Q n L ws w') : IPL P r m Ds ops (o :: rest) Q n L ws w := ⟨fun b => by
  refine wpListIn_step fun K hK => ?_
  rw [if_pos (wantP_specD b (dstOk_spec hok) hw)]
  exact h.wpI (eval_W b.lt _) fun v w' hn => hK _ _ (by rw [put_W, hdst]; exact hn.out b)⟩
theorem icw_clean {c : Code} (ks : List Nat) {ws' : List (Nat × Value)} (hp : pickW ws ks = some ws') (h : ∀ L', ICW P r m Ds c Q n L' ws' w) : ICW P r m Ds c Q n L ws w := ⟨fun b => by
  have := (h (setAll L ws)).out (pick_bd hp b)
  rwa [pick_set hp] at this⟩
def ILoopK (n : Nat) (Ds : List Nat) (Inv : List (Nat × Value) → World → Nat → Prop) (m : Nat) : Act → World → Prop := fun a w => ∃ L' ws' m', m' < m ∧ Bd n L' ws' ∧ a = ⟨(setAll L' ws').toArray, marks Ds⟩ ∧ Inv ws' w m'
open Classical in
theorem icw_loop {c : Code} (ks : List Nat) (Inv : List (Nat × Value) → World → Nat → Prop) {ws0 : List (Nat × Value)} (hp : pickW ws ks = some ws0) (m0 : Nat) (h0 : Inv ws0 w m0)
    (round : ∀ k L' ws' w', Inv ws' w' k → ICW P r m Ds c (Exit.then (ILoopK n Ds Inv k) Q) n L' ws' w') : ICW P r m Ds (.loop c) Q n L ws w := ⟨fun b => by
  let J : Nat → Act → World → Prop := fun k a w => ∃ L' ws', Bd n L' ws' ∧ a = ⟨(setAll L' ws').toArray, marks Ds⟩ ∧ Inv ws' w k
  let μ : Act → World → Nat := fun a w => if h : ∃ k, J k a w then Classical.choose (least h) else 0
  have hμ : ∀ a w (h : ∃ k, J k a w), J (μ a w) a w ∧ ∀ k, J k a w → μ a w ≤ k := fun a w h => by
    have e : μ a w = Classical.choose (least h) := dif_pos h
    rw [e]; exact Classical.choose_spec (least h)
  refine wpIn_loop (fun a w => ∃ k, J k a w) μ ⟨m0, setAll L ws, ws0, pick_bd hp b, by rw [pick_set hp], h0⟩ fun a w h => ?_
  obtain ⟨⟨L', ws', hb, ha, hI⟩, _⟩ := hμ a w h
  have := (round (μ a w) L' ws' w hI).out hb
  rw [← ha] at this
  refine Go.wpIn_mono this (fun e a' w' q => ?_)
  cases e with
  | normal =>
    obtain ⟨L2, ws2, m2, hlt, hb2, ha2, hI2⟩ := q
    have hJ : J m2 a' w' := ⟨L2, ws2, hb2, ha2, hI2⟩
    exact ⟨⟨m2, hJ⟩, Nat.lt_of_le_of_lt ((hμ a' w' ⟨m2, hJ⟩).2 m2 hJ) hlt⟩
  | _ => exact q⟩
theorem iqw_round {Inv : List (Nat × Value) → World → Nat → Prop} {k : Nat} (ks : List Nat) {ws' : List (Nat × Value)} (hp : pickW ws ks = some ws') (m' : Nat) (hlt : m' < k) (h : Inv ws' w m') : IQW Ds (Exit.then (ILoopK n Ds Inv k) Q) .normal n L ws w := ⟨fun b =>
  ⟨setAll L ws, ws', m', hlt, pick_bd hp b, by rw [pick_set hp], h⟩⟩
end

/-! The loops' own book-keeping turns objects that are no cells, at n₀ or behind it. -/
structure Mv (n₀ : Nat) (A B : World) : Prop where
  os : B.os = A.os
  tape : B.tape = A.tape
  output : B.output = A.output
  size : A.heap.size ≤ B.heap.size
  cells : ∀ (k : Nat) (o : Obj), A.heap[k]? = some o → o.isCells = true → B.heap[k]? = some o
  below : ∀ (k : Nat), k < n₀ → k < A.heap.size → B.heap[k]? = A.heap[k]?
theorem Mv.refl (n₀ : Nat) (A : World) : Mv n₀ A A := ⟨rfl, rfl, rfl, Nat.le_refl _, fun _ _ h _ => h, fun _ _ _ => rfl⟩
theorem Mv.trans {n₀ : Nat} {A B C : World} (h : Mv n₀ A B) (k : Mv n₀ B C) : Mv n₀ A C :=
  ⟨k.os.trans h.os, k.tape.trans h.tape, k.output.trans h.output, Nat.le_trans h.size k.size, fun i o hi ho => k.cells i o (h.cells i o hi ho) ho, fun i hi hl => (k.below i hi (Nat.lt_of_lt_of_le hl h.size)).trans (h.below i hi hl)⟩
theorem Mv.of_ext {n₀ : Nat} {A B : World} (h : Ext A B) : Mv n₀ A B :=
  ⟨h.os, h.tape, h.output, h.size, fun k _ hk _ => (h.block k (Array.getElem?_eq_some_iff.1 hk).1).trans hk, fun k _ hk => h.block k hk⟩
theorem Mv.putObj {n₀ : Nat} {A : World} {k : Nat} {o : Obj} (o' : Obj) (hk : n₀ ≤ k) (ho : A.heap[k]? = some o) (hc : o.isCells = false) : Mv n₀ A (A.putObj k o') :=
  ⟨rfl, rfl, rfl, by simp, fun j u hj hu => (World.putObj_heap_other (fun e => by subst e; rw [ho] at hj; cases hj; rw [hc] at hu; cases hu)).trans hj, fun j hj _ => World.putObj_heap_other (by omega)⟩
theorem Mv.ext {n₀ : Nat} {A B U : World} (h : Mv n₀ A B) (hU : Ext U A) (hn : U.heap.size ≤ n₀) : Ext U B :=
  ⟨h.os.trans hU.os, h.tape.trans hU.tape, h.output.trans hU.output, Nat.le_trans hU.size h.size, fun k hk => (h.below k (Nat.lt_of_lt_of_le hk hn) (Nat.lt_of_lt_of_le hk hU.size)).trans (hU.block k hk)⟩
theorem Mv.cell {n₀ : Nat} {A B : World} (h : Mv n₀ A B) {p : Addr} {v : Value} (hv : A.cell? p = some v) : B.cell? p = some v := by
  obtain ⟨o, ho, hc⟩ := cells_of_cell hv
  exact (World.cell?_of_block ((h.cells _ o ho hc).trans ho.symm)).trans hv
theorem Mv.froz {n₀ : Nat} {A B : World} (h : Mv n₀ A B) {p : Addr} {v : Value} (hv : A.cell? p = some v) : B.frozen? p = A.frozen? p := by
  obtain ⟨o, ho, hc⟩ := cells_of_cell hv
  exact World.frozen?_of_block ((h.cells _ o ho hc).trans ho.symm)
theorem Mv.box {n₀ : Nat} {A B : World} (h : Mv n₀ A B) {b o : Nat} {v : Value} (hv : BoxAt A b o v) : BoxAt B b o v := ⟨h.cell hv.1, by rw [h.froz hv.1]; exact hv.2⟩
theorem Mv.va {n₀ : Nat} {A B : World} (h : Mv n₀ A B) {b o : Nat} {l : List Int} (hv : VA A b o l) : VA B b o l := ⟨fun i hi => h.cell (hv.1 i hi), hv.2⟩
theorem Mv.rows {n₀ : Nat} {A B : World} (h : Mv n₀ A B) {b : Nat} {l : List Int} (hv : RowsAt A b l) : RowsAt B b l := ⟨hv.1, fun i hi => h.cell (hv.cell hi), fun i hi => by rw [h.froz (hv.cell hi)]; exact hv.free hi⟩
theorem Mv.ints {n₀ : Nat} {A B : World} (h : Mv n₀ A B) {a : Option Addr} {l : List Int} (hv : IntsAt A a l) : IntsAt B a l := by
  rcases hv with q | ⟨b, off, rfl, q⟩
  · exact .inl q
  · exact .inr ⟨b, off, rfl, fun i hi => h.cell (q i hi)⟩
theorem Mv.own {α : Type} {R : Rep α} {n₀ n₁ : Nat} {e : TypeId} {size : Nat} {v : Value} {A B : World} {l : List α} (h : Mv n₁ A B) (ho : OwnL R n₀ e size v A l) : OwnL R n₀ e size v B l := by
  obtain ⟨cs, h1, h2, h3, h4⟩ := ho
  refine ⟨cs, h1, h2, ⟨h3.1, ?_⟩, fun j x c hx hc => ?_⟩
  · rcases h3.2 with q | ⟨g, cap, cur, q, hb, hcur, rest⟩
    · exact .inl q
    · exact .inr ⟨g, cap, cur, q, hb, h.cells _ _ hcur rfl, rest⟩
  · obtain ⟨F, q1, q2⟩ := h4 j x c hx hc
    exact ⟨F, R.keep q1 (fun b _ o u hu => h.cell hu), q2⟩

/-! What a round keeps. -/
/-- Cells keep their content, but for the blocks of X. -/
structure KeptX (X : Nat → Prop) (A B : World) : Prop where
  size : A.heap.size ≤ B.heap.size
  cells : ∀ (k : Nat) (o : Obj), A.heap[k]? = some o → o.isCells = true → ¬ X k → B.heap[k]? = some o
theorem KeptX.trans {X : Nat → Prop} {A B C : World} (h : KeptX X A B) (k : KeptX X B C) : KeptX X A C := ⟨Nat.le_trans h.size k.size, fun i o hi ho hx => k.cells i o (h.cells i o hi ho hx) ho hx⟩
theorem KeptX.of_mv {X : Nat → Prop} {n₀ : Nat} {A B : World} (h : Mv n₀ A B) : KeptX X A B := ⟨h.size, fun k o hk ho _ => h.cells k o hk ho⟩
theorem KeptX.cell {X : Nat → Prop} {A B : World} (h : KeptX X A B) {b o : Nat} {v : Value} (hx : ¬ X b) (hv : A.cell? ⟨b, o, none⟩ = some v) : B.cell? ⟨b, o, none⟩ = some v := by
  obtain ⟨u, hu, hc⟩ := cells_of_cell hv
  exact (World.cell?_of_block ((h.cells _ u hu hc hx).trans hu.symm)).trans hv
theorem KeptX.box {X : Nat → Prop} {A B : World} (h : KeptX X A B) {b o : Nat} {v : Value} (hx : ¬ X b) (hv : BoxAt A b o v) : BoxAt B b o v := by
  obtain ⟨u, hu, hc⟩ := cells_of_cell hv.1
  exact ⟨h.cell hx hv.1, (World.frozen?_of_block ((h.cells _ u hu hc hx).trans hu.symm)).trans hv.2⟩
structure RK (n₀ : Nat) (X : Nat → Prop) (A B : World) : Prop where
  kept : KeptX X A B
  oth : KeepsFrom n₀ A B
theorem RK.refl (n₀ : Nat) (X : Nat → Prop) (A : World) : RK n₀ X A A := ⟨⟨Nat.le_refl _, fun _ _ h _ _ => h⟩, KeepsFrom.refl _ _⟩
theorem RK.ext {n₀ : Nat} {X : Nat → Prop} {A B C : World} (h : RK n₀ X A B) (e : Ext B C) : RK n₀ X A C :=
  ⟨h.kept.trans (KeptX.of_mv (n₀ := 0) (Mv.of_ext e)), h.oth.trans (e.others.from _)⟩
theorem RK.turn {n₀ : Nat} {X : Nat → Prop} {A B C : World} (h : RK n₀ X A B) {O : Nat} (t : Turns O B C) (hO : X O ∨ A.heap.size ≤ O) : RK n₀ X A C := by
  refine ⟨⟨by rw [t.size]; exact h.kept.size, fun k o hk ho hx => ?_⟩, ⟨by rw [t.size]; exact h.oth.size, fun k o hk hi ho => ?_⟩⟩
  · have hne : k ≠ O := fun e => by
      subst e
      rcases hO with q | q
      · exact hx q
      · have := (Array.getElem?_eq_some_iff.1 hk).1; omega
    rw [t.heap' k hne]; exact h.kept.cells k o hk ho hx
  · have h2 := h.oth.same k o hk hi ho
    by_cases e : k = O
    · subst e; exact t.oth' o h2 ho
    · rw [t.heap' k e]; exact h2

/-! A range over a function that yields N times, in order. -/
def SeqN (P : Program) (g : Nat) (lb : Array Value) (N : Nat) (encs : Nat → List Value) (Φ : Nat → World → Prop) (X : Nat → Prop) (w : World) : Prop :=
  ∀ (l : Nat) (J Jx : Nat → World → Prop) (W : World), Ext w W → (∀ i A B, J i A → Ext A B → J i B) → (∀ i A B, Jx i A → Ext A B → Jx i B) →
    (∀ i W1 m, i < N → J i W1 → Φ i W1 → YieldAt Fence.wide m P l (encs i).toArray W1 fun e W' => (e = .returned (.bool true) ∧ J (i + 1) W' ∧ KeptX X W1 W') ∨ (e = .returned (.bool false) ∧ Jx i W' ∧ KeptX X W1 W')) →
    J 0 W → ∀ n, CallsIn Fence.wide n P g (#[.func (.yield l) #[] #[]] ++ lb) W fun e W' => (∃ v, e = .returned v) ∧ (J N W' ∨ ∃ i, i < N ∧ Jx i W')
/-- How a round may be left. -/
def RndQ (n₀ : Nat) (X : Nat → Prop) (Inv : Nat → World → Prop) (Ix : Code → Nat → World → Prop) (i : Nat) (W : World) : Exit → Act → World → Prop
  | .normal, _, W' => RK n₀ X W W' ∧ Inv (i + 1) W'
  | .ret, _, W' => RK n₀ X W W' ∧ Ix .ret i W'
  | .exit id, _, W' => RK n₀ X W W' ∧ Ix (.exit id) i W'
  | _, _, _ => False
/-- How the assignments to the loop's variables end. -/
def AsgQ (P : Program) (l k n₀ : Nat) (X : Nat → Prop) (body : Code) (Inv : Nat → World → Prop) (Ix : Code → Nat → World → Prop) (i : Nat) (W : World) : Exit → Act → World → Prop
  | .normal, a, w1 => RK n₀ X W w1 ∧ ∀ w2, Mv n₀ w1 w2 → body.wpIn (FR (some l)) k P (RndQ n₀ X Inv Ix i w2) a w2
  | _, _, _ => False
def zipW : List Nat → List Value → List (Nat × Value) → List (Nat × Value)
  | p :: ps, v :: vs, ws => zipW ps vs ((p, v) :: ws)
  | _, _, ws => ws
theorem zip_setL (L : List Value) : ∀ (ps : List Nat) (vs : List Value) (ws : List (Nat × Value)), (ps.zip vs).foldl (fun t (p, v) => t.setIfInBounds p v) (setAll L ws).toArray = (setAll L (zipW ps vs ws)).toArray
  | p :: ps, v :: vs, ws => by
    have ih := zip_setL L ps vs ((p, v) :: ws)
    rw [zipW, ← ih, List.zip_cons_cons, List.foldl_cons]
    simp [setAll]
  | [], vs, ws => by simp [zipW]
  | p :: ps, [], ws => by simp [zipW]
theorem zip_set (L : List Value) (ps : List Nat) (vs : List Value) (ws : List (Nat × Value)) : (ps.toArray.zip vs.toArray).foldl (fun t (p, v) => t.setIfInBounds p v) (setAll L ws).toArray = (setAll L (zipW ps vs ws)).toArray := by
  rw [← zip_setL, List.zip_toArray]
  exact List.foldl_toArray _ _ _
theorem zip_bd {n : Nat} {L : List Value} : ∀ {ps : List Nat} {vs : List Value} {ws : List (Nat × Value)}, Bd n L ws → ps.all (fun p => Nat.blt p n) = true → Bd n L (zipW ps vs ws)
  | p :: ps, v :: vs, ws, b, h => by
    simp only [List.all_cons, Bool.and_eq_true] at h
    exact zip_bd (ps := ps) (vs := vs) (b.put h.1) h.2
  | [], vs, ws, b, _ => b
  | p :: ps, [], ws, b, _ => b
section
variable {P : Program} {n : Nat} {L : List Value} {ws : List (Nat × Value)} {w : World} {Q : Exit → Act → World → Prop} {r : Option Nat} {m : Nat} {Ds : List Nat}
theorem icw_range {g : Operand} {ps : List Nat} {assign body : Code} {gf : Nat} {lb : Array Value} (hg : evalW L ws g = .func (.func gf) #[] lb) (eg : ∀ args w, (callFunc gf args).run P w = .ok (.enter gf args) w)
    {N : Nat} {encs : Nat → List Value} {Φ : Nat → World → Prop} {X : Nat → Prop} {w0 : World} (hseq : SeqN P gf lb N encs Φ X w0) (hb0 : Ext w0 w) (hps : ∀ i, (encs i).length = ps.length) (hpn : ps.all (fun p => Nat.blt p n) = true)
    (Inv : Nat → World → Prop) (Ix : Code → Nat → World → Prop) (hI : ∀ i A B, Inv i A → Mv w.heap.size A B → Inv i B) (hIx : ∀ c i A B, Ix c i A → Mv w.heap.size A B → Ix c i B) (h0 : Inv 0 w)
    (round : ∀ l k i W, i < N → Inv i W → Φ i W → ICW P (some l) k [] assign (AsgQ P l k w.heap.size X body Inv Ix i W) n L (zipW ps (encs i) ws) W)
    (done : ∀ D W, w.heap.size ≤ D → D < W.heap.size → Inv N W → W.heap[D]? = some (.deferred (some [])) → IQW (D :: Ds) Q .normal n L ws W)
    (stop : ∀ c D i W, w.heap.size ≤ D → D < W.heap.size → i < N → Ix c i W → W.heap[D]? = some (.deferred (some [])) → ICW P none m (D :: Ds) c Q n L ws W) :
    ICW P none m Ds (.rangeFunc g ps.toArray assign body) Q n L ws w := ⟨fun b => by
  have hgv : Act.eval ⟨(setAll L ws).toArray, marks Ds⟩ g = .func (.func gf) #[] lb := by rw [eval_W b.lt]; exact hg
  show (Code.rangeFunc g ps.toArray assign body).wpIn Fence.wide m P Q ⟨(setAll L ws).toArray, marks Ds⟩ w
  refine wpIn_rangeFunc fun fn hfn => ?_
  let R := recOf ⟨(setAll L ws).toArray, marks Ds⟩ ps.toArray assign body fn w.heap.size
  let W1 := (w.alloc (.deferred (some []))).alloc (.loop (R .ready none))
  have sz : W1.heap.size = w.heap.size + 2 := by simp [W1]
  have hL1 : W1.heap[w.heap.size + 1]? = some (.loop (R .ready none)) := by
    have := World.alloc_heap_new (w.alloc (.deferred (some []))) (.loop (R .ready none))
    rwa [World.size_alloc] at this
  have hK1 : W1.heap[w.heap.size]? = some (.deferred (some [])) := (Below.heap_alloc _ _ _ (by simp)).trans (World.alloc_heap_new w _)
  have hE1 : Ext w W1 := ((Ext.refl w).alloc _).alloc _
  refine ⟨w.heap.size + 1, [{ target := .collected w.heap.size, args := #[] }], W1, { target := .fn (.func gf) lb, args := #[.func (.yield (w.heap.size + 1)) #[] #[]] }, W1, gf, #[.func (.yield (w.heap.size + 1)) #[] #[]] ++ lb, W1,
    run_enterLoop_outer _ _ _ _ _, ?_, fun _ _ => trivial, by simp [invoke, go_sem, eg], fun h => by simp [Fence.wide] at h, ?_⟩
  · have hgv' : Act.eval ⟨(setAll L ws).toArray, marks Ds⟩ g = .func (.func gf) #[] lb := hgv
    simp only [resolve, hgv']; simp [go_sem]
  refine (hseq (w.heap.size + 1)
    (fun i W => Inv i W ∧ W.heap[w.heap.size + 1]? = some (.loop (R .ready none)) ∧ W.heap[w.heap.size]? = some (.deferred (some [])))
    (fun i W => ∃ c, Ix c i W ∧ W.heap[w.heap.size + 1]? = some (.loop (R .done (some c))) ∧ W.heap[w.heap.size]? = some (.deferred (some [])))
    W1 (hb0.trans hE1)
    (fun i A B hs e => ⟨hI i A B hs.1 (Mv.of_ext e), (e.block _ (Array.getElem?_eq_some_iff.1 hs.2.1).1).trans hs.2.1, (e.block _ (Array.getElem?_eq_some_iff.1 hs.2.2).1).trans hs.2.2⟩)
    (fun i A B ⟨c, h1, h2, h3⟩ e => ⟨c, hIx c i A B h1 (Mv.of_ext e), (e.block _ (Array.getElem?_eq_some_iff.1 h2).1).trans h2, (e.block _ (Array.getElem?_eq_some_iff.1 h3).1).trans h3⟩)
    ?_ ⟨hI 0 w W1 h0 (Mv.of_ext hE1), hL1, hK1⟩ _).mono ?_
  · rintro i W k hi ⟨hInv, hl, hk⟩ hx
    have hlt := (Array.getElem?_eq_some_iff.1 hl).1
    have hsz : (encs i).toArray.size = ps.toArray.size := by simp [hps i]
    refine ⟨fn, _, assign, body, run_yield (P := P) (args := (encs i).toArray) hl hsz, roundIn_of_wpIn (F := Fence.wide) hfn ?_⟩
    have hround := (round (w.heap.size + 1) k i W hi hInv hx).out (zip_bd b hpn)
    have e0 : (⟨(setAll L (zipW ps (encs i) ws)).toArray, marks []⟩ : Act) = { tmps := (ps.toArray.zip (encs i).toArray).foldl (fun t (p, v) => t.setIfInBounds p v) (setAll L ws).toArray, defers := [] } := by rw [zip_set]; rfl
    rw [e0] at hround
    refine Go.wpIn_mono hround fun e a1 w1 hp => ?_
    cases e with
    | normal =>
      obtain ⟨hk1, hbody⟩ := hp
      have hl1 := hk1.oth.same _ _ (by omega) hl rfl
      have hkk := hk1.oth.same _ _ (Nat.le_refl _) hk rfl
      have hlt1 := (Array.getElem?_eq_some_iff.1 hl1).1
      refine ⟨_, run_beginRound hl1 rfl, ?_⟩
      let W2 := w1.putObj (w.heap.size + 1) (.loop (R .busy none))
      have hm2 : Mv w.heap.size w1 W2 := Mv.putObj _ (by omega) hl1 rfl
      have hl2 : W2.heap[w.heap.size + 1]? = some (.loop (R .busy none)) := World.putObj_heap_same hlt1
      have hk2 : W2.heap[w.heap.size]? = some (.deferred (some [])) := (World.putObj_heap_other (by omega)).trans hkk
      have leave : ∀ (jump : Option Code) (W3 : World), RK w.heap.size X W2 W3 →
          W3.heap[w.heap.size + 1]? = some (.loop (R .busy none)) ∧
          (Instr.endRound (w.heap.size + 1) jump).run P W3 = .ok (.bool jump.isNone) (W3.putObj (w.heap.size + 1) (.loop (R (if jump.isNone then .ready else .done) jump))) ∧
          (W3.putObj (w.heap.size + 1) (.loop (R (if jump.isNone then .ready else .done) jump))).heap[w.heap.size + 1]? = some (.loop (R (if jump.isNone then .ready else .done) jump)) ∧
          (W3.putObj (w.heap.size + 1) (.loop (R (if jump.isNone then .ready else .done) jump))).heap[w.heap.size]? = some (.deferred (some [])) ∧
          Mv w.heap.size W3 (W3.putObj (w.heap.size + 1) (.loop (R (if jump.isNone then .ready else .done) jump))) ∧ KeptX X W (W3.putObj (w.heap.size + 1) (.loop (R (if jump.isNone then .ready else .done) jump))) := fun jump W3 h3 => by
        have hl3 := h3.oth.same _ _ (by omega) hl2 rfl
        have hm3 : Mv w.heap.size W3 (W3.putObj (w.heap.size + 1) (.loop (R (if jump.isNone then .ready else .done) jump))) := Mv.putObj _ (by omega) hl3 rfl
        exact ⟨hl3, run_endRound (P := P) jump hl3, World.putObj_heap_same (Array.getElem?_eq_some_iff.1 hl3).1, (World.putObj_heap_other (by omega)).trans (h3.oth.same _ _ (Nat.le_refl _) hk2 rfl), hm3, ((hk1.kept.trans (KeptX.of_mv hm2)).trans h3.kept).trans (KeptX.of_mv hm3)⟩
      refine Go.wpIn_mono (hbody W2 hm2) fun e a3 W3 hp => ?_
      cases e with
      | normal =>
        obtain ⟨h3, hi3⟩ := hp
        obtain ⟨hl3, hr, q1, q2, q3, q4⟩ := leave none W3 h3
        exact ⟨_, _, hr, .inl ⟨rfl, ⟨hI _ _ _ hi3 q3, q1, q2⟩, q4⟩⟩
      | ret =>
        obtain ⟨h3, hi3⟩ := hp
        obtain ⟨hl3, hr, q1, q2, q3, q4⟩ := leave (some .ret) W3 h3
        exact ⟨_, _, hr, .inr ⟨rfl, ⟨_, hIx _ _ _ _ hi3 q3, q1, q2⟩, q4⟩⟩
      | exit id =>
        obtain ⟨h3, hi3⟩ := hp
        obtain ⟨hl3, hr, q1, q2, q3, q4⟩ := leave (some (.exit id)) W3 h3
        exact ⟨_, _, hr, .inr ⟨rfl, ⟨_, hIx _ _ _ _ hi3 q3, q1, q2⟩, q4⟩⟩
      | goto _ => exact hp.elim
      | panic _ => exact hp.elim
      | outgrown => exact hp.elim
    | exit _ => exact hp.elim
    | ret => exact hp.elim
    | goto _ => exact hp.elim
    | panic _ => exact hp.elim
    | outgrown => exact hp.elim
  · rintro e W2 ⟨⟨v, rfl⟩, (⟨hi, hl, hk⟩ | ⟨i, hiN, c, hi, hl, hk⟩)⟩
    · exact ⟨none, _, run_endLoop (P := P) hl (by simp [R, recOf]), (done w.heap.size _ (Nat.le_refl _) (by have := (Array.getElem?_eq_some_iff.1 hk).1; simpa using this) (hI _ _ _ hi (Mv.putObj _ (by omega) hl rfl)) ((World.putObj_heap_other (by omega)).trans hk)).out b⟩
    · exact ⟨some c, _, run_endLoop (P := P) hl (by simp [R, recOf]), (stop c w.heap.size i _ (Nat.le_refl _) (by have := (Array.getElem?_eq_some_iff.1 hk).1; simpa using this) hiN (hIx _ _ _ _ hi (Mv.putObj _ (by omega) hl rfl)) ((World.putObj_heap_other (by omega)).trans hk)).out b⟩⟩
theorem iqw_asg {l k n₀ i : Nat} {X : Nat → Prop} {body : Code} {Inv : Nat → World → Prop} {Ix : Code → Nat → World → Prop} {W : World} (hk : RK n₀ X W w) (h : ∀ W2, Mv n₀ w W2 → ICW P (some l) k [] body (RndQ n₀ X Inv Ix i W2) n L ws W2) : IQW [] (AsgQ P l k n₀ X body Inv Ix i W) .normal n L ws w :=
  ⟨fun b => ⟨hk, fun w2 hm => (h w2 hm).out b⟩⟩
theorem iqw_next {n₀ i : Nat} {X : Nat → Prop} {Inv : Nat → World → Prop} {Ix : Code → Nat → World → Prop} {W : World} (hk : RK n₀ X W w) (h : Inv (i + 1) w) : IQW Ds (RndQ n₀ X Inv Ix i W) .normal n L ws w := ⟨fun _ => ⟨hk, h⟩⟩
theorem ileave {fn : Func} {R : Ending → World → Prop} {rs : List ResultVar} (n₀ : Nat) (vs : List Value) (hf : fn.results = rs.toArray) (b : Bd n L ws) (hD : ∀ D ∈ Ds, n₀ ≤ D ∧ w.heap[D]? = some (.deferred (some []))) (hn : Ds.Nodup)
    (h : ∀ W, Mv n₀ w W → ResV P (evalW L ws) W rs vs ∧ R (.returned (resOf vs)) W) : LeavesInM Fence.wide m P fn (setAll L ws).toArray R (marks Ds) .returning w := by
  refine leaves_marks n₀ (fun W => Mv n₀ w W) (fun D W hD hW hk => hW.trans (Mv.putObj _ hD hk rfl)) (fun W hW => ?_) Ds w hn hD (Mv.refl _ _)
  obtain ⟨h1, h2⟩ := h W hW
  exact ⟨_, res_run (a := ⟨(setAll L ws).toArray, marks Ds⟩) hf (by rw [eval_W b.lt]; exact h1), h2⟩
theorem iqw_ret {fn : Func} {R : Ending → World → Prop} {rs : List ResultVar} (n₀ : Nat) (vs : List Value) (hf : fn.results = rs.toArray) (hD : ∀ D ∈ Ds, n₀ ≤ D ∧ w.heap[D]? = some (.deferred (some []))) (hn : Ds.Nodup)
    (h : ∀ W, Mv n₀ w W → ResV P (evalW L ws) W rs vs ∧ R (.returned (resOf vs)) W) : IQW Ds (IBody m P fn R) .ret n L ws w := ⟨fun b => ileave n₀ vs hf b hD hn h⟩
end
/-! Regions that draw their order, within a round. -/
section
variable {P : Program} {ops : Array Oper} {Q : Exit → Act → World → Prop} {S : World → Prop} {r : Option Nat} {m : Nat}
def AnyJ (P : Program) (r : Option Nat) (m : Nat) (ops : Array Oper) (Q : Exit → Act → World → Prop) (S : World → Prop) : Nat → Array Bool → Act → World → Prop
  | 0, listed, a, w => Region.ready .any ops listed = [] ∧ Q .normal a w
  | fuel + 1, listed, a, w => (Region.ready .any ops listed = [] → Q .normal a w) ∧ ∀ i ∈ Region.ready .any ops listed, wpOpIn (FR r) m P ops Q i (fun a' w' => S w' ∧ AnyJ P r m ops Q S fuel (listed.setIfInBounds i true) a' w') a w
theorem anyJ_sound : ∀ (fuel : Nat) (listed : Array Bool) (a : Act) (w : World), AnyJ P r m ops Q S fuel listed a w → wpAnyIn (FR r) m P .any ops Q fuel listed a w
  | 0, _, _, _, h => h
  | fuel + 1, _, _, _, h => ⟨h.1, fun i hi => wpOpIn_mono (fun a w q => anyJ_sound fuel _ a w q.2) (h.2 i hi)⟩
/-- An operation that yields v wherever S holds, and writes nothing. -/
def PureH (P : Program) (ops : Array Oper) (S : World → Prop) (o : Oper) (v : Value) (a : Act) : Prop :=
  (Region.wanted o (yielded ops a.tmps) = true ∧ ∀ w, S w → (execOp a.eval o).run P w = .ok (.value v) w) ∨ (Region.wanted o (yielded ops a.tmps) = false ∧ v = undef)
theorem PureH.same {o : Oper} {v : Value} {a a' : Act} (h : PureH P ops S o v a) (he : execOp a'.eval o = execOp a.eval o) (hw : Region.wanted o (yielded ops a'.tmps) = Region.wanted o (yielded ops a.tmps)) : PureH P ops S o v a' := by
  unfold PureH at *
  rw [hw, he]; exact h
theorem PureH.op {i : Nat} {o : Oper} {v : Value} {a : Act} (hi : ops[i]? = some o) (h : PureH P ops S o v a) {K : Act → World → Prop} {w : World} (hS : S w) (hk : K (a.put o.dst v) w) : wpOpIn (FR r) m P ops Q i K a w := by
  unfold wpOpIn
  simp only [hi]
  rcases h with ⟨hw, hv⟩ | ⟨hw, rfl⟩
  · rw [if_pos hw]
    refine ⟨fun _ _ => trivial, ?_⟩
    show o.uponIn (FR r) m P a K Q ((o.semAt r a.eval).run P w)
    rw [semAt_of (hv w hS) (by simp), Oper.uponIn_value]; exact hk
  · rw [if_neg (by rw [hw]; simp)]
    exact ⟨fun _ _ => trivial, hk⟩
theorem opJ_put {j : Nat} {oi oj : Oper} {v : Value} (hj : ops[j]? = some oj) (hap : oi.apart ops oj = true) (hsi : ∀ cs b, oi.op ≠ .select cs b) (hsj : ∀ cs b, oj.op ≠ .select cs b) (hnd : ∀ c, oj.op ≠ .defer c)
    (hQ : ∀ c a w, Q (.panic c) (a.put oi.dst v) w → Q (.panic c) a w) {K : Act → World → Prop} {a : Act} {w : World} (hy : PureH P ops S oi v a) (h : wpOpIn (FR r) m P ops Q j K (a.put oi.dst v) w) :
    wpOpIn (FR r) m P ops Q j (fun a' w' => PureH P ops S oi v a' ∧ K (a'.put oi.dst v) w') a w := by
  obtain ⟨h1, h2, h3⟩ := Oper.apart_spec hap
  have keep : ∀ (a : Act) (u : Value), PureH P ops S oi v a → PureH P ops S oi v (a.put oj.dst u) := fun a u hy => hy.same (execOp_put oi hsi a oj.dst u h3) (wanted_put oi a oj.dst u h3)
  unfold wpOpIn at *
  simp only [hj] at *
  rw [wanted_put oj a oi.dst v h1] at h
  split
  · rename_i hw
    simp only [hw, if_true] at h
    refine ⟨fun _ _ => trivial, ?_⟩
    have h9 := h.2
    rw [Oper.semAt_eq _ _ _ hnd, execOp_put oj hsj a oi.dst v h1] at h9
    rw [Oper.semAt_eq _ _ _ hnd]
    generalize (execOp a.eval oj).run P w = res at *
    cases res with
    | ok x w' =>
      cases x <;> simp only [Oper.uponIn] at h9 ⊢
      case value u => exact ⟨keep a u hy, by rw [← Act.put_comm a v u h2]; exact h9⟩
      case skip => exact ⟨keep a _ hy, by rw [← Act.put_comm a v undef h2]; exact h9⟩
      case defer d =>
        refine ⟨keep _ _ (hy.same rfl rfl), ?_⟩
        rw [← Act.put_comm _ v undef h2, ← Act.put_defers]
        exact h9
      case enter f args =>
        refine ⟨h9.1, CallsIn.mono h9.2 fun e w'' he => ?_⟩
        cases e with
        | returned u => exact ⟨keep a u hy, by rw [← Act.put_comm a v u h2]; exact he⟩
        | panicked c => exact hQ _ _ _ he
        | outgrown => exact he
      case row row args => exact ⟨h9.1, RowsIn.mono h9.2 fun u w'' he => ⟨keep a u hy, by rw [← Act.put_comm a v u h2]; exact he⟩⟩
      case round l f tmps assign body =>
        refine ⟨h9.1, RoundIn.mono h9.2 fun e w'' he => ?_⟩
        cases e with
        | returned u => exact ⟨keep a u hy, by rw [← Act.put_comm a v u h2]; exact he⟩
        | panicked c => exact hQ _ _ _ he
        | outgrown => exact he
    | halt x w' =>
      cases x <;> simp only [Oper.uponIn] at h9 ⊢
      case panic u => exact hQ _ _ _ h9
  · rename_i hw
    simp only [hw] at h
    exact ⟨fun _ _ => trivial, keep a _ hy, by rw [← Act.put_comm a v undef h2]; exact h.2⟩
theorem anyJ_first {i : Nat} {oi : Oper} {v : Value} (hi : ops[i]? = some oi) (hsel : ∀ (j : Nat) (o : Oper) cs b, ops[j]? = some o → o.op ≠ .select cs b) (hnd : ∀ (j : Nat) (o : Oper) c, ops[j]? = some o → o.op ≠ .defer c)
    (hQ : ∀ c a w, Q (.panic c) (a.put oi.dst v) w → Q (.panic c) a w) :
    ∀ (fuel : Nat) (listed : Array Bool) (a : Act) (w : World),
      (∀ j oj, ops[j]? = some oj → j ≠ i → listed.getD j true = false → (∀ e ∈ oj.after, Region.binds .any e = true → e.on ≠ i) → oi.apart ops oj = true) →
      i ∈ Region.ready .any ops listed → PureH P ops S oi v a → S w →
      AnyJ P r m ops Q S fuel (listed.setIfInBounds i true) (a.put oi.dst v) w → AnyJ P r m ops Q S (fuel + 1) listed a w := by
  intro fuel
  induction fuel with
  | zero =>
    intro listed a w _ hr hy hS H
    refine ⟨fun h => (by rw [h] at hr; cases hr), fun j hj => ?_⟩
    by_cases hji : j = i
    · subst hji; exact hy.op hi hS ⟨hS, H⟩
    · have := ready_mono hj hji
      rw [H.1] at this
      cases this
  | succ fuel ih =>
    intro listed a w hfree hr hy hS H
    refine ⟨fun h => (by rw [h] at hr; cases hr), fun j hj => ?_⟩
    by_cases hji : j = i
    · subst hji; exact hy.op hi hS ⟨hS, H⟩
    · have h1 := H.2 j (ready_mono hj hji)
      obtain ⟨hjun, oj, hoj, hall⟩ := mem_ready.1 hj
      have hnot : ∀ e ∈ oj.after, Region.binds .any e = true → e.on ≠ i := fun e he hb heq => by
        have h1 := hall e he hb
        have h0 := (mem_ready.1 hr).1
        rw [heq] at h1
        rcases Nat.lt_or_ge i listed.size with h' | h'
        · simp [h'] at h0 h1; rw [h0] at h1; cases h1
        · simp [Array.getElem?_eq_none h'] at h1
      have h2 := opJ_put (S := S) hoj (hfree j oj hoj hji hjun hnot) (fun cs b => hsel i oi cs b hi) (fun cs b => hsel j oj cs b hoj) (fun c => hnd j oj c hoj) hQ hy h1
      have hfree' : ∀ k ok, ops[k]? = some ok → k ≠ i → (listed.setIfInBounds j true).getD k true = false →
          (∀ e ∈ ok.after, Region.binds .any e = true → e.on ≠ i) → oi.apart ops ok = true := fun k ok hk hki hun hno => by
        refine hfree k ok hk hki ?_ hno
        by_cases hjk : j = k
        · subst hjk; exact hjun
        · rw [getD_set_ne true hjk] at hun; exact hun
      refine wpOpIn_mono (fun a' w' h3 => ⟨h3.2.1, ih (listed.setIfInBounds j true) a' w' hfree' (ready_mono hr (Ne.symm hji)) h3.1 h3.2.1 ?_⟩) h2
      rw [Array.setIfInBounds_comm _ _ hji]
      exact h3.2.2
end
def noDefer (ops : Array Oper) : Bool := ops.toList.all fun o => match o.op with | .defer _ => false | _ => true
theorem noDefer_spec {ops : Array Oper} (h : noDefer ops = true) : ∀ (j : Nat) (o : Oper) c, ops[j]? = some o → o.op ≠ .defer c := fun j o c hj he => by
  have hm : o ∈ ops.toList := by rw [← Array.getElem?_toList] at hj; exact List.mem_of_getElem? hj
  have := List.all_eq_true.1 h o hm
  rw [he] at this; cases this
section
variable {P : Program} {ops ops0 : Array Oper} {Q Q' : Exit → Act → World → Prop} {S : World → Prop} {T : List Row} {L : List Value} {Ds : List Nat} {fuel n : Nat} {done : List Nat} {ws : List (Nat × Value)} {w : World} {r : Option Nat} {m : Nat}
structure IReg (P : Program) (ops0 ops : Array Oper) (Q : Exit → Act → World → Prop) (L : List Value) (T : List Row) : Prop extends Reg P ops0 ops Q L T where
  nodef : noDefer ops = true
structure IWD (P : Program) (r : Option Nat) (m : Nat) (Ds : List Nat) (ops : Array Oper) (Q : Exit → Act → World → Prop) (S : World → Prop) (L : List Value) (fuel : Nat) (done : List Nat) (ws : List (Nat × Value)) (w : World) : Prop where
  out : (∀ p ∈ ws, p.1 < L.length) → AnyJ P r m ops Q S fuel (lset ops.size done) ⟨(setAll L ws).toArray, marks Ds⟩ w
theorem icw_draw {id : Nat} {ops0 : Array Oper} (T : List Row) (S : World → Prop) (hm : P.follows .mixedOrders = true) (ht : tableR ops0 = T) (hg : goodT n ops0.size T = true) (hs : (Region.noSelect ops0 && noDefer ops0) = true) (hQ : Calm Q) (_hS : S w.drew)
    (h : ∀ (ops : Array Oper) (Q' : Exit → Act → World → Prop) (X : World), Ext w X → L.length = n → IReg P ops0 ops Q' L T → Shut (∀ ws w, IQW Ds Q .normal n L ws w → IQW Ds Q' .normal n L ws w) → IWD P r m Ds ops Q' S L ops0.size [] ws X) : ICW P r m Ds (.region id ops0 true) Q n L ws w := ⟨fun b => by
  obtain ⟨hs1, hs2⟩ := Bool.and_eq_true_iff.1 hs
  have h9 := (h ops0 Q _ (Ext.drew (Ext.refl _)) b.1 ⟨⟨rfl, ht, by rw [b.1]; exact hg, hs1, hQ⟩, hs2⟩ (fun _ _ h => h)).out b.lt
  exact wpIn_region_any hm (anyJ_sound _ _ _ _ h9)⟩
theorem iwd_end (hL : L.length = n) (hR : IReg P ops0 ops Q' L T) (hK : Shut (∀ ws w, IQW Ds Q .normal n L ws w → IQW Ds Q' .normal n L ws w)) (hd : upT done (numbered T 0) = []) (h : IQW Ds Q .normal n L ws w) : IWD P r m Ds ops Q' S L fuel done ws w := ⟨fun hb => by
  have hr : Region.ready .any ops (lset ops.size done) = [] := by
    rw [List.eq_nil_iff_forall_not_mem]
    intro j hj
    have := ready_up hR.toReg hj
    rw [hd] at this; cases this
  have hq := (hK _ _ h).out ⟨hL, fun p hp => by rw [← hL]; exact hb p hp⟩
  cases fuel with
  | zero => exact ⟨hr, hq⟩
  | succ k => exact ⟨fun _ => hq, by rw [hr]; simp⟩⟩
theorem iwd_take (i : Nat) {d : Nat} {oi : Oper} {rs : List Oper} (v : Value) (hR : IReg P ops0 ops Q' L T) (hi : ops0.toList.drop i = oi :: rs) (hr : readyT T done i = true) (hdst : oi.dst = some d)
    (hw : wantedW T L ws oi.guard = true) (hy : ∀ w, S w → (execOp (evalW L ws) oi).run P w = .ok (.value v) w) (hS : S w)
    (h : IWD P r m Ds ops Q' S L fuel (i :: done) ((d, v) :: ws) w) : IWD P r m Ds ops Q' S L (fuel + 1) done ws w := ⟨fun hb => by
  have ho := op_at hR.toReg hi
  refine anyJ_first (v := v) ho (Region.noSelect_spec hR.nosel) (noDefer_spec hR.nodef) (fun c a w => hR.calm c _ _ a w) fuel _ _ w (apart_of_good hR.tab hR.good ho hr) (readyT_mem hR.tab hR.good ho hr) ?_ hS ?_
  · exact .inl ⟨wanted_W (marks Ds) hR.tab hR.good hb hw, fun w hw => by rw [eval_W hb]; exact hy w hw⟩
  · rw [put_W, hdst]; exact h.out (putW_lt (d := some d) hb (fun k e => by cases e; exact dst_lt hR.toReg ho _ hdst))⟩
theorem iwd_step (i : Nat) {oi : Oper} {rs : List Oper} (hR : IReg P ops0 ops Q' L T) (hi : ops0.toList.drop i = oi :: rs) (hr : upT done (numbered T 0) = [i]) (hr2 : readyT T done i = true)
    (hw : wantedW T L ws oi.guard = true) (h : StepN P (evalW L ws) oi w fun v w' => S w' ∧ IWD P r m Ds ops Q' S L fuel (i :: done) (putW oi.dst v ws) w') : IWD P r m Ds ops Q' S L (fuel + 1) done ws w := ⟨fun hb => by
  have ho := op_at hR.toReg hi
  refine ⟨fun h0 => ?_, fun j hj => ?_⟩
  · have := readyT_mem hR.tab hR.good ho hr2
    rw [h0] at this; cases this
  · have := ready_up hR.toReg hj
    rw [hr] at this
    obtain rfl := List.mem_singleton.1 this
    unfold wpOpIn
    simp only [ho]
    rw [if_pos (wanted_W (marks Ds) hR.tab hR.good hb hw)]
    exact h.wpI (eval_W hb _) fun v w' hn => ⟨hn.1, by rw [put_W]; exact hn.2.out (putW_lt hb (dst_lt hR.toReg ho))⟩⟩
theorem calm_no (h : ∀ c a w, ¬ Q (.panic c) a w) : Calm Q := fun c _ _ _ w q => (h c _ w q).elim
theorem calm_rnd {n₀ i : Nat} {X : Nat → Prop} {Inv : Nat → World → Prop} {Ix : Code → Nat → World → Prop} {W : World} : Calm (RndQ n₀ X Inv Ix i W) := calm_no fun _ _ _ h => h
end
section
variable {P : Program} {n : Nat} {L : List Value} {ws : List (Nat × Value)} {w : World} {m : Nat}
theorem iqw_ret0 {fn : Func} {R : Ending → World → Prop} {rs : List ResultVar} (vs : List Value) (hf : fn.results = rs.toArray) (h : ResV P (evalW L ws) w rs vs) (hR : R (.returned (resOf vs)) w) : IQW [] (IBody m P fn R) .ret n L ws w := ⟨fun b => by
  show LeavesInM Fence.wide m P fn (setAll L ws).toArray R [] .returning w
  exact ⟨_, res_run (a := ⟨(setAll L ws).toArray, []⟩) hf (by rw [eval_W b.lt]; exact h), hR⟩⟩
theorem iqw_end0 {fn : Func} {R : Ending → World → Prop} {rs : List ResultVar} (vs : List Value) (hf : fn.results = rs.toArray) (h : ResV P (evalW L ws) w rs vs) (hR : R (.returned (resOf vs)) w) : IQW [] (IBody m P fn R) .normal n L ws w := ⟨fun b => by
  show LeavesInM Fence.wide m P fn (setAll L ws).toArray R [] .returning w
  exact ⟨_, res_run (a := ⟨(setAll L ws).toArray, []⟩) hf (by rw [eval_W b.lt]; exact h), hR⟩⟩
end
theorem yield_mono {F : Fence} {m : Nat} {P : Program} {l : Nat} {args : Array Value} {W : World} {R R' : Ending → World → Prop} (h : YieldAt F m P l args W R) (hr : ∀ e w', R e w' → R' e w') : YieldAt F m P l args W R' :=
  let ⟨fn, tmps, assign, body, h1, h2⟩ := h; ⟨fn, tmps, assign, body, h1, h2.mono hr⟩
theorem mk_ext {A B : World} {D : Nat} {o : Obj} (h : A.heap[D]? = some o) (e : Ext A B) : B.heap[D]? = some o := (e.block _ (Array.getElem?_eq_some_iff.1 h).1).trans h
theorem mk_turn {A B : World} {D O : Nat} {x : Option (List Deferred)} (h : A.heap[D]? = some (.deferred x)) (t : Turns O A B) : B.heap[D]? = some (.deferred x) := by
  by_cases e : D = O
  · subst e; exact t.oth' _ h rfl
  · rw [t.heap' D e]; exact h
theorem marksC {n₀ D : Nat} {w : World} {Ds : List Nat} (h : n₀ ≤ D) (hm : w.heap[D]? = some (.deferred (some []))) (hr : ∀ D' ∈ Ds, n₀ ≤ D' ∧ w.heap[D']? = some (.deferred (some []))) : ∀ D' ∈ D :: Ds, n₀ ≤ D' ∧ w.heap[D']? = some (.deferred (some [])) := fun D' hD => by
  rcases List.mem_cons.1 hD with rfl | hD
  · exact ⟨h, hm⟩
  · exact hr D' hD
/-! What a call may write: the blocks of X. -/
structure Wrote (X : Nat → Prop) (A B : World) : Prop where
  os : B.os = A.os
  tape : B.tape = A.tape
  output : B.output = A.output
  size : A.heap.size ≤ B.heap.size
  same : ∀ (k : Nat), k < A.heap.size → ¬ X k → B.heap[k]? = A.heap[k]?
  oth : ∀ (k : Nat) (o : Obj), A.heap[k]? = some o → o.isCells = false → B.heap[k]? = some o
theorem Wrote.refl (X : Nat → Prop) (A : World) : Wrote X A A := ⟨rfl, rfl, rfl, Nat.le_refl _, fun _ _ _ => rfl, fun _ _ h _ => h⟩
theorem Wrote.trans {X : Nat → Prop} {A B C : World} (h : Wrote X A B) (k : Wrote X B C) : Wrote X A C :=
  ⟨k.os.trans h.os, k.tape.trans h.tape, k.output.trans h.output, Nat.le_trans h.size k.size, fun i hi hx => (k.same i (Nat.lt_of_lt_of_le hi h.size) hx).trans (h.same i hi hx), fun i o hi ho => k.oth i o (h.oth i o hi ho) ho⟩
theorem Wrote.of_ext {X : Nat → Prop} {A B : World} (e : Ext A B) : Wrote X A B :=
  ⟨e.os, e.tape, e.output, e.size, fun k hk _ => e.block k hk, fun k _o hk _ => (e.block k (Array.getElem?_eq_some_iff.1 hk).1).trans hk⟩
theorem Wrote.of_turns {X : Nat → Prop} {A B : World} {O : Nat} (t : Turns O A B) (hx : X O) : Wrote X A B := by
  have h0 : Ext { A with heap := #[] } A := ⟨rfl, rfl, rfl, Nat.zero_le _, fun k hk => absurd hk (Nat.not_lt_zero k)⟩
  have h1 := t.ext h0 (Nat.zero_le _)
  refine ⟨h1.os, h1.tape, h1.output, Nat.le_of_eq t.size.symm, fun k _ hk => t.heap' k (fun e => hk (e ▸ hx)), fun k o hk ho => ?_⟩
  by_cases e : k = O
  · subst e; exact t.oth' o hk ho
  · rw [t.heap' k e]; exact hk
theorem Wrote.step {X : Nat → Prop} {A B C : World} (h : Wrote X A B) (e : Ext B C) : Wrote X A C := h.trans (Wrote.of_ext e)
/-- A turn of a block that is new, or of X. -/
theorem Wrote.turn {X : Nat → Prop} {A B C : World} (h : Wrote X A B) {O : Nat} (t : Turns O B C) (hO : X O ∨ A.heap.size ≤ O) : Wrote X A C := by
  rcases hO with q | q
  · exact h.trans (Wrote.of_turns t q)
  · have k := Wrote.of_turns (X := fun k => k = O) t rfl
    exact ⟨k.os.trans h.os, k.tape.trans h.tape, k.output.trans h.output, Nat.le_trans h.size k.size, fun i hi hx => (k.same i (Nat.lt_of_lt_of_le hi h.size) (fun e => by omega)).trans (h.same i hi hx), fun i o hi ho => k.oth i o (h.oth i o hi ho) ho⟩
theorem Wrote.ext {X : Nat → Prop} {A B U : World} (h : Wrote X A B) (hU : Ext U A) (hx : ∀ k, X k → U.heap.size ≤ k) : Ext U B :=
  ⟨h.os.trans hU.os, h.tape.trans hU.tape, h.output.trans hU.output, Nat.le_trans hU.size h.size, fun k hk => (h.same k (Nat.lt_of_lt_of_le hk hU.size) (fun q => absurd hk (Nat.not_lt_of_le (hx k q)))).trans (hU.block k hk)⟩
theorem Wrote.kept {X Y : Nat → Prop} {A B : World} (h : Wrote X A B) (hx : ∀ k, X k → Y k) : KeptX Y A B :=
  ⟨h.size, fun k _o hk _ hy => (h.same k (Array.getElem?_eq_some_iff.1 hk).1 (fun q => hy (hx k q))).trans hk⟩
theorem Wrote.cell {X : Nat → Prop} {A B : World} (h : Wrote X A B) {b o : Nat} {v : Value} (hb : ¬ X b) (hv : A.cell? ⟨b, o, none⟩ = some v) : B.cell? ⟨b, o, none⟩ = some v := (h.kept (fun _ q => q)).cell hb hv
theorem Wrote.box {X : Nat → Prop} {A B : World} (h : Wrote X A B) {b o : Nat} {v : Value} (hb : ¬ X b) (hv : BoxAt A b o v) : BoxAt B b o v := (h.kept (fun _ q => q)).box hb hv
theorem Wrote.va {X : Nat → Prop} {A B : World} (h : Wrote X A B) {b o : Nat} {l : List Int} (hb : ¬ X b) (hv : VA A b o l) : VA B b o l := ⟨fun i hi => h.cell hb (hv.1 i hi), hv.2⟩
theorem Wrote.rows {X : Nat → Prop} {A B : World} (h : Wrote X A B) {b : Nat} {l : List Int} (hb : ¬ X b) (hv : RowsAt A b l) : RowsAt B b l :=
  ⟨hv.1, fun _i hi => h.cell hb (hv.cell hi), fun _i hi => (h.box hb ⟨hv.cell hi, hv.free hi⟩).2⟩
theorem RK.wrote {n₀ : Nat} {X Y : Nat → Prop} {A B C : World} (h : RK n₀ X A B) (t : Wrote Y B C) (hY : ∀ k, Y k → X k ∨ A.heap.size ≤ k) : RK n₀ X A C := by
  refine ⟨⟨Nat.le_trans h.kept.size t.size, fun k o hk ho hx => ?_⟩, ⟨Nat.le_trans h.oth.size t.size, fun k o hk hi ho => t.oth k o (h.oth.same k o hk hi ho) ho⟩⟩
  have h2 := h.kept.cells k o hk ho hx
  refine (t.same k (Array.getElem?_eq_some_iff.1 h2).1 (fun q => ?_)).trans h2
  rcases hY k q with q | q
  · exact hx q
  · have := (Array.getElem?_eq_some_iff.1 hk).1; omega
theorem Wrote.wrote {X Y : Nat → Prop} {A B C : World} (h : Wrote X A B) (t : Wrote Y B C) (hY : ∀ k, Y k → X k ∨ A.heap.size ≤ k) : Wrote X A C :=
  ⟨t.os.trans h.os, t.tape.trans h.tape, t.output.trans h.output, Nat.le_trans h.size t.size, fun k hk hx => (t.same k (Nat.lt_of_lt_of_le hk h.size) (fun q => (hY k q).elim hx (fun z => absurd hk (Nat.not_lt_of_le z)))).trans (h.same k hk hx), fun k o hk ho => t.oth k o (h.oth k o hk ho) ho⟩

end Go.Proofs.YtdjjkhefdalokaaDoor

/- Maps whose keys and elements have one shape: a map's block reads as a list of keys and elements, in the order in which the keys came. -/
namespace Go.Proofs.YtdjjkhefdalokaaDoor
open Go.RowKit Go.MapKept
open Go.ChangeMaps (setBlock modify_eq_set heap_setBlock_same)

/-- What is asked of a key's type: its values are told apart. -/
structure KLaw (P : Program) (k : TypeId) {κ : Type} (kv : κ → Value) : Prop where
  inj : ∀ {a b : κ}, kv a = kv b → a = b
  check : ∀ (w : World) (em : Bool) (a : κ), (Instr.checkKey em 10000 k (kv a)).run P w = .ok () w
  stays : ∀ (w : World) (a : κ), (Instr.keyThatStays (kv a) (kv a)).run P w = .ok (kv a) w
  find : ∀ (w : World) (x : κ) (ks : List κ) (es : List MapEntry), es.map (·.key) = ks.map kv →
    ((Instr.findKey k (kv x) es).run P w = .ok none w ∧ x ∉ ks) ∨ ∃ j e, (Instr.findKey k (kv x) es).run P w = .ok (some (j, e.val)) w ∧ es[j]? = some e ∧ ks[j]? = some x ∧ ∀ i, i < j → ks[i]? ≠ some x

section
variable {κ β : Type} [DecidableEq κ]
/-- An element is laid in at a key. -/
def updM (x : κ) (v : β) : List (κ × β) → List (κ × β)
  | [] => [(x, v)]
  | (y, u) :: r => if y = x then (x, v) :: r else (y, u) :: updM x v r
theorem updM_none {x : κ} {v : β} : ∀ {l : List (κ × β)}, x ∉ l.map Prod.fst → updM x v l = l ++ [(x, v)]
  | [], _ => rfl
  | (y, u) :: r, h => by
    simp only [List.map_cons, List.mem_cons, not_or] at h
    rw [updM, if_neg (fun e => h.1 e.symm), updM_none h.2]; rfl
theorem updM_at {x : κ} {v : β} : ∀ {l : List (κ × β)} {j : Nat} {p : κ × β}, l[j]? = some p → p.1 = x → (∀ i, i < j → (l.map Prod.fst)[i]? ≠ some x) → updM x v l = l.set j (x, v)
  | [], j, p, h, _, _ => by simp at h
  | (y, u) :: r, 0, p, h, hx, _ => by
    simp only [List.getElem?_cons_zero, Option.some.injEq] at h
    subst h
    rw [updM, if_pos hx]; rfl
  | (y, u) :: r, j + 1, p, h, hx, hn => by
    have h0 : y ≠ x := fun e => hn 0 (by omega) (by simp [e])
    rw [updM, if_neg h0, updM_at (l := r) (j := j) (by simpa using h) hx (fun i hi => by have := hn (i + 1) (by omega); simpa using this)]; rfl
theorem keys_updM {x : κ} {v : β} : ∀ {l : List (κ × β)} {y : κ}, y ∈ (updM x v l).map Prod.fst ↔ y = x ∨ y ∈ l.map Prod.fst
  | [], y => by simp [updM]
  | (z, u) :: r, y => by
    unfold updM
    split
    · rename_i e; subst e; simp
    · simp only [List.map_cons, List.mem_cons, keys_updM (l := r)]
      constructor
      · rintro (h | h | h) <;> simp [h]
      · rintro (h | h | h) <;> simp [h]
end

section
variable {κ β : Type} {P : Program} {kv : κ → Value} {vv : β → Value} {k : TypeId} {w : World} {b : Nat} {l : List (κ × β)}
def prE (e : MapEntry) : Value × Value := (e.key, e.val)
def prK (kv : κ → Value) (vv : β → Value) (p : κ × β) : Value × Value := (kv p.1, vv p.2)
/-- A map's block reads as l; its stamps. -/
structure MapAt (kv : κ → Value) (vv : β → Value) (w : World) (b : Nat) (l : List (κ × β)) (es : Array MapEntry) (clock : Nat) : Prop where
  at_ : w.heap[b]? = some (.map es clock)
  old : ∀ x ∈ es.toList, x.born < clock
  born : (es.toList.map (·.born)).Nodup
  rd : es.toList.map prE = l.map (prK kv vv)
def MapS (kv : κ → Value) (vv : β → Value) (w : World) (b : Nat) (l : List (κ × β)) : Prop := ∃ es clock, MapAt kv vv w b l es clock
theorem MapS.lt (h : MapS kv vv w b l) : b < w.heap.size := by obtain ⟨es, c, h⟩ := h; exact (Array.getElem?_eq_some_iff.1 h.at_).1
theorem MapS.block {X : World} (h : MapS kv vv w b l) (hX : X.heap[b]? = w.heap[b]?) : MapS kv vv X b l := by
  obtain ⟨es, c, h⟩ := h; exact ⟨es, c, hX.trans h.at_, h.old, h.born, h.rd⟩
theorem MapS.ext {X : World} (h : MapS kv vv w b l) (e : Ext w X) : MapS kv vv X b l := h.block (e.block b h.lt)
theorem MapS.mv {n : Nat} {X : World} (h : MapS kv vv w b l) (e : Mv n w X) (hb : b < n) : MapS kv vv X b l := h.block (e.below b hb h.lt)
theorem MapS.turn {O : Nat} {X : World} (h : MapS kv vv w b l) (t : Turns O w X) (hb : b ≠ O) : MapS kv vv X b l := h.block (t.heap' b hb)
theorem MapS.made (w : World) : MapS kv vv (w.alloc (.map #[] 0)) w.heap.size [] := ⟨#[], 0, World.alloc_heap_new w _, by simp, by simp, rfl⟩
theorem MapAt.keys {es : Array MapEntry} {c : Nat} (h : MapAt kv vv w b l es c) : es.toList.map (·.key) = (l.map Prod.fst).map kv := by
  have := congrArg (List.map Prod.fst) h.rd
  simpa [List.map_map, Function.comp_def, prE, prK] using this
theorem MapAt.get {es : Array MapEntry} {c : Nat} (h : MapAt kv vv w b l es c) {j : Nat} {e : MapEntry} (he : es.toList[j]? = some e) : ∃ p, l[j]? = some p ∧ e.key = kv p.1 ∧ e.val = vv p.2 := by
  have := congrArg (fun q => q[j]?) h.rd
  simp only [List.getElem?_map, he, Option.map_some] at this
  cases hp : l[j]? with
  | none => rw [hp] at this; cases this
  | some p =>
    rw [hp] at this
    simp only [Option.map_some, Option.some.injEq, prE, prK, Prod.mk.injEq] at this
    exact ⟨p, rfl, this.1, this.2⟩

/-- In the world X nothing but the map at block O has turned. -/
structure TurnsM (O : Nat) (w X : World) : Prop where
  os : X.os = w.os
  tape : X.tape = w.tape
  output : X.output = w.output
  size : X.heap.size = w.heap.size
  heap' : ∀ j, j ≠ O → X.heap[j]? = w.heap[j]?
  was : ∃ o, w.heap[O]? = some o ∧ o.isCells = false
theorem turnsM_set {o : Obj} (o' : Obj) (ho : w.heap[b]? = some o) (hc : o.isCells = false) : TurnsM b w (setBlock w b o') :=
  ⟨rfl, rfl, rfl, by simp [setBlock], fun j hj => (heap_set ho).2 j hj, ⟨o, ho, hc⟩⟩
theorem TurnsM.ext {O : Nat} {a w X : World} (h : TurnsM O w X) (e : Ext a w) (hO : a.heap.size ≤ O) : Ext a X :=
  ⟨h.os.trans e.os, h.tape.trans e.tape, h.output.trans e.output, by rw [h.size]; exact e.size, fun j hj => (h.heap' j (by omega)).trans (e.block j hj)⟩
theorem TurnsM.ne {O : Nat} {X : World} (h : TurnsM O w X) {j : Nat} {o : Obj} (hj : w.heap[j]? = some o) (hc : o.isCells = true) : j ≠ O := fun e => by
  obtain ⟨o', h1, h2⟩ := h.was
  subst e; rw [h1] at hj; cases hj; rw [h2] at hc; cases hc
theorem TurnsM.mv {O : Nat} {X : World} (h : TurnsM O w X) (n : Nat) (hO : n ≤ O) : Mv n w X :=
  ⟨h.os, h.tape, h.output, Nat.le_of_eq h.size.symm, fun j o hj hc => (h.heap' j (h.ne hj hc)).trans hj, fun j hj _ => h.heap' j (by omega)⟩
theorem TurnsM.mv0 {O : Nat} {X : World} (h : TurnsM O w X) : Mv 0 w X := h.mv 0 (Nat.zero_le _)
theorem TurnsM.map {κ' β' : Type} {kv' : κ' → Value} {vv' : β' → Value} {l' : List (κ' × β')} {O c : Nat} {X : World} (h : TurnsM O w X) (hc : c ≠ O) (hm : MapS kv' vv' w c l') : MapS kv' vv' X c l' := hm.block (h.heap' c hc)
theorem RK.turnM {n₀ : Nat} {X : Nat → Prop} {A B C : World} (h : RK n₀ X A B) {O : Nat} (t : TurnsM O B C) (hO : O < n₀ ∨ A.heap.size ≤ O) : RK n₀ X A C := by
  refine ⟨h.kept.trans (KeptX.of_mv t.mv0), ⟨by rw [t.size]; exact h.oth.size, fun j o hj hi ho => ?_⟩⟩
  have h2 := h.oth.same j o hj hi ho
  have hne : j ≠ O := fun e => by
    subst e
    rcases hO with q | q
    · omega
    · have := (Array.getElem?_eq_some_iff.1 hi).1; omega
  rw [t.heap' j hne]; exact h2

/-! The operations. -/
theorem MapAt.find {es : Array MapEntry} {c : Nat} (h : MapAt kv vv w b l es c) (K : KLaw P k kv) (x : κ) (X : World) :
    ((Instr.findKey k (kv x) es.toList).run P X = .ok none X ∧ x ∉ l.map Prod.fst) ∨ ∃ j e p, (Instr.findKey k (kv x) es.toList).run P X = .ok (some (j, vv p.2)) X ∧ es.toList[j]? = some e ∧ l[j]? = some p ∧ p.1 = x ∧ e.key = kv x ∧ ∀ i, i < j → (l.map Prod.fst)[i]? ≠ some x := by
  rcases K.find X x (l.map Prod.fst) es.toList h.keys with q | ⟨j, e, h1, h2, h3, h4⟩
  · exact .inl q
  · obtain ⟨p, hp, he, hv⟩ := h.get h2
    rw [List.getElem?_map, hp] at h3
    simp only [Option.map_some, Option.some.injEq] at h3
    exact .inr ⟨j, e, p, by rw [h1, hv], h2, hp, h3, by rw [he, h3], h4⟩
section
variable [DecidableEq κ]
end
theorem modify_toList (es : Array MapEntry) (j : Nat) (f : MapEntry → MapEntry) {e : MapEntry} (he : es.toList[j]? = some e) : (es.modify j f).toList = es.toList.set j (f e) := by
  rw [Array.toList_modify]; exact modify_eq_set f _ j e he
theorem set_nodup {es : List MapEntry} {j : Nat} {e f : MapEntry} (he : es[j]? = some e) (hb : f.born = e.born) : (es.set j f).map (·.born) = es.map (·.born) := by
  rw [List.map_set, hb]
  refine List.ext_getElem? fun i => ?_
  rw [List.getElem?_set]
  split
  · rename_i hij; subst hij
    obtain ⟨h1, h2⟩ := List.getElem?_eq_some_iff.1 he
    rw [List.getElem?_map, he]; simp [h1]
  · rfl
theorem MapAt.set {es : Array MapEntry} {c : Nat} (h : MapAt kv vv w b l es c) {X : World} {j : Nat} {e f : MapEntry} {x : κ} {v : β} {es' : Array MapEntry} (he : es.toList[j]? = some e) (hes : es'.toList = es.toList.set j f) (hb : f.born = e.born) (hk : f.key = kv x) (hv : f.val = vv v) (hX : X.heap[b]? = some (.map es' c)) :
    MapAt kv vv X b (l.set j (x, v)) es' c := by
  have hlt := (List.getElem?_eq_some_iff.1 he).1
  refine ⟨hX, fun y hy => ?_, by rw [hes, set_nodup he hb]; exact h.born, ?_⟩
  · rw [hes] at hy
    rcases List.mem_or_eq_of_mem_set hy with hy | rfl
    · exact h.old y hy
    · rw [hb]; exact h.old e (List.mem_of_getElem? he)
  · rw [hes, List.map_set, List.map_set, h.rd]; simp [prE, prK, hk, hv]
theorem MapAt.push {es : Array MapEntry} {c : Nat} (h : MapAt kv vv w b l es c) {X : World} {x : κ} {v : β} (hX : X.heap[b]? = some (.map (es.push { key := kv x, val := vv v, born := c }) (c + 1))) :
    MapAt kv vv X b (l ++ [(x, v)]) (es.push { key := kv x, val := vv v, born := c }) (c + 1) := by
  refine ⟨hX, fun y hy => ?_, ?_, by simp [h.rd, prE, prK]⟩
  · simp only [Array.toList_push, List.mem_append, List.mem_singleton] at hy
    rcases hy with hy | rfl
    · have := h.old y hy; omega
    · show c < c + 1; omega
  · simp only [Array.toList_push, List.map_append, List.map_cons, List.map_nil]
    rw [List.nodup_append]
    refine ⟨h.born, by simp, fun a ha d hd => ?_⟩
    obtain ⟨y, hy, rfl⟩ := List.mem_map.1 ha
    simp only [List.mem_singleton] at hd
    have := h.old y hy; omega
/-- The entry at a key, with a stamp by which it is stored to. -/
structure MapE (kv : κ → Value) (vv : β → Value) (w : World) (b : Nat) (l : List (κ × β)) (j s : Nat) : Prop where
  out : ∃ es clock, MapAt kv vv w b l es clock ∧ ∃ e, es.toList[j]? = some e ∧ e.born = s
theorem MapE.block {X : World} {j s : Nat} (h : MapE kv vv w b l j s) (hX : X.heap[b]? = w.heap[b]?) : MapE kv vv X b l j s := by
  obtain ⟨es, c, h, q⟩ := h.out; exact ⟨es, c, ⟨hX.trans h.at_, h.old, h.born, h.rd⟩, q⟩
theorem MapE.lt {j s : Nat} (h : MapE kv vv w b l j s) : b < w.heap.size := by obtain ⟨es, c, h, _⟩ := h.out; exact (Array.getElem?_eq_some_iff.1 h.at_).1
theorem MapE.ext {X : World} {j s : Nat} (h : MapE kv vv w b l j s) (e : Ext w X) : MapE kv vv X b l j s := h.block (e.block b h.lt)
section
variable [DecidableEq κ]
theorem run_update {t e : TypeId} (ht : P.underlying t = some (.map k e)) (h : MapS kv vv w b l) (K : KLaw P k kv) (x : κ) (v : β) :
    ∃ X, (Instr.mapUpdate t (.map (some b)) (kv x) (vv v)).run P w = .ok () X ∧ MapS kv vv X b (updM x v l) ∧ TurnsM b w X := by
  obtain ⟨es, c, h⟩ := h
  rcases h.find K x w with ⟨h1, h2⟩ | ⟨j, e0, p, h1, h2, h3, h4, h5, h6⟩
  · refine ⟨setBlock w b (.map (es.push { key := kv x, val := vv v, born := c }) (c + 1)), ?_, ⟨es.push { key := kv x, val := vv v, born := c }, c + 1, ?_⟩, turnsM_set _ h.at_ rfl⟩
    · simp [Instr.mapUpdate, run_underlying ht, MapKept.run_getObj_map h.at_, K.check, h1, Result.andThen, MapKept.run_setObj_map _ h.at_, setBlock]
    · rw [updM_none h2]; exact h.push (heap_setBlock_same h.at_ _)
  · have h2' : es[j]? = some e0 := by simpa using h2
    refine ⟨setBlock w b (.map (es.modify j fun e => { e with key := kv x, val := vv v }) c), ?_, ⟨es.modify j fun e => { e with key := kv x, val := vv v }, c, ?_⟩, turnsM_set _ h.at_ rfl⟩
    · simp [Instr.mapUpdate, run_underlying ht, MapKept.run_getObj_map h.at_, K.check, h1, h2', h5, K.stays, Result.andThen, MapKept.run_setObj_map _ h.at_, setBlock]
    · rw [updM_at h3 h4 h6]
      exact h.set h2 (modify_toList es j _ h2) rfl rfl rfl (heap_setBlock_same h.at_ _)
end
end

/-! A range over a map. -/
section
variable {κ β : Type} {P : Program} {kv : κ → Value} {vv : β → Value} {k : TypeId} {w : World} {b r : Nat} {l left : List (κ × β)}
/-- A range over the map at b, its iterator at r; left: what is still to come. -/
structure RangeS (kv : κ → Value) (vv : β → Value) (w : World) (b r : Nat) (l left : List (κ × β)) : Prop where
  out : ∃ es clock since seen c0, MapAt kv vv w b l es clock ∧ w.heap[r]? = some (.mapIter (some b) since seen c0) ∧ (∀ x ∈ es.toList, x.born < since) ∧ since ≤ c0 ∧ since ≤ clock ∧ (leftOf es seen).toList.map prE = left.map (prK kv vv)
theorem RangeS.map (h : RangeS kv vv w b r l left) : MapS kv vv w b l := by obtain ⟨es, c, _, _, _, h, _⟩ := h.out; exact ⟨es, c, h⟩
theorem RangeS.lt (h : RangeS kv vv w b r l left) : r < w.heap.size := by obtain ⟨es, c, _, _, _, _, h, _⟩ := h.out; exact (Array.getElem?_eq_some_iff.1 h).1
theorem RangeS.blocks {X : World} (h : RangeS kv vv w b r l left) (hb : X.heap[b]? = w.heap[b]?) (hr : X.heap[r]? = w.heap[r]?) : RangeS kv vv X b r l left := by
  obtain ⟨es, c, s, sn, c0, h, q, rest⟩ := h.out; exact ⟨es, c, s, sn, c0, ⟨hb.trans h.at_, h.old, h.born, h.rd⟩, hr.trans q, rest⟩
theorem RangeS.ext {X : World} (h : RangeS kv vv w b r l left) (e : Ext w X) : RangeS kv vv X b r l left := h.blocks (e.block b h.map.lt) (e.block r h.lt)
/-- Behind a round that leaves the map and its iterator as they are. -/
theorem RangeS.kept {X : World} {n : Nat} (h : RangeS kv vv w b r l left) (hb : X.heap[b]? = w.heap[b]?) (hk : KeepsFrom n w X) (hr : n ≤ r) : RangeS kv vv X b r l left := by
  obtain ⟨es, c, s, sn, c0, h, q, rest⟩ := h.out
  exact ⟨es, c, s, sn, c0, ⟨hb.trans h.at_, h.old, h.born, h.rd⟩, hk.same r _ hr q rfl, rest⟩
theorem run_rangeS {t e : TypeId} (ht : P.underlying t = some (.map k e)) (h : MapS kv vv w b l) :
    ∃ X, (Instr.range t (.map (some b))).run P w = .ok (.pointer (some ⟨w.heap.size, 0, none⟩)) X ∧ RangeS kv vv X b w.heap.size l l ∧ Ext w X ∧ X.heap.size = w.heap.size + 1 := by
  have hlt := h.lt
  obtain ⟨es, c, h⟩ := h
  have hE : Ext w (w.alloc (.mapIter (some b) c #[] c)) := Ext.alloc (Ext.refl _) _
  exact ⟨_, run_range_map w t k e b es c ht h.at_, ⟨es, c, c, #[], c, ⟨(hE.block b hlt).trans h.at_, h.old, h.born, h.rd⟩, World.alloc_heap_new w _, h.old, Nat.le_refl _, Nat.le_refl _, by unfold leftOf; rw [Array.toList_filter, List.filter_eq_self.2 (by simp)]; exact h.rd⟩, hE, by simp⟩
theorem filter_born : ∀ {L : List MapEntry} {i : Nat} {e : MapEntry}, (L.map (·.born)).Nodup → L[i]? = some e → L.filter (fun x => !(x.born == e.born)) = L.eraseIdx i
  | [], _, _, _, h => by simp at h
  | a :: r, 0, e, hn, h => by
    simp only [List.getElem?_cons_zero, Option.some.injEq] at h
    subst h
    simp only [List.map_cons, List.nodup_cons] at hn
    rw [List.filter_cons_of_neg (by simp), List.eraseIdx_cons_zero, List.filter_eq_self]
    intro x hx
    have : x.born ≠ a.born := fun e => hn.1 (e ▸ List.mem_map_of_mem hx)
    simp [this]
  | a :: r, i + 1, e, hn, h => by
    simp only [List.map_cons, List.nodup_cons] at hn
    have h' : r[i]? = some e := by simpa using h
    have : a.born ≠ e.born := fun q => hn.1 (q ▸ List.mem_map_of_mem (List.mem_of_getElem? h'))
    rw [List.filter_cons_of_pos (by simp [this]), List.eraseIdx_cons_succ, filter_born hn.2 h']
theorem left_push {es : Array MapEntry} {seen : Array Nat} {i : Nat} {e : MapEntry} (hn : (es.toList.map (·.born)).Nodup) (he : (leftOf es seen).toList[i]? = some e) : (leftOf es (seen.push e.born)).toList = (leftOf es seen).toList.eraseIdx i := by
  have h1 : (leftOf es (seen.push e.born)).toList = (leftOf es seen).toList.filter (fun x => !(x.born == e.born)) := by
    unfold leftOf
    simp only [Array.toList_filter, List.filter_filter]
    refine List.filter_congr fun x _ => ?_
    rw [contains_push]
    cases seen.contains x.born <;> cases (x.born == e.born) <;> rfl
  rw [h1]
  refine filter_born ?_ he
  have : (leftOf es seen).toList.Sublist es.toList := by unfold leftOf; rw [Array.toList_filter]; exact List.filter_sublist
  exact (this.map _).nodup hn
theorem run_nextS (h : RangeS kv vv w b r l left) (ty : TypeId) :
    (left = [] ∧ (Instr.next (.pointer (some ⟨r, 0, none⟩)) false ty).run P w = .ok (.tuple #[.bool false]) w) ∨
    ∃ i p X, left[i]? = some p ∧ (Instr.next (.pointer (some ⟨r, 0, none⟩)) false ty).run P w = .ok (.tuple #[.bool true, kv p.1, vv p.2]) X ∧ RangeS kv vv X b r l (left.eraseIdx i) ∧ TurnsM r w X ∧
      (Instr.entry (.pointer (some ⟨r, 0, none⟩))).run P X = .ok (.tuple #[kv p.1, vv p.2]) X := by
  obtain ⟨es, c, since, seen, c0, h, hr, hold, hsc, hsk, hl⟩ := h.out
  have hne : r ≠ b := fun e => by rw [e, h.at_] at hr; cases hr
  rcases run_next_at (P := P) w ty r b since c0 seen es c hr h.at_ hold hsc with ⟨h0, hrun⟩ | ⟨e, he, w1, hal, hrun⟩
  · refine .inl ⟨?_, hrun⟩
    have : (leftOf es seen).toList = [] := by rw [Array.eq_empty_of_size_eq_zero h0]
    rw [this] at hl
    exact List.map_eq_nil_iff.1 hl.symm
  · obtain ⟨i, hi⟩ := List.getElem?_of_mem he
    have hem := (mem_left he).1
    obtain ⟨p, hp, hpe⟩ : ∃ p, left[i]? = some p ∧ prE e = prK kv vv p := by
      have := congrArg (fun q => q[i]?) hl
      simp only [List.getElem?_map, hi, Option.map_some] at this
      cases hp : left[i]? with
      | none => rw [hp] at this; cases this
      | some p => rw [hp] at this; exact ⟨p, rfl, Option.some.inj this⟩
    simp only [prE, prK, Prod.mk.injEq] at hpe
    have hr1 : w1.heap[r]? = some (.mapIter (some b) since seen c0) := by rcases hal with rfl | rfl <;> exact hr
    have hb1 : w1.heap[b]? = some (.map es c) := by rcases hal with rfl | rfl <;> exact h.at_
    have hset := heap_set (o' := .mapIter (some b) since (seen.push e.born) c) hr1
    have hb' : (setBlock w1 r (.mapIter (some b) since (seen.push e.born) c)).heap[b]? = some (.map es c) := (hset.2 b (fun e1 => hne e1.symm)).trans hb1
    refine .inr ⟨i, p, _, hp, by rw [← hpe.1, ← hpe.2]; exact hrun, ⟨es, c, since, seen.push e.born, c, ⟨hb', h.old, h.born, h.rd⟩, hset.1, hold, hsk, hsk, ?_⟩, ?_, ?_⟩
    · rw [left_push h.born hi, Go.ChangeMaps.map_eraseIdx, hl, Go.ChangeMaps.map_eraseIdx]
    · rcases hal with rfl | rfl
      · exact turnsM_set _ hr rfl
      · exact ⟨rfl, rfl, rfl, by simp [setBlock], fun j hj => hset.2 j hj, ⟨_, hr, rfl⟩⟩
    · rw [← hpe.1, ← hpe.2]
      exact run_entry_at _ r b since seen es c e hset.1 hb' hem h.born
end

/-! At the operations. -/
section
variable {P : Program} {ev : Operand → Value} {o : Oper} {w X : World} {N : Value → World → Prop}
theorem sn_map {κ β : Type} (kv : κ → Value) (vv : β → Value) (h1 : (execOp ev o).run P w = .ok (.value (.map (some w.heap.size))) (w.alloc (.map #[] 0)))
    (h : ∀ O X, w.heap.size = O → X.heap.size = O + 1 → Ext w X → MapS kv vv X O [] → N (.map (some O)) X) : StepN P ev o w N :=
  sn_eff h1 (h _ _ rfl (by simp) (Ext.alloc (Ext.refl _) _) (MapS.made w))
theorem ex_mapU {t : TypeId} {m x y : Operand} {mv kx vx : Value} (hop : o.op = .mapUpdate t m x y) (hm : ev m = mv) (hx : ev x = kx) (hy : ev y = vx) (h : (Instr.mapUpdate t mv kx vx).run P w = .ok () X) : (execOp ev o).run P w = .ok .skip X := by
  simp [execOp, hop, hm, hx, hy, h, Result.andThen]
theorem ex_range {t : TypeId} {m : Operand} {mv v : Value} (hop : o.op = .range t m) (hm : ev m = mv) (h : (Instr.range t mv).run P w = .ok v X) : (execOp ev o).run P w = .ok (.value v) X := by
  simp [execOp, hop, hm, h, Result.andThen]
theorem ex_next {i : Operand} {iv v : Value} (hop : o.op = .next i false) (hm : ev i = iv) (h : (Instr.next iv false o.type).run P w = .ok v X) : (execOp ev o).run P w = .ok (.value v) X := by
  simp [execOp, hop, hm, h, Result.andThen]
theorem ex_entry {i : Operand} {iv v : Value} (hop : o.op = .entry i) (hm : ev i = iv) (h : (Instr.entry iv).run P w = .ok v X) : (execOp ev o).run P w = .ok (.value v) X := by
  simp [execOp, hop, hm, h, Result.andThen]
end
/-! What is asked of keys that are structs or arrays. -/
section
variable {κ : Type} [DecidableEq κ] {P : Program} {k : TypeId} {kv : κ → Value} {w : World}
theorem find_ask (heq : ∀ (w : World) (a b : κ), (Op.equal k (kv a) (kv b)).run P w = .ok (decide (a = b)) w) (x : κ) : ∀ (ks : List κ) (es : List MapEntry) (i : Nat), es.map (·.key) = ks.map kv →
    ((Instr.findAsking k (kv x) es i).run P w = .ok none w ∧ x ∉ ks) ∨ ∃ j e, (Instr.findAsking k (kv x) es i).run P w = .ok (some (i + j, e.val)) w ∧ es[j]? = some e ∧ ks[j]? = some x ∧ ∀ q, q < j → ks[q]? ≠ some x
  | [], [], i, _ => .inl ⟨by simp [Instr.findAsking], by simp⟩
  | [], _ :: _, _, h => by simp at h
  | _ :: _, [], _, h => by simp at h
  | y :: ks, e :: es, i, h => by
    simp only [List.map_cons, List.cons.injEq] at h
    have he : (Op.equal k (kv x) e.key).run P w = .ok (decide (x = y)) w := by rw [h.1]; exact heq w x y
    by_cases hxy : x = y
    · subst hxy
      exact .inr ⟨0, e, by simp [Instr.findAsking, he, Result.andThen], rfl, rfl, fun q hq => by omega⟩
    · have hrun : (Instr.findAsking k (kv x) (e :: es) i).run P w = (Instr.findAsking k (kv x) es (i + 1)).run P w := by simp [Instr.findAsking, he, hxy, Result.andThen]
      rcases find_ask heq x ks es (i + 1) h.2 with ⟨h1, h2⟩ | ⟨j, e', h1, h2, h3, h4⟩
      · exact .inl ⟨hrun.trans h1, by simp [hxy, h2]⟩
      · refine .inr ⟨j + 1, e', by rw [hrun, h1, show i + 1 + j = i + (j + 1) by omega], by simpa using h2, by simpa using h3, fun q hq => ?_⟩
        cases q with
        | zero => simpa using fun e : y = x => hxy e.symm
        | succ q => simpa using h4 q (by omega)
theorem klaw_of {d : TypeDesc} (hu : P.underlying k = some d) (hd : ∀ a b : Value, Instr.sameNow d a b = none) (inj : ∀ {a b : κ}, kv a = kv b → a = b) (check : ∀ (w : World) (em : Bool) (a : κ), (Instr.checkKey em 10000 k (kv a)).run P w = .ok () w)
    (heq : ∀ (w : World) (a b : κ), (Op.equal k (kv a) (kv b)).run P w = .ok (decide (a = b)) w) (hs : ∀ a : κ, Instr.sameBits 10000 (kv a) (kv a) = true) : KLaw P k kv where
  inj := inj
  check := check
  stays w a := by simp [Instr.keyThatStays, hs a]
  find w x ks es h := by
    cases es with
    | nil =>
      have : ks = [] := by simpa using h.symm
      subst this
      exact .inl ⟨by simp [Instr.findKey, run_underlying hu, Instr.findNow, Result.andThen], by simp⟩
    | cons e es =>
      have hrun : (Instr.findKey k (kv x) (e :: es)).run P w = (Instr.findAsking k (kv x) (e :: es) 0).run P w := by simp [Instr.findKey, run_underlying hu, Instr.findNow, hd, Result.andThen]
      rcases find_ask heq x ks (e :: es) 0 h (w := w) with ⟨h1, h2⟩ | ⟨j, e', h1, h2⟩
      · exact .inl ⟨hrun.trans h1, h2⟩
      · exact .inr ⟨j, e', by rw [hrun, h1, Nat.zero_add], h2⟩
end

/-! A range over a function that yields the members of a list, in an order that is not known ahead. -/
section
variable {κ : Type}
def SeqL (P : Program) (g : Nat) (lb : Array Value) (enc : κ → List Value) (Pre : List κ → κ → Prop) (All : List κ → Prop) (X : Nat → Prop) (M : World → Prop) (w : World) : Prop :=
  ∀ (l : Nat) (J : List κ → World → Prop) (W : World), Ext w W → (∀ s A B, J s A → Mv W.heap.size A B → J s B) → (∀ s A, J s A → M A) →
    (∀ s x W1 m, J s W1 → Pre s x → YieldAt Fence.wide m P l (enc x).toArray W1 fun e W' => e = .returned (.bool true) ∧ J (s ++ [x]) W' ∧ KeptX X W1 W' ∧ KeepsFrom W.heap.size W1 W') →
    J [] W → ∀ n, CallsIn Fence.wide n P g (#[.func (.yield l) #[] #[]] ++ lb) W fun e W' => (∃ v, e = .returned v) ∧ ∃ s, All s ∧ J s W'
theorem Mv.mono {n n' : Nat} {A B : World} (h : Mv n A B) (hn : n' ≤ n) : Mv n' A B := ⟨h.os, h.tape, h.output, h.size, h.cells, fun k hk hl => h.below k (by omega) hl⟩
theorem keepsMono {n n' : Nat} {A B : World} (h : KeepsFrom n A B) (hn : n ≤ n') : KeepsFrom n' A B := ⟨h.size, fun k o hk => h.same k o (by omega)⟩
theorem keepsPut {n k : Nat} {A : World} (o : Obj) (hk : k < n) : KeepsFrom n A (A.putObj k o) := ⟨by simp, fun j u hj hu _ => (World.putObj_heap_other (by omega)).trans hu⟩
variable {P : Program} {n : Nat} {L : List Value} {ws : List (Nat × Value)} {w : World} {Q : Exit → Act → World → Prop} {m : Nat} {Ds : List Nat}
/-- How a round of such a range ends. -/
def RndL (n₀ : Nat) (X : Nat → Prop) (Inv : List κ → World → Prop) (s : List κ) (x : κ) (W : World) : Exit → Act → World → Prop
  | .normal, _, W' => RK n₀ X W W' ∧ Inv (s ++ [x]) W'
  | _, _, _ => False
def AsgL (P : Program) (l k n₀ : Nat) (X : Nat → Prop) (body : Code) (Inv : List κ → World → Prop) (s : List κ) (x : κ) (W : World) : Exit → Act → World → Prop
  | .normal, a, w1 => RK n₀ X W w1 ∧ ∀ w2, Mv n₀ w1 w2 → body.wpIn (FR (some l)) k P (RndL n₀ X Inv s x w2) a w2
  | _, _, _ => False
theorem icw_rangeL {g : Operand} {ps : List Nat} {assign body : Code} {gf : Nat} {lb : Array Value} (hg : evalW L ws g = .func (.func gf) #[] lb) (eg : ∀ args w, (callFunc gf args).run P w = .ok (.enter gf args) w)
    {enc : κ → List Value} {Pre : List κ → κ → Prop} {All : List κ → Prop} {X : Nat → Prop} {M : World → Prop} {w0 : World} (hseq : SeqL P gf lb enc Pre All X M w0) (hb0 : Ext w0 w) (hps : ∀ x, (enc x).length = ps.length) (hpn : ps.all (fun p => Nat.blt p n) = true)
    (Inv : List κ → World → Prop) (hI : ∀ s A B, Inv s A → Mv w.heap.size A B → Inv s B) (hM : ∀ s A, Inv s A → M A) (h0 : Inv [] w)
    (round : ∀ l k s x W, Pre s x → Inv s W → ICW P (some l) k [] assign (AsgL P l k w.heap.size X body Inv s x W) n L (zipW ps (enc x) ws) W)
    (done : ∀ D W s, w.heap.size ≤ D → D < W.heap.size → All s → Inv s W → W.heap[D]? = some (.deferred (some [])) → IQW (D :: Ds) Q .normal n L ws W) :
    ICW P none m Ds (.rangeFunc g ps.toArray assign body) Q n L ws w := ⟨fun b => by
  have hgv : Act.eval ⟨(setAll L ws).toArray, marks Ds⟩ g = .func (.func gf) #[] lb := by rw [eval_W b.lt]; exact hg
  show (Code.rangeFunc g ps.toArray assign body).wpIn Fence.wide m P Q ⟨(setAll L ws).toArray, marks Ds⟩ w
  refine wpIn_rangeFunc fun fn hfn => ?_
  let R := recOf ⟨(setAll L ws).toArray, marks Ds⟩ ps.toArray assign body fn w.heap.size
  let W1 := (w.alloc (.deferred (some []))).alloc (.loop (R .ready none))
  have sz : W1.heap.size = w.heap.size + 2 := by simp [W1]
  have hL1 : W1.heap[w.heap.size + 1]? = some (.loop (R .ready none)) := by
    have := World.alloc_heap_new (w.alloc (.deferred (some []))) (.loop (R .ready none))
    rwa [World.size_alloc] at this
  have hK1 : W1.heap[w.heap.size]? = some (.deferred (some [])) := (Below.heap_alloc _ _ _ (by simp)).trans (World.alloc_heap_new w _)
  have hE1 : Ext w W1 := ((Ext.refl w).alloc _).alloc _
  refine ⟨w.heap.size + 1, [{ target := .collected w.heap.size, args := #[] }], W1, { target := .fn (.func gf) lb, args := #[.func (.yield (w.heap.size + 1)) #[] #[]] }, W1, gf, #[.func (.yield (w.heap.size + 1)) #[] #[]] ++ lb, W1,
    run_enterLoop_outer _ _ _ _ _, ?_, fun _ _ => trivial, by simp [invoke, go_sem, eg], fun h => by simp [Fence.wide] at h, ?_⟩
  · have hgv' : Act.eval ⟨(setAll L ws).toArray, marks Ds⟩ g = .func (.func gf) #[] lb := hgv
    simp only [resolve, hgv']; simp [go_sem]
  refine (hseq (w.heap.size + 1)
    (fun s W => Inv s W ∧ W.heap[w.heap.size + 1]? = some (.loop (R .ready none)) ∧ W.heap[w.heap.size]? = some (.deferred (some [])))
    W1 (hb0.trans hE1)
    (fun s A B hs e => ⟨hI s A B hs.1 (e.mono (by omega)), (e.below _ (by omega) (Array.getElem?_eq_some_iff.1 hs.2.1).1).trans hs.2.1, (e.below _ (by omega) (Array.getElem?_eq_some_iff.1 hs.2.2).1).trans hs.2.2⟩)
    (fun s A hs => hM s A hs.1)
    ?_ ⟨hI [] w W1 h0 (Mv.of_ext hE1), hL1, hK1⟩ _).mono ?_
  · rintro s x W k ⟨hInv, hl, hk⟩ hpre
    have hlt := (Array.getElem?_eq_some_iff.1 hl).1
    have hsz : (enc x).toArray.size = ps.toArray.size := by simp [hps x]
    refine ⟨fn, _, assign, body, run_yield (P := P) (args := (enc x).toArray) hl hsz, roundIn_of_wpIn (F := Fence.wide) hfn ?_⟩
    have hround := (round (w.heap.size + 1) k s x W hpre hInv).out (zip_bd b hpn)
    have e0 : (⟨(setAll L (zipW ps (enc x) ws)).toArray, marks []⟩ : Act) = { tmps := (ps.toArray.zip (enc x).toArray).foldl (fun t (p, v) => t.setIfInBounds p v) (setAll L ws).toArray, defers := [] } := by rw [zip_set]; rfl
    rw [e0] at hround
    refine Go.wpIn_mono hround fun e a1 w1 hp => ?_
    cases e with
    | normal =>
      obtain ⟨hk1, hbody⟩ := hp
      have hl1 := hk1.oth.same _ _ (by omega) hl rfl
      have hkk := hk1.oth.same _ _ (Nat.le_refl _) hk rfl
      have hlt1 := (Array.getElem?_eq_some_iff.1 hl1).1
      refine ⟨_, run_beginRound hl1 rfl, ?_⟩
      let W2 := w1.putObj (w.heap.size + 1) (.loop (R .busy none))
      have hm2 : Mv w.heap.size w1 W2 := Mv.putObj _ (by omega) hl1 rfl
      have hl2 : W2.heap[w.heap.size + 1]? = some (.loop (R .busy none)) := World.putObj_heap_same hlt1
      have hk2 : W2.heap[w.heap.size]? = some (.deferred (some [])) := (World.putObj_heap_other (by omega)).trans hkk
      refine Go.wpIn_mono (hbody W2 hm2) fun e a3 W3 hp => ?_
      cases e with
      | normal =>
        obtain ⟨h3, hi3⟩ := hp
        have hl3 := h3.oth.same _ _ (by omega) hl2 rfl
        have hm3 : Mv w.heap.size W3 (W3.putObj (w.heap.size + 1) (.loop (R .ready none))) := Mv.putObj _ (by omega) hl3 rfl
        refine ⟨_, _, run_endRound (P := P) none hl3, rfl, ⟨hI _ _ _ hi3 hm3, World.putObj_heap_same (Array.getElem?_eq_some_iff.1 hl3).1, (World.putObj_heap_other (by omega)).trans (h3.oth.same _ _ (Nat.le_refl _) hk2 rfl)⟩, ((hk1.kept.trans (KeptX.of_mv hm2)).trans h3.kept).trans (KeptX.of_mv hm3), ?_⟩
        exact (((keepsMono hk1.oth (by omega)).trans (keepsPut _ (by omega))).trans (keepsMono h3.oth (by omega))).trans (keepsPut _ (by omega))
      | ret => exact hp.elim
      | exit _ => exact hp.elim
      | goto _ => exact hp.elim
      | panic _ => exact hp.elim
      | outgrown => exact hp.elim
    | exit _ => exact hp.elim
    | ret => exact hp.elim
    | goto _ => exact hp.elim
    | panic _ => exact hp.elim
    | outgrown => exact hp.elim
  · rintro e W2 ⟨⟨v, rfl⟩, s, hs, hi, hl, hk⟩
    exact ⟨none, _, run_endLoop (P := P) hl (by simp [R, recOf]), (done w.heap.size _ s (Nat.le_refl _) (by have := (Array.getElem?_eq_some_iff.1 hk).1; simpa using this) hs (hI _ _ _ hi (Mv.putObj _ (by omega) hl rfl)) ((World.putObj_heap_other (by omega)).trans hk)).out b⟩⟩
theorem iqw_asgL {l k n₀ : Nat} {X : Nat → Prop} {body : Code} {Inv : List κ → World → Prop} {s : List κ} {x : κ} {W : World} (hk : RK n₀ X W w) (h : ∀ W2, Mv n₀ w W2 → ICW P (some l) k [] body (RndL n₀ X Inv s x W2) n L ws W2) : IQW [] (AsgL P l k n₀ X body Inv s x W) .normal n L ws w :=
  ⟨fun b => ⟨hk, fun w2 hm => (h w2 hm).out b⟩⟩
theorem iqw_nextL {n₀ : Nat} {X : Nat → Prop} {Inv : List κ → World → Prop} {s : List κ} {x : κ} {W : World} (hk : RK n₀ X W w) (h : Inv (s ++ [x]) w) : IQW Ds (RndL n₀ X Inv s x W) .normal n L ws w := ⟨fun _ => ⟨hk, h⟩⟩
end

end Go.Proofs.YtdjjkhefdalokaaDoor

/- Loads, stores, indices and slices at the types of this seat. -/
namespace Go.Proofs.YtdjjkhefdalokaaDoor
open Go.RowKit

theorem ix37 {w : World} {b o n c k : Nat} (hk : k < n) : (Instr.indexAt 37 (.slice (some ⟨b, o, none⟩) n c) (.int .i64 (k : Int))).run Tryd.prog w = .ok (.pointer (some ⟨b, o + k, none⟩)) w := by
  have : (0 : Int) ≤ (k : Int) := by omega
  have : (k : Int) < (n : Int) := by omega
  go_simp
theorem ix37z {w : World} {b n c k : Nat} (hk : k < n) : (Instr.indexAt 37 (.slice (some ⟨b, 0, none⟩) n c) (.int .i64 (k : Int))).run Tryd.prog w = .ok (.pointer (some ⟨b, k, none⟩)) w := by
  have h := ix37 (w := w) (b := b) (o := 0) (c := c) hk
  rwa [Nat.zero_add] at h
theorem ix76 {w : World} {b o n c k : Nat} (hk : k < n) : (Instr.indexAt 76 (.slice (some ⟨b, o, none⟩) n c) (.int .i64 (k : Int))).run Tryd.prog w = .ok (.pointer (some ⟨b, o + k * 2, none⟩)) w := by
  have : (0 : Int) ≤ (k : Int) := by omega
  have : (k : Int) < (n : Int) := by omega
  go_simp
theorem ix76z {w : World} {b n c k : Nat} (hk : k < n) : (Instr.indexAt 76 (.slice (some ⟨b, 0, none⟩) n c) (.int .i64 (k : Int))).run Tryd.prog w = .ok (.pointer (some ⟨b, k * 2, none⟩)) w := by
  have h := ix76 (w := w) (b := b) (o := 0) (c := c) hk
  rwa [Nat.zero_add] at h
theorem ld101 {w : World} {b o : Nat} {x0 : Value} (h0 : w.cell? ⟨b, o, none⟩ = some x0) : (Instr.loadAt 101 (.pointer (some ⟨b, o, none⟩))).run Tryd.prog w = .ok (x0) w := by go_simp
theorem ld22 {w : World} {b o : Nat} {x0 x1 x2 x3 x4 x5 x6 : Value} (h0 : w.cell? ⟨b, o, none⟩ = some x0) (h1 : w.cell? ⟨b, o + 1, none⟩ = some x1) (h2 : w.cell? ⟨b, o + 2, none⟩ = some x2) (h3 : w.cell? ⟨b, o + 3, none⟩ = some x3) (h4 : w.cell? ⟨b, o + 4, none⟩ = some x4) (h5 : w.cell? ⟨b, o + 5, none⟩ = some x5) (h6 : w.cell? ⟨b, o + 6, none⟩ = some x6) : (Instr.loadAt 22 (.pointer (some ⟨b, o, none⟩))).run Tryd.prog w = .ok (.agg #[x0, x1, x2, x3, x4, x5, x6]) w := by go_simp
theorem ld23 {w : World} {b o : Nat} {x0 x1 : Value} (h0 : w.cell? ⟨b, o, none⟩ = some x0) (h1 : w.cell? ⟨b, o + 1, none⟩ = some x1) : (Instr.loadAt 23 (.pointer (some ⟨b, o, none⟩))).run Tryd.prog w = .ok (.agg #[x0, x1]) w := by go_simp
theorem ld26 {w : World} {b o : Nat} {x0 x1 x2 x3 x4 x5 x6 : Value} (h0 : w.cell? ⟨b, o, none⟩ = some x0) (h1 : w.cell? ⟨b, o + 1, none⟩ = some x1) (h2 : w.cell? ⟨b, o + 2, none⟩ = some x2) (h3 : w.cell? ⟨b, o + 3, none⟩ = some x3) (h4 : w.cell? ⟨b, o + 4, none⟩ = some x4) (h5 : w.cell? ⟨b, o + 5, none⟩ = some x5) (h6 : w.cell? ⟨b, o + 6, none⟩ = some x6) : (Instr.loadAt 26 (.pointer (some ⟨b, o, none⟩))).run Tryd.prog w = .ok (.agg #[x0, x1, x2, x3, x4, x5, x6]) w := by go_simp
theorem ld29 {w : World} {b o : Nat} {x0 x1 : Value} (h0 : w.cell? ⟨b, o, none⟩ = some x0) (h1 : w.cell? ⟨b, o + 1, none⟩ = some x1) : (Instr.loadAt 29 (.pointer (some ⟨b, o, none⟩))).run Tryd.prog w = .ok (.agg #[x0, x1]) w := by go_simp
theorem ld3 {w : World} {b o : Nat} {x0 : Value} (h0 : w.cell? ⟨b, o, none⟩ = some x0) : (Instr.loadAt 3 (.pointer (some ⟨b, o, none⟩))).run Tryd.prog w = .ok (x0) w := by go_simp
theorem ld33 {w : World} {b o : Nat} {x0 x1 : Value} (h0 : w.cell? ⟨b, o, none⟩ = some x0) (h1 : w.cell? ⟨b, o + 1, none⟩ = some x1) : (Instr.loadAt 33 (.pointer (some ⟨b, o, none⟩))).run Tryd.prog w = .ok (.agg #[x0, x1]) w := by go_simp
theorem ld37 {w : World} {b o : Nat} {x0 : Value} (h0 : w.cell? ⟨b, o, none⟩ = some x0) : (Instr.loadAt 37 (.pointer (some ⟨b, o, none⟩))).run Tryd.prog w = .ok (x0) w := by go_simp
theorem ld39 {w : World} {b o : Nat} {x0 : Value} (h0 : w.cell? ⟨b, o, none⟩ = some x0) : (Instr.loadAt 39 (.pointer (some ⟨b, o, none⟩))).run Tryd.prog w = .ok (.agg #[x0]) w := by go_simp
theorem ld43 {w : World} {b o : Nat} {x0 x1 : Value} (h0 : w.cell? ⟨b, o, none⟩ = some x0) (h1 : w.cell? ⟨b, o + 1, none⟩ = some x1) : (Instr.loadAt 43 (.pointer (some ⟨b, o, none⟩))).run Tryd.prog w = .ok (.agg #[x0, x1]) w := by go_simp
theorem ld61 {w : World} {b o : Nat} {x0 x1 x2 x3 x4 x5 x6 x7 : Value} (h0 : w.cell? ⟨b, o, none⟩ = some x0) (h1 : w.cell? ⟨b, o + 1, none⟩ = some x1) (h2 : w.cell? ⟨b, o + 2, none⟩ = some x2) (h3 : w.cell? ⟨b, o + 3, none⟩ = some x3) (h4 : w.cell? ⟨b, o + 4, none⟩ = some x4) (h5 : w.cell? ⟨b, o + 5, none⟩ = some x5) (h6 : w.cell? ⟨b, o + 6, none⟩ = some x6) (h7 : w.cell? ⟨b, o + 7, none⟩ = some x7) : (Instr.loadAt 61 (.pointer (some ⟨b, o, none⟩))).run Tryd.prog w = .ok (.agg #[x0, x1, x2, x3, x4, x5, x6, x7]) w := by go_simp
theorem ld67 {w : World} {b o : Nat} {x0 : Value} (h0 : w.cell? ⟨b, o, none⟩ = some x0) : (Instr.loadAt 67 (.pointer (some ⟨b, o, none⟩))).run Tryd.prog w = .ok (x0) w := by go_simp
theorem ld68 {w : World} {b o : Nat} {x0 : Value} (h0 : w.cell? ⟨b, o, none⟩ = some x0) : (Instr.loadAt 68 (.pointer (some ⟨b, o, none⟩))).run Tryd.prog w = .ok (x0) w := by go_simp
theorem ld70 {w : World} {b o : Nat} {x0 : Value} (h0 : w.cell? ⟨b, o, none⟩ = some x0) : (Instr.loadAt 70 (.pointer (some ⟨b, o, none⟩))).run Tryd.prog w = .ok (x0) w := by go_simp
theorem ld76 {w : World} {b o : Nat} {x0 : Value} (h0 : w.cell? ⟨b, o, none⟩ = some x0) : (Instr.loadAt 76 (.pointer (some ⟨b, o, none⟩))).run Tryd.prog w = .ok (x0) w := by go_simp
theorem ld89 {w : World} {b o : Nat} {x0 : Value} (h0 : w.cell? ⟨b, o, none⟩ = some x0) : (Instr.loadAt 89 (.pointer (some ⟨b, o, none⟩))).run Tryd.prog w = .ok (x0) w := by go_simp
theorem ld90 {w : World} {b o : Nat} {x0 : Value} (h0 : w.cell? ⟨b, o, none⟩ = some x0) : (Instr.loadAt 90 (.pointer (some ⟨b, o, none⟩))).run Tryd.prog w = .ok (x0) w := by go_simp
theorem ld92 {w : World} {b o : Nat} {x0 : Value} (h0 : w.cell? ⟨b, o, none⟩ = some x0) : (Instr.loadAt 92 (.pointer (some ⟨b, o, none⟩))).run Tryd.prog w = .ok (x0) w := by go_simp
theorem sn_setK3 {ev : Operand → Value} {oi : Oper} {w : World} {N : Value → World → Prop} {O j : Nat} {u0 v0 u1 v1 u2 v2 : Value} (h1 : (execOp ev oi).run Tryd.prog w = .ok .skip (((w.setCell ⟨O, j, none⟩ v0).setCell ⟨O, j + 1, none⟩ v1).setCell ⟨O, j + 2, none⟩ v2)) (b0 : BoxAt w O j u0) (b1 : BoxAt w O (j + 1) u1) (b2 : BoxAt w O (j + 2) u2)
    (h : ∀ X, Turns O w X → BoxAt X O j v0 → BoxAt X O (j + 1) v1 → BoxAt X O (j + 2) v2 → (∀ i x, i ≠ j → i ≠ (j + 1) → i ≠ (j + 2) → BoxAt w O i x → BoxAt X O i x) → N undef X) : StepN Tryd.prog ev oi w N := by
  have k : ∀ (W : World) (j : Nat) (u v : Value), BoxAt W O j u → BoxAt (W.setCell ⟨O, j, none⟩ v) O j v := fun W j u v hO => ⟨by have := hO.1; simp [go_sem, this], by have := hO.2; simpa [go_sem] using this⟩
  have k2 : ∀ (W : World) (j i : Nat) (x v : Value), i ≠ j → BoxAt W O i x → BoxAt (W.setCell ⟨O, j, none⟩ v) O i x := fun W j i x v hi hx => ⟨by rw [World.cell?_setCell_other W _ _ _ (fun e => hi (congrArg Addr.off e).symm)]; exact hx.1, by simp [go_sem, hx.2]⟩
  exact sn_skp h1 (h _ (((turns_set _ _ _ _).trans (turns_set _ _ _ _)).trans (turns_set _ _ _ _)) (k2 _ _ _ _ _ (by omega) (k2 _ _ _ _ _ (by omega) (k _ _ _ _ b0))) (k2 _ _ _ _ _ (by omega) (k _ _ _ _ (k2 _ _ _ _ _ (by omega) b1))) (k _ _ _ _ (k2 _ _ _ _ _ (by omega) (k2 _ _ _ _ _ (by omega) b2))) fun i x h0 h1 h2 hx => (k2 _ _ _ _ _ h2 (k2 _ _ _ _ _ h1 (k2 _ _ _ _ _ h0 hx))))
theorem sn_setK7 {ev : Operand → Value} {oi : Oper} {w : World} {N : Value → World → Prop} {O j : Nat} {u0 v0 u1 v1 u2 v2 u3 v3 u4 v4 u5 v5 u6 v6 : Value} (h1 : (execOp ev oi).run Tryd.prog w = .ok .skip (((((((w.setCell ⟨O, j, none⟩ v0).setCell ⟨O, j + 1, none⟩ v1).setCell ⟨O, j + 2, none⟩ v2).setCell ⟨O, j + 3, none⟩ v3).setCell ⟨O, j + 4, none⟩ v4).setCell ⟨O, j + 5, none⟩ v5).setCell ⟨O, j + 6, none⟩ v6)) (b0 : BoxAt w O j u0) (b1 : BoxAt w O (j + 1) u1) (b2 : BoxAt w O (j + 2) u2) (b3 : BoxAt w O (j + 3) u3) (b4 : BoxAt w O (j + 4) u4) (b5 : BoxAt w O (j + 5) u5) (b6 : BoxAt w O (j + 6) u6)
    (h : ∀ X, Turns O w X → BoxAt X O j v0 → BoxAt X O (j + 1) v1 → BoxAt X O (j + 2) v2 → BoxAt X O (j + 3) v3 → BoxAt X O (j + 4) v4 → BoxAt X O (j + 5) v5 → BoxAt X O (j + 6) v6 → (∀ i x, i ≠ j → i ≠ (j + 1) → i ≠ (j + 2) → i ≠ (j + 3) → i ≠ (j + 4) → i ≠ (j + 5) → i ≠ (j + 6) → BoxAt w O i x → BoxAt X O i x) → N undef X) : StepN Tryd.prog ev oi w N := by
  have k : ∀ (W : World) (j : Nat) (u v : Value), BoxAt W O j u → BoxAt (W.setCell ⟨O, j, none⟩ v) O j v := fun W j u v hO => ⟨by have := hO.1; simp [go_sem, this], by have := hO.2; simpa [go_sem] using this⟩
  have k2 : ∀ (W : World) (j i : Nat) (x v : Value), i ≠ j → BoxAt W O i x → BoxAt (W.setCell ⟨O, j, none⟩ v) O i x := fun W j i x v hi hx => ⟨by rw [World.cell?_setCell_other W _ _ _ (fun e => hi (congrArg Addr.off e).symm)]; exact hx.1, by simp [go_sem, hx.2]⟩
  exact sn_skp h1 (h _ (((((((turns_set _ _ _ _).trans (turns_set _ _ _ _)).trans (turns_set _ _ _ _)).trans (turns_set _ _ _ _)).trans (turns_set _ _ _ _)).trans (turns_set _ _ _ _)).trans (turns_set _ _ _ _)) (k2 _ _ _ _ _ (by omega) (k2 _ _ _ _ _ (by omega) (k2 _ _ _ _ _ (by omega) (k2 _ _ _ _ _ (by omega) (k2 _ _ _ _ _ (by omega) (k2 _ _ _ _ _ (by omega) (k _ _ _ _ b0))))))) (k2 _ _ _ _ _ (by omega) (k2 _ _ _ _ _ (by omega) (k2 _ _ _ _ _ (by omega) (k2 _ _ _ _ _ (by omega) (k2 _ _ _ _ _ (by omega) (k _ _ _ _ (k2 _ _ _ _ _ (by omega) b1))))))) (k2 _ _ _ _ _ (by omega) (k2 _ _ _ _ _ (by omega) (k2 _ _ _ _ _ (by omega) (k2 _ _ _ _ _ (by omega) (k _ _ _ _ (k2 _ _ _ _ _ (by omega) (k2 _ _ _ _ _ (by omega) b2))))))) (k2 _ _ _ _ _ (by omega) (k2 _ _ _ _ _ (by omega) (k2 _ _ _ _ _ (by omega) (k _ _ _ _ (k2 _ _ _ _ _ (by omega) (k2 _ _ _ _ _ (by omega) (k2 _ _ _ _ _ (by omega) b3))))))) (k2 _ _ _ _ _ (by omega) (k2 _ _ _ _ _ (by omega) (k _ _ _ _ (k2 _ _ _ _ _ (by omega) (k2 _ _ _ _ _ (by omega) (k2 _ _ _ _ _ (by omega) (k2 _ _ _ _ _ (by omega) b4))))))) (k2 _ _ _ _ _ (by omega) (k _ _ _ _ (k2 _ _ _ _ _ (by omega) (k2 _ _ _ _ _ (by omega) (k2 _ _ _ _ _ (by omega) (k2 _ _ _ _ _ (by omega) (k2 _ _ _ _ _ (by omega) b5))))))) (k _ _ _ _ (k2 _ _ _ _ _ (by omega) (k2 _ _ _ _ _ (by omega) (k2 _ _ _ _ _ (by omega) (k2 _ _ _ _ _ (by omega) (k2 _ _ _ _ _ (by omega) (k2 _ _ _ _ _ (by omega) b6))))))) fun i x h0 h1 h2 h3 h4 h5 h6 hx => (k2 _ _ _ _ _ h6 (k2 _ _ _ _ _ h5 (k2 _ _ _ _ _ h4 (k2 _ _ _ _ _ h3 (k2 _ _ _ _ _ h2 (k2 _ _ _ _ _ h1 (k2 _ _ _ _ _ h0 hx))))))))
theorem sn_setK8 {ev : Operand → Value} {oi : Oper} {w : World} {N : Value → World → Prop} {O j : Nat} {u0 v0 u1 v1 u2 v2 u3 v3 u4 v4 u5 v5 u6 v6 u7 v7 : Value} (h1 : (execOp ev oi).run Tryd.prog w = .ok .skip ((((((((w.setCell ⟨O, j, none⟩ v0).setCell ⟨O, j + 1, none⟩ v1).setCell ⟨O, j + 2, none⟩ v2).setCell ⟨O, j + 3, none⟩ v3).setCell ⟨O, j + 4, none⟩ v4).setCell ⟨O, j + 5, none⟩ v5).setCell ⟨O, j + 6, none⟩ v6).setCell ⟨O, j + 7, none⟩ v7)) (b0 : BoxAt w O j u0) (b1 : BoxAt w O (j + 1) u1) (b2 : BoxAt w O (j + 2) u2) (b3 : BoxAt w O (j + 3) u3) (b4 : BoxAt w O (j + 4) u4) (b5 : BoxAt w O (j + 5) u5) (b6 : BoxAt w O (j + 6) u6) (b7 : BoxAt w O (j + 7) u7)
    (h : ∀ X, Turns O w X → BoxAt X O j v0 → BoxAt X O (j + 1) v1 → BoxAt X O (j + 2) v2 → BoxAt X O (j + 3) v3 → BoxAt X O (j + 4) v4 → BoxAt X O (j + 5) v5 → BoxAt X O (j + 6) v6 → BoxAt X O (j + 7) v7 → (∀ i x, i ≠ j → i ≠ (j + 1) → i ≠ (j + 2) → i ≠ (j + 3) → i ≠ (j + 4) → i ≠ (j + 5) → i ≠ (j + 6) → i ≠ (j + 7) → BoxAt w O i x → BoxAt X O i x) → N undef X) : StepN Tryd.prog ev oi w N := by
  have k : ∀ (W : World) (j : Nat) (u v : Value), BoxAt W O j u → BoxAt (W.setCell ⟨O, j, none⟩ v) O j v := fun W j u v hO => ⟨by have := hO.1; simp [go_sem, this], by have := hO.2; simpa [go_sem] using this⟩
  have k2 : ∀ (W : World) (j i : Nat) (x v : Value), i ≠ j → BoxAt W O i x → BoxAt (W.setCell ⟨O, j, none⟩ v) O i x := fun W j i x v hi hx => ⟨by rw [World.cell?_setCell_other W _ _ _ (fun e => hi (congrArg Addr.off e).symm)]; exact hx.1, by simp [go_sem, hx.2]⟩
  exact sn_skp h1 (h _ ((((((((turns_set _ _ _ _).trans (turns_set _ _ _ _)).trans (turns_set _ _ _ _)).trans (turns_set _ _ _ _)).trans (turns_set _ _ _ _)).trans (turns_set _ _ _ _)).trans (turns_set _ _ _ _)).trans (turns_set _ _ _ _)) (k2 _ _ _ _ _ (by omega) (k2 _ _ _ _ _ (by omega) (k2 _ _ _ _ _ (by omega) (k2 _ _ _ _ _ (by omega) (k2 _ _ _ _ _ (by omega) (k2 _ _ _ _ _ (by omega) (k2 _ _ _ _ _ (by omega) (k _ _ _ _ b0)))))))) (k2 _ _ _ _ _ (by omega) (k2 _ _ _ _ _ (by omega) (k2 _ _ _ _ _ (by omega) (k2 _ _ _ _ _ (by omega) (k2 _ _ _ _ _ (by omega) (k2 _ _ _ _ _ (by omega) (k _ _ _ _ (k2 _ _ _ _ _ (by omega) b1)))))))) (k2 _ _ _ _ _ (by omega) (k2 _ _ _ _ _ (by omega) (k2 _ _ _ _ _ (by omega) (k2 _ _ _ _ _ (by omega) (k2 _ _ _ _ _ (by omega) (k _ _ _ _ (k2 _ _ _ _ _ (by omega) (k2 _ _ _ _ _ (by omega) b2)))))))) (k2 _ _ _ _ _ (by omega) (k2 _ _ _ _ _ (by omega) (k2 _ _ _ _ _ (by omega) (k2 _ _ _ _ _ (by omega) (k _ _ _ _ (k2 _ _ _ _ _ (by omega) (k2 _ _ _ _ _ (by omega) (k2 _ _ _ _ _ (by omega) b3)))))))) (k2 _ _ _ _ _ (by omega) (k2 _ _ _ _ _ (by omega) (k2 _ _ _ _ _ (by omega) (k _ _ _ _ (k2 _ _ _ _ _ (by omega) (k2 _ _ _ _ _ (by omega) (k2 _ _ _ _ _ (by omega) (k2 _ _ _ _ _ (by omega) b4)))))))) (k2 _ _ _ _ _ (by omega) (k2 _ _ _ _ _ (by omega) (k _ _ _ _ (k2 _ _ _ _ _ (by omega) (k2 _ _ _ _ _ (by omega) (k2 _ _ _ _ _ (by omega) (k2 _ _ _ _ _ (by omega) (k2 _ _ _ _ _ (by omega) b5)))))))) (k2 _ _ _ _ _ (by omega) (k _ _ _ _ (k2 _ _ _ _ _ (by omega) (k2 _ _ _ _ _ (by omega) (k2 _ _ _ _ _ (by omega) (k2 _ _ _ _ _ (by omega) (k2 _ _ _ _ _ (by omega) (k2 _ _ _ _ _ (by omega) b6)))))))) (k _ _ _ _ (k2 _ _ _ _ _ (by omega) (k2 _ _ _ _ _ (by omega) (k2 _ _ _ _ _ (by omega) (k2 _ _ _ _ _ (by omega) (k2 _ _ _ _ _ (by omega) (k2 _ _ _ _ _ (by omega) (k2 _ _ _ _ _ (by omega) b7)))))))) fun i x h0 h1 h2 h3 h4 h5 h6 h7 hx => (k2 _ _ _ _ _ h7 (k2 _ _ _ _ _ h6 (k2 _ _ _ _ _ h5 (k2 _ _ _ _ _ h4 (k2 _ _ _ _ _ h3 (k2 _ _ _ _ _ h2 (k2 _ _ _ _ _ h1 (k2 _ _ _ _ _ h0 hx)))))))))
theorem st101 {w : World} {b o : Nat} {u0 : Value} {x0 : Option Nat} (h0 : w.cell? ⟨b, o, none⟩ = some u0) (f0 : w.frozen? ⟨b, o, none⟩ = false) : (Instr.storeAt 101 (.pointer (some ⟨b, o, none⟩)) ((.map x0))).run Tryd.prog w = .ok () (w.setCell ⟨b, o, none⟩ (.map x0)) := by go_simp
theorem st23 {w : World} {b o : Nat} {u0 u1 : Value} {x0 : Int} {x1 : Int} (h0 : w.cell? ⟨b, o, none⟩ = some u0) (f0 : w.frozen? ⟨b, o, none⟩ = false) (h1 : w.cell? ⟨b, o + 1, none⟩ = some u1) (f1 : w.frozen? ⟨b, o + 1, none⟩ = false) : (Instr.storeAt 23 (.pointer (some ⟨b, o, none⟩)) (.agg #[(.int .i64 x0), (.int .i64 x1)])).run Tryd.prog w = .ok () ((w.setCell ⟨b, o, none⟩ (.int .i64 x0)).setCell ⟨b, o + 1, none⟩ (.int .i64 x1)) := by go_simp
theorem st26 {w : World} {b o : Nat} {u0 u1 u2 u3 u4 u5 u6 : Value} {x0 : Int} {x1 : Int} {x2 : Int} {x3 : Int} {x4 : Int} {x5 : Int} {x6 : Int} (h0 : w.cell? ⟨b, o, none⟩ = some u0) (f0 : w.frozen? ⟨b, o, none⟩ = false) (h1 : w.cell? ⟨b, o + 1, none⟩ = some u1) (f1 : w.frozen? ⟨b, o + 1, none⟩ = false) (h2 : w.cell? ⟨b, o + 2, none⟩ = some u2) (f2 : w.frozen? ⟨b, o + 2, none⟩ = false) (h3 : w.cell? ⟨b, o + 3, none⟩ = some u3) (f3 : w.frozen? ⟨b, o + 3, none⟩ = false) (h4 : w.cell? ⟨b, o + 4, none⟩ = some u4) (f4 : w.frozen? ⟨b, o + 4, none⟩ = false) (h5 : w.cell? ⟨b, o + 5, none⟩ = some u5) (f5 : w.frozen? ⟨b, o + 5, none⟩ = false) (h6 : w.cell? ⟨b, o + 6, none⟩ = some u6) (f6 : w.frozen? ⟨b, o + 6, none⟩ = false) : (Instr.storeAt 26 (.pointer (some ⟨b, o, none⟩)) (.agg #[(.int .i64 x0), (.int .i64 x1), (.int .i64 x2), (.int .i64 x3), (.int .i64 x4), (.int .i64 x5), (.int .i64 x6)])).run Tryd.prog w = .ok () (((((((w.setCell ⟨b, o, none⟩ (.int .i64 x0)).setCell ⟨b, o + 1, none⟩ (.int .i64 x1)).setCell ⟨b, o + 2, none⟩ (.int .i64 x2)).setCell ⟨b, o + 3, none⟩ (.int .i64 x3)).setCell ⟨b, o + 4, none⟩ (.int .i64 x4)).setCell ⟨b, o + 5, none⟩ (.int .i64 x5)).setCell ⟨b, o + 6, none⟩ (.int .i64 x6)) := by go_simp
theorem st29 {w : World} {b o : Nat} {u0 u1 : Value} {x0 : Int} {x1 : Int} (h0 : w.cell? ⟨b, o, none⟩ = some u0) (f0 : w.frozen? ⟨b, o, none⟩ = false) (h1 : w.cell? ⟨b, o + 1, none⟩ = some u1) (f1 : w.frozen? ⟨b, o + 1, none⟩ = false) : (Instr.storeAt 29 (.pointer (some ⟨b, o, none⟩)) (.agg #[(.int .i64 x0), (.int .i64 x1)])).run Tryd.prog w = .ok () ((w.setCell ⟨b, o, none⟩ (.int .i64 x0)).setCell ⟨b, o + 1, none⟩ (.int .i64 x1)) := by go_simp
theorem st3 {w : World} {b o : Nat} {u0 : Value} {x0 : Int} (h0 : w.cell? ⟨b, o, none⟩ = some u0) (f0 : w.frozen? ⟨b, o, none⟩ = false) : (Instr.storeAt 3 (.pointer (some ⟨b, o, none⟩)) ((.int .i64 x0))).run Tryd.prog w = .ok () (w.setCell ⟨b, o, none⟩ (.int .i64 x0)) := by go_simp
theorem st33 {w : World} {b o : Nat} {u0 u1 : Value} {x0 : Int} {x1 : Int} (h0 : w.cell? ⟨b, o, none⟩ = some u0) (f0 : w.frozen? ⟨b, o, none⟩ = false) (h1 : w.cell? ⟨b, o + 1, none⟩ = some u1) (f1 : w.frozen? ⟨b, o + 1, none⟩ = false) : (Instr.storeAt 33 (.pointer (some ⟨b, o, none⟩)) (.agg #[(.int .i64 x0), (.int .i64 x1)])).run Tryd.prog w = .ok () ((w.setCell ⟨b, o, none⟩ (.int .i64 x0)).setCell ⟨b, o + 1, none⟩ (.int .i64 x1)) := by go_simp
theorem st39 {w : World} {b o : Nat} {u0 : Value} {a0 : Option Addr} {n0 c0 : Nat} (h0 : w.cell? ⟨b, o, none⟩ = some u0) (f0 : w.frozen? ⟨b, o, none⟩ = false) : (Instr.storeAt 39 (.pointer (some ⟨b, o, none⟩)) (.agg #[(.slice a0 n0 c0)])).run Tryd.prog w = .ok () (w.setCell ⟨b, o, none⟩ (.slice a0 n0 c0)) := by go_simp
theorem st43 {w : World} {b o : Nat} {u0 u1 : Value} {a0 : Option Addr} {n0 c0 : Nat} {a1 : Option Addr} {n1 c1 : Nat} (h0 : w.cell? ⟨b, o, none⟩ = some u0) (f0 : w.frozen? ⟨b, o, none⟩ = false) (h1 : w.cell? ⟨b, o + 1, none⟩ = some u1) (f1 : w.frozen? ⟨b, o + 1, none⟩ = false) : (Instr.storeAt 43 (.pointer (some ⟨b, o, none⟩)) (.agg #[(.slice a0 n0 c0), (.slice a1 n1 c1)])).run Tryd.prog w = .ok () ((w.setCell ⟨b, o, none⟩ (.slice a0 n0 c0)).setCell ⟨b, o + 1, none⟩ (.slice a1 n1 c1)) := by go_simp
theorem st61 {w : World} {b o : Nat} {u0 u1 u2 u3 u4 u5 u6 u7 : Value} {x0 : Int} {x1 : Int} {x2 : Int} {x3 : Int} {x4 : Int} {x5 : Int} {x6 : Int} {x7 : Int} (h0 : w.cell? ⟨b, o, none⟩ = some u0) (f0 : w.frozen? ⟨b, o, none⟩ = false) (h1 : w.cell? ⟨b, o + 1, none⟩ = some u1) (f1 : w.frozen? ⟨b, o + 1, none⟩ = false) (h2 : w.cell? ⟨b, o + 2, none⟩ = some u2) (f2 : w.frozen? ⟨b, o + 2, none⟩ = false) (h3 : w.cell? ⟨b, o + 3, none⟩ = some u3) (f3 : w.frozen? ⟨b, o + 3, none⟩ = false) (h4 : w.cell? ⟨b, o + 4, none⟩ = some u4) (f4 : w.frozen? ⟨b, o + 4, none⟩ = false) (h5 : w.cell? ⟨b, o + 5, none⟩ = some u5) (f5 : w.frozen? ⟨b, o + 5, none⟩ = false) (h6 : w.cell? ⟨b, o + 6, none⟩ = some u6) (f6 : w.frozen? ⟨b, o + 6, none⟩ = false) (h7 : w.cell? ⟨b, o + 7, none⟩ = some u7) (f7 : w.frozen? ⟨b, o + 7, none⟩ = false) : (Instr.storeAt 61 (.pointer (some ⟨b, o, none⟩)) (.agg #[(.int .i64 x0), (.int .i64 x1), (.int .i64 x2), (.int .i64 x3), (.int .i64 x4), (.int .i64 x5), (.int .i64 x6), (.int .i64 x7)])).run Tryd.prog w = .ok () ((((((((w.setCell ⟨b, o, none⟩ (.int .i64 x0)).setCell ⟨b, o + 1, none⟩ (.int .i64 x1)).setCell ⟨b, o + 2, none⟩ (.int .i64 x2)).setCell ⟨b, o + 3, none⟩ (.int .i64 x3)).setCell ⟨b, o + 4, none⟩ (.int .i64 x4)).setCell ⟨b, o + 5, none⟩ (.int .i64 x5)).setCell ⟨b, o + 6, none⟩ (.int .i64 x6)).setCell ⟨b, o + 7, none⟩ (.int .i64 x7)) := by go_simp
theorem st76 {w : World} {b o : Nat} {u0 : Value} {a0 : Option Addr} {n0 c0 : Nat} (h0 : w.cell? ⟨b, o, none⟩ = some u0) (f0 : w.frozen? ⟨b, o, none⟩ = false) : (Instr.storeAt 76 (.pointer (some ⟨b, o, none⟩)) ((.slice a0 n0 c0))).run Tryd.prog w = .ok () (w.setCell ⟨b, o, none⟩ (.slice a0 n0 c0)) := by go_simp
theorem st86 {w : World} {b o : Nat} {u0 u1 u2 : Value} {x0 : Int} {x1 : Int} {x2 : Int} (h0 : w.cell? ⟨b, o, none⟩ = some u0) (f0 : w.frozen? ⟨b, o, none⟩ = false) (h1 : w.cell? ⟨b, o + 1, none⟩ = some u1) (f1 : w.frozen? ⟨b, o + 1, none⟩ = false) (h2 : w.cell? ⟨b, o + 2, none⟩ = some u2) (f2 : w.frozen? ⟨b, o + 2, none⟩ = false) : (Instr.storeAt 86 (.pointer (some ⟨b, o, none⟩)) (.agg #[(.int .i64 x0), (.int .i64 x1), (.int .i64 x2)])).run Tryd.prog w = .ok () (((w.setCell ⟨b, o, none⟩ (.int .i64 x0)).setCell ⟨b, o + 1, none⟩ (.int .i64 x1)).setCell ⟨b, o + 2, none⟩ (.int .i64 x2)) := by go_simp

end Go.Proofs.YtdjjkhefdalokaaDoor

/- The keys of a map of cells: the iterator. -/
namespace Go.Proofs.YtdjjkhefdalokaaDoor
open Go.RowKit

def celV (p : Nat × Nat) : Value := .agg #[.int .i64 ((p.1 : Nat) : Int), .int .i64 ((p.2 : Nat) : Int)]
def booV (b : Bool) : Value := .bool b
theorem celV_inj {a b : Nat × Nat} (h : celV a = celV b) : a = b := by
  simp only [celV, Value.agg.injEq] at h
  have h := congrArg Array.toList h
  simp at h
  exact Prod.ext (by omega) (by omega)
theorem cel_check (w : World) (em : Bool) (a : Nat × Nat) : (Instr.checkKey em 10000 33 (celV a)).run Tryd.prog w = .ok () w := by
  show (Instr.checkKey em (9998 + 1 + 1) 33 _).run _ _ = _
  unfold celV
  have k : ∀ n (x : Int), (Instr.checkKey em (n + 1) 3 (.int .i64 x)).run Tryd.prog w = .ok () w := fun n x => by
    rw [Instr.checkKey]
    go_simp
  rw [Instr.checkKey]
  go_simp
theorem cel_eq (w : World) (a b : Nat × Nat) : (Op.equal 33 (celV a) (celV b)).run Tryd.prog w = .ok (decide (a = b)) w := by
  obtain ⟨a1, a2⟩ := a
  obtain ⟨b1, b2⟩ := b
  have e : decide ((a1, a2) = (b1, b2)) = decide (((a1 : Nat) : Int) = b1 ∧ ((a2 : Nat) : Int) = b2) := decide_eq_decide.2 (by rw [Prod.mk.injEq]; omega)
  rw [e]
  unfold celV Op.equal Op.maxDepth
  simp only []
  generalize ((a1 : Nat) : Int) = p
  generalize ((a2 : Nat) : Int) = q
  generalize ((b1 : Nat) : Int) = r
  generalize ((b2 : Nat) : Int) = s
  by_cases h1 : p = r
  · by_cases h2 : q = s
    · subst h1; subst h2
      go_simp
    · go_simp
  · go_simp
theorem cel_law : KLaw Tryd.prog 33 celV := klaw_of Tryd.underlying33 (fun _ _ => rfl) celV_inj cel_check cel_eq (fun a => by simp [celV, Instr.sameBits])
theorem perm_erase {α : Type} : ∀ {l : List α} {i : Nat} {p : α}, l[i]? = some p → (p :: l.eraseIdx i).Perm l
  | [], _, _, h => by simp at h
  | a :: r, 0, p, h => by simp at h; subst h; exact .refl _
  | a :: r, i + 1, p, h => by
    have := perm_erase (l := r) (i := i) (p := p) (by simpa using h)
    exact (List.Perm.swap a p _).trans (this.cons a)
theorem perm_step {α : Type} {left : List ((Nat × Nat) × α)} {s K : List (Nat × Nat)} {i : Nat} {p : (Nat × Nat) × α} (h : (s ++ left.map Prod.fst).Perm K) (hp : left[i]? = some p) : ((s ++ [p.1]) ++ (left.eraseIdx i).map Prod.fst).Perm K ∧ (left.eraseIdx i).length + 1 = left.length := by
  have hi := (List.getElem?_eq_some_iff.1 hp).1
  refine ⟨List.Perm.trans ?_ h, by rw [List.length_eraseIdx_of_lt hi]; omega⟩
  rw [List.append_assoc]
  exact List.Perm.append_left _ ((perm_erase hp).map Prod.fst)
set_option maxRecDepth 1000000 in
set_option maxHeartbeats 4000000 in
theorem Keys_c (b : Nat) (w : World) : Calls Tryd.prog 60 #[.map (some b)] w fun e w' => ∃ Bm, e = .returned (.func (.func 76) #[] #[.pointer (some ⟨Bm, 0, none⟩)]) ∧ w.heap.size ≤ Bm ∧ w'.cell? ⟨Bm, 0, none⟩ = some (.map (some b)) ∧ Ext w w' := by
  refine calls_cw 4 [(0, .map (some b))] Tryd.func60 rfl Tryd.ntmps60 (by kernel_rfl) (by kernel_rfl) (fun L => ?_)
  have hE : Ext w w := Ext.refl w
  refine cw_seq ?_
  refine cw_plain ?_
  refine pl_step rfl (by kernel_rfl) (by kernel_rfl) (by kernel_rfl) (sn_new (us := #[.map (some b)]) (t := 101) (by kernel_rfl) ?_)
  intro O1 X2 hO hOs hb hbx
  have hzO1 := hO; have hyO1 := hOs; clear hO hOs
  have bO1_0 : BoxAt X2 O1 0 (.map (some b)) := hbx 0 _ rfl
  clear hbx
  replace hE := hE.trans hb
  have hs3 := hb.size
  clear hb
  have lt4 := bO1_0.lt
  refine pl_take (Value.nilFunc) rfl (by kernel_rfl) (by kernel_rfl) (by kernel_rfl) (by kernel_rfl) ?_
  refine pl_nil ?_
  refine qw_then ?_
  refine cw_seq ?_
  refine cw_plain ?_
  refine pl_take (.func (.func 76) #[] #[.pointer (some ⟨O1, 0, none⟩)]) rfl (by kernel_rfl) (by kernel_rfl) (by kernel_rfl) (by kernel_rfl) ?_
  refine pl_take (.func (.func 76) #[] #[.pointer (some ⟨O1, 0, none⟩)]) rfl (by kernel_rfl) (by kernel_rfl) (by kernel_rfl) (by kernel_rfl) ?_
  refine pl_nil ?_
  refine qw_then ?_
  refine cw_ret ?_
  refine qw_ret [.func (.func 76) #[] #[.pointer (some ⟨O1, 0, none⟩)]] rfl ⟨(by kernel_rfl), trivial⟩ ?_
  exact ⟨O1, rfl, (Nat.le_of_eq hzO1), bO1_0.1, hE⟩
set_option maxRecDepth 1000000 in
set_option maxHeartbeats 4000000 in
theorem Keys_seq {b Bm : Nat} {lm : List ((Nat × Nat) × Bool)} {X : Nat → Prop} {mo : Obj} {w0 : World} (hc : w0.cell? ⟨Bm, 0, none⟩ = some (.map (some b))) (hX : ¬ X Bm) (hm : MapS celV booV w0 b lm) :
    SeqL Tryd.prog 76 #[.pointer (some ⟨Bm, 0, none⟩)] (fun p => [celV p]) (fun s _ => s.length < lm.length) (fun s => s.Perm (lm.map Prod.fst)) X (fun A => A.heap[b]? = some mo) w0 := by
  intro l J w hW hJst hJM hY hJ0 n
  have hc0 := hW.cell hc
  have hm0 := hm.ext hW
  have hbm := World.block_lt_of_cell? _ _ hc0
  have lt1 := hm0.lt
  refine icalls 14 [(1, .pointer (some ⟨Bm, 0, none⟩)), (0, .func (.yield l) #[] #[])] Tryd.func76 rfl Tryd.ntmps76 (by kernel_rfl) (by kernel_rfl) (fun L mm => ?_)
  have hE : Ext w w := Ext.refl w
  refine icw_seq ?_
  refine icw_plain ?_
  refine ipl_take (.map (some b)) rfl (by kernel_rfl) (by kernel_rfl) (by kernel_rfl) (ex_load rfl (by kernel_rfl) (ld101 (hc0))) ?_
  obtain ⟨X3, hr4, hR5, hb, hz7⟩ := run_rangeS Tryd.underlying101 hm0
  obtain ⟨r2, he6⟩ : ∃ r, r = w.heap.size := ⟨_, rfl⟩
  rw [← he6] at hr4 hR5
  refine ipl_step rfl (by kernel_rfl) (by kernel_rfl) (by kernel_rfl) (sn_eff (v := .pointer (some ⟨r2, 0, none⟩)) (ex_range rfl (by kernel_rfl) hr4) ?_)
  replace hE := hE.trans hb
  replace hc0 := hb.cell hc0
  replace hm0 := hm0.ext hb
  have hs8 := hb.size
  clear hb
  have hyrr2 : r2 < X3.heap.size := by omega
  refine ipl_nil ?_
  refine iqw_then ?_
  refine icw_block ?_
  have hJs9 := hJst _ _ _ hJ0 (Mv.of_ext hE)
  refine icw_loop [0, 5] (fun ws' wr m => ∃ left : List ((Nat × Nat) × Bool), ∃ s9 : List (Nat × Nat), ws' = [(0, .func (.yield l) #[] #[]), (5, .pointer (some ⟨r2, 0, none⟩))] ∧ m = left.length ∧ X3.heap.size ≤ wr.heap.size ∧ wr.cell? ⟨Bm, 0, none⟩ = some (.map (some b)) ∧ RangeS celV booV wr b r2 lm left ∧ J s9 wr ∧ (s9 ++ left.map Prod.fst).Perm (lm.map Prod.fst)) (ws0 := [(0, .func (.yield l) #[] #[]), (5, .pointer (some ⟨r2, 0, none⟩))]) (by kernel_rfl) _ ⟨lm, [], rfl, rfl, Nat.le_refl _, hc0, hR5, hJs9, List.Perm.refl _⟩ ?_
  clear hc0
  rintro m12 L ws w11 ⟨left, s9, rfl, rfl, hs10, hc0, hR9, hJ9, hpm⟩
  have hX13 : Ext w11 w11 := Ext.refl _
  refine icw_seq ?_
  refine icw_plain ?_
  rcases run_nextS (P := Tryd.prog) hR9 0 with ⟨h17, hr19⟩ | ⟨i14, p15, X16, hp18, hr19, hR20, ht21, hen22⟩
  ·
    refine ipl_step rfl (by kernel_rfl) (by kernel_rfl) (by kernel_rfl) (sn_eff (v := .tuple #[.bool false]) (ex_next rfl (by kernel_rfl) hr19) ?_)
    subst h17
    refine ipl_take (.bool false) rfl (by kernel_rfl) (by kernel_rfl) (by kernel_rfl) (by kernel_rfl) ?_
    refine ipl_nil ?_
    refine iqw_then ?_
    refine icw_seq ?_
    refine icw_f (by kernel_rfl) ?_
    refine icw_exit ?_
    refine iqw_then_exit ?_
    refine iqw_then_exit ?_
    refine iqw_block_out ?_
    refine iqw_end0 [] rfl trivial ?_
    exact ⟨⟨_, rfl⟩, s9, (by simpa using hpm), hJst _ _ _ hJ9 (Mv.of_ext (Ext.refl _))⟩
  ·
    refine ipl_step rfl (by kernel_rfl) (by kernel_rfl) (by kernel_rfl) (sn_eff (v := .tuple #[.bool true, .agg #[.int .i64 (((p15.1.1 : Nat) : Int) : Int), .int .i64 (((p15.1.2 : Nat) : Int) : Int)], .bool p15.2]) (ex_next rfl (by kernel_rfl) hr19) ?_)
    have hJ23 := hJst _ _ _ (hJst _ _ _ hJ9 (Mv.of_ext (Ext.refl _))) (ht21.mv _ (Nat.le_of_eq he6.symm))
    replace hc0 := (ht21.mv0).cell hc0
    have hs24 : w11.heap.size ≤ X16.heap.size := Nat.le_of_eq ht21.size.symm
    have hX25 : Ext X16 X16 := Ext.refl _
    have hst := perm_step hpm hp18
    have hst2 := hst.2
    have hst3 := hst.1.length_eq
    simp only [List.length_append, List.length_cons, List.length_nil, List.length_map] at hst3
    refine ipl_take (.bool true) rfl (by kernel_rfl) (by kernel_rfl) (by kernel_rfl) (by kernel_rfl) ?_
    refine ipl_nil ?_
    refine iqw_then ?_
    refine icw_seq ?_
    refine icw_t (by kernel_rfl) ?_
    refine icw_skip ?_
    refine iqw_then ?_
    refine icw_block ?_
    refine icw_seq ?_
    refine icw_plain ?_
    refine ipl_take (.tuple #[.agg #[.int .i64 (((p15.1.1 : Nat) : Int) : Int), .int .i64 (((p15.1.2 : Nat) : Int) : Int)], .bool p15.2]) rfl (by kernel_rfl) (by kernel_rfl) (by kernel_rfl) (ex_entry rfl (by kernel_rfl) hen22) ?_
    refine ipl_take (.agg #[.int .i64 (((p15.1.1 : Nat) : Int) : Int), .int .i64 (((p15.1.2 : Nat) : Int) : Int)]) rfl (by kernel_rfl) (by kernel_rfl) (by kernel_rfl) (by kernel_rfl) ?_
    refine ipl_step rfl (by kernel_rfl) (by kernel_rfl) (by kernel_rfl) (sn_new (us := #[.int .i64 0, .int .i64 0]) (t := 33) (by kernel_rfl) ?_)
    intro O26 X27 hO hOs hb hbx
    have hzO26 := hO; have hyO26 := hOs; clear hO hOs
    have bO26_0 : BoxAt X27 O26 0 (.int .i64 0) := hbx 0 _ rfl
    have bO26_1 : BoxAt X27 O26 1 (.int .i64 0) := hbx 1 _ rfl
    clear hbx
    replace hX25 := hX25.trans hb
    replace hc0 := hb.cell hc0
    replace hR20 := hR20.ext hb
    have hs28 := hb.size
    clear hb
    have lt29 := bO26_0.lt
    refine ipl_put rfl (by kernel_rfl) (by kernel_rfl) (sn_set2 (O := O26) (j := 0) (v := .int .i64 (((p15.1.1 : Nat) : Int) : Int)) (v' := .int .i64 (((p15.1.2 : Nat) : Int) : Int)) (ex_store (p := .pointer (some ⟨O26, 0, none⟩)) (v := .agg #[.int .i64 (((p15.1.1 : Nat) : Int) : Int), .int .i64 (((p15.1.2 : Nat) : Int) : Int)]) rfl (by kernel_rfl) (by kernel_rfl) (st33 bO26_0.1 bO26_0.2 bO26_1.1 bO26_1.2)) bO26_0 bO26_1 ?_)
    intro X30 ho hv0 hv1 hk
    replace hX25 := ho.ext hX25 (Nat.le_of_eq hzO26)
    replace hc0 := ho.cell (Nat.ne_of_gt (Nat.lt_of_lt_of_le hbm (Nat.le_trans (Nat.le_trans hs8 (Nat.le_trans hs10 hs24)) (Nat.le_of_eq hzO26)))) hc0
    replace hR20 := hR20.blocks (ho.heap' _ (Nat.ne_of_lt (Nat.lt_of_lt_of_le lt1 (Nat.le_trans (Nat.le_trans hs8 (Nat.le_trans hs10 hs24)) (Nat.le_of_eq hzO26))))) (ho.heap' _ (Nat.ne_of_lt (Nat.lt_of_lt_of_le hyrr2 (Nat.le_trans (Nat.le_trans hs10 hs24) (Nat.le_of_eq hzO26)))))
    have hs31 : X27.heap.size ≤ X30.heap.size := Nat.le_of_eq ho.size.symm
    clear ho hk bO26_0 bO26_1
    have bO26_0 := hv0; clear hv0
    have bO26_1 := hv1; clear hv1
    refine ipl_nil ?_
    refine iqw_then ?_
    refine icw_seq ?_
    refine icw_plain ?_
    refine ipl_take (.func (.yield l) #[] #[]) rfl (by kernel_rfl) (by kernel_rfl) (by kernel_rfl) (by kernel_rfl) ?_
    refine ipl_take (.agg #[.int .i64 (((p15.1.1 : Nat) : Int) : Int), .int .i64 (((p15.1.2 : Nat) : Int) : Int)]) rfl (by kernel_rfl) (by kernel_rfl) (by kernel_rfl) (ex_load rfl (by kernel_rfl) (ld33 (bO26_0.1) (bO26_1.1))) ?_
    have hJ33 := hJst _ _ _ hJ23 (Mv.of_ext hX25)
    refine ipl_yield rfl (by kernel_rfl) (by kernel_rfl) (by kernel_rfl) (sy_yield (args := #[.agg #[.int .i64 (((p15.1.1 : Nat) : Int) : Int), .int .i64 (((p15.1.2 : Nat) : Int) : Int)]]) rfl (by kernel_rfl) (by kernel_rfl) (yield_mono (hY s9 p15.1 _ _ hJ33 (by omega)) ?_))
    rintro e w32 ⟨rfl, hJ34, hk35, ho36⟩
    have hR37 := RangeS.kept hR20 ((hJM _ _ hJ34).trans (hJM _ _ hJ33).symm) ho36 (Nat.le_of_eq he6.symm)
    replace hc0 := hk35.cell hX hc0
    have hs38 := hk35.size
    have hX39 : Ext w32 w32 := Ext.refl _
    refine ⟨_, rfl, ?_⟩
    refine ipl_take (.bool false) rfl (by kernel_rfl) (by kernel_rfl) (by kernel_rfl) (by kernel_rfl) ?_
    refine ipl_nil ?_
    refine iqw_then ?_
    refine icw_f (by kernel_rfl) ?_
    refine icw_skip ?_
    refine iqw_block ?_
    refine iqw_round [0, 5] (ws' := [(0, .func (.yield l) #[] #[]), (5, .pointer (some ⟨r2, 0, none⟩))]) (by kernel_rfl) _ ?_ ⟨_, _, rfl, rfl, (Nat.le_trans hs10 (Nat.le_trans hs24 (Nat.le_trans hs28 (Nat.le_trans hs31 hs38)))), hc0, hR37, (hJst _ _ _ hJ34 (Mv.of_ext (Ext.refl _))), hst.1⟩
    omega

end Go.Proofs.YtdjjkhefdalokaaDoor

/- The walk, where it is wanted to the draw and to the block how the world has grown (a comparison that is handed to a sort). -/
namespace Go.Proofs.YtdjjkhefdalokaaDoor
open Go.RowKit

/-- The world has drawn, and blocks have come; nothing else. -/
def Gro (w w' : World) : Prop := ∃ q os, w' = Go.Sort.grow (w.drewN q) os
theorem Gro.refl (w : World) : Gro w w := ⟨0, #[], by rw [Go.Sort.grow_empty]; rfl⟩
theorem Gro.trans {a b c : World} (h : Gro a b) (k : Gro b c) : Gro a c := by
  obtain ⟨q, os, rfl⟩ := h
  obtain ⟨q', os', rfl⟩ := k
  refine ⟨q + q', os ++ os', ?_⟩
  show Go.Sort.grow (Go.Sort.grow ((a.drewN q).drewN q') os) os' = _
  rw [Go.Sort.grow_grow, World.drewN_drewN]
theorem Gro.alloc (w : World) (o : Obj) : Gro w (w.alloc o) := ⟨0, #[o], by rw [Go.Sort.alloc_eq_grow]; rfl⟩
theorem Gro.drew (w : World) : Gro w w.drew := ⟨1, #[], by rw [Go.Sort.grow_empty]; rfl⟩
theorem Gro.ext {w w' : World} (h : Gro w w') : Ext w w' := by
  obtain ⟨q, os, rfl⟩ := h
  refine (Ext.drewN (Ext.refl w) q).trans ⟨rfl, rfl, rfl, by simp, fun k hk => ?_⟩
  show ((w.drewN q).heap ++ os)[k]? = _
  rw [Array.getElem?_append_left hk]
section
variable {P : Program} {n : Nat} {L : List Value} {ws : List (Nat × Value)} {w : World} {Q : Exit → Act → World → Prop}
theorem sn_newG {ev : Operand → Value} {oi : Oper} {N : Value → World → Prop} {us : Array Value} {t : TypeId} (h1 : (execOp ev oi).run P w = .ok (.value (.pointer (some ⟨w.heap.size, 0, none⟩))) (w.alloc (.cells us t)))
    (h : ∀ O X, w.heap.size = O → X.heap.size = O + 1 → Ext w X → (∀ i u, us[i]? = some u → BoxAt X O i u) → Gro w X → N (.pointer (some ⟨O, 0, none⟩)) X) : StepN P ev oi w N := by
  refine sn_eff h1 (h _ _ rfl (by simp) (Ext.alloc (Ext.refl _) _) (fun i u hu => ⟨?_, ?_⟩) (Gro.alloc _ _))
  · rw [cell_of_row _ _ i _ t (0, 0) (heap_alloc_new w _)]; exact hu
  · simp [go_sem]
theorem sn_newSG {ev : Operand → Value} {oi : Oper} {N : Value → World → Prop} {us : Array Value} {t : TypeId} {k c : Nat} (h1 : (execOp ev oi).run P w = .ok (.value (.slice (some ⟨w.heap.size, 0, none⟩) k c)) (w.alloc (.cells us t)))
    (h : ∀ O X, w.heap.size = O → X.heap.size = O + 1 → Ext w X → (∀ i u, us[i]? = some u → BoxAt X O i u) → Gro w X → N (.slice (some ⟨O, 0, none⟩) k c) X) : StepN P ev oi w N := by
  refine sn_eff h1 (h _ _ rfl (by simp) (Ext.alloc (Ext.refl _) _) (fun i u hu => ⟨?_, ?_⟩) (Gro.alloc _ _))
  · rw [cell_of_row _ _ i _ t (0, 0) (heap_alloc_new w _)]; exact hu
  · simp [go_sem]
theorem cw_drawG {id : Nat} {ops0 : Array Oper} (T : List Row) (S : World → Prop) (hm : P.follows .mixedOrders = true) (ht : tableR ops0 = T) (hg : goodT n ops0.size T = true) (hs : Region.noSelect ops0 = true) (hQ : Calm Q) (hS : S w.drew)
    (h : ∀ (ops : Array Oper) (Q' : Exit → Act → World → Prop) (X : World), Gro w X → Ext w X → L.length = n → Reg P ops0 ops Q' L T → Shut (∀ ws w, QW Q .normal n L ws w → QW Q' .normal n L ws w) → WD P ops Q' S L ops0.size [] ws X) : CW P (.region id ops0 true) Q n L ws w := ⟨fun b => by
  refine wp_region_held_drew hm hS fun hS => ?_
  exact (h ops0 Q _ (Gro.drew _) (Ext.drew (Ext.refl _)) b.1 ⟨rfl, ht, by rw [b.1]; exact hg, hs, hQ⟩ (fun _ _ h => h)).out b.lt⟩
end
end Go.Proofs.YtdjjkhefdalokaaDoor
