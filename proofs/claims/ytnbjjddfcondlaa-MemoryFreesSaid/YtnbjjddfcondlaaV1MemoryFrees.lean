/- Part 1 of what the proof of MemoryFrees stands on. -/
import Derived.Test.YtnbjjddfcondlaaProg
import Derived.WalkKit
import Derived.WalkSpells
import Derived.WalkLawsBesides
import Derived.Handy
import Derived.Laws.EntriesVeiled
import Derived.Lib.Hide
import Derived.Deep.QuietTactic
import Derived.BigQuiet
import Derived.Deep.RegionHeld3
import Derived.Lib.TrailingZeros
import Derived.Scope
import Derived.RangeFuncOwn
import Derived.Shelf.SlSortCmp.WholeK
import Derived.Shelf.Lay
import Derived.Ground.SlsfProg
import Derived.Shelf.SlGeneric
import Derived.Shelf.Sort.Plain
import Derived.Shelf.Slices.In.SortNone
import Derived.Ground.SlgnProg
import Derived.Ground.Names2Prog
import Derived.OwnWalk
import Derived.Maps.AppendAt
import Derived.RangeFuncNested
import Derived.RangeFuncBound
import Derived.RangeFuncCalls
import Derived.RangeFuncLeaves
import Derived.RangeFuncBox
import Derived.Shelf.Abstract
import Derived.Shelf.RegionOpen
import Derived.OwnWalkIn
import Derived.TacticsInMore
import Derived.LoopNIn
import Derived.LoopIn
/- Small lemmas that every walk of this seat uses: what a world that has only grown keeps. -/
namespace Go.Proofs.Ytnbjjddfcondlaa
open Go.RowKit

theorem ret_int {k : IntKind} {a b : Int} (h : a = b) : Ending.returned (.int k a) = .returned (.int k b) := by rw [h]
theorem ret2_int {k : IntKind} {a b : Int} {v : Value} (h : a = b) : Ending.returned (.tuple #[.int k a, v]) = .returned (.tuple #[.int k b, v]) := by rw [h]
theorem ret_bool {a b : Bool} (h : a = b) : Ending.returned (.bool a) = .returned (.bool b) := by rw [h]

/-- A world under a name, with what is wanted of it. -/
theorem wp_name {P : Program} {c : Code} {Q : Exit → Act → World → Prop} {a : Act} {W : World} (S : World → Prop) (hS : S W) (h : ∀ V, S V → c.wp P Q a V) : c.wp P Q a W := h W hS

theorem calls_name {P : Program} {f : FuncId} {args : Array Value} {R : Ending → World → Prop} {W : World} (S : World → Prop) (hS : S W) (h : ∀ V, S V → Calls P f args V R) : Calls P f args W R := h W hS

/-- A piece of code that may be gone through in several orders, all of which end in one frame F. -/
theorem wp_merge {P : Program} {c : Code} {Q : Exit → Act → World → Prop} {a : Act} {W : World} (R : World → Prop) (F : Act) (h1 : c.wp P (fun e a' w' => e = .normal ∧ a' = F ∧ R w') a W) (h2 : ∀ w', R w' → Q .normal F w') : c.wp P Q a W :=
  wp_mono h1 (by rintro e a w ⟨rfl, rfl, h⟩; exact h2 _ h)

/-- The world has grown: nothing that was there has turned. -/
def Ext (w w' : World) : Prop := Below w.heap.size w w'
theorem Ext.refl (w : World) : Ext w w := Below.refl _ _
theorem Ext.trans {a b c : World} (h : Ext a b) (k : Ext b c) : Ext a c := Below.trans h (Below.mono k (Below.size h))
theorem Ext.alloc {a b : World} (h : Ext a b) (o : Obj) : Ext a (b.alloc o) := Below.alloc h (Below.size h) o
theorem Ext.drew {a b : World} (h : Ext a b) : Ext a b.drew := Below.drew h
theorem Ext.drewN {a b : World} (h : Ext a b) (n : Nat) : Ext a (b.drewN n) := Below.trans h ⟨rfl, rfl, rfl, Nat.le_refl _, fun _ _ => rfl⟩
theorem Ext.setCell {a b : World} (h : Ext a b) {p : Addr} (hp : a.heap.size ≤ p.block) (u : Value) : Ext a (b.setCell p u) := Below.setCell h hp u
theorem Ext.size {a b : World} (h : Ext a b) : a.heap.size ≤ b.heap.size := Below.size h
theorem Ext.below {a b : World} (h : Ext a b) : Below a.heap.size a b := h
/-- What lay in W reads in w1 as it did. The premise says 'b < W.heap.size' in a form that the walk's own procedure on addresses decides by omega. -/
theorem Ext.cellE {W w1 : World} (hb : Ext W w1) : ∀ b o, (⟨b + 1 - W.heap.size, 0, none⟩ : Addr) = ⟨0, 0, none⟩ → w1.cell? ⟨b, o, none⟩ = W.cell? ⟨b, o, none⟩ := fun b o h => Below.cell hb (p := ⟨b, o, none⟩) (by simp at h; show b < W.heap.size; omega)
theorem Ext.frozenE {W w1 : World} (hb : Ext W w1) : ∀ b o, (⟨b + 1 - W.heap.size, 0, none⟩ : Addr) = ⟨0, 0, none⟩ → w1.frozen? ⟨b, o, none⟩ = W.frozen? ⟨b, o, none⟩ := fun b o h => Below.frozen hb (p := ⟨b, o, none⟩) (by simp at h; show b < W.heap.size; omega)
theorem Ext.cell {W w1 : World} (hb : Ext W w1) {a : Addr} {v : Value} (h : W.cell? a = some v) : w1.cell? a = some v := by
  rw [Below.cell hb (World.block_lt_of_cell? W a h)]; exact h

theorem Ext.free {W w1 : World} (hb : Ext W w1) {a : Addr} {v : Value} (h : W.cell? a = some v) (hf : W.frozen? a = false) : w1.frozen? a = false := by
  rw [Below.frozen hb (World.block_lt_of_cell? W a h)]; exact hf

theorem lt_of_addr {b n : Nat} (h : (⟨b + 1 - n, 0, none⟩ : Addr) = ⟨0, 0, none⟩) : b < n := by simp at h; omega
/-- New blocks change no old cell: the rules that the walk wants of a world that is a name. -/
theorem alloc_keeps (w : World) :
    (∀ o1 b o, (⟨b + 1 - w.heap.size, 0, none⟩ : Addr) = ⟨0, 0, none⟩ → (w.alloc o1).cell? ⟨b, o, none⟩ = w.cell? ⟨b, o, none⟩) ∧
    (∀ o1 b o, (⟨b + 1 - w.heap.size, 0, none⟩ : Addr) = ⟨0, 0, none⟩ → (w.alloc o1).frozen? ⟨b, o, none⟩ = w.frozen? ⟨b, o, none⟩) ∧
    (∀ o1 o2 b o, (⟨b + 1 - w.heap.size, 0, none⟩ : Addr) = ⟨0, 0, none⟩ → ((w.alloc o1).alloc o2).cell? ⟨b, o, none⟩ = w.cell? ⟨b, o, none⟩) ∧
    (∀ o1 o2 b o, (⟨b + 1 - w.heap.size, 0, none⟩ : Addr) = ⟨0, 0, none⟩ → ((w.alloc o1).alloc o2).frozen? ⟨b, o, none⟩ = w.frozen? ⟨b, o, none⟩) ∧
    (∀ o1 o2 o3 b o, (⟨b + 1 - w.heap.size, 0, none⟩ : Addr) = ⟨0, 0, none⟩ → (((w.alloc o1).alloc o2).alloc o3).cell? ⟨b, o, none⟩ = w.cell? ⟨b, o, none⟩) ∧
    (∀ o1 o2 o3 b o, (⟨b + 1 - w.heap.size, 0, none⟩ : Addr) = ⟨0, 0, none⟩ → (((w.alloc o1).alloc o2).alloc o3).frozen? ⟨b, o, none⟩ = w.frozen? ⟨b, o, none⟩) ∧
    (∀ o1 o2 o3 o4 b o, (⟨b + 1 - w.heap.size, 0, none⟩ : Addr) = ⟨0, 0, none⟩ → ((((w.alloc o1).alloc o2).alloc o3).alloc o4).cell? ⟨b, o, none⟩ = w.cell? ⟨b, o, none⟩) ∧
    (∀ o1 o2 o3 o4 b o, (⟨b + 1 - w.heap.size, 0, none⟩ : Addr) = ⟨0, 0, none⟩ → ((((w.alloc o1).alloc o2).alloc o3).alloc o4).frozen? ⟨b, o, none⟩ = w.frozen? ⟨b, o, none⟩) ∧
    (∀ o1 o2 o3 o4 o5 b o, (⟨b + 1 - w.heap.size, 0, none⟩ : Addr) = ⟨0, 0, none⟩ → (((((w.alloc o1).alloc o2).alloc o3).alloc o4).alloc o5).cell? ⟨b, o, none⟩ = w.cell? ⟨b, o, none⟩) ∧
    (∀ o1 o2 o3 o4 o5 b o, (⟨b + 1 - w.heap.size, 0, none⟩ : Addr) = ⟨0, 0, none⟩ → (((((w.alloc o1).alloc o2).alloc o3).alloc o4).alloc o5).frozen? ⟨b, o, none⟩ = w.frozen? ⟨b, o, none⟩) := by
  have e : ∀ (W : World) (h : Ext w W) (b o : Nat), b < w.heap.size → W.cell? ⟨b, o, none⟩ = w.cell? ⟨b, o, none⟩ ∧ W.frozen? ⟨b, o, none⟩ = w.frozen? ⟨b, o, none⟩ :=
    fun W h b o hb => ⟨Below.cell h (p := ⟨b, o, none⟩) hb, Below.frozen h (p := ⟨b, o, none⟩) hb⟩
  refine ⟨?_, ?_, ?_, ?_, ?_, ?_, ?_, ?_, ?_, ?_⟩ <;> intros <;> rename_i h <;> first
    | exact (e _ (by repeat' (first | exact Ext.refl _ | refine Ext.alloc ?_ _)) _ _ (lt_of_addr h)).1
    | exact (e _ (by repeat' (first | exact Ext.refl _ | refine Ext.alloc ?_ _)) _ _ (lt_of_addr h)).2

end Go.Proofs.Ytnbjjddfcondlaa

/- The plain mathematics of the globe: cells, rows. No program in sight. -/
namespace Go.Proofs.Ytnbjjddfcondlaa
namespace Globe

def vcB (x y : Int) : Bool := decide (0 ≤ x ∧ x ≤ 47 ∧ 0 ≤ y ∧ y ≤ 23)
theorem vcB_t {x y : Int} : vcB x y = true ↔ 0 ≤ x ∧ x ≤ 47 ∧ 0 ≤ y ∧ y ≤ 23 := by simp [vcB]
theorem vcB_f {x y : Int} : vcB x y = false ↔ x < 0 ∨ 47 < x ∨ y < 0 ∨ 23 < y := by simp [vcB]; omega

def inB (n lo hi : Int) : Bool := decide (lo ≤ n ∧ n ≤ hi)
theorem inB_t {n lo hi : Int} : inB n lo hi = true ↔ lo ≤ n ∧ n ≤ hi := by simp [inB]
theorem inB_f {n lo hi : Int} : inB n lo hi = false ↔ n < lo ∨ hi < n := by simp [inB]; omega
theorem vcB_in (x y : Int) : vcB x y = (inB x 0 47 && inB y 0 23) := by
  rw [Bool.eq_iff_iff, Bool.and_eq_true, vcB_t, inB_t, inB_t]; omega

/-- The element with an index; 0 behind the end. (Not reducible: the walk takes it as it stands.) -/
def nth (l : List Int) (i : Nat) : Int := l[i]?.getD 0
theorem nth_lt {l : List Int} {i : Nat} (h : i < l.length) : nth l i = l[i] := by rw [nth, List.getElem?_eq_getElem h]; rfl
theorem nth_ge {l : List Int} {i : Nat} (h : l.length ≤ i) : nth l i = 0 := by rw [nth, List.getElem?_eq_none h]; rfl
theorem nth_mem {l : List Int} {i : Nat} (h : i < l.length) : nth l i ∈ l := by rw [nth_lt h]; exact List.getElem_mem h
theorem mem_nth {l : List Int} {x : Int} (h : x ∈ l) : ∃ i, i < l.length ∧ nth l i = x := by
  obtain ⟨i, hi, rfl⟩ := List.getElem_of_mem h
  exact ⟨i, hi, nth_lt hi⟩
theorem ext_nth {a b : List Int} (hl : a.length = b.length) (h : ∀ i, i < a.length → nth a i = nth b i) : a = b :=
  List.ext_getElem hl fun i h1 h2 => by rw [← nth_lt h1, ← nth_lt h2]; exact h i h1

/-- A row of an area: its cells as bits. -/
def rowOk (r : Int) : Bool := decide (0 ≤ r ∧ r ≤ 281474976710655)
theorem rowOk_t {r : Int} : rowOk r = true ↔ 0 ≤ r ∧ r ≤ 281474976710655 := by simp [rowOk]
theorem rowOk_f {r : Int} : rowOk r = false ↔ r < 0 ∨ 281474976710655 < r := by simp [rowOk]; omega
/-- A valid area. -/
def validL (l : List Int) : Bool := l.length == 24 && l.all rowOk
theorem validL_t {l : List Int} : validL l = true ↔ l.length = 24 ∧ ∀ r ∈ l, 0 ≤ r ∧ r ≤ 281474976710655 := by
  simp only [validL, Bool.and_eq_true, beq_iff_eq, List.all_eq_true, rowOk_t]
/-- The index of the first row that is not one; -1: none. -/
def badAt : List Int → Int
  | [] => -1
  | r :: l => if rowOk r then (if badAt l < 0 then -1 else badAt l + 1) else 0
theorem badAt_all : ∀ {l : List Int}, l.all rowOk = true → badAt l = -1
  | [], _ => rfl
  | r :: l, h => by
    simp only [List.all_cons, Bool.and_eq_true] at h
    rw [badAt, if_pos h.1, badAt_all h.2]; rfl
theorem badAt_no : ∀ {l : List Int}, l.all rowOk = false → 0 ≤ badAt l
  | [], h => by simp at h
  | r :: l, h => by
    cases hr : rowOk r with
    | false => rw [badAt, if_neg (by rw [hr]; decide)]; decide
    | true =>
      have ih := badAt_no (l := l) (by simpa [List.all_cons, hr] using h)
      rw [badAt, if_pos hr, if_neg (by omega)]; omega
theorem badAt_first : ∀ {l : List Int} {k : Nat}, k < l.length → (∀ j, j < k → rowOk (nth l j) = true) → rowOk (nth l k) = false → badAt l = (k : Int)
  | r :: l, 0, _, _, hk => by simp [nth] at hk; rw [badAt, if_neg (by rw [hk]; decide)]; rfl
  | r :: l, k + 1, h, hp, hk => by
    have ih := badAt_first (l := l) (k := k) (by simpa using h) (fun j hj => by simpa [nth] using hp (j + 1) (by omega)) (by simpa [nth] using hk)
    have h0 : rowOk r = true := by simpa [nth] using hp 0 (by omega)
    rw [badAt, if_pos h0, ih, if_neg (by omega)]; omega

end Globe
end Go.Proofs.Ytnbjjddfcondlaa

/- A slice of ints that reads as a list. -/
namespace Go.Proofs.Ytnbjjddfcondlaa
open Go.RowKit

/-- At the address a (if there is one) the world w holds the ints l, one behind the other. -/
def IntsAt (w : World) (a : Option Addr) (l : List Int) : Prop :=
  l = [] ∨ ∃ b off, a = some ⟨b, off, none⟩ ∧ ∀ i, i < l.length → w.cell? ⟨b, off + i, none⟩ = some (.int .i64 (Globe.nth l i))
theorem IntsAt.ext {w w' : World} {a : Option Addr} {l : List Int} (h : IntsAt w a l) (hE : Ext w w') : IntsAt w' a l := by
  rcases h with h | ⟨b, off, rfl, h⟩
  · exact .inl h
  · exact .inr ⟨b, off, rfl, fun i hi => hE.cell (h i hi)⟩

/-- 'make([]int, 24)'. -/
theorem make24 (w : World) : (Instr.makeSlice 56 (.int .i64 24) (.int .i64 24)).run Try.prog w = .ok (.slice (some ⟨w.heap.size, 0, none⟩) 24 24) (w.alloc (.cells #[.int .i64 0, .int .i64 0, .int .i64 0, .int .i64 0, .int .i64 0, .int .i64 0, .int .i64 0, .int .i64 0, .int .i64 0, .int .i64 0, .int .i64 0, .int .i64 0, .int .i64 0, .int .i64 0, .int .i64 0, .int .i64 0, .int .i64 0, .int .i64 0, .int .i64 0, .int .i64 0, .int .i64 0, .int .i64 0, .int .i64 0, .int .i64 0] 3)) := by kernel_rfl

/-- A new block of ints reads as the list. -/
theorem new_ints (w : World) (l : List Int) (t : TypeId) : ∀ i, i < l.length → (w.alloc (.cells (l.map (Value.int .i64)).toArray t)).cell? ⟨w.heap.size, 0 + i, none⟩ = some (.int .i64 (Globe.nth l i)) := by
  intro i hi
  rw [Nat.zero_add]
  rw [cell_of_row _ _ i _ t (0, 0) (heap_alloc_new w _)]
  simp [Globe.nth, hi]

end Go.Proofs.Ytnbjjddfcondlaa

/- Bits of a number that is not negative, in the spelling of the walk. -/
namespace Go.Proofs.Ytnbjjddfcondlaa
open Go.RowKit

theorem and_i64 (a b : Nat) (ha : a < 4611686018427387904) (hb : b < 4611686018427387904) : bits .and .i64 (a : Int) (b : Int) = ((a &&& b : Nat) : Int) :=
  (bits_nat .i64 62 (by decide) (fun n h1 h2 => by rw [IntKind.wrap_i64]; omega) a b (by omega) (by omega)).1
theorem or_i64 (a b : Nat) (ha : a < 4611686018427387904) (hb : b < 4611686018427387904) : bits .or .i64 (a : Int) (b : Int) = ((a ||| b : Nat) : Int) :=
  (bits_nat .i64 62 (by decide) (fun n h1 h2 => by rw [IntKind.wrap_i64]; omega) a b (by omega) (by omega)).2
theorem testBit_div (R x : Nat) : R / 2 ^ x % 2 = if R.testBit x then 1 else 0 := by
  rw [← Nat.shiftRight_eq_div_pow, Nat.testBit, Nat.one_and_eq_mod_two]
  have h2 : (R >>> x) % 2 < 2 := Nat.mod_lt _ (by decide)
  by_cases h : (R >>> x) % 2 = 0
  · rw [h]; rfl
  · have h1 : (R >>> x) % 2 = 1 := by omega
    rw [h1]; rfl
theorem div_pow_cast (R x : Nat) : (R : Int) / 2 ^ x = ((R / 2 ^ x : Nat) : Int) := by simp
theorem bit_and1 (R x : Nat) (h : R < 4611686018427387904) : bits .and .i64 ((R : Int) / 2 ^ x) 1 = if R.testBit x then 1 else 0 := by
  rw [div_pow_cast, show (1 : Int) = ((1 : Nat) : Int) from rfl, and_i64 _ _ (Nat.lt_of_le_of_lt (Nat.div_le_self _ _) h) (by decide), Nat.and_one_is_mod, testBit_div]
  split <;> rfl
theorem bit_mod2 (R x : Nat) : (R : Int) / 2 ^ x % 2 = if R.testBit x then 1 else 0 := by
  rw [div_pow_cast, show (2 : Int) = ((2 : Nat) : Int) from rfl, ← Int.natCast_emod, testBit_div]
  split <;> rfl

end Go.Proofs.Ytnbjjddfcondlaa

/- The cells of an area: plain mathematics of bits. -/
namespace Go.Proofs.Ytnbjjddfcondlaa
namespace Globe

/-- The columns of a row, ascending. -/
def bitsN (R : Nat) : List Nat := (List.range 48).filter fun x => R.testBit x
theorem bitsN_zero : bitsN 0 = [] := by simp [bitsN]

theorem lowest (R : Nat) (h0 : R ≠ 0) (h : R < 2 ^ 64) : ∃ m, R = 2 ^ Lib.ctz 64 R * (2 * m + 1) ∧ R &&& (R - 1) = 2 ^ (Lib.ctz 64 R + 1) * m := by
  obtain ⟨m, hm, _⟩ := Lib.ctzFrom_spec 64 R (by omega) h
  have e : Lib.ctz 64 R = Lib.ctzFrom 64 R := by simp [Lib.ctz, h0]
  rw [e]
  generalize Lib.ctzFrom 64 R = k at hm ⊢
  refine ⟨m, hm, ?_⟩
  have hp : 0 < 2 ^ k := Nat.two_pow_pos k
  have h1 : R = 2 ^ (k + 1) * m + 2 ^ k := by rw [hm, Nat.pow_succ, Nat.mul_add, Nat.mul_one, Nat.mul_assoc]
  have h2 : R - 1 = 2 ^ (k + 1) * m + (2 ^ k - 1) := by omega
  have l1 : 2 ^ k < 2 ^ (k + 1) := by rw [Nat.pow_succ]; omega
  apply Nat.eq_of_testBit_eq
  intro j
  rw [h2, Nat.testBit_and, h1, Nat.testBit_two_pow_mul_add _ l1, Nat.testBit_two_pow_mul_add _ (by omega)]
  rw [Nat.testBit_two_pow_mul]
  by_cases hj : j < k + 1
  · simp only [hj, if_true, Nat.testBit_two_pow, Nat.testBit_two_pow_sub_one]
    rw [show decide (j ≥ k + 1) = false by simp; omega]
    by_cases e : k = j
    · subst e; simp
    · simp [e]
  · simp only [hj, if_false]
    rw [show decide (j ≥ k + 1) = true by simp; omega]
    simp

theorem testBit_ctz (R : Nat) (h0 : R ≠ 0) (h : R < 2 ^ 64) : R.testBit (Lib.ctz 64 R) = true ∧ (∀ j, j < Lib.ctz 64 R → R.testBit j = false) ∧ ∀ j, (R &&& (R - 1)).testBit j = (R.testBit j && decide (j ≠ Lib.ctz 64 R)) := by
  obtain ⟨m, hm, ha⟩ := lowest R h0 h
  generalize Lib.ctz 64 R = k at *
  have h1 : R = 2 ^ (k + 1) * m + 2 ^ k := by rw [hm, Nat.pow_succ, Nat.mul_add, Nat.mul_one, Nat.mul_assoc]
  have l1 : 2 ^ k < 2 ^ (k + 1) := by rw [Nat.pow_succ]; have := Nat.two_pow_pos k; omega
  have tb : ∀ j, R.testBit j = if j < k + 1 then decide (k = j) else m.testBit (j - (k + 1)) := by
    intro j
    rw [h1, Nat.testBit_two_pow_mul_add _ l1, Nat.testBit_two_pow]
  refine ⟨by rw [tb]; simp, fun j hj => by rw [tb, if_pos (by omega)]; simp; omega, fun j => ?_⟩
  rw [ha, tb, Nat.testBit_two_pow_mul]
  by_cases hj : j < k + 1
  · rw [if_pos hj, show decide (j ≥ k + 1) = false by simp; omega]
    by_cases e : k = j
    · subst e; simp
    · simp [e]
  · rw [if_neg hj, show decide (j ≥ k + 1) = true by simp; omega, show decide (j ≠ k) = true by simp; omega]
    simp

theorem ctz_lt (R : Nat) (h0 : R ≠ 0) (h : R < 2 ^ 48) : Lib.ctz 64 R < 48 := by
  have h64 : R < 2 ^ 64 := by omega
  obtain ⟨t, _⟩ := testBit_ctz R h0 h64
  apply Nat.lt_of_not_le
  intro hle
  have : R < 2 ^ Lib.ctz 64 R := Nat.lt_of_lt_of_le h (Nat.pow_le_pow_right (by decide) hle)
  rw [Nat.testBit_lt_two_pow this] at t
  cases t

/-- Taking the lowest column away. -/
theorem bitsN_step (R : Nat) (h0 : R ≠ 0) (h : R < 2 ^ 48) : bitsN R = Lib.ctz 64 R :: bitsN (R &&& (R - 1)) := by
  have h64 : R < 2 ^ 64 := by omega
  obtain ⟨t, tl, ta⟩ := testBit_ctz R h0 h64
  have hk := ctz_lt R h0 h
  generalize Lib.ctz 64 R = k at *
  unfold bitsN
  obtain ⟨r, hr⟩ : ∃ r, 48 = k + (1 + r) := ⟨47 - k, by omega⟩
  rw [hr, List.range_add, List.range_add, List.filter_append, List.filter_append, List.map_append, List.filter_append, List.filter_append]
  have e1 : (List.range k).filter (fun x => R.testBit x) = [] := List.filter_eq_nil_iff.2 fun j hj => by rw [tl j (List.mem_range.1 hj)]; simp
  have e2 : (List.range k).filter (fun x => (R &&& (R - 1)).testBit x) = [] := List.filter_eq_nil_iff.2 fun j hj => by rw [ta, tl j (List.mem_range.1 hj)]; simp
  have e3 : (List.map (fun x => k + x) (List.range 1)).filter (fun x => R.testBit x) = [k] := by simp [List.range_succ, t]
  have e4 : (List.map (fun x => k + x) (List.range 1)).filter (fun x => (R &&& (R - 1)).testBit x) = [] := by simp [List.range_succ, ta]
  rw [e1, e2, e3, e4]
  simp only [List.nil_append, List.singleton_append, List.cons.injEq, true_and]
  refine List.filter_congr fun j hj => ?_
  rw [ta]
  simp only [List.map_map, List.mem_map, List.mem_range, Function.comp] at hj
  obtain ⟨i, _, rfl⟩ := hj
  rw [show decide (k + (1 + i) ≠ k) = true by simp, Bool.and_true]

theorem and_pred_lt (R : Nat) (h : R < 2 ^ 48) : R &&& (R - 1) < 2 ^ 48 := Nat.and_lt_two_pow _ (by omega)
theorem and_pred_less (R : Nat) (h0 : R ≠ 0) : R &&& (R - 1) < R := by
  have : R &&& (R - 1) ≤ R - 1 := Nat.and_le_right
  omega

/-- The cells of a row, and those of the rows below y, in order. -/
def rowCells (l : List Int) (j : Nat) : List (Nat × Nat) := (bitsN (nth l j).toNat).map fun x => (x, j)
def cellsTo (l : List Int) (y : Nat) : List (Nat × Nat) := (List.range y).flatMap (rowCells l)
theorem cellsTo_succ (l : List Int) (y : Nat) : cellsTo l (y + 1) = cellsTo l y ++ rowCells l y := by simp [cellsTo, List.range_succ]
theorem cellsTo_zero (l : List Int) : cellsTo l 0 = [] := rfl
theorem bitsN_len (R : Nat) : (bitsN R).length ≤ 48 := by
  unfold bitsN
  exact Nat.le_trans (List.length_filter_le _ _) (by simp)
theorem cellsTo_len (l : List Int) : ∀ y, (cellsTo l y).length ≤ 48 * y
  | 0 => by simp [cellsTo]
  | y + 1 => by
    rw [cellsTo_succ, List.length_append]
    have := cellsTo_len l y
    have h2 : (rowCells l y).length ≤ 48 := by unfold rowCells; rw [List.length_map]; exact bitsN_len _
    omega

theorem cellsTo_pre (l : List Int) {y n : Nat} (h : y ≤ n) : cellsTo l y <+: cellsTo l n := by
  obtain ⟨r, rfl⟩ : ∃ r, n = y + r := ⟨n - y, by omega⟩
  unfold cellsTo
  rw [List.range_add, List.flatMap_append]
  exact List.prefix_append _ _
/-- In the midst of a row. -/
theorem cells_mid {l : List Int} {y x : Nat} {done rest : List (Nat × Nat)} (hy : y < 24) (h : done ++ (x, y) :: rest = rowCells l y) :
    (cellsTo l y ++ done).length < (cellsTo l 24).length ∧ cellsTo l y ++ done ++ [(x, y)] <+: cellsTo l 24 := by
  have hp := cellsTo_pre l (show y + 1 ≤ 24 by omega)
  rw [cellsTo_succ, ← h] at hp
  refine ⟨?_, ?_⟩
  · have := hp.length_le
    simp only [List.length_append, List.length_cons] at this ⊢
    omega
  · refine List.IsPrefix.trans ?_ hp
    exact ⟨rest, by simp⟩

/-- The cells of an area; how many. -/
def cellsL (l : List Int) : List (Nat × Nat) := if validL l then cellsTo l 24 else []
def countL (l : List Int) : Nat := (cellsL l).length
theorem countL_le (l : List Int) : countL l ≤ 1152 := by
  unfold countL cellsL
  split
  · exact cellsTo_len l 24
  · simp

end Globe
end Go.Proofs.Ytnbjjddfcondlaa

/- Areas as lists of rows: has, put. Plain mathematics of bits. -/
namespace Go.Proofs.Ytnbjjddfcondlaa
namespace Globe

/-- Whether an area has a cell. -/
def hasL (l : List Int) (x y : Nat) : Bool := (nth l y).toNat.testBit x
/-- The area with a cell. -/
def putL (l : List Int) (x y : Nat) : List Int := l.set y (((nth l y).toNat ||| 2 ^ x : Nat) : Int)
def zeroL : List Int := List.replicate 24 0

theorem nth_set {l : List Int} {y : Nat} {v : Int} (j : Nat) (h : y < l.length) : nth (l.set y v) j = if y = j then v else nth l j := by
  unfold nth
  rw [List.getElem?_set]
  by_cases e : y = j
  · subst e; simp [h]
  · simp [e]
theorem len_put (l : List Int) (x y : Nat) : (putL l x y).length = l.length := by simp [putL]
theorem has_put {l : List Int} {x y : Nat} (h : y < l.length) (x' y' : Nat) : hasL (putL l x y) x' y' = (hasL l x' y' || (decide (x = x') && decide (y = y'))) := by
  unfold hasL putL
  rw [nth_set _ h]
  by_cases e : y = y'
  · subst e; rw [if_pos rfl, Int.toNat_natCast, Nat.testBit_or, Nat.testBit_two_pow]; simp
  · rw [if_neg e]; simp [e]
theorem nth_zero (j : Nat) : nth zeroL j = 0 := by
  unfold nth zeroL
  rw [List.getElem?_replicate]; split <;> rfl
theorem has_zero (x y : Nat) : hasL zeroL x y = false := by unfold hasL; rw [nth_zero]; simp
theorem valid_zero : validL zeroL = true := by decide +kernel
theorem len_of_valid {l : List Int} (h : validL l = true) : l.length = 24 := (validL_t.1 h).1
theorem row_of_valid {l : List Int} (h : validL l = true) (y : Nat) : 0 ≤ nth l y ∧ nth l y ≤ 281474976710655 := by
  by_cases hy : y < l.length
  · exact (validL_t.1 h).2 _ (nth_mem hy)
  · rw [nth_ge (by omega)]; omega
theorem valid_set {l : List Int} (h : validL l = true) {y : Nat} {v : Int} (h0 : 0 ≤ v) (h1 : v ≤ 281474976710655) : validL (l.set y v) = true := by
  rw [validL_t] at h ⊢
  refine ⟨by simp [h.1], fun r hr => ?_⟩
  rcases List.mem_or_eq_of_mem_set hr with hr | rfl
  · exact h.2 r hr
  · exact ⟨h0, h1⟩
theorem or_lt {R x : Nat} (h : R < 281474976710656) (hx : x < 48) : R ||| 2 ^ x < 281474976710656 :=
  Nat.or_lt_two_pow (n := 48) h (Nat.pow_lt_pow_right (by decide) hx)
theorem valid_put {l : List Int} (h : validL l = true) {x y : Nat} (hx : x < 48) : validL (putL l x y) = true := by
  obtain ⟨h0, h1⟩ := row_of_valid h y
  have := @or_lt (nth l y).toNat x (by omega) hx
  exact valid_set h (by omega) (by omega)
/-- Two valid areas with the same cells are the same. -/
theorem ext_has {a b : List Int} (ha : validL a = true) (hb : validL b = true) (h : ∀ x y, x < 48 → y < 24 → hasL a x y = hasL b x y) : a = b := by
  refine ext_nth (by rw [len_of_valid ha, len_of_valid hb]) fun y hy => ?_
  rw [len_of_valid ha] at hy
  obtain ⟨a0, a1⟩ := row_of_valid ha y
  obtain ⟨b0, b1⟩ := row_of_valid hb y
  have : (nth a y).toNat = (nth b y).toNat := Nat.eq_of_testBit_eq fun x => by
    by_cases hx : x < 48
    · exact h x y hx hy
    · rw [Nat.testBit_lt_two_pow, Nat.testBit_lt_two_pow]
      · exact Nat.lt_of_lt_of_le (show (nth b y).toNat < 2 ^ 48 by omega) (Nat.pow_le_pow_right (by decide) (by omega))
      · exact Nat.lt_of_lt_of_le (show (nth a y).toNat < 2 ^ 48 by omega) (Nat.pow_le_pow_right (by decide) (by omega))
  omega
/-- A valid area without cells is empty. -/
theorem has_hi {l : List Int} (h : validL l = true) {x y : Nat} (hx : 48 ≤ x) : hasL l x y = false := by
  obtain ⟨a0, a1⟩ := row_of_valid h y
  exact Nat.testBit_lt_two_pow (Nat.lt_of_lt_of_le (show (nth l y).toNat < 2 ^ 48 by omega) (Nat.pow_le_pow_right (by decide) hx))
theorem mem_cells {l : List Int} {n : Nat} {p : Nat × Nat} : p ∈ cellsTo l n ↔ p.2 < n ∧ p.1 < 48 ∧ hasL l p.1 p.2 = true := by
  obtain ⟨x, y⟩ := p
  simp only [cellsTo, rowCells, List.mem_flatMap, List.mem_range, List.mem_map, bitsN, List.mem_filter, hasL, Prod.mk.injEq]
  constructor
  · rintro ⟨y', hy, x', ⟨hx, ht⟩, rfl, rfl⟩; exact ⟨hy, hx, ht⟩
  · rintro ⟨hy, hx, ht⟩; exact ⟨y, hy, x, ⟨hx, ht⟩, rfl, rfl⟩

end Globe
end Go.Proofs.Ytnbjjddfcondlaa

/- An area of one's own in memory: 24 rows that are written in place. -/
namespace Go.Proofs.Ytnbjjddfcondlaa
open Go.RowKit

/-- At block B stand the 24 rows of the list, and may be written. -/
def RowsAt (w : World) (B : Nat) (L : List Int) : Prop := L.length = 24 ∧ (∀ i, i < 24 → w.cell? ⟨B, i, none⟩ = some (.int .i64 (Globe.nth L i))) ∧ ∀ i, i < 24 → w.frozen? ⟨B, i, none⟩ = false
theorem RowsAt.len {w : World} {B : Nat} {L : List Int} (h : RowsAt w B L) : L.length = 24 := h.1
theorem RowsAt.cell {w : World} {B : Nat} {L : List Int} (h : RowsAt w B L) {i : Nat} (hi : i < 24) : w.cell? ⟨B, i, none⟩ = some (.int .i64 (Globe.nth L i)) := h.2.1 i hi
theorem RowsAt.free {w : World} {B : Nat} {L : List Int} (h : RowsAt w B L) {i : Nat} (hi : i < 24) : w.frozen? ⟨B, i, none⟩ = false := h.2.2 i hi
theorem RowsAt.ext {w w' : World} {B : Nat} {L : List Int} (h : RowsAt w B L) (hE : Ext w w') : RowsAt w' B L :=
  ⟨h.1, fun _ hi => hE.cell (h.cell hi), fun _ hi => hE.free (h.cell hi) (h.free hi)⟩
theorem RowsAt.lt {w : World} {B : Nat} {L : List Int} (h : RowsAt w B L) : B < w.heap.size := World.block_lt_of_cell? w _ (h.cell (i := 0) (by omega))
theorem RowsAt.set {w : World} {B : Nat} {L : List Int} (h : RowsAt w B L) {y : Nat} (hy : y < 24) (v : Int) : RowsAt (w.setCell ⟨B, y, none⟩ (.int .i64 v)) B (L.set y v) := by
  refine ⟨by rw [List.length_set]; exact h.1, fun i hi => ?_, fun i hi => ?_⟩
  · rw [Globe.nth_set _ (by rw [h.1]; exact hy)]
    by_cases e : y = i
    · subst e; rw [if_pos rfl]; have := h.cell hy; simp [go_sem, this]
    · rw [if_neg e, ← h.cell hi]
      exact World.cell?_setCell_other w _ _ _ (by intro c; exact e (congrArg Addr.off c))
  · have := h.free hi; simpa [go_sem] using this
theorem RowsAt.ints {w : World} {B : Nat} {L : List Int} (h : RowsAt w B L) : ∀ i, i < L.length → w.cell? ⟨B, 0 + i, none⟩ = some (.int .i64 (Globe.nth L i)) := fun i hi => by
  rw [Nat.zero_add]; exact h.cell (by rw [← h.1]; exact hi)
theorem RowsAt.new (w : World) (L : List Int) (t : TypeId) (hl : L.length = 24) : RowsAt (w.alloc (.cells (L.map (Value.int .i64)).toArray t)) w.heap.size L := by
  refine ⟨hl, fun i hi => ?_, fun i hi => by simp [go_sem]⟩
  have := new_ints w L t i (by omega)
  rwa [Nat.zero_add] at this

/-- 1 << x. -/
theorem shl_one (x : Nat) (h : x < 48) : wrap64 (1 * 2 ^ x) = ((2 ^ x : Nat) : Int) := by
  have : (2 ^ x : Nat) < 2 ^ 48 := Nat.pow_lt_pow_right (by decide) h
  have e : ((2 : Int) ^ x) = ((2 ^ x : Nat) : Int) := by simp
  rw [Int.one_mul, e]
  generalize (2 ^ x : Nat) = k at *
  exact IntWalk.wrap64_in _ ⟨by omega, by omega⟩

end Go.Proofs.Ytnbjjddfcondlaa

/- Union, meet, difference, shifting and growing of areas as lists of rows. Plain mathematics of bits. -/
namespace Go.Proofs.Ytnbjjddfcondlaa
namespace Globe

/-- A list of 24 rows out of a function on the row's number. -/
def rowsF (f : Nat → Nat) : List Int := (List.range 24).map fun y => ((f y : Nat) : Int)
theorem rowsF_len (f : Nat → Nat) : (rowsF f).length = 24 := by simp [rowsF]
theorem nth_rowsF (f : Nat → Nat) {y : Nat} (h : y < 24) : nth (rowsF f) y = ((f y : Nat) : Int) := by
  rw [nth_lt (by rw [rowsF_len]; exact h)]; simp [rowsF]
theorem rowsF_valid {f : Nat → Nat} (h : ∀ y, y < 24 → f y < 281474976710656) : validL (rowsF f) = true := by
  rw [validL_t]
  refine ⟨rowsF_len f, fun r hr => ?_⟩
  simp only [rowsF, List.mem_map, List.mem_range] at hr
  obtain ⟨y, hy, rfl⟩ := hr
  have := h y hy
  omega
theorem has_rowsF (f : Nat → Nat) {x y : Nat} (h : y < 24) : hasL (rowsF f) x y = (f y).testBit x := by
  unfold hasL; rw [nth_rowsF f h]; simp
theorem rowsF_congr {f g : Nat → Nat} (h : ∀ y, y < 24 → f y = g y) : rowsF f = rowsF g := by
  unfold rowsF
  exact List.map_congr_left fun y hy => by rw [h y (List.mem_range.1 hy)]

/-- The first y rows of a list, and zeros. -/
def partL (L : List Int) (y : Nat) : List Int := L.take y ++ List.replicate (24 - y) 0
theorem partL_zero (L : List Int) : partL L 0 = zeroL := by simp [partL, zeroL]
theorem partL_all {L : List Int} (h : L.length = 24) : partL L 24 = L := by simp [partL]; rw [← h, List.take_length]
theorem partL_len {L : List Int} (h : L.length = 24) {y : Nat} (hy : y ≤ 24) : (partL L y).length = 24 := by
  unfold partL; rw [List.length_append, List.length_take, List.length_replicate]; omega
theorem nth_partL {L : List Int} (h : L.length = 24) {y j : Nat} (hy : y ≤ 24) (_hj : j < 24) : nth (partL L y) j = if j < y then nth L j else 0 := by
  unfold nth partL
  rw [List.getElem?_append, List.length_take, Nat.min_eq_left (by omega)]
  by_cases e : j < y
  · rw [if_pos e, if_pos e, List.getElem?_take_of_lt e]
  · rw [if_neg e, if_neg e, List.getElem?_replicate]; split <;> rfl
theorem partL_succ {L : List Int} (h : L.length = 24) {y : Nat} (hy : y < 24) : (partL L y).set y (nth L y) = partL L (y + 1) := by
  refine ext_nth (by rw [List.length_set, partL_len h (by omega), partL_len h (by omega)]) fun j hj => ?_
  rw [List.length_set, partL_len h (by omega)] at hj
  rw [nth_set _ (by rw [partL_len h (by omega)]; exact hy), nth_partL h (by omega) hj, nth_partL h (by omega) hj]
  by_cases e : y = j
  · subst e; rw [if_pos rfl, if_pos (by omega)]
  · rw [if_neg e]
    by_cases e2 : j < y
    · rw [if_pos e2, if_pos (by omega)]
    · rw [if_neg e2, if_neg (by omega)]

def rowN (l : List Int) (y : Nat) : Nat := (nth l y).toNat
theorem rowN_lt {l : List Int} (h : validL l = true) (y : Nat) : rowN l y < 281474976710656 := by
  have := row_of_valid h y; unfold rowN; omega
theorem rowN_cast {l : List Int} (h : validL l = true) (y : Nat) : nth l y = (rowN l y : Int) := by
  have := row_of_valid h y; unfold rowN; omega
theorem rowN_bit (l : List Int) (x y : Nat) : (rowN l y).testBit x = hasL l x y := rfl
theorem rowN_rowsF (f : Nat → Nat) {y : Nat} (h : y < 24) : rowN (rowsF f) y = f y := by
  unfold rowN; rw [nth_rowsF f h]; simp
theorem has_out {l : List Int} (h : l.length = 24) {x y : Nat} (hy : 24 ≤ y) : hasL l x y = false := by
  unfold hasL; rw [nth_ge (by omega)]; simp

/-! Two areas, row by row. -/
def unionL (a b : List Int) : List Int := rowsF fun y => rowN a y ||| rowN b y
def meetL (a b : List Int) : List Int := rowsF fun y => rowN a y &&& rowN b y
def lessN (p q : Nat) : Nat := p ^^^ (p &&& q)
theorem lessN_bit (p q x : Nat) : (lessN p q).testBit x = (p.testBit x && !q.testBit x) := by
  unfold lessN
  rw [Nat.testBit_xor, Nat.testBit_and]
  cases p.testBit x <;> cases q.testBit x <;> rfl
theorem lessN_lt {p q : Nat} (h : p < 281474976710656) : lessN p q < 281474976710656 :=
  Nat.xor_lt_two_pow (n := 48) h (Nat.lt_of_le_of_lt Nat.and_le_left h)
def lessL (a b : List Int) : List Int := rowsF fun y => lessN (rowN a y) (rowN b y)
theorem union_valid {a b : List Int} (ha : validL a = true) (hb : validL b = true) : validL (unionL a b) = true :=
  rowsF_valid fun y _ => Nat.or_lt_two_pow (n := 48) (rowN_lt ha y) (rowN_lt hb y)
theorem meet_valid {a b : List Int} (ha : validL a = true) : validL (meetL a b) = true :=
  rowsF_valid fun y _ => Nat.lt_of_le_of_lt Nat.and_le_left (rowN_lt ha y)
theorem less_valid {a b : List Int} (ha : validL a = true) : validL (lessL a b) = true := rowsF_valid fun y _ => lessN_lt (rowN_lt ha y)
theorem has_union {a b : List Int} {x y : Nat} (h : y < 24) : hasL (unionL a b) x y = (hasL a x y || hasL b x y) := by
  unfold unionL; rw [has_rowsF _ h, Nat.testBit_or, rowN_bit, rowN_bit]
theorem has_meet {a b : List Int} {x y : Nat} (h : y < 24) : hasL (meetL a b) x y = (hasL a x y && hasL b x y) := by
  unfold meetL; rw [has_rowsF _ h, Nat.testBit_and, rowN_bit, rowN_bit]
theorem has_less {a b : List Int} {x y : Nat} (h : y < 24) : hasL (lessL a b) x y = (hasL a x y && !hasL b x y) := by
  unfold lessL; rw [has_rowsF _ h, lessN_bit, rowN_bit, rowN_bit]

/-! Turning. -/
def rotN (R k : Nat) : Nat := (R <<< k ||| R >>> (48 - k)) % 281474976710656
theorem rotN_lt (R k : Nat) : rotN R k < 281474976710656 := Nat.mod_lt _ (by decide)
theorem rotN_bit {R k x : Nat} (h : R < 281474976710656) (hk : k < 48) (hx : x < 48) : (rotN R k).testBit x = R.testBit ((x + 48 - k) % 48) := by
  unfold rotN
  rw [show (281474976710656 : Nat) = 2 ^ 48 from rfl, Nat.testBit_mod_two_pow, Nat.testBit_or, Nat.testBit_shiftLeft, Nat.testBit_shiftRight]
  rw [decide_eq_true hx, Bool.true_and]
  by_cases e : k ≤ x
  · rw [decide_eq_true (show x ≥ k from e), Bool.true_and, show (x + 48 - k) % 48 = x - k by omega]
    rw [Nat.testBit_lt_two_pow (x := R) (i := 48 - k + x) (Nat.lt_of_lt_of_le (show R < 2 ^ 48 from h) (Nat.pow_le_pow_right (by decide) (by omega))), Bool.or_false]
  · rw [decide_eq_false (show ¬ x ≥ k from e), Bool.false_and, Bool.false_or, show (x + 48 - k) % 48 = 48 - k + x by omega]
theorem rotN_zero {R : Nat} (h : R < 281474976710656) : rotN R 0 = R := by
  refine Nat.eq_of_testBit_eq fun x => ?_
  by_cases hx : x < 48
  · rw [rotN_bit h (by omega) hx, show (x + 48 - 0) % 48 = x by omega]
  · rw [Nat.testBit_lt_two_pow (Nat.lt_of_lt_of_le (show rotN R 0 < 2 ^ 48 from rotN_lt _ _) (Nat.pow_le_pow_right (by decide) (by omega))),
      Nat.testBit_lt_two_pow (Nat.lt_of_lt_of_le (show R < 2 ^ 48 from h) (Nat.pow_le_pow_right (by decide) (by omega)))]
def shiftL (l : List Int) (k : Nat) : List Int := rowsF fun y => rotN (rowN l y) k
theorem shift_valid (l : List Int) (k : Nat) : validL (shiftL l k) = true := rowsF_valid fun _ _ => rotN_lt _ _
theorem has_shift {l : List Int} (hl : validL l = true) {k x y : Nat} (hk : k < 48) (hx : x < 48) (hy : y < 24) : hasL (shiftL l k) x y = hasL l ((x + 48 - k) % 48) y := by
  unfold shiftL; rw [has_rowsF _ hy, rotN_bit (rowN_lt hl y) hk hx, rowN_bit]

/-! Growing by one cell. -/
def wideN (R : Nat) : Nat := R ||| rotN R 1 ||| rotN R 47
theorem wideN_lt {R : Nat} (h : R < 281474976710656) : wideN R < 281474976710656 :=
  Nat.or_lt_two_pow (n := 48) (Nat.or_lt_two_pow (n := 48) h (rotN_lt _ _)) (rotN_lt _ _)
/-- The rows from z on, k of them, one over the other. -/
def orN (l : List Int) (z : Nat) : Nat → Nat
  | 0 => 0
  | k + 1 => orN l z k ||| wideN (rowN l (z + k))
theorem orN_lt {l : List Int} (h : validL l = true) (z : Nat) : ∀ k, orN l z k < 281474976710656
  | 0 => by rw [orN]; omega
  | k + 1 => Nat.or_lt_two_pow (n := 48) (orN_lt h z k) (wideN_lt (rowN_lt h _))
def grow1 (l : List Int) : List Int := rowsF fun y => rowN l y ||| orN l (y - 1) (min (y + 1) 23 + 1 - (y - 1))
theorem grow1_valid {l : List Int} (h : validL l = true) : validL (grow1 l) = true :=
  rowsF_valid fun y _ => Nat.or_lt_two_pow (n := 48) (rowN_lt h y) (orN_lt h _ _)
def growL (l : List Int) : Nat → List Int
  | 0 => l
  | n + 1 => grow1 (growL l n)
theorem growL_valid {l : List Int} (h : validL l = true) : ∀ n, validL (growL l n) = true
  | 0 => h
  | n + 1 => grow1_valid (growL_valid h n)
theorem growL_add (l : List Int) (i : Nat) : ∀ k, growL (growL l i) k = growL l (i + k)
  | 0 => rfl
  | k + 1 => by rw [growL, growL_add l i k]; rfl

/-! Boxes. -/
def boxL (cx cy wide high : Nat) : List Int := rowsF fun y => if cy ≤ y ∧ y < cy + high then rotN (2 ^ wide - 1) cx else 0
theorem box_valid (cx cy wide high : Nat) : validL (boxL cx cy wide high) = true := rowsF_valid fun y _ => by
  split
  · exact rotN_lt _ _
  · omega
theorem has_box {cx cy wide high x y : Nat} (hc : cx < 48) (hw : wide ≤ 48) (hx : x < 48) (hy : y < 24) :
    hasL (boxL cx cy wide high) x y = (decide (cy ≤ y ∧ y < cy + high) && decide ((x + 48 - cx) % 48 < wide)) := by
  unfold boxL
  rw [has_rowsF _ hy]
  have hp : 2 ^ wide - 1 < 281474976710656 := by
    have : 2 ^ wide ≤ 2 ^ 48 := Nat.pow_le_pow_right (by decide) hw
    have := Nat.two_pow_pos wide
    omega
  split
  · rename_i h; rw [rotN_bit hp hc hx, Nat.testBit_two_pow_sub_one, decide_eq_true h, Bool.true_and]
  · rename_i h; rw [decide_eq_false h, Bool.false_and]; simp

end Globe
end Go.Proofs.Ytnbjjddfcondlaa

/- What a function that makes an area returns. -/
namespace Go.Proofs.Ytnbjjddfcondlaa
open Go.RowKit

/-- A fresh area that reads as L (and may be written), alone, or with no error. -/
def RetA (w : World) (L : List Int) (e : Ending) (w' : World) : Prop :=
  ∃ B : Nat, e = .returned (.agg #[.slice (some ⟨B, 0, none⟩) 24 24]) ∧ w.heap.size ≤ B ∧ RowsAt w' B L ∧ Ext w w'
def RetAE (w : World) (L : List Int) (e : Ending) (w' : World) : Prop :=
  ∃ B : Nat, e = .returned (.tuple #[.agg #[.slice (some ⟨B, 0, none⟩) 24 24], .int .i64 0]) ∧ w.heap.size ≤ B ∧ RowsAt w' B L ∧ Ext w w'
/-- No area, and an error. -/
def RetErr (w : World) (c : Int) (e : Ending) (w' : World) : Prop := e = .returned (.tuple #[.agg #[.slice none 0 0], .int .i64 c]) ∧ Ext w w'
/-- Either. -/
def orL (ok : Bool) (L : List Int) : List Int := if ok then L else []
def orE (ok : Bool) (c : Int) : Int := if ok then 0 else c
def RetAny (w : World) (ok : Bool) (L : List Int) (c : Int) (e : Ending) (w' : World) : Prop :=
  ∃ (a : Option Addr) (k : Nat), e = .returned (.tuple #[.agg #[.slice a (orL ok L).length k], .int .i64 (orE ok c)]) ∧ IntsAt w' a (orL ok L) ∧ Ext w w' ∧ ∀ ad, a = some ad → w.heap.size ≤ ad.block ∧ ad.block < w'.heap.size
theorem RetAny.yes {w : World} {L : List Int} {c : Int} {e : Ending} {w' : World} (h : RetAE w L e w') : RetAny w true L c e w' := by
  obtain ⟨B, rfl, hB, hr, hE⟩ := h
  exact ⟨some ⟨B, 0, none⟩, 24, by show _ = Ending.returned (.tuple #[.agg #[.slice _ L.length _], _]); rw [hr.len]; rfl, .inr ⟨B, 0, rfl, hr.ints⟩, hE, fun ad e => by cases e; exact ⟨hB, hr.lt⟩⟩
theorem RetAny.no {w : World} {L : List Int} {c : Int} {e : Ending} {w' : World} (h : RetErr w c e w') : RetAny w false L c e w' := by
  obtain ⟨rfl, hE⟩ := h
  exact ⟨none, 0, rfl, .inl rfl, hE, fun ad e => by cases e⟩
theorem orL_len {ok : Bool} {L : List Int} (h : L.length ≤ 140737488355328) : (orL ok L).length ≤ 140737488355328 := by
  unfold orL; split
  · exact h
  · simp

theorem RowsAt.any {w : World} {B : Nat} {L : List Int} (h : RowsAt w B L) : IntsAt w (some ⟨B, 0, none⟩) L := .inr ⟨B, 0, rfl, h.ints⟩
/-- The rows of a valid area that came from anywhere. -/
theorem IntsAt.rows {w : World} {a : Option Addr} {l : List Int} (h : IntsAt w a l) (hl : l.length = 24) : ∃ b off, a = some ⟨b, off, none⟩ ∧ ∀ i, i < 24 → w.cell? ⟨b, off + i, none⟩ = some (.int .i64 (Globe.nth l i)) := by
  rcases h with rfl | ⟨b, off, rfl, h⟩
  · simp at hl
  · exact ⟨b, off, rfl, fun i hi => h i (by omega)⟩
theorem IntsAt.lt {w : World} {b off : Nat} {l : List Int} (h : ∀ i, i < 24 → w.cell? ⟨b, off + i, none⟩ = some (.int .i64 (Globe.nth l i))) : b < w.heap.size := World.block_lt_of_cell? w _ (h 0 (by omega))

theorem RowsAt.keep {w w' : World} {B : Nat} {L : List Int} (h : RowsAt w B L) (hc : ∀ o, w'.cell? ⟨B, o, none⟩ = w.cell? ⟨B, o, none⟩) (hf : ∀ o, w'.frozen? ⟨B, o, none⟩ = w.frozen? ⟨B, o, none⟩) : RowsAt w' B L :=
  ⟨h.1, fun i hi => by rw [hc]; exact h.cell hi, fun i hi => by rw [hf]; exact h.free hi⟩
theorem RowsAt.other {w : World} {B : Nat} {L : List Int} (h : RowsAt w B L) {p : Addr} (hp : p.block ≠ B) (v : Value) : RowsAt (w.setCell p v) B L :=
  h.keep (fun o => World.cell?_setCell_other w _ _ _ (fun e => hp (by rw [e]))) (fun o => by simp [go_sem])

/-- A box of the call's own: what it holds, and that it may be written. -/
def BoxAt (w : World) (b o : Nat) (v : Value) : Prop := w.cell? ⟨b, o, none⟩ = some v ∧ w.frozen? ⟨b, o, none⟩ = false
theorem BoxAt.ext {w w' : World} {b o : Nat} {v : Value} (hE : Ext w w') (h : BoxAt w b o v) : BoxAt w' b o v := ⟨hE.cell h.1, hE.free h.1 h.2⟩
theorem BoxAt.lt {w : World} {b o : Nat} {v : Value} (h : BoxAt w b o v) : b < w.heap.size := World.block_lt_of_cell? w _ h.1
theorem BoxAt.other {w : World} {b o : Nat} {v : Value} (h : BoxAt w b o v) {p : Addr} (hp : p.block ≠ b) (u : Value) : BoxAt (w.setCell p u) b o v :=
  ⟨by rw [World.cell?_setCell_other w _ _ _ (fun e => hp (by rw [e]))]; exact h.1, by simp [go_sem, h.2]⟩
theorem BoxAt.drew {w : World} {b o : Nat} {v : Value} (h : BoxAt w b o v) : BoxAt w.drew b o v := ⟨h.1, h.2⟩
theorem BoxAt.drewN {w : World} {b o : Nat} {v : Value} (h : BoxAt w b o v) (n : Nat) : BoxAt (w.drewN n) b o v := ⟨h.1, h.2⟩
theorem RowsAt.drewN {w : World} {B : Nat} {L : List Int} (h : RowsAt w B L) (n : Nat) : RowsAt (w.drewN n) B L := ⟨h.1, fun _ hi => h.cell hi, fun _ hi => h.free hi⟩
theorem RowsAt.drew {w : World} {B : Nat} {L : List Int} (h : RowsAt w B L) : RowsAt w.drew B L := ⟨h.1, fun _ hi => h.cell hi, fun _ hi => h.free hi⟩

/-- What a caller knows of an area in memory: any rows, or a valid area. -/
def AA (w : World) (a : Option Addr) (l : List Int) (n : Nat) (v : Bool) : Prop := IntsAt w a l ∧ l.length = n ∧ n ≤ 140737488355328 ∧ Globe.validL l = v
def VA (w : World) (b o : Nat) (l : List Int) : Prop := (∀ i, i < 24 → w.cell? ⟨b, o + i, none⟩ = some (.int .i64 (Globe.nth l i))) ∧ Globe.validL l = true
theorem AA.ext {w w' : World} {a : Option Addr} {l : List Int} {n : Nat} {v : Bool} (h : AA w a l n v) (hE : Ext w w') : AA w' a l n v := ⟨h.1.ext hE, h.2⟩
theorem VA.ext {w w' : World} {b o : Nat} {l : List Int} (h : VA w b o l) (hE : Ext w w') : VA w' b o l := ⟨fun i hi => hE.cell (h.1 i hi), h.2⟩
theorem VA.lt {w : World} {b o : Nat} {l : List Int} (h : VA w b o l) : b < w.heap.size := IntsAt.lt h.1
theorem VA.len {w : World} {b o : Nat} {l : List Int} (h : VA w b o l) : l.length = 24 := Globe.len_of_valid h.2
theorem VA.cell {w : World} {b o : Nat} {l : List Int} (h : VA w b o l) {y : Nat} (hy : y < 24) : w.cell? ⟨b, o + y, none⟩ = some (.int .i64 (Globe.rowN l y : Nat)) := by rw [← Globe.rowN_cast h.2]; exact h.1 y hy
theorem VA.aa {w : World} {b o : Nat} {l : List Int} (h : VA w b o l) : AA w (some ⟨b, o, none⟩) l 24 true :=
  ⟨.inr ⟨b, o, rfl, fun i hi => h.1 i (by rw [← h.len]; exact hi)⟩, h.len, by omega, h.2⟩
theorem AA.va {w : World} {a : Option Addr} {l : List Int} {n : Nat} (h : AA w a l n true) : ∃ b o, a = some ⟨b, o, none⟩ ∧ n = 24 ∧ VA w b o l := by
  have hl := Globe.len_of_valid h.2.2.2
  obtain ⟨b, o, rfl, hr⟩ := h.1.rows hl
  exact ⟨b, o, rfl, by rw [← h.2.1]; exact hl, hr, h.2.2.2⟩
theorem RowsAt.va {w : World} {B : Nat} {L : List Int} (h : RowsAt w B L) (hv : Globe.validL L = true) : VA w B 0 L := ⟨fun i hi => by rw [Nat.zero_add]; exact h.cell hi, hv⟩
/-- A fresh valid area, and no error. -/
def RetV (w : World) (L : List Int) (e : Ending) (w' : World) : Prop :=
  ∃ B k : Nat, e = .returned (.tuple #[.agg #[.slice (some ⟨B, 0, none⟩) 24 k], .int .i64 0]) ∧ w.heap.size ≤ B ∧ RowsAt w' B L ∧ VA w' B 0 L ∧ Ext w w'
theorem RetAE.v {w : World} {L : List Int} {e : Ending} {w' : World} (h : RetAE w L e w') (hv : Globe.validL L = true) : RetV w L e w' := by
  obtain ⟨B, rfl, hB, hr, hE⟩ := h
  exact ⟨B, 24, rfl, hB, hr, hr.va hv, hE⟩
theorem RetV.any {w : World} {L : List Int} {c : Int} {e : Ending} {w' : World} (h : RetV w L e w') : RetAny w true L c e w' := by
  obtain ⟨B, k, rfl, hB, hr, hv, hE⟩ := h
  exact ⟨some ⟨B, 0, none⟩, k, by show _ = Ending.returned (.tuple #[.agg #[.slice _ L.length _], _]); rw [hr.len]; rfl, .inr ⟨B, 0, rfl, hr.ints⟩, hE, fun ad e => by cases e; exact ⟨hB, hr.lt⟩⟩

end Go.Proofs.Ytnbjjddfcondlaa

/- A region that draws its order, gone through over a list of what its operations have written so far: the frame itself stays behind a name till the region's end. -/
namespace Go.Proofs.Ytnbjjddfcondlaa
open Go.RowKit

/-- What was written last at a slot. -/
def look : List (Nat × Value) → (Nat → Value) → Nat → Value
  | [], f, k => f k
  | (d, v) :: ws, f, k => if k = d then v else look ws f k
theorem look_nil (f : Nat → Value) (k : Nat) : look [] f k = f k := rfl
theorem look_cons (d : Nat) (v : Value) (ws : List (Nat × Value)) (f : Nat → Value) (k : Nat) : look ((d, v) :: ws) f k = if k = d then v else look ws f k := rfl
def base (L : List Value) (t : Nat) : Value := L.toArray.getD t undef
def evalW (L : List Value) (ws : List (Nat × Value)) : Operand → Value
  | .tmp t => look ws (base L) t
  | o => Act.eval ⟨#[], []⟩ o
theorem evalW_tmp (L : List Value) (ws : List (Nat × Value)) (t : Nat) : evalW L ws (.tmp t) = look ws (base L) t := rfl
theorem evalW_const (L : List Value) (ws : List (Nat × Value)) (v : Value) : evalW L ws (.const v) = v := rfl
theorem evalW_func (L : List Value) (ws : List (Nat × Value)) (f : FuncId) : evalW L ws (.func f) = .func (.func f) #[] #[] := rfl
theorem evalW_global (L : List Value) (ws : List (Nat × Value)) (g : Nat) : evalW L ws (.global g) = .pointer (some ⟨g, 0, none⟩) := rfl
def setAll (L : List Value) : List (Nat × Value) → List Value
  | [] => L
  | (d, v) :: ws => (setAll L ws).set d v
theorem setAll_len (L : List Value) : ∀ ws, (setAll L ws).length = L.length
  | [] => rfl
  | (d, v) :: ws => by rw [setAll, List.length_set, setAll_len L ws]
theorem setAll_get (L : List Value) : ∀ ws : List (Nat × Value), (∀ p ∈ ws, p.1 < L.length) → ∀ t, (setAll L ws).toArray.getD t undef = look ws (base L) t
  | [], _, t => rfl
  | (d, v) :: ws, h, t => by
    have ih := setAll_get L ws (fun p hp => h p (List.mem_cons_of_mem _ hp)) t
    have hd : d < (setAll L ws).length := by rw [setAll_len]; exact h (d, v) (by simp)
    rw [look_cons, ← ih, setAll]
    by_cases e : t = d
    · subst e; simp [hd]
    · have e' : d ≠ t := fun c => e c.symm
      simp [e, List.getElem?_set_ne e']
def lset (m : Nat) : List Nat → Array Bool
  | [] => Array.replicate m false
  | i :: r => (lset m r).setIfInBounds i true
theorem lset_size (m : Nat) : ∀ l, (lset m l).size = m
  | [] => by simp [lset]
  | i :: r => by simp [lset, lset_size m r]
theorem lset_get (m : Nat) (b : Bool) : ∀ (l : List Nat) (j : Nat), (lset m l).getD j b = if j < m then l.contains j else b
  | [], j => by by_cases h : j < m <;> simp [lset, h]
  | i :: r, j => by
    have ih := lset_get m b r j
    have hs := lset_size m r
    by_cases h : j < m
    · rw [if_pos h] at ih ⊢
      by_cases e : i = j
      · subst e; simp [lset, hs, h]
      · have e2 : j ≠ i := fun c => e c.symm
        simp only [lset, Array.getD_eq_getD_getElem?, Array.getElem?_setIfInBounds_ne e, List.contains_cons] at ih ⊢
        rw [ih]
        have : (j == i) = false := by simp [e2]
        rw [this, Bool.false_or]
    · rw [if_neg h] at ih ⊢
      have h1 : m ≤ j := by omega
      simp [lset, hs, h1]

/-- A region's rows: where an operation writes, what it looks at, what it waits for. -/
abbrev Row := Option Nat × List Nat × List Nat
def waits (o : Oper) : List Nat := (o.after.toList.filter (Region.binds .any)).map (·.on)
def rowOf (ops : Array Oper) (o : Oper) : Row := (o.dst, o.looksAt ops, waits o)
def tableR (ops : Array Oper) : List Row := ops.toList.map (rowOf ops)
def ordered (x y : Row × Nat) : Bool := x.1.2.2.contains y.2 || y.1.2.2.contains x.2
/-- Two rows: where they touch one slot, one waits for the other. -/
def fits (x y : Row × Nat) : Bool :=
  (match x.1.1 with
   | some d => (!(y.1.2.1.contains d) || ordered x y) && (!(y.1.1 == some d) || ordered x y)
   | none => true) &&
  (match y.1.1 with
   | some d => !(x.1.2.1.contains d) || ordered x y
   | none => true)
def fitsAll (x : Row × Nat) : List (Row × Nat) → Bool
  | [] => true
  | y :: r => fits x y && fitsAll x r
def goodL : List (Row × Nat) → Bool
  | [] => true
  | x :: r => fitsAll x r && goodL r
def numbered : List Row → Nat → List (Row × Nat)
  | [], _ => []
  | x :: r, k => (x, k) :: numbered r (k + 1)
def inRB (n : Nat) : List Row → Bool
  | [] => true
  | x :: r => (match x.1 with | some d => Nat.blt d n | none => true) && inRB n r
def inA (m : Nat) : List Row → Bool
  | [] => true
  | x :: r => x.2.2.all (fun k => Nat.blt k m) && inA m r
def goodT (n m : Nat) (T : List Row) : Bool := goodL (numbered T 0) && (inRB n T && inA m T)
theorem fits_comm (x y : Row × Nat) (h : fits x y = true) : fits y x = true := by
  obtain ⟨⟨dx, lx, ax⟩, i⟩ := x
  obtain ⟨⟨dy, ly, ay⟩, j⟩ := y
  have e : ∀ a b : Bool, (a || b) = (b || a) := fun a b => Bool.or_comm a b
  cases dx <;> cases dy <;> simp only [fits, ordered, Bool.and_true, Bool.true_and] at h ⊢
  · rw [e (ay.contains i)]; simpa using h
  · rw [e (ay.contains i)]; simpa using h
  · rename_i d d'
    rw [e (ay.contains i)]
    simp only [Bool.and_eq_true] at h ⊢
    obtain ⟨⟨h1, h2⟩, h3⟩ := h
    refine ⟨⟨h3, ?_⟩, h1⟩
    by_cases c : d = d'
    · subst c; simpa using h2
    · have : (some d == some d') = false := by simp [c]
      rw [this]; rfl
theorem fitsAll_mem {x y : Row × Nat} : ∀ {l}, fitsAll x l = true → y ∈ l → fits x y = true
  | z :: r, h, hy => by
    simp only [fitsAll, Bool.and_eq_true] at h
    rcases List.mem_cons.1 hy with rfl | hy
    · exact h.1
    · exact fitsAll_mem h.2 hy
theorem goodL_mem {x y : Row × Nat} : ∀ {l}, goodL l = true → x ∈ l → y ∈ l → x ≠ y → fits x y = true
  | z :: r, h, hx, hy, hne => by
    simp only [goodL, Bool.and_eq_true] at h
    rcases List.mem_cons.1 hx with e1 | h1
    · rcases List.mem_cons.1 hy with e2 | h2
      · exact absurd (e1.trans e2.symm) hne
      · rw [e1]; exact fitsAll_mem h.1 h2
    · rcases List.mem_cons.1 hy with e2 | h2
      · rw [e2]; exact fits_comm _ _ (fitsAll_mem h.1 h1)
      · exact goodL_mem h.2 h1 h2 hne
theorem mem_numbered : ∀ {T : List Row} {k i : Nat} {x : Row}, T[i]? = some x → (x, k + i) ∈ numbered T k
  | y :: r, k, 0, x, h => by simp at h; subst h; simp [numbered]
  | y :: r, k, i + 1, x, h => by
    simp at h
    have := mem_numbered (k := k + 1) h
    rw [numbered, show k + (i + 1) = k + 1 + i by omega]
    exact List.mem_cons_of_mem _ this
theorem inRB_get {n : Nat} : ∀ {T : List Row} {i : Nat} {x : Row} {d : Nat}, inRB n T = true → T[i]? = some x → x.1 = some d → d < n
  | y :: r, 0, x, d, h, hx, hd => by
    simp at hx; subst hx
    simp only [inRB, Bool.and_eq_true, hd] at h
    exact Nat.blt_eq.mp h.1
  | y :: r, i + 1, x, d, h, hx, hd => by
    simp only [inRB, Bool.and_eq_true] at h
    exact inRB_get h.2 (by simpa using hx) hd

theorem inA_get {m : Nat} : ∀ {T : List Row} {i : Nat} {x : Row}, inA m T = true → T[i]? = some x → ∀ k ∈ x.2.2, k < m
  | y :: r, 0, x, h, hx => by
    simp at hx; subst hx
    simp only [inA, Bool.and_eq_true] at h
    exact fun k hk => Nat.blt_eq.mp (List.all_eq_true.1 h.1 k hk)
  | y :: r, i + 1, x, h, hx => by
    simp only [inA, Bool.and_eq_true] at h
    exact inA_get h.2 (by simpa using hx)

section
variable {P : Program} {ops : Array Oper} {Q : Exit → Act → World → Prop} {S : World → Prop} {T : List Row}

theorem table_get {i : Nat} {oi : Oper} (ht : tableR ops = T) (hi : ops[i]? = some oi) : T[i]? = some (rowOf ops oi) := by
  rw [← ht]; simp [tableR, hi]
theorem table_len (ht : tableR ops = T) : T.length = ops.size := by rw [← ht]; simp [tableR]
/-- May number i come up? -/
def readyT (T : List Row) (done : List Nat) (i : Nat) : Bool := !done.contains i && match T.drop i with | (_, _, a) :: _ => a.all (fun k => done.contains k) | [] => false
theorem lt_of_get {α : Type} {l : Array α} {i : Nat} {x : α} (h : l[i]? = some x) : i < l.size := by
  rcases Nat.lt_or_ge i l.size with h1 | h1
  · exact h1
  · rw [Array.getElem?_eq_none h1] at h; cases h
theorem drop_get {α : Type} {l : List α} {i : Nat} {x : α} (h : l[i]? = some x) : ∃ r, l.drop i = x :: r := by
  have hl : i < l.length := by
    rcases Nat.lt_or_ge i l.length with h1 | h1
    · exact h1
    · rw [List.getElem?_eq_none h1] at h; cases h
  rw [List.getElem?_eq_getElem hl] at h
  exact ⟨_, by rw [List.drop_eq_getElem_cons hl]; simp at h; rw [h]⟩
theorem mem_waits {o : Oper} {e : Edge} (he : e ∈ o.after) (hb : Region.binds .any e = true) : e.on ∈ waits o := by
  unfold waits
  rw [List.mem_map]
  exact ⟨e, by rw [List.mem_filter]; exact ⟨by simpa using he, hb⟩, rfl⟩
theorem waits_mem {o : Oper} {k : Nat} (h : k ∈ waits o) : ∃ e ∈ o.after, Region.binds .any e = true ∧ e.on = k := by
  unfold waits at h
  rw [List.mem_map] at h
  obtain ⟨e, h1, h2⟩ := h
  rw [List.mem_filter] at h1
  exact ⟨e, by simpa using h1.1, h1.2, h2⟩
theorem ready_iff {done : List Nat} {i : Nat} {oi : Oper} (hi : ops[i]? = some oi) (hin : ∀ k ∈ waits oi, k < ops.size) :
    i ∈ Region.ready .any ops (lset ops.size done) ↔ done.contains i = false ∧ ∀ k ∈ waits oi, done.contains k = true := by
  have hlt := lt_of_get hi
  rw [mem_ready, lset_get, if_pos hlt]
  constructor
  · rintro ⟨h1, o, ho, h2⟩
    rw [hi] at ho; cases ho
    refine ⟨h1, fun k hk => ?_⟩
    obtain ⟨e, he, hb, rfl⟩ := waits_mem hk
    have := h2 e he hb
    rwa [lset_get, if_pos (hin _ hk)] at this
  · rintro ⟨h1, h2⟩
    refine ⟨h1, oi, hi, fun e he hb => ?_⟩
    rw [lset_get, if_pos (hin _ (mem_waits he hb))]
    exact h2 _ (mem_waits he hb)
theorem readyT_mem {n : Nat} {done : List Nat} {i : Nat} {oi : Oper} (ht : tableR ops = T) (hg : goodT n ops.size T = true) (hi : ops[i]? = some oi) (h : readyT T done i = true) :
    i ∈ Region.ready .any ops (lset ops.size done) := by
  have hT := table_get ht hi
  simp only [goodT, Bool.and_eq_true] at hg
  rw [ready_iff hi (inA_get hg.2.2 hT)]
  obtain ⟨r, hr⟩ := drop_get hT
  unfold readyT at h
  rw [hr] at h
  simp only [rowOf, Bool.and_eq_true] at h
  exact ⟨by simpa using h.1, List.all_eq_true.1 h.2⟩
/-- What may come up touches nothing that another one, which does not wait for it, touches. -/
theorem apart_of_good {n : Nat} {done : List Nat} {i : Nat} {oi : Oper} (ht : tableR ops = T) (hg : goodT n ops.size T = true) (hi : ops[i]? = some oi) (hr : readyT T done i = true)
    (j : Nat) (oj : Oper) (hj : ops[j]? = some oj) (hne : j ≠ i) (hun : (lset ops.size done).getD j true = false) (hno : ∀ e ∈ oj.after, Region.binds .any e = true → e.on ≠ i) : oi.apart ops oj = true := by
  have hmi := readyT_mem ht hg hi hr
  have hTi := table_get ht hi
  have hTj := table_get ht hj
  simp only [goodT, Bool.and_eq_true] at hg
  rw [ready_iff hi (inA_get hg.2.2 hTi)] at hmi
  rw [lset_get, if_pos (lt_of_get hj)] at hun
  have hf := goodL_mem hg.1 (mem_numbered (k := 0) hTi) (mem_numbered (k := 0) hTj) (by
    intro c
    have := congrArg Prod.snd c
    simp at this
    exact hne this.symm)
  have hord : ordered (rowOf ops oi, 0 + i) (rowOf ops oj, 0 + j) = false := by
    simp only [ordered, rowOf, Nat.zero_add, Bool.or_eq_false_iff]
    constructor
    · rcases h : (waits oi).contains j with _ | _
      · rfl
      · have := hmi.2 j (by simpa using h)
        rw [hun] at this; cases this
    · rcases h : (waits oj).contains i with _ | _
      · rfl
      · obtain ⟨e, he, hb, hk⟩ := waits_mem (o := oj) (k := i) (by simpa using h)
        exact absurd hk (hno e he hb)
  unfold fits at hf
  rw [hord] at hf
  simp only [rowOf, Bool.or_false] at hf
  unfold Oper.apart
  cases h1 : oi.dst <;> cases h2 : oj.dst <;> rw [h1, h2] at hf <;> first | rfl | simpa [bne] using hf

/-- The walk through a region: the operations 'done' have come up, 'ws' is what they have written. -/
def W (P : Program) (ops : Array Oper) (Q : Exit → Act → World → Prop) (S : World → Prop) (L : List Value) (ds : List Deferred) (fuel : Nat) (done : List Nat) (ws : List (Nat × Value)) (w : World) : Prop :=
  (∀ p ∈ ws, p.1 < L.length) → wpAnyH P .any ops Q S fuel (lset ops.size done) ⟨(setAll L ws).toArray, ds⟩ w
theorem eval_W {L : List Value} {ws : List (Nat × Value)} (h : ∀ p ∈ ws, p.1 < L.length) (ds : List Deferred) : Act.eval ⟨(setAll L ws).toArray, ds⟩ = evalW L ws := by
  funext o
  cases o with
  | tmp t => exact setAll_get L ws h t
  | const v => rfl
  | global g => rfl
  | func f => rfl
def putW : Option Nat → Value → List (Nat × Value) → List (Nat × Value)
  | some d, v, ws => (d, v) :: ws
  | none, _, ws => ws
theorem put_W (L : List Value) (ws : List (Nat × Value)) (ds : List Deferred) (d : Option Nat) (v : Value) : Act.put ⟨(setAll L ws).toArray, ds⟩ d v = ⟨(setAll L (putW d v ws)).toArray, ds⟩ := by
  cases d with
  | none => rfl
  | some d => simp [Act.put, putW, setAll]
theorem putW_lt {L : List Value} {ws : List (Nat × Value)} {d : Option Nat} {v : Value} (h : ∀ p ∈ ws, p.1 < L.length) (hd : ∀ k, d = some k → k < L.length) : ∀ p ∈ putW d v ws, p.1 < L.length := by
  cases d with
  | none => exact h
  | some d =>
    intro p hp
    rcases List.mem_cons.1 hp with rfl | hp
    · exact hd _ rfl
    · exact h p hp
/-- Is an operation wanted? -/
def wantedW (T : List Row) (L : List Value) (ws : List (Nat × Value)) : Option (Nat × Bool) → Bool
  | none => true
  | some (g, want) => match T.drop g with
    | (some d, _, _) :: _ => (match look ws (base L) d with | .bool b => b == want | _ => false)
    | _ => false
theorem wanted_W {n : Nat} {L : List Value} {ws : List (Nat × Value)} {o : Oper} {b : Bool} (ds : List Deferred) (ht : tableR ops = T) (hg : goodT L.length n T = true) (h : ∀ p ∈ ws, p.1 < L.length) (hw : wantedW T L ws o.guard = b) :
    Region.wanted o (yielded ops (⟨(setAll L ws).toArray, ds⟩ : Act).tmps) = b := by
  subst hw
  unfold Region.wanted wantedW
  cases hgd : o.guard with
  | none => rfl
  | some p =>
    obtain ⟨g, want⟩ := p
    simp only [yielded]
    cases hj : ops[g]? with
    | none =>
      have : T.drop g = [] := by
        rw [List.drop_eq_nil_iff, table_len ht]
        rcases Nat.lt_or_ge g ops.size with h1 | h1
        · rw [Array.getElem?_eq_getElem h1] at hj; cases hj
        · exact h1
      rw [this]; rfl
    | some og =>
      have hT := table_get ht hj
      obtain ⟨r, hr⟩ := drop_get hT
      rw [hr]
      simp only [rowOf, Option.bind_some]
      cases hd : og.dst with
      | none => rfl
      | some d =>
        simp only [goodT, Bool.and_eq_true] at hg
        have hlt : d < L.length := inRB_get hg.2.1 hT hd
        have hget := setAll_get L ws h d
        have hlt2 : d < (setAll L ws).toArray.size := by simp [setAll_len, hlt]
        simp only [Array.getD, hlt2, dif_pos] at hget
        simp only [Option.bind_some]
        rw [Array.getElem?_eq_getElem hlt2]
        have e : (setAll L ws).toArray[d] = look ws (base L) d := hget
        rw [e]
        cases look ws (base L) d <;> rfl

section
variable {L : List Value} {ds : List Deferred} {fuel : Nat} {done : List Nat} {ws : List (Nat × Value)} {w : World}
/-- All that is fixed through a region. -/
structure Reg (P : Program) (ops0 ops : Array Oper) (Q : Exit → Act → World → Prop) (L : List Value) (T : List Row) : Prop where
  ops_eq : ops = ops0
  tab : tableR ops = T
  good : goodT L.length ops.size T = true
  nosel : Region.noSelect ops = true
  calm : ∀ c d v a w, Q (.panic c) (Act.put a d v) w → Q (.panic c) a w
variable {ops0 : Array Oper}
theorem dst_lt (hR : Reg P ops0 ops Q L T) {i : Nat} {oi : Oper} (hi : ops[i]? = some oi) : ∀ k, oi.dst = some k → k < L.length := fun k hk => by
  have := hR.good
  simp only [goodT, Bool.and_eq_true] at this
  exact inRB_get this.2.1 (table_get hR.tab hi) hk
theorem op_at (hR : Reg P ops0 ops Q L T) {i : Nat} {oi : Oper} {r : List Oper} (hi : ops0.toList.drop i = oi :: r) : ops[i]? = some oi := by
  rw [hR.ops_eq, ← Array.getElem?_toList, ← Nat.add_zero i, ← List.getElem?_drop, hi]; rfl
/-- Number i, which only reads, comes first. -/
theorem wg_take (i : Nat) {oi : Oper} {r : List Oper} {v : Value} (hR : Reg P ops0 ops Q L T) (hi : ops0.toList.drop i = oi :: r) (hr : readyT T done i = true)
    (hw : wantedW T L ws oi.guard = true) (hy : ∀ w, S w → (execOp (evalW L ws) oi).run P w = .ok (.value v) w) (hS : S w)
    (h : W P ops Q S L ds fuel (i :: done) (putW oi.dst v ws) w) : W P ops Q S L ds (fuel + 1) done ws w := fun hb => by
  have ho := op_at hR hi
  refine wpAnyH_first (v := v) ho (Region.noSelect_spec hR.nosel) (fun c a w => hR.calm c _ _ a w) fuel _ _ w (apart_of_good hR.tab hR.good ho hr) (readyT_mem hR.tab hR.good ho hr) ?_ hS ?_
  · exact .inl ⟨wanted_W ds hR.tab hR.good hb hw, fun w hw => by rw [eval_W hb]; exact hy w hw⟩
  · rw [put_W]; exact h (putW_lt hb (dst_lt hR ho))
/-- Number i is not wanted. -/
theorem wg_skip (i : Nat) {oi : Oper} {r : List Oper} (hR : Reg P ops0 ops Q L T) (hi : ops0.toList.drop i = oi :: r) (hr : readyT T done i = true)
    (hw : wantedW T L ws oi.guard = false) (hS : S w)
    (h : W P ops Q S L ds fuel (i :: done) (putW oi.dst undef ws) w) : W P ops Q S L ds (fuel + 1) done ws w := fun hb => by
  have ho := op_at hR hi
  refine wpAnyH_first (v := undef) ho (Region.noSelect_spec hR.nosel) (fun c a w => hR.calm c _ _ a w) fuel _ _ w (apart_of_good hR.tab hR.good ho hr) (readyT_mem hR.tab hR.good ho hr) ?_ hS ?_
  · exact .inr ⟨wanted_W ds hR.tab hR.good hb hw, rfl⟩
  · rw [put_W]; exact h (putW_lt hb (dst_lt hR ho))
/-- What comes of an operation that is carried out. -/
def StepW (P : Program) (S : World → Prop) (L : List Value) (ws : List (Nat × Value)) (oi : Oper) (w : World) (N : Value → World → Prop) : Prop :=
  (∃ v w', (execOp (evalW L ws) oi).run P w = .ok (.value v) w' ∧ S w' ∧ N v w') ∨ (∃ w', (execOp (evalW L ws) oi).run P w = .ok .skip w' ∧ S w' ∧ N undef w') ∨
  (∃ f args, (execOp (evalW L ws) oi).run P w = .ok (.enter f args) w ∧ Calls P f args w fun e w' => ∃ v, e = .returned v ∧ S w' ∧ N v w')
theorem StepW.wp {oi : Oper} {N : Value → World → Prop} {a : Act} {K : Act → World → Prop} (h : StepW P S L ws oi w N) (he : a.eval = evalW L ws) (hK : ∀ v w', S w' → N v w' → K (a.put oi.dst v) w') : Oper.wp P oi a w K Q := by
  unfold Oper.wp
  rw [he]
  rcases h with ⟨v, w', h1, h2, h3⟩ | ⟨w', h1, h2, h3⟩ | ⟨f, args, h1, h2⟩
  · rw [h1, Oper.upon_value]; exact hK v w' h2 h3
  · rw [h1, Oper.upon_skip]; exact hK undef w' h2 h3
  · rw [h1, Oper.upon_enter]
    exact h2.mono fun e w' ⟨v, he, hs, hn⟩ => by subst he; exact hK v w' hs hn
/-- Which numbers may come up. -/
def upT (done : List Nat) : List (Row × Nat) → List Nat
  | [] => []
  | (x, k) :: r => if !done.contains k && x.2.2.all (fun j => done.contains j) then k :: upT done r else upT done r
theorem mem_upT {done : List Nat} {x : Row} {k : Nat} (h1 : done.contains k = false) (h2 : ∀ j ∈ x.2.2, done.contains j = true) : ∀ {l}, (x, k) ∈ l → k ∈ upT done l
  | (y, j) :: r, h => by
    rcases List.mem_cons.1 h with e | h
    · cases e
      unfold upT
      rw [if_pos (by simp only [h1, Bool.not_false, Bool.true_and]; exact List.all_eq_true.2 h2)]
      exact List.mem_cons_self
    · have ih := mem_upT h1 h2 h
      unfold upT
      split
      · exact List.mem_cons_of_mem _ ih
      · exact ih
theorem ready_up (hR : Reg P ops0 ops Q L T) {j : Nat} (h : j ∈ Region.ready .any ops (lset ops.size done)) : j ∈ upT done (numbered T 0) := by
  obtain ⟨_, oj, hj, _⟩ := mem_ready.1 h
  have hT := table_get hR.tab hj
  have hg := hR.good
  simp only [goodT, Bool.and_eq_true] at hg
  rw [ready_iff hj (inA_get hg.2.2 hT)] at h
  have hm := mem_numbered (k := 0) hT
  rw [Nat.zero_add] at hm
  exact mem_upT (x := rowOf ops oj) h.1 h.2 hm
/-- One operation alone may come up. -/
theorem wg_step (i : Nat) {oi : Oper} {r : List Oper} (hR : Reg P ops0 ops Q L T) (hi : ops0.toList.drop i = oi :: r) (hr : upT done (numbered T 0) = [i])
    (hw : wantedW T L ws oi.guard = true)
    (h : StepW P S L ws oi w fun v w' => S w' → W P ops Q S L ds fuel (i :: done) (putW oi.dst v ws) w') (hr2 : readyT T done i = true) : W P ops Q S L ds (fuel + 1) done ws w := fun hb => by
  have ho := op_at hR hi
  refine ⟨fun h0 => ?_, fun j hj => ?_⟩
  · have := readyT_mem hR.tab hR.good ho hr2
    rw [h0] at this; cases this
  · have := ready_up hR hj
    rw [hr] at this
    obtain rfl := List.mem_singleton.1 this
    refine wpOp_step ho fun K' hK => ?_
    rw [if_pos (wanted_W ds hR.tab hR.good hb hw)]
    exact h.wp (eval_W hb ds) fun v w' hs hn => hK _ _ ⟨hs, by rw [put_W]; exact hn hs (putW_lt hb (dst_lt hR ho))⟩
/-- Either of two may come up. -/
theorem wg_two (i j : Nat) {oi oj : Oper} {r s : List Oper} (hR : Reg P ops0 ops Q L T) (hi : ops0.toList.drop i = oi :: r) (hj : ops0.toList.drop j = oj :: s) (hr : upT done (numbered T 0) = [i, j])
    (hwi : wantedW T L ws oi.guard = true) (hwj : wantedW T L ws oj.guard = true) (hr2 : readyT T done i = true)
    (h1 : StepW P S L ws oi w fun v w' => S w' → W P ops Q S L ds fuel (i :: done) (putW oi.dst v ws) w')
    (h2 : StepW P S L ws oj w fun v w' => S w' → W P ops Q S L ds fuel (j :: done) (putW oj.dst v ws) w') : W P ops Q S L ds (fuel + 1) done ws w := fun hb => by
  have ho := op_at hR hi
  have ho2 := op_at hR hj
  refine ⟨fun h0 => ?_, fun k hk => ?_⟩
  · have := readyT_mem hR.tab hR.good ho hr2
    rw [h0] at this; cases this
  · have := ready_up hR hk
    rw [hr] at this
    rcases List.mem_cons.1 this with rfl | this
    · refine wpOp_step ho fun K' hK => ?_
      rw [if_pos (wanted_W ds hR.tab hR.good hb hwi)]
      exact h1.wp (eval_W hb ds) fun v w' hs hn => hK _ _ ⟨hs, by rw [put_W]; exact hn hs (putW_lt hb (dst_lt hR ho))⟩
    · obtain rfl := List.mem_singleton.1 this
      refine wpOp_step ho2 fun K' hK => ?_
      rw [if_pos (wanted_W ds hR.tab hR.good hb hwj)]
      exact h2.wp (eval_W hb ds) fun v w' hs hn => hK _ _ ⟨hs, by rw [put_W]; exact hn hs (putW_lt hb (dst_lt hR ho2))⟩
theorem wg_three (i j m : Nat) {oi oj om : Oper} {r s q : List Oper} (hR : Reg P ops0 ops Q L T) (hi : ops0.toList.drop i = oi :: r) (hj : ops0.toList.drop j = oj :: s) (hm : ops0.toList.drop m = om :: q) (hr : upT done (numbered T 0) = [i, j, m])
    (hwi : wantedW T L ws oi.guard = true) (hwj : wantedW T L ws oj.guard = true) (hwm : wantedW T L ws om.guard = true) (hr2 : readyT T done i = true)
    (h1 : StepW P S L ws oi w fun v w' => S w' → W P ops Q S L ds fuel (i :: done) (putW oi.dst v ws) w')
    (h2 : StepW P S L ws oj w fun v w' => S w' → W P ops Q S L ds fuel (j :: done) (putW oj.dst v ws) w')
    (h3 : StepW P S L ws om w fun v w' => S w' → W P ops Q S L ds fuel (m :: done) (putW om.dst v ws) w') : W P ops Q S L ds (fuel + 1) done ws w := fun hb => by
  have ho := op_at hR hi
  have ho2 := op_at hR hj
  have ho3 := op_at hR hm
  refine ⟨fun h0 => ?_, fun k hk => ?_⟩
  · have := readyT_mem hR.tab hR.good ho hr2
    rw [h0] at this; cases this
  · have := ready_up hR hk
    rw [hr] at this
    rcases List.mem_cons.1 this with rfl | this
    · refine wpOp_step ho fun K' hK => ?_
      rw [if_pos (wanted_W ds hR.tab hR.good hb hwi)]
      exact h1.wp (eval_W hb ds) fun v w' hs hn => hK _ _ ⟨hs, by rw [put_W]; exact hn hs (putW_lt hb (dst_lt hR ho))⟩
    · rcases List.mem_cons.1 this with rfl | this
      · refine wpOp_step ho2 fun K' hK => ?_
        rw [if_pos (wanted_W ds hR.tab hR.good hb hwj)]
        exact h2.wp (eval_W hb ds) fun v w' hs hn => hK _ _ ⟨hs, by rw [put_W]; exact hn hs (putW_lt hb (dst_lt hR ho2))⟩
      · obtain rfl := List.mem_singleton.1 this
        refine wpOp_step ho3 fun K' hK => ?_
        rw [if_pos (wanted_W ds hR.tab hR.good hb hwm)]
        exact h3.wp (eval_W hb ds) fun v w' hs hn => hK _ _ ⟨hs, by rw [put_W]; exact hn hs (putW_lt hb (dst_lt hR ho3))⟩
/-- What a slot holds when the region begins. -/
theorem wg_read {L L0 : List Value} (h : L = L0) (k : Nat) {v : Value} {r : List Value} (e : L0.drop k = v :: r) : base L k = v := by
  subst h
  have : L[k]? = some v := by rw [← Nat.add_zero k, ← List.getElem?_drop, e]; rfl
  simp [base, this]
/-- The beginning. -/
theorem wg_begin {L0 : List Value} {id : Nat} {Q0 : Exit → Act → World → Prop} (T : List Row) (S : World → Prop) (hm : P.follows .mixedOrders = true) (ht : tableR ops0 = T) (hg : goodT L0.length ops0.size T = true) (hs : Region.noSelect ops0 = true)
    (hQ : ∀ c d v a w, Q0 (.panic c) (Act.put a d v) w → Q0 (.panic c) a w) (hS : S w.drew)
    (h : ∀ (ops : Array Oper) (Q : Exit → Act → World → Prop) (L : List Value), L = L0 → Reg P ops0 ops Q L T →
      Shut (∀ ws w, Q0 .normal ⟨(setAll L0 ws).toArray, ds⟩ w → Q .normal ⟨(setAll L ws).toArray, ds⟩ w) → S w.drew → W P ops Q S L ds ops0.size [] [] w.drew) :
    (Code.region id ops0 true).wp P Q0 ⟨L0.toArray, ds⟩ w := by
  refine wp_region_held_drew hm hS fun hS => ?_
  have := h ops0 Q0 L0 rfl ⟨rfl, ht, hg, hs, hQ⟩ (fun _ _ h => h) hS
  exact this (by simp)
/-- The gaps between the slots that were written, in rising order. -/
def mg : List Value → List (Nat × Value) → List Value
  | l, [] => l
  | [], _ => []
  | _ :: l, (0, v) :: r => v :: mg l r
  | x :: l, (g + 1, v) :: r => x :: mg l ((g, v) :: r)
def absT : Nat → List (Nat × Value) → List (Nat × Value)
  | _, [] => []
  | b, (g, v) :: r => (b + g, v) :: absT (b + g + 1) r
def lookO : List (Nat × Value) → Nat → Option Value
  | [], _ => none
  | (d, v) :: ws, k => if k = d then some v else lookO ws k
theorem setAll_get? (L : List Value) : ∀ (ws : List (Nat × Value)) (t : Nat), (setAll L ws)[t]? = if t < L.length then (lookO ws t).or (L[t]?) else none
  | [], t => by by_cases h : t < L.length <;> simp [setAll, lookO, h]
  | (d, v) :: ws, t => by
    have ih := setAll_get? L ws t
    rw [setAll, List.getElem?_set, lookO, setAll_len]
    by_cases e : t = d
    · subst e
      by_cases h : t < L.length <;> simp [h]
    · have e' : d ≠ t := fun c => e c.symm
      rw [if_neg e', ih, if_neg e]
theorem lookO_lt {k : Nat} : ∀ {r : List (Nat × Value)} {b : Nat}, k < b → lookO (absT b r) k = none
  | [], _, _ => rfl
  | (g, v) :: r, b, h => by
    rw [absT, lookO, if_neg (by omega)]
    exact lookO_lt (by omega)
theorem lookO_shift (s : Nat) : ∀ (r : List (Nat × Value)) (b k : Nat), lookO (absT (b + s) r) (k + s) = lookO (absT b r) k
  | [], _, _ => rfl
  | (g, v) :: r, b, k => by
    simp only [absT, lookO]
    have ih := lookO_shift s r (b + g + 1) k
    by_cases h : k = b + g
    · rw [if_pos h, if_pos (by omega)]
    · rw [if_neg h, if_neg (by omega), ← ih]
      congr 2; omega
theorem mg_get? : ∀ (L : List Value) (gs : List (Nat × Value)) (t : Nat), (mg L gs)[t]? = if t < L.length then (lookO (absT 0 gs) t).or (L[t]?) else none
  | l, [], t => by by_cases h : t < l.length <;> simp [mg, absT, lookO, h]
  | [], p :: r, t => by simp [mg]
  | x :: l, (0, v) :: r, t => by
    have e1 : lookO (absT 0 ((0, v) :: r)) t = if t = 0 then some v else lookO (absT 1 r) t := rfl
    rw [e1]
    cases t with
    | zero => simp [mg]
    | succ t =>
      have ih := mg_get? l r t
      have h1 := lookO_shift 1 r 0 t
      simp only [Nat.zero_add] at h1
      simp only [mg, List.getElem?_cons_succ, ih, List.length_cons, Nat.add_lt_add_iff_right, Nat.add_eq_zero_iff, Nat.one_ne_zero, and_false, if_false, h1]
  | x :: l, (g + 1, v) :: r, t => by
    have e1 : absT 0 ((g + 1, v) :: r) = absT 1 ((g, v) :: r) := by
      simp only [absT]
      rw [show 0 + (g + 1) = 1 + g by omega]
    rw [e1]
    cases t with
    | zero => simp [mg, lookO_lt (k := 0) (b := 1) (by omega)]
    | succ t =>
      have ih := mg_get? l ((g, v) :: r) t
      have h1 := lookO_shift 1 ((g, v) :: r) 0 t
      simp only [Nat.zero_add] at h1
      simp only [mg, List.getElem?_cons_succ, ih, List.length_cons, Nat.add_lt_add_iff_right, h1]
theorem lookO_perm : ∀ {a b : List (Nat × Value)}, a.Perm b → (a.map Prod.fst).Nodup → ∀ t, lookO a t = lookO b t := by
  intro a b h
  induction h with
  | nil => intro _ t; rfl
  | cons x _ ih =>
    intro hn t
    obtain ⟨d, v⟩ := x
    simp only [List.map_cons, List.nodup_cons] at hn
    rw [lookO, lookO, ih hn.2]
  | swap x y l =>
    intro hn t
    obtain ⟨d, v⟩ := x
    obtain ⟨d', v'⟩ := y
    simp only [List.map_cons, List.nodup_cons, List.mem_cons, not_or] at hn
    simp only [lookO]
    by_cases h1 : t = d
    · have h2 : ¬ t = d' := fun c => hn.1.1 (by omega)
      rw [if_pos h1, if_neg h2, if_pos h1]
    · rw [if_neg h1, if_neg h1]
  | trans p1 p2 ih1 ih2 =>
    intro hn t
    rw [ih1 hn, ih2 ((p1.map Prod.fst).nodup_iff.1 hn)]
/-- The slots in falling order, each by the number of its writing. -/
def insG (d : Nat) (v : Value) : List (Nat × Value) → List (Nat × Value)
  | [] => [(d, v)]
  | (d', v') :: r => if d' < d then (d, v) :: (d', v') :: r else if d' = d then (d, v) :: r else (d', v') :: insG d v r
theorem lookO_ins (d : Nat) (v : Value) : ∀ (r : List (Nat × Value)) (t : Nat), lookO (insG d v r) t = if t = d then some v else lookO r t
  | [], t => rfl
  | (d', v') :: r, t => by
    have ih := lookO_ins d v r t
    unfold insG
    split
    · rfl
    · split
      · rename_i h; subst h
        simp only [lookO]
        by_cases h : t = d' <;> simp [h]
      · rename_i h1 h2
        simp only [lookO, ih]
        by_cases h : t = d'
        · have : ¬ t = d := fun c => h2 (by omega)
          rw [if_pos h, if_neg this, if_pos h]
        · rw [if_neg h, if_neg h]
def sortG : List (Nat × Value) → List (Nat × Value)
  | [] => []
  | (d, v) :: r => insG d v (sortG r)
theorem lookO_sort : ∀ (ws : List (Nat × Value)) (t : Nat), lookO (sortG ws) t = lookO ws t
  | [], t => rfl
  | (d, v) :: r, t => by rw [sortG, lookO_ins, lookO, lookO_sort r t]
/-- The end: the frame is what it was, with what was written. -/
theorem wg_end {L0 L : List Value} {Q0 : Exit → Act → World → Prop} (hR : Reg P ops0 ops Q L T) (hK : Shut (∀ ws w, Q0 .normal ⟨(setAll L0 ws).toArray, ds⟩ w → Q .normal ⟨(setAll L ws).toArray, ds⟩ w))
    (gs : List (Nat × Value)) {M : List Value} (hd : upT done (numbered T 0) = []) (hsort : sortG ws = (absT 0 gs).reverse) (hM : mg L0 gs = M) (h : Q0 .normal ⟨M.toArray, ds⟩ w) : W P ops Q S L ds fuel done ws w := fun _ => by
  have hready : Region.ready .any ops (lset ops.size done) = [] := by
    rw [List.eq_nil_iff_forall_not_mem]
    intro j hj
    have := ready_up hR hj
    rw [hd] at this; cases this
  refine wpAnyH_done hready ?_ fuel
  refine hK _ _ ?_
  have e : setAll L0 ws = M := by
    rw [← hM]
    refine List.ext_getElem? fun t => ?_
    rw [setAll_get?, mg_get?, ← lookO_sort ws t, hsort]
    have hn : ∀ (g : List (Nat × Value)) (b : Nat), ((absT b g).map Prod.fst).Nodup ∧ ∀ k ∈ (absT b g).map Prod.fst, b ≤ k := by
      intro g
      induction g with
      | nil => intro b; simp [absT]
      | cons p r ih =>
        intro b
        obtain ⟨g, v⟩ := p
        obtain ⟨h1, h2⟩ := ih (b + g + 1)
        simp only [absT, List.map_cons, List.nodup_cons]
        refine ⟨⟨fun c => by have := h2 _ c; omega, h1⟩, fun k hk => ?_⟩
        rcases List.mem_cons.1 hk with rfl | hk
        · exact Nat.le_add_right _ _
        · have := h2 k hk; omega
    rw [lookO_perm (List.reverse_perm _) (((List.reverse_perm _).map _).nodup_iff.2 (hn gs 0).1)]
  rw [e]; exact h
theorem wg_call {f : FuncId} {args : Array Value} {oi : Oper} {N : Value → World → Prop} (h1 : (execOp (evalW L ws) oi).run P w = .ok (.enter f args) w) (h2 : Calls P f args w fun e w' => ∃ v, e = .returned v ∧ S w' ∧ N v w') : StepW P S L ws oi w N := .inr (.inr ⟨f, args, h1, h2⟩)
theorem wg_eff {v : Value} {w' : World} {oi : Oper} {N : Value → World → Prop} (h1 : (execOp (evalW L ws) oi).run P w = .ok (.value v) w') (h2 : S w') (h3 : N v w') : StepW P S L ws oi w N := .inl ⟨v, w', h1, h2, h3⟩
theorem wg_skp {w' : World} {oi : Oper} {N : Value → World → Prop} (h1 : (execOp (evalW L ws) oi).run P w = .ok .skip w') (h2 : S w') (h3 : N undef w') : StepW P S L ws oi w N := .inr (.inl ⟨w', h1, h2, h3⟩)
def sameB (a b : List Nat) : Bool := a.all (fun k => b.contains k) && b.all (fun k => a.contains k)
/-- In which order it came does not matter any more. -/
theorem wg_swap {done' : List Nat} {ws' : List (Nat × Value)} (h1 : sameB done done' = true) (h2 : sortG ws = sortG ws') (h : W P ops Q S L ds fuel done' ws' w) : W P ops Q S L ds fuel done ws w := fun hb => by
  simp only [sameB, Bool.and_eq_true] at h1
  have e1 : lset ops.size done = lset ops.size done' := by
    refine Array.ext (by rw [lset_size, lset_size]) fun i hi hi' => ?_
    have a := lset_get ops.size false done i
    have b := lset_get ops.size false done' i
    rw [lset_size] at hi
    rw [if_pos hi] at a b
    simp only [Array.getD, lset_size, hi, dif_pos] at a b
    have a' : (lset ops.size done)[i] = done.contains i := a
    have b' : (lset ops.size done')[i] = done'.contains i := b
    rw [a', b', Bool.eq_iff_iff]
    constructor
    · intro hc
      exact List.all_eq_true.1 h1.1 i (by simpa using hc)
    · intro hc
      exact List.all_eq_true.1 h1.2 i (by simpa using hc)
  have hl : ∀ t, lookO ws t = lookO ws' t := fun t => by rw [← lookO_sort ws t, h2, lookO_sort]
  have e2 : setAll L ws = setAll L ws' := List.ext_getElem? fun t => by rw [setAll_get?, setAll_get?, hl]
  have hm : ∀ (x : List (Nat × Value)) (p : Nat × Value), p ∈ x → ∃ v, lookO x p.1 = some v := by
    intro x
    induction x with
    | nil => intro p hp; cases hp
    | cons q r ih =>
      intro p hp
      obtain ⟨d, v⟩ := q
      by_cases e : p.1 = d
      · exact ⟨v, by rw [lookO, if_pos e]⟩
      · rcases List.mem_cons.1 hp with rfl | hp
        · exact absurd rfl e
        · obtain ⟨u, hu⟩ := ih p hp
          exact ⟨u, by rw [lookO, if_neg e, hu]⟩
  have hm2 : ∀ (x : List (Nat × Value)) (t : Nat) (v : Value), lookO x t = some v → ∃ p ∈ x, p.1 = t := by
    intro x
    induction x with
    | nil => intro t v h; cases h
    | cons q r ih =>
      intro t v h
      obtain ⟨d, u⟩ := q
      by_cases e : t = d
      · exact ⟨_, List.mem_cons_self, e.symm⟩
      · rw [lookO, if_neg e] at h
        obtain ⟨p, hp, he⟩ := ih t v h
        exact ⟨p, List.mem_cons_of_mem _ hp, he⟩
  rw [e1, e2]
  exact h fun p hp => by
    obtain ⟨v, hv⟩ := hm _ _ hp
    rw [← hl] at hv
    obtain ⟨q, hq, he⟩ := hm2 _ _ _ hv
    rw [← he]; exact hb q hq
theorem wg_join {α β γ : Type} {fuel' : Nat} {done' : List Nat} {F : α → β → γ → List (Nat × Value)} (R : α → β → γ → World → Prop)
    (main : (∀ a b c w', R a b c w' → W P ops Q S L ds fuel' done' (F a b c) w') → W P ops Q S L ds fuel done ws w) (rest : ∀ a b c w', R a b c w' → W P ops Q S L ds fuel' done' (F a b c) w') : W P ops Q S L ds fuel done ws w := main rest
theorem wg_join8 {α1 α2 α3 α4 α5 α6 α7 α8 : Type} {fuel' : Nat} {done' : List Nat} {F : α1 → α2 → α3 → α4 → α5 → α6 → α7 → α8 → List (Nat × Value)} (R : α1 → α2 → α3 → α4 → α5 → α6 → α7 → α8 → World → Prop)
    (main : (∀ a b c d e f g h w', R a b c d e f g h w' → W P ops Q S L ds fuel' done' (F a b c d e f g h) w') → W P ops Q S L ds fuel done ws w) (rest : ∀ a b c d e f g h w', R a b c d e f g h w' → W P ops Q S L ds fuel' done' (F a b c d e f g h) w') : W P ops Q S L ds fuel done ws w := main rest
/-- Only block O has turned. -/
def Only (O : Nat) (w X : World) : Prop := ∃ j v, X = w.setCell ⟨O, j, none⟩ v
theorem Only.ext {O : Nat} {a w X : World} (h : Only O w X) (hE : Ext a w) (hO : a.heap.size ≤ O) : Ext a X := by
  obtain ⟨j, v, rfl⟩ := h; exact hE.setCell hO v
theorem Only.size {O : Nat} {w X : World} (h : Only O w X) : X.heap.size = w.heap.size := by
  obtain ⟨j, v, rfl⟩ := h; simp
theorem Only.va {O : Nat} {w X : World} (h : Only O w X) {b o : Nat} {l : List Int} (hb : O ≠ b) (hv : VA w b o l) : VA X b o l := by
  obtain ⟨j, v, rfl⟩ := h
  exact ⟨fun i hi => by rw [World.cell?_setCell_other w _ _ _ (fun e => hb (congrArg Addr.block e))]; exact hv.1 i hi, hv.2⟩
theorem Only.box {O : Nat} {w X : World} (h : Only O w X) {b o : Nat} {u : Value} (hb : O ≠ b) (hv : BoxAt w b o u) : BoxAt X b o u := by
  obtain ⟨j, v, rfl⟩ := h; exact hv.other (p := ⟨O, j, none⟩) hb v
theorem Only.rows {O : Nat} {w X : World} (h : Only O w X) {b : Nat} {l : List Int} (hb : O ≠ b) (hv : RowsAt w b l) : RowsAt X b l := by
  obtain ⟨j, v, rfl⟩ := h; exact hv.other (p := ⟨O, j, none⟩) hb v
theorem Only.cell {O : Nat} {w X : World} (h : Only O w X) {p : Addr} {u : Value} (hb : O ≠ p.block) (hv : w.cell? p = some u) : X.cell? p = some u := by
  obtain ⟨j, v, rfl⟩ := h
  rw [World.cell?_setCell_other w _ _ _ (fun e => hb (congrArg Addr.block e))]; exact hv
/-- The values written, by where they stand in the list. -/
def valAt : List (Nat × Value) → Nat → Value
  | [], _ => undef
  | (_, v) :: _, 0 => v
  | _ :: r, p + 1 => valAt r p
def gsOf (ws : List (Nat × Value)) : List (Nat × Nat) → List (Nat × Value)
  | [] => []
  | (g, p) :: r => (g, valAt ws p) :: gsOf ws r
theorem wg_fin {L0 L : List Value} {Q0 : Exit → Act → World → Prop} (hR : Reg P ops0 ops Q L T) (hK : Shut (∀ ws w, Q0 .normal ⟨(setAll L0 ws).toArray, ds⟩ w → Q .normal ⟨(setAll L ws).toArray, ds⟩ w))
    (ks : List (Nat × Nat)) {M : List Value} (hd : upT done (numbered T 0) = []) (hsort : sortG ws = (absT 0 (gsOf ws ks)).reverse) (hM : mg L0 (gsOf ws ks) = M) (h : Q0 .normal ⟨M.toArray, ds⟩ w) : W P ops Q S L ds fuel done ws w := wg_end hR hK (gsOf ws ks) hd hsort hM h

end
end

end Go.Proofs.Ytnbjjddfcondlaa

/- The walk over a list of what has been written: the frame stays behind a name from a function's head to its end. -/
namespace Go.Proofs.Ytnbjjddfcondlaa
open Go.RowKit

section
variable {P : Program} {n : Nat} {L : List Value} {ws : List (Nat × Value)} {w : World} {Q : Exit → Act → World → Prop}

/-- The frame has n slots, and what was written lies in them. -/
def Bd (n : Nat) (L : List Value) (ws : List (Nat × Value)) : Prop := L.length = n ∧ ∀ p ∈ ws, p.1 < n
theorem Bd.lt (h : Bd n L ws) : ∀ p ∈ ws, p.1 < L.length := fun p hp => by rw [h.1]; exact h.2 p hp
theorem Bd.put (h : Bd n L ws) {d : Nat} {v : Value} (hd : Nat.blt d n = true) : Bd n L ((d, v) :: ws) :=
  ⟨h.1, fun p hp => by rcases List.mem_cons.1 hp with rfl | hp; exact Nat.blt_eq.mp hd; exact h.2 p hp⟩
/-- (Structures, that no unifier opens them.) -/
structure CW (P : Program) (c : Code) (Q : Exit → Act → World → Prop) (n : Nat) (L : List Value) (ws : List (Nat × Value)) (w : World) : Prop where
  out : Bd n L ws → c.wp P Q ⟨(setAll L ws).toArray, []⟩ w
structure QW (Q : Exit → Act → World → Prop) (e : Exit) (n : Nat) (L : List Value) (ws : List (Nat × Value)) (w : World) : Prop where
  out : Bd n L ws → Q e ⟨(setAll L ws).toArray, []⟩ w
structure PL (P : Program) (ops rest : List Oper) (Q : Exit → Act → World → Prop) (n : Nat) (L : List Value) (ws : List (Nat × Value)) (w : World) : Prop where
  out : Bd n L ws → wpList P ops.toArray Q rest ⟨(setAll L ws).toArray, []⟩ w
structure WD (P : Program) (ops : Array Oper) (Q : Exit → Act → World → Prop) (S : World → Prop) (L : List Value) (fuel : Nat) (done : List Nat) (ws : List (Nat × Value)) (w : World) : Prop where
  out : W P ops Q S L [] fuel done ws w

theorem calls_cw {f : FuncId} {fn : Func} {c : Code} {av : List Value} {R : Ending → World → Prop} (n : Nat) (ws : List (Nat × Value)) (hf : P.funcs[f]? = some fn) (hb : fn.body = some c) (hn : fn.ntmps = n)
    (he : av ++ List.replicate (n - av.length) undef = setAll (List.replicate n undef) ws) (hl : ws.all (fun p => Nat.blt p.1 n) = true)
    (h : ∀ L, CW P c (bodyPost P fn R) n L ws w) : Calls P f av.toArray w R := by
  refine calls_of_wp hf hb ?_
  have e : (av.toArray ++ Array.replicate (fn.ntmps - av.toArray.size) undef : Array Value) = (setAll (List.replicate n undef) ws).toArray := by
    rw [hn, ← he]; simp
  rw [e]
  exact (h _).out ⟨List.length_replicate, fun p hp => Nat.blt_eq.mp (List.all_eq_true.1 hl p hp)⟩

theorem cw_seq {x y : Code} (h : CW P x (Exit.then (y.wp P Q) Q) n L ws w) : CW P (.seq x y) Q n L ws w := ⟨fun b => wp_seq (h.out b)⟩
theorem cw_block {id : Nat} {c : Code} (h : CW P c (Exit.inBlock id Q) n L ws w) : CW P (.block id c) Q n L ws w := ⟨fun b => wp_block (h.out b)⟩
theorem cw_skip (h : QW Q .normal n L ws w) : CW P .skip Q n L ws w := ⟨fun b => wp_skip (h.out b)⟩
theorem cw_exit {id : Nat} (h : QW Q (.exit id) n L ws w) : CW P (.exit id) Q n L ws w := ⟨fun b => wp_exit (h.out b)⟩
theorem cw_ret (h : QW Q .ret n L ws w) : CW P .ret Q n L ws w := ⟨fun b => wp_ret (h.out b)⟩
theorem cw_plain {id : Nat} {l : List Oper} (h : PL P l l Q n L ws w) : CW P (.region id l.toArray false) Q n L ws w := ⟨fun b => wp_region_lit (h.out b)⟩
theorem cw_t {c : Operand} {x y : Code} (hc : evalW L ws c = .bool true) (h : CW P x Q n L ws w) : CW P (.cond c x y) Q n L ws w := ⟨fun b => wp_cond_true (by rw [eval_W b.lt]; exact hc) (h.out b)⟩
theorem cw_f {c : Operand} {x y : Code} (hc : evalW L ws c = .bool false) (h : CW P y Q n L ws w) : CW P (.cond c x y) Q n L ws w := ⟨fun b => wp_cond_false (by rw [eval_W b.lt]; exact hc) (h.out b)⟩
theorem cw_if {c : Operand} {x y : Code} (t : Bool) (hc : evalW L ws c = .bool t) (h1 : t = true → CW P x Q n L ws w) (h2 : t = false → CW P y Q n L ws w) : CW P (.cond c x y) Q n L ws w := by
  cases t
  · exact cw_f hc (h2 rfl)
  · exact cw_t hc (h1 rfl)

theorem qw_then {y : Code} (h : CW P y Q n L ws w) : QW (Exit.then (y.wp P Q) Q) .normal n L ws w := ⟨h.out⟩
theorem qw_then_ret {K : Act → World → Prop} (h : QW Q .ret n L ws w) : QW (Exit.then K Q) .ret n L ws w := ⟨h.out⟩
theorem qw_then_exit {K : Act → World → Prop} {id : Nat} (h : QW Q (.exit id) n L ws w) : QW (Exit.then K Q) (.exit id) n L ws w := ⟨h.out⟩
theorem qw_block {id : Nat} (h : QW Q .normal n L ws w) : QW (Exit.inBlock id Q) .normal n L ws w := ⟨h.out⟩
theorem qw_block_ret {id : Nat} (h : QW Q .ret n L ws w) : QW (Exit.inBlock id Q) .ret n L ws w := ⟨h.out⟩
theorem qw_block_out {id : Nat} (h : QW Q .normal n L ws w) : QW (Exit.inBlock id Q) (.exit id) n L ws w := ⟨fun b => by
  show (if id = id then _ else _)
  rw [if_pos rfl]; exact h.out b⟩
theorem qw_block_on {id id' : Nat} (hne : id' ≠ id) (h : QW Q (.exit id') n L ws w) : QW (Exit.inBlock id Q) (.exit id') n L ws w := ⟨fun b => by
  show (if id' = id then _ else _)
  rw [if_neg hne]; exact h.out b⟩

/-- What a function returns: its result slots and cells. -/
def ResV (P : Program) (ev : Operand → Value) (w : World) : List ResultVar → List Value → Prop
  | [], [] => True
  | .tmp t :: rs, v :: vs => ev (.tmp t) = v ∧ ResV P ev w rs vs
  | .cell a t :: rs, v :: vs => (∃ ad, ev (.tmp a) = .pointer (some ad) ∧ (loadVar t ad).run P w = .ok v w) ∧ ResV P ev w rs vs
  | _, _ => False
def resOf : List Value → Value
  | [v] => v
  | vs => .tuple vs.toArray
theorem res_map {ev : Operand → Value} {g : ResultVar → Sem Value} (h1 : ∀ t, g (.tmp t) = pure (ev (.tmp t))) (h2 : ∀ b t, g (.cell b t) = do loadVar t (← asAddr (ev (.tmp b)))) :
    ∀ {rs : List ResultVar} {vs : List Value}, ResV P ev w rs vs → (rs.mapM g).run P w = .ok vs w
  | [], [], _ => by simp [go_sem]
  | .tmp t :: rs, v :: vs, h => by
    have ih := res_map h1 h2 h.2
    rw [List.mapM_cons, h1, h.1]
    simp [ih, Result.andThen]
  | .cell b t :: rs, v :: vs, h => by
    have ih := res_map h1 h2 h.2
    obtain ⟨ad, e1, e2⟩ := h.1
    rw [List.mapM_cons, h2, e1]
    simp [ih, asAddr, e2, Result.andThen]
theorem results_g (fn : Func) (tmps : Array Value) : ∃ g : ResultVar → Sem Value, (∀ t, g (.tmp t) = pure (tmps.getD t undef)) ∧ (∀ b t, g (.cell b t) = do loadVar t (← asAddr (tmps.getD b undef))) ∧
    results fn tmps = (do let vs ← fn.results.mapM g; pure (if h : vs.size = 1 then vs[0] else .tuple vs)) := ⟨_, fun _ => rfl, fun _ _ => rfl, rfl⟩
theorem res_run {fn : Func} {a : Act} {rs : List ResultVar} {vs : List Value} (hf : fn.results = rs.toArray) (h : ResV P a.eval w rs vs) : (results fn a.tmps).run P w = .ok (resOf vs) w := by
  obtain ⟨g, h1, h2, e⟩ := results_g fn a.tmps
  have := res_map (P := P) (w := w) (ev := a.eval) h1 h2 h
  rw [e, hf, List.mapM_toArray]
  simp only [Sem.run_bind, Sem.run_map, this, Result.andThen]
  match vs with
  | [] => rfl
  | [v] => rfl
  | u :: v :: r => simp [resOf]
theorem qw_ret {fn : Func} {R : Ending → World → Prop} {rs : List ResultVar} (vs : List Value) (hf : fn.results = rs.toArray) (h : ResV P (evalW L ws) w rs vs) (hR : R (.returned (resOf vs)) w) : QW (bodyPost P fn R) .ret n L ws w := ⟨fun b =>
  bodyPost_ret (res_run hf (by rw [eval_W b.lt]; exact h)) rfl hR⟩
theorem qw_end {fn : Func} {R : Ending → World → Prop} {rs : List ResultVar} (vs : List Value) (hf : fn.results = rs.toArray) (h : ResV P (evalW L ws) w rs vs) (hR : R (.returned (resOf vs)) w) : QW (bodyPost P fn R) .normal n L ws w := ⟨fun b =>
  bodyPost_end (res_run hf (by rw [eval_W b.lt]; exact h)) rfl hR⟩

/-! One operation. -/
def StepN (P : Program) (ev : Operand → Value) (oi : Oper) (w : World) (N : Value → World → Prop) : Prop :=
  (∃ v w', (execOp ev oi).run P w = .ok (.value v) w' ∧ N v w') ∨ (∃ w', (execOp ev oi).run P w = .ok .skip w' ∧ N undef w') ∨
  (∃ f args, (execOp ev oi).run P w = .ok (.enter f args) w ∧ Calls P f args w fun e w' => ∃ v, e = .returned v ∧ N v w')
theorem StepN.wp {ev : Operand → Value} {oi : Oper} {N : Value → World → Prop} {a : Act} {K : Act → World → Prop} (h : StepN P ev oi w N) (he : a.eval = ev) (hK : ∀ v w', N v w' → K (a.put oi.dst v) w') : Oper.wp P oi a w K Q := by
  unfold Oper.wp
  rw [he]
  rcases h with ⟨v, w', h1, h3⟩ | ⟨w', h1, h3⟩ | ⟨f, args, h1, h2⟩
  · rw [h1, Oper.upon_value]; exact hK v w' h3
  · rw [h1, Oper.upon_skip]; exact hK undef w' h3
  · rw [h1, Oper.upon_enter]
    exact h2.mono fun e w' ⟨v, he, hn⟩ => by subst he; exact hK v w' hn
theorem StepN.toW {S : World → Prop} {oi : Oper} {N : Value → World → Prop} (h : StepN P (evalW L ws) oi w fun v w' => S w' ∧ N v w') : StepW P S L ws oi w fun v w' => S w' → N v w' := by
  rcases h with ⟨v, w', h1, h3⟩ | ⟨w', h1, h3⟩ | ⟨f, args, h1, h2⟩
  · exact .inl ⟨v, w', h1, h3.1, fun _ => h3.2⟩
  · exact .inr (.inl ⟨w', h1, h3.1, fun _ => h3.2⟩)
  · exact .inr (.inr ⟨f, args, h1, h2.mono fun e w' ⟨v, he, hn⟩ => ⟨v, he, hn.1, fun _ => hn.2⟩⟩)
theorem sn_call {ev : Operand → Value} {oi : Oper} {N : Value → World → Prop} {f : FuncId} {args : Array Value} (h1 : (execOp ev oi).run P w = .ok (.enter f args) w) (h2 : Calls P f args w fun e w' => ∃ v, e = .returned v ∧ N v w') : StepN P ev oi w N := .inr (.inr ⟨f, args, h1, h2⟩)
theorem sn_eff {ev : Operand → Value} {oi : Oper} {N : Value → World → Prop} {v : Value} {w' : World} (h1 : (execOp ev oi).run P w = .ok (.value v) w') (h3 : N v w') : StepN P ev oi w N := .inl ⟨v, w', h1, h3⟩
theorem sn_skp {ev : Operand → Value} {oi : Oper} {N : Value → World → Prop} {w' : World} (h1 : (execOp ev oi).run P w = .ok .skip w') (h3 : N undef w') : StepN P ev oi w N := .inr (.inl ⟨w', h1, h3⟩)
theorem sn_new {ev : Operand → Value} {oi : Oper} {N : Value → World → Prop} {us : Array Value} {t : TypeId} (h1 : (execOp ev oi).run P w = .ok (.value (.pointer (some ⟨w.heap.size, 0, none⟩))) (w.alloc (.cells us t)))
    (h : ∀ O X, w.heap.size = O → X.heap.size = O + 1 → Ext w X → (∀ i u, us[i]? = some u → BoxAt X O i u) → N (.pointer (some ⟨O, 0, none⟩)) X) : StepN P ev oi w N := by
  refine sn_eff h1 (h _ _ rfl (by simp) (Ext.alloc (Ext.refl _) _) (fun i u hu => ⟨?_, ?_⟩))
  · rw [cell_of_row _ _ i _ t (0, 0) (heap_alloc_new w _)]; exact hu
  · simp [go_sem]
theorem sn_newS {ev : Operand → Value} {oi : Oper} {N : Value → World → Prop} {us : Array Value} {t : TypeId} {k c : Nat} (h1 : (execOp ev oi).run P w = .ok (.value (.slice (some ⟨w.heap.size, 0, none⟩) k c)) (w.alloc (.cells us t)))
    (h : ∀ O X, w.heap.size = O → X.heap.size = O + 1 → Ext w X → (∀ i u, us[i]? = some u → BoxAt X O i u) → N (.slice (some ⟨O, 0, none⟩) k c) X) : StepN P ev oi w N := by
  refine sn_eff h1 (h _ _ rfl (by simp) (Ext.alloc (Ext.refl _) _) (fun i u hu => ⟨?_, ?_⟩))
  · rw [cell_of_row _ _ i _ t (0, 0) (heap_alloc_new w _)]; exact hu
  · simp [go_sem]
theorem sn_put {ev : Operand → Value} {oi : Oper} {N : Value → World → Prop} {O j : Nat} {u v : Value} (h1 : (execOp ev oi).run P w = .ok .skip (w.setCell ⟨O, j, none⟩ v)) (hO : BoxAt w O j u)
    (h : ∀ X, Only O w X → BoxAt X O j v → N undef X) : StepN P ev oi w N := by
  have hB : BoxAt (w.setCell ⟨O, j, none⟩ v) O j v := ⟨by have := hO.1; simp [go_sem, this], by have := hO.2; simpa [go_sem] using this⟩
  exact sn_skp h1 (h _ ⟨j, v, rfl⟩ hB)

/-! A region whose order is fixed. -/
def wantP (ops : List Oper) (L : List Value) (ws : List (Nat × Value)) : Option (Nat × Bool) → Bool
  | none => true
  | some (g, want) => match ops.drop g with
    | o :: _ => (match o.dst with | some d => (match look ws (base L) d with | .bool b => b == want | _ => false) | none => false)
    | [] => false
theorem wantP_spec {ops : List Oper} {o : Oper} {b : Bool} (h : Bd n L ws) (hok : ∀ x ∈ ops, ∀ d, x.dst = some d → d < n) (hw : wantP ops L ws o.guard = b) :
    Region.wanted o (yielded ops.toArray (⟨(setAll L ws).toArray, []⟩ : Act).tmps) = b := by
  subst hw
  unfold Region.wanted wantP
  cases hgd : o.guard with
  | none => rfl
  | some p =>
    obtain ⟨g, want⟩ := p
    have ho : ops.toArray[g]? = ops[g]? := by simp
    simp only [yielded, ho]
    cases hj : ops[g]? with
    | none =>
      have : ops.drop g = [] := by
        rw [List.drop_eq_nil_iff]
        rcases Nat.lt_or_ge g ops.length with h1 | h1
        · rw [List.getElem?_eq_getElem h1] at hj; cases hj
        · exact h1
      rw [this]; rfl
    | some og =>
      obtain ⟨r, hr⟩ := drop_get hj
      rw [hr]
      simp only [Option.bind_some]
      cases hd : og.dst with
      | none => rfl
      | some d =>
        have hlt : d < n := hok og (List.mem_of_getElem? hj) d hd
        have hget := setAll_get L ws h.lt d
        have hlt2 : d < (setAll L ws).toArray.size := by simp [setAll_len, h.1, hlt]
        simp only [Array.getD, hlt2, dif_pos] at hget
        simp only [Option.bind_some]
        rw [Array.getElem?_eq_getElem hlt2]
        have e : (setAll L ws).toArray[d] = look ws (base L) d := hget
        rw [e]
        cases look ws (base L) d <;> rfl
/-- All slots that a region writes lie in the frame. -/
def dstOk (n : Nat) : List Oper → Bool
  | [] => true
  | o :: r => (match o.dst with | some d => Nat.blt d n | none => true) && dstOk n r
theorem dstOk_spec {ops : List Oper} (h : dstOk n ops = true) : ∀ x ∈ ops, ∀ d, x.dst = some d → d < n := by
  induction ops with
  | nil => intro x hx; cases hx
  | cons o r ih =>
    unfold dstOk at h
    obtain ⟨h1, h2⟩ := Bool.and_eq_true_iff.1 h
    intro x hx d hd
    rcases List.mem_cons.1 hx with e | hx
    · rw [← e, hd] at h1; exact Nat.blt_eq.mp h1
    · exact ih h2 x hx d hd
theorem pl_nil {ops : List Oper} (h : QW Q .normal n L ws w) : PL P ops [] Q n L ws w := ⟨h.out⟩
theorem pl_take {ops rest : List Oper} {o : Oper} {d : Nat} (v : Value) (hdst : o.dst = some d) (hok : dstOk n ops = true) (hd : Nat.blt d n = true) (hw : wantP ops L ws o.guard = true)
    (hr : (execOp (evalW L ws) o).run P w = .ok (.value v) w) (h : PL P ops rest Q n L ((d, v) :: ws) w) : PL P ops (o :: rest) Q n L ws w := ⟨fun b => by
  refine wpList_step fun K hK => ?_
  rw [if_pos (wantP_spec b (dstOk_spec hok) hw)]
  unfold Oper.wp
  rw [eval_W b.lt, hr, Oper.upon_value]
  refine hK _ _ ?_
  rw [put_W, hdst]; exact h.out (b.put hd)⟩
theorem pl_skip {ops rest : List Oper} {o : Oper} {d : Nat} (hdst : o.dst = some d) (hok : dstOk n ops = true) (hd : Nat.blt d n = true) (hw : wantP ops L ws o.guard = false)
    (h : PL P ops rest Q n L ((d, undef) :: ws) w) : PL P ops (o :: rest) Q n L ws w := ⟨fun b => by
  refine wpList_step fun K hK => ?_
  rw [if_neg (by rw [wantP_spec b (dstOk_spec hok) hw]; simp)]
  refine hK _ _ ?_
  rw [put_W, hdst]; exact h.out (b.put hd)⟩
theorem pl_step {ops rest : List Oper} {o : Oper} {d : Nat} (hdst : o.dst = some d) (hok : dstOk n ops = true) (hd : Nat.blt d n = true) (hw : wantP ops L ws o.guard = true)
    (h : StepN P (evalW L ws) o w fun v w' => PL P ops rest Q n L ((d, v) :: ws) w') : PL P ops (o :: rest) Q n L ws w := ⟨fun b => by
  refine wpList_step fun K hK => ?_
  rw [if_pos (wantP_spec b (dstOk_spec hok) hw)]
  exact h.wp (eval_W b.lt []) fun v w' hn => hK _ _ (by rw [put_W, hdst]; exact hn.out (b.put hd))⟩
theorem pl_put {ops rest : List Oper} {o : Oper} (hdst : o.dst = none) (hok : dstOk n ops = true) (hw : wantP ops L ws o.guard = true)
    (h : StepN P (evalW L ws) o w fun _ w' => PL P ops rest Q n L ws w') : PL P ops (o :: rest) Q n L ws w := ⟨fun b => by
  refine wpList_step fun K hK => ?_
  rw [if_pos (wantP_spec b (dstOk_spec hok) hw)]
  exact h.wp (eval_W b.lt []) fun v w' hn => hK _ _ (by rw [put_W, hdst]; exact hn.out b)⟩
/-! A region that draws its order. -/
def Calm (Q : Exit → Act → World → Prop) : Prop := ∀ c d v a w, Q (.panic c) (Act.put a d v) w → Q (.panic c) a w
theorem calm_then {K : Act → World → Prop} (h : Calm Q) : Calm (Exit.then K Q) := fun c d v a w h' => h c d v a w h'
theorem calm_block {id : Nat} (h : Calm Q) : Calm (Exit.inBlock id Q) := fun c d v a w h' => h c d v a w h'
theorem calm_body {fn : Func} {R : Ending → World → Prop} : Calm (bodyPost P fn R) := fun c d v a w h => by cases d <;> exact h
theorem cw_draw {id : Nat} {ops0 : Array Oper} (T : List Row) (S : World → Prop) (hm : P.follows .mixedOrders = true) (ht : tableR ops0 = T) (hg : goodT n ops0.size T = true) (hs : Region.noSelect ops0 = true) (hQ : Calm Q) (hS : S w.drew)
    (h : ∀ (ops : Array Oper) (Q' : Exit → Act → World → Prop) (X : World), Ext w X → L.length = n → Reg P ops0 ops Q' L T → Shut (∀ ws w, QW Q .normal n L ws w → QW Q' .normal n L ws w) → WD P ops Q' S L ops0.size [] ws X) : CW P (.region id ops0 true) Q n L ws w := ⟨fun b => by
  refine wp_region_held_drew hm hS fun hS => ?_
  exact (h ops0 Q _ (Ext.drew (Ext.refl _)) b.1 ⟨rfl, ht, by rw [b.1]; exact hg, hs, hQ⟩ (fun _ _ h => h)).out b.lt⟩
variable {ops0 ops : Array Oper} {Q' : Exit → Act → World → Prop} {T : List Row} {S : World → Prop} {fuel : Nat} {done : List Nat}
theorem StepN.toD {S : World → Prop} {oi : Oper} {L' : Value → List (Nat × Value)} {Q' : Exit → Act → World → Prop} {ops : Array Oper} {fuel : Nat} {done : List Nat} (h : StepN P (evalW L ws) oi w fun v w' => S w' ∧ WD P ops Q' S L fuel done (L' v) w') : StepW P S L ws oi w fun v w' => S w' → W P ops Q' S L [] fuel done (L' v) w' :=
  StepN.toW (N := fun v w' => W P ops Q' S L [] fuel done (L' v) w') (by
    rcases h with ⟨v, w', h1, h3⟩ | ⟨w', h1, h3⟩ | ⟨f, args, h1, h2⟩
    · exact .inl ⟨v, w', h1, h3.1, h3.2.out⟩
    · exact .inr (.inl ⟨w', h1, h3.1, h3.2.out⟩)
    · exact .inr (.inr ⟨f, args, h1, h2.mono fun e w' ⟨v, he, hn⟩ => ⟨v, he, hn.1, hn.2.out⟩⟩))
theorem wd_end (hL : L.length = n) (hR : Reg P ops0 ops Q' L T) (hK : Shut (∀ ws w, QW Q .normal n L ws w → QW Q' .normal n L ws w)) (hd : upT done (numbered T 0) = []) (h : QW Q .normal n L ws w) : WD P ops Q' S L fuel done ws w := ⟨fun hb => by
  refine wpAnyH_done ?_ ?_ fuel
  · rw [List.eq_nil_iff_forall_not_mem]
    intro j hj
    have := ready_up hR hj
    rw [hd] at this; cases this
  · exact (hK _ _ h).out ⟨hL, fun p hp => by rw [← hL]; exact hb p hp⟩⟩
theorem wd_take (i : Nat) {d : Nat} {oi : Oper} {r : List Oper} (v : Value) (hR : Reg P ops0 ops Q' L T) (hi : ops0.toList.drop i = oi :: r) (hr : readyT T done i = true) (hdst : oi.dst = some d)
    (hw : wantedW T L ws oi.guard = true) (hy : ∀ w, S w → (execOp (evalW L ws) oi).run P w = .ok (.value v) w) (hS : S w)
    (h : WD P ops Q' S L fuel (i :: done) ((d, v) :: ws) w) : WD P ops Q' S L (fuel + 1) done ws w := ⟨wg_take i hR hi hr hw hy hS (by rw [hdst]; exact h.out)⟩
theorem wd_skip (i : Nat) {d : Nat} {oi : Oper} {r : List Oper} (hR : Reg P ops0 ops Q' L T) (hi : ops0.toList.drop i = oi :: r) (hr : readyT T done i = true) (hdst : oi.dst = some d)
    (hw : wantedW T L ws oi.guard = false) (hS : S w)
    (h : WD P ops Q' S L fuel (i :: done) ((d, undef) :: ws) w) : WD P ops Q' S L (fuel + 1) done ws w := ⟨wg_skip i hR hi hr hw hS (by rw [hdst]; exact h.out)⟩
theorem wd_step (i : Nat) {oi : Oper} {r : List Oper} (hR : Reg P ops0 ops Q' L T) (hi : ops0.toList.drop i = oi :: r) (hr : upT done (numbered T 0) = [i]) (hr2 : readyT T done i = true)
    (hw : wantedW T L ws oi.guard = true) (h : StepN P (evalW L ws) oi w fun v w' => S w' ∧ WD P ops Q' S L fuel (i :: done) (putW oi.dst v ws) w') : WD P ops Q' S L (fuel + 1) done ws w := ⟨wg_step i hR hi hr hw h.toD hr2⟩
theorem wd_two (i j : Nat) {oi oj : Oper} {r s : List Oper} (hR : Reg P ops0 ops Q' L T) (hi : ops0.toList.drop i = oi :: r) (hj : ops0.toList.drop j = oj :: s) (hr : upT done (numbered T 0) = [i, j]) (hr2 : readyT T done i = true)
    (hwi : wantedW T L ws oi.guard = true) (hwj : wantedW T L ws oj.guard = true)
    (h1 : StepN P (evalW L ws) oi w fun v w' => S w' ∧ WD P ops Q' S L fuel (i :: done) (putW oi.dst v ws) w')
    (h2 : StepN P (evalW L ws) oj w fun v w' => S w' ∧ WD P ops Q' S L fuel (j :: done) (putW oj.dst v ws) w') : WD P ops Q' S L (fuel + 1) done ws w := ⟨wg_two i j hR hi hj hr hwi hwj hr2 h1.toD h2.toD⟩
theorem wd_three (i j m : Nat) {oi oj om : Oper} {r s q : List Oper} (hR : Reg P ops0 ops Q' L T) (hi : ops0.toList.drop i = oi :: r) (hj : ops0.toList.drop j = oj :: s) (hm : ops0.toList.drop m = om :: q) (hr : upT done (numbered T 0) = [i, j, m]) (hr2 : readyT T done i = true)
    (hwi : wantedW T L ws oi.guard = true) (hwj : wantedW T L ws oj.guard = true) (hwm : wantedW T L ws om.guard = true)
    (h1 : StepN P (evalW L ws) oi w fun v w' => S w' ∧ WD P ops Q' S L fuel (i :: done) (putW oi.dst v ws) w')
    (h2 : StepN P (evalW L ws) oj w fun v w' => S w' ∧ WD P ops Q' S L fuel (j :: done) (putW oj.dst v ws) w')
    (h3 : StepN P (evalW L ws) om w fun v w' => S w' ∧ WD P ops Q' S L fuel (m :: done) (putW om.dst v ws) w') : WD P ops Q' S L (fuel + 1) done ws w := ⟨wg_three i j m hR hi hj hm hr hwi hwj hwm hr2 h1.toD h2.toD h3.toD⟩

/-! What of the frame is kept: the rest is forgotten. -/
def pickW (ws : List (Nat × Value)) : List Nat → Option (List (Nat × Value))
  | [] => some []
  | k :: ks => match lookO ws k, pickW ws ks with
    | some v, some r => some ((k, v) :: r)
    | _, _ => none
theorem pick_look : ∀ {ks : List Nat} {ws' : List (Nat × Value)}, pickW ws ks = some ws' → ∀ t v, lookO ws' t = some v → lookO ws t = some v
  | [], ws', h, t, v, ht => by cases h; cases ht
  | k :: ks, ws', h, t, v, ht => by
    unfold pickW at h
    cases e1 : lookO ws k with
    | none => rw [e1] at h; cases h
    | some u =>
      cases e2 : pickW ws ks with
      | none => rw [e1, e2] at h; cases h
      | some r =>
        rw [e1, e2] at h; cases h
        unfold lookO at ht
        by_cases e : t = k
        · rw [if_pos e] at ht; subst e; rw [e1]; exact ht
        · rw [if_neg e] at ht; exact pick_look e2 t v ht
theorem look_mem : ∀ {ws : List (Nat × Value)} {t : Nat} {v : Value}, lookO ws t = some v → (t, v) ∈ ws
  | (d, u) :: r, t, v, h => by
    unfold lookO at h
    by_cases e : t = d
    · rw [if_pos e] at h; cases h; subst e; exact List.mem_cons_self
    · rw [if_neg e] at h; exact List.mem_cons_of_mem _ (look_mem h)
theorem mem_look : ∀ {ws : List (Nat × Value)} {p : Nat × Value}, p ∈ ws → ∃ v, lookO ws p.1 = some v
  | (d, u) :: r, p, h => by
    by_cases e : p.1 = d
    · exact ⟨u, by rw [lookO, if_pos e]⟩
    · rcases List.mem_cons.1 h with rfl | h
      · exact absurd rfl e
      · obtain ⟨v, hv⟩ := mem_look h
        exact ⟨v, by rw [lookO, if_neg e, hv]⟩
theorem pick_set {ks : List Nat} {ws' : List (Nat × Value)} (h : pickW ws ks = some ws') : setAll (setAll L ws) ws' = setAll L ws := by
  refine List.ext_getElem? fun t => ?_
  rw [setAll_get?, setAll_len]
  split
  · rename_i ht
    cases e : lookO ws' t with
    | none => simp
    | some v =>
      have := pick_look h t v e
      rw [setAll_get?, if_pos ht, this]; rfl
  · rename_i ht
    rw [setAll_get?, if_neg ht]
theorem pick_bd {ks : List Nat} {ws' : List (Nat × Value)} (h : pickW ws ks = some ws') (b : Bd n L ws) : Bd n (setAll L ws) ws' :=
  ⟨by rw [setAll_len]; exact b.1, fun p hp => by
    obtain ⟨v, hv⟩ := mem_look hp
    exact b.2 (p.1, v) (look_mem (pick_look h _ _ hv))⟩
theorem cw_clean {c : Code} (ks : List Nat) {ws' : List (Nat × Value)} (hp : pickW ws ks = some ws') (h : ∀ L', CW P c Q n L' ws' w) : CW P c Q n L ws w := ⟨fun b => by
  have := (h (setAll L ws)).out (pick_bd hp b)
  rwa [pick_set hp] at this⟩
/-- Several ways, one continuation. -/
theorem cw_join {c : Code} (R : List (Nat × Value) → World → Prop) (main : (∀ L' ws' w', R ws' w' → QW Q .normal n L' ws' w') → CW P c Q n L ws w) (rest : ∀ L' ws' w', R ws' w' → QW Q .normal n L' ws' w') : CW P c Q n L ws w := main rest
theorem qw_leaf {R : List (Nat × Value) → World → Prop} (hJ : ∀ L' ws' w', R ws' w' → QW Q .normal n L' ws' w') (ks : List Nat) {ws' : List (Nat × Value)} (hp : pickW ws ks = some ws') (h : R ws' w) : QW Q .normal n L ws w := ⟨fun b => by
  have := (hJ (setAll L ws) ws' w h).out (pick_bd hp b)
  rwa [pick_set hp] at this⟩

/-! Loops. -/
theorem least {p : Nat → Prop} : (∃ m, p m) → ∃ m, p m ∧ ∀ k, p k → m ≤ k := by
  rintro ⟨m, hm⟩
  induction m using Nat.strongRecOn with
  | _ m ih =>
    by_cases h : ∃ k, k < m ∧ p k
    · obtain ⟨k, hk, hp⟩ := h; exact ih k hk hp
    · exact ⟨m, hm, fun k hk => Nat.le_of_not_lt fun hlt => h ⟨k, hlt, hk⟩⟩
def LoopK (n : Nat) (Inv : List (Nat × Value) → World → Nat → Prop) (m : Nat) : Act → World → Prop := fun a w => ∃ L' ws' m', m' < m ∧ Bd n L' ws' ∧ a = ⟨(setAll L' ws').toArray, []⟩ ∧ Inv ws' w m'
open Classical in
theorem cw_loop {c : Code} (ks : List Nat) (Inv : List (Nat × Value) → World → Nat → Prop) {ws0 : List (Nat × Value)} (hp : pickW ws ks = some ws0) (m0 : Nat) (h0 : Inv ws0 w m0)
    (round : ∀ m L' ws' w', Inv ws' w' m → CW P c (Exit.then (LoopK n Inv m) Q) n L' ws' w') : CW P (.loop c) Q n L ws w := ⟨fun b => by
  let J : Nat → Act → World → Prop := fun m a w => ∃ L' ws', Bd n L' ws' ∧ a = ⟨(setAll L' ws').toArray, []⟩ ∧ Inv ws' w m
  let μ : Act → World → Nat := fun a w => if h : ∃ m, J m a w then Classical.choose (least h) else 0
  have hμ : ∀ a w (h : ∃ m, J m a w), J (μ a w) a w ∧ ∀ k, J k a w → μ a w ≤ k := fun a w h => by
    have e : μ a w = Classical.choose (least h) := dif_pos h
    rw [e]; exact Classical.choose_spec (least h)
  refine wp_loop (fun a w => ∃ m, J m a w) μ ⟨m0, setAll L ws, ws0, pick_bd hp b, by rw [pick_set hp], h0⟩ fun a w h => ?_
  obtain ⟨⟨L', ws', hb, ha, hI⟩, _⟩ := hμ a w h
  have := (round (μ a w) L' ws' w hI).out hb
  rw [← ha] at this
  refine Code.wp_mono (fun e a' w' q => ?_) this
  cases e with
  | normal =>
    obtain ⟨L2, ws2, m2, hlt, hb2, ha2, hI2⟩ := q
    have hJ : J m2 a' w' := ⟨L2, ws2, hb2, ha2, hI2⟩
    exact ⟨⟨m2, hJ⟩, Nat.lt_of_le_of_lt ((hμ a' w' ⟨m2, hJ⟩).2 m2 hJ) hlt⟩
  | _ => exact q⟩
theorem qw_round {Inv : List (Nat × Value) → World → Nat → Prop} {m : Nat} (ks : List Nat) {ws' : List (Nat × Value)} (hp : pickW ws ks = some ws') (m' : Nat) (hlt : m' < m) (h : Inv ws' w m') : QW (Exit.then (LoopK n Inv m) Q) .normal n L ws w := ⟨fun b =>
  ⟨setAll L ws, ws', m', hlt, pick_bd hp b, by rw [pick_set hp], h⟩⟩
end

end Go.Proofs.Ytnbjjddfcondlaa

/- Operations: what they yield, in the forms that the walk over a list of writes wants. -/
namespace Go.Proofs.Ytnbjjddfcondlaa
open Go.RowKit

section
variable {P : Program} {ev : Operand → Value} {o : Oper} {w : World}
theorem ex_load {t : TypeId} {x : Operand} {p v : Value} (hop : o.op = .load t x) (hx : ev x = p) (h : (Instr.loadAt t p).run P w = .ok v w) : (execOp ev o).run P w = .ok (.value v) w := by
  simp [execOp, hop, hx, h, Result.andThen]
theorem ex_store {t : TypeId} {x y : Operand} {p v : Value} {w' : World} (hop : o.op = .store t x y) (hx : ev x = p) (hy : ev y = v) (h : (Instr.storeAt t p v).run P w = .ok () w') : (execOp ev o).run P w = .ok .skip w' := by
  simp [execOp, hop, hx, hy, h, Result.andThen]
theorem ex_index {t : TypeId} {x y : Operand} {p i v : Value} (hop : o.op = .indexAddr t x y) (hx : ev x = p) (hy : ev y = i) (h : (Instr.indexAt t p i).run P w = .ok v w) : (execOp ev o).run P w = .ok (.value v) w := by
  simp [execOp, hop, hx, hy, h, Result.andThen]
theorem ex_slice {t : TypeId} {x : Operand} {lo hi mx : Option Operand} {lv hv mv : Option Value} {p v : Value} (hop : o.op = .slice t x lo hi mx) (hx : ev x = p) (h1 : lo.map ev = lv) (h2 : hi.map ev = hv) (h3 : mx.map ev = mv)
    (h : (Instr.sliceAt t p lv hv mv).run P w = .ok v w) : (execOp ev o).run P w = .ok (.value v) w := by
  simp [execOp, hop, hx, h1, h2, h3, h, Result.andThen]
theorem ev_wrap {a : Int} {r : Result Next} (h : r = .ok (.value (.int .i64 (IntKind.i64.wrap a))) w) (h0 : -9223372036854775808 ≤ a) (h1 : a ≤ 9223372036854775807) : r = .ok (.value (.int .i64 a)) w := by
  have e : IntKind.i64.wrap a = a := by rw [IntKind.wrap_i64]; omega
  rw [h, e]
theorem ev_val {v v' : Value} {r : Result Next} (h : r = .ok (.value v) w) (e : v = v') : r = .ok (.value v') w := by rw [h, e]
theorem ev_int {a b : Int} {k : IntKind} {r : Result Next} (h : r = .ok (.value (.int k a)) w) (e : a = b) : r = .ok (.value (.int k b)) w := by rw [h, e]
theorem ev_bool {b b' : Bool} {r : Result Next} (h : r = .ok (.value (.bool b)) w) (e : b = b') : r = .ok (.value (.bool b')) w := by rw [h, e]
theorem ev_dec {p : Prop} [Decidable p] {r : Result Next} (h : r = .ok (.value (.bool (decide p))) w) (e : p) : r = .ok (.value (.bool true)) w := by rw [h, decide_eq_true e]
theorem ev_ndec {p : Prop} [Decidable p] {r : Result Next} (h : r = .ok (.value (.bool (decide p))) w) (e : ¬ p) : r = .ok (.value (.bool false)) w := by rw [h, decide_eq_false e]
theorem ev_eq {a b : Int} {r : Result Next} (h : r = .ok (.value (.bool (a == b))) w) (e : a = b) : r = .ok (.value (.bool true)) w := by rw [h, e]; simp
theorem ev_neq {a b : Int} {r : Result Next} (h : r = .ok (.value (.bool (a == b))) w) (e : a ≠ b) : r = .ok (.value (.bool false)) w := by rw [h]; simp [e]
theorem ev_ne {a b : Int} {r : Result Next} (h : r = .ok (.value (.bool (a != b))) w) (e : a ≠ b) : r = .ok (.value (.bool true)) w := by rw [h]; simp [e]
theorem ev_nne {a b : Int} {r : Result Next} (h : r = .ok (.value (.bool (a != b))) w) (e : a = b) : r = .ok (.value (.bool false)) w := by rw [h, e]; simp
end

theorem res_ld {P : Program} {t : TypeId} {ad : Addr} {v : Value} {w : World} (h : (Instr.loadAt t (.pointer (some ad))).run P w = .ok v w) : (loadVar t ad).run P w = .ok v w := h

/-! Sums and bits of naturals. -/
theorem ex_bin {P : Program} {ev : Operand → Value} {o : Oper} {w : World} {op : BinOp} {t t2 : TypeId} {x y : Operand} {a b : Int} {v : Value} (hop : o.op = .binOp op t x y t2) (hx : ev x = .int .i64 a) (hy : ev y = .int .i64 b)
    (h : (binOp op t (.int .i64 a) (.int .i64 b)).run P w = .ok v w) : (execOp ev o).run P w = .ok (.value v) w := by
  have e : (eqGuard op t x y (.int .i64 a) (.int .i64 b)).run P w = .ok () w := by cases op <;> simp [eqGuard]
  simp [execOp, hop, hx, hy, e, h, Result.andThen]
theorem bin_shr {P : Program} {w : World} {t : TypeId} {S i : Nat} (_hi : i < 64) : (binOp .shr t (.int .i64 (S : Int)) (.int .i64 (i : Int))).run P w = .ok (.int .i64 ((S / 2 ^ i : Nat) : Int)) w := by
  have h0 : ¬ ((i : Int) < 0) := by omega
  have h1 : min (i : Int).toNat 64 = i := by simp; omega
  have e : (S : Int).fdiv (2 ^ i) = ((S / 2 ^ i : Nat) : Int) := by
    rw [Int.fdiv_eq_ediv_of_nonneg _ (by exact Int.le_of_lt (Int.pow_pos (by decide)))]; simp
  simp only [binOp, Op.shift, if_neg h0, IntKind.bits, h1, e]
  rfl
theorem bin_shl1 {P : Program} {w : World} {t : TypeId} {i : Nat} (hi : i < 62) : (binOp .shl t (.int .i64 1) (.int .i64 (i : Int))).run P w = .ok (.int .i64 ((2 ^ i : Nat) : Int)) w := by
  have h0 : ¬ ((i : Int) < 0) := by omega
  have h1 : min (i : Int).toNat 64 = i := by simp; omega
  have h2 : (2 ^ i : Nat) < 2 ^ 62 := Nat.pow_lt_pow_right (by decide) hi
  have e : IntKind.i64.wrap (1 * 2 ^ i) = ((2 ^ i : Nat) : Int) := by
    rw [Int.one_mul, show ((2 : Int) ^ i) = ((2 ^ i : Nat) : Int) by simp, IntKind.wrap_i64]
    generalize (2 ^ i : Nat) = k at h2 ⊢
    omega
  simp only [binOp, Op.shift, if_neg h0, IntKind.bits, h1, e]
  rfl
theorem bin_rem {P : Program} {w : World} {t : TypeId} {a b : Nat} (hb : 0 < b) : (binOp .rem t (.int .i64 (a : Int)) (.int .i64 (b : Int))).run P w = .ok (.int .i64 ((a % b : Nat) : Int)) w := by
  have h0 : ¬ ((b : Int) = 0) := by omega
  have e : (a : Int).tmod (b : Int) = ((a % b : Nat) : Int) := by rw [Int.tmod_eq_emod_of_nonneg (by omega)]; simp
  simp only [binOp, Op.intDiv, if_neg h0, e]
  simp
theorem bin_quo {P : Program} {w : World} {t : TypeId} {a b : Nat} (hb : 0 < b) (ha : a ≤ 9223372036854775807) : (binOp .quo t (.int .i64 (a : Int)) (.int .i64 (b : Int))).run P w = .ok (.int .i64 ((a / b : Nat) : Int)) w := by
  have h0 : ¬ ((b : Int) = 0) := by omega
  have e : (a : Int).tdiv (b : Int) = ((a / b : Nat) : Int) := by rw [Int.tdiv_eq_ediv_of_nonneg (by omega)]; simp
  have h1 : a / b ≤ a := Nat.div_le_self _ _
  have e2 : IntKind.i64.wrap ((a / b : Nat) : Int) = ((a / b : Nat) : Int) := by
    rw [IntKind.wrap_i64]
    generalize a / b = q at h1 ⊢
    omega
  simp only [binOp, Op.intDiv, if_neg h0, e, e2]
  simp
theorem bin_tmod {P : Program} {w : World} {t : TypeId} {a b : Int} (hb : b ≠ 0) : (binOp .rem t (.int .i64 a) (.int .i64 b)).run P w = .ok (.int .i64 (a.tmod b)) w := by
  simp only [binOp, Op.intDiv, if_neg hb]
  simp
theorem bin_tdiv {P : Program} {w : World} {t : TypeId} {a b : Int} (hb : 0 < b) (h0 : -9223372036854775808 ≤ a) (h1 : a ≤ 9223372036854775807) : (binOp .quo t (.int .i64 a) (.int .i64 b)).run P w = .ok (.int .i64 (a.tdiv b)) w := by
  have hne : ¬ b = 0 := by omega
  have h2 : (a.tdiv b).natAbs ≤ a.natAbs := by rw [Int.natAbs_tdiv]; exact Nat.div_le_self _ _
  have e2 : IntKind.i64.wrap (a.tdiv b) = a.tdiv b := by
    rw [IntKind.wrap_i64]
    have h3 : 0 ≤ a → 0 ≤ a.tdiv b := fun h => Int.tdiv_nonneg h (by omega)
    have h4 : a ≤ 0 → a.tdiv b ≤ 0 := fun h => by
      have := Int.tdiv_nonneg (a := -a) (b := b) (by omega) (by omega)
      rw [Int.neg_tdiv] at this; omega
    generalize a.tdiv b = q at h2 h3 h4 ⊢
    omega
  simp only [binOp, Op.intDiv, if_neg hne, e2]
  simp
theorem qw_cast {Q : Exit → Act → World → Prop} {e : Exit} {n : Nat} {L : List Value} {ws ws' : List (Nat × Value)} {w : World} (h : ws = ws') (g : QW Q e n L ws' w) : QW Q e n L ws w := h ▸ g
theorem VA.cell0 {w : World} {b : Nat} {l : List Int} (h : VA w b 0 l) {y : Nat} (hy : y < 24) : w.cell? ⟨b, y, none⟩ = some (.int .i64 ((Globe.rowN l y : Nat) : Int)) := by have := h.cell hy; rwa [Nat.zero_add] at this

/-- In the world X nothing but some cells of block O has turned. -/
structure Turns (O : Nat) (w X : World) : Prop where
  size : X.heap.size = w.heap.size
  cell' : ∀ p : Addr, p.block ≠ O → X.cell? p = w.cell? p
  froz' : ∀ p : Addr, X.frozen? p = w.frozen? p
  ext' : ∀ a, Ext a w → a.heap.size ≤ O → Ext a X
  heap' : ∀ k, k ≠ O → X.heap[k]? = w.heap[k]?
  oth' : ∀ o : Obj, w.heap[O]? = some o → o.isCells = false → X.heap[O]? = some o
theorem Turns.ext {O : Nat} {a w X : World} (h : Turns O w X) (hE : Ext a w) (hO : a.heap.size ≤ O) : Ext a X := h.ext' a hE hO
theorem Turns.cell {O : Nat} {w X : World} (h : Turns O w X) {p : Addr} {u : Value} (hb : O ≠ p.block) (hv : w.cell? p = some u) : X.cell? p = some u := by
  rw [h.cell' p (fun e => hb e.symm)]; exact hv
theorem Turns.va {O : Nat} {w X : World} (h : Turns O w X) {b o : Nat} {l : List Int} (hb : O ≠ b) (hv : VA w b o l) : VA X b o l := ⟨fun i hi => h.cell hb (hv.1 i hi), hv.2⟩
theorem Turns.box {O : Nat} {w X : World} (h : Turns O w X) {b o : Nat} {u : Value} (hb : O ≠ b) (hv : BoxAt w b o u) : BoxAt X b o u := ⟨h.cell hb hv.1, by rw [h.froz']; exact hv.2⟩
theorem Turns.rows {O : Nat} {w X : World} (h : Turns O w X) {b : Nat} {l : List Int} (hb : O ≠ b) (hv : RowsAt w b l) : RowsAt X b l := ⟨hv.1, fun i hi => h.cell hb (hv.cell hi), fun i hi => by rw [h.froz']; exact hv.free hi⟩
theorem turns_set (w : World) (O j : Nat) (v : Value) : Turns O w (w.setCell ⟨O, j, none⟩ v) :=
  ⟨by simp, fun p hp => World.cell?_setCell_other w _ _ _ (fun e => hp (congrArg Addr.block e).symm), fun p => by simp [go_sem], fun _ hE hO => hE.setCell hO v, fun k hk => Below.heap_setCell _ _ _ _ (fun e => hk e), fun o ho hc => by
    have h2 : (w.setCell ⟨O, j, none⟩ v).heap[O]? = _ := Array.getElem?_modify
    rw [h2, if_pos rfl, ho]
    cases o <;> first | rfl | simp [Obj.isCells] at hc⟩
theorem Turns.trans {O : Nat} {a b c : World} (h : Turns O a b) (k : Turns O b c) : Turns O a c :=
  ⟨k.size.trans h.size, fun p hp => (k.cell' p hp).trans (h.cell' p hp), fun p => (k.froz' p).trans (h.froz' p), fun x hE hO => k.ext' x (h.ext' x hE hO) hO, fun i hi => (k.heap' i hi).trans (h.heap' i hi), fun o ho hc => k.oth' o (h.oth' o ho hc) hc⟩
section
variable {P : Program} {ev : Operand → Value} {oi : Oper} {w : World} {N : Value → World → Prop}
/-- A store into a box of the call's own: the world goes under a name. -/
theorem sn_set {O j : Nat} {u v : Value} (h1 : (execOp ev oi).run P w = .ok .skip (w.setCell ⟨O, j, none⟩ v)) (hO : BoxAt w O j u)
    (h : ∀ X, Turns O w X → BoxAt X O j v → (∀ i x, i ≠ j → BoxAt w O i x → BoxAt X O i x) → N undef X) : StepN P ev oi w N := by
  have hB : BoxAt (w.setCell ⟨O, j, none⟩ v) O j v := ⟨by have := hO.1; simp [go_sem, this], by have := hO.2; simpa [go_sem] using this⟩
  exact sn_skp h1 (h _ (turns_set _ _ _ _) hB fun i x hi hx => ⟨by rw [World.cell?_setCell_other w _ _ _ (fun e => hi (congrArg Addr.off e).symm)]; exact hx.1, by simp [go_sem, hx.2]⟩)
theorem sn_set2 {O j : Nat} {u u' v v' : Value} (h1 : (execOp ev oi).run P w = .ok .skip ((w.setCell ⟨O, j, none⟩ v).setCell ⟨O, j + 1, none⟩ v')) (hO : BoxAt w O j u) (hO' : BoxAt w O (j + 1) u')
    (h : ∀ X, Turns O w X → BoxAt X O j v → BoxAt X O (j + 1) v' → (∀ i x, i ≠ j → i ≠ j + 1 → BoxAt w O i x → BoxAt X O i x) → N undef X) : StepN P ev oi w N := by
  have k : ∀ (W : World) (j : Nat) (u v : Value), BoxAt W O j u → BoxAt (W.setCell ⟨O, j, none⟩ v) O j v := fun W j u v hO => ⟨by have := hO.1; simp [go_sem, this], by have := hO.2; simpa [go_sem] using this⟩
  have k2 : ∀ (W : World) (j i : Nat) (x v : Value), i ≠ j → BoxAt W O i x → BoxAt (W.setCell ⟨O, j, none⟩ v) O i x := fun W j i x v hi hx => ⟨by rw [World.cell?_setCell_other W _ _ _ (fun e => hi (congrArg Addr.off e).symm)]; exact hx.1, by simp [go_sem, hx.2]⟩
  exact sn_skp h1 (h _ ((turns_set _ _ _ _).trans (turns_set _ _ _ _)) (k2 _ _ _ _ _ (by omega) (k _ _ _ _ hO)) (k _ _ _ _ (k2 _ _ _ _ _ (by omega) hO')) fun i x hi hi' hx => k2 _ _ _ _ _ hi' (k2 _ _ _ _ _ hi hx))
end
section
variable {P : Program} {n : Nat} {L : List Value} {ws : List (Nat × Value)} {w : World} {Q : Exit → Act → World → Prop}
theorem cw_label {l : Nat} (h : QW Q .normal n L ws w) : CW P (.label l) Q n L ws w := ⟨fun b => wp_label (h.out b)⟩
theorem cw_scope {c : Code} (h : CW P c (Exit.noGoto Q) n L ws w) : CW P (.scope c) Q n L ws w := ⟨fun b => wp_scope_straight (h.out b)⟩
theorem qw_scope (h : QW Q .normal n L ws w) : QW (Exit.noGoto Q) .normal n L ws w := ⟨h.out⟩
theorem qw_scope_ret (h : QW Q .ret n L ws w) : QW (Exit.noGoto Q) .ret n L ws w := ⟨h.out⟩
theorem qw_scope_exit {id : Nat} (h : QW Q (.exit id) n L ws w) : QW (Exit.noGoto Q) (.exit id) n L ws w := ⟨h.out⟩
theorem calm_scope (h : Calm Q) : Calm (Exit.noGoto Q) := fun c d v a w h' => h c d v a w h'
end
/-- A row that is written in place. -/
theorem sn_row {P : Program} {ev : Operand → Value} {oi : Oper} {w : World} {N : Value → World → Prop} {g y : Nat} {L : List Int} {v : Int} (h1 : (execOp ev oi).run P w = .ok .skip (w.setCell ⟨g, y, none⟩ (.int .i64 v))) (hr : RowsAt w g L) (hy : y < 24)
    (h : ∀ X, Turns g w X → RowsAt X g (L.set y v) → N undef X) : StepN P ev oi w N := sn_skp h1 (h _ (turns_set _ _ _ _) (hr.set hy v))

end Go.Proofs.Ytnbjjddfcondlaa

/- The walk, where it is wanted to the draw and to the block how the world has grown (a comparison that is handed to a sort). -/
namespace Go.Proofs.Ytnbjjddfcondlaa
open Go.RowKit

/-- The world has drawn, and blocks have come; nothing else. -/
def Gro (w w' : World) : Prop := ∃ q os, w' = Go.Sort.grow (w.drewN q) os
theorem Gro.refl (w : World) : Gro w w := ⟨0, #[], by rw [Go.Sort.grow_empty]; rfl⟩
theorem Gro.trans {a b c : World} (h : Gro a b) (k : Gro b c) : Gro a c := by
  obtain ⟨q, os, rfl⟩ := h
  obtain ⟨q', os', rfl⟩ := k
  refine ⟨q + q', os ++ os', ?_⟩
  show Go.Sort.grow (Go.Sort.grow ((a.drewN q).drewN q') os) os' = _
  rw [Go.Sort.grow_grow, World.drewN_drewN]
theorem Gro.alloc (w : World) (o : Obj) : Gro w (w.alloc o) := ⟨0, #[o], by rw [Go.Sort.alloc_eq_grow]; rfl⟩
theorem Gro.drew (w : World) : Gro w w.drew := ⟨1, #[], by rw [Go.Sort.grow_empty]; rfl⟩
theorem Gro.ext {w w' : World} (h : Gro w w') : Ext w w' := by
  obtain ⟨q, os, rfl⟩ := h
  refine (Ext.drewN (Ext.refl w) q).trans ⟨rfl, rfl, rfl, by simp, fun k hk => ?_⟩
  show ((w.drewN q).heap ++ os)[k]? = _
  rw [Array.getElem?_append_left hk]
section
variable {P : Program} {n : Nat} {L : List Value} {ws : List (Nat × Value)} {w : World} {Q : Exit → Act → World → Prop}
theorem sn_newG {ev : Operand → Value} {oi : Oper} {N : Value → World → Prop} {us : Array Value} {t : TypeId} (h1 : (execOp ev oi).run P w = .ok (.value (.pointer (some ⟨w.heap.size, 0, none⟩))) (w.alloc (.cells us t)))
    (h : ∀ O X, w.heap.size = O → X.heap.size = O + 1 → Ext w X → (∀ i u, us[i]? = some u → BoxAt X O i u) → Gro w X → N (.pointer (some ⟨O, 0, none⟩)) X) : StepN P ev oi w N := by
  refine sn_eff h1 (h _ _ rfl (by simp) (Ext.alloc (Ext.refl _) _) (fun i u hu => ⟨?_, ?_⟩) (Gro.alloc _ _))
  · rw [cell_of_row _ _ i _ t (0, 0) (heap_alloc_new w _)]; exact hu
  · simp [go_sem]
theorem sn_newSG {ev : Operand → Value} {oi : Oper} {N : Value → World → Prop} {us : Array Value} {t : TypeId} {k c : Nat} (h1 : (execOp ev oi).run P w = .ok (.value (.slice (some ⟨w.heap.size, 0, none⟩) k c)) (w.alloc (.cells us t)))
    (h : ∀ O X, w.heap.size = O → X.heap.size = O + 1 → Ext w X → (∀ i u, us[i]? = some u → BoxAt X O i u) → Gro w X → N (.slice (some ⟨O, 0, none⟩) k c) X) : StepN P ev oi w N := by
  refine sn_eff h1 (h _ _ rfl (by simp) (Ext.alloc (Ext.refl _) _) (fun i u hu => ⟨?_, ?_⟩) (Gro.alloc _ _))
  · rw [cell_of_row _ _ i _ t (0, 0) (heap_alloc_new w _)]; exact hu
  · simp [go_sem]
theorem cw_drawG {id : Nat} {ops0 : Array Oper} (T : List Row) (S : World → Prop) (hm : P.follows .mixedOrders = true) (ht : tableR ops0 = T) (hg : goodT n ops0.size T = true) (hs : Region.noSelect ops0 = true) (hQ : Calm Q) (hS : S w.drew)
    (h : ∀ (ops : Array Oper) (Q' : Exit → Act → World → Prop) (X : World), Gro w X → Ext w X → L.length = n → Reg P ops0 ops Q' L T → Shut (∀ ws w, QW Q .normal n L ws w → QW Q' .normal n L ws w) → WD P ops Q' S L ops0.size [] ws X) : CW P (.region id ops0 true) Q n L ws w := ⟨fun b => by
  refine wp_region_held_drew hm hS fun hS => ?_
  exact (h ops0 Q _ (Gro.drew _) (Ext.drew (Ext.refl _)) b.1 ⟨rfl, ht, by rw [b.1]; exact hg, hs, hQ⟩ (fun _ _ h => h)).out b.lt⟩
end
end Go.Proofs.Ytnbjjddfcondlaa

/- The mathematics of stored images: the fill at a minute, the minutes at which it changes. -/
namespace Go.Proofs.Ytnbjjddfcondlaa
namespace Mem
/-- A stored image: its number, its units, its spell. -/
structure St where
  im : Int
  un : Int
  fr : Int
  to : Int
instance : Inhabited St := ⟨⟨0, 0, 0, 0⟩⟩
def live (t : Int) (x : St) : Bool := decide (x.fr ≤ t) && decide (t < x.to)
theorem live_iff {t : Int} {x : St} : live t x = true ↔ x.fr ≤ t ∧ t < x.to := by unfold live; simp
def part (t : Int) (x : St) : Int := if live t x then x.un else 0
def sumI (l : List Int) : Int := l.foldr (· + ·) 0
theorem sumI_nil : sumI [] = 0 := rfl
theorem sumI_cons (x : Int) (l : List Int) : sumI (x :: l) = x + sumI l := rfl
theorem sumI_app : ∀ (a b : List Int), sumI (a ++ b) = sumI a + sumI b
  | [], b => by rw [List.nil_append, sumI_nil]; omega
  | x :: a, b => by rw [List.cons_append, sumI_cons, sumI_cons, sumI_app a b]; omega
theorem sumI_perm {a b : List Int} (h : a.Perm b) : sumI a = sumI b := by
  induction h with
  | nil => rfl
  | cons x _ ih => rw [sumI_cons, sumI_cons, ih]
  | swap x y l => rw [sumI_cons, sumI_cons, sumI_cons, sumI_cons]; omega
  | trans _ _ h1 h2 => rw [h1, h2]
def fill (l : List St) (t : Int) : Int := sumI (l.map (part t))
theorem fill_nil (t : Int) : fill [] t = 0 := rfl
theorem fill_cons (x : St) (l : List St) (t : Int) : fill (x :: l) t = part t x + fill l t := rfl
theorem fill_app (a b : List St) (t : Int) : fill (a ++ b) t = fill a t + fill b t := by unfold fill; rw [List.map_append, sumI_app]
theorem fill_perm {a b : List St} (h : a.Perm b) (t : Int) : fill a t = fill b t := sumI_perm (h.map _)
/-- Proper: units and a spell that has minutes. -/
def okU (x : St) : Prop := 1 ≤ x.un ∧ x.fr < x.to
theorem part_nonneg {x : St} (h : okU x) (t : Int) : 0 ≤ part t x := by unfold part; split <;> (have := h.1; omega)
theorem fill_nonneg : ∀ {l : List St}, (∀ x ∈ l, okU x) → ∀ t, 0 ≤ fill l t
  | [], _, _ => Int.le_refl 0
  | x :: l, h, t => by
    have h1 := part_nonneg (h x (by simp)) t
    have h2 := fill_nonneg (l := l) (fun y hy => h y (List.mem_cons_of_mem _ hy)) t
    rw [fill_cons]; omega
theorem fill_zero {l : List St} {t : Int} (h : ∀ x ∈ l, live t x = false) : fill l t = 0 := by
  induction l with
  | nil => rfl
  | cons x l ih => rw [fill_cons, ih fun y hy => h y (by simp [hy])]; unfold part; rw [h x (by simp)]; rfl
theorem fill_congr {l : List St} {s t : Int} (h : ∀ x ∈ l, live s x = live t x) : fill l s = fill l t := by
  induction l with
  | nil => rfl
  | cons x l ih => rw [fill_cons, fill_cons, ih fun y hy => h y (by simp [hy])]; unfold part; rw [h x (by simp)]
theorem fill_mono {l : List St} {s t : Int} (hu : ∀ x ∈ l, okU x) (h : ∀ x ∈ l, live s x = true → live t x = true) : fill l s ≤ fill l t := by
  induction l with
  | nil => exact Int.le_refl 0
  | cons x l ih =>
    have h1 := ih (fun y hy => hu y (by simp [hy])) fun y hy => h y (by simp [hy])
    have h2 : part s x ≤ part t x := by
      unfold part
      cases q : live s x
      · have := part_nonneg (hu x (by simp)) t; unfold part at this; simpa using this
      · rw [h x (by simp) q]; exact Int.le_refl _
    rw [fill_cons, fill_cons]; omega
theorem fill_pos {l : List St} {t : Int} (hu : ∀ x ∈ l, okU x) {x : St} (hx : x ∈ l) (h : live t x = true) : 1 ≤ fill l t := by
  induction l with
  | nil => cases hx
  | cons y l ih =>
    have h2 := fill_nonneg (l := l) (fun y hy => hu y (List.mem_cons_of_mem _ hy)) t
    have h1 := part_nonneg (hu y (by simp)) t
    rw [fill_cons]
    rcases List.mem_cons.1 hx with rfl | hx
    · have : part t x = x.un := by unfold part; rw [h]; rfl
      have := (hu x (by simp)).1; omega
    · have := ih (fun y hy => hu y (by simp [hy])) hx; omega
/-! The minutes at which the fill changes. -/
abbrev Stp := Int × Int
def steps : List St → List Stp
  | [] => []
  | x :: l => (x.fr, x.un) :: (x.to, -x.un) :: steps l
theorem steps_len : ∀ l : List St, (steps l).length = 2 * l.length
  | [] => rfl
  | x :: l => by rw [steps, List.length_cons, List.length_cons, List.length_cons, steps_len l]; omega
theorem steps_snoc : ∀ (l : List St) (x : St), steps (l ++ [x]) = steps l ++ [(x.fr, x.un), (x.to, -x.un)]
  | [], x => rfl
  | y :: l, x => by rw [List.cons_append, steps, steps, steps_snoc l]; rfl
theorem mem_steps : ∀ {l : List St} {s : Stp}, s ∈ steps l ↔ ∃ x ∈ l, s = (x.fr, x.un) ∨ s = (x.to, -x.un)
  | [], s => by simp [steps]
  | x :: l, s => by
    rw [steps, List.mem_cons, List.mem_cons, mem_steps (l := l)]
    constructor
    · rintro (h | h | ⟨y, hy, h⟩)
      · exact ⟨x, by simp, .inl h⟩
      · exact ⟨x, by simp, .inr h⟩
      · exact ⟨y, by simp [hy], h⟩
    · rintro ⟨y, hy, h⟩
      rcases List.mem_cons.1 hy with rfl | hy
      · rcases h with h | h
        · exact .inl h
        · exact .inr (.inl h)
      · exact .inr (.inr ⟨y, hy, h⟩)
def upto (s : List Stp) (t : Int) : Int := sumI (s.map fun p => if p.1 ≤ t then p.2 else 0)
theorem upto_app (a b : List Stp) (t : Int) : upto (a ++ b) t = upto a t + upto b t := by unfold upto; rw [List.map_append, sumI_app]
theorem upto_perm {a b : List Stp} (h : a.Perm b) (t : Int) : upto a t = upto b t := sumI_perm (h.map _)
theorem upto_cons (p : Stp) (s : List Stp) (t : Int) : upto (p :: s) t = (if p.1 ≤ t then p.2 else 0) + upto s t := rfl
theorem upto_steps : ∀ {l : List St}, (∀ x ∈ l, okU x) → ∀ t, upto (steps l) t = fill l t
  | [], _, _ => rfl
  | x :: l, h, t => by
    have hx := h x (by simp)
    rw [steps, upto_cons, upto_cons, upto_steps (fun y hy => h y (by simp [hy])) t, fill_cons]
    unfold part
    by_cases h1 : x.fr ≤ t
    · by_cases h2 : x.to ≤ t
      · have : live t x = false := by unfold live; simp; omega
        rw [this]; simp [h1, h2]; omega
      · have : live t x = true := live_iff.2 ⟨h1, by omega⟩
        rw [this]; simp [h1, h2]
    · have h2 : ¬ x.to ≤ t := by have := hx.2; omega
      have : live t x = false := by unfold live; simp [h1]
      rw [this]; simp [h1, h2]
theorem upto_all {s : List Stp} {t : Int} (h : ∀ p ∈ s, p.1 ≤ t) : upto s t = sumI (s.map (·.2)) := by
  unfold upto
  congr 1
  exact List.map_congr_left fun p hp => by rw [if_pos (h p hp)]
theorem upto_none {s : List Stp} {t : Int} (h : ∀ p ∈ s, t < p.1) : upto s t = 0 := by
  induction s with
  | nil => rfl
  | cons p s ih => rw [upto_cons, ih fun q hq => h q (by simp [hq]), if_neg (by have := h p (by simp); omega)]; rfl
/-- What is yielded, of steps in order: the fill before, then the steps. -/
def emit : Int → List Stp → List Stp
  | _, [] => []
  | f, [a] => [(a.1, f + a.2)]
  | f, a :: b :: s => if b.1 = a.1 then emit (f + a.2) (b :: s) else (a.1, f + a.2) :: emit (f + a.2) (b :: s)
def Srt (s : List Stp) : Prop := s.Pairwise fun a b => a.1 ≤ b.1
theorem emit_ge : ∀ {s : List Stp} {f : Int} {p q : Stp}, Srt (p :: s) → q ∈ emit f (p :: s) → p.1 ≤ q.1
  | [], f, p, q, _, hq => by rw [emit, List.mem_singleton] at hq; rw [hq]; exact Int.le_refl _
  | b :: s, f, p, q, h, hq => by
    obtain ⟨h1, h2⟩ := List.pairwise_cons.1 h
    have hb := h1 b (by simp)
    rw [emit] at hq
    split at hq
    · exact Int.le_trans hb (emit_ge h2 hq)
    · rcases List.mem_cons.1 hq with rfl | hq
      · exact Int.le_refl _
      · exact Int.le_trans hb (emit_ge h2 hq)
theorem emit_asc : ∀ {s : List Stp} {f : Int}, Srt s → (emit f s).Pairwise fun a b => a.1 < b.1
  | [], _, _ => List.Pairwise.nil
  | [a], _, _ => List.pairwise_singleton _ _
  | a :: b :: s, f, h => by
    obtain ⟨h1, h2⟩ := List.pairwise_cons.1 h
    rw [emit]
    split
    · exact emit_asc h2
    · rename_i hne
      refine List.pairwise_cons.2 ⟨fun q hq => ?_, emit_asc h2⟩
      have h3 := emit_ge h2 hq
      have h4 := h1 b (by simp)
      show a.1 < q.1
      omega
theorem emit_mem : ∀ {s : List Stp} {f : Int} {p : Stp}, p ∈ s → ∃ q ∈ emit f s, q.1 = p.1
  | [a], f, p, h => by rw [List.mem_singleton.1 h]; exact ⟨(a.1, f + a.2), by rw [emit]; simp, rfl⟩
  | a :: b :: s, f, p, h => by
    rw [emit]
    split
    · rename_i he
      rcases List.mem_cons.1 h with rfl | h
      · obtain ⟨q, hq, e⟩ := emit_mem (f := f + p.2) (show b ∈ b :: s by simp)
        exact ⟨q, hq, e.trans he⟩
      · exact emit_mem h
    · rcases List.mem_cons.1 h with rfl | h
      · exact ⟨(p.1, f + p.2), by simp, rfl⟩
      · obtain ⟨q, hq, e⟩ := emit_mem (f := f + a.2) h
        exact ⟨q, by simp [hq], e⟩
theorem emit_of : ∀ {s : List Stp} {f : Int} {q : Stp}, Srt s → q ∈ emit f s → (∃ p ∈ s, p.1 = q.1) ∧ q.2 = f + upto s q.1
  | [a], f, q, _, h => by
    rw [emit, List.mem_singleton] at h
    subst h
    exact ⟨⟨a, by simp, rfl⟩, by rw [upto_cons, if_pos (Int.le_refl _)]; show f + a.2 = f + (a.2 + 0); omega⟩
  | a :: b :: s, f, q, hs, h => by
    obtain ⟨h1, h2⟩ := List.pairwise_cons.1 hs
    rw [emit] at h
    split at h
    · rename_i he
      obtain ⟨⟨p, hp, e⟩, e2⟩ := emit_of h2 h
      refine ⟨⟨p, by simp [hp], e⟩, ?_⟩
      have hg := emit_ge h2 h
      rw [e2, upto_cons a, if_pos (by omega)]; omega
    · rename_i hne
      rcases List.mem_cons.1 h with rfl | h
      · refine ⟨⟨a, by simp, rfl⟩, ?_⟩
        have hz : upto (b :: s) a.1 = 0 := upto_none fun p hp => by
          rcases List.mem_cons.1 hp with rfl | hp
          · have := h1 p (by simp); omega
          · have h3 := (List.pairwise_cons.1 h2).1 p hp
            have h4 := h1 b (by simp); omega
        show f + a.2 = f + upto (a :: b :: s) a.1
        rw [upto_cons, hz, if_pos (Int.le_refl _)]; omega
      · obtain ⟨⟨p, hp, e⟩, e2⟩ := emit_of h2 h
        refine ⟨⟨p, by simp [hp], e⟩, ?_⟩
        have hg := emit_ge h2 h
        have h4 := h1 b (by simp)
        rw [e2, upto_cons a, if_pos (by omega)]; omega
/-- What the fills of stored images are: ascending minutes at which one begins or ends, each with the fill there. -/
structure Fills (l : List St) (E : List Stp) : Prop where
  asc : E.Pairwise fun a b => a.1 < b.1
  val : ∀ q ∈ E, q.2 = fill l q.1
  at_ : ∀ q ∈ E, ∃ x ∈ l, q.1 = x.fr ∨ q.1 = x.to
  fr : ∀ x ∈ l, ∃ q ∈ E, q.1 = x.fr
  to : ∀ x ∈ l, ∃ q ∈ E, q.1 = x.to
theorem fills_of {l : List St} {s : List Stp} (hu : ∀ x ∈ l, okU x) (hp : s.Perm (steps l)) (hs : Srt s) : Fills l (emit 0 s) where
  asc := emit_asc hs
  val q hq := by rw [(emit_of hs hq).2, upto_perm hp, upto_steps hu]; omega
  at_ q hq := by
    obtain ⟨⟨p, hp', e⟩, _⟩ := emit_of hs hq
    obtain ⟨x, hx, h⟩ := mem_steps.1 (hp.mem_iff.1 hp')
    refine ⟨x, hx, ?_⟩
    rcases h with rfl | rfl
    · exact .inl e.symm
    · exact .inr e.symm
  fr x hx := emit_mem (hp.mem_iff.2 (mem_steps.2 ⟨x, hx, .inl rfl⟩))
  to x hx := emit_mem (p := (x.to, -x.un)) (hp.mem_iff.2 (mem_steps.2 ⟨x, hx, .inr rfl⟩))
/-- Between two changes nothing changes. -/
theorem fill_const {l : List St} {E : List Stp} (h : Fills l E) {s t : Int} (hst : s ≤ t) (hn : ∀ q ∈ E, ¬ (s < q.1 ∧ q.1 ≤ t)) : fill l s = fill l t := fill_congr fun x hx => by
  obtain ⟨p, hp, e1⟩ := h.fr x hx
  obtain ⟨q, hq, e2⟩ := h.to x hx
  have h1 := hn p hp
  have h2 := hn q hq
  rw [e1] at h1; rw [e2] at h2
  rw [Bool.eq_iff_iff, live_iff, live_iff]
  omega
theorem fill_before {l : List St} {E : List Stp} (h : Fills l E) {t : Int} (hn : ∀ q ∈ E, t < q.1) : fill l t = 0 := fill_zero fun x hx => by
  obtain ⟨p, hp, e1⟩ := h.fr x hx
  have := hn p hp
  cases q : live t x
  · rfl
  · have := (live_iff.1 q).1; omega
/-! The last one that is not later. -/
def lastV (E : List Stp) : Int := match E.getLast? with | some q => q.2 | none => 0
theorem lastV_nil : lastV [] = 0 := rfl
theorem lastV_snoc (E : List Stp) (q : Stp) : lastV (E ++ [q]) = q.2 := by unfold lastV; rw [List.getLast?_concat]
theorem fill_at {l : List St} {E : List Stp} (h : Fills l E) {k : Nat} {t : Int} (h1 : ∀ j q, j < k → E[j]? = some q → q.1 ≤ t) (h2 : ∀ q, E[k]? = some q → t < q.1) (hk : k ≤ E.length) : lastV (E.take k) = fill l t := by
  have hlater : ∀ j q, k ≤ j → E[j]? = some q → t < q.1 := fun j q hj hq => by
    rcases Nat.eq_or_lt_of_le hj with rfl | hj
    · exact h2 q hq
    · obtain ⟨hjl, rfl⟩ := List.getElem?_eq_some_iff.1 hq
      have hkl : k < E.length := by omega
      have := List.pairwise_iff_getElem.1 h.asc k j hkl hjl hj
      have := h2 _ (List.getElem?_eq_getElem hkl)
      omega
  rcases Nat.eq_zero_or_pos k with h0 | h0
  · subst h0
    rw [List.take_zero, lastV_nil]
    exact (fill_before h fun q hq => by obtain ⟨j, hj⟩ := List.getElem?_of_mem hq; exact hlater j q (Nat.zero_le _) hj).symm
  · obtain ⟨m, rfl⟩ : ∃ m, k = m + 1 := ⟨k - 1, by omega⟩
    have hm := List.getElem?_eq_getElem (l := E) (i := m) (by omega)
    rw [List.take_add_one, hm]
    show lastV (E.take m ++ [E[m]]) = _
    rw [lastV_snoc, h.val _ (List.getElem_mem _)]
    refine fill_const h (h1 m _ (by omega) hm) fun q hq hb => ?_
    obtain ⟨j, hj⟩ := List.getElem?_of_mem hq
    rcases Nat.lt_or_ge j (m + 1) with hjm | hjm
    · rcases Nat.eq_or_lt_of_le (show j ≤ m by omega) with rfl | hjm
      · rw [hm] at hj; cases hj; omega
      · obtain ⟨hjl, rfl⟩ := List.getElem?_eq_some_iff.1 hj
        have := List.pairwise_iff_getElem.1 h.asc j m hjl (by omega) hjm
        omega
    · have := hlater j q hjm hj; omega
/-! The greatest fill, and when it is first reached. -/
def IsMost (l : List St) (b w : Int) : Prop := (l = [] ∧ b = 0 ∧ w = -1) ∨ (l ≠ [] ∧ fill l w = b ∧ (∃ x ∈ l, x.fr = w) ∧ (∀ t, fill l t ≤ b) ∧ ∀ t, t < w → fill l t < b)
theorem IsMost.uniq {l : List St} {b w b' w' : Int} (h : IsMost l b w) (h' : IsMost l b' w') : b = b' ∧ w = w' := by
  rcases h with ⟨e, rfl, rfl⟩ | ⟨e, h1, _, h3, h4⟩
  · rcases h' with ⟨_, rfl, rfl⟩ | ⟨e', _⟩
    · exact ⟨rfl, rfl⟩
    · exact absurd e e'
  · rcases h' with ⟨e', _⟩ | ⟨_, k1, _, k3, k4⟩
    · exact absurd e' e
    · have hb : b = b' := by have := h3 w'; have := k3 w; omega
      subst hb
      refine ⟨rfl, ?_⟩
      rcases Int.lt_trichotomy w w' with q | q | q
      · have := k4 w q; omega
      · exact q
      · have := h4 w' q; omega
def mostGo : Int × Int → List Stp → Int × Int
  | bw, [] => bw
  | bw, q :: E => mostGo (if bw.1 < q.2 then (q.2, q.1) else bw) E
theorem mostGo_app : ∀ (a : List Stp) (bw : Int × Int) (b : List Stp), mostGo bw (a ++ b) = mostGo (mostGo bw a) b
  | [], _, _ => rfl
  | q :: a, bw, b => by rw [List.cons_append, mostGo, mostGo, mostGo_app a]
theorem mostGo_spec : ∀ {E : List Stp} {bw : Int × Int}, (bw.1 ≤ (mostGo bw E).1) ∧ (∀ q ∈ E, q.2 ≤ (mostGo bw E).1) ∧ (mostGo bw E = bw ∨ ((mostGo bw E).2, (mostGo bw E).1) ∈ E)
  | [], bw => ⟨Int.le_refl _, (fun q hq => by cases hq), .inl rfl⟩
  | p :: E, bw => by
    rw [mostGo]
    obtain ⟨h1, h2, h3⟩ := mostGo_spec (E := E) (bw := if bw.1 < p.2 then (p.2, p.1) else bw)
    by_cases hlt : bw.1 < p.2
    · rw [if_pos hlt] at h1 h2 h3 ⊢
      refine ⟨by simp at h1; omega, fun q hq => ?_, .inr ?_⟩
      · rcases List.mem_cons.1 hq with rfl | hq
        · exact h1
        · exact h2 q hq
      · rcases h3 with h3 | h3
        · rw [h3]; simp
        · exact List.mem_cons_of_mem _ h3
    · rw [if_neg hlt] at h1 h2 h3 ⊢
      refine ⟨h1, fun q hq => ?_, ?_⟩
      · rcases List.mem_cons.1 hq with rfl | hq
        · omega
        · exact h2 q hq
      · exact h3.imp id (List.mem_cons_of_mem _)
/-- The first one that is the greatest: those ahead are less. -/
theorem mostGo_first : ∀ {E : List Stp} {bw : Int × Int}, E.Pairwise (fun a b => a.1 < b.1) → mostGo bw E ≠ bw → (∀ q ∈ E, q.1 < (mostGo bw E).2 → q.2 < (mostGo bw E).1) ∧ bw.1 < (mostGo bw E).1
  | [], _, _, h => absurd rfl h
  | p :: E, bw, ha, h => by
    obtain ⟨a1, a2⟩ := List.pairwise_cons.1 ha
    rw [mostGo] at h ⊢
    by_cases hlt : bw.1 < p.2
    · rw [if_pos hlt] at h ⊢
      by_cases he : mostGo (p.2, p.1) E = (p.2, p.1)
      · rw [he]
        refine ⟨fun q hq hl => ?_, hlt⟩
        rcases List.mem_cons.1 hq with rfl | hq
        · simp at hl
        · have := a1 q hq; simp at hl; omega
      · obtain ⟨k1, k2⟩ := mostGo_first a2 he
        refine ⟨fun q hq hl => ?_, by simp at k2; omega⟩
        rcases List.mem_cons.1 hq with rfl | hq
        · exact k2
        · exact k1 q hq hl
    · rw [if_neg hlt] at h ⊢
      obtain ⟨k1, k2⟩ := mostGo_first a2 h
      refine ⟨fun q hq hl => ?_, k2⟩
      rcases List.mem_cons.1 hq with rfl | hq
      · omega
      · exact k1 q hq hl
/-- Each fill is one of those that are yielded, not later; or nothing. -/
theorem fill_some {l : List St} {E : List Stp} (h : Fills l E) (t : Int) : (fill l t = 0 ∧ ∀ q ∈ E, t < q.1) ∨ ∃ q ∈ E, q.1 ≤ t ∧ fill l t = q.2 := by
  by_cases hn : ∀ q ∈ E, t < q.1
  · exact .inl ⟨fill_before h hn, hn⟩
  · right
    have hne : ∃ q ∈ E, q.1 ≤ t := Classical.byContradiction fun hc => hn fun q hq => Classical.byContradiction fun h9 => hc ⟨q, hq, by omega⟩
    clear hn
    -- the last one of them
    obtain ⟨q, hq, h1, h2⟩ : ∃ q ∈ E, q.1 ≤ t ∧ ∀ p ∈ E, p.1 ≤ t → p.1 ≤ q.1 := by
      have key : ∀ (F : List Stp), (∃ q ∈ F, q.1 ≤ t) → ∃ q ∈ F, q.1 ≤ t ∧ ∀ p ∈ F, p.1 ≤ t → p.1 ≤ q.1 := by
        intro F
        induction F with
        | nil => rintro ⟨q, hq, _⟩; cases hq
        | cons a F ih =>
          rintro ⟨q, hq, hqt⟩
          by_cases hF : ∃ q ∈ F, q.1 ≤ t
          · obtain ⟨r, hr, r1, r2⟩ := ih hF
            by_cases ha : a.1 ≤ t ∧ r.1 < a.1
            · refine ⟨a, by simp, ha.1, fun p hp hpt => ?_⟩
              rcases List.mem_cons.1 hp with rfl | hp
              · exact Int.le_refl _
              · have := r2 p hp hpt; omega
            · refine ⟨r, by simp [hr], r1, fun p hp hpt => ?_⟩
              rcases List.mem_cons.1 hp with rfl | hp
              · omega
              · exact r2 p hp hpt
          · rcases List.mem_cons.1 hq with rfl | hq
            · refine ⟨q, by simp, hqt, fun p hp hpt => ?_⟩
              rcases List.mem_cons.1 hp with rfl | hp
              · exact Int.le_refl _
              · exact absurd ⟨p, hp, hpt⟩ hF
            · exact absurd ⟨q, hq, hqt⟩ hF
      exact key E hne
    refine ⟨q, hq, h1, ?_⟩
    rw [h.val q hq]
    exact (fill_const h h1 fun p hp hb => by have := h2 p hp hb.2; omega).symm
theorem most_is {l : List St} {E : List Stp} (hu : ∀ x ∈ l, okU x) (h : Fills l E) : IsMost l (mostGo (0, -1) E).1 (mostGo (0, -1) E).2 := by
  by_cases hl : l = []
  · subst hl
    have hE : E = [] := by
      cases E with
      | nil => rfl
      | cons q E => obtain ⟨x, hx, _⟩ := h.at_ q (by simp); cases hx
    subst hE
    exact .inl ⟨rfl, rfl, rfl⟩
  · right
    obtain ⟨s1, s2, s3⟩ := mostGo_spec (E := E) (bw := (0, -1))
    obtain ⟨x, hx⟩ := List.exists_mem_of_ne_nil l hl
    obtain ⟨p, hp, e⟩ := h.fr x hx
    have hpos : 1 ≤ p.2 := by
      rw [h.val p hp, e]
      exact fill_pos hu hx (live_iff.2 ⟨Int.le_refl _, (hu x hx).2⟩)
    have hne : mostGo (0, -1) E ≠ (0, -1) := fun e9 => by have := s2 p hp; rw [e9] at this; simp at this; omega
    have hm := s3.resolve_left hne
    obtain ⟨f1, f2⟩ := mostGo_first (bw := (0, -1)) h.asc hne
    have hall : ∀ t, fill l t ≤ (mostGo (0, -1) E).1 := fun t => by
      rcases fill_some h t with ⟨e0, _⟩ | ⟨q, hq, _, e0⟩
      · rw [e0]; exact s1
      · rw [e0]; exact s2 q hq
    have hless : ∀ t, t < (mostGo (0, -1) E).2 → fill l t < (mostGo (0, -1) E).1 := fun t ht => by
      rcases fill_some h t with ⟨e0, _⟩ | ⟨q, hq, hqt, e0⟩
      · rw [e0]; exact f2
      · rw [e0]; exact f1 q hq (by omega)
    refine ⟨hl, (h.val _ hm).symm, ?_, hall, hless⟩
    apply Classical.byContradiction
    intro hc
    have h1 := fill_mono (s := (mostGo (0, -1) E).2) (t := (mostGo (0, -1) E).2 - 1) hu fun y hy hl' => by
      have := live_iff.1 hl'
      have hy2 : y.fr ≠ (mostGo (0, -1) E).2 := fun e9 => hc ⟨y, hy, e9⟩
      exact live_iff.2 ⟨by omega, by omega⟩
    have h2 := hless ((mostGo (0, -1) E).2 - 1) (by omega)
    have h3 := h.val _ hm
    simp only at h3
    omega
/-! The first minute at which a limit is not kept. -/
def IsOver (l : List St) (lim t : Int) : Prop := (t = -1 ∧ ∀ s, fill l s ≤ lim) ∨ ((∃ x ∈ l, x.fr = t) ∧ lim < fill l t ∧ ∀ s, s < t → fill l s ≤ lim)
theorem over_found {l : List St} {E : List Stp} {lim : Int} (hu : ∀ x ∈ l, okU x) (h : Fills l E) (h0 : 0 ≤ lim) {k : Nat} {q : Stp} (hq : E[k]? = some q) (hlt : lim < q.2) (hn : ∀ j p, j < k → E[j]? = some p → p.2 ≤ lim) : IsOver l lim q.1 := by
  have hqm := List.mem_of_getElem? hq
  have hbef : ∀ s, s < q.1 → fill l s ≤ lim := fun s hs => by
    rcases fill_some h s with ⟨e0, _⟩ | ⟨p, hp, hps, e0⟩
    · omega
    · rw [e0]
      obtain ⟨j, hj⟩ := List.getElem?_of_mem hp
      refine hn j p ?_ hj
      apply Classical.byContradiction
      intro hc
      obtain ⟨hjl, rfl⟩ := List.getElem?_eq_some_iff.1 hj
      obtain ⟨hkl, rfl⟩ := List.getElem?_eq_some_iff.1 hq
      rcases Nat.eq_or_lt_of_le (show k ≤ j by omega) with rfl | hkj
      · omega
      · have := List.pairwise_iff_getElem.1 h.asc k j hkl hjl hkj; omega
  have hv := h.val q hqm
  refine .inr ⟨?_, by omega, hbef⟩
  apply Classical.byContradiction
  intro hc
  have h1 := fill_mono (s := q.1) (t := q.1 - 1) hu fun y hy hl' => by
    have := live_iff.1 hl'
    have hy2 : y.fr ≠ q.1 := fun e9 => hc ⟨y, hy, e9⟩
    exact live_iff.2 ⟨by omega, by omega⟩
  have h2 := hbef (q.1 - 1) (by omega)
  omega
theorem over_none {l : List St} {E : List Stp} {lim : Int} (h : Fills l E) (h0 : 0 ≤ lim) (hn : ∀ p ∈ E, p.2 ≤ lim) : IsOver l lim (-1) := .inl ⟨rfl, fun s => by
  rcases fill_some h s with ⟨e0, _⟩ | ⟨p, hp, _, e0⟩
  · omega
  · rw [e0]; exact hn p hp⟩
theorem IsOver.uniq {l : List St} {lim t t' : Int} (h : IsOver l lim t) (h' : IsOver l lim t') : t = t' := by
  rcases h with ⟨rfl, h1⟩ | ⟨⟨x, hx, e⟩, h1, h2⟩
  · rcases h' with ⟨rfl, _⟩ | ⟨_, k1, _⟩
    · rfl
    · have := h1 t'; omega
  · rcases h' with ⟨rfl, k1⟩ | ⟨⟨y, hy, e'⟩, k1, k2⟩
    · have := k1 t; omega
    · rcases Int.lt_trichotomy t t' with q | q | q
      · have := k2 t q; omega
      · exact q
      · have := h2 t' q; omega
end Mem
end Go.Proofs.Ytnbjjddfcondlaa

/- Loads, stores, indices and slices at the types of this seat. -/
namespace Go.Proofs.Ytnbjjddfcondlaa
open Go.RowKit

theorem ix22 {w : World} {b o n c k : Nat} (hk : k < n) : (Instr.indexAt 22 (.slice (some ⟨b, o, none⟩) n c) (.int .i64 (k : Int))).run Try.prog w = .ok (.pointer (some ⟨b, o + k * 3, none⟩)) w := by
  have : (0 : Int) ≤ (k : Int) := by omega
  have : (k : Int) < (n : Int) := by omega
  go_simp
theorem ix22z {w : World} {b n c k : Nat} (hk : k < n) : (Instr.indexAt 22 (.slice (some ⟨b, 0, none⟩) n c) (.int .i64 (k : Int))).run Try.prog w = .ok (.pointer (some ⟨b, k * 3, none⟩)) w := by
  have h := ix22 (w := w) (b := b) (o := 0) (c := c) hk
  rwa [Nat.zero_add] at h
theorem ix27 {w : World} {b o n c k : Nat} (hk : k < n) : (Instr.indexAt 27 (.slice (some ⟨b, o, none⟩) n c) (.int .i64 (k : Int))).run Try.prog w = .ok (.pointer (some ⟨b, o + k * 4, none⟩)) w := by
  have : (0 : Int) ≤ (k : Int) := by omega
  have : (k : Int) < (n : Int) := by omega
  go_simp
theorem ix27z {w : World} {b n c k : Nat} (hk : k < n) : (Instr.indexAt 27 (.slice (some ⟨b, 0, none⟩) n c) (.int .i64 (k : Int))).run Try.prog w = .ok (.pointer (some ⟨b, k * 4, none⟩)) w := by
  have h := ix27 (w := w) (b := b) (o := 0) (c := c) hk
  rwa [Nat.zero_add] at h
theorem ix29 {w : World} {b o n c k : Nat} (hk : k < n) : (Instr.indexAt 29 (.slice (some ⟨b, o, none⟩) n c) (.int .i64 (k : Int))).run Try.prog w = .ok (.pointer (some ⟨b, o + k * 3, none⟩)) w := by
  have : (0 : Int) ≤ (k : Int) := by omega
  have : (k : Int) < (n : Int) := by omega
  go_simp
theorem ix29z {w : World} {b n c k : Nat} (hk : k < n) : (Instr.indexAt 29 (.slice (some ⟨b, 0, none⟩) n c) (.int .i64 (k : Int))).run Try.prog w = .ok (.pointer (some ⟨b, k * 3, none⟩)) w := by
  have h := ix29 (w := w) (b := b) (o := 0) (c := c) hk
  rwa [Nat.zero_add] at h
theorem ix39 {w : World} {b o n c k : Nat} (hk : k < n) : (Instr.indexAt 39 (.slice (some ⟨b, o, none⟩) n c) (.int .i64 (k : Int))).run Try.prog w = .ok (.pointer (some ⟨b, o + k, none⟩)) w := by
  have : (0 : Int) ≤ (k : Int) := by omega
  have : (k : Int) < (n : Int) := by omega
  go_simp
theorem ix39z {w : World} {b n c k : Nat} (hk : k < n) : (Instr.indexAt 39 (.slice (some ⟨b, 0, none⟩) n c) (.int .i64 (k : Int))).run Try.prog w = .ok (.pointer (some ⟨b, k, none⟩)) w := by
  have h := ix39 (w := w) (b := b) (o := 0) (c := c) hk
  rwa [Nat.zero_add] at h
theorem ix50 {w : World} {b o n c k : Nat} (hk : k < n) : (Instr.indexAt 50 (.slice (some ⟨b, o, none⟩) n c) (.int .i64 (k : Int))).run Try.prog w = .ok (.pointer (some ⟨b, o + k * 9, none⟩)) w := by
  have : (0 : Int) ≤ (k : Int) := by omega
  have : (k : Int) < (n : Int) := by omega
  go_simp
theorem ix50z {w : World} {b n c k : Nat} (hk : k < n) : (Instr.indexAt 50 (.slice (some ⟨b, 0, none⟩) n c) (.int .i64 (k : Int))).run Try.prog w = .ok (.pointer (some ⟨b, k * 9, none⟩)) w := by
  have h := ix50 (w := w) (b := b) (o := 0) (c := c) hk
  rwa [Nat.zero_add] at h
theorem ix52 {w : World} {b o n c k : Nat} (hk : k < n) : (Instr.indexAt 52 (.slice (some ⟨b, o, none⟩) n c) (.int .i64 (k : Int))).run Try.prog w = .ok (.pointer (some ⟨b, o + k * 6, none⟩)) w := by
  have : (0 : Int) ≤ (k : Int) := by omega
  have : (k : Int) < (n : Int) := by omega
  go_simp
theorem ix52z {w : World} {b n c k : Nat} (hk : k < n) : (Instr.indexAt 52 (.slice (some ⟨b, 0, none⟩) n c) (.int .i64 (k : Int))).run Try.prog w = .ok (.pointer (some ⟨b, k * 6, none⟩)) w := by
  have h := ix52 (w := w) (b := b) (o := 0) (c := c) hk
  rwa [Nat.zero_add] at h
theorem ix56 {w : World} {b o n c k : Nat} (hk : k < n) : (Instr.indexAt 56 (.slice (some ⟨b, o, none⟩) n c) (.int .i64 (k : Int))).run Try.prog w = .ok (.pointer (some ⟨b, o + k, none⟩)) w := by
  have : (0 : Int) ≤ (k : Int) := by omega
  have : (k : Int) < (n : Int) := by omega
  go_simp
theorem ix56z {w : World} {b n c k : Nat} (hk : k < n) : (Instr.indexAt 56 (.slice (some ⟨b, 0, none⟩) n c) (.int .i64 (k : Int))).run Try.prog w = .ok (.pointer (some ⟨b, k, none⟩)) w := by
  have h := ix56 (w := w) (b := b) (o := 0) (c := c) hk
  rwa [Nat.zero_add] at h
theorem ix84 {w : World} {b o n c k : Nat} (hk : k < n) : (Instr.indexAt 84 (.slice (some ⟨b, o, none⟩) n c) (.int .i64 (k : Int))).run Try.prog w = .ok (.pointer (some ⟨b, o + k * 2, none⟩)) w := by
  have : (0 : Int) ≤ (k : Int) := by omega
  have : (k : Int) < (n : Int) := by omega
  go_simp
theorem ix84z {w : World} {b n c k : Nat} (hk : k < n) : (Instr.indexAt 84 (.slice (some ⟨b, 0, none⟩) n c) (.int .i64 (k : Int))).run Try.prog w = .ok (.pointer (some ⟨b, k * 2, none⟩)) w := by
  have h := ix84 (w := w) (b := b) (o := 0) (c := c) hk
  rwa [Nat.zero_add] at h
theorem ld24 {w : World} {b o : Nat} {x0 x1 : Value} (h0 : w.cell? ⟨b, o, none⟩ = some x0) (h1 : w.cell? ⟨b, o + 1, none⟩ = some x1) : (Instr.loadAt 24 (.pointer (some ⟨b, o, none⟩))).run Try.prog w = .ok (.agg #[x0, x1]) w := by go_simp
theorem ld26 {w : World} {b o : Nat} {x0 x1 x2 x3 : Value} (h0 : w.cell? ⟨b, o, none⟩ = some x0) (h1 : w.cell? ⟨b, o + 1, none⟩ = some x1) (h2 : w.cell? ⟨b, o + 2, none⟩ = some x2) (h3 : w.cell? ⟨b, o + 3, none⟩ = some x3) : (Instr.loadAt 26 (.pointer (some ⟨b, o, none⟩))).run Try.prog w = .ok (.agg #[x0, x1, x2, x3]) w := by go_simp
theorem ld27 {w : World} {b o : Nat} {x0 : Value} (h0 : w.cell? ⟨b, o, none⟩ = some x0) : (Instr.loadAt 27 (.pointer (some ⟨b, o, none⟩))).run Try.prog w = .ok (x0) w := by go_simp
theorem ld29 {w : World} {b o : Nat} {x0 : Value} (h0 : w.cell? ⟨b, o, none⟩ = some x0) : (Instr.loadAt 29 (.pointer (some ⟨b, o, none⟩))).run Try.prog w = .ok (x0) w := by go_simp
theorem ld3 {w : World} {b o : Nat} {x0 : Value} (h0 : w.cell? ⟨b, o, none⟩ = some x0) : (Instr.loadAt 3 (.pointer (some ⟨b, o, none⟩))).run Try.prog w = .ok (x0) w := by go_simp
theorem ld31 {w : World} {b o : Nat} {x0 x1 x2 x3 x4 x5 x6 x7 x8 : Value} (h0 : w.cell? ⟨b, o, none⟩ = some x0) (h1 : w.cell? ⟨b, o + 1, none⟩ = some x1) (h2 : w.cell? ⟨b, o + 2, none⟩ = some x2) (h3 : w.cell? ⟨b, o + 3, none⟩ = some x3) (h4 : w.cell? ⟨b, o + 4, none⟩ = some x4) (h5 : w.cell? ⟨b, o + 5, none⟩ = some x5) (h6 : w.cell? ⟨b, o + 6, none⟩ = some x6) (h7 : w.cell? ⟨b, o + 7, none⟩ = some x7) (h8 : w.cell? ⟨b, o + 8, none⟩ = some x8) : (Instr.loadAt 31 (.pointer (some ⟨b, o, none⟩))).run Try.prog w = .ok (.agg #[x0, x1, x2, x3, x4, x5, x6, x7, x8]) w := by go_simp
theorem ld36 {w : World} {b o : Nat} {x0 : Value} (h0 : w.cell? ⟨b, o, none⟩ = some x0) : (Instr.loadAt 36 (.pointer (some ⟨b, o, none⟩))).run Try.prog w = .ok (x0) w := by go_simp
theorem ld39 {w : World} {b o : Nat} {x0 : Value} (h0 : w.cell? ⟨b, o, none⟩ = some x0) : (Instr.loadAt 39 (.pointer (some ⟨b, o, none⟩))).run Try.prog w = .ok (x0) w := by go_simp
theorem ld4 {w : World} {b o : Nat} {x0 : Value} (h0 : w.cell? ⟨b, o, none⟩ = some x0) : (Instr.loadAt 4 (.pointer (some ⟨b, o, none⟩))).run Try.prog w = .ok (x0) w := by go_simp
theorem ld56 {w : World} {b o : Nat} {x0 : Value} (h0 : w.cell? ⟨b, o, none⟩ = some x0) : (Instr.loadAt 56 (.pointer (some ⟨b, o, none⟩))).run Try.prog w = .ok (x0) w := by go_simp
theorem ld61 {w : World} {b o : Nat} {x0 x1 x2 : Value} (h0 : w.cell? ⟨b, o, none⟩ = some x0) (h1 : w.cell? ⟨b, o + 1, none⟩ = some x1) (h2 : w.cell? ⟨b, o + 2, none⟩ = some x2) : (Instr.loadAt 61 (.pointer (some ⟨b, o, none⟩))).run Try.prog w = .ok (.agg #[x0, x1, x2]) w := by go_simp
theorem ld86 {w : World} {b o : Nat} {x0 x1 : Value} (h0 : w.cell? ⟨b, o, none⟩ = some x0) (h1 : w.cell? ⟨b, o + 1, none⟩ = some x1) : (Instr.loadAt 86 (.pointer (some ⟨b, o, none⟩))).run Try.prog w = .ok (.agg #[x0, x1]) w := by go_simp
theorem sl27_110b {w : World} {a : Option Addr} {n c k m : Nat} (h1 : k ≤ m) (h2 : m ≤ c) : (Instr.sliceAt 27 (.slice a n c) (some (.int .i64 (k : Int))) (some (.int .i64 (m : Int))) none).run Try.prog w = .ok (.slice (if c = k then a else a.map (fun x => x.add (k * 4))) (m - k) (c - k)) w := by
  have : (0 : Int) ≤ (k : Int) := by omega
  have : (0 : Int) ≤ (m : Int) := by omega
  have : (k : Int) ≤ (m : Int) := by omega
  have : (m : Int) ≤ (c : Int) := by omega
  go_simp
theorem sl27_110 {w : World} {b o n c k m : Nat} (h1 : k ≤ m) (h2 : m ≤ c) (h4 : k ≠ c) : (Instr.sliceAt 27 (.slice (some ⟨b, o, none⟩) n c) (some (.int .i64 (k : Int))) (some (.int .i64 (m : Int))) none).run Try.prog w = .ok (.slice (some ⟨b, o + k * 4, none⟩) (m - k) (c - k)) w := by
  have : (0 : Int) ≤ (k : Int) := by omega
  have : (0 : Int) ≤ (m : Int) := by omega
  have : (k : Int) ≤ (m : Int) := by omega
  have : (m : Int) ≤ (c : Int) := by omega
  have : ¬ c = k := by omega
  go_simp
theorem sl39_010a {w : World} {a : Option Addr} {n c m : Nat} (h1 : 0 ≤ m) (h2 : m ≤ c) : (Instr.sliceAt 39 (.slice a n c) none (some (.int .i64 (m : Int))) none).run Try.prog w = .ok (.slice a m c) w := by
  have : (0 : Int) ≤ (m : Int) := by omega
  have : (m : Int) ≤ (c : Int) := by omega
  have e : (if c = 0 then a else a.map (fun x => x.add 0)) = a := by split; rfl; cases a <;> rfl
  go_simp <;> exact e
theorem sl39_010 {w : World} {b o n c m : Nat} (h1 : 0 ≤ m) (h2 : m ≤ c) : (Instr.sliceAt 39 (.slice (some ⟨b, o, none⟩) n c) none (some (.int .i64 (m : Int))) none).run Try.prog w = .ok (.slice (some ⟨b, o, none⟩) m c) w := sl39_010a h1 h2
theorem sl39_100b {w : World} {a : Option Addr} {n c k : Nat} (h1 : k ≤ n) (h2 : n ≤ c) : (Instr.sliceAt 39 (.slice a n c) (some (.int .i64 (k : Int))) none none).run Try.prog w = .ok (.slice (if c = k then a else a.map (fun x => x.add (k))) (n - k) (c - k)) w := by
  have : (0 : Int) ≤ (k : Int) := by omega
  have : (k : Int) ≤ (n : Int) := by omega
  have : (n : Int) ≤ (c : Int) := by omega
  go_simp
theorem sl39_100 {w : World} {b o n c k : Nat} (h1 : k ≤ n) (h2 : n ≤ c) (h4 : k ≠ c) : (Instr.sliceAt 39 (.slice (some ⟨b, o, none⟩) n c) (some (.int .i64 (k : Int))) none none).run Try.prog w = .ok (.slice (some ⟨b, o + k, none⟩) (n - k) (c - k)) w := by
  have : (0 : Int) ≤ (k : Int) := by omega
  have : (k : Int) ≤ (n : Int) := by omega
  have : (n : Int) ≤ (c : Int) := by omega
  have : ¬ c = k := by omega
  go_simp
theorem sn_setK3 {ev : Operand → Value} {oi : Oper} {w : World} {N : Value → World → Prop} {O j : Nat} {u0 v0 u1 v1 u2 v2 : Value} (h1 : (execOp ev oi).run Try.prog w = .ok .skip (((w.setCell ⟨O, j, none⟩ v0).setCell ⟨O, j + 1, none⟩ v1).setCell ⟨O, j + 2, none⟩ v2)) (b0 : BoxAt w O j u0) (b1 : BoxAt w O (j + 1) u1) (b2 : BoxAt w O (j + 2) u2)
    (h : ∀ X, Turns O w X → BoxAt X O j v0 → BoxAt X O (j + 1) v1 → BoxAt X O (j + 2) v2 → (∀ i x, i ≠ j → i ≠ (j + 1) → i ≠ (j + 2) → BoxAt w O i x → BoxAt X O i x) → N undef X) : StepN Try.prog ev oi w N := by
  have k : ∀ (W : World) (j : Nat) (u v : Value), BoxAt W O j u → BoxAt (W.setCell ⟨O, j, none⟩ v) O j v := fun W j u v hO => ⟨by have := hO.1; simp [go_sem, this], by have := hO.2; simpa [go_sem] using this⟩
  have k2 : ∀ (W : World) (j i : Nat) (x v : Value), i ≠ j → BoxAt W O i x → BoxAt (W.setCell ⟨O, j, none⟩ v) O i x := fun W j i x v hi hx => ⟨by rw [World.cell?_setCell_other W _ _ _ (fun e => hi (congrArg Addr.off e).symm)]; exact hx.1, by simp [go_sem, hx.2]⟩
  exact sn_skp h1 (h _ (((turns_set _ _ _ _).trans (turns_set _ _ _ _)).trans (turns_set _ _ _ _)) (k2 _ _ _ _ _ (by omega) (k2 _ _ _ _ _ (by omega) (k _ _ _ _ b0))) (k2 _ _ _ _ _ (by omega) (k _ _ _ _ (k2 _ _ _ _ _ (by omega) b1))) (k _ _ _ _ (k2 _ _ _ _ _ (by omega) (k2 _ _ _ _ _ (by omega) b2))) fun i x h0 h1 h2 hx => (k2 _ _ _ _ _ h2 (k2 _ _ _ _ _ h1 (k2 _ _ _ _ _ h0 hx))))
theorem sn_setK4 {ev : Operand → Value} {oi : Oper} {w : World} {N : Value → World → Prop} {O j : Nat} {u0 v0 u1 v1 u2 v2 u3 v3 : Value} (h1 : (execOp ev oi).run Try.prog w = .ok .skip ((((w.setCell ⟨O, j, none⟩ v0).setCell ⟨O, j + 1, none⟩ v1).setCell ⟨O, j + 2, none⟩ v2).setCell ⟨O, j + 3, none⟩ v3)) (b0 : BoxAt w O j u0) (b1 : BoxAt w O (j + 1) u1) (b2 : BoxAt w O (j + 2) u2) (b3 : BoxAt w O (j + 3) u3)
    (h : ∀ X, Turns O w X → BoxAt X O j v0 → BoxAt X O (j + 1) v1 → BoxAt X O (j + 2) v2 → BoxAt X O (j + 3) v3 → (∀ i x, i ≠ j → i ≠ (j + 1) → i ≠ (j + 2) → i ≠ (j + 3) → BoxAt w O i x → BoxAt X O i x) → N undef X) : StepN Try.prog ev oi w N := by
  have k : ∀ (W : World) (j : Nat) (u v : Value), BoxAt W O j u → BoxAt (W.setCell ⟨O, j, none⟩ v) O j v := fun W j u v hO => ⟨by have := hO.1; simp [go_sem, this], by have := hO.2; simpa [go_sem] using this⟩
  have k2 : ∀ (W : World) (j i : Nat) (x v : Value), i ≠ j → BoxAt W O i x → BoxAt (W.setCell ⟨O, j, none⟩ v) O i x := fun W j i x v hi hx => ⟨by rw [World.cell?_setCell_other W _ _ _ (fun e => hi (congrArg Addr.off e).symm)]; exact hx.1, by simp [go_sem, hx.2]⟩
  exact sn_skp h1 (h _ ((((turns_set _ _ _ _).trans (turns_set _ _ _ _)).trans (turns_set _ _ _ _)).trans (turns_set _ _ _ _)) (k2 _ _ _ _ _ (by omega) (k2 _ _ _ _ _ (by omega) (k2 _ _ _ _ _ (by omega) (k _ _ _ _ b0)))) (k2 _ _ _ _ _ (by omega) (k2 _ _ _ _ _ (by omega) (k _ _ _ _ (k2 _ _ _ _ _ (by omega) b1)))) (k2 _ _ _ _ _ (by omega) (k _ _ _ _ (k2 _ _ _ _ _ (by omega) (k2 _ _ _ _ _ (by omega) b2)))) (k _ _ _ _ (k2 _ _ _ _ _ (by omega) (k2 _ _ _ _ _ (by omega) (k2 _ _ _ _ _ (by omega) b3)))) fun i x h0 h1 h2 h3 hx => (k2 _ _ _ _ _ h3 (k2 _ _ _ _ _ h2 (k2 _ _ _ _ _ h1 (k2 _ _ _ _ _ h0 hx)))))
theorem sn_setK9 {ev : Operand → Value} {oi : Oper} {w : World} {N : Value → World → Prop} {O j : Nat} {u0 v0 u1 v1 u2 v2 u3 v3 u4 v4 u5 v5 u6 v6 u7 v7 u8 v8 : Value} (h1 : (execOp ev oi).run Try.prog w = .ok .skip (((((((((w.setCell ⟨O, j, none⟩ v0).setCell ⟨O, j + 1, none⟩ v1).setCell ⟨O, j + 2, none⟩ v2).setCell ⟨O, j + 3, none⟩ v3).setCell ⟨O, j + 4, none⟩ v4).setCell ⟨O, j + 5, none⟩ v5).setCell ⟨O, j + 6, none⟩ v6).setCell ⟨O, j + 7, none⟩ v7).setCell ⟨O, j + 8, none⟩ v8)) (b0 : BoxAt w O j u0) (b1 : BoxAt w O (j + 1) u1) (b2 : BoxAt w O (j + 2) u2) (b3 : BoxAt w O (j + 3) u3) (b4 : BoxAt w O (j + 4) u4) (b5 : BoxAt w O (j + 5) u5) (b6 : BoxAt w O (j + 6) u6) (b7 : BoxAt w O (j + 7) u7) (b8 : BoxAt w O (j + 8) u8)
    (h : ∀ X, Turns O w X → BoxAt X O j v0 → BoxAt X O (j + 1) v1 → BoxAt X O (j + 2) v2 → BoxAt X O (j + 3) v3 → BoxAt X O (j + 4) v4 → BoxAt X O (j + 5) v5 → BoxAt X O (j + 6) v6 → BoxAt X O (j + 7) v7 → BoxAt X O (j + 8) v8 → (∀ i x, i ≠ j → i ≠ (j + 1) → i ≠ (j + 2) → i ≠ (j + 3) → i ≠ (j + 4) → i ≠ (j + 5) → i ≠ (j + 6) → i ≠ (j + 7) → i ≠ (j + 8) → BoxAt w O i x → BoxAt X O i x) → N undef X) : StepN Try.prog ev oi w N := by
  have k : ∀ (W : World) (j : Nat) (u v : Value), BoxAt W O j u → BoxAt (W.setCell ⟨O, j, none⟩ v) O j v := fun W j u v hO => ⟨by have := hO.1; simp [go_sem, this], by have := hO.2; simpa [go_sem] using this⟩
  have k2 : ∀ (W : World) (j i : Nat) (x v : Value), i ≠ j → BoxAt W O i x → BoxAt (W.setCell ⟨O, j, none⟩ v) O i x := fun W j i x v hi hx => ⟨by rw [World.cell?_setCell_other W _ _ _ (fun e => hi (congrArg Addr.off e).symm)]; exact hx.1, by simp [go_sem, hx.2]⟩
  exact sn_skp h1 (h _ (((((((((turns_set _ _ _ _).trans (turns_set _ _ _ _)).trans (turns_set _ _ _ _)).trans (turns_set _ _ _ _)).trans (turns_set _ _ _ _)).trans (turns_set _ _ _ _)).trans (turns_set _ _ _ _)).trans (turns_set _ _ _ _)).trans (turns_set _ _ _ _)) (k2 _ _ _ _ _ (by omega) (k2 _ _ _ _ _ (by omega) (k2 _ _ _ _ _ (by omega) (k2 _ _ _ _ _ (by omega) (k2 _ _ _ _ _ (by omega) (k2 _ _ _ _ _ (by omega) (k2 _ _ _ _ _ (by omega) (k2 _ _ _ _ _ (by omega) (k _ _ _ _ b0))))))))) (k2 _ _ _ _ _ (by omega) (k2 _ _ _ _ _ (by omega) (k2 _ _ _ _ _ (by omega) (k2 _ _ _ _ _ (by omega) (k2 _ _ _ _ _ (by omega) (k2 _ _ _ _ _ (by omega) (k2 _ _ _ _ _ (by omega) (k _ _ _ _ (k2 _ _ _ _ _ (by omega) b1))))))))) (k2 _ _ _ _ _ (by omega) (k2 _ _ _ _ _ (by omega) (k2 _ _ _ _ _ (by omega) (k2 _ _ _ _ _ (by omega) (k2 _ _ _ _ _ (by omega) (k2 _ _ _ _ _ (by omega) (k _ _ _ _ (k2 _ _ _ _ _ (by omega) (k2 _ _ _ _ _ (by omega) b2))))))))) (k2 _ _ _ _ _ (by omega) (k2 _ _ _ _ _ (by omega) (k2 _ _ _ _ _ (by omega) (k2 _ _ _ _ _ (by omega) (k2 _ _ _ _ _ (by omega) (k _ _ _ _ (k2 _ _ _ _ _ (by omega) (k2 _ _ _ _ _ (by omega) (k2 _ _ _ _ _ (by omega) b3))))))))) (k2 _ _ _ _ _ (by omega) (k2 _ _ _ _ _ (by omega) (k2 _ _ _ _ _ (by omega) (k2 _ _ _ _ _ (by omega) (k _ _ _ _ (k2 _ _ _ _ _ (by omega) (k2 _ _ _ _ _ (by omega) (k2 _ _ _ _ _ (by omega) (k2 _ _ _ _ _ (by omega) b4))))))))) (k2 _ _ _ _ _ (by omega) (k2 _ _ _ _ _ (by omega) (k2 _ _ _ _ _ (by omega) (k _ _ _ _ (k2 _ _ _ _ _ (by omega) (k2 _ _ _ _ _ (by omega) (k2 _ _ _ _ _ (by omega) (k2 _ _ _ _ _ (by omega) (k2 _ _ _ _ _ (by omega) b5))))))))) (k2 _ _ _ _ _ (by omega) (k2 _ _ _ _ _ (by omega) (k _ _ _ _ (k2 _ _ _ _ _ (by omega) (k2 _ _ _ _ _ (by omega) (k2 _ _ _ _ _ (by omega) (k2 _ _ _ _ _ (by omega) (k2 _ _ _ _ _ (by omega) (k2 _ _ _ _ _ (by omega) b6))))))))) (k2 _ _ _ _ _ (by omega) (k _ _ _ _ (k2 _ _ _ _ _ (by omega) (k2 _ _ _ _ _ (by omega) (k2 _ _ _ _ _ (by omega) (k2 _ _ _ _ _ (by omega) (k2 _ _ _ _ _ (by omega) (k2 _ _ _ _ _ (by omega) (k2 _ _ _ _ _ (by omega) b7))))))))) (k _ _ _ _ (k2 _ _ _ _ _ (by omega) (k2 _ _ _ _ _ (by omega) (k2 _ _ _ _ _ (by omega) (k2 _ _ _ _ _ (by omega) (k2 _ _ _ _ _ (by omega) (k2 _ _ _ _ _ (by omega) (k2 _ _ _ _ _ (by omega) (k2 _ _ _ _ _ (by omega) b8))))))))) fun i x h0 h1 h2 h3 h4 h5 h6 h7 h8 hx => (k2 _ _ _ _ _ h8 (k2 _ _ _ _ _ h7 (k2 _ _ _ _ _ h6 (k2 _ _ _ _ _ h5 (k2 _ _ _ _ _ h4 (k2 _ _ _ _ _ h3 (k2 _ _ _ _ _ h2 (k2 _ _ _ _ _ h1 (k2 _ _ _ _ _ h0 hx))))))))))
theorem st24 {w : World} {b o : Nat} {u0 u1 : Value} {x0 : Int} {x1 : Int} (h0 : w.cell? ⟨b, o, none⟩ = some u0) (f0 : w.frozen? ⟨b, o, none⟩ = false) (h1 : w.cell? ⟨b, o + 1, none⟩ = some u1) (f1 : w.frozen? ⟨b, o + 1, none⟩ = false) : (Instr.storeAt 24 (.pointer (some ⟨b, o, none⟩)) (.agg #[(.int .i64 x0), (.int .i64 x1)])).run Try.prog w = .ok () ((w.setCell ⟨b, o, none⟩ (.int .i64 x0)).setCell ⟨b, o + 1, none⟩ (.int .i64 x1)) := by go_simp
theorem st26 {w : World} {b o : Nat} {u0 u1 u2 u3 : Value} {x0 : Int} {x1 : Int} {x2 : Int} {x3 : Int} (h0 : w.cell? ⟨b, o, none⟩ = some u0) (f0 : w.frozen? ⟨b, o, none⟩ = false) (h1 : w.cell? ⟨b, o + 1, none⟩ = some u1) (f1 : w.frozen? ⟨b, o + 1, none⟩ = false) (h2 : w.cell? ⟨b, o + 2, none⟩ = some u2) (f2 : w.frozen? ⟨b, o + 2, none⟩ = false) (h3 : w.cell? ⟨b, o + 3, none⟩ = some u3) (f3 : w.frozen? ⟨b, o + 3, none⟩ = false) : (Instr.storeAt 26 (.pointer (some ⟨b, o, none⟩)) (.agg #[(.int .i64 x0), (.int .i64 x1), (.int .i64 x2), (.int .i64 x3)])).run Try.prog w = .ok () ((((w.setCell ⟨b, o, none⟩ (.int .i64 x0)).setCell ⟨b, o + 1, none⟩ (.int .i64 x1)).setCell ⟨b, o + 2, none⟩ (.int .i64 x2)).setCell ⟨b, o + 3, none⟩ (.int .i64 x3)) := by go_simp
theorem st29 {w : World} {b o : Nat} {u0 : Value} {a0 : Option Addr} {n0 c0 : Nat} (h0 : w.cell? ⟨b, o, none⟩ = some u0) (f0 : w.frozen? ⟨b, o, none⟩ = false) : (Instr.storeAt 29 (.pointer (some ⟨b, o, none⟩)) ((.slice a0 n0 c0))).run Try.prog w = .ok () (w.setCell ⟨b, o, none⟩ (.slice a0 n0 c0)) := by go_simp
theorem st3 {w : World} {b o : Nat} {u0 : Value} {x0 : Int} (h0 : w.cell? ⟨b, o, none⟩ = some u0) (f0 : w.frozen? ⟨b, o, none⟩ = false) : (Instr.storeAt 3 (.pointer (some ⟨b, o, none⟩)) ((.int .i64 x0))).run Try.prog w = .ok () (w.setCell ⟨b, o, none⟩ (.int .i64 x0)) := by go_simp
theorem st31 {w : World} {b o : Nat} {u0 u1 u2 u3 u4 u5 u6 u7 u8 : Value} {x0 : Int} {x1 : Int} {x2 : Int} {x3 : Int} {x4 : Int} {x5 : Int} {x6 : Int} {x7 : Int} {a8 : Option Addr} {n8 c8 : Nat} (h0 : w.cell? ⟨b, o, none⟩ = some u0) (f0 : w.frozen? ⟨b, o, none⟩ = false) (h1 : w.cell? ⟨b, o + 1, none⟩ = some u1) (f1 : w.frozen? ⟨b, o + 1, none⟩ = false) (h2 : w.cell? ⟨b, o + 2, none⟩ = some u2) (f2 : w.frozen? ⟨b, o + 2, none⟩ = false) (h3 : w.cell? ⟨b, o + 3, none⟩ = some u3) (f3 : w.frozen? ⟨b, o + 3, none⟩ = false) (h4 : w.cell? ⟨b, o + 4, none⟩ = some u4) (f4 : w.frozen? ⟨b, o + 4, none⟩ = false) (h5 : w.cell? ⟨b, o + 5, none⟩ = some u5) (f5 : w.frozen? ⟨b, o + 5, none⟩ = false) (h6 : w.cell? ⟨b, o + 6, none⟩ = some u6) (f6 : w.frozen? ⟨b, o + 6, none⟩ = false) (h7 : w.cell? ⟨b, o + 7, none⟩ = some u7) (f7 : w.frozen? ⟨b, o + 7, none⟩ = false) (h8 : w.cell? ⟨b, o + 8, none⟩ = some u8) (f8 : w.frozen? ⟨b, o + 8, none⟩ = false) : (Instr.storeAt 31 (.pointer (some ⟨b, o, none⟩)) (.agg #[(.int .i64 x0), (.int .i64 x1), (.int .i64 x2), (.int .i64 x3), (.int .i64 x4), (.int .i64 x5), (.int .i64 x6), (.int .i64 x7), (.slice a8 n8 c8)])).run Try.prog w = .ok () (((((((((w.setCell ⟨b, o, none⟩ (.int .i64 x0)).setCell ⟨b, o + 1, none⟩ (.int .i64 x1)).setCell ⟨b, o + 2, none⟩ (.int .i64 x2)).setCell ⟨b, o + 3, none⟩ (.int .i64 x3)).setCell ⟨b, o + 4, none⟩ (.int .i64 x4)).setCell ⟨b, o + 5, none⟩ (.int .i64 x5)).setCell ⟨b, o + 6, none⟩ (.int .i64 x6)).setCell ⟨b, o + 7, none⟩ (.int .i64 x7)).setCell ⟨b, o + 8, none⟩ (.slice a8 n8 c8)) := by go_simp
theorem st36 {w : World} {b o : Nat} {u0 : Value} {x0 : Int} (h0 : w.cell? ⟨b, o, none⟩ = some u0) (f0 : w.frozen? ⟨b, o, none⟩ = false) : (Instr.storeAt 36 (.pointer (some ⟨b, o, none⟩)) ((.int .i64 x0))).run Try.prog w = .ok () (w.setCell ⟨b, o, none⟩ (.int .i64 x0)) := by go_simp
theorem st39 {w : World} {b o : Nat} {u0 : Value} {a0 : Option Addr} {n0 c0 : Nat} (h0 : w.cell? ⟨b, o, none⟩ = some u0) (f0 : w.frozen? ⟨b, o, none⟩ = false) : (Instr.storeAt 39 (.pointer (some ⟨b, o, none⟩)) ((.slice a0 n0 c0))).run Try.prog w = .ok () (w.setCell ⟨b, o, none⟩ (.slice a0 n0 c0)) := by go_simp
theorem st4 {w : World} {b o : Nat} {u0 : Value} {x0 : Bool} (h0 : w.cell? ⟨b, o, none⟩ = some u0) (f0 : w.frozen? ⟨b, o, none⟩ = false) : (Instr.storeAt 4 (.pointer (some ⟨b, o, none⟩)) ((.bool x0))).run Try.prog w = .ok () (w.setCell ⟨b, o, none⟩ (.bool x0)) := by go_simp
theorem st56 {w : World} {b o : Nat} {u0 : Value} {a0 : Option Addr} {n0 c0 : Nat} (h0 : w.cell? ⟨b, o, none⟩ = some u0) (f0 : w.frozen? ⟨b, o, none⟩ = false) : (Instr.storeAt 56 (.pointer (some ⟨b, o, none⟩)) ((.slice a0 n0 c0))).run Try.prog w = .ok () (w.setCell ⟨b, o, none⟩ (.slice a0 n0 c0)) := by go_simp
theorem st61 {w : World} {b o : Nat} {u0 u1 u2 : Value} {x0 : Int} {x1 : Int} {x2 : Int} (h0 : w.cell? ⟨b, o, none⟩ = some u0) (f0 : w.frozen? ⟨b, o, none⟩ = false) (h1 : w.cell? ⟨b, o + 1, none⟩ = some u1) (f1 : w.frozen? ⟨b, o + 1, none⟩ = false) (h2 : w.cell? ⟨b, o + 2, none⟩ = some u2) (f2 : w.frozen? ⟨b, o + 2, none⟩ = false) : (Instr.storeAt 61 (.pointer (some ⟨b, o, none⟩)) (.agg #[(.int .i64 x0), (.int .i64 x1), (.int .i64 x2)])).run Try.prog w = .ok () (((w.setCell ⟨b, o, none⟩ (.int .i64 x0)).setCell ⟨b, o + 1, none⟩ (.int .i64 x1)).setCell ⟨b, o + 2, none⟩ (.int .i64 x2)) := by go_simp
theorem st86 {w : World} {b o : Nat} {u0 u1 : Value} {x0 : Int} {x1 : Int} (h0 : w.cell? ⟨b, o, none⟩ = some u0) (f0 : w.frozen? ⟨b, o, none⟩ = false) (h1 : w.cell? ⟨b, o + 1, none⟩ = some u1) (f1 : w.frozen? ⟨b, o + 1, none⟩ = false) : (Instr.storeAt 86 (.pointer (some ⟨b, o, none⟩)) (.agg #[(.int .i64 x0), (.int .i64 x1)])).run Try.prog w = .ok () ((w.setCell ⟨b, o, none⟩ (.int .i64 x0)).setCell ⟨b, o + 1, none⟩ (.int .i64 x1)) := by go_simp

end Go.Proofs.Ytnbjjddfcondlaa

/- Contracts of package memory: the comparison of steps. -/
namespace Go.Proofs.Ytnbjjddfcondlaa
open Go.RowKit

namespace Mem
def cmpI (a b : Int) : Int := if a < b then -1 else if a > b then 1 else 0
theorem cmpI_neg {a b : Int} : cmpI a b < 0 ↔ a < b := by unfold cmpI; split <;> (try split) <;> omega
end Mem
set_option maxRecDepth 1000000 in
set_option maxHeartbeats 4000000 in
theorem isNaN_g (x : Int) (w : World) : Calls Try.prog 62 #[.int .i64 x] w fun e w' => e = .returned (.bool false) ∧ Gro w w' := by
  have hG : Gro w w := Gro.refl w
  refine calls_cw 6 [(0, .int .i64 (x : Int))] Try.func62 rfl Try.ntmps62 (by kernel_rfl) (by kernel_rfl) (fun L => ?_)
  have hE : Ext w w := Ext.refl w
  refine cw_seq ?_
  refine cw_plain ?_
  refine pl_take (.bool false) rfl (by kernel_rfl) (by kernel_rfl) (by kernel_rfl) (by kernel_rfl) ?_
  refine pl_nil ?_
  refine qw_then ?_
  refine cw_seq ?_
  refine cw_plain ?_
  refine pl_take (.int .i64 (x : Int)) rfl (by kernel_rfl) (by kernel_rfl) (by kernel_rfl) (by kernel_rfl) ?_
  refine pl_take (.int .i64 (x : Int)) rfl (by kernel_rfl) (by kernel_rfl) (by kernel_rfl) (by kernel_rfl) ?_
  refine pl_take (.bool false) rfl (by kernel_rfl) (by kernel_rfl) (by kernel_rfl) (ev_bool (show _ = Result.ok (Next.value (Value.bool ((x : Int) != x))) _ from by kernel_rfl) (bne_self_eq_false _)) ?_
  refine pl_take (.bool false) rfl (by kernel_rfl) (by kernel_rfl) (by kernel_rfl) (by kernel_rfl) ?_
  refine pl_nil ?_
  refine qw_then ?_
  refine cw_ret ?_
  refine qw_ret [.bool false] rfl ⟨(by kernel_rfl), trivial⟩ ?_
  exact ⟨rfl, hG⟩
set_option maxRecDepth 1000000 in
set_option maxHeartbeats 4000000 in
theorem Compare_g (a b : Int) (w : World) : Calls Try.prog 54 #[.int .i64 a, .int .i64 b] w fun e w' => e = .returned (.int .i64 (Mem.cmpI a b)) ∧ Gro w w' := by
  have hG : Gro w w := Gro.refl w
  refine calls_cw 20 [(1, .int .i64 (b : Int)), (0, .int .i64 (a : Int))] Try.func54 rfl Try.ntmps54 (by kernel_rfl) (by kernel_rfl) (fun L => ?_)
  have hE : Ext w w := Ext.refl w
  refine cw_seq ?_
  refine cw_plain ?_
  refine pl_take (.int .i64 0) rfl (by kernel_rfl) (by kernel_rfl) (by kernel_rfl) (by kernel_rfl) ?_
  refine pl_nil ?_
  refine qw_then ?_
  refine cw_seq ?_
  refine cw_plain ?_
  refine pl_take (.int .i64 (a : Int)) rfl (by kernel_rfl) (by kernel_rfl) (by kernel_rfl) (by kernel_rfl) ?_
  refine pl_step rfl (by kernel_rfl) (by kernel_rfl) (by kernel_rfl) (sn_call (f := 62) (args := #[.int .i64 (a : Int)]) (by kernel_rfl) ((isNaN_g a _).mono ?_))
  rintro e w1 ⟨rfl, hb⟩
  have hgx := hb; replace hb := hgx.ext; replace hG := hG.trans hgx; clear hgx
  replace hE := hE.trans hb
  have hs2 := hb.size
  clear hb
  refine ⟨_, rfl, ?_⟩
  refine pl_take (.bool false) rfl (by kernel_rfl) (by kernel_rfl) (by kernel_rfl) (by kernel_rfl) ?_
  refine pl_nil ?_
  refine qw_then ?_
  refine cw_seq ?_
  refine cw_plain ?_
  refine pl_take (.int .i64 (b : Int)) rfl (by kernel_rfl) (by kernel_rfl) (by kernel_rfl) (by kernel_rfl) ?_
  refine pl_step rfl (by kernel_rfl) (by kernel_rfl) (by kernel_rfl) (sn_call (f := 62) (args := #[.int .i64 (b : Int)]) (by kernel_rfl) ((isNaN_g b _).mono ?_))
  rintro e w3 ⟨rfl, hb⟩
  have hgx := hb; replace hb := hgx.ext; replace hG := hG.trans hgx; clear hgx
  replace hE := hE.trans hb
  have hs4 := hb.size
  clear hb
  refine ⟨_, rfl, ?_⟩
  refine pl_take (.bool false) rfl (by kernel_rfl) (by kernel_rfl) (by kernel_rfl) (by kernel_rfl) ?_
  refine pl_nil ?_
  refine qw_then ?_
  refine cw_seq ?_
  refine cw_seq ?_
  refine cw_plain ?_
  refine pl_take (.bool false) rfl (by kernel_rfl) (by kernel_rfl) (by kernel_rfl) (by kernel_rfl) ?_
  refine pl_nil ?_
  refine qw_then ?_
  refine cw_f (by kernel_rfl) ?_
  refine cw_skip ?_
  refine qw_then ?_
  refine cw_seq ?_
  refine cw_seq ?_
  refine cw_plain ?_
  refine pl_take (.bool false) rfl (by kernel_rfl) (by kernel_rfl) (by kernel_rfl) (by kernel_rfl) ?_
  refine pl_nil ?_
  refine qw_then ?_
  refine cw_f (by kernel_rfl) ?_
  refine cw_skip ?_
  refine qw_then ?_
  refine cw_seq ?_
  refine cw_seq ?_
  refine cw_plain ?_
  refine pl_take (.int .i64 (a : Int)) rfl (by kernel_rfl) (by kernel_rfl) (by kernel_rfl) (by kernel_rfl) ?_
  refine pl_take (.int .i64 (b : Int)) rfl (by kernel_rfl) (by kernel_rfl) (by kernel_rfl) (by kernel_rfl) ?_
  by_cases hc5 : (a : Int) < (b : Int)
  ·
    refine pl_take (.bool true) rfl (by kernel_rfl) (by kernel_rfl) (by kernel_rfl) (ev_dec (show _ = Result.ok (Next.value (Value.bool (decide ((a : Int) < (b : Int))))) _ from by kernel_rfl) (hc5)) ?_
    refine pl_nil ?_
    refine qw_then ?_
    refine cw_t (by kernel_rfl) ?_
    refine cw_seq ?_
    refine cw_plain ?_
    refine pl_take (.int .i64 (-1 : Int)) rfl (by kernel_rfl) (by kernel_rfl) (by kernel_rfl) (by kernel_rfl) ?_
    refine pl_nil ?_
    refine qw_then ?_
    refine cw_ret ?_
    refine qw_then_ret ?_
    refine qw_ret [.int .i64 (-1 : Int)] rfl ⟨(by kernel_rfl), trivial⟩ ?_
    exact ⟨congrArg (fun z => Ending.returned (Value.int .i64 z)) (show (-1 : Int) = Mem.cmpI a b by unfold Mem.cmpI; simp [hc5]), hG⟩
  ·
    refine pl_take (.bool false) rfl (by kernel_rfl) (by kernel_rfl) (by kernel_rfl) (ev_ndec (show _ = Result.ok (Next.value (Value.bool (decide ((a : Int) < (b : Int))))) _ from by kernel_rfl) (hc5)) ?_
    refine pl_nil ?_
    refine qw_then ?_
    refine cw_f (by kernel_rfl) ?_
    refine cw_skip ?_
    refine qw_then ?_
    refine cw_seq ?_
    refine cw_seq ?_
    refine cw_plain ?_
    refine pl_take (.int .i64 (a : Int)) rfl (by kernel_rfl) (by kernel_rfl) (by kernel_rfl) (by kernel_rfl) ?_
    refine pl_take (.int .i64 (b : Int)) rfl (by kernel_rfl) (by kernel_rfl) (by kernel_rfl) (by kernel_rfl) ?_
    by_cases hc6 : (a : Int) > (b : Int)
    ·
      refine pl_take (.bool true) rfl (by kernel_rfl) (by kernel_rfl) (by kernel_rfl) (ev_dec (show _ = Result.ok (Next.value (Value.bool (decide ((a : Int) > (b : Int))))) _ from by kernel_rfl) (hc6)) ?_
      refine pl_nil ?_
      refine qw_then ?_
      refine cw_clean [19] (ws' := [(19, .bool true)]) (by kernel_rfl) (fun L => ?_)
      refine cw_t (by kernel_rfl) ?_
      refine cw_seq ?_
      refine cw_plain ?_
      refine pl_take (.int .i64 1) rfl (by kernel_rfl) (by kernel_rfl) (by kernel_rfl) (by kernel_rfl) ?_
      refine pl_nil ?_
      refine qw_then ?_
      refine cw_ret ?_
      refine qw_then_ret ?_
      refine qw_ret [.int .i64 1] rfl ⟨(by kernel_rfl), trivial⟩ ?_
      exact ⟨congrArg (fun z => Ending.returned (Value.int .i64 z)) (show (1 : Int) = Mem.cmpI a b by unfold Mem.cmpI; simp [hc5, hc6]), hG⟩
    ·
      refine pl_take (.bool false) rfl (by kernel_rfl) (by kernel_rfl) (by kernel_rfl) (ev_ndec (show _ = Result.ok (Next.value (Value.bool (decide ((a : Int) > (b : Int))))) _ from by kernel_rfl) (hc6)) ?_
      refine pl_nil ?_
      refine qw_then ?_
      refine cw_clean [19] (ws' := [(19, .bool false)]) (by kernel_rfl) (fun L => ?_)
      refine cw_f (by kernel_rfl) ?_
      refine cw_skip ?_
      refine qw_then ?_
      refine cw_seq ?_
      refine cw_plain ?_
      refine pl_take (.int .i64 0) rfl (by kernel_rfl) (by kernel_rfl) (by kernel_rfl) (by kernel_rfl) ?_
      refine pl_nil ?_
      refine qw_then ?_
      refine cw_ret ?_
      refine qw_ret [.int .i64 0] rfl ⟨(by kernel_rfl), trivial⟩ ?_
      exact ⟨congrArg (fun z => Ending.returned (Value.int .i64 z)) (show (0 : Int) = Mem.cmpI a b by unfold Mem.cmpI; simp [hc5, hc6]), hG⟩
set_option maxRecDepth 1000000 in
set_option maxHeartbeats 4000000 in
theorem order_g (x y : Mem.Stp) (w : World) : Calls Try.prog 53 #[.agg #[.int .i64 x.1, .int .i64 x.2], .agg #[.int .i64 y.1, .int .i64 y.2]] w fun e w' => e = .returned (.int .i64 (Mem.cmpI x.1 y.1)) ∧ Gro w w' := by
  have hG : Gro w w := Gro.refl w
  refine calls_cw 10 [(1, .agg #[.int .i64 (y.1 : Int), .int .i64 (y.2 : Int)]), (0, .agg #[.int .i64 (x.1 : Int), .int .i64 (x.2 : Int)])] Try.func53 rfl Try.ntmps53 (by kernel_rfl) (by kernel_rfl) (fun L => ?_)
  have hE : Ext w w := Ext.refl w
  refine cw_seq ?_
  refine cw_plain ?_
  refine pl_step rfl (by kernel_rfl) (by kernel_rfl) (by kernel_rfl) (sn_newG (us := #[.int .i64 (x.1 : Int), .int .i64 (x.2 : Int)]) (t := 86) (by kernel_rfl) ?_)
  intro O1 X2 hO hOs hb hbx hgx
  replace hG := hG.trans hgx; clear hgx
  have hzO1 := hO; have hyO1 := hOs; clear hO hOs
  have bO1_0 : BoxAt X2 O1 0 (.int .i64 (x.1 : Int)) := hbx 0 _ rfl
  have bO1_1 : BoxAt X2 O1 1 (.int .i64 (x.2 : Int)) := hbx 1 _ rfl
  clear hbx
  replace hE := hE.trans hb
  have hs3 := hb.size
  clear hb
  have lt4 := bO1_0.lt
  refine pl_step rfl (by kernel_rfl) (by kernel_rfl) (by kernel_rfl) (sn_newG (us := #[.int .i64 (y.1 : Int), .int .i64 (y.2 : Int)]) (t := 86) (by kernel_rfl) ?_)
  intro O5 X6 hO hOs hb hbx hgx
  replace hG := hG.trans hgx; clear hgx
  have hzO5 := hO; have hyO5 := hOs; clear hO hOs
  have bO5_0 : BoxAt X6 O5 0 (.int .i64 (y.1 : Int)) := hbx 0 _ rfl
  have bO5_1 : BoxAt X6 O5 1 (.int .i64 (y.2 : Int)) := hbx 1 _ rfl
  clear hbx
  replace hE := hE.trans hb
  replace bO1_0 := BoxAt.ext hb bO1_0
  replace bO1_1 := BoxAt.ext hb bO1_1
  have hs7 := hb.size
  clear hb
  have lt8 := bO5_0.lt
  refine pl_take (.int .i64 0) rfl (by kernel_rfl) (by kernel_rfl) (by kernel_rfl) (by kernel_rfl) ?_
  refine pl_nil ?_
  refine qw_then ?_
  refine cw_seq ?_
  refine cw_plain ?_
  refine pl_take (.pointer (some ⟨O1, 0, none⟩)) rfl (by kernel_rfl) (by kernel_rfl) (by kernel_rfl) (by kernel_rfl) ?_
  refine pl_take (.int .i64 (x.1 : Int)) rfl (by kernel_rfl) (by kernel_rfl) (by kernel_rfl) (ex_load rfl (by kernel_rfl) (ld3 (bO1_0.1))) ?_
  refine pl_take (.pointer (some ⟨O5, 0, none⟩)) rfl (by kernel_rfl) (by kernel_rfl) (by kernel_rfl) (by kernel_rfl) ?_
  refine pl_take (.int .i64 (y.1 : Int)) rfl (by kernel_rfl) (by kernel_rfl) (by kernel_rfl) (ex_load rfl (by kernel_rfl) (ld3 (bO5_0.1))) ?_
  refine pl_step rfl (by kernel_rfl) (by kernel_rfl) (by kernel_rfl) (sn_call (f := 54) (args := #[.int .i64 (x.1 : Int), .int .i64 (y.1 : Int)]) (by kernel_rfl) ((Compare_g x.1 y.1 _).mono ?_))
  rintro e w9 ⟨rfl, hb⟩
  have hgx := hb; replace hb := hgx.ext; replace hG := hG.trans hgx; clear hgx
  replace hE := hE.trans hb
  replace bO1_0 := BoxAt.ext hb bO1_0
  replace bO1_1 := BoxAt.ext hb bO1_1
  replace bO5_0 := BoxAt.ext hb bO5_0
  replace bO5_1 := BoxAt.ext hb bO5_1
  have hs10 := hb.size
  clear hb
  refine ⟨_, rfl, ?_⟩
  refine pl_take (.int .i64 (Mem.cmpI x.1 y.1 : Int)) rfl (by kernel_rfl) (by kernel_rfl) (by kernel_rfl) (by kernel_rfl) ?_
  refine pl_nil ?_
  refine qw_then ?_
  refine cw_ret ?_
  refine qw_ret [.int .i64 (Mem.cmpI x.1 y.1 : Int)] rfl ⟨(by kernel_rfl), trivial⟩ ?_
  exact ⟨rfl, hG⟩

end Go.Proofs.Ytnbjjddfcondlaa

/- The layings of library functions at this seat, in plain words. -/
namespace Go.Proofs
open Go.Shelf
def Try.sortSt_ren : Go.Shelf.Ren := ⟨fun | 6 => 52 | 15 => 56 | 14 => 61 | 28 => 72 | 29 => 73 | 20 => 76 | 21 => 77 | 22 => 78 | 23 => 79 | 24 => 80 | 25 => 81 | 26 => 82 | 27 => 83 | 46 => 89 | 47 => 85 | 48 => 86 | 49 => 90 | 50 => 91 | 57 => 93 | n => n, fun | 22 => 84 | 24 => 86 | 25 => 88 | 3 => 3 | 39 => 91 | 0 => 0 | 53 => 106 | 55 => 108 | 4 => 4 | 46 => 100 | 45 => 99 | 50 => 94 | 5 => 5 | 9 => 9 | 66 => 115 | 70 => 119 | 76 => 123 | 77 => 124 | n => n, fun | n => n⟩
theorem Try.sortSt : Go.Proofs.SlLaysF0.n6 Try.prog Try.sortSt_ren := {
  mixed := by kernel_rfl
  f6 := ⟨Try.f52.name, by decide, Try.func52.trans (congrArg some (by kernel_rfl))⟩
  f14 := ⟨Try.f61.name, by decide, Try.func61.trans (congrArg some (by kernel_rfl))⟩
  f15 := Try.func56.trans (congrArg some (by kernel_rfl))
  f20 := ⟨Try.f76.name, by decide, Try.func76.trans (congrArg some (by kernel_rfl))⟩
  f21 := ⟨Try.f77.name, by decide, Try.func77.trans (congrArg some (by kernel_rfl))⟩
  f22 := ⟨Try.f78.name, by decide, Try.func78.trans (congrArg some (by kernel_rfl))⟩
  f23 := ⟨Try.f79.name, by decide, Try.func79.trans (congrArg some (by kernel_rfl))⟩
  f24 := ⟨Try.f80.name, by decide, Try.func80.trans (congrArg some (by kernel_rfl))⟩
  f25 := ⟨Try.f81.name, by decide, Try.func81.trans (congrArg some (by kernel_rfl))⟩
  f26 := ⟨Try.f82.name, by decide, Try.func82.trans (congrArg some (by kernel_rfl))⟩
  f27 := ⟨Try.f83.name, by decide, Try.func83.trans (congrArg some (by kernel_rfl))⟩
  f28 := Try.func72.trans (congrArg some (by kernel_rfl))
  f29 := Try.func73.trans (congrArg some (by kernel_rfl))
  f46 := ⟨Try.f89.name, by decide, Try.func89.trans (congrArg some (by kernel_rfl))⟩
  f47 := Try.func85.trans (congrArg some (by kernel_rfl))
  f48 := Try.func86.trans (congrArg some (by kernel_rfl))
  f49 := ⟨Try.f90.name, by decide, Try.func90.trans (congrArg some (by kernel_rfl))⟩
  f50 := ⟨Try.f91.name, by decide, Try.func91.trans (congrArg some (by kernel_rfl))⟩
  f57 := ⟨Try.f93.name, by decide, Try.func93.trans (congrArg some (by kernel_rfl))⟩
  t0 := Try.underlying0
  a0 := Try.isAgg0
  z0 := Try.sizeOf0
  v0 := Try.zeroValue0
  t3 := Try.underlying3
  a3 := Try.isAgg3
  z3 := Try.sizeOf3
  v3 := Try.zeroValue3
  t4 := Try.underlying4
  a4 := Try.isAgg4
  z4 := Try.sizeOf4
  v4 := Try.zeroValue4
  t5 := Try.underlying5
  a5 := Try.isAgg5
  z5 := Try.sizeOf5
  v5 := Try.zeroValue5
  t9 := Try.underlying9
  a9 := Try.isAgg9
  z9 := Try.sizeOf9
  v9 := Try.zeroValue9
  t22 := Try.underlying84
  a22 := Try.isAgg84
  z22 := Try.sizeOf84
  v22 := Try.zeroValue84
  t25 := Try.underlying88
  a25 := Try.isAgg88
  z25 := Try.sizeOf88
  v25 := Try.zeroValue88
  t39 := Try.underlying91
  a39 := Try.isAgg91
  z39 := Try.sizeOf91
  v39 := Try.zeroValue91
  t45 := Try.underlying99
  a45 := Try.isAgg99
  z45 := Try.sizeOf99
  v45 := Try.zeroValue99
  t46 := Try.underlying100
  a46 := Try.isAgg100
  z46 := Try.sizeOf100
  v46 := Try.zeroValue100
  t50 := Try.underlying94
  a50 := Try.isAgg94
  z50 := Try.sizeOf94
  v50 := Try.zeroValue94
  t53 := Try.underlying106
  a53 := Try.isAgg106
  z53 := Try.sizeOf106
  v53 := Try.zeroValue106
  t55 := Try.underlying108
  a55 := Try.isAgg108
  z55 := Try.sizeOf108
  v55 := Try.zeroValue108
  t66 := Try.underlying115
  a66 := Try.isAgg115
  z66 := Try.sizeOf115
  v66 := Try.zeroValue115
  t70 := Try.underlying119
  a70 := Try.isAgg119
  z70 := Try.sizeOf119
  v70 := Try.zeroValue119
  t76 := Try.underlying123
  a76 := Try.isAgg123
  z76 := Try.sizeOf123
  v76 := Try.zeroValue123
  t77 := Try.underlying124
  a77 := Try.isAgg124
  z77 := Try.sizeOf124
  v77 := Try.zeroValue124 }
def Try.sortIn_ren : Go.Shelf.Ren := ⟨fun | 189 => 36 | 125 => 56 | 257 => 55 | 128 => 72 | 129 => 73 | 294 => 63 | 295 => 64 | 296 => 65 | 297 => 66 | 298 => 67 | 299 => 68 | 216 => 69 | 300 => 70 | 301 => 71 | 328 => 84 | 329 => 85 | 330 => 86 | 331 => 87 | 332 => 88 | 215 => 62 | 343 => 92 | n => n, fun | 28 => 56 | 3 => 3 | 46 => 91 | 0 => 0 | 51 => 106 | 53 => 108 | 4 => 4 | 183 => 100 | 182 => 99 | 131 => 94 | 5 => 5 | 9 => 9 | 218 => 115 | 222 => 119 | 228 => 123 | 229 => 124 | n => n, fun | n => n⟩
theorem Try.sortIn : Go.Proofs.Lays.n189 Try.prog Try.sortIn_ren := {
  mixed := by kernel_rfl
  f125 := Try.func56.trans (congrArg some (by kernel_rfl))
  f128 := Try.func72.trans (congrArg some (by kernel_rfl))
  f129 := Try.func73.trans (congrArg some (by kernel_rfl))
  f189 := Try.func36.trans (congrArg some (by kernel_rfl))
  f215 := Try.func62.trans (congrArg some (by kernel_rfl))
  f216 := Try.func69.trans (congrArg some (by kernel_rfl))
  f257 := Try.func55.trans (congrArg some (by kernel_rfl))
  f294 := Try.func63.trans (congrArg some (by kernel_rfl))
  f295 := Try.func64.trans (congrArg some (by kernel_rfl))
  f296 := Try.func65.trans (congrArg some (by kernel_rfl))
  f297 := Try.func66.trans (congrArg some (by kernel_rfl))
  f298 := Try.func67.trans (congrArg some (by kernel_rfl))
  f299 := Try.func68.trans (congrArg some (by kernel_rfl))
  f300 := Try.func70.trans (congrArg some (by kernel_rfl))
  f301 := Try.func71.trans (congrArg some (by kernel_rfl))
  f328 := Try.func84.trans (congrArg some (by kernel_rfl))
  f329 := Try.func85.trans (congrArg some (by kernel_rfl))
  f330 := Try.func86.trans (congrArg some (by kernel_rfl))
  f331 := Try.func87.trans (congrArg some (by kernel_rfl))
  f332 := Try.func88.trans (congrArg some (by kernel_rfl))
  f343 := Try.func92.trans (congrArg some (by kernel_rfl))
  t0 := Try.underlying0
  a0 := Try.isAgg0
  z0 := Try.sizeOf0
  v0 := Try.zeroValue0
  t3 := Try.underlying3
  a3 := Try.isAgg3
  z3 := Try.sizeOf3
  v3 := Try.zeroValue3
  t4 := Try.underlying4
  a4 := Try.isAgg4
  z4 := Try.sizeOf4
  v4 := Try.zeroValue4
  t5 := Try.underlying5
  a5 := Try.isAgg5
  z5 := Try.sizeOf5
  v5 := Try.zeroValue5
  t9 := Try.underlying9
  a9 := Try.isAgg9
  z9 := Try.sizeOf9
  v9 := Try.zeroValue9
  t28 := Try.underlying56
  a28 := Try.isAgg56
  z28 := Try.sizeOf56
  v28 := Try.zeroValue56
  t46 := Try.underlying91
  a46 := Try.isAgg91
  z46 := Try.sizeOf91
  v46 := Try.zeroValue91
  t51 := Try.underlying106
  a51 := Try.isAgg106
  z51 := Try.sizeOf106
  v51 := Try.zeroValue106
  t53 := Try.underlying108
  a53 := Try.isAgg108
  z53 := Try.sizeOf108
  v53 := Try.zeroValue108
  t131 := Try.underlying94
  a131 := Try.isAgg94
  z131 := Try.sizeOf94
  v131 := Try.zeroValue94
  t182 := Try.underlying99
  a182 := Try.isAgg99
  z182 := Try.sizeOf99
  v182 := Try.zeroValue99
  t183 := Try.underlying100
  a183 := Try.isAgg100
  z183 := Try.sizeOf100
  v183 := Try.zeroValue100
  t218 := Try.underlying115
  a218 := Try.isAgg115
  z218 := Try.sizeOf115
  v218 := Try.zeroValue115
  t222 := Try.underlying119
  a222 := Try.isAgg119
  z222 := Try.sizeOf119
  v222 := Try.zeroValue119
  t228 := Try.underlying123
  a228 := Try.isAgg123
  z228 := Try.sizeOf123
  v228 := Try.zeroValue123
  t229 := Try.underlying124
  a229 := Try.isAgg124
  z229 := Try.sizeOf124
  v229 := Try.zeroValue124 }
def Try.compIn_ren : Go.Shelf.Ren := ⟨fun | 43 => 37 | n => n, fun | 22 => 56 | 23 => 3 | 3 => 3 | 4 => 4 | 0 => 0 | n => n, fun | n => n⟩
theorem Try.compIn : Go.Proofs.SlLaysN.n43 Try.prog Try.compIn_ren := {
  mixed := by kernel_rfl
  f43 := ⟨Try.f37.name, by decide, Try.func37.trans (congrArg some (by kernel_rfl))⟩
  t0 := Try.underlying0
  a0 := Try.isAgg0
  z0 := Try.sizeOf0
  v0 := Try.zeroValue0
  t3 := Try.underlying3
  a3 := Try.isAgg3
  z3 := Try.sizeOf3
  v3 := Try.zeroValue3
  t4 := Try.underlying4
  a4 := Try.isAgg4
  z4 := Try.sizeOf4
  v4 := Try.zeroValue4
  t22 := Try.underlying56
  a22 := Try.isAgg56
  z22 := Try.sizeOf56
  v22 := Try.zeroValue56
  t23 := Try.underlying3
  a23 := Try.isAgg3
  z23 := Try.sizeOf3
  v23 := Try.zeroValue3
  i23 := by kernel_rfl }
def Try.clonIn_ren : Go.Shelf.Ren := ⟨fun | 41 => 39 | n => n, fun | 22 => 39 | 23 => 56 | 4 => 4 | n => n, fun | n => n⟩
theorem Try.clonIn : Go.Proofs.SlLaysE0.n41 Try.prog Try.clonIn_ren := {
  mixed := by kernel_rfl
  f41 := ⟨Try.f39.name, by decide, Try.func39.trans (congrArg some (by kernel_rfl))⟩
  t4 := Try.underlying4
  a4 := Try.isAgg4
  z4 := Try.sizeOf4
  v4 := Try.zeroValue4
  t22 := Try.underlying39
  a22 := Try.isAgg39
  z22 := Try.sizeOf39
  v22 := Try.zeroValue39 }
def Try.srchIn_ren : Go.Shelf.Ren := ⟨fun | 49 => 60 | 59 => 69 | 60 => 75 | 68 => 62 | n => n, fun | 22 => 56 | 23 => 3 | 3 => 3 | 4 => 4 | 51 => 91 | 0 => 0 | n => n, fun | n => n⟩
theorem Try.srchIn : Go.Proofs.SlLaysN.n49 Try.prog Try.srchIn_ren := {
  mixed := by kernel_rfl
  f49 := ⟨Try.f60.name, by decide, Try.func60.trans (congrArg some (by kernel_rfl))⟩
  f59 := ⟨Try.f69.name, by decide, Try.func69.trans (congrArg some (by kernel_rfl))⟩
  f60 := ⟨Try.f75.name, by decide, Try.func75.trans (congrArg some (by kernel_rfl))⟩
  f68 := ⟨Try.f62.name, by decide, Try.func62.trans (congrArg some (by kernel_rfl))⟩
  t0 := Try.underlying0
  a0 := Try.isAgg0
  z0 := Try.sizeOf0
  v0 := Try.zeroValue0
  t3 := Try.underlying3
  a3 := Try.isAgg3
  z3 := Try.sizeOf3
  v3 := Try.zeroValue3
  t4 := Try.underlying4
  a4 := Try.isAgg4
  z4 := Try.sizeOf4
  v4 := Try.zeroValue4
  t22 := Try.underlying56
  a22 := Try.isAgg56
  z22 := Try.sizeOf56
  v22 := Try.zeroValue56
  t23 := Try.underlying3
  a23 := Try.isAgg3
  z23 := Try.sizeOf3
  v23 := Try.zeroValue3
  t51 := Try.underlying91
  a51 := Try.isAgg91
  z51 := Try.sizeOf91
  v51 := Try.zeroValue91 }
end Go.Proofs

/- Writing into a block of one's own; a valid area that is being made. -/
namespace Go.Proofs.Ytnbjjddfcondlaa
open Go.RowKit

/-- 2 to the n. -/
def p2 (n : Nat) : Nat := 2 ^ n
theorem p2_shl {n : Nat} (h : n ≤ 48) : IntKind.i64.wrap (2 ^ n) = (p2 n : Int) ∧ 1 ≤ p2 n ∧ p2 n ≤ 281474976710656 := by
  have h1 : 2 ^ n ≤ 2 ^ 48 := Nat.pow_le_pow_right (by decide) h
  have h0 := Nat.two_pow_pos n
  have e : ((2 : Int) ^ n) = ((2 ^ n : Nat) : Int) := by simp
  unfold p2
  refine ⟨?_, h0, h1⟩
  rw [e, IntKind.wrap_i64]
  omega
theorem grown_set {w w' : World} {p : Addr} {v : Value} {B : Nat} (hp : p.block = B) (h : Below (w.setCell p v).heap.size (w.setCell p v) w') : w.grownBy w' (some B) :=
  ⟨h.os, h.tape, h.output, Nat.le_trans (by rw [World.size_setCell]; exact Nat.le_refl _) h.size, fun k hk hne => (h.block k (by rw [World.size_setCell]; exact hk)).trans (Below.heap_setCell _ _ _ k (fun e => hne (by rw [e, hp])))⟩
theorem grown_refl (w : World) (B : Nat) : w.grownBy w (some B) := ⟨rfl, rfl, rfl, Nat.le_refl _, fun _ _ _ => rfl⟩
theorem grown_trans {a b c : World} {r : Option Nat} (h : a.grownBy b r) (k : b.grownBy c r) : a.grownBy c r :=
  ⟨k.os.trans h.os, k.tape.trans h.tape, k.output.trans h.output, Nat.le_trans h.size k.size, fun i hi hne => (k.block i (Nat.lt_of_lt_of_le hi h.size) hne).trans (h.block i hi hne)⟩
/-- What lay below the block that was written reads as it did. -/
theorem Ext.grown {w0 w w' : World} {B : Nat} (h : Ext w0 w) (hg : w.grownBy w' (some B)) (hB : w0.heap.size ≤ B) : Ext w0 w' := Below.grown h hg h.size (fun k e => by cases e; exact hB)
theorem grown_cell {w w' : World} {B : Nat} (hg : w.grownBy w' (some B)) {a : Addr} {v : Value} (h : w.cell? a = some v) (hne : a.block ≠ B) : w'.cell? a = some v := hg.cell h (fun e => hne (by simpa using e))
theorem grown_free {w w' : World} {B : Nat} (hg : w.grownBy w' (some B)) {a : Addr} {v : Value} (h : w.cell? a = some v) (hf : w.frozen? a = false) (hne : a.block ≠ B) : w'.frozen? a = false :=
  (World.frozen?_of_block (hg.block a.block (World.block_lt_of_cell? w a h) (fun e => hne (by simpa using e)))).trans hf
theorem BoxAt.grown {w w' : World} {B : Nat} (hg : w.grownBy w' (some B)) {b o : Nat} {v : Value} (h : BoxAt w b o v) (hne : b ≠ B) : BoxAt w' b o v := ⟨grown_cell hg h.1 hne, grown_free hg h.1 h.2 hne⟩
/-- A fresh valid area. -/
def RetM (w : World) (e : Ending) (w' : World) : Prop :=
  ∃ (B : Nat) (L : List Int), e = .returned (.agg #[.slice (some ⟨B, 0, none⟩) 24 24]) ∧ w.heap.size ≤ B ∧ Globe.validL L = true ∧ RowsAt w' B L ∧ VA w' B 0 L ∧ Ext w w'
/-- In the midst of Made: the area's own block B, its box O. -/
def Mk (w : World) (O B : Nat) (wr : World) : Prop :=
  (∃ L, Globe.validL L = true ∧ RowsAt wr B L) ∧ wr.cell? ⟨O, 0, none⟩ = some (.slice (some ⟨B, 0, none⟩) 24 24) ∧ BoxAt wr w.heap.size 0 (.slice none 0 0) ∧ Ext w wr
theorem Mk.ext {w w1 w2 : World} {O B : Nat} (h : Mk w O B w1) (hE : Ext w1 w2) : Mk w O B w2 :=
  ⟨by obtain ⟨L, hv, hr⟩ := h.1; exact ⟨L, hv, hr.ext hE⟩, hE.cell h.2.1, BoxAt.ext hE h.2.2.1, h.2.2.2.trans hE⟩

end Go.Proofs.Ytnbjjddfcondlaa

/- Rows of one's own (slices that are appended to), as worlds grow. -/
namespace Go.Proofs.Ytnbjjddfcondlaa
open Go.RowKit

theorem Ext.grownNone {w w' : World} (h : Ext w w') : w.grownBy w' none := ⟨h.os, h.tape, h.output, Below.size h, fun k hk _ => Below.block h k hk⟩
theorem own_ext {w w' : World} {base : Nat} {e : TypeId} {size : Nat} {v : Value} {n : Nat} {xs : List Value} (h : w.ownsRow base e size v n xs) (hE : Ext w w') : w'.ownsRow base e size v n xs :=
  h.kept hE.grownNone (by cases v.ownBlock <;> simp)
/-- What lies below a slice's own base is as it was. -/
theorem Ext.own {w0 w w' : World} {e : TypeId} {size : Nat} {v : Value} {n : Nat} {xs : List Value} (h : Ext w0 w) (hr : w.ownsRow w0.heap.size e size v n xs) (hg : w.grownBy w' v.ownBlock) : Ext w0 w' :=
  Below.grown h hg h.size (fun k e => (hr.lt k e).1)


/-- The world behind a region, under a name. -/
theorem exit_at (P : World → Prop) {K : Act → World → Prop} {Q : Exit → Act → World → Prop} {e : Exit} {st : Act} {w : World} (h : P w) (hn : ∀ V, P V → Exit.then K Q e st V) : Exit.then K Q e st w := hn w h
/-- Several ways, one continuation. -/
theorem exit_join0 {K : Act → World → Prop} {Q : Exit → Act → World → Prop} {e : Exit} {F : Act} (R : World → Prop) {G : Prop} (main : (∀ V, R V → Exit.then K Q e F V) → G) (rest : ∀ V, R V → Exit.then K Q e F V) : G := main rest
theorem exit_join1 {α : Type} {K : Act → World → Prop} {Q : Exit → Act → World → Prop} {e : Exit} {F : α → Act} (R : α → World → Prop) {G : Prop} (main : (∀ a V, R a V → Exit.then K Q e (F a) V) → G) (rest : ∀ a V, R a V → Exit.then K Q e (F a) V) : G := main rest
theorem exit_join2 {α β : Type} {K : Act → World → Prop} {Q : Exit → Act → World → Prop} {e : Exit} {F : α → β → Act} (R : α → β → World → Prop) {G : Prop} (main : (∀ a b V, R a b V → Exit.then K Q e (F a b) V) → G) (rest : ∀ a b V, R a b V → Exit.then K Q e (F a b) V) : G := main rest
theorem exit_join3 {α β γ : Type} {K : Act → World → Prop} {Q : Exit → Act → World → Prop} {e : Exit} {F : α → β → γ → Act} (R : α → β → γ → World → Prop) {G : Prop} (main : (∀ a b c V, R a b c V → Exit.then K Q e (F a b c) V) → G) (rest : ∀ a b c V, R a b c V → Exit.then K Q e (F a b c) V) : G := main rest
theorem exit_join4 {α β γ δ : Type} {K : Act → World → Prop} {Q : Exit → Act → World → Prop} {e : Exit} {F : α → β → γ → δ → Act} (R : α → β → γ → δ → World → Prop) {G : Prop} (main : (∀ a b c d V, R a b c d V → Exit.then K Q e (F a b c d) V) → G) (rest : ∀ a b c d V, R a b c d V → Exit.then K Q e (F a b c d) V) : G := main rest
theorem exit_join5 {α β γ δ ε : Type} {K : Act → World → Prop} {Q : Exit → Act → World → Prop} {e : Exit} {F : α → β → γ → δ → ε → Act} (R : α → β → γ → δ → ε → World → Prop) {G : Prop} (main : (∀ a b c d f V, R a b c d f V → Exit.then K Q e (F a b c d f) V) → G) (rest : ∀ a b c d f V, R a b c d f V → Exit.then K Q e (F a b c d f) V) : G := main rest
theorem exit_join6 {α β γ δ ε ζ : Type} {K : Act → World → Prop} {Q : Exit → Act → World → Prop} {e : Exit} {F : α → β → γ → δ → ε → ζ → Act} (R : α → β → γ → δ → ε → ζ → World → Prop) {G : Prop} (main : (∀ a b c d f g V, R a b c d f g V → Exit.then K Q e (F a b c d f g) V) → G) (rest : ∀ a b c d f g V, R a b c d f g V → Exit.then K Q e (F a b c d f g) V) : G := main rest
theorem exit_join7 {α β γ δ ε ζ η : Type} {K : Act → World → Prop} {Q : Exit → Act → World → Prop} {e : Exit} {F : α → β → γ → δ → ε → ζ → η → Act} (R : α → β → γ → δ → ε → ζ → η → World → Prop) {G : Prop} (main : (∀ a b c d f g h V, R a b c d f g h V → Exit.then K Q e (F a b c d f g h) V) → G) (rest : ∀ a b c d f g h V, R a b c d f g h V → Exit.then K Q e (F a b c d f g h) V) : G := main rest
theorem exit_join8 {α β γ δ ε ζ η θ : Type} {K : Act → World → Prop} {Q : Exit → Act → World → Prop} {e : Exit} {F : α → β → γ → δ → ε → ζ → η → θ → Act} (R : α → β → γ → δ → ε → ζ → η → θ → World → Prop) {G : Prop} (main : (∀ a b c d f g h i V, R a b c d f g h i V → Exit.then K Q e (F a b c d f g h i) V) → G) (rest : ∀ a b c d f g h i V, R a b c d f g h i V → Exit.then K Q e (F a b c d f g h i) V) : G := main rest
theorem exit_join9 {α β γ δ ε ζ η θ ι : Type} {K : Act → World → Prop} {Q : Exit → Act → World → Prop} {e : Exit} {F : α → β → γ → δ → ε → ζ → η → θ → ι → Act} (R : α → β → γ → δ → ε → ζ → η → θ → ι → World → Prop) {G : Prop} (main : (∀ a b c d f g h i j V, R a b c d f g h i j V → Exit.then K Q e (F a b c d f g h i j) V) → G) (rest : ∀ a b c d f g h i j V, R a b c d f g h i j V → Exit.then K Q e (F a b c d f g h i j) V) : G := main rest
theorem exit_join10 {α β γ δ ε ζ η θ ι κ : Type} {K : Act → World → Prop} {Q : Exit → Act → World → Prop} {e : Exit} {F : α → β → γ → δ → ε → ζ → η → θ → ι → κ → Act} (R : α → β → γ → δ → ε → ζ → η → θ → ι → κ → World → Prop) {G : Prop} (main : (∀ a b c d f g h i j k V, R a b c d f g h i j k V → Exit.then K Q e (F a b c d f g h i j k) V) → G) (rest : ∀ a b c d f g h i j k V, R a b c d f g h i j k V → Exit.then K Q e (F a b c d f g h i j k) V) : G := main rest
theorem VA.grownR {w w' : World} {r : Option Nat} {b o : Nat} {l : List Int} (h : VA w b o l) (hg : w.grownBy w' r) (hne : r ≠ some b) : VA w' b o l := ⟨fun i hi => hg.cell (h.1 i hi) (fun e => hne e.symm), h.2⟩
theorem BoxAt.grownR {w w' : World} {r : Option Nat} {b o : Nat} {v : Value} (h : BoxAt w b o v) (hg : w.grownBy w' r) (hne : r ≠ some b) : BoxAt w' b o v :=
  ⟨hg.cell h.1 (fun e => hne e.symm), (World.frozen?_of_block (hg.block b (World.block_lt_of_cell? w _ h.1) (fun e => hne e.symm))).trans h.2⟩
theorem own_set {w : World} {base : Nat} {e : TypeId} {size : Nat} {v : Value} {n : Nat} {xs : List Value} (h : w.ownsRow base e size v n xs) {p : Addr} (hp : v.ownBlock ≠ some p.block) (u : Value) : (w.setCell p u).ownsRow base e size v n xs :=
  h.kept (grown_set (p := p) rfl (Below.refl _ _)) (.inr hp)
theorem own_ne {w : World} {base : Nat} {e : TypeId} {size : Nat} {v : Value} {n : Nat} {xs : List Value} (h : w.ownsRow base e size v n xs) {b : Nat} (hb : b < base) : v.ownBlock ≠ some b := fun he => by have := (h.lt b he).1; omega
theorem own_ne2 {w : World} {base : Nat} {e : TypeId} {size : Nat} {v : Value} {n : Nat} {xs : List Value} (h : w.ownsRow base e size v n xs) {b : Nat} (hb : w.heap.size ≤ b) : v.ownBlock ≠ some b := fun he => by have := (h.lt b he).2; omega
theorem cell_1_new (w : World) (x : Value) (t : TypeId) : ∀ j u, [x][j]? = some u → (w.alloc (.cells #[x] t)).cell? ((⟨w.heap.size, 0, none⟩ : Addr).add j) = some u := by
  intro j u hj
  rw [Addr.add_mid, Nat.zero_add]
  match j, hj with
  | 0, hj => simp at hj; subst hj; simp [go_sem]
  | _ + 1, hj => simp at hj
theorem cell_2_new (w : World) (x y : Value) (t : TypeId) : ∀ j u, [x, y][j]? = some u → (w.alloc (.cells #[x, y] t)).cell? ((⟨w.heap.size, 0, none⟩ : Addr).add j) = some u := by
  intro j u hj
  rw [Addr.add_mid, Nat.zero_add]
  match j, hj with
  | 0, hj => simp at hj; subst hj; simp [go_sem]
  | 1, hj => simp at hj; subst hj; simp [go_sem]
  | _ + 2, hj => simp at hj
theorem cell_1_at (w : World) (x : Value) (t : TypeId) {b : Nat} (hb : b = w.heap.size) : ∀ j u, [x][j]? = some u → (w.alloc (.cells #[x] t)).cell? ((⟨b, 0, none⟩ : Addr).add j) = some u := hb ▸ cell_1_new w x t
theorem Ext.own' {w0 w w' : World} {base : Nat} {e : TypeId} {size : Nat} {v : Value} {n : Nat} {xs : List Value} (h : Ext w0 w) (hr : w.ownsRow base e size v n xs) (hb : w0.heap.size ≤ base) (hg : w.grownBy w' v.ownBlock) : Ext w0 w' :=
  Below.grown h hg h.size (fun k e => Nat.le_trans hb (hr.lt k e).1)

end Go.Proofs.Ytnbjjddfcondlaa

/- Lists of elements in memory: lists of one's own that are appended to, and lists that came from anywhere, over any way to read an element's cells. -/
namespace Go.Proofs.Ytnbjjddfcondlaa
open Go.RowKit

/-- A way to read an element's cells: 'rel w c x F': in the world w the cells c read as x; F: the blocks that it looks into. -/
structure Rep (α : Type) where
  rel : World → List Value → α → List Nat → Prop
  keep : ∀ {w w' : World} {c : List Value} {x : α} {F : List Nat}, rel w c x F → (∀ b ∈ F, ∀ o u, w.cell? ⟨b, o, none⟩ = some u → w'.cell? ⟨b, o, none⟩ = some u) → rel w' c x F
  lt : ∀ {w : World} {c : List Value} {x : α} {F : List Nat}, rel w c x F → ∀ b ∈ F, b < w.heap.size
theorem Rep.ext {α : Type} (R : Rep α) {w w' : World} {c : List Value} {x : α} {F : List Nat} (h : R.rel w c x F) (hE : Ext w w') : R.rel w' c x F := R.keep h fun _ _ _ _ hu => hE.cell hu
/-- A valid area in a cell. -/
def areaR : Rep (List Int) where
  rel w c x F := ∃ b o k, c = [.slice (some ⟨b, o, none⟩) 24 k] ∧ VA w b o x ∧ F = [b]
  keep := by
    rintro w w' c x F ⟨b, o, k, rfl, hv, rfl⟩ h
    exact ⟨b, o, k, rfl, ⟨fun i hi => h b (by simp) _ _ (hv.1 i hi), hv.2⟩, rfl⟩
  lt := by
    rintro w c x F ⟨b, o, k, rfl, hv, rfl⟩ b' hb'
    rw [List.mem_singleton.1 hb']; exact hv.lt
/-- A list of one's own: it begins nowhere, or at the head of a row of one's own. -/
def OwnL {α : Type} (R : Rep α) (n₀ : Nat) (e : TypeId) (size : Nat) (v : Value) (w : World) (l : List α) : Prop :=
  ∃ cs : List (List Value), cs.length = l.length ∧ (∀ c ∈ cs, c.length = size) ∧ w.ownsRow n₀ e size v l.length cs.flatten ∧
    ∀ (j : Nat) x c, l[j]? = some x → cs[j]? = some c → ∃ F, R.rel w c x F ∧ ∀ b ∈ F, v.ownBlock ≠ some b
/-- Behind it what lies below n₀ is as it was. -/
structure Grew (n₀ : Nat) (w w' : World) : Prop where
  size : w.heap.size ≤ w'.heap.size
  ext : ∀ U, Ext U w → U.heap.size ≤ n₀ → Ext U w'
theorem OwnL.nil {α : Type} (R : Rep α) (n₀ : Nat) (e : TypeId) (size : Nat) (w : World) : OwnL R n₀ e size (.slice none 0 0) w [] := ⟨[], rfl, (fun c hc => by cases hc), World.ownsRow_nil w n₀ e size, (fun j x c hx => by simp at hx)⟩
theorem OwnL.ext {α : Type} {R : Rep α} {n₀ : Nat} {e : TypeId} {size : Nat} {v : Value} {w w' : World} {l : List α} (h : OwnL R n₀ e size v w l) (hE : Ext w w') : OwnL R n₀ e size v w' l := by
  obtain ⟨cs, h1, h2, h3, h4⟩ := h
  exact ⟨cs, h1, h2, own_ext h3 hE, fun j x c hx hc => by obtain ⟨F, q1, q2⟩ := h4 j x c hx hc; exact ⟨F, R.ext q1 hE, q2⟩⟩
theorem OwnL.lt {α : Type} {R : Rep α} {n₀ : Nat} {e : TypeId} {size : Nat} {v : Value} {w : World} {l : List α} (h : OwnL R n₀ e size v w l) : ∀ b, v.ownBlock = some b → b < w.heap.size := by
  obtain ⟨cs, h1, h2, h3, h4⟩ := h
  exact fun b hb => (h3.lt b hb).2
/-- What the program says of a slice type and its elements. -/
structure ElemT (P : Program) (t e : TypeId) (z : Value) (size bytes : Nat) : Prop where
  under : P.underlying t = some (.slice e)
  info : (P.info? e).map (fun i => (i.zero, i.size, i.bytes)) = some (some z, size, bytes)
  zs : z.cells.size = size
  pos : 0 < size
theorem flatten_len {size : Nat} : ∀ {cs : List (List Value)}, (∀ c ∈ cs, c.length = size) → cs.flatten.length = cs.length * size
  | [], _ => by simp
  | c :: r, h => by
    rw [List.flatten_cons, List.length_append, flatten_len (fun d hd => h d (List.mem_cons_of_mem _ hd)), h c (by simp), List.length_cons, Nat.add_mul]; omega
theorem flatten_get {size : Nat} : ∀ {cs : List (List Value)}, (∀ c ∈ cs, c.length = size) → ∀ (j : Nat) {c : List Value}, cs[j]? = some c → ∀ i, i < size → cs.flatten[j * size + i]? = c[i]?
  | [], _, j, c, h, _, _ => by simp at h
  | d :: r, h, 0, c, hc, i, hi => by
    simp at hc; subst hc
    rw [List.flatten_cons, Nat.zero_mul, Nat.zero_add, List.getElem?_append_left (by rw [h d (by simp)]; exact hi)]
  | d :: r, h, j + 1, c, hc, i, hi => by
    have hd := h d (by simp)
    rw [List.flatten_cons, List.getElem?_append_right (by rw [hd, Nat.add_mul]; omega), hd, show (j + 1) * size + i - size = j * size + i by rw [Nat.add_mul]; omega]
    exact flatten_get (fun d hd => h d (List.mem_cons_of_mem _ hd)) j (by simpa using hc) i hi
/-- Appending elements whose cells lie one behind the other. -/
theorem own_app {α : Type} {R : Rep α} {P : Program} {t ty e : TypeId} {z : Value} {size bytes : Nat} (E : ElemT P t e z size bytes) {n₀ : Nat} {v : Value} {w : World} {l : List α} (h : OwnL R n₀ e size v w l) (hn : n₀ ≤ w.heap.size)
    {a : Addr} {m c : Nat} {xs : List α} {ds : List (List Value)} (hm : xs.length = m) (hds : ds.length = m) (hsz : ∀ d ∈ ds, d.length = size) (hcell : ∀ j u, ds.flatten[j]? = some u → w.cell? (a.add j) = some u) (h1 : ∀ d ∈ ds, ∀ u ∈ d, u.oneCell' = true)
    (hR : ∀ (j : Nat) x d, xs[j]? = some x → ds[j]? = some d → ∃ F, R.rel w d x F ∧ ∀ b ∈ F, v.ownBlock ≠ some b) (hb : (l.length + m) * bytes ≤ 140737488355328) (hmax : l.length + m ≤ 9223372036854775807) :
    ∃ v' w', (Builtin.append_ #[t, t] ty #[v, .slice (some a) m c]).run P w = .ok v' w' ∧ OwnL R n₀ e size v' w' (l ++ xs) ∧ Grew n₀ w w' ∧ (v' = .slice none 0 0 ∨ ∃ g cap, v' = .slice (some ⟨g, 0, none⟩) (l.length + m) cap ∧ l.length + m ≤ cap) ∧ (v' = .slice none 0 0 → m = 0 ∧ v = .slice none 0 0) := by
  obtain ⟨cs, h2, h3, h4, h5⟩ := h
  obtain ⟨i, hi, hz0, hz1, hz2⟩ := info_parts E.info
  obtain ⟨v', w', hrun, hown, hg, hiff, hat⟩ := run_append_own_at (P := P) w n₀ t ty e i z size bytes E.under hi hz0 hz1 hz2 E.zs E.pos v l.length cs.flatten h4 a m c ds.flatten (by rw [flatten_len hsz, hds]) hcell
    (fun u hu => by obtain ⟨d, hd, hu⟩ := List.mem_flatten.1 hu; exact h1 d hd u hu) (by unfold maxLen; exact hmax) hb hn
  have hnb : ∀ F : List Nat, (∀ b ∈ F, v.ownBlock ≠ some b) → (∀ b ∈ F, b < w.heap.size) → (∀ b ∈ F, v'.ownBlock ≠ some b) ∧ ∀ b ∈ F, ∀ o u, w.cell? ⟨b, o, none⟩ = some u → w'.cell? ⟨b, o, none⟩ = some u := by
    intro F hF hFl
    refine ⟨fun b hbF hv' => ?_, fun b hbF o u hu => hg.cell hu (fun e => hF b hbF e.symm)⟩
    -- the new value's block is the old one, or is new
    rcases hat with e1 | e1
    · exact hF b hbF (by rw [← e1]; exact hv')
    · rw [e1] at hv'; cases hv'; have := hFl _ hbF; omega
  refine ⟨v', w', hrun, ⟨cs ++ ds, by simp [h2, hds, hm], ?_, ?_, ?_⟩, ⟨hg.size, fun U hU hUn => Ext.own' hU h4 hUn hg⟩, ?_, fun e1 => by have := hiff.1 e1; exact ⟨this.2, this.1⟩⟩
  · intro d hd
    rcases List.mem_append.1 hd with hd | hd
    · exact h3 d hd
    · exact hsz d hd
  · rw [List.flatten_append, List.length_append, hm]; exact hown
  · intro j x d hx hd
    rcases Nat.lt_or_ge j l.length with hj | hj
    · rw [List.getElem?_append_left hj] at hx
      rw [List.getElem?_append_left (by rw [h2]; exact hj)] at hd
      obtain ⟨F, q1, q2⟩ := h5 j x d hx hd
      obtain ⟨k1, k2⟩ := hnb F q2 (R.lt q1)
      exact ⟨F, R.keep q1 k2, k1⟩
    · rw [List.getElem?_append_right hj] at hx
      rw [List.getElem?_append_right (by rw [h2]; exact hj), h2] at hd
      obtain ⟨F, q1, q2⟩ := hR _ x d hx hd
      obtain ⟨k1, k2⟩ := hnb F q2 (R.lt q1)
      exact ⟨F, R.keep q1 k2, k1⟩
  · rcases hown.2 with ⟨q, _⟩ | ⟨g, cap, cur, q, _, _, q3, _⟩
    · exact .inl q
    · exact .inr ⟨g, cap, q, q3⟩
/-- Appending one element whose cells lie in a block of their own. -/
theorem own_app1 {α : Type} {R : Rep α} {P : Program} {t ty e : TypeId} {z : Value} {size bytes : Nat} (E : ElemT P t e z size bytes) {n₀ : Nat} {v : Value} {w : World} {l : List α} (h : OwnL R n₀ e size v w l) (hn : n₀ ≤ w.heap.size) {k : Nat} (hl : l.length = k)
    {O c : Nat} {x : α} {d : List Value} {F : List Nat} (hsz : d.length = size) (hcell : ∀ j u, d[j]? = some u → w.cell? ⟨O, j, none⟩ = some u) (h1 : ∀ u ∈ d, u.oneCell' = true)
    (hR : R.rel w d x F) (hF : ∀ b ∈ F, v.ownBlock ≠ some b) (hb : (k + 1) * bytes ≤ 140737488355328) (hmax : k + 1 ≤ 9223372036854775807) :
    ∃ g cap w', (Builtin.append_ #[t, t] ty #[v, .slice (some ⟨O, 0, none⟩) 1 c]).run P w = .ok (.slice (some ⟨g, 0, none⟩) (k + 1) cap) w' ∧ OwnL R n₀ e size (.slice (some ⟨g, 0, none⟩) (k + 1) cap) w' (l ++ [x]) ∧ Grew n₀ w w' := by
  subst hl
  obtain ⟨v', w', h2, h3, h4, h5, h6⟩ := own_app E h hn (a := ⟨O, 0, none⟩) (m := 1) (c := c) (xs := [x]) (ds := [d]) rfl rfl (by simpa using hsz) (fun j u hj => by
      rw [Addr.add_mid, Nat.zero_add]; exact hcell j u (by simpa using hj)) (by simpa using h1) (fun j y e hy he => by
      match j, hy, he with
      | 0, hy, he => simp at hy he; subst hy he; exact ⟨F, hR, hF⟩
      | _ + 1, hy, _ => simp at hy) hb hmax
  rcases h5 with rfl | ⟨g, cap, rfl, _⟩
  · have := h6 rfl; omega
  · exact ⟨g, cap, w', h2, h3, h4⟩
theorem cells1 {w : World} {O : Nat} {x : Value} (h : w.cell? ⟨O, 0, none⟩ = some x) : ∀ j u, [x][j]? = some u → w.cell? ⟨O, j, none⟩ = some u
  | 0, u, hu => by simp at hu; subst hu; exact h
  | _ + 1, u, hu => by simp at hu
theorem cells2 {w : World} {O : Nat} {x y : Value} (h : w.cell? ⟨O, 0, none⟩ = some x) (h2 : w.cell? ⟨O, 1, none⟩ = some y) : ∀ j u, [x, y][j]? = some u → w.cell? ⟨O, j, none⟩ = some u
  | 0, u, hu => by simp at hu; subst hu; exact h
  | 1, u, hu => by simp at hu; subst hu; exact h2
  | _ + 2, u, hu => by simp at hu
theorem away1 {v : Value} {m B : Nat} (h : ∀ b, v.ownBlock = some b → b < m) (h1 : m ≤ B) : ∀ b ∈ [B], v.ownBlock ≠ some b := fun b hb he => by
  have := h b he; rw [List.mem_singleton.1 hb] at this; omega
theorem away2 {v : Value} {m B C : Nat} (h : ∀ b, v.ownBlock = some b → b < m) (h1 : m ≤ B) (h2 : m ≤ C) : ∀ b ∈ [B, C], v.ownBlock ≠ some b := fun b hb he => by
  have := h b he
  rcases List.mem_cons.1 hb with rfl | hb
  · omega
  · rw [List.mem_singleton.1 hb] at this; omega
theorem OwnL.base {α : Type} {R : Rep α} {n₀ : Nat} {e : TypeId} {size : Nat} {v : Value} {w : World} {l : List α} (h : OwnL R n₀ e size v w l) : ∀ b, v.ownBlock = some b → n₀ ≤ b := by
  obtain ⟨cs, h1, h2, h3, h4⟩ := h
  exact fun b hb => (h3.lt b hb).1
theorem below1 {v : Value} {m B : Nat} (h : ∀ b, v.ownBlock = some b → m ≤ b) (h1 : B < m) : ∀ b ∈ [B], v.ownBlock ≠ some b := fun b hb he => by
  have := h b he; rw [List.mem_singleton.1 hb] at this; omega
theorem below2 {v : Value} {m B C : Nat} (h : ∀ b, v.ownBlock = some b → m ≤ b) (h1 : B < m) (h2 : C < m) : ∀ b ∈ [B, C], v.ownBlock ≠ some b := fun b hb he => by
  have := h b he
  rcases List.mem_cons.1 hb with rfl | hb
  · omega
  · rw [List.mem_singleton.1 hb] at this; omega
/-- An empty slice with no room, in a block of its own. -/
theorem sn_newS0 {P : Program} {ev : Operand → Value} {oi : Oper} {w : World} {N : Value → World → Prop} {t : TypeId} (h1 : (execOp ev oi).run P w = .ok (.value (.slice (some ⟨w.heap.size, 0, none⟩) 0 0)) (w.alloc (.cells #[] t)))
    (h : ∀ O X, w.heap.size = O → X.heap.size = O + 1 → Ext w X → X.heap[O]? = some (.cells #[] t (0, 0)) → N (.slice (some ⟨O, 0, none⟩) 0 0) X) : StepN P ev oi w N :=
  sn_eff h1 (h _ _ rfl (by simp) (Ext.alloc (Ext.refl _) _) (heap_alloc_new w _))
theorem own_empty {w : World} {base O size : Nat} {e : TypeId} (h : w.heap[O]? = some (.cells #[] e (0, 0))) (hb : base ≤ O) : w.ownsRow base e size (.slice (some ⟨O, 0, none⟩) 0 0) 0 [] :=
  ⟨by simp, .inr ⟨O, 0, #[], rfl, hb, h, Nat.le_refl _, by unfold maxLen; omega, by simp, by simp⟩⟩
theorem OwnL.empty {α : Type} (R : Rep α) {n₀ O : Nat} {e : TypeId} {size : Nat} {w : World} (h : w.heap[O]? = some (.cells #[] e (0, 0))) (hb : n₀ ≤ O) : OwnL R n₀ e size (.slice (some ⟨O, 0, none⟩) 0 0) w [] :=
  ⟨[], rfl, (fun c hc => by cases hc), own_empty h hb, (fun j x c hx => by simp at hx)⟩
/-- Appending nothing. -/
theorem app_none {P : Program} {w : World} {t e ty : TypeId} {z : Value} {size bytes : Nat} (E : ElemT P t e z size bytes) {b : Option Addr} {n c : Nat} {a : Option Addr} {k : Nat} (h : n ≤ c) :
    (Builtin.append_ #[t, t] ty #[.slice b n c, .slice a 0 k]).run P w = .ok (.slice b n c) w := by
  obtain ⟨i, hi, hz0, hz1, hz2⟩ := info_parts E.info
  cases a <;> cases b <;> simp [Builtin.append_, run_underlying E.under, sizeOf, typeInfo, hi, Builtin.lenOf, Builtin.firstCells, loadCells, loadCellsFrom, storeCells, h]
/-- Cells that come in groups: the cells of the whole. -/
theorem flat_cells {w : World} {b off n size : Nat} {f : Nat → List Value} (hf : ∀ i, i < n → (f i).length = size) (h : ∀ i, i < n → ∀ j u, (f i)[j]? = some u → w.cell? ⟨b, off + i * size + j, none⟩ = some u) :
    ∀ m, m ≤ n → ∀ j u, (((List.range m).map f).flatten)[j]? = some u → w.cell? ((⟨b, off, none⟩ : Addr).add j) = some u := by
  intro m
  induction m with
  | zero => intro _ j u hu; simp at hu
  | succ m ih =>
    intro hm j u hu
    have hlen : (((List.range m).map f).flatten).length = m * size := by
      rw [flatten_len (size := size) (fun c hc => by obtain ⟨i, hi, rfl⟩ := List.mem_map.1 hc; exact hf i (by have := List.mem_range.1 hi; omega))]; simp
    rw [List.range_succ, List.map_append, List.flatten_append] at hu
    rcases Nat.lt_or_ge j (m * size) with hj | hj
    · rw [List.getElem?_append_left (by rw [hlen]; exact hj)] at hu
      exact ih (by omega) j u hu
    · rw [List.getElem?_append_right (by rw [hlen]; exact hj), hlen] at hu
      have := h m (by omega) (j - m * size) u (by simpa using hu)
      rw [Addr.add_mid, show off + j = off + m * size + (j - m * size) by omega]; exact this
/-- As R, where all that is looked into lies at n₀ or behind it. -/
def freshR {α : Type} (n₀ : Nat) (R : Rep α) : Rep α where
  rel w c x F := R.rel w c x F ∧ ∀ b ∈ F, n₀ ≤ b
  keep := fun h hk => ⟨R.keep h.1 hk, h.2⟩
  lt := fun h => R.lt h.1
theorem OwnL.weaken {α : Type} {R : Rep α} {m n₀ : Nat} {e : TypeId} {size : Nat} {v : Value} {w : World} {l : List α} (h : OwnL (freshR m R) n₀ e size v w l) : OwnL R n₀ e size v w l := by
  obtain ⟨cs, h1, h2, h3, h4⟩ := h
  exact ⟨cs, h1, h2, h3, fun j x c hx hc => by obtain ⟨F, q1, q2⟩ := h4 j x c hx hc; exact ⟨F, q1.1, q2⟩⟩
theorem fresh1 {n B : Nat} (h : n ≤ B) : ∀ b ∈ [B], n ≤ b := fun b hb => by rw [List.mem_singleton.1 hb]; exact h
theorem fresh2 {n B C : Nat} (h : n ≤ B) (h2 : n ≤ C) : ∀ b ∈ [B, C], n ≤ b := fun b hb => by
  rcases List.mem_cons.1 hb with rfl | hb
  · exact h
  · rw [List.mem_singleton.1 hb]; exact h2
theorem ex_append {P : Program} {ev : Operand → Value} {o : Oper} {w : World} {x y : Operand} {t1 t2 : TypeId} {v s v' : Value} {w' : World} (hop : o.op = .call { callee := .builtin .append, args := #[x, y], argTypes := #[t1, t2] }) (hx : ev x = v) (hy : ev y = s)
    (h : (Builtin.append_ #[t1, t2] o.type #[v, s]).run P w = .ok v' w') : (execOp ev o).run P w = .ok (.value v') w' := by
  simp [execOp, hop, resolve, invoke, builtin, hx, hy, h, Result.andThen]

end Go.Proofs.Ytnbjjddfcondlaa

/- What a range over a function wants, in the form in which this seat uses it. -/
namespace Go.Proofs.Ytnbjjddfcondlaa
open Go.RowKit

theorem Ext.others {a b : World} (h : Ext a b) : KeepsOthers a b := ⟨h.size, fun k _ ho _ => (Below.block h k (Array.getElem?_eq_some_iff.1 ho).1).trans ho⟩

theorem wide_depth {n : Nat} : Fence.wide.depth.isSome = true → 1 ≤ n := fun h => by simp [Fence.wide] at h

/-- What lies below n₀ lies as it lay, but for the blocks of X (which a round may write). -/
structure KeepX (n₀ : Nat) (X : Nat → Prop) (A B : World) : Prop where
  size : A.heap.size ≤ B.heap.size
  block : ∀ k, k < n₀ → ¬ X k → B.heap[k]? = A.heap[k]?
theorem KeepX.refl (n₀ : Nat) (X : Nat → Prop) (A : World) : KeepX n₀ X A A := ⟨Nat.le_refl _, fun _ _ _ => rfl⟩
theorem KeepX.trans {n₀ : Nat} {X : Nat → Prop} {A B C : World} (h : KeepX n₀ X A B) (k : KeepX n₀ X B C) : KeepX n₀ X A C :=
  ⟨Nat.le_trans h.size k.size, fun i hi hx => (k.block i hi hx).trans (h.block i hi hx)⟩
theorem KeepX.of_below {n₀ : Nat} {X : Nat → Prop} {A B : World} (h : Below n₀ A B) : KeepX n₀ X A B := ⟨h.size, fun k hk _ => h.block k hk⟩
theorem KeepX.of_ext {n₀ : Nat} {X : Nat → Prop} {A B : World} (h : Ext A B) (hn : n₀ ≤ A.heap.size) : KeepX n₀ X A B := KeepX.of_below (Below.mono h hn)
theorem KeepX.cell {n₀ : Nat} {X : Nat → Prop} {A B : World} (h : KeepX n₀ X A B) {b o : Nat} (hb : b < n₀) (hx : ¬ X b) : B.cell? ⟨b, o, none⟩ = A.cell? ⟨b, o, none⟩ := World.cell?_of_block (w := A) (h.block b hb hx)
theorem KeepX.setCell {n₀ : Nat} {X : Nat → Prop} (A : World) {p : Addr} (hp : X p.block) (u : Value) : KeepX n₀ X A (A.setCell p u) :=
  ⟨by simp [World.setCell], fun k _ hx => Below.heap_setCell _ _ _ _ (fun e => hx (e ▸ hp))⟩
theorem KeepX.putObj {n₀ : Nat} {X : Nat → Prop} {w : World} (hn : n₀ ≤ w.heap.size) (W : World) (l : Nat) (o o' : Obj) (hl : w.heap.size ≤ l) (h : W.heap[l]? = some o) (hc : o.isCells = false) (hw : o.isWalk = false) : KeepX n₀ X W (W.putObj l o') :=
  KeepX.of_below (belowK_b hn W l o o' hl h hc hw)

/-- A cell behind the shutting of a loop's block of deferred calls. -/
theorem cell_shut {W : World} {D : Nat} (hK : W.heap[D]? = some (.deferred (some []))) {a : Addr} {v : Value} (h : W.cell? a = some v) : (W.putObj D (.deferred none)).cell? a = some v :=
  cell_kept h (grownBy_putObj' _ D (.deferred none)) (fun r e => by cases e; exact ⟨_, hK, rfl⟩)
theorem Ext.shut {w W : World} {D : Nat} (h : Ext w W) (hD : w.heap.size ≤ D) (hK : W.heap[D]? = some (.deferred (some []))) : Ext w (W.putObj D (.deferred none)) :=
  Below.trans h (belowK_b (w := w) (Nat.le_refl _) W D _ _ hD hK rfl rfl)

end Go.Proofs.Ytnbjjddfcondlaa
