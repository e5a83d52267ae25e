/- Part 1 of what the proof of TopProduct stands on. -/
import Derived.Test.YtajdohcgjgknmaaGreatDoorProg
import Derived.WalkKit
import Derived.WalkSpells
import Derived.WalkLawsBesides
import Derived.Handy
import Derived.Laws.EntriesVeiled
import Derived.Lib.Hide
import Derived.Deep.QuietTactic
import Derived.BigQuiet
import Derived.Deep.RegionHeld3
import Derived.Lib.TrailingZeros
import Derived.Scope
import Derived.RangeFuncOwn
import Derived.Shelf.SlSortCmp.WholeK
import Derived.Shelf.Lay
import Derived.Ground.SlsfProg
import Derived.Shelf.SlGeneric
import Derived.Shelf.SlicesQ.Reverse
import Derived.Ground.SlgnProg
import Derived.OwnWalk
import Derived.Maps.AppendAt
import Derived.RangeFuncNested
import Derived.RangeFuncBound
import Derived.RangeFuncCalls
import Derived.RangeFuncLeaves
import Derived.RangeFuncBox
import Derived.Shelf.Abstract
import Derived.Shelf.RegionOpen
import Derived.OwnWalkIn
import Derived.TacticsInMore
import Derived.LoopNIn
import Derived.LoopIn
namespace Go.Proofs.YtajdohcgjgknmaaGreatDoor
open Go.RowKit
theorem ret_int {k : IntKind} {a b : Int} (h : a = b) : Ending.returned (.int k a) = .returned (.int k b) := by rw [h]
theorem ret_bool {a b : Bool} (h : a = b) : Ending.returned (.bool a) = .returned (.bool b) := by rw [h]
theorem wp_name {P : Program} {c : Code} {Q : Exit → Act → World → Prop} {a : Act} {W : World} (S : World → Prop) (hS : S W) (h : ∀ V, S V → c.wp P Q a V) : c.wp P Q a W := h W hS
def Ext (w w' : World) : Prop := Below w.heap.size w w'
theorem Ext.refl (w : World) : Ext w w := Below.refl _ _
theorem Ext.trans {a b c : World} (h : Ext a b) (k : Ext b c) : Ext a c := Below.trans h (Below.mono k (Below.size h))
theorem Ext.alloc {a b : World} (h : Ext a b) (o : Obj) : Ext a (b.alloc o) := Below.alloc h (Below.size h) o
theorem Ext.drew {a b : World} (h : Ext a b) : Ext a b.drew := Below.drew h
theorem Ext.drewN {a b : World} (h : Ext a b) (n : Nat) : Ext a (b.drewN n) := Below.trans h ⟨rfl, rfl, rfl, Nat.le_refl _, fun _ _ => rfl⟩
theorem Ext.setCell {a b : World} (h : Ext a b) {p : Addr} (hp : a.heap.size ≤ p.block) (u : Value) : Ext a (b.setCell p u) := Below.setCell h hp u
theorem Ext.size {a b : World} (h : Ext a b) : a.heap.size ≤ b.heap.size := Below.size h
theorem Ext.below {a b : World} (h : Ext a b) : Below a.heap.size a b := h
theorem Ext.cellE {W w1 : World} (hb : Ext W w1) : ∀ b o, (⟨b + 1 - W.heap.size, 0, none⟩ : Addr) = ⟨0, 0, none⟩ → w1.cell? ⟨b, o, none⟩ = W.cell? ⟨b, o, none⟩ := fun b o h => Below.cell hb (p := ⟨b, o, none⟩) (by simp at h; show b < W.heap.size; omega)
theorem Ext.frozenE {W w1 : World} (hb : Ext W w1) : ∀ b o, (⟨b + 1 - W.heap.size, 0, none⟩ : Addr) = ⟨0, 0, none⟩ → w1.frozen? ⟨b, o, none⟩ = W.frozen? ⟨b, o, none⟩ := fun b o h => Below.frozen hb (p := ⟨b, o, none⟩) (by simp at h; show b < W.heap.size; omega)
theorem Ext.cell {W w1 : World} (hb : Ext W w1) {a : Addr} {v : Value} (h : W.cell? a = some v) : w1.cell? a = some v := by
  rw [Below.cell hb (World.block_lt_of_cell? W a h)]; exact h
theorem Ext.free {W w1 : World} (hb : Ext W w1) {a : Addr} {v : Value} (h : W.cell? a = some v) (hf : W.frozen? a = false) : w1.frozen? a = false := by
  rw [Below.frozen hb (World.block_lt_of_cell? W a h)]; exact hf
theorem lt_of_addr {b n : Nat} (h : (⟨b + 1 - n, 0, none⟩ : Addr) = ⟨0, 0, none⟩) : b < n := by simp at h; omega
theorem alloc_keeps (w : World) :
    (∀ o1 b o, (⟨b + 1 - w.heap.size, 0, none⟩ : Addr) = ⟨0, 0, none⟩ → (w.alloc o1).cell? ⟨b, o, none⟩ = w.cell? ⟨b, o, none⟩) ∧
    (∀ o1 b o, (⟨b + 1 - w.heap.size, 0, none⟩ : Addr) = ⟨0, 0, none⟩ → (w.alloc o1).frozen? ⟨b, o, none⟩ = w.frozen? ⟨b, o, none⟩) ∧
    (∀ o1 o2 b o, (⟨b + 1 - w.heap.size, 0, none⟩ : Addr) = ⟨0, 0, none⟩ → ((w.alloc o1).alloc o2).cell? ⟨b, o, none⟩ = w.cell? ⟨b, o, none⟩) ∧
    (∀ o1 o2 b o, (⟨b + 1 - w.heap.size, 0, none⟩ : Addr) = ⟨0, 0, none⟩ → ((w.alloc o1).alloc o2).frozen? ⟨b, o, none⟩ = w.frozen? ⟨b, o, none⟩) ∧
    (∀ o1 o2 o3 b o, (⟨b + 1 - w.heap.size, 0, none⟩ : Addr) = ⟨0, 0, none⟩ → (((w.alloc o1).alloc o2).alloc o3).cell? ⟨b, o, none⟩ = w.cell? ⟨b, o, none⟩) ∧
    (∀ o1 o2 o3 b o, (⟨b + 1 - w.heap.size, 0, none⟩ : Addr) = ⟨0, 0, none⟩ → (((w.alloc o1).alloc o2).alloc o3).frozen? ⟨b, o, none⟩ = w.frozen? ⟨b, o, none⟩) ∧
    (∀ o1 o2 o3 o4 b o, (⟨b + 1 - w.heap.size, 0, none⟩ : Addr) = ⟨0, 0, none⟩ → ((((w.alloc o1).alloc o2).alloc o3).alloc o4).cell? ⟨b, o, none⟩ = w.cell? ⟨b, o, none⟩) ∧
    (∀ o1 o2 o3 o4 b o, (⟨b + 1 - w.heap.size, 0, none⟩ : Addr) = ⟨0, 0, none⟩ → ((((w.alloc o1).alloc o2).alloc o3).alloc o4).frozen? ⟨b, o, none⟩ = w.frozen? ⟨b, o, none⟩) ∧
    (∀ o1 o2 o3 o4 o5 b o, (⟨b + 1 - w.heap.size, 0, none⟩ : Addr) = ⟨0, 0, none⟩ → (((((w.alloc o1).alloc o2).alloc o3).alloc o4).alloc o5).cell? ⟨b, o, none⟩ = w.cell? ⟨b, o, none⟩) ∧
    (∀ o1 o2 o3 o4 o5 b o, (⟨b + 1 - w.heap.size, 0, none⟩ : Addr) = ⟨0, 0, none⟩ → (((((w.alloc o1).alloc o2).alloc o3).alloc o4).alloc o5).frozen? ⟨b, o, none⟩ = w.frozen? ⟨b, o, none⟩) := by
  have e : ∀ (W : World) (h : Ext w W) (b o : Nat), b < w.heap.size → W.cell? ⟨b, o, none⟩ = w.cell? ⟨b, o, none⟩ ∧ W.frozen? ⟨b, o, none⟩ = w.frozen? ⟨b, o, none⟩ :=
    fun W h b o hb => ⟨Below.cell h (p := ⟨b, o, none⟩) hb, Below.frozen h (p := ⟨b, o, none⟩) hb⟩
  refine ⟨?_, ?_, ?_, ?_, ?_, ?_, ?_, ?_, ?_, ?_⟩ <;> intros <;> rename_i h <;> first
    | exact (e _ (by repeat' (first | exact Ext.refl _ | refine Ext.alloc ?_ _)) _ _ (lt_of_addr h)).1
    | exact (e _ (by repeat' (first | exact Ext.refl _ | refine Ext.alloc ?_ _)) _ _ (lt_of_addr h)).2
end Go.Proofs.YtajdohcgjgknmaaGreatDoor

namespace Go.Proofs.YtajdohcgjgknmaaGreatDoor
namespace Globe
def vcB (x y : Int) : Bool := decide (0 ≤ x ∧ x ≤ 47 ∧ 0 ≤ y ∧ y ≤ 23)
theorem vcB_t {x y : Int} : vcB x y = true ↔ 0 ≤ x ∧ x ≤ 47 ∧ 0 ≤ y ∧ y ≤ 23 := by simp [vcB]
def inB (n lo hi : Int) : Bool := decide (lo ≤ n ∧ n ≤ hi)
theorem inB_t {n lo hi : Int} : inB n lo hi = true ↔ lo ≤ n ∧ n ≤ hi := by simp [inB]
theorem inB_f {n lo hi : Int} : inB n lo hi = false ↔ n < lo ∨ hi < n := by simp [inB]; omega
theorem vcB_in (x y : Int) : vcB x y = (inB x 0 47 && inB y 0 23) := by
  rw [Bool.eq_iff_iff, Bool.and_eq_true, vcB_t, inB_t, inB_t]; omega
def nth (l : List Int) (i : Nat) : Int := l[i]?.getD 0
theorem nth_lt {l : List Int} {i : Nat} (h : i < l.length) : nth l i = l[i] := by rw [nth, List.getElem?_eq_getElem h]; rfl
theorem nth_ge {l : List Int} {i : Nat} (h : l.length ≤ i) : nth l i = 0 := by rw [nth, List.getElem?_eq_none h]; rfl
theorem nth_mem {l : List Int} {i : Nat} (h : i < l.length) : nth l i ∈ l := by rw [nth_lt h]; exact List.getElem_mem h
theorem ext_nth {a b : List Int} (hl : a.length = b.length) (h : ∀ i, i < a.length → nth a i = nth b i) : a = b :=
  List.ext_getElem hl fun i h1 h2 => by rw [← nth_lt h1, ← nth_lt h2]; exact h i h1
def rowOk (r : Int) : Bool := decide (0 ≤ r ∧ r ≤ 281474976710655)
theorem rowOk_t {r : Int} : rowOk r = true ↔ 0 ≤ r ∧ r ≤ 281474976710655 := by simp [rowOk]
def validL (l : List Int) : Bool := l.length == 24 && l.all rowOk
theorem validL_t {l : List Int} : validL l = true ↔ l.length = 24 ∧ ∀ r ∈ l, 0 ≤ r ∧ r ≤ 281474976710655 := by
  simp only [validL, Bool.and_eq_true, beq_iff_eq, List.all_eq_true, rowOk_t]
def badAt : List Int → Int
  | [] => -1
  | r :: l => if rowOk r then (if badAt l < 0 then -1 else badAt l + 1) else 0
theorem badAt_all : ∀ {l : List Int}, l.all rowOk = true → badAt l = -1
  | [], _ => rfl
  | r :: l, h => by
    simp only [List.all_cons, Bool.and_eq_true] at h
    rw [badAt, if_pos h.1, badAt_all h.2]; rfl
theorem badAt_no : ∀ {l : List Int}, l.all rowOk = false → 0 ≤ badAt l
  | [], h => by simp at h
  | r :: l, h => by
    cases hr : rowOk r with
    | false => rw [badAt, if_neg (by rw [hr]; decide)]; decide
    | true =>
      have ih := badAt_no (l := l) (by simpa [List.all_cons, hr] using h)
      rw [badAt, if_pos hr, if_neg (by omega)]; omega
theorem badAt_first : ∀ {l : List Int} {k : Nat}, k < l.length → (∀ j, j < k → rowOk (nth l j) = true) → rowOk (nth l k) = false → badAt l = (k : Int)
  | r :: l, 0, _, _, hk => by simp [nth] at hk; rw [badAt, if_neg (by rw [hk]; decide)]; rfl
  | r :: l, k + 1, h, hp, hk => by
    have ih := badAt_first (l := l) (k := k) (by simpa using h) (fun j hj => by simpa [nth] using hp (j + 1) (by omega)) (by simpa [nth] using hk)
    have h0 : rowOk r = true := by simpa [nth] using hp 0 (by omega)
    rw [badAt, if_pos h0, ih, if_neg (by omega)]; omega
end Globe
end Go.Proofs.YtajdohcgjgknmaaGreatDoor

namespace Go.Proofs.YtajdohcgjgknmaaGreatDoor
open Go.RowKit
def IntsAt (w : World) (a : Option Addr) (l : List Int) : Prop :=
  l = [] ∨ ∃ b off, a = some ⟨b, off, none⟩ ∧ ∀ i, i < l.length → w.cell? ⟨b, off + i, none⟩ = some (.int .i64 (Globe.nth l i))
theorem IntsAt.ext {w w' : World} {a : Option Addr} {l : List Int} (h : IntsAt w a l) (hE : Ext w w') : IntsAt w' a l := by
  rcases h with h | ⟨b, off, rfl, h⟩
  · exact .inl h
  · exact .inr ⟨b, off, rfl, fun i hi => hE.cell (h i hi)⟩
theorem make24 (w : World) : (Instr.makeSlice 24 (.int .i64 24) (.int .i64 24)).run Tryz.prog w = .ok (.slice (some ⟨w.heap.size, 0, none⟩) 24 24) (w.alloc (.cells #[.int .i64 0, .int .i64 0, .int .i64 0, .int .i64 0, .int .i64 0, .int .i64 0, .int .i64 0, .int .i64 0, .int .i64 0, .int .i64 0, .int .i64 0, .int .i64 0, .int .i64 0, .int .i64 0, .int .i64 0, .int .i64 0, .int .i64 0, .int .i64 0, .int .i64 0, .int .i64 0, .int .i64 0, .int .i64 0, .int .i64 0, .int .i64 0] 3)) := by kernel_rfl
theorem new_ints (w : World) (l : List Int) (t : TypeId) : ∀ i, i < l.length → (w.alloc (.cells (l.map (Value.int .i64)).toArray t)).cell? ⟨w.heap.size, 0 + i, none⟩ = some (.int .i64 (Globe.nth l i)) := by
  intro i hi
  rw [Nat.zero_add]
  rw [cell_of_row _ _ i _ t (0, 0) (heap_alloc_new w _)]
  simp [Globe.nth, hi]
end Go.Proofs.YtajdohcgjgknmaaGreatDoor

namespace Go.Proofs.YtajdohcgjgknmaaGreatDoor
open Go.RowKit
theorem and_i64 (a b : Nat) (ha : a < 4611686018427387904) (hb : b < 4611686018427387904) : bits .and .i64 (a : Int) (b : Int) = ((a &&& b : Nat) : Int) :=
  (bits_nat .i64 62 (by decide) (fun n h1 h2 => by rw [IntKind.wrap_i64]; omega) a b (by omega) (by omega)).1
theorem or_i64 (a b : Nat) (ha : a < 4611686018427387904) (hb : b < 4611686018427387904) : bits .or .i64 (a : Int) (b : Int) = ((a ||| b : Nat) : Int) :=
  (bits_nat .i64 62 (by decide) (fun n h1 h2 => by rw [IntKind.wrap_i64]; omega) a b (by omega) (by omega)).2
theorem testBit_div (R x : Nat) : R / 2 ^ x % 2 = if R.testBit x then 1 else 0 := by
  rw [← Nat.shiftRight_eq_div_pow, Nat.testBit, Nat.one_and_eq_mod_two]
  have h2 : (R >>> x) % 2 < 2 := Nat.mod_lt _ (by decide)
  by_cases h : (R >>> x) % 2 = 0
  · rw [h]; rfl
  · have h1 : (R >>> x) % 2 = 1 := by omega
    rw [h1]; rfl
theorem div_pow_cast (R x : Nat) : (R : Int) / 2 ^ x = ((R / 2 ^ x : Nat) : Int) := by simp
theorem bit_and1 (R x : Nat) (h : R < 4611686018427387904) : bits .and .i64 ((R : Int) / 2 ^ x) 1 = if R.testBit x then 1 else 0 := by
  rw [div_pow_cast, show (1 : Int) = ((1 : Nat) : Int) from rfl, and_i64 _ _ (Nat.lt_of_le_of_lt (Nat.div_le_self _ _) h) (by decide), Nat.and_one_is_mod, testBit_div]
  split <;> rfl
end Go.Proofs.YtajdohcgjgknmaaGreatDoor

namespace Go.Proofs.YtajdohcgjgknmaaGreatDoor
namespace Globe
def bitsN (R : Nat) : List Nat := (List.range 48).filter fun x => R.testBit x
theorem bitsN_zero : bitsN 0 = [] := by simp [bitsN]
theorem lowest (R : Nat) (h0 : R ≠ 0) (h : R < 2 ^ 64) : ∃ m, R = 2 ^ Lib.ctz 64 R * (2 * m + 1) ∧ R &&& (R - 1) = 2 ^ (Lib.ctz 64 R + 1) * m := by
  obtain ⟨m, hm, _⟩ := Lib.ctzFrom_spec 64 R (by omega) h
  have e : Lib.ctz 64 R = Lib.ctzFrom 64 R := by simp [Lib.ctz, h0]
  rw [e]
  generalize Lib.ctzFrom 64 R = k at hm ⊢
  refine ⟨m, hm, ?_⟩
  have hp : 0 < 2 ^ k := Nat.two_pow_pos k
  have h1 : R = 2 ^ (k + 1) * m + 2 ^ k := by rw [hm, Nat.pow_succ, Nat.mul_add, Nat.mul_one, Nat.mul_assoc]
  have h2 : R - 1 = 2 ^ (k + 1) * m + (2 ^ k - 1) := by omega
  have l1 : 2 ^ k < 2 ^ (k + 1) := by rw [Nat.pow_succ]; omega
  apply Nat.eq_of_testBit_eq
  intro j
  rw [h2, Nat.testBit_and, h1, Nat.testBit_two_pow_mul_add _ l1, Nat.testBit_two_pow_mul_add _ (by omega)]
  rw [Nat.testBit_two_pow_mul]
  by_cases hj : j < k + 1
  · simp only [hj, if_true, Nat.testBit_two_pow, Nat.testBit_two_pow_sub_one]
    rw [show decide (j ≥ k + 1) = false by simp; omega]
    by_cases e : k = j
    · subst e; simp
    · simp [e]
  · simp only [hj, if_false]
    rw [show decide (j ≥ k + 1) = true by simp; omega]
    simp
theorem testBit_ctz (R : Nat) (h0 : R ≠ 0) (h : R < 2 ^ 64) : R.testBit (Lib.ctz 64 R) = true ∧ (∀ j, j < Lib.ctz 64 R → R.testBit j = false) ∧ ∀ j, (R &&& (R - 1)).testBit j = (R.testBit j && decide (j ≠ Lib.ctz 64 R)) := by
  obtain ⟨m, hm, ha⟩ := lowest R h0 h
  generalize Lib.ctz 64 R = k at *
  have h1 : R = 2 ^ (k + 1) * m + 2 ^ k := by rw [hm, Nat.pow_succ, Nat.mul_add, Nat.mul_one, Nat.mul_assoc]
  have l1 : 2 ^ k < 2 ^ (k + 1) := by rw [Nat.pow_succ]; have := Nat.two_pow_pos k; omega
  have tb : ∀ j, R.testBit j = if j < k + 1 then decide (k = j) else m.testBit (j - (k + 1)) := by
    intro j
    rw [h1, Nat.testBit_two_pow_mul_add _ l1, Nat.testBit_two_pow]
  refine ⟨by rw [tb]; simp, fun j hj => by rw [tb, if_pos (by omega)]; simp; omega, fun j => ?_⟩
  rw [ha, tb, Nat.testBit_two_pow_mul]
  by_cases hj : j < k + 1
  · rw [if_pos hj, show decide (j ≥ k + 1) = false by simp; omega]
    by_cases e : k = j
    · subst e; simp
    · simp [e]
  · rw [if_neg hj, show decide (j ≥ k + 1) = true by simp; omega, show decide (j ≠ k) = true by simp; omega]
    simp
theorem ctz_lt (R : Nat) (h0 : R ≠ 0) (h : R < 2 ^ 48) : Lib.ctz 64 R < 48 := by
  have h64 : R < 2 ^ 64 := by omega
  obtain ⟨t, _⟩ := testBit_ctz R h0 h64
  apply Nat.lt_of_not_le
  intro hle
  have : R < 2 ^ Lib.ctz 64 R := Nat.lt_of_lt_of_le h (Nat.pow_le_pow_right (by decide) hle)
  rw [Nat.testBit_lt_two_pow this] at t
  cases t
theorem bitsN_step (R : Nat) (h0 : R ≠ 0) (h : R < 2 ^ 48) : bitsN R = Lib.ctz 64 R :: bitsN (R &&& (R - 1)) := by
  have h64 : R < 2 ^ 64 := by omega
  obtain ⟨t, tl, ta⟩ := testBit_ctz R h0 h64
  have hk := ctz_lt R h0 h
  generalize Lib.ctz 64 R = k at *
  unfold bitsN
  obtain ⟨r, hr⟩ : ∃ r, 48 = k + (1 + r) := ⟨47 - k, by omega⟩
  rw [hr, List.range_add, List.range_add, List.filter_append, List.filter_append, List.map_append, List.filter_append, List.filter_append]
  have e1 : (List.range k).filter (fun x => R.testBit x) = [] := List.filter_eq_nil_iff.2 fun j hj => by rw [tl j (List.mem_range.1 hj)]; simp
  have e2 : (List.range k).filter (fun x => (R &&& (R - 1)).testBit x) = [] := List.filter_eq_nil_iff.2 fun j hj => by rw [ta, tl j (List.mem_range.1 hj)]; simp
  have e3 : (List.map (fun x => k + x) (List.range 1)).filter (fun x => R.testBit x) = [k] := by simp [List.range_succ, t]
  have e4 : (List.map (fun x => k + x) (List.range 1)).filter (fun x => (R &&& (R - 1)).testBit x) = [] := by simp [List.range_succ, ta]
  rw [e1, e2, e3, e4]
  simp only [List.nil_append, List.singleton_append, List.cons.injEq, true_and]
  refine List.filter_congr fun j hj => ?_
  rw [ta]
  simp only [List.map_map, List.mem_map, List.mem_range, Function.comp] at hj
  obtain ⟨i, _, rfl⟩ := hj
  rw [show decide (k + (1 + i) ≠ k) = true by simp, Bool.and_true]
theorem and_pred_lt (R : Nat) (h : R < 2 ^ 48) : R &&& (R - 1) < 2 ^ 48 := Nat.and_lt_two_pow _ (by omega)
theorem and_pred_less (R : Nat) (h0 : R ≠ 0) : R &&& (R - 1) < R := by
  have : R &&& (R - 1) ≤ R - 1 := Nat.and_le_right
  omega
def rowCells (l : List Int) (j : Nat) : List (Nat × Nat) := (bitsN (nth l j).toNat).map fun x => (x, j)
def cellsTo (l : List Int) (y : Nat) : List (Nat × Nat) := (List.range y).flatMap (rowCells l)
theorem cellsTo_succ (l : List Int) (y : Nat) : cellsTo l (y + 1) = cellsTo l y ++ rowCells l y := by simp [cellsTo, List.range_succ]
theorem bitsN_len (R : Nat) : (bitsN R).length ≤ 48 := by
  unfold bitsN
  exact Nat.le_trans (List.length_filter_le _ _) (by simp)
theorem cellsTo_len (l : List Int) : ∀ y, (cellsTo l y).length ≤ 48 * y
  | 0 => by simp [cellsTo]
  | y + 1 => by
    rw [cellsTo_succ, List.length_append]
    have := cellsTo_len l y
    have h2 : (rowCells l y).length ≤ 48 := by unfold rowCells; rw [List.length_map]; exact bitsN_len _
    omega
theorem cellsTo_pre (l : List Int) {y n : Nat} (h : y ≤ n) : cellsTo l y <+: cellsTo l n := by
  obtain ⟨r, rfl⟩ : ∃ r, n = y + r := ⟨n - y, by omega⟩
  unfold cellsTo
  rw [List.range_add, List.flatMap_append]
  exact List.prefix_append _ _
theorem cells_mid {l : List Int} {y x : Nat} {done rest : List (Nat × Nat)} (hy : y < 24) (h : done ++ (x, y) :: rest = rowCells l y) :
    (cellsTo l y ++ done).length < (cellsTo l 24).length ∧ cellsTo l y ++ done ++ [(x, y)] <+: cellsTo l 24 := by
  have hp := cellsTo_pre l (show y + 1 ≤ 24 by omega)
  rw [cellsTo_succ, ← h] at hp
  refine ⟨?_, ?_⟩
  · have := hp.length_le
    simp only [List.length_append, List.length_cons] at this ⊢
    omega
  · refine List.IsPrefix.trans ?_ hp
    exact ⟨rest, by simp⟩
def cellsL (l : List Int) : List (Nat × Nat) := if validL l then cellsTo l 24 else []
def countL (l : List Int) : Nat := (cellsL l).length
end Globe
end Go.Proofs.YtajdohcgjgknmaaGreatDoor

namespace Go.Proofs.YtajdohcgjgknmaaGreatDoor
namespace Globe
def hasL (l : List Int) (x y : Nat) : Bool := (nth l y).toNat.testBit x
def putL (l : List Int) (x y : Nat) : List Int := l.set y (((nth l y).toNat ||| 2 ^ x : Nat) : Int)
def zeroL : List Int := List.replicate 24 0
theorem nth_set {l : List Int} {y : Nat} {v : Int} (j : Nat) (h : y < l.length) : nth (l.set y v) j = if y = j then v else nth l j := by
  unfold nth
  rw [List.getElem?_set]
  by_cases e : y = j
  · subst e; simp [h]
  · simp [e]
theorem nth_zero (j : Nat) : nth zeroL j = 0 := by
  unfold nth zeroL
  rw [List.getElem?_replicate]; split <;> rfl
theorem has_zero (x y : Nat) : hasL zeroL x y = false := by unfold hasL; rw [nth_zero]; simp
theorem valid_zero : validL zeroL = true := by decide +kernel
theorem len_of_valid {l : List Int} (h : validL l = true) : l.length = 24 := (validL_t.1 h).1
theorem row_of_valid {l : List Int} (h : validL l = true) (y : Nat) : 0 ≤ nth l y ∧ nth l y ≤ 281474976710655 := by
  by_cases hy : y < l.length
  · exact (validL_t.1 h).2 _ (nth_mem hy)
  · rw [nth_ge (by omega)]; omega
theorem valid_set {l : List Int} (h : validL l = true) {y : Nat} {v : Int} (h0 : 0 ≤ v) (h1 : v ≤ 281474976710655) : validL (l.set y v) = true := by
  rw [validL_t] at h ⊢
  refine ⟨by simp [h.1], fun r hr => ?_⟩
  rcases List.mem_or_eq_of_mem_set hr with hr | rfl
  · exact h.2 r hr
  · exact ⟨h0, h1⟩
theorem or_lt {R x : Nat} (h : R < 281474976710656) (hx : x < 48) : R ||| 2 ^ x < 281474976710656 :=
  Nat.or_lt_two_pow (n := 48) h (Nat.pow_lt_pow_right (by decide) hx)
theorem valid_put {l : List Int} (h : validL l = true) {x y : Nat} (hx : x < 48) : validL (putL l x y) = true := by
  obtain ⟨h0, h1⟩ := row_of_valid h y
  have := @or_lt (nth l y).toNat x (by omega) hx
  exact valid_set h (by omega) (by omega)
theorem ext_has {a b : List Int} (ha : validL a = true) (hb : validL b = true) (h : ∀ x y, x < 48 → y < 24 → hasL a x y = hasL b x y) : a = b := by
  refine ext_nth (by rw [len_of_valid ha, len_of_valid hb]) fun y hy => ?_
  rw [len_of_valid ha] at hy
  obtain ⟨a0, a1⟩ := row_of_valid ha y
  obtain ⟨b0, b1⟩ := row_of_valid hb y
  have : (nth a y).toNat = (nth b y).toNat := Nat.eq_of_testBit_eq fun x => by
    by_cases hx : x < 48
    · exact h x y hx hy
    · rw [Nat.testBit_lt_two_pow, Nat.testBit_lt_two_pow]
      · exact Nat.lt_of_lt_of_le (show (nth b y).toNat < 2 ^ 48 by omega) (Nat.pow_le_pow_right (by decide) (by omega))
      · exact Nat.lt_of_lt_of_le (show (nth a y).toNat < 2 ^ 48 by omega) (Nat.pow_le_pow_right (by decide) (by omega))
  omega
theorem mem_cells {l : List Int} {n : Nat} {p : Nat × Nat} : p ∈ cellsTo l n ↔ p.2 < n ∧ p.1 < 48 ∧ hasL l p.1 p.2 = true := by
  obtain ⟨x, y⟩ := p
  simp only [cellsTo, rowCells, List.mem_flatMap, List.mem_range, List.mem_map, bitsN, List.mem_filter, hasL, Prod.mk.injEq]
  constructor
  · rintro ⟨y', hy, x', ⟨hx, ht⟩, rfl, rfl⟩; exact ⟨hy, hx, ht⟩
  · rintro ⟨hy, hx, ht⟩; exact ⟨y, hy, x, ⟨hx, ht⟩, rfl, rfl⟩
end Globe
end Go.Proofs.YtajdohcgjgknmaaGreatDoor

namespace Go.Proofs.YtajdohcgjgknmaaGreatDoor
open Go.RowKit
def RowsAt (w : World) (B : Nat) (L : List Int) : Prop := L.length = 24 ∧ (∀ i, i < 24 → w.cell? ⟨B, i, none⟩ = some (.int .i64 (Globe.nth L i))) ∧ ∀ i, i < 24 → w.frozen? ⟨B, i, none⟩ = false
theorem RowsAt.len {w : World} {B : Nat} {L : List Int} (h : RowsAt w B L) : L.length = 24 := h.1
theorem RowsAt.cell {w : World} {B : Nat} {L : List Int} (h : RowsAt w B L) {i : Nat} (hi : i < 24) : w.cell? ⟨B, i, none⟩ = some (.int .i64 (Globe.nth L i)) := h.2.1 i hi
theorem RowsAt.free {w : World} {B : Nat} {L : List Int} (h : RowsAt w B L) {i : Nat} (hi : i < 24) : w.frozen? ⟨B, i, none⟩ = false := h.2.2 i hi
theorem RowsAt.ext {w w' : World} {B : Nat} {L : List Int} (h : RowsAt w B L) (hE : Ext w w') : RowsAt w' B L :=
  ⟨h.1, fun _ hi => hE.cell (h.cell hi), fun _ hi => hE.free (h.cell hi) (h.free hi)⟩
theorem RowsAt.lt {w : World} {B : Nat} {L : List Int} (h : RowsAt w B L) : B < w.heap.size := World.block_lt_of_cell? w _ (h.cell (i := 0) (by omega))
theorem RowsAt.set {w : World} {B : Nat} {L : List Int} (h : RowsAt w B L) {y : Nat} (hy : y < 24) (v : Int) : RowsAt (w.setCell ⟨B, y, none⟩ (.int .i64 v)) B (L.set y v) := by
  refine ⟨by rw [List.length_set]; exact h.1, fun i hi => ?_, fun i hi => ?_⟩
  · rw [Globe.nth_set _ (by rw [h.1]; exact hy)]
    by_cases e : y = i
    · subst e; rw [if_pos rfl]; have := h.cell hy; simp [go_sem, this]
    · rw [if_neg e, ← h.cell hi]
      exact World.cell?_setCell_other w _ _ _ (by intro c; exact e (congrArg Addr.off c))
  · have := h.free hi; simpa [go_sem] using this
theorem RowsAt.ints {w : World} {B : Nat} {L : List Int} (h : RowsAt w B L) : ∀ i, i < L.length → w.cell? ⟨B, 0 + i, none⟩ = some (.int .i64 (Globe.nth L i)) := fun i hi => by
  rw [Nat.zero_add]; exact h.cell (by rw [← h.1]; exact hi)
theorem RowsAt.new (w : World) (L : List Int) (t : TypeId) (hl : L.length = 24) : RowsAt (w.alloc (.cells (L.map (Value.int .i64)).toArray t)) w.heap.size L := by
  refine ⟨hl, fun i hi => ?_, fun i hi => by simp [go_sem]⟩
  have := new_ints w L t i (by omega)
  rwa [Nat.zero_add] at this
end Go.Proofs.YtajdohcgjgknmaaGreatDoor

namespace Go.Proofs.YtajdohcgjgknmaaGreatDoor
namespace Globe
def rowsF (f : Nat → Nat) : List Int := (List.range 24).map fun y => ((f y : Nat) : Int)
theorem rowsF_len (f : Nat → Nat) : (rowsF f).length = 24 := by simp [rowsF]
theorem nth_rowsF (f : Nat → Nat) {y : Nat} (h : y < 24) : nth (rowsF f) y = ((f y : Nat) : Int) := by
  rw [nth_lt (by rw [rowsF_len]; exact h)]; simp [rowsF]
theorem rowsF_valid {f : Nat → Nat} (h : ∀ y, y < 24 → f y < 281474976710656) : validL (rowsF f) = true := by
  rw [validL_t]
  refine ⟨rowsF_len f, fun r hr => ?_⟩
  simp only [rowsF, List.mem_map, List.mem_range] at hr
  obtain ⟨y, hy, rfl⟩ := hr
  have := h y hy
  omega
theorem has_rowsF (f : Nat → Nat) {x y : Nat} (h : y < 24) : hasL (rowsF f) x y = (f y).testBit x := by
  unfold hasL; rw [nth_rowsF f h]; simp
def partL (L : List Int) (y : Nat) : List Int := L.take y ++ List.replicate (24 - y) 0
theorem partL_zero (L : List Int) : partL L 0 = zeroL := by simp [partL, zeroL]
theorem partL_all {L : List Int} (h : L.length = 24) : partL L 24 = L := by simp [partL]; rw [← h, List.take_length]
theorem partL_len {L : List Int} (h : L.length = 24) {y : Nat} (hy : y ≤ 24) : (partL L y).length = 24 := by
  unfold partL; rw [List.length_append, List.length_take, List.length_replicate]; omega
theorem nth_partL {L : List Int} (h : L.length = 24) {y j : Nat} (hy : y ≤ 24) (_hj : j < 24) : nth (partL L y) j = if j < y then nth L j else 0 := by
  unfold nth partL
  rw [List.getElem?_append, List.length_take, Nat.min_eq_left (by omega)]
  by_cases e : j < y
  · rw [if_pos e, if_pos e, List.getElem?_take_of_lt e]
  · rw [if_neg e, if_neg e, List.getElem?_replicate]; split <;> rfl
theorem partL_succ {L : List Int} (h : L.length = 24) {y : Nat} (hy : y < 24) : (partL L y).set y (nth L y) = partL L (y + 1) := by
  refine ext_nth (by rw [List.length_set, partL_len h (by omega), partL_len h (by omega)]) fun j hj => ?_
  rw [List.length_set, partL_len h (by omega)] at hj
  rw [nth_set _ (by rw [partL_len h (by omega)]; exact hy), nth_partL h (by omega) hj, nth_partL h (by omega) hj]
  by_cases e : y = j
  · subst e; rw [if_pos rfl, if_pos (by omega)]
  · rw [if_neg e]
    by_cases e2 : j < y
    · rw [if_pos e2, if_pos (by omega)]
    · rw [if_neg e2, if_neg (by omega)]
def rowN (l : List Int) (y : Nat) : Nat := (nth l y).toNat
theorem rowN_lt {l : List Int} (h : validL l = true) (y : Nat) : rowN l y < 281474976710656 := by
  have := row_of_valid h y; unfold rowN; omega
theorem rowN_cast {l : List Int} (h : validL l = true) (y : Nat) : nth l y = (rowN l y : Int) := by
  have := row_of_valid h y; unfold rowN; omega
theorem rowN_bit (l : List Int) (x y : Nat) : (rowN l y).testBit x = hasL l x y := rfl
def unionL (a b : List Int) : List Int := rowsF fun y => rowN a y ||| rowN b y
def meetL (a b : List Int) : List Int := rowsF fun y => rowN a y &&& rowN b y
def lessN (p q : Nat) : Nat := p ^^^ (p &&& q)
theorem lessN_bit (p q x : Nat) : (lessN p q).testBit x = (p.testBit x && !q.testBit x) := by
  unfold lessN
  rw [Nat.testBit_xor, Nat.testBit_and]
  cases p.testBit x <;> cases q.testBit x <;> rfl
theorem lessN_lt {p q : Nat} (h : p < 281474976710656) : lessN p q < 281474976710656 :=
  Nat.xor_lt_two_pow (n := 48) h (Nat.lt_of_le_of_lt Nat.and_le_left h)
def lessL (a b : List Int) : List Int := rowsF fun y => lessN (rowN a y) (rowN b y)
theorem union_valid {a b : List Int} (ha : validL a = true) (hb : validL b = true) : validL (unionL a b) = true :=
  rowsF_valid fun y _ => Nat.or_lt_two_pow (n := 48) (rowN_lt ha y) (rowN_lt hb y)
theorem meet_valid {a b : List Int} (ha : validL a = true) : validL (meetL a b) = true :=
  rowsF_valid fun y _ => Nat.lt_of_le_of_lt Nat.and_le_left (rowN_lt ha y)
theorem less_valid {a b : List Int} (ha : validL a = true) : validL (lessL a b) = true := rowsF_valid fun y _ => lessN_lt (rowN_lt ha y)
theorem has_union {a b : List Int} {x y : Nat} (h : y < 24) : hasL (unionL a b) x y = (hasL a x y || hasL b x y) := by
  unfold unionL; rw [has_rowsF _ h, Nat.testBit_or, rowN_bit, rowN_bit]
theorem has_meet {a b : List Int} {x y : Nat} (h : y < 24) : hasL (meetL a b) x y = (hasL a x y && hasL b x y) := by
  unfold meetL; rw [has_rowsF _ h, Nat.testBit_and, rowN_bit, rowN_bit]
theorem has_less {a b : List Int} {x y : Nat} (h : y < 24) : hasL (lessL a b) x y = (hasL a x y && !hasL b x y) := by
  unfold lessL; rw [has_rowsF _ h, lessN_bit, rowN_bit, rowN_bit]
end Globe
end Go.Proofs.YtajdohcgjgknmaaGreatDoor

namespace Go.Proofs.YtajdohcgjgknmaaGreatDoor
open Go.RowKit
def RetA (w : World) (L : List Int) (e : Ending) (w' : World) : Prop :=
  ∃ B : Nat, e = .returned (.agg #[.slice (some ⟨B, 0, none⟩) 24 24]) ∧ w.heap.size ≤ B ∧ RowsAt w' B L ∧ Ext w w'
def RetAE (w : World) (L : List Int) (e : Ending) (w' : World) : Prop :=
  ∃ B : Nat, e = .returned (.tuple #[.agg #[.slice (some ⟨B, 0, none⟩) 24 24], .int .i64 0]) ∧ w.heap.size ≤ B ∧ RowsAt w' B L ∧ Ext w w'
def RetErr (w : World) (c : Int) (e : Ending) (w' : World) : Prop := e = .returned (.tuple #[.agg #[.slice none 0 0], .int .i64 c]) ∧ Ext w w'
def orL (ok : Bool) (L : List Int) : List Int := if ok then L else []
def orE (ok : Bool) (c : Int) : Int := if ok then 0 else c
def RetAny (w : World) (ok : Bool) (L : List Int) (c : Int) (e : Ending) (w' : World) : Prop :=
  ∃ (a : Option Addr) (k : Nat), e = .returned (.tuple #[.agg #[.slice a (orL ok L).length k], .int .i64 (orE ok c)]) ∧ IntsAt w' a (orL ok L) ∧ Ext w w' ∧ ∀ ad, a = some ad → w.heap.size ≤ ad.block ∧ ad.block < w'.heap.size
theorem RetAny.yes {w : World} {L : List Int} {c : Int} {e : Ending} {w' : World} (h : RetAE w L e w') : RetAny w true L c e w' := by
  obtain ⟨B, rfl, hB, hr, hE⟩ := h
  exact ⟨some ⟨B, 0, none⟩, 24, by show _ = Ending.returned (.tuple #[.agg #[.slice _ L.length _], _]); rw [hr.len]; rfl, .inr ⟨B, 0, rfl, hr.ints⟩, hE, fun ad e => by cases e; exact ⟨hB, hr.lt⟩⟩
theorem RetAny.no {w : World} {L : List Int} {c : Int} {e : Ending} {w' : World} (h : RetErr w c e w') : RetAny w false L c e w' := by
  obtain ⟨rfl, hE⟩ := h
  exact ⟨none, 0, rfl, .inl rfl, hE, fun ad e => by cases e⟩
theorem RowsAt.any {w : World} {B : Nat} {L : List Int} (h : RowsAt w B L) : IntsAt w (some ⟨B, 0, none⟩) L := .inr ⟨B, 0, rfl, h.ints⟩
theorem IntsAt.rows {w : World} {a : Option Addr} {l : List Int} (h : IntsAt w a l) (hl : l.length = 24) : ∃ b off, a = some ⟨b, off, none⟩ ∧ ∀ i, i < 24 → w.cell? ⟨b, off + i, none⟩ = some (.int .i64 (Globe.nth l i)) := by
  rcases h with rfl | ⟨b, off, rfl, h⟩
  · simp at hl
  · exact ⟨b, off, rfl, fun i hi => h i (by omega)⟩
theorem IntsAt.lt {w : World} {b off : Nat} {l : List Int} (h : ∀ i, i < 24 → w.cell? ⟨b, off + i, none⟩ = some (.int .i64 (Globe.nth l i))) : b < w.heap.size := World.block_lt_of_cell? w _ (h 0 (by omega))
theorem RowsAt.keep {w w' : World} {B : Nat} {L : List Int} (h : RowsAt w B L) (hc : ∀ o, w'.cell? ⟨B, o, none⟩ = w.cell? ⟨B, o, none⟩) (hf : ∀ o, w'.frozen? ⟨B, o, none⟩ = w.frozen? ⟨B, o, none⟩) : RowsAt w' B L :=
  ⟨h.1, fun i hi => by rw [hc]; exact h.cell hi, fun i hi => by rw [hf]; exact h.free hi⟩
theorem RowsAt.other {w : World} {B : Nat} {L : List Int} (h : RowsAt w B L) {p : Addr} (hp : p.block ≠ B) (v : Value) : RowsAt (w.setCell p v) B L :=
  h.keep (fun o => World.cell?_setCell_other w _ _ _ (fun e => hp (by rw [e]))) (fun o => by simp [go_sem])
def BoxAt (w : World) (b o : Nat) (v : Value) : Prop := w.cell? ⟨b, o, none⟩ = some v ∧ w.frozen? ⟨b, o, none⟩ = false
theorem BoxAt.ext {w w' : World} {b o : Nat} {v : Value} (hE : Ext w w') (h : BoxAt w b o v) : BoxAt w' b o v := ⟨hE.cell h.1, hE.free h.1 h.2⟩
theorem BoxAt.lt {w : World} {b o : Nat} {v : Value} (h : BoxAt w b o v) : b < w.heap.size := World.block_lt_of_cell? w _ h.1
theorem BoxAt.other {w : World} {b o : Nat} {v : Value} (h : BoxAt w b o v) {p : Addr} (hp : p.block ≠ b) (u : Value) : BoxAt (w.setCell p u) b o v :=
  ⟨by rw [World.cell?_setCell_other w _ _ _ (fun e => hp (by rw [e]))]; exact h.1, by simp [go_sem, h.2]⟩
theorem BoxAt.drew {w : World} {b o : Nat} {v : Value} (h : BoxAt w b o v) : BoxAt w.drew b o v := ⟨h.1, h.2⟩
theorem BoxAt.drewN {w : World} {b o : Nat} {v : Value} (h : BoxAt w b o v) (n : Nat) : BoxAt (w.drewN n) b o v := ⟨h.1, h.2⟩
theorem RowsAt.drewN {w : World} {B : Nat} {L : List Int} (h : RowsAt w B L) (n : Nat) : RowsAt (w.drewN n) B L := ⟨h.1, fun _ hi => h.cell hi, fun _ hi => h.free hi⟩
theorem RowsAt.drew {w : World} {B : Nat} {L : List Int} (h : RowsAt w B L) : RowsAt w.drew B L := ⟨h.1, fun _ hi => h.cell hi, fun _ hi => h.free hi⟩
def AA (w : World) (a : Option Addr) (l : List Int) (n : Nat) (v : Bool) : Prop := IntsAt w a l ∧ l.length = n ∧ n ≤ 140737488355328 ∧ Globe.validL l = v
def VA (w : World) (b o : Nat) (l : List Int) : Prop := (∀ i, i < 24 → w.cell? ⟨b, o + i, none⟩ = some (.int .i64 (Globe.nth l i))) ∧ Globe.validL l = true
theorem AA.ext {w w' : World} {a : Option Addr} {l : List Int} {n : Nat} {v : Bool} (h : AA w a l n v) (hE : Ext w w') : AA w' a l n v := ⟨h.1.ext hE, h.2⟩
theorem VA.ext {w w' : World} {b o : Nat} {l : List Int} (h : VA w b o l) (hE : Ext w w') : VA w' b o l := ⟨fun i hi => hE.cell (h.1 i hi), h.2⟩
theorem VA.lt {w : World} {b o : Nat} {l : List Int} (h : VA w b o l) : b < w.heap.size := IntsAt.lt h.1
theorem VA.len {w : World} {b o : Nat} {l : List Int} (h : VA w b o l) : l.length = 24 := Globe.len_of_valid h.2
theorem VA.cell {w : World} {b o : Nat} {l : List Int} (h : VA w b o l) {y : Nat} (hy : y < 24) : w.cell? ⟨b, o + y, none⟩ = some (.int .i64 (Globe.rowN l y : Nat)) := by rw [← Globe.rowN_cast h.2]; exact h.1 y hy
theorem VA.aa {w : World} {b o : Nat} {l : List Int} (h : VA w b o l) : AA w (some ⟨b, o, none⟩) l 24 true :=
  ⟨.inr ⟨b, o, rfl, fun i hi => h.1 i (by rw [← h.len]; exact hi)⟩, h.len, by omega, h.2⟩
theorem AA.va {w : World} {a : Option Addr} {l : List Int} {n : Nat} (h : AA w a l n true) : ∃ b o, a = some ⟨b, o, none⟩ ∧ n = 24 ∧ VA w b o l := by
  have hl := Globe.len_of_valid h.2.2.2
  obtain ⟨b, o, rfl, hr⟩ := h.1.rows hl
  exact ⟨b, o, rfl, by rw [← h.2.1]; exact hl, hr, h.2.2.2⟩
theorem RowsAt.va {w : World} {B : Nat} {L : List Int} (h : RowsAt w B L) (hv : Globe.validL L = true) : VA w B 0 L := ⟨fun i hi => by rw [Nat.zero_add]; exact h.cell hi, hv⟩
def RetV (w : World) (L : List Int) (e : Ending) (w' : World) : Prop :=
  ∃ B k : Nat, e = .returned (.tuple #[.agg #[.slice (some ⟨B, 0, none⟩) 24 k], .int .i64 0]) ∧ w.heap.size ≤ B ∧ RowsAt w' B L ∧ VA w' B 0 L ∧ Ext w w'
theorem RetAE.v {w : World} {L : List Int} {e : Ending} {w' : World} (h : RetAE w L e w') (hv : Globe.validL L = true) : RetV w L e w' := by
  obtain ⟨B, rfl, hB, hr, hE⟩ := h
  exact ⟨B, 24, rfl, hB, hr, hr.va hv, hE⟩
theorem RetV.any {w : World} {L : List Int} {c : Int} {e : Ending} {w' : World} (h : RetV w L e w') : RetAny w true L c e w' := by
  obtain ⟨B, k, rfl, hB, hr, hv, hE⟩ := h
  exact ⟨some ⟨B, 0, none⟩, k, by show _ = Ending.returned (.tuple #[.agg #[.slice _ L.length _], _]); rw [hr.len]; rfl, .inr ⟨B, 0, rfl, hr.ints⟩, hE, fun ad e => by cases e; exact ⟨hB, hr.lt⟩⟩
end Go.Proofs.YtajdohcgjgknmaaGreatDoor

namespace Go.Proofs.YtajdohcgjgknmaaGreatDoor
open Go.RowKit
def look : List (Nat × Value) → (Nat → Value) → Nat → Value
  | [], f, k => f k
  | (d, v) :: ws, f, k => if k = d then v else look ws f k
theorem look_nil (f : Nat → Value) (k : Nat) : look [] f k = f k := rfl
theorem look_cons (d : Nat) (v : Value) (ws : List (Nat × Value)) (f : Nat → Value) (k : Nat) : look ((d, v) :: ws) f k = if k = d then v else look ws f k := rfl
def base (L : List Value) (t : Nat) : Value := L.toArray.getD t undef
def evalW (L : List Value) (ws : List (Nat × Value)) : Operand → Value
  | .tmp t => look ws (base L) t
  | o => Act.eval ⟨#[], []⟩ o
theorem evalW_tmp (L : List Value) (ws : List (Nat × Value)) (t : Nat) : evalW L ws (.tmp t) = look ws (base L) t := rfl
theorem evalW_const (L : List Value) (ws : List (Nat × Value)) (v : Value) : evalW L ws (.const v) = v := rfl
theorem evalW_func (L : List Value) (ws : List (Nat × Value)) (f : FuncId) : evalW L ws (.func f) = .func (.func f) #[] #[] := rfl
def setAll (L : List Value) : List (Nat × Value) → List Value
  | [] => L
  | (d, v) :: ws => (setAll L ws).set d v
theorem setAll_len (L : List Value) : ∀ ws, (setAll L ws).length = L.length
  | [] => rfl
  | (d, v) :: ws => by rw [setAll, List.length_set, setAll_len L ws]
theorem setAll_get (L : List Value) : ∀ ws : List (Nat × Value), (∀ p ∈ ws, p.1 < L.length) → ∀ t, (setAll L ws).toArray.getD t undef = look ws (base L) t
  | [], _, t => rfl
  | (d, v) :: ws, h, t => by
    have ih := setAll_get L ws (fun p hp => h p (List.mem_cons_of_mem _ hp)) t
    have hd : d < (setAll L ws).length := by rw [setAll_len]; exact h (d, v) (by simp)
    rw [look_cons, ← ih, setAll]
    by_cases e : t = d
    · subst e; simp [hd]
    · have e' : d ≠ t := fun c => e c.symm
      simp [e, List.getElem?_set_ne e']
def lset (m : Nat) : List Nat → Array Bool
  | [] => Array.replicate m false
  | i :: r => (lset m r).setIfInBounds i true
theorem lset_size (m : Nat) : ∀ l, (lset m l).size = m
  | [] => by simp [lset]
  | i :: r => by simp [lset, lset_size m r]
theorem lset_get (m : Nat) (b : Bool) : ∀ (l : List Nat) (j : Nat), (lset m l).getD j b = if j < m then l.contains j else b
  | [], j => by by_cases h : j < m <;> simp [lset, h]
  | i :: r, j => by
    have ih := lset_get m b r j
    have hs := lset_size m r
    by_cases h : j < m
    · rw [if_pos h] at ih ⊢
      by_cases e : i = j
      · subst e; simp [lset, hs, h]
      · have e2 : j ≠ i := fun c => e c.symm
        simp only [lset, Array.getD_eq_getD_getElem?, Array.getElem?_setIfInBounds_ne e, List.contains_cons] at ih ⊢
        rw [ih]
        have : (j == i) = false := by simp [e2]
        rw [this, Bool.false_or]
    · rw [if_neg h] at ih ⊢
      have h1 : m ≤ j := by omega
      simp [lset, hs, h1]
abbrev Row := Option Nat × List Nat × List Nat
def waits (o : Oper) : List Nat := (o.after.toList.filter (Region.binds .any)).map (·.on)
def rowOf (ops : Array Oper) (o : Oper) : Row := (o.dst, o.looksAt ops, waits o)
def tableR (ops : Array Oper) : List Row := ops.toList.map (rowOf ops)
def ordered (x y : Row × Nat) : Bool := x.1.2.2.contains y.2 || y.1.2.2.contains x.2
def fits (x y : Row × Nat) : Bool :=
  (match x.1.1 with
   | some d => (!(y.1.2.1.contains d) || ordered x y) && (!(y.1.1 == some d) || ordered x y)
   | none => true) &&
  (match y.1.1 with
   | some d => !(x.1.2.1.contains d) || ordered x y
   | none => true)
def fitsAll (x : Row × Nat) : List (Row × Nat) → Bool
  | [] => true
  | y :: r => fits x y && fitsAll x r
def goodL : List (Row × Nat) → Bool
  | [] => true
  | x :: r => fitsAll x r && goodL r
def numbered : List Row → Nat → List (Row × Nat)
  | [], _ => []
  | x :: r, k => (x, k) :: numbered r (k + 1)
def inRB (n : Nat) : List Row → Bool
  | [] => true
  | x :: r => (match x.1 with | some d => Nat.blt d n | none => true) && inRB n r
def inA (m : Nat) : List Row → Bool
  | [] => true
  | x :: r => x.2.2.all (fun k => Nat.blt k m) && inA m r
def goodT (n m : Nat) (T : List Row) : Bool := goodL (numbered T 0) && (inRB n T && inA m T)
theorem fits_comm (x y : Row × Nat) (h : fits x y = true) : fits y x = true := by
  obtain ⟨⟨dx, lx, ax⟩, i⟩ := x
  obtain ⟨⟨dy, ly, ay⟩, j⟩ := y
  have e : ∀ a b : Bool, (a || b) = (b || a) := fun a b => Bool.or_comm a b
  cases dx <;> cases dy <;> simp only [fits, ordered, Bool.and_true, Bool.true_and] at h ⊢
  · rw [e (ay.contains i)]; simpa using h
  · rw [e (ay.contains i)]; simpa using h
  · rename_i d d'
    rw [e (ay.contains i)]
    simp only [Bool.and_eq_true] at h ⊢
    obtain ⟨⟨h1, h2⟩, h3⟩ := h
    refine ⟨⟨h3, ?_⟩, h1⟩
    by_cases c : d = d'
    · subst c; simpa using h2
    · have : (some d == some d') = false := by simp [c]
      rw [this]; rfl
theorem fitsAll_mem {x y : Row × Nat} : ∀ {l}, fitsAll x l = true → y ∈ l → fits x y = true
  | z :: r, h, hy => by
    simp only [fitsAll, Bool.and_eq_true] at h
    rcases List.mem_cons.1 hy with rfl | hy
    · exact h.1
    · exact fitsAll_mem h.2 hy
theorem goodL_mem {x y : Row × Nat} : ∀ {l}, goodL l = true → x ∈ l → y ∈ l → x ≠ y → fits x y = true
  | z :: r, h, hx, hy, hne => by
    simp only [goodL, Bool.and_eq_true] at h
    rcases List.mem_cons.1 hx with e1 | h1
    · rcases List.mem_cons.1 hy with e2 | h2
      · exact absurd (e1.trans e2.symm) hne
      · rw [e1]; exact fitsAll_mem h.1 h2
    · rcases List.mem_cons.1 hy with e2 | h2
      · rw [e2]; exact fits_comm _ _ (fitsAll_mem h.1 h1)
      · exact goodL_mem h.2 h1 h2 hne
theorem mem_numbered : ∀ {T : List Row} {k i : Nat} {x : Row}, T[i]? = some x → (x, k + i) ∈ numbered T k
  | y :: r, k, 0, x, h => by simp at h; subst h; simp [numbered]
  | y :: r, k, i + 1, x, h => by
    simp at h
    have := mem_numbered (k := k + 1) h
    rw [numbered, show k + (i + 1) = k + 1 + i by omega]
    exact List.mem_cons_of_mem _ this
theorem inRB_get {n : Nat} : ∀ {T : List Row} {i : Nat} {x : Row} {d : Nat}, inRB n T = true → T[i]? = some x → x.1 = some d → d < n
  | y :: r, 0, x, d, h, hx, hd => by
    simp at hx; subst hx
    simp only [inRB, Bool.and_eq_true, hd] at h
    exact Nat.blt_eq.mp h.1
  | y :: r, i + 1, x, d, h, hx, hd => by
    simp only [inRB, Bool.and_eq_true] at h
    exact inRB_get h.2 (by simpa using hx) hd
theorem inA_get {m : Nat} : ∀ {T : List Row} {i : Nat} {x : Row}, inA m T = true → T[i]? = some x → ∀ k ∈ x.2.2, k < m
  | y :: r, 0, x, h, hx => by
    simp at hx; subst hx
    simp only [inA, Bool.and_eq_true] at h
    exact fun k hk => Nat.blt_eq.mp (List.all_eq_true.1 h.1 k hk)
  | y :: r, i + 1, x, h, hx => by
    simp only [inA, Bool.and_eq_true] at h
    exact inA_get h.2 (by simpa using hx)
section
variable {P : Program} {ops : Array Oper} {Q : Exit → Act → World → Prop} {S : World → Prop} {T : List Row}
theorem table_get {i : Nat} {oi : Oper} (ht : tableR ops = T) (hi : ops[i]? = some oi) : T[i]? = some (rowOf ops oi) := by
  rw [← ht]; simp [tableR, hi]
theorem table_len (ht : tableR ops = T) : T.length = ops.size := by rw [← ht]; simp [tableR]
def readyT (T : List Row) (done : List Nat) (i : Nat) : Bool := !done.contains i && match T.drop i with | (_, _, a) :: _ => a.all (fun k => done.contains k) | [] => false
theorem lt_of_get {α : Type} {l : Array α} {i : Nat} {x : α} (h : l[i]? = some x) : i < l.size := by
  rcases Nat.lt_or_ge i l.size with h1 | h1
  · exact h1
  · rw [Array.getElem?_eq_none h1] at h; cases h
theorem drop_get {α : Type} {l : List α} {i : Nat} {x : α} (h : l[i]? = some x) : ∃ r, l.drop i = x :: r := by
  have hl : i < l.length := by
    rcases Nat.lt_or_ge i l.length with h1 | h1
    · exact h1
    · rw [List.getElem?_eq_none h1] at h; cases h
  rw [List.getElem?_eq_getElem hl] at h
  exact ⟨_, by rw [List.drop_eq_getElem_cons hl]; simp at h; rw [h]⟩
theorem mem_waits {o : Oper} {e : Edge} (he : e ∈ o.after) (hb : Region.binds .any e = true) : e.on ∈ waits o := by
  unfold waits
  rw [List.mem_map]
  exact ⟨e, by rw [List.mem_filter]; exact ⟨by simpa using he, hb⟩, rfl⟩
theorem waits_mem {o : Oper} {k : Nat} (h : k ∈ waits o) : ∃ e ∈ o.after, Region.binds .any e = true ∧ e.on = k := by
  unfold waits at h
  rw [List.mem_map] at h
  obtain ⟨e, h1, h2⟩ := h
  rw [List.mem_filter] at h1
  exact ⟨e, by simpa using h1.1, h1.2, h2⟩
theorem ready_iff {done : List Nat} {i : Nat} {oi : Oper} (hi : ops[i]? = some oi) (hin : ∀ k ∈ waits oi, k < ops.size) :
    i ∈ Region.ready .any ops (lset ops.size done) ↔ done.contains i = false ∧ ∀ k ∈ waits oi, done.contains k = true := by
  have hlt := lt_of_get hi
  rw [mem_ready, lset_get, if_pos hlt]
  constructor
  · rintro ⟨h1, o, ho, h2⟩
    rw [hi] at ho; cases ho
    refine ⟨h1, fun k hk => ?_⟩
    obtain ⟨e, he, hb, rfl⟩ := waits_mem hk
    have := h2 e he hb
    rwa [lset_get, if_pos (hin _ hk)] at this
  · rintro ⟨h1, h2⟩
    refine ⟨h1, oi, hi, fun e he hb => ?_⟩
    rw [lset_get, if_pos (hin _ (mem_waits he hb))]
    exact h2 _ (mem_waits he hb)
theorem readyT_mem {n : Nat} {done : List Nat} {i : Nat} {oi : Oper} (ht : tableR ops = T) (hg : goodT n ops.size T = true) (hi : ops[i]? = some oi) (h : readyT T done i = true) :
    i ∈ Region.ready .any ops (lset ops.size done) := by
  have hT := table_get ht hi
  simp only [goodT, Bool.and_eq_true] at hg
  rw [ready_iff hi (inA_get hg.2.2 hT)]
  obtain ⟨r, hr⟩ := drop_get hT
  unfold readyT at h
  rw [hr] at h
  simp only [rowOf, Bool.and_eq_true] at h
  exact ⟨by simpa using h.1, List.all_eq_true.1 h.2⟩
theorem apart_of_good {n : Nat} {done : List Nat} {i : Nat} {oi : Oper} (ht : tableR ops = T) (hg : goodT n ops.size T = true) (hi : ops[i]? = some oi) (hr : readyT T done i = true)
    (j : Nat) (oj : Oper) (hj : ops[j]? = some oj) (hne : j ≠ i) (hun : (lset ops.size done).getD j true = false) (hno : ∀ e ∈ oj.after, Region.binds .any e = true → e.on ≠ i) : oi.apart ops oj = true := by
  have hmi := readyT_mem ht hg hi hr
  have hTi := table_get ht hi
  have hTj := table_get ht hj
  simp only [goodT, Bool.and_eq_true] at hg
  rw [ready_iff hi (inA_get hg.2.2 hTi)] at hmi
  rw [lset_get, if_pos (lt_of_get hj)] at hun
  have hf := goodL_mem hg.1 (mem_numbered (k := 0) hTi) (mem_numbered (k := 0) hTj) (by
    intro c
    have := congrArg Prod.snd c
    simp at this
    exact hne this.symm)
  have hord : ordered (rowOf ops oi, 0 + i) (rowOf ops oj, 0 + j) = false := by
    simp only [ordered, rowOf, Nat.zero_add, Bool.or_eq_false_iff]
    constructor
    · rcases h : (waits oi).contains j with _ | _
      · rfl
      · have := hmi.2 j (by simpa using h)
        rw [hun] at this; cases this
    · rcases h : (waits oj).contains i with _ | _
      · rfl
      · obtain ⟨e, he, hb, hk⟩ := waits_mem (o := oj) (k := i) (by simpa using h)
        exact absurd hk (hno e he hb)
  unfold fits at hf
  rw [hord] at hf
  simp only [rowOf, Bool.or_false] at hf
  unfold Oper.apart
  cases h1 : oi.dst <;> cases h2 : oj.dst <;> rw [h1, h2] at hf <;> first | rfl | simpa [bne] using hf
def W (P : Program) (ops : Array Oper) (Q : Exit → Act → World → Prop) (S : World → Prop) (L : List Value) (ds : List Deferred) (fuel : Nat) (done : List Nat) (ws : List (Nat × Value)) (w : World) : Prop :=
  (∀ p ∈ ws, p.1 < L.length) → wpAnyH P .any ops Q S fuel (lset ops.size done) ⟨(setAll L ws).toArray, ds⟩ w
theorem eval_W {L : List Value} {ws : List (Nat × Value)} (h : ∀ p ∈ ws, p.1 < L.length) (ds : List Deferred) : Act.eval ⟨(setAll L ws).toArray, ds⟩ = evalW L ws := by
  funext o
  cases o with
  | tmp t => exact setAll_get L ws h t
  | const v => rfl
  | global g => rfl
  | func f => rfl
def putW : Option Nat → Value → List (Nat × Value) → List (Nat × Value)
  | some d, v, ws => (d, v) :: ws
  | none, _, ws => ws
theorem put_W (L : List Value) (ws : List (Nat × Value)) (ds : List Deferred) (d : Option Nat) (v : Value) : Act.put ⟨(setAll L ws).toArray, ds⟩ d v = ⟨(setAll L (putW d v ws)).toArray, ds⟩ := by
  cases d with
  | none => rfl
  | some d => simp [Act.put, putW, setAll]
theorem putW_lt {L : List Value} {ws : List (Nat × Value)} {d : Option Nat} {v : Value} (h : ∀ p ∈ ws, p.1 < L.length) (hd : ∀ k, d = some k → k < L.length) : ∀ p ∈ putW d v ws, p.1 < L.length := by
  cases d with
  | none => exact h
  | some d =>
    intro p hp
    rcases List.mem_cons.1 hp with rfl | hp
    · exact hd _ rfl
    · exact h p hp
def wantedW (T : List Row) (L : List Value) (ws : List (Nat × Value)) : Option (Nat × Bool) → Bool
  | none => true
  | some (g, want) => match T.drop g with
    | (some d, _, _) :: _ => (match look ws (base L) d with | .bool b => b == want | _ => false)
    | _ => false
theorem wanted_W {n : Nat} {L : List Value} {ws : List (Nat × Value)} {o : Oper} {b : Bool} (ds : List Deferred) (ht : tableR ops = T) (hg : goodT L.length n T = true) (h : ∀ p ∈ ws, p.1 < L.length) (hw : wantedW T L ws o.guard = b) :
    Region.wanted o (yielded ops (⟨(setAll L ws).toArray, ds⟩ : Act).tmps) = b := by
  subst hw
  unfold Region.wanted wantedW
  cases hgd : o.guard with
  | none => rfl
  | some p =>
    obtain ⟨g, want⟩ := p
    simp only [yielded]
    cases hj : ops[g]? with
    | none =>
      have : T.drop g = [] := by
        rw [List.drop_eq_nil_iff, table_len ht]
        rcases Nat.lt_or_ge g ops.size with h1 | h1
        · rw [Array.getElem?_eq_getElem h1] at hj; cases hj
        · exact h1
      rw [this]; rfl
    | some og =>
      have hT := table_get ht hj
      obtain ⟨r, hr⟩ := drop_get hT
      rw [hr]
      simp only [rowOf, Option.bind_some]
      cases hd : og.dst with
      | none => rfl
      | some d =>
        simp only [goodT, Bool.and_eq_true] at hg
        have hlt : d < L.length := inRB_get hg.2.1 hT hd
        have hget := setAll_get L ws h d
        have hlt2 : d < (setAll L ws).toArray.size := by simp [setAll_len, hlt]
        simp only [Array.getD, hlt2, dif_pos] at hget
        simp only [Option.bind_some]
        rw [Array.getElem?_eq_getElem hlt2]
        have e : (setAll L ws).toArray[d] = look ws (base L) d := hget
        rw [e]
        cases look ws (base L) d <;> rfl
section
variable {L : List Value} {ds : List Deferred} {fuel : Nat} {done : List Nat} {ws : List (Nat × Value)} {w : World}
structure Reg (P : Program) (ops0 ops : Array Oper) (Q : Exit → Act → World → Prop) (L : List Value) (T : List Row) : Prop where
  ops_eq : ops = ops0
  tab : tableR ops = T
  good : goodT L.length ops.size T = true
  nosel : Region.noSelect ops = true
  calm : ∀ c d v a w, Q (.panic c) (Act.put a d v) w → Q (.panic c) a w
variable {ops0 : Array Oper}
theorem dst_lt (hR : Reg P ops0 ops Q L T) {i : Nat} {oi : Oper} (hi : ops[i]? = some oi) : ∀ k, oi.dst = some k → k < L.length := fun k hk => by
  have := hR.good
  simp only [goodT, Bool.and_eq_true] at this
  exact inRB_get this.2.1 (table_get hR.tab hi) hk
theorem op_at (hR : Reg P ops0 ops Q L T) {i : Nat} {oi : Oper} {r : List Oper} (hi : ops0.toList.drop i = oi :: r) : ops[i]? = some oi := by
  rw [hR.ops_eq, ← Array.getElem?_toList, ← Nat.add_zero i, ← List.getElem?_drop, hi]; rfl
theorem wg_take (i : Nat) {oi : Oper} {r : List Oper} {v : Value} (hR : Reg P ops0 ops Q L T) (hi : ops0.toList.drop i = oi :: r) (hr : readyT T done i = true)
    (hw : wantedW T L ws oi.guard = true) (hy : ∀ w, S w → (execOp (evalW L ws) oi).run P w = .ok (.value v) w) (hS : S w)
    (h : W P ops Q S L ds fuel (i :: done) (putW oi.dst v ws) w) : W P ops Q S L ds (fuel + 1) done ws w := fun hb => by
  have ho := op_at hR hi
  refine wpAnyH_first (v := v) ho (Region.noSelect_spec hR.nosel) (fun c a w => hR.calm c _ _ a w) fuel _ _ w (apart_of_good hR.tab hR.good ho hr) (readyT_mem hR.tab hR.good ho hr) ?_ hS ?_
  · exact .inl ⟨wanted_W ds hR.tab hR.good hb hw, fun w hw => by rw [eval_W hb]; exact hy w hw⟩
  · rw [put_W]; exact h (putW_lt hb (dst_lt hR ho))
theorem wg_skip (i : Nat) {oi : Oper} {r : List Oper} (hR : Reg P ops0 ops Q L T) (hi : ops0.toList.drop i = oi :: r) (hr : readyT T done i = true)
    (hw : wantedW T L ws oi.guard = false) (hS : S w)
    (h : W P ops Q S L ds fuel (i :: done) (putW oi.dst undef ws) w) : W P ops Q S L ds (fuel + 1) done ws w := fun hb => by
  have ho := op_at hR hi
  refine wpAnyH_first (v := undef) ho (Region.noSelect_spec hR.nosel) (fun c a w => hR.calm c _ _ a w) fuel _ _ w (apart_of_good hR.tab hR.good ho hr) (readyT_mem hR.tab hR.good ho hr) ?_ hS ?_
  · exact .inr ⟨wanted_W ds hR.tab hR.good hb hw, rfl⟩
  · rw [put_W]; exact h (putW_lt hb (dst_lt hR ho))
def StepW (P : Program) (S : World → Prop) (L : List Value) (ws : List (Nat × Value)) (oi : Oper) (w : World) (N : Value → World → Prop) : Prop :=
  (∃ v w', (execOp (evalW L ws) oi).run P w = .ok (.value v) w' ∧ S w' ∧ N v w') ∨ (∃ w', (execOp (evalW L ws) oi).run P w = .ok .skip w' ∧ S w' ∧ N undef w') ∨
  (∃ f args, (execOp (evalW L ws) oi).run P w = .ok (.enter f args) w ∧ Calls P f args w fun e w' => ∃ v, e = .returned v ∧ S w' ∧ N v w')
theorem StepW.wp {oi : Oper} {N : Value → World → Prop} {a : Act} {K : Act → World → Prop} (h : StepW P S L ws oi w N) (he : a.eval = evalW L ws) (hK : ∀ v w', S w' → N v w' → K (a.put oi.dst v) w') : Oper.wp P oi a w K Q := by
  unfold Oper.wp
  rw [he]
  rcases h with ⟨v, w', h1, h2, h3⟩ | ⟨w', h1, h2, h3⟩ | ⟨f, args, h1, h2⟩
  · rw [h1, Oper.upon_value]; exact hK v w' h2 h3
  · rw [h1, Oper.upon_skip]; exact hK undef w' h2 h3
  · rw [h1, Oper.upon_enter]
    exact h2.mono fun e w' ⟨v, he, hs, hn⟩ => by subst he; exact hK v w' hs hn
def upT (done : List Nat) : List (Row × Nat) → List Nat
  | [] => []
  | (x, k) :: r => if !done.contains k && x.2.2.all (fun j => done.contains j) then k :: upT done r else upT done r
theorem mem_upT {done : List Nat} {x : Row} {k : Nat} (h1 : done.contains k = false) (h2 : ∀ j ∈ x.2.2, done.contains j = true) : ∀ {l}, (x, k) ∈ l → k ∈ upT done l
  | (y, j) :: r, h => by
    rcases List.mem_cons.1 h with e | h
    · cases e
      unfold upT
      rw [if_pos (by simp only [h1, Bool.not_false, Bool.true_and]; exact List.all_eq_true.2 h2)]
      exact List.mem_cons_self
    · have ih := mem_upT h1 h2 h
      unfold upT
      split
      · exact List.mem_cons_of_mem _ ih
      · exact ih
theorem ready_up (hR : Reg P ops0 ops Q L T) {j : Nat} (h : j ∈ Region.ready .any ops (lset ops.size done)) : j ∈ upT done (numbered T 0) := by
  obtain ⟨_, oj, hj, _⟩ := mem_ready.1 h
  have hT := table_get hR.tab hj
  have hg := hR.good
  simp only [goodT, Bool.and_eq_true] at hg
  rw [ready_iff hj (inA_get hg.2.2 hT)] at h
  have hm := mem_numbered (k := 0) hT
  rw [Nat.zero_add] at hm
  exact mem_upT (x := rowOf ops oj) h.1 h.2 hm
theorem wg_step (i : Nat) {oi : Oper} {r : List Oper} (hR : Reg P ops0 ops Q L T) (hi : ops0.toList.drop i = oi :: r) (hr : upT done (numbered T 0) = [i])
    (hw : wantedW T L ws oi.guard = true)
    (h : StepW P S L ws oi w fun v w' => S w' → W P ops Q S L ds fuel (i :: done) (putW oi.dst v ws) w') (hr2 : readyT T done i = true) : W P ops Q S L ds (fuel + 1) done ws w := fun hb => by
  have ho := op_at hR hi
  refine ⟨fun h0 => ?_, fun j hj => ?_⟩
  · have := readyT_mem hR.tab hR.good ho hr2
    rw [h0] at this; cases this
  · have := ready_up hR hj
    rw [hr] at this
    obtain rfl := List.mem_singleton.1 this
    refine wpOp_step ho fun K' hK => ?_
    rw [if_pos (wanted_W ds hR.tab hR.good hb hw)]
    exact h.wp (eval_W hb ds) fun v w' hs hn => hK _ _ ⟨hs, by rw [put_W]; exact hn hs (putW_lt hb (dst_lt hR ho))⟩
theorem wg_two (i j : Nat) {oi oj : Oper} {r s : List Oper} (hR : Reg P ops0 ops Q L T) (hi : ops0.toList.drop i = oi :: r) (hj : ops0.toList.drop j = oj :: s) (hr : upT done (numbered T 0) = [i, j])
    (hwi : wantedW T L ws oi.guard = true) (hwj : wantedW T L ws oj.guard = true) (hr2 : readyT T done i = true)
    (h1 : StepW P S L ws oi w fun v w' => S w' → W P ops Q S L ds fuel (i :: done) (putW oi.dst v ws) w')
    (h2 : StepW P S L ws oj w fun v w' => S w' → W P ops Q S L ds fuel (j :: done) (putW oj.dst v ws) w') : W P ops Q S L ds (fuel + 1) done ws w := fun hb => by
  have ho := op_at hR hi
  have ho2 := op_at hR hj
  refine ⟨fun h0 => ?_, fun k hk => ?_⟩
  · have := readyT_mem hR.tab hR.good ho hr2
    rw [h0] at this; cases this
  · have := ready_up hR hk
    rw [hr] at this
    rcases List.mem_cons.1 this with rfl | this
    · refine wpOp_step ho fun K' hK => ?_
      rw [if_pos (wanted_W ds hR.tab hR.good hb hwi)]
      exact h1.wp (eval_W hb ds) fun v w' hs hn => hK _ _ ⟨hs, by rw [put_W]; exact hn hs (putW_lt hb (dst_lt hR ho))⟩
    · obtain rfl := List.mem_singleton.1 this
      refine wpOp_step ho2 fun K' hK => ?_
      rw [if_pos (wanted_W ds hR.tab hR.good hb hwj)]
      exact h2.wp (eval_W hb ds) fun v w' hs hn => hK _ _ ⟨hs, by rw [put_W]; exact hn hs (putW_lt hb (dst_lt hR ho2))⟩
theorem wg_read {L L0 : List Value} (h : L = L0) (k : Nat) {v : Value} {r : List Value} (e : L0.drop k = v :: r) : base L k = v := by
  subst h
  have : L[k]? = some v := by rw [← Nat.add_zero k, ← List.getElem?_drop, e]; rfl
  simp [base, this]
theorem wg_begin {L0 : List Value} {id : Nat} {Q0 : Exit → Act → World → Prop} (T : List Row) (S : World → Prop) (hm : P.follows .mixedOrders = true) (ht : tableR ops0 = T) (hg : goodT L0.length ops0.size T = true) (hs : Region.noSelect ops0 = true)
    (hQ : ∀ c d v a w, Q0 (.panic c) (Act.put a d v) w → Q0 (.panic c) a w) (hS : S w.drew)
    (h : ∀ (ops : Array Oper) (Q : Exit → Act → World → Prop) (L : List Value), L = L0 → Reg P ops0 ops Q L T →
      Shut (∀ ws w, Q0 .normal ⟨(setAll L0 ws).toArray, ds⟩ w → Q .normal ⟨(setAll L ws).toArray, ds⟩ w) → S w.drew → W P ops Q S L ds ops0.size [] [] w.drew) :
    (Code.region id ops0 true).wp P Q0 ⟨L0.toArray, ds⟩ w := by
  refine wp_region_held_drew hm hS fun hS => ?_
  have := h ops0 Q0 L0 rfl ⟨rfl, ht, hg, hs, hQ⟩ (fun _ _ h => h) hS
  exact this (by simp)
def mg : List Value → List (Nat × Value) → List Value
  | l, [] => l
  | [], _ => []
  | _ :: l, (0, v) :: r => v :: mg l r
  | x :: l, (g + 1, v) :: r => x :: mg l ((g, v) :: r)
def absT : Nat → List (Nat × Value) → List (Nat × Value)
  | _, [] => []
  | b, (g, v) :: r => (b + g, v) :: absT (b + g + 1) r
def lookO : List (Nat × Value) → Nat → Option Value
  | [], _ => none
  | (d, v) :: ws, k => if k = d then some v else lookO ws k
theorem setAll_get? (L : List Value) : ∀ (ws : List (Nat × Value)) (t : Nat), (setAll L ws)[t]? = if t < L.length then (lookO ws t).or (L[t]?) else none
  | [], t => by by_cases h : t < L.length <;> simp [setAll, lookO, h]
  | (d, v) :: ws, t => by
    have ih := setAll_get? L ws t
    rw [setAll, List.getElem?_set, lookO, setAll_len]
    by_cases e : t = d
    · subst e
      by_cases h : t < L.length <;> simp [h]
    · have e' : d ≠ t := fun c => e c.symm
      rw [if_neg e', ih, if_neg e]
theorem lookO_lt {k : Nat} : ∀ {r : List (Nat × Value)} {b : Nat}, k < b → lookO (absT b r) k = none
  | [], _, _ => rfl
  | (g, v) :: r, b, h => by
    rw [absT, lookO, if_neg (by omega)]
    exact lookO_lt (by omega)
theorem lookO_shift (s : Nat) : ∀ (r : List (Nat × Value)) (b k : Nat), lookO (absT (b + s) r) (k + s) = lookO (absT b r) k
  | [], _, _ => rfl
  | (g, v) :: r, b, k => by
    simp only [absT, lookO]
    have ih := lookO_shift s r (b + g + 1) k
    by_cases h : k = b + g
    · rw [if_pos h, if_pos (by omega)]
    · rw [if_neg h, if_neg (by omega), ← ih]
      congr 2; omega
theorem mg_get? : ∀ (L : List Value) (gs : List (Nat × Value)) (t : Nat), (mg L gs)[t]? = if t < L.length then (lookO (absT 0 gs) t).or (L[t]?) else none
  | l, [], t => by by_cases h : t < l.length <;> simp [mg, absT, lookO, h]
  | [], p :: r, t => by simp [mg]
  | x :: l, (0, v) :: r, t => by
    have e1 : lookO (absT 0 ((0, v) :: r)) t = if t = 0 then some v else lookO (absT 1 r) t := rfl
    rw [e1]
    cases t with
    | zero => simp [mg]
    | succ t =>
      have ih := mg_get? l r t
      have h1 := lookO_shift 1 r 0 t
      simp only [Nat.zero_add] at h1
      simp only [mg, List.getElem?_cons_succ, ih, List.length_cons, Nat.add_lt_add_iff_right, Nat.add_eq_zero_iff, Nat.one_ne_zero, and_false, if_false, h1]
  | x :: l, (g + 1, v) :: r, t => by
    have e1 : absT 0 ((g + 1, v) :: r) = absT 1 ((g, v) :: r) := by
      simp only [absT]
      rw [show 0 + (g + 1) = 1 + g by omega]
    rw [e1]
    cases t with
    | zero => simp [mg, lookO_lt (k := 0) (b := 1) (by omega)]
    | succ t =>
      have ih := mg_get? l ((g, v) :: r) t
      have h1 := lookO_shift 1 ((g, v) :: r) 0 t
      simp only [Nat.zero_add] at h1
      simp only [mg, List.getElem?_cons_succ, ih, List.length_cons, Nat.add_lt_add_iff_right, h1]
theorem lookO_perm : ∀ {a b : List (Nat × Value)}, a.Perm b → (a.map Prod.fst).Nodup → ∀ t, lookO a t = lookO b t := by
  intro a b h
  induction h with
  | nil => intro _ t; rfl
  | cons x _ ih =>
    intro hn t
    obtain ⟨d, v⟩ := x
    simp only [List.map_cons, List.nodup_cons] at hn
    rw [lookO, lookO, ih hn.2]
  | swap x y l =>
    intro hn t
    obtain ⟨d, v⟩ := x
    obtain ⟨d', v'⟩ := y
    simp only [List.map_cons, List.nodup_cons, List.mem_cons, not_or] at hn
    simp only [lookO]
    by_cases h1 : t = d
    · have h2 : ¬ t = d' := fun c => hn.1.1 (by omega)
      rw [if_pos h1, if_neg h2, if_pos h1]
    · rw [if_neg h1, if_neg h1]
  | trans p1 p2 ih1 ih2 =>
    intro hn t
    rw [ih1 hn, ih2 ((p1.map Prod.fst).nodup_iff.1 hn)]
def insG (d : Nat) (v : Value) : List (Nat × Value) → List (Nat × Value)
  | [] => [(d, v)]
  | (d', v') :: r => if d' < d then (d, v) :: (d', v') :: r else if d' = d then (d, v) :: r else (d', v') :: insG d v r
theorem lookO_ins (d : Nat) (v : Value) : ∀ (r : List (Nat × Value)) (t : Nat), lookO (insG d v r) t = if t = d then some v else lookO r t
  | [], t => rfl
  | (d', v') :: r, t => by
    have ih := lookO_ins d v r t
    unfold insG
    split
    · rfl
    · split
      · rename_i h; subst h
        simp only [lookO]
        by_cases h : t = d' <;> simp [h]
      · rename_i h1 h2
        simp only [lookO, ih]
        by_cases h : t = d'
        · have : ¬ t = d := fun c => h2 (by omega)
          rw [if_pos h, if_neg this, if_pos h]
        · rw [if_neg h, if_neg h]
def sortG : List (Nat × Value) → List (Nat × Value)
  | [] => []
  | (d, v) :: r => insG d v (sortG r)
theorem lookO_sort : ∀ (ws : List (Nat × Value)) (t : Nat), lookO (sortG ws) t = lookO ws t
  | [], t => rfl
  | (d, v) :: r, t => by rw [sortG, lookO_ins, lookO, lookO_sort r t]
theorem wg_end {L0 L : List Value} {Q0 : Exit → Act → World → Prop} (hR : Reg P ops0 ops Q L T) (hK : Shut (∀ ws w, Q0 .normal ⟨(setAll L0 ws).toArray, ds⟩ w → Q .normal ⟨(setAll L ws).toArray, ds⟩ w))
    (gs : List (Nat × Value)) {M : List Value} (hd : upT done (numbered T 0) = []) (hsort : sortG ws = (absT 0 gs).reverse) (hM : mg L0 gs = M) (h : Q0 .normal ⟨M.toArray, ds⟩ w) : W P ops Q S L ds fuel done ws w := fun _ => by
  have hready : Region.ready .any ops (lset ops.size done) = [] := by
    rw [List.eq_nil_iff_forall_not_mem]
    intro j hj
    have := ready_up hR hj
    rw [hd] at this; cases this
  refine wpAnyH_done hready ?_ fuel
  refine hK _ _ ?_
  have e : setAll L0 ws = M := by
    rw [← hM]
    refine List.ext_getElem? fun t => ?_
    rw [setAll_get?, mg_get?, ← lookO_sort ws t, hsort]
    have hn : ∀ (g : List (Nat × Value)) (b : Nat), ((absT b g).map Prod.fst).Nodup ∧ ∀ k ∈ (absT b g).map Prod.fst, b ≤ k := by
      intro g
      induction g with
      | nil => intro b; simp [absT]
      | cons p r ih =>
        intro b
        obtain ⟨g, v⟩ := p
        obtain ⟨h1, h2⟩ := ih (b + g + 1)
        simp only [absT, List.map_cons, List.nodup_cons]
        refine ⟨⟨fun c => by have := h2 _ c; omega, h1⟩, fun k hk => ?_⟩
        rcases List.mem_cons.1 hk with rfl | hk
        · exact Nat.le_add_right _ _
        · have := h2 k hk; omega
    rw [lookO_perm (List.reverse_perm _) (((List.reverse_perm _).map _).nodup_iff.2 (hn gs 0).1)]
  rw [e]; exact h
theorem wg_call {f : FuncId} {args : Array Value} {oi : Oper} {N : Value → World → Prop} (h1 : (execOp (evalW L ws) oi).run P w = .ok (.enter f args) w) (h2 : Calls P f args w fun e w' => ∃ v, e = .returned v ∧ S w' ∧ N v w') : StepW P S L ws oi w N := .inr (.inr ⟨f, args, h1, h2⟩)
theorem wg_eff {v : Value} {w' : World} {oi : Oper} {N : Value → World → Prop} (h1 : (execOp (evalW L ws) oi).run P w = .ok (.value v) w') (h2 : S w') (h3 : N v w') : StepW P S L ws oi w N := .inl ⟨v, w', h1, h2, h3⟩
theorem wg_skp {w' : World} {oi : Oper} {N : Value → World → Prop} (h1 : (execOp (evalW L ws) oi).run P w = .ok .skip w') (h2 : S w') (h3 : N undef w') : StepW P S L ws oi w N := .inr (.inl ⟨w', h1, h2, h3⟩)
def Only (O : Nat) (w X : World) : Prop := ∃ j v, X = w.setCell ⟨O, j, none⟩ v
theorem Only.ext {O : Nat} {a w X : World} (h : Only O w X) (hE : Ext a w) (hO : a.heap.size ≤ O) : Ext a X := by
  obtain ⟨j, v, rfl⟩ := h; exact hE.setCell hO v
theorem Only.size {O : Nat} {w X : World} (h : Only O w X) : X.heap.size = w.heap.size := by
  obtain ⟨j, v, rfl⟩ := h; simp
theorem Only.va {O : Nat} {w X : World} (h : Only O w X) {b o : Nat} {l : List Int} (hb : O ≠ b) (hv : VA w b o l) : VA X b o l := by
  obtain ⟨j, v, rfl⟩ := h
  exact ⟨fun i hi => by rw [World.cell?_setCell_other w _ _ _ (fun e => hb (congrArg Addr.block e))]; exact hv.1 i hi, hv.2⟩
theorem Only.box {O : Nat} {w X : World} (h : Only O w X) {b o : Nat} {u : Value} (hb : O ≠ b) (hv : BoxAt w b o u) : BoxAt X b o u := by
  obtain ⟨j, v, rfl⟩ := h; exact hv.other (p := ⟨O, j, none⟩) hb v
theorem Only.rows {O : Nat} {w X : World} (h : Only O w X) {b : Nat} {l : List Int} (hb : O ≠ b) (hv : RowsAt w b l) : RowsAt X b l := by
  obtain ⟨j, v, rfl⟩ := h; exact hv.other (p := ⟨O, j, none⟩) hb v
theorem Only.cell {O : Nat} {w X : World} (h : Only O w X) {p : Addr} {u : Value} (hb : O ≠ p.block) (hv : w.cell? p = some u) : X.cell? p = some u := by
  obtain ⟨j, v, rfl⟩ := h
  rw [World.cell?_setCell_other w _ _ _ (fun e => hb (congrArg Addr.block e))]; exact hv
def valAt : List (Nat × Value) → Nat → Value
  | [], _ => undef
  | (_, v) :: _, 0 => v
  | _ :: r, p + 1 => valAt r p
def gsOf (ws : List (Nat × Value)) : List (Nat × Nat) → List (Nat × Value)
  | [] => []
  | (g, p) :: r => (g, valAt ws p) :: gsOf ws r
theorem wg_fin {L0 L : List Value} {Q0 : Exit → Act → World → Prop} (hR : Reg P ops0 ops Q L T) (hK : Shut (∀ ws w, Q0 .normal ⟨(setAll L0 ws).toArray, ds⟩ w → Q .normal ⟨(setAll L ws).toArray, ds⟩ w))
    (ks : List (Nat × Nat)) {M : List Value} (hd : upT done (numbered T 0) = []) (hsort : sortG ws = (absT 0 (gsOf ws ks)).reverse) (hM : mg L0 (gsOf ws ks) = M) (h : Q0 .normal ⟨M.toArray, ds⟩ w) : W P ops Q S L ds fuel done ws w := wg_end hR hK (gsOf ws ks) hd hsort hM h
end
end
end Go.Proofs.YtajdohcgjgknmaaGreatDoor

namespace Go.Proofs.YtajdohcgjgknmaaGreatDoor
open Go.RowKit
section
variable {P : Program} {n : Nat} {L : List Value} {ws : List (Nat × Value)} {w : World} {Q : Exit → Act → World → Prop}
def Bd (n : Nat) (L : List Value) (ws : List (Nat × Value)) : Prop := L.length = n ∧ ∀ p ∈ ws, p.1 < n
theorem Bd.lt (h : Bd n L ws) : ∀ p ∈ ws, p.1 < L.length := fun p hp => by rw [h.1]; exact h.2 p hp
theorem Bd.put (h : Bd n L ws) {d : Nat} {v : Value} (hd : Nat.blt d n = true) : Bd n L ((d, v) :: ws) :=
  ⟨h.1, fun p hp => by rcases List.mem_cons.1 hp with rfl | hp; exact Nat.blt_eq.mp hd; exact h.2 p hp⟩
structure CW (P : Program) (c : Code) (Q : Exit → Act → World → Prop) (n : Nat) (L : List Value) (ws : List (Nat × Value)) (w : World) : Prop where
  out : Bd n L ws → c.wp P Q ⟨(setAll L ws).toArray, []⟩ w
structure QW (Q : Exit → Act → World → Prop) (e : Exit) (n : Nat) (L : List Value) (ws : List (Nat × Value)) (w : World) : Prop where
  out : Bd n L ws → Q e ⟨(setAll L ws).toArray, []⟩ w
structure PL (P : Program) (ops rest : List Oper) (Q : Exit → Act → World → Prop) (n : Nat) (L : List Value) (ws : List (Nat × Value)) (w : World) : Prop where
  out : Bd n L ws → wpList P ops.toArray Q rest ⟨(setAll L ws).toArray, []⟩ w
structure WD (P : Program) (ops : Array Oper) (Q : Exit → Act → World → Prop) (S : World → Prop) (L : List Value) (fuel : Nat) (done : List Nat) (ws : List (Nat × Value)) (w : World) : Prop where
  out : W P ops Q S L [] fuel done ws w
theorem calls_cw {f : FuncId} {fn : Func} {c : Code} {av : List Value} {R : Ending → World → Prop} (n : Nat) (ws : List (Nat × Value)) (hf : P.funcs[f]? = some fn) (hb : fn.body = some c) (hn : fn.ntmps = n)
    (he : av ++ List.replicate (n - av.length) undef = setAll (List.replicate n undef) ws) (hl : ws.all (fun p => Nat.blt p.1 n) = true)
    (h : ∀ L, CW P c (bodyPost P fn R) n L ws w) : Calls P f av.toArray w R := by
  refine calls_of_wp hf hb ?_
  have e : (av.toArray ++ Array.replicate (fn.ntmps - av.toArray.size) undef : Array Value) = (setAll (List.replicate n undef) ws).toArray := by
    rw [hn, ← he]; simp
  rw [e]
  exact (h _).out ⟨List.length_replicate, fun p hp => Nat.blt_eq.mp (List.all_eq_true.1 hl p hp)⟩
theorem cw_seq {x y : Code} (h : CW P x (Exit.then (y.wp P Q) Q) n L ws w) : CW P (.seq x y) Q n L ws w := ⟨fun b => wp_seq (h.out b)⟩
theorem cw_block {id : Nat} {c : Code} (h : CW P c (Exit.inBlock id Q) n L ws w) : CW P (.block id c) Q n L ws w := ⟨fun b => wp_block (h.out b)⟩
theorem cw_skip (h : QW Q .normal n L ws w) : CW P .skip Q n L ws w := ⟨fun b => wp_skip (h.out b)⟩
theorem cw_exit {id : Nat} (h : QW Q (.exit id) n L ws w) : CW P (.exit id) Q n L ws w := ⟨fun b => wp_exit (h.out b)⟩
theorem cw_ret (h : QW Q .ret n L ws w) : CW P .ret Q n L ws w := ⟨fun b => wp_ret (h.out b)⟩
theorem cw_plain {id : Nat} {l : List Oper} (h : PL P l l Q n L ws w) : CW P (.region id l.toArray false) Q n L ws w := ⟨fun b => wp_region_lit (h.out b)⟩
theorem cw_t {c : Operand} {x y : Code} (hc : evalW L ws c = .bool true) (h : CW P x Q n L ws w) : CW P (.cond c x y) Q n L ws w := ⟨fun b => wp_cond_true (by rw [eval_W b.lt]; exact hc) (h.out b)⟩
theorem cw_f {c : Operand} {x y : Code} (hc : evalW L ws c = .bool false) (h : CW P y Q n L ws w) : CW P (.cond c x y) Q n L ws w := ⟨fun b => wp_cond_false (by rw [eval_W b.lt]; exact hc) (h.out b)⟩
theorem qw_then {y : Code} (h : CW P y Q n L ws w) : QW (Exit.then (y.wp P Q) Q) .normal n L ws w := ⟨h.out⟩
theorem qw_then_ret {K : Act → World → Prop} (h : QW Q .ret n L ws w) : QW (Exit.then K Q) .ret n L ws w := ⟨h.out⟩
theorem qw_then_exit {K : Act → World → Prop} {id : Nat} (h : QW Q (.exit id) n L ws w) : QW (Exit.then K Q) (.exit id) n L ws w := ⟨h.out⟩
theorem qw_block {id : Nat} (h : QW Q .normal n L ws w) : QW (Exit.inBlock id Q) .normal n L ws w := ⟨h.out⟩
theorem qw_block_ret {id : Nat} (h : QW Q .ret n L ws w) : QW (Exit.inBlock id Q) .ret n L ws w := ⟨h.out⟩
theorem qw_block_out {id : Nat} (h : QW Q .normal n L ws w) : QW (Exit.inBlock id Q) (.exit id) n L ws w := ⟨fun b => by
  show (if id = id then _ else _)
  rw [if_pos rfl]; exact h.out b⟩
def ResV (P : Program) (ev : Operand → Value) (w : World) : List ResultVar → List Value → Prop
  | [], [] => True
  | .tmp t :: rs, v :: vs => ev (.tmp t) = v ∧ ResV P ev w rs vs
  | .cell a t :: rs, v :: vs => (∃ ad, ev (.tmp a) = .pointer (some ad) ∧ (loadVar t ad).run P w = .ok v w) ∧ ResV P ev w rs vs
  | _, _ => False
def resOf : List Value → Value
  | [v] => v
  | vs => .tuple vs.toArray
theorem res_map {ev : Operand → Value} {g : ResultVar → Sem Value} (h1 : ∀ t, g (.tmp t) = pure (ev (.tmp t))) (h2 : ∀ b t, g (.cell b t) = do loadVar t (← asAddr (ev (.tmp b)))) :
    ∀ {rs : List ResultVar} {vs : List Value}, ResV P ev w rs vs → (rs.mapM g).run P w = .ok vs w
  | [], [], _ => by simp [go_sem]
  | .tmp t :: rs, v :: vs, h => by
    have ih := res_map h1 h2 h.2
    rw [List.mapM_cons, h1, h.1]
    simp [ih, Result.andThen]
  | .cell b t :: rs, v :: vs, h => by
    have ih := res_map h1 h2 h.2
    obtain ⟨ad, e1, e2⟩ := h.1
    rw [List.mapM_cons, h2, e1]
    simp [ih, asAddr, e2, Result.andThen]
theorem results_g (fn : Func) (tmps : Array Value) : ∃ g : ResultVar → Sem Value, (∀ t, g (.tmp t) = pure (tmps.getD t undef)) ∧ (∀ b t, g (.cell b t) = do loadVar t (← asAddr (tmps.getD b undef))) ∧
    results fn tmps = (do let vs ← fn.results.mapM g; pure (if h : vs.size = 1 then vs[0] else .tuple vs)) := ⟨_, fun _ => rfl, fun _ _ => rfl, rfl⟩
theorem res_run {fn : Func} {a : Act} {rs : List ResultVar} {vs : List Value} (hf : fn.results = rs.toArray) (h : ResV P a.eval w rs vs) : (results fn a.tmps).run P w = .ok (resOf vs) w := by
  obtain ⟨g, h1, h2, e⟩ := results_g fn a.tmps
  have := res_map (P := P) (w := w) (ev := a.eval) h1 h2 h
  rw [e, hf, List.mapM_toArray]
  simp only [Sem.run_bind, Sem.run_map, this, Result.andThen]
  match vs with
  | [] => rfl
  | [v] => rfl
  | u :: v :: r => simp [resOf]
theorem qw_ret {fn : Func} {R : Ending → World → Prop} {rs : List ResultVar} (vs : List Value) (hf : fn.results = rs.toArray) (h : ResV P (evalW L ws) w rs vs) (hR : R (.returned (resOf vs)) w) : QW (bodyPost P fn R) .ret n L ws w := ⟨fun b =>
  bodyPost_ret (res_run hf (by rw [eval_W b.lt]; exact h)) rfl hR⟩
def StepN (P : Program) (ev : Operand → Value) (oi : Oper) (w : World) (N : Value → World → Prop) : Prop :=
  (∃ v w', (execOp ev oi).run P w = .ok (.value v) w' ∧ N v w') ∨ (∃ w', (execOp ev oi).run P w = .ok .skip w' ∧ N undef w') ∨
  (∃ f args, (execOp ev oi).run P w = .ok (.enter f args) w ∧ Calls P f args w fun e w' => ∃ v, e = .returned v ∧ N v w')
theorem StepN.wp {ev : Operand → Value} {oi : Oper} {N : Value → World → Prop} {a : Act} {K : Act → World → Prop} (h : StepN P ev oi w N) (he : a.eval = ev) (hK : ∀ v w', N v w' → K (a.put oi.dst v) w') : Oper.wp P oi a w K Q := by
  unfold Oper.wp
  rw [he]
  rcases h with ⟨v, w', h1, h3⟩ | ⟨w', h1, h3⟩ | ⟨f, args, h1, h2⟩
  · rw [h1, Oper.upon_value]; exact hK v w' h3
  · rw [h1, Oper.upon_skip]; exact hK undef w' h3
  · rw [h1, Oper.upon_enter]
    exact h2.mono fun e w' ⟨v, he, hn⟩ => by subst he; exact hK v w' hn
theorem StepN.toW {S : World → Prop} {oi : Oper} {N : Value → World → Prop} (h : StepN P (evalW L ws) oi w fun v w' => S w' ∧ N v w') : StepW P S L ws oi w fun v w' => S w' → N v w' := by
  rcases h with ⟨v, w', h1, h3⟩ | ⟨w', h1, h3⟩ | ⟨f, args, h1, h2⟩
  · exact .inl ⟨v, w', h1, h3.1, fun _ => h3.2⟩
  · exact .inr (.inl ⟨w', h1, h3.1, fun _ => h3.2⟩)
  · exact .inr (.inr ⟨f, args, h1, h2.mono fun e w' ⟨v, he, hn⟩ => ⟨v, he, hn.1, fun _ => hn.2⟩⟩)
theorem sn_call {ev : Operand → Value} {oi : Oper} {N : Value → World → Prop} {f : FuncId} {args : Array Value} (h1 : (execOp ev oi).run P w = .ok (.enter f args) w) (h2 : Calls P f args w fun e w' => ∃ v, e = .returned v ∧ N v w') : StepN P ev oi w N := .inr (.inr ⟨f, args, h1, h2⟩)
theorem sn_eff {ev : Operand → Value} {oi : Oper} {N : Value → World → Prop} {v : Value} {w' : World} (h1 : (execOp ev oi).run P w = .ok (.value v) w') (h3 : N v w') : StepN P ev oi w N := .inl ⟨v, w', h1, h3⟩
theorem sn_skp {ev : Operand → Value} {oi : Oper} {N : Value → World → Prop} {w' : World} (h1 : (execOp ev oi).run P w = .ok .skip w') (h3 : N undef w') : StepN P ev oi w N := .inr (.inl ⟨w', h1, h3⟩)
theorem sn_new {ev : Operand → Value} {oi : Oper} {N : Value → World → Prop} {us : Array Value} {t : TypeId} (h1 : (execOp ev oi).run P w = .ok (.value (.pointer (some ⟨w.heap.size, 0, none⟩))) (w.alloc (.cells us t)))
    (h : ∀ O X, w.heap.size = O → X.heap.size = O + 1 → Ext w X → (∀ i u, us[i]? = some u → BoxAt X O i u) → N (.pointer (some ⟨O, 0, none⟩)) X) : StepN P ev oi w N := by
  refine sn_eff h1 (h _ _ rfl (by simp) (Ext.alloc (Ext.refl _) _) (fun i u hu => ⟨?_, ?_⟩))
  · rw [cell_of_row _ _ i _ t (0, 0) (heap_alloc_new w _)]; exact hu
  · simp [go_sem]
theorem sn_newS {ev : Operand → Value} {oi : Oper} {N : Value → World → Prop} {us : Array Value} {t : TypeId} {k c : Nat} (h1 : (execOp ev oi).run P w = .ok (.value (.slice (some ⟨w.heap.size, 0, none⟩) k c)) (w.alloc (.cells us t)))
    (h : ∀ O X, w.heap.size = O → X.heap.size = O + 1 → Ext w X → (∀ i u, us[i]? = some u → BoxAt X O i u) → N (.slice (some ⟨O, 0, none⟩) k c) X) : StepN P ev oi w N := by
  refine sn_eff h1 (h _ _ rfl (by simp) (Ext.alloc (Ext.refl _) _) (fun i u hu => ⟨?_, ?_⟩))
  · rw [cell_of_row _ _ i _ t (0, 0) (heap_alloc_new w _)]; exact hu
  · simp [go_sem]
def wantP (ops : List Oper) (L : List Value) (ws : List (Nat × Value)) : Option (Nat × Bool) → Bool
  | none => true
  | some (g, want) => match ops.drop g with
    | o :: _ => (match o.dst with | some d => (match look ws (base L) d with | .bool b => b == want | _ => false) | none => false)
    | [] => false
theorem wantP_spec {ops : List Oper} {o : Oper} {b : Bool} (h : Bd n L ws) (hok : ∀ x ∈ ops, ∀ d, x.dst = some d → d < n) (hw : wantP ops L ws o.guard = b) :
    Region.wanted o (yielded ops.toArray (⟨(setAll L ws).toArray, []⟩ : Act).tmps) = b := by
  subst hw
  unfold Region.wanted wantP
  cases hgd : o.guard with
  | none => rfl
  | some p =>
    obtain ⟨g, want⟩ := p
    have ho : ops.toArray[g]? = ops[g]? := by simp
    simp only [yielded, ho]
    cases hj : ops[g]? with
    | none =>
      have : ops.drop g = [] := by
        rw [List.drop_eq_nil_iff]
        rcases Nat.lt_or_ge g ops.length with h1 | h1
        · rw [List.getElem?_eq_getElem h1] at hj; cases hj
        · exact h1
      rw [this]; rfl
    | some og =>
      obtain ⟨r, hr⟩ := drop_get hj
      rw [hr]
      simp only [Option.bind_some]
      cases hd : og.dst with
      | none => rfl
      | some d =>
        have hlt : d < n := hok og (List.mem_of_getElem? hj) d hd
        have hget := setAll_get L ws h.lt d
        have hlt2 : d < (setAll L ws).toArray.size := by simp [setAll_len, h.1, hlt]
        simp only [Array.getD, hlt2, dif_pos] at hget
        simp only [Option.bind_some]
        rw [Array.getElem?_eq_getElem hlt2]
        have e : (setAll L ws).toArray[d] = look ws (base L) d := hget
        rw [e]
        cases look ws (base L) d <;> rfl
def dstOk (n : Nat) : List Oper → Bool
  | [] => true
  | o :: r => (match o.dst with | some d => Nat.blt d n | none => true) && dstOk n r
theorem dstOk_spec {ops : List Oper} (h : dstOk n ops = true) : ∀ x ∈ ops, ∀ d, x.dst = some d → d < n := by
  induction ops with
  | nil => intro x hx; cases hx
  | cons o r ih =>
    unfold dstOk at h
    obtain ⟨h1, h2⟩ := Bool.and_eq_true_iff.1 h
    intro x hx d hd
    rcases List.mem_cons.1 hx with e | hx
    · rw [← e, hd] at h1; exact Nat.blt_eq.mp h1
    · exact ih h2 x hx d hd
theorem pl_nil {ops : List Oper} (h : QW Q .normal n L ws w) : PL P ops [] Q n L ws w := ⟨h.out⟩
theorem pl_take {ops rest : List Oper} {o : Oper} {d : Nat} (v : Value) (hdst : o.dst = some d) (hok : dstOk n ops = true) (hd : Nat.blt d n = true) (hw : wantP ops L ws o.guard = true)
    (hr : (execOp (evalW L ws) o).run P w = .ok (.value v) w) (h : PL P ops rest Q n L ((d, v) :: ws) w) : PL P ops (o :: rest) Q n L ws w := ⟨fun b => by
  refine wpList_step fun K hK => ?_
  rw [if_pos (wantP_spec b (dstOk_spec hok) hw)]
  unfold Oper.wp
  rw [eval_W b.lt, hr, Oper.upon_value]
  refine hK _ _ ?_
  rw [put_W, hdst]; exact h.out (b.put hd)⟩
theorem pl_skip {ops rest : List Oper} {o : Oper} {d : Nat} (hdst : o.dst = some d) (hok : dstOk n ops = true) (hd : Nat.blt d n = true) (hw : wantP ops L ws o.guard = false)
    (h : PL P ops rest Q n L ((d, undef) :: ws) w) : PL P ops (o :: rest) Q n L ws w := ⟨fun b => by
  refine wpList_step fun K hK => ?_
  rw [if_neg (by rw [wantP_spec b (dstOk_spec hok) hw]; simp)]
  refine hK _ _ ?_
  rw [put_W, hdst]; exact h.out (b.put hd)⟩
theorem pl_step {ops rest : List Oper} {o : Oper} {d : Nat} (hdst : o.dst = some d) (hok : dstOk n ops = true) (hd : Nat.blt d n = true) (hw : wantP ops L ws o.guard = true)
    (h : StepN P (evalW L ws) o w fun v w' => PL P ops rest Q n L ((d, v) :: ws) w') : PL P ops (o :: rest) Q n L ws w := ⟨fun b => by
  refine wpList_step fun K hK => ?_
  rw [if_pos (wantP_spec b (dstOk_spec hok) hw)]
  exact h.wp (eval_W b.lt []) fun v w' hn => hK _ _ (by rw [put_W, hdst]; exact hn.out (b.put hd))⟩
theorem pl_put {ops rest : List Oper} {o : Oper} (hdst : o.dst = none) (hok : dstOk n ops = true) (hw : wantP ops L ws o.guard = true)
    (h : StepN P (evalW L ws) o w fun _ w' => PL P ops rest Q n L ws w') : PL P ops (o :: rest) Q n L ws w := ⟨fun b => by
  refine wpList_step fun K hK => ?_
  rw [if_pos (wantP_spec b (dstOk_spec hok) hw)]
  exact h.wp (eval_W b.lt []) fun v w' hn => hK _ _ (by rw [put_W, hdst]; exact hn.out b)⟩
def Calm (Q : Exit → Act → World → Prop) : Prop := ∀ c d v a w, Q (.panic c) (Act.put a d v) w → Q (.panic c) a w
theorem calm_then {K : Act → World → Prop} (h : Calm Q) : Calm (Exit.then K Q) := fun c d v a w h' => h c d v a w h'
theorem calm_block {id : Nat} (h : Calm Q) : Calm (Exit.inBlock id Q) := fun c d v a w h' => h c d v a w h'
theorem calm_body {fn : Func} {R : Ending → World → Prop} : Calm (bodyPost P fn R) := fun c d v a w h => by cases d <;> exact h
theorem cw_draw {id : Nat} {ops0 : Array Oper} (T : List Row) (S : World → Prop) (hm : P.follows .mixedOrders = true) (ht : tableR ops0 = T) (hg : goodT n ops0.size T = true) (hs : Region.noSelect ops0 = true) (hQ : Calm Q) (hS : S w.drew)
    (h : ∀ (ops : Array Oper) (Q' : Exit → Act → World → Prop) (X : World), Ext w X → L.length = n → Reg P ops0 ops Q' L T → Shut (∀ ws w, QW Q .normal n L ws w → QW Q' .normal n L ws w) → WD P ops Q' S L ops0.size [] ws X) : CW P (.region id ops0 true) Q n L ws w := ⟨fun b => by
  refine wp_region_held_drew hm hS fun hS => ?_
  exact (h ops0 Q _ (Ext.drew (Ext.refl _)) b.1 ⟨rfl, ht, by rw [b.1]; exact hg, hs, hQ⟩ (fun _ _ h => h)).out b.lt⟩
variable {ops0 ops : Array Oper} {Q' : Exit → Act → World → Prop} {T : List Row} {S : World → Prop} {fuel : Nat} {done : List Nat}
theorem StepN.toD {S : World → Prop} {oi : Oper} {L' : Value → List (Nat × Value)} {Q' : Exit → Act → World → Prop} {ops : Array Oper} {fuel : Nat} {done : List Nat} (h : StepN P (evalW L ws) oi w fun v w' => S w' ∧ WD P ops Q' S L fuel done (L' v) w') : StepW P S L ws oi w fun v w' => S w' → W P ops Q' S L [] fuel done (L' v) w' :=
  StepN.toW (N := fun v w' => W P ops Q' S L [] fuel done (L' v) w') (by
    rcases h with ⟨v, w', h1, h3⟩ | ⟨w', h1, h3⟩ | ⟨f, args, h1, h2⟩
    · exact .inl ⟨v, w', h1, h3.1, h3.2.out⟩
    · exact .inr (.inl ⟨w', h1, h3.1, h3.2.out⟩)
    · exact .inr (.inr ⟨f, args, h1, h2.mono fun e w' ⟨v, he, hn⟩ => ⟨v, he, hn.1, hn.2.out⟩⟩))
theorem wd_end (hL : L.length = n) (hR : Reg P ops0 ops Q' L T) (hK : Shut (∀ ws w, QW Q .normal n L ws w → QW Q' .normal n L ws w)) (hd : upT done (numbered T 0) = []) (h : QW Q .normal n L ws w) : WD P ops Q' S L fuel done ws w := ⟨fun hb => by
  refine wpAnyH_done ?_ ?_ fuel
  · rw [List.eq_nil_iff_forall_not_mem]
    intro j hj
    have := ready_up hR hj
    rw [hd] at this; cases this
  · exact (hK _ _ h).out ⟨hL, fun p hp => by rw [← hL]; exact hb p hp⟩⟩
theorem wd_take (i : Nat) {d : Nat} {oi : Oper} {r : List Oper} (v : Value) (hR : Reg P ops0 ops Q' L T) (hi : ops0.toList.drop i = oi :: r) (hr : readyT T done i = true) (hdst : oi.dst = some d)
    (hw : wantedW T L ws oi.guard = true) (hy : ∀ w, S w → (execOp (evalW L ws) oi).run P w = .ok (.value v) w) (hS : S w)
    (h : WD P ops Q' S L fuel (i :: done) ((d, v) :: ws) w) : WD P ops Q' S L (fuel + 1) done ws w := ⟨wg_take i hR hi hr hw hy hS (by rw [hdst]; exact h.out)⟩
theorem wd_skip (i : Nat) {d : Nat} {oi : Oper} {r : List Oper} (hR : Reg P ops0 ops Q' L T) (hi : ops0.toList.drop i = oi :: r) (hr : readyT T done i = true) (hdst : oi.dst = some d)
    (hw : wantedW T L ws oi.guard = false) (hS : S w)
    (h : WD P ops Q' S L fuel (i :: done) ((d, undef) :: ws) w) : WD P ops Q' S L (fuel + 1) done ws w := ⟨wg_skip i hR hi hr hw hS (by rw [hdst]; exact h.out)⟩
theorem wd_step (i : Nat) {oi : Oper} {r : List Oper} (hR : Reg P ops0 ops Q' L T) (hi : ops0.toList.drop i = oi :: r) (hr : upT done (numbered T 0) = [i]) (hr2 : readyT T done i = true)
    (hw : wantedW T L ws oi.guard = true) (h : StepN P (evalW L ws) oi w fun v w' => S w' ∧ WD P ops Q' S L fuel (i :: done) (putW oi.dst v ws) w') : WD P ops Q' S L (fuel + 1) done ws w := ⟨wg_step i hR hi hr hw h.toD hr2⟩
theorem wd_two (i j : Nat) {oi oj : Oper} {r s : List Oper} (hR : Reg P ops0 ops Q' L T) (hi : ops0.toList.drop i = oi :: r) (hj : ops0.toList.drop j = oj :: s) (hr : upT done (numbered T 0) = [i, j]) (hr2 : readyT T done i = true)
    (hwi : wantedW T L ws oi.guard = true) (hwj : wantedW T L ws oj.guard = true)
    (h1 : StepN P (evalW L ws) oi w fun v w' => S w' ∧ WD P ops Q' S L fuel (i :: done) (putW oi.dst v ws) w')
    (h2 : StepN P (evalW L ws) oj w fun v w' => S w' ∧ WD P ops Q' S L fuel (j :: done) (putW oj.dst v ws) w') : WD P ops Q' S L (fuel + 1) done ws w := ⟨wg_two i j hR hi hj hr hwi hwj hr2 h1.toD h2.toD⟩
def pickW (ws : List (Nat × Value)) : List Nat → Option (List (Nat × Value))
  | [] => some []
  | k :: ks => match lookO ws k, pickW ws ks with
    | some v, some r => some ((k, v) :: r)
    | _, _ => none
theorem pick_look : ∀ {ks : List Nat} {ws' : List (Nat × Value)}, pickW ws ks = some ws' → ∀ t v, lookO ws' t = some v → lookO ws t = some v
  | [], ws', h, t, v, ht => by cases h; cases ht
  | k :: ks, ws', h, t, v, ht => by
    unfold pickW at h
    cases e1 : lookO ws k with
    | none => rw [e1] at h; cases h
    | some u =>
      cases e2 : pickW ws ks with
      | none => rw [e1, e2] at h; cases h
      | some r =>
        rw [e1, e2] at h; cases h
        unfold lookO at ht
        by_cases e : t = k
        · rw [if_pos e] at ht; subst e; rw [e1]; exact ht
        · rw [if_neg e] at ht; exact pick_look e2 t v ht
theorem look_mem : ∀ {ws : List (Nat × Value)} {t : Nat} {v : Value}, lookO ws t = some v → (t, v) ∈ ws
  | (d, u) :: r, t, v, h => by
    unfold lookO at h
    by_cases e : t = d
    · rw [if_pos e] at h; cases h; subst e; exact List.mem_cons_self
    · rw [if_neg e] at h; exact List.mem_cons_of_mem _ (look_mem h)
theorem mem_look : ∀ {ws : List (Nat × Value)} {p : Nat × Value}, p ∈ ws → ∃ v, lookO ws p.1 = some v
  | (d, u) :: r, p, h => by
    by_cases e : p.1 = d
    · exact ⟨u, by rw [lookO, if_pos e]⟩
    · rcases List.mem_cons.1 h with rfl | h
      · exact absurd rfl e
      · obtain ⟨v, hv⟩ := mem_look h
        exact ⟨v, by rw [lookO, if_neg e, hv]⟩
theorem pick_set {ks : List Nat} {ws' : List (Nat × Value)} (h : pickW ws ks = some ws') : setAll (setAll L ws) ws' = setAll L ws := by
  refine List.ext_getElem? fun t => ?_
  rw [setAll_get?, setAll_len]
  split
  · rename_i ht
    cases e : lookO ws' t with
    | none => simp
    | some v =>
      have := pick_look h t v e
      rw [setAll_get?, if_pos ht, this]; rfl
  · rename_i ht
    rw [setAll_get?, if_neg ht]
theorem pick_bd {ks : List Nat} {ws' : List (Nat × Value)} (h : pickW ws ks = some ws') (b : Bd n L ws) : Bd n (setAll L ws) ws' :=
  ⟨by rw [setAll_len]; exact b.1, fun p hp => by
    obtain ⟨v, hv⟩ := mem_look hp
    exact b.2 (p.1, v) (look_mem (pick_look h _ _ hv))⟩
theorem cw_clean {c : Code} (ks : List Nat) {ws' : List (Nat × Value)} (hp : pickW ws ks = some ws') (h : ∀ L', CW P c Q n L' ws' w) : CW P c Q n L ws w := ⟨fun b => by
  have := (h (setAll L ws)).out (pick_bd hp b)
  rwa [pick_set hp] at this⟩
theorem cw_join {c : Code} (R : List (Nat × Value) → World → Prop) (main : (∀ L' ws' w', R ws' w' → QW Q .normal n L' ws' w') → CW P c Q n L ws w) (rest : ∀ L' ws' w', R ws' w' → QW Q .normal n L' ws' w') : CW P c Q n L ws w := main rest
theorem qw_leaf {R : List (Nat × Value) → World → Prop} (hJ : ∀ L' ws' w', R ws' w' → QW Q .normal n L' ws' w') (ks : List Nat) {ws' : List (Nat × Value)} (hp : pickW ws ks = some ws') (h : R ws' w) : QW Q .normal n L ws w := ⟨fun b => by
  have := (hJ (setAll L ws) ws' w h).out (pick_bd hp b)
  rwa [pick_set hp] at this⟩
theorem least {p : Nat → Prop} : (∃ m, p m) → ∃ m, p m ∧ ∀ k, p k → m ≤ k := by
  rintro ⟨m, hm⟩
  induction m using Nat.strongRecOn with
  | _ m ih =>
    by_cases h : ∃ k, k < m ∧ p k
    · obtain ⟨k, hk, hp⟩ := h; exact ih k hk hp
    · exact ⟨m, hm, fun k hk => Nat.le_of_not_lt fun hlt => h ⟨k, hlt, hk⟩⟩
def LoopK (n : Nat) (Inv : List (Nat × Value) → World → Nat → Prop) (m : Nat) : Act → World → Prop := fun a w => ∃ L' ws' m', m' < m ∧ Bd n L' ws' ∧ a = ⟨(setAll L' ws').toArray, []⟩ ∧ Inv ws' w m'
open Classical in
theorem cw_loop {c : Code} (ks : List Nat) (Inv : List (Nat × Value) → World → Nat → Prop) {ws0 : List (Nat × Value)} (hp : pickW ws ks = some ws0) (m0 : Nat) (h0 : Inv ws0 w m0)
    (round : ∀ m L' ws' w', Inv ws' w' m → CW P c (Exit.then (LoopK n Inv m) Q) n L' ws' w') : CW P (.loop c) Q n L ws w := ⟨fun b => by
  let J : Nat → Act → World → Prop := fun m a w => ∃ L' ws', Bd n L' ws' ∧ a = ⟨(setAll L' ws').toArray, []⟩ ∧ Inv ws' w m
  let μ : Act → World → Nat := fun a w => if h : ∃ m, J m a w then Classical.choose (least h) else 0
  have hμ : ∀ a w (h : ∃ m, J m a w), J (μ a w) a w ∧ ∀ k, J k a w → μ a w ≤ k := fun a w h => by
    have e : μ a w = Classical.choose (least h) := dif_pos h
    rw [e]; exact Classical.choose_spec (least h)
  refine wp_loop (fun a w => ∃ m, J m a w) μ ⟨m0, setAll L ws, ws0, pick_bd hp b, by rw [pick_set hp], h0⟩ fun a w h => ?_
  obtain ⟨⟨L', ws', hb, ha, hI⟩, _⟩ := hμ a w h
  have := (round (μ a w) L' ws' w hI).out hb
  rw [← ha] at this
  refine Code.wp_mono (fun e a' w' q => ?_) this
  cases e with
  | normal =>
    obtain ⟨L2, ws2, m2, hlt, hb2, ha2, hI2⟩ := q
    have hJ : J m2 a' w' := ⟨L2, ws2, hb2, ha2, hI2⟩
    exact ⟨⟨m2, hJ⟩, Nat.lt_of_le_of_lt ((hμ a' w' ⟨m2, hJ⟩).2 m2 hJ) hlt⟩
  | _ => exact q⟩
theorem qw_round {Inv : List (Nat × Value) → World → Nat → Prop} {m : Nat} (ks : List Nat) {ws' : List (Nat × Value)} (hp : pickW ws ks = some ws') (m' : Nat) (hlt : m' < m) (h : Inv ws' w m') : QW (Exit.then (LoopK n Inv m) Q) .normal n L ws w := ⟨fun b =>
  ⟨setAll L ws, ws', m', hlt, pick_bd hp b, by rw [pick_set hp], h⟩⟩
end
theorem T {a b c : Nat} (h : a ≤ b) (k : b ≤ c) : a ≤ c := Nat.le_trans h k
section
variable {P : Program} {n : Nat} {L : List Value} {ws : List (Nat × Value)} {w : World} {Q : Exit → Act → World → Prop}
theorem pT {ops rest : List Oper} {o : Oper} {d : Nat} (v : Value) (h : PL P ops rest Q n L ((d, v) :: ws) w) (hdst : o.dst = some d := by rfl) (hok : dstOk n ops = true := by kernel_rfl) (hd : Nat.blt d n = true := by kernel_rfl) (hw : wantP ops L ws o.guard = true := by kernel_rfl)
    (hr : (execOp (evalW L ws) o).run P w = .ok (.value v) w := by kernel_rfl) : PL P ops (o :: rest) Q n L ws w := pl_take v hdst hok hd hw hr h
theorem pU {ops rest : List Oper} {o : Oper} {d : Nat} (v : Value) (hr : (execOp (evalW L ws) o).run P w = .ok (.value v) w) (h : PL P ops rest Q n L ((d, v) :: ws) w) (hdst : o.dst = some d := by rfl) (hok : dstOk n ops = true := by kernel_rfl) (hd : Nat.blt d n = true := by kernel_rfl) (hw : wantP ops L ws o.guard = true := by kernel_rfl) : PL P ops (o :: rest) Q n L ws w := pl_take v hdst hok hd hw hr h
theorem pK {ops rest : List Oper} {o : Oper} {d : Nat} (h : PL P ops rest Q n L ((d, undef) :: ws) w) (hdst : o.dst = some d := by rfl) (hok : dstOk n ops = true := by kernel_rfl) (hd : Nat.blt d n = true := by kernel_rfl) (hw : wantP ops L ws o.guard = false := by kernel_rfl) : PL P ops (o :: rest) Q n L ws w := pl_skip hdst hok hd hw h
theorem pS {ops rest : List Oper} {o : Oper} {d : Nat} (h : StepN P (evalW L ws) o w fun v w' => PL P ops rest Q n L ((d, v) :: ws) w') (hdst : o.dst = some d := by rfl) (hok : dstOk n ops = true := by kernel_rfl) (hd : Nat.blt d n = true := by kernel_rfl) (hw : wantP ops L ws o.guard = true := by kernel_rfl) : PL P ops (o :: rest) Q n L ws w := pl_step hdst hok hd hw h
theorem pP {ops rest : List Oper} {o : Oper} (h : StepN P (evalW L ws) o w fun _ w' => PL P ops rest Q n L ws w') (hdst : o.dst = none := by rfl) (hok : dstOk n ops = true := by kernel_rfl) (hw : wantP ops L ws o.guard = true := by kernel_rfl) : PL P ops (o :: rest) Q n L ws w := pl_put hdst hok hw h
variable {ops0 ops : Array Oper} {Q' : Exit → Act → World → Prop} {T9 : List Row} {S : World → Prop} {fuel : Nat} {done : List Nat}
theorem wS (i : Nat) {oi : Oper} {r : List Oper} (hR : Reg P ops0 ops Q' L T9) (h : StepN P (evalW L ws) oi w fun v w' => S w' ∧ WD P ops Q' S L fuel (i :: done) (putW oi.dst v ws) w') (hi : ops0.toList.drop i = oi :: r := by rfl) (hr : upT done (numbered T9 0) = [i] := by kernel_rfl) (hr2 : readyT T9 done i = true := by kernel_rfl)
    (hw : wantedW T9 L ws oi.guard = true := by kernel_rfl) : WD P ops Q' S L (fuel + 1) done ws w := wd_step i hR hi hr hr2 hw h
class At1 (ws : List (Nat × Value)) (k : Nat) (v : outParam Value) : Prop where
  out : True
instance {k : Nat} {v : Value} {r : List (Nat × Value)} : At1 ((k, v) :: r) k v := ⟨trivial⟩
instance (priority := low) {k : Nat} {p : Nat × Value} {v : Value} {r : List (Nat × Value)} [At1 r k v] : At1 (p :: r) k v := ⟨trivial⟩
instance {k : Nat} {v : Value} {r : List (Nat × Value)} : At1 (putW (some k) v r) k v := ⟨trivial⟩
instance (priority := low) {k d : Nat} {u v : Value} {r : List (Nat × Value)} [At1 r k v] : At1 (putW (some d) u r) k v := ⟨trivial⟩
instance (priority := low) {k : Nat} {u v : Value} {r : List (Nat × Value)} [At1 r k v] : At1 (putW none u r) k v := ⟨trivial⟩
end
theorem bq1 {X : World} {O : Nat} {u0 : Value} (h : ∀ i u, (#[u0] : Array Value)[i]? = some u → BoxAt X O i u) : BoxAt X O 0 u0 := h 0 _ rfl
theorem bq2 {X : World} {O : Nat} {u0 u1 : Value} (h : ∀ i u, (#[u0, u1] : Array Value)[i]? = some u → BoxAt X O i u) : BoxAt X O 0 u0 ∧ BoxAt X O 1 u1 := ⟨h 0 _ rfl, h 1 _ rfl⟩
theorem bq3 {X : World} {O : Nat} {u0 u1 u2 : Value} (h : ∀ i u, (#[u0, u1, u2] : Array Value)[i]? = some u → BoxAt X O i u) : BoxAt X O 0 u0 ∧ BoxAt X O 1 u1 ∧ BoxAt X O 2 u2 := ⟨h 0 _ rfl, h 1 _ rfl, h 2 _ rfl⟩
theorem bq4 {X : World} {O : Nat} {u0 u1 u2 u3 : Value} (h : ∀ i u, (#[u0, u1, u2, u3] : Array Value)[i]? = some u → BoxAt X O i u) : BoxAt X O 0 u0 ∧ BoxAt X O 1 u1 ∧ BoxAt X O 2 u2 ∧ BoxAt X O 3 u3 := ⟨h 0 _ rfl, h 1 _ rfl, h 2 _ rfl, h 3 _ rfl⟩
theorem bq7 {X : World} {O : Nat} {u0 u1 u2 u3 u4 u5 u6 : Value} (h : ∀ i u, (#[u0, u1, u2, u3, u4, u5, u6] : Array Value)[i]? = some u → BoxAt X O i u) : BoxAt X O 0 u0 ∧ BoxAt X O 1 u1 ∧ BoxAt X O 2 u2 ∧ BoxAt X O 3 u3 ∧ BoxAt X O 4 u4 ∧ BoxAt X O 5 u5 ∧ BoxAt X O 6 u6 := ⟨h 0 _ rfl, h 1 _ rfl, h 2 _ rfl, h 3 _ rfl, h 4 _ rfl, h 5 _ rfl, h 6 _ rfl⟩
theorem bq8 {X : World} {O : Nat} {u0 u1 u2 u3 u4 u5 u6 u7 : Value} (h : ∀ i u, (#[u0, u1, u2, u3, u4, u5, u6, u7] : Array Value)[i]? = some u → BoxAt X O i u) : BoxAt X O 0 u0 ∧ BoxAt X O 1 u1 ∧ BoxAt X O 2 u2 ∧ BoxAt X O 3 u3 ∧ BoxAt X O 4 u4 ∧ BoxAt X O 5 u5 ∧ BoxAt X O 6 u6 ∧ BoxAt X O 7 u7 := ⟨h 0 _ rfl, h 1 _ rfl, h 2 _ rfl, h 3 _ rfl, h 4 _ rfl, h 5 _ rfl, h 6 _ rfl, h 7 _ rfl⟩
section
variable {P : Program} {n : Nat} {L : List Value} {ws : List (Nat × Value)} {w : World} {Q : Exit → Act → World → Prop}
variable {ops0 ops : Array Oper} {Q' : Exit → Act → World → Prop} {T9 : List Row} {S : World → Prop} {fuel : Nat} {done : List Nat}
theorem wV (i : Nat) {d : Nat} {oi : Oper} {r : List Oper} (v : Value) (hR : Reg P ops0 ops Q' L T9) (hS : S w) (h : WD P ops Q' S L fuel (i :: done) ((d, v) :: ws) w) (hi : ops0.toList.drop i = oi :: r := by rfl) (hr : readyT T9 done i = true := by kernel_rfl) (hdst : oi.dst = some d := by rfl) (hw : wantedW T9 L ws oi.guard = true := by kernel_rfl)
    (hy : ∀ w, S w → (execOp (evalW L ws) oi).run P w = .ok (.value v) w := by intro w _; kernel_rfl) : WD P ops Q' S L (fuel + 1) done ws w := wd_take i v hR hi hr hdst hw hy hS h
theorem wL (i : Nat) {d : Nat} {oi : Oper} {r : List Oper} (v : Value) (hR : Reg P ops0 ops Q' L T9) (hy : ∀ w, S w → (execOp (evalW L ws) oi).run P w = .ok (.value v) w) (hS : S w) (h : WD P ops Q' S L fuel (i :: done) ((d, v) :: ws) w)
    (hi : ops0.toList.drop i = oi :: r := by rfl) (hr : readyT T9 done i = true := by kernel_rfl) (hdst : oi.dst = some d := by rfl) (hw : wantedW T9 L ws oi.guard = true := by kernel_rfl) : WD P ops Q' S L (fuel + 1) done ws w := wd_take i v hR hi hr hdst hw hy hS h
theorem wK (i : Nat) {d : Nat} {oi : Oper} {r : List Oper} (hR : Reg P ops0 ops Q' L T9) (hS : S w) (h : WD P ops Q' S L fuel (i :: done) ((d, undef) :: ws) w) (hi : ops0.toList.drop i = oi :: r := by rfl) (hr : readyT T9 done i = true := by kernel_rfl) (hdst : oi.dst = some d := by rfl) (hw : wantedW T9 L ws oi.guard = false := by kernel_rfl) : WD P ops Q' S L (fuel + 1) done ws w := wd_skip i hR hi hr hdst hw hS h
theorem BoxAt.x {w w' : World} {b o : Nat} {v : Value} (h : BoxAt w b o v) (hE : Ext w w') : BoxAt w' b o v := BoxAt.ext hE h
theorem A2 {p0 p1 : Prop} (h0 : p0) (h1 : p1) : p0 ∧ p1 := ⟨h0, h1⟩
theorem A3 {p0 p1 p2 : Prop} (h0 : p0) (h1 : p1) (h2 : p2) : p0 ∧ p1 ∧ p2 := ⟨h0, h1, h2⟩
theorem A5 {p0 p1 p2 p3 p4 : Prop} (h0 : p0) (h1 : p1) (h2 : p2) (h3 : p3) (h4 : p4) : p0 ∧ p1 ∧ p2 ∧ p3 ∧ p4 := ⟨h0, h1, h2, h3, h4⟩
theorem A8 {p0 p1 p2 p3 p4 p5 p6 p7 : Prop} (h0 : p0) (h1 : p1) (h2 : p2) (h3 : p3) (h4 : p4) (h5 : p5) (h6 : p6) (h7 : p7) : p0 ∧ p1 ∧ p2 ∧ p3 ∧ p4 ∧ p5 ∧ p6 ∧ p7 := ⟨h0, h1, h2, h3, h4, h5, h6, h7⟩
theorem A10 {p0 p1 p2 p3 p4 p5 p6 p7 p8 p9 : Prop} (h0 : p0) (h1 : p1) (h2 : p2) (h3 : p3) (h4 : p4) (h5 : p5) (h6 : p6) (h7 : p7) (h8 : p8) (h9 : p9) : p0 ∧ p1 ∧ p2 ∧ p3 ∧ p4 ∧ p5 ∧ p6 ∧ p7 ∧ p8 ∧ p9 := ⟨h0, h1, h2, h3, h4, h5, h6, h7, h8, h9⟩
end
class MvC (w w' : World) (p : Prop) (p' : outParam Prop) : Prop where
  out : Ext w w' → p → p'
instance {w w' : World} {b o : Nat} {v : Value} : MvC w w' (BoxAt w b o v) (BoxAt w' b o v) := ⟨fun e h => BoxAt.ext e h⟩
instance {w w' U : World} : MvC w w' (Ext U w) (Ext U w') := ⟨fun e h => h.trans e⟩
instance {w w' : World} {b o : Nat} {l : List Int} : MvC w w' (VA w b o l) (VA w' b o l) := ⟨fun e h => h.ext e⟩
instance {w w' : World} {a : Option Addr} {l : List Int} {n : Nat} {v : Bool} : MvC w w' (AA w a l n v) (AA w' a l n v) := ⟨fun e h => h.ext e⟩
theorem mv9 {w w' : World} {p0 q0 p1 q1 p2 q2 p3 q3 p4 q4 p5 q5 p6 q6 p7 q7 p8 q8 G : Prop} [c0 : MvC w w' p0 q0] [c1 : MvC w w' p1 q1] [c2 : MvC w w' p2 q2] [c3 : MvC w w' p3 q3] [c4 : MvC w w' p4 q4] [c5 : MvC w w' p5 q5] [c6 : MvC w w' p6 q6] [c7 : MvC w w' p7 q7] [c8 : MvC w w' p8 q8] (e : Ext w w') (h0 : p0) (h1 : p1) (h2 : p2) (h3 : p3) (h4 : p4) (h5 : p5) (h6 : p6) (h7 : p7) (h8 : p8) (h : q0 → q1 → q2 → q3 → q4 → q5 → q6 → q7 → q8 → G) : G := h (c0.out e h0) (c1.out e h1) (c2.out e h2) (c3.out e h3) (c4.out e h4) (c5.out e h5) (c6.out e h6) (c7.out e h7) (c8.out e h8)
theorem mv7 {w w' : World} {p0 q0 p1 q1 p2 q2 p3 q3 p4 q4 p5 q5 p6 q6 G : Prop} [c0 : MvC w w' p0 q0] [c1 : MvC w w' p1 q1] [c2 : MvC w w' p2 q2] [c3 : MvC w w' p3 q3] [c4 : MvC w w' p4 q4] [c5 : MvC w w' p5 q5] [c6 : MvC w w' p6 q6] (e : Ext w w') (h0 : p0) (h1 : p1) (h2 : p2) (h3 : p3) (h4 : p4) (h5 : p5) (h6 : p6) (h : q0 → q1 → q2 → q3 → q4 → q5 → q6 → G) : G := h (c0.out e h0) (c1.out e h1) (c2.out e h2) (c3.out e h3) (c4.out e h4) (c5.out e h5) (c6.out e h6)
theorem mv6 {w w' : World} {p0 q0 p1 q1 p2 q2 p3 q3 p4 q4 p5 q5 G : Prop} [c0 : MvC w w' p0 q0] [c1 : MvC w w' p1 q1] [c2 : MvC w w' p2 q2] [c3 : MvC w w' p3 q3] [c4 : MvC w w' p4 q4] [c5 : MvC w w' p5 q5] (e : Ext w w') (h0 : p0) (h1 : p1) (h2 : p2) (h3 : p3) (h4 : p4) (h5 : p5) (h : q0 → q1 → q2 → q3 → q4 → q5 → G) : G := h (c0.out e h0) (c1.out e h1) (c2.out e h2) (c3.out e h3) (c4.out e h4) (c5.out e h5)
theorem mv5 {w w' : World} {p0 q0 p1 q1 p2 q2 p3 q3 p4 q4 G : Prop} [c0 : MvC w w' p0 q0] [c1 : MvC w w' p1 q1] [c2 : MvC w w' p2 q2] [c3 : MvC w w' p3 q3] [c4 : MvC w w' p4 q4] (e : Ext w w') (h0 : p0) (h1 : p1) (h2 : p2) (h3 : p3) (h4 : p4) (h : q0 → q1 → q2 → q3 → q4 → G) : G := h (c0.out e h0) (c1.out e h1) (c2.out e h2) (c3.out e h3) (c4.out e h4)
theorem mv4 {w w' : World} {p0 q0 p1 q1 p2 q2 p3 q3 G : Prop} [c0 : MvC w w' p0 q0] [c1 : MvC w w' p1 q1] [c2 : MvC w w' p2 q2] [c3 : MvC w w' p3 q3] (e : Ext w w') (h0 : p0) (h1 : p1) (h2 : p2) (h3 : p3) (h : q0 → q1 → q2 → q3 → G) : G := h (c0.out e h0) (c1.out e h1) (c2.out e h2) (c3.out e h3)
theorem mv3 {w w' : World} {p0 q0 p1 q1 p2 q2 G : Prop} [c0 : MvC w w' p0 q0] [c1 : MvC w w' p1 q1] [c2 : MvC w w' p2 q2] (e : Ext w w') (h0 : p0) (h1 : p1) (h2 : p2) (h : q0 → q1 → q2 → G) : G := h (c0.out e h0) (c1.out e h1) (c2.out e h2)
theorem mv2 {w w' : World} {p0 q0 p1 q1 G : Prop} [c0 : MvC w w' p0 q0] [c1 : MvC w w' p1 q1] (e : Ext w w') (h0 : p0) (h1 : p1) (h : q0 → q1 → G) : G := h (c0.out e h0) (c1.out e h1)
theorem Only.bx {O : Nat} {w X : World} (h : Only O w X) (b : Nat) (hb : O ≠ b) ⦃o : Nat⦄ ⦃u : Value⦄ (hv : BoxAt w b o u) : BoxAt X b o u := h.box hb hv
theorem Only.sz {O : Nat} {w X : World} (h : Only O w X) : w.heap.size ≤ X.heap.size := Nat.le_of_eq h.size.symm
class CalmC (Q : Exit → Act → World → Prop) : Prop where
  out : Calm Q
instance {Q : Exit → Act → World → Prop} {K : Act → World → Prop} [h : CalmC Q] : CalmC (Exit.then K Q) := ⟨calm_then h.out⟩
instance {Q : Exit → Act → World → Prop} {id : Nat} [h : CalmC Q] : CalmC (Exit.inBlock id Q) := ⟨calm_block h.out⟩
instance {P : Program} {fn : Func} {R : Ending → World → Prop} : CalmC (bodyPost P fn R) := ⟨calm_body⟩
theorem rb {b c : Bool} (h : b = c) : Ending.returned (.bool b) = Ending.returned (.bool c) := h ▸ rfl
theorem BoxAt.c {w w' : World} {b o : Nat} {v : Value} (h : BoxAt w b o v) (hE : Ext w w') : w'.cell? ⟨b, o, none⟩ = some v := (BoxAt.ext hE h).1
@[reducible] def iv (x : Int) : Value := .int .i64 x
@[reducible] def pw (b o : Nat) : Value := .pointer (some ⟨b, o, none⟩)
@[reducible] def sv (b o n c : Nat) : Value := .slice (some ⟨b, o, none⟩) n c
section
variable {P : Program} {n : Nat} {L : List Value} {ws : List (Nat × Value)} {w : World} {Q : Exit → Act → World → Prop}
theorem zt {c : Operand} {x y : Code} (h : CW P x Q n L ws w) (hc : evalW L ws c = .bool true := by kernel_rfl) : CW P (.cond c x y) Q n L ws w := cw_t hc h
theorem zf {c : Operand} {x y : Code} (h : CW P y Q n L ws w) (hc : evalW L ws c = .bool false := by kernel_rfl) : CW P (.cond c x y) Q n L ws w := cw_f hc h
theorem pick_got {ks : List Nat} (h : (pickW ws ks).isSome = true) : pickW ws ks = some ((pickW ws ks).getD []) := by
  cases q : pickW ws ks with
  | none => rw [q] at h; cases h
  | some v => rfl
theorem zl {R : List (Nat × Value) → World → Prop} (hJ : ∀ L' ws' w', R ws' w' → QW Q .normal n L' ws' w') (ks : List Nat) (h : R ((pickW ws ks).getD []) w) (hp : (pickW ws ks).isSome = true := by kernel_rfl) : QW Q .normal n L ws w := qw_leaf hJ ks (pick_got hp) h
theorem zr {Inv : List (Nat × Value) → World → Nat → Prop} {m : Nat} (ks : List Nat) (m' : Nat) (hlt : m' < m) (h : Inv ((pickW ws ks).getD []) w m') (hp : (pickW ws ks).isSome = true := by kernel_rfl) : QW (Exit.then (LoopK n Inv m) Q) .normal n L ws w := qw_round ks (pick_got hp) m' hlt h
theorem zc {x y : Code} (h : CW P x (Exit.then (y.wp P Q) Q) n L ws w) : CW P (.seq x y) Q n L ws w := cw_seq h
theorem zp {id : Nat} {l : List Oper} (h : PL P l l Q n L ws w) : CW P (.region id l.toArray false) Q n L ws w := cw_plain h
theorem zq {y : Code} (h : CW P y Q n L ws w) : QW (Exit.then (y.wp P Q) Q) .normal n L ws w := qw_then h
theorem zn {ops : List Oper} {y : Code} (h : CW P y Q n L ws w) : PL P ops [] (Exit.then (y.wp P Q) Q) n L ws w := pl_nil (qw_then h)
theorem sc {ev : Operand → Value} {oi : Oper} {N : Value → World → Prop} (f : FuncId) (args : Array Value) (h2 : Calls P f args w fun e w' => ∃ v, e = .returned v ∧ N v w') (h1 : (execOp ev oi).run P w = .ok (.enter f args) w := by kernel_rfl) : StepN P ev oi w N := sn_call h1 h2
theorem sw {ev : Operand → Value} {oi : Oper} {N : Value → World → Prop} (t : TypeId) (us : Array Value) (h : ∀ O X, w.heap.size = O → X.heap.size = O + 1 → Ext w X → (∀ i u, us[i]? = some u → BoxAt X O i u) → N (.pointer (some ⟨O, 0, none⟩)) X)
    (h1 : (execOp ev oi).run P w = .ok (.value (.pointer (some ⟨w.heap.size, 0, none⟩))) (w.alloc (.cells us t)) := by kernel_rfl) : StepN P ev oi w N := sn_new h1 h
variable {ops0 ops : Array Oper} {Q' : Exit → Act → World → Prop} {T9 : List Row} {S : World → Prop} {fuel : Nat} {done : List Nat}
theorem pD {rest : List Oper} {ops : List Oper} {o o2 : Oper} {d d2 : Nat} (v v2 : Value) (h : PL P ops rest Q n L ((d2, v2) :: (d, v) :: ws) w) (hdst : o.dst = some d := by rfl) (hok : dstOk n ops = true := by kernel_rfl) (hd : Nat.blt d n = true := by kernel_rfl) (hw : wantP ops L ws o.guard = true := by kernel_rfl)
    (hr : (execOp (evalW L ws) o).run P w = .ok (.value v) w := by kernel_rfl) (hdst2 : o2.dst = some d2 := by rfl) (hd2 : Nat.blt d2 n = true := by kernel_rfl) (hw2 : wantP ops L ((d, v) :: ws) o2.guard = true := by kernel_rfl) (hr2 : (execOp (evalW L ((d, v) :: ws)) o2).run P w = .ok (.value v2) w := by kernel_rfl) : PL P ops (o :: o2 :: rest) Q n L ws w := pl_take v hdst hok hd hw hr (pl_take v2 hdst2 hok hd2 hw2 hr2 h)
theorem dE {id : Nat} {ops0 : Array Oper} [hQ : CalmC Q] (T : List Row) (S : World → Prop) (hS : S w.drew) (h : ∀ (ops : Array Oper) (Q' : Exit → Act → World → Prop) (X : World), Ext w X → L.length = n → Reg P ops0 ops Q' L T → Shut (∀ ws w, QW Q .normal n L ws w → QW Q' .normal n L ws w) → WD P ops Q' S L ops0.size [] ws X)
    (hm : P.follows .mixedOrders = true := by kernel_rfl) (ht : tableR ops0 = T := by kernel_rfl) (hg : goodT n ops0.size T = true := by kernel_rfl) (hs : Region.noSelect ops0 = true := by kernel_rfl) : CW P (.region id ops0 true) Q n L ws w := cw_draw T S hm ht hg hs hQ.out hS h
class AtL (ws : List (Nat × Value)) (ks : List Nat) (ws' : outParam (List (Nat × Value))) : Prop where
  out : True
instance : AtL ws [] [] := ⟨trivial⟩
instance {k : Nat} {ks : List Nat} {v : Value} {r : List (Nat × Value)} [At1 ws k v] [AtL ws ks r] : AtL ws (k :: ks) ((k, v) :: r) := ⟨trivial⟩
theorem cK (ks : List Nat) {ws' : List (Nat × Value)} {c : Code} [AtL ws ks ws'] (h : ∀ L', CW P c Q n L' ws' w) (hp : pickW ws ks = some ws' := by kernel_rfl) : CW P c Q n L ws w := cw_clean ks hp h
theorem wW (i : Nat) (v : Value) (j : Nat) (v2 : Value) {d d2 : Nat} {oi o2 : Oper} {r r2 : List Oper} (hR : Reg P ops0 ops Q' L T9) (hS : S w) (h : WD P ops Q' S L fuel (j :: i :: done) ((d2, v2) :: (d, v) :: ws) w) (hi : ops0.toList.drop i = oi :: r := by rfl) (hr : readyT T9 done i = true := by kernel_rfl) (hdst : oi.dst = some d := by rfl) (hw : wantedW T9 L ws oi.guard = true := by kernel_rfl)
    (hy : ∀ w, S w → (execOp (evalW L ws) oi).run P w = .ok (.value v) w := by intro w _; kernel_rfl) (hj : ops0.toList.drop j = o2 :: r2 := by rfl) (hr2 : readyT T9 (i :: done) j = true := by kernel_rfl) (hdst2 : o2.dst = some d2 := by rfl) (hw2 : wantedW T9 L ((d, v) :: ws) o2.guard = true := by kernel_rfl) (hy2 : ∀ w, S w → (execOp (evalW L ((d, v) :: ws)) o2).run P w = .ok (.value v2) w := by intro w _; kernel_rfl) : WD P ops Q' S L (fuel + 1 + 1) done ws w := wd_take i v hR hi hr hdst hw hy hS (wd_take j v2 hR hj hr2 hdst2 hw2 hy2 hS h)
theorem wC (i : Nat) (f : FuncId) (args : Array Value) {oi : Oper} {r : List Oper} (hR : Reg P ops0 ops Q' L T9) (h2 : Calls P f args w fun e w' => ∃ v, e = .returned v ∧ (S w' ∧ WD P ops Q' S L fuel (i :: done) (putW oi.dst v ws) w')) (hi : ops0.toList.drop i = oi :: r := by rfl) (hr : upT done (numbered T9 0) = [i] := by kernel_rfl) (hr2 : readyT T9 done i = true := by kernel_rfl)
    (hw : wantedW T9 L ws oi.guard = true := by kernel_rfl) (h1 : (execOp (evalW L ws) oi).run P w = .ok (.enter f args) w := by kernel_rfl) : WD P ops Q' S L (fuel + 1) done ws w := wd_step i hR hi hr hr2 hw (sn_call h1 h2)
theorem wN (i : Nat) (t : TypeId) (us : Array Value) {oi : Oper} {r : List Oper} (hR : Reg P ops0 ops Q' L T9) (h : ∀ O X, w.heap.size = O → X.heap.size = O + 1 → Ext w X → (∀ i u, us[i]? = some u → BoxAt X O i u) → (S X ∧ WD P ops Q' S L fuel (i :: done) (putW oi.dst (.pointer (some ⟨O, 0, none⟩)) ws) X)) (hi : ops0.toList.drop i = oi :: r := by rfl) (hr : upT done (numbered T9 0) = [i] := by kernel_rfl) (hr2 : readyT T9 done i = true := by kernel_rfl)
    (hw : wantedW T9 L ws oi.guard = true := by kernel_rfl) (h1 : (execOp (evalW L ws) oi).run P w = .ok (.value (.pointer (some ⟨w.heap.size, 0, none⟩))) (w.alloc (.cells us t)) := by kernel_rfl) : WD P ops Q' S L (fuel + 1) done ws w := wd_step i hR hi hr hr2 hw (sn_new h1 h)
theorem we (hL : L.length = n) (hR : Reg P ops0 ops Q' L T9) (hK : Shut (∀ ws w, QW Q .normal n L ws w → QW Q' .normal n L ws w)) (h : QW Q .normal n L ws w) (hd : upT done (numbered T9 0) = [] := by kernel_rfl) : WD P ops Q' S L fuel done ws w := wd_end hL hR hK hd h
theorem zw (i j : Nat) {oi oj : Oper} {r s : List Oper} (hR : Reg P ops0 ops Q' L T9)
    (h1 : StepN P (evalW L ws) oi w fun v w' => S w' ∧ WD P ops Q' S L fuel (i :: done) (putW oi.dst v ws) w') (h2 : StepN P (evalW L ws) oj w fun v w' => S w' ∧ WD P ops Q' S L fuel (j :: done) (putW oj.dst v ws) w')
    (hi : ops0.toList.drop i = oi :: r := by rfl) (hj : ops0.toList.drop j = oj :: s := by rfl) (hr : upT done (numbered T9 0) = [i, j] := by kernel_rfl) (hr2 : readyT T9 done i = true := by kernel_rfl)
    (hwi : wantedW T9 L ws oi.guard = true := by kernel_rfl) (hwj : wantedW T9 L ws oj.guard = true := by kernel_rfl) : WD P ops Q' S L (fuel + 1) done ws w := wd_two i j hR hi hj hr hr2 hwi hwj h1 h2
end
end Go.Proofs.YtajdohcgjgknmaaGreatDoor

namespace Go.Proofs.YtajdohcgjgknmaaGreatDoor
open Go.RowKit
section
variable {P : Program} {ev : Operand → Value} {o : Oper} {w : World}
theorem ex_load {t : TypeId} {x : Operand} {p v : Value} (hop : o.op = .load t x) (hx : ev x = p) (h : (Instr.loadAt t p).run P w = .ok v w) : (execOp ev o).run P w = .ok (.value v) w := by
 simp [execOp, hop, hx, h, Result.andThen]
theorem ex_store {t : TypeId} {x y : Operand} {p v : Value} {w' : World} (hop : o.op = .store t x y) (hx : ev x = p) (hy : ev y = v) (h : (Instr.storeAt t p v).run P w = .ok () w') : (execOp ev o).run P w = .ok .skip w' := by
 simp [execOp, hop, hx, hy, h, Result.andThen]
theorem ex_index {t : TypeId} {x y : Operand} {p i v : Value} (hop : o.op = .indexAddr t x y) (hx : ev x = p) (hy : ev y = i) (h : (Instr.indexAt t p i).run P w = .ok v w) : (execOp ev o).run P w = .ok (.value v) w := by
 simp [execOp, hop, hx, hy, h, Result.andThen]
theorem ex_slice {t : TypeId} {x : Operand} {lo hi mx : Option Operand} {lv hv mv : Option Value} {p v : Value} (hop : o.op = .slice t x lo hi mx) (hx : ev x = p) (h1 : lo.map ev = lv) (h2 : hi.map ev = hv) (h3 : mx.map ev = mv)
  (h : (Instr.sliceAt t p lv hv mv).run P w = .ok v w) : (execOp ev o).run P w = .ok (.value v) w := by
 simp [execOp, hop, hx, h1, h2, h3, h, Result.andThen]
theorem ev_wrap {a : Int} {r : Result Next} (h : r = .ok (.value (.int .i64 (IntKind.i64.wrap a))) w) (h0 : -9223372036854775808 ≤ a) (h1 : a ≤ 9223372036854775807) : r = .ok (.value (.int .i64 a)) w := by
 have e : IntKind.i64.wrap a = a := by rw [IntKind.wrap_i64]; omega
 rw [h, e]
theorem ev_int {a b : Int} {k : IntKind} {r : Result Next} (h : r = .ok (.value (.int k a)) w) (e : a = b) : r = .ok (.value (.int k b)) w := by rw [h, e]
theorem ev_bool {b b' : Bool} {r : Result Next} (h : r = .ok (.value (.bool b)) w) (e : b = b') : r = .ok (.value (.bool b')) w := by rw [h, e]
theorem ev_dec {p : Prop} [Decidable p] {r : Result Next} (h : r = .ok (.value (.bool (decide p))) w) (e : p) : r = .ok (.value (.bool true)) w := by rw [h, decide_eq_true e]
theorem ev_ndec {p : Prop} [Decidable p] {r : Result Next} (h : r = .ok (.value (.bool (decide p))) w) (e : ¬ p) : r = .ok (.value (.bool false)) w := by rw [h, decide_eq_false e]
theorem ev_eq {a b : Int} {r : Result Next} (h : r = .ok (.value (.bool (a == b))) w) (e : a = b) : r = .ok (.value (.bool true)) w := by rw [h, e]; simp
theorem ev_neq {a b : Int} {r : Result Next} (h : r = .ok (.value (.bool (a == b))) w) (e : a ≠ b) : r = .ok (.value (.bool false)) w := by rw [h]; simp [e]
end
theorem res_ld {P : Program} {t : TypeId} {ad : Addr} {v : Value} {w : World} (h : (Instr.loadAt t (.pointer (some ad))).run P w = .ok v w) : (loadVar t ad).run P w = .ok v w := h
theorem ex_bin {P : Program} {ev : Operand → Value} {o : Oper} {w : World} {op : BinOp} {t t2 : TypeId} {x y : Operand} {a b : Int} {v : Value} (hop : o.op = .binOp op t x y t2) (hx : ev x = .int .i64 a) (hy : ev y = .int .i64 b)
  (h : (binOp op t (.int .i64 a) (.int .i64 b)).run P w = .ok v w) : (execOp ev o).run P w = .ok (.value v) w := by
 have e : (eqGuard op t x y (.int .i64 a) (.int .i64 b)).run P w = .ok () w := by cases op <;> simp [eqGuard]
 simp [execOp, hop, hx, hy, e, h, Result.andThen]
theorem bin_shl1 {P : Program} {w : World} {t : TypeId} {i : Nat} (hi : i < 62) : (binOp .shl t (.int .i64 1) (.int .i64 i)).run P w = .ok (.int .i64 ((2 ^ i : Nat) : Int)) w := by
 have h0 : ¬ ((i : Int) < 0) := by omega
 have h1 : min (i : Int).toNat 64 = i := by simp; omega
 have h2 : (2 ^ i : Nat) < 2 ^ 62 := Nat.pow_lt_pow_right (by decide) hi
 have e : IntKind.i64.wrap (1 * 2 ^ i) = ((2 ^ i : Nat) : Int) := by
  rw [Int.one_mul, show ((2 : Int) ^ i) = ((2 ^ i : Nat) : Int) by simp, IntKind.wrap_i64]
  generalize (2 ^ i : Nat) = k at h2 ⊢
  omega
 simp only [binOp, Op.shift, if_neg h0, IntKind.bits, h1, e]
 rfl
theorem bin_tmod {P : Program} {w : World} {t : TypeId} {a b : Int} (hb : b ≠ 0) : (binOp .rem t (.int .i64 a) (.int .i64 b)).run P w = .ok (.int .i64 (a.tmod b)) w := by
 simp only [binOp, Op.intDiv, if_neg hb]
 simp
theorem bin_tdiv {P : Program} {w : World} {t : TypeId} {a b : Int} (hb : 0 < b) (h0 : -9223372036854775808 ≤ a) (h1 : a ≤ 9223372036854775807) : (binOp .quo t (.int .i64 a) (.int .i64 b)).run P w = .ok (.int .i64 (a.tdiv b)) w := by
 have hne : ¬ b = 0 := by omega
 have h2 : (a.tdiv b).natAbs ≤ a.natAbs := by rw [Int.natAbs_tdiv]; exact Nat.div_le_self _ _
 have e2 : IntKind.i64.wrap (a.tdiv b) = a.tdiv b := by
  rw [IntKind.wrap_i64]
  have h3 : 0 ≤ a → 0 ≤ a.tdiv b := fun h => Int.tdiv_nonneg h (by omega)
  have h4 : a ≤ 0 → a.tdiv b ≤ 0 := fun h => by
   have := Int.tdiv_nonneg (a := -a) (b := b) (by omega) (by omega)
   rw [Int.neg_tdiv] at this; omega
  generalize a.tdiv b = q at h2 h3 h4 ⊢
  omega
 simp only [binOp, Op.intDiv, if_neg hne, e2]
 simp
theorem VA.cell0 {w : World} {b : Nat} {l : List Int} (h : VA w b 0 l) {y : Nat} (hy : y < 24) : w.cell? ⟨b, y, none⟩ = some (.int .i64 ((Globe.rowN l y : Nat) : Int)) := by have := h.cell hy; rwa [Nat.zero_add] at this
structure Turns (O : Nat) (w X : World) : Prop where
 size : X.heap.size = w.heap.size
 cell' : ∀ p : Addr, p.block ≠ O → X.cell? p = w.cell? p
 froz' : ∀ p : Addr, X.frozen? p = w.frozen? p
 ext' : ∀ a, Ext a w → a.heap.size ≤ O → Ext a X
 heap' : ∀ k, k ≠ O → X.heap[k]? = w.heap[k]?
 oth' : ∀ o : Obj, w.heap[O]? = some o → o.isCells = false → X.heap[O]? = some o
theorem Turns.ext {O : Nat} {a w X : World} (h : Turns O w X) (hE : Ext a w) (hO : a.heap.size ≤ O) : Ext a X := h.ext' a hE hO
theorem Turns.cell {O : Nat} {w X : World} (h : Turns O w X) {p : Addr} {u : Value} (hb : O ≠ p.block) (hv : w.cell? p = some u) : X.cell? p = some u := by
 rw [h.cell' p (fun e => hb e.symm)]; exact hv
theorem Turns.va {O : Nat} {w X : World} (h : Turns O w X) {b o : Nat} {l : List Int} (hb : O ≠ b) (hv : VA w b o l) : VA X b o l := ⟨fun i hi => h.cell hb (hv.1 i hi), hv.2⟩
theorem Turns.box {O : Nat} {w X : World} (h : Turns O w X) {b o : Nat} {u : Value} (hb : O ≠ b) (hv : BoxAt w b o u) : BoxAt X b o u := ⟨h.cell hb hv.1, by rw [h.froz']; exact hv.2⟩
theorem Turns.rows {O : Nat} {w X : World} (h : Turns O w X) {b : Nat} {l : List Int} (hb : O ≠ b) (hv : RowsAt w b l) : RowsAt X b l := ⟨hv.1, fun i hi => h.cell hb (hv.cell hi), fun i hi => by rw [h.froz']; exact hv.free hi⟩
theorem turns_set (w : World) (O j : Nat) (v : Value) : Turns O w (w.setCell ⟨O, j, none⟩ v) :=
 ⟨by simp, fun p hp => World.cell?_setCell_other w _ _ _ (fun e => hp (congrArg Addr.block e).symm), fun p => by simp [go_sem], fun _ hE hO => hE.setCell hO v, fun k hk => Below.heap_setCell _ _ _ _ (fun e => hk e), fun o ho hc => by
  have h2 : (w.setCell ⟨O, j, none⟩ v).heap[O]? = _ := Array.getElem?_modify
  rw [h2, if_pos rfl, ho]
  cases o <;> first | rfl | simp [Obj.isCells] at hc⟩
theorem Turns.trans {O : Nat} {a b c : World} (h : Turns O a b) (k : Turns O b c) : Turns O a c :=
 ⟨k.size.trans h.size, fun p hp => (k.cell' p hp).trans (h.cell' p hp), fun p => (k.froz' p).trans (h.froz' p), fun x hE hO => k.ext' x (h.ext' x hE hO) hO, fun i hi => (k.heap' i hi).trans (h.heap' i hi), fun o ho hc => k.oth' o (h.oth' o ho hc) hc⟩
section
variable {P : Program} {ev : Operand → Value} {oi : Oper} {w : World} {N : Value → World → Prop}
theorem sn_set {O j : Nat} {u v : Value} (h1 : (execOp ev oi).run P w = .ok .skip (w.setCell ⟨O, j, none⟩ v)) (hO : BoxAt w O j u)
  (h : ∀ X, Turns O w X → BoxAt X O j v → (∀ i x, i ≠ j → BoxAt w O i x → BoxAt X O i x) → N undef X) : StepN P ev oi w N := by
 have hB : BoxAt (w.setCell ⟨O, j, none⟩ v) O j v := ⟨by have := hO.1; simp [go_sem, this], by have := hO.2; simpa [go_sem] using this⟩
 exact sn_skp h1 (h _ (turns_set _ _ _ _) hB fun i x hi hx => ⟨by rw [World.cell?_setCell_other w _ _ _ (fun e => hi (congrArg Addr.off e).symm)]; exact hx.1, by simp [go_sem, hx.2]⟩)
theorem sn_set2 {O j : Nat} {u u' v v' : Value} (h1 : (execOp ev oi).run P w = .ok .skip ((w.setCell ⟨O, j, none⟩ v).setCell ⟨O, j + 1, none⟩ v')) (hO : BoxAt w O j u) (hO' : BoxAt w O (j + 1) u')
  (h : ∀ X, Turns O w X → BoxAt X O j v → BoxAt X O (j + 1) v' → (∀ i x, i ≠ j → i ≠ j + 1 → BoxAt w O i x → BoxAt X O i x) → N undef X) : StepN P ev oi w N := by
 have k : ∀ (W : World) (j : Nat) (u v : Value), BoxAt W O j u → BoxAt (W.setCell ⟨O, j, none⟩ v) O j v := fun W j u v hO => ⟨by have := hO.1; simp [go_sem, this], by have := hO.2; simpa [go_sem] using this⟩
 have k2 : ∀ (W : World) (j i : Nat) (x v : Value), i ≠ j → BoxAt W O i x → BoxAt (W.setCell ⟨O, j, none⟩ v) O i x := fun W j i x v hi hx => ⟨by rw [World.cell?_setCell_other W _ _ _ (fun e => hi (congrArg Addr.off e).symm)]; exact hx.1, by simp [go_sem, hx.2]⟩
 exact sn_skp h1 (h _ ((turns_set _ _ _ _).trans (turns_set _ _ _ _)) (k2 _ _ _ _ _ (by omega) (k _ _ _ _ hO)) (k _ _ _ _ (k2 _ _ _ _ _ (by omega) hO')) fun i x hi hi' hx => k2 _ _ _ _ _ hi' (k2 _ _ _ _ _ hi hx))
end
section
variable {P : Program} {n : Nat} {L : List Value} {ws : List (Nat × Value)} {w : World} {Q : Exit → Act → World → Prop}
theorem calm_scope (h : Calm Q) : Calm (Exit.noGoto Q) := fun c d v a w h' => h c d v a w h'
end
theorem sn_row {P : Program} {ev : Operand → Value} {oi : Oper} {w : World} {N : Value → World → Prop} {g y : Nat} {L : List Int} {v : Int} (h1 : (execOp ev oi).run P w = .ok .skip (w.setCell ⟨g, y, none⟩ (.int .i64 v))) (hr : RowsAt w g L) (hy : y < 24)
  (h : ∀ X, Turns g w X → RowsAt X g (L.set y v) → N undef X) : StepN P ev oi w N := sn_skp h1 (h _ (turns_set _ _ _ _) (hr.set hy v))
theorem Turns.bx {O : Nat} {w X : World} (h : Turns O w X) (b : Nat) (hb : O ≠ b) ⦃o : Nat⦄ ⦃u : Value⦄ (hv : BoxAt w b o u) : BoxAt X b o u := h.box hb hv
section
variable {P : Program} {ev : Operand → Value} {oi : Oper} {w : World} {N : Value → World → Prop} {t : TypeId} {x y : Operand} {u : Value}
theorem zE (O j : Nat) (v : Value) (hst : (Instr.storeAt t (.pointer (some ⟨O, j, none⟩)) v).run P w = .ok () (w.setCell ⟨O, j, none⟩ v)) (hO : BoxAt w O j u) (h : ∀ X, Turns O w X → BoxAt X O j v → (∀ i x, i ≠ j → BoxAt w O i x → BoxAt X O i x) → N undef X) (hop : oi.op = .store t x y := by rfl) (hx : ev x = .pointer (some ⟨O, j, none⟩) := by kernel_rfl) (hy : ev y = v := by kernel_rfl) : StepN P ev oi w N := sn_set (ex_store hop hx hy hst) hO h
theorem zF (O j : Nat) (v : Value) (hst : (Instr.storeAt t (.pointer (some ⟨O, j, none⟩)) (.agg #[v])).run P w = .ok () (w.setCell ⟨O, j, none⟩ v)) (hO : BoxAt w O j u) (h : ∀ X, Turns O w X → BoxAt X O j v → (∀ i x, i ≠ j → BoxAt w O i x → BoxAt X O i x) → N undef X) (hop : oi.op = .store t x y := by rfl) (hx : ev x = .pointer (some ⟨O, j, none⟩) := by kernel_rfl) (hy : ev y = .agg #[v] := by kernel_rfl) : StepN P ev oi w N := sn_set (ex_store hop hx hy hst) hO h
end
instance {Q : Exit → Act → World → Prop} [h : CalmC Q] : CalmC (Exit.noGoto Q) := ⟨calm_scope h.out⟩
section
variable {P : Program} {ev : Operand → Value} {o : Oper} {w : World}
theorem eE (a b : Int) {r : Result Next} (e : a = b) (h : r = .ok (.value (.bool (a == b))) w := by kernel_rfl) : r = .ok (.value (.bool true)) w := ev_eq h e
theorem eN (a b : Int) {r : Result Next} (e : a ≠ b) (h : r = .ok (.value (.bool (a == b))) w := by kernel_rfl) : r = .ok (.value (.bool false)) w := ev_neq h e
theorem wM {L : List Value} {ws : List (Nat × Value)} {ops0 ops : Array Oper} {Q' : Exit → Act → World → Prop} {T9 : List Row} {S : World → Prop} {fuel : Nat} {done : List Nat} (i : Nat) {d : Nat} {oi : Oper} {r : List Oper} {t : TypeId} {x : Operand} {p : Value} (v : Value) (hR : Reg P ops0 ops Q' L T9) (hy : ∀ w, S w → (Instr.loadAt t p).run P w = .ok v w) (hS : S w) (h : WD P ops Q' S L fuel (i :: done) ((d, v) :: ws) w)
    (hi : ops0.toList.drop i = oi :: r := by rfl) (hop : oi.op = .load t x := by rfl) (hx : evalW L ws x = p := by kernel_rfl) (hr : readyT T9 done i = true := by kernel_rfl) (hdst : oi.dst = some d := by rfl) (hw : wantedW T9 L ws oi.guard = true := by kernel_rfl) : WD P ops Q' S L (fuel + 1) done ws w := wd_take i v hR hi hr hdst hw (fun w hw => ex_load hop hx (hy w hw)) hS h
theorem xl {t : TypeId} {x : Operand} {p v : Value} (h : (Instr.loadAt t p).run P w = .ok v w) (hop : o.op = .load t x := by rfl) (hx : ev x = p := by kernel_rfl) : (execOp ev o).run P w = .ok (.value v) w := ex_load hop hx h
theorem xt {t : TypeId} {x y : Operand} {w' : World} (p v : Value) (h : (Instr.storeAt t p v).run P w = .ok () w') (hop : o.op = .store t x y := by rfl) (hx : ev x = p := by kernel_rfl) (hy : ev y = v := by kernel_rfl) : (execOp ev o).run P w = .ok .skip w' := ex_store hop hx hy h
theorem xi {t : TypeId} {x y : Operand} {v : Value} (p i : Value) (h : (Instr.indexAt t p i).run P w = .ok v w) (hop : o.op = .indexAddr t x y := by rfl) (hx : ev x = p := by kernel_rfl) (hy : ev y = i := by kernel_rfl) : (execOp ev o).run P w = .ok (.value v) w := ex_index hop hx hy h
theorem ed (p : Prop) [Decidable p] {r : Result Next} (e : p) (h : r = .ok (.value (.bool (decide p))) w := by kernel_rfl) : r = .ok (.value (.bool true)) w := ev_dec h e
theorem en (p : Prop) [Decidable p] {r : Result Next} (e : ¬ p) (h : r = .ok (.value (.bool (decide p))) w := by kernel_rfl) : r = .ok (.value (.bool false)) w := ev_ndec h e
theorem ew {a : Int} {r : Result Next} (h0 : -9223372036854775808 ≤ a) (h1 : a ≤ 9223372036854775807) (h : r = .ok (.value (.int .i64 (IntKind.i64.wrap a))) w := by kernel_rfl) : r = .ok (.value (.int .i64 a)) w := ev_wrap h h0 h1
end
end Go.Proofs.YtajdohcgjgknmaaGreatDoor

namespace Go.Proofs.YtajdohcgjgknmaaGreatDoor
open Go.RowKit
def Gro (w w' : World) : Prop := ∃ q os, w' = Go.Sort.grow (w.drewN q) os
theorem Gro.refl (w : World) : Gro w w := ⟨0, #[], by rw [Go.Sort.grow_empty]; rfl⟩
theorem Gro.trans {a b c : World} (h : Gro a b) (k : Gro b c) : Gro a c := by
 obtain ⟨q, os, rfl⟩ := h
 obtain ⟨q', os', rfl⟩ := k
 refine ⟨q + q', os ++ os', ?_⟩
 show Go.Sort.grow (Go.Sort.grow ((a.drewN q).drewN q') os) os' = _
 rw [Go.Sort.grow_grow, World.drewN_drewN]
theorem Gro.alloc (w : World) (o : Obj) : Gro w (w.alloc o) := ⟨0, #[o], by rw [Go.Sort.alloc_eq_grow]; rfl⟩
theorem Gro.drew (w : World) : Gro w w.drew := ⟨1, #[], by rw [Go.Sort.grow_empty]; rfl⟩
theorem Gro.ext {w w' : World} (h : Gro w w') : Ext w w' := by
 obtain ⟨q, os, rfl⟩ := h
 refine (Ext.drewN (Ext.refl w) q).trans ⟨rfl, rfl, rfl, by simp, fun k hk => ?_⟩
 show ((w.drewN q).heap ++ os)[k]? = _
 rw [Array.getElem?_append_left hk]
section
variable {P : Program} {n : Nat} {L : List Value} {ws : List (Nat × Value)} {w : World} {Q : Exit → Act → World → Prop}
theorem sn_newG {ev : Operand → Value} {oi : Oper} {N : Value → World → Prop} {us : Array Value} {t : TypeId} (h1 : (execOp ev oi).run P w = .ok (.value (.pointer (some ⟨w.heap.size, 0, none⟩))) (w.alloc (.cells us t)))
  (h : ∀ O X, w.heap.size = O → X.heap.size = O + 1 → Ext w X → (∀ i u, us[i]? = some u → BoxAt X O i u) → Gro w X → N (.pointer (some ⟨O, 0, none⟩)) X) : StepN P ev oi w N := by
 refine sn_eff h1 (h _ _ rfl (by simp) (Ext.alloc (Ext.refl _) _) (fun i u hu => ⟨?_, ?_⟩) (Gro.alloc _ _))
 · rw [cell_of_row _ _ i _ t (0, 0) (heap_alloc_new w _)]; exact hu
 · simp [go_sem]
theorem sn_newSG {ev : Operand → Value} {oi : Oper} {N : Value → World → Prop} {us : Array Value} {t : TypeId} {k c : Nat} (h1 : (execOp ev oi).run P w = .ok (.value (.slice (some ⟨w.heap.size, 0, none⟩) k c)) (w.alloc (.cells us t)))
  (h : ∀ O X, w.heap.size = O → X.heap.size = O + 1 → Ext w X → (∀ i u, us[i]? = some u → BoxAt X O i u) → Gro w X → N (.slice (some ⟨O, 0, none⟩) k c) X) : StepN P ev oi w N := by
 refine sn_eff h1 (h _ _ rfl (by simp) (Ext.alloc (Ext.refl _) _) (fun i u hu => ⟨?_, ?_⟩) (Gro.alloc _ _))
 · rw [cell_of_row _ _ i _ t (0, 0) (heap_alloc_new w _)]; exact hu
 · simp [go_sem]
theorem cw_drawG {id : Nat} {ops0 : Array Oper} (T : List Row) (S : World → Prop) (hm : P.follows .mixedOrders = true) (ht : tableR ops0 = T) (hg : goodT n ops0.size T = true) (hs : Region.noSelect ops0 = true) (hQ : Calm Q) (hS : S w.drew)
  (h : ∀ (ops : Array Oper) (Q' : Exit → Act → World → Prop) (X : World), Gro w X → Ext w X → L.length = n → Reg P ops0 ops Q' L T → Shut (∀ ws w, QW Q .normal n L ws w → QW Q' .normal n L ws w) → WD P ops Q' S L ops0.size [] ws X) : CW P (.region id ops0 true) Q n L ws w := ⟨fun b => by
 refine wp_region_held_drew hm hS fun hS => ?_
 exact (h ops0 Q _ (Gro.drew _) (Ext.drew (Ext.refl _)) b.1 ⟨rfl, ht, by rw [b.1]; exact hg, hs, hQ⟩ (fun _ _ h => h)).out b.lt⟩
end
end Go.Proofs.YtajdohcgjgknmaaGreatDoor

namespace Go.Proofs.YtajdohcgjgknmaaGreatDoor
namespace Globe
def allCells (n : Nat) : List (Nat × Nat) := (List.range n).flatMap fun y => (List.range 48).map fun x => (x, y)
theorem cellsTo_filter (l : List Int) (n : Nat) : cellsTo l n = (allCells n).filter fun p => hasL l p.1 p.2 := by
 unfold cellsTo allCells
 rw [List.filter_flatMap]
 congr 1
 funext y
 unfold rowCells bitsN
 rw [List.filter_map]
 rfl
theorem count_eq (l : List Int) (n : Nat) : (cellsTo l n).length = (allCells n).countP fun p => hasL l p.1 p.2 := by
 rw [cellsTo_filter, List.countP_eq_length_filter]
theorem count_zero_iff {l : List Int} (h : validL l = true) : (cellsTo l 24).length = 0 ↔ l = zeroL := by
  constructor
  · intro e
    have e' : cellsTo l 24 = [] := List.length_eq_zero_iff.1 e
    refine ext_has h valid_zero fun x y hx hy => ?_
    rw [has_zero]
    cases hh : hasL l x y
    · rfl
    · have := (mem_cells (n := 24) (p := (x, y))).2 ⟨hy, hx, hh⟩
      rw [e'] at this
      cases this
  · rintro rfl
    rw [count_eq]
    rw [List.countP_eq_zero]
    intro p _
    rw [has_zero]; simp
def containsB (a b : List Int) : Bool := validL a && validL b && decide (lessL b a = zeroL)
theorem contains_iff {a b : List Int} (ha : validL a = true) (hb : validL b = true) : containsB a b = true ↔ ∀ x y, x < 48 → y < 24 → hasL b x y = true → hasL a x y = true := by
  unfold containsB
  rw [ha, hb]
  simp only [Bool.true_and, decide_eq_true_eq]
  constructor
  · intro e x y hx hy h
    have := has_less (a := b) (b := a) (x := x) hy
    rw [e, has_zero, h] at this
    simpa using this
  · intro h
    refine ext_has (less_valid hb) valid_zero fun x y hx hy => ?_
    rw [has_zero, has_less hy]
    cases hh : hasL b x y
    · rfl
    · rw [h x y hx hy hh]; rfl
end Globe
end Go.Proofs.YtajdohcgjgknmaaGreatDoor

namespace Go.Proofs.YtajdohcgjgknmaaGreatDoor
namespace Globe
def stripOk (s : List Int × List Int) : Bool := validL s.1 && containsB s.2 s.1
def stripsOk (l : List (List Int × List Int)) : Bool := decide (l.length ≤ 24) && l.all stripOk
theorem stripsOk_t {l : List (List Int × List Int)} : stripsOk l = true ↔ l.length ≤ 24 ∧ ∀ s ∈ l, stripOk s = true := by simp [stripsOk]
theorem stripOk_v {s : List Int × List Int} (h : stripOk s = true) : validL s.1 = true ∧ validL s.2 = true ∧ containsB s.2 s.1 = true := by
 simp only [stripOk, Bool.and_eq_true] at h
 refine ⟨h.1, ?_, h.2⟩
 have := h.2
 simp only [containsB, Bool.and_eq_true] at this
 exact this.1.1
def leftL (a : List Int) : List (List Int) → List Int
 | [] => a
 | b :: r => leftL (lessL a b) r
theorem left_snoc : ∀ (l : List (List Int)) (a b : List Int), leftL a (l ++ [b]) = lessL (leftL a l) b
 | [], _, _ => rfl
 | c :: r, a, b => left_snoc r (lessL a c) b
theorem left_valid : ∀ (l : List (List Int)) {a : List Int}, validL a = true → validL (leftL a l) = true
 | [], _, h => h
 | _ :: r, _, h => left_valid r (less_valid h)
theorem has_left {x y : Nat} (hy : y < 24) : ∀ (l : List (List Int)) (a : List Int), hasL (leftL a l) x y = (hasL a x y && l.all fun b => !hasL b x y)
 | [], a => by simp [leftL]
 | b :: r, a => by rw [leftL, has_left hy r, has_less hy, List.all_cons, Bool.and_assoc]
theorem contains_v {a b : List Int} (h : containsB a b = true) : validL a = true ∧ validL b = true := by
 simp only [containsB, Bool.and_eq_true] at h; exact h.1
theorem contains_has {a b : List Int} (h : containsB a b = true) {x y : Nat} (hx : x < 48) (hy : y < 24) (hb : hasL b x y = true) : hasL a x y = true :=
 (contains_iff (contains_v h).1 (contains_v h).2).1 h x y hx hy hb
theorem zero_iff {l : List Int} (h : validL l = true) : (cellsTo l 24).length = 0 ↔ ∀ x y, x < 48 → y < 24 → hasL l x y = false := by
 rw [count_zero_iff h]
 constructor
 · rintro rfl x y _ _; exact has_zero x y
 · intro hz; exact ext_has h valid_zero fun x y hx hy => by rw [hz x y hx hy, has_zero]
end Globe
end Go.Proofs.YtajdohcgjgknmaaGreatDoor

namespace Go.Proofs.YtajdohcgjgknmaaGreatDoor
namespace Globe
def combs (n : Nat) : Nat → List Nat → Nat → List (List Nat)
 | 0, l, _ => [l]
 | m + 1, l, next => ((List.range (n - m)).drop next).flatMap fun i => combs n m (l ++ [i]) (i + 1)
def asc (n : Nat) : Nat → List Nat → Prop
 | _, [] => True
 | s, i :: r => s ≤ i ∧ i < n ∧ asc n (i + 1) r
theorem range_drop {k i : Nat} (h : i < k) : (List.range k).drop i = i :: (List.range k).drop (i + 1) := by
 rw [List.drop_eq_getElem_cons (by simpa using h)]; simp
theorem range_drop_ge {k i : Nat} (h : k ≤ i) : (List.range k).drop i = [] := by simp [h]
theorem mem_range_drop {k i j : Nat} : j ∈ (List.range k).drop i ↔ i ≤ j ∧ j < k := by
 rw [List.mem_drop_iff_getElem]
 constructor
 · rintro ⟨q, hq, e⟩; simp at hq e; omega
 · rintro ⟨h1, h2⟩; exact ⟨j - i, by simp; omega, by simp; omega⟩
theorem asc_bound {n : Nat} : ∀ {r : List Nat} {s : Nat}, asc n s r → r ≠ [] → s + r.length ≤ n
 | [], _, _, h => absurd rfl h
 | [i], s, ⟨h1, h2, _⟩, _ => by simp; omega
 | i :: j :: r, s, ⟨h1, _, h3⟩, _ => by
  have := asc_bound h3 (by simp)
  simp at this ⊢; omega
theorem mem_combs {n : Nat} : ∀ {m : Nat} {l : List Nat} {next : Nat} {x : List Nat}, x ∈ combs n m l next ↔ ∃ r, x = l ++ r ∧ r.length = m ∧ asc n next r
  | 0, l, next, x => by
    simp only [combs, List.mem_singleton]
    constructor
    · rintro rfl; exact ⟨[], by simp, rfl, trivial⟩
    · rintro ⟨r, rfl, h, _⟩; rw [List.length_eq_zero_iff.1 h, List.append_nil]
  | m + 1, l, next, x => by
    simp only [combs, List.mem_flatMap, mem_range_drop]
    constructor
    · rintro ⟨i, ⟨h1, h2⟩, h3⟩
      obtain ⟨r, rfl, hr, ha⟩ := mem_combs.1 h3
      exact ⟨i :: r, by simp, by simp [hr], h1, by omega, ha⟩
    · rintro ⟨r, rfl, hr, ha⟩
      match r, hr, ha with
      | i :: r, hr, ⟨h1, h2, h3⟩ =>
        simp at hr
        refine ⟨i, ⟨h1, ?_⟩, mem_combs.2 ⟨r, by simp, hr, h3⟩⟩
        cases r with
        | nil => simp at hr; subst hr; omega
        | cons j r => have := asc_bound h3 (by simp); simp at hr this; omega
def fewestL (p : List Nat → Bool) (n : Nat) : Option (List Nat) := (List.range (n + 1)).findSome? fun k => (combs n k [] 0).find? p
theorem fewest_some {p : List Nat → Bool} {n : Nat} {l : List Nat} (h : fewestL p n = some l) : p l = true ∧ asc n 0 l ∧ l.length ≤ n ∧ ∀ x, asc n 0 x → p x = true → l.length ≤ x.length := by
  obtain ⟨l1, k, l2, hr, hk, hn⟩ := List.findSome?_eq_some_iff.1 h
  have hk' : k < n + 1 := by
    have : k ∈ List.range (n + 1) := by rw [hr]; simp
    simpa using this
  have hp := List.find?_some hk
  obtain ⟨r, e, hlen, ha⟩ := mem_combs.1 (List.mem_of_find?_eq_some hk)
  simp only [List.nil_append] at e
  subst e
  refine ⟨hp, ha, by omega, fun x hx px => ?_⟩
  rcases Nat.lt_or_ge x.length l.length with hlt | hge
  · exfalso
    have hx1 : x.length ∈ l1 := by
      have hi : (List.range (n + 1))[x.length]? = some x.length := List.getElem?_range (by omega)
      have hik : (List.range (n + 1))[l1.length]? = some k := by rw [hr, List.getElem?_append_right (Nat.le_refl _), Nat.sub_self]; rfl
      have hl1 : l1.length = k := by
        have hlen := congrArg List.length hr
        rw [List.length_range, List.length_append, List.length_cons] at hlen
        rw [List.getElem?_range (by omega)] at hik
        exact Option.some.inj hik
      rw [hr, List.getElem?_append_left (by omega)] at hi
      exact List.mem_of_getElem? hi
    have := hn _ hx1
    rw [List.find?_eq_none] at this
    exact this x (mem_combs.2 ⟨x, by simp, rfl, hx⟩) px
  · exact hge
theorem fewest_none {p : List Nat → Bool} {n : Nat} (h : fewestL p n = none) : ∀ x, asc n 0 x → p x = false := by
 intro x hx
 have hx' : x.length ≤ n := by
  cases x with
  | nil => simp
  | cons i r => have := asc_bound hx (by simp); omega
 have := List.findSome?_eq_none_iff.1 h x.length (by simp; omega)
 rw [List.find?_eq_none] at this
 have := this x (mem_combs.2 ⟨x, by simp, rfl, hx⟩)
 simpa using this
theorem fewest_eq {p : List Nat → Bool} {n i : Nat} {x : List Nat} (hi : i ≤ n) (h0 : ∀ j, j < i → (combs n j [] 0).find? p = none) (hx : (combs n i [] 0).find? p = some x) : fewestL p n = some x := by
 unfold fewestL
 rw [List.findSome?_eq_some_iff]
 refine ⟨List.range i, i, (List.range (n + 1)).drop (i + 1), ?_, hx, fun j hj => h0 j (List.mem_range.1 hj)⟩
 rw [← range_drop (show i < n + 1 by omega)]
 have := List.take_append_drop i (List.range (n + 1))
 rwa [List.take_range, Nat.min_eq_left (by omega), eq_comm] at this
theorem fewest_eq_none {p : List Nat → Bool} {n : Nat} (h0 : ∀ j, j < n + 1 → (combs n j [] 0).find? p = none) : fewestL p n = none := by
 unfold fewestL
 rw [List.findSome?_eq_none_iff]
 exact fun j hj => h0 j (List.mem_range.1 hj)
theorem find_prefix {p : List Nat → Bool} {L q : List (List Nat)} {x : List Nat} (h : q ++ [x] <+: L) (hq : ∀ y ∈ q, p y = false) (hx : p x = true) : L.find? p = some x := by
 obtain ⟨r, rfl⟩ := h
 rw [List.append_assoc, List.find?_append]
 have : q.find? p = none := by rw [List.find?_eq_none]; intro y hy; rw [hq y hy]; simp
 rw [this]; simp [hx]
def sureAt (ss : List (List Int)) (i : Nat) : List Int := ss[i]?.getD []
def enough (a : List Int) (ss : List (List Int)) (l : List Nat) : Bool := decide ((cellsTo (leftL a (l.map (sureAt ss))) 24).length = 0)
theorem enough_iff {a : List Int} (ha : validL a = true) {ss : List (List Int)} {l : List Nat} : enough a ss l = true ↔ ∀ x y, x < 48 → y < 24 → hasL a x y = true → ∃ i ∈ l, hasL (sureAt ss i) x y = true := by
  unfold enough
  rw [decide_eq_true_iff, zero_iff (left_valid _ ha)]
  constructor
  · intro h x y hx hy hh
    have := h x y hx hy
    rw [has_left hy, hh, Bool.true_and] at this
    rw [List.all_eq_false] at this
    obtain ⟨s, hs, e⟩ := this
    rw [List.mem_map] at hs
    obtain ⟨i, hi, rfl⟩ := hs
    exact ⟨i, hi, by simpa using e⟩
  · intro h x y hx hy
    rw [has_left hy]
    cases hh : hasL a x y
    · rfl
    · obtain ⟨i, hi, e⟩ := h x y hx hy hh
      rw [Bool.true_and, List.all_eq_false]
      exact ⟨sureAt ss i, List.mem_map_of_mem hi, by simp [e]⟩
theorem asc_range (n : Nat) : ∀ (k s : Nat), s + k = n → asc n s ((List.range n).drop s)
 | 0, s, h => by rw [range_drop_ge (by omega)]; trivial
 | k + 1, s, h => by rw [range_drop (by omega)]; exact ⟨Nat.le_refl _, by omega, asc_range n k (s + 1) (by omega)⟩
theorem asc_lt {n : Nat} : ∀ {l : List Nat} {s : Nat}, asc n s l → ∀ i ∈ l, i < n
 | _ :: _, _, ⟨_, h2, h3⟩, i, hi => by
  rcases List.mem_cons.1 hi with rfl | hi
  · exact h2
  · exact asc_lt h3 i hi
theorem fewest_isSome {a : List Int} (ha : validL a = true) {ss : List (List Int)} : (fewestL (enough a ss) ss.length).isSome = decide ((cellsTo (leftL a ss) 24).length = 0) := by
 have hall : (List.range ss.length).map (sureAt ss) = ss := by
  refine List.ext_getElem (by simp) fun i h1 h2 => ?_
  simp [sureAt, h2]
 have hfull : enough a ss (List.range ss.length) = decide ((cellsTo (leftL a ss) 24).length = 0) := by unfold enough; rw [hall]
 rw [← hfull]
 cases hq : fewestL (enough a ss) ss.length with
 | none =>
  have := fewest_none hq ((List.range ss.length).drop 0) (asc_range _ ss.length 0 (by omega))
  rw [List.drop_zero] at this
  rw [this]; rfl
 | some l =>
  obtain ⟨h1, h2, _, _⟩ := fewest_some hq
  refine (((enough_iff ha).2 fun x y hx hy hh => ?_)).symm
  obtain ⟨i, hi, e⟩ := (enough_iff ha).1 h1 x y hx hy hh
  exact ⟨i, by simpa using asc_lt h2 i hi, e⟩
end Globe
end Go.Proofs.YtajdohcgjgknmaaGreatDoor

namespace Go.Proofs.YtajdohcgjgknmaaGreatDoor
namespace Globe
def before (p q : Nat × Nat) : Prop := p.2 < q.2 ∨ (p.2 = q.2 ∧ p.1 < q.1)
end Globe
end Go.Proofs.YtajdohcgjgknmaaGreatDoor

namespace Go.Proofs.YtajdohcgjgknmaaGreatDoor
namespace Prod
open Globe
structure Pc where
 im : Int
 t : Int
 cl : Bool
 rw : List Int
def clI (c : Bool) : Int := if c then 1 else 0
def cmpI (a b : Int) : Int := if a < b then -1 else if b < a then 1 else 0
theorem cmpI_pos {a b : Int} : 0 < cmpI a b ↔ b < a := by unfold cmpI; split <;> (try split) <;> omega
theorem cmpI_neg {a b : Int} : cmpI a b < 0 ↔ a < b := by unfold cmpI; split <;> (try split) <;> omega
theorem cmpI_zero {a b : Int} : cmpI a b = 0 ↔ a = b := by unfold cmpI; split <;> (try split) <;> omega
def or3 (a b c : Int) : Int := if a = 0 then (if b = 0 then c else b) else a
def rk (c1 : Bool) (t1 i1 : Int) (c2 : Bool) (t2 i2 : Int) : Int := or3 (cmpI (clI c1) (clI c2)) (cmpI t1 t2) (cmpI i1 i2)
def bet (c1 : Bool) (t1 i1 : Int) (c2 : Bool) (t2 i2 : Int) : Bool := if c1 = c2 then (if t1 = t2 then decide (i2 < i1) else decide (t2 < t1)) else c1
theorem rk_pos {c1 c2 : Bool} {t1 i1 t2 i2 : Int} : 0 < rk c1 t1 i1 c2 t2 i2 ↔ bet c1 t1 i1 c2 t2 i2 = true := by
  unfold rk or3 bet
  by_cases hc : c1 = c2
  · subst hc
    rw [if_pos (cmpI_zero.2 rfl), if_pos rfl]
    by_cases ht : t1 = t2
    · subst ht
      rw [if_pos (cmpI_zero.2 rfl), if_pos rfl, cmpI_pos]; simp
    · rw [if_neg (fun e => ht (cmpI_zero.1 e)), if_neg ht, cmpI_pos]; simp
  · have h1 : cmpI (clI c1) (clI c2) ≠ 0 := fun e => by
      have := cmpI_zero.1 e
      cases c1 <;> cases c2 <;> simp [clI] at this hc
    rw [if_neg h1, if_neg hc, cmpI_pos]
    cases c1 <;> cases c2 <;> simp [clI] at hc ⊢
theorem bet_iff {c1 c2 : Bool} {t1 i1 t2 i2 : Int} : bet c1 t1 i1 c2 t2 i2 = true ↔ clI c2 < clI c1 ∨ (clI c1 = clI c2 ∧ (t2 < t1 ∨ (t1 = t2 ∧ i2 < i1))) := by
  unfold bet
  by_cases hc : c1 = c2
  · subst hc
    rw [if_pos rfl]
    by_cases ht : t1 = t2
    · subst ht; rw [if_pos rfl, decide_eq_true_iff]; omega
    · rw [if_neg ht, decide_eq_true_iff]; omega
  · rw [if_neg hc]
    cases c1 <;> cases c2 <;> simp [clI] at hc ⊢
theorem bet_irrefl (c : Bool) (t i : Int) : bet c t i c t i = false := by simp [bet]
theorem bet_trans {c1 c2 c3 : Bool} {t1 i1 t2 i2 t3 i3 : Int} (h : bet c1 t1 i1 c2 t2 i2 = true) (k : bet c2 t2 i2 c3 t3 i3 = true) : bet c1 t1 i1 c3 t3 i3 = true := by
 rw [bet_iff] at *; omega
theorem bet_asymm {c1 c2 : Bool} {t1 i1 t2 i2 : Int} (h : bet c1 t1 i1 c2 t2 i2 = true) : bet c2 t2 i2 c1 t1 i1 = false := by
 cases k : bet c2 t2 i2 c1 t1 i1
 · rfl
 · exact absurd (bet_trans h k) (by rw [bet_irrefl]; simp)
theorem bet_total {c1 c2 : Bool} {t1 i1 t2 i2 : Int} (h : bet c1 t1 i1 c2 t2 i2 = false) (k : bet c2 t2 i2 c1 t1 i1 = false) : c1 = c2 ∧ t1 = t2 ∧ i1 = i2 := by
  unfold bet at *
  by_cases hc : c1 = c2
  · subst hc
    rw [if_pos rfl] at h k
    by_cases ht : t1 = t2
    · subst ht; rw [if_pos rfl] at h k; simp at h k; exact ⟨rfl, rfl, by omega⟩
    · rw [if_neg ht] at h; rw [if_neg (Ne.symm ht)] at k; simp at h k; omega
  · rw [if_neg hc] at h; rw [if_neg (Ne.symm hc)] at k
    subst h k; exact absurd rfl hc
theorem bet_ntrans {c1 c2 c3 : Bool} {t1 i1 t2 i2 t3 i3 : Int} (h : bet c1 t1 i1 c2 t2 i2 = false) (k : bet c2 t2 i2 c3 t3 i3 = false) : bet c1 t1 i1 c3 t3 i3 = false := by
  cases q : bet c1 t1 i1 c3 t3 i3
  · rfl
  · cases r : bet c2 t2 i2 c1 t1 i1
    · obtain ⟨rfl, rfl, rfl⟩ := bet_total h r
      rw [q] at k; exact k
    · rw [bet_trans r q] at k; exact k
theorem rk_neg {c1 c2 : Bool} {t1 i1 t2 i2 : Int} : rk c1 t1 i1 c2 t2 i2 < 0 ↔ bet c2 t2 i2 c1 t1 i1 = true := by
  unfold rk or3 bet
  by_cases hc : c1 = c2
  · subst hc
    rw [if_pos (cmpI_zero.2 rfl), if_pos rfl]
    by_cases ht : t1 = t2
    · subst ht
      rw [if_pos (cmpI_zero.2 rfl), if_pos rfl, cmpI_neg]; simp
    · rw [if_neg (fun e => ht (cmpI_zero.1 e)), if_neg (Ne.symm ht), cmpI_neg]; simp
  · have h1 : cmpI (clI c1) (clI c2) ≠ 0 := fun e => by
      have := cmpI_zero.1 e
      cases c1 <;> cases c2 <;> simp [clI] at this hc
    rw [if_neg h1, if_neg (Ne.symm hc), cmpI_neg]
    cases c1 <;> cases c2 <;> simp [clI] at hc ⊢
def better (a b : Pc) : Bool := bet a.cl a.t a.im b.cl b.t b.im
theorem better_trans {a b c : Pc} (h : better a b = true) (k : better b c = true) : better a c = true := bet_trans h k
theorem better_asymm {a b : Pc} (h : better a b = true) : better b a = false := bet_asymm h
theorem better_or {a b : Pc} (h : a.im ≠ b.im) : better a b = true ∨ better b a = true := by
  cases h1 : better a b
  · cases h2 : better b a
    · exact absurd (bet_total h1 h2).2.2 h
    · exact .inr rfl
  · exact .inl rfl
theorem better_irrefl (a : Pc) : better a a = false := bet_irrefl _ _ _
def ins (x : Pc) : List Pc → List Pc
 | [] => [x]
 | y :: l => if better x y then x :: y :: l else y :: ins x l
def sortD : List Pc → List Pc
 | [] => []
 | x :: l => ins x (sortD l)
def Sorted (l : List Pc) : Prop := l.Pairwise fun a b => better a b = true
def Dist (l : List Pc) : Prop := l.Pairwise fun a b => a.im ≠ b.im
theorem ins_perm (x : Pc) : ∀ l, (ins x l).Perm (x :: l)
 | [] => .refl _
 | y :: l => by
  unfold ins; split
  · exact .refl _
  · exact ((ins_perm x l).cons y).trans (.swap x y l)
theorem sortD_perm : ∀ l, (sortD l).Perm l
 | [] => .refl _
 | x :: l => (ins_perm x _).trans ((sortD_perm l).cons x)
theorem ins_sorted {x : Pc} : ∀ {l : List Pc}, Sorted l → (∀ y ∈ l, x.im ≠ y.im) → Sorted (ins x l)
  | [], _, _ => List.pairwise_singleton _ _
  | y :: l, h, hd => by
    unfold ins
    obtain ⟨h1, h2⟩ := List.pairwise_cons.1 h
    split
    · rename_i hb
      exact List.pairwise_cons.2 ⟨fun z hz => by
        rcases List.mem_cons.1 hz with rfl | hz
        · exact hb
        · exact better_trans hb (h1 z hz), h⟩
    · rename_i hb
      have hyx : better y x = true := (better_or (hd y (by simp))).resolve_left hb
      refine List.pairwise_cons.2 ⟨fun z hz => ?_, ins_sorted h2 fun z hz => hd z (by simp [hz])⟩
      rcases List.mem_cons.1 ((ins_perm x l).mem_iff.1 hz) with rfl | hz
      · exact hyx
      · exact h1 z hz
theorem Dist.cons {x : Pc} {l : List Pc} : Dist (x :: l) ↔ (∀ y ∈ l, x.im ≠ y.im) ∧ Dist l := List.pairwise_cons
theorem Dist.perm {a b : List Pc} (h : a.Perm b) : Dist a ↔ Dist b := h.pairwise_iff (fun h e => h e.symm)
theorem sortD_sorted : ∀ {l : List Pc}, Dist l → Sorted (sortD l)
 | [], _ => List.Pairwise.nil
 | x :: l, h => by
  obtain ⟨h1, h2⟩ := Dist.cons.1 h
  exact ins_sorted (sortD_sorted h2) fun y hy => h1 y ((sortD_perm l).mem_iff.1 hy)
theorem sorted_uniq : ∀ {a b : List Pc}, Sorted a → Sorted b → a.Perm b → a = b
 | [], b, _, _, hp => (List.nil_perm.1 hp).symm
 | x :: a, [], _, _, hp => absurd hp.symm (by simp)
 | x :: a, y :: b, ha, hb, hp => by
  obtain ⟨a1, a2⟩ := List.pairwise_cons.1 ha
  obtain ⟨b1, b2⟩ := List.pairwise_cons.1 hb
  have e : x = y := by
   rcases List.mem_cons.1 (hp.mem_iff.1 (by simp : x ∈ x :: a)) with e | hx
   · exact e
   rcases List.mem_cons.1 (hp.mem_iff.2 (by simp : y ∈ y :: b)) with e | hy
   · exact e.symm
   have := better_asymm (b1 x hx)
   rw [a1 y hy] at this; cases this
  subst e
  rw [sorted_uniq a2 b2 hp.cons_inv]
theorem sortD_eq {l s : List Pc} (hd : Dist l) (hs : Sorted s) (hp : s.Perm l) : s = sortD l := sorted_uniq hs (sortD_sorted hd) (hp.trans (sortD_perm l).symm)
def noC (l : List Int) : Bool := decide ((cellsTo l 24).length = 0)
def own (r : List Int) (x : Pc) : Pc := { x with rw := meetL r x.rw }
def divF : List Int → List Pc → List Pc
 | _, [] => []
 | r, x :: l => (if noC (meetL r x.rw) then [] else [own r x]) ++ divF (lessL r x.rw) l
def divide (area : List Int) (l : List Pc) : List Pc := (divF area (sortD l)).reverse
def rest (r : List Int) (l : List Pc) : List Int := leftL r (l.map Pc.rw)
theorem rest_nil (r : List Int) : rest r [] = r := rfl
theorem rest_cons (r : List Int) (x : Pc) (l : List Pc) : rest r (x :: l) = rest (lessL r x.rw) l := rfl
theorem rest_snoc (r : List Int) (l : List Pc) (x : Pc) : rest r (l ++ [x]) = lessL (rest r l) x.rw := by unfold rest; rw [List.map_append]; exact left_snoc _ _ _
theorem rest_valid {r : List Int} (l : List Pc) (h : validL r = true) : validL (rest r l) = true := left_valid _ h
theorem divF_snoc : ∀ (l : List Pc) (r : List Int) (x : Pc), divF r (l ++ [x]) = divF r l ++ (if noC (meetL (rest r l) x.rw) then [] else [own (rest r l) x])
 | [], r, x => by rw [List.nil_append, divF, divF, divF, rest_nil, List.append_nil, List.nil_append]
 | y :: l, r, x => by rw [List.cons_append, divF, divF, divF_snoc l, rest_cons, List.append_assoc]
theorem has_rest {x y : Nat} (hy : y < 24) (r : List Int) (l : List Pc) : hasL (rest r l) x y = (hasL r x y && l.all fun p => !hasL p.rw x y) := by
 unfold rest; rw [has_left hy, List.all_map]; rfl
theorem noC_iff {l : List Int} (h : validL l = true) : noC l = true ↔ ∀ x y, x < 48 → y < 24 → hasL l x y = false := by unfold noC; rw [decide_eq_true_eq]; exact zero_iff h
def okP (x : Pc) : Bool := (inB x.im 0 999 && inB x.t 0 1000000) && validL x.rw
theorem okP_t {x : Pc} : okP x = true ↔ (0 ≤ x.im ∧ x.im ≤ 999) ∧ (0 ≤ x.t ∧ x.t ≤ 1000000) ∧ validL x.rw = true := by
 unfold okP; rw [Bool.and_eq_true, Bool.and_eq_true, inB_t, inB_t, and_assoc]
def stepOk (free : List Int) (pre : List Pc) (x : Pc) : Bool :=
 okP x && (!noC x.rw && (containsB free x.rw && ((match pre.getLast? with | none => true | some p => better x p) && !pre.any fun p => decide (p.im = x.im))))
def vGo (free : List Int) (pre : List Pc) : List Pc → Bool
 | [] => true
 | x :: l => stepOk free pre x && vGo (lessL free x.rw) (pre ++ [x]) l
def headOk (id ver : Int) (area : List Int) (n : Nat) : Bool := (inB id 0 63 && inB ver 1 100) && (validL area && decide (n ≤ 24))
def validP (id ver : Int) (area : List Int) (ps : List Pc) : Bool := headOk id ver area ps.length && vGo area [] ps
end Prod
end Go.Proofs.YtajdohcgjgknmaaGreatDoor

namespace Go.Proofs.YtajdohcgjgknmaaGreatDoor
open Go.RowKit
theorem ix23 {w : World} {b o n c k : Nat} (hk : k < n) : (Instr.indexAt 23 (.slice (some ⟨b, o, none⟩) n c) (.int .i64 k)).run Tryz.prog w = .ok (.pointer (some ⟨b, o + k * 4, none⟩)) w := by
 have : (0 : Int) ≤ (k : Int) := by omega
 have : (k : Int) < (n : Int) := by omega
 go_simp
theorem ix24 {w : World} {b o n c k : Nat} (hk : k < n) : (Instr.indexAt 24 (.slice (some ⟨b, o, none⟩) n c) (.int .i64 k)).run Tryz.prog w = .ok (.pointer (some ⟨b, o + k, none⟩)) w := by
 have : (0 : Int) ≤ (k : Int) := by omega
 have : (k : Int) < (n : Int) := by omega
 go_simp
theorem ix24z {w : World} {b n c k : Nat} (hk : k < n) : (Instr.indexAt 24 (.slice (some ⟨b, 0, none⟩) n c) (.int .i64 k)).run Tryz.prog w = .ok (.pointer (some ⟨b, k, none⟩)) w := by
 have h := ix24 (w := w) (b := b) (o := 0) (c := c) hk
 rwa [Nat.zero_add] at h
theorem ix30 {w : World} {b o n c k : Nat} (hk : k < n) : (Instr.indexAt 30 (.slice (some ⟨b, o, none⟩) n c) (.int .i64 k)).run Tryz.prog w = .ok (.pointer (some ⟨b, o + k * 4, none⟩)) w := by
 have : (0 : Int) ≤ (k : Int) := by omega
 have : (k : Int) < (n : Int) := by omega
 go_simp
theorem ix31 {w : World} {b o n c k : Nat} (hk : k < n) : (Instr.indexAt 31 (.slice (some ⟨b, o, none⟩) n c) (.int .i64 k)).run Tryz.prog w = .ok (.pointer (some ⟨b, o + k, none⟩)) w := by
 have : (0 : Int) ≤ (k : Int) := by omega
 have : (k : Int) < (n : Int) := by omega
 go_simp
theorem ix31z {w : World} {b n c k : Nat} (hk : k < n) : (Instr.indexAt 31 (.slice (some ⟨b, 0, none⟩) n c) (.int .i64 k)).run Tryz.prog w = .ok (.pointer (some ⟨b, k, none⟩)) w := by
 have h := ix31 (w := w) (b := b) (o := 0) (c := c) hk
 rwa [Nat.zero_add] at h
theorem ix60 {w : World} {b o n c k : Nat} (hk : k < n) : (Instr.indexAt 60 (.slice (some ⟨b, o, none⟩) n c) (.int .i64 k)).run Tryz.prog w = .ok (.pointer (some ⟨b, o + k * 2, none⟩)) w := by
 have : (0 : Int) ≤ (k : Int) := by omega
 have : (k : Int) < (n : Int) := by omega
 go_simp
theorem ix60z {w : World} {b n c k : Nat} (hk : k < n) : (Instr.indexAt 60 (.slice (some ⟨b, 0, none⟩) n c) (.int .i64 k)).run Tryz.prog w = .ok (.pointer (some ⟨b, k * 2, none⟩)) w := by
 have h := ix60 (w := w) (b := b) (o := 0) (c := c) hk
 rwa [Nat.zero_add] at h
theorem ld166 {w : World} {b o : Nat} {x0 x1 x2 x3 x4 x5 x6 x7 : Value} (h0 : w.cell? ⟨b, o, none⟩ = some x0) (h1 : w.cell? ⟨b, o + 1, none⟩ = some x1) (h2 : w.cell? ⟨b, o + 2, none⟩ = some x2) (h3 : w.cell? ⟨b, o + 3, none⟩ = some x3) (h4 : w.cell? ⟨b, o + 4, none⟩ = some x4) (h5 : w.cell? ⟨b, o + 5, none⟩ = some x5) (h6 : w.cell? ⟨b, o + 6, none⟩ = some x6) (h7 : w.cell? ⟨b, o + 7, none⟩ = some x7) : (Instr.loadAt 166 (.pointer (some ⟨b, o, none⟩))).run Tryz.prog w = .ok (.agg #[x0, x1, x2, x3, x4, x5, x6, x7]) w := by go_simp
theorem ld24 {w : World} {b o : Nat} {x0 : Value} (h0 : w.cell? ⟨b, o, none⟩ = some x0) : (Instr.loadAt 24 (.pointer (some ⟨b, o, none⟩))).run Tryz.prog w = .ok (x0) w := by go_simp
theorem ld26 {w : World} {b o : Nat} {x0 x1 x2 x3 x4 x5 x6 : Value} (h0 : w.cell? ⟨b, o, none⟩ = some x0) (h1 : w.cell? ⟨b, o + 1, none⟩ = some x1) (h2 : w.cell? ⟨b, o + 2, none⟩ = some x2) (h3 : w.cell? ⟨b, o + 3, none⟩ = some x3) (h4 : w.cell? ⟨b, o + 4, none⟩ = some x4) (h5 : w.cell? ⟨b, o + 5, none⟩ = some x5) (h6 : w.cell? ⟨b, o + 6, none⟩ = some x6) : (Instr.loadAt 26 (.pointer (some ⟨b, o, none⟩))).run Tryz.prog w = .ok (.agg #[x0, x1, x2, x3, x4, x5, x6]) w := by go_simp
theorem ld3 {w : World} {b o : Nat} {x0 : Value} (h0 : w.cell? ⟨b, o, none⟩ = some x0) : (Instr.loadAt 3 (.pointer (some ⟨b, o, none⟩))).run Tryz.prog w = .ok (x0) w := by go_simp
theorem ld30 {w : World} {b o : Nat} {x0 : Value} (h0 : w.cell? ⟨b, o, none⟩ = some x0) : (Instr.loadAt 30 (.pointer (some ⟨b, o, none⟩))).run Tryz.prog w = .ok (x0) w := by go_simp
theorem ld33 {w : World} {b o : Nat} {x0 : Value} (h0 : w.cell? ⟨b, o, none⟩ = some x0) : (Instr.loadAt 33 (.pointer (some ⟨b, o, none⟩))).run Tryz.prog w = .ok (.agg #[x0]) w := by go_simp
theorem ld38 {w : World} {b o : Nat} {x0 x1 : Value} (h0 : w.cell? ⟨b, o, none⟩ = some x0) (h1 : w.cell? ⟨b, o + 1, none⟩ = some x1) : (Instr.loadAt 38 (.pointer (some ⟨b, o, none⟩))).run Tryz.prog w = .ok (.agg #[x0, x1]) w := by go_simp
theorem ld4 {w : World} {b o : Nat} {x0 : Value} (h0 : w.cell? ⟨b, o, none⟩ = some x0) : (Instr.loadAt 4 (.pointer (some ⟨b, o, none⟩))).run Tryz.prog w = .ok (x0) w := by go_simp
theorem ld40 {w : World} {b o : Nat} {x0 x1 : Value} (h0 : w.cell? ⟨b, o, none⟩ = some x0) (h1 : w.cell? ⟨b, o + 1, none⟩ = some x1) : (Instr.loadAt 40 (.pointer (some ⟨b, o, none⟩))).run Tryz.prog w = .ok (.agg #[x0, x1]) w := by go_simp
theorem ld49 {w : World} {b o : Nat} {x0 x1 x2 x3 : Value} (h0 : w.cell? ⟨b, o, none⟩ = some x0) (h1 : w.cell? ⟨b, o + 1, none⟩ = some x1) (h2 : w.cell? ⟨b, o + 2, none⟩ = some x2) (h3 : w.cell? ⟨b, o + 3, none⟩ = some x3) : (Instr.loadAt 49 (.pointer (some ⟨b, o, none⟩))).run Tryz.prog w = .ok (.agg #[x0, x1, x2, x3]) w := by go_simp
theorem ld53 {w : World} {b o : Nat} {x0 x1 x2 x3 : Value} (h0 : w.cell? ⟨b, o, none⟩ = some x0) (h1 : w.cell? ⟨b, o + 1, none⟩ = some x1) (h2 : w.cell? ⟨b, o + 2, none⟩ = some x2) (h3 : w.cell? ⟨b, o + 3, none⟩ = some x3) : (Instr.loadAt 53 (.pointer (some ⟨b, o, none⟩))).run Tryz.prog w = .ok (.agg #[x0, x1, x2, x3]) w := by go_simp
theorem ld65 {w : World} {b o : Nat} {x0 x1 : Value} (h0 : w.cell? ⟨b, o, none⟩ = some x0) (h1 : w.cell? ⟨b, o + 1, none⟩ = some x1) : (Instr.loadAt 65 (.pointer (some ⟨b, o, none⟩))).run Tryz.prog w = .ok (.agg #[x0, x1]) w := by go_simp
theorem ld79 {w : World} {b o : Nat} {x0 : Value} (h0 : w.cell? ⟨b, o, none⟩ = some x0) : (Instr.loadAt 79 (.pointer (some ⟨b, o, none⟩))).run Tryz.prog w = .ok (x0) w := by go_simp
theorem ld80 {w : World} {b o : Nat} {x0 : Value} (h0 : w.cell? ⟨b, o, none⟩ = some x0) : (Instr.loadAt 80 (.pointer (some ⟨b, o, none⟩))).run Tryz.prog w = .ok (x0) w := by go_simp
theorem ld82 {w : World} {b o : Nat} {x0 : Value} (h0 : w.cell? ⟨b, o, none⟩ = some x0) : (Instr.loadAt 82 (.pointer (some ⟨b, o, none⟩))).run Tryz.prog w = .ok (x0) w := by go_simp
theorem sl30_010a {w : World} {a : Option Addr} {n c m : Nat} (h1 : 0 ≤ m) (h2 : m ≤ c) : (Instr.sliceAt 30 (.slice a n c) none (some (.int .i64 m)) none).run Tryz.prog w = .ok (.slice a m c) w := by
 have : (0 : Int) ≤ (m : Int) := by omega
 have : (m : Int) ≤ (c : Int) := by omega
 have e : (if c = 0 then a else a.map (fun x => x.add 0)) = a := by split; rfl; cases a <;> rfl
 go_simp <;> exact e
theorem sl30_010 {w : World} {b o n c m : Nat} (h1 : 0 ≤ m) (h2 : m ≤ c) : (Instr.sliceAt 30 (.slice (some ⟨b, o, none⟩) n c) none (some (.int .i64 m)) none).run Tryz.prog w = .ok (.slice (some ⟨b, o, none⟩) m c) w := sl30_010a h1 h2
theorem sn_setK3 {ev : Operand → Value} {oi : Oper} {w : World} {N : Value → World → Prop} {O j : Nat} {u0 v0 u1 v1 u2 v2 : Value} (h1 : (execOp ev oi).run Tryz.prog w = .ok .skip (((w.setCell ⟨O, j, none⟩ v0).setCell ⟨O, j + 1, none⟩ v1).setCell ⟨O, j + 2, none⟩ v2)) (b0 : BoxAt w O j u0) (b1 : BoxAt w O (j + 1) u1) (b2 : BoxAt w O (j + 2) u2)
  (h : ∀ X, Turns O w X → BoxAt X O j v0 → BoxAt X O (j + 1) v1 → BoxAt X O (j + 2) v2 → (∀ i x, i ≠ j → i ≠ (j + 1) → i ≠ (j + 2) → BoxAt w O i x → BoxAt X O i x) → N undef X) : StepN Tryz.prog ev oi w N := by
 have k : ∀ (W : World) (j : Nat) (u v : Value), BoxAt W O j u → BoxAt (W.setCell ⟨O, j, none⟩ v) O j v := fun W j u v hO => ⟨by have := hO.1; simp [go_sem, this], by have := hO.2; simpa [go_sem] using this⟩
 have k2 : ∀ (W : World) (j i : Nat) (x v : Value), i ≠ j → BoxAt W O i x → BoxAt (W.setCell ⟨O, j, none⟩ v) O i x := fun W j i x v hi hx => ⟨by rw [World.cell?_setCell_other W _ _ _ (fun e => hi (congrArg Addr.off e).symm)]; exact hx.1, by simp [go_sem, hx.2]⟩
 exact sn_skp h1 (h _ (((turns_set _ _ _ _).trans (turns_set _ _ _ _)).trans (turns_set _ _ _ _)) (k2 _ _ _ _ _ (by omega) (k2 _ _ _ _ _ (by omega) (k _ _ _ _ b0))) (k2 _ _ _ _ _ (by omega) (k _ _ _ _ (k2 _ _ _ _ _ (by omega) b1))) (k _ _ _ _ (k2 _ _ _ _ _ (by omega) (k2 _ _ _ _ _ (by omega) b2))) fun i x h0 h1 h2 hx => (k2 _ _ _ _ _ h2 (k2 _ _ _ _ _ h1 (k2 _ _ _ _ _ h0 hx))))
theorem sn_setK4 {ev : Operand → Value} {oi : Oper} {w : World} {N : Value → World → Prop} {O j : Nat} {u0 v0 u1 v1 u2 v2 u3 v3 : Value} (h1 : (execOp ev oi).run Tryz.prog w = .ok .skip ((((w.setCell ⟨O, j, none⟩ v0).setCell ⟨O, j + 1, none⟩ v1).setCell ⟨O, j + 2, none⟩ v2).setCell ⟨O, j + 3, none⟩ v3)) (b0 : BoxAt w O j u0) (b1 : BoxAt w O (j + 1) u1) (b2 : BoxAt w O (j + 2) u2) (b3 : BoxAt w O (j + 3) u3)
  (h : ∀ X, Turns O w X → BoxAt X O j v0 → BoxAt X O (j + 1) v1 → BoxAt X O (j + 2) v2 → BoxAt X O (j + 3) v3 → (∀ i x, i ≠ j → i ≠ (j + 1) → i ≠ (j + 2) → i ≠ (j + 3) → BoxAt w O i x → BoxAt X O i x) → N undef X) : StepN Tryz.prog ev oi w N := by
 have k : ∀ (W : World) (j : Nat) (u v : Value), BoxAt W O j u → BoxAt (W.setCell ⟨O, j, none⟩ v) O j v := fun W j u v hO => ⟨by have := hO.1; simp [go_sem, this], by have := hO.2; simpa [go_sem] using this⟩
 have k2 : ∀ (W : World) (j i : Nat) (x v : Value), i ≠ j → BoxAt W O i x → BoxAt (W.setCell ⟨O, j, none⟩ v) O i x := fun W j i x v hi hx => ⟨by rw [World.cell?_setCell_other W _ _ _ (fun e => hi (congrArg Addr.off e).symm)]; exact hx.1, by simp [go_sem, hx.2]⟩
 exact sn_skp h1 (h _ ((((turns_set _ _ _ _).trans (turns_set _ _ _ _)).trans (turns_set _ _ _ _)).trans (turns_set _ _ _ _)) (k2 _ _ _ _ _ (by omega) (k2 _ _ _ _ _ (by omega) (k2 _ _ _ _ _ (by omega) (k _ _ _ _ b0)))) (k2 _ _ _ _ _ (by omega) (k2 _ _ _ _ _ (by omega) (k _ _ _ _ (k2 _ _ _ _ _ (by omega) b1)))) (k2 _ _ _ _ _ (by omega) (k _ _ _ _ (k2 _ _ _ _ _ (by omega) (k2 _ _ _ _ _ (by omega) b2)))) (k _ _ _ _ (k2 _ _ _ _ _ (by omega) (k2 _ _ _ _ _ (by omega) (k2 _ _ _ _ _ (by omega) b3)))) fun i x h0 h1 h2 h3 hx => (k2 _ _ _ _ _ h3 (k2 _ _ _ _ _ h2 (k2 _ _ _ _ _ h1 (k2 _ _ _ _ _ h0 hx)))))
theorem sn_setK7 {ev : Operand → Value} {oi : Oper} {w : World} {N : Value → World → Prop} {O j : Nat} {u0 v0 u1 v1 u2 v2 u3 v3 u4 v4 u5 v5 u6 v6 : Value} (h1 : (execOp ev oi).run Tryz.prog w = .ok .skip (((((((w.setCell ⟨O, j, none⟩ v0).setCell ⟨O, j + 1, none⟩ v1).setCell ⟨O, j + 2, none⟩ v2).setCell ⟨O, j + 3, none⟩ v3).setCell ⟨O, j + 4, none⟩ v4).setCell ⟨O, j + 5, none⟩ v5).setCell ⟨O, j + 6, none⟩ v6)) (b0 : BoxAt w O j u0) (b1 : BoxAt w O (j + 1) u1) (b2 : BoxAt w O (j + 2) u2) (b3 : BoxAt w O (j + 3) u3) (b4 : BoxAt w O (j + 4) u4) (b5 : BoxAt w O (j + 5) u5) (b6 : BoxAt w O (j + 6) u6)
  (h : ∀ X, Turns O w X → BoxAt X O j v0 → BoxAt X O (j + 1) v1 → BoxAt X O (j + 2) v2 → BoxAt X O (j + 3) v3 → BoxAt X O (j + 4) v4 → BoxAt X O (j + 5) v5 → BoxAt X O (j + 6) v6 → (∀ i x, i ≠ j → i ≠ (j + 1) → i ≠ (j + 2) → i ≠ (j + 3) → i ≠ (j + 4) → i ≠ (j + 5) → i ≠ (j + 6) → BoxAt w O i x → BoxAt X O i x) → N undef X) : StepN Tryz.prog ev oi w N := by
 have k : ∀ (W : World) (j : Nat) (u v : Value), BoxAt W O j u → BoxAt (W.setCell ⟨O, j, none⟩ v) O j v := fun W j u v hO => ⟨by have := hO.1; simp [go_sem, this], by have := hO.2; simpa [go_sem] using this⟩
 have k2 : ∀ (W : World) (j i : Nat) (x v : Value), i ≠ j → BoxAt W O i x → BoxAt (W.setCell ⟨O, j, none⟩ v) O i x := fun W j i x v hi hx => ⟨by rw [World.cell?_setCell_other W _ _ _ (fun e => hi (congrArg Addr.off e).symm)]; exact hx.1, by simp [go_sem, hx.2]⟩
 exact sn_skp h1 (h _ (((((((turns_set _ _ _ _).trans (turns_set _ _ _ _)).trans (turns_set _ _ _ _)).trans (turns_set _ _ _ _)).trans (turns_set _ _ _ _)).trans (turns_set _ _ _ _)).trans (turns_set _ _ _ _)) (k2 _ _ _ _ _ (by omega) (k2 _ _ _ _ _ (by omega) (k2 _ _ _ _ _ (by omega) (k2 _ _ _ _ _ (by omega) (k2 _ _ _ _ _ (by omega) (k2 _ _ _ _ _ (by omega) (k _ _ _ _ b0))))))) (k2 _ _ _ _ _ (by omega) (k2 _ _ _ _ _ (by omega) (k2 _ _ _ _ _ (by omega) (k2 _ _ _ _ _ (by omega) (k2 _ _ _ _ _ (by omega) (k _ _ _ _ (k2 _ _ _ _ _ (by omega) b1))))))) (k2 _ _ _ _ _ (by omega) (k2 _ _ _ _ _ (by omega) (k2 _ _ _ _ _ (by omega) (k2 _ _ _ _ _ (by omega) (k _ _ _ _ (k2 _ _ _ _ _ (by omega) (k2 _ _ _ _ _ (by omega) b2))))))) (k2 _ _ _ _ _ (by omega) (k2 _ _ _ _ _ (by omega) (k2 _ _ _ _ _ (by omega) (k _ _ _ _ (k2 _ _ _ _ _ (by omega) (k2 _ _ _ _ _ (by omega) (k2 _ _ _ _ _ (by omega) b3))))))) (k2 _ _ _ _ _ (by omega) (k2 _ _ _ _ _ (by omega) (k _ _ _ _ (k2 _ _ _ _ _ (by omega) (k2 _ _ _ _ _ (by omega) (k2 _ _ _ _ _ (by omega) (k2 _ _ _ _ _ (by omega) b4))))))) (k2 _ _ _ _ _ (by omega) (k _ _ _ _ (k2 _ _ _ _ _ (by omega) (k2 _ _ _ _ _ (by omega) (k2 _ _ _ _ _ (by omega) (k2 _ _ _ _ _ (by omega) (k2 _ _ _ _ _ (by omega) b5))))))) (k _ _ _ _ (k2 _ _ _ _ _ (by omega) (k2 _ _ _ _ _ (by omega) (k2 _ _ _ _ _ (by omega) (k2 _ _ _ _ _ (by omega) (k2 _ _ _ _ _ (by omega) (k2 _ _ _ _ _ (by omega) b6))))))) fun i x h0 h1 h2 h3 h4 h5 h6 hx => (k2 _ _ _ _ _ h6 (k2 _ _ _ _ _ h5 (k2 _ _ _ _ _ h4 (k2 _ _ _ _ _ h3 (k2 _ _ _ _ _ h2 (k2 _ _ _ _ _ h1 (k2 _ _ _ _ _ h0 hx))))))))
theorem sn_setK8 {ev : Operand → Value} {oi : Oper} {w : World} {N : Value → World → Prop} {O j : Nat} {u0 v0 u1 v1 u2 v2 u3 v3 u4 v4 u5 v5 u6 v6 u7 v7 : Value} (h1 : (execOp ev oi).run Tryz.prog w = .ok .skip ((((((((w.setCell ⟨O, j, none⟩ v0).setCell ⟨O, j + 1, none⟩ v1).setCell ⟨O, j + 2, none⟩ v2).setCell ⟨O, j + 3, none⟩ v3).setCell ⟨O, j + 4, none⟩ v4).setCell ⟨O, j + 5, none⟩ v5).setCell ⟨O, j + 6, none⟩ v6).setCell ⟨O, j + 7, none⟩ v7)) (b0 : BoxAt w O j u0) (b1 : BoxAt w O (j + 1) u1) (b2 : BoxAt w O (j + 2) u2) (b3 : BoxAt w O (j + 3) u3) (b4 : BoxAt w O (j + 4) u4) (b5 : BoxAt w O (j + 5) u5) (b6 : BoxAt w O (j + 6) u6) (b7 : BoxAt w O (j + 7) u7)
  (h : ∀ X, Turns O w X → BoxAt X O j v0 → BoxAt X O (j + 1) v1 → BoxAt X O (j + 2) v2 → BoxAt X O (j + 3) v3 → BoxAt X O (j + 4) v4 → BoxAt X O (j + 5) v5 → BoxAt X O (j + 6) v6 → BoxAt X O (j + 7) v7 → (∀ i x, i ≠ j → i ≠ (j + 1) → i ≠ (j + 2) → i ≠ (j + 3) → i ≠ (j + 4) → i ≠ (j + 5) → i ≠ (j + 6) → i ≠ (j + 7) → BoxAt w O i x → BoxAt X O i x) → N undef X) : StepN Tryz.prog ev oi w N := by
 have k : ∀ (W : World) (j : Nat) (u v : Value), BoxAt W O j u → BoxAt (W.setCell ⟨O, j, none⟩ v) O j v := fun W j u v hO => ⟨by have := hO.1; simp [go_sem, this], by have := hO.2; simpa [go_sem] using this⟩
 have k2 : ∀ (W : World) (j i : Nat) (x v : Value), i ≠ j → BoxAt W O i x → BoxAt (W.setCell ⟨O, j, none⟩ v) O i x := fun W j i x v hi hx => ⟨by rw [World.cell?_setCell_other W _ _ _ (fun e => hi (congrArg Addr.off e).symm)]; exact hx.1, by simp [go_sem, hx.2]⟩
 exact sn_skp h1 (h _ ((((((((turns_set _ _ _ _).trans (turns_set _ _ _ _)).trans (turns_set _ _ _ _)).trans (turns_set _ _ _ _)).trans (turns_set _ _ _ _)).trans (turns_set _ _ _ _)).trans (turns_set _ _ _ _)).trans (turns_set _ _ _ _)) (k2 _ _ _ _ _ (by omega) (k2 _ _ _ _ _ (by omega) (k2 _ _ _ _ _ (by omega) (k2 _ _ _ _ _ (by omega) (k2 _ _ _ _ _ (by omega) (k2 _ _ _ _ _ (by omega) (k2 _ _ _ _ _ (by omega) (k _ _ _ _ b0)))))))) (k2 _ _ _ _ _ (by omega) (k2 _ _ _ _ _ (by omega) (k2 _ _ _ _ _ (by omega) (k2 _ _ _ _ _ (by omega) (k2 _ _ _ _ _ (by omega) (k2 _ _ _ _ _ (by omega) (k _ _ _ _ (k2 _ _ _ _ _ (by omega) b1)))))))) (k2 _ _ _ _ _ (by omega) (k2 _ _ _ _ _ (by omega) (k2 _ _ _ _ _ (by omega) (k2 _ _ _ _ _ (by omega) (k2 _ _ _ _ _ (by omega) (k _ _ _ _ (k2 _ _ _ _ _ (by omega) (k2 _ _ _ _ _ (by omega) b2)))))))) (k2 _ _ _ _ _ (by omega) (k2 _ _ _ _ _ (by omega) (k2 _ _ _ _ _ (by omega) (k2 _ _ _ _ _ (by omega) (k _ _ _ _ (k2 _ _ _ _ _ (by omega) (k2 _ _ _ _ _ (by omega) (k2 _ _ _ _ _ (by omega) b3)))))))) (k2 _ _ _ _ _ (by omega) (k2 _ _ _ _ _ (by omega) (k2 _ _ _ _ _ (by omega) (k _ _ _ _ (k2 _ _ _ _ _ (by omega) (k2 _ _ _ _ _ (by omega) (k2 _ _ _ _ _ (by omega) (k2 _ _ _ _ _ (by omega) b4)))))))) (k2 _ _ _ _ _ (by omega) (k2 _ _ _ _ _ (by omega) (k _ _ _ _ (k2 _ _ _ _ _ (by omega) (k2 _ _ _ _ _ (by omega) (k2 _ _ _ _ _ (by omega) (k2 _ _ _ _ _ (by omega) (k2 _ _ _ _ _ (by omega) b5)))))))) (k2 _ _ _ _ _ (by omega) (k _ _ _ _ (k2 _ _ _ _ _ (by omega) (k2 _ _ _ _ _ (by omega) (k2 _ _ _ _ _ (by omega) (k2 _ _ _ _ _ (by omega) (k2 _ _ _ _ _ (by omega) (k2 _ _ _ _ _ (by omega) b6)))))))) (k _ _ _ _ (k2 _ _ _ _ _ (by omega) (k2 _ _ _ _ _ (by omega) (k2 _ _ _ _ _ (by omega) (k2 _ _ _ _ _ (by omega) (k2 _ _ _ _ _ (by omega) (k2 _ _ _ _ _ (by omega) (k2 _ _ _ _ _ (by omega) b7)))))))) fun i x h0 h1 h2 h3 h4 h5 h6 h7 hx => (k2 _ _ _ _ _ h7 (k2 _ _ _ _ _ h6 (k2 _ _ _ _ _ h5 (k2 _ _ _ _ _ h4 (k2 _ _ _ _ _ h3 (k2 _ _ _ _ _ h2 (k2 _ _ _ _ _ h1 (k2 _ _ _ _ _ h0 hx)))))))))
theorem st127 {w : World} {b o : Nat} {u0 u1 u2 : Value} {x0 : Int} {x1 : Int} {x2 : Int} (h0 : w.cell? ⟨b, o, none⟩ = some u0) (f0 : w.frozen? ⟨b, o, none⟩ = false) (h1 : w.cell? ⟨b, o + 1, none⟩ = some u1) (f1 : w.frozen? ⟨b, o + 1, none⟩ = false) (h2 : w.cell? ⟨b, o + 2, none⟩ = some u2) (f2 : w.frozen? ⟨b, o + 2, none⟩ = false) : (Instr.storeAt 127 (.pointer (some ⟨b, o, none⟩)) (.agg #[(.int .i64 x0), (.int .i64 x1), (.int .i64 x2)])).run Tryz.prog w = .ok () (((w.setCell ⟨b, o, none⟩ (.int .i64 x0)).setCell ⟨b, o + 1, none⟩ (.int .i64 x1)).setCell ⟨b, o + 2, none⟩ (.int .i64 x2)) := by go_simp
theorem st166 {w : World} {b o : Nat} {u0 u1 u2 u3 u4 u5 u6 u7 : Value} {x0 : Int} {x1 : Int} {x2 : Int} {x3 : Int} {x4 : Int} {x5 : Int} {x6 : Int} {x7 : Int} (h0 : w.cell? ⟨b, o, none⟩ = some u0) (f0 : w.frozen? ⟨b, o, none⟩ = false) (h1 : w.cell? ⟨b, o + 1, none⟩ = some u1) (f1 : w.frozen? ⟨b, o + 1, none⟩ = false) (h2 : w.cell? ⟨b, o + 2, none⟩ = some u2) (f2 : w.frozen? ⟨b, o + 2, none⟩ = false) (h3 : w.cell? ⟨b, o + 3, none⟩ = some u3) (f3 : w.frozen? ⟨b, o + 3, none⟩ = false) (h4 : w.cell? ⟨b, o + 4, none⟩ = some u4) (f4 : w.frozen? ⟨b, o + 4, none⟩ = false) (h5 : w.cell? ⟨b, o + 5, none⟩ = some u5) (f5 : w.frozen? ⟨b, o + 5, none⟩ = false) (h6 : w.cell? ⟨b, o + 6, none⟩ = some u6) (f6 : w.frozen? ⟨b, o + 6, none⟩ = false) (h7 : w.cell? ⟨b, o + 7, none⟩ = some u7) (f7 : w.frozen? ⟨b, o + 7, none⟩ = false) : (Instr.storeAt 166 (.pointer (some ⟨b, o, none⟩)) (.agg #[(.int .i64 x0), (.int .i64 x1), (.int .i64 x2), (.int .i64 x3), (.int .i64 x4), (.int .i64 x5), (.int .i64 x6), (.int .i64 x7)])).run Tryz.prog w = .ok () ((((((((w.setCell ⟨b, o, none⟩ (.int .i64 x0)).setCell ⟨b, o + 1, none⟩ (.int .i64 x1)).setCell ⟨b, o + 2, none⟩ (.int .i64 x2)).setCell ⟨b, o + 3, none⟩ (.int .i64 x3)).setCell ⟨b, o + 4, none⟩ (.int .i64 x4)).setCell ⟨b, o + 5, none⟩ (.int .i64 x5)).setCell ⟨b, o + 6, none⟩ (.int .i64 x6)).setCell ⟨b, o + 7, none⟩ (.int .i64 x7)) := by go_simp
theorem st26 {w : World} {b o : Nat} {u0 u1 u2 u3 u4 u5 u6 : Value} {x0 : Int} {x1 : Int} {x2 : Int} {x3 : Int} {x4 : Int} {x5 : Int} {x6 : Int} (h0 : w.cell? ⟨b, o, none⟩ = some u0) (f0 : w.frozen? ⟨b, o, none⟩ = false) (h1 : w.cell? ⟨b, o + 1, none⟩ = some u1) (f1 : w.frozen? ⟨b, o + 1, none⟩ = false) (h2 : w.cell? ⟨b, o + 2, none⟩ = some u2) (f2 : w.frozen? ⟨b, o + 2, none⟩ = false) (h3 : w.cell? ⟨b, o + 3, none⟩ = some u3) (f3 : w.frozen? ⟨b, o + 3, none⟩ = false) (h4 : w.cell? ⟨b, o + 4, none⟩ = some u4) (f4 : w.frozen? ⟨b, o + 4, none⟩ = false) (h5 : w.cell? ⟨b, o + 5, none⟩ = some u5) (f5 : w.frozen? ⟨b, o + 5, none⟩ = false) (h6 : w.cell? ⟨b, o + 6, none⟩ = some u6) (f6 : w.frozen? ⟨b, o + 6, none⟩ = false) : (Instr.storeAt 26 (.pointer (some ⟨b, o, none⟩)) (.agg #[(.int .i64 x0), (.int .i64 x1), (.int .i64 x2), (.int .i64 x3), (.int .i64 x4), (.int .i64 x5), (.int .i64 x6)])).run Tryz.prog w = .ok () (((((((w.setCell ⟨b, o, none⟩ (.int .i64 x0)).setCell ⟨b, o + 1, none⟩ (.int .i64 x1)).setCell ⟨b, o + 2, none⟩ (.int .i64 x2)).setCell ⟨b, o + 3, none⟩ (.int .i64 x3)).setCell ⟨b, o + 4, none⟩ (.int .i64 x4)).setCell ⟨b, o + 5, none⟩ (.int .i64 x5)).setCell ⟨b, o + 6, none⟩ (.int .i64 x6)) := by go_simp
theorem st3 {w : World} {b o : Nat} {u0 : Value} {x0 : Int} (h0 : w.cell? ⟨b, o, none⟩ = some u0) (f0 : w.frozen? ⟨b, o, none⟩ = false) : (Instr.storeAt 3 (.pointer (some ⟨b, o, none⟩)) ((.int .i64 x0))).run Tryz.prog w = .ok () (w.setCell ⟨b, o, none⟩ (.int .i64 x0)) := by go_simp
theorem st30 {w : World} {b o : Nat} {u0 : Value} {a0 : Option Addr} {n0 c0 : Nat} (h0 : w.cell? ⟨b, o, none⟩ = some u0) (f0 : w.frozen? ⟨b, o, none⟩ = false) : (Instr.storeAt 30 (.pointer (some ⟨b, o, none⟩)) ((.slice a0 n0 c0))).run Tryz.prog w = .ok () (w.setCell ⟨b, o, none⟩ (.slice a0 n0 c0)) := by go_simp
theorem st33 {w : World} {b o : Nat} {u0 : Value} {a0 : Option Addr} {n0 c0 : Nat} (h0 : w.cell? ⟨b, o, none⟩ = some u0) (f0 : w.frozen? ⟨b, o, none⟩ = false) : (Instr.storeAt 33 (.pointer (some ⟨b, o, none⟩)) (.agg #[(.slice a0 n0 c0)])).run Tryz.prog w = .ok () (w.setCell ⟨b, o, none⟩ (.slice a0 n0 c0)) := by go_simp
theorem st40 {w : World} {b o : Nat} {u0 u1 : Value} {a0 : Option Addr} {n0 c0 : Nat} {a1 : Option Addr} {n1 c1 : Nat} (h0 : w.cell? ⟨b, o, none⟩ = some u0) (f0 : w.frozen? ⟨b, o, none⟩ = false) (h1 : w.cell? ⟨b, o + 1, none⟩ = some u1) (f1 : w.frozen? ⟨b, o + 1, none⟩ = false) : (Instr.storeAt 40 (.pointer (some ⟨b, o, none⟩)) (.agg #[(.slice a0 n0 c0), (.slice a1 n1 c1)])).run Tryz.prog w = .ok () ((w.setCell ⟨b, o, none⟩ (.slice a0 n0 c0)).setCell ⟨b, o + 1, none⟩ (.slice a1 n1 c1)) := by go_simp
theorem st49 {w : World} {b o : Nat} {u0 u1 u2 u3 : Value} {x0 : Int} {x1 : Int} {x2 : Bool} {a3 : Option Addr} {n3 c3 : Nat} (h0 : w.cell? ⟨b, o, none⟩ = some u0) (f0 : w.frozen? ⟨b, o, none⟩ = false) (h1 : w.cell? ⟨b, o + 1, none⟩ = some u1) (f1 : w.frozen? ⟨b, o + 1, none⟩ = false) (h2 : w.cell? ⟨b, o + 2, none⟩ = some u2) (f2 : w.frozen? ⟨b, o + 2, none⟩ = false) (h3 : w.cell? ⟨b, o + 3, none⟩ = some u3) (f3 : w.frozen? ⟨b, o + 3, none⟩ = false) : (Instr.storeAt 49 (.pointer (some ⟨b, o, none⟩)) (.agg #[(.int .i64 x0), (.int .i64 x1), (.bool x2), (.slice a3 n3 c3)])).run Tryz.prog w = .ok () ((((w.setCell ⟨b, o, none⟩ (.int .i64 x0)).setCell ⟨b, o + 1, none⟩ (.int .i64 x1)).setCell ⟨b, o + 2, none⟩ (.bool x2)).setCell ⟨b, o + 3, none⟩ (.slice a3 n3 c3)) := by go_simp
theorem st53 {w : World} {b o : Nat} {u0 u1 u2 u3 : Value} {x0 : Int} {x1 : Int} {a2 : Option Addr} {n2 c2 : Nat} {a3 : Option Addr} {n3 c3 : Nat} (h0 : w.cell? ⟨b, o, none⟩ = some u0) (f0 : w.frozen? ⟨b, o, none⟩ = false) (h1 : w.cell? ⟨b, o + 1, none⟩ = some u1) (f1 : w.frozen? ⟨b, o + 1, none⟩ = false) (h2 : w.cell? ⟨b, o + 2, none⟩ = some u2) (f2 : w.frozen? ⟨b, o + 2, none⟩ = false) (h3 : w.cell? ⟨b, o + 3, none⟩ = some u3) (f3 : w.frozen? ⟨b, o + 3, none⟩ = false) : (Instr.storeAt 53 (.pointer (some ⟨b, o, none⟩)) (.agg #[(.int .i64 x0), (.int .i64 x1), (.slice a2 n2 c2), (.slice a3 n3 c3)])).run Tryz.prog w = .ok () ((((w.setCell ⟨b, o, none⟩ (.int .i64 x0)).setCell ⟨b, o + 1, none⟩ (.int .i64 x1)).setCell ⟨b, o + 2, none⟩ (.slice a2 n2 c2)).setCell ⟨b, o + 3, none⟩ (.slice a3 n3 c3)) := by go_simp
theorem st65 {w : World} {b o : Nat} {u0 u1 : Value} {x0 : Int} {x1 : Int} (h0 : w.cell? ⟨b, o, none⟩ = some u0) (f0 : w.frozen? ⟨b, o, none⟩ = false) (h1 : w.cell? ⟨b, o + 1, none⟩ = some u1) (f1 : w.frozen? ⟨b, o + 1, none⟩ = false) : (Instr.storeAt 65 (.pointer (some ⟨b, o, none⟩)) (.agg #[(.int .i64 x0), (.int .i64 x1)])).run Tryz.prog w = .ok () ((w.setCell ⟨b, o, none⟩ (.int .i64 x0)).setCell ⟨b, o + 1, none⟩ (.int .i64 x1)) := by go_simp
theorem zG {ev : Operand → Value} {oi : Oper} {w : World} {N : Value → World → Prop} {t : TypeId} {x y : Operand} {u0 u1 u2 u3 : Value} (O : Nat) (v0 v1 v2 v3 : Value) (hst : (Instr.storeAt t (.pointer (some ⟨O, 0, none⟩)) (.agg #[v0, v1, v2, v3])).run Tryz.prog w = .ok () ((((w.setCell ⟨O, 0, none⟩ v0).setCell ⟨O, 0 + 1, none⟩ v1).setCell ⟨O, 0 + 2, none⟩ v2).setCell ⟨O, 0 + 3, none⟩ v3)) (b0 : BoxAt w O 0 u0) (b1 : BoxAt w O (0 + 1) u1) (b2 : BoxAt w O (0 + 2) u2) (b3 : BoxAt w O (0 + 3) u3)
    (h : ∀ X, Turns O w X → BoxAt X O 0 v0 → BoxAt X O (0 + 1) v1 → BoxAt X O (0 + 2) v2 → BoxAt X O (0 + 3) v3 → (∀ i x, i ≠ 0 → i ≠ (0 + 1) → i ≠ (0 + 2) → i ≠ (0 + 3) → BoxAt w O i x → BoxAt X O i x) → N undef X) (hop : oi.op = .store t x y := by rfl) (hx : ev x = .pointer (some ⟨O, 0, none⟩) := by kernel_rfl) (hy : ev y = .agg #[v0, v1, v2, v3] := by kernel_rfl) : StepN Tryz.prog ev oi w N := sn_setK4 (ex_store hop hx hy hst) b0 b1 b2 b3 h
end Go.Proofs.YtajdohcgjgknmaaGreatDoor

namespace Go.Proofs.YtajdohcgjgknmaaGreatDoor
set_option maxRecDepth 1000000
set_option maxHeartbeats 4000000
set_option synthInstance.maxHeartbeats 0
set_option synthInstance.maxSize 9999
open Go.RowKit
theorem isNaN_g (x : Int) (w : World) : Calls Tryz.prog 135 #[iv x] w fun e w' => e = .returned (.bool false) ∧ Gro w w' := by
 have hG : Gro w w := Gro.refl w;refine calls_cw 6 [(0, iv x)] Tryz.func135 rfl Tryz.ntmps135 (by kernel_rfl) (by kernel_rfl) (fun L => ?_);have hE := Ext.refl w;refine zc (zp (pT (.bool false) ?_));refine zn (zc (zp (pD (iv x) (iv x) ?_)));refine pU (.bool false) (ev_bool (show _ = Result.ok (Next.value (Value.bool ((x : Int) != x))) _ from by kernel_rfl) (bne_self_eq_false _)) ?_;refine pT (.bool false) ?_;refine zn (cw_ret (qw_ret [.bool false] rfl ⟨(by kernel_rfl), trivial⟩ ?_));exact ⟨rfl, hG⟩
theorem Compare_g (a b : Int) (w : World) : Calls Tryz.prog 114 #[iv a, iv b] w fun e w' => e = .returned (iv (Prod.cmpI a b)) ∧ Gro w w' := by
 have hG : Gro w w := Gro.refl w;refine calls_cw 20 [(1, iv b), (0, iv a)] Tryz.func114 rfl Tryz.ntmps114 (by kernel_rfl) (by kernel_rfl) (fun L => ?_);have hE := Ext.refl w;refine zc (zp (pT (iv 0) ?_));refine zn (zc (zp (pT (iv a) ?_)));refine pS (sc 135 #[iv a] ((isNaN_g a _).mono ?_));rintro e w1 ⟨rfl, hb⟩;have hgx := hb;replace hb := hgx.ext;replace hG := hG.trans hgx;clear hgx;replace hE := hE.trans hb;have Bb := hb.size;refine ⟨_, rfl, pT (.bool false) ?_⟩;refine zn (zc (zp (pT (iv b) ?_)));refine pS (sc 135 #[iv b] ((isNaN_g b _).mono ?_));rintro e w3 ⟨rfl, hb⟩;have hgx := hb;replace hb := hgx.ext;replace hG := hG.trans hgx;clear hgx;replace hE := hE.trans hb;have Bc := hb.size;refine ⟨_, rfl, pT (.bool false) ?_⟩;refine zn (zc (zc (zp (pT (.bool false) ?_))));refine zn (zf ?_);refine cw_skip (zq (zc (zc (zp (pT (.bool false) ?_)))));refine zn (zf ?_);refine cw_skip (zq (zc (zc (zp (pD (iv a) (iv b) ?_)))))
 by_cases B7 : (a : Int) < (b : Int)
 ·
  refine pU (.bool true) (ed ((a : Int) < (b : Int)) (B7)) ?_;refine zn (zt ?_);refine zc (zp (pT (iv (-1 : Int)) ?_));refine zn (cw_ret (qw_then_ret (qw_ret [iv (-1 : Int)] rfl ⟨(by kernel_rfl), trivial⟩ ?_)));exact ⟨congrArg (fun z => Ending.returned (Value.int .i64 z)) (show (-1 : Int) = Prod.cmpI a b by unfold Prod.cmpI; simp [B7]), hG⟩
 ·
  refine pU (.bool false) (en ((a : Int) < (b : Int)) (B7)) ?_;refine zn (zf ?_);refine cw_skip (zq (zc (zc (zp (pD (iv a) (iv b) ?_)))))
  by_cases Ba : (a : Int) > (b : Int)
  ·
   refine pU (.bool true) (ed ((a : Int) > (b : Int)) (Ba)) ?_;refine zn (cK [19] (fun L => ?_));refine zt ?_;refine zc (zp (pT (iv 1) ?_));refine zn (cw_ret (qw_then_ret (qw_ret [iv 1] rfl ⟨(by kernel_rfl), trivial⟩ ?_)));exact ⟨congrArg (fun z => Ending.returned (Value.int .i64 z)) (show (1 : Int) = Prod.cmpI a b by unfold Prod.cmpI; simp [B7, Ba]), hG⟩
  ·
   refine pU (.bool false) (en ((a : Int) > (b : Int)) (Ba)) ?_;refine zn (cK [19] (fun L => ?_));refine zf ?_;refine cw_skip (zq (zc (zp (pT (iv 0) ?_))));refine zn (cw_ret (qw_ret [iv 0] rfl ⟨(by kernel_rfl), trivial⟩ ?_));exact ⟨congrArg (fun z => Ending.returned (Value.int .i64 z)) (show (0 : Int) = Prod.cmpI a b by unfold Prod.cmpI; simp [B7, Ba]), hG⟩
theorem clear_g (x : Prod.Pc) (a : Option Addr) (k c : Nat) (w : World) : Calls Tryz.prog 115 #[.agg #[iv x.im, iv x.t, .bool x.cl, .slice a k c]] w fun e w' => e = .returned (iv (Prod.clI x.cl)) ∧ Gro w w' := by
 cases hcl : x.cl
 ·
  have hG : Gro w w := Gro.refl w;refine calls_cw 5 [(0, .agg #[iv x.im, iv x.t, .bool false, .slice a k c])] Tryz.func115 rfl Tryz.ntmps115 (by kernel_rfl) (by kernel_rfl) (fun L => ?_);have hE := Ext.refl w;refine zc (zp (pS (sn_newG (us := #[iv x.im, iv x.t, .bool false, .slice a k c]) (t := 49) (by kernel_rfl) ?_)));intro O1 X2 hO hOs hb hbx hgx;replace hG := hG.trans hgx;clear hgx;have hzO1 := hO;have hyO1 := hOs;clear hO hOs;have ⟨bO1_0, bO1_1, bO1_2, bO1_3⟩ := bq4 hbx;replace hE := hE.trans hb;have hs3 := hb.size;have lt4 := bO1_0.lt;refine pT (iv 0) ?_;refine zn (zc (zc (zp (pT (pw O1 2) ?_))));refine pU (.bool false) (xl (ld4 (bO1_2.1))) ?_;refine zn (zf ?_);refine cw_skip (zq (zc (zp (pT (iv 0) ?_))));refine zn (cw_ret (qw_ret [iv 0] rfl ⟨(by kernel_rfl), trivial⟩ ?_));exact ⟨rfl, hG⟩
 ·
  have hG : Gro w w := Gro.refl w;refine calls_cw 5 [(0, .agg #[iv x.im, iv x.t, .bool true, .slice a k c])] Tryz.func115 rfl Tryz.ntmps115 (by kernel_rfl) (by kernel_rfl) (fun L => ?_);have hE := Ext.refl w;refine zc (zp (pS (sn_newG (us := #[iv x.im, iv x.t, .bool true, .slice a k c]) (t := 49) (by kernel_rfl) ?_)));intro O1 X2 hO hOs hb hbx hgx;replace hG := hG.trans hgx;clear hgx;have hzO1 := hO;have hyO1 := hOs;clear hO hOs;have ⟨bO1_0, bO1_1, bO1_2, bO1_3⟩ := bq4 hbx;replace hE := hE.trans hb;have hs3 := hb.size;have lt4 := bO1_0.lt;refine pT (iv 0) ?_;refine zn (zc (zc (zp (pT (pw O1 2) ?_))));refine pU (.bool true) (xl (ld4 (bO1_2.1))) ?_;refine zn (zt ?_);refine zc (zp (pT (iv 1) ?_));refine zn (cw_ret (qw_then_ret (qw_ret [iv 1] rfl ⟨(by kernel_rfl), trivial⟩ ?_)));exact ⟨rfl, hG⟩
theorem Or_g {b o c : Nat} {x y z : Int} (w : World) (h0 : w.cell? ⟨b, o, none⟩ = some (.int .i64 x)) (h1 : w.cell? ⟨b, o + 1, none⟩ = some (.int .i64 y)) (h2 : w.cell? ⟨b, o + 2, none⟩ = some (.int .i64 z)) :
    Calls Tryz.prog 113 #[.slice (some ⟨b, o, none⟩) 3 c] w fun e w' => e = .returned (.int .i64 (Prod.or3 x y z)) ∧ Gro w w' := by
  by_cases hx : x = 0
  · by_cases hy : y = 0
    · by_cases hz : z = 0
      · go_enter Tryz.func113, Tryz.ntmps113
        go_wp2_with fail
        refine wp_loop_rounds 4 ?_
        iterate 4 (rw [rounds_succ]; go_wp2_with fail)
        go_ret
        exact ⟨by simp [Prod.or3, hx, hy, hz], Gro.refl _⟩
      · go_enter Tryz.func113, Tryz.ntmps113
        go_wp2_with fail
        refine wp_loop_rounds 4 ?_
        iterate 3 (rw [rounds_succ]; go_wp2_with fail)
        go_ret
        exact ⟨by simp [Prod.or3, hx, hy], Gro.refl _⟩
    · go_enter Tryz.func113, Tryz.ntmps113
      go_wp2_with fail
      refine wp_loop_rounds 4 ?_
      iterate 2 (rw [rounds_succ]; go_wp2_with fail)
      go_ret
      exact ⟨by simp [Prod.or3, hx, hy], Gro.refl _⟩
  · go_enter Tryz.func113, Tryz.ntmps113
    go_wp2_with fail
    refine wp_loop_rounds 4 ?_
    rw [rounds_succ]; go_wp2_with fail
    go_ret
    exact ⟨by simp [Prod.or3, hx], Gro.refl _⟩
theorem rank_g {x y : Prod.Pc} {a1 a2 : Option Addr} {k1 c1 k2 c2 : Nat} (w : World) : Calls Tryz.prog 80 #[.agg #[iv x.im, iv x.t, .bool x.cl, .slice a1 k1 c1], .agg #[iv y.im, iv y.t, .bool y.cl, .slice a2 k2 c2]] w fun e w' => e = .returned (iv (Prod.rk x.cl x.t x.im y.cl y.t y.im)) ∧ Gro w w' := by
 have hG : Gro w w := Gro.refl w;refine calls_cw 22 [(1, .agg #[iv y.im, iv y.t, .bool y.cl, .slice a2 k2 c2]), (0, .agg #[iv x.im, iv x.t, .bool x.cl, .slice a1 k1 c1])] Tryz.func80 rfl Tryz.ntmps80 (by kernel_rfl) (by kernel_rfl) (fun L => ?_);have hE := Ext.refl w;refine zc (zp (pS (sn_newG (us := #[iv x.im, iv x.t, .bool x.cl, .slice a1 k1 c1]) (t := 49) (by kernel_rfl) ?_)));intro O1 X2 hO hOs hb hbx hgx;replace hG := hG.trans hgx;clear hgx;have C3 := hO;have C1 := hOs;clear hO hOs;have ⟨B7, Ba, Bb, Bc⟩ := bq4 hbx;replace hE := hE.trans hb;have C8 := hb.size;have Ca := B7.lt;refine pS (sn_newG (us := #[iv y.im, iv y.t, .bool y.cl, .slice a2 k2 c2]) (t := 49) (by kernel_rfl) ?_);intro O5 X6 hO hOs hb hbx hgx;replace hG := hG.trans hgx;clear hgx;have C4 := hO;have C2 := hOs;clear hO hOs;have ⟨Be, Bf, Bg, Bh⟩ := bq4 hbx;refine mv5 hb hE B7 Ba Bb Bc fun hE B7 Ba Bb Bc=>?_;have C9 := hb.size;have Cb := Be.lt;refine pT (iv 0) ?_;refine zn (zc (cw_drawG [(some 5, [2], []), (some 6, [5], [0]), (some 7, [3], []), (some 8, [7], [2, 1]), (some 9, [6, 8], [1, 3, 3]), (some 10, [2], []), (some 11, [10], [5]), (some 12, [3], []), (some 13, [12], [7]), (some 14, [11, 13], [6, 8, 4]), (some 15, [2], []), (some 16, [15], [10]), (some 17, [3], []), (some 18, [17], [12]), (some 19, [16, 18], [11, 13, 9]), (some 20, [9, 14, 19], [4, 9, 14]), (some 21, [20], [15, 14]), (some 4, [21], [16, 16, 0, 1, 2, 3, 4, 5, 6, 7, 8, 9, 10, 11, 12, 13, 14, 15, 16])] (fun w' => w'.cell? ⟨O1, 0, none⟩ = some (iv x.im) ∧ w'.cell? ⟨O1, 1, none⟩ = some (iv x.t) ∧ w'.cell? ⟨O1, 2, none⟩ = some (.bool x.cl) ∧ w'.cell? ⟨O1, 3, none⟩ = some (.slice a1 k1 c1) ∧ w'.cell? ⟨O5, 0, none⟩ = some (iv y.im) ∧ w'.cell? ⟨O5, 1, none⟩ = some (iv y.t) ∧ w'.cell? ⟨O5, 2, none⟩ = some (.bool y.cl) ∧ w'.cell? ⟨O5, 3, none⟩ = some (.slice a2 k2 c2)) (by kernel_rfl) (by kernel_rfl) (by kernel_rfl) (by kernel_rfl) ((calm_then calm_body)) (⟨B7.1, Ba.1, Bb.1, Bc.1, Be.1, Bf.1, Bg.1, Bh.1⟩) (fun ops Q X9 hgx hb hL hR hK => ?_)));replace hG := hG.trans hgx;clear hgx;refine mv9 hb hE B7 Ba Bb Bc Be Bf Bg Bh fun hE B7 Ba Bb Bc Be Bf Bg Bh=>?_;have Br := hb.size;have hS := A8 B7.1 Ba.1 Bb.1 Bc.1 Be.1 Bf.1 Bg.1 Bh.1;refine wM 0 (.agg #[iv x.im, iv x.t, .bool x.cl, .slice a1 k1 c1]) hR (fun w hS => ld49 (hS.1) (hS.2.1) (hS.2.2.1) (hS.2.2.2.1)) hS ?_;refine wM 2 (.agg #[iv y.im, iv y.t, .bool y.cl, .slice a2 k2 c2]) hR (fun w hS => ld49 (hS.2.2.2.2.1) (hS.2.2.2.2.2.1) (hS.2.2.2.2.2.2.1) (hS.2.2.2.2.2.2.2)) hS ?_;refine wV 5 (pw O1 1) hR hS ?_;refine wM 6 (iv x.t) hR (fun w hS => ld3 (hS.2.1)) hS ?_;refine wV 7 (pw O5 1) hR hS ?_;refine wM 8 (iv y.t) hR (fun w hS => ld3 (hS.2.2.2.2.2.1)) hS ?_;refine wV 10 (pw O1 0) hR hS ?_;refine wM 11 (iv x.im) hR (fun w hS => ld3 (hS.1)) hS ?_;refine wV 12 (pw O5 0) hR hS ?_;refine wM 13 (iv y.im) hR (fun w hS => ld3 (hS.2.2.2.2.1)) hS ?_;refine wC 1 115 #[.agg #[iv x.im, iv x.t, .bool x.cl, .slice a1 k1 c1]] hR ((clear_g x a1 k1 c1 _).mono ?_);rintro e Cc ⟨rfl, hb⟩;have hgx := hb;replace hb := hgx.ext;replace hG := hG.trans hgx;clear hgx;refine mv9 hb hE B7 Ba Bb Bc Be Bf Bg Bh fun hE B7 Ba Bb Bc Be Bf Bg Bh=>?_;have Bt := hb.size;refine ⟨_, rfl, ⟨B7.1, Ba.1, Bb.1, Bc.1, Be.1, Bf.1, Bg.1, Bh.1⟩, ?_⟩;refine wC 3 115 #[.agg #[iv y.im, iv y.t, .bool y.cl, .slice a2 k2 c2]] hR ((clear_g y a2 k2 c2 _).mono ?_);rintro e Cd ⟨rfl, hb⟩;have hgx := hb;replace hb := hgx.ext;replace hG := hG.trans hgx;clear hgx;refine mv9 hb hE B7 Ba Bb Bc Be Bf Bg Bh fun hE B7 Ba Bb Bc Be Bf Bg Bh=>?_;have Bu := hb.size;refine ⟨_, rfl, ⟨B7.1, Ba.1, Bb.1, Bc.1, Be.1, Bf.1, Bg.1, Bh.1⟩, ?_⟩;refine wC 4 114 #[iv (Prod.clI x.cl : Int), iv (Prod.clI y.cl : Int)] hR ((Compare_g (Prod.clI x.cl) (Prod.clI y.cl) _).mono ?_);rintro e Ce ⟨rfl, hb⟩;have hgx := hb;replace hb := hgx.ext;replace hG := hG.trans hgx;clear hgx;refine mv9 hb hE B7 Ba Bb Bc Be Bf Bg Bh fun hE B7 Ba Bb Bc Be Bf Bg Bh=>?_;have Bv := hb.size;refine ⟨_, rfl, ⟨B7.1, Ba.1, Bb.1, Bc.1, Be.1, Bf.1, Bg.1, Bh.1⟩, ?_⟩;refine wC 9 114 #[iv x.t, iv y.t] hR ((Compare_g x.t y.t _).mono ?_);rintro e Cf ⟨rfl, hb⟩;have hgx := hb;replace hb := hgx.ext;replace hG := hG.trans hgx;clear hgx;refine mv9 hb hE B7 Ba Bb Bc Be Bf Bg Bh fun hE B7 Ba Bb Bc Be Bf Bg Bh=>?_;have Bw := hb.size;refine ⟨_, rfl, ⟨B7.1, Ba.1, Bb.1, Bc.1, Be.1, Bf.1, Bg.1, Bh.1⟩, ?_⟩;refine wC 14 114 #[iv x.im, iv y.im] hR ((Compare_g x.im y.im _).mono ?_);rintro e Cg ⟨rfl, hb⟩;have hgx := hb;replace hb := hgx.ext;replace hG := hG.trans hgx;clear hgx;refine mv9 hb hE B7 Ba Bb Bc Be Bf Bg Bh fun hE B7 Ba Bb Bc Be Bf Bg Bh=>?_;have Bx := hb.size;refine ⟨_, rfl, ⟨B7.1, Ba.1, Bb.1, Bc.1, Be.1, Bf.1, Bg.1, Bh.1⟩, ?_⟩;refine wS 15 hR (sn_newSG (us := #[iv (Prod.cmpI (Prod.clI x.cl) (Prod.clI y.cl) : Int), iv (Prod.cmpI x.t y.t : Int), iv (Prod.cmpI x.im y.im : Int)]) (t := 3) (k := 3) (c := 3) (by kernel_rfl) ?_);intro Bq C6 hO hOs hb hbx hgx;replace hG := hG.trans hgx;clear hgx;have Bp := hO;have Bm := hOs;clear hO hOs;have ⟨Bi, Bj, Bk⟩ := bq3 hbx;refine mv9 hb hE B7 Ba Bb Bc Be Bf Bg Bh fun hE B7 Ba Bb Bc Be Bf Bg Bh=>?_;have Bz := hb.size;have C5 := Bi.lt
 refine ⟨⟨B7.1, Ba.1, Bb.1, Bc.1, Be.1, Bf.1, Bg.1, Bh.1⟩, ?_⟩;refine wC 16 113 #[sv Bq 0 3 3] hR ((Or_g _ (Bi.1) (Bj.1) (Bk.1)).mono ?_);rintro e Ch ⟨rfl, hb⟩;have hgx := hb;replace hb := hgx.ext;replace hG := hG.trans hgx;clear hgx;refine mv9 hb hE B7 Ba Bb Bc Be Bf Bg Bh fun hE B7 Ba Bb Bc Be Bf Bg Bh=>?_;have C0 := hb.size;have hS := A8 B7.1 Ba.1 Bb.1 Bc.1 Be.1 Bf.1 Bg.1 Bh.1;refine ⟨_, rfl, hS, ?_⟩;refine wV 17 (iv (Prod.or3 (Prod.cmpI (Prod.clI x.cl) (Prod.clI y.cl)) (Prod.cmpI x.t y.t) (Prod.cmpI x.im y.im) : Int)) hR hS ?_;refine we hL hR hK ?_;refine zq (cK [4] (fun L => ?_));refine cw_ret (qw_ret [iv (Prod.or3 (Prod.cmpI (Prod.clI x.cl) (Prod.clI y.cl)) (Prod.cmpI x.t y.t) (Prod.cmpI x.im y.im) : Int)] rfl ⟨(by kernel_rfl), trivial⟩ ?_);exact ⟨rfl, hG⟩
theorem order_g {x y : Prod.Pc} {a1 a2 : Option Addr} {k1 c1 k2 c2 : Nat} (w : World) : Calls Tryz.prog 123 #[.agg #[iv x.im, iv x.t, .bool x.cl, .slice a1 k1 c1], .agg #[iv y.im, iv y.t, .bool y.cl, .slice a2 k2 c2]] w fun e w' => e = .returned (iv (Prod.rk y.cl y.t y.im x.cl x.t x.im)) ∧ Gro w w' := by
 have hG : Gro w w := Gro.refl w;refine calls_cw 8 [(1, .agg #[iv y.im, iv y.t, .bool y.cl, .slice a2 k2 c2]), (0, .agg #[iv x.im, iv x.t, .bool x.cl, .slice a1 k1 c1])] Tryz.func123 rfl Tryz.ntmps123 (by kernel_rfl) (by kernel_rfl) (fun L => ?_);have hE := Ext.refl w;refine zc (zp (pS (sn_newG (us := #[iv x.im, iv x.t, .bool x.cl, .slice a1 k1 c1]) (t := 49) (by kernel_rfl) ?_)));intro O1 X2 hO hOs hb hbx hgx;replace hG := hG.trans hgx;clear hgx;have hzO1 := hO;have hyO1 := hOs;clear hO hOs;have ⟨bO1_0, bO1_1, bO1_2, bO1_3⟩ := bq4 hbx;replace hE := hE.trans hb;have hs3 := hb.size;have lt4 := bO1_0.lt;refine pS (sn_newG (us := #[iv y.im, iv y.t, .bool y.cl, .slice a2 k2 c2]) (t := 49) (by kernel_rfl) ?_);intro O5 X6 hO hOs hb hbx hgx;replace hG := hG.trans hgx;clear hgx;have hzO5 := hO;have hyO5 := hOs;clear hO hOs;have ⟨bO5_0, bO5_1, bO5_2, bO5_3⟩ := bq4 hbx;refine mv5 hb hE bO1_0 bO1_1 bO1_2 bO1_3 fun hE bO1_0 bO1_1 bO1_2 bO1_3=>?_;have hs7 := hb.size;have lt8 := bO5_0.lt;refine pT (iv 0) ?_;refine zn (zc (zp (pU (.agg #[iv y.im, iv y.t, .bool y.cl, .slice a2 k2 c2]) (xl (ld49 (bO5_0.1) (bO5_1.1) (bO5_2.1) (bO5_3.1))) ?_)));refine pU (.agg #[iv x.im, iv x.t, .bool x.cl, .slice a1 k1 c1]) (xl (ld49 (bO1_0.1) (bO1_1.1) (bO1_2.1) (bO1_3.1))) ?_;refine pS (sc 80 #[.agg #[iv y.im, iv y.t, .bool y.cl, .slice a2 k2 c2], .agg #[iv x.im, iv x.t, .bool x.cl, .slice a1 k1 c1]] ((rank_g _).mono ?_));rintro e w9 ⟨rfl, hb⟩;have hgx := hb;replace hb := hgx.ext;replace hG := hG.trans hgx;clear hgx;replace hE := hE.trans hb;have hs10 := hb.size;refine ⟨_, rfl, pT (iv (Prod.rk y.cl y.t y.im x.cl x.t x.im : Int)) ?_⟩;refine zn (cw_ret (qw_ret [iv (Prod.rk y.cl y.t y.im x.cl x.t x.im : Int)] rfl ⟨(by kernel_rfl), trivial⟩ ?_));exact ⟨rfl, hG⟩
end Go.Proofs.YtajdohcgjgknmaaGreatDoor

namespace Go.Proofs
open Go.Shelf
def Tryz.sortPc_ren : Go.Shelf.Ren := ⟨fun | 6 => 139 | 15 => 146 | 14 => 145 | 28 => 157 | 29 => 158 | 20 => 149 | 21 => 150 | 22 => 151 | 23 => 152 | 24 => 153 | 25 => 154 | 26 => 155 | 27 => 156 | 46 => 160 | 47 => 161 | 48 => 162 | 49 => 163 | 50 => 164 | 57 => 165 | n => n, fun | 22 => 30 | 24 => 49 | 25 => 115 | 3 => 3 | 39 => 140 | 0 => 0 | 53 => 159 | 55 => 161 | 4 => 4 | 46 => 177 | 45 => 176 | 50 => 62 | 5 => 5 | 9 => 9 | 66 => 182 | 70 => 186 | 76 => 188 | 77 => 189 | n => n, fun | n => n⟩
theorem Tryz.sortPc : Go.Proofs.SlLaysF0.n6 Tryz.prog Tryz.sortPc_ren := {
 mixed := by kernel_rfl
 f6 := ⟨Tryz.f139.name, by decide, Tryz.func139.trans (congrArg some (by kernel_rfl))⟩
 f14 := ⟨Tryz.f145.name, by decide, Tryz.func145.trans (congrArg some (by kernel_rfl))⟩
 f15 := Tryz.func146.trans (congrArg some (by kernel_rfl))
 f20 := ⟨Tryz.f149.name, by decide, Tryz.func149.trans (congrArg some (by kernel_rfl))⟩
 f21 := ⟨Tryz.f150.name, by decide, Tryz.func150.trans (congrArg some (by kernel_rfl))⟩
 f22 := ⟨Tryz.f151.name, by decide, Tryz.func151.trans (congrArg some (by kernel_rfl))⟩
 f23 := ⟨Tryz.f152.name, by decide, Tryz.func152.trans (congrArg some (by kernel_rfl))⟩
 f24 := ⟨Tryz.f153.name, by decide, Tryz.func153.trans (congrArg some (by kernel_rfl))⟩
 f25 := ⟨Tryz.f154.name, by decide, Tryz.func154.trans (congrArg some (by kernel_rfl))⟩
 f26 := ⟨Tryz.f155.name, by decide, Tryz.func155.trans (congrArg some (by kernel_rfl))⟩
 f27 := ⟨Tryz.f156.name, by decide, Tryz.func156.trans (congrArg some (by kernel_rfl))⟩
 f28 := Tryz.func157.trans (congrArg some (by kernel_rfl))
 f29 := Tryz.func158.trans (congrArg some (by kernel_rfl))
 f46 := ⟨Tryz.f160.name, by decide, Tryz.func160.trans (congrArg some (by kernel_rfl))⟩
 f47 := Tryz.func161.trans (congrArg some (by kernel_rfl))
 f48 := Tryz.func162.trans (congrArg some (by kernel_rfl))
 f49 := ⟨Tryz.f163.name, by decide, Tryz.func163.trans (congrArg some (by kernel_rfl))⟩
 f50 := ⟨Tryz.f164.name, by decide, Tryz.func164.trans (congrArg some (by kernel_rfl))⟩
 f57 := ⟨Tryz.f165.name, by decide, Tryz.func165.trans (congrArg some (by kernel_rfl))⟩
 t0 := Tryz.underlying0
 a0 := Tryz.isAgg0
 z0 := Tryz.sizeOf0
 v0 := Tryz.zeroValue0
 t3 := Tryz.underlying3
 a3 := Tryz.isAgg3
 z3 := Tryz.sizeOf3
 v3 := Tryz.zeroValue3
 t4 := Tryz.underlying4
 a4 := Tryz.isAgg4
 z4 := Tryz.sizeOf4
 v4 := Tryz.zeroValue4
 t5 := Tryz.underlying5
 a5 := Tryz.isAgg5
 z5 := Tryz.sizeOf5
 v5 := Tryz.zeroValue5
 t9 := Tryz.underlying9
 a9 := Tryz.isAgg9
 z9 := Tryz.sizeOf9
 v9 := Tryz.zeroValue9
 t22 := Tryz.underlying30
 a22 := Tryz.isAgg30
 z22 := Tryz.sizeOf30
 v22 := Tryz.zeroValue30
 t25 := Tryz.underlying115
 a25 := Tryz.isAgg115
 z25 := Tryz.sizeOf115
 v25 := Tryz.zeroValue115
 t39 := Tryz.underlying140
 a39 := Tryz.isAgg140
 z39 := Tryz.sizeOf140
 v39 := Tryz.zeroValue140
 t45 := Tryz.underlying176
 a45 := Tryz.isAgg176
 z45 := Tryz.sizeOf176
 v45 := Tryz.zeroValue176
 t46 := Tryz.underlying177
 a46 := Tryz.isAgg177
 z46 := Tryz.sizeOf177
 v46 := Tryz.zeroValue177
 t50 := Tryz.underlying62
 a50 := Tryz.isAgg62
 z50 := Tryz.sizeOf62
 v50 := Tryz.zeroValue62
 t53 := Tryz.underlying159
 a53 := Tryz.isAgg159
 z53 := Tryz.sizeOf159
 v53 := Tryz.zeroValue159
 t55 := Tryz.underlying161
 a55 := Tryz.isAgg161
 z55 := Tryz.sizeOf161
 v55 := Tryz.zeroValue161
 t66 := Tryz.underlying182
 a66 := Tryz.isAgg182
 z66 := Tryz.sizeOf182
 v66 := Tryz.zeroValue182
 t70 := Tryz.underlying186
 a70 := Tryz.isAgg186
 z70 := Tryz.sizeOf186
 v70 := Tryz.zeroValue186
 t76 := Tryz.underlying188
 a76 := Tryz.isAgg188
 z76 := Tryz.sizeOf188
 v76 := Tryz.zeroValue188
 t77 := Tryz.underlying189
 a77 := Tryz.isAgg189
 z77 := Tryz.sizeOf189
 v77 := Tryz.zeroValue189 }
def Tryz.revPc_ren : Go.Shelf.Ren := ⟨fun | 35 => 126 | n => n, fun | 22 => 30 | 23 => 49 | 3 => 3 | 4 => 4 | 0 => 0 | n => n, fun | n => n⟩
theorem Tryz.revPc : Go.Proofs.SlLaysE0.n35 Tryz.prog Tryz.revPc_ren := {
 mixed := by kernel_rfl
 f35 := ⟨Tryz.f126.name, by decide, Tryz.func126.trans (congrArg some (by kernel_rfl))⟩
 t0 := Tryz.underlying0
 a0 := Tryz.isAgg0
 z0 := Tryz.sizeOf0
 v0 := Tryz.zeroValue0
 t3 := Tryz.underlying3
 a3 := Tryz.isAgg3
 z3 := Tryz.sizeOf3
 v3 := Tryz.zeroValue3
 t4 := Tryz.underlying4
 a4 := Tryz.isAgg4
 z4 := Tryz.sizeOf4
 v4 := Tryz.zeroValue4
 t22 := Tryz.underlying30
 a22 := Tryz.isAgg30
 z22 := Tryz.sizeOf30
 v22 := Tryz.zeroValue30 }
end Go.Proofs

namespace Go.Proofs.YtajdohcgjgknmaaGreatDoor
open Go.RowKit
def p2 (n : Nat) : Nat := 2 ^ n
theorem p2_shl {n : Nat} (h : n ≤ 48) : IntKind.i64.wrap (2 ^ n) = (p2 n : Int) ∧ 1 ≤ p2 n ∧ p2 n ≤ 281474976710656 := by
 have h1 : 2 ^ n ≤ 2 ^ 48 := Nat.pow_le_pow_right (by decide) h
 have h0 := Nat.two_pow_pos n
 have e : ((2 : Int) ^ n) = ((2 ^ n : Nat) : Int) := by simp
 unfold p2
 refine ⟨?_, h0, h1⟩
 rw [e, IntKind.wrap_i64]
 omega
theorem Ext.grown {w0 w w' : World} {B : Nat} (h : Ext w0 w) (hg : w.grownBy w' (some B)) (hB : w0.heap.size ≤ B) : Ext w0 w' := Below.grown h hg h.size (fun k e => by cases e; exact hB)
theorem grown_cell {w w' : World} {B : Nat} (hg : w.grownBy w' (some B)) {a : Addr} {v : Value} (h : w.cell? a = some v) (hne : a.block ≠ B) : w'.cell? a = some v := hg.cell h (fun e => hne (by simpa using e))
theorem grown_free {w w' : World} {B : Nat} (hg : w.grownBy w' (some B)) {a : Addr} {v : Value} (h : w.cell? a = some v) (hf : w.frozen? a = false) (hne : a.block ≠ B) : w'.frozen? a = false :=
 (World.frozen?_of_block (hg.block a.block (World.block_lt_of_cell? w a h) (fun e => hne (by simpa using e)))).trans hf
theorem BoxAt.grown {w w' : World} {B : Nat} (hg : w.grownBy w' (some B)) {b o : Nat} {v : Value} (h : BoxAt w b o v) (hne : b ≠ B) : BoxAt w' b o v := ⟨grown_cell hg h.1 hne, grown_free hg h.1 h.2 hne⟩
def Mk (w : World) (O B : Nat) (wr : World) : Prop :=
 (∃ L, Globe.validL L = true ∧ RowsAt wr B L) ∧ wr.cell? ⟨O, 0, none⟩ = some (.slice (some ⟨B, 0, none⟩) 24 24) ∧ BoxAt wr w.heap.size 0 (.slice none 0 0) ∧ Ext w wr
theorem Mk.ext {w w1 w2 : World} {O B : Nat} (h : Mk w O B w1) (hE : Ext w1 w2) : Mk w O B w2 :=
 ⟨by obtain ⟨L, hv, hr⟩ := h.1; exact ⟨L, hv, hr.ext hE⟩, hE.cell h.2.1, BoxAt.ext hE h.2.2.1, h.2.2.2.trans hE⟩
end Go.Proofs.YtajdohcgjgknmaaGreatDoor

namespace Go.Proofs.YtajdohcgjgknmaaGreatDoor
open Go.RowKit
theorem Ext.grownNone {w w' : World} (h : Ext w w') : w.grownBy w' none := ⟨h.os, h.tape, h.output, Below.size h, fun k hk _ => Below.block h k hk⟩
theorem own_ext {w w' : World} {base : Nat} {e : TypeId} {size : Nat} {v : Value} {n : Nat} {xs : List Value} (h : w.ownsRow base e size v n xs) (hE : Ext w w') : w'.ownsRow base e size v n xs :=
 h.kept hE.grownNone (by cases v.ownBlock <;> simp)
theorem Ext.own {w0 w w' : World} {e : TypeId} {size : Nat} {v : Value} {n : Nat} {xs : List Value} (h : Ext w0 w) (hr : w.ownsRow w0.heap.size e size v n xs) (hg : w.grownBy w' v.ownBlock) : Ext w0 w' :=
 Below.grown h hg h.size (fun k e => (hr.lt k e).1)
theorem VA.grownR {w w' : World} {r : Option Nat} {b o : Nat} {l : List Int} (h : VA w b o l) (hg : w.grownBy w' r) (hne : r ≠ some b) : VA w' b o l := ⟨fun i hi => hg.cell (h.1 i hi) (fun e => hne e.symm), h.2⟩
theorem BoxAt.grownR {w w' : World} {r : Option Nat} {b o : Nat} {v : Value} (h : BoxAt w b o v) (hg : w.grownBy w' r) (hne : r ≠ some b) : BoxAt w' b o v :=
 ⟨hg.cell h.1 (fun e => hne e.symm), (World.frozen?_of_block (hg.block b (World.block_lt_of_cell? w _ h.1) (fun e => hne e.symm))).trans h.2⟩
theorem Ext.own' {w0 w w' : World} {base : Nat} {e : TypeId} {size : Nat} {v : Value} {n : Nat} {xs : List Value} (h : Ext w0 w) (hr : w.ownsRow base e size v n xs) (hb : w0.heap.size ≤ base) (hg : w.grownBy w' v.ownBlock) : Ext w0 w' :=
 Below.grown h hg h.size (fun k e => T hb (hr.lt k e).1)
end Go.Proofs.YtajdohcgjgknmaaGreatDoor

namespace Go.Proofs.YtajdohcgjgknmaaGreatDoor
open Go.RowKit
structure Rep (α : Type) where
 rel : World → List Value → α → List Nat → Prop
 keep : ∀ {w w' : World} {c : List Value} {x : α} {F : List Nat}, rel w c x F → (∀ b ∈ F, ∀ o u, w.cell? ⟨b, o, none⟩ = some u → w'.cell? ⟨b, o, none⟩ = some u) → rel w' c x F
 lt : ∀ {w : World} {c : List Value} {x : α} {F : List Nat}, rel w c x F → ∀ b ∈ F, b < w.heap.size
theorem Rep.ext {α : Type} (R : Rep α) {w w' : World} {c : List Value} {x : α} {F : List Nat} (h : R.rel w c x F) (hE : Ext w w') : R.rel w' c x F := R.keep h fun _ _ _ _ hu => hE.cell hu
def OwnL {α : Type} (R : Rep α) (n₀ : Nat) (e : TypeId) (size : Nat) (v : Value) (w : World) (l : List α) : Prop :=
 ∃ cs : List (List Value), cs.length = l.length ∧ (∀ c ∈ cs, c.length = size) ∧ w.ownsRow n₀ e size v l.length cs.flatten ∧
  ∀ (j : Nat) x c, l[j]? = some x → cs[j]? = some c → ∃ F, R.rel w c x F ∧ ∀ b ∈ F, v.ownBlock ≠ some b
structure Grew (n₀ : Nat) (w w' : World) : Prop where
 size : w.heap.size ≤ w'.heap.size
 ext : ∀ U, Ext U w → U.heap.size ≤ n₀ → Ext U w'
theorem OwnL.nil {α : Type} (R : Rep α) (n₀ : Nat) (e : TypeId) (size : Nat) (w : World) : OwnL R n₀ e size (.slice none 0 0) w [] := ⟨[], rfl, (fun c hc => by cases hc), World.ownsRow_nil w n₀ e size, (fun j x c hx => by simp at hx)⟩
theorem OwnL.ext {α : Type} {R : Rep α} {n₀ : Nat} {e : TypeId} {size : Nat} {v : Value} {w w' : World} {l : List α} (h : OwnL R n₀ e size v w l) (hE : Ext w w') : OwnL R n₀ e size v w' l := by
 obtain ⟨cs, h1, h2, h3, h4⟩ := h
 exact ⟨cs, h1, h2, own_ext h3 hE, fun j x c hx hc => by obtain ⟨F, q1, q2⟩ := h4 j x c hx hc; exact ⟨F, R.ext q1 hE, q2⟩⟩
theorem OwnL.lt {α : Type} {R : Rep α} {n₀ : Nat} {e : TypeId} {size : Nat} {v : Value} {w : World} {l : List α} (h : OwnL R n₀ e size v w l) : ∀ b, v.ownBlock = some b → b < w.heap.size := by
 obtain ⟨cs, h1, h2, h3, h4⟩ := h
 exact fun b hb => (h3.lt b hb).2
structure ElemT (P : Program) (t e : TypeId) (z : Value) (size bytes : Nat) : Prop where
 under : P.underlying t = some (.slice e)
 info : (P.info? e).map (fun i => (i.zero, i.size, i.bytes)) = some (some z, size, bytes)
 zs : z.cells.size = size
 pos : 0 < size
theorem flatten_get {size : Nat} : ∀ {cs : List (List Value)}, (∀ c ∈ cs, c.length = size) → ∀ (j : Nat) {c : List Value}, cs[j]? = some c → ∀ i, i < size → cs.flatten[j * size + i]? = c[i]?
 | [], _, j, c, h, _, _ => by simp at h
 | d :: r, h, 0, c, hc, i, hi => by
  simp at hc; subst hc
  rw [List.flatten_cons, Nat.zero_mul, Nat.zero_add, List.getElem?_append_left (by rw [h d (by simp)]; exact hi)]
 | d :: r, h, j + 1, c, hc, i, hi => by
  have hd := h d (by simp)
  rw [List.flatten_cons, List.getElem?_append_right (by rw [hd, Nat.add_mul]; omega), hd, show (j + 1) * size + i - size = j * size + i by rw [Nat.add_mul]; omega]
  exact flatten_get (fun d hd => h d (List.mem_cons_of_mem _ hd)) j (by simpa using hc) i hi
theorem cells1 {w : World} {O : Nat} {x : Value} (h : w.cell? ⟨O, 0, none⟩ = some x) : ∀ j u, [x][j]? = some u → w.cell? ⟨O, j, none⟩ = some u
 | 0, u, hu => by simp at hu; subst hu; exact h
 | _ + 1, u, hu => by simp at hu
theorem cells2 {w : World} {O : Nat} {x y : Value} (h : w.cell? ⟨O, 0, none⟩ = some x) (h2 : w.cell? ⟨O, 1, none⟩ = some y) : ∀ j u, [x, y][j]? = some u → w.cell? ⟨O, j, none⟩ = some u
 | 0, u, hu => by simp at hu; subst hu; exact h
 | 1, u, hu => by simp at hu; subst hu; exact h2
 | _ + 2, u, hu => by simp at hu
theorem OwnL.base {α : Type} {R : Rep α} {n₀ : Nat} {e : TypeId} {size : Nat} {v : Value} {w : World} {l : List α} (h : OwnL R n₀ e size v w l) : ∀ b, v.ownBlock = some b → n₀ ≤ b := by
 obtain ⟨cs, h1, h2, h3, h4⟩ := h
 exact fun b hb => (h3.lt b hb).1
theorem sn_newS0 {P : Program} {ev : Operand → Value} {oi : Oper} {w : World} {N : Value → World → Prop} {t : TypeId} (h1 : (execOp ev oi).run P w = .ok (.value (.slice (some ⟨w.heap.size, 0, none⟩) 0 0)) (w.alloc (.cells #[] t)))
  (h : ∀ O X, w.heap.size = O → X.heap.size = O + 1 → Ext w X → X.heap[O]? = some (.cells #[] t (0, 0)) → N (.slice (some ⟨O, 0, none⟩) 0 0) X) : StepN P ev oi w N :=
 sn_eff h1 (h _ _ rfl (by simp) (Ext.alloc (Ext.refl _) _) (heap_alloc_new w _))
theorem own_empty {w : World} {base O size : Nat} {e : TypeId} (h : w.heap[O]? = some (.cells #[] e (0, 0))) (hb : base ≤ O) : w.ownsRow base e size (.slice (some ⟨O, 0, none⟩) 0 0) 0 [] :=
 ⟨by simp, .inr ⟨O, 0, #[], rfl, hb, h, Nat.le_refl _, by unfold maxLen; omega, by simp, by simp⟩⟩
theorem ex_append {P : Program} {ev : Operand → Value} {o : Oper} {w : World} {x y : Operand} {t1 t2 : TypeId} {v s v' : Value} {w' : World} (hop : o.op = .call { callee := .builtin .append, args := #[x, y], argTypes := #[t1, t2] }) (hx : ev x = v) (hy : ev y = s)
  (h : (Builtin.append_ #[t1, t2] o.type #[v, s]).run P w = .ok v' w') : (execOp ev o).run P w = .ok (.value v') w' := by
 simp [execOp, hop, resolve, invoke, builtin, hx, hy, h, Result.andThen]
instance {α : Type} {R : Rep α} {n₀ : Nat} {e : TypeId} {size : Nat} {v : Value} {w w' : World} {l : List α} : MvC w w' (OwnL R n₀ e size v w l) (OwnL R n₀ e size v w' l) := ⟨fun e h => h.ext e⟩
end Go.Proofs.YtajdohcgjgknmaaGreatDoor

namespace Go.Proofs.YtajdohcgjgknmaaGreatDoor
open Go.RowKit
theorem Ext.others {a b : World} (h : Ext a b) : KeepsOthers a b := ⟨h.size, fun k _ ho _ => (Below.block h k (Array.getElem?_eq_some_iff.1 ho).1).trans ho⟩
theorem wide_depth {n : Nat} : Fence.wide.depth.isSome = true → 1 ≤ n := fun h => by simp [Fence.wide] at h
structure KeepX (n₀ : Nat) (X : Nat → Prop) (A B : World) : Prop where
 size : A.heap.size ≤ B.heap.size
 block : ∀ k, k < n₀ → ¬ X k → B.heap[k]? = A.heap[k]?
theorem KeepX.refl (n₀ : Nat) (X : Nat → Prop) (A : World) : KeepX n₀ X A A := ⟨Nat.le_refl _, fun _ _ _ => rfl⟩
theorem KeepX.trans {n₀ : Nat} {X : Nat → Prop} {A B C : World} (h : KeepX n₀ X A B) (k : KeepX n₀ X B C) : KeepX n₀ X A C :=
 ⟨T h.size k.size, fun i hi hx => (k.block i hi hx).trans (h.block i hi hx)⟩
theorem KeepX.of_below {n₀ : Nat} {X : Nat → Prop} {A B : World} (h : Below n₀ A B) : KeepX n₀ X A B := ⟨h.size, fun k hk _ => h.block k hk⟩
theorem KeepX.of_ext {n₀ : Nat} {X : Nat → Prop} {A B : World} (h : Ext A B) (hn : n₀ ≤ A.heap.size) : KeepX n₀ X A B := KeepX.of_below (Below.mono h hn)
theorem KeepX.cell {n₀ : Nat} {X : Nat → Prop} {A B : World} (h : KeepX n₀ X A B) {b o : Nat} (hb : b < n₀) (hx : ¬ X b) : B.cell? ⟨b, o, none⟩ = A.cell? ⟨b, o, none⟩ := World.cell?_of_block (w := A) (h.block b hb hx)
theorem KeepX.setCell {n₀ : Nat} {X : Nat → Prop} (A : World) {p : Addr} (hp : X p.block) (u : Value) : KeepX n₀ X A (A.setCell p u) :=
 ⟨by simp [World.setCell], fun k _ hx => Below.heap_setCell _ _ _ _ (fun e => hx (e ▸ hp))⟩
theorem KeepX.putObj {n₀ : Nat} {X : Nat → Prop} {w : World} (hn : n₀ ≤ w.heap.size) (W : World) (l : Nat) (o o' : Obj) (hl : w.heap.size ≤ l) (h : W.heap[l]? = some o) (hc : o.isCells = false) (hw : o.isWalk = false) : KeepX n₀ X W (W.putObj l o') :=
 KeepX.of_below (belowK_b hn W l o o' hl h hc hw)
theorem Ext.shut {w W : World} {D : Nat} (h : Ext w W) (hD : w.heap.size ≤ D) (hK : W.heap[D]? = some (.deferred (some []))) : Ext w (W.putObj D (.deferred none)) :=
 Below.trans h (belowK_b (w := w) (Nat.le_refl _) W D _ _ hD hK rfl rfl)
end Go.Proofs.YtajdohcgjgknmaaGreatDoor

namespace Go.Proofs.YtajdohcgjgknmaaGreatDoor
open Go.RowKit
def SeqM {α : Type} (P : Program) (g : Nat) (lb : Array Value) (encs : α → Array Value) (Φ : α → World → Prop) (Kp : World → World → Prop) (S Sp : List α → Prop) (w : World) : Prop :=
 ∀ (l : Nat) (J Jx : List α → World → Prop) (W : World), Below w.heap.size w W → AbidesFrom W.heap.size J → AbidesFrom W.heap.size Jx →
  (∀ pre x W1 m, J pre W1 → Φ x W1 → YieldAt Fence.wide m P l (encs x) W1 fun e W' => (e = .returned (.bool true) ∧ J (pre ++ [x]) W' ∧ Kp W1 W') ∨ (e = .returned (.bool false) ∧ Jx (pre ++ [x]) W' ∧ Kp W1 W')) →
  J [] W → ∀ n, CallsIn Fence.wide n P g (#[.func (.yield l) #[] #[]] ++ lb) W fun e W' => (∃ v, e = .returned v) ∧ ((∃ xs, S xs ∧ J xs W') ∨ (∃ pre, Sp pre ∧ Jx pre W'))
def roundM {α : Type} (B : Nat) (Kp : World → World → Prop) (I : List α → World → Prop) (Ix : Code → List α → World → Prop) (xs : List α) (W : World) : Exit → Act → World → Prop
 | .normal, _, W' => KeepsFrom B W W' ∧ Kp W W' ∧ I xs W'
 | .ret, _, W' => KeepsFrom B W W' ∧ Kp W W' ∧ Ix .ret xs W'
 | .exit id, _, W' => KeepsFrom B W W' ∧ Kp W W' ∧ Ix (.exit id) xs W'
 | .goto t, _, W' => KeepsFrom B W W' ∧ Kp W W' ∧ Ix (.goto t) xs W'
 | .panic _, _, _ => False
 | .outgrown, _, _ => False
def recOf (a : Act) (ps : Array Tmp) (assign body : Code) (fn : FuncId) (D : Nat) (st : LoopState) (pe : Option Code) : Loop := { state := st, pending := pe, fn, tmps := a.tmps, params := ps, assign, body, defers := D }
theorem rangeFunc_mem {α : Type} {P : Program} {n : Nat} {g : Operand} {ps : Array Tmp} {assign body : Code} {Q : Exit → Act → World → Prop} {a : Act} {w : World}
    {gf : Nat} {lb : Array Value} (hg : a.eval g = .func (.func gf) #[] lb) (eg : ∀ args w, (callFunc gf args).run P w = .ok (.enter gf args) w)
    {encs : α → Array Value} {Φ : α → World → Prop} {Kp : World → World → Prop} {S Sp : List α → Prop} {w0 : World} (hseq : SeqM P gf lb encs Φ Kp S Sp w0) (hb0 : Below w0.heap.size w0 w) (hps : ∀ x, (encs x).size = ps.size)
    (hΦ : ∀ x, OwnFrom w.heap.size (fun (_ : Unit) W => Φ x W))
    (hKt : ∀ {A B C : World}, Kp A B → Kp B C → Kp A C) (hKb : ∀ (W : World) (l : Nat) (o o' : Obj), w.heap.size ≤ l → W.heap[l]? = some o → o.isCells = false → o.isWalk = false → Kp W (W.putObj l o'))
    (I : List α → World → Prop) (Ix : Code → List α → World → Prop) (hI : OwnFrom w.heap.size I) (hIx : ∀ c, OwnFrom w.heap.size (Ix c)) (h0 : I [] w) (a₁ : α → Act)
    (hassign : ∀ (l m : Nat) (x : α) (W : World) (K : Act → World → Prop), K (a₁ x) W →
      assign.wpIn (Fence.wide.inRound l) m P (Exit.then K (fun _ _ _ => False)) { tmps := (ps.zip (encs x)).foldl (fun t (p, v) => t.setIfInBounds p v) a.tmps, defers := [] } W)
    (hbody : ∀ (l m : Nat) (pre : List α) (x : α) (W : World), I pre W → Φ x W → body.wpIn (Fence.wide.inRound l) m P (roundM w.heap.size Kp I Ix (pre ++ [x]) W) (a₁ x) W)
    (hdone : ∀ (D : Nat) (xs : List α) (W : World), w.heap.size ≤ D → S xs → I xs W → W.heap[D]? = some (.deferred (some [])) → Q .normal { a with defers := { target := .collected D, args := #[] } :: a.defers } W)
    (hstop : ∀ (D : Nat) (c : Code) (pre : List α) (W : World), w.heap.size ≤ D → Sp pre → Ix c pre W → W.heap[D]? = some (.deferred (some [])) → c.wpIn Fence.wide n P Q { a with defers := { target := .collected D, args := #[] } :: a.defers } W) :
    (Code.rangeFunc g ps assign body).wpIn Fence.wide n P Q a w := by
  refine wpIn_rangeFunc fun fn hfn => ?_
  let R := recOf a ps assign body fn w.heap.size
  have dn : ∀ st pe, (Obj.loop (R st pe)).isCells = false ∧ (Obj.loop (R st pe)).isWalk = false := fun _ _ => ⟨rfl, rfl⟩
  have dd : (Obj.deferred (some [])).isCells = false ∧ (Obj.deferred (some [])).isWalk = false := ⟨rfl, rfl⟩
  let W1 := (w.alloc (.deferred (some []))).alloc (.loop (R .ready none))
  have sz : W1.heap.size = w.heap.size + 2 := by simp [W1]
  have Bc : W1.heap[w.heap.size + 1]? = some (.loop (R .ready none)) := by
    have := World.alloc_heap_new (w.alloc (.deferred (some []))) (.loop (R .ready none))
    rwa [World.size_alloc] at this
  have Bb : W1.heap[w.heap.size]? = some (.deferred (some [])) := (Below.heap_alloc _ _ _ (by simp)).trans (World.alloc_heap_new w _)
  refine ⟨w.heap.size + 1, [{ target := .collected w.heap.size, args := #[] }], W1, { target := .fn (.func gf) lb, args := #[.func (.yield (w.heap.size + 1)) #[] #[]] }, W1, gf, #[.func (.yield (w.heap.size + 1)) #[] #[]] ++ lb, W1,
    run_enterLoop_outer _ _ _ _ _, ?_, fun _ _ => trivial, by simp [invoke, go_sem, eg], fun h => by simp [Fence.wide] at h, ?_⟩
  · simp only [resolve, hg]; simp [go_sem]
  -- what the iterator's own steps turn are walks' objects beyond W1: neither the record nor the mark's block
  have far : ∀ {A : World} {row : Option Nat}, (∀ r, row = some r → W1.heap.size ≤ r ∧ ∃ o : Obj, A.heap[r]? = some o ∧ o.isWalk = true) → (∀ r, row = some r → w.heap.size ≤ r ∧ ∃ o : Obj, A.heap[r]? = some o ∧ o.isCells = false) :=
    fun h r e => by obtain ⟨hB, o, ho, hw⟩ := h r e; exact ⟨by omega, o, ho, Obj.not_cells_of_walk hw⟩
  have stays : ∀ {A B : World} {row : Option Nat} {k : Nat} {o : Obj}, A.grownBy B row → (∀ r, row = some r → W1.heap.size ≤ r ∧ ∃ o : Obj, A.heap[r]? = some o ∧ o.isWalk = true) → A.heap[k]? = some o → o.isWalk = false → B.heap[k]? = some o :=
    fun h hr hk hw => (grownBy_keeps h (fun r e => (hr r e).2) hk hw).trans hk
  refine (hseq (w.heap.size + 1)
    (fun pre W => I pre W ∧ W.heap[w.heap.size + 1]? = some (.loop (R .ready none)) ∧ W.heap[w.heap.size]? = some (.deferred (some [])))
    (fun pre W => ∃ c, Ix c pre W ∧ W.heap[w.heap.size + 1]? = some (.loop (R .done (some c))) ∧ W.heap[w.heap.size]? = some (.deferred (some [])))
    W1 (hb0.trans ((((Below.refl _ w).alloc (Nat.le_refl _) _).alloc (by simp) _).mono hb0.size))
    (fun s A B row hs h hr => ⟨hI s A B row hs.1 h (far hr), stays h hr hs.2.1 rfl, stays h hr hs.2.2 rfl⟩)
    (fun s A B row ⟨c, hs, h1, h2⟩ h hr => ⟨c, hIx c s A B row hs h (far hr), stays h hr h1 rfl, stays h hr h2 rfl⟩)
    ?_ ⟨hI.alloc _ (hI.alloc _ h0), Bc, Bb⟩ _).mono ?_
  · rintro pre x W m ⟨hi, hl, hk⟩ hx
    have hlt := (Array.getElem?_eq_some_iff.1 hl).1
    refine ⟨fn, _, assign, body, run_yield (P := P) (args := encs x) hl (hps x), roundIn_of_wpIn hfn (hassign _ _ x W _ ⟨_, run_beginRound hl rfl, ?_⟩)⟩
    let W2 := W.putObj (w.heap.size + 1) (.loop (R .busy none))
    have Bf : W2.heap[w.heap.size + 1]? = some (.loop (R .busy none)) := World.putObj_heap_same hlt
    have Be : W2.heap[w.heap.size]? = some (.deferred (some [])) := (World.putObj_heap_other (by omega)).trans hk
    have leave : ∀ (jump : Option Code) (W3 : World), KeepsFrom w.heap.size W2 W3 →
        W3.heap[w.heap.size + 1]? = some (.loop (R .busy none)) ∧
        (Instr.endRound (w.heap.size + 1) jump).run P W3 = .ok (.bool jump.isNone) (W3.putObj (w.heap.size + 1) (.loop (R (if jump.isNone then .ready else .done) jump))) ∧
        (W3.putObj (w.heap.size + 1) (.loop (R (if jump.isNone then .ready else .done) jump))).heap[w.heap.size + 1]? = some (.loop (R (if jump.isNone then .ready else .done) jump)) ∧
        (W3.putObj (w.heap.size + 1) (.loop (R (if jump.isNone then .ready else .done) jump))).heap[w.heap.size]? = some (.deferred (some [])) := fun jump W3 h3 => by
      have B7 := h3.same _ _ (by omega) Bf rfl
      exact ⟨B7, run_endRound (P := P) jump B7, World.putObj_heap_same (Array.getElem?_eq_some_iff.1 B7).1, (World.putObj_heap_other (by omega)).trans (h3.same _ _ (Nat.le_refl _) Be rfl)⟩
    refine wpIn_mono (hbody _ _ pre x _ (hI.putObj _ hi (by omega) hl rfl) ((hΦ x).putObj (s := ()) _ hx (by omega) hl rfl)) fun e a3 W3 hp => ?_
    cases e with
    | normal =>
      obtain ⟨h3, hkp, Ba⟩ := hp
      obtain ⟨B7, hr, q1, q2⟩ := leave none W3 h3
      exact ⟨_, _, hr, .inl ⟨rfl, ⟨hI.putObj _ Ba (by omega) B7 rfl, q1, q2⟩, hKt (hKt (hKb _ _ _ _ (by omega) hl rfl rfl) hkp) (hKb _ _ _ _ (by omega) B7 rfl rfl)⟩⟩
    | ret =>
      obtain ⟨h3, hkp, Ba⟩ := hp
      obtain ⟨B7, hr, q1, q2⟩ := leave (some .ret) W3 h3
      exact ⟨_, _, hr, .inr ⟨rfl, ⟨_, (hIx _).putObj _ Ba (by omega) B7 rfl, q1, q2⟩, hKt (hKt (hKb _ _ _ _ (by omega) hl rfl rfl) hkp) (hKb _ _ _ _ (by omega) B7 rfl rfl)⟩⟩
    | exit id =>
      obtain ⟨h3, hkp, Ba⟩ := hp
      obtain ⟨B7, hr, q1, q2⟩ := leave (some (.exit id)) W3 h3
      exact ⟨_, _, hr, .inr ⟨rfl, ⟨_, (hIx _).putObj _ Ba (by omega) B7 rfl, q1, q2⟩, hKt (hKt (hKb _ _ _ _ (by omega) hl rfl rfl) hkp) (hKb _ _ _ _ (by omega) B7 rfl rfl)⟩⟩
    | goto t =>
      obtain ⟨h3, hkp, Ba⟩ := hp
      obtain ⟨B7, hr, q1, q2⟩ := leave (some (.goto t)) W3 h3
      exact ⟨_, _, hr, .inr ⟨rfl, ⟨_, (hIx _).putObj _ Ba (by omega) B7 rfl, q1, q2⟩, hKt (hKt (hKb _ _ _ _ (by omega) hl rfl rfl) hkp) (hKb _ _ _ _ (by omega) B7 rfl rfl)⟩⟩
    | panic _ => exact hp.elim
    | outgrown => exact hp.elim
  · rintro e W2 ⟨⟨v, rfl⟩, (⟨xs, hS, hi, hl, hk⟩ | ⟨pre, hSp, c, hi, hl, hk⟩)⟩
    · exact ⟨none, _, run_endLoop (P := P) hl (by simp [R, recOf]), hdone _ xs _ (Nat.le_refl _) hS (hI.putObj _ hi (by omega) hl rfl) ((World.putObj_heap_other (by omega)).trans hk)⟩
    · exact ⟨some c, _, run_endLoop (P := P) hl (by simp [R, recOf]), hstop _ c pre _ (Nat.le_refl _) hSp ((hIx c).putObj _ hi (by omega) hl rfl) ((World.putObj_heap_other (by omega)).trans hk)⟩
theorem leaves_marks {F : Fence} {n : Nat} {P : Program} {fn : Func} {tmps : Array Value} {R : Ending → World → Prop} (n₀ : Nat) (Pw : World → Prop)
  (hP : ∀ D W, n₀ ≤ D → Pw W → W.heap[D]? = some (.deferred (some [])) → Pw (W.putObj D (.deferred none))) (hend : ∀ W, Pw W → LeavesIn F n P fn tmps R [] .returning W) :
  ∀ (Ds : List Nat) (W : World), Ds.Nodup → (∀ D ∈ Ds, n₀ ≤ D ∧ W.heap[D]? = some (.deferred (some []))) → Pw W → LeavesInM F n P fn tmps R (Ds.map fun D => { target := .collected D, args := #[] }) .returning W
 | [], W, _, _, h => hend W h
 | D :: r, W, hn, hd, h => by
  obtain ⟨hD, hn'⟩ := List.nodup_cons.1 hn
  obtain ⟨h0, h1⟩ := hd D (by simp)
  refine ⟨by simp, .inl ⟨D, _, rfl, run_takeDeferred h1, ?_⟩⟩
  refine leaves_marks n₀ Pw hP hend r _ hn' (fun D' hD' => ?_) (hP D W h0 h h1)
  obtain ⟨q0, q1⟩ := hd D' (by simp [hD'])
  exact ⟨q0, (World.putObj_heap_other (fun e => hD (by rw [← e]; exact hD'))).trans q1⟩
end Go.Proofs.YtajdohcgjgknmaaGreatDoor
