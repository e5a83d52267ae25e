/- Part 1 of what the proof of ProductMatchesReference stands on. -/
import Derived.Test.YtajdohcgjgknmaaGreatDoorProg
import Derived.WalkKit
import Derived.WalkSpells
import Derived.WalkLawsBesides
import Derived.Handy
import Derived.Laws.EntriesVeiled
import Derived.Lib.Hide
import Derived.Deep.QuietTactic
import Derived.BigQuiet
import Derived.Deep.RegionHeld3
import Derived.Lib.TrailingZeros
import Derived.OwnWalk
import Derived.ChangeKeysEq
import Derived.Deep.MidRow
namespace Go.Proofs.YtajdohcgjgknmaaGreatDoor
open Go.RowKit
theorem ret_int {k : IntKind} {a b : Int} (h : a = b) : Ending.returned (.int k a) = .returned (.int k b) := by rw [h]
theorem ret_bool {a b : Bool} (h : a = b) : Ending.returned (.bool a) = .returned (.bool b) := by rw [h]
theorem wp_name {P : Program} {c : Code} {Q : Exit → Act → World → Prop} {a : Act} {W : World} (S : World → Prop) (hS : S W) (h : ∀ V, S V → c.wp P Q a V) : c.wp P Q a W := h W hS
def Ext (w w' : World) : Prop := Below w.heap.size w w'
theorem Ext.refl (w : World) : Ext w w := Below.refl _ _
theorem Ext.trans {a b c : World} (h : Ext a b) (k : Ext b c) : Ext a c := Below.trans h (Below.mono k (Below.size h))
theorem Ext.alloc {a b : World} (h : Ext a b) (o : Obj) : Ext a (b.alloc o) := Below.alloc h (Below.size h) o
theorem Ext.drew {a b : World} (h : Ext a b) : Ext a b.drew := Below.drew h
theorem Ext.drewN {a b : World} (h : Ext a b) (n : Nat) : Ext a (b.drewN n) := Below.trans h ⟨rfl, rfl, rfl, Nat.le_refl _, fun _ _ => rfl⟩
theorem Ext.setCell {a b : World} (h : Ext a b) {p : Addr} (hp : a.heap.size ≤ p.block) (u : Value) : Ext a (b.setCell p u) := Below.setCell h hp u
theorem Ext.size {a b : World} (h : Ext a b) : a.heap.size ≤ b.heap.size := Below.size h
theorem Ext.below {a b : World} (h : Ext a b) : Below a.heap.size a b := h
theorem Ext.cellE {W w1 : World} (hb : Ext W w1) : ∀ b o, (⟨b + 1 - W.heap.size, 0, none⟩ : Addr) = ⟨0, 0, none⟩ → w1.cell? ⟨b, o, none⟩ = W.cell? ⟨b, o, none⟩ := fun b o h => Below.cell hb (p := ⟨b, o, none⟩) (by simp at h; show b < W.heap.size; omega)
theorem Ext.frozenE {W w1 : World} (hb : Ext W w1) : ∀ b o, (⟨b + 1 - W.heap.size, 0, none⟩ : Addr) = ⟨0, 0, none⟩ → w1.frozen? ⟨b, o, none⟩ = W.frozen? ⟨b, o, none⟩ := fun b o h => Below.frozen hb (p := ⟨b, o, none⟩) (by simp at h; show b < W.heap.size; omega)
theorem Ext.cell {W w1 : World} (hb : Ext W w1) {a : Addr} {v : Value} (h : W.cell? a = some v) : w1.cell? a = some v := by
  rw [Below.cell hb (World.block_lt_of_cell? W a h)]; exact h
theorem Ext.free {W w1 : World} (hb : Ext W w1) {a : Addr} {v : Value} (h : W.cell? a = some v) (hf : W.frozen? a = false) : w1.frozen? a = false := by
  rw [Below.frozen hb (World.block_lt_of_cell? W a h)]; exact hf
theorem lt_of_addr {b n : Nat} (h : (⟨b + 1 - n, 0, none⟩ : Addr) = ⟨0, 0, none⟩) : b < n := by simp at h; omega
theorem alloc_keeps (w : World) :
    (∀ o1 b o, (⟨b + 1 - w.heap.size, 0, none⟩ : Addr) = ⟨0, 0, none⟩ → (w.alloc o1).cell? ⟨b, o, none⟩ = w.cell? ⟨b, o, none⟩) ∧
    (∀ o1 b o, (⟨b + 1 - w.heap.size, 0, none⟩ : Addr) = ⟨0, 0, none⟩ → (w.alloc o1).frozen? ⟨b, o, none⟩ = w.frozen? ⟨b, o, none⟩) ∧
    (∀ o1 o2 b o, (⟨b + 1 - w.heap.size, 0, none⟩ : Addr) = ⟨0, 0, none⟩ → ((w.alloc o1).alloc o2).cell? ⟨b, o, none⟩ = w.cell? ⟨b, o, none⟩) ∧
    (∀ o1 o2 b o, (⟨b + 1 - w.heap.size, 0, none⟩ : Addr) = ⟨0, 0, none⟩ → ((w.alloc o1).alloc o2).frozen? ⟨b, o, none⟩ = w.frozen? ⟨b, o, none⟩) ∧
    (∀ o1 o2 o3 b o, (⟨b + 1 - w.heap.size, 0, none⟩ : Addr) = ⟨0, 0, none⟩ → (((w.alloc o1).alloc o2).alloc o3).cell? ⟨b, o, none⟩ = w.cell? ⟨b, o, none⟩) ∧
    (∀ o1 o2 o3 b o, (⟨b + 1 - w.heap.size, 0, none⟩ : Addr) = ⟨0, 0, none⟩ → (((w.alloc o1).alloc o2).alloc o3).frozen? ⟨b, o, none⟩ = w.frozen? ⟨b, o, none⟩) ∧
    (∀ o1 o2 o3 o4 b o, (⟨b + 1 - w.heap.size, 0, none⟩ : Addr) = ⟨0, 0, none⟩ → ((((w.alloc o1).alloc o2).alloc o3).alloc o4).cell? ⟨b, o, none⟩ = w.cell? ⟨b, o, none⟩) ∧
    (∀ o1 o2 o3 o4 b o, (⟨b + 1 - w.heap.size, 0, none⟩ : Addr) = ⟨0, 0, none⟩ → ((((w.alloc o1).alloc o2).alloc o3).alloc o4).frozen? ⟨b, o, none⟩ = w.frozen? ⟨b, o, none⟩) ∧
    (∀ o1 o2 o3 o4 o5 b o, (⟨b + 1 - w.heap.size, 0, none⟩ : Addr) = ⟨0, 0, none⟩ → (((((w.alloc o1).alloc o2).alloc o3).alloc o4).alloc o5).cell? ⟨b, o, none⟩ = w.cell? ⟨b, o, none⟩) ∧
    (∀ o1 o2 o3 o4 o5 b o, (⟨b + 1 - w.heap.size, 0, none⟩ : Addr) = ⟨0, 0, none⟩ → (((((w.alloc o1).alloc o2).alloc o3).alloc o4).alloc o5).frozen? ⟨b, o, none⟩ = w.frozen? ⟨b, o, none⟩) := by
  have e : ∀ (W : World) (h : Ext w W) (b o : Nat), b < w.heap.size → W.cell? ⟨b, o, none⟩ = w.cell? ⟨b, o, none⟩ ∧ W.frozen? ⟨b, o, none⟩ = w.frozen? ⟨b, o, none⟩ :=
    fun W h b o hb => ⟨Below.cell h (p := ⟨b, o, none⟩) hb, Below.frozen h (p := ⟨b, o, none⟩) hb⟩
  refine ⟨?_, ?_, ?_, ?_, ?_, ?_, ?_, ?_, ?_, ?_⟩ <;> intros <;> rename_i h <;> first
    | exact (e _ (by repeat' (first | exact Ext.refl _ | refine Ext.alloc ?_ _)) _ _ (lt_of_addr h)).1
    | exact (e _ (by repeat' (first | exact Ext.refl _ | refine Ext.alloc ?_ _)) _ _ (lt_of_addr h)).2
end Go.Proofs.YtajdohcgjgknmaaGreatDoor

namespace Go.Proofs.YtajdohcgjgknmaaGreatDoor
namespace Globe
def vcB (x y : Int) : Bool := decide (0 ≤ x ∧ x ≤ 47 ∧ 0 ≤ y ∧ y ≤ 23)
theorem vcB_t {x y : Int} : vcB x y = true ↔ 0 ≤ x ∧ x ≤ 47 ∧ 0 ≤ y ∧ y ≤ 23 := by simp [vcB]
theorem vcB_f {x y : Int} : vcB x y = false ↔ x < 0 ∨ 47 < x ∨ y < 0 ∨ 23 < y := by simp [vcB]; omega
def inB (n lo hi : Int) : Bool := decide (lo ≤ n ∧ n ≤ hi)
theorem inB_t {n lo hi : Int} : inB n lo hi = true ↔ lo ≤ n ∧ n ≤ hi := by simp [inB]
theorem inB_f {n lo hi : Int} : inB n lo hi = false ↔ n < lo ∨ hi < n := by simp [inB]; omega
theorem vcB_in (x y : Int) : vcB x y = (inB x 0 47 && inB y 0 23) := by
  rw [Bool.eq_iff_iff, Bool.and_eq_true, vcB_t, inB_t, inB_t]; omega
def nth (l : List Int) (i : Nat) : Int := l[i]?.getD 0
theorem nth_lt {l : List Int} {i : Nat} (h : i < l.length) : nth l i = l[i] := by rw [nth, List.getElem?_eq_getElem h]; rfl
theorem nth_ge {l : List Int} {i : Nat} (h : l.length ≤ i) : nth l i = 0 := by rw [nth, List.getElem?_eq_none h]; rfl
theorem nth_mem {l : List Int} {i : Nat} (h : i < l.length) : nth l i ∈ l := by rw [nth_lt h]; exact List.getElem_mem h
theorem mem_nth {l : List Int} {x : Int} (h : x ∈ l) : ∃ i, i < l.length ∧ nth l i = x := by
  obtain ⟨i, hi, rfl⟩ := List.getElem_of_mem h
  exact ⟨i, hi, nth_lt hi⟩
theorem ext_nth {a b : List Int} (hl : a.length = b.length) (h : ∀ i, i < a.length → nth a i = nth b i) : a = b :=
  List.ext_getElem hl fun i h1 h2 => by rw [← nth_lt h1, ← nth_lt h2]; exact h i h1
def rowOk (r : Int) : Bool := decide (0 ≤ r ∧ r ≤ 281474976710655)
theorem rowOk_t {r : Int} : rowOk r = true ↔ 0 ≤ r ∧ r ≤ 281474976710655 := by simp [rowOk]
theorem rowOk_f {r : Int} : rowOk r = false ↔ r < 0 ∨ 281474976710655 < r := by simp [rowOk]; omega
def validL (l : List Int) : Bool := l.length == 24 && l.all rowOk
theorem validL_t {l : List Int} : validL l = true ↔ l.length = 24 ∧ ∀ r ∈ l, 0 ≤ r ∧ r ≤ 281474976710655 := by
  simp only [validL, Bool.and_eq_true, beq_iff_eq, List.all_eq_true, rowOk_t]
def badAt : List Int → Int
  | [] => -1
  | r :: l => if rowOk r then (if badAt l < 0 then -1 else badAt l + 1) else 0
theorem badAt_all : ∀ {l : List Int}, l.all rowOk = true → badAt l = -1
  | [], _ => rfl
  | r :: l, h => by
    simp only [List.all_cons, Bool.and_eq_true] at h
    rw [badAt, if_pos h.1, badAt_all h.2]; rfl
theorem badAt_no : ∀ {l : List Int}, l.all rowOk = false → 0 ≤ badAt l
  | [], h => by simp at h
  | r :: l, h => by
    cases hr : rowOk r with
    | false => rw [badAt, if_neg (by rw [hr]; decide)]; decide
    | true =>
      have ih := badAt_no (l := l) (by simpa [List.all_cons, hr] using h)
      rw [badAt, if_pos hr, if_neg (by omega)]; omega
theorem badAt_first : ∀ {l : List Int} {k : Nat}, k < l.length → (∀ j, j < k → rowOk (nth l j) = true) → rowOk (nth l k) = false → badAt l = (k : Int)
  | r :: l, 0, _, _, hk => by simp [nth] at hk; rw [badAt, if_neg (by rw [hk]; decide)]; rfl
  | r :: l, k + 1, h, hp, hk => by
    have ih := badAt_first (l := l) (k := k) (by simpa using h) (fun j hj => by simpa [nth] using hp (j + 1) (by omega)) (by simpa [nth] using hk)
    have h0 : rowOk r = true := by simpa [nth] using hp 0 (by omega)
    rw [badAt, if_pos h0, ih, if_neg (by omega)]; omega
end Globe
end Go.Proofs.YtajdohcgjgknmaaGreatDoor

namespace Go.Proofs.YtajdohcgjgknmaaGreatDoor
open Go.RowKit
def IntsAt (w : World) (a : Option Addr) (l : List Int) : Prop :=
  l = [] ∨ ∃ b off, a = some ⟨b, off, none⟩ ∧ ∀ i, i < l.length → w.cell? ⟨b, off + i, none⟩ = some (.int .i64 (Globe.nth l i))
theorem IntsAt.ext {w w' : World} {a : Option Addr} {l : List Int} (h : IntsAt w a l) (hE : Ext w w') : IntsAt w' a l := by
  rcases h with h | ⟨b, off, rfl, h⟩
  · exact .inl h
  · exact .inr ⟨b, off, rfl, fun i hi => hE.cell (h i hi)⟩
theorem make24 (w : World) : (Instr.makeSlice 24 (.int .i64 24) (.int .i64 24)).run Tryz.prog w = .ok (.slice (some ⟨w.heap.size, 0, none⟩) 24 24) (w.alloc (.cells #[.int .i64 0, .int .i64 0, .int .i64 0, .int .i64 0, .int .i64 0, .int .i64 0, .int .i64 0, .int .i64 0, .int .i64 0, .int .i64 0, .int .i64 0, .int .i64 0, .int .i64 0, .int .i64 0, .int .i64 0, .int .i64 0, .int .i64 0, .int .i64 0, .int .i64 0, .int .i64 0, .int .i64 0, .int .i64 0, .int .i64 0, .int .i64 0] 3)) := by kernel_rfl
theorem new_ints (w : World) (l : List Int) (t : TypeId) : ∀ i, i < l.length → (w.alloc (.cells (l.map (Value.int .i64)).toArray t)).cell? ⟨w.heap.size, 0 + i, none⟩ = some (.int .i64 (Globe.nth l i)) := by
  intro i hi
  rw [Nat.zero_add]
  rw [cell_of_row _ _ i _ t (0, 0) (heap_alloc_new w _)]
  simp [Globe.nth, hi]
end Go.Proofs.YtajdohcgjgknmaaGreatDoor

namespace Go.Proofs.YtajdohcgjgknmaaGreatDoor
open Go.RowKit
theorem and_i64 (a b : Nat) (ha : a < 4611686018427387904) (hb : b < 4611686018427387904) : bits .and .i64 (a : Int) (b : Int) = ((a &&& b : Nat) : Int) :=
  (bits_nat .i64 62 (by decide) (fun n h1 h2 => by rw [IntKind.wrap_i64]; omega) a b (by omega) (by omega)).1
theorem or_i64 (a b : Nat) (ha : a < 4611686018427387904) (hb : b < 4611686018427387904) : bits .or .i64 (a : Int) (b : Int) = ((a ||| b : Nat) : Int) :=
  (bits_nat .i64 62 (by decide) (fun n h1 h2 => by rw [IntKind.wrap_i64]; omega) a b (by omega) (by omega)).2
theorem testBit_div (R x : Nat) : R / 2 ^ x % 2 = if R.testBit x then 1 else 0 := by
  rw [← Nat.shiftRight_eq_div_pow, Nat.testBit, Nat.one_and_eq_mod_two]
  have h2 : (R >>> x) % 2 < 2 := Nat.mod_lt _ (by decide)
  by_cases h : (R >>> x) % 2 = 0
  · rw [h]; rfl
  · have h1 : (R >>> x) % 2 = 1 := by omega
    rw [h1]; rfl
theorem div_pow_cast (R x : Nat) : (R : Int) / 2 ^ x = ((R / 2 ^ x : Nat) : Int) := by simp
theorem bit_and1 (R x : Nat) (h : R < 4611686018427387904) : bits .and .i64 ((R : Int) / 2 ^ x) 1 = if R.testBit x then 1 else 0 := by
  rw [div_pow_cast, show (1 : Int) = ((1 : Nat) : Int) from rfl, and_i64 _ _ (Nat.lt_of_le_of_lt (Nat.div_le_self _ _) h) (by decide), Nat.and_one_is_mod, testBit_div]
  split <;> rfl
theorem bit_mod2 (R x : Nat) : (R : Int) / 2 ^ x % 2 = if R.testBit x then 1 else 0 := by
  rw [div_pow_cast, show (2 : Int) = ((2 : Nat) : Int) from rfl, ← Int.natCast_emod, testBit_div]
  split <;> rfl
end Go.Proofs.YtajdohcgjgknmaaGreatDoor

namespace Go.Proofs.YtajdohcgjgknmaaGreatDoor
namespace Globe
def bitsN (R : Nat) : List Nat := (List.range 48).filter fun x => R.testBit x
theorem bitsN_zero : bitsN 0 = [] := by simp [bitsN]
theorem lowest (R : Nat) (h0 : R ≠ 0) (h : R < 2 ^ 64) : ∃ m, R = 2 ^ Lib.ctz 64 R * (2 * m + 1) ∧ R &&& (R - 1) = 2 ^ (Lib.ctz 64 R + 1) * m := by
  obtain ⟨m, hm, _⟩ := Lib.ctzFrom_spec 64 R (by omega) h
  have e : Lib.ctz 64 R = Lib.ctzFrom 64 R := by simp [Lib.ctz, h0]
  rw [e]
  generalize Lib.ctzFrom 64 R = k at hm ⊢
  refine ⟨m, hm, ?_⟩
  have hp : 0 < 2 ^ k := Nat.two_pow_pos k
  have h1 : R = 2 ^ (k + 1) * m + 2 ^ k := by rw [hm, Nat.pow_succ, Nat.mul_add, Nat.mul_one, Nat.mul_assoc]
  have h2 : R - 1 = 2 ^ (k + 1) * m + (2 ^ k - 1) := by omega
  have l1 : 2 ^ k < 2 ^ (k + 1) := by rw [Nat.pow_succ]; omega
  apply Nat.eq_of_testBit_eq
  intro j
  rw [h2, Nat.testBit_and, h1, Nat.testBit_two_pow_mul_add _ l1, Nat.testBit_two_pow_mul_add _ (by omega)]
  rw [Nat.testBit_two_pow_mul]
  by_cases hj : j < k + 1
  · simp only [hj, if_true, Nat.testBit_two_pow, Nat.testBit_two_pow_sub_one]
    rw [show decide (j ≥ k + 1) = false by simp; omega]
    by_cases e : k = j
    · subst e; simp
    · simp [e]
  · simp only [hj, if_false]
    rw [show decide (j ≥ k + 1) = true by simp; omega]
    simp
theorem testBit_ctz (R : Nat) (h0 : R ≠ 0) (h : R < 2 ^ 64) : R.testBit (Lib.ctz 64 R) = true ∧ (∀ j, j < Lib.ctz 64 R → R.testBit j = false) ∧ ∀ j, (R &&& (R - 1)).testBit j = (R.testBit j && decide (j ≠ Lib.ctz 64 R)) := by
  obtain ⟨m, hm, ha⟩ := lowest R h0 h
  generalize Lib.ctz 64 R = k at *
  have h1 : R = 2 ^ (k + 1) * m + 2 ^ k := by rw [hm, Nat.pow_succ, Nat.mul_add, Nat.mul_one, Nat.mul_assoc]
  have l1 : 2 ^ k < 2 ^ (k + 1) := by rw [Nat.pow_succ]; have := Nat.two_pow_pos k; omega
  have tb : ∀ j, R.testBit j = if j < k + 1 then decide (k = j) else m.testBit (j - (k + 1)) := by
    intro j
    rw [h1, Nat.testBit_two_pow_mul_add _ l1, Nat.testBit_two_pow]
  refine ⟨by rw [tb]; simp, fun j hj => by rw [tb, if_pos (by omega)]; simp; omega, fun j => ?_⟩
  rw [ha, tb, Nat.testBit_two_pow_mul]
  by_cases hj : j < k + 1
  · rw [if_pos hj, show decide (j ≥ k + 1) = false by simp; omega]
    by_cases e : k = j
    · subst e; simp
    · simp [e]
  · rw [if_neg hj, show decide (j ≥ k + 1) = true by simp; omega, show decide (j ≠ k) = true by simp; omega]
    simp
theorem ctz_lt (R : Nat) (h0 : R ≠ 0) (h : R < 2 ^ 48) : Lib.ctz 64 R < 48 := by
  have h64 : R < 2 ^ 64 := by omega
  obtain ⟨t, _⟩ := testBit_ctz R h0 h64
  apply Nat.lt_of_not_le
  intro hle
  have : R < 2 ^ Lib.ctz 64 R := Nat.lt_of_lt_of_le h (Nat.pow_le_pow_right (by decide) hle)
  rw [Nat.testBit_lt_two_pow this] at t
  cases t
theorem bitsN_step (R : Nat) (h0 : R ≠ 0) (h : R < 2 ^ 48) : bitsN R = Lib.ctz 64 R :: bitsN (R &&& (R - 1)) := by
  have h64 : R < 2 ^ 64 := by omega
  obtain ⟨t, tl, ta⟩ := testBit_ctz R h0 h64
  have hk := ctz_lt R h0 h
  generalize Lib.ctz 64 R = k at *
  unfold bitsN
  obtain ⟨r, hr⟩ : ∃ r, 48 = k + (1 + r) := ⟨47 - k, by omega⟩
  rw [hr, List.range_add, List.range_add, List.filter_append, List.filter_append, List.map_append, List.filter_append, List.filter_append]
  have e1 : (List.range k).filter (fun x => R.testBit x) = [] := List.filter_eq_nil_iff.2 fun j hj => by rw [tl j (List.mem_range.1 hj)]; simp
  have e2 : (List.range k).filter (fun x => (R &&& (R - 1)).testBit x) = [] := List.filter_eq_nil_iff.2 fun j hj => by rw [ta, tl j (List.mem_range.1 hj)]; simp
  have e3 : (List.map (fun x => k + x) (List.range 1)).filter (fun x => R.testBit x) = [k] := by simp [List.range_succ, t]
  have e4 : (List.map (fun x => k + x) (List.range 1)).filter (fun x => (R &&& (R - 1)).testBit x) = [] := by simp [List.range_succ, ta]
  rw [e1, e2, e3, e4]
  simp only [List.nil_append, List.singleton_append, List.cons.injEq, true_and]
  refine List.filter_congr fun j hj => ?_
  rw [ta]
  simp only [List.map_map, List.mem_map, List.mem_range, Function.comp] at hj
  obtain ⟨i, _, rfl⟩ := hj
  rw [show decide (k + (1 + i) ≠ k) = true by simp, Bool.and_true]
theorem and_pred_lt (R : Nat) (h : R < 2 ^ 48) : R &&& (R - 1) < 2 ^ 48 := Nat.and_lt_two_pow _ (by omega)
theorem and_pred_less (R : Nat) (h0 : R ≠ 0) : R &&& (R - 1) < R := by
  have : R &&& (R - 1) ≤ R - 1 := Nat.and_le_right
  omega
def rowCells (l : List Int) (j : Nat) : List (Nat × Nat) := (bitsN (nth l j).toNat).map fun x => (x, j)
def cellsTo (l : List Int) (y : Nat) : List (Nat × Nat) := (List.range y).flatMap (rowCells l)
theorem cellsTo_succ (l : List Int) (y : Nat) : cellsTo l (y + 1) = cellsTo l y ++ rowCells l y := by simp [cellsTo, List.range_succ]
theorem bitsN_len (R : Nat) : (bitsN R).length ≤ 48 := by
  unfold bitsN
  exact Nat.le_trans (List.length_filter_le _ _) (by simp)
theorem cellsTo_len (l : List Int) : ∀ y, (cellsTo l y).length ≤ 48 * y
  | 0 => by simp [cellsTo]
  | y + 1 => by
    rw [cellsTo_succ, List.length_append]
    have := cellsTo_len l y
    have h2 : (rowCells l y).length ≤ 48 := by unfold rowCells; rw [List.length_map]; exact bitsN_len _
    omega
theorem cellsTo_pre (l : List Int) {y n : Nat} (h : y ≤ n) : cellsTo l y <+: cellsTo l n := by
  obtain ⟨r, rfl⟩ : ∃ r, n = y + r := ⟨n - y, by omega⟩
  unfold cellsTo
  rw [List.range_add, List.flatMap_append]
  exact List.prefix_append _ _
theorem cells_mid {l : List Int} {y x : Nat} {done rest : List (Nat × Nat)} (hy : y < 24) (h : done ++ (x, y) :: rest = rowCells l y) :
    (cellsTo l y ++ done).length < (cellsTo l 24).length ∧ cellsTo l y ++ done ++ [(x, y)] <+: cellsTo l 24 := by
  have hp := cellsTo_pre l (show y + 1 ≤ 24 by omega)
  rw [cellsTo_succ, ← h] at hp
  refine ⟨?_, ?_⟩
  · have := hp.length_le
    simp only [List.length_append, List.length_cons] at this ⊢
    omega
  · refine List.IsPrefix.trans ?_ hp
    exact ⟨rest, by simp⟩
def cellsL (l : List Int) : List (Nat × Nat) := if validL l then cellsTo l 24 else []
def countL (l : List Int) : Nat := (cellsL l).length
end Globe
end Go.Proofs.YtajdohcgjgknmaaGreatDoor

namespace Go.Proofs.YtajdohcgjgknmaaGreatDoor
namespace Globe
def hasL (l : List Int) (x y : Nat) : Bool := (nth l y).toNat.testBit x
def putL (l : List Int) (x y : Nat) : List Int := l.set y (((nth l y).toNat ||| 2 ^ x : Nat) : Int)
def zeroL : List Int := List.replicate 24 0
theorem nth_set {l : List Int} {y : Nat} {v : Int} (j : Nat) (h : y < l.length) : nth (l.set y v) j = if y = j then v else nth l j := by
  unfold nth
  rw [List.getElem?_set]
  by_cases e : y = j
  · subst e; simp [h]
  · simp [e]
theorem has_put {l : List Int} {x y : Nat} (h : y < l.length) (x' y' : Nat) : hasL (putL l x y) x' y' = (hasL l x' y' || (decide (x = x') && decide (y = y'))) := by
  unfold hasL putL
  rw [nth_set _ h]
  by_cases e : y = y'
  · subst e; rw [if_pos rfl, Int.toNat_natCast, Nat.testBit_or, Nat.testBit_two_pow]; simp
  · rw [if_neg e]; simp [e]
theorem nth_zero (j : Nat) : nth zeroL j = 0 := by
  unfold nth zeroL
  rw [List.getElem?_replicate]; split <;> rfl
theorem has_zero (x y : Nat) : hasL zeroL x y = false := by unfold hasL; rw [nth_zero]; simp
theorem valid_zero : validL zeroL = true := by decide +kernel
theorem len_of_valid {l : List Int} (h : validL l = true) : l.length = 24 := (validL_t.1 h).1
theorem row_of_valid {l : List Int} (h : validL l = true) (y : Nat) : 0 ≤ nth l y ∧ nth l y ≤ 281474976710655 := by
  by_cases hy : y < l.length
  · exact (validL_t.1 h).2 _ (nth_mem hy)
  · rw [nth_ge (by omega)]; omega
theorem valid_set {l : List Int} (h : validL l = true) {y : Nat} {v : Int} (h0 : 0 ≤ v) (h1 : v ≤ 281474976710655) : validL (l.set y v) = true := by
  rw [validL_t] at h ⊢
  refine ⟨by simp [h.1], fun r hr => ?_⟩
  rcases List.mem_or_eq_of_mem_set hr with hr | rfl
  · exact h.2 r hr
  · exact ⟨h0, h1⟩
theorem or_lt {R x : Nat} (h : R < 281474976710656) (hx : x < 48) : R ||| 2 ^ x < 281474976710656 :=
  Nat.or_lt_two_pow (n := 48) h (Nat.pow_lt_pow_right (by decide) hx)
theorem valid_put {l : List Int} (h : validL l = true) {x y : Nat} (hx : x < 48) : validL (putL l x y) = true := by
  obtain ⟨h0, h1⟩ := row_of_valid h y
  have := @or_lt (nth l y).toNat x (by omega) hx
  exact valid_set h (by omega) (by omega)
theorem ext_has {a b : List Int} (ha : validL a = true) (hb : validL b = true) (h : ∀ x y, x < 48 → y < 24 → hasL a x y = hasL b x y) : a = b := by
  refine ext_nth (by rw [len_of_valid ha, len_of_valid hb]) fun y hy => ?_
  rw [len_of_valid ha] at hy
  obtain ⟨a0, a1⟩ := row_of_valid ha y
  obtain ⟨b0, b1⟩ := row_of_valid hb y
  have : (nth a y).toNat = (nth b y).toNat := Nat.eq_of_testBit_eq fun x => by
    by_cases hx : x < 48
    · exact h x y hx hy
    · rw [Nat.testBit_lt_two_pow, Nat.testBit_lt_two_pow]
      · exact Nat.lt_of_lt_of_le (show (nth b y).toNat < 2 ^ 48 by omega) (Nat.pow_le_pow_right (by decide) (by omega))
      · exact Nat.lt_of_lt_of_le (show (nth a y).toNat < 2 ^ 48 by omega) (Nat.pow_le_pow_right (by decide) (by omega))
  omega
theorem mem_cells {l : List Int} {n : Nat} {p : Nat × Nat} : p ∈ cellsTo l n ↔ p.2 < n ∧ p.1 < 48 ∧ hasL l p.1 p.2 = true := by
  obtain ⟨x, y⟩ := p
  simp only [cellsTo, rowCells, List.mem_flatMap, List.mem_range, List.mem_map, bitsN, List.mem_filter, hasL, Prod.mk.injEq]
  constructor
  · rintro ⟨y', hy, x', ⟨hx, ht⟩, rfl, rfl⟩; exact ⟨hy, hx, ht⟩
  · rintro ⟨hy, hx, ht⟩; exact ⟨y, hy, x, ⟨hx, ht⟩, rfl, rfl⟩
end Globe
end Go.Proofs.YtajdohcgjgknmaaGreatDoor

namespace Go.Proofs.YtajdohcgjgknmaaGreatDoor
open Go.RowKit
def RowsAt (w : World) (B : Nat) (L : List Int) : Prop := L.length = 24 ∧ (∀ i, i < 24 → w.cell? ⟨B, i, none⟩ = some (.int .i64 (Globe.nth L i))) ∧ ∀ i, i < 24 → w.frozen? ⟨B, i, none⟩ = false
theorem RowsAt.len {w : World} {B : Nat} {L : List Int} (h : RowsAt w B L) : L.length = 24 := h.1
theorem RowsAt.cell {w : World} {B : Nat} {L : List Int} (h : RowsAt w B L) {i : Nat} (hi : i < 24) : w.cell? ⟨B, i, none⟩ = some (.int .i64 (Globe.nth L i)) := h.2.1 i hi
theorem RowsAt.free {w : World} {B : Nat} {L : List Int} (h : RowsAt w B L) {i : Nat} (hi : i < 24) : w.frozen? ⟨B, i, none⟩ = false := h.2.2 i hi
theorem RowsAt.ext {w w' : World} {B : Nat} {L : List Int} (h : RowsAt w B L) (hE : Ext w w') : RowsAt w' B L :=
  ⟨h.1, fun _ hi => hE.cell (h.cell hi), fun _ hi => hE.free (h.cell hi) (h.free hi)⟩
theorem RowsAt.lt {w : World} {B : Nat} {L : List Int} (h : RowsAt w B L) : B < w.heap.size := World.block_lt_of_cell? w _ (h.cell (i := 0) (by omega))
theorem RowsAt.set {w : World} {B : Nat} {L : List Int} (h : RowsAt w B L) {y : Nat} (hy : y < 24) (v : Int) : RowsAt (w.setCell ⟨B, y, none⟩ (.int .i64 v)) B (L.set y v) := by
  refine ⟨by rw [List.length_set]; exact h.1, fun i hi => ?_, fun i hi => ?_⟩
  · rw [Globe.nth_set _ (by rw [h.1]; exact hy)]
    by_cases e : y = i
    · subst e; rw [if_pos rfl]; have := h.cell hy; simp [go_sem, this]
    · rw [if_neg e, ← h.cell hi]
      exact World.cell?_setCell_other w _ _ _ (by intro c; exact e (congrArg Addr.off c))
  · have := h.free hi; simpa [go_sem] using this
theorem RowsAt.ints {w : World} {B : Nat} {L : List Int} (h : RowsAt w B L) : ∀ i, i < L.length → w.cell? ⟨B, 0 + i, none⟩ = some (.int .i64 (Globe.nth L i)) := fun i hi => by
  rw [Nat.zero_add]; exact h.cell (by rw [← h.1]; exact hi)
theorem RowsAt.new (w : World) (L : List Int) (t : TypeId) (hl : L.length = 24) : RowsAt (w.alloc (.cells (L.map (Value.int .i64)).toArray t)) w.heap.size L := by
  refine ⟨hl, fun i hi => ?_, fun i hi => by simp [go_sem]⟩
  have := new_ints w L t i (by omega)
  rwa [Nat.zero_add] at this
end Go.Proofs.YtajdohcgjgknmaaGreatDoor

namespace Go.Proofs.YtajdohcgjgknmaaGreatDoor
namespace Globe
def rowsF (f : Nat → Nat) : List Int := (List.range 24).map fun y => ((f y : Nat) : Int)
theorem rowsF_len (f : Nat → Nat) : (rowsF f).length = 24 := by simp [rowsF]
theorem nth_rowsF (f : Nat → Nat) {y : Nat} (h : y < 24) : nth (rowsF f) y = ((f y : Nat) : Int) := by
  rw [nth_lt (by rw [rowsF_len]; exact h)]; simp [rowsF]
theorem rowsF_valid {f : Nat → Nat} (h : ∀ y, y < 24 → f y < 281474976710656) : validL (rowsF f) = true := by
  rw [validL_t]
  refine ⟨rowsF_len f, fun r hr => ?_⟩
  simp only [rowsF, List.mem_map, List.mem_range] at hr
  obtain ⟨y, hy, rfl⟩ := hr
  have := h y hy
  omega
theorem has_rowsF (f : Nat → Nat) {x y : Nat} (h : y < 24) : hasL (rowsF f) x y = (f y).testBit x := by
  unfold hasL; rw [nth_rowsF f h]; simp
def partL (L : List Int) (y : Nat) : List Int := L.take y ++ List.replicate (24 - y) 0
theorem partL_zero (L : List Int) : partL L 0 = zeroL := by simp [partL, zeroL]
theorem partL_all {L : List Int} (h : L.length = 24) : partL L 24 = L := by simp [partL]; rw [← h, List.take_length]
theorem partL_len {L : List Int} (h : L.length = 24) {y : Nat} (hy : y ≤ 24) : (partL L y).length = 24 := by
  unfold partL; rw [List.length_append, List.length_take, List.length_replicate]; omega
theorem nth_partL {L : List Int} (h : L.length = 24) {y j : Nat} (hy : y ≤ 24) (_hj : j < 24) : nth (partL L y) j = if j < y then nth L j else 0 := by
  unfold nth partL
  rw [List.getElem?_append, List.length_take, Nat.min_eq_left (by omega)]
  by_cases e : j < y
  · rw [if_pos e, if_pos e, List.getElem?_take_of_lt e]
  · rw [if_neg e, if_neg e, List.getElem?_replicate]; split <;> rfl
theorem partL_succ {L : List Int} (h : L.length = 24) {y : Nat} (hy : y < 24) : (partL L y).set y (nth L y) = partL L (y + 1) := by
  refine ext_nth (by rw [List.length_set, partL_len h (by omega), partL_len h (by omega)]) fun j hj => ?_
  rw [List.length_set, partL_len h (by omega)] at hj
  rw [nth_set _ (by rw [partL_len h (by omega)]; exact hy), nth_partL h (by omega) hj, nth_partL h (by omega) hj]
  by_cases e : y = j
  · subst e; rw [if_pos rfl, if_pos (by omega)]
  · rw [if_neg e]
    by_cases e2 : j < y
    · rw [if_pos e2, if_pos (by omega)]
    · rw [if_neg e2, if_neg (by omega)]
def rowN (l : List Int) (y : Nat) : Nat := (nth l y).toNat
theorem rowN_lt {l : List Int} (h : validL l = true) (y : Nat) : rowN l y < 281474976710656 := by
  have := row_of_valid h y; unfold rowN; omega
theorem rowN_cast {l : List Int} (h : validL l = true) (y : Nat) : nth l y = (rowN l y : Int) := by
  have := row_of_valid h y; unfold rowN; omega
theorem rowN_bit (l : List Int) (x y : Nat) : (rowN l y).testBit x = hasL l x y := rfl
def meetL (a b : List Int) : List Int := rowsF fun y => rowN a y &&& rowN b y
def lessN (p q : Nat) : Nat := p ^^^ (p &&& q)
theorem lessN_bit (p q x : Nat) : (lessN p q).testBit x = (p.testBit x && !q.testBit x) := by
  unfold lessN
  rw [Nat.testBit_xor, Nat.testBit_and]
  cases p.testBit x <;> cases q.testBit x <;> rfl
theorem lessN_lt {p q : Nat} (h : p < 281474976710656) : lessN p q < 281474976710656 :=
  Nat.xor_lt_two_pow (n := 48) h (Nat.lt_of_le_of_lt Nat.and_le_left h)
def lessL (a b : List Int) : List Int := rowsF fun y => lessN (rowN a y) (rowN b y)
theorem meet_valid {a b : List Int} (ha : validL a = true) : validL (meetL a b) = true :=
  rowsF_valid fun y _ => Nat.lt_of_le_of_lt Nat.and_le_left (rowN_lt ha y)
theorem less_valid {a b : List Int} (ha : validL a = true) : validL (lessL a b) = true := rowsF_valid fun y _ => lessN_lt (rowN_lt ha y)
theorem has_meet {a b : List Int} {x y : Nat} (h : y < 24) : hasL (meetL a b) x y = (hasL a x y && hasL b x y) := by
  unfold meetL; rw [has_rowsF _ h, Nat.testBit_and, rowN_bit, rowN_bit]
theorem has_less {a b : List Int} {x y : Nat} (h : y < 24) : hasL (lessL a b) x y = (hasL a x y && !hasL b x y) := by
  unfold lessL; rw [has_rowsF _ h, lessN_bit, rowN_bit, rowN_bit]
end Globe
end Go.Proofs.YtajdohcgjgknmaaGreatDoor

namespace Go.Proofs.YtajdohcgjgknmaaGreatDoor
open Go.RowKit
def RetA (w : World) (L : List Int) (e : Ending) (w' : World) : Prop :=
  ∃ B : Nat, e = .returned (.agg #[.slice (some ⟨B, 0, none⟩) 24 24]) ∧ w.heap.size ≤ B ∧ RowsAt w' B L ∧ Ext w w'
def RetAE (w : World) (L : List Int) (e : Ending) (w' : World) : Prop :=
  ∃ B : Nat, e = .returned (.tuple #[.agg #[.slice (some ⟨B, 0, none⟩) 24 24], .int .i64 0]) ∧ w.heap.size ≤ B ∧ RowsAt w' B L ∧ Ext w w'
def RetErr (w : World) (c : Int) (e : Ending) (w' : World) : Prop := e = .returned (.tuple #[.agg #[.slice none 0 0], .int .i64 c]) ∧ Ext w w'
def orL (ok : Bool) (L : List Int) : List Int := if ok then L else []
def orE (ok : Bool) (c : Int) : Int := if ok then 0 else c
def RetAny (w : World) (ok : Bool) (L : List Int) (c : Int) (e : Ending) (w' : World) : Prop :=
  ∃ (a : Option Addr) (k : Nat), e = .returned (.tuple #[.agg #[.slice a (orL ok L).length k], .int .i64 (orE ok c)]) ∧ IntsAt w' a (orL ok L) ∧ Ext w w' ∧ ∀ ad, a = some ad → w.heap.size ≤ ad.block ∧ ad.block < w'.heap.size
theorem RetAny.yes {w : World} {L : List Int} {c : Int} {e : Ending} {w' : World} (h : RetAE w L e w') : RetAny w true L c e w' := by
  obtain ⟨B, rfl, hB, hr, hE⟩ := h
  exact ⟨some ⟨B, 0, none⟩, 24, by show _ = Ending.returned (.tuple #[.agg #[.slice _ L.length _], _]); rw [hr.len]; rfl, .inr ⟨B, 0, rfl, hr.ints⟩, hE, fun ad e => by cases e; exact ⟨hB, hr.lt⟩⟩
theorem RetAny.no {w : World} {L : List Int} {c : Int} {e : Ending} {w' : World} (h : RetErr w c e w') : RetAny w false L c e w' := by
  obtain ⟨rfl, hE⟩ := h
  exact ⟨none, 0, rfl, .inl rfl, hE, fun ad e => by cases e⟩
theorem RowsAt.any {w : World} {B : Nat} {L : List Int} (h : RowsAt w B L) : IntsAt w (some ⟨B, 0, none⟩) L := .inr ⟨B, 0, rfl, h.ints⟩
theorem IntsAt.rows {w : World} {a : Option Addr} {l : List Int} (h : IntsAt w a l) (hl : l.length = 24) : ∃ b off, a = some ⟨b, off, none⟩ ∧ ∀ i, i < 24 → w.cell? ⟨b, off + i, none⟩ = some (.int .i64 (Globe.nth l i)) := by
  rcases h with rfl | ⟨b, off, rfl, h⟩
  · simp at hl
  · exact ⟨b, off, rfl, fun i hi => h i (by omega)⟩
theorem IntsAt.lt {w : World} {b off : Nat} {l : List Int} (h : ∀ i, i < 24 → w.cell? ⟨b, off + i, none⟩ = some (.int .i64 (Globe.nth l i))) : b < w.heap.size := World.block_lt_of_cell? w _ (h 0 (by omega))
theorem RowsAt.keep {w w' : World} {B : Nat} {L : List Int} (h : RowsAt w B L) (hc : ∀ o, w'.cell? ⟨B, o, none⟩ = w.cell? ⟨B, o, none⟩) (hf : ∀ o, w'.frozen? ⟨B, o, none⟩ = w.frozen? ⟨B, o, none⟩) : RowsAt w' B L :=
  ⟨h.1, fun i hi => by rw [hc]; exact h.cell hi, fun i hi => by rw [hf]; exact h.free hi⟩
theorem RowsAt.other {w : World} {B : Nat} {L : List Int} (h : RowsAt w B L) {p : Addr} (hp : p.block ≠ B) (v : Value) : RowsAt (w.setCell p v) B L :=
  h.keep (fun o => World.cell?_setCell_other w _ _ _ (fun e => hp (by rw [e]))) (fun o => by simp [go_sem])
def BoxAt (w : World) (b o : Nat) (v : Value) : Prop := w.cell? ⟨b, o, none⟩ = some v ∧ w.frozen? ⟨b, o, none⟩ = false
theorem BoxAt.ext {w w' : World} {b o : Nat} {v : Value} (hE : Ext w w') (h : BoxAt w b o v) : BoxAt w' b o v := ⟨hE.cell h.1, hE.free h.1 h.2⟩
theorem BoxAt.lt {w : World} {b o : Nat} {v : Value} (h : BoxAt w b o v) : b < w.heap.size := World.block_lt_of_cell? w _ h.1
theorem BoxAt.other {w : World} {b o : Nat} {v : Value} (h : BoxAt w b o v) {p : Addr} (hp : p.block ≠ b) (u : Value) : BoxAt (w.setCell p u) b o v :=
  ⟨by rw [World.cell?_setCell_other w _ _ _ (fun e => hp (by rw [e]))]; exact h.1, by simp [go_sem, h.2]⟩
theorem BoxAt.drew {w : World} {b o : Nat} {v : Value} (h : BoxAt w b o v) : BoxAt w.drew b o v := ⟨h.1, h.2⟩
theorem BoxAt.drewN {w : World} {b o : Nat} {v : Value} (h : BoxAt w b o v) (n : Nat) : BoxAt (w.drewN n) b o v := ⟨h.1, h.2⟩
theorem RowsAt.drewN {w : World} {B : Nat} {L : List Int} (h : RowsAt w B L) (n : Nat) : RowsAt (w.drewN n) B L := ⟨h.1, fun _ hi => h.cell hi, fun _ hi => h.free hi⟩
theorem RowsAt.drew {w : World} {B : Nat} {L : List Int} (h : RowsAt w B L) : RowsAt w.drew B L := ⟨h.1, fun _ hi => h.cell hi, fun _ hi => h.free hi⟩
def AA (w : World) (a : Option Addr) (l : List Int) (n : Nat) (v : Bool) : Prop := IntsAt w a l ∧ l.length = n ∧ n ≤ 140737488355328 ∧ Globe.validL l = v
def VA (w : World) (b o : Nat) (l : List Int) : Prop := (∀ i, i < 24 → w.cell? ⟨b, o + i, none⟩ = some (.int .i64 (Globe.nth l i))) ∧ Globe.validL l = true
theorem AA.ext {w w' : World} {a : Option Addr} {l : List Int} {n : Nat} {v : Bool} (h : AA w a l n v) (hE : Ext w w') : AA w' a l n v := ⟨h.1.ext hE, h.2⟩
theorem VA.ext {w w' : World} {b o : Nat} {l : List Int} (h : VA w b o l) (hE : Ext w w') : VA w' b o l := ⟨fun i hi => hE.cell (h.1 i hi), h.2⟩
theorem VA.lt {w : World} {b o : Nat} {l : List Int} (h : VA w b o l) : b < w.heap.size := IntsAt.lt h.1
theorem VA.len {w : World} {b o : Nat} {l : List Int} (h : VA w b o l) : l.length = 24 := Globe.len_of_valid h.2
theorem VA.cell {w : World} {b o : Nat} {l : List Int} (h : VA w b o l) {y : Nat} (hy : y < 24) : w.cell? ⟨b, o + y, none⟩ = some (.int .i64 (Globe.rowN l y : Nat)) := by rw [← Globe.rowN_cast h.2]; exact h.1 y hy
theorem VA.aa {w : World} {b o : Nat} {l : List Int} (h : VA w b o l) : AA w (some ⟨b, o, none⟩) l 24 true :=
  ⟨.inr ⟨b, o, rfl, fun i hi => h.1 i (by rw [← h.len]; exact hi)⟩, h.len, by omega, h.2⟩
theorem AA.va {w : World} {a : Option Addr} {l : List Int} {n : Nat} (h : AA w a l n true) : ∃ b o, a = some ⟨b, o, none⟩ ∧ n = 24 ∧ VA w b o l := by
  have hl := Globe.len_of_valid h.2.2.2
  obtain ⟨b, o, rfl, hr⟩ := h.1.rows hl
  exact ⟨b, o, rfl, by rw [← h.2.1]; exact hl, hr, h.2.2.2⟩
theorem RowsAt.va {w : World} {B : Nat} {L : List Int} (h : RowsAt w B L) (hv : Globe.validL L = true) : VA w B 0 L := ⟨fun i hi => by rw [Nat.zero_add]; exact h.cell hi, hv⟩
def RetV (w : World) (L : List Int) (e : Ending) (w' : World) : Prop :=
  ∃ B k : Nat, e = .returned (.tuple #[.agg #[.slice (some ⟨B, 0, none⟩) 24 k], .int .i64 0]) ∧ w.heap.size ≤ B ∧ RowsAt w' B L ∧ VA w' B 0 L ∧ Ext w w'
theorem RetAE.v {w : World} {L : List Int} {e : Ending} {w' : World} (h : RetAE w L e w') (hv : Globe.validL L = true) : RetV w L e w' := by
  obtain ⟨B, rfl, hB, hr, hE⟩ := h
  exact ⟨B, 24, rfl, hB, hr, hr.va hv, hE⟩
theorem RetV.any {w : World} {L : List Int} {c : Int} {e : Ending} {w' : World} (h : RetV w L e w') : RetAny w true L c e w' := by
  obtain ⟨B, k, rfl, hB, hr, hv, hE⟩ := h
  exact ⟨some ⟨B, 0, none⟩, k, by show _ = Ending.returned (.tuple #[.agg #[.slice _ L.length _], _]); rw [hr.len]; rfl, .inr ⟨B, 0, rfl, hr.ints⟩, hE, fun ad e => by cases e; exact ⟨hB, hr.lt⟩⟩
end Go.Proofs.YtajdohcgjgknmaaGreatDoor

namespace Go.Proofs.YtajdohcgjgknmaaGreatDoor
open Go.RowKit
def cellVals (l : List (Nat × Nat)) : List Value := l.flatMap fun p => [.int .i64 (p.1 : Int), .int .i64 (p.2 : Int)]
theorem cellVals_snoc (l : List (Nat × Nat)) (p : Nat × Nat) : cellVals (l ++ [p]) = cellVals l ++ [.int .i64 (p.1 : Int), .int .i64 (p.2 : Int)] := by simp [cellVals]
theorem cell_two_new (w : World) (x y : Value) (t : TypeId) : ∀ j u, [x, y][j]? = some u → (w.alloc (.cells #[x, y] t)).cell? ((⟨w.heap.size, 0, none⟩ : Addr).add j) = some u := by
  intro j u hj
  rw [Addr.add_mid, Nat.zero_add]
  match j, hj with
  | 0, hj => simp at hj; subst hj; simp [go_sem]
  | 1, hj => simp at hj; subst hj; simp [go_sem]
  | _ + 2, hj => simp at hj
def CellsAt (w : World) (a : Option Addr) (n : Nat) (cs : List (Nat × Nat)) : Prop :=
  cs.length = n ∧ (n = 0 ∨ ∃ b, a = some ⟨b, 0, none⟩ ∧ ∀ (i : Nat) (p : Nat × Nat), cs[i]? = some p → w.cell? ⟨b, i * 2, none⟩ = some (.int .i64 (p.1 : Int)) ∧ w.cell? ⟨b, i * 2 + 1, none⟩ = some (.int .i64 (p.2 : Int)))
theorem CellsAt.ext {w w' : World} {a : Option Addr} {n : Nat} {cs : List (Nat × Nat)} (h : CellsAt w a n cs) (hE : Ext w w') : CellsAt w' a n cs := by
  refine ⟨h.1, h.2.imp id fun ⟨b, ha, hc⟩ => ⟨b, ha, fun i p hp => ⟨hE.cell (hc i p hp).1, hE.cell (hc i p hp).2⟩⟩⟩
theorem CellsAt.nil (w : World) (a : Option Addr) : CellsAt w a 0 [] := ⟨rfl, .inl rfl⟩
theorem cellVals_at : ∀ {cs : List (Nat × Nat)} {i : Nat} {p : Nat × Nat}, cs[i]? = some p → (cellVals cs)[i * 2]? = some (.int .i64 (p.1 : Int)) ∧ (cellVals cs)[i * 2 + 1]? = some (.int .i64 (p.2 : Int))
  | q :: cs, 0, p, h => by simp at h; subst h; simp [cellVals]
  | q :: cs, i + 1, p, h => by
    have ih := cellVals_at (cs := cs) (i := i) (p := p) (by simpa using h)
    have e : cellVals (q :: cs) = [.int .i64 (q.1 : Int), .int .i64 (q.2 : Int)] ++ cellVals cs := by simp [cellVals]
    rw [e, show (i + 1) * 2 = 2 + i * 2 by omega, show 2 + i * 2 + 1 = 2 + (i * 2 + 1) by omega]
    rw [List.getElem?_append_right (by simp), List.getElem?_append_right (by simp)]
    simpa using ih
theorem CellsAt.own {w : World} {base : Nat} {v : Value} {cs : List (Nat × Nat)} {n : Nat} (hn : cs.length = n) (h : w.ownsRow base 65 2 v n (cellVals cs)) : ∃ a k, v = .slice a n k ∧ CellsAt w a n cs := by
  rcases h.2 with ⟨rfl, h0⟩ | ⟨g, cap, cur, rfl, _, _, _⟩
  · subst h0; exact ⟨none, 0, rfl, hn, .inl rfl⟩
  · refine ⟨some ⟨g, 0, none⟩, cap, rfl, hn, .inr ⟨g, rfl, fun i p hp => ?_⟩⟩
    have hi : i < cs.length := (List.getElem?_eq_some_iff.1 hp).1
    obtain ⟨e1, e2⟩ := cellVals_at hp
    rw [h.cellAt (i * 2) (by omega), h.cellAt (i * 2 + 1) (by omega)]
    exact ⟨e1, e2⟩
end Go.Proofs.YtajdohcgjgknmaaGreatDoor

namespace Go.Proofs.YtajdohcgjgknmaaGreatDoor
open Go.RowKit
theorem rValidCell_c (x y : Int) (w : World) :
    Calls Tryz.prog 137 #[.agg #[.int .i64 x, .int .i64 y]] w fun e w' => e = .returned (.bool (Globe.vcB x y)) ∧ Ext w w' := by
  go_enter Tryz.func137, Tryz.ntmps137
  go_wp2
  all_goals (go_ret; refine ⟨ret_bool ?_, by (repeat' (first | (with_reducible assumption) | (with_reducible exact Ext.refl _) | (with_reducible refine Ext.alloc ?_ _) | (with_reducible refine Ext.drew ?_) | (with_reducible refine Ext.drewN ?_ _) | (with_reducible refine Ext.setCell ?_ ?_ _) | (with_reducible refine Ext.trans ?_ (by assumption)) | go_size))⟩; first | (rw [Globe.vcB_f.2 (by omega)]; done) | (rw [Bool.eq_iff_iff, Globe.vcB_t]; first | (simp; omega) | (simp; done)))
end Go.Proofs.YtajdohcgjgknmaaGreatDoor

namespace Go.Proofs.YtajdohcgjgknmaaGreatDoor
open Go.RowKit
def intVals (l : List Int) : List Value := l.map (Value.int .i64)
theorem intVals_at {l : List Int} {i : Nat} (h : i < l.length) : (intVals l).toArray[i]? = some (.int .i64 (Globe.nth l i)) := by
  simp [intVals, Globe.nth, h]
theorem eqItems_ints {P : Program} (d : Nat) (e : TypeId) (hp : P.plainKey e = true) (hc : P.cellsOf e = 1) (hu : P.underlying e = some (.int .i64)) (xs ys : List Int) (w : World) :
    ∀ is : List Nat, (∀ i ∈ is, i < xs.length ∧ i < ys.length) → (Op.eqItems (d + 1) e (P.cellsOf e) (intVals xs).toArray (intVals ys).toArray is).run P w = .ok (is.all fun i => Globe.nth xs i == Globe.nth ys i) w
  | [], _ => by simp [Op.eqItems]
  | i :: is, h => by
    obtain ⟨h1, h2⟩ := h i (by simp)
    have ih := eqItems_ints d e hp hc hu xs ys w is (fun j hj => h j (by simp [hj]))
    have p1 : (part e (intVals xs).toArray (i * P.cellsOf e)).run P w = .ok (.int .i64 (Globe.nth xs i)) w := run_part_plain w hp (by rw [hc, Nat.mul_one]; exact intVals_at h1)
    have p2 : (part e (intVals ys).toArray (i * P.cellsOf e)).run P w = .ok (.int .i64 (Globe.nth ys i)) w := run_part_plain w hp (by rw [hc, Nat.mul_one]; exact intVals_at h2)
    simp only [Op.eqItems, Sem.run_bind, p1, p2, Result.andThen_ok, run_equalIn_int w d e .i64 .i64 _ _ hu, List.all_cons]
    cases hq : (Globe.nth xs i == Globe.nth ys i)
    · simp
    · simpa using ih
theorem equalIn_rows {P : Program} (t e : TypeId) (hu : P.underlying t = some (.array 24 e)) (hs : (P.info? e).isSome = true) (hp : P.plainKey e = true) (hc : P.cellsOf e = 1) (hue : P.underlying e = some (.int .i64)) (L : List Int) (hL : L.length = 24) (w : World) :
    (Op.equalIn 10000 t (.agg (intVals L).toArray) (.agg (intVals Globe.zeroL).toArray)).run P w = .ok (decide (L = Globe.zeroL)) w := by
  obtain ⟨i, hi⟩ := Option.isSome_iff_exists.1 hs
  rw [run_equalIn_array w 9999 _ _ hu hi, eqItems_ints 9998 e hp hc hue L Globe.zeroL w (List.range 24) (fun j hj => by have := List.mem_range.1 hj; simp [Globe.zeroL]; omega)]
  congr 1
  rw [Bool.eq_iff_iff, decide_eq_true_eq, List.all_eq_true]
  constructor
  · intro h
    exact Globe.ext_nth (by rw [hL]; rfl) fun j hj => by simpa using h j (List.mem_range.2 (by omega))
  · rintro rfl j _
    simp
theorem wpList_load_g {P : Program} {ops : Array Oper} {rest : List Oper} {op : Oper} {a : Act} {w : World} {Q : Exit → Act → World → Prop} (hw : Region.wanted op (yielded ops a.tmps) = true) (ty : TypeId) (x : Operand) (ho : op.op = .load ty x)
    (b o : Nat) (hx : a.eval x = .pointer (some ⟨b, o, none⟩)) (cs : List Value) (d : TypeDesc) (hc : w.rangeAt b o cs)
    (hu : P.underlying ty = some d) (hd : d.isRow = true) (hi : (P.info? ty).map (·.size) = some cs.length)
    (h : wpList P ops Q rest (a.put op.dst (.agg cs.toArray)) w) : wpList P ops Q (op :: rest) a w :=
  wpList_step fun _ hK => by
    rw [if_pos hw]
    exact wp_load_mid ty x ho b o hx cs d hc hu hd hi (hK _ _ h)
theorem RowsAt.range {w : World} {B : Nat} {L : List Int} (h : RowsAt w B L) : w.rangeAt B 0 (intVals L) := by
  intro j v hv
  have hj : j < L.length := by
    rw [← List.length_map (f := Value.int .i64)]
    exact (List.getElem?_eq_some_iff.1 hv).1
  have : v = .int .i64 (Globe.nth L j) := by
    have e := intVals_at hj
    rw [List.getElem?_toArray] at e
    rw [e] at hv; cases hv; rfl
  rw [this, Nat.zero_add]
  exact h.cell (by rw [← h.len]; exact hj)
end Go.Proofs.YtajdohcgjgknmaaGreatDoor

namespace Go.Proofs.YtajdohcgjgknmaaGreatDoor
open Go.RowKit
def p2 (n : Nat) : Nat := 2 ^ n
theorem p2_shl {n : Nat} (h : n ≤ 48) : IntKind.i64.wrap (2 ^ n) = (p2 n : Int) ∧ 1 ≤ p2 n ∧ p2 n ≤ 281474976710656 := by
  have h1 : 2 ^ n ≤ 2 ^ 48 := Nat.pow_le_pow_right (by decide) h
  have h0 := Nat.two_pow_pos n
  have e : ((2 : Int) ^ n) = ((2 ^ n : Nat) : Int) := by simp
  unfold p2
  refine ⟨?_, h0, h1⟩
  rw [e, IntKind.wrap_i64]
  omega
theorem grown_set {w w' : World} {p : Addr} {v : Value} {B : Nat} (hp : p.block = B) (h : Below (w.setCell p v).heap.size (w.setCell p v) w') : w.grownBy w' (some B) :=
  ⟨h.os, h.tape, h.output, Nat.le_trans (by rw [World.size_setCell]; exact Nat.le_refl _) h.size, fun k hk hne => (h.block k (by rw [World.size_setCell]; exact hk)).trans (Below.heap_setCell _ _ _ k (fun e => hne (by rw [e, hp])))⟩
theorem grown_refl (w : World) (B : Nat) : w.grownBy w (some B) := ⟨rfl, rfl, rfl, Nat.le_refl _, fun _ _ _ => rfl⟩
theorem grown_trans {a b c : World} {r : Option Nat} (h : a.grownBy b r) (k : b.grownBy c r) : a.grownBy c r :=
  ⟨k.os.trans h.os, k.tape.trans h.tape, k.output.trans h.output, Nat.le_trans h.size k.size, fun i hi hne => (k.block i (Nat.lt_of_lt_of_le hi h.size) hne).trans (h.block i hi hne)⟩
theorem Ext.grown {w0 w w' : World} {B : Nat} (h : Ext w0 w) (hg : w.grownBy w' (some B)) (hB : w0.heap.size ≤ B) : Ext w0 w' := Below.grown h hg h.size (fun k e => by cases e; exact hB)
theorem grown_cell {w w' : World} {B : Nat} (hg : w.grownBy w' (some B)) {a : Addr} {v : Value} (h : w.cell? a = some v) (hne : a.block ≠ B) : w'.cell? a = some v := hg.cell h (fun e => hne (by simpa using e))
theorem grown_free {w w' : World} {B : Nat} (hg : w.grownBy w' (some B)) {a : Addr} {v : Value} (h : w.cell? a = some v) (hf : w.frozen? a = false) (hne : a.block ≠ B) : w'.frozen? a = false :=
  (World.frozen?_of_block (hg.block a.block (World.block_lt_of_cell? w a h) (fun e => hne (by simpa using e)))).trans hf
theorem BoxAt.grown {w w' : World} {B : Nat} (hg : w.grownBy w' (some B)) {b o : Nat} {v : Value} (h : BoxAt w b o v) (hne : b ≠ B) : BoxAt w' b o v := ⟨grown_cell hg h.1 hne, grown_free hg h.1 h.2 hne⟩
def Mk (w : World) (O B : Nat) (wr : World) : Prop :=
  (∃ L, Globe.validL L = true ∧ RowsAt wr B L) ∧ wr.cell? ⟨O, 0, none⟩ = some (.slice (some ⟨B, 0, none⟩) 24 24) ∧ BoxAt wr w.heap.size 0 (.slice none 0 0) ∧ Ext w wr
theorem Mk.ext {w w1 w2 : World} {O B : Nat} (h : Mk w O B w1) (hE : Ext w1 w2) : Mk w O B w2 :=
  ⟨by obtain ⟨L, hv, hr⟩ := h.1; exact ⟨L, hv, hr.ext hE⟩, hE.cell h.2.1, BoxAt.ext hE h.2.2.1, h.2.2.2.trans hE⟩
end Go.Proofs.YtajdohcgjgknmaaGreatDoor

namespace Go.Proofs.YtajdohcgjgknmaaGreatDoor
open Go.RowKit
theorem Ext.grownNone {w w' : World} (h : Ext w w') : w.grownBy w' none := ⟨h.os, h.tape, h.output, Below.size h, fun k hk _ => Below.block h k hk⟩
theorem own_ext {w w' : World} {base : Nat} {e : TypeId} {size : Nat} {v : Value} {n : Nat} {xs : List Value} (h : w.ownsRow base e size v n xs) (hE : Ext w w') : w'.ownsRow base e size v n xs :=
  h.kept hE.grownNone (by cases v.ownBlock <;> simp)
theorem Ext.own {w0 w w' : World} {e : TypeId} {size : Nat} {v : Value} {n : Nat} {xs : List Value} (h : Ext w0 w) (hr : w.ownsRow w0.heap.size e size v n xs) (hg : w.grownBy w' v.ownBlock) : Ext w0 w' :=
  Below.grown h hg h.size (fun k e => (hr.lt k e).1)
theorem VA.grownR {w w' : World} {r : Option Nat} {b o : Nat} {l : List Int} (h : VA w b o l) (hg : w.grownBy w' r) (hne : r ≠ some b) : VA w' b o l := ⟨fun i hi => hg.cell (h.1 i hi) (fun e => hne e.symm), h.2⟩
theorem BoxAt.grownR {w w' : World} {r : Option Nat} {b o : Nat} {v : Value} (h : BoxAt w b o v) (hg : w.grownBy w' r) (hne : r ≠ some b) : BoxAt w' b o v :=
  ⟨hg.cell h.1 (fun e => hne e.symm), (World.frozen?_of_block (hg.block b (World.block_lt_of_cell? w _ h.1) (fun e => hne e.symm))).trans h.2⟩
theorem Ext.own' {w0 w w' : World} {base : Nat} {e : TypeId} {size : Nat} {v : Value} {n : Nat} {xs : List Value} (h : Ext w0 w) (hr : w.ownsRow base e size v n xs) (hb : w0.heap.size ≤ base) (hg : w.grownBy w' v.ownBlock) : Ext w0 w' :=
  Below.grown h hg h.size (fun k e => Nat.le_trans hb (hr.lt k e).1)
end Go.Proofs.YtajdohcgjgknmaaGreatDoor

namespace Go.Proofs.YtajdohcgjgknmaaGreatDoor
open Go.RowKit
theorem has_nil {l : List Int} {n : Nat} (hn : l.length = n) (h24 : n ≠ 24) : Globe.validL l = false := by
  rw [Bool.eq_false_iff]; intro h; exact h24 (by rw [← hn]; exact Globe.len_of_valid h)
theorem bad_row {l : List Int} {k : Nat} (hk : k < l.length) (h : Globe.rowOk (Globe.nth l k) = false) : Globe.validL l = false := by
  rw [Bool.eq_false_iff]; intro hv
  have := (Globe.validL_t.1 hv).2 _ (Globe.nth_mem hk)
  rw [← Globe.rowOk_t, h] at this
  cases this
theorem all_rows {l : List Int} (hl : l.length = 24) (h : ∀ j, j < 24 → Globe.rowOk (Globe.nth l j) = true) : Globe.validL l = true :=
  Globe.validL_t.2 ⟨hl, fun r hr => by
    obtain ⟨i, hi, rfl⟩ := Globe.mem_nth hr
    exact Globe.rowOk_t.1 (h i (by omega))⟩
set_option maxHeartbeats 2000000 in
theorem rValid_c {w0 : World} {a : Option Addr} {l : List Int} {n : Nat} (c : Nat) {v : Bool} (w : World) (h : AA w0 a l n v) (hE : Ext w0 w) :
    Calls Tryz.prog 74 #[.agg #[.slice a n c]] w fun e w' => e = .returned (.bool v) ∧ Ext w w' := by
  obtain ⟨h1, hn, hl, hv⟩ := h.ext hE
  clear hE h
  rcases Nat.eq_zero_or_pos n with h0 | h0
  · subst h0
    obtain rfl := List.length_eq_zero_iff.1 hn
    obtain rfl : v = false := by rw [← hv]; exact has_nil rfl (by simp)
    clear h1 hn hv hl
    go_enter Tryz.func74, Tryz.ntmps74
    go_wp2_with fail
    refine wp_loop_rounds 1 ?_
    rw [rounds_succ]
    go_wp2_with fail
    go_ret
    exact ⟨rfl, by (repeat' (first | (with_reducible assumption) | (with_reducible exact Ext.refl _) | (with_reducible refine Ext.alloc ?_ _) | (with_reducible refine Ext.drew ?_) | (with_reducible refine Ext.drewN ?_ _) | (with_reducible refine Ext.setCell ?_ ?_ _) | (with_reducible refine Ext.trans ?_ (by assumption)) | go_size))⟩
  · obtain ⟨b, off, rfl, hr⟩ : ∃ b off, a = some ⟨b, off, none⟩ ∧ ∀ i, i < n → w.cell? ⟨b, off + i, none⟩ = some (.int .i64 (Globe.nth l i)) := by
      rcases h1 with rfl | ⟨b, off, rfl, h⟩
      · simp at hn; omega
      · exact ⟨b, off, rfl, fun i hi => h i (by omega)⟩
    have HR := Lib.hid hr; have Hn := Lib.hid hn; have Hv := Lib.hid hv
    clear h1 hr hn hv
    go_enter Tryz.func74, Tryz.ntmps74
    go_wp2_with fail
    refine wp_name (fun V => Ext w V ∧ V.cell? ⟨w.heap.size, 0, none⟩ = some (.slice (some ⟨b, off, none⟩) n c)) ⟨by (repeat' (first | (with_reducible assumption) | (with_reducible exact Ext.refl _) | (with_reducible refine Ext.alloc ?_ _) | (with_reducible refine Ext.drew ?_) | (with_reducible refine Ext.drewN ?_ _) | (with_reducible refine Ext.setCell ?_ ?_ _) | (with_reducible refine Ext.trans ?_ (by assumption)) | go_size)), by simp [go_sem]⟩ ?_
    rintro V ⟨hV, k1⟩
    go_loopw [3] (fun p wr => ∃ k : Nat, k ≤ n ∧ k ≤ 25 ∧ p = .int .i64 k ∧ Hid (∀ j, j < k → Globe.rowOk (Globe.nth l j) = true) ∧ Ext V wr) (fun p _ => 25 - (intOf p).toNat)
    case atStart => exact ⟨0, by omega, by omega, rfl, fun j hj => by omega, Ext.refl _⟩
    case round =>
      obtain ⟨k, hk, hk25, rfl, Hp, hE⟩ := hrel
      replace k1 := hE.cell k1
      by_cases hlt : k < n
      · by_cases hl5 : k < 25
        · have d1 : wr.cell? ⟨b, off + k, none⟩ = some (.int .i64 (Globe.nth l k)) := hE.cell (hV.cell (HR.out k hlt))
          have kk0 : (0 : Int) ≤ (k : Int) := by omega
          have kk1 : (k : Int) < (n : Int) := by omega
          cases hq : Globe.rowOk (Globe.nth l k)
          · have hf : v = false := by rw [← Hv.out]; exact bad_row (by rw [Hn.out]; exact hlt) hq
            have Hf := Lib.hid hf; clear hf
            have hq' := Globe.rowOk_f.1 hq
            clear hq
            generalize Globe.nth l k = x at *
            by_cases hx : x < 0
            · clear hq'
              go_wp2_with fail
              go_ret
              exact ⟨ret_bool Hf.out.symm, by (repeat' (first | (with_reducible assumption) | (with_reducible exact Ext.refl _) | (with_reducible refine Ext.alloc ?_ _) | (with_reducible refine Ext.drew ?_) | (with_reducible refine Ext.drewN ?_ _) | (with_reducible refine Ext.setCell ?_ ?_ _) | (with_reducible refine Ext.trans ?_ (by assumption)) | go_size))⟩
            · have hx2 : 281474976710656 ≤ x := by omega
              clear hq'
              go_wp2_with fail
              go_ret
              exact ⟨ret_bool Hf.out.symm, by (repeat' (first | (with_reducible assumption) | (with_reducible exact Ext.refl _) | (with_reducible refine Ext.alloc ?_ _) | (with_reducible refine Ext.drew ?_) | (with_reducible refine Ext.drewN ?_ _) | (with_reducible refine Ext.setCell ?_ ?_ _) | (with_reducible refine Ext.trans ?_ (by assumption)) | go_size))⟩
          · have hq' := Globe.rowOk_t.1 hq
            have Hq := Lib.hid hq; clear hq
            obtain ⟨q1, q2⟩ := hq'
            have q3 : ¬ 281474976710656 ≤ Globe.nth l k := by omega
            have q4 : ¬ Globe.nth l k < 0 := by omega
            go_wp2_with fail
            go_roundw
            case rel => exact ⟨k + 1, by omega, by omega, by go_num, fun j hj => by
              rcases Nat.lt_or_ge j k with h | h
              · exact Hp.out j h
              · rw [show j = k by omega]; exact Hq.out, by (repeat' (first | (with_reducible assumption) | (with_reducible exact Ext.refl _) | (with_reducible refine Ext.alloc ?_ _) | (with_reducible refine Ext.drew ?_) | (with_reducible refine Ext.drewN ?_ _) | (with_reducible refine Ext.setCell ?_ ?_ _) | (with_reducible refine Ext.trans ?_ (by assumption)) | go_size))⟩
            case measure => simp [intOf]; omega
        · obtain rfl : k = 25 := by omega
          have hf : v = false := by rw [← Hv.out]; exact has_nil Hn.out (by omega)
          subst hf
          have hn24 : ((n : Int) == 24) = false := by simp; omega
          have hn24' : (n == 24) = false := by simp; omega
          have hn24'' : ¬ n = 24 := by omega
          go_wp2_with fail
          go_ret
          exact ⟨rfl, by (repeat' (first | (with_reducible assumption) | (with_reducible exact Ext.refl _) | (with_reducible refine Ext.alloc ?_ _) | (with_reducible refine Ext.drew ?_) | (with_reducible refine Ext.drewN ?_ _) | (with_reducible refine Ext.setCell ?_ ?_ _) | (with_reducible refine Ext.trans ?_ (by assumption)) | go_size))⟩
      · obtain rfl : k = n := by omega
        by_cases h24 : k = 24
        · subst h24
          have ht : v = true := by rw [← Hv.out]; exact all_rows Hn.out Hp.out
          subst ht
          go_wp2_with fail
          go_ret
          exact ⟨rfl, by (repeat' (first | (with_reducible assumption) | (with_reducible exact Ext.refl _) | (with_reducible refine Ext.alloc ?_ _) | (with_reducible refine Ext.drew ?_) | (with_reducible refine Ext.drewN ?_ _) | (with_reducible refine Ext.setCell ?_ ?_ _) | (with_reducible refine Ext.trans ?_ (by assumption)) | go_size))⟩
        · have hf : v = false := by rw [← Hv.out]; exact has_nil Hn.out h24
          subst hf
          have hn24 : ((k : Int) == 24) = false := by simp; omega
          have hn24' : (k == 24) = false := by simp; omega
          by_cases h25 : k < 25
          · go_wp2_with fail
            go_ret
            exact ⟨rfl, by (repeat' (first | (with_reducible assumption) | (with_reducible exact Ext.refl _) | (with_reducible refine Ext.alloc ?_ _) | (with_reducible refine Ext.drew ?_) | (with_reducible refine Ext.drewN ?_ _) | (with_reducible refine Ext.setCell ?_ ?_ _) | (with_reducible refine Ext.trans ?_ (by assumption)) | go_size))⟩
          · go_wp2_with fail
            go_ret
            exact ⟨rfl, by (repeat' (first | (with_reducible assumption) | (with_reducible exact Ext.refl _) | (with_reducible refine Ext.alloc ?_ _) | (with_reducible refine Ext.drew ?_) | (with_reducible refine Ext.drewN ?_ _) | (with_reducible refine Ext.setCell ?_ ?_ _) | (with_reducible refine Ext.trans ?_ (by assumption)) | go_size))⟩
theorem rhas_v {w0 : World} {b o : Nat} (c : Nat) {l : List Int} {x y : Nat} {r : Bool} (w : World) (h : VA w0 b o l) (hE : Ext w0 w) (hx : x < 48) (hy : y < 24) (hr : Globe.hasL l x y = r) :
    Calls Tryz.prog 119 #[.agg #[.slice (some ⟨b, o, none⟩) 24 c], .int .i64 (x : Int), .int .i64 (y : Int)] w fun e w' => e = .returned (.bool r) ∧ Ext w w' := by
  replace h := h.ext hE
  clear hE
  have d := h.cell hy
  have hbl := h.lt
  have hm := bit_mod2 (Globe.rowN l y) x
  have hge : (0 : Int) ≤ ((Globe.rowN l y : Nat) : Int) / 2 ^ x := by rw [div_pow_cast]; exact Int.natCast_nonneg _
  have ht : (((Globe.rowN l y : Nat) : Int) / 2 ^ x).tmod 2 = ((Globe.rowN l y : Nat) : Int) / 2 ^ x % 2 := Int.tmod_eq_emod_of_nonneg hge
  have hh : Globe.hasL l x y = (Globe.rowN l y).testBit x := rfl
  rw [hm] at ht
  have y0 : (0 : Int) ≤ (y : Int) := by omega
  have y1 : (y : Int) < 24 := by omega
  have x0 : (0 : Int) ≤ (x : Int) := by omega
  have x1 : (x : Int) < 48 := by omega
  rw [hr] at hh
  rw [← hh] at hm ht
  clear hh hr h
  generalize Globe.rowN l y = R at *
  cases r
  · rw [if_neg (by simp)] at hm ht
    go_enter Tryz.func119, Tryz.ntmps119
    go_wp2
    go_ret
    exact ⟨rfl, by (repeat' (first | (with_reducible assumption) | (with_reducible exact Ext.refl _) | (with_reducible refine Ext.alloc ?_ _) | (with_reducible refine Ext.drew ?_) | (with_reducible refine Ext.drewN ?_ _) | (with_reducible refine Ext.setCell ?_ ?_ _) | (with_reducible refine Ext.trans ?_ (by assumption)) | go_size))⟩
  · rw [if_pos rfl] at hm ht
    go_enter Tryz.func119, Tryz.ntmps119
    go_wp2
    go_ret
    exact ⟨rfl, by (repeat' (first | (with_reducible assumption) | (with_reducible exact Ext.refl _) | (with_reducible refine Ext.alloc ?_ _) | (with_reducible refine Ext.drew ?_) | (with_reducible refine Ext.drewN ?_ _) | (with_reducible refine Ext.setCell ?_ ?_ _) | (with_reducible refine Ext.trans ?_ (by assumption)) | go_size))⟩
def RetCells (w : World) (cs : List (Nat × Nat)) (e : Ending) (w' : World) : Prop := ∃ (a : Option Addr) (k : Nat), e = .returned (.slice a cs.length k) ∧ CellsAt w' a cs.length cs ∧ (∀ ad, a = some ad → w.heap.size ≤ ad.block) ∧ Ext w w'
def rowTo (l : List Int) (y x : Nat) : List (Nat × Nat) := ((List.range x).filter fun i => Globe.hasL l i y).map fun i => (i, y)
theorem rowTo_zero (l : List Int) (y : Nat) : rowTo l y 0 = [] := by simp [rowTo]
theorem rowTo_yes {l : List Int} {y x : Nat} (h : Globe.hasL l x y = true) : rowTo l y (x + 1) = rowTo l y x ++ [(x, y)] := by
  unfold rowTo
  rw [List.range_succ, List.filter_append, List.map_append]
  simp [h]
theorem rowTo_no {l : List Int} {y x : Nat} (h : Globe.hasL l x y = false) : rowTo l y (x + 1) = rowTo l y x := by
  unfold rowTo
  rw [List.range_succ, List.filter_append, List.map_append]
  simp [h]
theorem rowTo_all (l : List Int) (y : Nat) : rowTo l y 48 = Globe.rowCells l y := rfl
theorem rowTo_len (l : List Int) (y x : Nat) : (rowTo l y x).length ≤ x := by
  unfold rowTo
  rw [List.length_map]
  exact Nat.le_trans (List.length_filter_le _ _) (by simp)
set_option maxHeartbeats 2000000 in
theorem rCells_v {w0 : World} {b o : Nat} (c : Nat) {l : List Int} (w : World) (h : VA w0 b o l) (hE : Ext w0 w) :
    Calls Tryz.prog 90 #[.agg #[.slice (some ⟨b, o, none⟩) 24 c]] w (RetCells w (Globe.cellsTo l 24)) := by
  replace h := h.ext hE
  clear hE
  obtain ⟨i0, hi, hz0, hz1, hz2⟩ := info_parts (P := Tryz.prog) (e := 65) (z := .agg #[.int .i64 0, .int .i64 0]) (size := 2) (bytes := 16) (by kernel_rfl)
  go_enter Tryz.func90, Tryz.ntmps90
  go_wp2_with fail
  refine (rValid_c c _ h.aa (by (repeat' (first | (with_reducible assumption) | (with_reducible exact Ext.refl _) | (with_reducible refine Ext.alloc ?_ _) | (with_reducible refine Ext.drew ?_) | (with_reducible refine Ext.drewN ?_ _) | (with_reducible refine Ext.setCell ?_ ?_ _) | (with_reducible refine Ext.trans ?_ (by assumption)) | go_size)))).mono ?_
  rintro e w1 ⟨rfl, hb⟩
  have hc := hb.cellE; have hf := hb.frozenE; have hz := hb.size; have ha := alloc_keeps w1; (try simp only [World.size_alloc] at hc hf hz); (try simp only [World.size_setCell] at hc hf hz); (try simp only [World.size_drew] at hc hf hz)
  go_wp2_with fail
  refine wp_name (fun V => Ext w V ∧ V.cell? ⟨w.heap.size, 0, none⟩ = some (.slice (some ⟨b, o, none⟩) 24 c)) ⟨by (repeat' (first | (with_reducible assumption) | (with_reducible exact Ext.refl _) | (with_reducible refine Ext.alloc ?_ _) | (with_reducible refine Ext.drew ?_) | (with_reducible refine Ext.drewN ?_ _) | (with_reducible refine Ext.setCell ?_ ?_ _) | (with_reducible refine Ext.trans ?_ (by assumption)) | go_size)), hb.cell (by simp [go_sem])⟩ ?_
  clear hb hc hf hz ha
  rintro V ⟨hE, k1⟩
  replace h := h.ext hE
  have lk := World.block_lt_of_cell? V _ k1
  have H := Lib.hid h; clear h
  have Hi := Lib.hid (And.intro hi (And.intro hz0 (And.intro hz1 hz2))); clear hi hz0 hz1 hz2
  go_loopw [3, 4] (fun r p wr => ∃ y : Nat, y ≤ 24 ∧ p = .int .i64 y ∧ wr.ownsRow V.heap.size 65 2 r (Globe.cellsTo l y).length (cellVals (Globe.cellsTo l y)) ∧ Ext V wr) (fun _ p _ => 24 - (intOf p).toNat)
  case atStart => exact ⟨0, by omega, rfl, World.ownsRow_nil _ _ _ _, Ext.refl _⟩
  case round =>
    obtain ⟨y, hy, rfl, hrow, e6⟩ := hrel
    have Hrow := Lib.hid hrow; clear hrow
    by_cases hlt : y < 24
    · have y1 : (y : Int) < 24 := by omega
      have y0 : (0 : Int) ≤ (y : Int) := by omega
      go_wp2_with fail
      go_loopw [3, 5] (fun r p wr => ∃ x : Nat, x ≤ 48 ∧ p = .int .i64 x ∧ wr.ownsRow V.heap.size 65 2 r (Globe.cellsTo l y ++ rowTo l y x).length (cellVals (Globe.cellsTo l y ++ rowTo l y x)) ∧ Ext V wr) (fun _ p _ => 48 - (intOf p).toNat)
      case atStart => exact ⟨0, by omega, rfl, by rw [rowTo_zero, List.append_nil]; exact Hrow.out, e6⟩
      case round =>
        clear e6
        obtain ⟨x, hx, rfl, hrow, e6⟩ := hrel
        have Hrow := Lib.hid hrow; clear hrow
        by_cases hlx : x < 48
        · have x1 : (x : Int) < 48 := by omega
          have x0 : (0 : Int) ≤ (x : Int) := by omega
          have k2 := e6.cell k1
          cases hh : Globe.hasL l x y
          · have HH := Lib.hid hh; clear hh
            go_wp2_with fail
            refine (rhas_v c _ H.out e6 hlx hlt HH.out).mono ?_
            rintro e w1 ⟨rfl, hb⟩
            go_wp2_with fail
            go_roundw
            case rel => exact ⟨x + 1, by omega, by go_num, by rw [rowTo_no HH.out]; exact own_ext Hrow.out hb, e6.trans hb⟩
            case measure => simp [intOf]; omega
          · have HH := Lib.hid hh; clear hh
            go_wp2_with fail
            refine (rhas_v c _ H.out e6 hlx hlt HH.out).mono ?_
            rintro e w1 ⟨rfl, hb⟩
            have hlen : (Globe.cellsTo l y ++ rowTo l y x).length ≤ 1152 := by
              have e1 := Globe.cellsTo_len l y
              have e2 := rowTo_len l y x
              rw [List.length_append]; omega
            have hs6 := (e6.trans hb).size
            go_wp2_with (at_builtin; refine wpList_append_own _ rfl _ _ 60 rfl V.heap.size 65 i0 (.agg #[.int .i64 0, .int .i64 0]) 2 16 Tryz.underlying60 Hi.out.1 Hi.out.2.1 Hi.out.2.2.1 Hi.out.2.2.2 rfl (by decide) _ _ _ rfl ((own_ext Hrow.out hb).alloc _) ⟨w1.heap.size, 0, none⟩ 1 1 [.int .i64 (x : Int), .int .i64 (y : Int)] rfl rfl (cell_two_new _ _ _ _) (by simp [Value.oneCell']) (by unfold maxLen; omega) (by omega) (by simp; omega) ?_; intro v' w3 hown' hg3 hnil3; go_frame)
            have hE3 := Ext.own (Ext.alloc (e6.trans hb) _) ((own_ext Hrow.out hb).alloc _) hg3
            go_roundw
            case rel =>
              refine ⟨x + 1, by omega, by go_num, ?_, hE3⟩
              rw [rowTo_yes HH.out, ← List.append_assoc, cellVals_snoc, List.length_append]
              exact hown'
            case measure => simp [intOf]; omega
        · obtain rfl : x = 48 := by omega
          go_wp2_with fail
          go_roundw
          case rel => exact ⟨y + 1, by omega, by go_num, by rw [Globe.cellsTo_succ, ← rowTo_all]; exact Hrow.out, e6⟩
          case measure => simp [intOf]; omega
    · obtain rfl : y = 24 := by omega
      go_wp2_with fail
      go_ret
      obtain ⟨a, k, rfl, hc2⟩ := CellsAt.own rfl Hrow.out
      exact ⟨a, k, rfl, hc2, fun ad e => by subst e; exact Nat.le_trans hE.size (Hrow.out.lt ad.block rfl).1, by (repeat' (first | (with_reducible assumption) | (with_reducible exact Ext.refl _) | (with_reducible refine Ext.alloc ?_ _) | (with_reducible refine Ext.drew ?_) | (with_reducible refine Ext.drewN ?_ _) | (with_reducible refine Ext.setCell ?_ ?_ _) | (with_reducible refine Ext.trans ?_ (by assumption)) | go_size))⟩
theorem rCells_c {w0 : World} {a : Option Addr} {l : List Int} {n : Nat} (c : Nat) {v : Bool} (w : World) (h : AA w0 a l n v) (hE : Ext w0 w) :
    Calls Tryz.prog 90 #[.agg #[.slice a n c]] w (RetCells w (Globe.cellsL l)) := by
  replace h := h.ext hE
  unfold Globe.cellsL
  rw [h.2.2.2]
  cases v
  · have H := Lib.hid h; clear h hE
    go_enter Tryz.func90, Tryz.ntmps90
    go_wp2_with fail
    refine (rValid_c c _ H.out (by (repeat' (first | (with_reducible assumption) | (with_reducible exact Ext.refl _) | (with_reducible refine Ext.alloc ?_ _) | (with_reducible refine Ext.drew ?_) | (with_reducible refine Ext.drewN ?_ _) | (with_reducible refine Ext.setCell ?_ ?_ _) | (with_reducible refine Ext.trans ?_ (by assumption)) | go_size)))).mono ?_
    rintro e w1 ⟨rfl, hb⟩
    go_wp2_with fail
    go_ret
    exact ⟨none, 0, rfl, CellsAt.nil _ _, fun ad e => (by cases e), by (repeat' (first | (with_reducible assumption) | (with_reducible exact Ext.refl _) | (with_reducible refine Ext.alloc ?_ _) | (with_reducible refine Ext.drew ?_) | (with_reducible refine Ext.drewN ?_ _) | (with_reducible refine Ext.setCell ?_ ?_ _) | (with_reducible refine Ext.trans ?_ (by assumption)) | go_size))⟩
  · obtain ⟨b, o, rfl, rfl, r⟩ := h.va
    exact rCells_v c w r (Ext.refl _)
theorem rCount_c {w0 : World} {a : Option Addr} {l : List Int} {n : Nat} (c : Nat) {v : Bool} (w : World) (h : AA w0 a l n v) (hE : Ext w0 w) :
    Calls Tryz.prog 82 #[.agg #[.slice a n c]] w fun e w' => e = .returned (.int .i64 (Globe.countL l : Nat)) ∧ Ext w w' := by
  have H := Lib.hid (h.ext hE); clear h hE
  go_enter Tryz.func82, Tryz.ntmps82
  go_wp2_with fail
  refine (rCells_c c _ H.out (by (repeat' (first | (with_reducible assumption) | (with_reducible exact Ext.refl _) | (with_reducible refine Ext.alloc ?_ _) | (with_reducible refine Ext.drew ?_) | (with_reducible refine Ext.drewN ?_ _) | (with_reducible refine Ext.setCell ?_ ?_ _) | (with_reducible refine Ext.trans ?_ (by assumption)) | go_size)))).mono ?_
  rintro e w1 ⟨a1, k, rfl, -, -, hb⟩
  go_wp2_with fail
  go_ret
  exact ⟨rfl, by (repeat' (first | (with_reducible assumption) | (with_reducible exact Ext.refl _) | (with_reducible refine Ext.alloc ?_ _) | (with_reducible refine Ext.drew ?_) | (with_reducible refine Ext.drewN ?_ _) | (with_reducible refine Ext.setCell ?_ ?_ _) | (with_reducible refine Ext.trans ?_ (by assumption)) | go_size))⟩
end Go.Proofs.YtajdohcgjgknmaaGreatDoor

namespace Go.Proofs.YtajdohcgjgknmaaGreatDoor
open Go.RowKit
theorem isIn_c (n lo hi : Int) (w : World) : Calls Tryz.prog 101 #[.int .i64 n, .int .i64 lo, .int .i64 hi] w fun e w' => e = .returned (.bool (Globe.inB n lo hi)) ∧ w = w' := by
  go_enter Tryz.func101, Tryz.ntmps101
  go_wp2
  all_goals (go_ret; refine ⟨ret_bool ?_, rfl⟩; first | (rw [Globe.inB_f.2 (by omega)]; done) | (rw [Bool.eq_iff_iff, Globe.inB_t]; first | (simp; omega) | (simp; done)))
theorem ValidCell_c (x y : Int) (w : World) :
    Calls Tryz.prog 72 #[.agg #[.int .i64 x, .int .i64 y]] w fun e w' => e = .returned (.bool (Globe.vcB x y)) ∧ Ext w w' := by
  rw [Globe.vcB_in]
  go_enter Tryz.func72, Tryz.ntmps72
  go_wp2_with (go_at_call 101; refine (isIn_c _ _ _ _).mono ?_; rintro e w' ⟨rfl, rfl⟩)
  all_goals (go_ret; refine ⟨ret_bool ?_, by (repeat' (first | (with_reducible assumption) | (with_reducible exact Ext.refl _) | (with_reducible refine Ext.alloc ?_ _) | (with_reducible refine Ext.drew ?_) | (with_reducible refine Ext.drewN ?_ _) | (with_reducible refine Ext.setCell ?_ ?_ _) | (with_reducible refine Ext.trans ?_ (by assumption)) | go_size))⟩; first | rfl | (simp [*]; done))
end Go.Proofs.YtajdohcgjgknmaaGreatDoor

namespace Go.Proofs.YtajdohcgjgknmaaGreatDoor
open Go.RowKit
theorem Valid1_c (r : Int) (w : World) : Calls Tryz.prog 100 #[.int .i64 r] w fun e w' => e = .returned (.bool (!Globe.rowOk r)) ∧ w = w' := by
  rw [show Globe.rowOk r = Globe.inB r 0 281474976710655 from rfl]
  go_enter Tryz.func100, Tryz.ntmps100
  go_wp2_with (go_at_call 101; refine (isIn_c _ _ _ _).mono ?_; rintro e w' ⟨rfl, rfl⟩)
  go_ret
  exact ⟨rfl, rfl⟩
set_option maxHeartbeats 400000 in
theorem IndexFunc_c (a : Option Addr) (l : List Int) (c : Nat) (w : World) (h : IntsAt w a l) (hl : l.length ≤ 140737488355328) :
    Calls Tryz.prog 131 #[.slice a l.length c, .func (.func 100) #[] #[]] w fun e w' => e = .returned (.int .i64 (Globe.badAt l)) ∧ w = w' := by
  rcases h with rfl | ⟨b, off, rfl, hc⟩
  · go_enter Tryz.func131, Tryz.ntmps131
    go_wp2_with fail
    refine wp_loop_rounds 1 ?_
    rw [rounds_succ]
    go_wp2_with fail
    go_ret
    exact ⟨rfl, rfl⟩
  · go_enter Tryz.func131, Tryz.ntmps131
    go_wp2_with fail
    go_loop [5, 8] (fun _ i => ∃ k : Nat, k ≤ l.length ∧ i = .int .i64 k ∧ Hid (∀ j, j < k → Globe.rowOk (Globe.nth l j) = true)) (fun _ i => l.length - (intOf i).toNat)
    case atStart => exact ⟨0, by omega, rfl, fun j hj => by omega⟩
    case round =>
      obtain ⟨k, hk, rfl, Hp⟩ := hrel
      by_cases hlt : k < l.length
      · have h0 : (0 : Int) ≤ (k : Int) := by omega
        cases hq : Globe.rowOk (Globe.nth l k)
        all_goals
          go_wp2_with (go_at_call 100; refine (Valid1_c _ _).mono ?_; rintro e w' ⟨rfl, rfl⟩)
        · go_ret
          exact ⟨ret_int (Globe.badAt_first hlt Hp.out hq).symm, rfl⟩
        · go_round
          case rel => exact ⟨k + 1, by omega, by go_num, fun j hj => by
            rcases Nat.lt_or_ge j k with h | h
            · exact Hp.out j h
            · rw [show j = k by omega]; exact hq⟩
          case measure => simp [intOf]; omega
      · obtain rfl : k = l.length := by omega
        go_wp2_with fail
        go_ret
        exact ⟨ret_int (Globe.badAt_all (List.all_eq_true.2 fun r hr => by
          obtain ⟨j, hj, rfl⟩ := List.getElem_of_mem hr
          have := Hp.out j hj
          rwa [Globe.nth_lt hj] at this)).symm, rfl⟩
theorem ContainsFunc_c (a : Option Addr) (l : List Int) (c : Nat) (w : World) (h : IntsAt w a l) (hl : l.length ≤ 140737488355328) :
    Calls Tryz.prog 99 #[.slice a l.length c, .func (.func 100) #[] #[]] w fun e w' => e = .returned (.bool (!l.all Globe.rowOk)) ∧ w = w' := by
  cases hq : l.all Globe.rowOk
  · have h1 := Globe.badAt_no hq
    go_enter Tryz.func99, Tryz.ntmps99
    go_wp2_with (go_at_call 131; refine (IndexFunc_c _ _ _ _ h hl).mono ?_; rintro e w' ⟨rfl, rfl⟩)
    go_ret
    exact ⟨rfl, rfl⟩
  · have h1 := Globe.badAt_all hq
    go_enter Tryz.func99, Tryz.ntmps99
    go_wp2_with (go_at_call 131; refine (IndexFunc_c _ _ _ _ h hl).mono ?_; rintro e w' ⟨rfl, rfl⟩)
    go_ret
    exact ⟨rfl, rfl⟩
theorem Valid_c (a : Option Addr) (l : List Int) (c : Nat) (w : World) (h : IntsAt w a l) (hl : l.length ≤ 140737488355328) :
    Calls Tryz.prog 50 #[.agg #[.slice a l.length c]] w fun e w' => e = .returned (.bool (Globe.validL l)) ∧ Ext w w' := by
  have H := Lib.hid h; clear h
  cases h24 : ((l.length : Int) == 24)
  · have hv : Globe.validL l = false := by simp [Globe.validL]; intro h; simp [h] at h24
    go_enter Tryz.func50, Tryz.ntmps50
    go_wp2_with fail
    go_ret
    exact ⟨ret_bool (by rw [hv]), by (repeat' (first | (with_reducible assumption) | (with_reducible exact Ext.refl _) | (with_reducible refine Ext.alloc ?_ _) | (with_reducible refine Ext.drew ?_) | (with_reducible refine Ext.drewN ?_ _) | (with_reducible refine Ext.setCell ?_ ?_ _) | (with_reducible refine Ext.trans ?_ (by assumption)) | go_size))⟩
  · have hv : Globe.validL l = l.all Globe.rowOk := by
      have e : l.length = 24 := by simp at h24; omega
      rw [Globe.validL, e]; simp
    have Hv := Lib.hid hv; clear hv
    go_enter Tryz.func50, Tryz.ntmps50
    go_wp2_with (go_at_call 99; refine (ContainsFunc_c _ _ _ _ (H.out.ext (by (repeat' (first | (with_reducible assumption) | (with_reducible exact Ext.refl _) | (with_reducible refine Ext.alloc ?_ _) | (with_reducible refine Ext.drew ?_) | (with_reducible refine Ext.drewN ?_ _) | (with_reducible refine Ext.setCell ?_ ?_ _) | (with_reducible refine Ext.trans ?_ (by assumption)) | go_size)))) hl).mono ?_; rintro e w' ⟨rfl, rfl⟩)
    go_ret
    exact ⟨ret_bool (by rw [Hv.out]), by (repeat' (first | (with_reducible assumption) | (with_reducible exact Ext.refl _) | (with_reducible refine Ext.alloc ?_ _) | (with_reducible refine Ext.drew ?_) | (with_reducible refine Ext.drewN ?_ _) | (with_reducible refine Ext.setCell ?_ ?_ _) | (with_reducible refine Ext.trans ?_ (by assumption)) | go_size))⟩
end Go.Proofs.YtajdohcgjgknmaaGreatDoor

namespace Go.Proofs.YtajdohcgjgknmaaGreatDoor
open Go.RowKit
theorem Empty_c (w : World) : Calls Tryz.prog 95 #[] w (RetA w Globe.zeroL) := by
  have hmk := make24
  go_enter Tryz.func95, Tryz.ntmps95
  go_wp2
  refine bodyPost_ret (v := .agg #[.slice (some ⟨w.heap.size + 1, 0, none⟩) 24 24]) (by simp [results, Tryz.results95, go_sem]) rfl ⟨w.heap.size + 1, rfl, by omega, ?_, by (repeat' (first | (with_reducible assumption) | (with_reducible exact Ext.refl _) | (with_reducible refine Ext.alloc ?_ _) | (with_reducible refine Ext.drew ?_) | (with_reducible refine Ext.drewN ?_ _) | (with_reducible refine Ext.setCell ?_ ?_ _) | (with_reducible refine Ext.trans ?_ (by assumption)) | go_size))⟩
  have := RowsAt.new (w.alloc (.cells #[.slice (some ⟨w.heap.size + 1, 0, none⟩) 24 24] 33)) Globe.zeroL 3 rfl
  rwa [World.size_alloc] at this
theorem less_i64 (a b : Nat) (ha : a < 4611686018427387904) (_hb : b < 4611686018427387904) : bits .andNot .i64 (a : Int) (b : Int) = ((Globe.lessN a b : Nat) : Int) := by
  show IntKind.i64.wrap ((BitVec.ofInt 64 (a : Int) &&& ~~~BitVec.ofInt 64 (b : Int)).toNat : Int) = _
  have e : (BitVec.ofInt 64 (a : Int) &&& ~~~BitVec.ofInt 64 (b : Int)).toNat = Globe.lessN a b := by
    refine Nat.eq_of_testBit_eq fun x => ?_
    rw [Globe.lessN_bit, BitVec.testBit_toNat, BitVec.getLsbD_and, BitVec.getLsbD_not, BitVec.ofInt_natCast, BitVec.ofInt_natCast, BitVec.getLsbD_ofNat, BitVec.getLsbD_ofNat]
    by_cases h : x < 64
    · simp [h]
    · rw [Nat.testBit_lt_two_pow (x := a) (i := x) (Nat.lt_of_lt_of_le (show a < 2 ^ 64 by omega) (Nat.pow_le_pow_right (by decide) (by omega)))]
      simp [h]
  have h2 : Globe.lessN a b < 2 ^ 62 := Nat.xor_lt_two_pow ha (Nat.lt_of_le_of_lt Nat.and_le_left ha)
  rw [e, IntKind.wrap_i64]
  omega
theorem Meet1_c (p q : Nat) (w : World) (hp : p < 281474976710656) (hq : q < 281474976710656) :
    Calls Tryz.prog 141 #[.int .i64 (p : Int), .int .i64 (q : Int)] w fun e w' => e = .returned (.int .i64 ((p &&& q : Nat) : Int)) ∧ w = w' := by
  go_enter Tryz.func141, Tryz.ntmps141
  go_wp2
  go_ret
  exact ⟨ret_int (and_i64 _ _ (by omega) (by omega)), rfl⟩
theorem Less1_c (p q : Nat) (w : World) (hp : p < 281474976710656) (hq : q < 281474976710656) :
    Calls Tryz.prog 98 #[.int .i64 (p : Int), .int .i64 (q : Int)] w fun e w' => e = .returned (.int .i64 ((Globe.lessN p q : Nat) : Int)) ∧ w = w' := by
  go_enter Tryz.func98, Tryz.ntmps98
  go_wp2
  go_ret
  exact ⟨ret_int (less_i64 _ _ (by omega) (by omega)), rfl⟩
end Go.Proofs.YtajdohcgjgknmaaGreatDoor

namespace Go.Proofs.YtajdohcgjgknmaaGreatDoor
open Go.RowKit
theorem Valid_n (a : Option Addr) (l : List Int) (n c : Nat) (w : World) (h : IntsAt w a l) (hn : l.length = n) (hl : n ≤ 140737488355328) :
    Calls Tryz.prog 50 #[.agg #[.slice a n c]] w fun e w' => e = .returned (.bool (Globe.validL l)) ∧ Ext w w' := by
  subst hn
  exact Valid_c a l c w h hl
theorem Valid_v {v : Bool} (a : Option Addr) (l : List Int) (n c : Nat) (w : World) (h : IntsAt w a l) (hn : l.length = n) (hl : n ≤ 140737488355328) (hv : Globe.validL l = v) :
    Calls Tryz.prog 50 #[.agg #[.slice a n c]] w fun e w' => e = .returned (.bool v) ∧ Ext w w' := hv ▸ Valid_n a l n c w h hn hl
theorem ValidCell_v {v : Bool} (x y : Int) (w : World) (hv : Globe.vcB x y = v) :
    Calls Tryz.prog 72 #[.agg #[.int .i64 x, .int .i64 y]] w fun e w' => e = .returned (.bool v) ∧ Ext w w' := hv ▸ ValidCell_c x y w
theorem Valid_y (b o c : Nat) (l : List Int) (w : World) (h : ∀ i, i < 24 → w.cell? ⟨b, o + i, none⟩ = some (.int .i64 (Globe.nth l i))) (hv : Globe.validL l = true) :
    Calls Tryz.prog 50 #[.agg #[.slice (some ⟨b, o, none⟩) 24 c]] w fun e w' => e = .returned (.bool true) ∧ Ext w w' := by
  have hn := Globe.len_of_valid hv
  have := Valid_n (some ⟨b, o, none⟩) l 24 c w (.inr ⟨b, o, rfl, fun i hi => h i (by omega)⟩) hn (by omega)
  rwa [hv] at this
theorem Valid_e {v : Bool} {w0 : World} {a : Option Addr} {l : List Int} {n : Nat} (c : Nat) (w : World) (h : AA w0 a l n v) (hE : Ext w0 w) :
    Calls Tryz.prog 50 #[.agg #[.slice a n c]] w fun e w' => e = .returned (.bool v) ∧ Ext w w' :=
  Valid_v a l n c w (h.1.ext hE) h.2.1 h.2.2.1 h.2.2.2
def Fill (w : World) (O B : Nat) (L : List Int) (wr : World) : Prop := RowsAt wr B L ∧ wr.cell? ⟨O, 0, none⟩ = some (.slice (some ⟨B, 0, none⟩) 24 24) ∧ Ext w wr
set_option maxHeartbeats 2000000 in
theorem mixed_Meet (b1 o1 c1 b2 o2 c2 : Nat) (l1 l2 : List Int) (w : World) (h1 : ∀ i, i < 24 → w.cell? ⟨b1, o1 + i, none⟩ = some (.int .i64 (Globe.nth l1 i))) (h2 : ∀ i, i < 24 → w.cell? ⟨b2, o2 + i, none⟩ = some (.int .i64 (Globe.nth l2 i)))
    (hv1 : Globe.validL l1 = true) (hv2 : Globe.validL l2 = true) :
    Calls Tryz.prog 48 #[.agg #[.slice (some ⟨b1, o1, none⟩) 24 c1], .agg #[.slice (some ⟨b2, o2, none⟩) 24 c2], .func (.func 141) #[] #[]] w (RetAE w (Globe.meetL l1 l2)) := by
  have H1 := Lib.hid h1; clear h1
  have H2 := Lib.hid h2; clear h2
  have Hv1 := Lib.hid hv1; clear hv1
  have Hv2 := Lib.hid hv2; clear hv2
  go_enter Tryz.func48, Tryz.ntmps48
  go_wp2_with (first | (go_at_call 50; refine (Valid_y _ _ _ _ _ (fun i hi => Ext.cell (show Ext w _ by (repeat' (first | (with_reducible assumption) | (with_reducible exact Ext.refl _) | (with_reducible refine Ext.alloc ?_ _) | (with_reducible refine Ext.drew ?_) | (with_reducible refine Ext.drewN ?_ _) | (with_reducible refine Ext.setCell ?_ ?_ _) | (with_reducible refine Ext.trans ?_ (by assumption)) | go_size))) (by first | exact H1.out i hi | exact H2.out i hi)) (by first | exact Hv1.out | exact Hv2.out)).mono ?_; rintro e w1 ⟨rfl, hb⟩; have hc := hb.cellE; have hf := hb.frozenE; have hz := hb.size; have ha := alloc_keeps w1; (try simp only [World.size_alloc] at hc hf hz); (try simp only [World.size_setCell] at hc hf hz); (try simp only [World.size_drew] at hc hf hz)) | (go_at_call 95; refine (Empty_c _).mono ?_; rintro e w2 ⟨B, rfl, hB, hr, hb2⟩))
  obtain ⟨O, hO⟩ : ∃ O, O = w2.heap.size := ⟨_, rfl⟩
  have hBO : B < O := by have := hr.lt; omega
  have hwB : w.heap.size + 1 + 1 + 1 ≤ B := by omega
  refine wp_name (fun V => V.cell? ⟨w.heap.size, 0, none⟩ = some (.slice (some ⟨b1, o1, none⟩) 24 c1) ∧ V.cell? ⟨w.heap.size + 1, 0, none⟩ = some (.slice (some ⟨b2, o2, none⟩) 24 c2) ∧ BoxAt V (w.heap.size + 1 + 1) 0 (.slice none 0 0) ∧ Fill w O B Globe.zeroL V) ⟨?_, ?_, ?_, ?_⟩ ?_
  · (repeat' (first | (with_reducible assumption) | (simp [go_sem]; done) | (with_reducible refine Ext.cell (Ext.alloc (Ext.refl _) _) ?_) | (with_reducible refine Ext.cell (by with_reducible assumption) ?_)))
  · (repeat' (first | (with_reducible assumption) | (simp [go_sem]; done) | (with_reducible refine Ext.cell (Ext.alloc (Ext.refl _) _) ?_) | (with_reducible refine Ext.cell (by with_reducible assumption) ?_)))
  · (repeat' (first | (with_reducible assumption) | (exact ⟨by simp [go_sem], by simp [go_sem]⟩) | (with_reducible refine BoxAt.ext (Ext.alloc (Ext.refl _) _) ?_) | (with_reducible refine BoxAt.ext (by with_reducible assumption) ?_)))
  · exact ⟨hr.ext (by (repeat' (first | (with_reducible assumption) | (with_reducible exact Ext.refl _) | (with_reducible refine Ext.alloc ?_ _) | (with_reducible refine Ext.drew ?_) | (with_reducible refine Ext.drewN ?_ _) | (with_reducible refine Ext.setCell ?_ ?_ _) | (with_reducible refine Ext.trans ?_ (by assumption)) | go_size))), by rw [hO]; simp [go_sem], by (repeat' (first | (with_reducible assumption) | (with_reducible exact Ext.refl _) | (with_reducible refine Ext.alloc ?_ _) | (with_reducible refine Ext.drew ?_) | (with_reducible refine Ext.drewN ?_ _) | (with_reducible refine Ext.setCell ?_ ?_ _) | (with_reducible refine Ext.trans ?_ (by assumption)) | go_size))⟩
  rintro V ⟨c3, c4, c6, hF⟩
  rw [← hO]
  clear hO hr hb2 hB
  iterate 2 clear hc hf hz ha hb
  rw [← Globe.partL_zero (Globe.meetL l1 l2)] at hF
  have hL : (Globe.meetL l1 l2).length = 24 := Globe.rowsF_len _
  have HL := Lib.hid hL; clear hL
  go_loopw [23] (fun p wr => ∃ y : Nat, y ≤ 24 ∧ p = .int .i64 y ∧ wr.cell? ⟨w.heap.size, 0, none⟩ = some (.slice (some ⟨b1, o1, none⟩) 24 c1) ∧ wr.cell? ⟨w.heap.size + 1, 0, none⟩ = some (.slice (some ⟨b2, o2, none⟩) 24 c2) ∧ BoxAt wr (w.heap.size + 1 + 1) 0 (.slice none 0 0) ∧ Fill w O B (Globe.partL (Globe.meetL l1 l2) y) wr) (fun p _ => 24 - (intOf p).toNat)
  case atStart => exact ⟨0, by omega, rfl, c3, c4, c6, hF⟩
  case round =>
    clear c3 c4 c6 hF
    obtain ⟨y, hy, rfl, c3, c4, c6, hr, cO, hE⟩ := hrel
    have hOl := World.block_lt_of_cell? wr _ cO
    by_cases hlt : y < 24
    · have hp := Globe.rowN_lt Hv1.out y
      have hq := Globe.rowN_lt Hv2.out y
      have d1 : wr.cell? ⟨b1, o1 + y, none⟩ = some (.int .i64 (Globe.rowN l1 y : Nat)) := by rw [← Globe.rowN_cast Hv1.out]; exact hE.cell (H1.out y hlt)
      have d2 : wr.cell? ⟨b2, o2 + y, none⟩ = some (.int .i64 (Globe.rowN l2 y : Nat)) := by rw [← Globe.rowN_cast Hv2.out]; exact hE.cell (H2.out y hlt)
      have d3 := hr.cell hlt
      have hb1 := IntsAt.lt H1.out
      have hb2 := IntsAt.lt H2.out
      have d4 := hr.free hlt
      have y0 : (0 : Int) ≤ (y : Int) := by omega
      have y1 : (y : Int) < 24 := by omega
      go_wp2_with fail
      go_region_held3 (fun w' => w'.cell? ⟨w.heap.size, 0, none⟩ = some (.slice (some ⟨b1, o1, none⟩) 24 c1) ∧ w'.cell? ⟨w.heap.size + 1, 0, none⟩ = some (.slice (some ⟨b2, o2, none⟩) 24 c2) ∧ w'.cell? ⟨O, 0, none⟩ = some (.slice (some ⟨B, 0, none⟩) 24 24) ∧ w'.cell? ⟨b1, o1 + y, none⟩ = some (.int .i64 (Globe.rowN l1 y : Nat)) ∧ w'.cell? ⟨b2, o2 + y, none⟩ = some (.int .i64 (Globe.rowN l2 y : Nat)))
        (first | ((repeat' (with_reducible apply And.intro)) <;> (first | (with_reducible assumption) | (simp [go_sem, c3, c4, cO, d1, d2]; done))))
        ((go_at_call 141; refine (Meet1_c _ _ _ hp hq).mono ?_; rintro e w' ⟨rfl, rfl⟩))
      go_wp2
      go_roundw
      case rel =>
        refine ⟨y + 1, by omega, by go_num, by simpa [go_sem] using c3, by simpa [go_sem] using c4, (c6.other (p := ⟨B, y, none⟩) (by show B ≠ _; omega) _).drew, ?_, by simpa [go_sem] using cO, by (repeat' (first | (with_reducible assumption) | (with_reducible exact Ext.refl _) | (with_reducible refine Ext.alloc ?_ _) | (with_reducible refine Ext.drew ?_) | (with_reducible refine Ext.drewN ?_ _) | (with_reducible refine Ext.setCell ?_ ?_ _) | (with_reducible refine Ext.trans ?_ (by assumption)) | go_size))⟩
        have := (hr.set hlt (Globe.nth (Globe.meetL l1 l2) y)).drew
        rwa [Globe.partL_succ HL.out hlt, show Globe.nth (Globe.meetL l1 l2) y = _ from Globe.nth_rowsF _ hlt] at this
      case measure => simp [intOf]; omega
    · obtain rfl : y = 24 := by omega
      rw [Globe.partL_all HL.out] at hr
      obtain ⟨c6, f6⟩ := c6
      go_wp2_with fail
      refine bodyPost_ret (v := .tuple #[.agg #[.slice (some ⟨B, 0, none⟩) 24 24], .int .i64 0]) (by simp [results, Tryz.results48, go_sem, c6]) rfl ⟨B, rfl, by omega, hr.other (by show w.heap.size + 1 + 1 ≠ _; omega) _, by (repeat' (first | (with_reducible assumption) | (with_reducible exact Ext.refl _) | (with_reducible refine Ext.alloc ?_ _) | (with_reducible refine Ext.drew ?_) | (with_reducible refine Ext.drewN ?_ _) | (with_reducible refine Ext.setCell ?_ ?_ _) | (with_reducible refine Ext.trans ?_ (by assumption)) | go_size))⟩
set_option maxHeartbeats 2000000 in
theorem mixed_Less (b1 o1 c1 b2 o2 c2 : Nat) (l1 l2 : List Int) (w : World) (h1 : ∀ i, i < 24 → w.cell? ⟨b1, o1 + i, none⟩ = some (.int .i64 (Globe.nth l1 i))) (h2 : ∀ i, i < 24 → w.cell? ⟨b2, o2 + i, none⟩ = some (.int .i64 (Globe.nth l2 i)))
    (hv1 : Globe.validL l1 = true) (hv2 : Globe.validL l2 = true) :
    Calls Tryz.prog 48 #[.agg #[.slice (some ⟨b1, o1, none⟩) 24 c1], .agg #[.slice (some ⟨b2, o2, none⟩) 24 c2], .func (.func 98) #[] #[]] w (RetAE w (Globe.lessL l1 l2)) := by
  have H1 := Lib.hid h1; clear h1
  have H2 := Lib.hid h2; clear h2
  have Hv1 := Lib.hid hv1; clear hv1
  have Hv2 := Lib.hid hv2; clear hv2
  go_enter Tryz.func48, Tryz.ntmps48
  go_wp2_with (first | (go_at_call 50; refine (Valid_y _ _ _ _ _ (fun i hi => Ext.cell (show Ext w _ by (repeat' (first | (with_reducible assumption) | (with_reducible exact Ext.refl _) | (with_reducible refine Ext.alloc ?_ _) | (with_reducible refine Ext.drew ?_) | (with_reducible refine Ext.drewN ?_ _) | (with_reducible refine Ext.setCell ?_ ?_ _) | (with_reducible refine Ext.trans ?_ (by assumption)) | go_size))) (by first | exact H1.out i hi | exact H2.out i hi)) (by first | exact Hv1.out | exact Hv2.out)).mono ?_; rintro e w1 ⟨rfl, hb⟩; have hc := hb.cellE; have hf := hb.frozenE; have hz := hb.size; have ha := alloc_keeps w1; (try simp only [World.size_alloc] at hc hf hz); (try simp only [World.size_setCell] at hc hf hz); (try simp only [World.size_drew] at hc hf hz)) | (go_at_call 95; refine (Empty_c _).mono ?_; rintro e w2 ⟨B, rfl, hB, hr, hb2⟩))
  obtain ⟨O, hO⟩ : ∃ O, O = w2.heap.size := ⟨_, rfl⟩
  have hBO : B < O := by have := hr.lt; omega
  have hwB : w.heap.size + 1 + 1 + 1 ≤ B := by omega
  refine wp_name (fun V => V.cell? ⟨w.heap.size, 0, none⟩ = some (.slice (some ⟨b1, o1, none⟩) 24 c1) ∧ V.cell? ⟨w.heap.size + 1, 0, none⟩ = some (.slice (some ⟨b2, o2, none⟩) 24 c2) ∧ BoxAt V (w.heap.size + 1 + 1) 0 (.slice none 0 0) ∧ Fill w O B Globe.zeroL V) ⟨?_, ?_, ?_, ?_⟩ ?_
  · (repeat' (first | (with_reducible assumption) | (simp [go_sem]; done) | (with_reducible refine Ext.cell (Ext.alloc (Ext.refl _) _) ?_) | (with_reducible refine Ext.cell (by with_reducible assumption) ?_)))
  · (repeat' (first | (with_reducible assumption) | (simp [go_sem]; done) | (with_reducible refine Ext.cell (Ext.alloc (Ext.refl _) _) ?_) | (with_reducible refine Ext.cell (by with_reducible assumption) ?_)))
  · (repeat' (first | (with_reducible assumption) | (exact ⟨by simp [go_sem], by simp [go_sem]⟩) | (with_reducible refine BoxAt.ext (Ext.alloc (Ext.refl _) _) ?_) | (with_reducible refine BoxAt.ext (by with_reducible assumption) ?_)))
  · exact ⟨hr.ext (by (repeat' (first | (with_reducible assumption) | (with_reducible exact Ext.refl _) | (with_reducible refine Ext.alloc ?_ _) | (with_reducible refine Ext.drew ?_) | (with_reducible refine Ext.drewN ?_ _) | (with_reducible refine Ext.setCell ?_ ?_ _) | (with_reducible refine Ext.trans ?_ (by assumption)) | go_size))), by rw [hO]; simp [go_sem], by (repeat' (first | (with_reducible assumption) | (with_reducible exact Ext.refl _) | (with_reducible refine Ext.alloc ?_ _) | (with_reducible refine Ext.drew ?_) | (with_reducible refine Ext.drewN ?_ _) | (with_reducible refine Ext.setCell ?_ ?_ _) | (with_reducible refine Ext.trans ?_ (by assumption)) | go_size))⟩
  rintro V ⟨c3, c4, c6, hF⟩
  rw [← hO]
  clear hO hr hb2 hB
  iterate 2 clear hc hf hz ha hb
  rw [← Globe.partL_zero (Globe.lessL l1 l2)] at hF
  have hL : (Globe.lessL l1 l2).length = 24 := Globe.rowsF_len _
  have HL := Lib.hid hL; clear hL
  go_loopw [23] (fun p wr => ∃ y : Nat, y ≤ 24 ∧ p = .int .i64 y ∧ wr.cell? ⟨w.heap.size, 0, none⟩ = some (.slice (some ⟨b1, o1, none⟩) 24 c1) ∧ wr.cell? ⟨w.heap.size + 1, 0, none⟩ = some (.slice (some ⟨b2, o2, none⟩) 24 c2) ∧ BoxAt wr (w.heap.size + 1 + 1) 0 (.slice none 0 0) ∧ Fill w O B (Globe.partL (Globe.lessL l1 l2) y) wr) (fun p _ => 24 - (intOf p).toNat)
  case atStart => exact ⟨0, by omega, rfl, c3, c4, c6, hF⟩
  case round =>
    clear c3 c4 c6 hF
    obtain ⟨y, hy, rfl, c3, c4, c6, hr, cO, hE⟩ := hrel
    have hOl := World.block_lt_of_cell? wr _ cO
    by_cases hlt : y < 24
    · have hp := Globe.rowN_lt Hv1.out y
      have hq := Globe.rowN_lt Hv2.out y
      have d1 : wr.cell? ⟨b1, o1 + y, none⟩ = some (.int .i64 (Globe.rowN l1 y : Nat)) := by rw [← Globe.rowN_cast Hv1.out]; exact hE.cell (H1.out y hlt)
      have d2 : wr.cell? ⟨b2, o2 + y, none⟩ = some (.int .i64 (Globe.rowN l2 y : Nat)) := by rw [← Globe.rowN_cast Hv2.out]; exact hE.cell (H2.out y hlt)
      have d3 := hr.cell hlt
      have hb1 := IntsAt.lt H1.out
      have hb2 := IntsAt.lt H2.out
      have d4 := hr.free hlt
      have y0 : (0 : Int) ≤ (y : Int) := by omega
      have y1 : (y : Int) < 24 := by omega
      go_wp2_with fail
      go_region_held3 (fun w' => w'.cell? ⟨w.heap.size, 0, none⟩ = some (.slice (some ⟨b1, o1, none⟩) 24 c1) ∧ w'.cell? ⟨w.heap.size + 1, 0, none⟩ = some (.slice (some ⟨b2, o2, none⟩) 24 c2) ∧ w'.cell? ⟨O, 0, none⟩ = some (.slice (some ⟨B, 0, none⟩) 24 24) ∧ w'.cell? ⟨b1, o1 + y, none⟩ = some (.int .i64 (Globe.rowN l1 y : Nat)) ∧ w'.cell? ⟨b2, o2 + y, none⟩ = some (.int .i64 (Globe.rowN l2 y : Nat)))
        (first | ((repeat' (with_reducible apply And.intro)) <;> (first | (with_reducible assumption) | (simp [go_sem, c3, c4, cO, d1, d2]; done))))
        ((go_at_call 98; refine (Less1_c _ _ _ hp hq).mono ?_; rintro e w' ⟨rfl, rfl⟩))
      go_wp2
      go_roundw
      case rel =>
        refine ⟨y + 1, by omega, by go_num, by simpa [go_sem] using c3, by simpa [go_sem] using c4, (c6.other (p := ⟨B, y, none⟩) (by show B ≠ _; omega) _).drew, ?_, by simpa [go_sem] using cO, by (repeat' (first | (with_reducible assumption) | (with_reducible exact Ext.refl _) | (with_reducible refine Ext.alloc ?_ _) | (with_reducible refine Ext.drew ?_) | (with_reducible refine Ext.drewN ?_ _) | (with_reducible refine Ext.setCell ?_ ?_ _) | (with_reducible refine Ext.trans ?_ (by assumption)) | go_size))⟩
        have := (hr.set hlt (Globe.nth (Globe.lessL l1 l2) y)).drew
        rwa [Globe.partL_succ HL.out hlt, show Globe.nth (Globe.lessL l1 l2) y = _ from Globe.nth_rowsF _ hlt] at this
      case measure => simp [intOf]; omega
    · obtain rfl : y = 24 := by omega
      rw [Globe.partL_all HL.out] at hr
      obtain ⟨c6, f6⟩ := c6
      go_wp2_with fail
      refine bodyPost_ret (v := .tuple #[.agg #[.slice (some ⟨B, 0, none⟩) 24 24], .int .i64 0]) (by simp [results, Tryz.results48, go_sem, c6]) rfl ⟨B, rfl, by omega, hr.other (by show w.heap.size + 1 + 1 ≠ _; omega) _, by (repeat' (first | (with_reducible assumption) | (with_reducible exact Ext.refl _) | (with_reducible refine Ext.alloc ?_ _) | (with_reducible refine Ext.drew ?_) | (with_reducible refine Ext.drewN ?_ _) | (with_reducible refine Ext.setCell ?_ ?_ _) | (with_reducible refine Ext.trans ?_ (by assumption)) | go_size))⟩
end Go.Proofs.YtajdohcgjgknmaaGreatDoor

namespace Go.Proofs.YtajdohcgjgknmaaGreatDoor
open Go.RowKit
end Go.Proofs.YtajdohcgjgknmaaGreatDoor

namespace Go.Proofs.YtajdohcgjgknmaaGreatDoor
open Go.RowKit
set_option maxHeartbeats 1000000 in
theorem mixed_no (fv : Value) (a1 : Option Addr) (l1 : List Int) (n1 c1 : Nat) (v1 : Bool) (a2 : Option Addr) (l2 : List Int) (n2 c2 : Nat) (v2 : Bool) (w : World) (h1 : AA w a1 l1 n1 v1) (h2 : AA w a2 l2 n2 v2) (hv : (v1 && v2) = false) :
    Calls Tryz.prog 48 #[.agg #[.slice a1 n1 c1], .agg #[.slice a2 n2 c2], fv] w (RetErr w 50) := by
  cases v1 <;> cases v2
  all_goals
    (try simp at hv)
    try
      clear hv
      go_enter Tryz.func48, Tryz.ntmps48
      go_wp2_with (go_at_call 50; refine (Valid_e _ _ (by assumption) (by (repeat' (first | (with_reducible assumption) | (with_reducible exact Ext.refl _) | (with_reducible refine Ext.alloc ?_ _) | (with_reducible refine Ext.drew ?_) | (with_reducible refine Ext.drewN ?_ _) | (with_reducible refine Ext.setCell ?_ ?_ _) | (with_reducible refine Ext.trans ?_ (by assumption)) | go_size)))).mono ?_; rintro e w1 ⟨rfl, hb⟩; have hc := hb.cellE; have hf := hb.frozenE; have hz := hb.size; have ha := alloc_keeps w1; (try simp only [World.size_alloc] at hc hf hz); (try simp only [World.size_setCell] at hc hf hz); (try simp only [World.size_drew] at hc hf hz))
      ((try simp only [Exit.inBlock, Exit.then]); refine bodyPost_ret (v := .tuple #[.agg #[.slice none 0 0], .int .i64 50]) (by simp [results, Tryz.results48, go_sem, *]) rfl ?_)
      exact ⟨rfl, by (repeat' (first | (with_reducible assumption) | (with_reducible exact Ext.refl _) | (with_reducible refine Ext.alloc ?_ _) | (with_reducible refine Ext.drew ?_) | (with_reducible refine Ext.drewN ?_ _) | (with_reducible refine Ext.setCell ?_ ?_ _) | (with_reducible refine Ext.trans ?_ (by assumption)) | go_size))⟩
set_option maxHeartbeats 1000000 in
theorem Meet_v {w1 w2 : World} {b1 o1 b2 o2 : Nat} (c1 c2 : Nat) {l1 l2 : List Int} (w : World) (h1 : VA w1 b1 o1 l1) (e1 : Ext w1 w) (h2 : VA w2 b2 o2 l2) (e2 : Ext w2 w) :
    Calls Tryz.prog 125 #[.agg #[.slice (some ⟨b1, o1, none⟩) 24 c1], .agg #[.slice (some ⟨b2, o2, none⟩) 24 c2]] w (RetV w (Globe.meetL l1 l2)) := by
  have H1 := Lib.hid (h1.ext e1)
  have H2 := Lib.hid (h2.ext e2)
  have HV := Lib.hid (Globe.meet_valid (b := l2) h1.2)
  clear e1 e2 h1 h2
  go_enter Tryz.func125, Tryz.ntmps125
  go_wp2_with (go_at_call 48; refine (mixed_Meet _ _ _ _ _ _ l1 l2 _ (fun i hi => Ext.cell (by (repeat' (first | (with_reducible assumption) | (with_reducible exact Ext.refl _) | (with_reducible refine Ext.alloc ?_ _) | (with_reducible refine Ext.drew ?_) | (with_reducible refine Ext.drewN ?_ _) | (with_reducible refine Ext.setCell ?_ ?_ _) | (with_reducible refine Ext.trans ?_ (by assumption)) | go_size))) (H1.out.1 i hi)) (fun i hi => Ext.cell (by (repeat' (first | (with_reducible assumption) | (with_reducible exact Ext.refl _) | (with_reducible refine Ext.alloc ?_ _) | (with_reducible refine Ext.drew ?_) | (with_reducible refine Ext.drewN ?_ _) | (with_reducible refine Ext.setCell ?_ ?_ _) | (with_reducible refine Ext.trans ?_ (by assumption)) | go_size))) (H2.out.1 i hi)) H1.out.2 H2.out.2).mono ?_; rintro e w1 ⟨B, rfl, hB, hr, hb⟩; have hc := hb.cellE; have hf := hb.frozenE; have hz := hb.size; have ha := alloc_keeps w1; (try simp only [World.size_alloc] at hc hf hz); (try simp only [World.size_setCell] at hc hf hz); (try simp only [World.size_drew] at hc hf hz))
  ((try simp only [Exit.inBlock, Exit.then]); refine bodyPost_ret (v := .tuple #[.agg #[.slice (some ⟨B, 0, none⟩) 24 24], .int .i64 0]) (by simp [results, Tryz.results125, go_sem, hc]) rfl ?_)
  refine RetAE.v ⟨B, rfl, by first | (simp at hB; omega) | omega, hr.other (by show w.heap.size + 1 + 1 ≠ B; (try simp at hB); omega) _, by (repeat' (first | (with_reducible assumption) | (with_reducible exact Ext.refl _) | (with_reducible refine Ext.alloc ?_ _) | (with_reducible refine Ext.drew ?_) | (with_reducible refine Ext.drewN ?_ _) | (with_reducible refine Ext.setCell ?_ ?_ _) | (with_reducible refine Ext.trans ?_ (by assumption)) | go_size))⟩ HV.out
set_option maxHeartbeats 1000000 in
theorem Less_v {w1 w2 : World} {b1 o1 b2 o2 : Nat} (c1 c2 : Nat) {l1 l2 : List Int} (w : World) (h1 : VA w1 b1 o1 l1) (e1 : Ext w1 w) (h2 : VA w2 b2 o2 l2) (e2 : Ext w2 w) :
    Calls Tryz.prog 47 #[.agg #[.slice (some ⟨b1, o1, none⟩) 24 c1], .agg #[.slice (some ⟨b2, o2, none⟩) 24 c2]] w (RetV w (Globe.lessL l1 l2)) := by
  have H1 := Lib.hid (h1.ext e1)
  have H2 := Lib.hid (h2.ext e2)
  have HV := Lib.hid (Globe.less_valid (b := l2) h1.2)
  clear e1 e2 h1 h2
  go_enter Tryz.func47, Tryz.ntmps47
  go_wp2_with (go_at_call 48; refine (mixed_Less _ _ _ _ _ _ l1 l2 _ (fun i hi => Ext.cell (by (repeat' (first | (with_reducible assumption) | (with_reducible exact Ext.refl _) | (with_reducible refine Ext.alloc ?_ _) | (with_reducible refine Ext.drew ?_) | (with_reducible refine Ext.drewN ?_ _) | (with_reducible refine Ext.setCell ?_ ?_ _) | (with_reducible refine Ext.trans ?_ (by assumption)) | go_size))) (H1.out.1 i hi)) (fun i hi => Ext.cell (by (repeat' (first | (with_reducible assumption) | (with_reducible exact Ext.refl _) | (with_reducible refine Ext.alloc ?_ _) | (with_reducible refine Ext.drew ?_) | (with_reducible refine Ext.drewN ?_ _) | (with_reducible refine Ext.setCell ?_ ?_ _) | (with_reducible refine Ext.trans ?_ (by assumption)) | go_size))) (H2.out.1 i hi)) H1.out.2 H2.out.2).mono ?_; rintro e w1 ⟨B, rfl, hB, hr, hb⟩; have hc := hb.cellE; have hf := hb.frozenE; have hz := hb.size; have ha := alloc_keeps w1; (try simp only [World.size_alloc] at hc hf hz); (try simp only [World.size_setCell] at hc hf hz); (try simp only [World.size_drew] at hc hf hz))
  ((try simp only [Exit.inBlock, Exit.then]); refine bodyPost_ret (v := .tuple #[.agg #[.slice (some ⟨B, 0, none⟩) 24 24], .int .i64 0]) (by simp [results, Tryz.results47, go_sem, hc]) rfl ?_)
  refine RetAE.v ⟨B, rfl, by first | (simp at hB; omega) | omega, hr.other (by show w.heap.size + 1 + 1 ≠ B; (try simp at hB); omega) _, by (repeat' (first | (with_reducible assumption) | (with_reducible exact Ext.refl _) | (with_reducible refine Ext.alloc ?_ _) | (with_reducible refine Ext.drew ?_) | (with_reducible refine Ext.drewN ?_ _) | (with_reducible refine Ext.setCell ?_ ?_ _) | (with_reducible refine Ext.trans ?_ (by assumption)) | go_size))⟩ HV.out
set_option maxHeartbeats 1000000 in
theorem Less_n (a1 : Option Addr) (l1 : List Int) (n1 c1 : Nat) (v1 : Bool) (a2 : Option Addr) (l2 : List Int) (n2 c2 : Nat) (v2 : Bool) (w : World) (h1 : AA w a1 l1 n1 v1) (h2 : AA w a2 l2 n2 v2) (hv : (v1 && v2) = false) :
    Calls Tryz.prog 47 #[.agg #[.slice a1 n1 c1], .agg #[.slice a2 n2 c2]] w (RetErr w 50) := by
  go_enter Tryz.func47, Tryz.ntmps47
  go_wp2_with (go_at_call 48; refine (mixed_no _ _ l1 _ _ v1 _ l2 _ _ v2 _ (h1.ext (by (repeat' (first | (with_reducible assumption) | (with_reducible exact Ext.refl _) | (with_reducible refine Ext.alloc ?_ _) | (with_reducible refine Ext.drew ?_) | (with_reducible refine Ext.drewN ?_ _) | (with_reducible refine Ext.setCell ?_ ?_ _) | (with_reducible refine Ext.trans ?_ (by assumption)) | go_size)))) (h2.ext (by (repeat' (first | (with_reducible assumption) | (with_reducible exact Ext.refl _) | (with_reducible refine Ext.alloc ?_ _) | (with_reducible refine Ext.drew ?_) | (with_reducible refine Ext.drewN ?_ _) | (with_reducible refine Ext.setCell ?_ ?_ _) | (with_reducible refine Ext.trans ?_ (by assumption)) | go_size)))) hv).mono ?_; rintro e w1 ⟨rfl, hb⟩; have hc := hb.cellE; have hf := hb.frozenE; have hz := hb.size; have ha := alloc_keeps w1; (try simp only [World.size_alloc] at hc hf hz); (try simp only [World.size_setCell] at hc hf hz); (try simp only [World.size_drew] at hc hf hz))
  ((try simp only [Exit.inBlock, Exit.then]); refine bodyPost_ret (v := .tuple #[.agg #[.slice none 0 0], .int .i64 50]) (by simp [results, Tryz.results47, go_sem, hc]) rfl ?_)
  exact ⟨rfl, by (repeat' (first | (with_reducible assumption) | (with_reducible exact Ext.refl _) | (with_reducible refine Ext.alloc ?_ _) | (with_reducible refine Ext.drew ?_) | (with_reducible refine Ext.drewN ?_ _) | (with_reducible refine Ext.setCell ?_ ?_ _) | (with_reducible refine Ext.trans ?_ (by assumption)) | go_size))⟩
def modN (k : Int) : Nat := (k % 48).toNat
theorem modN_lt (k : Int) : modN k < 48 := by unfold modN; omega
theorem modN_go (k : Int) : k.tmod 48 % 48 = (modN k : Int) ∧ -47 ≤ k.tmod 48 ∧ k.tmod 48 ≤ 47 := by
  unfold modN
  by_cases h : 0 ≤ k
  · rw [Int.tmod_eq_emod_of_nonneg h]; omega
  · obtain ⟨m, rfl⟩ : ∃ m : Int, k = -m := ⟨-k, by omega⟩
    rw [Int.neg_tmod, Int.tmod_eq_emod_of_nonneg (by omega)]; omega
end Go.Proofs.YtajdohcgjgknmaaGreatDoor

namespace Go.Proofs.YtajdohcgjgknmaaGreatDoor
def IsI (c : Int) : Prop := -9223372036854775808 ≤ c ∧ c ≤ 9223372036854775807
def pickF (c n : Int) : Int := (if c < 0 then -(c + 1) else c) % n
theorem pickF_bd {c n : Int} (h : 0 < n) : 0 ≤ pickF c n ∧ pickF c n < n := ⟨Int.emod_nonneg _ (by omega), Int.emod_lt_of_pos _ h⟩
theorem pickF_neg {c n : Int} (h : c < 0) : pickF c n = (-(c + 1)) % n := by rw [pickF, if_pos h]
theorem pickF_pos {c n : Int} (h : 0 ≤ c) : pickF c n = c % n := by rw [pickF, if_neg (by omega)]
end Go.Proofs.YtajdohcgjgknmaaGreatDoor

namespace Go.Proofs.YtajdohcgjgknmaaGreatDoor
open Go.RowKit
section
variable {P : Program} {ops : Array Oper} {Q : Exit → Act → World → Prop} {md : Region.Mode} {S : World → Prop}
theorem at_drop {i : Nat} {o : Oper} {r : List Oper} (h : ops.toList.drop i = o :: r) : ops[i]? = some o := by
  rw [← Array.getElem?_toList, ← Nat.add_zero i, ← List.getElem?_drop, h]; rfl
theorem rg_take (i : Nat) {oi : Oper} {r : List Oper} {v : Value} {fuel : Nat} {listed : Array Bool} {a : Act} {w : World} (hi : ops.toList.drop i = oi :: r)
    (hs : Region.noSelect ops = true) (hf : Region.free md ops listed i = true) (hr : (Region.ready md ops listed).contains i = true)
    (hQ : ∀ c a w, Q (.panic c) (a.put oi.dst v) w → Q (.panic c) a w) (hw : Region.wanted oi (yielded ops a.tmps) = true) (hy : ∀ w, S w → (execOp a.eval oi).run P w = .ok (.value v) w) (hS : S w)
    (h : wpAnyH P md ops Q S fuel (listed.setIfInBounds i true) (a.put oi.dst v) w) : wpAnyH P md ops Q S (fuel + 1) listed a w :=
  wpAnyH_take (at_drop hi) hs hf hr hQ (.inl ⟨hw, hy⟩) hS h
theorem rg_skip (i : Nat) {oi : Oper} {r : List Oper} {fuel : Nat} {listed : Array Bool} {a : Act} {w : World} (hi : ops.toList.drop i = oi :: r)
    (hs : Region.noSelect ops = true) (hf : Region.free md ops listed i = true) (hr : (Region.ready md ops listed).contains i = true)
    (hQ : ∀ c a w, Q (.panic c) (a.put oi.dst undef) w → Q (.panic c) a w) (hw : Region.wanted oi (yielded ops a.tmps) = false) (hS : S w)
    (h : wpAnyH P md ops Q S fuel (listed.setIfInBounds i true) (a.put oi.dst undef) w) : wpAnyH P md ops Q S (fuel + 1) listed a w :=
  wpAnyH_take (at_drop hi) hs hf hr hQ (.inr ⟨hw, rfl⟩) hS h
theorem rg_step (i : Nat) {oi : Oper} {r : List Oper} {fuel : Nat} {listed : Array Bool} {a : Act} {w : World} (hi : ops.toList.drop i = oi :: r) (hr : Region.ready md ops listed = [i])
    (hw : Region.wanted oi (yielded ops a.tmps) = true)
    (h : ∀ K' : Act → World → Prop, Shut (∀ a w, S w → (S w → wpAnyH P md ops Q S fuel (listed.setIfInBounds i true) a w) → K' a w) → Oper.wp P oi a w K' Q) : wpAnyH P md ops Q S (fuel + 1) listed a w :=
  wpAnyH_ready hr (by simp) (AllReadyH.cons (at_drop hi) (fun K hK => by rw [if_pos hw]; exact h K hK) AllReadyH.nil)
end
end Go.Proofs.YtajdohcgjgknmaaGreatDoor

namespace Go.Proofs.YtajdohcgjgknmaaGreatDoor
open Go.RowKit
theorem rEmpty_c (w : World) : Calls Tryz.prog 38 #[] w (RetA w Globe.zeroL) := by
  have hmk := make24
  go_enter Tryz.func38, Tryz.ntmps38
  go_wp2
  refine bodyPost_ret (v := .agg #[.slice (some ⟨w.heap.size + 1, 0, none⟩) 24 24]) (by simp [results, Tryz.results38, go_sem]) rfl ⟨w.heap.size + 1, rfl, by omega, ?_, by (repeat' (first | (with_reducible assumption) | (with_reducible exact Ext.refl _) | (with_reducible refine Ext.alloc ?_ _) | (with_reducible refine Ext.drew ?_) | (with_reducible refine Ext.drewN ?_ _) | (with_reducible refine Ext.setCell ?_ ?_ _) | (with_reducible refine Ext.trans ?_ (by assumption)) | go_size))⟩
  have := RowsAt.new (w.alloc (.cells #[.slice (some ⟨w.heap.size + 1, 0, none⟩) 24 24] 33)) Globe.zeroL 3 rfl
  rwa [World.size_alloc] at this
theorem modN_cases (x : Int) : (x.tmod 48 < 0 ∧ x.tmod 48 + 48 = (modN x : Int)) ∨ (0 ≤ x.tmod 48 ∧ x.tmod 48 = (modN x : Int)) := by
  unfold modN
  by_cases h : 0 ≤ x
  · rw [Int.tmod_eq_emod_of_nonneg h]; omega
  · obtain ⟨m, rfl⟩ : ∃ m : Int, x = -m := ⟨-x, by omega⟩
    rw [Int.neg_tmod, Int.tmod_eq_emod_of_nonneg (by omega)]; omega
theorem tmod_bd (x : Int) : -47 ≤ x.tmod 48 ∧ x.tmod 48 ≤ 47 := (modN_go x).2
set_option maxHeartbeats 1000000 in
theorem put_c (B c : Nat) (L : List Int) (x : Int) (y : Nat) (w : World) (h : RowsAt w B L) (hv : Globe.validL L = true) (hy : y < 24) :
    Calls Tryz.prog 136 #[.agg #[.slice (some ⟨B, 0, none⟩) 24 c], .int .i64 x, .int .i64 (y : Int)] w fun e w' => (∃ v, e = .returned v) ∧ RowsAt w' B (Globe.putL L (modN x) y) ∧ w.grownBy w' (some B) := by
  have hm := modN_lt x
  have hBl := h.lt
  obtain ⟨K, hK⟩ : ∃ K, K = modN x := ⟨_, rfl⟩
  rw [← hK] at hm ⊢
  have hR := Globe.rowN_lt hv y
  have d3 : w.cell? ⟨B, y, none⟩ = some (.int .i64 (Globe.rowN L y : Nat)) := by rw [← Globe.rowN_cast hv]; exact h.cell hy
  have d4 := h.free hy
  obtain ⟨s0, s1, s2⟩ := p2_shl (n := K) (by omega)
  have s3 : bits .or .i64 (Globe.rowN L y : Nat) (p2 K : Nat) = ((Globe.rowN L y ||| p2 K : Nat) : Int) := or_i64 _ _ (by omega) (by omega)
  have y0 : (0 : Int) ≤ (y : Int) := by omega
  have y1 : (y : Int) < 24 := by omega
  have hput : L.set y ((Globe.rowN L y ||| p2 K : Nat) : Int) = Globe.putL L K y := rfl
  rw [← hput]
  clear s1 s2 hput hv
  have H := Lib.hid h; clear h
  generalize Globe.rowN L y ||| p2 K = RO at *
  rcases modN_cases x with ⟨m1, m2⟩ | ⟨m1, m2⟩
  all_goals
    obtain ⟨t0, t1⟩ := tmod_bd x
    rw [← hK] at m2
    clear hK
    go_enter Tryz.func136, Tryz.ntmps136
    go_wp2_with fail
    -- <<put
    refine wp_region_held_drew (S := fun w' => w'.cell? ⟨w.heap.size, 0, none⟩ = some (.slice (some ⟨B, 0, none⟩) 24 c)) (by kernel_rfl) (by simp [go_sem]) (fun hHeld => ?_)
    (refine rg_take 0 (v := ?_) rfl (by kernel_rfl) (by kernel_rfl) (by kernel_rfl) (fun _ _ _ h => h) (by kernel_rfl) ?_ (by with_reducible assumption) ?_; rotate_left; (focus (intro w hSw; (try dsimp only at hSw); go_simp; (try with_reducible rfl))); (try simp only [Act.put, List.setIfInBounds_toArray, List.set_cons_zero, List.set_cons_succ]))
    (refine rg_take 1 (v := ?_) rfl (by kernel_rfl) (by kernel_rfl) (by kernel_rfl) (fun _ _ _ h => h) (by kernel_rfl) ?_ (by with_reducible assumption) ?_; rotate_left; (focus (intro w hSw; (try dsimp only at hSw); go_simp; (try with_reducible rfl))); (try simp only [Act.put, List.setIfInBounds_toArray, List.set_cons_zero, List.set_cons_succ]))
    (refine rg_take 2 (v := ?_) rfl (by kernel_rfl) (by kernel_rfl) (by kernel_rfl) (fun _ _ _ h => h) (by kernel_rfl) ?_ (by with_reducible assumption) ?_; rotate_left; (focus (intro w hSw; (try dsimp only at hSw); go_simp; (try with_reducible rfl))); (try simp only [Act.put, List.setIfInBounds_toArray, List.set_cons_zero, List.set_cons_succ]))
    (refine rg_take 3 (v := ?_) rfl (by kernel_rfl) (by kernel_rfl) (by kernel_rfl) (fun _ _ _ h => h) (by kernel_rfl) ?_ (by with_reducible assumption) ?_; rotate_left; (focus (intro w hSw; (try dsimp only at hSw); go_simp; (try with_reducible rfl))); (try simp only [Act.put, List.setIfInBounds_toArray, List.set_cons_zero, List.set_cons_succ]))
    (refine rg_take 4 (v := ?_) rfl (by kernel_rfl) (by kernel_rfl) (by kernel_rfl) (fun _ _ _ h => h) (by kernel_rfl) ?_ (by with_reducible assumption) ?_; rotate_left; (focus (intro w hSw; (try dsimp only at hSw); go_simp; (try with_reducible rfl))); (try simp only [Act.put, List.setIfInBounds_toArray, List.set_cons_zero, List.set_cons_succ]))
    (refine rg_take 5 (v := ?_) rfl (by kernel_rfl) (by kernel_rfl) (by kernel_rfl) (fun _ _ _ h => h) (by kernel_rfl) ?_ (by with_reducible assumption) ?_; rotate_left; (focus (intro w hSw; (try dsimp only at hSw); go_simp; (try with_reducible rfl))); (try simp only [Act.put, List.setIfInBounds_toArray, List.set_cons_zero, List.set_cons_succ]))
    (refine rg_take 6 (v := ?_) rfl (by kernel_rfl) (by kernel_rfl) (by kernel_rfl) (fun _ _ _ h => h) (by kernel_rfl) ?_ (by with_reducible assumption) ?_; rotate_left; (focus (intro w hSw; (try dsimp only at hSw); go_simp; (try with_reducible rfl))); (try simp only [Act.put, List.setIfInBounds_toArray, List.set_cons_zero, List.set_cons_succ]))
    (refine rg_take 8 (v := ?_) rfl (by kernel_rfl) (by kernel_rfl) (by kernel_rfl) (fun _ _ _ h => h) (by kernel_rfl) ?_ (by with_reducible assumption) ?_; rotate_left; (focus (intro w hSw; (try dsimp only at hSw); go_simp; (try with_reducible rfl))); (try simp only [Act.put, List.setIfInBounds_toArray, List.set_cons_zero, List.set_cons_succ]))
    (refine rg_take 9 (v := ?_) rfl (by kernel_rfl) (by kernel_rfl) (by kernel_rfl) (fun _ _ _ h => h) (by kernel_rfl) ?_ (by with_reducible assumption) ?_; rotate_left; (focus (intro w hSw; (try dsimp only at hSw); go_simp; (try with_reducible rfl))); (try simp only [Act.put, List.setIfInBounds_toArray, List.set_cons_zero, List.set_cons_succ]))
    refine rg_step 7 rfl (by kernel_rfl) (by kernel_rfl) (fun K hK => ?_)
    (go_simp; skip; refine hK.out _ _ (hHeld) (fun hHeld => ?_); clear hK K; (try simp only [Act.put, List.setIfInBounds_toArray, List.set_cons_zero, List.set_cons_succ]))
    (refine rg_take 10 (v := ?_) rfl (by kernel_rfl) (by kernel_rfl) (by kernel_rfl) (fun _ _ _ h => h) (by kernel_rfl) ?_ (by with_reducible assumption) ?_; rotate_left; (focus (intro w hSw; (try dsimp only at hSw); go_simp; (try with_reducible rfl))); (try simp only [Act.put, List.setIfInBounds_toArray, List.set_cons_zero, List.set_cons_succ]))
    (refine rg_take 11 (v := ?_) rfl (by kernel_rfl) (by kernel_rfl) (by kernel_rfl) (fun _ _ _ h => h) (by kernel_rfl) ?_ (by with_reducible assumption) ?_; rotate_left; (focus (intro w hSw; (try dsimp only at hSw); go_simp; (try with_reducible rfl))); (try simp only [Act.put, List.setIfInBounds_toArray, List.set_cons_zero, List.set_cons_succ]))
    refine rg_step 12 rfl (by kernel_rfl) (by kernel_rfl) (fun K hK => ?_)
    (go_simp; skip; refine hK.out _ _ (by simp [go_sem]) (fun hHeld => ?_); clear hK K; (try simp only [Act.put, List.setIfInBounds_toArray, List.set_cons_zero, List.set_cons_succ]))
    refine wpAnyH_done (by kernel_rfl) ?_ _
    go_wp2
    go_end0
    exact ⟨⟨_, rfl⟩, ((H.out.set hy _).ext (Ext.alloc (Ext.refl _) _)).drew, grown_set (p := ⟨B, y, none⟩) rfl (Below.drew (Below.alloc (Below.refl _ _) (Nat.le_refl _) _))⟩
    -- >>
theorem ne_of_at9 {l1 l2 : List Int} {k : Nat} (h : Globe.nth l1 k ≠ Globe.nth l2 k) : decide (l1 = l2) = false := by
  rw [decide_eq_false_iff_not]; intro e; exact h (by rw [e])
set_option maxHeartbeats 1000000 in
theorem rSame_c {w1 w2 : World} {a1 : Option Addr} {l1 : List Int} {n1 : Nat} (c1 : Nat) {v1 : Bool} {a2 : Option Addr} {l2 : List Int} {n2 : Nat} (c2 : Nat) {v2 : Bool} (w : World) (h1 : AA w1 a1 l1 n1 v1) (e1 : Ext w1 w) (h2 : AA w2 a2 l2 n2 v2) (e2 : Ext w2 w) :
    Calls Tryz.prog 16 #[.agg #[.slice a1 n1 c1], .agg #[.slice a2 n2 c2]] w fun e w' => e = .returned (.bool (decide (l1 = l2))) ∧ Ext w w' := by
  replace h1 := h1.ext e1
  replace h2 := h2.ext e2
  clear e1 e2
  obtain ⟨i1, hn1, hl1, -⟩ := h1
  obtain ⟨i2, hn2, hl2, -⟩ := h2
  by_cases hne : n1 = n2
  · subst hne
    rcases Nat.eq_zero_or_pos n1 with h0 | h0
    · subst h0
      obtain rfl := List.length_eq_zero_iff.1 hn1
      obtain rfl := List.length_eq_zero_iff.1 hn2
      clear i1 i2 hn1 hn2 hl1 hl2
      go_enter Tryz.func16, Tryz.ntmps16
      go_wp2_with fail
      refine wp_loop_rounds 1 ?_
      rw [rounds_succ]
      go_wp2_with fail
      go_ret
      exact ⟨rfl, by (repeat' (first | (with_reducible assumption) | (with_reducible exact Ext.refl _) | (with_reducible refine Ext.alloc ?_ _) | (with_reducible refine Ext.drew ?_) | (with_reducible refine Ext.drewN ?_ _) | (with_reducible refine Ext.setCell ?_ ?_ _) | (with_reducible refine Ext.trans ?_ (by assumption)) | go_size))⟩
    · have e1 : ∃ b off, a1 = some ⟨b, off, none⟩ ∧ ∀ i, i < n1 → w.cell? ⟨b, off + i, none⟩ = some (.int .i64 (Globe.nth l1 i)) := by
        rcases i1 with rfl | ⟨b, off, rfl, h⟩
        · simp at hn1; omega
        · exact ⟨b, off, rfl, fun i hi => h i (by omega)⟩
      have e2 : ∃ b off, a2 = some ⟨b, off, none⟩ ∧ ∀ i, i < n1 → w.cell? ⟨b, off + i, none⟩ = some (.int .i64 (Globe.nth l2 i)) := by
        rcases i2 with rfl | ⟨b, off, rfl, h⟩
        · simp at hn2; omega
        · exact ⟨b, off, rfl, fun i hi => h i (by omega)⟩
      obtain ⟨b1, o1, rfl, r1⟩ := e1
      obtain ⟨b2, o2, rfl, r2⟩ := e2
      have R1 := Lib.hid r1; clear r1
      have R2 := Lib.hid r2; clear r2
      have Hn1 := Lib.hid hn1; clear hn1
      have Hn2 := Lib.hid hn2; clear hn2
      clear i1 i2 hl2
      go_enter Tryz.func16, Tryz.ntmps16
      go_wp2_with fail
      refine wp_name (fun V => Ext w V ∧ V.cell? ⟨w.heap.size, 0, none⟩ = some (.slice (some ⟨b1, o1, none⟩) n1 c1) ∧ V.cell? ⟨w.heap.size + 1, 0, none⟩ = some (.slice (some ⟨b2, o2, none⟩) n1 c2)) ⟨by (repeat' (first | (with_reducible assumption) | (with_reducible exact Ext.refl _) | (with_reducible refine Ext.alloc ?_ _) | (with_reducible refine Ext.drew ?_) | (with_reducible refine Ext.drewN ?_ _) | (with_reducible refine Ext.setCell ?_ ?_ _) | (with_reducible refine Ext.trans ?_ (by assumption)) | go_size)), by simp [go_sem], by simp [go_sem]⟩ ?_
      rintro V ⟨hV, k1, k2⟩
      go_loopw [5] (fun p wr => ∃ k : Nat, k ≤ n1 ∧ p = .int .i64 k ∧ Hid (∀ j, j < k → Globe.nth l1 j = Globe.nth l2 j) ∧ Ext V wr) (fun p _ => n1 - (intOf p).toNat)
      case atStart => exact ⟨0, by omega, rfl, fun j hj => by omega, Ext.refl _⟩
      case round =>
        obtain ⟨k, hk, rfl, Hp, hE⟩ := hrel
        replace k1 := hE.cell k1
        replace k2 := hE.cell k2
        by_cases hlt : k < n1
        · have d1 : wr.cell? ⟨b1, o1 + k, none⟩ = some (.int .i64 (Globe.nth l1 k)) := hE.cell (hV.cell (R1.out k hlt))
          have d2 : wr.cell? ⟨b2, o2 + k, none⟩ = some (.int .i64 (Globe.nth l2 k)) := hE.cell (hV.cell (R2.out k hlt))
          have kk0 : (0 : Int) ≤ (k : Int) := by omega
          have kk1 : (k : Int) < (n1 : Int) := by omega
          generalize hx : Globe.nth l1 k = x at *
          generalize hy : Globe.nth l2 k = y at *
          have Hx := Lib.hid hx; clear hx
          have Hy := Lib.hid hy; clear hy
          by_cases hxy : x = y
          · subst hxy
            go_wp2_with fail
            go_quiet (fail)
            go_wp2_with fail
            go_roundw
            case rel => exact ⟨k + 1, by omega, by go_num, fun j hj => by
              rcases Nat.lt_or_ge j k with h | h
              · exact Hp.out j h
              · rw [show j = k by omega, Hx.out, Hy.out], by (repeat' (first | (with_reducible assumption) | (with_reducible exact Ext.refl _) | (with_reducible refine Ext.alloc ?_ _) | (with_reducible refine Ext.drew ?_) | (with_reducible refine Ext.drewN ?_ _) | (with_reducible refine Ext.setCell ?_ ?_ _) | (with_reducible refine Ext.trans ?_ (by assumption)) | go_size))⟩
            case measure => simp [intOf]; omega
          · go_wp2_with fail
            go_quiet (fail)
            go_wp2_with fail
            go_ret
            exact ⟨ret_bool (ne_of_at9 (k := k) (by rw [Hx.out, Hy.out]; exact hxy)).symm, by (repeat' (first | (with_reducible assumption) | (with_reducible exact Ext.refl _) | (with_reducible refine Ext.alloc ?_ _) | (with_reducible refine Ext.drew ?_) | (with_reducible refine Ext.drewN ?_ _) | (with_reducible refine Ext.setCell ?_ ?_ _) | (with_reducible refine Ext.trans ?_ (by assumption)) | go_size))⟩
        · obtain rfl : k = n1 := by omega
          go_wp2_with fail
          go_ret
          exact ⟨ret_bool (by rw [eq_comm, decide_eq_true_eq]; exact Globe.ext_nth (by rw [Hn1.out, Hn2.out]) fun j hj => Hp.out j (by rw [← Hn1.out]; exact hj)), by (repeat' (first | (with_reducible assumption) | (with_reducible exact Ext.refl _) | (with_reducible refine Ext.alloc ?_ _) | (with_reducible refine Ext.drew ?_) | (with_reducible refine Ext.drewN ?_ _) | (with_reducible refine Ext.setCell ?_ ?_ _) | (with_reducible refine Ext.trans ?_ (by assumption)) | go_size))⟩
  · have hd : decide (l1 = l2) = false := by
      rw [decide_eq_false_iff_not]; intro e; subst e; exact hne (by omega)
    have hni : ¬ (n1 : Int) = (n2 : Int) := by omega
    have Hd := Lib.hid hd; clear hd
    clear i1 i2 hn1 hn2
    go_enter Tryz.func16, Tryz.ntmps16
    go_wp2_with fail
    go_ret
    exact ⟨ret_bool (by rw [Hd.out]), by (repeat' (first | (with_reducible assumption) | (with_reducible exact Ext.refl _) | (with_reducible refine Ext.alloc ?_ _) | (with_reducible refine Ext.drew ?_) | (with_reducible refine Ext.drewN ?_ _) | (with_reducible refine Ext.setCell ?_ ?_ _) | (with_reducible refine Ext.trans ?_ (by assumption)) | go_size))⟩
end Go.Proofs.YtajdohcgjgknmaaGreatDoor

namespace Go.Proofs.YtajdohcgjgknmaaGreatDoor
namespace Globe
def allCells (n : Nat) : List (Nat × Nat) := (List.range n).flatMap fun y => (List.range 48).map fun x => (x, y)
theorem cellsTo_filter (l : List Int) (n : Nat) : cellsTo l n = (allCells n).filter fun p => hasL l p.1 p.2 := by
  unfold cellsTo allCells
  rw [List.filter_flatMap]
  congr 1
  funext y
  unfold rowCells bitsN
  rw [List.filter_map]
  rfl
theorem count_eq (l : List Int) (n : Nat) : (cellsTo l n).length = (allCells n).countP fun p => hasL l p.1 p.2 := by
  rw [cellsTo_filter, List.countP_eq_length_filter]
theorem count_zero_iff {l : List Int} (h : validL l = true) : (cellsTo l 24).length = 0 ↔ l = zeroL := by
  constructor
  · intro e
    have e' : cellsTo l 24 = [] := List.length_eq_zero_iff.1 e
    refine ext_has h valid_zero fun x y hx hy => ?_
    rw [has_zero]
    cases hh : hasL l x y
    · rfl
    · have := (mem_cells (n := 24) (p := (x, y))).2 ⟨hy, hx, hh⟩
      rw [e'] at this
      cases this
  · rintro rfl
    rw [count_eq]
    rw [List.countP_eq_zero]
    intro p _
    rw [has_zero]; simp
def containsB (a b : List Int) : Bool := validL a && validL b && decide (lessL b a = zeroL)
theorem contains_iff {a b : List Int} (ha : validL a = true) (hb : validL b = true) : containsB a b = true ↔ ∀ x y, x < 48 → y < 24 → hasL b x y = true → hasL a x y = true := by
  unfold containsB
  rw [ha, hb]
  simp only [Bool.true_and, decide_eq_true_eq]
  constructor
  · intro e x y hx hy h
    have := has_less (a := b) (b := a) (x := x) hy
    rw [e, has_zero, h] at this
    simpa using this
  · intro h
    refine ext_has (less_valid hb) valid_zero fun x y hx hy => ?_
    rw [has_zero, has_less hy]
    cases hh : hasL b x y
    · rfl
    · rw [h x y hx hy hh]; rfl
end Globe
end Go.Proofs.YtajdohcgjgknmaaGreatDoor

namespace Go.Proofs.YtajdohcgjgknmaaGreatDoor
namespace Globe
def before (p q : Nat × Nat) : Prop := p.2 < q.2 ∨ (p.2 = q.2 ∧ p.1 < q.1)
def outTo (cs : List (Nat × Nat)) : List Int := cs.foldl (fun l p => putL l p.1 p.2) zeroL
theorem outTo_nil : outTo [] = zeroL := rfl
theorem outTo_snoc (cs : List (Nat × Nat)) (p : Nat × Nat) : outTo (cs ++ [p]) = putL (outTo cs) p.1 p.2 := by simp [outTo]
theorem outTo_spec : ∀ n (cs : List (Nat × Nat)), cs.length = n → (∀ p ∈ cs, p.1 < 48 ∧ p.2 < 24) → validL (outTo cs) = true ∧ ∀ x y, hasL (outTo cs) x y = decide ((x, y) ∈ cs)
  | 0, cs, hn, _ => by
    obtain rfl := List.length_eq_zero_iff.1 hn
    exact ⟨valid_zero, fun x y => by rw [outTo_nil, has_zero]; simp⟩
  | n + 1, cs, hn, h => by
    have hne : cs ≠ [] := by intro e; subst e; simp at hn
    obtain ⟨ds, p, rfl⟩ : ∃ ds p, cs = ds ++ [p] := ⟨_, _, (List.dropLast_concat_getLast hne).symm⟩
    have ih := outTo_spec n ds (by simpa using hn) (fun q hq => h q (by simp [hq]))
    have hp := h p (by simp)
    rw [outTo_snoc]
    refine ⟨valid_put ih.1 hp.1, fun x y => ?_⟩
    rw [has_put (by rw [len_of_valid ih.1]; exact hp.2), ih.2, Bool.eq_iff_iff]
    simp only [Bool.or_eq_true, decide_eq_true_eq, Bool.and_eq_true, List.mem_append, List.mem_singleton]
    constructor
    · rintro (h | ⟨rfl, rfl⟩)
      · exact .inl h
      · exact .inr rfl
    · rintro (h | h)
      · exact .inl h
      · exact .inr ⟨(congrArg Prod.fst h).symm, (congrArg Prod.snd h).symm⟩
end Globe
end Go.Proofs.YtajdohcgjgknmaaGreatDoor

namespace Go.Proofs.YtajdohcgjgknmaaGreatDoor
open Go.RowKit
open Globe (outTo outTo_snoc outTo_nil outTo_spec)
theorem grown_ext {V w1 w2 : World} {B : Nat} (hg : V.grownBy w1 (some B)) (hE : Ext w1 w2) : V.grownBy w2 (some B) :=
  ⟨hE.os.trans hg.os, hE.tape.trans hg.tape, hE.output.trans hg.output, Nat.le_trans hg.size hE.size, fun k hk hne => (Below.block hE k (Nat.lt_of_lt_of_le hk hg.size)).trans (hg.block k hk hne)⟩
theorem modN_nat (n : Int) (m : Nat) (h : n = (m : Int)) : modN n = m % 48 := by subst h; unfold modN; omega
theorem put_r {B : Nat} {pts : List (Nat × Nat)} {Y : Nat} (c : Nat) (x y : Int) (w : World) (h : RowsAt w B (outTo pts)) (hp : ∀ p ∈ pts, p.1 < 48 ∧ p.2 < 24) (e : y = (Y : Int)) (hy : Y < 24) :
    Calls Tryz.prog 136 #[.agg #[.slice (some ⟨B, 0, none⟩) 24 c], .int .i64 x, .int .i64 y] w fun e w' => (∃ v, e = .returned v) ∧ RowsAt w' B (outTo (pts ++ [(modN x, Y)])) ∧ w.grownBy w' (some B) := by
  subst e
  rw [outTo_snoc]
  exact put_c B c (outTo pts) x Y w h (outTo_spec _ _ rfl hp).1 hy
def rowSel (f : Nat → Nat → Bool) (y x : Nat) : List (Nat × Nat) := ((List.range x).filter fun i => f i y).map fun i => (i, y)
def selTo (f : Nat → Nat → Bool) (y : Nat) : List (Nat × Nat) := (List.range y).flatMap fun j => rowSel f j 48
theorem rowSel_zero (f : Nat → Nat → Bool) (y : Nat) : rowSel f y 0 = [] := by simp [rowSel]
theorem rowSel_yes {f : Nat → Nat → Bool} {y x : Nat} (h : f x y = true) : rowSel f y (x + 1) = rowSel f y x ++ [(x, y)] := by
  unfold rowSel; rw [List.range_succ, List.filter_append, List.map_append]; simp [h]
theorem rowSel_no {f : Nat → Nat → Bool} {y x : Nat} (h : f x y = false) : rowSel f y (x + 1) = rowSel f y x := by
  unfold rowSel; rw [List.range_succ, List.filter_append, List.map_append]; simp [h]
theorem selTo_succ (f : Nat → Nat → Bool) (y : Nat) : selTo f (y + 1) = selTo f y ++ rowSel f y 48 := by simp [selTo, List.range_succ]
theorem mem_rowSel {f : Nat → Nat → Bool} {y x : Nat} {p : Nat × Nat} : p ∈ rowSel f y x ↔ p.1 < x ∧ p.2 = y ∧ f p.1 y = true := by
  simp only [rowSel, List.mem_map, List.mem_filter, List.mem_range]
  constructor
  · rintro ⟨i, ⟨h1, h2⟩, rfl⟩; exact ⟨h1, rfl, h2⟩
  · rintro ⟨h1, h2, h3⟩; exact ⟨p.1, ⟨h1, h3⟩, by rw [← h2]⟩
theorem mem_selTo {f : Nat → Nat → Bool} {y : Nat} {p : Nat × Nat} : p ∈ selTo f y ↔ p.1 < 48 ∧ p.2 < y ∧ f p.1 p.2 = true := by
  simp only [selTo, List.mem_flatMap, List.mem_range, mem_rowSel]
  constructor
  · rintro ⟨j, hj, h1, rfl, h3⟩; exact ⟨h1, hj, h3⟩
  · rintro ⟨h1, h2, h3⟩; exact ⟨p.2, h2, h1, rfl, h3⟩
theorem sel_in {f : Nat → Nat → Bool} {y x : Nat} (hy : y < 24) (hx : x ≤ 48) : ∀ p ∈ selTo f y ++ rowSel f y x, p.1 < 48 ∧ p.2 < 24 := by
  intro p hp
  rcases List.mem_append.1 hp with hp | hp
  · obtain ⟨h1, h2, _⟩ := mem_selTo.1 hp; omega
  · obtain ⟨h1, h2, _⟩ := mem_rowSel.1 hp; omega
theorem sel_all {f : Nat → Nat → Bool} : ∀ p ∈ selTo f 24, p.1 < 48 ∧ p.2 < 24 := fun p hp => by obtain ⟨h1, h2, _⟩ := mem_selTo.1 hp; omega
theorem out_sel {f : Nat → Nat → Bool} {L : List Int} (hL : Globe.validL L = true) (h : ∀ x y, x < 48 → y < 24 → Globe.hasL L x y = f x y) : outTo (selTo f 24) = L := by
  have hs := outTo_spec _ _ rfl (sel_all (f := f))
  refine Globe.ext_has hs.1 hL fun x y hx hy => ?_
  rw [hs.2, h x y hx hy, Bool.eq_iff_iff, decide_eq_true_eq, mem_selTo]
  exact ⟨fun h => h.2.2, fun h => ⟨hx, hy, h⟩⟩
def tb (t0 t1 t2 t3 a b : Bool) : Bool := match a, b with
  | false, false => t0
  | false, true => t1
  | true, false => t2
  | true, true => t3
set_option maxHeartbeats 4000000 in
theorem joined_v {w1 w2 : World} {b1 o1 b2 o2 : Nat} (c1 c2 : Nat) {l1 l2 : List Int} (t0 t1 t2 t3 : Bool) (w : World) (h1 : VA w1 b1 o1 l1) (e1 : Ext w1 w) (h2 : VA w2 b2 o2 l2) (e2 : Ext w2 w) :
    Calls Tryz.prog 116 #[.agg #[.slice (some ⟨b1, o1, none⟩) 24 c1], .agg #[.slice (some ⟨b2, o2, none⟩) 24 c2], .agg #[.bool t0, .bool t1, .bool t2, .bool t3]] w (RetV w (outTo (selTo (fun x y => tb t0 t1 t2 t3 (Globe.hasL l1 x y) (Globe.hasL l2 x y)) 24))) := by
  have H1 := Lib.hid (h1.ext e1); have H2 := Lib.hid (h2.ext e2)
  clear h1 h2 e1 e2
  obtain ⟨f, hf⟩ : ∃ f, f = (fun x y => tb t0 t1 t2 t3 (Globe.hasL l1 x y) (Globe.hasL l2 x y)) := ⟨_, rfl⟩
  rw [← hf]
  have HF := Lib.hid hf; clear hf
  go_enter Tryz.func116, Tryz.ntmps116
  go_wp2_with (first | (go_at_call 74; refine (rValid_c _ _ (by first | exact H1.out.aa | exact H2.out.aa) (by (repeat' (first | (with_reducible assumption) | (with_reducible exact Ext.refl _) | (with_reducible refine Ext.alloc ?_ _) | (with_reducible refine Ext.drew ?_) | (with_reducible refine Ext.drewN ?_ _) | (with_reducible refine Ext.setCell ?_ ?_ _) | (with_reducible refine Ext.trans ?_ (by assumption)) | go_size)))).mono ?_; rintro e w4 ⟨rfl, hb4⟩; have hc4 := hb4.cellE; have hf4 := hb4.frozenE; have hz4 := hb4.size; have ha4 := alloc_keeps w4; (try simp only [World.size_alloc] at hc4 hf4 hz4); (try simp only [World.size_setCell] at hc4 hf4 hz4); (try simp only [World.size_drew] at hc4 hf4 hz4)) | (go_at_call 38; refine (rEmpty_c _).mono ?_; rintro e w3 ⟨B, rfl, hB, hr, hb3⟩; have hc3 := hb3.cellE; have hf3 := hb3.frozenE; have hz3 := hb3.size; have ha3 := alloc_keeps w3; (try simp only [World.size_alloc] at hc3 hf3 hz3); (try simp only [World.size_setCell] at hc3 hf3 hz3); (try simp only [World.size_drew] at hc3 hf3 hz3)))
  obtain ⟨O, hO⟩ : ∃ O, O = w3.heap.size := ⟨_, rfl⟩
  rw [← hO]
  have hwB : w.heap.size + 1 + 1 + 1 < B := by omega
  have hBO : B < O := by have := hr.lt; omega
  refine wp_name (fun V => Ext w V ∧ V.cell? ⟨w.heap.size, 0, none⟩ = some (.slice (some ⟨b1, o1, none⟩) 24 c1) ∧ V.cell? ⟨w.heap.size + 1, 0, none⟩ = some (.slice (some ⟨b2, o2, none⟩) 24 c2) ∧ V.cell? ⟨w.heap.size + 1 + 1, 0, none⟩ = some (.bool t0) ∧ V.cell? ⟨w.heap.size + 1 + 1, 1, none⟩ = some (.bool t1) ∧ V.cell? ⟨w.heap.size + 1 + 1, 2, none⟩ = some (.bool t2) ∧ V.cell? ⟨w.heap.size + 1 + 1, 3, none⟩ = some (.bool t3) ∧ BoxAt V (w.heap.size + 1 + 1 + 1) 0 (.slice none 0 0) ∧ V.cell? ⟨O, 0, none⟩ = some (.slice (some ⟨B, 0, none⟩) 24 24) ∧ RowsAt V B (outTo (selTo f 0))) ⟨by (repeat' (first | (with_reducible assumption) | (with_reducible exact Ext.refl _) | (with_reducible refine Ext.alloc ?_ _) | (with_reducible refine Ext.drew ?_) | (with_reducible refine Ext.drewN ?_ _) | (with_reducible refine Ext.setCell ?_ ?_ _) | (with_reducible refine Ext.trans ?_ (by assumption)) | go_size)), ?_, ?_, ?_, ?_, ?_, ?_, ?_, by rw [hO]; simp [go_sem], hr.ext (by (repeat' (first | (with_reducible assumption) | (with_reducible exact Ext.refl _) | (with_reducible refine Ext.alloc ?_ _) | (with_reducible refine Ext.drew ?_) | (with_reducible refine Ext.drewN ?_ _) | (with_reducible refine Ext.setCell ?_ ?_ _) | (with_reducible refine Ext.trans ?_ (by assumption)) | go_size)))⟩ ?_
  · (repeat' (first | (with_reducible assumption) | (simp [go_sem]; done) | (with_reducible refine Ext.cell (Ext.alloc (Ext.refl _) _) ?_) | (with_reducible refine Ext.cell (by with_reducible assumption) ?_)))
  · (repeat' (first | (with_reducible assumption) | (simp [go_sem]; done) | (with_reducible refine Ext.cell (Ext.alloc (Ext.refl _) _) ?_) | (with_reducible refine Ext.cell (by with_reducible assumption) ?_)))
  · (repeat' (first | (with_reducible assumption) | (simp [go_sem]; done) | (with_reducible refine Ext.cell (Ext.alloc (Ext.refl _) _) ?_) | (with_reducible refine Ext.cell (by with_reducible assumption) ?_)))
  · (repeat' (first | (with_reducible assumption) | (simp [go_sem]; done) | (with_reducible refine Ext.cell (Ext.alloc (Ext.refl _) _) ?_) | (with_reducible refine Ext.cell (by with_reducible assumption) ?_)))
  · (repeat' (first | (with_reducible assumption) | (simp [go_sem]; done) | (with_reducible refine Ext.cell (Ext.alloc (Ext.refl _) _) ?_) | (with_reducible refine Ext.cell (by with_reducible assumption) ?_)))
  · (repeat' (first | (with_reducible assumption) | (simp [go_sem]; done) | (with_reducible refine Ext.cell (Ext.alloc (Ext.refl _) _) ?_) | (with_reducible refine Ext.cell (by with_reducible assumption) ?_)))
  · (repeat' (first | (with_reducible assumption) | (exact ⟨by simp [go_sem], by simp [go_sem]⟩) | (with_reducible refine BoxAt.ext (Ext.alloc (Ext.refl _) _) ?_) | (with_reducible refine BoxAt.ext (by with_reducible assumption) ?_)))
  clear hO hB hr hb3 hc3 hf3 hz3 ha3 hb4 hc4 hf4 hz4 ha4
  clear hb4 hc4 hf4 hz4 ha4
  rintro V ⟨hE, cA, cB, cT0, cT1, cT2, cT3, b6, cO, hr⟩
  have lO : O < V.heap.size := World.block_lt_of_cell? V _ cO
  have HV1 := Lib.hid (H1.out.ext hE); have HV2 := Lib.hid (H2.out.ext hE)
  have lb1 := HV1.out.lt; have lb2 := HV2.out.lt
  have nb1 : b1 < w.heap.size := H1.out.lt
  have nb2 : b2 < w.heap.size := H2.out.lt
  go_loopw [9] (fun p wr => ∃ y : Nat, y ≤ 24 ∧ p = .int .i64 y ∧ RowsAt wr B (outTo (selTo f y)) ∧ V.grownBy wr (some B)) (fun p _ => 24 - (intOf p).toNat)
  case atStart => exact ⟨0, by omega, rfl, hr, grown_refl _ _⟩
  case round =>
    clear hr
    obtain ⟨y, hy, rfl, hr, hg⟩ := hrel
    have Hr := Lib.hid hr; clear hr
    by_cases hlt : y < 24
    · have y1 : (y : Int) < 24 := by omega
      go_wp2_with fail
      go_loopw [10] (fun p wr => ∃ x : Nat, x ≤ 48 ∧ p = .int .i64 x ∧ RowsAt wr B (outTo (selTo f y ++ rowSel f y x)) ∧ V.grownBy wr (some B)) (fun p _ => 48 - (intOf p).toNat)
      case atStart => exact ⟨0, by omega, rfl, by rw [rowSel_zero, List.append_nil]; exact Hr.out, hg⟩
      case round =>
        clear hg
        obtain ⟨x, hx, rfl, hr, hg⟩ := hrel
        have Hr := Lib.hid hr; clear hr
        by_cases hlx : x < 48
        · have x1 : (x : Int) < 48 := by omega
          have hsz := hg.size
          have dA := grown_cell hg cA (by show w.heap.size ≠ B; omega)
          have dB := grown_cell hg cB (by show w.heap.size + 1 ≠ B; omega)
          have v1 : VA wr b1 o1 l1 := ⟨fun i hi => grown_cell hg (HV1.out.1 i hi) (by show b1 ≠ B; omega), HV1.out.2⟩
          have v2 : VA wr b2 o2 l2 := ⟨fun i hi => grown_cell hg (HV2.out.1 i hi) (by show b2 ≠ B; omega), HV2.out.2⟩
          have dT0 := grown_cell hg cT0 (by show w.heap.size + 1 + 1 ≠ B; omega)
          have dT1 := grown_cell hg cT1 (by show w.heap.size + 1 + 1 ≠ B; omega)
          have dT2 := grown_cell hg cT2 (by show w.heap.size + 1 + 1 ≠ B; omega)
          have dT3 := grown_cell hg cT3 (by show w.heap.size + 1 + 1 ≠ B; omega)
          have dO := grown_cell hg cO (by show O ≠ B; omega)
          have HW1 := Lib.hid v1; have HW2 := Lib.hid v2; clear v1 v2
          have lO2 : O < wr.heap.size := World.block_lt_of_cell? wr _ dO
          have hfx : f x y = tb t0 t1 t2 t3 (Globe.hasL l1 x y) (Globe.hasL l2 x y) := by rw [HF.out]
          have hin := sel_in (f := f) (y := y) (x := x) hlt hx
          have Hin := Lib.hid hin; clear hin
          obtain ⟨ha, hha⟩ : ∃ r, Globe.hasL l1 x y = r := ⟨_, rfl⟩
          obtain ⟨hb, hhb⟩ : ∃ r, Globe.hasL l2 x y = r := ⟨_, rfl⟩
          rw [hha, hhb] at hfx
          have HHA := Lib.hid hha; have HHB := Lib.hid hhb; clear hha hhb
          obtain ⟨tv, htv⟩ : ∃ r, tb t0 t1 t2 t3 ha hb = r := ⟨_, rfl⟩
          rw [htv] at hfx
          have HFX := Lib.hid hfx; clear hfx
          cases ha <;> cases hb
          all_goals
            dsimp only [tb] at htv
            subst htv
            go_wp2_with fail
            refine (rhas_v c1 _ HW1.out (Ext.refl _) hlx hlt HHA.out).mono ?_
            rintro e w4 ⟨rfl, hb4⟩
            have hc4 := hb4.cellE; have hf4 := hb4.frozenE; have hz4 := hb4.size; have ha4 := alloc_keeps w4; (try simp only [World.size_alloc] at hc4 hf4 hz4); (try simp only [World.size_setCell] at hc4 hf4 hz4); (try simp only [World.size_drew] at hc4 hf4 hz4)
            go_wp2_with fail
            refine (rhas_v c2 _ HW2.out hb4 hlx hlt HHB.out).mono ?_
            rintro e w5 ⟨rfl, hb5⟩
            have hx5 := hb4.trans hb5
            have dT0' := hx5.cell dT0; have dT1' := hx5.cell dT1; have dT2' := hx5.cell dT2; have dT3' := hx5.cell dT3; have dO' := hx5.cell dO
            clear hc4 hf4 hz4 ha4 dT0 dT1 dT2 dT3 dO dA dB
            have hg5 := grown_ext hg hx5
            have Hr5 := Lib.hid (Hr.out.ext hx5)
            obtain ⟨fv, hfv⟩ : ∃ r, f x y = r := ⟨_, rfl⟩
            have e := HFX.out
            rw [hfv] at e
            have HFV := Lib.hid hfv
            clear hfv HFX HF
            subst e
            cases fv
            · go_wp2_with fail
              go_roundw
              case rel => exact ⟨x + 1, by omega, by go_num, by rw [rowSel_no HFV.out]; exact Hr5.out, hg5⟩
              case measure => simp [intOf]; omega
            · go_wp2_with fail
              refine (put_r 24 _ _ _ Hr5.out Hin.out (Y := y) rfl hlt).mono ?_
              rintro e w6 ⟨⟨v, rfl⟩, hr2, hg2⟩
              rw [modN_nat _ x rfl, Nat.mod_eq_of_lt hlx, List.append_assoc, ← rowSel_yes HFV.out] at hr2
              have Hr2 := Lib.hid hr2; clear hr2
              go_wp2_with fail
              go_roundw
              case rel => exact ⟨x + 1, by omega, by go_num, Hr2.out, grown_trans hg5 hg2⟩
              case measure => simp [intOf]; omega
        · obtain rfl : x = 48 := by omega
          go_wp2_with fail
          go_roundw
          case rel => exact ⟨y + 1, by omega, by go_num, by rw [selTo_succ]; exact Hr.out, hg⟩
          case measure => simp [intOf]; omega
    · obtain rfl : y = 24 := by omega
      have dO := grown_cell hg cO (by show O ≠ B; omega)
      obtain ⟨d6, f6⟩ := BoxAt.grown hg b6 (by show w.heap.size + 1 + 1 + 1 ≠ B; omega)
      have hE2 := Ext.grown hE hg (by omega)
      have hr3 := Hr.out.other (p := ⟨w.heap.size + 1 + 1 + 1, 0, none⟩) (by show w.heap.size + 1 + 1 + 1 ≠ B; omega) (.slice (some ⟨B, 0, none⟩) 24 24)
      have hv3 := (outTo_spec _ _ rfl (sel_all (f := f))).1
      have H3 := Lib.hid hr3; have Hv3 := Lib.hid hv3; clear hr3 hv3 hg
      go_wp2_with fail
      exact bodyPost_ret (v := .tuple #[.agg #[.slice (some ⟨B, 0, none⟩) 24 24], .int .i64 0]) (by simp [results, Tryz.results116, go_sem, d6]) rfl ⟨B, 24, rfl, by omega, H3.out, H3.out.va Hv3.out, by (repeat' (first | (with_reducible assumption) | (with_reducible exact Ext.refl _) | (with_reducible refine Ext.alloc ?_ _) | (with_reducible refine Ext.drew ?_) | (with_reducible refine Ext.drewN ?_ _) | (with_reducible refine Ext.setCell ?_ ?_ _) | (with_reducible refine Ext.trans ?_ (by assumption)) | go_size))⟩
theorem joined_n {w1 w2 : World} {a1 : Option Addr} {l1 : List Int} {n1 : Nat} (c1 : Nat) {v1 : Bool} {a2 : Option Addr} {l2 : List Int} {n2 : Nat} (c2 : Nat) {v2 : Bool} (t0 t1 t2 t3 : Bool) (w : World) (h1 : AA w1 a1 l1 n1 v1) (e1 : Ext w1 w) (h2 : AA w2 a2 l2 n2 v2) (e2 : Ext w2 w) (hv : (v1 && v2) = false) :
    Calls Tryz.prog 116 #[.agg #[.slice a1 n1 c1], .agg #[.slice a2 n2 c2], .agg #[.bool t0, .bool t1, .bool t2, .bool t3]] w (RetErr w 50) := by
  have H1 := Lib.hid (h1.ext e1); have H2 := Lib.hid (h2.ext e2)
  clear h1 h2 e1 e2
  cases v1
  · clear hv
    go_enter Tryz.func116, Tryz.ntmps116
    go_wp2_with (go_at_call 74; refine (rValid_c _ _ H1.out (by (repeat' (first | (with_reducible assumption) | (with_reducible exact Ext.refl _) | (with_reducible refine Ext.alloc ?_ _) | (with_reducible refine Ext.drew ?_) | (with_reducible refine Ext.drewN ?_ _) | (with_reducible refine Ext.setCell ?_ ?_ _) | (with_reducible refine Ext.trans ?_ (by assumption)) | go_size)))).mono ?_; rintro e w1 ⟨rfl, hb⟩; have hc := hb.cellE; have hf := hb.frozenE; have hz := hb.size; have ha := alloc_keeps w1; (try simp only [World.size_alloc] at hc hf hz); (try simp only [World.size_setCell] at hc hf hz); (try simp only [World.size_drew] at hc hf hz))
    ((try simp only [Exit.inBlock, Exit.then]); refine bodyPost_ret (v := .tuple #[.agg #[.slice none 0 0], .int .i64 50]) (by simp [results, Tryz.results116, go_sem, *]) rfl ?_)
    exact ⟨rfl, by (repeat' (first | (with_reducible assumption) | (with_reducible exact Ext.refl _) | (with_reducible refine Ext.alloc ?_ _) | (with_reducible refine Ext.drew ?_) | (with_reducible refine Ext.drewN ?_ _) | (with_reducible refine Ext.setCell ?_ ?_ _) | (with_reducible refine Ext.trans ?_ (by assumption)) | go_size))⟩
  · obtain rfl : v2 = false := by simpa using hv
    clear hv
    go_enter Tryz.func116, Tryz.ntmps116
    go_wp2_with (first | (go_at_call 74; (with_reducible refine (rValid_c _ _ H1.out (by (repeat' (first | (with_reducible assumption) | (with_reducible exact Ext.refl _) | (with_reducible refine Ext.alloc ?_ _) | (with_reducible refine Ext.drew ?_) | (with_reducible refine Ext.drewN ?_ _) | (with_reducible refine Ext.setCell ?_ ?_ _) | (with_reducible refine Ext.trans ?_ (by assumption)) | go_size)))).mono ?_); rintro e w1 ⟨rfl, hb⟩; have hc := hb.cellE; have hf := hb.frozenE; have hz := hb.size; have ha := alloc_keeps w1; (try simp only [World.size_alloc] at hc hf hz); (try simp only [World.size_setCell] at hc hf hz); (try simp only [World.size_drew] at hc hf hz)) | (go_at_call 74; refine (rValid_c _ _ H2.out (by (repeat' (first | (with_reducible assumption) | (with_reducible exact Ext.refl _) | (with_reducible refine Ext.alloc ?_ _) | (with_reducible refine Ext.drew ?_) | (with_reducible refine Ext.drewN ?_ _) | (with_reducible refine Ext.setCell ?_ ?_ _) | (with_reducible refine Ext.trans ?_ (by assumption)) | go_size)))).mono ?_; rintro e w2 ⟨rfl, hb2⟩; have hc2 := hb2.cellE; have hf2 := hb2.frozenE; have hz2 := hb2.size; have ha2 := alloc_keeps w2; (try simp only [World.size_alloc] at hc2 hf2 hz2); (try simp only [World.size_setCell] at hc2 hf2 hz2); (try simp only [World.size_drew] at hc2 hf2 hz2)))
    ((try simp only [Exit.inBlock, Exit.then]); refine bodyPost_ret (v := .tuple #[.agg #[.slice none 0 0], .int .i64 50]) (by simp [results, Tryz.results116, go_sem, *]) rfl ?_)
    exact ⟨rfl, by (repeat' (first | (with_reducible assumption) | (with_reducible exact Ext.refl _) | (with_reducible refine Ext.alloc ?_ _) | (with_reducible refine Ext.drew ?_) | (with_reducible refine Ext.drewN ?_ _) | (with_reducible refine Ext.setCell ?_ ?_ _) | (with_reducible refine Ext.trans ?_ (by assumption)) | go_size))⟩
theorem rMeet_v {w1 w2 : World} {b1 o1 b2 o2 : Nat} (c1 c2 : Nat) {l1 l2 : List Int} (w : World) (h1 : VA w1 b1 o1 l1) (e1 : Ext w1 w) (h2 : VA w2 b2 o2 l2) (e2 : Ext w2 w) :
    Calls Tryz.prog 85 #[.agg #[.slice (some ⟨b1, o1, none⟩) 24 c1], .agg #[.slice (some ⟨b2, o2, none⟩) 24 c2]] w (RetV w (Globe.meetL l1 l2)) := by
  replace h1 := h1.ext e1
  replace h2 := h2.ext e2
  clear e1 e2
  have hs : outTo (selTo (fun x y => tb false false false true (Globe.hasL l1 x y) (Globe.hasL l2 x y)) 24) = Globe.meetL l1 l2 := out_sel (Globe.meet_valid (b := l2) h1.2) fun x y hx hy => by
    rw [Globe.has_meet hy]; cases Globe.hasL l1 x y <;> cases Globe.hasL l2 x y <;> rfl
  have H1 := Lib.hid h1; have H2 := Lib.hid h2; have HS := Lib.hid hs; have HV := Lib.hid (Globe.meet_valid (b := l2) h1.2); clear h1 h2 hs
  go_enter Tryz.func85, Tryz.ntmps85
  go_wp2_with (go_at_call 116; refine (joined_v _ _ _ _ _ _ _ H1.out (by (repeat' (first | (with_reducible assumption) | (with_reducible exact Ext.refl _) | (with_reducible refine Ext.alloc ?_ _) | (with_reducible refine Ext.drew ?_) | (with_reducible refine Ext.drewN ?_ _) | (with_reducible refine Ext.setCell ?_ ?_ _) | (with_reducible refine Ext.trans ?_ (by assumption)) | go_size))) H2.out (by (repeat' (first | (with_reducible assumption) | (with_reducible exact Ext.refl _) | (with_reducible refine Ext.alloc ?_ _) | (with_reducible refine Ext.drew ?_) | (with_reducible refine Ext.drewN ?_ _) | (with_reducible refine Ext.setCell ?_ ?_ _) | (with_reducible refine Ext.trans ?_ (by assumption)) | go_size)))).mono ?_; rw [HS.out]; rintro e w1 ⟨B, k, rfl, hB, hr, hv, hb⟩; have hc := hb.cellE; have hf := hb.frozenE; have hz := hb.size; have ha := alloc_keeps w1; (try simp only [World.size_alloc] at hc hf hz); (try simp only [World.size_setCell] at hc hf hz); (try simp only [World.size_drew] at hc hf hz))
  have hne : w.heap.size + 1 + 1 ≠ B := by first | omega | (simp at hB; omega)
  have hr3 := hr.other (p := ⟨w.heap.size + 1 + 1, 0, none⟩) hne (.slice (some ⟨B, 0, none⟩) 24 k)
  refine bodyPost_ret (v := .tuple #[.agg #[.slice (some ⟨B, 0, none⟩) 24 k], .int .i64 0]) (by simp [results, Tryz.results85, go_sem, hc]) rfl ⟨B, k, rfl, by first | omega | (simp at hB; omega), hr3, hr3.va HV.out, by (repeat' (first | (with_reducible assumption) | (with_reducible exact Ext.refl _) | (with_reducible refine Ext.alloc ?_ _) | (with_reducible refine Ext.drew ?_) | (with_reducible refine Ext.drewN ?_ _) | (with_reducible refine Ext.setCell ?_ ?_ _) | (with_reducible refine Ext.trans ?_ (by assumption)) | go_size))⟩
theorem rLess_v {w1 w2 : World} {b1 o1 b2 o2 : Nat} (c1 c2 : Nat) {l1 l2 : List Int} (w : World) (h1 : VA w1 b1 o1 l1) (e1 : Ext w1 w) (h2 : VA w2 b2 o2 l2) (e2 : Ext w2 w) :
    Calls Tryz.prog 112 #[.agg #[.slice (some ⟨b1, o1, none⟩) 24 c1], .agg #[.slice (some ⟨b2, o2, none⟩) 24 c2]] w (RetV w (Globe.lessL l1 l2)) := by
  replace h1 := h1.ext e1
  replace h2 := h2.ext e2
  clear e1 e2
  have hs : outTo (selTo (fun x y => tb false false true false (Globe.hasL l1 x y) (Globe.hasL l2 x y)) 24) = Globe.lessL l1 l2 := out_sel (Globe.less_valid (b := l2) h1.2) fun x y hx hy => by
    rw [Globe.has_less hy]; cases Globe.hasL l1 x y <;> cases Globe.hasL l2 x y <;> rfl
  have H1 := Lib.hid h1; have H2 := Lib.hid h2; have HS := Lib.hid hs; have HV := Lib.hid (Globe.less_valid (b := l2) h1.2); clear h1 h2 hs
  go_enter Tryz.func112, Tryz.ntmps112
  go_wp2_with (go_at_call 116; refine (joined_v _ _ _ _ _ _ _ H1.out (by (repeat' (first | (with_reducible assumption) | (with_reducible exact Ext.refl _) | (with_reducible refine Ext.alloc ?_ _) | (with_reducible refine Ext.drew ?_) | (with_reducible refine Ext.drewN ?_ _) | (with_reducible refine Ext.setCell ?_ ?_ _) | (with_reducible refine Ext.trans ?_ (by assumption)) | go_size))) H2.out (by (repeat' (first | (with_reducible assumption) | (with_reducible exact Ext.refl _) | (with_reducible refine Ext.alloc ?_ _) | (with_reducible refine Ext.drew ?_) | (with_reducible refine Ext.drewN ?_ _) | (with_reducible refine Ext.setCell ?_ ?_ _) | (with_reducible refine Ext.trans ?_ (by assumption)) | go_size)))).mono ?_; rw [HS.out]; rintro e w1 ⟨B, k, rfl, hB, hr, hv, hb⟩; have hc := hb.cellE; have hf := hb.frozenE; have hz := hb.size; have ha := alloc_keeps w1; (try simp only [World.size_alloc] at hc hf hz); (try simp only [World.size_setCell] at hc hf hz); (try simp only [World.size_drew] at hc hf hz))
  have hne : w.heap.size + 1 + 1 ≠ B := by first | omega | (simp at hB; omega)
  have hr3 := hr.other (p := ⟨w.heap.size + 1 + 1, 0, none⟩) hne (.slice (some ⟨B, 0, none⟩) 24 k)
  refine bodyPost_ret (v := .tuple #[.agg #[.slice (some ⟨B, 0, none⟩) 24 k], .int .i64 0]) (by simp [results, Tryz.results112, go_sem, hc]) rfl ⟨B, k, rfl, by first | omega | (simp at hB; omega), hr3, hr3.va HV.out, by (repeat' (first | (with_reducible assumption) | (with_reducible exact Ext.refl _) | (with_reducible refine Ext.alloc ?_ _) | (with_reducible refine Ext.drew ?_) | (with_reducible refine Ext.drewN ?_ _) | (with_reducible refine Ext.setCell ?_ ?_ _) | (with_reducible refine Ext.trans ?_ (by assumption)) | go_size))⟩
theorem rLess_n {w1 w2 : World} {a1 : Option Addr} {l1 : List Int} {n1 : Nat} (c1 : Nat) {v1 : Bool} {a2 : Option Addr} {l2 : List Int} {n2 : Nat} (c2 : Nat) {v2 : Bool} (w : World) (h1 : AA w1 a1 l1 n1 v1) (e1 : Ext w1 w) (h2 : AA w2 a2 l2 n2 v2) (e2 : Ext w2 w) (hv : (v1 && v2) = false) :
    Calls Tryz.prog 112 #[.agg #[.slice a1 n1 c1], .agg #[.slice a2 n2 c2]] w (RetErr w 50) := by
  have H1 := Lib.hid (h1.ext e1); have H2 := Lib.hid (h2.ext e2)
  clear h1 h2 e1 e2
  go_enter Tryz.func112, Tryz.ntmps112
  go_wp2_with (go_at_call 116; refine (joined_n _ _ _ _ _ _ _ H1.out (by (repeat' (first | (with_reducible assumption) | (with_reducible exact Ext.refl _) | (with_reducible refine Ext.alloc ?_ _) | (with_reducible refine Ext.drew ?_) | (with_reducible refine Ext.drewN ?_ _) | (with_reducible refine Ext.setCell ?_ ?_ _) | (with_reducible refine Ext.trans ?_ (by assumption)) | go_size))) H2.out (by (repeat' (first | (with_reducible assumption) | (with_reducible exact Ext.refl _) | (with_reducible refine Ext.alloc ?_ _) | (with_reducible refine Ext.drew ?_) | (with_reducible refine Ext.drewN ?_ _) | (with_reducible refine Ext.setCell ?_ ?_ _) | (with_reducible refine Ext.trans ?_ (by assumption)) | go_size))) hv).mono ?_; rintro e w1 ⟨rfl, hb⟩; have hc := hb.cellE; have hf := hb.frozenE; have hz := hb.size; have ha := alloc_keeps w1; (try simp only [World.size_alloc] at hc hf hz); (try simp only [World.size_setCell] at hc hf hz); (try simp only [World.size_drew] at hc hf hz))
  ((try simp only [Exit.inBlock, Exit.then]); refine bodyPost_ret (v := .tuple #[.agg #[.slice none 0 0], .int .i64 50]) (by simp [results, Tryz.results112, go_sem, *]) rfl ?_)
  exact ⟨rfl, by (repeat' (first | (with_reducible assumption) | (with_reducible exact Ext.refl _) | (with_reducible refine Ext.alloc ?_ _) | (with_reducible refine Ext.drew ?_) | (with_reducible refine Ext.drewN ?_ _) | (with_reducible refine Ext.setCell ?_ ?_ _) | (with_reducible refine Ext.trans ?_ (by assumption)) | go_size))⟩
theorem rContains_c {w1 w2 : World} {a1 : Option Addr} {l1 : List Int} {n1 : Nat} (c1 : Nat) {v1 : Bool} {a2 : Option Addr} {l2 : List Int} {n2 : Nat} (c2 : Nat) {v2 : Bool} (w : World) (h1 : AA w1 a1 l1 n1 v1) (e1 : Ext w1 w) (h2 : AA w2 a2 l2 n2 v2) (e2 : Ext w2 w) :
    Calls Tryz.prog 83 #[.agg #[.slice a1 n1 c1], .agg #[.slice a2 n2 c2]] w fun e w' => e = .returned (.bool (Globe.containsB l1 l2)) ∧ Ext w w' := by
  replace h1 := h1.ext e1
  replace h2 := h2.ext e2
  clear e1 e2
  have hcb : Globe.containsB l1 l2 = (v1 && v2 && decide (Globe.lessL l2 l1 = Globe.zeroL)) := by unfold Globe.containsB; rw [h1.2.2.2, h2.2.2.2]
  rw [hcb]
  clear hcb
  cases hq : (v2 && v1)
  · have hq' : (v1 && v2) = false := by rw [Bool.and_comm]; exact hq
    rw [hq']
    have H1 := Lib.hid h1; have H2 := Lib.hid h2; have HQ := Lib.hid hq
    clear h1 h2 hq hq'
    go_enter Tryz.func83, Tryz.ntmps83
    go_wp2_with (go_at_call 112; refine (rLess_n _ _ _ H2.out (by (repeat' (first | (with_reducible assumption) | (with_reducible exact Ext.refl _) | (with_reducible refine Ext.alloc ?_ _) | (with_reducible refine Ext.drew ?_) | (with_reducible refine Ext.drewN ?_ _) | (with_reducible refine Ext.setCell ?_ ?_ _) | (with_reducible refine Ext.trans ?_ (by assumption)) | go_size))) H1.out (by (repeat' (first | (with_reducible assumption) | (with_reducible exact Ext.refl _) | (with_reducible refine Ext.alloc ?_ _) | (with_reducible refine Ext.drew ?_) | (with_reducible refine Ext.drewN ?_ _) | (with_reducible refine Ext.setCell ?_ ?_ _) | (with_reducible refine Ext.trans ?_ (by assumption)) | go_size))) HQ.out).mono ?_; rintro e w1 ⟨rfl, hb⟩; have hc := hb.cellE; have hf := hb.frozenE; have hz := hb.size; have ha := alloc_keeps w1; (try simp only [World.size_alloc] at hc hf hz); (try simp only [World.size_setCell] at hc hf hz); (try simp only [World.size_drew] at hc hf hz))
    go_ret
    exact ⟨rfl, by (repeat' (first | (with_reducible assumption) | (with_reducible exact Ext.refl _) | (with_reducible refine Ext.alloc ?_ _) | (with_reducible refine Ext.drew ?_) | (with_reducible refine Ext.drewN ?_ _) | (with_reducible refine Ext.setCell ?_ ?_ _) | (with_reducible refine Ext.trans ?_ (by assumption)) | go_size))⟩
  · obtain ⟨rfl, rfl⟩ := Bool.and_eq_true_iff.1 hq
    clear hq
    obtain ⟨b1, o1, rfl, rfl, r1⟩ := h1.va
    obtain ⟨b2, o2, rfl, rfl, r2⟩ := h2.va
    have hz := Globe.count_zero_iff (Globe.less_valid (b := l1) r2.2)
    obtain ⟨m, hm⟩ : ∃ m, (Globe.cellsTo (Globe.lessL l2 l1) 24).length = m := ⟨_, rfl⟩
    have hcl : Globe.countL (Globe.lessL l2 l1) = m := by unfold Globe.countL Globe.cellsL; rw [Globe.less_valid r2.2]; exact hm
    rw [hm] at hz
    have HC := Lib.hid hcl; have H1 := Lib.hid r1; have H2 := Lib.hid r2
    clear hm hcl h1 h2 r1 r2
    by_cases h0 : m = 0
    · rw [decide_eq_true (hz.1 h0)]
      subst h0
      clear hz
      go_enter Tryz.func83, Tryz.ntmps83
      go_wp2_with (first | (go_at_call 112; refine (rLess_v _ _ _ H2.out (by (repeat' (first | (with_reducible assumption) | (with_reducible exact Ext.refl _) | (with_reducible refine Ext.alloc ?_ _) | (with_reducible refine Ext.drew ?_) | (with_reducible refine Ext.drewN ?_ _) | (with_reducible refine Ext.setCell ?_ ?_ _) | (with_reducible refine Ext.trans ?_ (by assumption)) | go_size))) H1.out (by (repeat' (first | (with_reducible assumption) | (with_reducible exact Ext.refl _) | (with_reducible refine Ext.alloc ?_ _) | (with_reducible refine Ext.drew ?_) | (with_reducible refine Ext.drewN ?_ _) | (with_reducible refine Ext.setCell ?_ ?_ _) | (with_reducible refine Ext.trans ?_ (by assumption)) | go_size)))).mono ?_; rintro e w1 ⟨B, k, rfl, hB, hr, hv, hb⟩; clear hr hB; have hc := hb.cellE; have hf := hb.frozenE; have hz := hb.size; have ha := alloc_keeps w1; (try simp only [World.size_alloc] at hc hf hz); (try simp only [World.size_setCell] at hc hf hz); (try simp only [World.size_drew] at hc hf hz)) | (go_at_call 82; refine (rCount_c _ _ hv.aa (by first | exact Ext.refl _ | exact Ext.alloc (Ext.refl _) _)).mono ?_; rw [HC.out]; rintro e w2 ⟨rfl, hb2⟩; have hc2 := hb2.cellE; have hf2 := hb2.frozenE; have hz2 := hb2.size; have ha2 := alloc_keeps w2; (try simp only [World.size_alloc] at hc2 hf2 hz2); (try simp only [World.size_setCell] at hc2 hf2 hz2); (try simp only [World.size_drew] at hc2 hf2 hz2)))
      go_ret
      exact ⟨rfl, by (repeat' (first | (with_reducible assumption) | (with_reducible exact Ext.refl _) | (with_reducible refine Ext.alloc ?_ _) | (with_reducible refine Ext.drew ?_) | (with_reducible refine Ext.drewN ?_ _) | (with_reducible refine Ext.setCell ?_ ?_ _) | (with_reducible refine Ext.trans ?_ (by assumption)) | go_size))⟩
    · rw [decide_eq_false (fun e => h0 (hz.2 e))]
      have m1 : ((m : Int) == 0) = false := by simp; omega
      have m2 : (m == 0) = false := by simp; omega
      clear hz
      go_enter Tryz.func83, Tryz.ntmps83
      go_wp2_with (first | (go_at_call 112; refine (rLess_v _ _ _ H2.out (by (repeat' (first | (with_reducible assumption) | (with_reducible exact Ext.refl _) | (with_reducible refine Ext.alloc ?_ _) | (with_reducible refine Ext.drew ?_) | (with_reducible refine Ext.drewN ?_ _) | (with_reducible refine Ext.setCell ?_ ?_ _) | (with_reducible refine Ext.trans ?_ (by assumption)) | go_size))) H1.out (by (repeat' (first | (with_reducible assumption) | (with_reducible exact Ext.refl _) | (with_reducible refine Ext.alloc ?_ _) | (with_reducible refine Ext.drew ?_) | (with_reducible refine Ext.drewN ?_ _) | (with_reducible refine Ext.setCell ?_ ?_ _) | (with_reducible refine Ext.trans ?_ (by assumption)) | go_size)))).mono ?_; rintro e w1 ⟨B, k, rfl, hB, hr, hv, hb⟩; clear hr hB; have hc := hb.cellE; have hf := hb.frozenE; have hz := hb.size; have ha := alloc_keeps w1; (try simp only [World.size_alloc] at hc hf hz); (try simp only [World.size_setCell] at hc hf hz); (try simp only [World.size_drew] at hc hf hz)) | (go_at_call 82; refine (rCount_c _ _ hv.aa (by first | exact Ext.refl _ | exact Ext.alloc (Ext.refl _) _)).mono ?_; rw [HC.out]; rintro e w2 ⟨rfl, hb2⟩; have hc2 := hb2.cellE; have hf2 := hb2.frozenE; have hz2 := hb2.size; have ha2 := alloc_keeps w2; (try simp only [World.size_alloc] at hc2 hf2 hz2); (try simp only [World.size_setCell] at hc2 hf2 hz2); (try simp only [World.size_drew] at hc2 hf2 hz2)))
      go_ret
      exact ⟨rfl, by (repeat' (first | (with_reducible assumption) | (with_reducible exact Ext.refl _) | (with_reducible refine Ext.alloc ?_ _) | (with_reducible refine Ext.drew ?_) | (with_reducible refine Ext.drewN ?_ _) | (with_reducible refine Ext.setCell ?_ ?_ _) | (with_reducible refine Ext.trans ?_ (by assumption)) | go_size))⟩
end Go.Proofs.YtajdohcgjgknmaaGreatDoor

namespace Go.Proofs.YtajdohcgjgknmaaGreatDoor
open Go.RowKit
def look : List (Nat × Value) → (Nat → Value) → Nat → Value
  | [], f, k => f k
  | (d, v) :: ws, f, k => if k = d then v else look ws f k
theorem look_nil (f : Nat → Value) (k : Nat) : look [] f k = f k := rfl
theorem look_cons (d : Nat) (v : Value) (ws : List (Nat × Value)) (f : Nat → Value) (k : Nat) : look ((d, v) :: ws) f k = if k = d then v else look ws f k := rfl
def base (L : List Value) (t : Nat) : Value := L.toArray.getD t undef
def evalW (L : List Value) (ws : List (Nat × Value)) : Operand → Value
  | .tmp t => look ws (base L) t
  | o => Act.eval ⟨#[], []⟩ o
theorem evalW_tmp (L : List Value) (ws : List (Nat × Value)) (t : Nat) : evalW L ws (.tmp t) = look ws (base L) t := rfl
theorem evalW_const (L : List Value) (ws : List (Nat × Value)) (v : Value) : evalW L ws (.const v) = v := rfl
theorem evalW_func (L : List Value) (ws : List (Nat × Value)) (f : FuncId) : evalW L ws (.func f) = .func (.func f) #[] #[] := rfl
def setAll (L : List Value) : List (Nat × Value) → List Value
  | [] => L
  | (d, v) :: ws => (setAll L ws).set d v
theorem setAll_len (L : List Value) : ∀ ws, (setAll L ws).length = L.length
  | [] => rfl
  | (d, v) :: ws => by rw [setAll, List.length_set, setAll_len L ws]
theorem setAll_get (L : List Value) : ∀ ws : List (Nat × Value), (∀ p ∈ ws, p.1 < L.length) → ∀ t, (setAll L ws).toArray.getD t undef = look ws (base L) t
  | [], _, t => rfl
  | (d, v) :: ws, h, t => by
    have ih := setAll_get L ws (fun p hp => h p (List.mem_cons_of_mem _ hp)) t
    have hd : d < (setAll L ws).length := by rw [setAll_len]; exact h (d, v) (by simp)
    rw [look_cons, ← ih, setAll]
    by_cases e : t = d
    · subst e; simp [hd]
    · have e' : d ≠ t := fun c => e c.symm
      simp [e, List.getElem?_set_ne e']
def lset (m : Nat) : List Nat → Array Bool
  | [] => Array.replicate m false
  | i :: r => (lset m r).setIfInBounds i true
theorem lset_size (m : Nat) : ∀ l, (lset m l).size = m
  | [] => by simp [lset]
  | i :: r => by simp [lset, lset_size m r]
theorem lset_get (m : Nat) (b : Bool) : ∀ (l : List Nat) (j : Nat), (lset m l).getD j b = if j < m then l.contains j else b
  | [], j => by by_cases h : j < m <;> simp [lset, h]
  | i :: r, j => by
    have ih := lset_get m b r j
    have hs := lset_size m r
    by_cases h : j < m
    · rw [if_pos h] at ih ⊢
      by_cases e : i = j
      · subst e; simp [lset, hs, h]
      · have e2 : j ≠ i := fun c => e c.symm
        simp only [lset, Array.getD_eq_getD_getElem?, Array.getElem?_setIfInBounds_ne e, List.contains_cons] at ih ⊢
        rw [ih]
        have : (j == i) = false := by simp [e2]
        rw [this, Bool.false_or]
    · rw [if_neg h] at ih ⊢
      have h1 : m ≤ j := by omega
      simp [lset, hs, h1]
abbrev Row := Option Nat × List Nat × List Nat
def waits (o : Oper) : List Nat := (o.after.toList.filter (Region.binds .any)).map (·.on)
def rowOf (ops : Array Oper) (o : Oper) : Row := (o.dst, o.looksAt ops, waits o)
def tableR (ops : Array Oper) : List Row := ops.toList.map (rowOf ops)
def ordered (x y : Row × Nat) : Bool := x.1.2.2.contains y.2 || y.1.2.2.contains x.2
def fits (x y : Row × Nat) : Bool :=
  (match x.1.1 with
   | some d => (!(y.1.2.1.contains d) || ordered x y) && (!(y.1.1 == some d) || ordered x y)
   | none => true) &&
  (match y.1.1 with
   | some d => !(x.1.2.1.contains d) || ordered x y
   | none => true)
def fitsAll (x : Row × Nat) : List (Row × Nat) → Bool
  | [] => true
  | y :: r => fits x y && fitsAll x r
def goodL : List (Row × Nat) → Bool
  | [] => true
  | x :: r => fitsAll x r && goodL r
def numbered : List Row → Nat → List (Row × Nat)
  | [], _ => []
  | x :: r, k => (x, k) :: numbered r (k + 1)
def inRB (n : Nat) : List Row → Bool
  | [] => true
  | x :: r => (match x.1 with | some d => Nat.blt d n | none => true) && inRB n r
def inA (m : Nat) : List Row → Bool
  | [] => true
  | x :: r => x.2.2.all (fun k => Nat.blt k m) && inA m r
def goodT (n m : Nat) (T : List Row) : Bool := goodL (numbered T 0) && (inRB n T && inA m T)
theorem fits_comm (x y : Row × Nat) (h : fits x y = true) : fits y x = true := by
  obtain ⟨⟨dx, lx, ax⟩, i⟩ := x
  obtain ⟨⟨dy, ly, ay⟩, j⟩ := y
  have e : ∀ a b : Bool, (a || b) = (b || a) := fun a b => Bool.or_comm a b
  cases dx <;> cases dy <;> simp only [fits, ordered, Bool.and_true, Bool.true_and] at h ⊢
  · rw [e (ay.contains i)]; simpa using h
  · rw [e (ay.contains i)]; simpa using h
  · rename_i d d'
    rw [e (ay.contains i)]
    simp only [Bool.and_eq_true] at h ⊢
    obtain ⟨⟨h1, h2⟩, h3⟩ := h
    refine ⟨⟨h3, ?_⟩, h1⟩
    by_cases c : d = d'
    · subst c; simpa using h2
    · have : (some d == some d') = false := by simp [c]
      rw [this]; rfl
theorem fitsAll_mem {x y : Row × Nat} : ∀ {l}, fitsAll x l = true → y ∈ l → fits x y = true
  | z :: r, h, hy => by
    simp only [fitsAll, Bool.and_eq_true] at h
    rcases List.mem_cons.1 hy with rfl | hy
    · exact h.1
    · exact fitsAll_mem h.2 hy
theorem goodL_mem {x y : Row × Nat} : ∀ {l}, goodL l = true → x ∈ l → y ∈ l → x ≠ y → fits x y = true
  | z :: r, h, hx, hy, hne => by
    simp only [goodL, Bool.and_eq_true] at h
    rcases List.mem_cons.1 hx with e1 | h1
    · rcases List.mem_cons.1 hy with e2 | h2
      · exact absurd (e1.trans e2.symm) hne
      · rw [e1]; exact fitsAll_mem h.1 h2
    · rcases List.mem_cons.1 hy with e2 | h2
      · rw [e2]; exact fits_comm _ _ (fitsAll_mem h.1 h1)
      · exact goodL_mem h.2 h1 h2 hne
theorem mem_numbered : ∀ {T : List Row} {k i : Nat} {x : Row}, T[i]? = some x → (x, k + i) ∈ numbered T k
  | y :: r, k, 0, x, h => by simp at h; subst h; simp [numbered]
  | y :: r, k, i + 1, x, h => by
    simp at h
    have := mem_numbered (k := k + 1) h
    rw [numbered, show k + (i + 1) = k + 1 + i by omega]
    exact List.mem_cons_of_mem _ this
theorem inRB_get {n : Nat} : ∀ {T : List Row} {i : Nat} {x : Row} {d : Nat}, inRB n T = true → T[i]? = some x → x.1 = some d → d < n
  | y :: r, 0, x, d, h, hx, hd => by
    simp at hx; subst hx
    simp only [inRB, Bool.and_eq_true, hd] at h
    exact Nat.blt_eq.mp h.1
  | y :: r, i + 1, x, d, h, hx, hd => by
    simp only [inRB, Bool.and_eq_true] at h
    exact inRB_get h.2 (by simpa using hx) hd
theorem inA_get {m : Nat} : ∀ {T : List Row} {i : Nat} {x : Row}, inA m T = true → T[i]? = some x → ∀ k ∈ x.2.2, k < m
  | y :: r, 0, x, h, hx => by
    simp at hx; subst hx
    simp only [inA, Bool.and_eq_true] at h
    exact fun k hk => Nat.blt_eq.mp (List.all_eq_true.1 h.1 k hk)
  | y :: r, i + 1, x, h, hx => by
    simp only [inA, Bool.and_eq_true] at h
    exact inA_get h.2 (by simpa using hx)
section
variable {P : Program} {ops : Array Oper} {Q : Exit → Act → World → Prop} {S : World → Prop} {T : List Row}
theorem table_get {i : Nat} {oi : Oper} (ht : tableR ops = T) (hi : ops[i]? = some oi) : T[i]? = some (rowOf ops oi) := by
  rw [← ht]; simp [tableR, hi]
theorem table_len (ht : tableR ops = T) : T.length = ops.size := by rw [← ht]; simp [tableR]
def readyT (T : List Row) (done : List Nat) (i : Nat) : Bool := !done.contains i && match T.drop i with | (_, _, a) :: _ => a.all (fun k => done.contains k) | [] => false
theorem lt_of_get {α : Type} {l : Array α} {i : Nat} {x : α} (h : l[i]? = some x) : i < l.size := by
  rcases Nat.lt_or_ge i l.size with h1 | h1
  · exact h1
  · rw [Array.getElem?_eq_none h1] at h; cases h
theorem drop_get {α : Type} {l : List α} {i : Nat} {x : α} (h : l[i]? = some x) : ∃ r, l.drop i = x :: r := by
  have hl : i < l.length := by
    rcases Nat.lt_or_ge i l.length with h1 | h1
    · exact h1
    · rw [List.getElem?_eq_none h1] at h; cases h
  rw [List.getElem?_eq_getElem hl] at h
  exact ⟨_, by rw [List.drop_eq_getElem_cons hl]; simp at h; rw [h]⟩
theorem mem_waits {o : Oper} {e : Edge} (he : e ∈ o.after) (hb : Region.binds .any e = true) : e.on ∈ waits o := by
  unfold waits
  rw [List.mem_map]
  exact ⟨e, by rw [List.mem_filter]; exact ⟨by simpa using he, hb⟩, rfl⟩
theorem waits_mem {o : Oper} {k : Nat} (h : k ∈ waits o) : ∃ e ∈ o.after, Region.binds .any e = true ∧ e.on = k := by
  unfold waits at h
  rw [List.mem_map] at h
  obtain ⟨e, h1, h2⟩ := h
  rw [List.mem_filter] at h1
  exact ⟨e, by simpa using h1.1, h1.2, h2⟩
theorem ready_iff {done : List Nat} {i : Nat} {oi : Oper} (hi : ops[i]? = some oi) (hin : ∀ k ∈ waits oi, k < ops.size) :
    i ∈ Region.ready .any ops (lset ops.size done) ↔ done.contains i = false ∧ ∀ k ∈ waits oi, done.contains k = true := by
  have hlt := lt_of_get hi
  rw [mem_ready, lset_get, if_pos hlt]
  constructor
  · rintro ⟨h1, o, ho, h2⟩
    rw [hi] at ho; cases ho
    refine ⟨h1, fun k hk => ?_⟩
    obtain ⟨e, he, hb, rfl⟩ := waits_mem hk
    have := h2 e he hb
    rwa [lset_get, if_pos (hin _ hk)] at this
  · rintro ⟨h1, h2⟩
    refine ⟨h1, oi, hi, fun e he hb => ?_⟩
    rw [lset_get, if_pos (hin _ (mem_waits he hb))]
    exact h2 _ (mem_waits he hb)
theorem readyT_mem {n : Nat} {done : List Nat} {i : Nat} {oi : Oper} (ht : tableR ops = T) (hg : goodT n ops.size T = true) (hi : ops[i]? = some oi) (h : readyT T done i = true) :
    i ∈ Region.ready .any ops (lset ops.size done) := by
  have hT := table_get ht hi
  simp only [goodT, Bool.and_eq_true] at hg
  rw [ready_iff hi (inA_get hg.2.2 hT)]
  obtain ⟨r, hr⟩ := drop_get hT
  unfold readyT at h
  rw [hr] at h
  simp only [rowOf, Bool.and_eq_true] at h
  exact ⟨by simpa using h.1, List.all_eq_true.1 h.2⟩
theorem apart_of_good {n : Nat} {done : List Nat} {i : Nat} {oi : Oper} (ht : tableR ops = T) (hg : goodT n ops.size T = true) (hi : ops[i]? = some oi) (hr : readyT T done i = true)
    (j : Nat) (oj : Oper) (hj : ops[j]? = some oj) (hne : j ≠ i) (hun : (lset ops.size done).getD j true = false) (hno : ∀ e ∈ oj.after, Region.binds .any e = true → e.on ≠ i) : oi.apart ops oj = true := by
  have hmi := readyT_mem ht hg hi hr
  have hTi := table_get ht hi
  have hTj := table_get ht hj
  simp only [goodT, Bool.and_eq_true] at hg
  rw [ready_iff hi (inA_get hg.2.2 hTi)] at hmi
  rw [lset_get, if_pos (lt_of_get hj)] at hun
  have hf := goodL_mem hg.1 (mem_numbered (k := 0) hTi) (mem_numbered (k := 0) hTj) (by
    intro c
    have := congrArg Prod.snd c
    simp at this
    exact hne this.symm)
  have hord : ordered (rowOf ops oi, 0 + i) (rowOf ops oj, 0 + j) = false := by
    simp only [ordered, rowOf, Nat.zero_add, Bool.or_eq_false_iff]
    constructor
    · rcases h : (waits oi).contains j with _ | _
      · rfl
      · have := hmi.2 j (by simpa using h)
        rw [hun] at this; cases this
    · rcases h : (waits oj).contains i with _ | _
      · rfl
      · obtain ⟨e, he, hb, hk⟩ := waits_mem (o := oj) (k := i) (by simpa using h)
        exact absurd hk (hno e he hb)
  unfold fits at hf
  rw [hord] at hf
  simp only [rowOf, Bool.or_false] at hf
  unfold Oper.apart
  cases h1 : oi.dst <;> cases h2 : oj.dst <;> rw [h1, h2] at hf <;> first | rfl | simpa [bne] using hf
def W (P : Program) (ops : Array Oper) (Q : Exit → Act → World → Prop) (S : World → Prop) (L : List Value) (ds : List Deferred) (fuel : Nat) (done : List Nat) (ws : List (Nat × Value)) (w : World) : Prop :=
  (∀ p ∈ ws, p.1 < L.length) → wpAnyH P .any ops Q S fuel (lset ops.size done) ⟨(setAll L ws).toArray, ds⟩ w
theorem eval_W {L : List Value} {ws : List (Nat × Value)} (h : ∀ p ∈ ws, p.1 < L.length) (ds : List Deferred) : Act.eval ⟨(setAll L ws).toArray, ds⟩ = evalW L ws := by
  funext o
  cases o with
  | tmp t => exact setAll_get L ws h t
  | const v => rfl
  | global g => rfl
  | func f => rfl
def putW : Option Nat → Value → List (Nat × Value) → List (Nat × Value)
  | some d, v, ws => (d, v) :: ws
  | none, _, ws => ws
theorem put_W (L : List Value) (ws : List (Nat × Value)) (ds : List Deferred) (d : Option Nat) (v : Value) : Act.put ⟨(setAll L ws).toArray, ds⟩ d v = ⟨(setAll L (putW d v ws)).toArray, ds⟩ := by
  cases d with
  | none => rfl
  | some d => simp [Act.put, putW, setAll]
theorem putW_lt {L : List Value} {ws : List (Nat × Value)} {d : Option Nat} {v : Value} (h : ∀ p ∈ ws, p.1 < L.length) (hd : ∀ k, d = some k → k < L.length) : ∀ p ∈ putW d v ws, p.1 < L.length := by
  cases d with
  | none => exact h
  | some d =>
    intro p hp
    rcases List.mem_cons.1 hp with rfl | hp
    · exact hd _ rfl
    · exact h p hp
def wantedW (T : List Row) (L : List Value) (ws : List (Nat × Value)) : Option (Nat × Bool) → Bool
  | none => true
  | some (g, want) => match T.drop g with
    | (some d, _, _) :: _ => (match look ws (base L) d with | .bool b => b == want | _ => false)
    | _ => false
theorem wanted_W {n : Nat} {L : List Value} {ws : List (Nat × Value)} {o : Oper} {b : Bool} (ds : List Deferred) (ht : tableR ops = T) (hg : goodT L.length n T = true) (h : ∀ p ∈ ws, p.1 < L.length) (hw : wantedW T L ws o.guard = b) :
    Region.wanted o (yielded ops (⟨(setAll L ws).toArray, ds⟩ : Act).tmps) = b := by
  subst hw
  unfold Region.wanted wantedW
  cases hgd : o.guard with
  | none => rfl
  | some p =>
    obtain ⟨g, want⟩ := p
    simp only [yielded]
    cases hj : ops[g]? with
    | none =>
      have : T.drop g = [] := by
        rw [List.drop_eq_nil_iff, table_len ht]
        rcases Nat.lt_or_ge g ops.size with h1 | h1
        · rw [Array.getElem?_eq_getElem h1] at hj; cases hj
        · exact h1
      rw [this]; rfl
    | some og =>
      have hT := table_get ht hj
      obtain ⟨r, hr⟩ := drop_get hT
      rw [hr]
      simp only [rowOf, Option.bind_some]
      cases hd : og.dst with
      | none => rfl
      | some d =>
        simp only [goodT, Bool.and_eq_true] at hg
        have hlt : d < L.length := inRB_get hg.2.1 hT hd
        have hget := setAll_get L ws h d
        have hlt2 : d < (setAll L ws).toArray.size := by simp [setAll_len, hlt]
        simp only [Array.getD, hlt2, dif_pos] at hget
        simp only [Option.bind_some]
        rw [Array.getElem?_eq_getElem hlt2]
        have e : (setAll L ws).toArray[d] = look ws (base L) d := hget
        rw [e]
        cases look ws (base L) d <;> rfl
section
variable {L : List Value} {ds : List Deferred} {fuel : Nat} {done : List Nat} {ws : List (Nat × Value)} {w : World}
structure Reg (P : Program) (ops0 ops : Array Oper) (Q : Exit → Act → World → Prop) (L : List Value) (T : List Row) : Prop where
  ops_eq : ops = ops0
  tab : tableR ops = T
  good : goodT L.length ops.size T = true
  nosel : Region.noSelect ops = true
  calm : ∀ c d v a w, Q (.panic c) (Act.put a d v) w → Q (.panic c) a w
variable {ops0 : Array Oper}
theorem dst_lt (hR : Reg P ops0 ops Q L T) {i : Nat} {oi : Oper} (hi : ops[i]? = some oi) : ∀ k, oi.dst = some k → k < L.length := fun k hk => by
  have := hR.good
  simp only [goodT, Bool.and_eq_true] at this
  exact inRB_get this.2.1 (table_get hR.tab hi) hk
theorem op_at (hR : Reg P ops0 ops Q L T) {i : Nat} {oi : Oper} {r : List Oper} (hi : ops0.toList.drop i = oi :: r) : ops[i]? = some oi := by
  rw [hR.ops_eq, ← Array.getElem?_toList, ← Nat.add_zero i, ← List.getElem?_drop, hi]; rfl
theorem wg_take (i : Nat) {oi : Oper} {r : List Oper} {v : Value} (hR : Reg P ops0 ops Q L T) (hi : ops0.toList.drop i = oi :: r) (hr : readyT T done i = true)
    (hw : wantedW T L ws oi.guard = true) (hy : ∀ w, S w → (execOp (evalW L ws) oi).run P w = .ok (.value v) w) (hS : S w)
    (h : W P ops Q S L ds fuel (i :: done) (putW oi.dst v ws) w) : W P ops Q S L ds (fuel + 1) done ws w := fun hb => by
  have ho := op_at hR hi
  refine wpAnyH_first (v := v) ho (Region.noSelect_spec hR.nosel) (fun c a w => hR.calm c _ _ a w) fuel _ _ w (apart_of_good hR.tab hR.good ho hr) (readyT_mem hR.tab hR.good ho hr) ?_ hS ?_
  · exact .inl ⟨wanted_W ds hR.tab hR.good hb hw, fun w hw => by rw [eval_W hb]; exact hy w hw⟩
  · rw [put_W]; exact h (putW_lt hb (dst_lt hR ho))
theorem wg_skip (i : Nat) {oi : Oper} {r : List Oper} (hR : Reg P ops0 ops Q L T) (hi : ops0.toList.drop i = oi :: r) (hr : readyT T done i = true)
    (hw : wantedW T L ws oi.guard = false) (hS : S w)
    (h : W P ops Q S L ds fuel (i :: done) (putW oi.dst undef ws) w) : W P ops Q S L ds (fuel + 1) done ws w := fun hb => by
  have ho := op_at hR hi
  refine wpAnyH_first (v := undef) ho (Region.noSelect_spec hR.nosel) (fun c a w => hR.calm c _ _ a w) fuel _ _ w (apart_of_good hR.tab hR.good ho hr) (readyT_mem hR.tab hR.good ho hr) ?_ hS ?_
  · exact .inr ⟨wanted_W ds hR.tab hR.good hb hw, rfl⟩
  · rw [put_W]; exact h (putW_lt hb (dst_lt hR ho))
def StepW (P : Program) (S : World → Prop) (L : List Value) (ws : List (Nat × Value)) (oi : Oper) (w : World) (N : Value → World → Prop) : Prop :=
  (∃ v w', (execOp (evalW L ws) oi).run P w = .ok (.value v) w' ∧ S w' ∧ N v w') ∨ (∃ w', (execOp (evalW L ws) oi).run P w = .ok .skip w' ∧ S w' ∧ N undef w') ∨
  (∃ f args, (execOp (evalW L ws) oi).run P w = .ok (.enter f args) w ∧ Calls P f args w fun e w' => ∃ v, e = .returned v ∧ S w' ∧ N v w')
theorem StepW.wp {oi : Oper} {N : Value → World → Prop} {a : Act} {K : Act → World → Prop} (h : StepW P S L ws oi w N) (he : a.eval = evalW L ws) (hK : ∀ v w', S w' → N v w' → K (a.put oi.dst v) w') : Oper.wp P oi a w K Q := by
  unfold Oper.wp
  rw [he]
  rcases h with ⟨v, w', h1, h2, h3⟩ | ⟨w', h1, h2, h3⟩ | ⟨f, args, h1, h2⟩
  · rw [h1, Oper.upon_value]; exact hK v w' h2 h3
  · rw [h1, Oper.upon_skip]; exact hK undef w' h2 h3
  · rw [h1, Oper.upon_enter]
    exact h2.mono fun e w' ⟨v, he, hs, hn⟩ => by subst he; exact hK v w' hs hn
def upT (done : List Nat) : List (Row × Nat) → List Nat
  | [] => []
  | (x, k) :: r => if !done.contains k && x.2.2.all (fun j => done.contains j) then k :: upT done r else upT done r
theorem mem_upT {done : List Nat} {x : Row} {k : Nat} (h1 : done.contains k = false) (h2 : ∀ j ∈ x.2.2, done.contains j = true) : ∀ {l}, (x, k) ∈ l → k ∈ upT done l
  | (y, j) :: r, h => by
    rcases List.mem_cons.1 h with e | h
    · cases e
      unfold upT
      rw [if_pos (by simp only [h1, Bool.not_false, Bool.true_and]; exact List.all_eq_true.2 h2)]
      exact List.mem_cons_self
    · have ih := mem_upT h1 h2 h
      unfold upT
      split
      · exact List.mem_cons_of_mem _ ih
      · exact ih
theorem ready_up (hR : Reg P ops0 ops Q L T) {j : Nat} (h : j ∈ Region.ready .any ops (lset ops.size done)) : j ∈ upT done (numbered T 0) := by
  obtain ⟨_, oj, hj, _⟩ := mem_ready.1 h
  have hT := table_get hR.tab hj
  have hg := hR.good
  simp only [goodT, Bool.and_eq_true] at hg
  rw [ready_iff hj (inA_get hg.2.2 hT)] at h
  have hm := mem_numbered (k := 0) hT
  rw [Nat.zero_add] at hm
  exact mem_upT (x := rowOf ops oj) h.1 h.2 hm
theorem wg_step (i : Nat) {oi : Oper} {r : List Oper} (hR : Reg P ops0 ops Q L T) (hi : ops0.toList.drop i = oi :: r) (hr : upT done (numbered T 0) = [i])
    (hw : wantedW T L ws oi.guard = true)
    (h : StepW P S L ws oi w fun v w' => S w' → W P ops Q S L ds fuel (i :: done) (putW oi.dst v ws) w') (hr2 : readyT T done i = true) : W P ops Q S L ds (fuel + 1) done ws w := fun hb => by
  have ho := op_at hR hi
  refine ⟨fun h0 => ?_, fun j hj => ?_⟩
  · have := readyT_mem hR.tab hR.good ho hr2
    rw [h0] at this; cases this
  · have := ready_up hR hj
    rw [hr] at this
    obtain rfl := List.mem_singleton.1 this
    refine wpOp_step ho fun K' hK => ?_
    rw [if_pos (wanted_W ds hR.tab hR.good hb hw)]
    exact h.wp (eval_W hb ds) fun v w' hs hn => hK _ _ ⟨hs, by rw [put_W]; exact hn hs (putW_lt hb (dst_lt hR ho))⟩
theorem wg_two (i j : Nat) {oi oj : Oper} {r s : List Oper} (hR : Reg P ops0 ops Q L T) (hi : ops0.toList.drop i = oi :: r) (hj : ops0.toList.drop j = oj :: s) (hr : upT done (numbered T 0) = [i, j])
    (hwi : wantedW T L ws oi.guard = true) (hwj : wantedW T L ws oj.guard = true) (hr2 : readyT T done i = true)
    (h1 : StepW P S L ws oi w fun v w' => S w' → W P ops Q S L ds fuel (i :: done) (putW oi.dst v ws) w')
    (h2 : StepW P S L ws oj w fun v w' => S w' → W P ops Q S L ds fuel (j :: done) (putW oj.dst v ws) w') : W P ops Q S L ds (fuel + 1) done ws w := fun hb => by
  have ho := op_at hR hi
  have ho2 := op_at hR hj
  refine ⟨fun h0 => ?_, fun k hk => ?_⟩
  · have := readyT_mem hR.tab hR.good ho hr2
    rw [h0] at this; cases this
  · have := ready_up hR hk
    rw [hr] at this
    rcases List.mem_cons.1 this with rfl | this
    · refine wpOp_step ho fun K' hK => ?_
      rw [if_pos (wanted_W ds hR.tab hR.good hb hwi)]
      exact h1.wp (eval_W hb ds) fun v w' hs hn => hK _ _ ⟨hs, by rw [put_W]; exact hn hs (putW_lt hb (dst_lt hR ho))⟩
    · obtain rfl := List.mem_singleton.1 this
      refine wpOp_step ho2 fun K' hK => ?_
      rw [if_pos (wanted_W ds hR.tab hR.good hb hwj)]
      exact h2.wp (eval_W hb ds) fun v w' hs hn => hK _ _ ⟨hs, by rw [put_W]; exact hn hs (putW_lt hb (dst_lt hR ho2))⟩
theorem wg_three (i j m : Nat) {oi oj om : Oper} {r s q : List Oper} (hR : Reg P ops0 ops Q L T) (hi : ops0.toList.drop i = oi :: r) (hj : ops0.toList.drop j = oj :: s) (hm : ops0.toList.drop m = om :: q) (hr : upT done (numbered T 0) = [i, j, m])
    (hwi : wantedW T L ws oi.guard = true) (hwj : wantedW T L ws oj.guard = true) (hwm : wantedW T L ws om.guard = true) (hr2 : readyT T done i = true)
    (h1 : StepW P S L ws oi w fun v w' => S w' → W P ops Q S L ds fuel (i :: done) (putW oi.dst v ws) w')
    (h2 : StepW P S L ws oj w fun v w' => S w' → W P ops Q S L ds fuel (j :: done) (putW oj.dst v ws) w')
    (h3 : StepW P S L ws om w fun v w' => S w' → W P ops Q S L ds fuel (m :: done) (putW om.dst v ws) w') : W P ops Q S L ds (fuel + 1) done ws w := fun hb => by
  have ho := op_at hR hi
  have ho2 := op_at hR hj
  have ho3 := op_at hR hm
  refine ⟨fun h0 => ?_, fun k hk => ?_⟩
  · have := readyT_mem hR.tab hR.good ho hr2
    rw [h0] at this; cases this
  · have := ready_up hR hk
    rw [hr] at this
    rcases List.mem_cons.1 this with rfl | this
    · refine wpOp_step ho fun K' hK => ?_
      rw [if_pos (wanted_W ds hR.tab hR.good hb hwi)]
      exact h1.wp (eval_W hb ds) fun v w' hs hn => hK _ _ ⟨hs, by rw [put_W]; exact hn hs (putW_lt hb (dst_lt hR ho))⟩
    · rcases List.mem_cons.1 this with rfl | this
      · refine wpOp_step ho2 fun K' hK => ?_
        rw [if_pos (wanted_W ds hR.tab hR.good hb hwj)]
        exact h2.wp (eval_W hb ds) fun v w' hs hn => hK _ _ ⟨hs, by rw [put_W]; exact hn hs (putW_lt hb (dst_lt hR ho2))⟩
      · obtain rfl := List.mem_singleton.1 this
        refine wpOp_step ho3 fun K' hK => ?_
        rw [if_pos (wanted_W ds hR.tab hR.good hb hwm)]
        exact h3.wp (eval_W hb ds) fun v w' hs hn => hK _ _ ⟨hs, by rw [put_W]; exact hn hs (putW_lt hb (dst_lt hR ho3))⟩
theorem wg_read {L L0 : List Value} (h : L = L0) (k : Nat) {v : Value} {r : List Value} (e : L0.drop k = v :: r) : base L k = v := by
  subst h
  have : L[k]? = some v := by rw [← Nat.add_zero k, ← List.getElem?_drop, e]; rfl
  simp [base, this]
theorem wg_begin {L0 : List Value} {id : Nat} {Q0 : Exit → Act → World → Prop} (T : List Row) (S : World → Prop) (hm : P.follows .mixedOrders = true) (ht : tableR ops0 = T) (hg : goodT L0.length ops0.size T = true) (hs : Region.noSelect ops0 = true)
    (hQ : ∀ c d v a w, Q0 (.panic c) (Act.put a d v) w → Q0 (.panic c) a w) (hS : S w.drew)
    (h : ∀ (ops : Array Oper) (Q : Exit → Act → World → Prop) (L : List Value), L = L0 → Reg P ops0 ops Q L T →
      Shut (∀ ws w, Q0 .normal ⟨(setAll L0 ws).toArray, ds⟩ w → Q .normal ⟨(setAll L ws).toArray, ds⟩ w) → S w.drew → W P ops Q S L ds ops0.size [] [] w.drew) :
    (Code.region id ops0 true).wp P Q0 ⟨L0.toArray, ds⟩ w := by
  refine wp_region_held_drew hm hS fun hS => ?_
  have := h ops0 Q0 L0 rfl ⟨rfl, ht, hg, hs, hQ⟩ (fun _ _ h => h) hS
  exact this (by simp)
def mg : List Value → List (Nat × Value) → List Value
  | l, [] => l
  | [], _ => []
  | _ :: l, (0, v) :: r => v :: mg l r
  | x :: l, (g + 1, v) :: r => x :: mg l ((g, v) :: r)
def absT : Nat → List (Nat × Value) → List (Nat × Value)
  | _, [] => []
  | b, (g, v) :: r => (b + g, v) :: absT (b + g + 1) r
def lookO : List (Nat × Value) → Nat → Option Value
  | [], _ => none
  | (d, v) :: ws, k => if k = d then some v else lookO ws k
theorem setAll_get? (L : List Value) : ∀ (ws : List (Nat × Value)) (t : Nat), (setAll L ws)[t]? = if t < L.length then (lookO ws t).or (L[t]?) else none
  | [], t => by by_cases h : t < L.length <;> simp [setAll, lookO, h]
  | (d, v) :: ws, t => by
    have ih := setAll_get? L ws t
    rw [setAll, List.getElem?_set, lookO, setAll_len]
    by_cases e : t = d
    · subst e
      by_cases h : t < L.length <;> simp [h]
    · have e' : d ≠ t := fun c => e c.symm
      rw [if_neg e', ih, if_neg e]
theorem lookO_lt {k : Nat} : ∀ {r : List (Nat × Value)} {b : Nat}, k < b → lookO (absT b r) k = none
  | [], _, _ => rfl
  | (g, v) :: r, b, h => by
    rw [absT, lookO, if_neg (by omega)]
    exact lookO_lt (by omega)
theorem lookO_shift (s : Nat) : ∀ (r : List (Nat × Value)) (b k : Nat), lookO (absT (b + s) r) (k + s) = lookO (absT b r) k
  | [], _, _ => rfl
  | (g, v) :: r, b, k => by
    simp only [absT, lookO]
    have ih := lookO_shift s r (b + g + 1) k
    by_cases h : k = b + g
    · rw [if_pos h, if_pos (by omega)]
    · rw [if_neg h, if_neg (by omega), ← ih]
      congr 2; omega
theorem mg_get? : ∀ (L : List Value) (gs : List (Nat × Value)) (t : Nat), (mg L gs)[t]? = if t < L.length then (lookO (absT 0 gs) t).or (L[t]?) else none
  | l, [], t => by by_cases h : t < l.length <;> simp [mg, absT, lookO, h]
  | [], p :: r, t => by simp [mg]
  | x :: l, (0, v) :: r, t => by
    have e1 : lookO (absT 0 ((0, v) :: r)) t = if t = 0 then some v else lookO (absT 1 r) t := rfl
    rw [e1]
    cases t with
    | zero => simp [mg]
    | succ t =>
      have ih := mg_get? l r t
      have h1 := lookO_shift 1 r 0 t
      simp only [Nat.zero_add] at h1
      simp only [mg, List.getElem?_cons_succ, ih, List.length_cons, Nat.add_lt_add_iff_right, Nat.add_eq_zero_iff, Nat.one_ne_zero, and_false, if_false, h1]
  | x :: l, (g + 1, v) :: r, t => by
    have e1 : absT 0 ((g + 1, v) :: r) = absT 1 ((g, v) :: r) := by
      simp only [absT]
      rw [show 0 + (g + 1) = 1 + g by omega]
    rw [e1]
    cases t with
    | zero => simp [mg, lookO_lt (k := 0) (b := 1) (by omega)]
    | succ t =>
      have ih := mg_get? l ((g, v) :: r) t
      have h1 := lookO_shift 1 ((g, v) :: r) 0 t
      simp only [Nat.zero_add] at h1
      simp only [mg, List.getElem?_cons_succ, ih, List.length_cons, Nat.add_lt_add_iff_right, h1]
theorem lookO_perm : ∀ {a b : List (Nat × Value)}, a.Perm b → (a.map Prod.fst).Nodup → ∀ t, lookO a t = lookO b t := by
  intro a b h
  induction h with
  | nil => intro _ t; rfl
  | cons x _ ih =>
    intro hn t
    obtain ⟨d, v⟩ := x
    simp only [List.map_cons, List.nodup_cons] at hn
    rw [lookO, lookO, ih hn.2]
  | swap x y l =>
    intro hn t
    obtain ⟨d, v⟩ := x
    obtain ⟨d', v'⟩ := y
    simp only [List.map_cons, List.nodup_cons, List.mem_cons, not_or] at hn
    simp only [lookO]
    by_cases h1 : t = d
    · have h2 : ¬ t = d' := fun c => hn.1.1 (by omega)
      rw [if_pos h1, if_neg h2, if_pos h1]
    · rw [if_neg h1, if_neg h1]
  | trans p1 p2 ih1 ih2 =>
    intro hn t
    rw [ih1 hn, ih2 ((p1.map Prod.fst).nodup_iff.1 hn)]
def insG (d : Nat) (v : Value) : List (Nat × Value) → List (Nat × Value)
  | [] => [(d, v)]
  | (d', v') :: r => if d' < d then (d, v) :: (d', v') :: r else if d' = d then (d, v) :: r else (d', v') :: insG d v r
theorem lookO_ins (d : Nat) (v : Value) : ∀ (r : List (Nat × Value)) (t : Nat), lookO (insG d v r) t = if t = d then some v else lookO r t
  | [], t => rfl
  | (d', v') :: r, t => by
    have ih := lookO_ins d v r t
    unfold insG
    split
    · rfl
    · split
      · rename_i h; subst h
        simp only [lookO]
        by_cases h : t = d' <;> simp [h]
      · rename_i h1 h2
        simp only [lookO, ih]
        by_cases h : t = d'
        · have : ¬ t = d := fun c => h2 (by omega)
          rw [if_pos h, if_neg this, if_pos h]
        · rw [if_neg h, if_neg h]
def sortG : List (Nat × Value) → List (Nat × Value)
  | [] => []
  | (d, v) :: r => insG d v (sortG r)
theorem lookO_sort : ∀ (ws : List (Nat × Value)) (t : Nat), lookO (sortG ws) t = lookO ws t
  | [], t => rfl
  | (d, v) :: r, t => by rw [sortG, lookO_ins, lookO, lookO_sort r t]
theorem wg_end {L0 L : List Value} {Q0 : Exit → Act → World → Prop} (hR : Reg P ops0 ops Q L T) (hK : Shut (∀ ws w, Q0 .normal ⟨(setAll L0 ws).toArray, ds⟩ w → Q .normal ⟨(setAll L ws).toArray, ds⟩ w))
    (gs : List (Nat × Value)) {M : List Value} (hd : upT done (numbered T 0) = []) (hsort : sortG ws = (absT 0 gs).reverse) (hM : mg L0 gs = M) (h : Q0 .normal ⟨M.toArray, ds⟩ w) : W P ops Q S L ds fuel done ws w := fun _ => by
  have hready : Region.ready .any ops (lset ops.size done) = [] := by
    rw [List.eq_nil_iff_forall_not_mem]
    intro j hj
    have := ready_up hR hj
    rw [hd] at this; cases this
  refine wpAnyH_done hready ?_ fuel
  refine hK _ _ ?_
  have e : setAll L0 ws = M := by
    rw [← hM]
    refine List.ext_getElem? fun t => ?_
    rw [setAll_get?, mg_get?, ← lookO_sort ws t, hsort]
    have hn : ∀ (g : List (Nat × Value)) (b : Nat), ((absT b g).map Prod.fst).Nodup ∧ ∀ k ∈ (absT b g).map Prod.fst, b ≤ k := by
      intro g
      induction g with
      | nil => intro b; simp [absT]
      | cons p r ih =>
        intro b
        obtain ⟨g, v⟩ := p
        obtain ⟨h1, h2⟩ := ih (b + g + 1)
        simp only [absT, List.map_cons, List.nodup_cons]
        refine ⟨⟨fun c => by have := h2 _ c; omega, h1⟩, fun k hk => ?_⟩
        rcases List.mem_cons.1 hk with rfl | hk
        · exact Nat.le_add_right _ _
        · have := h2 k hk; omega
    rw [lookO_perm (List.reverse_perm _) (((List.reverse_perm _).map _).nodup_iff.2 (hn gs 0).1)]
  rw [e]; exact h
theorem wg_call {f : FuncId} {args : Array Value} {oi : Oper} {N : Value → World → Prop} (h1 : (execOp (evalW L ws) oi).run P w = .ok (.enter f args) w) (h2 : Calls P f args w fun e w' => ∃ v, e = .returned v ∧ S w' ∧ N v w') : StepW P S L ws oi w N := .inr (.inr ⟨f, args, h1, h2⟩)
theorem wg_eff {v : Value} {w' : World} {oi : Oper} {N : Value → World → Prop} (h1 : (execOp (evalW L ws) oi).run P w = .ok (.value v) w') (h2 : S w') (h3 : N v w') : StepW P S L ws oi w N := .inl ⟨v, w', h1, h2, h3⟩
theorem wg_skp {w' : World} {oi : Oper} {N : Value → World → Prop} (h1 : (execOp (evalW L ws) oi).run P w = .ok .skip w') (h2 : S w') (h3 : N undef w') : StepW P S L ws oi w N := .inr (.inl ⟨w', h1, h2, h3⟩)
def sameB (a b : List Nat) : Bool := a.all (fun k => b.contains k) && b.all (fun k => a.contains k)
def Only (O : Nat) (w X : World) : Prop := ∃ j v, X = w.setCell ⟨O, j, none⟩ v
theorem Only.ext {O : Nat} {a w X : World} (h : Only O w X) (hE : Ext a w) (hO : a.heap.size ≤ O) : Ext a X := by
  obtain ⟨j, v, rfl⟩ := h; exact hE.setCell hO v
theorem Only.size {O : Nat} {w X : World} (h : Only O w X) : X.heap.size = w.heap.size := by
  obtain ⟨j, v, rfl⟩ := h; simp
theorem Only.va {O : Nat} {w X : World} (h : Only O w X) {b o : Nat} {l : List Int} (hb : O ≠ b) (hv : VA w b o l) : VA X b o l := by
  obtain ⟨j, v, rfl⟩ := h
  exact ⟨fun i hi => by rw [World.cell?_setCell_other w _ _ _ (fun e => hb (congrArg Addr.block e))]; exact hv.1 i hi, hv.2⟩
theorem Only.box {O : Nat} {w X : World} (h : Only O w X) {b o : Nat} {u : Value} (hb : O ≠ b) (hv : BoxAt w b o u) : BoxAt X b o u := by
  obtain ⟨j, v, rfl⟩ := h; exact hv.other (p := ⟨O, j, none⟩) hb v
theorem Only.rows {O : Nat} {w X : World} (h : Only O w X) {b : Nat} {l : List Int} (hb : O ≠ b) (hv : RowsAt w b l) : RowsAt X b l := by
  obtain ⟨j, v, rfl⟩ := h; exact hv.other (p := ⟨O, j, none⟩) hb v
theorem Only.cell {O : Nat} {w X : World} (h : Only O w X) {p : Addr} {u : Value} (hb : O ≠ p.block) (hv : w.cell? p = some u) : X.cell? p = some u := by
  obtain ⟨j, v, rfl⟩ := h
  rw [World.cell?_setCell_other w _ _ _ (fun e => hb (congrArg Addr.block e))]; exact hv
def valAt : List (Nat × Value) → Nat → Value
  | [], _ => undef
  | (_, v) :: _, 0 => v
  | _ :: r, p + 1 => valAt r p
def gsOf (ws : List (Nat × Value)) : List (Nat × Nat) → List (Nat × Value)
  | [] => []
  | (g, p) :: r => (g, valAt ws p) :: gsOf ws r
theorem wg_fin {L0 L : List Value} {Q0 : Exit → Act → World → Prop} (hR : Reg P ops0 ops Q L T) (hK : Shut (∀ ws w, Q0 .normal ⟨(setAll L0 ws).toArray, ds⟩ w → Q .normal ⟨(setAll L ws).toArray, ds⟩ w))
    (ks : List (Nat × Nat)) {M : List Value} (hd : upT done (numbered T 0) = []) (hsort : sortG ws = (absT 0 (gsOf ws ks)).reverse) (hM : mg L0 (gsOf ws ks) = M) (h : Q0 .normal ⟨M.toArray, ds⟩ w) : W P ops Q S L ds fuel done ws w := wg_end hR hK (gsOf ws ks) hd hsort hM h
end
end
end Go.Proofs.YtajdohcgjgknmaaGreatDoor
