/- Contracts of package cover: the function that calls itself and yields the lists of indices. -/
import Derived.Test.YtglfoglkdbbmmaaDoorCG
import Derived.Stop.RegionWithIn
namespace Go.Proofs.YtglfoglkdbbmmaaDoor
open Go.RowKit Go.Shelf

attribute [local go_sem] Oper.semAt_some

abbrev YL := Option Addr × Nat × List Nat
def encL (x : YL) : Array Value := #[.slice x.1 x.2.2.length x.2.1]
def PhiL (n : Nat) (x : YL) (W : World) : Prop := ListAt W x.1 x.2.1 x.2.2 ∧ x.2.2.length ≤ 1000 ∧ Globe.asc n 0 x.2.2 ∧ ∀ b off, x.1 = some ⟨b, off, none⟩ → off = 0
/-- The four boxes that the function has captured. -/
def WB (X : Nat → Prop) (Kb Yb Nb Wb l n k : Nat) (W : World) : Prop :=
  W.cell? ⟨Kb, 0, none⟩ = some (.int .i64 (k : Int)) ∧ W.cell? ⟨Yb, 0, none⟩ = some (.func (.yield l) #[] #[]) ∧ W.cell? ⟨Nb, 0, none⟩ = some (.int .i64 (n : Int)) ∧
  W.cell? ⟨Wb, 0, none⟩ = some (.func (.func 72) #[] #[.pointer (some ⟨Kb, 0, none⟩), .pointer (some ⟨Yb, 0, none⟩), .pointer (some ⟨Nb, 0, none⟩), .pointer (some ⟨Wb, 0, none⟩)]) ∧ ¬ X Kb ∧ ¬ X Yb ∧ ¬ X Nb ∧ ¬ X Wb
theorem WB.keep {X : Nat → Prop} {Kb Yb Nb Wb l n k : Nat} {W W' : World} (h : WB X Kb Yb Nb Wb l n k W) (hk : KeepC X W W') : WB X Kb Yb Nb Wb l n k W' := by
  obtain ⟨h1, h2, h3, h4, x1, x2, x3, x4⟩ := h
  exact ⟨hk.cell h1 x1, hk.cell h2 x2, hk.cell h3 x3, hk.cell h4 x4, x1, x2, x3, x4⟩

/-- What the function hands back, m further indices from next on. -/
def WPost (X : Nat → Prop) (J Jx : List YL → World → Prop) (n m : Nat) (lst : List Nat) (next : Nat) (pre : List YL) (W : World) (e : Ending) (W' : World) : Prop :=
  (e = .returned (.bool true) ∧ ∃ xs : List YL, xs.map (fun x => x.2.2) = Globe.combs n m lst next ∧ J (pre ++ xs) W' ∧ KeepC X W W') ∨
  (e = .returned (.bool false) ∧ ∃ q : List YL, q.map (fun x => x.2.2) <+: Globe.combs n m lst next ∧ Jx (pre ++ q) W' ∧ KeepC X W W')

theorem two_ends {e : Ending} {A B : Prop} (h : (e = .returned (.bool true) ∧ A) ∨ (e = .returned (.bool false) ∧ B)) : ∃ r, e = .returned (.bool r) ∧ Hid ((r = true ∧ A) ∨ (r = false ∧ B)) := by
  rcases h with ⟨rfl, q⟩ | ⟨rfl, q⟩
  · exact ⟨_, rfl, .inl ⟨rfl, q⟩⟩
  · exact ⟨_, rfl, .inr ⟨rfl, q⟩⟩
set_option maxHeartbeats 2000000 in
theorem walk0 {X : Nat → Prop} {Kb Yb Nb Wb l n k : Nat} {J Jx : List YL → World → Prop} {B0 : Nat} (hJ : AbidesFrom B0 J)
    (hY : ∀ pre x W1 m, J pre W1 → PhiL n x W1 → YieldAt Fence.wide m Tryd.prog l (encL x) W1 fun e W' => (e = .returned (.bool true) ∧ J (pre ++ [x]) W' ∧ KeepC X W1 W') ∨ (e = .returned (.bool false) ∧ Jx (pre ++ [x]) W' ∧ KeepC X W1 W'))
    (a : Option Addr) (c : Nat) (lst : List Nat) (next d : Nat) (pre : List YL) (W : World) (hlen : lst.length = k) (hk : k ≤ 1000) (hl : ListAt W a c lst) (ha : Globe.asc n 0 lst) (hb : WB X Kb Yb Nb Wb l n k W) (hJ0 : J pre W) :
    CallsIn Fence.wide d Tryd.prog 72 #[.slice a lst.length c, .int .i64 (next : Int), .pointer (some ⟨Kb, 0, none⟩), .pointer (some ⟨Yb, 0, none⟩), .pointer (some ⟨Nb, 0, none⟩), .pointer (some ⟨Wb, 0, none⟩)] W (WPost X J Jx n 0 lst next pre W) := by
  obtain ⟨h1, h2, h3, h4, x1, x2, x3, x4⟩ := hb
  subst hlen
  refine callsIn_of_wp Tryd.func72 rfl trivial ?_ rfl
  simp only [Tryd.ntmps72, List.size_toArray, List.length_cons, List.length_nil, Nat.reduceAdd, Nat.reduceSub, Array.replicate_succ, Array.replicate_zero, List.push_toArray, List.append_toArray, List.nil_append, List.cons_append]
  gi_wp2_with fail
  have HJ := Lib.hid hJ0; clear hJ0
  have HL := Lib.hid hl; clear hl
  have HA := Lib.hid ha; clear ha
  have HY := Lib.hid hY; clear hY
  have HJA := Lib.hid hJ; clear hJ
  gi_region_with (first
    | (refine ⟨trivial, wide_depth, ?_⟩; gi_at_call 66; refine (callsIn_wide.2 (CloneN_c a c lst _ (HL.out.ext (by (repeat' (first | (with_reducible assumption) | (with_reducible exact Ext.refl _) | (with_reducible refine Ext.alloc ?_ _) | (with_reducible refine Ext.drew ?_) | (with_reducible refine Ext.drewN ?_ _) | (with_reducible refine Ext.setCell ?_ ?_ _) | (with_reducible refine Ext.trans ?_ (by assumption)) | go_size)))) hk)).mono ?_; rintro e w1 ⟨a', k', rfl, hl1, hoff, hb⟩; have h2' := Ext.cell (show Ext W w1 by (repeat' (first | (with_reducible assumption) | (with_reducible exact Ext.refl _) | (with_reducible refine Ext.alloc ?_ _) | (with_reducible refine Ext.drew ?_) | (with_reducible refine Ext.drewN ?_ _) | (with_reducible refine Ext.setCell ?_ ?_ _) | (with_reducible refine Ext.trans ?_ (by assumption)) | go_size))) h2; obtain ⟨fn, tmps, assign, body, hyy, hRd⟩ := HY.out pre ⟨a', k', lst⟩ w1 (d - 1) (HJA.out _ _ _ none HJ.out (Ext.grownNone (show Ext W w1 by (repeat' (first | (with_reducible assumption) | (with_reducible exact Ext.refl _) | (with_reducible refine Ext.alloc ?_ _) | (with_reducible refine Ext.drew ?_) | (with_reducible refine Ext.drewN ?_ _) | (with_reducible refine Ext.setCell ?_ ?_ _) | (with_reducible refine Ext.trans ?_ (by assumption)) | go_size)))) (fun r e => by cases e)) ⟨hl1, hk, HA.out, hoff⟩; dsimp only [encL] at hyy; have hE1 := Lib.hid (show Ext W w1 by (repeat' (first | (with_reducible assumption) | (with_reducible exact Ext.refl _) | (with_reducible refine Ext.alloc ?_ _) | (with_reducible refine Ext.drew ?_) | (with_reducible refine Ext.drewN ?_ _) | (with_reducible refine Ext.setCell ?_ ?_ _) | (with_reducible refine Ext.trans ?_ (by assumption)) | go_size))))
    | (refine ⟨wide_depth, hRd.mono ?_⟩; rintro e W3 h3; obtain ⟨r, rfl, H3⟩ := two_ends h3; clear h3))
  all_goals
    gi_wp2
    refine bodyPost_ret (v := .bool r) (by simp [results, Tryd.results72, go_sem]) rfl ?_
    rcases H3.out with ⟨rfl, q1, q2⟩ | ⟨rfl, q1, q2⟩
    · exact .inl ⟨rfl, [⟨a', k', lst⟩], rfl, q1, (KeepC.of_ext hE1.out).trans q2⟩
    · exact .inr ⟨rfl, [⟨a', k', lst⟩], List.prefix_refl _, q1, (KeepC.of_ext hE1.out).trans q2⟩

theorem append_ints (w : World) (ty : TypeId) {ao : Option Addr} {c : Nat} {l : List Nat} (h : ListAt w ao c l) (hl : l.length ≤ 1000) (i b : Nat) (hb : w.cell? ⟨b, 0, none⟩ = some (.int .i64 (i : Int))) :
    ∃ v' w', (Builtin.append_ #[23, 23] ty #[.slice ao l.length l.length, .slice (some ⟨b, 0, none⟩) 1 1]).run Tryd.prog w = .ok v' w' ∧ w'.ownsRow w.heap.size 3 1 v' (l.length + 1) (intVals (intsN (l ++ [i]))) ∧ w.grownBy w' none := by
  obtain ⟨i0, hi, hz0, hz1, hz2⟩ := info_parts (P := Tryd.prog) (e := 3) (z := .int .i64 0) (size := 1) (bytes := 8) (by kernel_rfl)
  have hnew : ∀ j u, ([Value.int .i64 (i : Int)] : List Value)[j]? = some u → w.cell? ((⟨b, 0, none⟩ : Addr).add j) = some u := by
    intro j u hj
    rw [Addr.add_mid, Nat.zero_add]
    match j, hj with
    | 0, hj => simp at hj; subst hj; exact hb
    | _ + 1, hj => simp at hj
  have e : intVals (intsN (l ++ [i])) = intVals (intsN l) ++ [Value.int .i64 (i : Int)] := by simp [intVals, intsN]
  rw [e]
  rcases h with ⟨rfl, rfl, rfl⟩ | ⟨hne, hcl, b1, o1, rfl, hx⟩
  · obtain ⟨v', w', h1, h2, h3, _⟩ := run_append_own (P := Tryd.prog) w w.heap.size 23 ty 3 i0 (.int .i64 0) 1 8 Tryd.underlying23 hi hz0 hz1 hz2 rfl (by decide) (.slice none 0 0) 0 [] (World.ownsRow_nil w _ _ _) ⟨b, 0, none⟩ 1 1 [.int .i64 (i : Int)] rfl hnew (by simp [Value.oneCell']) (by unfold maxLen; omega) (by omega) (Nat.le_refl _)
    exact ⟨v', w', h1, h2, h3⟩
  · obtain ⟨v', w', h1, h2, h3⟩ := run_append_arg_grows (P := Tryd.prog) w 23 ty 3 i0 (.int .i64 0) 1 8 Tryd.underlying23 hi hz0 hz1 hz2 rfl (by decide) ⟨b1, o1, none⟩ l.length l.length (intVals (intsN l)) (by simp [intVals, intsN]) (fun j u hj => by
      have hjl : j < (intsN l).length := by rw [← List.length_map (f := Value.int .i64)]; exact (List.getElem?_eq_some_iff.1 hj).1
      have e := intVals_at hjl
      rw [List.getElem?_toArray, hj] at e
      cases e
      rw [Addr.add_mid]; exact hx j (by rwa [intsN_len] at hjl)) ⟨b, 0, none⟩ 1 1 [.int .i64 (i : Int)] rfl hnew (by omega) (by unfold maxLen; omega) (by omega)
    exact ⟨v', w', h1, h2, h3⟩

theorem list_of_own' {w : World} {base : Nat} {v : Value} {l : List Nat} {i : Nat} (h : w.ownsRow base 3 1 v (l.length + 1) (intVals (intsN (l ++ [i])))) : ∃ g k, v = .slice (some ⟨g, 0, none⟩) (l.length + 1) k ∧ base ≤ g ∧ ListAt w (some ⟨g, 0, none⟩) k (l ++ [i]) := by
  have e : l.length + 1 = (l ++ [i]).length := by simp
  rw [e] at h ⊢
  obtain ⟨g, k, h1, h2, _, h3⟩ := list_of_own h (by simp)
  exact ⟨g, k, h1, h2, h3⟩
theorem asc_snoc {n : Nat} : ∀ {l : List Nat} {s i : Nat}, Globe.asc n s l → (∀ j ∈ l, j < i) → s ≤ i → i < n → Globe.asc n s (l ++ [i])
  | [], _, _, _, _, h, hi => ⟨h, hi, trivial⟩
  | j :: _, _, _, ⟨h1, h2, h3⟩, hj, _, hi => ⟨h1, h2, asc_snoc h3 (fun q hq => hj q (by simp [hq])) (hj j (by simp)) hi⟩
theorem Ext.ofNone {w w' : World} (h : w.grownBy w' none) : Ext w w' := ⟨h.os, h.tape, h.output, h.size, fun k hk => h.block k hk (by simp)⟩

theorem WPost.keep {X : Nat → Prop} {J Jx : List YL → World → Prop} {n m : Nat} {lst : List Nat} {next : Nat} {pre : List YL} {W : World} {e : Ending} {W' : World} (h : WPost X J Jx n m lst next pre W e W') : KeepC X W W' := by
  rcases h with ⟨_, _, _, _, h⟩ | ⟨_, _, _, _, h⟩ <;> exact h
/-- The call of itself, one index farther. -/
theorem walk_next {X : Nat → Prop} {Kb Yb Nb Wb l n k m : Nat} {J Jx : List YL → World → Prop} {B0 : Nat} {V w3 : World} {W : World} {g cap i next : Nat} {lst : List Nat} {pre xs : List YL} (hBW : B0 ≤ W.heap.size) (hXB : ∀ b, X b → b < B0) (hlen : lst.length + (m + 1) = k)
    (ih : ∀ (a : Option Addr) (c : Nat) (lst : List Nat) (next : Nat) (pre : List YL) (W : World), lst.length + m = k → B0 ≤ W.heap.size → (∀ b off, a = some ⟨b, off, none⟩ → ¬ X b) → ListAt W a c lst → Globe.asc n 0 lst → (∀ i ∈ lst, i < next) → next ≤ n → WB X Kb Yb Nb Wb l n k W → J pre W →
      Calls Tryd.prog 72 #[.slice a lst.length c, .int .i64 (next : Int), .pointer (some ⟨Kb, 0, none⟩), .pointer (some ⟨Yb, 0, none⟩), .pointer (some ⟨Nb, 0, none⟩), .pointer (some ⟨Wb, 0, none⟩)] W (WPost X J Jx n m lst next pre W))
    (hl3 : ListAt w3 (some ⟨g, 0, none⟩) cap (lst ++ [i])) (hg : V.heap.size ≤ g) (hWV : W.heap.size ≤ V.heap.size) (ha : Globe.asc n 0 lst) (hlt : ∀ j ∈ lst, j < next) (hi0 : next ≤ i) (hin : i < n) (hB : WB X Kb Yb Nb Wb l n k V) (hE : Ext V w3) (hJA : AbidesFrom B0 J) (hJ : J (pre ++ xs) V) :
    Calls Tryd.prog 72 #[.slice (some ⟨g, 0, none⟩) (lst.length + 1) cap, .int .i64 ((i : Int) + 1), .pointer (some ⟨Kb, 0, none⟩), .pointer (some ⟨Yb, 0, none⟩), .pointer (some ⟨Nb, 0, none⟩), .pointer (some ⟨Wb, 0, none⟩)] w3 (WPost X J Jx n m (lst ++ [i]) (i + 1) (pre ++ xs) w3) := by
  have h := ih (some ⟨g, 0, none⟩) cap (lst ++ [i]) (i + 1) (pre ++ xs) w3 (by rw [List.length_append]; simp; omega) (Nat.le_trans hBW (Nat.le_trans hWV hE.size)) (fun b off e hx => by cases e; have := hXB _ hx; omega) hl3
    (asc_snoc ha (fun j hj => Nat.lt_of_lt_of_le (hlt j hj) hi0) (Nat.zero_le _) hin) (fun j hj => by
      rcases List.mem_append.1 hj with hj | hj
      · have := hlt j hj; omega
      · simp at hj; omega) (by omega) (hB.keep (KeepC.of_ext hE)) (hJA _ _ _ none hJ (Ext.grownNone hE) (fun r e => by cases e))
  rwa [show (lst ++ [i]).length = lst.length + 1 by simp, show ((i + 1 : Nat) : Int) = (i : Int) + 1 by omega] at h

/-- Between two rounds of its loop. -/
def WLoop (X : Nat → Prop) (J : List YL → World → Prop) (n m : Nat) (lst : List Nat) (next : Nat) (pre : List YL) (W : World) (p : Value) (wr : World) : Prop :=
  ∃ (i : Nat) (xs : List YL), next ≤ i ∧ i ≤ n ∧ p = .int .i64 i ∧ Hid (xs.map (fun x => x.2.2) ++ ((List.range (n - m)).drop i).flatMap (fun i => Globe.combs n m (lst ++ [i]) (i + 1)) = Globe.combs n (m + 1) lst next) ∧ Hid (J (pre ++ xs) wr) ∧ KeepC X W wr
set_option maxRecDepth 100000 in
set_option maxHeartbeats 4000000 in
theorem walkS {X : Nat → Prop} {Kb Yb Nb Wb l n k m : Nat} {J Jx : List YL → World → Prop} {B0 : Nat} (hJ : AbidesFrom B0 J) (hXB : ∀ b, X b → b < B0)
    (ih : ∀ (a : Option Addr) (c : Nat) (lst : List Nat) (next : Nat) (pre : List YL) (W : World), lst.length + m = k → B0 ≤ W.heap.size → (∀ b off, a = some ⟨b, off, none⟩ → ¬ X b) → ListAt W a c lst → Globe.asc n 0 lst → (∀ i ∈ lst, i < next) → next ≤ n → WB X Kb Yb Nb Wb l n k W → J pre W →
      Calls Tryd.prog 72 #[.slice a lst.length c, .int .i64 (next : Int), .pointer (some ⟨Kb, 0, none⟩), .pointer (some ⟨Yb, 0, none⟩), .pointer (some ⟨Nb, 0, none⟩), .pointer (some ⟨Wb, 0, none⟩)] W (WPost X J Jx n m lst next pre W))
    (a : Option Addr) (c : Nat) (lst : List Nat) (next : Nat) (pre : List YL) (W : World) (hlen : lst.length + (m + 1) = k) (hkn : k ≤ n) (hn : n ≤ 1000) (hBW : B0 ≤ W.heap.size) (hax : ∀ b off, a = some ⟨b, off, none⟩ → ¬ X b) (hl : ListAt W a c lst) (ha : Globe.asc n 0 lst) (hlt : ∀ i ∈ lst, i < next) (hnn : next ≤ n) (hb : WB X Kb Yb Nb Wb l n k W) (hJ0 : J pre W) :
    Calls Tryd.prog 72 #[.slice a lst.length c, .int .i64 (next : Int), .pointer (some ⟨Kb, 0, none⟩), .pointer (some ⟨Yb, 0, none⟩), .pointer (some ⟨Nb, 0, none⟩), .pointer (some ⟨Wb, 0, none⟩)] W (WPost X J Jx n (m + 1) lst next pre W) := by
  have HB := Lib.hid hb
  obtain ⟨h1, h2, h3, h4, x1, x2, x3, x4⟩ := hb
  have hcl : lst.length ≤ c := by rcases hl with ⟨rfl, _, rfl⟩ | ⟨_, h, _⟩ <;> simp_all
  have hne : ¬ (lst.length : Int) = (k : Int) := by omega
  have i1 : (k : Int) ≤ 1000 := by omega
  have i2 : (n : Int) ≤ 1000 := by omega
  have i3 : (lst.length : Int) ≤ (k : Int) := by omega
  have i4 : (lst.length : Int) ≤ (c : Int) := by omega
  have hlk : lst.length ≤ 1000 := by omega
  have Hlen := Lib.hid hlen; clear hlen
  have Hih := Lib.hid ih; clear ih
  have HJA := Lib.hid hJ; clear hJ
  have HL := Lib.hid hl; clear hl
  have HA := Lib.hid ha; clear ha
  have Hlt := Lib.hid hlt; clear hlt
  have Hax := Lib.hid hax; clear hax
  have HXB := Lib.hid hXB; clear hXB
  go_enter Tryd.func72, Tryd.ntmps72
  go_wp2_with fail
  go_loopw [9] (fun p wr => WLoop X J n m lst next pre W p wr) (fun p _ => n + 1 - (intOf p).toNat)
  case atStart => exact ⟨next, [], Nat.le_refl _, hnn, rfl, by show _ = _; simp [Globe.combs], by show J _ _; simpa using hJ0, KeepC.refl _ _⟩
  case round =>
    clear hJ0 h1 h2 h3 h4
    obtain ⟨i, xs, hi0, hi1, rfl, Hxs, HJ, hk⟩ := hrel
    obtain ⟨h1, h2, h3, h4, -, -, -, -⟩ := HB.out.keep hk
    obtain ⟨V, rfl⟩ : ∃ V, V = wr := ⟨_, rfl⟩
    have l1 := World.block_lt_of_cell? V _ h1
    have l3 := World.block_lt_of_cell? V _ h3
    have l4 := World.block_lt_of_cell? V _ h4
    by_cases hlt : (i : Int) ≤ (n : Int) - ((k : Int) - (lst.length : Int))
    · have k11 : IntKind.i64.wrap ((i : Int) + 1) = (i : Int) + 1 := by rw [IntKind.wrap_i64]; omega
      have K11 := Lib.hid k11; clear k11
      have HLV := Lib.hid (show ListAt ((V.alloc (.cells #[.int .i64 (i : Int)] 3)).drew) a c lst from (HL.out.keep hk Hax.out).ext (Ext.drew (Ext.alloc (Ext.refl _) _)))
      have HBV := Lib.hid (HB.out.keep hk)
      go_wp2_with fail
      -- <<walk
      refine wg_begin [(some 29, [5], []), (some 30, [0], []), (some 31, [0], []), (some 32, [31], [2]), (some 33, [0], []), (some 34, [33], [4]), (some 35, [30, 32, 34], [1, 3, 5]), (some 36, [9], []), (some 37, [36], [7]), (some 38, [35, 37], [6, 8]), (some 39, [9], []), (some 40, [39], [10]), (some 41, [29, 38, 40], [0, 9, 11, 9]), (some 42, [41], [12])] (fun w' => w'.cell? ⟨Wb, 0, none⟩ = some (.func (.func 72) #[] #[.pointer (some ⟨Kb, 0, none⟩), .pointer (some ⟨Yb, 0, none⟩), .pointer (some ⟨Nb, 0, none⟩), .pointer (some ⟨Wb, 0, none⟩)])) (by kernel_rfl) (by kernel_rfl) (by kernel_rfl) (by kernel_rfl) (by intro c d v a w h; cases d <;> first | exact h | (exact nomatch h.1) | (dsimp +zetaDelta only [Exit.then, Exit.inBlock] at h ⊢; exact h)) (h4) (fun ops Q L hL hR hK hHeld => ?_); replace hL := Lib.hid hL; have hW1 := @evalW_tmp; have hW2 := @evalW_const; have hW3 := @evalW_func; have hW4 := @look_cons; have hW5 := @look_nil
      have r5 := wg_read hL.out 5 rfl
      have r0 := wg_read hL.out 0 rfl
      have r9 := wg_read hL.out 9 rfl
      (refine wg_take 0 (v := ?_) hR rfl (by kernel_rfl) (by kernel_rfl) ?_ (by with_reducible assumption) ?_; rotate_left; (focus (intro w hSw; (try dsimp only at hSw); go_simp; (try with_reducible rfl))); (dsimp only [putW]))
      (refine wg_take 1 (v := ?_) hR rfl (by kernel_rfl) (by kernel_rfl) ?_ (by with_reducible assumption) ?_; rotate_left; (focus (intro w hSw; (try dsimp only at hSw); go_simp; (try with_reducible rfl))); (dsimp only [putW]))
      (refine wg_take 2 (v := ?_) hR rfl (by kernel_rfl) (by kernel_rfl) ?_ (by with_reducible assumption) ?_; rotate_left; (focus (intro w hSw; (try dsimp only at hSw); go_simp; (try with_reducible rfl))); (dsimp only [putW]))
      (refine wg_take 3 (v := ?_) hR rfl (by kernel_rfl) (by kernel_rfl) ?_ (by with_reducible assumption) ?_; rotate_left; (focus (intro w hSw; (try dsimp only at hSw); go_simp; (try with_reducible rfl))); (dsimp only [putW]))
      (refine wg_take 4 (v := ?_) hR rfl (by kernel_rfl) (by kernel_rfl) ?_ (by with_reducible assumption) ?_; rotate_left; (focus (intro w hSw; (try dsimp only at hSw); go_simp; (try with_reducible rfl))); (dsimp only [putW]))
      (refine wg_take 5 (v := ?_) hR rfl (by kernel_rfl) (by kernel_rfl) ?_ (by with_reducible assumption) ?_; rotate_left; (focus (intro w hSw; (try dsimp only at hSw); go_simp; (try with_reducible rfl))); (dsimp only [putW]))
      (refine wg_take 6 (v := ?_) hR rfl (by kernel_rfl) (by kernel_rfl) ?_ (by with_reducible assumption) ?_; rotate_left; (focus (intro w hSw; (try dsimp only at hSw); go_simp; (try with_reducible rfl))); (dsimp only [putW]))
      (refine wg_take 7 (v := ?_) hR rfl (by kernel_rfl) (by kernel_rfl) ?_ (by with_reducible assumption) ?_; rotate_left; (focus (intro w hSw; (try dsimp only at hSw); go_simp; (try with_reducible rfl))); (dsimp only [putW]))
      (refine wg_take 10 (v := ?_) hR rfl (by kernel_rfl) (by kernel_rfl) ?_ (by with_reducible assumption) ?_; rotate_left; (focus (intro w hSw; (try dsimp only at hSw); go_simp; (try with_reducible rfl))); (dsimp only [putW]))
      (refine wg_take 11 (v := ?_) hR rfl (by kernel_rfl) (by kernel_rfl) ?_ (by with_reducible assumption) ?_; rotate_left; (focus (intro w hSw; (try dsimp only at hSw); have k0 := K11.out; go_simp; (try with_reducible rfl))); (dsimp only [putW]))
      (refine wg_step 8 hR rfl (by kernel_rfl) (by kernel_rfl) ?_ (by kernel_rfl); refine wg_eff (v := ?_) (w' := ?_) ?_ ?_ ?_; rotate_left; rotate_left; (focus (go_simp; first | done | (with_reducible rfl) | (refine ⟨?_, ?_⟩ <;> with_reducible rfl))); (focus (exact (Ext.cell (show Ext V _ by (repeat' (first | (with_reducible assumption) | (with_reducible exact Ext.refl _) | (with_reducible refine Ext.alloc ?_ _) | (with_reducible refine Ext.drew ?_) | (with_reducible refine Ext.drewN ?_ _) | (with_reducible refine Ext.setCell ?_ ?_ _) | (with_reducible refine Ext.trans ?_ (by assumption)) | go_size))) h4))); intro hHeld; (dsimp only [putW]))
      (refine wg_step 9 hR rfl (by kernel_rfl) (by kernel_rfl) ?_ (by kernel_rfl); (obtain ⟨v', w3, hrun, hown, hg3⟩ := append_ints ((V.alloc (.cells #[.int .i64 (i : Int)] 3)).drew) 23 HLV.out hlk i V.heap.size (by simp [go_sem]); obtain ⟨g, cap, rfl, hgb, hl3⟩ := list_of_own' hown; have hE3 := Lib.hid (Ext.trans (Ext.drew (Ext.alloc (Ext.refl V) _)) (Ext.ofNone hg3)); have hs3 := hE3.out.size; have hgb2 : V.heap.size ≤ g := (by simp at hgb; omega); have Hc := Lib.hid (walk_next hBW HXB.out Hlen.out Hih.out hl3 hgb2 hk.size HA.out Hlt.out hi0 (by omega) HBV.out hE3.out HJA.out HJ.out); refine wg_eff (v := .slice (some ⟨g, 0, none⟩) (lst.length + 1) cap) (w' := w3) ?_ ?_ ?_; (focus (simp [execOp, resolve, invoke, builtin, hW1, hW2, hW4, hW5, hrun, Result.andThen])); (focus (exact hE3.out.cell h4)); intro hHeld; (dsimp only [putW])))
      (refine wg_step 12 hR rfl (by kernel_rfl) (by kernel_rfl) ?_ (by kernel_rfl); refine wg_call (f := 72) (args := ?_) ?_ ?_; rotate_left; (focus (go_simp; first | done | (with_reducible rfl) | (refine ⟨?_, ?_⟩ <;> with_reducible rfl))); (go_at_call 72; refine Hc.out.mono ?_; rintro e w5 h5; have H5k := Lib.hid h5.keep; obtain ⟨r, rfl, H5⟩ := two_ends h5; have h5c := (HBV.out.keep ((KeepC.of_ext hE3.out).trans H5k.out)).2.2.2.1); refine ⟨_, rfl, h5c, fun hHeld => ?_⟩; (dsimp only [putW]))
      (refine wg_take 13 (v := ?_) hR rfl (by kernel_rfl) (by kernel_rfl) ?_ (by with_reducible assumption) ?_; rotate_left; (focus (intro w hSw; (try dsimp only at hSw); go_simp; (try with_reducible rfl))); (dsimp only [putW]))
      refine wg_fin hR hK [(29, 13), (0, 12), (0, 11), (0, 10), (0, 9), (0, 8), (0, 7), (0, 6), (0, 3), (0, 2), (0, 5), (0, 4), (0, 1), (0, 0)] (by kernel_rfl) (by kernel_rfl) (by dsimp only [mg, gsOf, valAt]) ?_; clear hW1 hW2 hW3 hW4 hW5 hR hK hL
      clear r5
      clear r0
      clear r9
      -- >>
      have hin : i < n - m := by have := Hlen.out; omega
      clear hrun hown hg3 hl3 hgb hgb2 h5
      have hsplit := Hxs.out
      rw [Globe.range_drop hin, List.flatMap_cons] at hsplit
      have Hs := Lib.hid hsplit; clear hsplit Hxs
      have hkW := (KeepC.of_ext (X := X) hE3.out)
      cases r
      · go_wp2_with fail
        go_ret
        rcases H5.out with ⟨q, -⟩ | ⟨-, q, hq, hJx, hk5⟩
        · cases q
        · refine .inr ⟨rfl, xs ++ q, ?_, by rw [← List.append_assoc]; exact hJx, hk.trans (hkW.trans hk5)⟩
          rw [← Hs.out, List.map_append]
          obtain ⟨rr, hr⟩ := hq
          exact ⟨rr ++ ((List.range (n - m)).drop (i + 1)).flatMap (fun i => Globe.combs n m (lst ++ [i]) (i + 1)), by rw [← hr]; simp only [List.append_assoc]⟩
      · go_wp2_with fail
        obtain ⟨ys, hys, hJ5, hk5⟩ : ∃ ys : List YL, ys.map (fun x => x.2.2) = Globe.combs n m (lst ++ [i]) (i + 1) ∧ J (pre ++ xs ++ ys) w5 ∧ KeepC X w3 w5 := by
          rcases H5.out with ⟨-, ys, q1, q2, q3⟩ | ⟨q, -⟩
          · exact ⟨ys, q1, q2, q3⟩
          · cases q
        have Hys := Lib.hid hys; clear hys
        have HJ5 := Lib.hid hJ5; clear hJ5
        go_roundw
        case rel => exact ⟨i + 1, xs ++ ys, by omega, by omega, by go_num, by show _ = _; rw [List.map_append, Hys.out, List.append_assoc]; exact Hs.out, by show J _ _; rw [← List.append_assoc]; exact HJ5.out, hk.trans (hkW.trans hk5)⟩
        case measure => simp [intOf]; omega
    · go_wp2_with fail
      go_ret
      have hin : n - m ≤ i := by have := Hlen.out; omega
      have hall := Hxs.out
      rw [Globe.range_drop_ge hin, List.flatMap_nil, List.append_nil] at hall
      exact .inl ⟨rfl, xs, hall, HJ.out, hk⟩

end Go.Proofs.YtglfoglkdbbmmaaDoor
