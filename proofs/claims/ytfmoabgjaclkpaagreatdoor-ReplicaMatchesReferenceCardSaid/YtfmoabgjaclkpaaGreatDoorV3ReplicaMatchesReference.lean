/- Part 3 of what the proof of ReplicaMatchesReference stands on. -/
import Derived.Test.YtfmoabgjaclkpaaGreatDoorV2ReplicaMatchesReference
namespace Go.Proofs.YtfmoabgjaclkpaaGreatDoor
set_option maxRecDepth 1000000
set_option maxHeartbeats 4000000
set_option synthInstance.maxHeartbeats 0
set_option synthInstance.maxSize 9999
open Go.RowKit
def Tz25_0 : List Row := [(some 16, [0], []), (some 17, [3], []), (some 18, [16, 17], [0, 1]), (some 19, [18], [2]), (some 20, [0], []), (some 21, [3], []), (some 22, [21], [5]), (some 23, [20, 22], [4, 6]), (some 24, [23], [7]), (some 25, [19, 24], [3, 8])]
def Tz25_1 : List Row := [(some 35, [4], []), (some 36, [5], []), (some 37, [35, 36], [0, 1]), (some 38, [37], [2]), (some 39, [4], []), (some 40, [5], []), (some 41, [40], [5]), (some 42, [39, 41], [4, 6]), (some 43, [42], [7]), (some 44, [38, 43], [3, 8])]
namespace Rep
def cpN (l : List Rec) : Nat → List Rec
 | 0 => []
 | 1 => [recN l 0]
 | p + 2 => if recN l (p + 1) = recN l p then cpN l (p + 1) else cpN l (p + 1) ++ [recN l (p + 1)]
theorem cp_eq {l : List Rec} {p : Nat} (hp : 1 ≤ p) (h : recN l p = recN l (p - 1)) : cpN l (p + 1) = cpN l p := by
 obtain ⟨q, rfl⟩ : ∃ q, p = q + 1 := ⟨p - 1, by omega⟩
 rw [Nat.add_sub_cancel] at h
 show (if recN l (q + 1) = recN l q then _ else _) = _
 rw [if_pos h]
theorem cp_ne {l : List Rec} {p : Nat} (hp : 1 ≤ p) (h : ¬ recN l p = recN l (p - 1)) : cpN l (p + 1) = cpN l p ++ [recN l p] := by
 obtain ⟨q, rfl⟩ : ∃ q, p = q + 1 := ⟨p - 1, by omega⟩
 rw [Nat.add_sub_cancel] at h
 show (if recN l (q + 1) = recN l q then _ else _) = _
 rw [if_neg h]
theorem cp_pre {l : List Rec} {k : Nat} (h1 : 1 ≤ k) (hk : k < l.length) (hp : cpN l k = l.take k) (h : ¬ recN l k = recN l (k - 1)) : cpN l (k + 1) = l.take (k + 1) := by rw [cp_ne h1 h, hp, recN_take hk]
end Rep
theorem recN_drop (l : List Rec) (k i : Nat) : recN (l.drop k) i = recN l (k + i) := by unfold recN; rw [List.getElem?_drop]
theorem RecsW.drop {w : World} {b : Nat} {l : List Rec} (h : RecsW w b l) (k : Nat) : RecB w b (k * 7) (l.drop k) := ⟨fun i x hi => by
 rw [List.getElem?_drop] at hi
 have := h.recB.at_ (k + i) x hi
 rwa [show 0 + (k + i) * 7 = k * 7 + i * 7 by omega] at this⟩
theorem take_set_snoc {l : List Rec} {k : Nat} {x : Rec} (hk : k < l.length) : (l.set k x).take (k + 1) = l.take k ++ [x] := by
 rw [recN_take (by rw [List.length_set]; exact hk), List.take_set_of_le (Nat.le_refl _), recN_set, if_pos ⟨rfl, hk⟩]
theorem turns_setCells (O : Nat) : ∀ (vs : List Value) (w : World) (o : Nat), Turns O w (w.setCells O o vs)
 | [], _, _ => ⟨rfl, fun _ _ => rfl, fun _ => rfl, fun _ h _ => h, fun _ _ => rfl, fun _ h _ => h⟩
 | v :: vs, w, o => by
  rw [World.setCells]
  exact (turns_set w O o v).trans (turns_setCells O vs _ _)
theorem box_setCells {O i : Nat} {u : Value} : ∀ (vs : List Value) (w : World) (o : Nat), i < o → BoxAt w O i u → BoxAt (w.setCells O o vs) O i u
 | [], _, _, _, h => h
 | v :: vs, w, o, hi, h => by
  rw [World.setCells]
  refine box_setCells vs _ _ (by omega) ⟨?_, by simp [go_sem, h.2]⟩
  rw [World.cell?_setCell_other w _ _ _ (fun e => by have := congrArg Addr.off e; simp at this; omega)]; exact h.1
theorem sn_clear {P : Program} {ev : Operand → Value} {oi : Oper} {w : World} {N : Value → World → Prop} {q m : Nat} {vs : List Value} (h1 : (execOp ev oi).run P w = .ok (.value (.tuple #[])) (w.setCells q m vs))
  (h : ∀ X, Turns q w X → (∀ i u, i < m → BoxAt w q i u → BoxAt X q i u) → N (.tuple #[]) X) : StepN P ev oi w N := sn_eff h1 (h _ (turns_setCells q vs w m) fun _i _u hi hu => box_setCells vs w m hi hu)
theorem ex_clear {P : Program} {ev : Operand → Value} {o : Oper} {w : World} {x : Operand} {t1 : TypeId} {s v' : Value} {w' : World} (hop : o.op = .call { callee := .builtin .clear, args := #[x], argTypes := #[t1] }) (hx : ev x = s)
  (h : (Builtin.clear_ #[t1] o.type #[s]).run P w = .ok v' w') : (execOp ev o).run P w = .ok (.value v') w' := by
 simp [execOp, hop, resolve, invoke, builtin, hx, h, Result.andThen]
theorem slRz {w : World} {b n c k : Nat} (h1 : k ≤ n) (h2 : n ≤ c) (h4 : k ≠ c) : (Instr.sliceAt 23 (.slice (some ⟨b, 0, none⟩) n c) (some (.int .i64 k)) none none).run Tryz.prog w = .ok (.slice (some ⟨b, k * 7, none⟩) (n - k) (c - k)) w := by
 have h := sl23_100 (w := w) (b := b) (o := 0) h1 h2 h4
 rwa [Nat.zero_add] at h
theorem zero7 (n : Nat) : ∀ v ∈ (Builtin.zeroCells (Value.agg #[.int .i64 0, .int .i64 0, .int .i64 0, .int .i64 0, .int .i64 0, .int .i64 0, .string ⟨#[]⟩]).cells n).toList, v.oneCell' = true := fun v hv => by
 simp only [Builtin.zeroCells, Array.toList_map, List.mem_map] at hv
 obtain ⟨i, _, rfl⟩ := hv
 show (#[Value.int .i64 0, .int .i64 0, .int .i64 0, .int .i64 0, .int .i64 0, .int .i64 0, .string ⟨#[]⟩][i % 7]!).oneCell' = true
 have : i % 7 = 0 ∨ i % 7 = 1 ∨ i % 7 = 2 ∨ i % 7 = 3 ∨ i % 7 = 4 ∨ i % 7 = 5 ∨ i % 7 = 6 := by omega
 rcases this with h | h | h | h | h | h | h <;> rw [h] <;> rfl
theorem recs_clear {w : World} {g k n c : Nat} {ty : TypeId} {l : List Rec} (h : RecsW w g l) (hl : l.length = n) (hk : k < n) : (Builtin.clear_ #[23] ty #[.slice (some ⟨g, k * 7, none⟩) (n - k) c]).run Tryz.prog w = .ok (.tuple #[]) (w.setCells g (k * 7) (Builtin.zeroCells (Value.agg #[.int .i64 0, .int .i64 0, .int .i64 0, .int .i64 0, .int .i64 0, .int .i64 0, .string ⟨#[]⟩]).cells (n - k)).toList) := by
 have hv : ∀ w, (zeroValue 49).run Tryz.prog w = .ok (.agg #[.int .i64 0, .int .i64 0, .int .i64 0, .int .i64 0, .int .i64 0, .int .i64 0, .string ⟨#[]⟩]) w := by intro w; kernel_rfl
 have hsz : (Builtin.zeroCells (Value.agg #[.int .i64 0, .int .i64 0, .int .i64 0, .int .i64 0, .int .i64 0, .int .i64 0, .string ⟨#[]⟩]).cells (n - k)).toList.length = (n - k) * 7 := by
  rw [Array.length_toList, size_zeroCells]; rfl
 have hb : ∀ j, j < (n - k) * 7 → ∃ v, BoxAt w g (k * 7 + j) v := fun j hj => by
  obtain ⟨i, q, rfl, hq⟩ : ∃ i q, j = i * 7 + q ∧ q < 7 := ⟨j / 7, j % 7, by omega, by omega⟩
  obtain ⟨h0, h1, h2, h3, h4, h5, h6⟩ := h.r (i := k + i) (by omega)
  rw [show k * 7 + (i * 7 + q) = (k + i) * 7 + q by omega]
  match q, hq with
  | 0, _ => exact ⟨_, h0⟩
  | 1, _ => exact ⟨_, h1⟩
  | 2, _ => exact ⟨_, h2⟩
  | 3, _ => exact ⟨_, h3⟩
  | 4, _ => exact ⟨_, h4⟩
  | 5, _ => exact ⟨_, h5⟩
  | 6, _ => exact ⟨_, h6⟩
 have hst := run_storeCells_cells (P := Tryz.prog) g (k * 7) (Builtin.zeroCells (Value.agg #[.int .i64 0, .int .i64 0, .int .i64 0, .int .i64 0, .int .i64 0, .int .i64 0, .string ⟨#[]⟩]).cells (n - k)).toList 0 w (fun j hj => by
  obtain ⟨v, hv⟩ := hb j (by omega)
  rw [Nat.add_zero, hv.1]; rfl) (fun j hj => by
  obtain ⟨v, hv⟩ := hb j (by omega)
  rw [Nat.add_zero]; exact hv.2) (zero7 _)
 rw [Nat.add_zero] at hst
 obtain ⟨m, hm⟩ : ∃ m, n - k = m + 1 := ⟨n - k - 1, by omega⟩
 rw [hm] at hst ⊢
 simp [Builtin.clear_, run_underlying Tryz.underlying23, hv, hst]
theorem RecsW.cut {w X : World} {g k : Nat} {l : List Rec} (h : RecsW w g l) (hk : ∀ i u, i < k * 7 → BoxAt w g i u → BoxAt X g i u) : RecsW X g (l.take k) := ⟨fun i x hx => by
 have hik : i < k := by have := (List.getElem?_eq_some_iff.1 hx).1; rw [List.length_take] at this; omega
 obtain ⟨h0, h1, h2, h3, h4, h5, h6⟩ := (h.take k).at_ i x hx
 exact ⟨hk _ _ (by omega) h0, hk _ _ (by omega) h1, hk _ _ (by omega) h2, hk _ _ (by omega) h3, hk _ _ (by omega) h4, hk _ _ (by omega) h5, hk _ _ (by omega) h6⟩⟩
theorem Compact_c {g n c : Nat} {l : List Rec} (w : World) (hRc : RecsW w g l) (hl : l.length = n) (_hg : g < w.heap.size) (h0 : 0 < n) (hnc : n ≤ c) (hn : n ≤ 1000) : Calls Tryz.prog 90 #[sv g 0 n c] w fun e w' => ∃ k, e = .returned (sv g 0 k c) ∧ RecsW w' g (Rep.cpN l n) ∧ (Rep.cpN l n).length = k ∧ k ≤ c ∧ Wrote (fun k => k = g) w w' := by
 have B2 : Wrote (fun k => k = g) w w := Wrote.refl _ _;refine calls_cw 61 [(0, sv g 0 n c)] Tryz.func90 rfl Tryz.ntmps90 (by kernel_rfl) (by kernel_rfl) (fun L => ?_);have hE := Ext.refl w;refine zc (zp (pT (.slice none 0 0) ?_));refine zn (zc (zc (zp (pD (sv g 0 n c) (iv n) ?_))))
 by_cases Bv : ((n : Nat) : Int) < (2 : Int)
 ·
  refine pU (.bool true) (ed (((n : Nat) : Int) < (2 : Int)) (Bv)) ?_;refine zn (zt ?_);refine zc (zp (pD (sv g 0 n c) (sv g 0 n c) ?_));refine zn (cw_ret (qw_then_ret (qw_ret [sv g 0 n c] rfl ⟨(by kernel_rfl), trivial⟩ ?_)));obtain rfl : n = 1 := by omega
  have hpre : Rep.cpN l 1 = l := (show [recN l 0] = l.take 1 by rw [recN_take (show 0 < l.length by omega), List.take_zero]; rfl).trans (List.take_of_length_le (by omega));exact ⟨1, rfl, by rw [hpre]; exact hRc, by rw [hpre]; exact hl, by omega, B2⟩
 ·
  refine pU (.bool false) (en (((n : Nat) : Int) < (2 : Int)) (Bv)) ?_;refine zn (zf ?_);refine cw_skip (zq (zc (zc (zp (pT (iv 1) ?_)))));refine zn (cw_block ?_);refine cw_loop [0, 3] (fun ws' wr m => ∃ k : Nat, ws' = [(0, sv g 0 n c), (3, iv k)] ∧ m = n - k ∧ w.heap.size ≤ wr.heap.size ∧ Wrote (fun k => k = g) w wr ∧ RecsW wr g l ∧ 1 ≤ k ∧ k ≤ n ∧ Rep.cpN l k = l.take k) (ws0 := [(0, sv g 0 n c), (3, iv 1)]) (by kernel_rfl) _ ⟨1, rfl, rfl, Nat.le_refl _, B2, hRc, Nat.le_refl _, by omega, (show [recN l 0] = l.take 1 by rw [recN_take (show 0 < l.length by omega), List.take_zero]; rfl)⟩ ?_;clear B2 hRc;rintro m4 L ws w3 ⟨k, rfl, rfl, Cb, B2, hRc, Bw, C9, hpre⟩
  by_cases hlt : k < n
  ·
   by_cases hq : recN l k = recN l (k - 1)
   ·
    refine zc (zc (zp (pD (iv k) (sv g 0 n c) ?_)));refine pT (iv n) ?_;refine pU (.bool true) (ed (((k : Nat) : Int) < ((n : Nat) : Int)) (by omega)) ?_;refine zn (zt ?_);refine cw_skip (zq (zc (cw_block ?_)));refine zc (dE Tz25_0 (fun w' => RecAt w' g (k * 7) (recN l k) ∧ RecAt w' g ((k - 1) * 7) (recN l (k - 1))) (⟨(hRc.ra (i := k) (by omega)), (hRc.ra (i := k - 1) (by omega))⟩) (fun ops Q X5 hb hL hR hK => ?_));replace B2 := B2.step hb;replace hRc := hRc.ext hb;have Ch := hb.size;have hS := A2 (hRc.ra (i := k) (by omega)) (hRc.ra (i := k - 1) (by omega));refine wW 0 (sv g 0 n c) 1 (iv k) hR hS ?_;refine wL 2 (pw g (k * 7)) hR (fun w _ => ex_index (p := sv g 0 n c) (i := iv k) rfl (by kernel_rfl) (by kernel_rfl) (ix23z (k := k) (by omega))) hS ?_;refine wM 3 (rvv (recN l k)) hR (fun w hS => rl hS.1) hS ?_;refine wW 4 (sv g 0 n c) 5 (iv k) hR hS ?_;refine wL 6 (iv ((k - 1 : Nat) : Int)) hR (fun w _ => ev_wrapN (a := ((k : Nat) : Int) - ((1 : Nat) : Int)) (k := k - 1) (by kernel_rfl) (by omega) (by omega)) hS ?_;refine wL 7 (pw g ((k - 1) * 7)) hR (fun w _ => ex_index (p := sv g 0 n c) (i := iv ((k - 1 : Nat) : Int)) rfl (by kernel_rfl) (by kernel_rfl) (ix23z (k := k - 1) (by omega))) hS ?_;refine wM 8 (rvv (recN l (k - 1))) hR (fun w hS => rl hS.2) hS ?_;refine wL 9 (.bool true) hR (fun w _ => ex_binV (a := rvv (recN l k)) (b := rvv (recN l (k - 1))) rfl (by kernel_rfl) (by kernel_rfl) (eqG_agg (by kernel_rfl)) (bin_eqv_t (rec_eq _ ((recN l k)) ((recN l (k - 1)))) hq)) hS ?_;refine we hL hR hK ?_;refine zq (cK [0,3,25] (fun L => ?_));refine zt ?_;refine zc (zp (pD (sv g 0 n c) (iv k) ?_));refine pU (sv g (k * 7) (n - k) (c - k)) (ex_slice (p := sv g 0 n c) rfl (by kernel_rfl) (by kernel_rfl) (by kernel_rfl) (by kernel_rfl) (slRz (k := k) (by omega) (by omega) (by omega))) ?_;refine pT (sv g (k * 7) (n - k) (c - k)) ?_;refine zn (zc (zc (zp (pT (iv 1) ?_))));refine zn (cw_block ?_);obtain ⟨k0, Cg⟩ : ∃ q, q = k := ⟨_, rfl⟩;refine cw_loop [0, 3, 4, 5] (fun ws' wr m => ∃ i m9 : Nat, ∃ l2 : List Rec, ws' = [(0, sv g 0 n c), (3, iv m9), (4, sv g (k * 7) (n - k) (c - k)), (5, iv i)] ∧ m = n - i ∧ X5.heap.size ≤ wr.heap.size ∧ Wrote (fun k => k = g) w wr ∧ RecsW wr g l2 ∧ 1 ≤ i ∧ k + i ≤ n ∧ (1 ≤ m9 ∧ m9 + 1 ≤ k + i) ∧ l2.length = n ∧ l2.take m9 = Rep.cpN l (k + i) ∧ (∀ q, k + i ≤ q + 1 → recN l2 q = recN l q)) (ws0 := [(0, sv g 0 n c), (3, iv k), (4, sv g (k * 7) (n - k) (c - k)), (5, iv 1)]) (by kernel_rfl) _ ⟨1, k, l, rfl, rfl, Nat.le_refl _, B2, hRc, Nat.le_refl _, by omega, by omega, hl, (by rw [Rep.cp_eq Bw hq, hpre]), (fun q _ => rfl)⟩ ?_;clear B2 hRc;rintro m9 L ws w8 ⟨i, m9, l2, rfl, rfl, Bx, B2, Bn, Cf, hpn, hmk, Bo, B8, hkeep⟩;have B7 := Ext.refl w8
    by_cases Ca : i < n - k
    ·
     have B4 := Bn.drop k;have hDl : (l2.drop k).length = n - k := by rw [List.length_drop, Bo]
     have e1 : recN (l2.drop k) i = recN l (k + i) := by rw [recN_drop];exact hkeep _ (by omega)
     have e2 : recN (l2.drop k) (i - 1) = recN l (k + i - 1) := by rw [recN_drop, show k + (i - 1) = k + i - 1 by omega];exact hkeep _ (by omega)
     by_cases Bp : recN (l2.drop k) i = recN (l2.drop k) (i - 1)
     ·
      refine zc (zc (zp (pD (iv i) (sv g (k * 7) (n - k) (c - k)) ?_)));refine pT (iv ((n - k : Nat) : Int)) ?_;refine pU (.bool true) (ed (((i : Nat) : Int) < ((n - k : Nat) : Int)) (by omega)) ?_;refine zn (zt ?_);refine cw_skip (zq (zc (cw_block ?_)));refine zc (dE Tz25_1 (fun w' => RecAt w' g (k * 7 + i * 7) (recN (l2.drop k) i) ∧ RecAt w' g (k * 7 + (i - 1) * 7) (recN (l2.drop k) (i - 1))) (⟨(B4.r (i := i) (by omega)), (B4.r (i := i - 1) (by omega))⟩) (fun ops Q Cd hb hL hR hK => ?_));replace B7 := B7.trans hb;replace B2 := B2.step hb;replace B4 := B4.ext hb;have Br := hb.size;have hS := A2 (B4.r (i := i) (by omega)) (B4.r (i := i - 1) (by omega));refine wW 0 (sv g (k * 7) (n - k) (c - k)) 1 (iv i) hR hS ?_;refine wL 2 (pw g (k * 7 + i * 7)) hR (fun w _ => ex_index (p := sv g (k * 7) (n - k) (c - k)) (i := iv i) rfl (by kernel_rfl) (by kernel_rfl) (ix23 (k := i) (by omega))) hS ?_;refine wM 3 (rvv (recN (l2.drop k) i)) hR (fun w hS => rl hS.1) hS ?_;refine wW 4 (sv g (k * 7) (n - k) (c - k)) 5 (iv i) hR hS ?_;refine wL 6 (iv ((i - 1 : Nat) : Int)) hR (fun w _ => ev_wrapN (a := ((i : Nat) : Int) - ((1 : Nat) : Int)) (k := i - 1) (by kernel_rfl) (by omega) (by omega)) hS ?_;refine wL 7 (pw g (k * 7 + (i - 1) * 7)) hR (fun w _ => ex_index (p := sv g (k * 7) (n - k) (c - k)) (i := iv ((i - 1 : Nat) : Int)) rfl (by kernel_rfl) (by kernel_rfl) (ix23 (k := i - 1) (by omega))) hS ?_;refine wM 8 (rvv (recN (l2.drop k) (i - 1))) hR (fun w hS => rl hS.2) hS ?_;refine wL 9 (.bool false) hR (fun w _ => ex_binV (a := rvv (recN (l2.drop k) i)) (b := rvv (recN (l2.drop k) (i - 1))) rfl (by kernel_rfl) (by kernel_rfl) (eqG_agg (by kernel_rfl)) (bin_nqv_t (rec_eq _ ((recN (l2.drop k) i)) ((recN (l2.drop k) (i - 1)))) Bp)) hS ?_;refine we hL hR hK ?_;refine zq (cK [0,3,4,5,44] (fun L => ?_));refine zf ?_;refine cw_skip (qw_block (zq (zp (pT (iv i) ?_))));refine pU (iv ((i + 1 : Nat) : Int)) (ew (by omega) (by omega)) ?_;refine pT (iv ((i + 1 : Nat) : Int)) ?_;refine pl_nil (qw_round [0, 3, 4, 5] (ws' := [(0, sv g 0 n c), (3, iv m9), (4, sv g (k * 7) (n - k) (c - k)), (5, iv ((i + 1 : Nat) : Int))]) (by kernel_rfl) _ ?_ ⟨(i + 1), m9, l2, rfl, rfl, (T Bx Br), B2, (Bn.ext B7), by omega, by omega, by omega, Bo, (by rw [B8, show k + (i + 1) = (k + i) + 1 by omega, Rep.cp_eq (by omega) (by rw [← e1, ← e2]; exact Bp)]), (fun q hq => hkeep q (by omega))⟩);omega
     ·
      refine zc (zc (zp (pD (iv i) (sv g (k * 7) (n - k) (c - k)) ?_)));refine pT (iv ((n - k : Nat) : Int)) ?_;refine pU (.bool true) (ed (((i : Nat) : Int) < ((n - k : Nat) : Int)) (by omega)) ?_;refine zn (zt ?_);refine cw_skip (zq (zc (cw_block ?_)));refine zc (dE Tz25_1 (fun w' => RecAt w' g (k * 7 + i * 7) (recN (l2.drop k) i) ∧ RecAt w' g (k * 7 + (i - 1) * 7) (recN (l2.drop k) (i - 1))) (⟨(B4.r (i := i) (by omega)), (B4.r (i := i - 1) (by omega))⟩) (fun ops Q C6 hb hL hR hK => ?_));replace B7 := B7.trans hb;replace B2 := B2.step hb;replace B4 := B4.ext hb;have Bs := hb.size;have hS := A2 (B4.r (i := i) (by omega)) (B4.r (i := i - 1) (by omega));refine wW 0 (sv g (k * 7) (n - k) (c - k)) 1 (iv i) hR hS ?_;refine wL 2 (pw g (k * 7 + i * 7)) hR (fun w _ => ex_index (p := sv g (k * 7) (n - k) (c - k)) (i := iv i) rfl (by kernel_rfl) (by kernel_rfl) (ix23 (k := i) (by omega))) hS ?_;refine wM 3 (rvv (recN (l2.drop k) i)) hR (fun w hS => rl hS.1) hS ?_;refine wW 4 (sv g (k * 7) (n - k) (c - k)) 5 (iv i) hR hS ?_;refine wL 6 (iv ((i - 1 : Nat) : Int)) hR (fun w _ => ev_wrapN (a := ((i : Nat) : Int) - ((1 : Nat) : Int)) (k := i - 1) (by kernel_rfl) (by omega) (by omega)) hS ?_;refine wL 7 (pw g (k * 7 + (i - 1) * 7)) hR (fun w _ => ex_index (p := sv g (k * 7) (n - k) (c - k)) (i := iv ((i - 1 : Nat) : Int)) rfl (by kernel_rfl) (by kernel_rfl) (ix23 (k := i - 1) (by omega))) hS ?_;refine wM 8 (rvv (recN (l2.drop k) (i - 1))) hR (fun w hS => rl hS.2) hS ?_;refine wL 9 (.bool true) hR (fun w _ => ex_binV (a := rvv (recN (l2.drop k) i)) (b := rvv (recN (l2.drop k) (i - 1))) rfl (by kernel_rfl) (by kernel_rfl) (eqG_agg (by kernel_rfl)) (bin_nqv_f (rec_eq _ ((recN (l2.drop k) i)) ((recN (l2.drop k) (i - 1)))) Bp)) hS ?_;refine we hL hR hK ?_;refine zq (cK [0,3,4,5,44] (fun L => ?_));refine zt ?_;refine zc (zp (pD (sv g 0 n c) (iv m9) ?_));refine pD (sv g (k * 7) (n - k) (c - k)) (iv i) ?_;refine pU (pw g (k * 7 + i * 7)) (xi (sv g (k * 7) (n - k) (c - k)) (iv i) (ix23 (k := i) (by omega))) ?_;refine pU (rvv (recN (l2.drop k) i)) (xl (rl (B4.r (i := i) (by omega)))) ?_;refine pU (pw g (m9 * 7)) (xi (sv g 0 n c) (iv m9) (ix23z (k := m9) (by omega))) ?_;have B0 := (Bn.ext B7);have Bj : m9 < l2.length := by omega
      have Ba := B0.w0 Bj;have Bb := B0.w1 Bj;have Bc := B0.w2 Bj;have Be := B0.w3 Bj;have Bf := B0.w4 Bj;have Bg := B0.w5 Bj;have Bh := B0.w6 Bj;refine pP (sn_setK7 (O := g) (j := m9 * 7) (v0 := iv ((recN (l2.drop k) i).c : Int)) (v1 := iv ((recN (l2.drop k) i).n : Int)) (v2 := iv ((recN (l2.drop k) i).t : Int)) (v3 := iv ((recN (l2.drop k) i).o : Int)) (v4 := iv ((recN (l2.drop k) i).w : Int)) (v5 := iv ((recN (l2.drop k) i).k : Int)) (v6 := .string ((recN (l2.drop k) i).x)) (xt (pw g (m9 * 7)) (rvv (recN (l2.drop k) i)) (st49 Ba.1 Ba.2 Bb.1 Bb.2 Bc.1 Bc.2 Be.1 Be.2 Bf.1 Bf.2 Bg.1 Bg.2 Bh.1 Bh.2)) Ba Bb Bc Be Bf Bg Bh ?_);intro C7 ho By Bz C0 C1 C2 C3 C4 hk;have Bk := RecsW.set (i := m9) (x := (recN (l2.drop k) i)) B0 ⟨By, Bz, C0, C1, C2, C3, C4⟩ hk;obtain ⟨C5, B3⟩ : ∃ q, q = l2.set m9 (recN (l2.drop k) i) := ⟨_, rfl⟩;rw [← B3] at Bk;have Bm : C5.length = n := by rw [B3, List.length_set];exact Bo
      replace B2 := B2.turn ho (.inl (rfl));have Bt := Nat.le_of_eq ho.size.symm;clear ho hk Bj By Bz C0 C1 C2 C3 C4 Ba Bb Bc Be Bf Bg Bh;refine zn (zp (pT (iv m9) ?_));refine pU (iv ((m9 + 1 : Nat) : Int)) (ew (by omega) (by omega)) ?_;refine pT (iv ((m9 + 1 : Nat) : Int)) ?_;refine pl_nil (qw_block (zq (zp (pT (iv i) ?_))));refine pU (iv ((i + 1 : Nat) : Int)) (ew (by omega) (by omega)) ?_;refine pT (iv ((i + 1 : Nat) : Int)) ?_;refine pl_nil (qw_round [0, 3, 4, 5] (ws' := [(0, sv g 0 n c), (3, iv ((m9 + 1 : Nat) : Int)), (4, sv g (k * 7) (n - k) (c - k)), (5, iv ((i + 1 : Nat) : Int))]) (by kernel_rfl) _ ?_ ⟨(i + 1), (m9 + 1), C5, rfl, rfl, (T Bx (T Bs Bt)), B2, Bk, by omega, by omega, by omega, Bm, (by rw [B3, take_set_snoc (by omega), B8, show k + (i + 1) = (k + i) + 1 by omega, Rep.cp_ne (by omega) (by rw [← e1, ← e2]; exact Bp), e1]), (fun q hq => by rw [B3, recN_set, if_neg (by omega)]; exact hkeep q (by omega))⟩);omega
    ·
     refine zc (zc (zp (pD (iv i) (sv g (k * 7) (n - k) (c - k)) ?_)));refine pT (iv ((n - k : Nat) : Int)) ?_;refine pU (.bool false) (en (((i : Nat) : Int) < ((n - k : Nat) : Int)) (by omega)) ?_;refine zn (zf ?_);refine cw_exit (qw_then_exit (qw_then_exit (qw_block_out (zq (zc (zp (pD (sv g 0 n c) (iv m9) ?_)))))));refine pU (sv g (m9 * 7) (n - m9) (c - m9)) (ex_slice (p := sv g 0 n c) rfl (by kernel_rfl) (by kernel_rfl) (by kernel_rfl) (by kernel_rfl) (slRz (k := m9) (by omega) (by omega) (by omega))) ?_;have Bi := Bn;refine pP (sn_clear (ex_clear (s := sv g (m9 * 7) (n - m9) (c - m9)) rfl (by kernel_rfl) (recs_clear Bi Bo (by omega))) ?_);intro C8 ho hk;have Bq := RecsW.cut (k := m9) Bi hk;replace B2 := B2.turn ho (.inl (rfl));have Cc := Nat.le_of_eq ho.size.symm;clear ho hk;refine zn (zc (zp (pD (sv g 0 n c) (iv m9) ?_)));refine pU (sv g 0 m9 c) (ex_slice (p := sv g 0 n c) rfl (by kernel_rfl) (by kernel_rfl) (by kernel_rfl) (by kernel_rfl) (sl23_010 (m := m9) (by omega) (by omega))) ?_;refine pT (sv g 0 m9 c) ?_;refine zn (cK [2] (fun L => ?_));refine cw_ret (qw_block_ret (qw_then_ret (qw_then_ret (qw_block_ret (qw_then_ret (qw_ret [sv g 0 m9 c] rfl ⟨(by kernel_rfl), trivial⟩ ?_))))));have hee : k + i = n := by omega
     rw [hee] at B8;exact ⟨m9, rfl, by rw [← B8]; exact Bq, by rw [← B8, List.length_take]; omega, by omega, B2⟩
   ·
    refine zc (zc (zp (pD (iv k) (sv g 0 n c) ?_)));refine pT (iv n) ?_;refine pU (.bool true) (ed (((k : Nat) : Int) < ((n : Nat) : Int)) (by omega)) ?_;refine zn (zt ?_);refine cw_skip (zq (zc (cw_block ?_)));refine zc (dE Tz25_0 (fun w' => RecAt w' g (k * 7) (recN l k) ∧ RecAt w' g ((k - 1) * 7) (recN l (k - 1))) (⟨(hRc.ra (i := k) (by omega)), (hRc.ra (i := k - 1) (by omega))⟩) (fun ops Q Ce hb hL hR hK => ?_));replace B2 := B2.step hb;replace hRc := hRc.ext hb;have Bu := hb.size;have hS := A2 (hRc.ra (i := k) (by omega)) (hRc.ra (i := k - 1) (by omega));refine wW 0 (sv g 0 n c) 1 (iv k) hR hS ?_;refine wL 2 (pw g (k * 7)) hR (fun w _ => ex_index (p := sv g 0 n c) (i := iv k) rfl (by kernel_rfl) (by kernel_rfl) (ix23z (k := k) (by omega))) hS ?_;refine wM 3 (rvv (recN l k)) hR (fun w hS => rl hS.1) hS ?_;refine wW 4 (sv g 0 n c) 5 (iv k) hR hS ?_;refine wL 6 (iv ((k - 1 : Nat) : Int)) hR (fun w _ => ev_wrapN (a := ((k : Nat) : Int) - ((1 : Nat) : Int)) (k := k - 1) (by kernel_rfl) (by omega) (by omega)) hS ?_;refine wL 7 (pw g ((k - 1) * 7)) hR (fun w _ => ex_index (p := sv g 0 n c) (i := iv ((k - 1 : Nat) : Int)) rfl (by kernel_rfl) (by kernel_rfl) (ix23z (k := k - 1) (by omega))) hS ?_;refine wM 8 (rvv (recN l (k - 1))) hR (fun w hS => rl hS.2) hS ?_;refine wL 9 (.bool false) hR (fun w _ => ex_binV (a := rvv (recN l k)) (b := rvv (recN l (k - 1))) rfl (by kernel_rfl) (by kernel_rfl) (eqG_agg (by kernel_rfl)) (bin_eqv_f (rec_eq _ ((recN l k)) ((recN l (k - 1)))) hq)) hS ?_;refine we hL hR hK ?_;refine zq (cK [0,3,25] (fun L => ?_));refine zf ?_;refine cw_skip (qw_block (zq (zp (pT (iv k) ?_))));refine pU (iv ((k + 1 : Nat) : Int)) (ew (by omega) (by omega)) ?_;refine pT (iv ((k + 1 : Nat) : Int)) ?_;refine pl_nil (zr [0, 3] _ ?_ ⟨(k + 1), rfl, rfl, (T Cb Bu), B2, hRc, by omega, by omega, (Rep.cp_pre Bw (by omega) hpre hq)⟩);omega
  ·
   have hkn : k = n := by omega
   refine zc (zc (zp (pD (iv k) (sv g 0 n c) ?_)));refine pT (iv n) ?_;refine pU (.bool false) (en (((k : Nat) : Int) < ((n : Nat) : Int)) (by omega)) ?_;refine zn (zf ?_);refine cw_exit (qw_then_exit (qw_then_exit (qw_block_out (zq (zc (zp (pD (sv g 0 n c) (sv g 0 n c) ?_)))))));refine zn (cw_ret (qw_ret [sv g 0 n c] rfl ⟨(by kernel_rfl), trivial⟩ ?_));subst hkn;rw [List.take_of_length_le (by omega)] at hpre;exact ⟨k, rfl, by rw [hpre]; exact hRc, by rw [hpre]; exact hl, by omega, B2⟩
theorem Compact_0 {a : Option Addr} {c : Nat} (w : World) : Calls Tryz.prog 90 #[.slice a 0 c] w fun e w' => e = .returned (.slice a 0 c) ∧ Ext w w' := by
 refine calls_cw 61 [(0, .slice a 0 c)] Tryz.func90 rfl Tryz.ntmps90 (by kernel_rfl) (by kernel_rfl) (fun L => ?_);have hE := Ext.refl w;refine zc (zp (pT (.slice none 0 0) ?_));refine zn (zc (zc (zp (pD (.slice a 0 c) (iv 0) ?_))));refine pT (.bool true) ?_;refine zn (zt ?_);refine zc (zp (pD (.slice a 0 c) (.slice a 0 c) ?_));refine zn (cw_ret (qw_then_ret (qw_ret [.slice a 0 c] rfl ⟨(by kernel_rfl), trivial⟩ ?_)));exact ⟨rfl, hE⟩
end Go.Proofs.YtfmoabgjaclkpaaGreatDoor

namespace Go.Proofs.YtfmoabgjaclkpaaGreatDoor
set_option maxRecDepth 1000000
set_option maxHeartbeats 4000000
set_option synthInstance.maxHeartbeats 0
set_option synthInstance.maxSize 9999
open Go.RowKit
namespace Rep
theorem cp_len (l : List Rec) : ∀ n, (cpN l n).length ≤ n
 | 0 => Nat.le_refl _
 | 1 => Nat.le_refl _
 | p + 2 => by
  have := cp_len l (p + 1)
  show (if recN l (p + 1) = recN l p then cpN l (p + 1) else cpN l (p + 1) ++ [recN l (p + 1)]).length ≤ _
  split
  · omega
  · rw [List.length_append]; simp; omega
structure Mrg (l1 l2 : List Rec) (n : Nat) (l' : List Rec) : Prop where
 ex : ∃ ls : List Rec, ls.Perm (l1 ++ l2) ∧ Sd ls 0 n ∧ l' = cpN ls n
end Rep
theorem merged_p {n1 c1 n2 c2 : Nat} {a1 a2 : Option Addr} {l1 l2 : List Rec} (w : World) (H1 : RecsAt w a1 n1 l1) (H2 : RecsAt w a2 n2 l2) (hp : 0 < n1 + n2) (hn : n1 + n2 ≤ 1000) : Calls Tryz.prog 63 #[.slice a1 n1 c1, .slice a2 n2 c2, .func (.func 51) #[] #[]] w fun e w' => ∃ a k c l', e = .returned (.slice a k c) ∧ RecsAt w' a k l' ∧ Rep.Mrg l1 l2 (n1 + n2) l' ∧ k ≤ c ∧ (∀ ad, a = some ad → w.heap.size ≤ ad.block) ∧ Ext w w' := by
 refine calls_cw 17 [(2, .func (.func 51) #[] #[]), (1, .slice a2 n2 c2), (0, .slice a1 n1 c1)] Tryz.func63 rfl Tryz.ntmps63 (by kernel_rfl) (by kernel_rfl) (fun L => ?_);have hE := Ext.refl w;refine zc (zp (pT (.slice none 0 0) ?_));refine zn (zc (zp (pD (.slice a1 n1 c1) (.slice a2 n2 c2) ?_)));refine pS (sn_newS (us := #[.slice a1 n1 c1, .slice a2 n2 c2]) (t := 23) (k := 2) (c := 2) (by kernel_rfl) ?_);intro O1 X2 hzO1 hyO1 hb hbx;have ⟨bO1_0, bO1_1⟩ := bq2 hbx;replace hE := hE.trans hb;have hs3 := hb.size;have lt4 := bO1_0.lt;refine pS (sc 88 #[sv O1 0 2 2] ((Concat_c _ (bO1_0.1) (bO1_1.1) (H1.ext hE) (H2.ext hE) hp hn).mono ?_));rintro e w11 ⟨g5, c6, rfl, hn7, hR8, hcp9, hb⟩;replace hE := hE.trans hb;have hs12 := hb.size;have hln10 : (l1 ++ l2).length = n1 + n2 := by rw [List.length_append, H1.len, H2.len]
 have hgl9 := hR8.lt (i := 0) (by omega);refine ⟨_, rfl, pT (sv g5 0 (n1 + n2) c6) ?_⟩;refine zn (zc (zp (pD (sv g5 0 (n1 + n2) c6) (.func (.func 51) #[] #[]) ?_)));refine pS (sc 89 #[sv g5 0 (n1 + n2) c6, .func (.func 51) #[] #[]] ((SortStable_c _ hR8 hln10 (by omega) (by omega)).mono ?_));rintro e w17 ⟨rfl, l13, hR14, hm16, hw⟩;replace hE := hw.ext hE (fun k hk => (show k = g5 from hk) ▸ (T hs3 hn7));have q9 := fun ⦃j : Nat⦄ ⦃v : Value⦄ (h : BoxAt _ O1 j v) => hw.box (fun hx => absurd (show O1 = g5 from hx) (by omega)) h
 clear q9;have hs18 := hw.size;have hln15 : l13.length = n1 + n2 := (hm16.mvd).len.trans hln10;refine ⟨_, rfl, ?_⟩;refine zn (zc (zp (pT (sv g5 0 (n1 + n2) c6) ?_)));refine pS (sc 90 #[sv g5 0 (n1 + n2) c6] ((Compact_c _ hR14 hln15 (Nat.lt_of_lt_of_le hgl9 hs18) hp hcp9 (by omega)).mono ?_));rintro e w23 ⟨k19, rfl, hR20, hln21, hkc22, hw⟩;replace hE := hw.ext hE (fun k hk => (show k = g5 from hk) ▸ (T hs3 hn7));have q9 := fun ⦃j : Nat⦄ ⦃v : Value⦄ (h : BoxAt _ O1 j v) => hw.box (fun hx => absurd (show O1 = g5 from hx) (by omega)) h
 clear q9;have hs24 := hw.size;refine ⟨_, rfl, pT (sv g5 0 k19 c6) ?_⟩;refine zn (cw_ret (qw_ret [sv g5 0 k19 c6] rfl ⟨(by kernel_rfl), trivial⟩ ?_));exact ⟨_, _, _, _, rfl, hR20.at hln21 (by have := Rep.cp_len l13 (n1 + n2); omega), ⟨l13, hm16.mvd.perm, hm16.sd, rfl⟩, hkc22, (fun ad e => by cases e; exact (T hs3 hn7)), hE⟩
theorem merged_0 {c1 c2 : Nat} {a1 a2 : Option Addr} (w : World) : Calls Tryz.prog 63 #[.slice a1 0 c1, .slice a2 0 c2, .func (.func 51) #[] #[]] w fun e w' => e = .returned (.slice none 0 0) ∧ Ext w w' := by
 refine calls_cw 17 [(2, .func (.func 51) #[] #[]), (1, .slice a2 0 c2), (0, .slice a1 0 c1)] Tryz.func63 rfl Tryz.ntmps63 (by kernel_rfl) (by kernel_rfl) (fun L => ?_);have hE := Ext.refl w;refine zc (zp (pT (.slice none 0 0) ?_));refine zn (zc (zp (pD (.slice a1 0 c1) (.slice a2 0 c2) ?_)));refine pS (sn_newS (us := #[.slice a1 0 c1, .slice a2 0 c2]) (t := 23) (k := 2) (c := 2) (by kernel_rfl) ?_);intro O1 X2 hzO1 hyO1 hb hbx;have ⟨bO1_0, bO1_1⟩ := bq2 hbx;replace hE := hE.trans hb;have hs3 := hb.size;have lt4 := bO1_0.lt;refine pS (sc 88 #[sv O1 0 2 2] ((Concat_0 _ (bO1_0.1) (bO1_1.1)).mono ?_));rintro e w5 ⟨rfl, hb⟩;replace hE := hE.trans hb;have hs6 := hb.size;refine ⟨_, rfl, pT (.slice none 0 0) ?_⟩;refine zn (zc (zp (pD (.slice none 0 0) (.func (.func 51) #[] #[]) ?_)));refine pS (sc 89 #[.slice none 0 0, .func (.func 51) #[] #[]] ((SortStable_0 _).mono ?_));rintro e w7 ⟨rfl, hb⟩;replace hE := hE.trans hb;have hs8 := hb.size;refine ⟨_, rfl, ?_⟩;refine zn (zc (zp (pT (.slice none 0 0) ?_)));refine pS (sc 90 #[.slice none 0 0] ((Compact_0 _).mono ?_));rintro e w9 ⟨rfl, hb⟩;replace hE := hE.trans hb;have hs10 := hb.size;refine ⟨_, rfl, pT (.slice none 0 0) ?_⟩;refine zn (cw_ret (qw_ret [.slice none 0 0] rfl ⟨(by kernel_rfl), trivial⟩ ?_));exact ⟨rfl, hE⟩
theorem merged_c {w0 w1 : World} {n1 c1 n2 c2 : Nat} {a1 a2 : Option Addr} {l1 l2 : List Rec} (w : World) (H1 : RecsAt w0 a1 n1 l1) (H2 : RecsAt w1 a2 n2 l2) (e0 : Ext w0 w) (e1 : Ext w1 w) (hn : n1 + n2 ≤ 1000) : Calls Tryz.prog 63 #[.slice a1 n1 c1, .slice a2 n2 c2, .func (.func 51) #[] #[]] w fun e w' => ∃ a k c l', e = .returned (.slice a k c) ∧ RecsAt w' a k l' ∧ Rep.Mrg l1 l2 (n1 + n2) l' ∧ k ≤ c ∧ (∀ ad, a = some ad → w.heap.size ≤ ad.block) ∧ Ext w w' := by
  rcases Nat.eq_zero_or_pos (n1 + n2) with h0 | h0
  · obtain rfl : n1 = 0 := by omega
    obtain rfl : n2 = 0 := by omega
    obtain rfl := List.eq_nil_of_length_eq_zero H1.len
    obtain rfl := List.eq_nil_of_length_eq_zero H2.len
    exact (merged_0 w).mono fun e w' ⟨he, hE⟩ => ⟨_, _, _, [], he, RecsAt.nil w', ⟨[], .refl _, (fun i j _ _ h => absurd h (by omega)), rfl⟩, Nat.le_refl _, (fun ad e => by cases e), hE⟩
  · exact merged_p w (H1.ext e0) (H2.ext e1) h0 hn
end Go.Proofs.YtfmoabgjaclkpaaGreatDoor

namespace Go.Proofs.YtfmoabgjaclkpaaGreatDoor
open Go.RowKit
def keyV (p : Int × Int) : Value := .agg #[.int .i64 p.1, .int .i64 p.2]
theorem keyV_inj {a b : Int × Int} (h : keyV a = keyV b) : a = b := by
 simp only [keyV, Value.agg.injEq] at h
 have h := congrArg Array.toList h
 simp at h
 exact Prod.ext h.1 h.2
theorem key_check (w : World) (em : Bool) (a : Int × Int) : (Instr.checkKey em 10000 70 (keyV a)).run Tryz.prog w = .ok () w := by
 show (Instr.checkKey em (9998 + 1 + 1) 70 _).run _ _ = _
 unfold keyV
 have k : ∀ n (x : Int), (Instr.checkKey em (n + 1) 3 (.int .i64 x)).run Tryz.prog w = .ok () w := fun n x => by
  rw [Instr.checkKey]
  go_simp
 rw [Instr.checkKey]
 go_simp
theorem key_eq2 (w : World) (a b : Int × Int) : (Op.equal 70 (keyV a) (keyV b)).run Tryz.prog w = .ok (decide (a = b)) w := by
 rw [show decide (a = b) = decide (a.1 = b.1 ∧ a.2 = b.2) from decide_eq_decide.2 ⟨fun h => by rw [h]; exact ⟨rfl, rfl⟩, fun h => Prod.ext h.1 h.2⟩]
 exact key_eq w a.1 a.2 b.1 b.2
theorem key_law : KLaw Tryz.prog 70 keyV := klaw_of Tryz.underlying70 (fun _ _ => rfl) keyV_inj key_check key_eq2 (fun a => by simp [keyV, Instr.sameBits])
theorem zero_rec (w : World) : (zeroValue 49).run Tryz.prog w = .ok Rec.zero.val w := by kernel_rfl
theorem lookup_is1 {P : Program} {w : World} {κ β : Type} [DecidableEq κ] {t : TypeId} {m k z : Value} {vv : β → Value} {x : κ} {l : List (κ × β)} {o : Option β} (h : (Instr.lookup t m k false).run P w = .ok (((getM x l).map vv).getD z) w) (hg : getM x l = o) : (Instr.lookup t m k false).run P w = .ok ((o.map vv).getD z) w := hg ▸ h
theorem lookup_is2 {P : Program} {w : World} {κ β : Type} [DecidableEq κ] {t : TypeId} {m k z : Value} {vv : β → Value} {x : κ} {l : List (κ × β)} {o : Option β} (h : (Instr.lookup t m k true).run P w = .ok (.tuple #[((getM x l).map vv).getD z, .bool (getM x l).isSome]) w) (hg : getM x l = o) : (Instr.lookup t m k true).run P w = .ok (.tuple #[(o.map vv).getD z, .bool o.isSome]) w := hg ▸ h
namespace Rep
def bookL (l : List Rec) : List ((Int × Int) × Rec) := l.foldl (fun m r => updM r.key r m) []
theorem bookL_snoc (l : List Rec) (r : Rec) : bookL (l ++ [r]) = updM r.key r (bookL l) := by unfold bookL; rw [List.foldl_append]; rfl
theorem bookL_take {l : List Rec} {i : Nat} (h : i < l.length) : bookL (l.take (i + 1)) = updM (recN l i).key (recN l i) (bookL (l.take i)) := by rw [recN_take h, bookL_snoc]
def keysD (l : List Rec) : Prop := l.Pairwise fun x y => x.key ≠ y.key
def findK (l : List Rec) (k : Int × Int) : Option Rec := l.find? fun r => decide (r.key = k)
theorem findK_some {l : List Rec} {k : Int × Int} {r : Rec} (h : findK l k = some r) : r ∈ l ∧ r.key = k := ⟨List.mem_of_find?_eq_some h, by have := List.find?_some h; simpa using this⟩
theorem findK_none {l : List Rec} {k : Int × Int} (h : findK l k = none) : ∀ r ∈ l, r.key ≠ k := fun r hr => by
 have := List.find?_eq_none.1 h r hr; simpa using this
theorem findK_mem {l : List Rec} (hd : keysD l) {r : Rec} (hr : r ∈ l) : findK l r.key = some r := by
 induction l with
 | nil => cases hr
 | cons x l ih =>
  unfold findK
  unfold keysD at hd
  rw [List.pairwise_cons] at hd
  rw [List.find?_cons]
  rcases List.mem_cons.1 hr with rfl | h
  · simp
  · rw [decide_eq_false (hd.1 r h)]; exact ih hd.2 h
theorem book_get {l : List Rec} (hd : keysD l) (k : Int × Int) : getM k (bookL l) = findK l k := by
  suffices H : ∀ n, n ≤ l.length → getM k (bookL (l.take n)) = findK (l.take n) k by
    have := H l.length (Nat.le_refl _); rwa [List.take_length] at this
  intro n
  induction n with
  | zero => intro _; rfl
  | succ n ih =>
    intro h
    rw [bookL_take (by omega), getM_updM, ih (by omega)]
    unfold findK
    rw [recN_take (by omega), List.find?_append]
    by_cases hk : (recN l n).key = k
    · rw [if_pos hk]
      have hno : (l.take n).find? (fun r => decide (r.key = k)) = none := List.find?_eq_none.2 fun r hr => by
        obtain ⟨i, hi, rfl⟩ := List.getElem_of_mem hr
        rw [List.length_take] at hi
        have := List.pairwise_iff_getElem.1 hd i n (by omega) (by omega) (by omega)
        rw [List.getElem_take]
        rw [recN_get (by omega)] at hk
        simp only [decide_eq_true_eq]
        exact fun e => this (e.trans hk.symm)
      rw [hno]; simp [hk]
    · rw [if_neg hk]; simp [hk]
end Rep
end Go.Proofs.YtfmoabgjaclkpaaGreatDoor

namespace Go.Proofs.YtfmoabgjaclkpaaGreatDoor
set_option maxRecDepth 1000000
set_option maxHeartbeats 4000000
set_option synthInstance.maxHeartbeats 0
set_option synthInstance.maxSize 9999
open Go.RowKit
def Tz28_0 : List Row := [(some 13, [3], []), (some 14, [5], []), (some 15, [14], [1]), (some 16, [5], []), (none, [13, 15, 16], [0, 2, 3, 2, 0, 1, 2, 3])]
theorem booked_c {w0 : World} {a : Option Addr} {n : Nat} {l : List Rec} (c : Nat) (w : World) (H : RecsAt w0 a n l) (e0 : Ext w0 w) : Calls Tryz.prog 52 #[.slice a n c] w fun e w' => ∃ B, e = .returned (.map (some B)) ∧ w.heap.size ≤ B ∧ MapS keyV Rec.val w' B (Rep.bookL l) ∧ Ext w w' := by
 replace H := H.ext e0;clear e0;obtain ⟨b, o, ha, hbr, hx⟩ := H.parts;have hln := H.len;have hmx := H.max;refine calls_cw 19 [(0, .slice a n c)] Tryz.func52 rfl Tryz.ntmps52 (by kernel_rfl) (by kernel_rfl) (fun L => ?_);have hE := Ext.refl w;refine zc (zp (pT (.map none) ?_));refine zn (zc (zp (pS (sn_map keyV Rec.val (by kernel_rfl) ?_))));intro O1 X2 hO hOs hb Bq;have Bg := hO;have C4 := hOs;clear hO hOs;replace hE := hE.trans hb;have C3 := hb.size;have C9 := Bq.lt;refine pT (.map (some O1)) ?_;refine zn (zc (zc (zp (pD (.slice a n c) (iv n) ?_))));refine pT (iv 0) ?_;refine zn (cw_block ?_);refine cw_loop [3, 7, 8, 9] (fun ws' wr m => ∃ i : Nat, ws' = [(3, .map (some O1)), (7, .slice a n c), (8, iv n), (9, iv i)] ∧ m = n - i ∧ X2.heap.size ≤ wr.heap.size ∧ Ext w wr ∧ MapS keyV Rec.val wr O1 (Rep.bookL (l.take i)) ∧ i ≤ n) (ws0 := [(3, .map (some O1)), (7, .slice a n c), (8, iv n), (9, iv 0)]) (by kernel_rfl) _ ⟨0, rfl, rfl, Nat.le_refl _, hE, Bq, Nat.zero_le _⟩ ?_;clear hE;rintro m8 L ws w7 ⟨i, rfl, rfl, Br, hE, hM, hi⟩;have Bc := Ext.refl w7
 by_cases hlt : i < n
 ·
  obtain rfl := ha (by omega);have hbl := hbr (by omega);refine zc (zp (pU (.bool true) (ed (((i : Nat) : Int) < ((n : Nat) : Int)) (by omega)) ?_));refine zn (zc (zt ?_));refine cw_skip (zq (zc (cw_block ?_)));refine zc (zp (pU (pw b (o + i * 7)) (xi (sv b o n c) (iv i) (ix23 (k := i) (by omega))) ?_));refine pU (rvv (recN l i)) (xl (rl ((hx.ext hE).r (i := i) (by omega)))) ?_;refine pS (sw 49 #[iv 0, iv 0, iv 0, iv 0, iv 0, iv 0, .string (⟨#[]⟩)] ?_);intro Bh C0 Be Bz hb hbx;have ⟨B0, B2, B3, B4, B7, B8, Ba⟩ := bq7 hbx;refine mv2 hb hE Bc fun hE Bc=>?_;have Bj := hb.size;have C5 := B0.lt;refine pP (sn_setK7 (O := Bh) (j := 0) (v0 := iv ((recN l i).c : Int)) (v1 := iv ((recN l i).n : Int)) (v2 := iv ((recN l i).t : Int)) (v3 := iv ((recN l i).o : Int)) (v4 := iv ((recN l i).w : Int)) (v5 := iv ((recN l i).k : Int)) (v6 := .string ((recN l i).x)) (xt (pw Bh 0) (rvv (recN l i)) (st49 B0.1 B0.2 B2.1 B2.2 B3.1 B3.2 B4.1 B4.2 B7.1 B7.2 B8.1 B8.2 Ba.1 Ba.2)) B0 B2 B3 B4 B7 B8 Ba ?_);intro C1 ho B0 B2 B3 B4 B7 B8 Ba hk;replace hE := ho.ext hE (T (T C3 Br) (Nat.le_of_eq Be));replace Bc := ho.ext Bc (Nat.le_of_eq Be);have Bk := Nat.le_of_eq ho.size.symm;clear ho hk;refine zn (dE Tz28_0 (fun w' => RecAt w' Bh 0 (recN l i)) (r7 B0.1 B2.1 B3.1 B4.1 B7.1 B8.1 Ba.1) (fun ops Q C8 hb hL hR hK => ?_));refine mv9 hb hE Bc B0 B2 B3 B4 B7 B8 Ba fun hE Bc B0 B2 B3 B4 B7 B8 Ba=>?_;have Bm := hb.size;have hS := r7 B0.1 B2.1 B3.1 B4.1 B7.1 B8.1 Ba.1;refine wV 0 (.map (some O1)) hR hS ?_;refine wM 1 (rvv (recN l i)) hR (fun w hS => rl hS) hS ?_;refine wM 3 (rvv (recN l i)) hR (fun w hS => rl hS) hS ?_;refine wC 2 68 #[rvv (recN l i)] hR ((keyOf_c ((recN l i)) _).mono ?_);rintro e C7 ⟨rfl, hb⟩;refine mv9 hb hE Bc B0 B2 B3 B4 B7 B8 Ba fun hE Bc B0 B2 B3 B4 B7 B8 Ba=>?_;have Bn := hb.size;refine ⟨_, rfl, r7 B0.1 B2.1 B3.1 B4.1 B7.1 B8.1 Ba.1, ?_⟩;obtain ⟨C2, Bi, Bf, Bb⟩ := run_update Tryz.underlying79 (hM.ext Bc) key_law (((recN l i)).c, ((recN l i)).n) ((recN l i));refine wS 4 hR (sn_skp (ex_mapU rfl (by kernel_rfl) (by kernel_rfl) (by kernel_rfl) Bi) ?_);have Bp := (hM.ext Bc);replace hE := Bb.ext hE (Nat.le_of_eq Bg);replace B0 := (Bb.mv0).box B0;replace B2 := (Bb.mv0).box B2;replace B3 := (Bb.mv0).box B3;replace B4 := (Bb.mv0).box B4;replace B7 := (Bb.mv0).box B7;replace B8 := (Bb.mv0).box B8;replace Ba := (Bb.mv0).box Ba;have Bo : C7.heap.size ≤ C2.heap.size := Nat.le_of_eq Bb.size.symm;have C6 := Bf.lt;refine ⟨(r7 B0.1 B2.1 B3.1 B4.1 B7.1 B8.1 Ba.1), ?_⟩;refine we hL hR hK ?_;refine qw_block (zq (zp (pU (iv ((i + 1 : Nat) : Int)) (ew (by omega) (by omega)) ?_)));refine pT (iv ((i + 1 : Nat) : Int)) ?_;refine pl_nil (qw_round [3, 7, 8, 9] (ws' := [(3, .map (some O1)), (7, sv b o n c), (8, iv n), (9, iv ((i + 1 : Nat) : Int))]) (by kernel_rfl) _ ?_ ⟨(i + 1), rfl, rfl, (T Br (T Bj (T Bk (T Bm (T Bn Bo))))), hE, (by rw [Rep.bookL_take (by omega)]; exact Bf), by omega⟩);omega
 ·
  have hin : i = n := by omega
  refine zc (zp (pU (.bool false) (en (((i : Nat) : Int) < ((n : Nat) : Int)) (by omega)) ?_));refine zn (zc (zf ?_));refine cw_exit (qw_then_exit (qw_then_exit (qw_block_out (zq (zc (zp (pD (.map (some O1)) (.map (some O1)) ?_)))))));refine zn (cw_ret (qw_ret [.map (some O1)] rfl ⟨(by kernel_rfl), trivial⟩ ?_));exact ⟨_, rfl, (Nat.le_of_eq Bg), (by have hz := hM; rw [hin, ← hln, List.take_length] at hz; exact hz), hE⟩
end Go.Proofs.YtfmoabgjaclkpaaGreatDoor

namespace Go.Proofs.YtfmoabgjaclkpaaGreatDoor
set_option maxRecDepth 1000000
set_option maxHeartbeats 4000000
set_option synthInstance.maxHeartbeats 0
set_option synthInstance.maxSize 9999
open Go.RowKit
def Tz29_0 : List Row := [(some 14, [3], []), (some 15, [14], [0]), (some 16, [], []), (some 17, [15, 16], [1, 2]), (some 18, [17], [3, 1]), (some 19, [6, 18], [4]), (some 20, [19, 18], [5, 4, 4]), (some 21, [5, 20], [6]), (some 22, [3, 20], [6]), (some 23, [21, 22, 20], [7, 8, 6, 6]), (some 24, [23, 20], [9, 6]), (some 25, [20, 24, 18], [6, 10, 4]), (some 26, [18, 25], [4, 11]), (some 4, [26], [12, 9, 0, 1, 2, 3, 4, 5, 6, 7, 8, 9, 10, 11, 12])]
namespace Rep
def soundB (mp : List ((Int × Int) × Rec)) (x : Rec) : Bool := decide (x.o = -1 ∧ x.w = 0) || (match getM (x.o, x.w) mp with
 | some y => decide (befC y x < 0)
 | none => false)
def ixF (p : Rec → Bool) (l : List Rec) : Int := match l.findIdx? p with
 | some i => (i : Int)
 | none => -1
theorem ix_none {p : Rec → Bool} {l : List Rec} (h : ∀ j, j < l.length → p (recN l j) = false) : ixF p l = -1 := by
 have : l.findIdx? p = none := List.findIdx?_eq_none_iff.2 fun x hx => by
  obtain ⟨i, hi, rfl⟩ := List.getElem_of_mem hx
  rw [← recN_get hi]; exact h i hi
 unfold ixF; rw [this]
theorem ix_found {p : Rec → Bool} {l : List Rec} {i : Nat} (hi : i < l.length) (h : ∀ j, j < i → p (recN l j) = false) (hp : p (recN l i) = true) : ixF p l = (i : Int) := by
 have : l.findIdx? p = some i := List.findIdx?_eq_some_iff_getElem.2 ⟨hi, by rw [← recN_get hi]; exact hp, fun j hj => by
  rw [← recN_get (by omega), h j hj]; decide⟩
 unfold ixF; rw [this]
theorem ix_any (p : Rec → Bool) (l : List Rec) : decide (ixF p l ≥ 0) = l.any p := by
 unfold ixF
 cases h : l.findIdx? p with
 | none =>
  have := List.findIdx?_eq_none_iff.1 h
  rw [show decide ((-1 : Int) ≥ 0) = false by decide]
  exact (Bool.eq_false_iff.2 fun q => by
   obtain ⟨x, hx, hp⟩ := List.any_eq_true.1 q
   rw [this x hx] at hp; cases hp).symm
 | some i =>
  obtain ⟨hi, hp, _⟩ := List.findIdx?_eq_some_iff_getElem.1 h
  rw [show decide (((i : Nat) : Int) ≥ 0) = true from decide_eq_true (by omega)]
  exact (List.any_eq_true.2 ⟨_, List.getElem_mem hi, hp⟩).symm
end Rep
theorem sound_c {w1 : World} {B : Nat} {mp : List ((Int × Int) × Rec)} (x : Rec) (w : World) (hM : MapS keyV Rec.val w1 B mp) (e1 : Ext w1 w) (hRl : RootAt w) : Calls Tryz.prog 53 #[.map (some B), rvv x] w fun e w' => e = .returned (.bool (Rep.soundB mp x)) ∧ Ext w w' := by
 replace hM := hM.ext e1;clear e1;have hBl := hM.lt;refine calls_cw 27 [(1, rvv x), (0, .map (some B))] Tryz.func53 rfl Tryz.ntmps53 (by kernel_rfl) (by kernel_rfl) (fun L => ?_);have hE := Ext.refl w;refine zc (zp (pS (sw 49 #[iv x.c, iv x.n, iv x.t, iv x.o, iv x.w, iv x.k, .string x.x] ?_)));intro O1 X2 D9 D7 hb hbx;have ⟨B4, B7, B8, Ba, Bb, Bc, Be⟩ := bq7 hbx;replace hE := hE.trans hb;have Cn := hb.size;have Dh := B4.lt;refine pT (.bool false) ?_;refine zn (cw_seq ?_);rcases hg : getM (x.o, x.w) mp with _ | y
 ·
  have Bq := Ext.refl X2;refine zp (pT (.map (some B)) ?_);refine pU (rvv x) (xl (ld49 (B4.1) (B7.1) (B8.1) (Ba.1) (Bb.1) (Bc.1) (Be.1))) ?_;refine pS (sc 85 #[rvv x] ((target_c x _).mono ?_));rintro e w6 ⟨rfl, hb⟩;refine mv2 hb hE Bq fun hE Bq=>?_;have Co := hb.size;refine ⟨_, rfl, pU (.tuple #[.agg #[iv 0, iv 0, iv 0, iv 0, iv 0, iv 0, .string (⟨#[]⟩)], .bool false]) (ex_lookup rfl (by kernel_rfl) (by kernel_rfl) (lookup_is2 (run_lookup2 Tryz.underlying79 (hM.ext hE) key_law (x.o, x.w) (zero_rec _)) hg)) ?_⟩;refine pD (.tuple #[.agg #[iv 0, iv 0, iv 0, iv 0, iv 0, iv 0, .string (⟨#[]⟩)], .bool false]) (.agg #[iv 0, iv 0, iv 0, iv 0, iv 0, iv 0, .string (⟨#[]⟩)]) ?_;refine pT (.bool false) ?_;refine pS (sw 49 #[iv 0, iv 0, iv 0, iv 0, iv 0, iv 0, .string (⟨#[]⟩)] ?_);intro O8 X9 Cm D8 hb hbx;have ⟨Bu, Bv, Bw, Bx, By, Bz, C0⟩ := bq7 hbx;refine mv2 hb hE Bq fun hE Bq=>?_;have Cr := hb.size;have Da := Bu.lt;refine pP (sn_setK7 (O := O8) (j := 0) (v0 := iv 0) (v1 := iv 0) (v2 := iv 0) (v3 := iv 0) (v4 := iv 0) (v5 := iv 0) (v6 := .string (⟨#[]⟩)) (xt (pw O8 0) (.agg #[iv 0, iv 0, iv 0, iv 0, iv 0, iv 0, .string (⟨#[]⟩)]) (st49 Bu.1 Bu.2 Bv.1 Bv.2 Bw.1 Bw.2 Bx.1 Bx.2 By.1 By.2 Bz.1 Bz.2 C0.1 C0.2)) Bu Bv Bw Bx By Bz C0 ?_);intro C8 ho Bu Bv Bw Bx By Bz C0 hk;replace hE := ho.ext hE (T (T Cn Co) (Nat.le_of_eq Cm));replace Bq := ho.ext Bq (T Co (Nat.le_of_eq Cm));have Cs := Nat.le_of_eq ho.size.symm;clear ho hk;refine pT (.bool false) ?_;refine zn (cw_seq ?_)
  by_cases hA : x.o = -1 ∧ x.w = 0
  ·
   have Bn := Ext.refl C8;refine dE Tz29_0 (fun w' => w'.cell? ⟨O1, 0, none⟩ = some (iv x.c) ∧ w'.cell? ⟨O1, 1, none⟩ = some (iv x.n) ∧ w'.cell? ⟨O1, 2, none⟩ = some (iv x.t) ∧ w'.cell? ⟨O1, 3, none⟩ = some (iv x.o) ∧ w'.cell? ⟨O1, 4, none⟩ = some (iv x.w) ∧ w'.cell? ⟨O1, 5, none⟩ = some (iv x.k) ∧ w'.cell? ⟨O1, 6, none⟩ = some (.string x.x) ∧ w'.cell? ⟨0, 0, none⟩ = some (iv (-1 : Int)) ∧ w'.cell? ⟨0, 1, none⟩ = some (iv 0)) (⟨(B4.x (Bq.trans Bn)).1, (B7.x (Bq.trans Bn)).1, (B8.x (Bq.trans Bn)).1, (Ba.x (Bq.trans Bn)).1, (Bb.x (Bq.trans Bn)).1, (Bc.x (Bq.trans Bn)).1, (Be.x (Bq.trans Bn)).1, (hE.cell hRl.c0), (hE.cell hRl.c1)⟩) (fun ops Q Dc hb hL hR hK => ?_);refine mv2 hb hE Bn fun hE Bn=>?_;have Ct := hb.size;have C9 := A9 (B4.c (Bq.trans Bn)) (B7.c (Bq.trans Bn)) (B8.c (Bq.trans Bn)) (Ba.c (Bq.trans Bn)) (Bb.c (Bq.trans Bn)) (Bc.c (Bq.trans Bn)) (Be.c (Bq.trans Bn)) (hE.cell hRl.c0) ((hE.cell hRl.c1));refine wM 0 (rvv x) hR (fun w hS => ld49 (hS.1) (hS.2.1) (hS.2.2.1) (hS.2.2.2.1) (hS.2.2.2.2.1) (hS.2.2.2.2.2.1) (hS.2.2.2.2.2.2.1)) C9 ?_;refine wM 2 (.agg #[iv (-1 : Int), iv 0]) hR (fun w hS => ld70 (hS.2.2.2.2.2.2.2.1) (hS.2.2.2.2.2.2.2.2)) C9 ?_;refine wC 1 85 #[rvv x] hR ((target_c x _).mono ?_);rintro e Di ⟨rfl, hb⟩;refine mv2 hb hE Bn fun hE Bn=>?_;have Cu := hb.size;have Br := A9 (B4.c (Bq.trans Bn)) (B7.c (Bq.trans Bn)) (B8.c (Bq.trans Bn)) (Ba.c (Bq.trans Bn)) (Bb.c (Bq.trans Bn)) (Bc.c (Bq.trans Bn)) (Be.c (Bq.trans Bn)) (hE.cell hRl.c0) ((hE.cell hRl.c1));refine ⟨_, rfl, Br, ?_⟩;refine wL 3 (.bool true) hR (fun w _ => ex_binV (a := .agg #[iv x.o, iv x.w]) (b := .agg #[iv (-1 : Int), iv 0]) rfl (by kernel_rfl) (by kernel_rfl) (eqG_agg (by kernel_rfl)) (bin_eqv_t (key_eq _ _ _ _ _) hA)) Br ?_;refine wV 4 (.bool true) hR Br ?_;refine wK 5 hR Br ?_;refine wK 6 hR Br ?_;refine wK 7 hR Br ?_;refine wK 8 hR Br ?_;refine wK 9 hR Br ?_;refine wK 10 hR Br ?_;refine wK 11 hR Br ?_;refine wW 12 (.bool true) 13 (.bool true) hR Br ?_;refine we hL hR hK ?_;refine zq (cK [4] (fun L => ?_));refine cw_ret (qw_ret [.bool true] rfl ⟨(by kernel_rfl), trivial⟩ ?_);exact ⟨rb (show Rep.soundB mp x = true by unfold Rep.soundB; rw [hg]; simp [hA]).symm, hE⟩
  ·
   have Bo := Ext.refl C8;refine dE Tz29_0 (fun w' => w'.cell? ⟨O1, 0, none⟩ = some (iv x.c) ∧ w'.cell? ⟨O1, 1, none⟩ = some (iv x.n) ∧ w'.cell? ⟨O1, 2, none⟩ = some (iv x.t) ∧ w'.cell? ⟨O1, 3, none⟩ = some (iv x.o) ∧ w'.cell? ⟨O1, 4, none⟩ = some (iv x.w) ∧ w'.cell? ⟨O1, 5, none⟩ = some (iv x.k) ∧ w'.cell? ⟨O1, 6, none⟩ = some (.string x.x) ∧ w'.cell? ⟨0, 0, none⟩ = some (iv (-1 : Int)) ∧ w'.cell? ⟨0, 1, none⟩ = some (iv 0)) (⟨(B4.x (Bq.trans Bo)).1, (B7.x (Bq.trans Bo)).1, (B8.x (Bq.trans Bo)).1, (Ba.x (Bq.trans Bo)).1, (Bb.x (Bq.trans Bo)).1, (Bc.x (Bq.trans Bo)).1, (Be.x (Bq.trans Bo)).1, (hE.cell hRl.c0), (hE.cell hRl.c1)⟩) (fun ops Q Dd hb hL hR hK => ?_);refine mv2 hb hE Bo fun hE Bo=>?_;have Cv := hb.size;have Ca := A9 (B4.c (Bq.trans Bo)) (B7.c (Bq.trans Bo)) (B8.c (Bq.trans Bo)) (Ba.c (Bq.trans Bo)) (Bb.c (Bq.trans Bo)) (Bc.c (Bq.trans Bo)) (Be.c (Bq.trans Bo)) (hE.cell hRl.c0) ((hE.cell hRl.c1));refine wM 0 (rvv x) hR (fun w hS => ld49 (hS.1) (hS.2.1) (hS.2.2.1) (hS.2.2.2.1) (hS.2.2.2.2.1) (hS.2.2.2.2.2.1) (hS.2.2.2.2.2.2.1)) Ca ?_;refine wM 2 (.agg #[iv (-1 : Int), iv 0]) hR (fun w hS => ld70 (hS.2.2.2.2.2.2.2.1) (hS.2.2.2.2.2.2.2.2)) Ca ?_;refine wC 1 85 #[rvv x] hR ((target_c x _).mono ?_);rintro e Dj ⟨rfl, hb⟩;refine mv2 hb hE Bo fun hE Bo=>?_;have Cw := hb.size;have Bs := A9 (B4.c (Bq.trans Bo)) (B7.c (Bq.trans Bo)) (B8.c (Bq.trans Bo)) (Ba.c (Bq.trans Bo)) (Bb.c (Bq.trans Bo)) (Bc.c (Bq.trans Bo)) (Be.c (Bq.trans Bo)) (hE.cell hRl.c0) ((hE.cell hRl.c1));refine ⟨_, rfl, Bs, ?_⟩;refine wL 3 (.bool false) hR (fun w _ => ex_binV (a := .agg #[iv x.o, iv x.w]) (b := .agg #[iv (-1 : Int), iv 0]) rfl (by kernel_rfl) (by kernel_rfl) (eqG_agg (by kernel_rfl)) (bin_eqv_f (key_eq _ _ _ _ _) hA)) Bs ?_;refine wW 4 (.bool false) 5 (.bool false) hR Bs ?_;refine wV 6 (.bool false) hR Bs ?_;refine wK 7 hR Bs ?_;refine wK 8 hR Bs ?_;refine wK 9 hR Bs ?_;refine wK 10 hR Bs ?_;refine wW 11 (.bool false) 12 (.bool false) hR Bs ?_;refine wV 13 (.bool false) hR Bs ?_;refine we hL hR hK ?_;refine zq (cK [4] (fun L => ?_));refine cw_ret (qw_ret [.bool false] rfl ⟨(by kernel_rfl), trivial⟩ ?_);exact ⟨rb (show Rep.soundB mp x = false by unfold Rep.soundB; rw [hg]; simp [hA]).symm, hE⟩
 ·
  have B0 := Ext.refl X2;refine zp (pT (.map (some B)) ?_);refine pU (rvv x) (xl (ld49 (B4.1) (B7.1) (B8.1) (Ba.1) (Bb.1) (Bc.1) (Be.1))) ?_;refine pS (sc 85 #[rvv x] ((target_c x _).mono ?_));rintro e Dk ⟨rfl, hb⟩;refine mv2 hb hE B0 fun hE B0=>?_;have Ce := hb.size;refine ⟨_, rfl, pU (.tuple #[rvv y, .bool true]) (ex_lookup rfl (by kernel_rfl) (by kernel_rfl) (lookup_is2 (run_lookup2 Tryz.underlying79 (hM.ext hE) key_law (x.o, x.w) (zero_rec _)) hg)) ?_⟩;refine pD (.tuple #[rvv y, .bool true]) (rvv y) ?_;refine pT (.bool true) ?_;refine pS (sw 49 #[iv 0, iv 0, iv 0, iv 0, iv 0, iv 0, .string (⟨#[]⟩)] ?_);intro C1 Cq C6 Cp hb hbx;have ⟨Bf, Bg, Bh, Bi, Bj, Bk, Bm⟩ := bq7 hbx;refine mv2 hb hE B0 fun hE B0=>?_;have Cx := hb.size;have Db := Bf.lt;refine pP (sn_setK7 (O := C1) (j := 0) (v0 := iv y.c) (v1 := iv y.n) (v2 := iv y.t) (v3 := iv y.o) (v4 := iv y.w) (v5 := iv y.k) (v6 := .string y.x) (xt (pw C1 0) (rvv y) (st49 Bf.1 Bf.2 Bg.1 Bg.2 Bh.1 Bh.2 Bi.1 Bi.2 Bj.1 Bj.2 Bk.1 Bk.2 Bm.1 Bm.2)) Bf Bg Bh Bi Bj Bk Bm ?_);intro C7 ho Bf Bg Bh Bi Bj Bk Bm hk;replace hE := ho.ext hE (T (T Cn Ce) (Nat.le_of_eq C6));replace B0 := ho.ext B0 (T Ce (Nat.le_of_eq C6));have Cy := Nat.le_of_eq ho.size.symm;clear ho hk;refine pT (.bool true) ?_;refine zn (cw_seq ?_)
  by_cases hA : x.o = -1 ∧ x.w = 0
  ·
   have Bp := Ext.refl C7;refine dE Tz29_0 (fun w' => w'.cell? ⟨O1, 0, none⟩ = some (iv x.c) ∧ w'.cell? ⟨O1, 1, none⟩ = some (iv x.n) ∧ w'.cell? ⟨O1, 2, none⟩ = some (iv x.t) ∧ w'.cell? ⟨O1, 3, none⟩ = some (iv x.o) ∧ w'.cell? ⟨O1, 4, none⟩ = some (iv x.w) ∧ w'.cell? ⟨O1, 5, none⟩ = some (iv x.k) ∧ w'.cell? ⟨O1, 6, none⟩ = some (.string x.x) ∧ w'.cell? ⟨0, 0, none⟩ = some (iv (-1 : Int)) ∧ w'.cell? ⟨0, 1, none⟩ = some (iv 0)) (⟨(B4.x (B0.trans Bp)).1, (B7.x (B0.trans Bp)).1, (B8.x (B0.trans Bp)).1, (Ba.x (B0.trans Bp)).1, (Bb.x (B0.trans Bp)).1, (Bc.x (B0.trans Bp)).1, (Be.x (B0.trans Bp)).1, (hE.cell hRl.c0), (hE.cell hRl.c1)⟩) (fun ops Q De hb hL hR hK => ?_);refine mv2 hb hE Bp fun hE Bp=>?_;have Cz := hb.size;have Cb := A9 (B4.c (B0.trans Bp)) (B7.c (B0.trans Bp)) (B8.c (B0.trans Bp)) (Ba.c (B0.trans Bp)) (Bb.c (B0.trans Bp)) (Bc.c (B0.trans Bp)) (Be.c (B0.trans Bp)) (hE.cell hRl.c0) ((hE.cell hRl.c1));refine wM 0 (rvv x) hR (fun w hS => ld49 (hS.1) (hS.2.1) (hS.2.2.1) (hS.2.2.2.1) (hS.2.2.2.2.1) (hS.2.2.2.2.2.1) (hS.2.2.2.2.2.2.1)) Cb ?_;refine wM 2 (.agg #[iv (-1 : Int), iv 0]) hR (fun w hS => ld70 (hS.2.2.2.2.2.2.2.1) (hS.2.2.2.2.2.2.2.2)) Cb ?_;refine wC 1 85 #[rvv x] hR ((target_c x _).mono ?_);rintro e Dl ⟨rfl, hb⟩;refine mv2 hb hE Bp fun hE Bp=>?_;have D0 := hb.size;have Bt := A9 (B4.c (B0.trans Bp)) (B7.c (B0.trans Bp)) (B8.c (B0.trans Bp)) (Ba.c (B0.trans Bp)) (Bb.c (B0.trans Bp)) (Bc.c (B0.trans Bp)) (Be.c (B0.trans Bp)) (hE.cell hRl.c0) ((hE.cell hRl.c1));refine ⟨_, rfl, Bt, ?_⟩;refine wL 3 (.bool true) hR (fun w _ => ex_binV (a := .agg #[iv x.o, iv x.w]) (b := .agg #[iv (-1 : Int), iv 0]) rfl (by kernel_rfl) (by kernel_rfl) (eqG_agg (by kernel_rfl)) (bin_eqv_t (key_eq _ _ _ _ _) hA)) Bt ?_;refine wV 4 (.bool true) hR Bt ?_;refine wK 5 hR Bt ?_;refine wK 6 hR Bt ?_;refine wK 7 hR Bt ?_;refine wK 8 hR Bt ?_;refine wK 9 hR Bt ?_;refine wK 10 hR Bt ?_;refine wK 11 hR Bt ?_;refine wW 12 (.bool true) 13 (.bool true) hR Bt ?_;refine we hL hR hK ?_;refine zq (cK [4] (fun L => ?_));refine cw_ret (qw_ret [.bool true] rfl ⟨(by kernel_rfl), trivial⟩ ?_);exact ⟨rb (show Rep.soundB mp x = true by unfold Rep.soundB; rw [hg]; simp [hA]).symm, hE⟩
  ·
   by_cases hB : Rep.befC y x < 0
   ·
    have B2 := Ext.refl C7;refine dE Tz29_0 (fun w' => w'.cell? ⟨O1, 0, none⟩ = some (iv x.c) ∧ w'.cell? ⟨O1, 1, none⟩ = some (iv x.n) ∧ w'.cell? ⟨O1, 2, none⟩ = some (iv x.t) ∧ w'.cell? ⟨O1, 3, none⟩ = some (iv x.o) ∧ w'.cell? ⟨O1, 4, none⟩ = some (iv x.w) ∧ w'.cell? ⟨O1, 5, none⟩ = some (iv x.k) ∧ w'.cell? ⟨O1, 6, none⟩ = some (.string x.x) ∧ w'.cell? ⟨0, 0, none⟩ = some (iv (-1 : Int)) ∧ w'.cell? ⟨0, 1, none⟩ = some (iv 0) ∧ w'.cell? ⟨C1, 0, none⟩ = some (iv y.c) ∧ w'.cell? ⟨C1, 1, none⟩ = some (iv y.n) ∧ w'.cell? ⟨C1, 2, none⟩ = some (iv y.t) ∧ w'.cell? ⟨C1, 3, none⟩ = some (iv y.o) ∧ w'.cell? ⟨C1, 4, none⟩ = some (iv y.w) ∧ w'.cell? ⟨C1, 5, none⟩ = some (iv y.k) ∧ w'.cell? ⟨C1, 6, none⟩ = some (.string y.x)) (⟨(B4.x (B0.trans B2)).1, (B7.x (B0.trans B2)).1, (B8.x (B0.trans B2)).1, (Ba.x (B0.trans B2)).1, (Bb.x (B0.trans B2)).1, (Bc.x (B0.trans B2)).1, (Be.x (B0.trans B2)).1, (hE.cell hRl.c0), (hE.cell hRl.c1), Bf.1, Bg.1, Bh.1, Bi.1, Bj.1, Bk.1, Bm.1⟩) (fun ops Q Df hb hL hR hK => ?_);refine mv2 hb hE B2 fun hE B2=>?_;have D1 := hb.size;have Cc := A16 (B4.c (B0.trans B2)) (B7.c (B0.trans B2)) (B8.c (B0.trans B2)) (Ba.c (B0.trans B2)) (Bb.c (B0.trans B2)) (Bc.c (B0.trans B2)) (Be.c (B0.trans B2)) (hE.cell hRl.c0) (hE.cell hRl.c1) (Bf.c B2) (Bg.c B2) (Bh.c B2) (Bi.c B2) (Bj.c B2) (Bk.c B2) (Bm.c B2);refine wM 0 (rvv x) hR (fun w hS => ld49 (hS.1) (hS.2.1) (hS.2.2.1) (hS.2.2.2.1) (hS.2.2.2.2.1) (hS.2.2.2.2.2.1) (hS.2.2.2.2.2.2.1)) Cc ?_;refine wM 2 (.agg #[iv (-1 : Int), iv 0]) hR (fun w hS => ld70 (hS.2.2.2.2.2.2.2.1) (hS.2.2.2.2.2.2.2.2.1)) Cc ?_;refine wC 1 85 #[rvv x] hR ((target_c x _).mono ?_);rintro e Dm ⟨rfl, hb⟩;refine mv2 hb hE B2 fun hE B2=>?_;have D2 := hb.size;have C2 := A16 (B4.c (B0.trans B2)) (B7.c (B0.trans B2)) (B8.c (B0.trans B2)) (Ba.c (B0.trans B2)) (Bb.c (B0.trans B2)) (Bc.c (B0.trans B2)) (Be.c (B0.trans B2)) (hE.cell hRl.c0) (hE.cell hRl.c1) (Bf.c B2) (Bg.c B2) (Bh.c B2) (Bi.c B2) (Bj.c B2) (Bk.c B2) (Bm.c B2);refine ⟨_, rfl, C2, ?_⟩;refine wL 3 (.bool false) hR (fun w _ => ex_binV (a := .agg #[iv x.o, iv x.w]) (b := .agg #[iv (-1 : Int), iv 0]) rfl (by kernel_rfl) (by kernel_rfl) (eqG_agg (by kernel_rfl)) (bin_eqv_f (key_eq _ _ _ _ _) hA)) C2 ?_;refine wW 4 (.bool false) 5 (.bool true) hR C2 ?_;refine wV 6 (.bool true) hR C2 ?_;refine wM 7 (rvv y) hR (fun w hS => ld49 (hS.2.2.2.2.2.2.2.2.2.1) (hS.2.2.2.2.2.2.2.2.2.2.1) (hS.2.2.2.2.2.2.2.2.2.2.2.1) (hS.2.2.2.2.2.2.2.2.2.2.2.2.1) (hS.2.2.2.2.2.2.2.2.2.2.2.2.2.1) (hS.2.2.2.2.2.2.2.2.2.2.2.2.2.2.1) (hS.2.2.2.2.2.2.2.2.2.2.2.2.2.2.2)) C2 ?_;refine wM 8 (rvv x) hR (fun w hS => ld49 (hS.1) (hS.2.1) (hS.2.2.1) (hS.2.2.2.1) (hS.2.2.2.2.1) (hS.2.2.2.2.2.1) (hS.2.2.2.2.2.2.1)) C2 ?_;refine wC 9 46 #[rvv y, rvv x] hR ((before_c y x _).mono ?_);rintro e Dn ⟨rfl, hb⟩;refine mv2 hb hE B2 fun hE B2=>?_;have D3 := hb.size;have C4 := A16 (B4.c (B0.trans B2)) (B7.c (B0.trans B2)) (B8.c (B0.trans B2)) (Ba.c (B0.trans B2)) (Bb.c (B0.trans B2)) (Bc.c (B0.trans B2)) (Be.c (B0.trans B2)) (hE.cell hRl.c0) (hE.cell hRl.c1) (Bf.c B2) (Bg.c B2) (Bh.c B2) (Bi.c B2) (Bj.c B2) (Bk.c B2) (Bm.c B2);refine ⟨_, rfl, C4, ?_⟩;refine wL 10 (.bool true) hR (fun w _ => ev_dec (show _ = Result.ok (Next.value (Value.bool (decide ((Rep.befC y x : Int) < (0 : Int))))) _ from by kernel_rfl) (hB)) C4 ?_;refine wW 11 (.bool true) 12 (.bool true) hR C4 ?_;refine wV 13 (.bool true) hR C4 ?_;refine we hL hR hK ?_;refine zq (cK [4] (fun L => ?_));refine cw_ret (qw_ret [.bool true] rfl ⟨(by kernel_rfl), trivial⟩ ?_);exact ⟨rb (show Rep.soundB mp x = true by unfold Rep.soundB; rw [hg]; simp [hA, hB]).symm, hE⟩
   ·
    have B3 := Ext.refl C7;refine dE Tz29_0 (fun w' => w'.cell? ⟨O1, 0, none⟩ = some (iv x.c) ∧ w'.cell? ⟨O1, 1, none⟩ = some (iv x.n) ∧ w'.cell? ⟨O1, 2, none⟩ = some (iv x.t) ∧ w'.cell? ⟨O1, 3, none⟩ = some (iv x.o) ∧ w'.cell? ⟨O1, 4, none⟩ = some (iv x.w) ∧ w'.cell? ⟨O1, 5, none⟩ = some (iv x.k) ∧ w'.cell? ⟨O1, 6, none⟩ = some (.string x.x) ∧ w'.cell? ⟨0, 0, none⟩ = some (iv (-1 : Int)) ∧ w'.cell? ⟨0, 1, none⟩ = some (iv 0) ∧ w'.cell? ⟨C1, 0, none⟩ = some (iv y.c) ∧ w'.cell? ⟨C1, 1, none⟩ = some (iv y.n) ∧ w'.cell? ⟨C1, 2, none⟩ = some (iv y.t) ∧ w'.cell? ⟨C1, 3, none⟩ = some (iv y.o) ∧ w'.cell? ⟨C1, 4, none⟩ = some (iv y.w) ∧ w'.cell? ⟨C1, 5, none⟩ = some (iv y.k) ∧ w'.cell? ⟨C1, 6, none⟩ = some (.string y.x)) (⟨(B4.x (B0.trans B3)).1, (B7.x (B0.trans B3)).1, (B8.x (B0.trans B3)).1, (Ba.x (B0.trans B3)).1, (Bb.x (B0.trans B3)).1, (Bc.x (B0.trans B3)).1, (Be.x (B0.trans B3)).1, (hE.cell hRl.c0), (hE.cell hRl.c1), Bf.1, Bg.1, Bh.1, Bi.1, Bj.1, Bk.1, Bm.1⟩) (fun ops Q Dg hb hL hR hK => ?_);refine mv2 hb hE B3 fun hE B3=>?_;have D4 := hb.size;have Cd := A16 (B4.c (B0.trans B3)) (B7.c (B0.trans B3)) (B8.c (B0.trans B3)) (Ba.c (B0.trans B3)) (Bb.c (B0.trans B3)) (Bc.c (B0.trans B3)) (Be.c (B0.trans B3)) (hE.cell hRl.c0) (hE.cell hRl.c1) (Bf.c B3) (Bg.c B3) (Bh.c B3) (Bi.c B3) (Bj.c B3) (Bk.c B3) (Bm.c B3);refine wM 0 (rvv x) hR (fun w hS => ld49 (hS.1) (hS.2.1) (hS.2.2.1) (hS.2.2.2.1) (hS.2.2.2.2.1) (hS.2.2.2.2.2.1) (hS.2.2.2.2.2.2.1)) Cd ?_;refine wM 2 (.agg #[iv (-1 : Int), iv 0]) hR (fun w hS => ld70 (hS.2.2.2.2.2.2.2.1) (hS.2.2.2.2.2.2.2.2.1)) Cd ?_;refine wC 1 85 #[rvv x] hR ((target_c x _).mono ?_);rintro e Do ⟨rfl, hb⟩;refine mv2 hb hE B3 fun hE B3=>?_;have D5 := hb.size;have C3 := A16 (B4.c (B0.trans B3)) (B7.c (B0.trans B3)) (B8.c (B0.trans B3)) (Ba.c (B0.trans B3)) (Bb.c (B0.trans B3)) (Bc.c (B0.trans B3)) (Be.c (B0.trans B3)) (hE.cell hRl.c0) (hE.cell hRl.c1) (Bf.c B3) (Bg.c B3) (Bh.c B3) (Bi.c B3) (Bj.c B3) (Bk.c B3) (Bm.c B3);refine ⟨_, rfl, C3, ?_⟩;refine wL 3 (.bool false) hR (fun w _ => ex_binV (a := .agg #[iv x.o, iv x.w]) (b := .agg #[iv (-1 : Int), iv 0]) rfl (by kernel_rfl) (by kernel_rfl) (eqG_agg (by kernel_rfl)) (bin_eqv_f (key_eq _ _ _ _ _) hA)) C3 ?_;refine wW 4 (.bool false) 5 (.bool true) hR C3 ?_;refine wV 6 (.bool true) hR C3 ?_;refine wM 7 (rvv y) hR (fun w hS => ld49 (hS.2.2.2.2.2.2.2.2.2.1) (hS.2.2.2.2.2.2.2.2.2.2.1) (hS.2.2.2.2.2.2.2.2.2.2.2.1) (hS.2.2.2.2.2.2.2.2.2.2.2.2.1) (hS.2.2.2.2.2.2.2.2.2.2.2.2.2.1) (hS.2.2.2.2.2.2.2.2.2.2.2.2.2.2.1) (hS.2.2.2.2.2.2.2.2.2.2.2.2.2.2.2)) C3 ?_;refine wM 8 (rvv x) hR (fun w hS => ld49 (hS.1) (hS.2.1) (hS.2.2.1) (hS.2.2.2.1) (hS.2.2.2.2.1) (hS.2.2.2.2.2.1) (hS.2.2.2.2.2.2.1)) C3 ?_;refine wC 9 46 #[rvv y, rvv x] hR ((before_c y x _).mono ?_);rintro e Dp ⟨rfl, hb⟩;refine mv2 hb hE B3 fun hE B3=>?_;have D6 := hb.size;have C5 := A16 (B4.c (B0.trans B3)) (B7.c (B0.trans B3)) (B8.c (B0.trans B3)) (Ba.c (B0.trans B3)) (Bb.c (B0.trans B3)) (Bc.c (B0.trans B3)) (Be.c (B0.trans B3)) (hE.cell hRl.c0) (hE.cell hRl.c1) (Bf.c B3) (Bg.c B3) (Bh.c B3) (Bi.c B3) (Bj.c B3) (Bk.c B3) (Bm.c B3);refine ⟨_, rfl, C5, ?_⟩;refine wL 10 (.bool false) hR (fun w _ => ev_ndec (show _ = Result.ok (Next.value (Value.bool (decide ((Rep.befC y x : Int) < (0 : Int))))) _ from by kernel_rfl) (hB)) C5 ?_;refine wW 11 (.bool false) 12 (.bool false) hR C5 ?_;refine wV 13 (.bool false) hR C5 ?_;refine we hL hR hK ?_;refine zq (cK [4] (fun L => ?_));refine cw_ret (qw_ret [.bool false] rfl ⟨(by kernel_rfl), trivial⟩ ?_);exact ⟨rb (show Rep.soundB mp x = false by unfold Rep.soundB; rw [hg]; simp [hA, hB]).symm, hE⟩
theorem Valid1_c {w1 : World} {B : Nat} {mp : List ((Int × Int) × Rec)} {w2 : World} {B6 : Nat} (x : Rec) (w : World) (hM : MapS keyV Rec.val w1 B mp) (e1 : Ext w1 w) (cB : w2.cell? ⟨B6, 0, none⟩ = some (.func (.func 53) #[.map (some B)] #[])) (e2 : Ext w2 w) (hRl : RootAt w) : Calls Tryz.prog 55 #[rvv x, pw B6 0] w fun e w' => e = .returned (.bool (!Rep.soundB mp x)) ∧ Ext w w' := by
 replace cB := e2.cell cB;clear e2;have hB6l := World.block_lt_of_cell? _ _ cB;refine calls_cw 8 [(1, pw B6 0), (0, rvv x)] Tryz.func55 rfl Tryz.ntmps55 (by kernel_rfl) (by kernel_rfl) (fun L => ?_);have hE := Ext.refl w;refine zc (zp (pS (sw 49 #[iv x.c, iv x.n, iv x.t, iv x.o, iv x.w, iv x.k, .string x.x] ?_)));intro O1 X2 hzO1 hyO1 hb hbx;have ⟨bO1_0, bO1_1, bO1_2, bO1_3, bO1_4, bO1_5, bO1_6⟩ := bq7 hbx;replace hE := hE.trans hb;have hs3 := hb.size;have lt4 := bO1_0.lt;refine pT (.bool false) ?_;refine pl_nil (qw_then ?_);refine cw_seq ?_;have hX5 := Ext.refl X2;refine zp (pU (.func (.func 53) #[.map (some B)] #[]) (xl (ld77 ((hE.cell cB)))) ?_);refine pU (rvv x) (xl (ld49 (bO1_0.1) (bO1_1.1) (bO1_2.1) (bO1_3.1) (bO1_4.1) (bO1_5.1) (bO1_6.1))) ?_;refine pS (sc 53 #[.map (some B), rvv x] ((sound_c x _ hM (e1.trans hE) (hRl.ext hE)).mono ?_));rintro e w6 ⟨rfl, hb⟩;replace hE := hE.trans hb;have hs7 := hb.size;refine ⟨_, rfl, pD (.bool (!(Rep.soundB mp x))) (.bool (!(Rep.soundB mp x))) ?_⟩;refine zn (cw_ret (qw_ret [.bool (!(Rep.soundB mp x))] rfl ⟨(by kernel_rfl), trivial⟩ ?_));exact ⟨rfl, hE⟩
theorem Valid1_r {w1 : World} {B : Nat} {mp : List ((Int × Int) × Rec)} {w2 : World} {B6 : Nat} (x : Rec) {r : Bool} (w : World) (hM : MapS keyV Rec.val w1 B mp) (e1 : Ext w1 w) (cB : w2.cell? ⟨B6, 0, none⟩ = some (.func (.func 53) #[.map (some B)] #[])) (e2 : Ext w2 w) (hRl : RootAt w) (hr : (!Rep.soundB mp x) = r) : Calls Tryz.prog 55 #[rvv x, .pointer (some ⟨B6, 0, none⟩)] w fun e w' => e = .returned (.bool r) ∧ Ext w w' := hr ▸ Valid1_c x w hM e1 cB e2 hRl
theorem IndexV_c {w1 : World} {B : Nat} {mp : List ((Int × Int) × Rec)} {w2 : World} {B6 : Nat} {w0 : World} {a : Option Addr} {n : Nat} {l : List Rec} (c : Nat) (w : World) (H : RecsAt w0 a n l) (e0 : Ext w0 w) (hM : MapS keyV Rec.val w1 B mp) (e1 : Ext w1 w) (cB : w2.cell? ⟨B6, 0, none⟩ = some (.func (.func 53) #[.map (some B)] #[])) (e2 : Ext w2 w) (hRl : RootAt w) : Calls Tryz.prog 86 #[.slice a n c, .func (.func 55) #[] #[pw B6 0]] w fun e w' => e = .returned (iv (Rep.ixF ((fun x => !Rep.soundB mp x)) l)) ∧ Ext w w' := by
 replace H := H.ext e0;clear e0;obtain ⟨b, o, ha, hbr, hx⟩ := H.parts;have hln := H.len;have hmx := H.max;refine calls_cw 19 [(1, .func (.func 55) #[] #[pw B6 0]), (0, .slice a n c)] Tryz.func86 rfl Tryz.ntmps86 (by kernel_rfl) (by kernel_rfl) (fun L => ?_);have hE := Ext.refl w;refine zc (zp (pT (iv 0) ?_));refine zn (zc (zc (zp (pD (.slice a n c) (iv n) ?_))));refine pT (iv 0) ?_;refine zn (cw_block ?_);refine cw_loop [0, 1, 7, 8] (fun ws' wr m => ∃ i : Nat, ws' = [(0, .slice a n c), (1, .func (.func 55) #[] #[pw B6 0]), (7, iv n), (8, iv i)] ∧ m = n - i ∧ w.heap.size ≤ wr.heap.size ∧ Ext w wr ∧ i ≤ n ∧ (∀ j, j < i → (fun x => !Rep.soundB mp x) (recN l j) = false)) (ws0 := [(0, .slice a n c), (1, .func (.func 55) #[] #[pw B6 0]), (7, iv n), (8, iv 0)]) (by kernel_rfl) _ ⟨0, rfl, rfl, Nat.le_refl _, hE, Nat.zero_le _, (fun j hj => absurd hj (Nat.not_lt_zero j))⟩ ?_;clear hE;rintro m3 L ws w2 ⟨i, rfl, rfl, B0, hE, hi, hno⟩
 by_cases hlt : i < n
 ·
  obtain rfl := ha (by omega);have hbl := hbr (by omega);refine zc (zp (pU (.bool true) (ed (((i : Nat) : Int) < ((n : Nat) : Int)) (by omega)) ?_));refine zn (zc (zt ?_));refine cw_skip (zq (zc (cw_block ?_)));refine zc (zp (pD (iv i) (iv i) ?_));refine zn (cw_seq ?_)
  cases hq : (fun x => !Rep.soundB mp x) (recN l i)
  ·
   refine zp (pD (.func (.func 55) #[] #[pw B6 0]) (sv b o n c) ?_);refine pT (iv i) ?_;refine pU (pw b (o + i * 7)) (xi (sv b o n c) (iv i) (ix23 (k := i) (by omega))) ?_;refine pU (rvv (recN l i)) (xl (rl ((hx.ext hE).r (i := i) (by omega)))) ?_;refine pS (sc 55 #[rvv (recN l i), pw B6 0] ((Valid1_r (recN l i) (r := false) _ hM (e1.trans hE) cB (e2.trans hE) (hRl.ext hE) hq).mono ?_));rintro e w4 ⟨rfl, hb⟩;replace hE := hE.trans hb;have B2 := hb.size;refine ⟨_, rfl, ?_⟩;refine zn (zf ?_);refine cw_skip (qw_block (zq (zp (pU (iv ((i + 1 : Nat) : Int)) (ew (by omega) (by omega)) ?_))));refine pT (iv ((i + 1 : Nat) : Int)) ?_;refine pl_nil (zr [0, 1, 7, 8] _ ?_ ⟨(i + 1), rfl, rfl, (T B0 B2), hE, by omega, (fun j hj => by rcases Nat.lt_succ_iff_lt_or_eq.1 hj with h | h; exact hno j h; rw [h]; exact hq)⟩);omega
  ·
   refine zp (pD (.func (.func 55) #[] #[pw B6 0]) (sv b o n c) ?_);refine pT (iv i) ?_;refine pU (pw b (o + i * 7)) (xi (sv b o n c) (iv i) (ix23 (k := i) (by omega))) ?_;refine pU (rvv (recN l i)) (xl (rl ((hx.ext hE).r (i := i) (by omega)))) ?_;refine pS (sc 55 #[rvv (recN l i), pw B6 0] ((Valid1_r (recN l i) (r := true) _ hM (e1.trans hE) cB (e2.trans hE) (hRl.ext hE) hq).mono ?_));rintro e w6 ⟨rfl, hb⟩;replace hE := hE.trans hb;have B3 := hb.size;refine ⟨_, rfl, ?_⟩;refine zn (zt ?_);refine zc (zp (pD (iv i) (iv i) ?_));refine zn (cK [4] (fun L => ?_));refine cw_ret (qw_block_ret (qw_then_ret (qw_then_ret (qw_block_ret (qw_then_ret (qw_ret [iv i] rfl ⟨(by kernel_rfl), trivial⟩ ?_))))));exact ⟨congrArg (fun z => Ending.returned (Value.int .i64 z)) (Rep.ix_found (by omega) hno hq).symm, hE⟩
 ·
  refine zc (zp (pU (.bool false) (en (((i : Nat) : Int) < ((n : Nat) : Int)) (by omega)) ?_));refine zn (zc (zf ?_));refine cw_exit (qw_then_exit (qw_then_exit (qw_block_out (zq (zc (zp (pT (iv (-1 : Int)) ?_)))))));refine zn (cw_ret (qw_ret [iv (-1 : Int)] rfl ⟨(by kernel_rfl), trivial⟩ ?_));exact ⟨congrArg (fun z => Ending.returned (Value.int .i64 z)) (Rep.ix_none fun j hj => hno j (by omega)).symm, hE⟩
theorem ContainsV_c {w1 : World} {B : Nat} {mp : List ((Int × Int) × Rec)} {w2 : World} {B6 : Nat} {w0 : World} {a : Option Addr} {n : Nat} {l : List Rec} (c : Nat) (w : World) (H : RecsAt w0 a n l) (e0 : Ext w0 w) (hM : MapS keyV Rec.val w1 B mp) (e1 : Ext w1 w) (cB : w2.cell? ⟨B6, 0, none⟩ = some (.func (.func 53) #[.map (some B)] #[])) (e2 : Ext w2 w) (hRl : RootAt w) : Calls Tryz.prog 54 #[.slice a n c, .func (.func 55) #[] #[pw B6 0]] w fun e w' => e = .returned (.bool (l.any (fun x => !Rep.soundB mp x))) ∧ Ext w w' := by
 refine calls_cw 9 [(1, .func (.func 55) #[] #[pw B6 0]), (0, .slice a n c)] Tryz.func54 rfl Tryz.ntmps54 (by kernel_rfl) (by kernel_rfl) (fun L => ?_);have hE := Ext.refl w;refine zc (zp (pT (.bool false) ?_));refine zn (zc (zp (pD (.slice a n c) (.func (.func 55) #[] #[pw B6 0]) ?_)));refine pS (sc 86 #[.slice a n c, .func (.func 55) #[] #[pw B6 0]] ((IndexV_c _ _ H e0 hM e1 cB e2 hRl).mono ?_));rintro e w1 ⟨rfl, hb⟩;replace hE := hE.trans hb;have hs2 := hb.size;refine ⟨_, rfl, pU (.bool (l.any (fun x => !Rep.soundB mp x))) (ev_bool (show _ = Result.ok (Next.value (Value.bool (decide ((Rep.ixF (fun x => !Rep.soundB mp x) l : Int) ≥ (0 : Int))))) _ from by kernel_rfl) (Rep.ix_any _ _)) ?_⟩;refine pT (.bool (l.any (fun x => !Rep.soundB mp x))) ?_;refine zn (cw_ret (qw_ret [.bool (l.any (fun x => !Rep.soundB mp x))] rfl ⟨(by kernel_rfl), trivial⟩ ?_));exact ⟨rfl, hE⟩
end Go.Proofs.YtfmoabgjaclkpaaGreatDoor

namespace Go.Proofs.YtfmoabgjaclkpaaGreatDoor
set_option maxRecDepth 1000000
set_option maxHeartbeats 4000000
set_option synthInstance.maxHeartbeats 0
set_option synthInstance.maxSize 9999
open Go.RowKit
def Tz30_0 : List Row := [(some 25, [3], []), (some 26, [25], [0]), (some 27, [26], [1]), (some 28, [1, 27], [2]), (some 29, [28, 27], [3, 2]), (some 30, [3, 27], [2]), (some 31, [30, 27], [5, 2]), (some 32, [29, 31, 27], [4, 6, 2]), (some 33, [32, 27], [7, 2]), (some 34, [33, 27], [8, 2]), (some 35, [4, 27], [2]), (some 36, [35, 27], [10, 2]), (some 37, [34, 36, 27], [9, 11, 2]), (some 38, [27, 37], [2, 12]), (some 5, [38], [13, 2, 0, 1, 2, 3, 4, 5, 6, 7, 8, 9, 10, 11, 12, 13])]
def Tz30_1 : List Row := [(some 50, [3], []), (some 51, [50], [0]), (some 52, [51], [1]), (some 53, [1, 52], [2]), (some 54, [53, 52], [3, 2]), (some 55, [3, 52], [2]), (some 56, [55, 52], [5, 2]), (some 57, [54, 56, 52], [4, 6, 2]), (some 58, [57, 52], [7, 2]), (some 59, [4, 52], [2]), (some 60, [58, 59, 52], [8, 9, 2, 2]), (some 61, [60, 52], [10, 2]), (some 62, [61, 52], [11, 10, 2]), (some 63, [5, 62], [12]), (some 64, [63, 62], [13, 12]), (some 65, [64, 62], [14, 12, 12]), (some 66, [4, 65], [15]), (some 67, [66, 65], [16, 15]), (some 68, [1, 65], [15]), (some 69, [68, 65], [18, 15]), (some 70, [3, 65], [15]), (some 71, [70, 65], [20, 15]), (some 72, [69, 71, 65], [19, 21, 15]), (some 73, [72, 65], [22, 15]), (some 74, [73, 65], [23, 15]), (some 75, [74, 65], [24, 15]), (some 76, [67, 75, 65], [17, 25, 15]), (some 77, [76, 65], [26, 15, 15]), (some 78, [4, 77], [27]), (some 79, [78, 77], [28, 27]), (some 80, [1, 77], [27]), (some 81, [80, 77], [30, 27]), (some 82, [3, 77], [27]), (some 83, [82, 77], [32, 27]), (some 84, [81, 83, 77], [31, 33, 27]), (some 85, [84, 77], [34, 27]), (some 86, [85, 77], [35, 27]), (some 87, [79, 86, 77], [29, 36, 27]), (some 88, [77, 87, 65], [27, 37, 15]), (some 89, [65, 88, 62], [15, 38, 12]), (some 90, [62, 89, 52], [12, 39, 2]), (some 91, [52, 90], [2, 40])]
namespace Rep
def stepB (l : List Rec) (i : Nat) : Bool := decide (okR (recN l i) = true ∧ ((i = 0 ∨ ¬ (recN l (i - 1)).c = (recN l i).c) → (recN l i).n = 1) ∧ (0 < i → listC (recN l (i - 1)) (recN l i) < 0 ∧ ((recN l (i - 1)).c = (recN l i).c → (recN l i).n = (recN l (i - 1)).n + 1 ∧ (recN l (i - 1)).t ≤ (recN l i).t)))
def validB (c : Int) (l : List Rec) : Bool := (decide ((0 ≤ c ∧ c ≤ 15) ∧ l.length ≤ 80) && (List.range l.length).all (stepB l)) && !(l.any fun x => !soundB (bookL l) x)
theorem valid_hd {c : Int} {l : List Rec} (h : ¬ ((0 ≤ c ∧ c ≤ 15) ∧ l.length ≤ 80)) : validB c l = false := by unfold validB; rw [decide_eq_false h]; rfl
theorem valid_bad {c : Int} {l : List Rec} {i : Nat} (hi : i < l.length) (h : stepB l i = false) : validB c l = false := by
 have : (List.range l.length).all (stepB l) = false := by
  rw [Bool.eq_false_iff]; intro q
  rw [List.all_eq_true] at q
  rw [q i (List.mem_range.2 hi)] at h; cases h
 unfold validB; rw [this, Bool.and_false]; rfl
theorem valid_end {c : Int} {l : List Rec} (h : (0 ≤ c ∧ c ≤ 15) ∧ l.length ≤ 80) (hs : ∀ i, i < l.length → stepB l i = true) : validB c l = !(l.any fun x => !soundB (bookL l) x) := by
 have : (List.range l.length).all (stepB l) = true := List.all_eq_true.2 fun i hi => hs i (List.mem_range.1 hi)
 unfold validB; rw [this, decide_eq_true h]; rfl
end Rep
namespace Rep
theorem step_n {l : List Rec} {i : Nat} (h : stepB l i = true) : 1 ≤ (recN l i).n ∧ (recN l i).n ≤ 80 := by
 have := (of_decide_eq_true h).1
 unfold okR at this
 have := of_decide_eq_true this
 omega
end Rep
theorem Valid_c {w0 : World} {c : Int} {a : Option Addr} {n : Nat} {l : List Rec} (k : Nat) (w : World) (H : RecsAt w0 a n l) (e0 : Ext w0 w) (hRl : RootAt w) : Calls Tryz.prog 16 #[.agg #[iv c, .slice a n k]] w fun e w' => e = .returned (.bool (Rep.validB c l)) ∧ Ext w w' := by
 replace H := H.ext e0;clear e0;obtain ⟨b, o, ha, hbr, hx⟩ := H.parts;have hln := H.len;have hmx := H.max;refine calls_cw 102 [(0, .agg #[iv c, .slice a n k])] Tryz.func16 rfl Tryz.ntmps16 (by kernel_rfl) (by kernel_rfl) (fun L => ?_);have hE := Ext.refl w;refine zc (zp (pS (sw 25 #[iv c, .slice a n k] ?_)));intro O1 X2 D9 D8 hb hbx;have ⟨Bg, Bc⟩ := bq2 hbx;replace hE := hE.trans hb;have C9 := hb.size;have Dq := Bg.lt;refine pT (.bool false) ?_;refine zn (zc (zc (zp (pT (pw O1 0) ?_))));refine pU (iv c) (xl (ld3 (Bg.1))) ?_;rcases Bool.eq_false_or_eq_true (Globe.inB c 0 15) with Bp | Bp
 ·
  have Dp := Globe.inB_t.1 Bp;refine pS (sc 49 #[iv c] ((isCentre_r (r := true) c _ (Bp)).mono ?_));rintro e w7 ⟨rfl, hb⟩;refine mv2 hb hE Bc fun hE Bc=>?_;have Ca := hb.size;refine ⟨_, rfl, pD (.bool false) (.bool false) ?_⟩;refine pT (pw O1 1) ?_;refine pU (.slice a n k) (xl (ld23 (Bc.1))) ?_;refine pT (iv n) ?_
  by_cases C8 : ((n : Nat) : Int) > (80 : Int)
  ·
   refine pU (.bool true) (ed (((n : Nat) : Int) > (80 : Int)) (C8)) ?_;refine pT (.bool true) ?_;refine zn (zt ?_);refine zc (zp (pT (.bool false) ?_));refine zn (cw_ret (qw_then_ret (qw_ret [.bool false] rfl ⟨(by kernel_rfl), trivial⟩ ?_)));exact ⟨rb (Rep.valid_hd (by omega)).symm, hE⟩
  ·
   refine pU (.bool false) (en (((n : Nat) : Int) > (80 : Int)) (C8)) ?_;refine pT (.bool false) ?_;refine zn (zf ?_);refine cw_skip (zq (zc (zc (zp (pT (pw O1 1) ?_)))));refine pU (.slice a n k) (xl (ld23 (Bc.1))) ?_;refine pD (iv n) (iv 0) ?_;refine zn (cK [1,18,19,20] (fun L => ?_));refine cw_block ?_;have Bb := Ext.refl w7;refine cw_loop [1, 18, 19, 20] (fun ws' wr m => ∃ i : Nat, ws' = [(1, pw O1 0), (18, .slice a n k), (19, iv n), (20, iv i)] ∧ m = n - i ∧ w7.heap.size ≤ wr.heap.size ∧ Ext w wr ∧ Ext w7 wr ∧ i ≤ n ∧ (∀ j, j < i → Rep.stepB l j = true)) (ws0 := [(1, pw O1 0), (18, .slice a n k), (19, iv n), (20, iv 0)]) (by kernel_rfl) _ ⟨0, rfl, rfl, Nat.le_refl _, hE, Bb, Nat.zero_le _, (fun j hj => absurd hj (Nat.not_lt_zero j))⟩ ?_;clear hE Bb;rintro Dr L ws Dt ⟨i, rfl, rfl, Bh, hE, Bb, hi, hpre⟩
   by_cases hlt : i < n
   ·
    obtain rfl := ha (by omega);have hbl := hbr (by omega);refine zc (zp (pU (.bool true) (ed (((i : Nat) : Int) < ((n : Nat) : Int)) (by omega)) ?_));refine zn (zc (zt ?_));refine cw_skip (zq (zc (cw_block ?_)));refine zc (zp (pT (iv i) ?_));refine pU (pw b (o + i * 7)) (xi (sv b o n k) (iv i) (ix23 (k := i) (by omega))) ?_;refine pU (rvv (recN l i)) (xl (rl ((hx.ext hE).r (i := i) (by omega)))) ?_;refine pS (sw 49 #[iv 0, iv 0, iv 0, iv 0, iv 0, iv 0, .string (⟨#[]⟩)] ?_);intro Bf Cj Bk Ch hb hbx;have ⟨B0, B2, B3, B4, B7, B8, Ba⟩ := bq7 hbx;refine mv2 hb hE Bb fun hE Bb=>?_;have Bm := hb.size;have Da := B0.lt;refine pT (iv i) ?_;refine pP (sn_setK7 (O := Bf) (j := 0) (v0 := iv ((recN l i).c : Int)) (v1 := iv ((recN l i).n : Int)) (v2 := iv ((recN l i).t : Int)) (v3 := iv ((recN l i).o : Int)) (v4 := iv ((recN l i).w : Int)) (v5 := iv ((recN l i).k : Int)) (v6 := .string ((recN l i).x)) (xt (pw Bf 0) (rvv (recN l i)) (st49 B0.1 B0.2 B2.1 B2.2 B3.1 B3.2 B4.1 B4.2 B7.1 B7.2 B8.1 B8.2 Ba.1 Ba.2)) B0 B2 B3 B4 B7 B8 Ba ?_);intro Ck ho B0 B2 B3 B4 B7 B8 Ba hk;replace hE := ho.ext hE (T (T C9 (T Ca Bh)) (Nat.le_of_eq Bk));replace Bb := ho.ext Bb (T Bh (Nat.le_of_eq Bk));have Bn := Nat.le_of_eq ho.size.symm;clear ho hk;refine zn (cw_seq ?_)
    by_cases hz : i = 0
    ·
     cases hok : Rep.okR (recN l i)
     ·
      refine dE Tz30_0 (fun w' => True) (trivial) (fun ops Q Dc hb hL hR hK => ?_);refine mv9 hb hE Bb B0 B2 B3 B4 B7 B8 Ba fun hE Bb B0 B2 B3 B4 B7 B8 Ba=>?_;have Co := hb.size;have hS := trivial;refine wV 0 (iv i) hR hS ?_;refine wL 1 (.bool true) hR (fun w _ => ev_eq (show _ = Result.ok (Next.value (Value.bool (((i : Nat) : Int) == (0 : Int)))) _ from by kernel_rfl) (by omega)) hS ?_;refine wV 2 (.bool true) hR hS ?_;refine wK 3 hR hS ?_;refine wK 4 hR hS ?_;refine wK 5 hR hS ?_;refine wK 6 hR hS ?_;refine wK 7 hR hS ?_;refine wK 8 hR hS ?_;refine wK 9 hR hS ?_;refine wK 10 hR hS ?_;refine wK 11 hR hS ?_;refine wK 12 hR hS ?_;refine wW 13 (.bool true) 14 (.bool true) hR hS ?_;refine we hL hR hK ?_;refine zq (cK [1,3,4,5,18,19,20] (fun L => ?_));refine zc (zc (zp (pU (rvv (recN l i)) (xl (ld49 (B0.1) (B2.1) (B3.1) (B4.1) (B7.1) (B8.1) (Ba.1))) ?_)));refine pS (sc 50 #[rvv (recN l i)] ((formed_r (recN l i) (r := false) _ (hRl.ext hE) hok).mono ?_));rintro e Du ⟨rfl, hb⟩;refine mv9 hb hE Bb B0 B2 B3 B4 B7 B8 Ba fun hE Bb B0 B2 B3 B4 B7 B8 Ba=>?_;have Cp := hb.size;refine ⟨_, rfl, pD (.bool true) (.bool true) ?_⟩;refine pK ?_;refine pK ?_;refine pK ?_;refine pK ?_;refine pK ?_;refine pK ?_;refine pT (.bool true) ?_;refine zn (cK [1,3,4,5,18,19,20,49] (fun L => ?_));refine zt ?_;refine zc (zp (pT (.bool false) ?_));refine zn (cw_ret (qw_then_ret (qw_block_ret (qw_then_ret (qw_then_ret (qw_block_ret (qw_then_ret (qw_ret [.bool false] rfl ⟨(by kernel_rfl), trivial⟩ ?_))))))));exact ⟨rb (Rep.valid_bad (i := i) (by omega) (decide_eq_false (fun z => by rw [hok] at z; cases z.1))).symm, hE⟩
     ·
      refine dE Tz30_0 (fun w' => True) (trivial) (fun ops Q Dd hb hL hR hK => ?_);refine mv9 hb hE Bb B0 B2 B3 B4 B7 B8 Ba fun hE Bb B0 B2 B3 B4 B7 B8 Ba=>?_;have Bw := hb.size;have hS := trivial;refine wV 0 (iv i) hR hS ?_;refine wL 1 (.bool true) hR (fun w _ => ev_eq (show _ = Result.ok (Next.value (Value.bool (((i : Nat) : Int) == (0 : Int)))) _ from by kernel_rfl) (by omega)) hS ?_;refine wV 2 (.bool true) hR hS ?_;refine wK 3 hR hS ?_;refine wK 4 hR hS ?_;refine wK 5 hR hS ?_;refine wK 6 hR hS ?_;refine wK 7 hR hS ?_;refine wK 8 hR hS ?_;refine wK 9 hR hS ?_;refine wK 10 hR hS ?_;refine wK 11 hR hS ?_;refine wK 12 hR hS ?_;refine wW 13 (.bool true) 14 (.bool true) hR hS ?_;refine we hL hR hK ?_;refine zq (cK [1,3,4,5,18,19,20] (fun L => ?_));refine zc (cw_seq ?_)
      by_cases Bq : (recN l i).n = 1
      ·
       refine zp (pU (rvv (recN l i)) (xl (ld49 (B0.1) (B2.1) (B3.1) (B4.1) (B7.1) (B8.1) (Ba.1))) ?_);refine pS (sc 50 #[rvv (recN l i)] ((formed_r (recN l i) (r := true) _ (hRl.ext hE) hok).mono ?_));rintro e Dv ⟨rfl, hb⟩;refine mv9 hb hE Bb B0 B2 B3 B4 B7 B8 Ba fun hE Bb B0 B2 B3 B4 B7 B8 Ba=>?_;have Bx := hb.size;refine ⟨_, rfl, pD (.bool false) (.bool false) ?_⟩;refine pD (.bool true) (.bool true) ?_;refine pT (pw Bf 1) ?_;refine pU (iv ((recN l i).n : Int)) (xl (ld3 (B2.1))) ?_;refine pU (.bool false) (ev_nne (show _ = Result.ok (Next.value (Value.bool (((recN l i).n : Int) != (1 : Int)))) _ from by kernel_rfl) (by omega)) ?_;refine pD (.bool false) (.bool false) ?_;refine zn (cK [1,3,4,5,18,19,20,49] (fun L => ?_));refine zf ?_;refine cw_skip (zq (zc (dE Tz30_1 (fun w' => True) (trivial) (fun ops Q De hb hL hR hK => ?_))));refine mv9 hb hE Bb B0 B2 B3 B4 B7 B8 Ba fun hE Bb B0 B2 B3 B4 B7 B8 Ba=>?_;have By := hb.size;have hS := trivial;refine wV 0 (iv i) hR hS ?_;refine wL 1 (.bool false) hR (fun w _ => ev_ndec (show _ = Result.ok (Next.value (Value.bool (decide (((i : Nat) : Int) > (0 : Int))))) _ from by kernel_rfl) (by omega)) hS ?_;refine wV 2 (.bool false) hR hS ?_;refine wK 3 hR hS ?_;refine wK 4 hR hS ?_;refine wK 5 hR hS ?_;refine wK 6 hR hS ?_;refine wK 7 hR hS ?_;refine wK 8 hR hS ?_;refine wK 9 hR hS ?_;refine wK 10 hR hS ?_;refine wK 11 hR hS ?_;refine wK 12 hR hS ?_;refine wK 13 hR hS ?_;refine wK 14 hR hS ?_;refine wK 15 hR hS ?_;refine wK 16 hR hS ?_;refine wK 17 hR hS ?_;refine wK 18 hR hS ?_;refine wK 19 hR hS ?_;refine wK 20 hR hS ?_;refine wK 21 hR hS ?_;refine wK 22 hR hS ?_;refine wK 23 hR hS ?_;refine wK 24 hR hS ?_;refine wK 25 hR hS ?_;refine wK 26 hR hS ?_;refine wK 27 hR hS ?_;refine wK 28 hR hS ?_;refine wK 29 hR hS ?_;refine wK 30 hR hS ?_;refine wK 31 hR hS ?_;refine wK 32 hR hS ?_;refine wK 33 hR hS ?_;refine wK 34 hR hS ?_;refine wK 35 hR hS ?_;refine wK 36 hR hS ?_;refine wK 37 hR hS ?_;refine wK 38 hR hS ?_;refine wK 39 hR hS ?_;refine wK 40 hR hS ?_;refine wV 41 (.bool false) hR hS ?_;refine we hL hR hK ?_;refine zq (cK [1,18,19,20,91] (fun L => ?_));refine zf ?_;refine cw_skip (qw_block (zq (zp (pU (iv ((i + 1 : Nat) : Int)) (ew (by omega) (by omega)) ?_))));refine pT (iv ((i + 1 : Nat) : Int)) ?_;refine pl_nil (zr [1, 18, 19, 20] _ ?_ ⟨(i + 1), rfl, rfl, (T Bh (T Bm (T Bn (T Bw (T Bx By))))), hE, Bb, by omega, (fun j hj => by rcases Nat.lt_succ_iff_lt_or_eq.1 hj with h | h; exact hpre j h; rw [h]; exact decide_eq_true ⟨hok, fun _ => Bq, fun h => absurd h (by omega)⟩)⟩);omega
      ·
       refine zp (pU (rvv (recN l i)) (xl (ld49 (B0.1) (B2.1) (B3.1) (B4.1) (B7.1) (B8.1) (Ba.1))) ?_);refine pS (sc 50 #[rvv (recN l i)] ((formed_r (recN l i) (r := true) _ (hRl.ext hE) hok).mono ?_));rintro e Dw ⟨rfl, hb⟩;refine mv9 hb hE Bb B0 B2 B3 B4 B7 B8 Ba fun hE Bb B0 B2 B3 B4 B7 B8 Ba=>?_;have Cq := hb.size;refine ⟨_, rfl, pD (.bool false) (.bool false) ?_⟩;refine pD (.bool true) (.bool true) ?_;refine pT (pw Bf 1) ?_;refine pU (iv ((recN l i).n : Int)) (xl (ld3 (B2.1))) ?_;refine pU (.bool true) (eM ((recN l i).n : Int) (1 : Int) (by omega)) ?_;refine pD (.bool true) (.bool true) ?_;refine zn (cK [1,3,4,5,18,19,20,49] (fun L => ?_));refine zt ?_;refine zc (zp (pT (.bool false) ?_));refine zn (cw_ret (qw_then_ret (qw_block_ret (qw_then_ret (qw_then_ret (qw_block_ret (qw_then_ret (qw_ret [.bool false] rfl ⟨(by kernel_rfl), trivial⟩ ?_))))))));exact ⟨rb (Rep.valid_bad (i := i) (by omega) (decide_eq_false (fun z => Bq (z.2.1 (.inl hz))))).symm, hE⟩
    ·
     by_cases hf : (recN l (i - 1)).c = (recN l i).c
     ·
      cases hok : Rep.okR (recN l i)
      ·
       refine dE Tz30_0 (fun w' => w'.cell? ⟨O1, 1, none⟩ = some (sv b o n k) ∧ w'.cell? ⟨b, o + (i - 1) * 7, none⟩ = some (iv ((recN l (i - 1)).c : Int)) ∧ w'.cell? ⟨Bf, 0, none⟩ = some (iv ((recN l i).c : Int))) (⟨(Bc.x Bb).1, (hx.ext hE).c0 (i := i - 1) (by omega), B0.1⟩) (fun ops Q Df hb hL hR hK => ?_);refine mv9 hb hE Bb B0 B2 B3 B4 B7 B8 Ba fun hE Bb B0 B2 B3 B4 B7 B8 Ba=>?_;have Cr := hb.size;have hS := A3 (Bc.c Bb) ((hx.ext hE).c0 (i := i - 1) (by omega)) B0.1;refine wV 0 (iv i) hR hS ?_;refine wL 1 (.bool false) hR (fun w _ => ev_neq (show _ = Result.ok (Next.value (Value.bool (((i : Nat) : Int) == (0 : Int)))) _ from by kernel_rfl) (by omega)) hS ?_;refine wW 2 (.bool false) 3 (pw O1 1) hR hS ?_;refine wM 4 (sv b o n k) hR (fun w hS => ld23 (hS.1)) hS ?_;refine wV 5 (iv i) hR hS ?_;refine wL 6 (iv ((i - 1 : Nat) : Int)) hR (fun w _ => ev_wrapN (a := ((i : Nat) : Int) - ((1 : Nat) : Int)) (k := i - 1) (by kernel_rfl) (by omega) (by omega)) hS ?_;refine wL 7 (pw b (o + (i - 1) * 7)) hR (fun w _ => ex_index (p := sv b o n k) (i := iv ((i - 1 : Nat) : Int)) rfl (by kernel_rfl) (by kernel_rfl) (ix23 (k := i - 1) (by omega))) hS ?_;refine wV 8 (pw b (o + (i - 1) * 7)) hR hS ?_;refine wM 9 (iv ((recN l (i - 1)).c : Int)) hR (fun w hS => ld3 (hS.2.1)) hS ?_;refine wV 10 (pw Bf 0) hR hS ?_;refine wM 11 (iv ((recN l i).c : Int)) hR (fun w hS => ld3 (hS.2.2)) hS ?_;refine wL 12 (.bool false) hR (fun w _ => ev_nne (show _ = Result.ok (Next.value (Value.bool (((recN l (i - 1)).c : Int) != ((recN l i).c : Int)))) _ from by kernel_rfl) (by omega)) hS ?_;refine wW 13 (.bool false) 14 (.bool false) hR hS ?_;refine we hL hR hK ?_;refine zq (cK [1,3,4,5,18,19,20] (fun L => ?_));refine zc (zc (zp (pU (rvv (recN l i)) (xl (ld49 (B0.1) (B2.1) (B3.1) (B4.1) (B7.1) (B8.1) (Ba.1))) ?_)));refine pS (sc 50 #[rvv (recN l i)] ((formed_r (recN l i) (r := false) _ (hRl.ext hE) hok).mono ?_));rintro e Dx ⟨rfl, hb⟩;refine mv9 hb hE Bb B0 B2 B3 B4 B7 B8 Ba fun hE Bb B0 B2 B3 B4 B7 B8 Ba=>?_;have Cs := hb.size;refine ⟨_, rfl, pD (.bool true) (.bool true) ?_⟩;refine pK ?_;refine pK ?_;refine pK ?_;refine pK ?_;refine pK ?_;refine pK ?_;refine pT (.bool true) ?_;refine zn (cK [1,3,4,5,18,19,20,49] (fun L => ?_));refine zt ?_;refine zc (zp (pT (.bool false) ?_));refine zn (cw_ret (qw_then_ret (qw_block_ret (qw_then_ret (qw_then_ret (qw_block_ret (qw_then_ret (qw_ret [.bool false] rfl ⟨(by kernel_rfl), trivial⟩ ?_))))))));exact ⟨rb (Rep.valid_bad (i := i) (by omega) (decide_eq_false (fun z => by rw [hok] at z; cases z.1))).symm, hE⟩
      ·
       refine dE Tz30_0 (fun w' => w'.cell? ⟨O1, 1, none⟩ = some (sv b o n k) ∧ w'.cell? ⟨b, o + (i - 1) * 7, none⟩ = some (iv ((recN l (i - 1)).c : Int)) ∧ w'.cell? ⟨Bf, 0, none⟩ = some (iv ((recN l i).c : Int))) (⟨(Bc.x Bb).1, (hx.ext hE).c0 (i := i - 1) (by omega), B0.1⟩) (fun ops Q Dg hb hL hR hK => ?_);refine mv9 hb hE Bb B0 B2 B3 B4 B7 B8 Ba fun hE Bb B0 B2 B3 B4 B7 B8 Ba=>?_;have Bz := hb.size;have hS := A3 (Bc.c Bb) ((hx.ext hE).c0 (i := i - 1) (by omega)) B0.1;refine wV 0 (iv i) hR hS ?_;refine wL 1 (.bool false) hR (fun w _ => ev_neq (show _ = Result.ok (Next.value (Value.bool (((i : Nat) : Int) == (0 : Int)))) _ from by kernel_rfl) (by omega)) hS ?_;refine wW 2 (.bool false) 3 (pw O1 1) hR hS ?_;refine wM 4 (sv b o n k) hR (fun w hS => ld23 (hS.1)) hS ?_;refine wV 5 (iv i) hR hS ?_;refine wL 6 (iv ((i - 1 : Nat) : Int)) hR (fun w _ => ev_wrapN (a := ((i : Nat) : Int) - ((1 : Nat) : Int)) (k := i - 1) (by kernel_rfl) (by omega) (by omega)) hS ?_;refine wL 7 (pw b (o + (i - 1) * 7)) hR (fun w _ => ex_index (p := sv b o n k) (i := iv ((i - 1 : Nat) : Int)) rfl (by kernel_rfl) (by kernel_rfl) (ix23 (k := i - 1) (by omega))) hS ?_;refine wV 8 (pw b (o + (i - 1) * 7)) hR hS ?_;refine wM 9 (iv ((recN l (i - 1)).c : Int)) hR (fun w hS => ld3 (hS.2.1)) hS ?_;refine wV 10 (pw Bf 0) hR hS ?_;refine wM 11 (iv ((recN l i).c : Int)) hR (fun w hS => ld3 (hS.2.2)) hS ?_;refine wL 12 (.bool false) hR (fun w _ => ev_nne (show _ = Result.ok (Next.value (Value.bool (((recN l (i - 1)).c : Int) != ((recN l i).c : Int)))) _ from by kernel_rfl) (by omega)) hS ?_;refine wW 13 (.bool false) 14 (.bool false) hR hS ?_;refine we hL hR hK ?_;refine zq (cK [1,3,4,5,18,19,20] (fun L => ?_));refine zc (zc (zp (pU (rvv (recN l i)) (xl (ld49 (B0.1) (B2.1) (B3.1) (B4.1) (B7.1) (B8.1) (Ba.1))) ?_)));refine pS (sc 50 #[rvv (recN l i)] ((formed_r (recN l i) (r := true) _ (hRl.ext hE) hok).mono ?_));rintro e Dy ⟨rfl, hb⟩;refine mv9 hb hE Bb B0 B2 B3 B4 B7 B8 Ba fun hE Bb B0 B2 B3 B4 B7 B8 Ba=>?_;have C0 := hb.size;refine ⟨_, rfl, pD (.bool false) (.bool false) ?_⟩;refine pD (.bool false) (.bool false) ?_;refine pK ?_;refine pK ?_;refine pK ?_;refine pD (.bool false) (.bool false) ?_;refine zn (cK [1,3,4,5,18,19,20,49] (fun L => ?_));refine zf ?_;refine cw_skip (zq (cw_seq ?_))
       by_cases hls : Rep.listC (recN l (i - 1)) (recN l i) < 0
       ·
        by_cases hnn : (recN l i).n = (recN l (i - 1)).n + 1
        ·
         by_cases htt : (recN l i).t < (recN l (i - 1)).t
         ·
          refine dE Tz30_1 (fun w' => w'.cell? ⟨O1, 1, none⟩ = some (sv b o n k) ∧ RecAt w' b (o + (i - 1) * 7) (recN l (i - 1)) ∧ RecAt w' Bf 0 (recN l i)) (⟨(Bc.x Bb).1, ((hx.ext hE).r (i := i - 1) (by omega)), (r7 B0.1 B2.1 B3.1 B4.1 B7.1 B8.1 Ba.1)⟩) (fun ops Q Dh hb hL hR hK => ?_);refine mv9 hb hE Bb B0 B2 B3 B4 B7 B8 Ba fun hE Bb B0 B2 B3 B4 B7 B8 Ba=>?_;have Ct := hb.size;have hS := A3 (Bc.c Bb) ((hx.ext hE).r (i := i - 1) (by omega)) (r7 B0.1 B2.1 B3.1 B4.1 B7.1 B8.1 Ba.1);refine wV 0 (iv i) hR hS ?_;refine wL 1 (.bool true) hR (fun w _ => ev_dec (show _ = Result.ok (Next.value (Value.bool (decide (((i : Nat) : Int) > (0 : Int))))) _ from by kernel_rfl) (by omega)) hS ?_;refine wW 2 (.bool true) 3 (pw O1 1) hR hS ?_;refine wM 4 (sv b o n k) hR (fun w hS => ld23 (hS.1)) hS ?_;refine wV 5 (iv i) hR hS ?_;refine wL 6 (iv ((i - 1 : Nat) : Int)) hR (fun w _ => ev_wrapN (a := ((i : Nat) : Int) - ((1 : Nat) : Int)) (k := i - 1) (by kernel_rfl) (by omega) (by omega)) hS ?_;refine wL 7 (pw b (o + (i - 1) * 7)) hR (fun w _ => ex_index (p := sv b o n k) (i := iv ((i - 1 : Nat) : Int)) rfl (by kernel_rfl) (by kernel_rfl) (ix23 (k := i - 1) (by omega))) hS ?_;refine wM 8 (rvv (recN l (i - 1))) hR (fun w hS => rl hS.2.1) hS ?_;refine wM 9 (rvv (recN l i)) hR (fun w hS => rl hS.2.2) hS ?_;refine wC 10 51 #[rvv (recN l (i - 1)), rvv (recN l i)] hR ((listed_c ((recN l (i - 1))) ((recN l i)) _).mono ?_);rintro e Dz ⟨rfl, hb⟩;refine mv9 hb hE Bb B0 B2 B3 B4 B7 B8 Ba fun hE Bb B0 B2 B3 B4 B7 B8 Ba=>?_;have Cu := hb.size;have hS := A3 (Bc.c Bb) ((hx.ext hE).r (i := i - 1) (by omega)) (r7 B0.1 B2.1 B3.1 B4.1 B7.1 B8.1 Ba.1);refine ⟨_, rfl, hS, ?_⟩;refine wL 11 (.bool false) hR (fun w _ => ev_ndec (show _ = Result.ok (Next.value (Value.bool (decide ((Rep.listC ((recN l (i - 1))) ((recN l i)) : Int) ≥ (0 : Int))))) _ from by kernel_rfl) (by omega)) hS ?_;refine wW 12 (.bool false) 13 (.bool false) hR hS ?_;refine wW 14 (.bool true) 15 (.bool true) hR hS ?_;refine wV 16 (pw Bf 1) hR hS ?_;refine wM 17 (iv ((recN l i).n : Int)) hR (fun w hS => ld3 (hS.2.2.2.1)) hS ?_;refine wV 18 (pw O1 1) hR hS ?_;refine wM 19 (sv b o n k) hR (fun w hS => ld23 (hS.1)) hS ?_;refine wV 20 (iv i) hR hS ?_;refine wL 21 (iv ((i - 1 : Nat) : Int)) hR (fun w _ => ev_wrapN (a := ((i : Nat) : Int) - ((1 : Nat) : Int)) (k := i - 1) (by kernel_rfl) (by omega) (by omega)) hS ?_;refine wL 22 (pw b (o + (i - 1) * 7)) hR (fun w _ => ex_index (p := sv b o n k) (i := iv ((i - 1 : Nat) : Int)) rfl (by kernel_rfl) (by kernel_rfl) (ix23 (k := i - 1) (by omega))) hS ?_;refine wV 23 (pw b (o + (i - 1) * 7 + 1)) hR hS ?_;refine wM 24 (iv ((recN l (i - 1)).n : Int)) hR (fun w hS => ld3 (hS.2.1.2.1)) hS ?_;refine wL 25 (iv ((recN l (i - 1)).n + 1 : Int)) hR (fun w _ => ev_wrap (a := (recN l (i - 1)).n + 1) (by kernel_rfl) (by have := (Rep.step_n (hpre (i - 1) (by omega))); omega) (by have := (Rep.step_n (hpre (i - 1) (by omega))); omega)) hS ?_;refine wL 26 (.bool false) hR (fun w _ => ev_nne (show _ = Result.ok (Next.value (Value.bool (((recN l i).n : Int) != ((recN l (i - 1)).n + 1 : Int)))) _ from by kernel_rfl) (by omega)) hS ?_;refine wW 27 (.bool false) 28 (pw Bf 2) hR hS ?_;refine wM 29 (iv ((recN l i).t : Int)) hR (fun w hS => ld3 (hS.2.2.2.2.1)) hS ?_;refine wV 30 (pw O1 1) hR hS ?_;refine wM 31 (sv b o n k) hR (fun w hS => ld23 (hS.1)) hS ?_;refine wV 32 (iv i) hR hS ?_;refine wL 33 (iv ((i - 1 : Nat) : Int)) hR (fun w _ => ev_wrapN (a := ((i : Nat) : Int) - ((1 : Nat) : Int)) (k := i - 1) (by kernel_rfl) (by omega) (by omega)) hS ?_;refine wL 34 (pw b (o + (i - 1) * 7)) hR (fun w _ => ex_index (p := sv b o n k) (i := iv ((i - 1 : Nat) : Int)) rfl (by kernel_rfl) (by kernel_rfl) (ix23 (k := i - 1) (by omega))) hS ?_;refine wV 35 (pw b (o + (i - 1) * 7 + 2)) hR hS ?_;refine wM 36 (iv ((recN l (i - 1)).t : Int)) hR (fun w hS => ld3 (hS.2.1.2.2.1)) hS ?_;refine wL 37 (.bool true) hR (fun w _ => ev_dec (show _ = Result.ok (Next.value (Value.bool (decide (((recN l i).t : Int) < ((recN l (i - 1)).t : Int))))) _ from by kernel_rfl) (by omega)) hS ?_;refine wW 38 (.bool true) 39 (.bool true) hR hS ?_;refine wW 40 (.bool true) 41 (.bool true) hR hS ?_;refine we hL hR hK ?_;refine zq (cK [1,18,19,20,91] (fun L => ?_));refine zt ?_;refine zc (zp (pT (.bool false) ?_));refine zn (cw_ret (qw_block_ret (qw_then_ret (qw_then_ret (qw_block_ret (qw_then_ret (qw_ret [.bool false] rfl ⟨(by kernel_rfl), trivial⟩ ?_)))))));exact ⟨rb (Rep.valid_bad (i := i) (by omega) (decide_eq_false (fun z => absurd ((z.2.2 (by omega)).2 hf).2 (by omega)))).symm, hE⟩
         ·
          refine dE Tz30_1 (fun w' => w'.cell? ⟨O1, 1, none⟩ = some (sv b o n k) ∧ RecAt w' b (o + (i - 1) * 7) (recN l (i - 1)) ∧ RecAt w' Bf 0 (recN l i)) (⟨(Bc.x Bb).1, ((hx.ext hE).r (i := i - 1) (by omega)), (r7 B0.1 B2.1 B3.1 B4.1 B7.1 B8.1 Ba.1)⟩) (fun ops Q Di hb hL hR hK => ?_);refine mv9 hb hE Bb B0 B2 B3 B4 B7 B8 Ba fun hE Bb B0 B2 B3 B4 B7 B8 Ba=>?_;have C1 := hb.size;have hS := A3 (Bc.c Bb) ((hx.ext hE).r (i := i - 1) (by omega)) (r7 B0.1 B2.1 B3.1 B4.1 B7.1 B8.1 Ba.1);refine wV 0 (iv i) hR hS ?_;refine wL 1 (.bool true) hR (fun w _ => ev_dec (show _ = Result.ok (Next.value (Value.bool (decide (((i : Nat) : Int) > (0 : Int))))) _ from by kernel_rfl) (by omega)) hS ?_;refine wW 2 (.bool true) 3 (pw O1 1) hR hS ?_;refine wM 4 (sv b o n k) hR (fun w hS => ld23 (hS.1)) hS ?_;refine wV 5 (iv i) hR hS ?_;refine wL 6 (iv ((i - 1 : Nat) : Int)) hR (fun w _ => ev_wrapN (a := ((i : Nat) : Int) - ((1 : Nat) : Int)) (k := i - 1) (by kernel_rfl) (by omega) (by omega)) hS ?_;refine wL 7 (pw b (o + (i - 1) * 7)) hR (fun w _ => ex_index (p := sv b o n k) (i := iv ((i - 1 : Nat) : Int)) rfl (by kernel_rfl) (by kernel_rfl) (ix23 (k := i - 1) (by omega))) hS ?_;refine wM 8 (rvv (recN l (i - 1))) hR (fun w hS => rl hS.2.1) hS ?_;refine wM 9 (rvv (recN l i)) hR (fun w hS => rl hS.2.2) hS ?_;refine wC 10 51 #[rvv (recN l (i - 1)), rvv (recN l i)] hR ((listed_c ((recN l (i - 1))) ((recN l i)) _).mono ?_);rintro e E0 ⟨rfl, hb⟩;refine mv9 hb hE Bb B0 B2 B3 B4 B7 B8 Ba fun hE Bb B0 B2 B3 B4 B7 B8 Ba=>?_;have C2 := hb.size;have hS := A3 (Bc.c Bb) ((hx.ext hE).r (i := i - 1) (by omega)) (r7 B0.1 B2.1 B3.1 B4.1 B7.1 B8.1 Ba.1);refine ⟨_, rfl, hS, ?_⟩;refine wL 11 (.bool false) hR (fun w _ => ev_ndec (show _ = Result.ok (Next.value (Value.bool (decide ((Rep.listC ((recN l (i - 1))) ((recN l i)) : Int) ≥ (0 : Int))))) _ from by kernel_rfl) (by omega)) hS ?_;refine wW 12 (.bool false) 13 (.bool false) hR hS ?_;refine wW 14 (.bool true) 15 (.bool true) hR hS ?_;refine wV 16 (pw Bf 1) hR hS ?_;refine wM 17 (iv ((recN l i).n : Int)) hR (fun w hS => ld3 (hS.2.2.2.1)) hS ?_;refine wV 18 (pw O1 1) hR hS ?_;refine wM 19 (sv b o n k) hR (fun w hS => ld23 (hS.1)) hS ?_;refine wV 20 (iv i) hR hS ?_;refine wL 21 (iv ((i - 1 : Nat) : Int)) hR (fun w _ => ev_wrapN (a := ((i : Nat) : Int) - ((1 : Nat) : Int)) (k := i - 1) (by kernel_rfl) (by omega) (by omega)) hS ?_;refine wL 22 (pw b (o + (i - 1) * 7)) hR (fun w _ => ex_index (p := sv b o n k) (i := iv ((i - 1 : Nat) : Int)) rfl (by kernel_rfl) (by kernel_rfl) (ix23 (k := i - 1) (by omega))) hS ?_;refine wV 23 (pw b (o + (i - 1) * 7 + 1)) hR hS ?_;refine wM 24 (iv ((recN l (i - 1)).n : Int)) hR (fun w hS => ld3 (hS.2.1.2.1)) hS ?_;refine wL 25 (iv ((recN l (i - 1)).n + 1 : Int)) hR (fun w _ => ev_wrap (a := (recN l (i - 1)).n + 1) (by kernel_rfl) (by have := (Rep.step_n (hpre (i - 1) (by omega))); omega) (by have := (Rep.step_n (hpre (i - 1) (by omega))); omega)) hS ?_;refine wL 26 (.bool false) hR (fun w _ => ev_nne (show _ = Result.ok (Next.value (Value.bool (((recN l i).n : Int) != ((recN l (i - 1)).n + 1 : Int)))) _ from by kernel_rfl) (by omega)) hS ?_;refine wW 27 (.bool false) 28 (pw Bf 2) hR hS ?_;refine wM 29 (iv ((recN l i).t : Int)) hR (fun w hS => ld3 (hS.2.2.2.2.1)) hS ?_;refine wV 30 (pw O1 1) hR hS ?_;refine wM 31 (sv b o n k) hR (fun w hS => ld23 (hS.1)) hS ?_;refine wV 32 (iv i) hR hS ?_;refine wL 33 (iv ((i - 1 : Nat) : Int)) hR (fun w _ => ev_wrapN (a := ((i : Nat) : Int) - ((1 : Nat) : Int)) (k := i - 1) (by kernel_rfl) (by omega) (by omega)) hS ?_;refine wL 34 (pw b (o + (i - 1) * 7)) hR (fun w _ => ex_index (p := sv b o n k) (i := iv ((i - 1 : Nat) : Int)) rfl (by kernel_rfl) (by kernel_rfl) (ix23 (k := i - 1) (by omega))) hS ?_;refine wV 35 (pw b (o + (i - 1) * 7 + 2)) hR hS ?_;refine wM 36 (iv ((recN l (i - 1)).t : Int)) hR (fun w hS => ld3 (hS.2.1.2.2.1)) hS ?_;refine wL 37 (.bool false) hR (fun w _ => ev_ndec (show _ = Result.ok (Next.value (Value.bool (decide (((recN l i).t : Int) < ((recN l (i - 1)).t : Int))))) _ from by kernel_rfl) (by omega)) hS ?_;refine wW 38 (.bool false) 39 (.bool false) hR hS ?_;refine wW 40 (.bool false) 41 (.bool false) hR hS ?_;refine we hL hR hK ?_;refine zq (cK [1,18,19,20,91] (fun L => ?_));refine zf ?_;refine cw_skip (qw_block (zq (zp (pU (iv ((i + 1 : Nat) : Int)) (ew (by omega) (by omega)) ?_))));refine pT (iv ((i + 1 : Nat) : Int)) ?_;refine pl_nil (zr [1, 18, 19, 20] _ ?_ ⟨(i + 1), rfl, rfl, (by omega), hE, Bb, by omega, (fun j hj => by rcases Nat.lt_succ_iff_lt_or_eq.1 hj with h | h; exact hpre j h; rw [h]; exact decide_eq_true ⟨hok, fun h => h.elim (fun e => absurd e hz) (fun e => absurd hf e), fun _ => ⟨hls, fun _ => ⟨hnn, by omega⟩⟩⟩)⟩);omega
        ·
         refine dE Tz30_1 (fun w' => w'.cell? ⟨O1, 1, none⟩ = some (sv b o n k) ∧ RecAt w' b (o + (i - 1) * 7) (recN l (i - 1)) ∧ RecAt w' Bf 0 (recN l i)) (⟨(Bc.x Bb).1, ((hx.ext hE).r (i := i - 1) (by omega)), (r7 B0.1 B2.1 B3.1 B4.1 B7.1 B8.1 Ba.1)⟩) (fun ops Q Dj hb hL hR hK => ?_);refine mv9 hb hE Bb B0 B2 B3 B4 B7 B8 Ba fun hE Bb B0 B2 B3 B4 B7 B8 Ba=>?_;have Cv := hb.size;have hS := A3 (Bc.c Bb) ((hx.ext hE).r (i := i - 1) (by omega)) (r7 B0.1 B2.1 B3.1 B4.1 B7.1 B8.1 Ba.1);refine wV 0 (iv i) hR hS ?_;refine wL 1 (.bool true) hR (fun w _ => ev_dec (show _ = Result.ok (Next.value (Value.bool (decide (((i : Nat) : Int) > (0 : Int))))) _ from by kernel_rfl) (by omega)) hS ?_;refine wW 2 (.bool true) 3 (pw O1 1) hR hS ?_;refine wM 4 (sv b o n k) hR (fun w hS => ld23 (hS.1)) hS ?_;refine wV 5 (iv i) hR hS ?_;refine wL 6 (iv ((i - 1 : Nat) : Int)) hR (fun w _ => ev_wrapN (a := ((i : Nat) : Int) - ((1 : Nat) : Int)) (k := i - 1) (by kernel_rfl) (by omega) (by omega)) hS ?_;refine wL 7 (pw b (o + (i - 1) * 7)) hR (fun w _ => ex_index (p := sv b o n k) (i := iv ((i - 1 : Nat) : Int)) rfl (by kernel_rfl) (by kernel_rfl) (ix23 (k := i - 1) (by omega))) hS ?_;refine wM 8 (rvv (recN l (i - 1))) hR (fun w hS => rl hS.2.1) hS ?_;refine wM 9 (rvv (recN l i)) hR (fun w hS => rl hS.2.2) hS ?_;refine wC 10 51 #[rvv (recN l (i - 1)), rvv (recN l i)] hR ((listed_c ((recN l (i - 1))) ((recN l i)) _).mono ?_);rintro e E1 ⟨rfl, hb⟩;refine mv9 hb hE Bb B0 B2 B3 B4 B7 B8 Ba fun hE Bb B0 B2 B3 B4 B7 B8 Ba=>?_;have Cw := hb.size;have hS := A3 (Bc.c Bb) ((hx.ext hE).r (i := i - 1) (by omega)) (r7 B0.1 B2.1 B3.1 B4.1 B7.1 B8.1 Ba.1);refine ⟨_, rfl, hS, ?_⟩;refine wL 11 (.bool false) hR (fun w _ => ev_ndec (show _ = Result.ok (Next.value (Value.bool (decide ((Rep.listC ((recN l (i - 1))) ((recN l i)) : Int) ≥ (0 : Int))))) _ from by kernel_rfl) (by omega)) hS ?_;refine wW 12 (.bool false) 13 (.bool false) hR hS ?_;refine wW 14 (.bool true) 15 (.bool true) hR hS ?_;refine wV 16 (pw Bf 1) hR hS ?_;refine wM 17 (iv ((recN l i).n : Int)) hR (fun w hS => ld3 (hS.2.2.2.1)) hS ?_;refine wV 18 (pw O1 1) hR hS ?_;refine wM 19 (sv b o n k) hR (fun w hS => ld23 (hS.1)) hS ?_;refine wV 20 (iv i) hR hS ?_;refine wL 21 (iv ((i - 1 : Nat) : Int)) hR (fun w _ => ev_wrapN (a := ((i : Nat) : Int) - ((1 : Nat) : Int)) (k := i - 1) (by kernel_rfl) (by omega) (by omega)) hS ?_;refine wL 22 (pw b (o + (i - 1) * 7)) hR (fun w _ => ex_index (p := sv b o n k) (i := iv ((i - 1 : Nat) : Int)) rfl (by kernel_rfl) (by kernel_rfl) (ix23 (k := i - 1) (by omega))) hS ?_;refine wV 23 (pw b (o + (i - 1) * 7 + 1)) hR hS ?_;refine wM 24 (iv ((recN l (i - 1)).n : Int)) hR (fun w hS => ld3 (hS.2.1.2.1)) hS ?_;refine wL 25 (iv ((recN l (i - 1)).n + 1 : Int)) hR (fun w _ => ev_wrap (a := (recN l (i - 1)).n + 1) (by kernel_rfl) (by have := (Rep.step_n (hpre (i - 1) (by omega))); omega) (by have := (Rep.step_n (hpre (i - 1) (by omega))); omega)) hS ?_;refine wL 26 (.bool true) hR (fun w _ => ev_ne (show _ = Result.ok (Next.value (Value.bool (((recN l i).n : Int) != ((recN l (i - 1)).n + 1 : Int)))) _ from by kernel_rfl) (by omega)) hS ?_;refine wV 27 (.bool true) hR hS ?_;refine wK 28 hR hS ?_;refine wK 29 hR hS ?_;refine wK 30 hR hS ?_;refine wK 31 hR hS ?_;refine wK 32 hR hS ?_;refine wK 33 hR hS ?_;refine wK 34 hR hS ?_;refine wK 35 hR hS ?_;refine wK 36 hR hS ?_;refine wK 37 hR hS ?_;refine wW 38 (.bool true) 39 (.bool true) hR hS ?_;refine wW 40 (.bool true) 41 (.bool true) hR hS ?_;refine we hL hR hK ?_;refine zq (cK [1,18,19,20,91] (fun L => ?_));refine zt ?_;refine zc (zp (pT (.bool false) ?_));refine zn (cw_ret (qw_block_ret (qw_then_ret (qw_then_ret (qw_block_ret (qw_then_ret (qw_ret [.bool false] rfl ⟨(by kernel_rfl), trivial⟩ ?_)))))));exact ⟨rb (Rep.valid_bad (i := i) (by omega) (decide_eq_false (fun z => hnn ((z.2.2 (by omega)).2 hf).1))).symm, hE⟩
       ·
        refine dE Tz30_1 (fun w' => w'.cell? ⟨O1, 1, none⟩ = some (sv b o n k) ∧ RecAt w' b (o + (i - 1) * 7) (recN l (i - 1)) ∧ RecAt w' Bf 0 (recN l i)) (⟨(Bc.x Bb).1, ((hx.ext hE).r (i := i - 1) (by omega)), (r7 B0.1 B2.1 B3.1 B4.1 B7.1 B8.1 Ba.1)⟩) (fun ops Q Dk hb hL hR hK => ?_);refine mv9 hb hE Bb B0 B2 B3 B4 B7 B8 Ba fun hE Bb B0 B2 B3 B4 B7 B8 Ba=>?_;have Cx := hb.size;have hS := A3 (Bc.c Bb) ((hx.ext hE).r (i := i - 1) (by omega)) (r7 B0.1 B2.1 B3.1 B4.1 B7.1 B8.1 Ba.1);refine wV 0 (iv i) hR hS ?_;refine wL 1 (.bool true) hR (fun w _ => ev_dec (show _ = Result.ok (Next.value (Value.bool (decide (((i : Nat) : Int) > (0 : Int))))) _ from by kernel_rfl) (by omega)) hS ?_;refine wW 2 (.bool true) 3 (pw O1 1) hR hS ?_;refine wM 4 (sv b o n k) hR (fun w hS => ld23 (hS.1)) hS ?_;refine wV 5 (iv i) hR hS ?_;refine wL 6 (iv ((i - 1 : Nat) : Int)) hR (fun w _ => ev_wrapN (a := ((i : Nat) : Int) - ((1 : Nat) : Int)) (k := i - 1) (by kernel_rfl) (by omega) (by omega)) hS ?_;refine wL 7 (pw b (o + (i - 1) * 7)) hR (fun w _ => ex_index (p := sv b o n k) (i := iv ((i - 1 : Nat) : Int)) rfl (by kernel_rfl) (by kernel_rfl) (ix23 (k := i - 1) (by omega))) hS ?_;refine wM 8 (rvv (recN l (i - 1))) hR (fun w hS => rl hS.2.1) hS ?_;refine wM 9 (rvv (recN l i)) hR (fun w hS => rl hS.2.2) hS ?_;refine wC 10 51 #[rvv (recN l (i - 1)), rvv (recN l i)] hR ((listed_c ((recN l (i - 1))) ((recN l i)) _).mono ?_);rintro e E2 ⟨rfl, hb⟩;refine mv9 hb hE Bb B0 B2 B3 B4 B7 B8 Ba fun hE Bb B0 B2 B3 B4 B7 B8 Ba=>?_;have Cy := hb.size;have hS := A3 (Bc.c Bb) ((hx.ext hE).r (i := i - 1) (by omega)) (r7 B0.1 B2.1 B3.1 B4.1 B7.1 B8.1 Ba.1);refine ⟨_, rfl, hS, ?_⟩;refine wL 11 (.bool true) hR (fun w _ => ev_dec (show _ = Result.ok (Next.value (Value.bool (decide ((Rep.listC ((recN l (i - 1))) ((recN l i)) : Int) ≥ (0 : Int))))) _ from by kernel_rfl) (by omega)) hS ?_;refine wV 12 (.bool true) hR hS ?_;refine wK 13 hR hS ?_;refine wK 14 hR hS ?_;refine wK 15 hR hS ?_;refine wK 16 hR hS ?_;refine wK 17 hR hS ?_;refine wK 18 hR hS ?_;refine wK 19 hR hS ?_;refine wK 20 hR hS ?_;refine wK 21 hR hS ?_;refine wK 22 hR hS ?_;refine wK 23 hR hS ?_;refine wK 24 hR hS ?_;refine wK 25 hR hS ?_;refine wK 26 hR hS ?_;refine wK 27 hR hS ?_;refine wK 28 hR hS ?_;refine wK 29 hR hS ?_;refine wK 30 hR hS ?_;refine wK 31 hR hS ?_;refine wK 32 hR hS ?_;refine wK 33 hR hS ?_;refine wK 34 hR hS ?_;refine wK 35 hR hS ?_;refine wK 36 hR hS ?_;refine wK 37 hR hS ?_;refine wK 38 hR hS ?_;refine wK 39 hR hS ?_;refine wW 40 (.bool true) 41 (.bool true) hR hS ?_;refine we hL hR hK ?_;refine zq (cK [1,18,19,20,91] (fun L => ?_));refine zt ?_;refine zc (zp (pT (.bool false) ?_));refine zn (cw_ret (qw_block_ret (qw_then_ret (qw_then_ret (qw_block_ret (qw_then_ret (qw_ret [.bool false] rfl ⟨(by kernel_rfl), trivial⟩ ?_)))))));exact ⟨rb (Rep.valid_bad (i := i) (by omega) (decide_eq_false (fun z => hls (z.2.2 (by omega)).1))).symm, hE⟩
     ·
      cases hok : Rep.okR (recN l i)
      ·
       refine dE Tz30_0 (fun w' => w'.cell? ⟨O1, 1, none⟩ = some (sv b o n k) ∧ w'.cell? ⟨b, o + (i - 1) * 7, none⟩ = some (iv ((recN l (i - 1)).c : Int)) ∧ w'.cell? ⟨Bf, 0, none⟩ = some (iv ((recN l i).c : Int))) (⟨(Bc.x Bb).1, (hx.ext hE).c0 (i := i - 1) (by omega), B0.1⟩) (fun ops Q Dl hb hL hR hK => ?_);refine mv9 hb hE Bb B0 B2 B3 B4 B7 B8 Ba fun hE Bb B0 B2 B3 B4 B7 B8 Ba=>?_;have Cz := hb.size;have hS := A3 (Bc.c Bb) ((hx.ext hE).c0 (i := i - 1) (by omega)) B0.1;refine wV 0 (iv i) hR hS ?_;refine wL 1 (.bool false) hR (fun w _ => ev_neq (show _ = Result.ok (Next.value (Value.bool (((i : Nat) : Int) == (0 : Int)))) _ from by kernel_rfl) (by omega)) hS ?_;refine wW 2 (.bool false) 3 (pw O1 1) hR hS ?_;refine wM 4 (sv b o n k) hR (fun w hS => ld23 (hS.1)) hS ?_;refine wV 5 (iv i) hR hS ?_;refine wL 6 (iv ((i - 1 : Nat) : Int)) hR (fun w _ => ev_wrapN (a := ((i : Nat) : Int) - ((1 : Nat) : Int)) (k := i - 1) (by kernel_rfl) (by omega) (by omega)) hS ?_;refine wL 7 (pw b (o + (i - 1) * 7)) hR (fun w _ => ex_index (p := sv b o n k) (i := iv ((i - 1 : Nat) : Int)) rfl (by kernel_rfl) (by kernel_rfl) (ix23 (k := i - 1) (by omega))) hS ?_;refine wV 8 (pw b (o + (i - 1) * 7)) hR hS ?_;refine wM 9 (iv ((recN l (i - 1)).c : Int)) hR (fun w hS => ld3 (hS.2.1)) hS ?_;refine wV 10 (pw Bf 0) hR hS ?_;refine wM 11 (iv ((recN l i).c : Int)) hR (fun w hS => ld3 (hS.2.2)) hS ?_;refine wL 12 (.bool true) hR (fun w _ => ev_ne (show _ = Result.ok (Next.value (Value.bool (((recN l (i - 1)).c : Int) != ((recN l i).c : Int)))) _ from by kernel_rfl) (by omega)) hS ?_;refine wW 13 (.bool true) 14 (.bool true) hR hS ?_;refine we hL hR hK ?_;refine zq (cK [1,3,4,5,18,19,20] (fun L => ?_));refine zc (zc (zp (pU (rvv (recN l i)) (xl (ld49 (B0.1) (B2.1) (B3.1) (B4.1) (B7.1) (B8.1) (Ba.1))) ?_)));refine pS (sc 50 #[rvv (recN l i)] ((formed_r (recN l i) (r := false) _ (hRl.ext hE) hok).mono ?_));rintro e E3 ⟨rfl, hb⟩;refine mv9 hb hE Bb B0 B2 B3 B4 B7 B8 Ba fun hE Bb B0 B2 B3 B4 B7 B8 Ba=>?_;have D0 := hb.size;refine ⟨_, rfl, pD (.bool true) (.bool true) ?_⟩;refine pK ?_;refine pK ?_;refine pK ?_;refine pK ?_;refine pK ?_;refine pK ?_;refine pT (.bool true) ?_;refine zn (cK [1,3,4,5,18,19,20,49] (fun L => ?_));refine zt ?_;refine zc (zp (pT (.bool false) ?_));refine zn (cw_ret (qw_then_ret (qw_block_ret (qw_then_ret (qw_then_ret (qw_block_ret (qw_then_ret (qw_ret [.bool false] rfl ⟨(by kernel_rfl), trivial⟩ ?_))))))));exact ⟨rb (Rep.valid_bad (i := i) (by omega) (decide_eq_false (fun z => by rw [hok] at z; cases z.1))).symm, hE⟩
      ·
       refine dE Tz30_0 (fun w' => w'.cell? ⟨O1, 1, none⟩ = some (sv b o n k) ∧ w'.cell? ⟨b, o + (i - 1) * 7, none⟩ = some (iv ((recN l (i - 1)).c : Int)) ∧ w'.cell? ⟨Bf, 0, none⟩ = some (iv ((recN l i).c : Int))) (⟨(Bc.x Bb).1, (hx.ext hE).c0 (i := i - 1) (by omega), B0.1⟩) (fun ops Q Dm hb hL hR hK => ?_);refine mv9 hb hE Bb B0 B2 B3 B4 B7 B8 Ba fun hE Bb B0 B2 B3 B4 B7 B8 Ba=>?_;have C3 := hb.size;have hS := A3 (Bc.c Bb) ((hx.ext hE).c0 (i := i - 1) (by omega)) B0.1;refine wV 0 (iv i) hR hS ?_;refine wL 1 (.bool false) hR (fun w _ => ev_neq (show _ = Result.ok (Next.value (Value.bool (((i : Nat) : Int) == (0 : Int)))) _ from by kernel_rfl) (by omega)) hS ?_;refine wW 2 (.bool false) 3 (pw O1 1) hR hS ?_;refine wM 4 (sv b o n k) hR (fun w hS => ld23 (hS.1)) hS ?_;refine wV 5 (iv i) hR hS ?_;refine wL 6 (iv ((i - 1 : Nat) : Int)) hR (fun w _ => ev_wrapN (a := ((i : Nat) : Int) - ((1 : Nat) : Int)) (k := i - 1) (by kernel_rfl) (by omega) (by omega)) hS ?_;refine wL 7 (pw b (o + (i - 1) * 7)) hR (fun w _ => ex_index (p := sv b o n k) (i := iv ((i - 1 : Nat) : Int)) rfl (by kernel_rfl) (by kernel_rfl) (ix23 (k := i - 1) (by omega))) hS ?_;refine wV 8 (pw b (o + (i - 1) * 7)) hR hS ?_;refine wM 9 (iv ((recN l (i - 1)).c : Int)) hR (fun w hS => ld3 (hS.2.1)) hS ?_;refine wV 10 (pw Bf 0) hR hS ?_;refine wM 11 (iv ((recN l i).c : Int)) hR (fun w hS => ld3 (hS.2.2)) hS ?_;refine wL 12 (.bool true) hR (fun w _ => ev_ne (show _ = Result.ok (Next.value (Value.bool (((recN l (i - 1)).c : Int) != ((recN l i).c : Int)))) _ from by kernel_rfl) (by omega)) hS ?_;refine wW 13 (.bool true) 14 (.bool true) hR hS ?_;refine we hL hR hK ?_;refine zq (cK [1,3,4,5,18,19,20] (fun L => ?_));refine zc (cw_seq ?_)
       by_cases Bq : (recN l i).n = 1
       ·
        refine zp (pU (rvv (recN l i)) (xl (ld49 (B0.1) (B2.1) (B3.1) (B4.1) (B7.1) (B8.1) (Ba.1))) ?_);refine pS (sc 50 #[rvv (recN l i)] ((formed_r (recN l i) (r := true) _ (hRl.ext hE) hok).mono ?_));rintro e E4 ⟨rfl, hb⟩;refine mv9 hb hE Bb B0 B2 B3 B4 B7 B8 Ba fun hE Bb B0 B2 B3 B4 B7 B8 Ba=>?_;have C4 := hb.size;refine ⟨_, rfl, pD (.bool false) (.bool false) ?_⟩;refine pD (.bool true) (.bool true) ?_;refine pT (pw Bf 1) ?_;refine pU (iv ((recN l i).n : Int)) (xl (ld3 (B2.1))) ?_;refine pU (.bool false) (ev_nne (show _ = Result.ok (Next.value (Value.bool (((recN l i).n : Int) != (1 : Int)))) _ from by kernel_rfl) (by omega)) ?_;refine pD (.bool false) (.bool false) ?_;refine zn (cK [1,3,4,5,18,19,20,49] (fun L => ?_));refine zf ?_;refine cw_skip (zq (cw_seq ?_))
        by_cases hls : Rep.listC (recN l (i - 1)) (recN l i) < 0
        ·
         refine dE Tz30_1 (fun w' => w'.cell? ⟨O1, 1, none⟩ = some (sv b o n k) ∧ RecAt w' b (o + (i - 1) * 7) (recN l (i - 1)) ∧ RecAt w' Bf 0 (recN l i)) (⟨(Bc.x Bb).1, ((hx.ext hE).r (i := i - 1) (by omega)), (r7 B0.1 B2.1 B3.1 B4.1 B7.1 B8.1 Ba.1)⟩) (fun ops Q Dn hb hL hR hK => ?_);refine mv9 hb hE Bb B0 B2 B3 B4 B7 B8 Ba fun hE Bb B0 B2 B3 B4 B7 B8 Ba=>?_;have C5 := hb.size;have hS := A3 (Bc.c Bb) ((hx.ext hE).r (i := i - 1) (by omega)) (r7 B0.1 B2.1 B3.1 B4.1 B7.1 B8.1 Ba.1);refine wV 0 (iv i) hR hS ?_;refine wL 1 (.bool true) hR (fun w _ => ev_dec (show _ = Result.ok (Next.value (Value.bool (decide (((i : Nat) : Int) > (0 : Int))))) _ from by kernel_rfl) (by omega)) hS ?_;refine wW 2 (.bool true) 3 (pw O1 1) hR hS ?_;refine wM 4 (sv b o n k) hR (fun w hS => ld23 (hS.1)) hS ?_;refine wV 5 (iv i) hR hS ?_;refine wL 6 (iv ((i - 1 : Nat) : Int)) hR (fun w _ => ev_wrapN (a := ((i : Nat) : Int) - ((1 : Nat) : Int)) (k := i - 1) (by kernel_rfl) (by omega) (by omega)) hS ?_;refine wL 7 (pw b (o + (i - 1) * 7)) hR (fun w _ => ex_index (p := sv b o n k) (i := iv ((i - 1 : Nat) : Int)) rfl (by kernel_rfl) (by kernel_rfl) (ix23 (k := i - 1) (by omega))) hS ?_;refine wM 8 (rvv (recN l (i - 1))) hR (fun w hS => rl hS.2.1) hS ?_;refine wM 9 (rvv (recN l i)) hR (fun w hS => rl hS.2.2) hS ?_;refine wC 10 51 #[rvv (recN l (i - 1)), rvv (recN l i)] hR ((listed_c ((recN l (i - 1))) ((recN l i)) _).mono ?_);rintro e E5 ⟨rfl, hb⟩;refine mv9 hb hE Bb B0 B2 B3 B4 B7 B8 Ba fun hE Bb B0 B2 B3 B4 B7 B8 Ba=>?_;have C6 := hb.size;have hS := A3 (Bc.c Bb) ((hx.ext hE).r (i := i - 1) (by omega)) (r7 B0.1 B2.1 B3.1 B4.1 B7.1 B8.1 Ba.1);refine ⟨_, rfl, hS, ?_⟩;refine wL 11 (.bool false) hR (fun w _ => ev_ndec (show _ = Result.ok (Next.value (Value.bool (decide ((Rep.listC ((recN l (i - 1))) ((recN l i)) : Int) ≥ (0 : Int))))) _ from by kernel_rfl) (by omega)) hS ?_;refine wW 12 (.bool false) 13 (.bool true) hR hS ?_;refine wW 14 (.bool false) 15 (.bool false) hR hS ?_;refine wK 16 hR hS ?_;refine wK 17 hR hS ?_;refine wK 18 hR hS ?_;refine wK 19 hR hS ?_;refine wK 20 hR hS ?_;refine wK 21 hR hS ?_;refine wK 22 hR hS ?_;refine wK 23 hR hS ?_;refine wK 24 hR hS ?_;refine wK 25 hR hS ?_;refine wK 26 hR hS ?_;refine wK 27 hR hS ?_;refine wK 28 hR hS ?_;refine wK 29 hR hS ?_;refine wK 30 hR hS ?_;refine wK 31 hR hS ?_;refine wK 32 hR hS ?_;refine wK 33 hR hS ?_;refine wK 34 hR hS ?_;refine wK 35 hR hS ?_;refine wK 36 hR hS ?_;refine wK 37 hR hS ?_;refine wK 38 hR hS ?_;refine wW 39 (.bool false) 40 (.bool false) hR hS ?_;refine wV 41 (.bool false) hR hS ?_;refine we hL hR hK ?_;refine zq (cK [1,18,19,20,91] (fun L => ?_));refine zf ?_;refine cw_skip (qw_block (zq (zp (pU (iv ((i + 1 : Nat) : Int)) (ew (by omega) (by omega)) ?_))));refine pT (iv ((i + 1 : Nat) : Int)) ?_;refine pl_nil (zr [1, 18, 19, 20] _ ?_ ⟨(i + 1), rfl, rfl, (by omega), hE, Bb, by omega, (fun j hj => by rcases Nat.lt_succ_iff_lt_or_eq.1 hj with h | h; exact hpre j h; rw [h]; exact decide_eq_true ⟨hok, fun _ => Bq, fun _ => ⟨hls, fun e => absurd e hf⟩⟩)⟩);omega
        ·
         refine dE Tz30_1 (fun w' => w'.cell? ⟨O1, 1, none⟩ = some (sv b o n k) ∧ RecAt w' b (o + (i - 1) * 7) (recN l (i - 1)) ∧ RecAt w' Bf 0 (recN l i)) (⟨(Bc.x Bb).1, ((hx.ext hE).r (i := i - 1) (by omega)), (r7 B0.1 B2.1 B3.1 B4.1 B7.1 B8.1 Ba.1)⟩) (fun ops Q Do hb hL hR hK => ?_);refine mv9 hb hE Bb B0 B2 B3 B4 B7 B8 Ba fun hE Bb B0 B2 B3 B4 B7 B8 Ba=>?_;have D1 := hb.size;have hS := A3 (Bc.c Bb) ((hx.ext hE).r (i := i - 1) (by omega)) (r7 B0.1 B2.1 B3.1 B4.1 B7.1 B8.1 Ba.1);refine wV 0 (iv i) hR hS ?_;refine wL 1 (.bool true) hR (fun w _ => ev_dec (show _ = Result.ok (Next.value (Value.bool (decide (((i : Nat) : Int) > (0 : Int))))) _ from by kernel_rfl) (by omega)) hS ?_;refine wW 2 (.bool true) 3 (pw O1 1) hR hS ?_;refine wM 4 (sv b o n k) hR (fun w hS => ld23 (hS.1)) hS ?_;refine wV 5 (iv i) hR hS ?_;refine wL 6 (iv ((i - 1 : Nat) : Int)) hR (fun w _ => ev_wrapN (a := ((i : Nat) : Int) - ((1 : Nat) : Int)) (k := i - 1) (by kernel_rfl) (by omega) (by omega)) hS ?_;refine wL 7 (pw b (o + (i - 1) * 7)) hR (fun w _ => ex_index (p := sv b o n k) (i := iv ((i - 1 : Nat) : Int)) rfl (by kernel_rfl) (by kernel_rfl) (ix23 (k := i - 1) (by omega))) hS ?_;refine wM 8 (rvv (recN l (i - 1))) hR (fun w hS => rl hS.2.1) hS ?_;refine wM 9 (rvv (recN l i)) hR (fun w hS => rl hS.2.2) hS ?_;refine wC 10 51 #[rvv (recN l (i - 1)), rvv (recN l i)] hR ((listed_c ((recN l (i - 1))) ((recN l i)) _).mono ?_);rintro e E6 ⟨rfl, hb⟩;refine mv9 hb hE Bb B0 B2 B3 B4 B7 B8 Ba fun hE Bb B0 B2 B3 B4 B7 B8 Ba=>?_;have D2 := hb.size;have hS := A3 (Bc.c Bb) ((hx.ext hE).r (i := i - 1) (by omega)) (r7 B0.1 B2.1 B3.1 B4.1 B7.1 B8.1 Ba.1);refine ⟨_, rfl, hS, ?_⟩;refine wL 11 (.bool true) hR (fun w _ => ev_dec (show _ = Result.ok (Next.value (Value.bool (decide ((Rep.listC ((recN l (i - 1))) ((recN l i)) : Int) ≥ (0 : Int))))) _ from by kernel_rfl) (by omega)) hS ?_;refine wV 12 (.bool true) hR hS ?_;refine wK 13 hR hS ?_;refine wK 14 hR hS ?_;refine wK 15 hR hS ?_;refine wK 16 hR hS ?_;refine wK 17 hR hS ?_;refine wK 18 hR hS ?_;refine wK 19 hR hS ?_;refine wK 20 hR hS ?_;refine wK 21 hR hS ?_;refine wK 22 hR hS ?_;refine wK 23 hR hS ?_;refine wK 24 hR hS ?_;refine wK 25 hR hS ?_;refine wK 26 hR hS ?_;refine wK 27 hR hS ?_;refine wK 28 hR hS ?_;refine wK 29 hR hS ?_;refine wK 30 hR hS ?_;refine wK 31 hR hS ?_;refine wK 32 hR hS ?_;refine wK 33 hR hS ?_;refine wK 34 hR hS ?_;refine wK 35 hR hS ?_;refine wK 36 hR hS ?_;refine wK 37 hR hS ?_;refine wK 38 hR hS ?_;refine wK 39 hR hS ?_;refine wW 40 (.bool true) 41 (.bool true) hR hS ?_;refine we hL hR hK ?_;refine zq (cK [1,18,19,20,91] (fun L => ?_));refine zt ?_;refine zc (zp (pT (.bool false) ?_));refine zn (cw_ret (qw_block_ret (qw_then_ret (qw_then_ret (qw_block_ret (qw_then_ret (qw_ret [.bool false] rfl ⟨(by kernel_rfl), trivial⟩ ?_)))))));exact ⟨rb (Rep.valid_bad (i := i) (by omega) (decide_eq_false (fun z => hls (z.2.2 (by omega)).1))).symm, hE⟩
       ·
        refine zp (pU (rvv (recN l i)) (xl (ld49 (B0.1) (B2.1) (B3.1) (B4.1) (B7.1) (B8.1) (Ba.1))) ?_);refine pS (sc 50 #[rvv (recN l i)] ((formed_r (recN l i) (r := true) _ (hRl.ext hE) hok).mono ?_));rintro e E7 ⟨rfl, hb⟩;refine mv3 hb hE Bb B2 fun hE Bb B2=>?_;have D3 := hb.size;refine ⟨_, rfl, pD (.bool false) (.bool false) ?_⟩;refine pD (.bool true) (.bool true) ?_;refine pT (pw Bf 1) ?_;refine pU (iv ((recN l i).n : Int)) (xl (ld3 (B2.1))) ?_;refine pU (.bool true) (eM ((recN l i).n : Int) (1 : Int) (by omega)) ?_;refine pD (.bool true) (.bool true) ?_;refine zn (cK [1,3,4,5,18,19,20,49] (fun L => ?_));refine zt ?_;refine zc (zp (pT (.bool false) ?_));refine zn (cw_ret (qw_then_ret (qw_block_ret (qw_then_ret (qw_then_ret (qw_block_ret (qw_then_ret (qw_ret [.bool false] rfl ⟨(by kernel_rfl), trivial⟩ ?_))))))));exact ⟨rb (Rep.valid_bad (i := i) (by omega) (decide_eq_false (fun z => Bq (z.2.1 (.inr hf))))).symm, hE⟩
   ·
    have hin : i = n := by omega
    refine zc (zp (pU (.bool false) (en (((i : Nat) : Int) < ((n : Nat) : Int)) (by omega)) ?_));refine zn (zc (zf ?_));refine cw_exit (qw_then_exit (qw_then_exit (qw_block_out (zq (zc (zp (pT (pw O1 1) ?_)))))));refine pU (.slice a n k) (xl (ld23 (Bc.c Bb))) ?_;refine pS (sc 52 #[.slice a n k] ((booked_c _ _ H hE).mono ?_));rintro e E8 ⟨Bu, rfl, Cm, Bi, hb⟩;refine mv2 hb hE Bb fun hE Bb=>?_;have Br := hb.size;have C7 := Bi.lt;refine ⟨_, rfl, pT (.func (.func 53) #[.map (some Bu)] #[]) ?_⟩;refine pS (sw 77 #[.nilFunc] ?_);intro Bt Cl Bj Ci hb hbx;have Be := bq1 hbx;refine mv3 hb hE Bb Bi fun hE Bb Bi=>?_;have D4 := hb.size;have Db := Be.lt;refine pP (zE Bt 0 (.func (.func 53) #[.map (some Bu)] #[]) (st77 Be.1 Be.2) Be ?_);intro Bv ho Be hk;replace hE := ho.ext hE (by omega);replace Bb := ho.ext Bb (T (T Bh Br) (Nat.le_of_eq Bj));replace Bi := Bi.block (ho.heap' _ (by omega));have D5 := Nat.le_of_eq ho.size.symm;clear ho hk;refine pl_nil (qw_then ?_);refine cw_seq ?_;have Bo := Ext.refl Bv;refine zp (pT (pw O1 1) ?_);refine pU (.slice a n k) (xl (ld23 (Bc.c Bb))) ?_;refine pT (.func (.func 55) #[] #[pw Bt 0]) ?_;refine pS (sc 54 #[.slice a n k, .func (.func 55) #[] #[pw Bt 0]] ((ContainsV_c _ _ H hE Bi (Ext.refl _) Be.1 (Ext.refl _) (hRl.ext hE)).mono ?_));rintro e E9 ⟨rfl, hb⟩;replace hE := hE.trans hb;have D6 := hb.size;refine ⟨_, rfl, pD (.bool (!(l.any (fun x => !Rep.soundB (Rep.bookL l) x)))) (.bool (!(l.any (fun x => !Rep.soundB (Rep.bookL l) x)))) ?_⟩;refine zn (cK [2] (fun L => ?_));refine cw_ret (qw_ret [.bool (!(l.any (fun x => !Rep.soundB (Rep.bookL l) x)))] rfl ⟨(by kernel_rfl), trivial⟩ ?_);exact ⟨rb (Rep.valid_end (by omega) (fun j hj => hpre j (by omega))).symm, hE⟩
 ·
  have Cn := Globe.inB_f.1 Bp;refine pS (sc 49 #[iv c] ((isCentre_r (r := false) c _ (Bp)).mono ?_));rintro e Ea ⟨rfl, hb⟩;replace hE := hE.trans hb;have D7 := hb.size;refine ⟨_, rfl, pD (.bool true) (.bool true) ?_⟩;refine pK ?_;refine pK ?_;refine pK ?_;refine pK ?_;refine pT (.bool true) ?_;refine zn (zt ?_);refine zc (zp (pT (.bool false) ?_));refine zn (cw_ret (qw_then_ret (qw_ret [.bool false] rfl ⟨(by kernel_rfl), trivial⟩ ?_)));exact ⟨rb (Rep.valid_hd (by omega)).symm, hE⟩
theorem Valid_r {w0 : World} {c : Int} {a : Option Addr} {n : Nat} {l : List Rec} {r : Bool} (k : Nat) (w : World) (H : RecsAt w0 a n l) (e0 : Ext w0 w) (hRl : RootAt w) (hr : Rep.validB c l = r) : Calls Tryz.prog 16 #[.agg #[.int .i64 c, .slice a n k]] w fun e w' => e = .returned (.bool r) ∧ Ext w w' := hr ▸ Valid_c k w H e0 hRl
end Go.Proofs.YtfmoabgjaclkpaaGreatDoor

namespace Go.Proofs.YtfmoabgjaclkpaaGreatDoor
open Go.RowKit
theorem ix22 {w : World} {b o n c k : Nat} (hk : k < n) : (Instr.indexAt 22 (.slice (some ⟨b, o, none⟩) n c) (.int .i64 k)).run Tryz.prog w = .ok (.pointer (some ⟨b, o + k * 4, none⟩)) w := by
 have : (0 : Int) ≤ (k : Int) := by omega
 have : (k : Int) < (n : Int) := by omega
 go_simp
theorem ix28 {w : World} {b o n c k : Nat} (hk : k < n) : (Instr.indexAt 28 (.slice (some ⟨b, o, none⟩) n c) (.int .i64 k)).run Tryz.prog w = .ok (.pointer (some ⟨b, o + k * 2, none⟩)) w := by
 have : (0 : Int) ≤ (k : Int) := by omega
 have : (k : Int) < (n : Int) := by omega
 go_simp
theorem ix28z {w : World} {b n c k : Nat} (hk : k < n) : (Instr.indexAt 28 (.slice (some ⟨b, 0, none⟩) n c) (.int .i64 k)).run Tryz.prog w = .ok (.pointer (some ⟨b, k * 2, none⟩)) w := by
 have h := ix28 (w := w) (b := b) (o := 0) (c := c) hk
 rwa [Nat.zero_add] at h
theorem ix41 {w : World} {b o n c k : Nat} (hk : k < n) : (Instr.indexAt 41 (.slice (some ⟨b, o, none⟩) n c) (.int .i64 k)).run Tryz.prog w = .ok (.pointer (some ⟨b, o + k * 2, none⟩)) w := by
 have : (0 : Int) ≤ (k : Int) := by omega
 have : (k : Int) < (n : Int) := by omega
 go_simp
theorem ix41z {w : World} {b n c k : Nat} (hk : k < n) : (Instr.indexAt 41 (.slice (some ⟨b, 0, none⟩) n c) (.int .i64 k)).run Tryz.prog w = .ok (.pointer (some ⟨b, k * 2, none⟩)) w := by
 have h := ix41 (w := w) (b := b) (o := 0) (c := c) hk
 rwa [Nat.zero_add] at h
theorem ix54 {w : World} {b o n c k : Nat} (hk : k < n) : (Instr.indexAt 54 (.slice (some ⟨b, o, none⟩) n c) (.int .i64 k)).run Tryz.prog w = .ok (.pointer (some ⟨b, o + k, none⟩)) w := by
 have : (0 : Int) ≤ (k : Int) := by omega
 have : (k : Int) < (n : Int) := by omega
 go_simp
theorem ix54z {w : World} {b n c k : Nat} (hk : k < n) : (Instr.indexAt 54 (.slice (some ⟨b, 0, none⟩) n c) (.int .i64 k)).run Tryz.prog w = .ok (.pointer (some ⟨b, k, none⟩)) w := by
 have h := ix54 (w := w) (b := b) (o := 0) (c := c) hk
 rwa [Nat.zero_add] at h
theorem ix62 {w : World} {b o n c k : Nat} (hk : k < n) : (Instr.indexAt 62 (.slice (some ⟨b, o, none⟩) n c) (.int .i64 k)).run Tryz.prog w = .ok (.pointer (some ⟨b, o + k, none⟩)) w := by
 have : (0 : Int) ≤ (k : Int) := by omega
 have : (k : Int) < (n : Int) := by omega
 go_simp
theorem ix62z {w : World} {b n c k : Nat} (hk : k < n) : (Instr.indexAt 62 (.slice (some ⟨b, 0, none⟩) n c) (.int .i64 k)).run Tryz.prog w = .ok (.pointer (some ⟨b, k, none⟩)) w := by
 have h := ix62 (w := w) (b := b) (o := 0) (c := c) hk
 rwa [Nat.zero_add] at h
theorem ld110 {w : World} {b o : Nat} {x0 : Value} (h0 : w.cell? ⟨b, o, none⟩ = some x0) : (Instr.loadAt 110 (.pointer (some ⟨b, o, none⟩))).run Tryz.prog w = .ok (x0) w := by go_simp
theorem ld25 {w : World} {b o : Nat} {x0 x1 : Value} (h0 : w.cell? ⟨b, o, none⟩ = some x0) (h1 : w.cell? ⟨b, o + 1, none⟩ = some x1) : (Instr.loadAt 25 (.pointer (some ⟨b, o, none⟩))).run Tryz.prog w = .ok (.agg #[x0, x1]) w := by go_simp
theorem ld39 {w : World} {b o : Nat} {x0 x1 : Value} (h0 : w.cell? ⟨b, o, none⟩ = some x0) (h1 : w.cell? ⟨b, o + 1, none⟩ = some x1) : (Instr.loadAt 39 (.pointer (some ⟨b, o, none⟩))).run Tryz.prog w = .ok (.agg #[x0, x1]) w := by go_simp
theorem ld63 {w : World} {b o : Nat} {x0 : Value} (h0 : w.cell? ⟨b, o, none⟩ = some x0) : (Instr.loadAt 63 (.pointer (some ⟨b, o, none⟩))).run Tryz.prog w = .ok (x0) w := by go_simp
theorem ld79 {w : World} {b o : Nat} {x0 : Value} (h0 : w.cell? ⟨b, o, none⟩ = some x0) : (Instr.loadAt 79 (.pointer (some ⟨b, o, none⟩))).run Tryz.prog w = .ok (x0) w := by go_simp
theorem st110 {w : World} {b o : Nat} {u0 : Value} {x0 : Int} (h0 : w.cell? ⟨b, o, none⟩ = some u0) (f0 : w.frozen? ⟨b, o, none⟩ = false) : (Instr.storeAt 110 (.pointer (some ⟨b, o, none⟩)) ((.int .u64 x0))).run Tryz.prog w = .ok () (w.setCell ⟨b, o, none⟩ (.int .u64 x0)) := by go_simp
theorem st23 {w : World} {b o : Nat} {u0 : Value} {a0 : Option Addr} {n0 c0 : Nat} (h0 : w.cell? ⟨b, o, none⟩ = some u0) (f0 : w.frozen? ⟨b, o, none⟩ = false) : (Instr.storeAt 23 (.pointer (some ⟨b, o, none⟩)) ((.slice a0 n0 c0))).run Tryz.prog w = .ok () (w.setCell ⟨b, o, none⟩ (.slice a0 n0 c0)) := by go_simp
theorem st25 {w : World} {b o : Nat} {u0 u1 : Value} {x0 : Int} {a1 : Option Addr} {n1 c1 : Nat} (h0 : w.cell? ⟨b, o, none⟩ = some u0) (f0 : w.frozen? ⟨b, o, none⟩ = false) (h1 : w.cell? ⟨b, o + 1, none⟩ = some u1) (f1 : w.frozen? ⟨b, o + 1, none⟩ = false) : (Instr.storeAt 25 (.pointer (some ⟨b, o, none⟩)) (.agg #[(.int .i64 x0), (.slice a1 n1 c1)])).run Tryz.prog w = .ok () ((w.setCell ⟨b, o, none⟩ (.int .i64 x0)).setCell ⟨b, o + 1, none⟩ (.slice a1 n1 c1)) := by go_simp
theorem st3 {w : World} {b o : Nat} {u0 : Value} {x0 : Int} (h0 : w.cell? ⟨b, o, none⟩ = some u0) (f0 : w.frozen? ⟨b, o, none⟩ = false) : (Instr.storeAt 3 (.pointer (some ⟨b, o, none⟩)) ((.int .i64 x0))).run Tryz.prog w = .ok () (w.setCell ⟨b, o, none⟩ (.int .i64 x0)) := by go_simp
theorem st39 {w : World} {b o : Nat} {u0 u1 : Value} {x0 : Int} {x1 : Int} (h0 : w.cell? ⟨b, o, none⟩ = some u0) (f0 : w.frozen? ⟨b, o, none⟩ = false) (h1 : w.cell? ⟨b, o + 1, none⟩ = some u1) (f1 : w.frozen? ⟨b, o + 1, none⟩ = false) : (Instr.storeAt 39 (.pointer (some ⟨b, o, none⟩)) (.agg #[(.int .i64 x0), (.int .i64 x1)])).run Tryz.prog w = .ok () ((w.setCell ⟨b, o, none⟩ (.int .i64 x0)).setCell ⟨b, o + 1, none⟩ (.int .i64 x1)) := by go_simp
theorem st63 {w : World} {b o : Nat} {u0 : Value} {a0 : Option Addr} {n0 c0 : Nat} (h0 : w.cell? ⟨b, o, none⟩ = some u0) (f0 : w.frozen? ⟨b, o, none⟩ = false) : (Instr.storeAt 63 (.pointer (some ⟨b, o, none⟩)) ((.slice a0 n0 c0))).run Tryz.prog w = .ok () (w.setCell ⟨b, o, none⟩ (.slice a0 n0 c0)) := by go_simp
theorem st79 {w : World} {b o : Nat} {u0 : Value} {x0 : Option Nat} (h0 : w.cell? ⟨b, o, none⟩ = some u0) (f0 : w.frozen? ⟨b, o, none⟩ = false) : (Instr.storeAt 79 (.pointer (some ⟨b, o, none⟩)) ((.map x0))).run Tryz.prog w = .ok () (w.setCell ⟨b, o, none⟩ (.map x0)) := by go_simp
theorem st9 {w : World} {b o : Nat} {u0 : Value} {x0 : ByteArray} (h0 : w.cell? ⟨b, o, none⟩ = some u0) (f0 : w.frozen? ⟨b, o, none⟩ = false) : (Instr.storeAt 9 (.pointer (some ⟨b, o, none⟩)) ((.string x0))).run Tryz.prog w = .ok () (w.setCell ⟨b, o, none⟩ (.string x0)) := by go_simp
end Go.Proofs.YtfmoabgjaclkpaaGreatDoor

namespace Go.Proofs.YtfmoabgjaclkpaaGreatDoor
set_option maxRecDepth 1000000
set_option maxHeartbeats 4000000
set_option synthInstance.maxHeartbeats 0
set_option synthInstance.maxSize 9999
open Go.RowKit
def Tz32_0 : List Row := [(some 33, [2], []), (some 34, [33], [0]), (some 35, [2], []), (some 36, [35], [2]), (some 37, [3], []), (some 38, [37], [4]), (some 39, [36, 38], [3, 5]), (some 40, [34, 39], [1, 6]), (some 41, [40], [7, 6]), (some 42, [41], [8]), (some 43, [41], [8]), (none, [4, 42], [9, 8, 0, 1, 2, 3, 4, 5, 6, 7, 8, 9, 10]), (some 5, [43], [10, 11, 0, 1, 2, 3, 4, 5, 6, 7, 8, 9, 10, 11])]
namespace Rep
def cntC (c : Int) (l : List Rec) : Nat := (l.filter fun r => decide (r.c = c)).length
theorem cnt_take {c : Int} {l : List Rec} {i : Nat} (h : i < l.length) : cntC c (l.take (i + 1)) = cntC c (l.take i) + if (recN l i).c = c then 1 else 0 := by
 unfold cntC
 rw [recN_take h, List.filter_append, List.length_append]
 by_cases e : (recN l i).c = c <;> simp [e]
theorem cnt_le (c : Int) (l : List Rec) : cntC c l ≤ l.length := List.length_filter_le _ _
def own (c : Int) (l : List Rec) (x : Rec) : Rec := ⟨c, ((1 + cntC c l : Nat) : Int), x.t, x.o, x.w, x.k, x.x⟩
theorem valid_len {c : Int} {l : List Rec} (h : validB c l = true) : l.length ≤ 80 := by
 unfold validB at h
 rw [Bool.and_eq_true, Bool.and_eq_true] at h
 exact (of_decide_eq_true h.1.1).2
end Rep
def PutP (c : Int) (l : List Rec) (x : Rec) (n : Nat) (l' : List Rec) : Prop := Rep.validB c l = true ∧ Rep.Mrg l [Rep.own c l x] (n + 1) l'
def ChkR (c : Int) (l : List Rec) (a : Option Addr) (n k : Nat) (c' : Int) (a' : Option Addr) (n' k' : Nat) (er : Int) : Prop :=
 (Rep.validB c l = true ∧ c' = c ∧ a' = a ∧ n' = n ∧ k' = k ∧ er = 0) ∨ (Rep.validB c l = false ∧ c' = 0 ∧ a' = none ∧ n' = 0 ∧ k' = 0 ∧ er = 350)
def ResR (lo : Nat) (w' : World) (c : Int) (P : List Rec → Prop) (bad : Prop) (c' : Int) (a' : Option Addr) (n' k' : Nat) (er : Int) : Prop :=
 (er = 0 ∧ c' = c ∧ ∃ l, P l ∧ Rep.validB c l = true ∧ RecsAt w' a' n' l ∧ n' ≤ k' ∧ ∀ ad, a' = some ad → lo ≤ ad.block) ∨ (er = 350 ∧ c' = 0 ∧ a' = none ∧ n' = 0 ∧ k' = 0 ∧ (bad ∨ ∃ l, P l ∧ Rep.validB c l = false))
theorem ResR.of {lo : Nat} {w' : World} {c : Int} {P : List Rec → Prop} {bad : Prop} {l : List Rec} {a : Option Addr} {n k : Nat} {c' : Int} {a' : Option Addr} {n' k' : Nat} {er : Int} (h : ChkR c l a n k c' a' n' k' er) (hP : P l) (hl : RecsAt w' a n l) (hk : n ≤ k) (hn : ∀ ad, a = some ad → lo ≤ ad.block) : ResR lo w' c P bad c' a' n' k' er := by
 rcases h with ⟨h1, rfl, rfl, rfl, rfl, rfl⟩ | ⟨h1, rfl, rfl, rfl, rfl, rfl⟩
 · exact .inl ⟨rfl, rfl, l, hP, h1, hl, hk, hn⟩
 · exact .inr ⟨rfl, rfl, rfl, rfl, rfl, .inr ⟨l, hP, h1⟩⟩
theorem ResR.bad {lo : Nat} {w' : World} {c : Int} {P : List Rec → Prop} {bad : Prop} (h : bad) : ResR lo w' c P bad 0 none 0 0 350 := .inr ⟨rfl, rfl, rfl, rfl, rfl, .inl h⟩
theorem RecsAt.turn {O : Nat} {w w' : World} {a : Option Addr} {n : Nat} {l : List Rec} (h : RecsAt w a n l) (t : Turns O w w') (hO : ∀ ad, a = some ad → ad.block ≠ O) : RecsAt w' a n l :=
 ⟨h.len, h.max, h.pl, h.at_.imp id fun ⟨b, o, ha, hx⟩ => ⟨b, o, ha, ⟨fun i x hi => by
  obtain ⟨h0, h1, h2, h3, h4, h5, h6⟩ := hx.at_ i x hi
  have hb : O ≠ b := fun e => hO _ ha e.symm
  exact ⟨t.cell hb h0, t.cell hb h1, t.cell hb h2, t.cell hb h3, t.cell hb h4, t.cell hb h5, t.cell hb h6⟩⟩⟩⟩
theorem RecsAt.one {w : World} {O : Nat} {y : Rec} (h0 : w.cell? ⟨O, 0, none⟩ = some (.int .i64 y.c)) (h1 : w.cell? ⟨O, 1, none⟩ = some (.int .i64 y.n)) (h2 : w.cell? ⟨O, 2, none⟩ = some (.int .i64 y.t)) (h3 : w.cell? ⟨O, 3, none⟩ = some (.int .i64 y.o)) (h4 : w.cell? ⟨O, 4, none⟩ = some (.int .i64 y.w)) (h5 : w.cell? ⟨O, 5, none⟩ = some (.int .i64 y.k)) (h6 : w.cell? ⟨O, 6, none⟩ = some (.string y.x)) : RecsAt w (some ⟨O, 0, none⟩) 1 [y] :=
 ⟨rfl, by omega, .inr ⟨_, _, rfl⟩, .inr ⟨O, 0, rfl, ⟨fun i x hx => by
  match i, hx with
  | 0, hx => simp at hx; subst hx; exact ⟨h0, h1, h2, h3, h4, h5, h6⟩
  | _ + 1, hx => simp at hx⟩⟩⟩
theorem ResR.ext {lo : Nat} {w w' : World} {c : Int} {P : List Rec → Prop} {bad : Prop} {c' : Int} {a' : Option Addr} {n' k' : Nat} {er : Int} (h : ResR lo w c P bad c' a' n' k' er) (e : Ext w w') : ResR lo w' c P bad c' a' n' k' er :=
 h.imp (fun ⟨h1, h2, l, h3, h4, h5, h6⟩ => ⟨h1, h2, l, h3, h4, h5.ext e, h6⟩) id
theorem ResR.turn {lo O : Nat} {w w' : World} {c : Int} {P : List Rec → Prop} {bad : Prop} {c' : Int} {a' : Option Addr} {n' k' : Nat} {er : Int} (h : ResR lo w c P bad c' a' n' k' er) (t : Turns O w w') (hO : O < lo) : ResR lo w' c P bad c' a' n' k' er :=
 h.imp (fun ⟨h1, h2, l, h3, h4, h5, h6, h7⟩ => ⟨h1, h2, l, h3, h4, h5.turn t (fun ad e => Nat.ne_of_gt (Nat.lt_of_lt_of_le hO (h7 ad e))), h6, h7⟩) id
theorem ResR.mono {lo lo' : Nat} {w : World} {c : Int} {P : List Rec → Prop} {bad bad' : Prop} {c' : Int} {a' : Option Addr} {n' k' : Nat} {er : Int} (h : ResR lo w c P bad c' a' n' k' er) (hlo : lo' ≤ lo) (f : bad → bad') : ResR lo' w c P bad' c' a' n' k' er :=
 h.imp (fun ⟨h1, h2, l, h3, h4, h5, h6, h7⟩ => ⟨h1, h2, l, h3, h4, h5, h6, fun ad e => T hlo (h7 ad e)⟩) fun ⟨h1, h2, h3, h4, h5, h6⟩ => ⟨h1, h2, h3, h4, h5, h6.imp f id⟩
theorem checked_c {w0 : World} {c : Int} {a : Option Addr} {n : Nat} {l : List Rec} (k : Nat) (w : World) (H : RecsAt w0 a n l) (e0 : Ext w0 w) (hRl : RootAt w) : Calls Tryz.prog 62 #[.agg #[iv c, .slice a n k]] w fun e w' => ∃ c' a' n' k' er, e = .returned (.tuple #[.agg #[iv c', .slice a' n' k'], iv er]) ∧ ChkR c l a n k c' a' n' k' er ∧ Ext w w' := by
 replace H := H.ext e0;clear e0;refine calls_cw 9 [(0, .agg #[iv c, .slice a n k])] Tryz.func62 rfl Tryz.ntmps62 (by kernel_rfl) (by kernel_rfl) (fun L => ?_);have hE := Ext.refl w;refine zc (zp (pS (sw 25 #[iv c, .slice a n k] ?_)));intro O1 X2 Bx Bv hb hbx;have ⟨B7, B8⟩ := bq2 hbx;replace hE := hE.trans hb;have Bn := hb.size;have Bo := B7.lt;refine pS (sw 25 #[iv 0, .slice none 0 0] ?_);intro O5 X6 Bh Bw hb hbx;have ⟨Bg, Bi⟩ := bq2 hbx;refine mv3 hb hE B7 B8 fun hE B7 B8=>?_;have C0 := hb.size;have C1 := Bg.lt;refine pT (iv 0) ?_;refine zn (zc (cw_seq ?_));obtain ⟨q9, hv⟩ : ∃ q, Rep.validB c l = q := ⟨_, rfl⟩
 cases q9
 ·
  have Bj := Ext.refl X6;refine zp (pU (.agg #[iv c, .slice a n k]) (xl (ld25 (B7.1) (B8.1))) ?_);refine pS (sc 16 #[.agg #[iv c, .slice a n k]] ((Valid_r (r := false) _ _ H hE (hRl.ext hE) hv).mono ?_));rintro e By ⟨rfl, hb⟩;refine mv2 hb hE Bj fun hE Bj=>?_;have Br := hb.size;refine ⟨_, rfl, pT (.bool true) ?_⟩;refine zn (zt ?_);refine zc (zp (pT (.agg #[iv 0, .slice none 0 0]) ?_));have Bb := (B7.x Bj);have Bc := (B8.x Bj);have B0 := (Bg.x Bj);have B2 := (Bi.x Bj);refine pP (sn_set2 (O := O5) (j := 0) (v := iv 0) (v' := .slice none 0 0) (xt (pw O5 0) (.agg #[iv 0, .slice none 0 0]) (st25 B0.1 B0.2 B2.1 B2.2)) B0 B2 ?_);intro Bp ho B0 B2 hk;replace hE := ho.ext hE (T Bn (Nat.le_of_eq Bh));have q9 := ho.bx O1 (by omega);clear q9;have Bs := Nat.le_of_eq ho.size.symm;clear ho hk;refine pT (iv 350) ?_;refine zn (cw_ret (qw_then_ret (qw_ret [.agg #[iv 0, .slice none 0 0], iv 350] rfl ⟨⟨_, by kernel_rfl, res_ld (ld25 (B0.1) (B2.1))⟩, (by kernel_rfl), trivial⟩ ?_)));exact ⟨_, _, _, _, _, rfl, .inr ⟨hv, rfl, rfl, rfl, rfl, rfl⟩, hE⟩
 ·
  have Ba := Ext.refl X6;refine zp (pU (.agg #[iv c, .slice a n k]) (xl (ld25 (B7.1) (B8.1))) ?_);refine pS (sc 16 #[.agg #[iv c, .slice a n k]] ((Valid_r (r := true) _ _ H hE (hRl.ext hE) hv).mono ?_));rintro e Bz ⟨rfl, hb⟩;refine mv2 hb hE Ba fun hE Ba=>?_;have Bt := hb.size;refine ⟨_, rfl, pT (.bool false) ?_⟩;refine zn (zf ?_);refine cw_skip (zq (zc (zp (pU (.agg #[iv c, .slice a n k]) (xl (ld25 (B7.c Ba) (B8.c Ba))) ?_))));have Be := (B7.x Ba);have Bf := (B8.x Ba);have B3 := (Bg.x Ba);have B4 := (Bi.x Ba);refine pP (sn_set2 (O := O5) (j := 0) (v := iv c) (v' := .slice a n k) (xt (pw O5 0) (.agg #[iv c, .slice a n k]) (st25 B3.1 B3.2 B4.1 B4.2)) B3 B4 ?_);intro Bq ho B3 B4 hk;replace hE := ho.ext hE (T Bn (Nat.le_of_eq Bh));have q9 := ho.bx O1 (by omega);clear q9;have Bu := Nat.le_of_eq ho.size.symm;clear ho hk;refine pT (iv 0) ?_;refine zn (cw_ret (qw_ret [.agg #[iv c, .slice a n k], iv 0] rfl ⟨⟨_, by kernel_rfl, res_ld (ld25 (B3.1) (B4.1))⟩, (by kernel_rfl), trivial⟩ ?_));exact ⟨_, _, _, _, _, rfl, .inl ⟨hv, rfl, rfl, rfl, rfl, rfl⟩, hE⟩
theorem New_c (c : Int) (w : World) (hRl : RootAt w) : Calls Tryz.prog 33 #[iv c] w fun e w' => ∃ c' a' n' k' er, e = .returned (.tuple #[.agg #[iv c', .slice a' n' k'], iv er]) ∧ ChkR c [] none 0 0 c' a' n' k' er ∧ Ext w w' := by
 refine calls_cw 9 [(0, iv c)] Tryz.func33 rfl Tryz.ntmps33 (by kernel_rfl) (by kernel_rfl) (fun L => ?_);have hE := Ext.refl w;refine zc (zp (pS (sw 25 #[iv 0, .slice none 0 0] ?_)));intro O1 X2 hzO1 hyO1 hb hbx;have ⟨bO1_0, bO1_1⟩ := bq2 hbx;replace hE := hE.trans hb;have hs3 := hb.size;have lt4 := bO1_0.lt;refine pT (iv 0) ?_;refine zn (zc (zp (pD (iv c) (.agg #[iv c, .slice none 0 0]) ?_)));refine pS (sc 62 #[.agg #[iv c, .slice none 0 0]] ((checked_c (l := []) 0 _ (RecsAt.nil _) (Ext.refl _) (hRl.ext hE)).mono ?_));rintro e w5 ⟨c9, a9, n9, k9, er9, rfl, hck, hb⟩;refine mv3 hb hE bO1_0 bO1_1 fun hE bO1_0 bO1_1=>?_;have hs6 := hb.size;refine ⟨_, rfl, pD (.agg #[iv c9, .slice a9 n9 k9]) (iv er9) ?_⟩;refine pP (sn_set2 (O := O1) (j := 0) (v := iv c9) (v' := .slice a9 n9 k9) (xt (pw O1 0) (.agg #[iv c9, .slice a9 n9 k9]) (st25 bO1_0.1 bO1_0.2 bO1_1.1 bO1_1.2)) bO1_0 bO1_1 ?_);intro X7 ho bO1_0 bO1_1 hk;replace hE := ho.ext hE (Nat.le_of_eq hzO1);have hs8 := Nat.le_of_eq ho.size.symm;clear ho hk;refine pT (iv er9) ?_;refine zn (cw_ret (qw_ret [.agg #[iv c9, .slice a9 n9 k9], iv er9] rfl ⟨⟨_, by kernel_rfl, res_ld (ld25 (bO1_0.1) (bO1_1.1))⟩, (by kernel_rfl), trivial⟩ ?_));exact ⟨_, _, _, _, _, rfl, hck, hE⟩
theorem put_c {w0 : World} {c : Int} {a : Option Addr} {n : Nat} {l : List Rec} (k : Nat) (x : Rec) (w : World) (H : RecsAt w0 a n l) (e0 : Ext w0 w) (hRl : RootAt w) : Calls Tryz.prog 57 #[.agg #[iv c, .slice a n k], rvv x] w fun e w' => ∃ c' a' n' k' er, e = .returned (.tuple #[.agg #[iv c', .slice a' n' k'], iv er]) ∧ ResR w.heap.size w' c (PutP c l x n) (Rep.validB c l = false) c' a' n' k' er ∧ Ext w w' := by
 replace H := H.ext e0;clear e0;obtain ⟨b, o, ha, hbr, hx⟩ := H.parts;have hln := H.len;have hmx := H.max;refine calls_cw 44 [(1, rvv x), (0, .agg #[iv c, .slice a n k])] Tryz.func57 rfl Tryz.ntmps57 (by kernel_rfl) (by kernel_rfl) (fun L => ?_);have hE := Ext.refl w;refine zc (zp (pS (sw 25 #[iv c, .slice a n k] ?_)));intro O1 X2 Dp Dm hb hbx;have ⟨B0, B2⟩ := bq2 hbx;replace hE := hE.trans hb;have Ca := hb.size;have Ce := B0.lt;refine pS (sw 49 #[iv x.c, iv x.n, iv x.t, iv x.o, iv x.w, iv x.k, .string x.x] ?_);intro O5 X6 C4 Dn hb hbx;have ⟨B3, Bf, B4, B7, B8, Ba, Bb⟩ := bq7 hbx;refine mv3 hb hE B0 B2 fun hE B0 B2=>?_;have Cc := hb.size;have C3 := B3.lt;refine pS (sw 25 #[iv 0, .slice none 0 0] ?_);intro O9 Dw Bv Do hb hbx;have ⟨Bc, Be⟩ := bq2 hbx;refine mv9 hb hE B0 B2 B3 Bf B4 B7 B8 Ba fun hE B0 B2 B3 Bf B4 B7 B8 Ba=>?_;replace Bb := Bb.x hb;have C2 := hb.size;have Cd := Bc.lt;refine pT (iv 0) ?_;refine zn (zc (cw_seq ?_));obtain ⟨q9, hv⟩ : ∃ q, Rep.validB c l = q := ⟨_, rfl⟩
 cases q9
 ·
  refine zp (pU (.agg #[iv c, .slice a n k]) (xl (ld25 (B0.1) (B2.1))) ?_);refine pS (sc 16 #[.agg #[iv c, .slice a n k]] ((Valid_r (r := false) _ _ H hE (hRl.ext hE) hv).mono ?_));rintro e Dt ⟨rfl, hb⟩;refine mv12 hb hE B0 B2 B3 Bf B4 B7 B8 Ba Bb Bc Be fun hE B0 B2 B3 Bf B4 B7 B8 Ba Bb Bc Be=>?_;have Dh := hb.size;refine ⟨_, rfl, pT (.bool true) ?_⟩;refine zn (zt ?_);refine zc (zp (pT (.agg #[iv 0, .slice none 0 0]) ?_));refine pP (sn_set2 (O := O9) (j := 0) (v := iv 0) (v' := .slice none 0 0) (xt (pw O9 0) (.agg #[iv 0, .slice none 0 0]) (st25 Bc.1 Bc.2 Be.1 Be.2)) Bc Be ?_);intro D9 ho Bc Be hk;replace hE := ho.ext hE (T (T Ca Cc) (Nat.le_of_eq Bv));have q9 := ho.bx O1 (by omega);replace B0 := q9 B0;replace B2 := q9 B2;clear q9;have q9 := ho.bx O5 (by omega);replace B3 := q9 B3;replace Bf := q9 Bf;replace B4 := q9 B4;replace B7 := q9 B7;replace B8 := q9 B8;replace Ba := q9 Ba;replace Bb := q9 Bb;clear q9;have Di := Nat.le_of_eq ho.size.symm;clear ho hk;refine pT (iv 350) ?_;refine zn (cw_ret (qw_then_ret (qw_ret [.agg #[iv 0, .slice none 0 0], iv 350] rfl ⟨⟨_, by kernel_rfl, res_ld (ld25 (Bc.1) (Be.1))⟩, (by kernel_rfl), trivial⟩ ?_)));exact ⟨_, _, _, _, _, rfl, ResR.bad hv, hE⟩
 ·
  refine zp (pU (.agg #[iv c, .slice a n k]) (xl (ld25 (B0.1) (B2.1))) ?_);refine pS (sc 16 #[.agg #[iv c, .slice a n k]] ((Valid_r (r := true) _ _ H hE (hRl.ext hE) hv).mono ?_));rintro e Du ⟨rfl, hb⟩;refine mv12 hb hE B0 B2 B3 Bf B4 B7 B8 Ba Bb Bc Be fun hE B0 B2 B3 Bf B4 B7 B8 Ba Bb Bc Be=>?_;have By := hb.size;refine ⟨_, rfl, pT (.bool false) ?_⟩;refine zn (zf ?_);refine cw_skip (zq (zc (zp (pT (pw O1 0) ?_))));refine pU (iv c) (xl (ld3 (B0.1))) ?_;refine pT (pw O5 0) ?_;refine pP (zE O5 0 (iv c) (st3 B3.1 B3.2) B3 ?_);intro Cu ho B3 hk;replace hE := ho.ext hE (T Ca (Nat.le_of_eq C4));have q9 := ho.bx O1 (by omega);replace B0 := q9 B0;replace B2 := q9 B2;clear q9;replace Bf := hk 1 _ (by omega) Bf;replace B4 := hk 2 _ (by omega) B4;replace B7 := hk 3 _ (by omega) B7;replace B8 := hk 4 _ (by omega) B8;replace Ba := hk 5 _ (by omega) Ba;replace Bb := hk 6 _ (by omega) Bb;have q9 := ho.bx O9 (by omega);replace Bc := q9 Bc;replace Be := q9 Be;clear q9;have Bz := Nat.le_of_eq ho.size.symm;clear ho hk;refine pT (pw O5 1) ?_;refine pP (zE O5 1 (iv 1) (st3 Bf.1 Bf.2) Bf ?_);intro Cv ho Bf hk;replace hE := ho.ext hE (T Ca (Nat.le_of_eq C4));have q9 := ho.bx O1 (by omega);replace B0 := q9 B0;replace B2 := q9 B2;clear q9;replace B4 := hk 2 _ (by omega) B4;replace B7 := hk 3 _ (by omega) B7;replace B8 := hk 4 _ (by omega) B8;replace Ba := hk 5 _ (by omega) Ba;replace Bb := hk 6 _ (by omega) Bb;have q9 := ho.bx O9 (by omega);replace Bc := q9 Bc;replace Be := q9 Be;clear q9;replace B3 := hk 0 _ (by omega) B3;have C0 := Nat.le_of_eq ho.size.symm;clear ho hk;refine zn (zc (zc (zp (pT (pw O1 1) ?_))));refine pU (.slice a n k) (xl (ld23 (B2.1))) ?_;refine pD (iv n) (iv 0) ?_;refine zn (cK [2,3,4,17,18,19] (fun L => ?_));refine cw_block ?_;have Dg := Rep.valid_len hv;refine cw_loop [2, 3, 4, 17, 18, 19] (fun ws' wr m => ∃ i : Nat, ws' = [(2, pw O1 0), (3, pw O5 0), (4, pw O9 0), (17, .slice a n k), (18, iv n), (19, iv i)] ∧ m = n - i ∧ Cv.heap.size ≤ wr.heap.size ∧ Ext w wr ∧ BoxAt wr O1 0 (iv c) ∧ BoxAt wr O1 1 (.slice a n k) ∧ BoxAt wr O5 2 (iv x.t) ∧ BoxAt wr O5 3 (iv x.o) ∧ BoxAt wr O5 4 (iv x.w) ∧ BoxAt wr O5 5 (iv x.k) ∧ BoxAt wr O5 6 (.string x.x) ∧ BoxAt wr O9 0 (iv 0) ∧ BoxAt wr O9 1 (.slice none 0 0) ∧ BoxAt wr O5 0 (iv c) ∧ BoxAt wr O5 1 (iv (((1 + Rep.cntC c (l.take i) : Nat) : Int) : Int)) ∧ i ≤ n) (ws0 := [(2, pw O1 0), (3, pw O5 0), (4, pw O9 0), (17, .slice a n k), (18, iv n), (19, iv 0)]) (by kernel_rfl) _ ⟨0, rfl, rfl, Nat.le_refl _, hE, B0, B2, B4, B7, B8, Ba, Bb, Bc, Be, B3, Bf, Nat.zero_le _⟩ ?_;clear B0 B2 B4 B7 B8 Ba Bb Bc Be B3 Bf hE;rintro Dz L ws E0 ⟨i, rfl, rfl, Bw, hE, B0, B2, B4, B7, B8, Ba, Bb, Bc, Be, B3, hbn, hi⟩
  by_cases hlt : i < n
  ·
   obtain rfl := ha (by omega);have hbl := hbr (by omega);refine zc (zp (pU (.bool true) (ed (((i : Nat) : Int) < ((n : Nat) : Int)) (by omega)) ?_));refine zn (zc (zt ?_));refine cw_skip (zq (zc (cw_block ?_)));refine zc (zp (pU (pw b (o + i * 7)) (xi (sv b o n k) (iv i) (ix23 (k := i) (by omega))) ?_));refine pU (rvv (recN l i)) (xl (rl ((hx.ext hE).r (i := i) (by omega)))) ?_;refine pS (sw 49 #[iv 0, iv 0, iv 0, iv 0, iv 0, iv 0, .string (⟨#[]⟩)] ?_);intro Cf Da Bx D4 hb hbx;have ⟨Bg, Bi, Bj, Bk, Bm, Bn, Bo⟩ := bq7 hbx;refine mv12 hb hE B0 B2 B4 B7 B8 Ba Bb Bc Be B3 hbn fun hE B0 B2 B4 B7 B8 Ba Bb Bc Be B3 hbn=>?_;have Cj := hb.size;have Dq := Bg.lt;refine pP (sn_setK7 (O := Cf) (j := 0) (v0 := iv ((recN l i).c : Int)) (v1 := iv ((recN l i).n : Int)) (v2 := iv ((recN l i).t : Int)) (v3 := iv ((recN l i).o : Int)) (v4 := iv ((recN l i).w : Int)) (v5 := iv ((recN l i).k : Int)) (v6 := .string ((recN l i).x)) (xt (pw Cf 0) (rvv (recN l i)) (st49 Bg.1 Bg.2 Bi.1 Bi.2 Bj.1 Bj.2 Bk.1 Bk.2 Bm.1 Bm.2 Bn.1 Bn.2 Bo.1 Bo.2)) Bg Bi Bj Bk Bm Bn Bo ?_);intro Cw ho Bg Bi Bj Bk Bm Bn Bo hk;replace hE := ho.ext hE (by omega);have q9 := ho.bx O1 (by omega);replace B0 := q9 B0;replace B2 := q9 B2;clear q9;have q9 := ho.bx O5 (by omega);replace B4 := q9 B4;replace B7 := q9 B7;replace B8 := q9 B8;replace Ba := q9 Ba;replace Bb := q9 Bb;clear q9;have q9 := ho.bx O9 (by omega);replace Bc := q9 Bc;replace Be := q9 Be;clear q9;replace B3 := ho.box (by omega) B3;replace hbn := ho.box (by omega) hbn;have Ck := Nat.le_of_eq ho.size.symm;clear ho hk;refine zn (cw_seq ?_);have De := Rep.cnt_le c (l.take i);have Df : (l.take i).length ≤ 80 := by rw [List.length_take];omega
   by_cases hq : (recN l i).c = c
   ·
    refine zp (pT (pw Cf 0) ?_);refine pU (iv ((recN l i).c : Int)) (xl (ld3 (Bg.1))) ?_;refine pT (pw O1 0) ?_;refine pU (iv c) (xl (ld3 (B0.1))) ?_;refine pU (.bool true) (eE ((recN l i).c : Int) (c : Int) (hq)) ?_;refine zn (cK [2,3,4,17,18,19,27] (fun L => ?_));refine zt ?_;refine zp (pT (pw O5 1) ?_);refine pU (iv (((1 + Rep.cntC c (l.take i) : Nat) : Int) : Int)) (xl (ld3 (hbn.1))) ?_;refine pU (iv ((((1 + Rep.cntC c (l.take i)) + 1 : Nat) : Int) : Int)) (ew (by omega) (by omega)) ?_;refine pT (pw O5 1) ?_;refine pP (zE O5 1 (iv ((((1 + Rep.cntC c (l.take i)) + 1 : Nat) : Int) : Int)) (st3 hbn.1 hbn.2) hbn ?_);intro Db ho hbn hk;replace hE := ho.ext hE (T Ca (Nat.le_of_eq C4));have q9 := ho.bx O1 (by omega);replace B0 := q9 B0;replace B2 := q9 B2;clear q9;replace B4 := hk 2 _ (by omega) B4;replace B7 := hk 3 _ (by omega) B7;replace B8 := hk 4 _ (by omega) B8;replace Ba := hk 5 _ (by omega) Ba;replace Bb := hk 6 _ (by omega) Bb;have q9 := ho.bx O9 (by omega);replace Bc := q9 Bc;replace Be := q9 Be;clear q9;replace B3 := hk 0 _ (by omega) B3;have q9 := ho.bx Cf (by omega);replace Bg := q9 Bg;clear q9;have Ct := Nat.le_of_eq ho.size.symm;clear ho hk;refine pl_nil (qw_block (zq (zp (pU (iv ((i + 1 : Nat) : Int)) (ew (by omega) (by omega)) ?_))));refine pT (iv ((i + 1 : Nat) : Int)) ?_;refine pl_nil (qw_round [2, 3, 4, 17, 18, 19] (ws' := [(2, pw O1 0), (3, pw O5 0), (4, pw O9 0), (17, sv b o n k), (18, iv n), (19, iv ((i + 1 : Nat) : Int))]) (by kernel_rfl) _ ?_ ⟨(i + 1), rfl, rfl, (T Bw (T Cj (T Ck Ct))), hE, B0, B2, B4, B7, B8, Ba, Bb, Bc, Be, B3, (by rw [Rep.cnt_take (by omega), if_pos hq]; exact hbn), by omega⟩);omega
   ·
    refine zp (pT (pw Cf 0) ?_);refine pU (iv ((recN l i).c : Int)) (xl (ld3 (Bg.1))) ?_;refine pT (pw O1 0) ?_;refine pU (iv c) (xl (ld3 (B0.1))) ?_;refine pU (.bool false) (eN ((recN l i).c : Int) (c : Int) (hq)) ?_;refine zn (cK [2,3,4,17,18,19,27] (fun L => ?_));refine zf ?_;refine cw_skip (qw_block (zq (zp (pU (iv ((i + 1 : Nat) : Int)) (ew (by omega) (by omega)) ?_))));refine pT (iv ((i + 1 : Nat) : Int)) ?_;refine pl_nil (qw_round [2, 3, 4, 17, 18, 19] (ws' := [(2, pw O1 0), (3, pw O5 0), (4, pw O9 0), (17, sv b o n k), (18, iv n), (19, iv ((i + 1 : Nat) : Int))]) (by kernel_rfl) _ ?_ ⟨(i + 1), rfl, rfl, (T Bw (T Cj Ck)), hE, B0, B2, B4, B7, B8, Ba, Bb, Bc, Be, B3, (by rw [Rep.cnt_take (by omega), if_neg hq]; exact hbn), by omega⟩);omega
  ·
   have hin : i = n := by omega
   rw [hin, ← hln, List.take_length] at hbn;refine zc (zp (pU (.bool false) (en (((i : Nat) : Int) < ((n : Nat) : Int)) (by omega)) ?_));refine zn (zc (zf ?_));refine cw_exit (qw_then_exit (qw_then_exit (qw_block_out (zq (zc (dE Tz32_0 (fun w' => w'.cell? ⟨O1, 0, none⟩ = some (iv c) ∧ w'.cell? ⟨O1, 1, none⟩ = some (.slice a n k) ∧ w'.cell? ⟨O5, 0, none⟩ = some (iv c) ∧ w'.cell? ⟨O5, 1, none⟩ = some (iv ((1 + Rep.cntC c l : Nat) : Int)) ∧ w'.cell? ⟨O5, 2, none⟩ = some (iv x.t) ∧ w'.cell? ⟨O5, 3, none⟩ = some (iv x.o) ∧ w'.cell? ⟨O5, 4, none⟩ = some (iv x.w) ∧ w'.cell? ⟨O5, 5, none⟩ = some (iv x.k) ∧ w'.cell? ⟨O5, 6, none⟩ = some (.string x.x)) (⟨B0.1, B2.1, B3.1, hbn.1, B4.1, B7.1, B8.1, Ba.1, Bb.1⟩) (fun ops Q Dx hb hL hR hK => ?_)))))));refine mv12 hb hE B0 B2 B4 B7 B8 Ba Bb Bc Be B3 hbn fun hE B0 B2 B4 B7 B8 Ba Bb Bc Be B3 hbn=>?_;have Cb := hb.size;have hS := A9 B0.1 B2.1 B3.1 hbn.1 B4.1 B7.1 B8.1 Ba.1 Bb.1;refine wV 0 (pw O1 0) hR hS ?_;refine wM 1 (iv c) hR (fun w hS => ld3 (hS.1)) hS ?_;refine wV 2 (pw O1 1) hR hS ?_;refine wM 3 (.slice a n k) hR (fun w hS => ld23 (hS.2.1)) hS ?_;refine wM 4 (.agg #[iv c, iv ((1 + Rep.cntC c l : Nat) : Int), iv x.t, iv x.o, iv x.w, iv x.k, .string x.x]) hR (fun w hS => ld49 (hS.2.2.1) (hS.2.2.2.1) (hS.2.2.2.2.1) (hS.2.2.2.2.2.1) (hS.2.2.2.2.2.2.1) (hS.2.2.2.2.2.2.2.1) (hS.2.2.2.2.2.2.2.2)) hS ?_;refine wS 5 hR (sn_newS (us := #[iv c, iv ((1 + Rep.cntC c l : Nat) : Int), iv x.t, iv x.o, iv x.w, iv x.k, .string x.x]) (t := 49) (k := 1) (c := 1) (by kernel_rfl) ?_);intro Cr Dc Cm D5 hb hbx;have ⟨Bh, Bp, Bq, Br, Bs, Bt, Bu⟩ := bq7 hbx;refine mv12 hb hE B0 B2 B4 B7 B8 Ba Bb Bc Be B3 hbn fun hE B0 B2 B4 B7 B8 Ba Bb Bc Be B3 hbn=>?_;have Cl := hb.size;have Dr := Bh.lt;refine ⟨⟨B0.1, B2.1, B3.1, hbn.1, B4.1, B7.1, B8.1, Ba.1, Bb.1⟩, ?_⟩;have D8 : RecsAt Dc (some ⟨Cr, 0, none⟩) 1 [Rep.own c l x] := RecsAt.one (Bh.1) (Bp.1) (Bq.1) (Br.1) (Bs.1) (Bt.1) (Bu.1);refine wC 6 63 #[.slice a n k, sv Cr 0 1 1, .func (.func 51) #[] #[]] hR ((merged_c _ H D8 hE (Ext.refl _) (by omega)).mono ?_);rintro e D7 ⟨Cx, D6, Cy, Dy, rfl, Cg, Cs, Ci, C6, hb⟩;refine mv12 hb hE B0 B2 B4 B7 B8 Ba Bb Bc Be B3 hbn fun hE B0 B2 B4 B7 B8 Ba Bb Bc Be B3 hbn=>?_;have Dj := hb.size;have C9 := Ext.refl D7;have hS := A9 B0.1 B2.1 B3.1 hbn.1 B4.1 B7.1 B8.1 Ba.1 Bb.1;refine ⟨_, rfl, hS, ?_⟩;refine wV 7 (.agg #[iv c, .slice Cx D6 Cy]) hR hS ?_;refine wC 8 62 #[.agg #[iv c, .slice Cx D6 Cy]] hR ((checked_c _ _ Cg (Ext.refl _) (hRl.ext hE)).mono ?_);rintro e Dv ⟨Co, Cn, Cq, Cp, C8, rfl, Ch, hb⟩;refine mv12 hb hE C9 B0 B2 B4 B7 B8 Ba Bb Bc Be B3 fun hE C9 B0 B2 B4 B7 B8 Ba Bb Bc Be B3=>?_;replace hbn := hbn.x hb;have Dk := hb.size;have hS := A9 B0.1 B2.1 B3.1 hbn.1 B4.1 B7.1 B8.1 Ba.1 Bb.1;refine ⟨_, rfl, hS, ?_⟩;refine wW 9 (.agg #[iv Co, .slice Cn Cq Cp]) 10 (iv C8) hR hS ?_;have C5 := (Cg.ext C9);refine wS 11 hR (sn_set2 (O := O9) (j := 0) (v := iv Co) (v' := .slice Cn Cq Cp) (ex_store (p := pw O9 0) (v := .agg #[iv Co, .slice Cn Cq Cp]) rfl (by kernel_rfl) (by kernel_rfl) (st25 Bc.1 Bc.2 Be.1 Be.2)) Bc Be ?_);intro Dd ho Bc Be hk;replace hE := ho.ext hE (T (T Ca Cc) (Nat.le_of_eq Bv));have q9 := ho.bx O1 (by omega);replace B0 := q9 B0;replace B2 := q9 B2;clear q9;replace B4 := ho.box (by omega) B4;replace B7 := ho.box (by omega) B7;replace B8 := ho.box (by omega) B8;replace Ba := ho.box (by omega) Ba;replace Bb := ho.box (by omega) Bb;replace B3 := ho.box (by omega) B3;replace hbn := ho.box (by omega) hbn;have q9 := ho.bx Cr (by omega);clear q9;replace C5 := C5.turn ho (fun ad e => Nat.ne_of_gt (Nat.lt_of_lt_of_le (by omega) (C6 ad e)));have Dl := Nat.le_of_eq ho.size.symm;clear ho hk;refine ⟨⟨B0.1, B2.1, B3.1, hbn.1, B4.1, B7.1, B8.1, Ba.1, Bb.1⟩, ?_⟩;refine wV 12 (iv C8) hR (⟨B0.1, B2.1, B3.1, hbn.1, B4.1, B7.1, B8.1, Ba.1, Bb.1⟩) ?_;refine we hL hR hK ?_;refine zq (cK [4,5] (fun L => ?_));refine cw_ret (qw_ret [.agg #[iv Co, .slice Cn Cq Cp], iv C8] rfl ⟨⟨_, by kernel_rfl, res_ld (ld25 (Bc.1) (Be.1))⟩, (by kernel_rfl), trivial⟩ ?_);exact ⟨_, _, _, _, _, rfl, ResR.of Ch ⟨hv, Cs⟩ C5 Ci (fun ad e => T (by omega) (C6 ad e)), hE⟩
theorem Add_c {w0 : World} {c : Int} {a : Option Addr} {n : Nat} {l : List Rec} (k : Nat) (tt kk : Int) (xx : ByteArray) (w : World) (H : RecsAt w0 a n l) (e0 : Ext w0 w) (hRl : RootAt w) : Calls Tryz.prog 18 #[.agg #[iv c, .slice a n k], iv tt, iv kk, .string xx] w fun e w' => ∃ c' a' n' k' er, e = .returned (.tuple #[.agg #[iv c', .slice a' n' k'], iv er]) ∧ ResR w.heap.size w' c (PutP c l (⟨0, 0, tt, -1, 0, kk, xx⟩ : Rec) n) (Rep.validB c l = false) c' a' n' k' er ∧ Ext w w' := by
 replace H := H.ext e0;clear e0;refine calls_cw 20 [(3, .string xx), (2, iv kk), (1, iv tt), (0, .agg #[iv c, .slice a n k])] Tryz.func18 rfl Tryz.ntmps18 (by kernel_rfl) (by kernel_rfl) (fun L => ?_);have hE := Ext.refl w;refine zc (zp (pS (sw 25 #[iv c, .slice a n k] ?_)));intro O1 X2 hzO1 hyO1 hb hbx;have ⟨bO1_0, bO1_1⟩ := bq2 hbx;replace hE := hE.trans hb;have hs3 := hb.size;have lt4 := bO1_0.lt;refine pS (sw 25 #[iv 0, .slice none 0 0] ?_);intro O5 X6 hzO5 hyO5 hb hbx;have ⟨bO5_0, bO5_1⟩ := bq2 hbx;refine mv3 hb hE bO1_0 bO1_1 fun hE bO1_0 bO1_1=>?_;have hs7 := hb.size;have lt8 := bO5_0.lt;refine pT (iv 0) ?_;refine zn (zc (zp (pU (.agg #[iv c, .slice a n k]) (xl (ld25 (bO1_0.1) (bO1_1.1))) ?_)));refine pD (iv tt) (pw 0 0) ?_;refine pU (iv (-1 : Int)) (xl (ld3 ((hE.cell hRl.c0)))) ?_;refine pD (iv kk) (.string xx) ?_;refine pT (.agg #[iv 0, iv 0, iv tt, iv (-1 : Int), iv 0, iv kk, .string xx]) ?_;refine pS (sc 57 #[.agg #[iv c, .slice a n k], .agg #[iv 0, iv 0, iv tt, iv (-1 : Int), iv 0, iv kk, .string xx]] ((put_c _ (⟨0, 0, tt, -1, 0, kk, xx⟩ : Rec) _ H hE (hRl.ext hE)).mono ?_));rintro e w15 ⟨c9, a10, n11, k12, er13, rfl, hp14, hb⟩;refine mv3 hb hE bO5_0 bO5_1 fun hE bO5_0 bO5_1=>?_;have hs16 := hb.size;have hX17 := Ext.refl w15;refine ⟨_, rfl, pD (.agg #[iv c9, .slice a10 n11 k12]) (iv er13) ?_⟩;have hpt19 := hp14;refine pP (sn_set2 (O := O5) (j := 0) (v := iv c9) (v' := .slice a10 n11 k12) (xt (pw O5 0) (.agg #[iv c9, .slice a10 n11 k12]) (st25 bO5_0.1 bO5_0.2 bO5_1.1 bO5_1.2)) bO5_0 bO5_1 ?_);intro X18 ho bO5_0 bO5_1 hk;replace hE := ho.ext hE (T hs3 (Nat.le_of_eq hzO5));have q9 := ho.bx O1 (by omega);clear q9;replace hpt19 := hpt19.turn ho (by omega);have hs20 := Nat.le_of_eq ho.size.symm;clear ho hk;refine pT (iv er13) ?_;refine zn (cK [8,9] (fun L => ?_));refine cw_ret (qw_ret [.agg #[iv c9, .slice a10 n11 k12], iv er13] rfl ⟨⟨_, by kernel_rfl, res_ld (ld25 (bO5_0.1) (bO5_1.1))⟩, (by kernel_rfl), trivial⟩ ?_);exact ⟨_, _, _, _, _, rfl, ResR.mono hpt19 (T hs3 hs7) (fun q => q), hE⟩
theorem Correct_c {w0 : World} {c : Int} {a : Option Addr} {n : Nat} {l : List Rec} (k : Nat) (tt cc nn kk : Int) (xx : ByteArray) (w : World) (H : RecsAt w0 a n l) (e0 : Ext w0 w) (hRl : RootAt w) : Calls Tryz.prog 22 #[.agg #[iv c, .slice a n k], iv tt, iv cc, iv nn, iv kk, .string xx] w fun e w' => ∃ c' a' n' k' er, e = .returned (.tuple #[.agg #[iv c', .slice a' n' k'], iv er]) ∧ ResR w.heap.size w' c (PutP c l (⟨0, 0, tt, cc, nn, kk, xx⟩ : Rec) n) ((cc = -1 ∧ nn = 0) ∨ Rep.validB c l = false) c' a' n' k' er ∧ ((cc = -1 ∧ nn = 0) → er = 350) ∧ Ext w w' := by
 replace H := H.ext e0;clear e0;refine calls_cw 30 [(5, .string xx), (4, iv kk), (3, iv nn), (2, iv cc), (1, iv tt), (0, .agg #[iv c, .slice a n k])] Tryz.func22 rfl Tryz.ntmps22 (by kernel_rfl) (by kernel_rfl) (fun L => ?_);have hE := Ext.refl w;refine zc (zp (pS (sw 25 #[iv c, .slice a n k] ?_)));intro O1 X2 Bv Bt hb hbx;have ⟨B3, B4⟩ := bq2 hbx;replace hE := hE.trans hb;have Bj := hb.size;have Bm := B3.lt;refine pS (sw 25 #[iv 0, .slice none 0 0] ?_);intro O5 X6 B8 Bu hb hbx;have ⟨B0, B2⟩ := bq2 hbx;refine mv3 hb hE B3 B4 fun hE B3 B4=>?_;have Bs := hb.size;have Bw := B0.lt;refine pT (iv 0) ?_;refine zn (zc (cw_seq ?_))
 by_cases hA : cc = -1 ∧ nn = 0
 ·
  refine zp (pD (iv cc) (iv nn) ?_);refine pT (.agg #[iv cc, iv nn]) ?_;refine pU (.agg #[iv (-1 : Int), iv 0]) (xl (ld70 ((hE.cell hRl.c0)) ((hE.cell hRl.c1)))) ?_;refine pU (.bool true) (ex_binV (a := .agg #[iv cc, iv nn]) (b := .agg #[iv (-1 : Int), iv 0]) rfl (by kernel_rfl) (by kernel_rfl) (eqG_agg (by kernel_rfl)) (bin_eqv_t (key_eq _ _ _ _ _) hA)) ?_;refine zn (zt ?_);refine zc (zp (pT (.agg #[iv 0, .slice none 0 0]) ?_));refine pP (sn_set2 (O := O5) (j := 0) (v := iv 0) (v' := .slice none 0 0) (xt (pw O5 0) (.agg #[iv 0, .slice none 0 0]) (st25 B0.1 B0.2 B2.1 B2.2)) B0 B2 ?_);intro X9 ho B0 B2 hk;replace hE := ho.ext hE (T Bj (Nat.le_of_eq B8));have q9 := ho.bx O1 (by omega);replace B3 := q9 B3;replace B4 := q9 B4;clear q9;have Bp := Nat.le_of_eq ho.size.symm;clear ho hk;refine pT (iv 350) ?_;refine zn (cK [12,13] (fun L => ?_));refine cw_ret (qw_then_ret (qw_ret [.agg #[iv 0, .slice none 0 0], iv 350] rfl ⟨⟨_, by kernel_rfl, res_ld (ld25 (B0.1) (B2.1))⟩, (by kernel_rfl), trivial⟩ ?_));exact ⟨_, _, _, _, _, rfl, ResR.bad (.inl hA), (fun _ => rfl), hE⟩
 ·
  refine zp (pD (iv cc) (iv nn) ?_);refine pT (.agg #[iv cc, iv nn]) ?_;refine pU (.agg #[iv (-1 : Int), iv 0]) (xl (ld70 ((hE.cell hRl.c0)) ((hE.cell hRl.c1)))) ?_;refine pU (.bool false) (ex_binV (a := .agg #[iv cc, iv nn]) (b := .agg #[iv (-1 : Int), iv 0]) rfl (by kernel_rfl) (by kernel_rfl) (eqG_agg (by kernel_rfl)) (bin_eqv_f (key_eq _ _ _ _ _) hA)) ?_;refine zn (zf ?_);refine cw_skip (zq (zc (zp (pU (.agg #[iv c, .slice a n k]) (xl (ld25 (B3.1) (B4.1))) ?_))));refine pD (iv tt) (iv cc) ?_;refine pD (iv nn) (iv kk) ?_;refine pD (.string xx) (.agg #[iv 0, iv 0, iv tt, iv cc, iv nn, iv kk, .string xx]) ?_;refine pS (sc 57 #[.agg #[iv c, .slice a n k], .agg #[iv 0, iv 0, iv tt, iv cc, iv nn, iv kk, .string xx]] ((put_c _ (⟨0, 0, tt, cc, nn, kk, xx⟩ : Rec) _ H hE (hRl.ext hE)).mono ?_));rintro e Bk ⟨Bf, Be, Bh, Bg, Ba, rfl, Bi, hb⟩;refine mv3 hb hE B0 B2 fun hE B0 B2=>?_;have Bq := hb.size;have Bo := Ext.refl Bk;refine ⟨_, rfl, pD (.agg #[iv Bf, .slice Be Bh Bg]) (iv Ba) ?_⟩;have B7 := Bi;refine pP (sn_set2 (O := O5) (j := 0) (v := iv Bf) (v' := .slice Be Bh Bg) (xt (pw O5 0) (.agg #[iv Bf, .slice Be Bh Bg]) (st25 B0.1 B0.2 B2.1 B2.2)) B0 B2 ?_);intro Bn ho B0 B2 hk;replace hE := ho.ext hE (T Bj (Nat.le_of_eq B8));have q9 := ho.bx O1 (by omega);clear q9;replace B7 := B7.turn ho (Nat.lt_of_lt_of_le Bw (Nat.le_refl _));have Br := Nat.le_of_eq ho.size.symm;clear ho hk;refine pT (iv Ba) ?_;refine zn (cK [12,13] (fun L => ?_));refine cw_ret (qw_ret [.agg #[iv Bf, .slice Be Bh Bg], iv Ba] rfl ⟨⟨_, by kernel_rfl, res_ld (ld25 (B0.1) (B2.1))⟩, (by kernel_rfl), trivial⟩ ?_);exact ⟨_, _, _, _, _, rfl, ResR.mono B7 (T Bj Bs) (fun q => .inr q), (fun q => absurd q hA), hE⟩
end Go.Proofs.YtfmoabgjaclkpaaGreatDoor

namespace Go.Proofs.YtfmoabgjaclkpaaGreatDoor
namespace Rep
instance (a b : Rec) : Decidable (ltL a b) := by unfold ltL; infer_instance
instance (a b : Rec) : Decidable (ltB a b) := by unfold ltB; infer_instance
theorem ltL_irrefl (x : Rec) : ¬ ltL x x := by unfold ltL; omega
theorem ltL_trans {x y z : Rec} (h : ltL x y) (k : ltL y z) : ltL x z := by unfold ltL at *; omega
theorem ltL_asymm {x y : Rec} (h : ltL x y) : ¬ ltL y x := by unfold ltL at *; omega
theorem key_iff {x y : Rec} : x.key = y.key ↔ x.c = y.c ∧ x.n = y.n := by unfold Rec.key; rw [Prod.mk.injEq]
theorem ltL_tri (x y : Rec) : ltL x y ∨ x.key = y.key ∨ ltL y x := by rw [key_iff]; unfold ltL; omega
theorem ltL_ne {x y : Rec} (h : ltL x y) : x.key ≠ y.key := by rw [Ne, key_iff]; unfold ltL at h; omega
theorem ltB_irrefl (x : Rec) : ¬ ltB x x := by unfold ltB ltL; omega
theorem ltB_trans {x y z : Rec} (h : ltB x y) (k : ltB y z) : ltB x z := by unfold ltB ltL at *; omega
theorem ltB_asymm {x y : Rec} (h : ltB x y) : ¬ ltB y x := by unfold ltB ltL at *; omega
theorem ltB_tri (x y : Rec) : ltB x y ∨ x.key = y.key ∨ ltB y x := by rw [key_iff]; unfold ltB ltL; omega
theorem keysD_of {l : List Rec} (h : l.Pairwise ltL) : keysD l := h.imp ltL_ne
theorem keysD.inj {l : List Rec} (h : keysD l) {x y : Rec} (hx : x ∈ l) (hy : y ∈ l) (e : x.key = y.key) : x = y := by
 have h1 := findK_mem h hx; have h2 := findK_mem h hy
 rw [e, h2] at h1; cases h1; rfl
theorem sort_uniq {R : Rec → Rec → Prop} (hi : ∀ x, ¬ R x x) (ha : ∀ x y, R x y → ¬ R y x) : ∀ {l l' : List Rec}, l.Pairwise R → l'.Pairwise R → (∀ x, x ∈ l ↔ x ∈ l') → l = l'
  | [], [], _, _, _ => rfl
  | [], y :: l', _, _, h => absurd ((h y).2 (List.mem_cons_self ..)) (by simp)
  | x :: l, [], _, _, h => absurd ((h x).1 (List.mem_cons_self ..)) (by simp)
  | x :: l, y :: l', hl, hl', h => by
    rw [List.pairwise_cons] at hl hl'
    have e : x = y := by
      rcases List.mem_cons.1 ((h x).1 (List.mem_cons_self ..)) with e | hx
      · exact e
      · rcases List.mem_cons.1 ((h y).2 (List.mem_cons_self ..)) with e | hy
        · exact e.symm
        · exact absurd (hl'.1 x hx) (ha _ _ (hl.1 y hy))
    subst e
    refine congrArg (x :: ·) (sort_uniq hi ha hl.2 hl'.2 fun z => ⟨fun hz => ?_, fun hz => ?_⟩)
    · rcases List.mem_cons.1 ((h z).1 (List.mem_cons_of_mem _ hz)) with e | q
      · subst e; exact absurd (hl.1 z hz) (hi z)
      · exact q
    · rcases List.mem_cons.1 ((h z).2 (List.mem_cons_of_mem _ hz)) with e | q
      · subst e; exact absurd (hl'.1 z hz) (hi z)
      · exact q
theorem uniqL {l l' : List Rec} (h : l.Pairwise ltL) (h' : l'.Pairwise ltL) (k : ∀ x, x ∈ l ↔ x ∈ l') : l = l' := sort_uniq ltL_irrefl (fun _ _ => ltL_asymm) h h' k
theorem uniqB {l l' : List Rec} (h : l.Pairwise ltB) (h' : l'.Pairwise ltB) (k : ∀ x, x ∈ l ↔ x ∈ l') : l = l' := sort_uniq ltB_irrefl (fun _ _ => ltB_asymm) h h' k
def isRoot (x : Rec) : Prop := x.o = -1 ∧ x.w = 0
instance (x : Rec) : Decidable (isRoot x) := by unfold isRoot; infer_instance
structure Vd (l : List Rec) : Prop where
 ok : ∀ x ∈ l, okR x = true
 srt : l.Pairwise ltL
 pre : ∀ x ∈ l, x.n = 1 ∨ ∃ y ∈ l, y.c = x.c ∧ y.n = x.n - 1 ∧ y.t ≤ x.t
 snd : ∀ x ∈ l, isRoot x ∨ ∃ y ∈ l, y.key = x.tgt ∧ ltB y x
theorem Vd.keys {l : List Rec} (h : Vd l) : keysD l := keysD_of h.srt
theorem Vd.nil : Vd [] := ⟨(fun x h => by cases h), .nil, (fun x h => by cases h), (fun x h => by cases h)⟩
theorem pair_next {l : List Rec} (h : ∀ i, i + 1 < l.length → ltL (recN l i) (recN l (i + 1))) : l.Pairwise ltL := by
 rw [List.pairwise_iff_getElem]
 intro i j hi hj hij
 rw [← recN_get hi, ← recN_get hj]
 clear hi
 induction j with
 | zero => omega
 | succ j ih =>
  rcases Nat.lt_succ_iff_lt_or_eq.1 hij with q | q
  · exact ltL_trans (ih (by omega) q) (h j hj)
  · subst q; exact h i hj
theorem mem_recN {l : List Rec} {x : Rec} (h : x ∈ l) : ∃ i, i < l.length ∧ x = recN l i := by
 obtain ⟨i, hi, rfl⟩ := List.getElem_of_mem h
 exact ⟨i, hi, (recN_get hi).symm⟩
theorem srt_at {l : List Rec} (h : l.Pairwise ltL) {i j : Nat} (hij : i < j) (hj : j < l.length) : ltL (recN l i) (recN l j) := by
 rw [recN_get (by omega), recN_get hj]; exact List.pairwise_iff_getElem.1 h i j (by omega) hj hij
theorem srt_lt {l : List Rec} (h : l.Pairwise ltL) {i j : Nat} (hi : i < l.length) (hj : j < l.length) (hl : ltL (recN l i) (recN l j)) : i < j := by
 rcases Nat.lt_trichotomy i j with q | q | q
 · exact q
 · subst q; exact absurd hl (ltL_irrefl _)
 · exact absurd hl (ltL_asymm (srt_at h q hi))
theorem soundB_iff {l : List Rec} (hd : keysD l) (x : Rec) : soundB (bookL l) x = true ↔ isRoot x ∨ ∃ y ∈ l, y.key = x.tgt ∧ ltB y x := by
 unfold soundB
 rw [book_get hd]
 rw [Bool.or_eq_true, decide_eq_true_iff]
 refine or_congr Iff.rfl ?_
 cases hf : findK l (x.o, x.w) with
 | none => exact ⟨(fun h => by cases h), fun ⟨y, hy, e, _⟩ => absurd e (findK_none hf y hy)⟩
 | some y =>
  have hm := findK_some hf
  refine ⟨fun h => ⟨y, hm.1, hm.2, befC_neg.1 (of_decide_eq_true h)⟩, fun ⟨z, hz, e, hlt⟩ => decide_eq_true (befC_neg.2 ?_)⟩
  have := hd.inj hm.1 hz (hm.2.trans e.symm)
  subst this; exact hlt
theorem valid_iff {c : Int} {l : List Rec} : validB c l = true ↔ (0 ≤ c ∧ c ≤ 15) ∧ l.length ≤ 80 ∧ Vd l := by
  have hR : ∀ x : Rec, okR x = true → 1 ≤ x.n ∧ x.n ≤ 80 := fun x h => by
    unfold okR at h; have := of_decide_eq_true h; omega
  constructor
  · intro h
    unfold validB at h
    rw [Bool.and_eq_true, Bool.and_eq_true, Bool.not_eq_true'] at h
    obtain ⟨⟨h1, h2⟩, h3⟩ := h
    have h1 := of_decide_eq_true h1
    have hs : ∀ i, i < l.length → stepB l i = true := fun i hi => List.all_eq_true.1 h2 i (List.mem_range.2 hi)
    have hst := fun i hi => of_decide_eq_true (hs i hi)
    have srt : l.Pairwise ltL := pair_next fun i hi => by
      have := ((hst (i + 1) hi).2.2 (by omega)).1
      rw [Nat.add_sub_cancel] at this; exact listC_neg.1 this
    refine ⟨h1.1, h1.2, fun x hx => ?_, srt, fun x hx => ?_, fun x hx => ?_⟩
    · obtain ⟨i, hi, rfl⟩ := mem_recN hx; exact (hst i hi).1
    · obtain ⟨i, hi, rfl⟩ := mem_recN hx
      by_cases hf : i = 0 ∨ ¬ (recN l (i - 1)).c = (recN l i).c
      · exact .inl ((hst i hi).2.1 hf)
      · have hf : ¬ i = 0 ∧ (recN l (i - 1)).c = (recN l i).c := ⟨fun e => hf (.inl e), Classical.not_not.1 fun e => hf (.inr e)⟩
        have k := ((hst i hi).2.2 (by omega)).2 hf.2
        exact .inr ⟨recN l (i - 1), recN_mem (by omega), hf.2, by omega, k.2⟩
    · refine (soundB_iff (keysD_of srt) x).1 (Classical.byContradiction fun q => ?_)
      have q := Bool.eq_false_iff.2 q
      rw [List.any_eq_true.2 ⟨x, hx, by rw [q]; rfl⟩] at h3
      cases h3
  · rintro ⟨hc, hl, hv⟩
    rw [valid_end ⟨hc, hl⟩ fun i hi => ?_]
    · rw [Bool.not_eq_true', Bool.eq_false_iff]
      intro q
      obtain ⟨x, hx, q⟩ := List.any_eq_true.1 q
      rw [(soundB_iff hv.keys x).2 (hv.snd x hx)] at q; cases q
    · have hx := recN_mem hi
      have hxo := hR _ (hv.ok _ hx)
      refine decide_eq_true ⟨hv.ok _ hx, fun hf => ?_, fun h0 => ?_⟩
      · rcases hv.pre _ hx with q | ⟨y, hy, e1, e2, e3⟩
        · exact q
        · exfalso
          obtain ⟨j, hj, rfl⟩ := mem_recN hy
          have hji := srt_lt hv.srt hj hi (show ltL _ _ by unfold ltL; omega)
          rcases hf with hf | hf
          · omega
          · have k2 := srt_at hv.srt (show i - 1 < i by omega) hi
            rcases Nat.lt_or_ge j (i - 1) with q | q
            · have k1 := srt_at hv.srt q (by omega)
              unfold ltL at k1 k2; omega
            · obtain rfl : j = i - 1 := by omega
              exact hf e1
      · have k2 := srt_at hv.srt (show i - 1 < i by omega) hi
        refine ⟨listC_neg.2 k2, fun e => ?_⟩
        have hy0 := hR _ (hv.ok _ (recN_mem (show i - 1 < l.length by omega)))
        rcases hv.pre _ hx with q | ⟨y, hy, e1, e2, e3⟩
        · exfalso; unfold ltL at k2; omega
        · obtain ⟨j, hj, rfl⟩ := mem_recN hy
          have hji := srt_lt hv.srt hj hi (show ltL _ _ by unfold ltL; omega)
          rcases Nat.lt_or_ge j (i - 1) with q | q
          · have k1 := srt_at hv.srt q (by omega)
            unfold ltL at k1 k2; omega
          · obtain rfl : j = i - 1 := by omega
            exact ⟨by omega, e3⟩
theorem okR_n {x : Rec} (h : okR x = true) : (1 ≤ x.n ∧ x.n ≤ 80) ∧ 0 ≤ x.c ∧ x.c ≤ 15 := by
 unfold okR at h; have := of_decide_eq_true h; omega
structure Uni (l1 l2 l : List Rec) : Prop where
 srt : l.Pairwise ltL
 mem : ∀ x, x ∈ l ↔ x ∈ l1 ∨ x ∈ l2
theorem Uni.uniq {l1 l2 l l' : List Rec} (h : Uni l1 l2 l) (h' : Uni l1 l2 l') : l = l' := uniqL h.srt h'.srt fun x => (h.mem x).trans (h'.mem x).symm
theorem Uni.swap {l1 l2 l : List Rec} (h : Uni l1 l2 l) : Uni l2 l1 l := ⟨h.srt, fun x => (h.mem x).trans or_comm⟩
def Cons (l1 l2 : List Rec) : Prop := ∀ x ∈ l1, ∀ y ∈ l2, x.key = y.key → x = y
theorem Cons.symm {l1 l2 : List Rec} (h : Cons l1 l2) : Cons l2 l1 := fun x hx y hy e => (h y hy x hx e.symm).symm
theorem cp_sorted {ls : List Rec} {n : Nat} (hs : Sd ls 0 n) (hn : n ≤ ls.length) (hk : ∀ x ∈ ls, ∀ y ∈ ls, x.key = y.key → x = y) : ∀ p, p ≤ n → (cpN ls p).Pairwise ltL ∧ (∀ x, x ∈ cpN ls p ↔ x ∈ ls.take p) ∧ ∀ x ∈ cpN ls p, x = recN ls (p - 1) ∨ ltL x (recN ls (p - 1))
  | 0, _ => ⟨.nil, fun x => by simp [cpN], fun x h => by cases h⟩
  | 1, h => ⟨by simp [cpN], fun x => by rw [recN_take (show 0 < ls.length by omega)]; simp [cpN], fun x hx => by simp [cpN] at hx; exact .inl hx⟩
  | p + 2, h => by
    obtain ⟨i1, i2, i3⟩ := cp_sorted hs hn hk (p + 1) (by omega)
    rw [Nat.add_sub_cancel] at i3
    have hm := recN_take (l := ls) (i := p + 1) (by omega)
    have h0 : recN ls p ∈ ls.take (p + 1) := by rw [recN_take (by omega)]; simp
    by_cases e : recN ls (p + 1) = recN ls p
    · have ec := cp_eq (l := ls) (p := p + 1) (by omega) (by rw [Nat.add_sub_cancel]; exact e)
      rw [ec]
      refine ⟨i1, fun x => ?_, fun x hx => ?_⟩
      · rw [i2, hm, List.mem_append, e]
        exact ⟨.inl, fun q => q.elim id fun q => by simp at q; rw [q]; exact h0⟩
      · show x = recN ls (p + 1) ∨ ltL x (recN ls (p + 1))
        rw [e]; exact i3 x hx
    · have ec := cp_ne (l := ls) (p := p + 1) (by omega) (by rw [Nat.add_sub_cancel]; exact e)
      rw [ec]
      have hlt : ltL (recN ls p) (recN ls (p + 1)) := by
        have h1 : le (recN ls p) (recN ls (p + 1)) := hs p (p + 1) (Nat.zero_le _) (by omega) (by omega)
        rcases ltL_tri (recN ls p) (recN ls (p + 1)) with q | q | q
        · exact q
        · exact absurd (hk _ (recN_mem (by omega)) _ (recN_mem (by omega)) q).symm e
        · exact absurd q h1
      have hall : ∀ x ∈ cpN ls (p + 1), ltL x (recN ls (p + 1)) := fun x hx => by
        rcases i3 x hx with q | q
        · rw [q]; exact hlt
        · exact ltL_trans q hlt
      refine ⟨?_, fun x => ?_, fun x hx => ?_⟩
      · rw [List.pairwise_append]; exact ⟨i1, by simp, fun x hx y hy => by simp at hy; subst hy; exact hall x hx⟩
      · rw [List.mem_append, i2, hm, List.mem_append]
      · rcases List.mem_append.1 hx with q | q
        · exact .inr (hall x q)
        · simp at q; exact .inl q
theorem Mrg.uni {l1 l2 l : List Rec} {n : Nat} (h : Mrg l1 l2 n l) (hn : n = l1.length + l2.length) (h1 : keysD l1) (h2 : keysD l2) (hc : Cons l1 l2) : Uni l1 l2 l := by
 obtain ⟨ls, hp, hs, rfl⟩ := h.ex
 have hl : ls.length = n := by rw [hp.length_eq, List.length_append, hn]
 have hmem : ∀ x, x ∈ ls ↔ x ∈ l1 ∨ x ∈ l2 := fun x => by rw [hp.mem_iff, List.mem_append]
 obtain ⟨k1, k2, _⟩ := cp_sorted hs (by omega) (fun x hx y hy e => by
  rcases (hmem x).1 hx with a | a <;> rcases (hmem y).1 hy with b | b
  · exact h1.inj a b e
  · exact hc x a y b e
  · exact (hc y b x a e.symm).symm
  · exact h2.inj a b e) n (Nat.le_refl _)
 exact ⟨k1, fun x => by rw [k2, List.take_of_length_le (by omega), hmem]⟩
theorem Vd.uni {l1 l2 l : List Rec} (h1 : Vd l1) (h2 : Vd l2) (h : Uni l1 l2 l) : Vd l := by
  have f1 : ∀ y ∈ l1, y ∈ l := fun y hy => (h.mem y).2 (.inl hy)
  have f2 : ∀ y ∈ l2, y ∈ l := fun y hy => (h.mem y).2 (.inr hy)
  refine ⟨fun x hx => ?_, h.srt, fun x hx => ?_, fun x hx => ?_⟩
  · rcases (h.mem x).1 hx with q | q
    · exact h1.ok x q
    · exact h2.ok x q
  · rcases (h.mem x).1 hx with q | q
    · exact (h1.pre x q).imp id fun ⟨y, hy, k⟩ => ⟨y, f1 y hy, k⟩
    · exact (h2.pre x q).imp id fun ⟨y, hy, k⟩ => ⟨y, f2 y hy, k⟩
  · rcases (h.mem x).1 hx with q | q
    · exact (h1.snd x q).imp id fun ⟨y, hy, k⟩ => ⟨y, f1 y hy, k⟩
    · exact (h2.snd x q).imp id fun ⟨y, hy, k⟩ => ⟨y, f2 y hy, k⟩
def hasK (l : List Rec) (k : Int × Int) : Bool := (findK l k).isSome
theorem hasK_iff {l : List Rec} {k : Int × Int} : hasK l k = true ↔ ∃ y ∈ l, y.key = k := by
 unfold hasK
 cases h : findK l k with
 | none => exact ⟨(fun q => by cases q), fun ⟨y, hy, e⟩ => absurd e (findK_none h y hy)⟩
 | some y => exact ⟨fun _ => ⟨y, (findK_some h).1, (findK_some h).2⟩, fun _ => rfl⟩
def more (l1 l2 : List Rec) : List Rec := l2.filter fun r => !hasK l1 r.key
theorem mem_more {l1 l2 : List Rec} (hc : Cons l1 l2) {x : Rec} : x ∈ more l1 l2 ↔ x ∈ l2 ∧ x ∉ l1 := by
 unfold more
 rw [List.mem_filter, Bool.not_eq_true', Bool.eq_false_iff, Ne, hasK_iff]
 exact ⟨fun ⟨h, k⟩ => ⟨h, fun q => k ⟨x, q, rfl⟩⟩, fun ⟨h, k⟩ => ⟨h, fun ⟨y, hy, e⟩ => k (hc y hy x h e ▸ hy)⟩⟩
theorem nodup_of {R : Rec → Rec → Prop} (hi : ∀ x, ¬ R x x) {l : List Rec} (h : l.Pairwise R) : l.Nodup := List.Pairwise.imp (S := fun a b => a ≠ b) (fun {x y} k e => by subst e; exact hi _ k) h
theorem Uni.len {l1 l2 l : List Rec} (h : Uni l1 l2 l) (h1 : l1.Pairwise ltL) (h2 : l2.Pairwise ltL) (hc : Cons l1 l2) : l.length = l1.length + (more l1 l2).length := by
  have hp : l.Perm (l1 ++ more l1 l2) := by
    refine (List.perm_ext_iff_of_nodup (nodup_of ltL_irrefl h.srt) ?_).2 fun x => ?_
    · rw [List.nodup_append]
      refine ⟨nodup_of ltL_irrefl h1, (nodup_of ltL_irrefl h2).filter _, fun x hx y hy e => ?_⟩
      subst e; exact ((mem_more hc).1 hy).2 hx
    · rw [h.mem, List.mem_append, mem_more hc]
      by_cases q : x ∈ l1 <;> simp [q]
  rw [hp.length_eq, List.length_append]
def insL (x : Rec) : List Rec → List Rec
 | [] => [x]
 | y :: l => if ltL x y then x :: y :: l else y :: insL x l
def sortL : List Rec → List Rec
 | [] => []
 | x :: l => insL x (sortL l)
theorem insL_mem {x z : Rec} : ∀ {l : List Rec}, z ∈ insL x l ↔ z = x ∨ z ∈ l
  | [] => by simp [insL]
  | y :: l => by
    unfold insL
    split
    · simp
    · rw [List.mem_cons, insL_mem, List.mem_cons]; constructor
      · rintro (h | h | h)
        · exact .inr (.inl h)
        · exact .inl h
        · exact .inr (.inr h)
      · rintro (h | h | h)
        · exact .inr (.inl h)
        · exact .inl h
        · exact .inr (.inr h)
theorem insL_sorted {x : Rec} : ∀ {l : List Rec}, l.Pairwise ltL → (∀ z ∈ l, z.key ≠ x.key) → (insL x l).Pairwise ltL
  | [], _, _ => by simp [insL]
  | y :: l, h, hk => by
    rw [List.pairwise_cons] at h
    unfold insL
    split
    · rename_i hl
      rw [List.pairwise_cons]
      refine ⟨fun z hz => ?_, List.pairwise_cons.2 h⟩
      rcases List.mem_cons.1 hz with rfl | hz
      · exact hl
      · exact ltL_trans hl (h.1 z hz)
    · rename_i hl
      rw [List.pairwise_cons]
      refine ⟨fun z hz => ?_, insL_sorted h.2 fun z hz => hk z (List.mem_cons_of_mem _ hz)⟩
      rcases insL_mem.1 hz with rfl | hz
      · rcases ltL_tri y z with q | q | q
        · exact q
        · exact absurd q (hk y (List.mem_cons_self ..))
        · exact absurd q hl
      · exact h.1 z hz
theorem sortL_mem {z : Rec} : ∀ {l : List Rec}, z ∈ sortL l ↔ z ∈ l
 | [] => Iff.rfl
 | x :: l => by unfold sortL; rw [insL_mem, sortL_mem, List.mem_cons]
theorem sortL_sorted : ∀ {l : List Rec}, keysD l → (sortL l).Pairwise ltL
 | [], _ => .nil
 | x :: l, h => by
  unfold keysD at h
  rw [List.pairwise_cons] at h
  exact insL_sorted (sortL_sorted h.2) fun z hz => (h.1 z (sortL_mem.1 hz)).symm
def unionF (l1 l2 : List Rec) : List Rec := sortL (l1 ++ more l1 l2)
theorem union_is {l1 l2 : List Rec} (h1 : keysD l1) (h2 : keysD l2) (hc : Cons l1 l2) : Uni l1 l2 (unionF l1 l2) := by
  refine ⟨sortL_sorted ?_, fun x => ?_⟩
  · unfold keysD
    rw [List.pairwise_append]
    refine ⟨h1, List.Pairwise.filter _ h2, fun x hx y hy e => ?_⟩
    have hy' := (mem_more hc).1 hy
    exact hy'.2 (hc x hx y hy'.1 e ▸ hx)
  · unfold unionF
    rw [sortL_mem, List.mem_append, mem_more hc]
    by_cases q : x ∈ l1 <;> simp [q]
theorem Mrg.eq {l1 l2 l : List Rec} {n : Nat} (h : Mrg l1 l2 n l) (hn : n = l1.length + l2.length) (h1 : keysD l1) (h2 : keysD l2) (hc : Cons l1 l2) : l = unionF l1 l2 := (h.uni hn h1 h2 hc).uniq (union_is h1 h2 hc)
def contrB (mp : List ((Int × Int) × Rec)) (r : Rec) : Bool := match getM r.key mp with
 | some x => decide (x ≠ r)
 | none => false
theorem contr_iff {l1 l2 : List Rec} (h1 : keysD l1) : l2.any (contrB (bookL l1)) = false ↔ Cons l1 l2 := by
  rw [Bool.eq_false_iff, Ne, List.any_eq_true]
  constructor
  · intro h x hx y hy e
    refine Classical.byContradiction fun q => h ⟨y, hy, ?_⟩
    unfold contrB
    rw [book_get h1, ← e, findK_mem h1 hx]; exact decide_eq_true q
  · rintro hc ⟨y, hy, h⟩
    unfold contrB at h
    rw [book_get h1] at h
    cases hf : findK l1 y.key with
    | none => rw [hf] at h; cases h
    | some x =>
      rw [hf] at h
      have := findK_some hf
      exact of_decide_eq_true h (hc x this.1 y hy this.2)
theorem nums_at {f : List Rec} (hs : f.Pairwise fun x y => x.n < y.n) (h1 : ∀ x ∈ f, 1 ≤ x.n) (hp : ∀ x ∈ f, x.n = 1 ∨ ∃ y ∈ f, y.n = x.n - 1) : ∀ i, i < f.length → (recN f i).n = (i : Int) + 1 := by
  have hat : ∀ i j, i < j → j < f.length → (recN f i).n < (recN f j).n := fun i j hij hj => by
    rw [recN_get (by omega), recN_get hj]; exact List.pairwise_iff_getElem.1 hs i j (by omega) hj hij
  intro i
  induction i with
  | zero =>
    intro hi
    rcases hp _ (recN_mem hi) with e | ⟨y, hy, e⟩
    · rw [e]; rfl
    · obtain ⟨j, hj, rfl⟩ := mem_recN hy
      rcases Nat.eq_zero_or_pos j with q | q
      · subst q; omega
      · have := hat 0 j q hj; omega
  | succ i ih =>
    intro hi
    have ih := ih (by omega)
    have hlt := hat i (i + 1) (by omega) hi
    rcases hp _ (recN_mem hi) with e | ⟨y, hy, e⟩
    · have := h1 _ (recN_mem (show i < f.length by omega)); omega
    · obtain ⟨j, hj, rfl⟩ := mem_recN hy
      rcases Nat.lt_trichotomy j i with q | q | q
      · have := hat j i q (by omega); omega
      · subst q; omega
      · rcases Nat.lt_or_ge (i + 1) j with q2 | q2
        · have := hat (i + 1) j q2 hj; omega
        · obtain rfl : j = i + 1 := by omega
          omega
theorem own_nums {l : List Rec} (hv : Vd l) (c : Int) : (∀ x ∈ l, x.c = c → x.n ≤ cntC c l) ∧ ∀ m : Nat, 1 ≤ m → m ≤ cntC c l → ∃ x ∈ l, x.c = c ∧ x.n = m := by
  have hf : ∀ x, x ∈ l.filter (fun r => decide (r.c = c)) ↔ x ∈ l ∧ x.c = c := fun x => by rw [List.mem_filter, decide_eq_true_iff]
  have hn := nums_at (f := l.filter fun r => decide (r.c = c)) (by
      refine List.Pairwise.imp_of_mem (fun {x y} hx hy h => ?_) (hv.srt.filter _)
      have h1 := ((hf x).1 hx).2; have h2 := ((hf y).1 hy).2
      unfold ltL at h; omega) (fun x hx => (okR_n (hv.ok x ((hf x).1 hx).1)).1.1) fun x hx => by
      have hx' := (hf x).1 hx
      exact (hv.pre x hx'.1).imp id fun ⟨y, hy, e1, e2, _⟩ => ⟨y, (hf y).2 ⟨hy, e1.trans hx'.2⟩, e2⟩
  refine ⟨fun x hx e => ?_, fun m h1 h2 => ?_⟩
  · obtain ⟨i, hi, e2⟩ := mem_recN ((hf x).2 ⟨hx, e⟩)
    rw [e2, hn i hi]; unfold cntC; omega
  · have hi : m - 1 < (l.filter fun r => decide (r.c = c)).length := by unfold cntC at h2; omega
    have := (hf _).1 (recN_mem hi)
    exact ⟨_, this.1, this.2, by rw [hn _ hi]; omega⟩
theorem own_key {l : List Rec} (hv : Vd l) (c : Int) (x : Rec) : ∀ y ∈ l, y.key ≠ (own c l x).key := fun y hy e => by
 rw [key_iff] at e
 have := (own_nums hv c).1 y hy e.1
 have e2 := e.2
 unfold own at e2; simp only at e2; omega
theorem own_cons {l : List Rec} (hv : Vd l) (c : Int) (x : Rec) : Cons l [own c l x] := fun y hy z hz e => by
 rw [List.mem_singleton] at hz; subst hz
 exact absurd e (own_key hv c x y hy)
theorem keysD_one (x : Rec) : keysD [x] := List.pairwise_singleton ..
def addF (c : Int) (l : List Rec) (x : Rec) : Option (List Rec) :=
 if validB c l = true ∧ validB c (unionF l [own c l x]) = true then some (unionF l [own c l x]) else none
def corrF (c : Int) (l : List Rec) (x : Rec) : Option (List Rec) := if x.o = -1 ∧ x.w = 0 then none else addF c l x
def okM (c1 : Int) (l1 : List Rec) (c2 : Int) (l2 : List Rec) : Prop := validB c1 l1 = true ∧ validB c2 l2 = true ∧ l2.any (contrB (bookL l1)) = false ∧ validB c1 (unionF l1 l2) = true
instance (c1 : Int) (l1 : List Rec) (c2 : Int) (l2 : List Rec) : Decidable (okM c1 l1 c2 l2) := by unfold okM; infer_instance
def mergeF (c1 : Int) (l1 : List Rec) (c2 : Int) (l2 : List Rec) : Option (List Rec) := if okM c1 l1 c2 l2 then some (unionF l1 l2) else none
def behindF (c1 : Int) (l1 : List Rec) (c2 : Int) (l2 : List Rec) : Option (List Rec) := if okM c1 l1 c2 l2 then some (more l1 l2) else none
theorem valid_vd {c : Int} {l : List Rec} (h : validB c l = true) : Vd l := (valid_iff.1 h).2.2
theorem okM_iff {c1 c2 : Int} {l1 l2 : List Rec} : okM c1 l1 c2 l2 ↔ validB c1 l1 = true ∧ validB c2 l2 = true ∧ Cons l1 l2 ∧ l1.length + (more l1 l2).length ≤ 80 := by
  unfold okM
  constructor
  · rintro ⟨h1, h2, h3, h4⟩
    have v1 := valid_vd h1; have v2 := valid_vd h2
    have hc := (contr_iff v1.keys).1 h3
    exact ⟨h1, h2, hc, by rw [← (union_is v1.keys v2.keys hc).len v1.srt v2.srt hc]; exact (valid_iff.1 h4).2.1⟩
  · rintro ⟨h1, h2, h3, h4⟩
    have v1 := valid_vd h1; have v2 := valid_vd h2
    have hu := union_is v1.keys v2.keys h3
    exact ⟨h1, h2, (contr_iff v1.keys).2 h3, valid_iff.2 ⟨(valid_iff.1 h1).1, by rw [hu.len v1.srt v2.srt h3]; exact h4, v1.uni v2 hu⟩⟩
end Rep
end Go.Proofs.YtfmoabgjaclkpaaGreatDoor

namespace Go.Proofs.YtfmoabgjaclkpaaGreatDoor
namespace Rep
theorem sort_uniqG {α : Type} {R : α → α → Prop} (hi : ∀ x, ¬ R x x) (ha : ∀ x y, R x y → ¬ R y x) : ∀ {l l' : List α}, l.Pairwise R → l'.Pairwise R → (∀ x, x ∈ l ↔ x ∈ l') → l = l'
  | [], [], _, _, _ => rfl
  | [], y :: l', _, _, h => absurd ((h y).2 (List.mem_cons_self ..)) (by simp)
  | x :: l, [], _, _, h => absurd ((h x).1 (List.mem_cons_self ..)) (by simp)
  | x :: l, y :: l', hl, hl', h => by
    rw [List.pairwise_cons] at hl hl'
    have e : x = y := by
      rcases List.mem_cons.1 ((h x).1 (List.mem_cons_self ..)) with e | hx
      · exact e
      · rcases List.mem_cons.1 ((h y).2 (List.mem_cons_self ..)) with e | hy
        · exact e.symm
        · exact absurd (hl'.1 x hx) (ha _ _ (hl.1 y hy))
    subst e
    refine congrArg (x :: ·) (sort_uniqG hi ha hl.2 hl'.2 fun z => ⟨fun hz => ?_, fun hz => ?_⟩)
    · rcases List.mem_cons.1 ((h z).1 (List.mem_cons_of_mem _ hz)) with e | q
      · subst e; exact absurd (hl.1 z hz) (hi z)
      · exact q
    · rcases List.mem_cons.1 ((h z).2 (List.mem_cons_of_mem _ hz)) with e | q
      · subst e; exact absurd (hl'.1 z hz) (hi z)
      · exact q
def dep (l : List Rec) (x : Rec) : Nat := l.countP fun y => decide (ltB y x)
theorem dep_le (l : List Rec) (x : Rec) : dep l x ≤ l.length := List.countP_le_length
theorem countP_lt {p q : Rec → Bool} : ∀ {l : List Rec}, (∀ z ∈ l, p z = true → q z = true) → ∀ {y : Rec}, y ∈ l → p y = false → q y = true → l.countP p < l.countP q
  | [], _, _, hy, _, _ => by cases hy
  | z :: l, h, y, hy, hp, hq => by
    rw [List.countP_cons, List.countP_cons]
    rcases List.mem_cons.1 hy with rfl | hy
    · have := List.countP_mono_left (l := l) fun z hz => h z (List.mem_cons_of_mem _ hz)
      rw [hp, hq]; simp; omega
    · have ih := countP_lt (fun z hz => h z (List.mem_cons_of_mem _ hz)) hy hp hq
      have hz := h z (List.mem_cons_self ..)
      cases e : p z
      · simp; split <;> omega
      · rw [hz e]; simp; omega
theorem dep_lt {l : List Rec} {x y : Rec} (hy : y ∈ l) (h : ltB y x) : dep l y < dep l x :=
 countP_lt (fun _ _ hz => decide_eq_true (ltB_trans (of_decide_eq_true hz) h)) hy (decide_eq_false (ltB_irrefl y)) (decide_eq_true h)
def rtN (l : List Rec) : Nat → Rec → Rec
 | 0, x => x
 | n + 1, x => if isRoot x then x else match findK l x.tgt with
  | some y => rtN l n y
  | none => x
def rt (l : List Rec) (x : Rec) : Rec := rtN l l.length x
theorem rtN_root {l : List Rec} {x : Rec} (h : isRoot x) : ∀ n, rtN l n x = x
 | 0 => rfl
 | n + 1 => by unfold rtN; rw [if_pos h]
theorem rtN_step {l : List Rec} {x y : Rec} (h : ¬ isRoot x) (hf : findK l x.tgt = some y) (n : Nat) : rtN l (n + 1) x = rtN l n y := by
 rw [rtN, if_neg h, hf]
theorem Vd.tgt {l : List Rec} (hv : Vd l) {x : Rec} (hx : x ∈ l) (hr : ¬ isRoot x) : ∃ y, findK l x.tgt = some y ∧ y ∈ l ∧ ltB y x := by
 rcases hv.snd x hx with q | ⟨y, hy, e, hl⟩
 · exact absurd q hr
 · exact ⟨y, by rw [← e]; exact findK_mem hv.keys hy, hy, hl⟩
theorem rtN_eq {l : List Rec} (hv : Vd l) : ∀ (n m : Nat) (x : Rec), x ∈ l → dep l x ≤ n → dep l x ≤ m → rtN l n x = rtN l m x
  | n, m, x, hx, hn, hm => by
    by_cases hr : isRoot x
    · rw [rtN_root hr, rtN_root hr]
    · obtain ⟨y, hf, hy, hl⟩ := hv.tgt hx hr
      have hd := dep_lt hy hl
      obtain ⟨n, rfl⟩ : ∃ q, n = q + 1 := ⟨n - 1, by omega⟩
      obtain ⟨m, rfl⟩ : ∃ q, m = q + 1 := ⟨m - 1, by omega⟩
      rw [rtN_step hr hf, rtN_step hr hf]
      exact rtN_eq hv n m y hy (by omega) (by omega)
theorem rt_root {l : List Rec} {x : Rec} (h : isRoot x) : rt l x = x := rtN_root h _
theorem rt_step {l : List Rec} (hv : Vd l) {x y : Rec} (hx : x ∈ l) (h : ¬ isRoot x) (hf : findK l x.tgt = some y) : rt l x = rt l y := by
 obtain ⟨z, hf', hz, hl⟩ := hv.tgt hx h
 rw [hf] at hf'; cases hf'
 have hd := dep_lt hz hl
 have := dep_le l x
 unfold rt
 obtain ⟨n, hn⟩ : ∃ q, l.length = q + 1 := ⟨l.length - 1, by omega⟩
 rw [hn, rtN_step h hf]
 exact rtN_eq hv _ _ _ hz (by omega) (by omega)
theorem Vd.ind {l : List Rec} (hv : Vd l) {P : Rec → Prop} (h0 : ∀ x ∈ l, isRoot x → P x) (h1 : ∀ x ∈ l, ∀ y ∈ l, ¬ isRoot x → findK l x.tgt = some y → ltB y x → P y → P x) : ∀ x ∈ l, P x := by
  suffices H : ∀ n x, x ∈ l → dep l x ≤ n → P x from fun x hx => H _ x hx (Nat.le_refl _)
  intro n
  induction n with
  | zero =>
    intro x hx hd
    by_cases hr : isRoot x
    · exact h0 x hx hr
    · obtain ⟨y, hf, hy, hl⟩ := hv.tgt hx hr
      have := dep_lt hy hl; omega
  | succ n ih =>
    intro x hx hd
    by_cases hr : isRoot x
    · exact h0 x hx hr
    · obtain ⟨y, hf, hy, hl⟩ := hv.tgt hx hr
      have := dep_lt hy hl
      exact h1 x hx y hy hr hf hl (ih y hy (by omega))
theorem rt_is {l : List Rec} (hv : Vd l) : ∀ x ∈ l, rt l x ∈ l ∧ isRoot (rt l x) ∧ (rt l x = x ∨ ltB (rt l x) x) :=
 hv.ind (fun x hx hr => by rw [rt_root hr]; exact ⟨hx, hr, .inl rfl⟩) fun x hx y hy hr hf hl ih => by
  rw [rt_step hv hx hr hf]
  exact ⟨ih.1, ih.2.1, .inr (by rcases ih.2.2 with e | e; rw [e]; exact hl; exact ltB_trans e hl)⟩
def insB (x : Rec) : List Rec → List Rec
 | [] => [x]
 | y :: l => if ltB x y then x :: y :: l else y :: insB x l
def sortB : List Rec → List Rec
 | [] => []
 | x :: l => insB x (sortB l)
theorem insB_mem {x z : Rec} : ∀ {l : List Rec}, z ∈ insB x l ↔ z = x ∨ z ∈ l
  | [] => by simp [insB]
  | y :: l => by
    unfold insB
    split
    · simp
    · rw [List.mem_cons, insB_mem, List.mem_cons]; constructor
      · rintro (h | h | h)
        · exact .inr (.inl h)
        · exact .inl h
        · exact .inr (.inr h)
      · rintro (h | h | h)
        · exact .inr (.inl h)
        · exact .inl h
        · exact .inr (.inr h)
theorem insB_sorted {x : Rec} : ∀ {l : List Rec}, l.Pairwise ltB → (∀ z ∈ l, z.key ≠ x.key) → (insB x l).Pairwise ltB
  | [], _, _ => by simp [insB]
  | y :: l, h, hk => by
    rw [List.pairwise_cons] at h
    unfold insB
    split
    · rename_i hl
      rw [List.pairwise_cons]
      refine ⟨fun z hz => ?_, List.pairwise_cons.2 h⟩
      rcases List.mem_cons.1 hz with rfl | hz
      · exact hl
      · exact ltB_trans hl (h.1 z hz)
    · rename_i hl
      rw [List.pairwise_cons]
      refine ⟨fun z hz => ?_, insB_sorted h.2 fun z hz => hk z (List.mem_cons_of_mem _ hz)⟩
      rcases insB_mem.1 hz with rfl | hz
      · rcases ltB_tri y z with q | q | q
        · exact q
        · exact absurd q (hk y (List.mem_cons_self ..))
        · exact absurd q hl
      · exact h.1 z hz
theorem sortB_mem {z : Rec} : ∀ {l : List Rec}, z ∈ sortB l ↔ z ∈ l
 | [] => Iff.rfl
 | x :: l => by unfold sortB; rw [insB_mem, sortB_mem, List.mem_cons]
theorem sortB_sorted : ∀ {l : List Rec}, keysD l → (sortB l).Pairwise ltB
 | [], _ => .nil
 | x :: l, h => by
  unfold keysD at h
  rw [List.pairwise_cons] at h
  exact insB_sorted (sortB_sorted h.2) fun z hz => (h.1 z (sortB_mem.1 hz)).symm
def famK (l : List Rec) (k : Int × Int) : List Rec := (sortB l).filter fun x => decide ((rt l x).key = k)
theorem fam_mem {l : List Rec} {k : Int × Int} {x : Rec} : x ∈ famK l k ↔ x ∈ l ∧ (rt l x).key = k := by
 unfold famK; rw [List.mem_filter, sortB_mem, decide_eq_true_iff]
theorem fam_sorted {l : List Rec} (hd : keysD l) (k : Int × Int) : (famK l k).Pairwise ltB := (sortB_sorted hd).filter _
def rootsF (l : List Rec) : List Rec := (sortB l).filter fun x => decide (isRoot x)
theorem roots_mem {l : List Rec} {x : Rec} : x ∈ rootsF l ↔ x ∈ l ∧ isRoot x := by
 unfold rootsF; rw [List.mem_filter, sortB_mem, decide_eq_true_iff]
theorem roots_sorted {l : List Rec} (hd : keysD l) : (rootsF l).Pairwise ltB := (sortB_sorted hd).filter _
def lastR (l : List Rec) : Rec := recN l (l.length - 1)
def empty : ByteArray := ⟨#[]⟩
def foldF (l : List Rec) : List Rec := ((rootsF l).map fun r => lastR (famK l r.key)).filter fun x => decide (¬ x.x = empty)
theorem fam_head {l : List Rec} (hv : Vd l) {r : Rec} (hr : r ∈ l) (hq : isRoot r) : 0 < (famK l r.key).length ∧ recN (famK l r.key) 0 = r := by
  have hm : r ∈ famK l r.key := fam_mem.2 ⟨hr, by rw [rt_root hq]⟩
  have h0 : 0 < (famK l r.key).length := List.length_pos_of_mem hm
  refine ⟨h0, ?_⟩
  obtain ⟨i, hi, e⟩ := mem_recN hm
  rcases Nat.eq_zero_or_pos i with q | q
  · rw [q] at e; exact e.symm
  · exfalso
    have hs := List.pairwise_iff_getElem.1 (fam_sorted hv.keys r.key) 0 i h0 hi q
    rw [← recN_get h0, ← recN_get hi, ← e] at hs
    have hx := fam_mem.1 (recN_mem h0)
    obtain ⟨g1, g2, g3⟩ := rt_is hv _ hx.1
    have e2 : rt l (recN (famK l r.key) 0) = r := hv.keys.inj g1 hr hx.2
    rw [e2] at g3
    rcases g3 with g3 | g3
    · rw [← g3] at hs; exact ltB_irrefl _ hs
    · exact ltB_asymm hs g3
theorem fam_none {l : List Rec} (hv : Vd l) {k : Int × Int} (h : ∀ r ∈ l, isRoot r → r.key ≠ k) : famK l k = [] := by
 refine List.eq_nil_iff_forall_not_mem.2 fun x hx => ?_
 obtain ⟨h1, h2⟩ := fam_mem.1 hx
 obtain ⟨g1, g2, _⟩ := rt_is hv x h1
 exact h _ g1 g2 h2
theorem fams_uniq {l : List Rec} (hv : Vd l) {ls : List (List Rec)} (hs : ls.Pairwise fun a b => ltB (recN a 0) (recN b 0)) (hm : ∀ f, f ∈ ls ↔ ∃ r ∈ l, isRoot r ∧ f = famK l r.key) : ls = (rootsF l).map fun r => famK l r.key := by
  refine sort_uniqG (R := fun a b => ltB (recN a 0) (recN b 0)) (fun x => ltB_irrefl _) (fun _ _ => ltB_asymm) hs ?_ fun f => ?_
  · rw [List.pairwise_map]
    refine List.Pairwise.imp_of_mem (fun {a b} ha hb h => ?_) (roots_sorted hv.keys)
    rw [(fam_head hv (roots_mem.1 ha).1 (roots_mem.1 ha).2).2, (fam_head hv (roots_mem.1 hb).1 (roots_mem.1 hb).2).2]; exact h
  · rw [hm, List.mem_map]
    exact ⟨fun ⟨r, h1, h2, h3⟩ => ⟨r, roots_mem.2 ⟨h1, h2⟩, h3.symm⟩, fun ⟨r, h1, h2⟩ => ⟨r, (roots_mem.1 h1).1, (roots_mem.1 h1).2, h2.symm⟩⟩
def histF (l : List Rec) (k : Int × Int) : Option (List Rec) := (findK l k).map fun x => famK l (rt l x).key
end Rep
end Go.Proofs.YtfmoabgjaclkpaaGreatDoor

namespace Go.Proofs.YtfmoabgjaclkpaaGreatDoor
set_option maxRecDepth 1000000
set_option maxHeartbeats 4000000
set_option synthInstance.maxHeartbeats 0
set_option synthInstance.maxSize 9999
open Go.RowKit
def Tz35_0 : List Row := [(some 7, [1], []), (some 8, [2], []), (some 9, [8], [1]), (some 10, [7, 9], [0, 2]), (some 6, [10], [3]), (some 11, [6], [4]), (some 12, [6], [4]), (some 4, [], []), (none, [4, 11], [7, 5, 2, 0, 1, 2, 3, 4, 5, 7]), (some 5, [12], [6, 8, 0, 1, 2, 3, 4, 5, 6, 7, 8])]
theorem contrad1_c {w1 : World} {B : Nat} {mp : List ((Int × Int) × Rec)} {w2 : World} {B6 : Nat} (x : Rec) (w : World) (hM : MapS keyV Rec.val w1 B mp) (e1 : Ext w1 w) (cB : w2.cell? ⟨B6, 0, none⟩ = some (.map (some B))) (e2 : Ext w2 w) : Calls Tryz.prog 87 #[rvv x, pw B6 0] w fun e w' => e = .returned (.bool (Rep.contrB mp x)) ∧ Ext w w' := by
 replace hM := hM.ext e1;clear e1;have hBl := hM.lt;replace cB := e2.cell cB;clear e2;have Et := World.block_lt_of_cell? _ _ cB;refine calls_cw 19 [(1, pw B6 0), (0, rvv x)] Tryz.func87 rfl Tryz.ntmps87 (by kernel_rfl) (by kernel_rfl) (fun L => ?_);have hE := Ext.refl w;refine zc (zp (pS (sw 49 #[iv x.c, iv x.n, iv x.t, iv x.o, iv x.w, iv x.k, .string x.x] ?_)));intro O1 X2 F1 F0 hb hbx;have ⟨B3, B4, B7, B8, Ba, Bb, Bc⟩ := bq7 hbx;replace hE := hE.trans hb;have Dc := hb.size;have Fh := B3.lt;refine pT (.bool false) ?_;refine zn (cw_seq ?_);rcases hg : getM (x.c, x.n) mp with _ | y
 ·
  have B2 := Ext.refl X2;refine cw_join (fun ws' Y => ∃ Cv : Nat, ws' = [(2, pw O1 0), (4, pw Cv 0), (5, .bool false)] ∧ Ext w Y ∧ Ext X2 Y ∧ BoxAt Y Cv 0 (iv 0) ∧ BoxAt Y Cv 1 (iv 0) ∧ BoxAt Y Cv 2 (iv 0) ∧ BoxAt Y Cv 3 (iv 0) ∧ BoxAt Y Cv 4 (iv 0) ∧ BoxAt Y Cv 5 (iv 0) ∧ BoxAt Y Cv 6 (.string (⟨#[]⟩)) ∧ X2.heap.size ≤ Y.heap.size ∧ X2.heap.size ≤ Cv) (fun hJ => ?_) ?_
  ·
   refine dE Tz35_0 (fun w' => w'.cell? ⟨B6, 0, none⟩ = some (.map (some B)) ∧ w'.cell? ⟨O1, 0, none⟩ = some (iv x.c) ∧ w'.cell? ⟨O1, 1, none⟩ = some (iv x.n) ∧ w'.cell? ⟨O1, 2, none⟩ = some (iv x.t) ∧ w'.cell? ⟨O1, 3, none⟩ = some (iv x.o) ∧ w'.cell? ⟨O1, 4, none⟩ = some (iv x.w) ∧ w'.cell? ⟨O1, 5, none⟩ = some (iv x.k) ∧ w'.cell? ⟨O1, 6, none⟩ = some (.string x.x)) (⟨(hE.cell cB), B3.1, B4.1, B7.1, B8.1, Ba.1, Bb.1, Bc.1⟩) (fun ops Q X6 hb hL hR hK => ?_);refine mv2 hb hE B2 fun hE B2=>?_;have Cz := hb.size;have Eb := A8 (hE.cell cB) (B3.c B2) (B4.c B2) (B7.c B2) (B8.c B2) (Ba.c B2) (Bb.c B2) (Bc.c B2);refine wM 0 (.map (some B)) hR (fun w hS => ld79 (hS.1)) Eb ?_;refine wM 1 (rvv x) hR (fun w hS => ld49 (hS.2.1) (hS.2.2.1) (hS.2.2.2.1) (hS.2.2.2.2.1) (hS.2.2.2.2.2.1) (hS.2.2.2.2.2.2.1) (hS.2.2.2.2.2.2.2)) Eb ?_;refine zw 2 7 hR ?_ ?_
   ·
    refine sc 68 #[rvv x] ((keyOf_c x _).mono ?_);rintro e w9 ⟨rfl, hb⟩;refine mv2 hb hE B2 fun hE B2=>?_;have Cm := hb.size;have D0 := A8 (hE.cell cB) (B3.c B2) (B4.c B2) (B7.c B2) (B8.c B2) (Ba.c B2) (Bb.c B2) (Bc.c B2);refine ⟨_, rfl, D0, ?_⟩;refine zw 3 7 hR ?_ ?_
    ·
     refine sn_eff (v := .tuple #[.agg #[iv 0, iv 0, iv 0, iv 0, iv 0, iv 0, .string (⟨#[]⟩)], .bool false]) (w' := w9) (ex_lookup rfl (by kernel_rfl) (by kernel_rfl) (lookup_is2 (run_lookup2 Tryz.underlying79 (hM.ext hE) key_law (x.c, x.n) (zero_rec _)) hg)) ⟨D0, ?_⟩;refine wW 4 (.tuple #[.agg #[iv 0, iv 0, iv 0, iv 0, iv 0, iv 0, .string (⟨#[]⟩)], .bool false]) 5 (.agg #[iv 0, iv 0, iv 0, iv 0, iv 0, iv 0, .string (⟨#[]⟩)]) hR D0 ?_;refine wV 6 (.bool false) hR D0 ?_;refine wN 7 49 #[iv 0, iv 0, iv 0, iv 0, iv 0, iv 0, .string (⟨#[]⟩)] hR ?_;intro Cv Ek D6 Ec hb hbx;have ⟨Bf, C1, C2, C3, C4, C5, C6⟩ := bq7 hbx;refine mv2 hb hE B2 fun hE B2=>?_;have Du := hb.size;have F2 := Bf.lt;have Dp := A8 (hE.cell cB) (B3.c B2) (B4.c B2) (B7.c B2) (B8.c B2) (Ba.c B2) (Bb.c B2) (Bc.c B2);refine ⟨Dp, ?_⟩;refine wS 8 hR (sn_setK7 (O := Cv) (j := 0) (v0 := iv 0) (v1 := iv 0) (v2 := iv 0) (v3 := iv 0) (v4 := iv 0) (v5 := iv 0) (v6 := .string (⟨#[]⟩)) (ex_store (p := pw Cv 0) (v := .agg #[iv 0, iv 0, iv 0, iv 0, iv 0, iv 0, .string (⟨#[]⟩)]) rfl (by kernel_rfl) (by kernel_rfl) (st49 Bf.1 Bf.2 C1.1 C1.2 C2.1 C2.2 C3.1 C3.2 C4.1 C4.2 C5.1 C5.2 C6.1 C6.2)) Bf C1 C2 C3 C4 C5 C6 ?_);intro El ho Bf C1 C2 C3 C4 C5 C6 hk;replace hE := ho.ext hE (T (T Dc (T Cz Cm)) (Nat.le_of_eq D6));replace B2 := ho.ext B2 (T (T Cz Cm) (Nat.le_of_eq D6));have Dv := Nat.le_of_eq ho.size.symm;clear ho hk;have Dd := A8 (hE.cell cB) (B3.c B2) (B4.c B2) (B7.c B2) (B8.c B2) (Ba.c B2) (Bb.c B2) (Bc.c B2);refine ⟨Dd, ?_⟩;refine wV 9 (.bool false) hR Dd ?_;refine we hL hR hK ?_;exact zl hJ [2, 4, 5] ⟨Cv, rfl, hE, B2, Bf, C1, C2, C3, C4, C5, C6, (T Cz (T Cm (T Du Dv))), (T (T Cz Cm) (Nat.le_of_eq D6))⟩
    ·
     refine sw 49 #[iv 0, iv 0, iv 0, iv 0, iv 0, iv 0, .string (⟨#[]⟩)] ?_;intro Dk E8 D7 Ed hb hbx;have ⟨C7, C9, Ca, Cb, Cc, Cd, Ce⟩ := bq7 hbx;refine mv2 hb hE B2 fun hE B2=>?_;have Dw := hb.size;have F3 := C7.lt;have D1 := A8 (hE.cell cB) (B3.c B2) (B4.c B2) (B7.c B2) (B8.c B2) (Ba.c B2) (Bb.c B2) (Bc.c B2);refine ⟨D1, ?_⟩;refine wS 3 hR (sn_eff (v := .tuple #[.agg #[iv 0, iv 0, iv 0, iv 0, iv 0, iv 0, .string (⟨#[]⟩)], .bool false]) (w' := E8) (ex_lookup rfl (by kernel_rfl) (by kernel_rfl) (lookup_is2 (run_lookup2 Tryz.underlying79 (hM.ext hE) key_law (x.c, x.n) (zero_rec _)) hg)) ⟨D1, ?_⟩);refine wW 4 (.tuple #[.agg #[iv 0, iv 0, iv 0, iv 0, iv 0, iv 0, .string (⟨#[]⟩)], .bool false]) 5 (.agg #[iv 0, iv 0, iv 0, iv 0, iv 0, iv 0, .string (⟨#[]⟩)]) hR D1 ?_;refine wV 6 (.bool false) hR D1 ?_;refine wS 8 hR (sn_setK7 (O := Dk) (j := 0) (v0 := iv 0) (v1 := iv 0) (v2 := iv 0) (v3 := iv 0) (v4 := iv 0) (v5 := iv 0) (v6 := .string (⟨#[]⟩)) (ex_store (p := pw Dk 0) (v := .agg #[iv 0, iv 0, iv 0, iv 0, iv 0, iv 0, .string (⟨#[]⟩)]) rfl (by kernel_rfl) (by kernel_rfl) (st49 C7.1 C7.2 C9.1 C9.2 Ca.1 Ca.2 Cb.1 Cb.2 Cc.1 Cc.2 Cd.1 Cd.2 Ce.1 Ce.2)) C7 C9 Ca Cb Cc Cd Ce ?_);intro Em ho C7 C9 Ca Cb Cc Cd Ce hk;replace hE := ho.ext hE (T (T Dc (T Cz Cm)) (Nat.le_of_eq D7));replace B2 := ho.ext B2 (T (T Cz Cm) (Nat.le_of_eq D7));have Dx := Nat.le_of_eq ho.size.symm;clear ho hk;have De := A8 (hE.cell cB) (B3.c B2) (B4.c B2) (B7.c B2) (B8.c B2) (Ba.c B2) (Bb.c B2) (Bc.c B2);refine ⟨De, ?_⟩;refine wV 9 (.bool false) hR De ?_;refine we hL hR hK ?_;exact zl hJ [2, 4, 5] ⟨Dk, rfl, hE, B2, C7, C9, Ca, Cb, Cc, Cd, Ce, (T Cz (T Cm (T Dw Dx))), (T (T Cz Cm) (Nat.le_of_eq D7))⟩
   ·
    refine sw 49 #[iv 0, iv 0, iv 0, iv 0, iv 0, iv 0, .string (⟨#[]⟩)] ?_;intro Dl Fe D8 Ee hb hbx;have ⟨Bg, Bp, Bq, Br, Bs, Bt, Bu⟩ := bq7 hbx;refine mv2 hb hE B2 fun hE B2=>?_;have Dy := hb.size;have F4 := Bg.lt;have Dq := A8 (hE.cell cB) (B3.c B2) (B4.c B2) (B7.c B2) (B8.c B2) (Ba.c B2) (Bb.c B2) (Bc.c B2);refine ⟨Dq, ?_⟩;refine wC 2 68 #[rvv x] hR ((keyOf_c x _).mono ?_);rintro e Ei ⟨rfl, hb⟩;refine mv9 hb hE B2 Bg Bp Bq Br Bs Bt Bu fun hE B2 Bg Bp Bq Br Bs Bt Bu=>?_;have Dz := hb.size;have D2 := A8 (hE.cell cB) (B3.c B2) (B4.c B2) (B7.c B2) (B8.c B2) (Ba.c B2) (Bb.c B2) (Bc.c B2);refine ⟨_, rfl, D2, ?_⟩;refine wS 3 hR (sn_eff (v := .tuple #[.agg #[iv 0, iv 0, iv 0, iv 0, iv 0, iv 0, .string (⟨#[]⟩)], .bool false]) (w' := Ei) (ex_lookup rfl (by kernel_rfl) (by kernel_rfl) (lookup_is2 (run_lookup2 Tryz.underlying79 (hM.ext hE) key_law (x.c, x.n) (zero_rec _)) hg)) ⟨D2, ?_⟩);refine wW 4 (.tuple #[.agg #[iv 0, iv 0, iv 0, iv 0, iv 0, iv 0, .string (⟨#[]⟩)], .bool false]) 5 (.agg #[iv 0, iv 0, iv 0, iv 0, iv 0, iv 0, .string (⟨#[]⟩)]) hR D2 ?_;refine wV 6 (.bool false) hR D2 ?_;refine wS 8 hR (sn_setK7 (O := Dl) (j := 0) (v0 := iv 0) (v1 := iv 0) (v2 := iv 0) (v3 := iv 0) (v4 := iv 0) (v5 := iv 0) (v6 := .string (⟨#[]⟩)) (ex_store (p := pw Dl 0) (v := .agg #[iv 0, iv 0, iv 0, iv 0, iv 0, iv 0, .string (⟨#[]⟩)]) rfl (by kernel_rfl) (by kernel_rfl) (st49 Bg.1 Bg.2 Bp.1 Bp.2 Bq.1 Bq.2 Br.1 Br.2 Bs.1 Bs.2 Bt.1 Bt.2 Bu.1 Bu.2)) Bg Bp Bq Br Bs Bt Bu ?_);intro En ho Bg Bp Bq Br Bs Bt Bu hk;replace hE := ho.ext hE (T (T Dc Cz) (Nat.le_of_eq D8));replace B2 := ho.ext B2 (T Cz (Nat.le_of_eq D8));have E0 := Nat.le_of_eq ho.size.symm;clear ho hk;have Df := A8 (hE.cell cB) (B3.c B2) (B4.c B2) (B7.c B2) (B8.c B2) (Ba.c B2) (Bb.c B2) (Bc.c B2);refine ⟨Df, ?_⟩;refine wV 9 (.bool false) hR Df ?_;refine we hL hR hK ?_;exact zl hJ [2, 4, 5] ⟨Dl, rfl, hE, B2, Bg, Bp, Bq, Br, Bs, Bt, Bu, (T Cz (T Dy (T Dz E0))), (T Cz (Nat.le_of_eq D8))⟩
  ·
   clear hE B2;rintro L ws Ea ⟨Cv, rfl, hE, B2, Bf, C1, C2, C3, C4, C5, C6, Ev, Ew⟩;have F5 := Bf.lt;refine qw_then ?_;refine cw_seq ?_;have Eu := Ext.refl Ea;refine zp (pD (.bool false) (.bool false) ?_);refine pK ?_;refine pK ?_;refine pK ?_;refine pD (.bool false) (.bool false) ?_;refine zn (cw_ret (qw_ret [.bool false] rfl ⟨(by kernel_rfl), trivial⟩ ?_));exact ⟨rb (show Rep.contrB mp x = false by unfold Rep.contrB; show (match getM (x.c, x.n) mp with | some x9 => _ | none => _) = _; rw [hg]; first | done | simp []).symm, hE⟩
 ·
  have B0 := Ext.refl X2;refine cw_join (fun ws' Y => ∃ Cw : Nat, ws' = [(2, pw O1 0), (4, pw Cw 0), (5, .bool true)] ∧ Ext w Y ∧ Ext X2 Y ∧ BoxAt Y Cw 0 (iv y.c) ∧ BoxAt Y Cw 1 (iv y.n) ∧ BoxAt Y Cw 2 (iv y.t) ∧ BoxAt Y Cw 3 (iv y.o) ∧ BoxAt Y Cw 4 (iv y.w) ∧ BoxAt Y Cw 5 (iv y.k) ∧ BoxAt Y Cw 6 (.string y.x) ∧ X2.heap.size ≤ Y.heap.size ∧ X2.heap.size ≤ Cw) (fun hJ => ?_) ?_
  ·
   refine dE Tz35_0 (fun w' => w'.cell? ⟨B6, 0, none⟩ = some (.map (some B)) ∧ w'.cell? ⟨O1, 0, none⟩ = some (iv x.c) ∧ w'.cell? ⟨O1, 1, none⟩ = some (iv x.n) ∧ w'.cell? ⟨O1, 2, none⟩ = some (iv x.t) ∧ w'.cell? ⟨O1, 3, none⟩ = some (iv x.o) ∧ w'.cell? ⟨O1, 4, none⟩ = some (iv x.w) ∧ w'.cell? ⟨O1, 5, none⟩ = some (iv x.k) ∧ w'.cell? ⟨O1, 6, none⟩ = some (.string x.x)) (⟨(hE.cell cB), B3.1, B4.1, B7.1, B8.1, Ba.1, Bb.1, Bc.1⟩) (fun ops Q Ff hb hL hR hK => ?_);refine mv2 hb hE B0 fun hE B0=>?_;have Cl := hb.size;have Dg := A8 (hE.cell cB) (B3.c B0) (B4.c B0) (B7.c B0) (B8.c B0) (Ba.c B0) (Bb.c B0) (Bc.c B0);refine wM 0 (.map (some B)) hR (fun w hS => ld79 (hS.1)) Dg ?_;refine wM 1 (rvv x) hR (fun w hS => ld49 (hS.2.1) (hS.2.2.1) (hS.2.2.2.1) (hS.2.2.2.2.1) (hS.2.2.2.2.2.1) (hS.2.2.2.2.2.2.1) (hS.2.2.2.2.2.2.2)) Dg ?_;refine zw 2 7 hR ?_ ?_
   ·
    refine sc 68 #[rvv x] ((keyOf_c x _).mono ?_);rintro e Fd ⟨rfl, hb⟩;refine mv2 hb hE B0 fun hE B0=>?_;have Cn := hb.size;have D3 := A8 (hE.cell cB) (B3.c B0) (B4.c B0) (B7.c B0) (B8.c B0) (Ba.c B0) (Bb.c B0) (Bc.c B0);refine ⟨_, rfl, D3, ?_⟩;refine zw 3 7 hR ?_ ?_
    ·
     refine sn_eff (v := .tuple #[rvv y, .bool true]) (w' := Fd) (ex_lookup rfl (by kernel_rfl) (by kernel_rfl) (lookup_is2 (run_lookup2 Tryz.underlying79 (hM.ext hE) key_law (x.c, x.n) (zero_rec _)) hg)) ⟨D3, ?_⟩;refine wW 4 (.tuple #[rvv y, .bool true]) 5 (rvv y) hR D3 ?_;refine wV 6 (.bool true) hR D3 ?_;refine wN 7 49 #[iv 0, iv 0, iv 0, iv 0, iv 0, iv 0, .string (⟨#[]⟩)] hR ?_;intro Cw Eo D9 Ef hb hbx;have ⟨Be, Bh, Bi, Bj, Bk, Bm, Bn⟩ := bq7 hbx;refine mv2 hb hE B0 fun hE B0=>?_;have E1 := hb.size;have F6 := Be.lt;have Dr := A8 (hE.cell cB) (B3.c B0) (B4.c B0) (B7.c B0) (B8.c B0) (Ba.c B0) (Bb.c B0) (Bc.c B0);refine ⟨Dr, ?_⟩;refine wS 8 hR (sn_setK7 (O := Cw) (j := 0) (v0 := iv y.c) (v1 := iv y.n) (v2 := iv y.t) (v3 := iv y.o) (v4 := iv y.w) (v5 := iv y.k) (v6 := .string y.x) (ex_store (p := pw Cw 0) (v := rvv y) rfl (by kernel_rfl) (by kernel_rfl) (st49 Be.1 Be.2 Bh.1 Bh.2 Bi.1 Bi.2 Bj.1 Bj.2 Bk.1 Bk.2 Bm.1 Bm.2 Bn.1 Bn.2)) Be Bh Bi Bj Bk Bm Bn ?_);intro Ep ho Be Bh Bi Bj Bk Bm Bn hk;replace hE := ho.ext hE (T (T Dc (T Cl Cn)) (Nat.le_of_eq D9));replace B0 := ho.ext B0 (T (T Cl Cn) (Nat.le_of_eq D9));have E2 := Nat.le_of_eq ho.size.symm;clear ho hk;have Dh := A8 (hE.cell cB) (B3.c B0) (B4.c B0) (B7.c B0) (B8.c B0) (Ba.c B0) (Bb.c B0) (Bc.c B0);refine ⟨Dh, ?_⟩;refine wV 9 (.bool true) hR Dh ?_;refine we hL hR hK ?_;exact zl hJ [2, 4, 5] ⟨Cw, rfl, hE, B0, Be, Bh, Bi, Bj, Bk, Bm, Bn, (T Cl (T Cn (T E1 E2))), (T (T Cl Cn) (Nat.le_of_eq D9))⟩
    ·
     refine sw 49 #[iv 0, iv 0, iv 0, iv 0, iv 0, iv 0, .string (⟨#[]⟩)] ?_;intro Dm E9 Da Eg hb hbx;have ⟨C8, Cf, Cg, Ch, Ci, Cj, Ck⟩ := bq7 hbx;refine mv2 hb hE B0 fun hE B0=>?_;have E3 := hb.size;have F7 := C8.lt;have D4 := A8 (hE.cell cB) (B3.c B0) (B4.c B0) (B7.c B0) (B8.c B0) (Ba.c B0) (Bb.c B0) (Bc.c B0);refine ⟨D4, ?_⟩;refine wS 3 hR (sn_eff (v := .tuple #[rvv y, .bool true]) (w' := E9) (ex_lookup rfl (by kernel_rfl) (by kernel_rfl) (lookup_is2 (run_lookup2 Tryz.underlying79 (hM.ext hE) key_law (x.c, x.n) (zero_rec _)) hg)) ⟨D4, ?_⟩);refine wW 4 (.tuple #[rvv y, .bool true]) 5 (rvv y) hR D4 ?_;refine wV 6 (.bool true) hR D4 ?_;refine wS 8 hR (sn_setK7 (O := Dm) (j := 0) (v0 := iv y.c) (v1 := iv y.n) (v2 := iv y.t) (v3 := iv y.o) (v4 := iv y.w) (v5 := iv y.k) (v6 := .string y.x) (ex_store (p := pw Dm 0) (v := rvv y) rfl (by kernel_rfl) (by kernel_rfl) (st49 C8.1 C8.2 Cf.1 Cf.2 Cg.1 Cg.2 Ch.1 Ch.2 Ci.1 Ci.2 Cj.1 Cj.2 Ck.1 Ck.2)) C8 Cf Cg Ch Ci Cj Ck ?_);intro Er ho C8 Cf Cg Ch Ci Cj Ck hk;replace hE := ho.ext hE (T (T Dc (T Cl Cn)) (Nat.le_of_eq Da));replace B0 := ho.ext B0 (T (T Cl Cn) (Nat.le_of_eq Da));have E4 := Nat.le_of_eq ho.size.symm;clear ho hk;have Di := A8 (hE.cell cB) (B3.c B0) (B4.c B0) (B7.c B0) (B8.c B0) (Ba.c B0) (Bb.c B0) (Bc.c B0);refine ⟨Di, ?_⟩;refine wV 9 (.bool true) hR Di ?_;refine we hL hR hK ?_;exact zl hJ [2, 4, 5] ⟨Dm, rfl, hE, B0, C8, Cf, Cg, Ch, Ci, Cj, Ck, (T Cl (T Cn (T E3 E4))), (T (T Cl Cn) (Nat.le_of_eq Da))⟩
   ·
    refine sw 49 #[iv 0, iv 0, iv 0, iv 0, iv 0, iv 0, .string (⟨#[]⟩)] ?_;intro Dn Fg Db Eh hb hbx;have ⟨Bo, Bv, Bw, Bx, By, Bz, C0⟩ := bq7 hbx;refine mv2 hb hE B0 fun hE B0=>?_;have E5 := hb.size;have F8 := Bo.lt;have Dt := A8 (hE.cell cB) (B3.c B0) (B4.c B0) (B7.c B0) (B8.c B0) (Ba.c B0) (Bb.c B0) (Bc.c B0);refine ⟨Dt, ?_⟩;refine wC 2 68 #[rvv x] hR ((keyOf_c x _).mono ?_);rintro e Ej ⟨rfl, hb⟩;refine mv9 hb hE B0 Bo Bv Bw Bx By Bz C0 fun hE B0 Bo Bv Bw Bx By Bz C0=>?_;have E6 := hb.size;have D5 := A8 (hE.cell cB) (B3.c B0) (B4.c B0) (B7.c B0) (B8.c B0) (Ba.c B0) (Bb.c B0) (Bc.c B0);refine ⟨_, rfl, D5, ?_⟩;refine wS 3 hR (sn_eff (v := .tuple #[rvv y, .bool true]) (w' := Ej) (ex_lookup rfl (by kernel_rfl) (by kernel_rfl) (lookup_is2 (run_lookup2 Tryz.underlying79 (hM.ext hE) key_law (x.c, x.n) (zero_rec _)) hg)) ⟨D5, ?_⟩);refine wW 4 (.tuple #[rvv y, .bool true]) 5 (rvv y) hR D5 ?_;refine wV 6 (.bool true) hR D5 ?_;refine wS 8 hR (sn_setK7 (O := Dn) (j := 0) (v0 := iv y.c) (v1 := iv y.n) (v2 := iv y.t) (v3 := iv y.o) (v4 := iv y.w) (v5 := iv y.k) (v6 := .string y.x) (ex_store (p := pw Dn 0) (v := rvv y) rfl (by kernel_rfl) (by kernel_rfl) (st49 Bo.1 Bo.2 Bv.1 Bv.2 Bw.1 Bw.2 Bx.1 Bx.2 By.1 By.2 Bz.1 Bz.2 C0.1 C0.2)) Bo Bv Bw Bx By Bz C0 ?_);intro Es ho Bo Bv Bw Bx By Bz C0 hk;replace hE := ho.ext hE (T (T Dc Cl) (Nat.le_of_eq Db));replace B0 := ho.ext B0 (T Cl (Nat.le_of_eq Db));have E7 := Nat.le_of_eq ho.size.symm;clear ho hk;have Dj := A8 (hE.cell cB) (B3.c B0) (B4.c B0) (B7.c B0) (B8.c B0) (Ba.c B0) (Bb.c B0) (Bc.c B0);refine ⟨Dj, ?_⟩;refine wV 9 (.bool true) hR Dj ?_;refine we hL hR hK ?_;exact zl hJ [2, 4, 5] ⟨Dn, rfl, hE, B0, Bo, Bv, Bw, Bx, By, Bz, C0, (T Cl (T E5 (T E6 E7))), (T Cl (Nat.le_of_eq Db))⟩
  ·
   clear hE B0;rintro L ws Do ⟨Cw, rfl, hE, B0, Be, Bh, Bi, Bj, Bk, Bm, Bn, Ey, Ez⟩;have Fc := Be.lt;refine zq (cw_seq ?_)
   by_cases hB : y = x
   ·
    have Cx := Ext.refl Do;refine zp (pD (.bool true) (.bool true) ?_);refine pU (rvv y) (xl (ld49 (Be.1) (Bh.1) (Bi.1) (Bj.1) (Bk.1) (Bm.1) (Bn.1))) ?_;refine pU (rvv x) (xl (ld49 (B3.c (B0.trans Cx)) (B4.c (B0.trans Cx)) (B7.c (B0.trans Cx)) (B8.c (B0.trans Cx)) (Ba.c (B0.trans Cx)) (Bb.c (B0.trans Cx)) (Bc.c (B0.trans Cx)))) ?_;refine pU (.bool false) (ex_binV (a := rvv y) (b := rvv x) rfl (by kernel_rfl) (by kernel_rfl) (eqG_agg (by kernel_rfl)) (bin_nqv_t (rec_eq _ y x) hB)) ?_;refine pD (.bool false) (.bool false) ?_;refine zn (cw_ret (qw_ret [.bool false] rfl ⟨(by kernel_rfl), trivial⟩ ?_));exact ⟨rb (show Rep.contrB mp x = false by unfold Rep.contrB; show (match getM (x.c, x.n) mp with | some x9 => _ | none => _) = _; rw [hg]; first | done | simp [hB]).symm, hE⟩
   ·
    have Cy := Ext.refl Do;refine zp (pD (.bool true) (.bool true) ?_);refine pU (rvv y) (xl (ld49 (Be.1) (Bh.1) (Bi.1) (Bj.1) (Bk.1) (Bm.1) (Bn.1))) ?_;refine pU (rvv x) (xl (ld49 (B3.c (B0.trans Cy)) (B4.c (B0.trans Cy)) (B7.c (B0.trans Cy)) (B8.c (B0.trans Cy)) (Ba.c (B0.trans Cy)) (Bb.c (B0.trans Cy)) (Bc.c (B0.trans Cy)))) ?_;refine pU (.bool true) (ex_binV (a := rvv y) (b := rvv x) rfl (by kernel_rfl) (by kernel_rfl) (eqG_agg (by kernel_rfl)) (bin_nqv_f (rec_eq _ y x) hB)) ?_;refine pD (.bool true) (.bool true) ?_;refine zn (cw_ret (qw_ret [.bool true] rfl ⟨(by kernel_rfl), trivial⟩ ?_));exact ⟨rb (show Rep.contrB mp x = true by unfold Rep.contrB; show (match getM (x.c, x.n) mp with | some x9 => _ | none => _) = _; rw [hg]; first | done | simp [hB]).symm, hE⟩
theorem contrad1_r {w1 : World} {B : Nat} {mp : List ((Int × Int) × Rec)} {w2 : World} {B6 : Nat} (x : Rec) {r : Bool} (w : World) (hM : MapS keyV Rec.val w1 B mp) (e1 : Ext w1 w) (cB : w2.cell? ⟨B6, 0, none⟩ = some (.map (some B))) (e2 : Ext w2 w) (hr : (Rep.contrB mp x) = r) : Calls Tryz.prog 87 #[rvv x, .pointer (some ⟨B6, 0, none⟩)] w fun e w' => e = .returned (.bool r) ∧ Ext w w' := hr ▸ contrad1_c x w hM e1 cB e2
theorem IndexC_c {w1 : World} {B : Nat} {mp : List ((Int × Int) × Rec)} {w2 : World} {B6 : Nat} {w0 : World} {a : Option Addr} {n : Nat} {l : List Rec} (c : Nat) (w : World) (H : RecsAt w0 a n l) (e0 : Ext w0 w) (hM : MapS keyV Rec.val w1 B mp) (e1 : Ext w1 w) (cB : w2.cell? ⟨B6, 0, none⟩ = some (.map (some B))) (e2 : Ext w2 w) : Calls Tryz.prog 86 #[.slice a n c, .func (.func 87) #[] #[pw B6 0]] w fun e w' => e = .returned (iv (Rep.ixF ((Rep.contrB mp)) l)) ∧ Ext w w' := by
 replace H := H.ext e0;clear e0;obtain ⟨b, o, ha, hbr, hx⟩ := H.parts;have hln := H.len;have hmx := H.max;refine calls_cw 19 [(1, .func (.func 87) #[] #[pw B6 0]), (0, .slice a n c)] Tryz.func86 rfl Tryz.ntmps86 (by kernel_rfl) (by kernel_rfl) (fun L => ?_);have hE := Ext.refl w;refine zc (zp (pT (iv 0) ?_));refine zn (zc (zc (zp (pD (.slice a n c) (iv n) ?_))));refine pT (iv 0) ?_;refine zn (cw_block ?_);refine cw_loop [0, 1, 7, 8] (fun ws' wr m => ∃ i : Nat, ws' = [(0, .slice a n c), (1, .func (.func 87) #[] #[pw B6 0]), (7, iv n), (8, iv i)] ∧ m = n - i ∧ w.heap.size ≤ wr.heap.size ∧ Ext w wr ∧ i ≤ n ∧ (∀ j, j < i → (Rep.contrB mp) (recN l j) = false)) (ws0 := [(0, .slice a n c), (1, .func (.func 87) #[] #[pw B6 0]), (7, iv n), (8, iv 0)]) (by kernel_rfl) _ ⟨0, rfl, rfl, Nat.le_refl _, hE, Nat.zero_le _, (fun j hj => absurd hj (Nat.not_lt_zero j))⟩ ?_;clear hE;rintro m3 L ws w2 ⟨i, rfl, rfl, B0, hE, hi, hno⟩
 by_cases hlt : i < n
 ·
  obtain rfl := ha (by omega);have hbl := hbr (by omega);refine zc (zp (pU (.bool true) (ed (((i : Nat) : Int) < ((n : Nat) : Int)) (by omega)) ?_));refine zn (zc (zt ?_));refine cw_skip (zq (zc (cw_block ?_)));refine zc (zp (pD (iv i) (iv i) ?_));refine zn (cw_seq ?_)
  cases hq : (Rep.contrB mp) (recN l i)
  ·
   refine zp (pD (.func (.func 87) #[] #[pw B6 0]) (sv b o n c) ?_);refine pT (iv i) ?_;refine pU (pw b (o + i * 7)) (xi (sv b o n c) (iv i) (ix23 (k := i) (by omega))) ?_;refine pU (rvv (recN l i)) (xl (rl ((hx.ext hE).r (i := i) (by omega)))) ?_;refine pS (sc 87 #[rvv (recN l i), pw B6 0] ((contrad1_r (recN l i) (r := false) _ hM (e1.trans hE) cB (e2.trans hE) hq).mono ?_));rintro e w4 ⟨rfl, hb⟩;replace hE := hE.trans hb;have B2 := hb.size;refine ⟨_, rfl, ?_⟩;refine zn (zf ?_);refine cw_skip (qw_block (zq (zp (pU (iv ((i + 1 : Nat) : Int)) (ew (by omega) (by omega)) ?_))));refine pT (iv ((i + 1 : Nat) : Int)) ?_;refine pl_nil (zr [0, 1, 7, 8] _ ?_ ⟨(i + 1), rfl, rfl, (T B0 B2), hE, by omega, (fun j hj => by rcases Nat.lt_succ_iff_lt_or_eq.1 hj with h | h; exact hno j h; rw [h]; exact hq)⟩);omega
  ·
   refine zp (pD (.func (.func 87) #[] #[pw B6 0]) (sv b o n c) ?_);refine pT (iv i) ?_;refine pU (pw b (o + i * 7)) (xi (sv b o n c) (iv i) (ix23 (k := i) (by omega))) ?_;refine pU (rvv (recN l i)) (xl (rl ((hx.ext hE).r (i := i) (by omega)))) ?_;refine pS (sc 87 #[rvv (recN l i), pw B6 0] ((contrad1_r (recN l i) (r := true) _ hM (e1.trans hE) cB (e2.trans hE) hq).mono ?_));rintro e w6 ⟨rfl, hb⟩;replace hE := hE.trans hb;have B3 := hb.size;refine ⟨_, rfl, ?_⟩;refine zn (zt ?_);refine zc (zp (pD (iv i) (iv i) ?_));refine zn (cK [4] (fun L => ?_));refine cw_ret (qw_block_ret (qw_then_ret (qw_then_ret (qw_block_ret (qw_then_ret (qw_ret [iv i] rfl ⟨(by kernel_rfl), trivial⟩ ?_))))));exact ⟨congrArg (fun z => Ending.returned (Value.int .i64 z)) (Rep.ix_found (by omega) hno hq).symm, hE⟩
 ·
  refine zc (zp (pU (.bool false) (en (((i : Nat) : Int) < ((n : Nat) : Int)) (by omega)) ?_));refine zn (zc (zf ?_));refine cw_exit (qw_then_exit (qw_then_exit (qw_block_out (zq (zc (zp (pT (iv (-1 : Int)) ?_)))))));refine zn (cw_ret (qw_ret [iv (-1 : Int)] rfl ⟨(by kernel_rfl), trivial⟩ ?_));exact ⟨congrArg (fun z => Ending.returned (Value.int .i64 z)) (Rep.ix_none fun j hj => hno j (by omega)).symm, hE⟩
theorem ContainsC_c {w1 : World} {B : Nat} {mp : List ((Int × Int) × Rec)} {w2 : World} {B6 : Nat} {w0 : World} {a : Option Addr} {n : Nat} {l : List Rec} (c : Nat) (w : World) (H : RecsAt w0 a n l) (e0 : Ext w0 w) (hM : MapS keyV Rec.val w1 B mp) (e1 : Ext w1 w) (cB : w2.cell? ⟨B6, 0, none⟩ = some (.map (some B))) (e2 : Ext w2 w) : Calls Tryz.prog 54 #[.slice a n c, .func (.func 87) #[] #[pw B6 0]] w fun e w' => e = .returned (.bool (l.any (Rep.contrB mp))) ∧ Ext w w' := by
 refine calls_cw 9 [(1, .func (.func 87) #[] #[pw B6 0]), (0, .slice a n c)] Tryz.func54 rfl Tryz.ntmps54 (by kernel_rfl) (by kernel_rfl) (fun L => ?_);have hE := Ext.refl w;refine zc (zp (pT (.bool false) ?_));refine zn (zc (zp (pD (.slice a n c) (.func (.func 87) #[] #[pw B6 0]) ?_)));refine pS (sc 86 #[.slice a n c, .func (.func 87) #[] #[pw B6 0]] ((IndexC_c _ _ H e0 hM e1 cB e2).mono ?_));rintro e w1 ⟨rfl, hb⟩;replace hE := hE.trans hb;have hs2 := hb.size;refine ⟨_, rfl, pU (.bool (l.any (Rep.contrB mp))) (ev_bool (show _ = Result.ok (Next.value (Value.bool (decide ((Rep.ixF (Rep.contrB mp) l : Int) ≥ (0 : Int))))) _ from by kernel_rfl) (Rep.ix_any _ _)) ?_⟩;refine pT (.bool (l.any (Rep.contrB mp))) ?_;refine zn (cw_ret (qw_ret [.bool (l.any (Rep.contrB mp))] rfl ⟨(by kernel_rfl), trivial⟩ ?_));exact ⟨rfl, hE⟩
theorem contradict_c {w1 w2 : World} {a1 a2 : Option Addr} {n1 n2 : Nat} {l1 l2 : List Rec} (c1 c2 : Nat) (w : World) (H1 : RecsAt w1 a1 n1 l1) (e1 : Ext w1 w) (H2 : RecsAt w2 a2 n2 l2) (e2 : Ext w2 w) : Calls Tryz.prog 61 #[.slice a1 n1 c1, .slice a2 n2 c2] w fun e w' => e = .returned (.bool (l2.any (Rep.contrB (Rep.bookL l1)))) ∧ Ext w w' := by
 refine calls_cw 11 [(1, .slice a2 n2 c2), (0, .slice a1 n1 c1)] Tryz.func61 rfl Tryz.ntmps61 (by kernel_rfl) (by kernel_rfl) (fun L => ?_);have hE := Ext.refl w;refine zc (zp (pT (.bool false) ?_));refine zn (zc (zp (pT (.slice a1 n1 c1) ?_)));refine pS (sc 52 #[.slice a1 n1 c1] ((booked_c _ _ H1 (e1.trans (Ext.refl _))).mono ?_));rintro e w4 ⟨B1, rfl, hn2, hM3, hb⟩;replace hE := hE.trans hb;have hs5 := hb.size;have lt6 := hM3.lt;refine ⟨_, rfl, pS (sw 79 #[.map none] ?_)⟩;intro O7 X8 hzO7 hyO7 hb hbx;have bO7_0 := bq1 hbx;refine mv2 hb hE hM3 fun hE hM3=>?_;have hs9 := hb.size;have lt10 := bO7_0.lt;refine pP (zE O7 0 (.map (some B1)) (st79 bO7_0.1 bO7_0.2) bO7_0 ?_);intro X11 ho bO7_0 hk;replace hE := ho.ext hE (T hs5 (Nat.le_of_eq hzO7));replace hM3 := hM3.block (ho.heap' _ (by omega));have hs12 := Nat.le_of_eq ho.size.symm;clear ho hk;refine zn (zc (zp (pD (.slice a2 n2 c2) (.func (.func 87) #[] #[pw O7 0]) ?_)));have hx13 := bO7_0.1;refine pS (sc 54 #[.slice a2 n2 c2, .func (.func 87) #[] #[pw O7 0]] ((ContainsC_c _ _ H2 (e2.trans hE) hM3 (Ext.refl _) hx13 (Ext.refl _)).mono ?_));rintro e w14 ⟨rfl, hb⟩;replace hE := hE.trans hb;have hs15 := hb.size;refine ⟨_, rfl, pT (.bool (l2.any (Rep.contrB (Rep.bookL l1)))) ?_⟩;refine zn (cw_ret (qw_ret [.bool (l2.any (Rep.contrB (Rep.bookL l1)))] rfl ⟨(by kernel_rfl), trivial⟩ ?_));exact ⟨rfl, hE⟩
theorem contradict_r {w1 w2 : World} {a1 a2 : Option Addr} {n1 n2 : Nat} {l1 l2 : List Rec} {r : Bool} (c1 c2 : Nat) (w : World) (H1 : RecsAt w1 a1 n1 l1) (e1 : Ext w1 w) (H2 : RecsAt w2 a2 n2 l2) (e2 : Ext w2 w) (hr : l2.any (Rep.contrB (Rep.bookL l1)) = r) : Calls Tryz.prog 61 #[.slice a1 n1 c1, .slice a2 n2 c2] w fun e w' => e = .returned (.bool r) ∧ Ext w w' := hr ▸ contradict_c c1 c2 w H1 e1 H2 e2
end Go.Proofs.YtfmoabgjaclkpaaGreatDoor
