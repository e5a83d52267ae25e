/- Part 2 of what the proof of TopProduct stands on. -/
import Derived.Test.YtajdohcgjgknmaaGreatDoorV1TopProduct
import Derived.OrdersIn
import Derived.TacticsIn
import Derived.Deep.RegionHeld3
import Derived.Laws.Bits64b
import Derived.OwnWalk
import Derived.OwnWalkIn
import Derived.Shelf.SlSortCmp.NoneTotal
namespace Go.Proofs.YtajdohcgjgknmaaGreatDoor
open Go.RowKit
def FR (r : Option Nat) : Fence := { Fence.wide with round := r }
def marks (Ds : List Nat) : List Deferred := Ds.map fun D => { target := .collected D, args := #[] }
section
variable {P : Program} {n : Nat} {L : List Value} {ws : List (Nat × Value)} {w : World} {Q : Exit → Act → World → Prop} {r : Option Nat} {m : Nat} {Ds : List Nat}
theorem calls_fr {f : FuncId} {args : Array Value} {R : Ending → World → Prop} (h : Calls P f args w R) : CallsIn (FR r) m P f args w R := (callsIn_wide (n := m)).2 h
theorem semAt_of {ev : Operand → Value} {o : Oper} {nx : Next} {w' : World} (h : (execOp ev o).run P w = .ok nx w') (hd : ∀ d, nx ≠ .defer d) : (o.semAt r ev).run P w = .ok nx w' := by
  rw [Oper.semAt_eq]
  · exact h
  · intro c hc
    simp only [execOp, hc, Sem.run_bind] at h
    cases e : (resolve ev c o.type).run P w with
    | ok d w1 => rw [e] at h; simp [Result.andThen] at h; exact hd _ h.1.symm
    | halt x w1 => rw [e] at h; simp [Result.andThen] at h
theorem StepN.wpI {ev : Operand → Value} {oi : Oper} {N : Value → World → Prop} {a : Act} {K : Act → World → Prop} (h : StepN P ev oi w N) (he : a.eval = ev) (hK : ∀ v w', N v w' → K (a.put oi.dst v) w') : Oper.wpIn (FR r) m P oi a w K Q := by
  refine ⟨fun _ _ => trivial, ?_⟩
  rw [he]
  show oi.uponIn (FR r) m P a K Q ((oi.semAt r ev).run P w)
  rcases h with ⟨v, w', h1, h3⟩ | ⟨w', h1, h3⟩ | ⟨f, args, h1, h2⟩
  · rw [semAt_of h1 (by simp), Oper.uponIn_value]; exact hK v w' h3
  · rw [semAt_of h1 (by simp), Oper.uponIn_skip]; exact hK undef w' h3
  · rw [semAt_of h1 (by simp), Oper.uponIn_enter]
    exact ⟨fun h => by simp [FR, Fence.wide] at h, calls_fr (h2.mono fun e w' ⟨v, he, hn⟩ => by subst he; exact hK v w' hn)⟩
def StepY (P : Program) (m : Nat) (ev : Operand → Value) (oi : Oper) (w : World) (N : Value → World → Prop) : Prop :=
 ∃ l fn tmps assign body, (execOp ev oi).run P w = .ok (.round l fn tmps assign body) w ∧ RoundIn Fence.wide (m - 1) P l fn tmps assign body w fun e w' => ∃ v, e = .returned v ∧ N v w'
theorem StepY.wpI {ev : Operand → Value} {oi : Oper} {N : Value → World → Prop} {a : Act} {K : Act → World → Prop} (h : StepY P m ev oi w N) (he : a.eval = ev) (hK : ∀ v w', N v w' → K (a.put oi.dst v) w') : Oper.wpIn (FR r) m P oi a w K Q := by
 refine ⟨fun _ _ => trivial, ?_⟩
 rw [he]
 show oi.uponIn (FR r) m P a K Q ((oi.semAt r ev).run P w)
 obtain ⟨l, fn, tmps, assign, body, h1, h2⟩ := h
 rw [semAt_of h1 (by simp), Oper.uponIn_round]
 exact ⟨fun h => by simp [FR, Fence.wide] at h, (RoundIn.mono h2 fun e w' ⟨v, he, hn⟩ => by subst he; exact hK v w' hn : RoundIn Fence.wide (m - 1) P l fn tmps assign body w _)⟩
theorem sy_yield {ev : Operand → Value} {oi : Oper} {x : Operand} {ys : Array Operand} {ts : Array TypeId} {l : Nat} {args : Array Value} {N : Value → World → Prop} (hop : oi.op = .call { callee := .value x, args := ys, argTypes := ts }) (hx : ev x = .func (.yield l) #[] #[]) (hy : ys.map ev = args)
  (h : YieldAt Fence.wide (m - 1) P l args w fun e w' => ∃ v, e = .returned v ∧ N v w') : StepY P m ev oi w N := by
 obtain ⟨fn, tmps, assign, body, h1, h2⟩ := h
 refine ⟨l, fn, tmps, assign, body, ?_, h2⟩
 simp only [execOp, hop, resolve, hx, hy, Sem.run_bind]
 simp [Result.andThen, invoke, h1, Deferred.ofValue]
structure ICW (P : Program) (r : Option Nat) (m : Nat) (Ds : List Nat) (c : Code) (Q : Exit → Act → World → Prop) (n : Nat) (L : List Value) (ws : List (Nat × Value)) (w : World) : Prop where
 out : Bd n L ws → c.wpIn (FR r) m P Q ⟨(setAll L ws).toArray, marks Ds⟩ w
structure IQW (Ds : List Nat) (Q : Exit → Act → World → Prop) (e : Exit) (n : Nat) (L : List Value) (ws : List (Nat × Value)) (w : World) : Prop where
 out : Bd n L ws → Q e ⟨(setAll L ws).toArray, marks Ds⟩ w
structure IPL (P : Program) (r : Option Nat) (m : Nat) (Ds : List Nat) (ops rest : List Oper) (Q : Exit → Act → World → Prop) (n : Nat) (L : List Value) (ws : List (Nat × Value)) (w : World) : Prop where
 out : Bd n L ws → wpListIn (FR r) m P ops.toArray Q rest ⟨(setAll L ws).toArray, marks Ds⟩ w
def IBody (m : Nat) (P : Program) (fn : Func) (R : Ending → World → Prop) : Exit → Act → World → Prop
 | .normal, a, w => bodyPostM Fence.wide m P fn R .normal a w
 | .ret, a, w => bodyPostM Fence.wide m P fn R .ret a w
 | _, _, _ => False
theorem icalls {f : FuncId} {fn : Func} {c : Code} {av : List Value} {R : Ending → World → Prop} (n : Nat) (ws : List (Nat × Value)) (hf : P.funcs[f]? = some fn) (hb : fn.body = some c) (hn : fn.ntmps = n)
  (he : av ++ List.replicate (n - av.length) undef = setAll (List.replicate n undef) ws) (hl : ws.all (fun p => Nat.blt p.1 n) = true)
  (h : ∀ L m, ICW P none m [] c (IBody m P fn R) n L ws w) : CallsIn Fence.wide m P f av.toArray w R := by
 refine callsIn_of_wp_marks hf hb trivial ?_ rfl
 have e : (av.toArray ++ Array.replicate (fn.ntmps - av.toArray.size) undef : Array Value) = (setAll (List.replicate n undef) ws).toArray := by
  rw [hn, ← he]; simp
 rw [e]
 refine Go.wpIn_mono ((h _ m).out ⟨List.length_replicate, fun p hp => Nat.blt_eq.mp (List.all_eq_true.1 hl p hp)⟩) fun e a' w' q => ?_
 cases e with
 | normal => exact q
 | ret => exact q
 | _ => exact q.elim
theorem icalls_cw {f : FuncId} {fn : Func} {c : Code} {av : List Value} {R : Ending → World → Prop} (n : Nat) (ws : List (Nat × Value)) (hf : P.funcs[f]? = some fn) (hb : fn.body = some c) (hn : fn.ntmps = n)
  (he : av ++ List.replicate (n - av.length) undef = setAll (List.replicate n undef) ws) (hl : ws.all (fun p => Nat.blt p.1 n) = true)
  (h : ∀ L m, ICW P none m [] c (IBody m P fn R) n L ws w) : Calls P f av.toArray w R := (callsIn_wide (n := 0)).1 (icalls n ws hf hb hn he hl h)
theorem icw_seq {x y : Code} (h : ICW P r m Ds x (Exit.then (y.wpIn (FR r) m P Q) Q) n L ws w) : ICW P r m Ds (.seq x y) Q n L ws w := ⟨fun b => wpIn_seq (h.out b)⟩
theorem icw_block {id : Nat} {c : Code} (h : ICW P r m Ds c (Exit.inBlock id Q) n L ws w) : ICW P r m Ds (.block id c) Q n L ws w := ⟨fun b => wpIn_block (h.out b)⟩
theorem icw_skip (h : IQW Ds Q .normal n L ws w) : ICW P r m Ds .skip Q n L ws w := ⟨fun b => wpIn_skip (h.out b)⟩
theorem icw_exit {id : Nat} (h : IQW Ds Q (.exit id) n L ws w) : ICW P r m Ds (.exit id) Q n L ws w := ⟨fun b => wpIn_exit (h.out b)⟩
theorem icw_ret (h : IQW Ds Q .ret n L ws w) : ICW P r m Ds .ret Q n L ws w := ⟨fun b => wpIn_ret (h.out b)⟩
theorem icw_plain {id : Nat} {l : List Oper} (h : IPL P r m Ds l l Q n L ws w) : ICW P r m Ds (.region id l.toArray false) Q n L ws w := ⟨fun b => wpIn_region_lit (h.out b)⟩
theorem icw_t {c : Operand} {x y : Code} (hc : evalW L ws c = .bool true) (h : ICW P r m Ds x Q n L ws w) : ICW P r m Ds (.cond c x y) Q n L ws w := ⟨fun b => wpIn_cond_true (by rw [eval_W b.lt]; exact hc) (h.out b)⟩
theorem icw_f {c : Operand} {x y : Code} (hc : evalW L ws c = .bool false) (h : ICW P r m Ds y Q n L ws w) : ICW P r m Ds (.cond c x y) Q n L ws w := ⟨fun b => wpIn_cond_false (by rw [eval_W b.lt]; exact hc) (h.out b)⟩
theorem iqw_then {y : Code} (h : ICW P r m Ds y Q n L ws w) : IQW Ds (Exit.then (y.wpIn (FR r) m P Q) Q) .normal n L ws w := ⟨h.out⟩
theorem iqw_then_ret {K : Act → World → Prop} (h : IQW Ds Q .ret n L ws w) : IQW Ds (Exit.then K Q) .ret n L ws w := ⟨h.out⟩
theorem iqw_then_exit {K : Act → World → Prop} {id : Nat} (h : IQW Ds Q (.exit id) n L ws w) : IQW Ds (Exit.then K Q) (.exit id) n L ws w := ⟨h.out⟩
theorem iqw_block {id : Nat} (h : IQW Ds Q .normal n L ws w) : IQW Ds (Exit.inBlock id Q) .normal n L ws w := ⟨h.out⟩
theorem iqw_block_ret {id : Nat} (h : IQW Ds Q .ret n L ws w) : IQW Ds (Exit.inBlock id Q) .ret n L ws w := ⟨h.out⟩
theorem iqw_block_out {id : Nat} (h : IQW Ds Q .normal n L ws w) : IQW Ds (Exit.inBlock id Q) (.exit id) n L ws w := ⟨fun b => by
 show (if id = id then _ else _)
 rw [if_pos rfl]; exact h.out b⟩
theorem ipl_nil {ops : List Oper} (h : IQW Ds Q .normal n L ws w) : IPL P r m Ds ops [] Q n L ws w := ⟨h.out⟩
theorem wantP_specD {ops : List Oper} {o : Oper} {b : Bool} (h : Bd n L ws) (hok : ∀ x ∈ ops, ∀ d, x.dst = some d → d < n) (hw : wantP ops L ws o.guard = b) :
  Region.wanted o (yielded ops.toArray (⟨(setAll L ws).toArray, marks Ds⟩ : Act).tmps) = b := wantP_spec h hok hw
theorem ipl_take {ops rest : List Oper} {o : Oper} {d : Nat} (v : Value) (hdst : o.dst = some d) (hok : dstOk n ops = true) (hd : Nat.blt d n = true) (hw : wantP ops L ws o.guard = true)
  (hr : (execOp (evalW L ws) o).run P w = .ok (.value v) w) (h : IPL P r m Ds ops rest Q n L ((d, v) :: ws) w) : IPL P r m Ds ops (o :: rest) Q n L ws w := ⟨fun b => by
 refine wpListIn_step fun K hK => ?_
 rw [if_pos (wantP_specD b (dstOk_spec hok) hw)]
 refine StepN.wpI (N := fun v' w' => v' = v ∧ w' = w) (.inl ⟨v, w, hr, rfl, rfl⟩) (eval_W b.lt _) fun v' w' ⟨e1, e2⟩ => hK _ _ ?_
 subst e1 e2
 rw [put_W, hdst]; exact h.out (b.put hd)⟩
theorem ipl_step {ops rest : List Oper} {o : Oper} {d : Nat} (hdst : o.dst = some d) (hok : dstOk n ops = true) (hd : Nat.blt d n = true) (hw : wantP ops L ws o.guard = true)
  (h : StepN P (evalW L ws) o w fun v w' => IPL P r m Ds ops rest Q n L ((d, v) :: ws) w') : IPL P r m Ds ops (o :: rest) Q n L ws w := ⟨fun b => by
 refine wpListIn_step fun K hK => ?_
 rw [if_pos (wantP_specD b (dstOk_spec hok) hw)]
 exact h.wpI (eval_W b.lt _) fun v w' hn => hK _ _ (by rw [put_W, hdst]; exact hn.out (b.put hd))⟩
theorem ipl_yield {ops rest : List Oper} {o : Oper} {d : Nat} (hdst : o.dst = some d) (hok : dstOk n ops = true) (hd : Nat.blt d n = true) (hw : wantP ops L ws o.guard = true)
  (h : StepY P m (evalW L ws) o w fun v w' => IPL P r m Ds ops rest Q n L ((d, v) :: ws) w') : IPL P r m Ds ops (o :: rest) Q n L ws w := ⟨fun b => by
 refine wpListIn_step fun K hK => ?_
 rw [if_pos (wantP_specD b (dstOk_spec hok) hw)]
 exact h.wpI (eval_W b.lt _) fun v w' hn => hK _ _ (by rw [put_W, hdst]; exact hn.out (b.put hd))⟩
theorem ipl_put {ops rest : List Oper} {o : Oper} (hdst : o.dst = none) (hok : dstOk n ops = true) (hw : wantP ops L ws o.guard = true)
  (h : StepN P (evalW L ws) o w fun _ w' => IPL P r m Ds ops rest Q n L ws w') : IPL P r m Ds ops (o :: rest) Q n L ws w := ⟨fun b => by
 refine wpListIn_step fun K hK => ?_
 rw [if_pos (wantP_specD b (dstOk_spec hok) hw)]
 exact h.wpI (eval_W b.lt _) fun v w' hn => hK _ _ (by rw [put_W, hdst]; exact hn.out b)⟩
theorem icw_clean {c : Code} (ks : List Nat) {ws' : List (Nat × Value)} (hp : pickW ws ks = some ws') (h : ∀ L', ICW P r m Ds c Q n L' ws' w) : ICW P r m Ds c Q n L ws w := ⟨fun b => by
 have := (h (setAll L ws)).out (pick_bd hp b)
 rwa [pick_set hp] at this⟩
def ILoopK (n : Nat) (Ds : List Nat) (Inv : List (Nat × Value) → World → Nat → Prop) (m : Nat) : Act → World → Prop := fun a w => ∃ L' ws' m', m' < m ∧ Bd n L' ws' ∧ a = ⟨(setAll L' ws').toArray, marks Ds⟩ ∧ Inv ws' w m'
open Classical in
theorem icw_loop {c : Code} (ks : List Nat) (Inv : List (Nat × Value) → World → Nat → Prop) {ws0 : List (Nat × Value)} (hp : pickW ws ks = some ws0) (m0 : Nat) (h0 : Inv ws0 w m0)
  (round : ∀ k L' ws' w', Inv ws' w' k → ICW P r m Ds c (Exit.then (ILoopK n Ds Inv k) Q) n L' ws' w') : ICW P r m Ds (.loop c) Q n L ws w := ⟨fun b => by
 let J : Nat → Act → World → Prop := fun k a w => ∃ L' ws', Bd n L' ws' ∧ a = ⟨(setAll L' ws').toArray, marks Ds⟩ ∧ Inv ws' w k
 let μ : Act → World → Nat := fun a w => if h : ∃ k, J k a w then Classical.choose (least h) else 0
 have hμ : ∀ a w (h : ∃ k, J k a w), J (μ a w) a w ∧ ∀ k, J k a w → μ a w ≤ k := fun a w h => by
  have e : μ a w = Classical.choose (least h) := dif_pos h
  rw [e]; exact Classical.choose_spec (least h)
 refine wpIn_loop (fun a w => ∃ k, J k a w) μ ⟨m0, setAll L ws, ws0, pick_bd hp b, by rw [pick_set hp], h0⟩ fun a w h => ?_
 obtain ⟨⟨L', ws', hb, ha, hI⟩, _⟩ := hμ a w h
 have := (round (μ a w) L' ws' w hI).out hb
 rw [← ha] at this
 refine Go.wpIn_mono this (fun e a' w' q => ?_)
 cases e with
 | normal =>
  obtain ⟨L2, ws2, m2, hlt, hb2, ha2, hI2⟩ := q
  have hJ : J m2 a' w' := ⟨L2, ws2, hb2, ha2, hI2⟩
  exact ⟨⟨m2, hJ⟩, Nat.lt_of_le_of_lt ((hμ a' w' ⟨m2, hJ⟩).2 m2 hJ) hlt⟩
 | _ => exact q⟩
theorem iqw_round {Inv : List (Nat × Value) → World → Nat → Prop} {k : Nat} (ks : List Nat) {ws' : List (Nat × Value)} (hp : pickW ws ks = some ws') (m' : Nat) (hlt : m' < k) (h : Inv ws' w m') : IQW Ds (Exit.then (ILoopK n Ds Inv k) Q) .normal n L ws w := ⟨fun b =>
 ⟨setAll L ws, ws', m', hlt, pick_bd hp b, by rw [pick_set hp], h⟩⟩
end
structure Mv (n₀ : Nat) (A B : World) : Prop where
 os : B.os = A.os
 tape : B.tape = A.tape
 output : B.output = A.output
 size : A.heap.size ≤ B.heap.size
 cells : ∀ (k : Nat) (o : Obj), A.heap[k]? = some o → o.isCells = true → B.heap[k]? = some o
 below : ∀ (k : Nat), k < n₀ → k < A.heap.size → B.heap[k]? = A.heap[k]?
theorem Mv.refl (n₀ : Nat) (A : World) : Mv n₀ A A := ⟨rfl, rfl, rfl, Nat.le_refl _, fun _ _ h _ => h, fun _ _ _ => rfl⟩
theorem Mv.trans {n₀ : Nat} {A B C : World} (h : Mv n₀ A B) (k : Mv n₀ B C) : Mv n₀ A C :=
 ⟨k.os.trans h.os, k.tape.trans h.tape, k.output.trans h.output, T h.size k.size, fun i o hi ho => k.cells i o (h.cells i o hi ho) ho, fun i hi hl => (k.below i hi (Nat.lt_of_lt_of_le hl h.size)).trans (h.below i hi hl)⟩
theorem Mv.of_ext {n₀ : Nat} {A B : World} (h : Ext A B) : Mv n₀ A B :=
 ⟨h.os, h.tape, h.output, h.size, fun k _ hk _ => (h.block k (Array.getElem?_eq_some_iff.1 hk).1).trans hk, fun k _ hk => h.block k hk⟩
theorem Mv.putObj {n₀ : Nat} {A : World} {k : Nat} {o : Obj} (o' : Obj) (hk : n₀ ≤ k) (ho : A.heap[k]? = some o) (hc : o.isCells = false) : Mv n₀ A (A.putObj k o') :=
 ⟨rfl, rfl, rfl, by simp, fun j u hj hu => (World.putObj_heap_other (fun e => by subst e; rw [ho] at hj; cases hj; rw [hc] at hu; cases hu)).trans hj, fun j hj _ => World.putObj_heap_other (by omega)⟩
theorem Mv.ext {n₀ : Nat} {A B U : World} (h : Mv n₀ A B) (hU : Ext U A) (hn : U.heap.size ≤ n₀) : Ext U B :=
 ⟨h.os.trans hU.os, h.tape.trans hU.tape, h.output.trans hU.output, T hU.size h.size, fun k hk => (h.below k (Nat.lt_of_lt_of_le hk hn) (Nat.lt_of_lt_of_le hk hU.size)).trans (hU.block k hk)⟩
theorem Mv.cell {n₀ : Nat} {A B : World} (h : Mv n₀ A B) {p : Addr} {v : Value} (hv : A.cell? p = some v) : B.cell? p = some v := by
 obtain ⟨o, ho, hc⟩ := cells_of_cell hv
 exact (World.cell?_of_block ((h.cells _ o ho hc).trans ho.symm)).trans hv
theorem Mv.froz {n₀ : Nat} {A B : World} (h : Mv n₀ A B) {p : Addr} {v : Value} (hv : A.cell? p = some v) : B.frozen? p = A.frozen? p := by
 obtain ⟨o, ho, hc⟩ := cells_of_cell hv
 exact World.frozen?_of_block ((h.cells _ o ho hc).trans ho.symm)
theorem Mv.box {n₀ : Nat} {A B : World} (h : Mv n₀ A B) {b o : Nat} {v : Value} (hv : BoxAt A b o v) : BoxAt B b o v := ⟨h.cell hv.1, by rw [h.froz hv.1]; exact hv.2⟩
theorem Mv.va {n₀ : Nat} {A B : World} (h : Mv n₀ A B) {b o : Nat} {l : List Int} (hv : VA A b o l) : VA B b o l := ⟨fun i hi => h.cell (hv.1 i hi), hv.2⟩
theorem Mv.rows {n₀ : Nat} {A B : World} (h : Mv n₀ A B) {b : Nat} {l : List Int} (hv : RowsAt A b l) : RowsAt B b l := ⟨hv.1, fun i hi => h.cell (hv.cell hi), fun i hi => by rw [h.froz (hv.cell hi)]; exact hv.free hi⟩
theorem Mv.ints {n₀ : Nat} {A B : World} (h : Mv n₀ A B) {a : Option Addr} {l : List Int} (hv : IntsAt A a l) : IntsAt B a l := by
 rcases hv with q | ⟨b, off, rfl, q⟩
 · exact .inl q
 · exact .inr ⟨b, off, rfl, fun i hi => h.cell (q i hi)⟩
theorem Mv.own {α : Type} {R : Rep α} {n₀ n₁ : Nat} {e : TypeId} {size : Nat} {v : Value} {A B : World} {l : List α} (h : Mv n₁ A B) (ho : OwnL R n₀ e size v A l) : OwnL R n₀ e size v B l := by
  obtain ⟨cs, h1, h2, h3, h4⟩ := ho
  refine ⟨cs, h1, h2, ⟨h3.1, ?_⟩, fun j x c hx hc => ?_⟩
  · rcases h3.2 with q | ⟨g, cap, cur, q, hb, hcur, rest⟩
    · exact .inl q
    · exact .inr ⟨g, cap, cur, q, hb, h.cells _ _ hcur rfl, rest⟩
  · obtain ⟨F, q1, q2⟩ := h4 j x c hx hc
    exact ⟨F, R.keep q1 (fun b _ o u hu => h.cell hu), q2⟩
structure KeptX (X : Nat → Prop) (A B : World) : Prop where
 size : A.heap.size ≤ B.heap.size
 cells : ∀ (k : Nat) (o : Obj), A.heap[k]? = some o → o.isCells = true → ¬ X k → B.heap[k]? = some o
theorem KeptX.trans {X : Nat → Prop} {A B C : World} (h : KeptX X A B) (k : KeptX X B C) : KeptX X A C := ⟨T h.size k.size, fun i o hi ho hx => k.cells i o (h.cells i o hi ho hx) ho hx⟩
theorem KeptX.of_mv {X : Nat → Prop} {n₀ : Nat} {A B : World} (h : Mv n₀ A B) : KeptX X A B := ⟨h.size, fun k o hk ho _ => h.cells k o hk ho⟩
theorem KeptX.cell {X : Nat → Prop} {A B : World} (h : KeptX X A B) {b o : Nat} {v : Value} (hx : ¬ X b) (hv : A.cell? ⟨b, o, none⟩ = some v) : B.cell? ⟨b, o, none⟩ = some v := by
 obtain ⟨u, hu, hc⟩ := cells_of_cell hv
 exact (World.cell?_of_block ((h.cells _ u hu hc hx).trans hu.symm)).trans hv
theorem KeptX.box {X : Nat → Prop} {A B : World} (h : KeptX X A B) {b o : Nat} {v : Value} (hx : ¬ X b) (hv : BoxAt A b o v) : BoxAt B b o v := by
 obtain ⟨u, hu, hc⟩ := cells_of_cell hv.1
 exact ⟨h.cell hx hv.1, (World.frozen?_of_block ((h.cells _ u hu hc hx).trans hu.symm)).trans hv.2⟩
structure RK (n₀ : Nat) (X : Nat → Prop) (A B : World) : Prop where
 kept : KeptX X A B
 oth : KeepsFrom n₀ A B
theorem RK.refl (n₀ : Nat) (X : Nat → Prop) (A : World) : RK n₀ X A A := ⟨⟨Nat.le_refl _, fun _ _ h _ _ => h⟩, KeepsFrom.refl _ _⟩
theorem RK.ext {n₀ : Nat} {X : Nat → Prop} {A B C : World} (h : RK n₀ X A B) (e : Ext B C) : RK n₀ X A C :=
 ⟨h.kept.trans (KeptX.of_mv (n₀ := 0) (Mv.of_ext e)), h.oth.trans (e.others.from _)⟩
theorem RK.turn {n₀ : Nat} {X : Nat → Prop} {A B C : World} (h : RK n₀ X A B) {O : Nat} (t : Turns O B C) (hO : X O ∨ A.heap.size ≤ O) : RK n₀ X A C := by
  refine ⟨⟨by rw [t.size]; exact h.kept.size, fun k o hk ho hx => ?_⟩, ⟨by rw [t.size]; exact h.oth.size, fun k o hk hi ho => ?_⟩⟩
  · have hne : k ≠ O := fun e => by
      subst e
      rcases hO with q | q
      · exact hx q
      · have := (Array.getElem?_eq_some_iff.1 hk).1; omega
    rw [t.heap' k hne]; exact h.kept.cells k o hk ho hx
  · have h2 := h.oth.same k o hk hi ho
    by_cases e : k = O
    · subst e; exact t.oth' o h2 ho
    · rw [t.heap' k e]; exact h2
def SeqN (P : Program) (g : Nat) (lb : Array Value) (N : Nat) (encs : Nat → List Value) (Φ : Nat → World → Prop) (X : Nat → Prop) (w : World) : Prop :=
 ∀ (l : Nat) (J Jx : Nat → World → Prop) (W : World), Ext w W → (∀ i A B, J i A → Ext A B → J i B) → (∀ i A B, Jx i A → Ext A B → Jx i B) →
  (∀ i W1 m, i < N → J i W1 → Φ i W1 → YieldAt Fence.wide m P l (encs i).toArray W1 fun e W' => (e = .returned (.bool true) ∧ J (i + 1) W' ∧ KeptX X W1 W') ∨ (e = .returned (.bool false) ∧ Jx i W' ∧ KeptX X W1 W')) →
  J 0 W → ∀ n, CallsIn Fence.wide n P g (#[.func (.yield l) #[] #[]] ++ lb) W fun e W' => (∃ v, e = .returned v) ∧ (J N W' ∨ ∃ i, i < N ∧ Jx i W')
def RndQ (n₀ : Nat) (X : Nat → Prop) (Inv : Nat → World → Prop) (Ix : Code → Nat → World → Prop) (i : Nat) (W : World) : Exit → Act → World → Prop
 | .normal, _, W' => RK n₀ X W W' ∧ Inv (i + 1) W'
 | .ret, _, W' => RK n₀ X W W' ∧ Ix .ret i W'
 | .exit id, _, W' => RK n₀ X W W' ∧ Ix (.exit id) i W'
 | _, _, _ => False
def AsgQ (P : Program) (l k n₀ : Nat) (X : Nat → Prop) (body : Code) (Inv : Nat → World → Prop) (Ix : Code → Nat → World → Prop) (i : Nat) (W : World) : Exit → Act → World → Prop
 | .normal, a, w1 => RK n₀ X W w1 ∧ ∀ w2, Mv n₀ w1 w2 → body.wpIn (FR (some l)) k P (RndQ n₀ X Inv Ix i w2) a w2
 | _, _, _ => False
def zipW : List Nat → List Value → List (Nat × Value) → List (Nat × Value)
 | p :: ps, v :: vs, ws => zipW ps vs ((p, v) :: ws)
 | _, _, ws => ws
theorem zip_setL (L : List Value) : ∀ (ps : List Nat) (vs : List Value) (ws : List (Nat × Value)), (ps.zip vs).foldl (fun t (p, v) => t.setIfInBounds p v) (setAll L ws).toArray = (setAll L (zipW ps vs ws)).toArray
 | p :: ps, v :: vs, ws => by
  have ih := zip_setL L ps vs ((p, v) :: ws)
  rw [zipW, ← ih, List.zip_cons_cons, List.foldl_cons]
  simp [setAll]
 | [], vs, ws => by simp [zipW]
 | p :: ps, [], ws => by simp [zipW]
theorem zip_set (L : List Value) (ps : List Nat) (vs : List Value) (ws : List (Nat × Value)) : (ps.toArray.zip vs.toArray).foldl (fun t (p, v) => t.setIfInBounds p v) (setAll L ws).toArray = (setAll L (zipW ps vs ws)).toArray := by
 rw [← zip_setL, List.zip_toArray]
 exact List.foldl_toArray _ _ _
theorem zip_bd {n : Nat} {L : List Value} : ∀ {ps : List Nat} {vs : List Value} {ws : List (Nat × Value)}, Bd n L ws → ps.all (fun p => Nat.blt p n) = true → Bd n L (zipW ps vs ws)
 | p :: ps, v :: vs, ws, b, h => by
  simp only [List.all_cons, Bool.and_eq_true] at h
  exact zip_bd (ps := ps) (vs := vs) (b.put h.1) h.2
 | [], vs, ws, b, _ => b
 | p :: ps, [], ws, b, _ => b
section
variable {P : Program} {n : Nat} {L : List Value} {ws : List (Nat × Value)} {w : World} {Q : Exit → Act → World → Prop} {r : Option Nat} {m : Nat} {Ds : List Nat}
theorem icw_range {g : Operand} {ps : List Nat} {assign body : Code} {gf : Nat} {lb : Array Value} (hg : evalW L ws g = .func (.func gf) #[] lb) (eg : ∀ args w, (callFunc gf args).run P w = .ok (.enter gf args) w)
    {N : Nat} {encs : Nat → List Value} {Φ : Nat → World → Prop} {X : Nat → Prop} {w0 : World} (hseq : SeqN P gf lb N encs Φ X w0) (hb0 : Ext w0 w) (hps : ∀ i, (encs i).length = ps.length) (hpn : ps.all (fun p => Nat.blt p n) = true)
    (Inv : Nat → World → Prop) (Ix : Code → Nat → World → Prop) (hI : ∀ i A B, Inv i A → Mv w.heap.size A B → Inv i B) (hIx : ∀ c i A B, Ix c i A → Mv w.heap.size A B → Ix c i B) (h0 : Inv 0 w)
    (round : ∀ l k i W, i < N → Inv i W → Φ i W → ICW P (some l) k [] assign (AsgQ P l k w.heap.size X body Inv Ix i W) n L (zipW ps (encs i) ws) W)
    (done : ∀ D W, w.heap.size ≤ D → D < W.heap.size → Inv N W → W.heap[D]? = some (.deferred (some [])) → IQW (D :: Ds) Q .normal n L ws W)
    (stop : ∀ c D i W, w.heap.size ≤ D → D < W.heap.size → i < N → Ix c i W → W.heap[D]? = some (.deferred (some [])) → ICW P none m (D :: Ds) c Q n L ws W) :
    ICW P none m Ds (.rangeFunc g ps.toArray assign body) Q n L ws w := ⟨fun b => by
  have hgv : Act.eval ⟨(setAll L ws).toArray, marks Ds⟩ g = .func (.func gf) #[] lb := by rw [eval_W b.lt]; exact hg
  show (Code.rangeFunc g ps.toArray assign body).wpIn Fence.wide m P Q ⟨(setAll L ws).toArray, marks Ds⟩ w
  refine wpIn_rangeFunc fun fn hfn => ?_
  let R := recOf ⟨(setAll L ws).toArray, marks Ds⟩ ps.toArray assign body fn w.heap.size
  let W1 := (w.alloc (.deferred (some []))).alloc (.loop (R .ready none))
  have sz : W1.heap.size = w.heap.size + 2 := by simp [W1]
  have hL1 : W1.heap[w.heap.size + 1]? = some (.loop (R .ready none)) := by
    have := World.alloc_heap_new (w.alloc (.deferred (some []))) (.loop (R .ready none))
    rwa [World.size_alloc] at this
  have Bi : W1.heap[w.heap.size]? = some (.deferred (some [])) := (Below.heap_alloc _ _ _ (by simp)).trans (World.alloc_heap_new w _)
  have Bf : Ext w W1 := ((Ext.refl w).alloc _).alloc _
  refine ⟨w.heap.size + 1, [{ target := .collected w.heap.size, args := #[] }], W1, { target := .fn (.func gf) lb, args := #[.func (.yield (w.heap.size + 1)) #[] #[]] }, W1, gf, #[.func (.yield (w.heap.size + 1)) #[] #[]] ++ lb, W1,
    run_enterLoop_outer _ _ _ _ _, ?_, fun _ _ => trivial, by simp [invoke, go_sem, eg], fun h => by simp [Fence.wide] at h, ?_⟩
  · have hgv' : Act.eval ⟨(setAll L ws).toArray, marks Ds⟩ g = .func (.func gf) #[] lb := hgv
    simp only [resolve, hgv']; simp [go_sem]
  refine (hseq (w.heap.size + 1)
    (fun i W => Inv i W ∧ W.heap[w.heap.size + 1]? = some (.loop (R .ready none)) ∧ W.heap[w.heap.size]? = some (.deferred (some [])))
    (fun i W => ∃ c, Ix c i W ∧ W.heap[w.heap.size + 1]? = some (.loop (R .done (some c))) ∧ W.heap[w.heap.size]? = some (.deferred (some [])))
    W1 (hb0.trans Bf)
    (fun i A B hs e => ⟨hI i A B hs.1 (Mv.of_ext e), (e.block _ (Array.getElem?_eq_some_iff.1 hs.2.1).1).trans hs.2.1, (e.block _ (Array.getElem?_eq_some_iff.1 hs.2.2).1).trans hs.2.2⟩)
    (fun i A B ⟨c, h1, h2, h3⟩ e => ⟨c, hIx c i A B h1 (Mv.of_ext e), (e.block _ (Array.getElem?_eq_some_iff.1 h2).1).trans h2, (e.block _ (Array.getElem?_eq_some_iff.1 h3).1).trans h3⟩)
    ?_ ⟨hI 0 w W1 h0 (Mv.of_ext Bf), hL1, Bi⟩ _).mono ?_
  · rintro i W k hi ⟨hInv, hl, hk⟩ hx
    have hlt := (Array.getElem?_eq_some_iff.1 hl).1
    have hsz : (encs i).toArray.size = ps.toArray.size := by simp [hps i]
    refine ⟨fn, _, assign, body, run_yield (P := P) (args := (encs i).toArray) hl hsz, roundIn_of_wpIn (F := Fence.wide) hfn ?_⟩
    have hround := (round (w.heap.size + 1) k i W hi hInv hx).out (zip_bd b hpn)
    have e0 : (⟨(setAll L (zipW ps (encs i) ws)).toArray, marks []⟩ : Act) = { tmps := (ps.toArray.zip (encs i).toArray).foldl (fun t (p, v) => t.setIfInBounds p v) (setAll L ws).toArray, defers := [] } := by rw [zip_set]; rfl
    rw [e0] at hround
    refine Go.wpIn_mono hround fun e a1 w1 hp => ?_
    cases e with
    | normal =>
      obtain ⟨Bb, hbody⟩ := hp
      have Bc := Bb.oth.same _ _ (by omega) hl rfl
      have hkk := Bb.oth.same _ _ (Nat.le_refl _) hk rfl
      have Be := (Array.getElem?_eq_some_iff.1 Bc).1
      refine ⟨_, run_beginRound Bc rfl, ?_⟩
      let W2 := w1.putObj (w.heap.size + 1) (.loop (R .busy none))
      have Bg : Mv w.heap.size w1 W2 := Mv.putObj _ (by omega) Bc rfl
      have Bk : W2.heap[w.heap.size + 1]? = some (.loop (R .busy none)) := World.putObj_heap_same Be
      have Bj : W2.heap[w.heap.size]? = some (.deferred (some [])) := (World.putObj_heap_other (by omega)).trans hkk
      have leave : ∀ (jump : Option Code) (W3 : World), RK w.heap.size X W2 W3 →
          W3.heap[w.heap.size + 1]? = some (.loop (R .busy none)) ∧
          (Instr.endRound (w.heap.size + 1) jump).run P W3 = .ok (.bool jump.isNone) (W3.putObj (w.heap.size + 1) (.loop (R (if jump.isNone then .ready else .done) jump))) ∧
          (W3.putObj (w.heap.size + 1) (.loop (R (if jump.isNone then .ready else .done) jump))).heap[w.heap.size + 1]? = some (.loop (R (if jump.isNone then .ready else .done) jump)) ∧
          (W3.putObj (w.heap.size + 1) (.loop (R (if jump.isNone then .ready else .done) jump))).heap[w.heap.size]? = some (.deferred (some [])) ∧
          Mv w.heap.size W3 (W3.putObj (w.heap.size + 1) (.loop (R (if jump.isNone then .ready else .done) jump))) ∧ KeptX X W (W3.putObj (w.heap.size + 1) (.loop (R (if jump.isNone then .ready else .done) jump))) := fun jump W3 h3 => by
        have B7 := h3.oth.same _ _ (by omega) Bk rfl
        have Bh : Mv w.heap.size W3 (W3.putObj (w.heap.size + 1) (.loop (R (if jump.isNone then .ready else .done) jump))) := Mv.putObj _ (by omega) B7 rfl
        exact ⟨B7, run_endRound (P := P) jump B7, World.putObj_heap_same (Array.getElem?_eq_some_iff.1 B7).1, (World.putObj_heap_other (by omega)).trans (h3.oth.same _ _ (Nat.le_refl _) Bj rfl), Bh, ((Bb.kept.trans (KeptX.of_mv Bg)).trans h3.kept).trans (KeptX.of_mv Bh)⟩
      refine Go.wpIn_mono (hbody W2 Bg) fun e a3 W3 hp => ?_
      cases e with
      | normal =>
        obtain ⟨h3, Ba⟩ := hp
        obtain ⟨B7, hr, q1, q2, q3, q4⟩ := leave none W3 h3
        exact ⟨_, _, hr, .inl ⟨rfl, ⟨hI _ _ _ Ba q3, q1, q2⟩, q4⟩⟩
      | ret =>
        obtain ⟨h3, Ba⟩ := hp
        obtain ⟨B7, hr, q1, q2, q3, q4⟩ := leave (some .ret) W3 h3
        exact ⟨_, _, hr, .inr ⟨rfl, ⟨_, hIx _ _ _ _ Ba q3, q1, q2⟩, q4⟩⟩
      | exit id =>
        obtain ⟨h3, Ba⟩ := hp
        obtain ⟨B7, hr, q1, q2, q3, q4⟩ := leave (some (.exit id)) W3 h3
        exact ⟨_, _, hr, .inr ⟨rfl, ⟨_, hIx _ _ _ _ Ba q3, q1, q2⟩, q4⟩⟩
      | goto _ => exact hp.elim
      | panic _ => exact hp.elim
      | outgrown => exact hp.elim
    | exit _ => exact hp.elim
    | ret => exact hp.elim
    | goto _ => exact hp.elim
    | panic _ => exact hp.elim
    | outgrown => exact hp.elim
  · rintro e W2 ⟨⟨v, rfl⟩, (⟨hi, hl, hk⟩ | ⟨i, hiN, c, hi, hl, hk⟩)⟩
    · exact ⟨none, _, run_endLoop (P := P) hl (by simp [R, recOf]), (done w.heap.size _ (Nat.le_refl _) (by have := (Array.getElem?_eq_some_iff.1 hk).1; simpa using this) (hI _ _ _ hi (Mv.putObj _ (by omega) hl rfl)) ((World.putObj_heap_other (by omega)).trans hk)).out b⟩
    · exact ⟨some c, _, run_endLoop (P := P) hl (by simp [R, recOf]), (stop c w.heap.size i _ (Nat.le_refl _) (by have := (Array.getElem?_eq_some_iff.1 hk).1; simpa using this) hiN (hIx _ _ _ _ hi (Mv.putObj _ (by omega) hl rfl)) ((World.putObj_heap_other (by omega)).trans hk)).out b⟩⟩
theorem iqw_asg {l k n₀ i : Nat} {X : Nat → Prop} {body : Code} {Inv : Nat → World → Prop} {Ix : Code → Nat → World → Prop} {W : World} (hk : RK n₀ X W w) (h : ∀ W2, Mv n₀ w W2 → ICW P (some l) k [] body (RndQ n₀ X Inv Ix i W2) n L ws W2) : IQW [] (AsgQ P l k n₀ X body Inv Ix i W) .normal n L ws w :=
 ⟨fun b => ⟨hk, fun w2 hm => (h w2 hm).out b⟩⟩
theorem iqw_next {n₀ i : Nat} {X : Nat → Prop} {Inv : Nat → World → Prop} {Ix : Code → Nat → World → Prop} {W : World} (hk : RK n₀ X W w) (h : Inv (i + 1) w) : IQW Ds (RndQ n₀ X Inv Ix i W) .normal n L ws w := ⟨fun _ => ⟨hk, h⟩⟩
theorem ileave {fn : Func} {R : Ending → World → Prop} {rs : List ResultVar} (n₀ : Nat) (vs : List Value) (hf : fn.results = rs.toArray) (b : Bd n L ws) (hD : ∀ D ∈ Ds, n₀ ≤ D ∧ w.heap[D]? = some (.deferred (some []))) (hn : Ds.Nodup)
  (h : ∀ W, Mv n₀ w W → ResV P (evalW L ws) W rs vs ∧ R (.returned (resOf vs)) W) : LeavesInM Fence.wide m P fn (setAll L ws).toArray R (marks Ds) .returning w := by
 refine leaves_marks n₀ (fun W => Mv n₀ w W) (fun D W hD hW hk => hW.trans (Mv.putObj _ hD hk rfl)) (fun W hW => ?_) Ds w hn hD (Mv.refl _ _)
 obtain ⟨h1, h2⟩ := h W hW
 exact ⟨_, res_run (a := ⟨(setAll L ws).toArray, marks Ds⟩) hf (by rw [eval_W b.lt]; exact h1), h2⟩
theorem iqw_ret {fn : Func} {R : Ending → World → Prop} {rs : List ResultVar} (n₀ : Nat) (vs : List Value) (hf : fn.results = rs.toArray) (hD : ∀ D ∈ Ds, n₀ ≤ D ∧ w.heap[D]? = some (.deferred (some []))) (hn : Ds.Nodup)
  (h : ∀ W, Mv n₀ w W → ResV P (evalW L ws) W rs vs ∧ R (.returned (resOf vs)) W) : IQW Ds (IBody m P fn R) .ret n L ws w := ⟨fun b => ileave n₀ vs hf b hD hn h⟩
end
section
variable {P : Program} {ops : Array Oper} {Q : Exit → Act → World → Prop} {S : World → Prop} {r : Option Nat} {m : Nat}
def AnyJ (P : Program) (r : Option Nat) (m : Nat) (ops : Array Oper) (Q : Exit → Act → World → Prop) (S : World → Prop) : Nat → Array Bool → Act → World → Prop
 | 0, listed, a, w => Region.ready .any ops listed = [] ∧ Q .normal a w
 | fuel + 1, listed, a, w => (Region.ready .any ops listed = [] → Q .normal a w) ∧ ∀ i ∈ Region.ready .any ops listed, wpOpIn (FR r) m P ops Q i (fun a' w' => S w' ∧ AnyJ P r m ops Q S fuel (listed.setIfInBounds i true) a' w') a w
theorem anyJ_sound : ∀ (fuel : Nat) (listed : Array Bool) (a : Act) (w : World), AnyJ P r m ops Q S fuel listed a w → wpAnyIn (FR r) m P .any ops Q fuel listed a w
 | 0, _, _, _, h => h
 | fuel + 1, _, _, _, h => ⟨h.1, fun i hi => wpOpIn_mono (fun a w q => anyJ_sound fuel _ a w q.2) (h.2 i hi)⟩
def PureH (P : Program) (ops : Array Oper) (S : World → Prop) (o : Oper) (v : Value) (a : Act) : Prop :=
 (Region.wanted o (yielded ops a.tmps) = true ∧ ∀ w, S w → (execOp a.eval o).run P w = .ok (.value v) w) ∨ (Region.wanted o (yielded ops a.tmps) = false ∧ v = undef)
theorem PureH.same {o : Oper} {v : Value} {a a' : Act} (h : PureH P ops S o v a) (he : execOp a'.eval o = execOp a.eval o) (hw : Region.wanted o (yielded ops a'.tmps) = Region.wanted o (yielded ops a.tmps)) : PureH P ops S o v a' := by
 unfold PureH at *
 rw [hw, he]; exact h
theorem PureH.op {i : Nat} {o : Oper} {v : Value} {a : Act} (hi : ops[i]? = some o) (h : PureH P ops S o v a) {K : Act → World → Prop} {w : World} (hS : S w) (hk : K (a.put o.dst v) w) : wpOpIn (FR r) m P ops Q i K a w := by
  unfold wpOpIn
  simp only [hi]
  rcases h with ⟨hw, hv⟩ | ⟨hw, rfl⟩
  · rw [if_pos hw]
    refine ⟨fun _ _ => trivial, ?_⟩
    show o.uponIn (FR r) m P a K Q ((o.semAt r a.eval).run P w)
    rw [semAt_of (hv w hS) (by simp), Oper.uponIn_value]; exact hk
  · rw [if_neg (by rw [hw]; simp)]
    exact ⟨fun _ _ => trivial, hk⟩
theorem opJ_put {j : Nat} {oi oj : Oper} {v : Value} (hj : ops[j]? = some oj) (hap : oi.apart ops oj = true) (hsi : ∀ cs b, oi.op ≠ .select cs b) (hsj : ∀ cs b, oj.op ≠ .select cs b) (hnd : ∀ c, oj.op ≠ .defer c)
    (hQ : ∀ c a w, Q (.panic c) (a.put oi.dst v) w → Q (.panic c) a w) {K : Act → World → Prop} {a : Act} {w : World} (hy : PureH P ops S oi v a) (h : wpOpIn (FR r) m P ops Q j K (a.put oi.dst v) w) :
    wpOpIn (FR r) m P ops Q j (fun a' w' => PureH P ops S oi v a' ∧ K (a'.put oi.dst v) w') a w := by
  obtain ⟨h1, h2, h3⟩ := Oper.apart_spec hap
  have keep : ∀ (a : Act) (u : Value), PureH P ops S oi v a → PureH P ops S oi v (a.put oj.dst u) := fun a u hy => hy.same (execOp_put oi hsi a oj.dst u h3) (wanted_put oi a oj.dst u h3)
  unfold wpOpIn at *
  simp only [hj] at *
  rw [wanted_put oj a oi.dst v h1] at h
  split
  · rename_i hw
    simp only [hw, if_true] at h
    refine ⟨fun _ _ => trivial, ?_⟩
    have h9 := h.2
    rw [Oper.semAt_eq _ _ _ hnd, execOp_put oj hsj a oi.dst v h1] at h9
    rw [Oper.semAt_eq _ _ _ hnd]
    generalize (execOp a.eval oj).run P w = res at *
    cases res with
    | ok x w' =>
      cases x <;> simp only [Oper.uponIn] at h9 ⊢
      case value u => exact ⟨keep a u hy, by rw [← Act.put_comm a v u h2]; exact h9⟩
      case skip => exact ⟨keep a _ hy, by rw [← Act.put_comm a v undef h2]; exact h9⟩
      case defer d =>
        refine ⟨keep _ _ (hy.same rfl rfl), ?_⟩
        rw [← Act.put_comm _ v undef h2, ← Act.put_defers]
        exact h9
      case enter f args =>
        refine ⟨h9.1, CallsIn.mono h9.2 fun e w'' he => ?_⟩
        cases e with
        | returned u => exact ⟨keep a u hy, by rw [← Act.put_comm a v u h2]; exact he⟩
        | panicked c => exact hQ _ _ _ he
        | outgrown => exact he
      case row row args => exact ⟨h9.1, RowsIn.mono h9.2 fun u w'' he => ⟨keep a u hy, by rw [← Act.put_comm a v u h2]; exact he⟩⟩
      case round l f tmps assign body =>
        refine ⟨h9.1, RoundIn.mono h9.2 fun e w'' he => ?_⟩
        cases e with
        | returned u => exact ⟨keep a u hy, by rw [← Act.put_comm a v u h2]; exact he⟩
        | panicked c => exact hQ _ _ _ he
        | outgrown => exact he
    | halt x w' =>
      cases x <;> simp only [Oper.uponIn] at h9 ⊢
      case panic u => exact hQ _ _ _ h9
  · rename_i hw
    simp only [hw] at h
    exact ⟨fun _ _ => trivial, keep a _ hy, by rw [← Act.put_comm a v undef h2]; exact h.2⟩
theorem anyJ_first {i : Nat} {oi : Oper} {v : Value} (hi : ops[i]? = some oi) (hsel : ∀ (j : Nat) (o : Oper) cs b, ops[j]? = some o → o.op ≠ .select cs b) (hnd : ∀ (j : Nat) (o : Oper) c, ops[j]? = some o → o.op ≠ .defer c)
    (hQ : ∀ c a w, Q (.panic c) (a.put oi.dst v) w → Q (.panic c) a w) :
    ∀ (fuel : Nat) (listed : Array Bool) (a : Act) (w : World),
      (∀ j oj, ops[j]? = some oj → j ≠ i → listed.getD j true = false → (∀ e ∈ oj.after, Region.binds .any e = true → e.on ≠ i) → oi.apart ops oj = true) →
      i ∈ Region.ready .any ops listed → PureH P ops S oi v a → S w →
      AnyJ P r m ops Q S fuel (listed.setIfInBounds i true) (a.put oi.dst v) w → AnyJ P r m ops Q S (fuel + 1) listed a w := by
  intro fuel
  induction fuel with
  | zero =>
    intro listed a w _ hr hy hS H
    refine ⟨fun h => (by rw [h] at hr; cases hr), fun j hj => ?_⟩
    by_cases hji : j = i
    · subst hji; exact hy.op hi hS ⟨hS, H⟩
    · have := ready_mono hj hji
      rw [H.1] at this
      cases this
  | succ fuel ih =>
    intro listed a w hfree hr hy hS H
    refine ⟨fun h => (by rw [h] at hr; cases hr), fun j hj => ?_⟩
    by_cases hji : j = i
    · subst hji; exact hy.op hi hS ⟨hS, H⟩
    · have h1 := H.2 j (ready_mono hj hji)
      obtain ⟨hjun, oj, hoj, hall⟩ := mem_ready.1 hj
      have hnot : ∀ e ∈ oj.after, Region.binds .any e = true → e.on ≠ i := fun e he hb heq => by
        have h1 := hall e he hb
        have h0 := (mem_ready.1 hr).1
        rw [heq] at h1
        rcases Nat.lt_or_ge i listed.size with h' | h'
        · simp [h'] at h0 h1; rw [h0] at h1; cases h1
        · simp [Array.getElem?_eq_none h'] at h1
      have h2 := opJ_put (S := S) hoj (hfree j oj hoj hji hjun hnot) (fun cs b => hsel i oi cs b hi) (fun cs b => hsel j oj cs b hoj) (fun c => hnd j oj c hoj) hQ hy h1
      have hfree' : ∀ k ok, ops[k]? = some ok → k ≠ i → (listed.setIfInBounds j true).getD k true = false →
          (∀ e ∈ ok.after, Region.binds .any e = true → e.on ≠ i) → oi.apart ops ok = true := fun k ok hk hki hun hno => by
        refine hfree k ok hk hki ?_ hno
        by_cases hjk : j = k
        · subst hjk; exact hjun
        · rw [getD_set_ne true hjk] at hun; exact hun
      refine wpOpIn_mono (fun a' w' h3 => ⟨h3.2.1, ih (listed.setIfInBounds j true) a' w' hfree' (ready_mono hr (Ne.symm hji)) h3.1 h3.2.1 ?_⟩) h2
      rw [Array.setIfInBounds_comm _ _ hji]
      exact h3.2.2
end
def noDefer (ops : Array Oper) : Bool := ops.toList.all fun o => match o.op with | .defer _ => false | _ => true
theorem noDefer_spec {ops : Array Oper} (h : noDefer ops = true) : ∀ (j : Nat) (o : Oper) c, ops[j]? = some o → o.op ≠ .defer c := fun j o c hj he => by
 have hm : o ∈ ops.toList := by rw [← Array.getElem?_toList] at hj; exact List.mem_of_getElem? hj
 have := List.all_eq_true.1 h o hm
 rw [he] at this; cases this
section
variable {P : Program} {ops ops0 : Array Oper} {Q Q' : Exit → Act → World → Prop} {S : World → Prop} {T : List Row} {L : List Value} {Ds : List Nat} {fuel n : Nat} {done : List Nat} {ws : List (Nat × Value)} {w : World} {r : Option Nat} {m : Nat}
structure IReg (P : Program) (ops0 ops : Array Oper) (Q : Exit → Act → World → Prop) (L : List Value) (T : List Row) : Prop extends Reg P ops0 ops Q L T where
 nodef : noDefer ops = true
structure IWD (P : Program) (r : Option Nat) (m : Nat) (Ds : List Nat) (ops : Array Oper) (Q : Exit → Act → World → Prop) (S : World → Prop) (L : List Value) (fuel : Nat) (done : List Nat) (ws : List (Nat × Value)) (w : World) : Prop where
 out : (∀ p ∈ ws, p.1 < L.length) → AnyJ P r m ops Q S fuel (lset ops.size done) ⟨(setAll L ws).toArray, marks Ds⟩ w
theorem icw_draw {id : Nat} {ops0 : Array Oper} (T : List Row) (S : World → Prop) (hm : P.follows .mixedOrders = true) (ht : tableR ops0 = T) (hg : goodT n ops0.size T = true) (hs : (Region.noSelect ops0 && noDefer ops0) = true) (hQ : Calm Q) (_hS : S w.drew)
  (h : ∀ (ops : Array Oper) (Q' : Exit → Act → World → Prop) (X : World), Ext w X → L.length = n → IReg P ops0 ops Q' L T → Shut (∀ ws w, IQW Ds Q .normal n L ws w → IQW Ds Q' .normal n L ws w) → IWD P r m Ds ops Q' S L ops0.size [] ws X) : ICW P r m Ds (.region id ops0 true) Q n L ws w := ⟨fun b => by
 obtain ⟨hs1, hs2⟩ := Bool.and_eq_true_iff.1 hs
 have h9 := (h ops0 Q _ (Ext.drew (Ext.refl _)) b.1 ⟨⟨rfl, ht, by rw [b.1]; exact hg, hs1, hQ⟩, hs2⟩ (fun _ _ h => h)).out b.lt
 exact wpIn_region_any hm (anyJ_sound _ _ _ _ h9)⟩
theorem iwd_end (hL : L.length = n) (hR : IReg P ops0 ops Q' L T) (hK : Shut (∀ ws w, IQW Ds Q .normal n L ws w → IQW Ds Q' .normal n L ws w)) (hd : upT done (numbered T 0) = []) (h : IQW Ds Q .normal n L ws w) : IWD P r m Ds ops Q' S L fuel done ws w := ⟨fun hb => by
 have hr : Region.ready .any ops (lset ops.size done) = [] := by
  rw [List.eq_nil_iff_forall_not_mem]
  intro j hj
  have := ready_up hR.toReg hj
  rw [hd] at this; cases this
 have hq := (hK _ _ h).out ⟨hL, fun p hp => by rw [← hL]; exact hb p hp⟩
 cases fuel with
 | zero => exact ⟨hr, hq⟩
 | succ k => exact ⟨fun _ => hq, by rw [hr]; simp⟩⟩
theorem iwd_take (i : Nat) {d : Nat} {oi : Oper} {rs : List Oper} (v : Value) (hR : IReg P ops0 ops Q' L T) (hi : ops0.toList.drop i = oi :: rs) (hr : readyT T done i = true) (hdst : oi.dst = some d)
  (hw : wantedW T L ws oi.guard = true) (hy : ∀ w, S w → (execOp (evalW L ws) oi).run P w = .ok (.value v) w) (hS : S w)
  (h : IWD P r m Ds ops Q' S L fuel (i :: done) ((d, v) :: ws) w) : IWD P r m Ds ops Q' S L (fuel + 1) done ws w := ⟨fun hb => by
 have ho := op_at hR.toReg hi
 refine anyJ_first (v := v) ho (Region.noSelect_spec hR.nosel) (noDefer_spec hR.nodef) (fun c a w => hR.calm c _ _ a w) fuel _ _ w (apart_of_good hR.tab hR.good ho hr) (readyT_mem hR.tab hR.good ho hr) ?_ hS ?_
 · exact .inl ⟨wanted_W (marks Ds) hR.tab hR.good hb hw, fun w hw => by rw [eval_W hb]; exact hy w hw⟩
 · rw [put_W, hdst]; exact h.out (putW_lt (d := some d) hb (fun k e => by cases e; exact dst_lt hR.toReg ho _ hdst))⟩
theorem iwd_step (i : Nat) {oi : Oper} {rs : List Oper} (hR : IReg P ops0 ops Q' L T) (hi : ops0.toList.drop i = oi :: rs) (hr : upT done (numbered T 0) = [i]) (hr2 : readyT T done i = true)
    (hw : wantedW T L ws oi.guard = true) (h : StepN P (evalW L ws) oi w fun v w' => S w' ∧ IWD P r m Ds ops Q' S L fuel (i :: done) (putW oi.dst v ws) w') : IWD P r m Ds ops Q' S L (fuel + 1) done ws w := ⟨fun hb => by
  have ho := op_at hR.toReg hi
  refine ⟨fun h0 => ?_, fun j hj => ?_⟩
  · have := readyT_mem hR.tab hR.good ho hr2
    rw [h0] at this; cases this
  · have := ready_up hR.toReg hj
    rw [hr] at this
    obtain rfl := List.mem_singleton.1 this
    unfold wpOpIn
    simp only [ho]
    rw [if_pos (wanted_W (marks Ds) hR.tab hR.good hb hw)]
    exact h.wpI (eval_W hb _) fun v w' hn => ⟨hn.1, by rw [put_W]; exact hn.2.out (putW_lt hb (dst_lt hR.toReg ho))⟩⟩
theorem calm_no (h : ∀ c a w, ¬ Q (.panic c) a w) : Calm Q := fun c _ _ _ w q => (h c _ w q).elim
theorem calm_rnd {n₀ i : Nat} {X : Nat → Prop} {Inv : Nat → World → Prop} {Ix : Code → Nat → World → Prop} {W : World} : Calm (RndQ n₀ X Inv Ix i W) := calm_no fun _ _ _ h => h
end
section
variable {P : Program} {n : Nat} {L : List Value} {ws : List (Nat × Value)} {w : World} {m : Nat}
theorem iqw_ret0 {fn : Func} {R : Ending → World → Prop} {rs : List ResultVar} (vs : List Value) (hf : fn.results = rs.toArray) (h : ResV P (evalW L ws) w rs vs) (hR : R (.returned (resOf vs)) w) : IQW [] (IBody m P fn R) .ret n L ws w := ⟨fun b => by
 show LeavesInM Fence.wide m P fn (setAll L ws).toArray R [] .returning w
 exact ⟨_, res_run (a := ⟨(setAll L ws).toArray, []⟩) hf (by rw [eval_W b.lt]; exact h), hR⟩⟩
theorem iqw_end0 {fn : Func} {R : Ending → World → Prop} {rs : List ResultVar} (vs : List Value) (hf : fn.results = rs.toArray) (h : ResV P (evalW L ws) w rs vs) (hR : R (.returned (resOf vs)) w) : IQW [] (IBody m P fn R) .normal n L ws w := ⟨fun b => by
 show LeavesInM Fence.wide m P fn (setAll L ws).toArray R [] .returning w
 exact ⟨_, res_run (a := ⟨(setAll L ws).toArray, []⟩) hf (by rw [eval_W b.lt]; exact h), hR⟩⟩
end
theorem yield_mono {F : Fence} {m : Nat} {P : Program} {l : Nat} {args : Array Value} {W : World} {R R' : Ending → World → Prop} (h : YieldAt F m P l args W R) (hr : ∀ e w', R e w' → R' e w') : YieldAt F m P l args W R' :=
 let ⟨fn, tmps, assign, body, h1, h2⟩ := h; ⟨fn, tmps, assign, body, h1, h2.mono hr⟩
theorem mk_turn {A B : World} {D O : Nat} {x : Option (List Deferred)} (h : A.heap[D]? = some (.deferred x)) (t : Turns O A B) : B.heap[D]? = some (.deferred x) := by
 by_cases e : D = O
 · subst e; exact t.oth' _ h rfl
 · rw [t.heap' D e]; exact h
theorem marksC {n₀ D : Nat} {w : World} {Ds : List Nat} (h : n₀ ≤ D) (hm : w.heap[D]? = some (.deferred (some []))) (hr : ∀ D' ∈ Ds, n₀ ≤ D' ∧ w.heap[D']? = some (.deferred (some []))) : ∀ D' ∈ D :: Ds, n₀ ≤ D' ∧ w.heap[D']? = some (.deferred (some [])) := fun D' hD => by
 rcases List.mem_cons.1 hD with rfl | hD
 · exact ⟨h, hm⟩
 · exact hr D' hD
structure Wrote (X : Nat → Prop) (A B : World) : Prop where
 os : B.os = A.os
 tape : B.tape = A.tape
 output : B.output = A.output
 size : A.heap.size ≤ B.heap.size
 same : ∀ (k : Nat), k < A.heap.size → ¬ X k → B.heap[k]? = A.heap[k]?
 oth : ∀ (k : Nat) (o : Obj), A.heap[k]? = some o → o.isCells = false → B.heap[k]? = some o
theorem Wrote.refl (X : Nat → Prop) (A : World) : Wrote X A A := ⟨rfl, rfl, rfl, Nat.le_refl _, fun _ _ _ => rfl, fun _ _ h _ => h⟩
theorem Wrote.trans {X : Nat → Prop} {A B C : World} (h : Wrote X A B) (k : Wrote X B C) : Wrote X A C :=
 ⟨k.os.trans h.os, k.tape.trans h.tape, k.output.trans h.output, T h.size k.size, fun i hi hx => (k.same i (Nat.lt_of_lt_of_le hi h.size) hx).trans (h.same i hi hx), fun i o hi ho => k.oth i o (h.oth i o hi ho) ho⟩
theorem Wrote.of_ext {X : Nat → Prop} {A B : World} (e : Ext A B) : Wrote X A B :=
 ⟨e.os, e.tape, e.output, e.size, fun k hk _ => e.block k hk, fun k _o hk _ => (e.block k (Array.getElem?_eq_some_iff.1 hk).1).trans hk⟩
theorem Wrote.of_turns {X : Nat → Prop} {A B : World} {O : Nat} (t : Turns O A B) (hx : X O) : Wrote X A B := by
 have h0 : Ext { A with heap := #[] } A := ⟨rfl, rfl, rfl, Nat.zero_le _, fun k hk => absurd hk (Nat.not_lt_zero k)⟩
 have h1 := t.ext h0 (Nat.zero_le _)
 refine ⟨h1.os, h1.tape, h1.output, Nat.le_of_eq t.size.symm, fun k _ hk => t.heap' k (fun e => hk (e ▸ hx)), fun k o hk ho => ?_⟩
 by_cases e : k = O
 · subst e; exact t.oth' o hk ho
 · rw [t.heap' k e]; exact hk
theorem Wrote.step {X : Nat → Prop} {A B C : World} (h : Wrote X A B) (e : Ext B C) : Wrote X A C := h.trans (Wrote.of_ext e)
theorem Wrote.turn {X : Nat → Prop} {A B C : World} (h : Wrote X A B) {O : Nat} (t : Turns O B C) (hO : X O ∨ A.heap.size ≤ O) : Wrote X A C := by
  rcases hO with q | q
  · exact h.trans (Wrote.of_turns t q)
  · have k := Wrote.of_turns (X := fun k => k = O) t rfl
    exact ⟨k.os.trans h.os, k.tape.trans h.tape, k.output.trans h.output, T h.size k.size, fun i hi hx => (k.same i (Nat.lt_of_lt_of_le hi h.size) (fun e => by omega)).trans (h.same i hi hx), fun i o hi ho => k.oth i o (h.oth i o hi ho) ho⟩
theorem Wrote.ext {X : Nat → Prop} {A B U : World} (h : Wrote X A B) (hU : Ext U A) (hx : ∀ k, X k → U.heap.size ≤ k) : Ext U B :=
 ⟨h.os.trans hU.os, h.tape.trans hU.tape, h.output.trans hU.output, T hU.size h.size, fun k hk => (h.same k (Nat.lt_of_lt_of_le hk hU.size) (fun q => absurd hk (Nat.not_lt_of_le (hx k q)))).trans (hU.block k hk)⟩
theorem Wrote.kept {X Y : Nat → Prop} {A B : World} (h : Wrote X A B) (hx : ∀ k, X k → Y k) : KeptX Y A B :=
 ⟨h.size, fun k _o hk _ hy => (h.same k (Array.getElem?_eq_some_iff.1 hk).1 (fun q => hy (hx k q))).trans hk⟩
theorem Wrote.cell {X : Nat → Prop} {A B : World} (h : Wrote X A B) {b o : Nat} {v : Value} (hb : ¬ X b) (hv : A.cell? ⟨b, o, none⟩ = some v) : B.cell? ⟨b, o, none⟩ = some v := (h.kept (fun _ q => q)).cell hb hv
theorem Wrote.box {X : Nat → Prop} {A B : World} (h : Wrote X A B) {b o : Nat} {v : Value} (hb : ¬ X b) (hv : BoxAt A b o v) : BoxAt B b o v := (h.kept (fun _ q => q)).box hb hv
theorem Wrote.va {X : Nat → Prop} {A B : World} (h : Wrote X A B) {b o : Nat} {l : List Int} (hb : ¬ X b) (hv : VA A b o l) : VA B b o l := ⟨fun i hi => h.cell hb (hv.1 i hi), hv.2⟩
theorem Wrote.rows {X : Nat → Prop} {A B : World} (h : Wrote X A B) {b : Nat} {l : List Int} (hb : ¬ X b) (hv : RowsAt A b l) : RowsAt B b l :=
 ⟨hv.1, fun _i hi => h.cell hb (hv.cell hi), fun _i hi => (h.box hb ⟨hv.cell hi, hv.free hi⟩).2⟩
theorem RK.wrote {n₀ : Nat} {X Y : Nat → Prop} {A B C : World} (h : RK n₀ X A B) (t : Wrote Y B C) (hY : ∀ k, Y k → X k ∨ A.heap.size ≤ k) : RK n₀ X A C := by
 refine ⟨⟨T h.kept.size t.size, fun k o hk ho hx => ?_⟩, ⟨T h.oth.size t.size, fun k o hk hi ho => t.oth k o (h.oth.same k o hk hi ho) ho⟩⟩
 have h2 := h.kept.cells k o hk ho hx
 refine (t.same k (Array.getElem?_eq_some_iff.1 h2).1 (fun q => ?_)).trans h2
 rcases hY k q with q | q
 · exact hx q
 · have := (Array.getElem?_eq_some_iff.1 hk).1; omega
theorem Wrote.wrote {X Y : Nat → Prop} {A B C : World} (h : Wrote X A B) (t : Wrote Y B C) (hY : ∀ k, Y k → X k ∨ A.heap.size ≤ k) : Wrote X A C :=
 ⟨t.os.trans h.os, t.tape.trans h.tape, t.output.trans h.output, T h.size t.size, fun k hk hx => (t.same k (Nat.lt_of_lt_of_le hk h.size) (fun q => (hY k q).elim hx (fun z => absurd hk (Nat.not_lt_of_le z)))).trans (h.same k hk hx), fun k o hk ho => t.oth k o (h.oth k o hk ho) ho⟩
instance {w w' : World} {n₀ : Nat} {X : Nat → Prop} {A : World} : MvC w w' (RK n₀ X A w) (RK n₀ X A w') := ⟨fun e h => h.ext e⟩
section
variable {P : Program} {n : Nat} {L : List Value} {ws : List (Nat × Value)} {w : World} {Q : Exit → Act → World → Prop} {r : Option Nat} {m : Nat} {Ds : List Nat}
theorem iU {ops rest : List Oper} {o : Oper} {d : Nat} (v : Value) (hr : (execOp (evalW L ws) o).run P w = .ok (.value v) w) (h : IPL P r m Ds ops rest Q n L ((d, v) :: ws) w)
    (hdst : o.dst = some d := by rfl) (hok : dstOk n ops = true := by kernel_rfl) (hd : Nat.blt d n = true := by kernel_rfl) (hw : wantP ops L ws o.guard = true := by kernel_rfl) : IPL P r m Ds ops (o :: rest) Q n L ws w := ipl_take v hdst hok hd hw hr h
theorem iT {ops rest : List Oper} {o : Oper} {d : Nat} (v : Value) (h : IPL P r m Ds ops rest Q n L ((d, v) :: ws) w)
    (hdst : o.dst = some d := by rfl) (hok : dstOk n ops = true := by kernel_rfl) (hd : Nat.blt d n = true := by kernel_rfl) (hw : wantP ops L ws o.guard = true := by kernel_rfl) (hr : (execOp (evalW L ws) o).run P w = .ok (.value v) w := by kernel_rfl) : IPL P r m Ds ops (o :: rest) Q n L ws w := ipl_take v hdst hok hd hw hr h
theorem iS {ops rest : List Oper} {o : Oper} {d : Nat} (h : StepN P (evalW L ws) o w fun v w' => IPL P r m Ds ops rest Q n L ((d, v) :: ws) w')
    (hdst : o.dst = some d := by rfl) (hok : dstOk n ops = true := by kernel_rfl) (hd : Nat.blt d n = true := by kernel_rfl) (hw : wantP ops L ws o.guard = true := by kernel_rfl) : IPL P r m Ds ops (o :: rest) Q n L ws w := ipl_step hdst hok hd hw h
theorem iP {ops rest : List Oper} {o : Oper} (h : StepN P (evalW L ws) o w fun _ w' => IPL P r m Ds ops rest Q n L ws w')
    (hdst : o.dst = none := by rfl) (hok : dstOk n ops = true := by kernel_rfl) (hw : wantP ops L ws o.guard = true := by kernel_rfl) : IPL P r m Ds ops (o :: rest) Q n L ws w := ipl_put hdst hok hw h
end
end Go.Proofs.YtajdohcgjgknmaaGreatDoor

namespace Go.Proofs.YtajdohcgjgknmaaGreatDoor
open Go.RowKit
theorem own_app1k {α : Type} {R : Rep α} {P : Program} {t ty e : TypeId} {z : Value} {size bytes : Nat} (E : ElemT P t e z size bytes) {n₀ : Nat} {v : Value} {w : World} {l : List α} (h : OwnL R n₀ e size v w l) (hn : n₀ ≤ w.heap.size) {k : Nat} (hl : l.length = k)
    {O c : Nat} {x : α} {d : List Value} {F : List Nat} (hsz : d.length = size) (hcell : ∀ j u, d[j]? = some u → w.cell? ⟨O, j, none⟩ = some u) (h1 : ∀ u ∈ d, u.oneCell' = true)
    (hR : R.rel w d x F) (hF : ∀ b ∈ F, v.ownBlock ≠ some b) (hb : (k + 1) * bytes ≤ 140737488355328) (hmax : k + 1 ≤ 9223372036854775807) :
    ∃ g cap w', (Builtin.append_ #[t, t] ty #[v, .slice (some ⟨O, 0, none⟩) 1 c]).run P w = .ok (.slice (some ⟨g, 0, none⟩) (k + 1) cap) w' ∧ OwnL R n₀ e size (.slice (some ⟨g, 0, none⟩) (k + 1) cap) w' (l ++ [x]) ∧ Grew n₀ w w' ∧ w.grownBy w' v.ownBlock := by
  subst hl
  obtain ⟨cs, h2, h3, h4, h5⟩ := h
  obtain ⟨i, hi, hz0, hz1, hz2⟩ := info_parts E.info
  obtain ⟨v', w', hrun, hown, hg, hiff, hat⟩ := run_append_own_at (P := P) w n₀ t ty e i z size bytes E.under hi hz0 hz1 hz2 E.zs E.pos v l.length cs.flatten h4 ⟨O, 0, none⟩ 1 c d (by rw [hsz, Nat.one_mul]) (fun j u hj => by
    rw [Addr.add_mid, Nat.zero_add]; exact hcell j u hj) h1 (by unfold maxLen; exact hmax) hb hn
  have hnb : ∀ F : List Nat, (∀ b ∈ F, v.ownBlock ≠ some b) → (∀ b ∈ F, b < w.heap.size) → (∀ b ∈ F, v'.ownBlock ≠ some b) ∧ ∀ b ∈ F, ∀ o u, w.cell? ⟨b, o, none⟩ = some u → w'.cell? ⟨b, o, none⟩ = some u := by
    intro F hF hFl
    refine ⟨fun b hbF hv' => ?_, fun b hbF o u hu => hg.cell hu (fun e => hF b hbF e.symm)⟩
    rcases hat with e1 | e1
    · exact hF b hbF (by rw [← e1]; exact hv')
    · rw [e1] at hv'; cases hv'; have := hFl _ hbF; omega
  have hO : OwnL R n₀ e size v' w' (l ++ [x]) := ⟨cs ++ [d], by simp [h2], by
      intro y hy
      rcases List.mem_append.1 hy with hy | hy
      · exact h3 y hy
      · rw [List.mem_singleton.1 hy]; exact hsz, by rw [List.flatten_append, List.length_append]; simpa using hown, by
      intro j y c hx hc
      rcases Nat.lt_or_ge j l.length with hj | hj
      · rw [List.getElem?_append_left hj] at hx
        rw [List.getElem?_append_left (by rw [h2]; exact hj)] at hc
        obtain ⟨F, q1, q2⟩ := h5 j y c hx hc
        obtain ⟨k1, k2⟩ := hnb F q2 (R.lt q1)
        exact ⟨F, R.keep q1 k2, k1⟩
      · rw [List.getElem?_append_right hj] at hx
        rw [List.getElem?_append_right (by rw [h2]; exact hj), h2] at hc
        match hj' : j - l.length, hx, hc with
        | 0, hx, hc =>
          simp at hx hc; subst hx hc
          obtain ⟨k1, k2⟩ := hnb F hF (R.lt hR)
          exact ⟨F, R.keep hR k2, k1⟩
        | _ + 1, hx, _ => simp at hx⟩
  rcases hown.2 with ⟨q, _⟩ | ⟨g, cap, cur, q, _, _, q3, _⟩
  · have := (hiff.1 q).2; omega
  · subst q
    exact ⟨g, cap, w', hrun, hO, ⟨hg.size, fun U hU hUn => Ext.own' hU h4 hUn hg⟩, hg⟩
theorem own_not {v : Value} {n b : Nat} (h : ∀ b, v.ownBlock = some b → n ≤ b) (hb : b < n) : v.ownBlock ≠ some b := fun e => by have := h b e; omega
theorem own_not2 {v : Value} {m b : Nat} (h : ∀ b, v.ownBlock = some b → b < m) (hb : m ≤ b) : v.ownBlock ≠ some b := fun e => by have := h b e; omega
theorem away_cons {v : Value} {b : Nat} {F : List Nat} (h : v.ownBlock ≠ some b) (k : ∀ c ∈ F, v.ownBlock ≠ some c) : ∀ c ∈ b :: F, v.ownBlock ≠ some c := fun c hc => by
 rcases List.mem_cons.1 hc with rfl | hc
 · exact h
 · exact k c hc
theorem OwnL.turn {α : Type} {R : Rep α} {n₀ : Nat} {e : TypeId} {size : Nat} {v : Value} {w X : World} {l : List α} {O : Nat} (h : OwnL R n₀ e size v w l) (ho : Turns O w X) (h1 : v.ownBlock ≠ some O) (h2 : ∀ c x F, R.rel w c x F → ∀ b ∈ F, b ≠ O) : OwnL R n₀ e size v X l := by
  obtain ⟨cs, q1, q2, q3, q4⟩ := h
  refine ⟨cs, q1, q2, ⟨q3.1, ?_⟩, fun j x c hx hc => ?_⟩
  · rcases q3.2 with q | ⟨g, cap, cur, rfl, hb, hcur, rest⟩
    · exact .inl q
    · refine .inr ⟨g, cap, cur, rfl, hb, ?_, rest⟩
      rw [ho.heap' g (fun e => h1 (by rw [← e]; rfl))]; exact hcur
  · obtain ⟨F, k1, k2⟩ := q4 j x c hx hc
    exact ⟨F, R.keep k1 (fun b hb o u hu => ho.cell (fun e => h2 _ _ _ k1 b hb e.symm) hu), k2⟩
theorem RowsAt.grownR {w w' : World} {r : Option Nat} {b : Nat} {l : List Int} (h : RowsAt w b l) (hg : w.grownBy w' r) (hne : r ≠ some b) : RowsAt w' b l :=
 ⟨h.1, fun _i hi => hg.cell (h.cell hi) (fun e => hne e.symm), fun _i hi => (BoxAt.grownR ⟨h.cell hi, h.free hi⟩ hg hne).2⟩
theorem cell_grownR {w w' : World} {r : Option Nat} {b o : Nat} {v : Value} (h : w.cell? ⟨b, o, none⟩ = some v) (hg : w.grownBy w' r) (hne : r ≠ some b) : w'.cell? ⟨b, o, none⟩ = some v := hg.cell h (fun e => hne e.symm)
theorem RK.app {n₁ : Nat} {X : Nat → Prop} {A B C : World} (h : RK n₁ X A B) {α : Type} {R : Rep α} {n₀ : Nat} {e : TypeId} {size : Nat} {v : Value} {l : List α} (hg : B.grownBy C v.ownBlock) (ho : OwnL R n₀ e size v B l) (hX : ∀ k, v.ownBlock = some k → X k ∨ A.heap.size ≤ k) : RK n₁ X A C := by
 refine h.wrote (Y := fun k => v.ownBlock = some k) ⟨hg.os, hg.tape, hg.output, hg.size, fun k hk hx => hg.block k hk (fun e => hx e.symm), fun k o hk hc => ?_⟩ hX
 refine (hg.block k (Array.getElem?_eq_some_iff.1 hk).1 fun e => ?_).trans hk
 obtain ⟨cs, q1, q2, q3, q4⟩ := ho
 rcases q3.2 with ⟨rfl, _⟩ | ⟨g, cap, cur, rfl, hb, hcur, rest⟩
 · cases e
 · cases e; rw [hk] at hcur; cases hcur; cases hc
theorem KeepX.step {n₀ : Nat} {X : Nat → Prop} {A B C : World} (h : KeepX n₀ X A B) (e : Ext B C) (hn : n₀ ≤ B.heap.size) : KeepX n₀ X A C := h.trans (KeepX.of_ext e hn)
theorem KeepX.turnX {n₀ : Nat} {X : Nat → Prop} {A B C : World} (h : KeepX n₀ X A B) {O : Nat} (t : Turns O B C) (hO : X O) : KeepX n₀ X A C :=
 h.trans ⟨Nat.le_of_eq t.size.symm, fun k _ hx => t.heap' k (fun e => hx (e ▸ hO))⟩
theorem KeepX.turnN {n₀ : Nat} {X : Nat → Prop} {A B C : World} (h : KeepX n₀ X A B) {O : Nat} (t : Turns O B C) (hO : n₀ ≤ O) : KeepX n₀ X A C :=
 h.trans ⟨Nat.le_of_eq t.size.symm, fun k hk _ => t.heap' k (fun e => by omega)⟩
theorem KeepX.app {n₀ : Nat} {X : Nat → Prop} {A B C : World} (h : KeepX n₀ X A B) {v : Value} (hg : B.grownBy C v.ownBlock) (hb : ∀ b, v.ownBlock = some b → n₀ ≤ b) (hn : n₀ ≤ B.heap.size) : KeepX n₀ X A C :=
 ⟨T h.size hg.size, fun k hk hx => (hg.block k (Nat.lt_of_lt_of_le hk hn) (fun e => by have := hb k e.symm; omega)).trans (h.block k hk hx)⟩
theorem KeptX.turn {X : Nat → Prop} {A B C : World} (h : KeptX X A B) {O : Nat} (t : Turns O B C) (hO : A.heap.size ≤ O) : KeptX X A C :=
 ⟨by rw [t.size]; exact h.size, fun k o hk ho hx => by
  have hk1 := (Array.getElem?_eq_some_iff.1 hk).1
  rw [t.heap' k (by omega)]; exact h.cells k o hk ho hx⟩
def inR {α : Type} (S : Nat → Prop) (R : Rep α) : Rep α where
 rel w c x F := R.rel w c x F ∧ ∀ b ∈ F, S b
 keep := fun h hk => ⟨R.keep h.1 hk, h.2⟩
 lt := fun h => R.lt h.1
structure OwnS {α : Type} (S : Nat → Prop) (R : Rep α) (e : TypeId) (size : Nat) (v : Value) (w : World) (l : List α) : Prop where
 own : OwnL (inR S R) 0 e size v w l
 blk : ∀ b, v.ownBlock = some b → S b
theorem OwnS.nil {α : Type} (S : Nat → Prop) (R : Rep α) (e : TypeId) (size : Nat) (w : World) : OwnS S R e size (.slice none 0 0) w [] := ⟨OwnL.nil _ _ _ _ _, fun b h => by cases h⟩
theorem OwnS.ext {α : Type} {S : Nat → Prop} {R : Rep α} {e : TypeId} {size : Nat} {v : Value} {w w' : World} {l : List α} (h : OwnS S R e size v w l) (hE : Ext w w') : OwnS S R e size v w' l := ⟨h.own.ext hE, h.blk⟩
theorem OwnS.mv {α : Type} {S : Nat → Prop} {R : Rep α} {e : TypeId} {size m : Nat} {v : Value} {w w' : World} {l : List α} (h : OwnS S R e size v w l) (hm : Mv m w w') : OwnS S R e size v w' l := ⟨hm.own h.own, h.blk⟩
theorem OwnS.lt {α : Type} {S : Nat → Prop} {R : Rep α} {e : TypeId} {size : Nat} {v : Value} {w : World} {l : List α} (h : OwnS S R e size v w l) : ∀ b, v.ownBlock = some b → b < w.heap.size := h.own.lt
theorem OwnS.turn {α : Type} {S : Nat → Prop} {R : Rep α} {e : TypeId} {size : Nat} {v : Value} {w X : World} {l : List α} {O : Nat} (h : OwnS S R e size v w l) (ho : Turns O w X) (hO : ¬ S O) : OwnS S R e size v X l :=
 ⟨h.own.turn ho (fun e => hO (h.blk O e)) fun _c _x _F hr b hb e => hO (e ▸ hr.2 b hb), h.blk⟩
theorem OwnS.not {α : Type} {S : Nat → Prop} {R : Rep α} {e : TypeId} {size : Nat} {v : Value} {w : World} {l : List α} {b : Nat} (h : OwnS S R e size v w l) (hb : ¬ S b) : v.ownBlock ≠ some b := fun e => hb (h.blk b e)
theorem OwnL.into {α : Type} {S : Nat → Prop} {R : Rep α} {n₀ : Nat} {e : TypeId} {size : Nat} {v : Value} {w : World} {l : List α} (h : OwnL R n₀ e size v w l) (hS : ∀ c x F, R.rel w c x F → ∀ b ∈ F, S b) : OwnL (inR S R) 0 e size v w l := by
 obtain ⟨cs, h1, h2, h3, h4⟩ := h
 refine ⟨cs, h1, h2, ⟨h3.1, ?_⟩, fun j x c hx hc => by obtain ⟨F, q1, q2⟩ := h4 j x c hx hc; exact ⟨F, ⟨q1, hS _ _ _ q1⟩, q2⟩⟩
 rcases h3.2 with q | ⟨g, cap, cur, q, hb, rest⟩
 · exact .inl q
 · exact .inr ⟨g, cap, cur, q, Nat.zero_le _, rest⟩
theorem OwnS.mono {α : Type} {S T : Nat → Prop} {R : Rep α} {e : TypeId} {size : Nat} {v : Value} {w : World} {l : List α} (h : OwnS S R e size v w l) (hST : ∀ k, k < w.heap.size → S k → T k) : OwnS T R e size v w l := by
 obtain ⟨⟨cs, h1, h2, h3, h4⟩, hb⟩ := h
 exact ⟨⟨cs, h1, h2, h3, fun j x c hx hc => by obtain ⟨F, q1, q2⟩ := h4 j x c hx hc; exact ⟨F, ⟨q1.1, fun b hb => hST b (R.lt q1.1 b hb) (q1.2 b hb)⟩, q2⟩⟩, fun b e => hST b (h3.lt b e).2 (hb b e)⟩
theorem OwnS.now {α : Type} {S : Nat → Prop} {R : Rep α} {e : TypeId} {size : Nat} {v : Value} {w : World} {l : List α} (h : OwnS S R e size v w l) : OwnS (fun k => S k ∧ k < w.heap.size) R e size v w l := h.mono fun _ hk hs => ⟨hs, hk⟩
theorem OwnS.app {α : Type} {S : Nat → Prop} {R : Rep α} {P : Program} {t ty e : TypeId} {z : Value} {size bytes : Nat} (E : ElemT P t e z size bytes) {v : Value} {w : World} {l : List α} (h : OwnS S R e size v w l) {k : Nat} (hl : l.length = k)
    {O c : Nat} {x : α} {d : List Value} {F : List Nat} (hsz : d.length = size) (hcell : ∀ j u, d[j]? = some u → w.cell? ⟨O, j, none⟩ = some u) (h1 : ∀ u ∈ d, u.oneCell' = true)
    (hR : R.rel w d x F) (hF : ∀ b ∈ F, v.ownBlock ≠ some b) (hb : (k + 1) * bytes ≤ 140737488355328) (hmax : k + 1 ≤ 9223372036854775807) :
    ∃ g cap w', (Builtin.append_ #[t, t] ty #[v, .slice (some ⟨O, 0, none⟩) 1 c]).run P w = .ok (.slice (some ⟨g, 0, none⟩) (k + 1) cap) w' ∧ OwnS (fun b => S b ∨ b ∈ F ∨ w.heap.size ≤ b) R e size (.slice (some ⟨g, 0, none⟩) (k + 1) cap) w' (l ++ [x]) ∧
      (∀ U, Ext U w → (∀ b, S b → U.heap.size ≤ b) → Ext U w') ∧ w.grownBy w' v.ownBlock ∧ g < w'.heap.size ∧ (S g ∨ w.heap.size ≤ g) := by
  have hS : OwnL (inR (fun b => S b ∨ b ∈ F ∨ w.heap.size ≤ b) R) 0 e size v w l := by
    obtain ⟨cs, h1, h2, h3, h4⟩ := h.own
    exact ⟨cs, h1, h2, h3, fun j x c hx hc => by obtain ⟨F, q1, q2⟩ := h4 j x c hx hc; exact ⟨F, ⟨q1.1, fun b hb => .inl (q1.2 b hb)⟩, q2⟩⟩
  obtain ⟨cs, q1, q2, q3, q4⟩ := hS
  subst hl
  obtain ⟨i, hi, hz0, hz1, hz2⟩ := info_parts E.info
  obtain ⟨v', w', hrun, hown, hg, hiff, hat⟩ := run_append_own_at (P := P) w 0 t ty e i z size bytes E.under hi hz0 hz1 hz2 E.zs E.pos v l.length cs.flatten q3 ⟨O, 0, none⟩ 1 c d (by rw [hsz, Nat.one_mul]) (fun j u hj => by
    rw [Addr.add_mid, Nat.zero_add]; exact hcell j u hj) h1 (by unfold maxLen; exact hmax) hb (Nat.zero_le _)
  have hnb : ∀ F : List Nat, (∀ b ∈ F, v.ownBlock ≠ some b) → (∀ b ∈ F, b < w.heap.size) → (∀ b ∈ F, v'.ownBlock ≠ some b) ∧ ∀ b ∈ F, ∀ o u, w.cell? ⟨b, o, none⟩ = some u → w'.cell? ⟨b, o, none⟩ = some u := by
    intro F hF hFl
    refine ⟨fun b hbF hv' => ?_, fun b hbF o u hu => hg.cell hu (fun e => hF b hbF e.symm)⟩
    rcases hat with e1 | e1
    · exact hF b hbF (by rw [← e1]; exact hv')
    · rw [e1] at hv'; cases hv'; have := hFl _ hbF; omega
  have hO : OwnL (inR (fun b => S b ∨ b ∈ F ∨ w.heap.size ≤ b) R) 0 e size v' w' (l ++ [x]) := ⟨cs ++ [d], by simp [q1], by
      intro y hy
      rcases List.mem_append.1 hy with hy | hy
      · exact q2 y hy
      · rw [List.mem_singleton.1 hy]; exact hsz, by rw [List.flatten_append, List.length_append]; simpa using hown, by
      intro j y c hx hc
      rcases Nat.lt_or_ge j l.length with hj | hj
      · rw [List.getElem?_append_left hj] at hx
        rw [List.getElem?_append_left (by rw [q1]; exact hj)] at hc
        obtain ⟨F', p1, p2⟩ := q4 j y c hx hc
        obtain ⟨k1, k2⟩ := hnb F' p2 (R.lt p1.1)
        exact ⟨F', ⟨R.keep p1.1 k2, p1.2⟩, k1⟩
      · rw [List.getElem?_append_right hj] at hx
        rw [List.getElem?_append_right (by rw [q1]; exact hj), q1] at hc
        match hj' : j - l.length, hx, hc with
        | 0, hx, hc =>
          simp at hx hc; subst hx hc
          obtain ⟨k1, k2⟩ := hnb F hF (R.lt hR)
          exact ⟨F, ⟨R.keep hR k2, fun b hb => .inr (.inl hb)⟩, k1⟩
        | _ + 1, hx, _ => simp at hx⟩
  have hblk : ∀ b, v'.ownBlock = some b → S b ∨ w.heap.size ≤ b := fun b hb => by
    rcases hat with e1 | e1
    · exact .inl (h.blk b (by rw [← e1]; exact hb))
    · rw [e1] at hb; cases hb; exact .inr (Nat.le_refl _)
  have hlt' := hO.lt
  rcases hown.2 with ⟨q, _⟩ | ⟨g, cap, cur, q, _, _, _, _⟩
  · have := (hiff.1 q).2; omega
  · subst q
    exact ⟨g, cap, w', hrun, ⟨hO, fun b hb => (hblk b hb).elim .inl (fun h => .inr (.inr h))⟩, fun U hU hUS => ⟨hg.os.trans hU.os, hg.tape.trans hU.tape, hg.output.trans hU.output, T hU.size hg.size, fun k hk => (hg.block k (Nat.lt_of_lt_of_le hk hU.size) (fun e => by have := hUS k (h.blk k e.symm); omega)).trans (hU.block k hk)⟩, hg, hlt' g rfl, hblk g rfl⟩
def trunc (w : World) (g : Nat) : World := { w with heap := w.heap.extract 0 g }
theorem trunc_block (w : World) {g k : Nat} (hk : k < g) : (trunc w g).heap[k]? = w.heap[k]? := by
 show (w.heap.extract 0 g)[k]? = _
 rw [Array.getElem?_extract]
 split
 · rw [Nat.zero_add]
 · rw [Array.getElem?_eq_none]; omega
theorem trunc_ext (w : World) (g : Nat) : Ext (trunc w g) w := ⟨rfl, rfl, rfl, by simp [trunc]; omega, fun k hk => (trunc_block w (by simp [trunc] at hk; omega)).symm⟩
theorem trunc_size (w : World) (g : Nat) : (trunc w g).heap.size ≤ g := by simp [trunc]; omega
section
variable {w w' : World} {g : Nat}
theorem old_block (hU : ∀ U, Ext U w → U.heap.size ≤ g → Ext U w') {b : Nat} (hb : b < g) (hw : b < w.heap.size) : w'.heap[b]? = w.heap[b]? := by
 rw [← trunc_block w hb]
 exact (hU _ (trunc_ext w g) (trunc_size w g)).block b (by simp [trunc]; omega)
theorem old_cell (hU : ∀ U, Ext U w → U.heap.size ≤ g → Ext U w') {b o : Nat} {v : Value} (h : w.cell? ⟨b, o, none⟩ = some v) (hb : b < g) : w'.cell? ⟨b, o, none⟩ = some v :=
 (World.cell?_of_block (w := w) (old_block hU hb (World.block_lt_of_cell? _ _ h))).trans h
theorem old_box (hU : ∀ U, Ext U w → U.heap.size ≤ g → Ext U w') {b o : Nat} {v : Value} (h : BoxAt w b o v) (hb : b < g) : BoxAt w' b o v :=
 ⟨old_cell hU h.1 hb, (World.frozen?_of_block (old_block hU hb h.lt)).trans h.2⟩
end
theorem KeepX.box {n₀ : Nat} {X : Nat → Prop} {A B : World} (hk : KeepX n₀ X A B) {b o : Nat} {v : Value} (h : BoxAt A b o v) (hb : b < n₀) (hx : ¬ X b) : BoxAt B b o v :=
 ⟨(hk.cell hb hx).trans h.1, (World.frozen?_of_block (hk.block b hb hx)).trans h.2⟩
theorem OwnS.cap {α : Type} {S : Nat → Prop} {R : Rep α} {e : TypeId} {size : Nat} {a : Option Addr} {n c : Nat} {w : World} {l : List α} (h : OwnS S R e size (.slice a n c) w l) (hl : l.length = n) : n ≤ c := by
 obtain ⟨⟨cs, h1, h2, h3, h4⟩, hb⟩ := h
 rcases h3.2 with ⟨q, q2⟩ | ⟨g, cap, cur, q, _, _, hc, _⟩
 · injection q with r1 r2 r3; omega
 · injection q with r1 r2 r3; omega
theorem notS1 {n b : Nat} (h : b < n) : ¬ n ≤ b := Nat.not_le_of_lt h
theorem notS3 {n a c b b' : Nat} (h : b < n ∨ a ≤ b) (h1 : b ≠ b') (h2 : b < c) : ¬ ((n ≤ b ∧ b < a) ∨ b ∈ [b'] ∨ c ≤ b) := fun q => by
 rcases q with q | q | q
 · omega
 · exact h1 (List.mem_singleton.1 q)
 · omega
theorem fromS3 {n a c b' : Nat} (h1 : n ≤ b') (h2 : n ≤ c) : ∀ k, ((n ≤ k ∧ k < a) ∨ k ∈ [b'] ∨ c ≤ k) → n ≤ k := fun k q => by
 rcases q with q | q | q
 · exact q.1
 · rw [List.mem_singleton.1 q]; exact h1
 · omega
instance {α : Type} {S : Nat → Prop} {R : Rep α} {e : TypeId} {size : Nat} {v : Value} {w w' : World} {l : List α} : MvC w w' (OwnS S R e size v w l) (OwnS S R e size v w' l) := ⟨fun e h => h.ext e⟩
end Go.Proofs.YtajdohcgjgknmaaGreatDoor

namespace Go.Proofs.YtajdohcgjgknmaaGreatDoor
open Go.RowKit
structure RawPc where
 im : Int
 t : Int
 cl : Bool
 a : Option Addr
 n : Nat
 c : Nat
instance : Inhabited RawPc := ⟨⟨0, 0, false, none, 0, 0⟩⟩
def RawPc.enc (x : RawPc) : List Value := [.int .i64 x.im, .int .i64 x.t, .bool x.cl, .slice x.a x.n x.c]
def RawPc.val (x : RawPc) : Value := .agg #[.int .i64 x.im, .int .i64 x.t, .bool x.cl, .slice x.a x.n x.c]
def RawAt (w : World) (b o : Nat) (x : RawPc) : Prop := w.cell? ⟨b, o, none⟩ = some (.int .i64 x.im) ∧ w.cell? ⟨b, o + 1, none⟩ = some (.int .i64 x.t) ∧ w.cell? ⟨b, o + 2, none⟩ = some (.bool x.cl) ∧ w.cell? ⟨b, o + 3, none⟩ = some (.slice x.a x.n x.c)
theorem RawAt.ext {w w' : World} {b o : Nat} {x : RawPc} (h : RawAt w b o x) (hE : Ext w w') : RawAt w' b o x := ⟨hE.cell h.1, hE.cell h.2.1, hE.cell h.2.2.1, hE.cell h.2.2.2⟩
def RawsAt (w : World) (a : Option Addr) (n : Nat) (rs : List RawPc) : Prop := rs.length = n ∧ n ≤ 140737488355328 ∧ (n = 0 ∨ ∃ b o, a = some ⟨b, o, none⟩ ∧ ∀ (i : Nat) x, rs[i]? = some x → RawAt w b (o + i * 4) x)
theorem RawsAt.ext {w w' : World} {a : Option Addr} {n : Nat} {rs : List RawPc} (h : RawsAt w a n rs) (hE : Ext w w') : RawsAt w' a n rs :=
 ⟨h.1, h.2.1, h.2.2.imp id fun ⟨b, o, ha, hx⟩ => ⟨b, o, ha, fun i x hi => (hx i x hi).ext hE⟩⟩
theorem RawsAt.nil (w : World) (a : Option Addr) : RawsAt w a 0 [] := ⟨rfl, Nat.zero_le _, .inl rfl⟩
def ReadsP (w : World) (x : RawPc) (p : Prod.Pc) : Prop := x.im = p.im ∧ x.t = p.t ∧ x.cl = p.cl ∧ AA w x.a p.rw x.n (Globe.validL p.rw)
theorem ReadsP.ext {w w' : World} {x : RawPc} {p : Prod.Pc} (h : ReadsP w x p) (hE : Ext w w') : ReadsP w' x p := ⟨h.1, h.2.1, h.2.2.1, h.2.2.2.ext hE⟩
def Reads (w : World) : List RawPc → List Prod.Pc → Prop
 | [], [] => True
 | x :: rs, p :: l => ReadsP w x p ∧ Reads w rs l
 | _, _ => False
theorem Reads.ext {w w' : World} (hE : Ext w w') : ∀ {rs : List RawPc} {l : List Prod.Pc}, Reads w rs l → Reads w' rs l
 | [], [], _ => trivial
 | _ :: _, _ :: _, h => ⟨h.1.ext hE, Reads.ext hE h.2⟩
theorem Reads.len {w : World} : ∀ {rs : List RawPc} {l : List Prod.Pc}, Reads w rs l → rs.length = l.length
 | [], [], _ => rfl
 | _ :: _, _ :: _, h => by rw [List.length_cons, List.length_cons, Reads.len h.2]
theorem Reads.at {w : World} : ∀ {rs : List RawPc} {l : List Prod.Pc}, Reads w rs l → ∀ {i : Nat} {x : RawPc}, rs[i]? = some x → ∃ p, l[i]? = some p ∧ ReadsP w x p
 | [], [], _, i, x, hx => by simp at hx
 | x :: _, p :: _, h, 0, y, hy => by simp at hy; subst hy; exact ⟨p, rfl, h.1⟩
 | _ :: _, _ :: _, h, i + 1, y, hy => by simpa using Reads.at h.2 (by simpa using hy)
theorem Reads.of_at {w : World} : ∀ {rs : List RawPc} {l : List Prod.Pc}, rs.length = l.length → (∀ (i : Nat) x p, rs[i]? = some x → l[i]? = some p → ReadsP w x p) → Reads w rs l
 | [], [], _, _ => trivial
 | [], _ :: _, h, _ => by simp at h
 | _ :: _, [], h, _ => by simp at h
 | x :: rs, p :: l, h, k => ⟨k 0 x p rfl rfl, Reads.of_at (by simpa using h) fun i y q hy hq => k (i + 1) y q (by simpa using hy) (by simpa using hq)⟩
theorem Reads.app {w : World} : ∀ {rs : List RawPc} {l : List Prod.Pc} {rs' : List RawPc} {l' : List Prod.Pc}, Reads w rs l → Reads w rs' l' → Reads w (rs ++ rs') (l ++ l')
 | [], [], _, _, _, k => k
 | _ :: _, _ :: _, _, _, h, k => ⟨h.1, Reads.app h.2 k⟩
theorem Reads.rev {w : World} : ∀ {rs : List RawPc} {l : List Prod.Pc}, Reads w rs l → Reads w rs.reverse l.reverse
 | [], [], _ => trivial
 | x :: rs, p :: l, h => by rw [List.reverse_cons, List.reverse_cons]; exact Reads.app (Reads.rev h.2) ⟨h.1, trivial⟩
theorem Reads.perm {w : World} {rs rs' : List RawPc} (hp : rs.Perm rs') : ∀ {l : List Prod.Pc}, Reads w rs l → ∃ l', l'.Perm l ∧ Reads w rs' l' := by
 induction hp with
 | nil => exact fun {l} h => ⟨l, .refl _, h⟩
 | cons x _ ih =>
  intro l h
  cases l with
  | nil => exact h.elim
  | cons p l => obtain ⟨l', q1, q2⟩ := ih h.2; exact ⟨p :: l', q1.cons p, h.1, q2⟩
 | swap x y r =>
  intro l h
  match l, h with
  | p :: q :: l, h => exact ⟨q :: p :: l, .swap p q l, h.2.1, h.1, h.2.2⟩
 | trans _ _ i1 i2 =>
  intro l h
  obtain ⟨l1, q1, q2⟩ := i1 h
  obtain ⟨l2, q3, q4⟩ := i2 q2
  exact ⟨l2, q3.trans q1, q4⟩
def PcsAt (w : World) (a : Option Addr) (n : Nat) (l : List Prod.Pc) : Prop := ∃ rs, RawsAt w a n rs ∧ Reads w rs l
theorem PcsAt.ext {w w' : World} {a : Option Addr} {n : Nat} {l : List Prod.Pc} (h : PcsAt w a n l) (hE : Ext w w') : PcsAt w' a n l := by
 obtain ⟨rs, h1, h2⟩ := h; exact ⟨rs, h1.ext hE, h2.ext hE⟩
theorem PcsAt.len {w : World} {a : Option Addr} {n : Nat} {l : List Prod.Pc} (h : PcsAt w a n l) : l.length = n := by
 obtain ⟨rs, h1, h2⟩ := h; rw [← h2.len, h1.1]
theorem PcsAt.max {w : World} {a : Option Addr} {n : Nat} {l : List Prod.Pc} (h : PcsAt w a n l) : n ≤ 140737488355328 := by obtain ⟨rs, h1, h2⟩ := h; exact h1.2.1
theorem PcsAt.nil (w : World) (a : Option Addr) : PcsAt w a 0 [] := ⟨[], RawsAt.nil w a, trivial⟩
theorem PcsAt.at {w : World} {a : Option Addr} {n : Nat} {l : List Prod.Pc} (h : PcsAt w a n l) {i : Nat} (hi : i < n) :
    ∃ (b o : Nat) (p : Prod.Pc) (ar : Option Addr) (k c : Nat), a = some ⟨b, o, none⟩ ∧ l[i]? = some p ∧ w.cell? ⟨b, o + i * 4, none⟩ = some (.int .i64 p.im) ∧ w.cell? ⟨b, o + i * 4 + 1, none⟩ = some (.int .i64 p.t) ∧ w.cell? ⟨b, o + i * 4 + 2, none⟩ = some (.bool p.cl) ∧
      w.cell? ⟨b, o + i * 4 + 3, none⟩ = some (.slice ar k c) ∧ AA w ar p.rw k (Globe.validL p.rw) := by
  obtain ⟨rs, ⟨h1, _, h3⟩, h2⟩ := h
  rcases h3 with h3 | ⟨b, o, ha, hx⟩
  · omega
  · have hr := List.getElem?_eq_getElem (l := rs) (i := i) (by omega)
    obtain ⟨p, hp, e1, e2, e3, e4⟩ := h2.at hr
    obtain ⟨c1, c2, c3, c4⟩ := hx i _ hr
    rw [e1] at c1; rw [e2] at c2; rw [e3] at c3
    exact ⟨b, o, p, _, _, _, ha, hp, c1, c2, c3, c4, e4⟩
theorem PcsAt.take {w : World} {a : Option Addr} {n : Nat} {l : List Prod.Pc} (h : PcsAt w a n l) {k : Nat} (hk : k ≤ n) : PcsAt w a k (l.take k) := by
  obtain ⟨rs, ⟨h1, h4, h3⟩, h2⟩ := h
  have e := h2.len
  refine ⟨rs.take k, ⟨by rw [List.length_take]; omega, by omega, ?_⟩, Reads.of_at (by rw [List.length_take, List.length_take]; omega) fun i x p hx hp => ?_⟩
  · rcases h3 with h3 | ⟨b, o, ha, hx⟩
    · exact .inl (by omega)
    · refine .inr ⟨b, o, ha, fun i x hi => hx i x ?_⟩
      rw [List.getElem?_take] at hi
      split at hi
      · exact hi
      · cases hi
  · rw [List.getElem?_take] at hx hp
    split at hx
    · rename_i hi
      rw [if_pos hi] at hp
      obtain ⟨q, hq, hr⟩ := h2.at hx
      rw [hp] at hq; cases hq; exact hr
    · cases hx
def rawR : Rep RawPc where
 rel _ c x F := c = x.enc ∧ F = []
 keep := fun h _ => h
 lt := by rintro w c x F ⟨_, rfl⟩ b hb; cases hb
def pieceR : Rep Prod.Pc where
 rel w c x F := ∃ (b o k : Nat), c = [.int .i64 x.im, .int .i64 x.t, .bool x.cl, .slice (some ⟨b, o, none⟩) 24 k] ∧ VA w b o x.rw ∧ F = [b]
 keep := by
  rintro w w' c x F ⟨b, o, k, rfl, hv, rfl⟩ h
  exact ⟨b, o, k, rfl, ⟨fun i hi => h b (by simp) _ _ (hv.1 i hi), hv.2⟩, rfl⟩
 lt := by
  rintro w c x F ⟨b, o, k, rfl, hv, rfl⟩ b' hb'
  rw [List.mem_singleton.1 hb']; exact hv.lt
theorem pieceT : ElemT Tryz.prog 30 49 (.agg #[.int .i64 0, .int .i64 0, .bool false, .slice none 0 0]) 4 48 := ⟨Tryz.underlying30, by kernel_rfl, rfl, by decide⟩
theorem cells4 {w : World} {O : Nat} {x y z u : Value} (h : w.cell? ⟨O, 0, none⟩ = some x) (h1 : w.cell? ⟨O, 1, none⟩ = some y) (h2 : w.cell? ⟨O, 2, none⟩ = some z) (h3 : w.cell? ⟨O, 3, none⟩ = some u) : ∀ j v, [x, y, z, u][j]? = some v → w.cell? ⟨O, j, none⟩ = some v
 | 0, v, hv => by simp at hv; subst hv; exact h
 | 1, v, hv => by simp at hv; subst hv; exact h1
 | 2, v, hv => by simp at hv; subst hv; exact h2
 | 3, v, hv => by simp at hv; subst hv; exact h3
 | _ + 4, v, hv => by simp at hv
theorem enc_len (x : RawPc) : x.enc.length = 4 := rfl
theorem enc_one : ∀ x : RawPc, ∀ v ∈ x.enc, v.oneCell' = true := fun x v hv => by
 simp [RawPc.enc] at hv; rcases hv with rfl | rfl | rfl | rfl <;> rfl
theorem flat_at (rs : List RawPc) {i q : Nat} (hi : i < rs.length) (hq : q < 4) : (Go.Sort.flatK RawPc.enc 4 rs.toArray)[i * 4 + q]! = (rs[i].enc)[q]! := by
 rw [Go.Sort.get_flatK _ _ _ _ (by simp; omega), show (i * 4 + q) / 4 = i by omega, show (i * 4 + q) % 4 = q by omega]
 simp [hi]
theorem holds_raws {w : World} {b : Nat} {rs : List RawPc} (h : Go.Sort.HoldsK RawPc.enc 4 w b 0 rs.toArray) (hn : rs.length ≤ 140737488355328) : RawsAt w (some ⟨b, 0, none⟩) rs.length rs := by
 refine ⟨rfl, hn, .inr ⟨b, 0, rfl, fun i x hx => ?_⟩⟩
 obtain ⟨hi, rfl⟩ := List.getElem?_eq_some_iff.1 hx
 have k : ∀ q, q < 4 → w.cell? ⟨b, 0 + i * 4 + q, none⟩ = some (rs[i].enc)[q]! := fun q hq => by
  have := (h (i * 4 + q) (by simp; omega)).1
  rw [show 0 + i * 4 + q = 0 + (i * 4 + q) by omega, this, id, flat_at rs hi hq]
 exact ⟨k 0 (by omega), k 1 (by omega), k 2 (by omega), k 3 (by omega)⟩
theorem own_cell9 {w : World} {base : Nat} {e : TypeId} {size g n cap : Nat} {xs : List Value} (h : w.ownsRow base e size (.slice (some ⟨g, 0, none⟩) n cap) n xs) {j : Nat} {u : Value} (hj : j < n * size) (hu : xs[j]? = some u) : w.cell? ⟨g, 0 + j, none⟩ = some u := by
 rw [Nat.zero_add, h.cellAt j hj]; exact hu
theorem own_holds {n₀ e g n cap : Nat} {w : World} {rs : List RawPc} (h : OwnL rawR n₀ e 4 (.slice (some ⟨g, 0, none⟩) n cap) w rs) (hl : rs.length = n) : Go.Sort.HoldsK RawPc.enc 4 w g 0 rs.toArray := by
 subst hl
 obtain ⟨cs, h1, h2, h3, h4⟩ := h
 intro j hj
 have hj' : j < rs.length * 4 := by simpa using hj
 obtain ⟨i, q, rfl, hq⟩ : ∃ i q, j = i * 4 + q ∧ q < 4 := ⟨j / 4, j % 4, by omega, by omega⟩
 have hi : i < rs.length := by omega
 have hc := List.getElem?_eq_getElem (l := cs) (i := i) (by omega)
 obtain ⟨F, ⟨e1, _⟩, _⟩ := h4 i _ _ (List.getElem?_eq_getElem hi) hc
 have f := flatten_get h2 i hc q hq
 have e2 := List.getElem?_eq_getElem (l := rs[i].enc) (i := q) (by rw [enc_len]; exact hq)
 rw [e1, e2] at f
 refine ⟨?_, h3.frozenAt _⟩
 rw [id, flat_at rs hi hq, getElem!_pos _ q (by rw [enc_len]; exact hq)]
 exact own_cell9 h3 (by omega) f
theorem putRowK_ext {U w : World} {g m : Nat} (h : Ext U w) (hg : U.heap.size ≤ g) (d : Array RawPc) : Ext U (Go.Sort.putRowK RawPc.enc 4 (Go.Sort.ahead w m) g 0 d) :=
 ⟨h.os, h.tape, h.output, by rw [Go.Sort.putRowK, Go.Sort.size_putRow]; exact h.size, fun k hk => by
  show (w.heap.modify g _)[k]? = _
  rw [Array.getElem?_modify, if_neg (by omega)]; exact h.block k hk⟩
theorem grow_ext {U w : World} (h : Ext U w) (os : Array Obj) : Ext U (Go.Sort.grow w os) :=
 ⟨h.os, h.tape, h.output, by have := h.size; rw [Go.Sort.size_grow]; omega, fun k hk => by
  show (w.heap ++ os)[k]? = _
  rw [Array.getElem?_append_left (Nat.lt_of_lt_of_le hk h.size)]; exact h.block k hk⟩
def befR (x y : RawPc) : Bool := Prod.bet x.cl x.t x.im y.cl y.t y.im
theorem ltOf_bef (x y : RawPc) : Go.Proofs.ltOf (fun x y : RawPc => Prod.rk y.cl y.t y.im x.cl x.t x.im) x y = befR x y := by
 unfold Go.Proofs.ltOf befR
 cases h : Prod.bet x.cl x.t x.im y.cl y.t y.im
 · rw [decide_eq_false_iff_not, Prod.rk_neg, h]; simp
 · rw [decide_eq_true_iff, Prod.rk_neg, h]
theorem swo_bef : Go.Sort.SWO (Go.Proofs.ltOf fun x y : RawPc => Prod.rk y.cl y.t y.im x.cl x.t x.im) where
 irrefl x := by rw [ltOf_bef]; exact Prod.bet_irrefl _ _ _
 trans x y z h k := by rw [ltOf_bef] at *; exact Prod.bet_trans h k
 ntrans x y z h k := by rw [ltOf_bef] at *; exact Prod.bet_ntrans h k
theorem raw_order (blk off size : Nat) (w : World) : Go.Proofs.CmpLays Tryz.prog 123 #[] RawPc.enc 4 (fun x y => Prod.rk y.cl y.t y.im x.cl x.t x.im) blk off size w :=
 fun _ _ _ _ x y => order_g (x := ⟨x.im, x.t, x.cl, []⟩) (y := ⟨y.im, y.t, y.cl, []⟩) (a1 := x.a) (a2 := y.a) (k1 := x.n) (c1 := x.c) (k2 := y.n) (c2 := y.c) _
def SortPost (w : World) (g n : Nat) (rs : List RawPc) (e : Ending) (w' : World) : Prop :=
 e = .returned (.tuple #[]) ∧ ∃ rs', rs'.Perm rs ∧ (rs'.Pairwise fun x y => befR y x = false) ∧ RawsAt w' (some ⟨g, 0, none⟩) n rs' ∧ (∀ U, Ext U w → U.heap.size ≤ g → Ext U w') ∧ w.heap.size ≤ w'.heap.size
theorem SortFunc_c {n₀ e g n cap : Nat} {rs : List RawPc} (w : World) (h : OwnL rawR n₀ e 4 (.slice (some ⟨g, 0, none⟩) n cap) w rs) (hl : rs.length = n) (hn : n ≤ 1000000) :
    Calls Tryz.prog 139 #[.slice (some ⟨g, 0, none⟩) n cap, .func (.func 123) #[] #[]] w (SortPost w g n rs) := by
  subst hl
  have hcon := Go.Proofs.AnyQ.slices_SortFunc Tryz.sortPc 4 Tryz.isAgg49 Tryz.sizeOf49 RawPc.enc enc_len enc_one (fun x y => Prod.rk y.cl y.t y.im x.cl x.t x.im) swo_bef 123 #[] g 0 cap rs.toArray w (Go.Proofs.enters_of Tryz.func123 (by kernel_rfl) rfl)
    (raw_order g 0 rs.toArray.size w) (own_holds h rfl) (h.lt g rfl) (by simp; omega)
  refine hcon.mono fun e w' ⟨he, d', m, os, ⟨hs, _, hp⟩, hso, hw⟩ => ⟨he, d'.toList, ?_, ?_, ?_, ?_, ?_⟩
  · have e1 : d'.extract 0 rs.toArray.size = d' := by rw [← hs]; simp
    have e2 : rs.toArray.extract 0 rs.toArray.size = rs.toArray := by simp
    rw [e1, e2] at hp; simpa using hp
  · rw [List.pairwise_iff_getElem]
    intro i j hi hj hij
    have h0 := hso i j (Nat.zero_le _) hij (by rw [← hs]; simpa using hj)
    rw [ltOf_bef] at h0
    simpa [getElem!_pos, hi, hj, show i < d'.size by simpa using hi, show j < d'.size by simpa using hj] using h0
  · have hl' : d'.toList.length = rs.length := by simpa using hs
    have := holds_raws (w := w') (b := g) (rs := d'.toList) (by
      rw [hw]
      refine Go.Sort.holdsK_grow RawPc.enc 4 _ _ _ _ _ ?_ ?_
      · rw [Go.Sort.putRowK, Go.Sort.size_putRow]; exact h.lt g rfl
      · exact Go.Sort.holdsK_putRowK _ _ _ _ _ rs.toArray _ (Go.Sort.holdsK_ahead _ _ _ _ _ _ _ (own_holds h rfl)) (by simpa using hs)) (by omega)
    rwa [hl'] at this
  · intro U hU hUg
    rw [hw]
    exact grow_ext (putRowK_ext hU hUg _) _
  · rw [hw]; unfold Go.Proofs.sortWorldK; rw [Go.Sort.size_grow, Go.Sort.putRowK, Go.Sort.size_putRow]; exact Nat.le_add_right _ _
def PcsS (S : Nat → Prop) (w : World) (a : Option Addr) (n : Nat) (l : List Prod.Pc) : Prop := ∃ rs, RawsAt w a n rs ∧ Reads w rs l ∧ (0 < n → ∀ ad, a = some ad → S ad.block) ∧ ∀ x ∈ rs, 0 < x.n → ∀ ad, x.a = some ad → S ad.block
theorem PcsS.pcs {S : Nat → Prop} {w : World} {a : Option Addr} {n : Nat} {l : List Prod.Pc} (h : PcsS S w a n l) : PcsAt w a n l := by obtain ⟨rs, h1, h2, _⟩ := h; exact ⟨rs, h1, h2⟩
theorem PcsS.ext {S : Nat → Prop} {w w' : World} {a : Option Addr} {n : Nat} {l : List Prod.Pc} (h : PcsS S w a n l) (hE : Ext w w') : PcsS S w' a n l := by obtain ⟨rs, h1, h2, h3, h4⟩ := h; exact ⟨rs, h1.ext hE, h2.ext hE, h3, h4⟩
theorem PcsS.nil (S : Nat → Prop) (w : World) (a : Option Addr) : PcsS S w a 0 [] := ⟨[], RawsAt.nil w a, trivial, fun h => absurd h (Nat.lt_irrefl 0), fun x hx => by cases hx⟩
theorem PcsS.mono {S T : Nat → Prop} {w : World} {a : Option Addr} {n : Nat} {l : List Prod.Pc} (h : PcsS S w a n l) (hST : ∀ k, S k → T k) : PcsS T w a n l := by obtain ⟨rs, h1, h2, h3, h4⟩ := h; exact ⟨rs, h1, h2, fun q ad e => hST _ (h3 q ad e), fun x hx q ad e => hST _ (h4 x hx q ad e)⟩
theorem aa_turn {w X : World} {a : Option Addr} {l : List Int} {n : Nat} {v : Bool} {O : Nat} (h : AA w a l n v) (ho : Turns O w X) (hO : 0 < n → ∀ ad, a = some ad → ad.block ≠ O) : AA X a l n v := by
 obtain ⟨h1, h2, h3, h4⟩ := h
 refine ⟨?_, h2, h3, h4⟩
 rcases Nat.eq_zero_or_pos n with h0 | h0
 · exact .inl (List.eq_nil_of_length_eq_zero (by omega))
 · exact h1.imp id fun ⟨b, off, ha, hc⟩ => ⟨b, off, ha, fun i hi => ho.cell (fun e => hO h0 _ ha e.symm) (hc i hi)⟩
theorem PcsS.turn {S : Nat → Prop} {w X : World} {a : Option Addr} {n : Nat} {l : List Prod.Pc} {O : Nat} (h : PcsS S w a n l) (ho : Turns O w X) (hO : ¬ S O) : PcsS S X a n l := by
  obtain ⟨rs, ⟨g1, g2, g3⟩, h2, h3, h4⟩ := h
  refine ⟨rs, ⟨g1, g2, ?_⟩, Reads.of_at h2.len fun i x p hx hp => ?_, h3, h4⟩
  · rcases Nat.eq_zero_or_pos n with h0 | h0
    · exact .inl h0
    · refine g3.imp id fun ⟨b, o, ha, hx⟩ => ⟨b, o, ha, fun i x hi => ?_⟩
      have hb : O ≠ b := fun e => hO (e ▸ h3 h0 _ ha)
      obtain ⟨c1, c2, c3, c4⟩ := hx i x hi
      exact ⟨ho.cell hb c1, ho.cell hb c2, ho.cell hb c3, ho.cell hb c4⟩
  · obtain ⟨q, hq, e1, e2, e3, e4⟩ := h2.at hx
    rw [hp] at hq; cases hq
    exact ⟨e1, e2, e3, aa_turn e4 ho fun h0 ad ha e => hO (e ▸ h4 x (List.mem_of_getElem? hx) h0 ad ha)⟩
theorem aa_lt {w : World} {a : Option Addr} {l : List Int} {n : Nat} {v : Bool} (h : AA w a l n v) (h0 : 0 < n) : ∀ ad, a = some ad → ad.block < w.heap.size := fun ad ha => by
 obtain ⟨h1, h2, h3, h4⟩ := h
 rcases h1 with rfl | ⟨b, off, e, hc⟩
 · simp at h2; omega
 · rw [ha] at e; cases e; exact World.block_lt_of_cell? _ _ (hc 0 (by omega))
theorem PcsAt.now {w : World} {a : Option Addr} {n : Nat} {l : List Prod.Pc} (h : PcsAt w a n l) : PcsS (fun k => k < w.heap.size) w a n l := by
  obtain ⟨rs, h1, h2⟩ := h
  refine ⟨rs, h1, h2, fun h0 ad ha => ?_, fun x hx h0 ad ha => ?_⟩
  · obtain ⟨g1, g2, g3⟩ := h1
    rcases g3 with g3 | ⟨b, o, e, hx⟩
    · omega
    · rw [ha] at e; cases e
      exact World.block_lt_of_cell? _ _ (hx 0 _ (List.getElem?_eq_getElem (by omega))).1
  · obtain ⟨i, hi⟩ := List.getElem?_of_mem hx
    obtain ⟨q, hq, e1, e2, e3, e4⟩ := h2.at hi
    exact aa_lt e4 h0 ad ha
def RevPost (S : Nat → Prop) (w : World) (a : Option Addr) (n : Nat) (l : List Prod.Pc) (e : Ending) (w' : World) : Prop :=
 e = .returned (.tuple #[]) ∧ PcsS S w' a n l.reverse ∧ (∀ U, Ext U w → (∀ k, S k → U.heap.size ≤ k) → Ext U w') ∧ w.heap.size ≤ w'.heap.size
theorem own_raw {S : Nat → Prop} {n₀ e : Nat} {v : Value} {w : World} {l : List Prod.Pc} (h : OwnL (inR S pieceR) n₀ e 4 v w l) : ∃ rs, OwnL rawR n₀ e 4 v w rs ∧ rs.length = l.length ∧ (∀ (w' : World), (∀ p : Addr, v.ownBlock ≠ some p.block → ∀ u, w.cell? p = some u → w'.cell? p = some u) → Reads w' rs l) ∧ ∀ x ∈ rs, ∀ ad, x.a = some ad → S ad.block := by
  obtain ⟨cs, h1, h2, h3, h4⟩ := h
  have hex : ∀ i : Nat, ∃ x : RawPc, ∀ p : Prod.Pc, l[i]? = some p → ∃ b o k : Nat, cs[i]? = some x.enc ∧ x = ⟨p.im, p.t, p.cl, some ⟨b, o, none⟩, 24, k⟩ ∧ VA w b o p.rw ∧ v.ownBlock ≠ some b ∧ S b := fun i => by
    cases hp : l[i]? with
    | none => exact ⟨default, fun p hp => by cases hp⟩
    | some p =>
      have hi := (List.getElem?_eq_some_iff.1 hp).1
      have hc := List.getElem?_eq_getElem (l := cs) (i := i) (by omega)
      obtain ⟨F, ⟨⟨b, o, k, e1, hv, rfl⟩, hS⟩, hF⟩ := h4 i p _ hp hc
      exact ⟨⟨p.im, p.t, p.cl, some ⟨b, o, none⟩, 24, k⟩, fun p' hp' => by cases hp'; exact ⟨b, o, k, by rw [hc, e1]; rfl, rfl, hv, hF b (by simp), hS b (by simp)⟩⟩
  obtain ⟨f, hf⟩ := Classical.axiomOfChoice hex
  refine ⟨(List.range l.length).map f, ⟨cs, by simp [h1], h2, by simpa using h3, fun j x c hx hc => ?_⟩, by simp, fun w' hk => Reads.of_at (by simp) fun i x p hx hp => ?_, fun x hx ad ha => ?_⟩
  · rw [List.getElem?_map] at hx
    obtain ⟨j', hj', rfl⟩ := Option.map_eq_some_iff.1 hx
    obtain ⟨hjl, rfl⟩ := List.getElem?_eq_some_iff.1 hj'
    simp at hjl
    rw [List.getElem_range]
    obtain ⟨b, o, k, e1, _⟩ := hf j _ (List.getElem?_eq_getElem hjl)
    rw [hc] at e1; cases e1
    exact ⟨[], ⟨rfl, rfl⟩, fun b hb => by cases hb⟩
  · rw [List.getElem?_map] at hx
    obtain ⟨j', hj', rfl⟩ := Option.map_eq_some_iff.1 hx
    obtain ⟨hjl, rfl⟩ := List.getElem?_eq_some_iff.1 hj'
    rw [List.getElem_range]
    obtain ⟨b, o, k, _, e2, hv, hb, _⟩ := hf i p hp
    rw [e2]
    exact ⟨rfl, rfl, rfl, (VA.aa (w := w') (b := b) (o := o) (l := p.rw) ⟨fun i hi => hk ⟨b, o + i, none⟩ hb _ (hv.1 i hi), hv.2⟩).1, Globe.len_of_valid hv.2, by show 24 ≤ _; omega, rfl⟩
  · obtain ⟨j, hj, rfl⟩ := List.mem_map.1 hx
    have hjl : j < l.length := by simpa using hj
    obtain ⟨b, o, k, _, e2, _, _, hS⟩ := hf j _ (List.getElem?_eq_getElem hjl)
    rw [e2] at ha; cases ha; exact hS
theorem Reverse_c {S : Nat → Prop} {e : Nat} {a : Option Addr} {n cap : Nat} {l : List Prod.Pc} (w : World) (h : OwnS S pieceR e 4 (.slice a n cap) w l) (hl : l.length = n) (hn : n ≤ 1000000) :
    Calls Tryz.prog 126 #[.slice a n cap] w (RevPost S w a n l) := by
  subst hl
  have hblk := h.blk
  obtain ⟨rs, h1, hrl, hr, hS⟩ := own_raw h.own
  have hlt := h1.lt
  rcases h1 with ⟨cs, k1, k2, k3, k4⟩
  rcases k3.2 with ⟨q1, q2⟩ | ⟨g, cap', cur, q1, _⟩
  · injection q1 with r1 r2 r3
    obtain rfl : l = [] := List.eq_nil_of_length_eq_zero r2
    subst r1 r3
    refine (Go.Proofs.AnyQ.slices_Reverse_empty Tryz.revPc none 0 w).mono fun e w' ⟨he, hw⟩ => ⟨he, ?_, fun U hU _ => hw ▸ hU, by rw [hw]; exact Nat.le_refl _⟩
    exact PcsS.nil _ _ _
  · injection q1 with r1 r2 r3
    subst r1
    have h1 : OwnL rawR 0 e 4 (.slice (some ⟨g, 0, none⟩) l.length cap) w rs := ⟨cs, k1, k2, by rw [hrl] at k3 ⊢; exact k3, k4⟩
    have hcon := Go.Proofs.AnyQ.slices_Reverse Tryz.revPc 4 Tryz.isAgg49 Tryz.sizeOf49 RawPc.enc enc_len enc_one g 0 cap rs.toArray w (own_holds h1 hrl) (by simp; omega)
    rw [show rs.toArray.size = l.length by simpa using hrl] at hcon
    refine hcon.mono fun e w' ⟨he, m, hw⟩ => ⟨he, ⟨rs.reverse, ?_, (hr w' fun p hp u hu => ?_).rev, fun _ ad ha => by cases ha; exact hblk g rfl, fun x hx _ ad ha => hS x (by simpa using hx) ad ha⟩, fun U hU hUg => by rw [hw]; exact putRowK_ext hU (hUg _ (hblk g rfl)) _, by rw [hw, Go.Sort.putRowK, Go.Sort.size_putRow]; exact Nat.le_refl _⟩
    · have := holds_raws (w := w') (b := g) (rs := rs.reverse) (by
        rw [hw, show rs.toArray.reverse = rs.reverse.toArray by simp]
        exact Go.Sort.holdsK_putRowK _ _ _ _ _ rs.toArray _ (Go.Sort.holdsK_ahead _ _ _ _ _ _ _ (own_holds h1 hrl)) (by simp)) (by simp; omega)
      rw [List.length_reverse] at this
      rwa [hrl] at this
    · rw [hw, Go.Sort.cell?_putRowK_other _ _ _ _ _ _ _ (fun e => hp (by rw [e]; rfl))]; exact hu
instance {w w' : World} {a : Option Addr} {n : Nat} {rs : List RawPc} : MvC w w' (RawsAt w a n rs) (RawsAt w' a n rs) := ⟨fun e h => h.ext e⟩
instance {w w' : World} {b o : Nat} {x : RawPc} : MvC w w' (RawAt w b o x) (RawAt w' b o x) := ⟨fun e h => h.ext e⟩
instance {w w' : World} {a : Option Addr} {n : Nat} {l : List Prod.Pc} : MvC w w' (PcsAt w a n l) (PcsAt w' a n l) := ⟨fun e h => h.ext e⟩
instance {S : Nat → Prop} {w w' : World} {a : Option Addr} {n : Nat} {l : List Prod.Pc} : MvC w w' (PcsS S w a n l) (PcsS S w' a n l) := ⟨fun e h => h.ext e⟩
end Go.Proofs.YtajdohcgjgknmaaGreatDoor

namespace Go.Proofs.YtajdohcgjgknmaaGreatDoor
open Go.RowKit
theorem isIn_c (n lo hi : Int) (w : World) : Calls Tryz.prog 101 #[.int .i64 n, .int .i64 lo, .int .i64 hi] w fun e w' => e = .returned (.bool (Globe.inB n lo hi)) ∧ w = w' := by
 go_enter Tryz.func101, Tryz.ntmps101
 go_wp2
 all_goals (go_ret; refine ⟨ret_bool ?_, rfl⟩; first | (rw [Globe.inB_f.2 (by omega)]; done) | (rw [Bool.eq_iff_iff, Globe.inB_t]; first | (simp; omega) | (simp; done)))
theorem ValidCell_c (x y : Int) (w : World) :
  Calls Tryz.prog 72 #[.agg #[.int .i64 x, .int .i64 y]] w fun e w' => e = .returned (.bool (Globe.vcB x y)) ∧ Ext w w' := by
 rw [Globe.vcB_in]
 go_enter Tryz.func72, Tryz.ntmps72
 go_wp2_with (go_at_call 101; refine (isIn_c _ _ _ _).mono ?_; rintro e w' ⟨rfl, rfl⟩)
 all_goals (go_ret; refine ⟨ret_bool ?_, by (repeat' (first | (with_reducible assumption) | (with_reducible exact Ext.refl _) | (with_reducible refine Ext.alloc ?_ _) | (with_reducible refine Ext.drew ?_) | (with_reducible refine Ext.drewN ?_ _) | (with_reducible refine Ext.setCell ?_ ?_ _) | (with_reducible refine Ext.trans ?_ (by assumption)) | go_size))⟩; first | rfl | (simp [*]; done))
end Go.Proofs.YtajdohcgjgknmaaGreatDoor

namespace Go.Proofs.YtajdohcgjgknmaaGreatDoor
open Go.RowKit
theorem Valid1_c (r : Int) (w : World) : Calls Tryz.prog 100 #[.int .i64 r] w fun e w' => e = .returned (.bool (!Globe.rowOk r)) ∧ w = w' := by
 rw [show Globe.rowOk r = Globe.inB r 0 281474976710655 from rfl]
 go_enter Tryz.func100, Tryz.ntmps100
 go_wp2_with (go_at_call 101; refine (isIn_c _ _ _ _).mono ?_; rintro e w' ⟨rfl, rfl⟩)
 go_ret
 exact ⟨rfl, rfl⟩
set_option maxHeartbeats 400000 in
theorem IndexFunc_c (a : Option Addr) (l : List Int) (c : Nat) (w : World) (h : IntsAt w a l) (hl : l.length ≤ 140737488355328) :
    Calls Tryz.prog 131 #[.slice a l.length c, .func (.func 100) #[] #[]] w fun e w' => e = .returned (.int .i64 (Globe.badAt l)) ∧ w = w' := by
  rcases h with rfl | ⟨b, off, rfl, hc⟩
  · go_enter Tryz.func131, Tryz.ntmps131
    go_wp2_with fail
    refine wp_loop_rounds 1 ?_
    rw [rounds_succ]
    go_wp2_with fail
    go_ret
    exact ⟨rfl, rfl⟩
  · go_enter Tryz.func131, Tryz.ntmps131
    go_wp2_with fail
    go_loop [5, 8] (fun _ i => ∃ k : Nat, k ≤ l.length ∧ i = .int .i64 k ∧ Hid (∀ j, j < k → Globe.rowOk (Globe.nth l j) = true)) (fun _ i => l.length - (intOf i).toNat)
    case atStart => exact ⟨0, by omega, rfl, fun j hj => by omega⟩
    case round =>
      obtain ⟨k, hk, rfl, Hp⟩ := hrel
      by_cases hlt : k < l.length
      · have h0 : (0 : Int) ≤ (k : Int) := by omega
        cases hq : Globe.rowOk (Globe.nth l k)
        all_goals
          go_wp2_with (go_at_call 100; refine (Valid1_c _ _).mono ?_; rintro e w' ⟨rfl, rfl⟩)
        · go_ret
          exact ⟨ret_int (Globe.badAt_first hlt Hp.out hq).symm, rfl⟩
        · go_round
          case rel => exact ⟨k + 1, by omega, by go_num, fun j hj => by
            rcases Nat.lt_or_ge j k with h | h
            · exact Hp.out j h
            · rw [show j = k by omega]; exact hq⟩
          case measure => simp [intOf]; omega
      · obtain rfl : k = l.length := by omega
        go_wp2_with fail
        go_ret
        exact ⟨ret_int (Globe.badAt_all (List.all_eq_true.2 fun r hr => by
          obtain ⟨j, hj, rfl⟩ := List.getElem_of_mem hr
          have := Hp.out j hj
          rwa [Globe.nth_lt hj] at this)).symm, rfl⟩
theorem ContainsFunc_c (a : Option Addr) (l : List Int) (c : Nat) (w : World) (h : IntsAt w a l) (hl : l.length ≤ 140737488355328) :
    Calls Tryz.prog 99 #[.slice a l.length c, .func (.func 100) #[] #[]] w fun e w' => e = .returned (.bool (!l.all Globe.rowOk)) ∧ w = w' := by
  cases hq : l.all Globe.rowOk
  · have h1 := Globe.badAt_no hq
    go_enter Tryz.func99, Tryz.ntmps99
    go_wp2_with (go_at_call 131; refine (IndexFunc_c _ _ _ _ h hl).mono ?_; rintro e w' ⟨rfl, rfl⟩)
    go_ret
    exact ⟨rfl, rfl⟩
  · have h1 := Globe.badAt_all hq
    go_enter Tryz.func99, Tryz.ntmps99
    go_wp2_with (go_at_call 131; refine (IndexFunc_c _ _ _ _ h hl).mono ?_; rintro e w' ⟨rfl, rfl⟩)
    go_ret
    exact ⟨rfl, rfl⟩
theorem Valid_c (a : Option Addr) (l : List Int) (c : Nat) (w : World) (h : IntsAt w a l) (hl : l.length ≤ 140737488355328) :
    Calls Tryz.prog 50 #[.agg #[.slice a l.length c]] w fun e w' => e = .returned (.bool (Globe.validL l)) ∧ Ext w w' := by
  have H := Lib.hid h; clear h
  cases h24 : ((l.length : Int) == 24)
  · have hv : Globe.validL l = false := by simp [Globe.validL]; intro h; simp [h] at h24
    go_enter Tryz.func50, Tryz.ntmps50
    go_wp2_with fail
    go_ret
    exact ⟨ret_bool (by rw [hv]), by (repeat' (first | (with_reducible assumption) | (with_reducible exact Ext.refl _) | (with_reducible refine Ext.alloc ?_ _) | (with_reducible refine Ext.drew ?_) | (with_reducible refine Ext.drewN ?_ _) | (with_reducible refine Ext.setCell ?_ ?_ _) | (with_reducible refine Ext.trans ?_ (by assumption)) | go_size))⟩
  · have hv : Globe.validL l = l.all Globe.rowOk := by
      have e : l.length = 24 := by simp at h24; omega
      rw [Globe.validL, e]; simp
    have Hv := Lib.hid hv; clear hv
    go_enter Tryz.func50, Tryz.ntmps50
    go_wp2_with (go_at_call 99; refine (ContainsFunc_c _ _ _ _ (H.out.ext (by (repeat' (first | (with_reducible assumption) | (with_reducible exact Ext.refl _) | (with_reducible refine Ext.alloc ?_ _) | (with_reducible refine Ext.drew ?_) | (with_reducible refine Ext.drewN ?_ _) | (with_reducible refine Ext.setCell ?_ ?_ _) | (with_reducible refine Ext.trans ?_ (by assumption)) | go_size)))) hl).mono ?_; rintro e w' ⟨rfl, rfl⟩)
    go_ret
    exact ⟨ret_bool (by rw [Hv.out]), by (repeat' (first | (with_reducible assumption) | (with_reducible exact Ext.refl _) | (with_reducible refine Ext.alloc ?_ _) | (with_reducible refine Ext.drew ?_) | (with_reducible refine Ext.drewN ?_ _) | (with_reducible refine Ext.setCell ?_ ?_ _) | (with_reducible refine Ext.trans ?_ (by assumption)) | go_size))⟩
end Go.Proofs.YtajdohcgjgknmaaGreatDoor

namespace Go.Proofs.YtajdohcgjgknmaaGreatDoor
open Go.RowKit
theorem Empty_c (w : World) : Calls Tryz.prog 95 #[] w (RetA w Globe.zeroL) := by
 have hmk := make24
 go_enter Tryz.func95, Tryz.ntmps95
 go_wp2
 refine bodyPost_ret (v := .agg #[.slice (some ⟨w.heap.size + 1, 0, none⟩) 24 24]) (by simp [results, Tryz.results95, go_sem]) rfl ⟨w.heap.size + 1, rfl, by omega, ?_, by (repeat' (first | (with_reducible assumption) | (with_reducible exact Ext.refl _) | (with_reducible refine Ext.alloc ?_ _) | (with_reducible refine Ext.drew ?_) | (with_reducible refine Ext.drewN ?_ _) | (with_reducible refine Ext.setCell ?_ ?_ _) | (with_reducible refine Ext.trans ?_ (by assumption)) | go_size))⟩
 have := RowsAt.new (w.alloc (.cells #[.slice (some ⟨w.heap.size + 1, 0, none⟩) 24 24] 33)) Globe.zeroL 3 rfl
 rwa [World.size_alloc] at this
theorem less_i64 (a b : Nat) (ha : a < 4611686018427387904) (_hb : b < 4611686018427387904) : bits .andNot .i64 (a : Int) (b : Int) = ((Globe.lessN a b : Nat) : Int) := by
  show IntKind.i64.wrap ((BitVec.ofInt 64 (a : Int) &&& ~~~BitVec.ofInt 64 (b : Int)).toNat : Int) = _
  have e : (BitVec.ofInt 64 (a : Int) &&& ~~~BitVec.ofInt 64 (b : Int)).toNat = Globe.lessN a b := by
    refine Nat.eq_of_testBit_eq fun x => ?_
    rw [Globe.lessN_bit, BitVec.testBit_toNat, BitVec.getLsbD_and, BitVec.getLsbD_not, BitVec.ofInt_natCast, BitVec.ofInt_natCast, BitVec.getLsbD_ofNat, BitVec.getLsbD_ofNat]
    by_cases h : x < 64
    · simp [h]
    · rw [Nat.testBit_lt_two_pow (x := a) (i := x) (Nat.lt_of_lt_of_le (show a < 2 ^ 64 by omega) (Nat.pow_le_pow_right (by decide) (by omega)))]
      simp [h]
  have h2 : Globe.lessN a b < 2 ^ 62 := Nat.xor_lt_two_pow ha (Nat.lt_of_le_of_lt Nat.and_le_left ha)
  rw [e, IntKind.wrap_i64]
  omega
theorem Union1_c (p q : Nat) (w : World) (hp : p < 281474976710656) (hq : q < 281474976710656) :
  Calls Tryz.prog 49 #[.int .i64 p, .int .i64 q] w fun e w' => e = .returned (.int .i64 ((p ||| q : Nat) : Int)) ∧ w = w' := by
 go_enter Tryz.func49, Tryz.ntmps49
 go_wp2
 go_ret
 exact ⟨ret_int (or_i64 _ _ (by omega) (by omega)), rfl⟩
theorem Meet1_c (p q : Nat) (w : World) (hp : p < 281474976710656) (hq : q < 281474976710656) :
  Calls Tryz.prog 141 #[.int .i64 p, .int .i64 q] w fun e w' => e = .returned (.int .i64 ((p &&& q : Nat) : Int)) ∧ w = w' := by
 go_enter Tryz.func141, Tryz.ntmps141
 go_wp2
 go_ret
 exact ⟨ret_int (and_i64 _ _ (by omega) (by omega)), rfl⟩
theorem Less1_c (p q : Nat) (w : World) (hp : p < 281474976710656) (hq : q < 281474976710656) :
  Calls Tryz.prog 98 #[.int .i64 p, .int .i64 q] w fun e w' => e = .returned (.int .i64 ((Globe.lessN p q : Nat) : Int)) ∧ w = w' := by
 go_enter Tryz.func98, Tryz.ntmps98
 go_wp2
 go_ret
 exact ⟨ret_int (less_i64 _ _ (by omega) (by omega)), rfl⟩
end Go.Proofs.YtajdohcgjgknmaaGreatDoor

namespace Go.Proofs.YtajdohcgjgknmaaGreatDoor
open Go.RowKit
theorem Valid_n (a : Option Addr) (l : List Int) (n c : Nat) (w : World) (h : IntsAt w a l) (hn : l.length = n) (hl : n ≤ 140737488355328) :
  Calls Tryz.prog 50 #[.agg #[.slice a n c]] w fun e w' => e = .returned (.bool (Globe.validL l)) ∧ Ext w w' := by
 subst hn
 exact Valid_c a l c w h hl
theorem Valid_v {v : Bool} (a : Option Addr) (l : List Int) (n c : Nat) (w : World) (h : IntsAt w a l) (hn : l.length = n) (hl : n ≤ 140737488355328) (hv : Globe.validL l = v) :
  Calls Tryz.prog 50 #[.agg #[.slice a n c]] w fun e w' => e = .returned (.bool v) ∧ Ext w w' := hv ▸ Valid_n a l n c w h hn hl
theorem ValidCell_v {v : Bool} (x y : Int) (w : World) (hv : Globe.vcB x y = v) :
  Calls Tryz.prog 72 #[.agg #[.int .i64 x, .int .i64 y]] w fun e w' => e = .returned (.bool v) ∧ Ext w w' := hv ▸ ValidCell_c x y w
theorem Valid_y (b o c : Nat) (l : List Int) (w : World) (h : ∀ i, i < 24 → w.cell? ⟨b, o + i, none⟩ = some (.int .i64 (Globe.nth l i))) (hv : Globe.validL l = true) :
  Calls Tryz.prog 50 #[.agg #[.slice (some ⟨b, o, none⟩) 24 c]] w fun e w' => e = .returned (.bool true) ∧ Ext w w' := by
 have hn := Globe.len_of_valid hv
 have := Valid_n (some ⟨b, o, none⟩) l 24 c w (.inr ⟨b, o, rfl, fun i hi => h i (by omega)⟩) hn (by omega)
 rwa [hv] at this
theorem Valid_e {v : Bool} {w0 : World} {a : Option Addr} {l : List Int} {n : Nat} (c : Nat) (w : World) (h : AA w0 a l n v) (hE : Ext w0 w) :
  Calls Tryz.prog 50 #[.agg #[.slice a n c]] w fun e w' => e = .returned (.bool v) ∧ Ext w w' :=
 Valid_v a l n c w (h.1.ext hE) h.2.1 h.2.2.1 h.2.2.2
def Fill (w : World) (O B : Nat) (L : List Int) (wr : World) : Prop := RowsAt wr B L ∧ wr.cell? ⟨O, 0, none⟩ = some (.slice (some ⟨B, 0, none⟩) 24 24) ∧ Ext w wr
set_option maxHeartbeats 2000000 in
theorem mixed_Union (b1 o1 c1 b2 o2 c2 : Nat) (l1 l2 : List Int) (w : World) (h1 : ∀ i, i < 24 → w.cell? ⟨b1, o1 + i, none⟩ = some (.int .i64 (Globe.nth l1 i))) (h2 : ∀ i, i < 24 → w.cell? ⟨b2, o2 + i, none⟩ = some (.int .i64 (Globe.nth l2 i)))
    (hv1 : Globe.validL l1 = true) (hv2 : Globe.validL l2 = true) :
    Calls Tryz.prog 48 #[.agg #[.slice (some ⟨b1, o1, none⟩) 24 c1], .agg #[.slice (some ⟨b2, o2, none⟩) 24 c2], .func (.func 49) #[] #[]] w (RetAE w (Globe.unionL l1 l2)) := by
  have H1 := Lib.hid h1; clear h1
  have H2 := Lib.hid h2; clear h2
  have B7 := Lib.hid hv1; clear hv1
  have Ba := Lib.hid hv2; clear hv2
  go_enter Tryz.func48, Tryz.ntmps48
  go_wp2_with (first | (go_at_call 50; refine (Valid_y _ _ _ _ _ (fun i hi => Ext.cell (show Ext w _ by (repeat' (first | (with_reducible assumption) | (with_reducible exact Ext.refl _) | (with_reducible refine Ext.alloc ?_ _) | (with_reducible refine Ext.drew ?_) | (with_reducible refine Ext.drewN ?_ _) | (with_reducible refine Ext.setCell ?_ ?_ _) | (with_reducible refine Ext.trans ?_ (by assumption)) | go_size))) (by first | exact H1.out i hi | exact H2.out i hi)) (by first | exact B7.out | exact Ba.out)).mono ?_; rintro e w1 ⟨rfl, hb⟩; have hc := hb.cellE; have hf := hb.frozenE; have hz := hb.size; have ha := alloc_keeps w1; (try simp only [World.size_alloc] at hc hf hz); (try simp only [World.size_setCell] at hc hf hz); (try simp only [World.size_drew] at hc hf hz)) | (go_at_call 95; refine (Empty_c _).mono ?_; rintro e w2 ⟨B, rfl, hB, hr, Bb⟩))
  obtain ⟨O, hO⟩ : ∃ O, O = w2.heap.size := ⟨_, rfl⟩
  have hBO : B < O := by have := hr.lt; omega
  have hwB : w.heap.size + 1 + 1 + 1 ≤ B := by omega
  refine wp_name (fun V => V.cell? ⟨w.heap.size, 0, none⟩ = some (.slice (some ⟨b1, o1, none⟩) 24 c1) ∧ V.cell? ⟨w.heap.size + 1, 0, none⟩ = some (.slice (some ⟨b2, o2, none⟩) 24 c2) ∧ BoxAt V (w.heap.size + 1 + 1) 0 (.slice none 0 0) ∧ Fill w O B Globe.zeroL V) ⟨?_, ?_, ?_, ?_⟩ ?_
  · (repeat' (first | (with_reducible assumption) | (simp [go_sem]; done) | (with_reducible refine Ext.cell (Ext.alloc (Ext.refl _) _) ?_) | (with_reducible refine Ext.cell (by with_reducible assumption) ?_)))
  · (repeat' (first | (with_reducible assumption) | (simp [go_sem]; done) | (with_reducible refine Ext.cell (Ext.alloc (Ext.refl _) _) ?_) | (with_reducible refine Ext.cell (by with_reducible assumption) ?_)))
  · (repeat' (first | (with_reducible assumption) | (exact ⟨by simp [go_sem], by simp [go_sem]⟩) | (with_reducible refine BoxAt.ext (Ext.alloc (Ext.refl _) _) ?_) | (with_reducible refine BoxAt.ext (by with_reducible assumption) ?_)))
  · exact ⟨hr.ext (by (repeat' (first | (with_reducible assumption) | (with_reducible exact Ext.refl _) | (with_reducible refine Ext.alloc ?_ _) | (with_reducible refine Ext.drew ?_) | (with_reducible refine Ext.drewN ?_ _) | (with_reducible refine Ext.setCell ?_ ?_ _) | (with_reducible refine Ext.trans ?_ (by assumption)) | go_size))), by rw [hO]; simp [go_sem], by (repeat' (first | (with_reducible assumption) | (with_reducible exact Ext.refl _) | (with_reducible refine Ext.alloc ?_ _) | (with_reducible refine Ext.drew ?_) | (with_reducible refine Ext.drewN ?_ _) | (with_reducible refine Ext.setCell ?_ ?_ _) | (with_reducible refine Ext.trans ?_ (by assumption)) | go_size))⟩
  rintro V ⟨c3, c4, c6, hF⟩
  rw [← hO]
  clear hO hr Bb hB
  iterate 2 clear hc hf hz ha hb
  rw [← Globe.partL_zero (Globe.unionL l1 l2)] at hF
  have hL : (Globe.unionL l1 l2).length = 24 := Globe.rowsF_len _
  have HL := Lib.hid hL; clear hL
  go_loopw [23] (fun p wr => ∃ y : Nat, y ≤ 24 ∧ p = .int .i64 y ∧ wr.cell? ⟨w.heap.size, 0, none⟩ = some (.slice (some ⟨b1, o1, none⟩) 24 c1) ∧ wr.cell? ⟨w.heap.size + 1, 0, none⟩ = some (.slice (some ⟨b2, o2, none⟩) 24 c2) ∧ BoxAt wr (w.heap.size + 1 + 1) 0 (.slice none 0 0) ∧ Fill w O B (Globe.partL (Globe.unionL l1 l2) y) wr) (fun p _ => 24 - (intOf p).toNat)
  case atStart => exact ⟨0, by omega, rfl, c3, c4, c6, hF⟩
  case round =>
    clear c3 c4 c6 hF
    obtain ⟨y, hy, rfl, c3, c4, c6, hr, cO, hE⟩ := hrel
    have hOl := World.block_lt_of_cell? wr _ cO
    by_cases hlt : y < 24
    · have hp := Globe.rowN_lt B7.out y
      have hq := Globe.rowN_lt Ba.out y
      have d1 : wr.cell? ⟨b1, o1 + y, none⟩ = some (.int .i64 (Globe.rowN l1 y : Nat)) := by rw [← Globe.rowN_cast B7.out]; exact hE.cell (H1.out y hlt)
      have d2 : wr.cell? ⟨b2, o2 + y, none⟩ = some (.int .i64 (Globe.rowN l2 y : Nat)) := by rw [← Globe.rowN_cast Ba.out]; exact hE.cell (H2.out y hlt)
      have d3 := hr.cell hlt
      have Bc := IntsAt.lt H1.out
      have Bb := IntsAt.lt H2.out
      have d4 := hr.free hlt
      have y0 : (0 : Int) ≤ (y : Int) := by omega
      have y1 : (y : Int) < 24 := by omega
      go_wp2_with fail
      go_region_held3 (fun w' => w'.cell? ⟨w.heap.size, 0, none⟩ = some (.slice (some ⟨b1, o1, none⟩) 24 c1) ∧ w'.cell? ⟨w.heap.size + 1, 0, none⟩ = some (.slice (some ⟨b2, o2, none⟩) 24 c2) ∧ w'.cell? ⟨O, 0, none⟩ = some (.slice (some ⟨B, 0, none⟩) 24 24) ∧ w'.cell? ⟨b1, o1 + y, none⟩ = some (.int .i64 (Globe.rowN l1 y : Nat)) ∧ w'.cell? ⟨b2, o2 + y, none⟩ = some (.int .i64 (Globe.rowN l2 y : Nat)))
        (first | ((repeat' (with_reducible apply And.intro)) <;> (first | (with_reducible assumption) | (simp [go_sem, c3, c4, cO, d1, d2]; done))))
        ((go_at_call 49; refine (Union1_c _ _ _ hp hq).mono ?_; rintro e w' ⟨rfl, rfl⟩))
      go_wp2
      go_roundw
      case rel =>
        refine ⟨y + 1, by omega, by go_num, by simpa [go_sem] using c3, by simpa [go_sem] using c4, (c6.other (p := ⟨B, y, none⟩) (by show B ≠ _; omega) _).drew, ?_, by simpa [go_sem] using cO, by (repeat' (first | (with_reducible assumption) | (with_reducible exact Ext.refl _) | (with_reducible refine Ext.alloc ?_ _) | (with_reducible refine Ext.drew ?_) | (with_reducible refine Ext.drewN ?_ _) | (with_reducible refine Ext.setCell ?_ ?_ _) | (with_reducible refine Ext.trans ?_ (by assumption)) | go_size))⟩
        have := (hr.set hlt (Globe.nth (Globe.unionL l1 l2) y)).drew
        rwa [Globe.partL_succ HL.out hlt, show Globe.nth (Globe.unionL l1 l2) y = _ from Globe.nth_rowsF _ hlt] at this
      case measure => simp [intOf]; omega
    · obtain rfl : y = 24 := by omega
      rw [Globe.partL_all HL.out] at hr
      obtain ⟨c6, f6⟩ := c6
      go_wp2_with fail
      refine bodyPost_ret (v := .tuple #[.agg #[.slice (some ⟨B, 0, none⟩) 24 24], .int .i64 0]) (by simp [results, Tryz.results48, go_sem, c6]) rfl ⟨B, rfl, by omega, hr.other (by show w.heap.size + 1 + 1 ≠ _; omega) _, by (repeat' (first | (with_reducible assumption) | (with_reducible exact Ext.refl _) | (with_reducible refine Ext.alloc ?_ _) | (with_reducible refine Ext.drew ?_) | (with_reducible refine Ext.drewN ?_ _) | (with_reducible refine Ext.setCell ?_ ?_ _) | (with_reducible refine Ext.trans ?_ (by assumption)) | go_size))⟩
set_option maxHeartbeats 2000000 in
theorem mixed_Meet (b1 o1 c1 b2 o2 c2 : Nat) (l1 l2 : List Int) (w : World) (h1 : ∀ i, i < 24 → w.cell? ⟨b1, o1 + i, none⟩ = some (.int .i64 (Globe.nth l1 i))) (h2 : ∀ i, i < 24 → w.cell? ⟨b2, o2 + i, none⟩ = some (.int .i64 (Globe.nth l2 i)))
    (hv1 : Globe.validL l1 = true) (hv2 : Globe.validL l2 = true) :
    Calls Tryz.prog 48 #[.agg #[.slice (some ⟨b1, o1, none⟩) 24 c1], .agg #[.slice (some ⟨b2, o2, none⟩) 24 c2], .func (.func 141) #[] #[]] w (RetAE w (Globe.meetL l1 l2)) := by
  have H1 := Lib.hid h1; clear h1
  have H2 := Lib.hid h2; clear h2
  have B7 := Lib.hid hv1; clear hv1
  have Ba := Lib.hid hv2; clear hv2
  go_enter Tryz.func48, Tryz.ntmps48
  go_wp2_with (first | (go_at_call 50; refine (Valid_y _ _ _ _ _ (fun i hi => Ext.cell (show Ext w _ by (repeat' (first | (with_reducible assumption) | (with_reducible exact Ext.refl _) | (with_reducible refine Ext.alloc ?_ _) | (with_reducible refine Ext.drew ?_) | (with_reducible refine Ext.drewN ?_ _) | (with_reducible refine Ext.setCell ?_ ?_ _) | (with_reducible refine Ext.trans ?_ (by assumption)) | go_size))) (by first | exact H1.out i hi | exact H2.out i hi)) (by first | exact B7.out | exact Ba.out)).mono ?_; rintro e w1 ⟨rfl, hb⟩; have hc := hb.cellE; have hf := hb.frozenE; have hz := hb.size; have ha := alloc_keeps w1; (try simp only [World.size_alloc] at hc hf hz); (try simp only [World.size_setCell] at hc hf hz); (try simp only [World.size_drew] at hc hf hz)) | (go_at_call 95; refine (Empty_c _).mono ?_; rintro e w2 ⟨B, rfl, hB, hr, Bb⟩))
  obtain ⟨O, hO⟩ : ∃ O, O = w2.heap.size := ⟨_, rfl⟩
  have hBO : B < O := by have := hr.lt; omega
  have hwB : w.heap.size + 1 + 1 + 1 ≤ B := by omega
  refine wp_name (fun V => V.cell? ⟨w.heap.size, 0, none⟩ = some (.slice (some ⟨b1, o1, none⟩) 24 c1) ∧ V.cell? ⟨w.heap.size + 1, 0, none⟩ = some (.slice (some ⟨b2, o2, none⟩) 24 c2) ∧ BoxAt V (w.heap.size + 1 + 1) 0 (.slice none 0 0) ∧ Fill w O B Globe.zeroL V) ⟨?_, ?_, ?_, ?_⟩ ?_
  · (repeat' (first | (with_reducible assumption) | (simp [go_sem]; done) | (with_reducible refine Ext.cell (Ext.alloc (Ext.refl _) _) ?_) | (with_reducible refine Ext.cell (by with_reducible assumption) ?_)))
  · (repeat' (first | (with_reducible assumption) | (simp [go_sem]; done) | (with_reducible refine Ext.cell (Ext.alloc (Ext.refl _) _) ?_) | (with_reducible refine Ext.cell (by with_reducible assumption) ?_)))
  · (repeat' (first | (with_reducible assumption) | (exact ⟨by simp [go_sem], by simp [go_sem]⟩) | (with_reducible refine BoxAt.ext (Ext.alloc (Ext.refl _) _) ?_) | (with_reducible refine BoxAt.ext (by with_reducible assumption) ?_)))
  · exact ⟨hr.ext (by (repeat' (first | (with_reducible assumption) | (with_reducible exact Ext.refl _) | (with_reducible refine Ext.alloc ?_ _) | (with_reducible refine Ext.drew ?_) | (with_reducible refine Ext.drewN ?_ _) | (with_reducible refine Ext.setCell ?_ ?_ _) | (with_reducible refine Ext.trans ?_ (by assumption)) | go_size))), by rw [hO]; simp [go_sem], by (repeat' (first | (with_reducible assumption) | (with_reducible exact Ext.refl _) | (with_reducible refine Ext.alloc ?_ _) | (with_reducible refine Ext.drew ?_) | (with_reducible refine Ext.drewN ?_ _) | (with_reducible refine Ext.setCell ?_ ?_ _) | (with_reducible refine Ext.trans ?_ (by assumption)) | go_size))⟩
  rintro V ⟨c3, c4, c6, hF⟩
  rw [← hO]
  clear hO hr Bb hB
  iterate 2 clear hc hf hz ha hb
  rw [← Globe.partL_zero (Globe.meetL l1 l2)] at hF
  have hL : (Globe.meetL l1 l2).length = 24 := Globe.rowsF_len _
  have HL := Lib.hid hL; clear hL
  go_loopw [23] (fun p wr => ∃ y : Nat, y ≤ 24 ∧ p = .int .i64 y ∧ wr.cell? ⟨w.heap.size, 0, none⟩ = some (.slice (some ⟨b1, o1, none⟩) 24 c1) ∧ wr.cell? ⟨w.heap.size + 1, 0, none⟩ = some (.slice (some ⟨b2, o2, none⟩) 24 c2) ∧ BoxAt wr (w.heap.size + 1 + 1) 0 (.slice none 0 0) ∧ Fill w O B (Globe.partL (Globe.meetL l1 l2) y) wr) (fun p _ => 24 - (intOf p).toNat)
  case atStart => exact ⟨0, by omega, rfl, c3, c4, c6, hF⟩
  case round =>
    clear c3 c4 c6 hF
    obtain ⟨y, hy, rfl, c3, c4, c6, hr, cO, hE⟩ := hrel
    have hOl := World.block_lt_of_cell? wr _ cO
    by_cases hlt : y < 24
    · have hp := Globe.rowN_lt B7.out y
      have hq := Globe.rowN_lt Ba.out y
      have d1 : wr.cell? ⟨b1, o1 + y, none⟩ = some (.int .i64 (Globe.rowN l1 y : Nat)) := by rw [← Globe.rowN_cast B7.out]; exact hE.cell (H1.out y hlt)
      have d2 : wr.cell? ⟨b2, o2 + y, none⟩ = some (.int .i64 (Globe.rowN l2 y : Nat)) := by rw [← Globe.rowN_cast Ba.out]; exact hE.cell (H2.out y hlt)
      have d3 := hr.cell hlt
      have Bc := IntsAt.lt H1.out
      have Bb := IntsAt.lt H2.out
      have d4 := hr.free hlt
      have y0 : (0 : Int) ≤ (y : Int) := by omega
      have y1 : (y : Int) < 24 := by omega
      go_wp2_with fail
      go_region_held3 (fun w' => w'.cell? ⟨w.heap.size, 0, none⟩ = some (.slice (some ⟨b1, o1, none⟩) 24 c1) ∧ w'.cell? ⟨w.heap.size + 1, 0, none⟩ = some (.slice (some ⟨b2, o2, none⟩) 24 c2) ∧ w'.cell? ⟨O, 0, none⟩ = some (.slice (some ⟨B, 0, none⟩) 24 24) ∧ w'.cell? ⟨b1, o1 + y, none⟩ = some (.int .i64 (Globe.rowN l1 y : Nat)) ∧ w'.cell? ⟨b2, o2 + y, none⟩ = some (.int .i64 (Globe.rowN l2 y : Nat)))
        (first | ((repeat' (with_reducible apply And.intro)) <;> (first | (with_reducible assumption) | (simp [go_sem, c3, c4, cO, d1, d2]; done))))
        ((go_at_call 141; refine (Meet1_c _ _ _ hp hq).mono ?_; rintro e w' ⟨rfl, rfl⟩))
      go_wp2
      go_roundw
      case rel =>
        refine ⟨y + 1, by omega, by go_num, by simpa [go_sem] using c3, by simpa [go_sem] using c4, (c6.other (p := ⟨B, y, none⟩) (by show B ≠ _; omega) _).drew, ?_, by simpa [go_sem] using cO, by (repeat' (first | (with_reducible assumption) | (with_reducible exact Ext.refl _) | (with_reducible refine Ext.alloc ?_ _) | (with_reducible refine Ext.drew ?_) | (with_reducible refine Ext.drewN ?_ _) | (with_reducible refine Ext.setCell ?_ ?_ _) | (with_reducible refine Ext.trans ?_ (by assumption)) | go_size))⟩
        have := (hr.set hlt (Globe.nth (Globe.meetL l1 l2) y)).drew
        rwa [Globe.partL_succ HL.out hlt, show Globe.nth (Globe.meetL l1 l2) y = _ from Globe.nth_rowsF _ hlt] at this
      case measure => simp [intOf]; omega
    · obtain rfl : y = 24 := by omega
      rw [Globe.partL_all HL.out] at hr
      obtain ⟨c6, f6⟩ := c6
      go_wp2_with fail
      refine bodyPost_ret (v := .tuple #[.agg #[.slice (some ⟨B, 0, none⟩) 24 24], .int .i64 0]) (by simp [results, Tryz.results48, go_sem, c6]) rfl ⟨B, rfl, by omega, hr.other (by show w.heap.size + 1 + 1 ≠ _; omega) _, by (repeat' (first | (with_reducible assumption) | (with_reducible exact Ext.refl _) | (with_reducible refine Ext.alloc ?_ _) | (with_reducible refine Ext.drew ?_) | (with_reducible refine Ext.drewN ?_ _) | (with_reducible refine Ext.setCell ?_ ?_ _) | (with_reducible refine Ext.trans ?_ (by assumption)) | go_size))⟩
set_option maxHeartbeats 2000000 in
theorem mixed_Less (b1 o1 c1 b2 o2 c2 : Nat) (l1 l2 : List Int) (w : World) (h1 : ∀ i, i < 24 → w.cell? ⟨b1, o1 + i, none⟩ = some (.int .i64 (Globe.nth l1 i))) (h2 : ∀ i, i < 24 → w.cell? ⟨b2, o2 + i, none⟩ = some (.int .i64 (Globe.nth l2 i)))
    (hv1 : Globe.validL l1 = true) (hv2 : Globe.validL l2 = true) :
    Calls Tryz.prog 48 #[.agg #[.slice (some ⟨b1, o1, none⟩) 24 c1], .agg #[.slice (some ⟨b2, o2, none⟩) 24 c2], .func (.func 98) #[] #[]] w (RetAE w (Globe.lessL l1 l2)) := by
  have H1 := Lib.hid h1; clear h1
  have H2 := Lib.hid h2; clear h2
  have B7 := Lib.hid hv1; clear hv1
  have Ba := Lib.hid hv2; clear hv2
  go_enter Tryz.func48, Tryz.ntmps48
  go_wp2_with (first | (go_at_call 50; refine (Valid_y _ _ _ _ _ (fun i hi => Ext.cell (show Ext w _ by (repeat' (first | (with_reducible assumption) | (with_reducible exact Ext.refl _) | (with_reducible refine Ext.alloc ?_ _) | (with_reducible refine Ext.drew ?_) | (with_reducible refine Ext.drewN ?_ _) | (with_reducible refine Ext.setCell ?_ ?_ _) | (with_reducible refine Ext.trans ?_ (by assumption)) | go_size))) (by first | exact H1.out i hi | exact H2.out i hi)) (by first | exact B7.out | exact Ba.out)).mono ?_; rintro e w1 ⟨rfl, hb⟩; have hc := hb.cellE; have hf := hb.frozenE; have hz := hb.size; have ha := alloc_keeps w1; (try simp only [World.size_alloc] at hc hf hz); (try simp only [World.size_setCell] at hc hf hz); (try simp only [World.size_drew] at hc hf hz)) | (go_at_call 95; refine (Empty_c _).mono ?_; rintro e w2 ⟨B, rfl, hB, hr, Bb⟩))
  obtain ⟨O, hO⟩ : ∃ O, O = w2.heap.size := ⟨_, rfl⟩
  have hBO : B < O := by have := hr.lt; omega
  have hwB : w.heap.size + 1 + 1 + 1 ≤ B := by omega
  refine wp_name (fun V => V.cell? ⟨w.heap.size, 0, none⟩ = some (.slice (some ⟨b1, o1, none⟩) 24 c1) ∧ V.cell? ⟨w.heap.size + 1, 0, none⟩ = some (.slice (some ⟨b2, o2, none⟩) 24 c2) ∧ BoxAt V (w.heap.size + 1 + 1) 0 (.slice none 0 0) ∧ Fill w O B Globe.zeroL V) ⟨?_, ?_, ?_, ?_⟩ ?_
  · (repeat' (first | (with_reducible assumption) | (simp [go_sem]; done) | (with_reducible refine Ext.cell (Ext.alloc (Ext.refl _) _) ?_) | (with_reducible refine Ext.cell (by with_reducible assumption) ?_)))
  · (repeat' (first | (with_reducible assumption) | (simp [go_sem]; done) | (with_reducible refine Ext.cell (Ext.alloc (Ext.refl _) _) ?_) | (with_reducible refine Ext.cell (by with_reducible assumption) ?_)))
  · (repeat' (first | (with_reducible assumption) | (exact ⟨by simp [go_sem], by simp [go_sem]⟩) | (with_reducible refine BoxAt.ext (Ext.alloc (Ext.refl _) _) ?_) | (with_reducible refine BoxAt.ext (by with_reducible assumption) ?_)))
  · exact ⟨hr.ext (by (repeat' (first | (with_reducible assumption) | (with_reducible exact Ext.refl _) | (with_reducible refine Ext.alloc ?_ _) | (with_reducible refine Ext.drew ?_) | (with_reducible refine Ext.drewN ?_ _) | (with_reducible refine Ext.setCell ?_ ?_ _) | (with_reducible refine Ext.trans ?_ (by assumption)) | go_size))), by rw [hO]; simp [go_sem], by (repeat' (first | (with_reducible assumption) | (with_reducible exact Ext.refl _) | (with_reducible refine Ext.alloc ?_ _) | (with_reducible refine Ext.drew ?_) | (with_reducible refine Ext.drewN ?_ _) | (with_reducible refine Ext.setCell ?_ ?_ _) | (with_reducible refine Ext.trans ?_ (by assumption)) | go_size))⟩
  rintro V ⟨c3, c4, c6, hF⟩
  rw [← hO]
  clear hO hr Bb hB
  iterate 2 clear hc hf hz ha hb
  rw [← Globe.partL_zero (Globe.lessL l1 l2)] at hF
  have hL : (Globe.lessL l1 l2).length = 24 := Globe.rowsF_len _
  have HL := Lib.hid hL; clear hL
  go_loopw [23] (fun p wr => ∃ y : Nat, y ≤ 24 ∧ p = .int .i64 y ∧ wr.cell? ⟨w.heap.size, 0, none⟩ = some (.slice (some ⟨b1, o1, none⟩) 24 c1) ∧ wr.cell? ⟨w.heap.size + 1, 0, none⟩ = some (.slice (some ⟨b2, o2, none⟩) 24 c2) ∧ BoxAt wr (w.heap.size + 1 + 1) 0 (.slice none 0 0) ∧ Fill w O B (Globe.partL (Globe.lessL l1 l2) y) wr) (fun p _ => 24 - (intOf p).toNat)
  case atStart => exact ⟨0, by omega, rfl, c3, c4, c6, hF⟩
  case round =>
    clear c3 c4 c6 hF
    obtain ⟨y, hy, rfl, c3, c4, c6, hr, cO, hE⟩ := hrel
    have hOl := World.block_lt_of_cell? wr _ cO
    by_cases hlt : y < 24
    · have hp := Globe.rowN_lt B7.out y
      have hq := Globe.rowN_lt Ba.out y
      have d1 : wr.cell? ⟨b1, o1 + y, none⟩ = some (.int .i64 (Globe.rowN l1 y : Nat)) := by rw [← Globe.rowN_cast B7.out]; exact hE.cell (H1.out y hlt)
      have d2 : wr.cell? ⟨b2, o2 + y, none⟩ = some (.int .i64 (Globe.rowN l2 y : Nat)) := by rw [← Globe.rowN_cast Ba.out]; exact hE.cell (H2.out y hlt)
      have d3 := hr.cell hlt
      have Bc := IntsAt.lt H1.out
      have Bb := IntsAt.lt H2.out
      have d4 := hr.free hlt
      have y0 : (0 : Int) ≤ (y : Int) := by omega
      have y1 : (y : Int) < 24 := by omega
      go_wp2_with fail
      go_region_held3 (fun w' => w'.cell? ⟨w.heap.size, 0, none⟩ = some (.slice (some ⟨b1, o1, none⟩) 24 c1) ∧ w'.cell? ⟨w.heap.size + 1, 0, none⟩ = some (.slice (some ⟨b2, o2, none⟩) 24 c2) ∧ w'.cell? ⟨O, 0, none⟩ = some (.slice (some ⟨B, 0, none⟩) 24 24) ∧ w'.cell? ⟨b1, o1 + y, none⟩ = some (.int .i64 (Globe.rowN l1 y : Nat)) ∧ w'.cell? ⟨b2, o2 + y, none⟩ = some (.int .i64 (Globe.rowN l2 y : Nat)))
        (first | ((repeat' (with_reducible apply And.intro)) <;> (first | (with_reducible assumption) | (simp [go_sem, c3, c4, cO, d1, d2]; done))))
        ((go_at_call 98; refine (Less1_c _ _ _ hp hq).mono ?_; rintro e w' ⟨rfl, rfl⟩))
      go_wp2
      go_roundw
      case rel =>
        refine ⟨y + 1, by omega, by go_num, by simpa [go_sem] using c3, by simpa [go_sem] using c4, (c6.other (p := ⟨B, y, none⟩) (by show B ≠ _; omega) _).drew, ?_, by simpa [go_sem] using cO, by (repeat' (first | (with_reducible assumption) | (with_reducible exact Ext.refl _) | (with_reducible refine Ext.alloc ?_ _) | (with_reducible refine Ext.drew ?_) | (with_reducible refine Ext.drewN ?_ _) | (with_reducible refine Ext.setCell ?_ ?_ _) | (with_reducible refine Ext.trans ?_ (by assumption)) | go_size))⟩
        have := (hr.set hlt (Globe.nth (Globe.lessL l1 l2) y)).drew
        rwa [Globe.partL_succ HL.out hlt, show Globe.nth (Globe.lessL l1 l2) y = _ from Globe.nth_rowsF _ hlt] at this
      case measure => simp [intOf]; omega
    · obtain rfl : y = 24 := by omega
      rw [Globe.partL_all HL.out] at hr
      obtain ⟨c6, f6⟩ := c6
      go_wp2_with fail
      refine bodyPost_ret (v := .tuple #[.agg #[.slice (some ⟨B, 0, none⟩) 24 24], .int .i64 0]) (by simp [results, Tryz.results48, go_sem, c6]) rfl ⟨B, rfl, by omega, hr.other (by show w.heap.size + 1 + 1 ≠ _; omega) _, by (repeat' (first | (with_reducible assumption) | (with_reducible exact Ext.refl _) | (with_reducible refine Ext.alloc ?_ _) | (with_reducible refine Ext.drew ?_) | (with_reducible refine Ext.drewN ?_ _) | (with_reducible refine Ext.setCell ?_ ?_ _) | (with_reducible refine Ext.trans ?_ (by assumption)) | go_size))⟩
end Go.Proofs.YtajdohcgjgknmaaGreatDoor

namespace Go.Proofs.YtajdohcgjgknmaaGreatDoor
set_option maxRecDepth 1000000
set_option maxHeartbeats 4000000
set_option synthInstance.maxHeartbeats 0
set_option synthInstance.maxSize 9999
open Go.RowKit
namespace Prod
def hasIm (l : List Pc) (im : Int) : Bool := l.any fun p => decide (p.im = im)
theorem hasIm_next {l : List Pc} {i : Nat} {p : Pc} {im : Int} (h : hasIm (l.take i) im = false) (hp : l[i]? = some p) (hne : ¬ p.im = im) : hasIm (l.take (i + 1)) im = false := by
 unfold hasIm at *; rw [List.take_add_one, hp, List.any_append, h]; simp [hne]
theorem hasIm_found {l : List Pc} {i : Nat} {p : Pc} {im : Int} (hp : l[i]? = some p) (he : p.im = im) : hasIm l im = true := by
 unfold hasIm; rw [List.any_eq_true]; exact ⟨p, List.mem_of_getElem? hp, by simp [he]⟩
end Prod
theorem in_c (n lo hi : Int) (w : World) : Calls Tryz.prog 79 #[iv n, iv lo, iv hi] w fun e w' => e = .returned (.bool (Globe.inB n lo hi)) ∧ Ext w w' := by
 refine calls_cw 15 [(2, iv hi), (1, iv lo), (0, iv n)] Tryz.func79 rfl Tryz.ntmps79 (by kernel_rfl) (by kernel_rfl) (fun L => ?_);have hE := Ext.refl w;refine zc (zp (pT (.bool false) ?_));refine zn (zc (zp (pD (iv n) (iv lo) ?_)))
 by_cases hc1 : (n : Int) ≥ (lo : Int)
 ·
  refine pU (.bool true) (ed ((n : Int) ≥ (lo : Int)) (hc1)) ?_;refine pD (.bool true) (iv n) ?_;refine pT (iv hi) ?_
  by_cases hc2 : (n : Int) ≤ (hi : Int)
  ·
   refine pU (.bool true) (ed ((n : Int) ≤ (hi : Int)) (hc2)) ?_;refine pD (.bool true) (.bool true) ?_;refine zn (cw_ret (qw_ret [.bool true] rfl ⟨(by kernel_rfl), trivial⟩ ?_));exact ⟨rb (by first | exact (decide_eq_true (by omega)).symm | exact (decide_eq_false (by omega)).symm), hE⟩
  ·
   refine pU (.bool false) (en ((n : Int) ≤ (hi : Int)) (hc2)) ?_;refine pD (.bool false) (.bool false) ?_;refine zn (cw_ret (qw_ret [.bool false] rfl ⟨(by kernel_rfl), trivial⟩ ?_));exact ⟨rb (by first | exact (decide_eq_true (by omega)).symm | exact (decide_eq_false (by omega)).symm), hE⟩
 ·
  refine pU (.bool false) (en ((n : Int) ≥ (lo : Int)) (hc1)) ?_;refine pT (.bool false) ?_;refine pK ?_;refine pK ?_;refine pK ?_;refine pD (.bool false) (.bool false) ?_;refine zn (cw_ret (qw_ret [.bool false] rfl ⟨(by kernel_rfl), trivial⟩ ?_));exact ⟨rb (by first | exact (decide_eq_true (by omega)).symm | exact (decide_eq_false (by omega)).symm), hE⟩
theorem in_r (n lo hi : Int) {r : Bool} (w : World) (hr : Globe.inB n lo hi = r) : Calls Tryz.prog 79 #[.int .i64 n, .int .i64 lo, .int .i64 hi] w fun e w' => e = .returned (.bool r) ∧ Ext w w' := hr ▸ in_c n lo hi w
theorem Valid_q {v r : Bool} {w0 : World} {a : Option Addr} {l : List Int} {n : Nat} (c : Nat) (w : World) (h : AA w0 a l n v) (hE : Ext w0 w) (hr : v = r) : Calls Tryz.prog 50 #[.agg #[.slice a n c]] w fun e w' => e = .returned (.bool r) ∧ Ext w w' := hr ▸ Valid_e c w h hE
theorem right_c {w0 : World} {x : Prod.Pc} {a : Option Addr} {k c : Nat} (w : World) (hA : AA w0 a x.rw k (Globe.validL x.rw)) (e0 : Ext w0 w) : Calls Tryz.prog 57 #[.agg #[iv x.im, iv x.t, .bool x.cl, .slice a k c]] w fun e w' => e = .returned (.bool (Prod.okP x)) ∧ Ext w w' := by
 refine calls_cw 16 [(0, .agg #[iv x.im, iv x.t, .bool x.cl, .slice a k c])] Tryz.func57 rfl Tryz.ntmps57 (by kernel_rfl) (by kernel_rfl) (fun L => ?_);have hE := Ext.refl w;refine zc (zp (pS (sw 49 #[iv x.im, iv x.t, .bool x.cl, .slice a k c] ?_)));intro O1 X2 Bq Bp hb hbx;have ⟨B7, Ba, Bc, Bb⟩ := bq4 hbx;refine mv2 hb e0 hE fun e0 hE=>?_;have Br := hb.size;have Bu := B7.lt;refine pT (.bool false) ?_;refine zn (zc (zp (pT (pw O1 0) ?_)));refine pU (iv x.im) (xl (ld3 (B7.1))) ?_;rcases Bool.eq_false_or_eq_true (Globe.inB x.im 0 999) with Bf | Bf
 ·
  refine pS (sc 79 #[iv x.im, iv 0, iv 999] ((in_r (r := true) x.im 0 999 _ (Bf)).mono ?_));rintro e w6 ⟨rfl, hb⟩;refine mv4 hb e0 hE Ba Bb fun e0 hE Ba Bb=>?_;have Bt := hb.size;refine ⟨_, rfl, pD (.bool true) (pw O1 1) ?_⟩;refine pU (iv x.t) (xl (ld3 (Ba.1))) ?_;rcases Bool.eq_false_or_eq_true (Globe.inB x.t 0 1000000) with Bg | Bg
  ·
   refine pS (sc 79 #[iv x.t, iv 0, iv 1000000] ((in_r (r := true) x.t 0 1000000 _ (Bg)).mono ?_));rintro e w9 ⟨rfl, hb⟩;refine mv3 hb e0 hE Bb fun e0 hE Bb=>?_;have Bh := hb.size;refine ⟨_, rfl, pD (.bool true) (.bool true) ?_⟩;refine pT (pw O1 3) ?_;refine pU (.agg #[.slice a k c]) (xl (ld33 (Bb.1))) ?_;rcases Bool.eq_false_or_eq_true (Globe.validL x.rw) with Be | Be
   ·
    refine pS (sc 50 #[.agg #[.slice a k c]] ((Valid_q (r := true) _ _ (hA) e0 Be).mono ?_));rintro e Bv ⟨rfl, hb⟩;refine mv2 hb e0 hE fun e0 hE=>?_;have Bi := hb.size;refine ⟨_, rfl, pD (.bool true) (.bool true) ?_⟩;refine zn (cK [2] (fun L => ?_));refine cw_ret (qw_ret [.bool true] rfl ⟨(by kernel_rfl), trivial⟩ ?_);exact ⟨rb (show Prod.okP x = true by simp [Prod.okP, Bf, Bg, Be]).symm, hE⟩
   ·
    refine pS (sc 50 #[.agg #[.slice a k c]] ((Valid_q (r := false) _ _ (hA) e0 Be).mono ?_));rintro e Bw ⟨rfl, hb⟩;replace hE := hE.trans hb;have Bj := hb.size;refine ⟨_, rfl, pD (.bool false) (.bool false) ?_⟩;refine zn (cK [2] (fun L => ?_));refine cw_ret (qw_ret [.bool false] rfl ⟨(by kernel_rfl), trivial⟩ ?_);exact ⟨rb (show Prod.okP x = false by simp [Prod.okP, Bf, Bg, Be]).symm, hE⟩
  ·
   refine pS (sc 79 #[iv x.t, iv 0, iv 1000000] ((in_r (r := false) x.t 0 1000000 _ (Bg)).mono ?_));rintro e Bx ⟨rfl, hb⟩;replace hE := hE.trans hb;have Bk := hb.size;refine ⟨_, rfl, pD (.bool false) (.bool false) ?_⟩;refine pK ?_;refine pK ?_;refine pK ?_;refine pD (.bool false) (.bool false) ?_;refine zn (cK [2] (fun L => ?_));refine cw_ret (qw_ret [.bool false] rfl ⟨(by kernel_rfl), trivial⟩ ?_);exact ⟨rb (show Prod.okP x = false by simp [Prod.okP, Bf, Bg]).symm, hE⟩
 ·
  refine pS (sc 79 #[iv x.im, iv 0, iv 999] ((in_r (r := false) x.im 0 999 _ (Bf)).mono ?_));rintro e Bz ⟨rfl, hb⟩;replace hE := hE.trans hb;have Bm := hb.size;refine ⟨_, rfl, pT (.bool false) ?_⟩;refine pK ?_;refine pK ?_;refine pK ?_;refine pD (.bool false) (.bool false) ?_;refine pK ?_;refine pK ?_;refine pK ?_;refine pD (.bool false) (.bool false) ?_;refine zn (cK [2] (fun L => ?_));refine cw_ret (qw_ret [.bool false] rfl ⟨(by kernel_rfl), trivial⟩ ?_);exact ⟨rb (show Prod.okP x = false by simp [Prod.okP, Bf]).symm, hE⟩
theorem right_r {w0 : World} {x : Prod.Pc} {a : Option Addr} {k c : Nat} {r v : Bool} (w : World) (hA : AA w0 a x.rw k v) (e0 : Ext w0 w) (hr : Prod.okP x = r) : Calls Tryz.prog 57 #[.agg #[.int .i64 x.im, .int .i64 x.t, .bool x.cl, .slice a k c]] w fun e w' => e = .returned (.bool r) ∧ Ext w w' := by
 obtain rfl := hA.2.2.2; exact hr ▸ right_c w hA e0
theorem twin_c (im : Int) (w : World) : Calls Tryz.prog 59 #[iv im] w fun e w' => ∃ B, e = .returned (.func (.func 105) #[] #[pw B 0]) ∧ w.heap.size ≤ B ∧ w'.cell? ⟨B, 0, none⟩ = some (iv im) ∧ Ext w w' := by
 refine calls_cw 4 [(0, iv im)] Tryz.func59 rfl Tryz.ntmps59 (by kernel_rfl) (by kernel_rfl) (fun L => ?_);have hE := Ext.refl w;refine zc (zp (pS (sw 3 #[iv im] ?_)));intro O1 X2 hzO1 hyO1 hb hbx;have bO1_0 := bq1 hbx;replace hE := hE.trans hb;have hs3 := hb.size;have lt4 := bO1_0.lt;refine pT (Value.nilFunc) ?_;refine zn (zc (zp (pD (.func (.func 105) #[] #[pw O1 0]) (.func (.func 105) #[] #[pw O1 0]) ?_)));refine zn (cw_ret (qw_ret [.func (.func 105) #[] #[pw O1 0]] rfl ⟨(by kernel_rfl), trivial⟩ ?_));exact ⟨O1, rfl, (Nat.le_of_eq hzO1), bO1_0.1, hE⟩
theorem twin1_c {x : Prod.Pc} {a : Option Addr} {k c B : Nat} {im : Int} (w : World) (cB : w.cell? ⟨B, 0, none⟩ = some (iv im)) : Calls Tryz.prog 105 #[.agg #[iv x.im, iv x.t, .bool x.cl, .slice a k c], pw B 0] w fun e w' => e = .returned (.bool (decide (x.im = im))) ∧ Ext w w' := by
 refine calls_cw 8 [(1, pw B 0), (0, .agg #[iv x.im, iv x.t, .bool x.cl, .slice a k c])] Tryz.func105 rfl Tryz.ntmps105 (by kernel_rfl) (by kernel_rfl) (fun L => ?_);have hE := Ext.refl w;refine zc (zp (pS (sw 49 #[iv x.im, iv x.t, .bool x.cl, .slice a k c] ?_)));intro O1 X2 hzO1 hyO1 hb hbx;have ⟨bO1_0, bO1_1, bO1_2, bO1_3⟩ := bq4 hbx;replace hE := hE.trans hb;have hs3 := hb.size;have lt4 := bO1_0.lt;refine pT (.bool false) ?_;refine pl_nil (qw_then ?_);refine cw_seq ?_;have hX5 := Ext.refl X2;refine zp (pT (pw O1 0) ?_);refine pU (iv x.im) (xl (ld3 (bO1_0.1))) ?_;refine pU (iv im) (xl (ld3 ((hE.cell cB)))) ?_
 by_cases hc6 : (x.im : Int) = (im : Int)
 ·
  refine pU (.bool true) (eE (x.im : Int) (im : Int) (hc6)) ?_;refine pT (.bool true) ?_;refine zn (cw_ret (qw_ret [.bool true] rfl ⟨(by kernel_rfl), trivial⟩ ?_));exact ⟨rb (show decide (x.im = im) = true by simp [hc6]).symm, hE⟩
 ·
  refine pU (.bool false) (eN (x.im : Int) (im : Int) (hc6)) ?_;refine pT (.bool false) ?_;refine zn (cw_ret (qw_ret [.bool false] rfl ⟨(by kernel_rfl), trivial⟩ ?_));exact ⟨rb (show decide (x.im = im) = false by simp [hc6]).symm, hE⟩
theorem twin1_r {x : Prod.Pc} {a : Option Addr} {k c B : Nat} {im : Int} {r : Bool} (w : World) (cB : w.cell? ⟨B, 0, none⟩ = some (.int .i64 im)) (hr : decide (x.im = im) = r) : Calls Tryz.prog 105 #[.agg #[.int .i64 x.im, .int .i64 x.t, .bool x.cl, .slice a k c], .pointer (some ⟨B, 0, none⟩)] w fun e w' => e = .returned (.bool r) ∧ Ext w w' := hr ▸ twin1_c w cB
theorem IndexTwin_c {w0 w1 : World} {a : Option Addr} {n : Nat} {l : List Prod.Pc} {B : Nat} {im : Int} (c : Nat) (w : World) (h : PcsAt w0 a n l) (e0 : Ext w0 w) (cB : w1.cell? ⟨B, 0, none⟩ = some (iv im)) (e1 : Ext w1 w) : Calls Tryz.prog 104 #[.slice a n c, .func (.func 105) #[] #[pw B 0]] w fun e w' => ∃ z : Int, e = .returned (iv z) ∧ (0 ≤ z ↔ Prod.hasIm l im = true) ∧ (-1 ≤ z ∧ z ≤ 140737488355328) ∧ Ext w w' := by
 replace cB := e1.cell cB;replace h := h.ext e0;have hnb := h.max;have hln := h.len;clear e0 e1;refine calls_cw 19 [(1, .func (.func 105) #[] #[pw B 0]), (0, .slice a n c)] Tryz.func104 rfl Tryz.ntmps104 (by kernel_rfl) (by kernel_rfl) (fun L => ?_);have hE := Ext.refl w;refine zc (zp (pT (iv 0) ?_));refine zn (zc (zc (zp (pD (.slice a n c) (iv n) ?_))));refine pT (iv 0) ?_;refine zn (cw_block ?_);refine cw_loop [0, 1, 7, 8] (fun ws' wr m => ∃ i : Nat, ws' = [(0, .slice a n c), (1, .func (.func 105) #[] #[pw B 0]), (7, iv n), (8, iv i)] ∧ m = n - i ∧ w.heap.size ≤ wr.heap.size ∧ Ext w wr ∧ i ≤ n ∧ Prod.hasIm (l.take i) im = false) (ws0 := [(0, .slice a n c), (1, .func (.func 105) #[] #[pw B 0]), (7, iv n), (8, iv 0)]) (by kernel_rfl) _ ⟨0, rfl, rfl, Nat.le_refl _, hE, by omega, rfl⟩ ?_;clear hE;rintro m3 L ws w2 ⟨i, rfl, rfl, Bj, hE, hi, hno⟩
 by_cases hlt : i < n
 ·
  obtain ⟨b4, o5, p, Ba, k7, c8, rfl, Bh, Bb, Bc, Be, Bf, Bi⟩ := h.at hlt;refine zc (zp (pU (.bool true) (ed (((i : Nat) : Int) < ((n : Nat) : Int)) (by omega)) ?_));refine zn (zc (zt ?_));refine cw_skip (zq (zc (cw_block ?_)));refine zc (zp (pD (iv i) (iv i) ?_));refine zn (zc (zp (pD (.func (.func 105) #[] #[pw B 0]) (sv b4 o5 n c) ?_)));refine pT (iv i) ?_;refine pU (pw b4 (o5 + i * 4)) (xi (sv b4 o5 n c) (iv i) (ix30 (k := i) (by omega))) ?_;refine pU (.agg #[iv p.im, iv p.t, .bool p.cl, .slice Ba k7 c8]) (xl (ld49 ((hE.cell Bb)) ((hE.cell Bc)) ((hE.cell Be)) ((hE.cell Bf)))) ?_;rcases Bool.eq_false_or_eq_true (decide (p.im = im)) with B7 | B7
  ·
   refine pS (sc 105 #[.agg #[iv p.im, iv p.t, .bool p.cl, .slice Ba k7 c8], pw B 0] ((twin1_r (x := p) (r := true) _ ((hE.cell cB)) B7).mono ?_));rintro e Bm ⟨rfl, hb⟩;replace hE := hE.trans hb;have Bk := hb.size;refine ⟨_, rfl, ?_⟩;refine zn (zt ?_);refine zc (zp (pD (iv i) (iv i) ?_));refine zn (cK [4] (fun L => ?_));refine cw_ret (qw_block_ret (qw_then_ret (qw_then_ret (qw_block_ret (qw_then_ret (qw_ret [iv i] rfl ⟨(by kernel_rfl), trivial⟩ ?_))))));exact ⟨_, rfl, ⟨fun _ => Prod.hasIm_found Bh (of_decide_eq_true B7), fun _ => by omega⟩, by omega, hE⟩
  ·
   refine pS (sc 105 #[.agg #[iv p.im, iv p.t, .bool p.cl, .slice Ba k7 c8], pw B 0] ((twin1_r (x := p) (r := false) _ ((hE.cell cB)) B7).mono ?_));rintro e Bp ⟨rfl, hb⟩;replace hE := hE.trans hb;have Bg := hb.size;refine ⟨_, rfl, ?_⟩;refine zn (zf ?_);refine cw_skip (qw_block (zq (zp (pU (iv ((i + 1 : Nat) : Int)) (ew (by omega) (by omega)) ?_))));refine pT (iv ((i + 1 : Nat) : Int)) ?_;refine pl_nil (zr [0, 1, 7, 8] _ ?_ ⟨(i + 1), rfl, rfl, (T Bj Bg), hE, by omega, Prod.hasIm_next hno Bh (of_decide_eq_false B7)⟩);omega
 ·
  have hin : i = n := by omega
  refine zc (zp (pU (.bool false) (en (((i : Nat) : Int) < ((n : Nat) : Int)) (by omega)) ?_));refine zn (zc (zf ?_));refine cw_exit (qw_then_exit (qw_then_exit (qw_block_out (zq (zc (zp (pT (iv (-1 : Int)) ?_)))))));refine zn (cw_ret (qw_ret [iv (-1 : Int)] rfl ⟨(by kernel_rfl), trivial⟩ ?_));exact ⟨_, rfl, ⟨fun h => absurd h (by omega), fun h => by rw [hin, List.take_of_length_le (Nat.le_of_eq hln)] at hno; rw [hno] at h; cases h⟩, by omega, hE⟩
theorem ContainsTwin_c {w0 w1 : World} {a : Option Addr} {n : Nat} {l : List Prod.Pc} {B : Nat} {im : Int} (c : Nat) (w : World) (h : PcsAt w0 a n l) (e0 : Ext w0 w) (cB : w1.cell? ⟨B, 0, none⟩ = some (iv im)) (e1 : Ext w1 w) : Calls Tryz.prog 58 #[.slice a n c, .func (.func 105) #[] #[pw B 0]] w fun e w' => e = .returned (.bool (Prod.hasIm l im)) ∧ Ext w w' := by
 refine calls_cw 9 [(1, .func (.func 105) #[] #[pw B 0]), (0, .slice a n c)] Tryz.func58 rfl Tryz.ntmps58 (by kernel_rfl) (by kernel_rfl) (fun L => ?_);have hE := Ext.refl w;refine zc (zp (pT (.bool false) ?_));refine zn (zc (zp (pD (.slice a n c) (.func (.func 105) #[] #[pw B 0]) ?_)));refine pS (sc 104 #[.slice a n c, .func (.func 105) #[] #[pw B 0]] ((IndexTwin_c _ _ h (e0.trans (Ext.refl _)) cB (e1.trans (Ext.refl _))).mono ?_));rintro e w1 ⟨z, rfl, hz, hzb, hb⟩;replace hE := hE.trans hb;have hs2 := hb.size;refine ⟨_, rfl, ?_⟩
 by_cases hc3 : (z : Int) ≥ (0 : Int)
 ·
  refine pU (.bool true) (ed ((z : Int) ≥ (0 : Int)) (hc3)) ?_;refine pT (.bool true) ?_;refine zn (cw_ret (qw_ret [.bool true] rfl ⟨(by kernel_rfl), trivial⟩ ?_));exact ⟨rb ((hz.1 hc3).symm), hE⟩
 ·
  refine pU (.bool false) (en ((z : Int) ≥ (0 : Int)) (hc3)) ?_;refine pT (.bool false) ?_;refine zn (cw_ret (qw_ret [.bool false] rfl ⟨(by kernel_rfl), trivial⟩ ?_));exact ⟨rb (by cases q : Prod.hasIm l im; rfl; exact absurd (hz.2 q) hc3), hE⟩
theorem ContainsTwin_r {w0 w1 : World} {a : Option Addr} {n : Nat} {l : List Prod.Pc} {B : Nat} {im : Int} (c : Nat) (w : World) (h : PcsAt w0 a n l) (e0 : Ext w0 w) (cB : w1.cell? ⟨B, 0, none⟩ = some (.int .i64 im)) (e1 : Ext w1 w) {r : Bool} (hr : Prod.hasIm l im = r) : Calls Tryz.prog 58 #[.slice a n c, .func (.func 105) #[] #[.pointer (some ⟨B, 0, none⟩)]] w fun e w' => e = .returned (.bool r) ∧ Ext w w' := hr ▸ ContainsTwin_c c w h e0 cB e1
end Go.Proofs.YtajdohcgjgknmaaGreatDoor

namespace Go.Proofs.YtajdohcgjgknmaaGreatDoor
open Go.RowKit
end Go.Proofs.YtajdohcgjgknmaaGreatDoor

namespace Go.Proofs.YtajdohcgjgknmaaGreatDoor
open Go.RowKit
set_option maxHeartbeats 1000000 in
theorem mixed_no (fv : Value) (a1 : Option Addr) (l1 : List Int) (n1 c1 : Nat) (v1 : Bool) (a2 : Option Addr) (l2 : List Int) (n2 c2 : Nat) (v2 : Bool) (w : World) (h1 : AA w a1 l1 n1 v1) (h2 : AA w a2 l2 n2 v2) (hv : (v1 && v2) = false) :
  Calls Tryz.prog 48 #[.agg #[.slice a1 n1 c1], .agg #[.slice a2 n2 c2], fv] w (RetErr w 50) := by
 cases v1 <;> cases v2
 all_goals
  (try simp at hv)
  try
   clear hv
   go_enter Tryz.func48, Tryz.ntmps48
   go_wp2_with (go_at_call 50; refine (Valid_e _ _ (by assumption) (by (repeat' (first | (with_reducible assumption) | (with_reducible exact Ext.refl _) | (with_reducible refine Ext.alloc ?_ _) | (with_reducible refine Ext.drew ?_) | (with_reducible refine Ext.drewN ?_ _) | (with_reducible refine Ext.setCell ?_ ?_ _) | (with_reducible refine Ext.trans ?_ (by assumption)) | go_size)))).mono ?_; rintro e w1 ⟨rfl, hb⟩; have hc := hb.cellE; have hf := hb.frozenE; have hz := hb.size; have ha := alloc_keeps w1; (try simp only [World.size_alloc] at hc hf hz); (try simp only [World.size_setCell] at hc hf hz); (try simp only [World.size_drew] at hc hf hz))
   ((try simp only [Exit.inBlock, Exit.then]); refine bodyPost_ret (v := .tuple #[.agg #[.slice none 0 0], .int .i64 50]) (by simp [results, Tryz.results48, go_sem, *]) rfl ?_)
   exact ⟨rfl, by (repeat' (first | (with_reducible assumption) | (with_reducible exact Ext.refl _) | (with_reducible refine Ext.alloc ?_ _) | (with_reducible refine Ext.drew ?_) | (with_reducible refine Ext.drewN ?_ _) | (with_reducible refine Ext.setCell ?_ ?_ _) | (with_reducible refine Ext.trans ?_ (by assumption)) | go_size))⟩
set_option maxHeartbeats 1000000 in
theorem Union_v {w1 w2 : World} {b1 o1 b2 o2 : Nat} (c1 c2 : Nat) {l1 l2 : List Int} (w : World) (h1 : VA w1 b1 o1 l1) (e1 : Ext w1 w) (h2 : VA w2 b2 o2 l2) (e2 : Ext w2 w) :
  Calls Tryz.prog 11 #[.agg #[.slice (some ⟨b1, o1, none⟩) 24 c1], .agg #[.slice (some ⟨b2, o2, none⟩) 24 c2]] w (RetV w (Globe.unionL l1 l2)) := by
 have H1 := Lib.hid (h1.ext e1)
 have H2 := Lib.hid (h2.ext e2)
 have HV := Lib.hid (Globe.union_valid h1.2 h2.2)
 clear e1 e2 h1 h2
 go_enter Tryz.func11, Tryz.ntmps11
 go_wp2_with (go_at_call 48; refine (mixed_Union _ _ _ _ _ _ l1 l2 _ (fun i hi => Ext.cell (by (repeat' (first | (with_reducible assumption) | (with_reducible exact Ext.refl _) | (with_reducible refine Ext.alloc ?_ _) | (with_reducible refine Ext.drew ?_) | (with_reducible refine Ext.drewN ?_ _) | (with_reducible refine Ext.setCell ?_ ?_ _) | (with_reducible refine Ext.trans ?_ (by assumption)) | go_size))) (H1.out.1 i hi)) (fun i hi => Ext.cell (by (repeat' (first | (with_reducible assumption) | (with_reducible exact Ext.refl _) | (with_reducible refine Ext.alloc ?_ _) | (with_reducible refine Ext.drew ?_) | (with_reducible refine Ext.drewN ?_ _) | (with_reducible refine Ext.setCell ?_ ?_ _) | (with_reducible refine Ext.trans ?_ (by assumption)) | go_size))) (H2.out.1 i hi)) H1.out.2 H2.out.2).mono ?_; rintro e w1 ⟨B, rfl, hB, hr, hb⟩; have hc := hb.cellE; have hf := hb.frozenE; have hz := hb.size; have ha := alloc_keeps w1; (try simp only [World.size_alloc] at hc hf hz); (try simp only [World.size_setCell] at hc hf hz); (try simp only [World.size_drew] at hc hf hz))
 ((try simp only [Exit.inBlock, Exit.then]); refine bodyPost_ret (v := .tuple #[.agg #[.slice (some ⟨B, 0, none⟩) 24 24], .int .i64 0]) (by simp [results, Tryz.results11, go_sem, hc]) rfl ?_)
 refine RetAE.v ⟨B, rfl, by first | (simp at hB; omega) | omega, hr.other (by show w.heap.size + 1 + 1 ≠ B; (try simp at hB); omega) _, by (repeat' (first | (with_reducible assumption) | (with_reducible exact Ext.refl _) | (with_reducible refine Ext.alloc ?_ _) | (with_reducible refine Ext.drew ?_) | (with_reducible refine Ext.drewN ?_ _) | (with_reducible refine Ext.setCell ?_ ?_ _) | (with_reducible refine Ext.trans ?_ (by assumption)) | go_size))⟩ HV.out
set_option maxHeartbeats 1000000 in
theorem Meet_v {w1 w2 : World} {b1 o1 b2 o2 : Nat} (c1 c2 : Nat) {l1 l2 : List Int} (w : World) (h1 : VA w1 b1 o1 l1) (e1 : Ext w1 w) (h2 : VA w2 b2 o2 l2) (e2 : Ext w2 w) :
  Calls Tryz.prog 125 #[.agg #[.slice (some ⟨b1, o1, none⟩) 24 c1], .agg #[.slice (some ⟨b2, o2, none⟩) 24 c2]] w (RetV w (Globe.meetL l1 l2)) := by
 have H1 := Lib.hid (h1.ext e1)
 have H2 := Lib.hid (h2.ext e2)
 have HV := Lib.hid (Globe.meet_valid (b := l2) h1.2)
 clear e1 e2 h1 h2
 go_enter Tryz.func125, Tryz.ntmps125
 go_wp2_with (go_at_call 48; refine (mixed_Meet _ _ _ _ _ _ l1 l2 _ (fun i hi => Ext.cell (by (repeat' (first | (with_reducible assumption) | (with_reducible exact Ext.refl _) | (with_reducible refine Ext.alloc ?_ _) | (with_reducible refine Ext.drew ?_) | (with_reducible refine Ext.drewN ?_ _) | (with_reducible refine Ext.setCell ?_ ?_ _) | (with_reducible refine Ext.trans ?_ (by assumption)) | go_size))) (H1.out.1 i hi)) (fun i hi => Ext.cell (by (repeat' (first | (with_reducible assumption) | (with_reducible exact Ext.refl _) | (with_reducible refine Ext.alloc ?_ _) | (with_reducible refine Ext.drew ?_) | (with_reducible refine Ext.drewN ?_ _) | (with_reducible refine Ext.setCell ?_ ?_ _) | (with_reducible refine Ext.trans ?_ (by assumption)) | go_size))) (H2.out.1 i hi)) H1.out.2 H2.out.2).mono ?_; rintro e w1 ⟨B, rfl, hB, hr, hb⟩; have hc := hb.cellE; have hf := hb.frozenE; have hz := hb.size; have ha := alloc_keeps w1; (try simp only [World.size_alloc] at hc hf hz); (try simp only [World.size_setCell] at hc hf hz); (try simp only [World.size_drew] at hc hf hz))
 ((try simp only [Exit.inBlock, Exit.then]); refine bodyPost_ret (v := .tuple #[.agg #[.slice (some ⟨B, 0, none⟩) 24 24], .int .i64 0]) (by simp [results, Tryz.results125, go_sem, hc]) rfl ?_)
 refine RetAE.v ⟨B, rfl, by first | (simp at hB; omega) | omega, hr.other (by show w.heap.size + 1 + 1 ≠ B; (try simp at hB); omega) _, by (repeat' (first | (with_reducible assumption) | (with_reducible exact Ext.refl _) | (with_reducible refine Ext.alloc ?_ _) | (with_reducible refine Ext.drew ?_) | (with_reducible refine Ext.drewN ?_ _) | (with_reducible refine Ext.setCell ?_ ?_ _) | (with_reducible refine Ext.trans ?_ (by assumption)) | go_size))⟩ HV.out
set_option maxHeartbeats 1000000 in
theorem Less_v {w1 w2 : World} {b1 o1 b2 o2 : Nat} (c1 c2 : Nat) {l1 l2 : List Int} (w : World) (h1 : VA w1 b1 o1 l1) (e1 : Ext w1 w) (h2 : VA w2 b2 o2 l2) (e2 : Ext w2 w) :
  Calls Tryz.prog 47 #[.agg #[.slice (some ⟨b1, o1, none⟩) 24 c1], .agg #[.slice (some ⟨b2, o2, none⟩) 24 c2]] w (RetV w (Globe.lessL l1 l2)) := by
 have H1 := Lib.hid (h1.ext e1)
 have H2 := Lib.hid (h2.ext e2)
 have HV := Lib.hid (Globe.less_valid (b := l2) h1.2)
 clear e1 e2 h1 h2
 go_enter Tryz.func47, Tryz.ntmps47
 go_wp2_with (go_at_call 48; refine (mixed_Less _ _ _ _ _ _ l1 l2 _ (fun i hi => Ext.cell (by (repeat' (first | (with_reducible assumption) | (with_reducible exact Ext.refl _) | (with_reducible refine Ext.alloc ?_ _) | (with_reducible refine Ext.drew ?_) | (with_reducible refine Ext.drewN ?_ _) | (with_reducible refine Ext.setCell ?_ ?_ _) | (with_reducible refine Ext.trans ?_ (by assumption)) | go_size))) (H1.out.1 i hi)) (fun i hi => Ext.cell (by (repeat' (first | (with_reducible assumption) | (with_reducible exact Ext.refl _) | (with_reducible refine Ext.alloc ?_ _) | (with_reducible refine Ext.drew ?_) | (with_reducible refine Ext.drewN ?_ _) | (with_reducible refine Ext.setCell ?_ ?_ _) | (with_reducible refine Ext.trans ?_ (by assumption)) | go_size))) (H2.out.1 i hi)) H1.out.2 H2.out.2).mono ?_; rintro e w1 ⟨B, rfl, hB, hr, hb⟩; have hc := hb.cellE; have hf := hb.frozenE; have hz := hb.size; have ha := alloc_keeps w1; (try simp only [World.size_alloc] at hc hf hz); (try simp only [World.size_setCell] at hc hf hz); (try simp only [World.size_drew] at hc hf hz))
 ((try simp only [Exit.inBlock, Exit.then]); refine bodyPost_ret (v := .tuple #[.agg #[.slice (some ⟨B, 0, none⟩) 24 24], .int .i64 0]) (by simp [results, Tryz.results47, go_sem, hc]) rfl ?_)
 refine RetAE.v ⟨B, rfl, by first | (simp at hB; omega) | omega, hr.other (by show w.heap.size + 1 + 1 ≠ B; (try simp at hB); omega) _, by (repeat' (first | (with_reducible assumption) | (with_reducible exact Ext.refl _) | (with_reducible refine Ext.alloc ?_ _) | (with_reducible refine Ext.drew ?_) | (with_reducible refine Ext.drewN ?_ _) | (with_reducible refine Ext.setCell ?_ ?_ _) | (with_reducible refine Ext.trans ?_ (by assumption)) | go_size))⟩ HV.out
set_option maxHeartbeats 1000000 in
theorem Less_n (a1 : Option Addr) (l1 : List Int) (n1 c1 : Nat) (v1 : Bool) (a2 : Option Addr) (l2 : List Int) (n2 c2 : Nat) (v2 : Bool) (w : World) (h1 : AA w a1 l1 n1 v1) (h2 : AA w a2 l2 n2 v2) (hv : (v1 && v2) = false) :
  Calls Tryz.prog 47 #[.agg #[.slice a1 n1 c1], .agg #[.slice a2 n2 c2]] w (RetErr w 50) := by
 go_enter Tryz.func47, Tryz.ntmps47
 go_wp2_with (go_at_call 48; refine (mixed_no _ _ l1 _ _ v1 _ l2 _ _ v2 _ (h1.ext (by (repeat' (first | (with_reducible assumption) | (with_reducible exact Ext.refl _) | (with_reducible refine Ext.alloc ?_ _) | (with_reducible refine Ext.drew ?_) | (with_reducible refine Ext.drewN ?_ _) | (with_reducible refine Ext.setCell ?_ ?_ _) | (with_reducible refine Ext.trans ?_ (by assumption)) | go_size)))) (h2.ext (by (repeat' (first | (with_reducible assumption) | (with_reducible exact Ext.refl _) | (with_reducible refine Ext.alloc ?_ _) | (with_reducible refine Ext.drew ?_) | (with_reducible refine Ext.drewN ?_ _) | (with_reducible refine Ext.setCell ?_ ?_ _) | (with_reducible refine Ext.trans ?_ (by assumption)) | go_size)))) hv).mono ?_; rintro e w1 ⟨rfl, hb⟩; have hc := hb.cellE; have hf := hb.frozenE; have hz := hb.size; have ha := alloc_keeps w1; (try simp only [World.size_alloc] at hc hf hz); (try simp only [World.size_setCell] at hc hf hz); (try simp only [World.size_drew] at hc hf hz))
 ((try simp only [Exit.inBlock, Exit.then]); refine bodyPost_ret (v := .tuple #[.agg #[.slice none 0 0], .int .i64 50]) (by simp [results, Tryz.results47, go_sem, hc]) rfl ?_)
 exact ⟨rfl, by (repeat' (first | (with_reducible assumption) | (with_reducible exact Ext.refl _) | (with_reducible refine Ext.alloc ?_ _) | (with_reducible refine Ext.drew ?_) | (with_reducible refine Ext.drewN ?_ _) | (with_reducible refine Ext.setCell ?_ ?_ _) | (with_reducible refine Ext.trans ?_ (by assumption)) | go_size))⟩
def modN (k : Int) : Nat := (k % 48).toNat
theorem modN_go (k : Int) : k.tmod 48 % 48 = (modN k : Int) ∧ -47 ≤ k.tmod 48 ∧ k.tmod 48 ≤ 47 := by
  unfold modN
  by_cases h : 0 ≤ k
  · rw [Int.tmod_eq_emod_of_nonneg h]; omega
  · obtain ⟨m, rfl⟩ : ∃ m : Int, k = -m := ⟨-k, by omega⟩
    rw [Int.neg_tmod, Int.tmod_eq_emod_of_nonneg (by omega)]; omega
end Go.Proofs.YtajdohcgjgknmaaGreatDoor

namespace Go.Proofs.YtajdohcgjgknmaaGreatDoor
set_option maxRecDepth 1000000
set_option maxHeartbeats 4000000
set_option synthInstance.maxHeartbeats 0
set_option synthInstance.maxSize 9999
open Go.RowKit
theorem va_of {w : World} {a : Option Addr} {l : List Int} {n : Nat} {v : Bool} (h : AA w a l n v) (hv : Globe.validL l = true) : ∃ b o, a = some ⟨b, o, none⟩ ∧ n = 24 ∧ VA w b o l := by
 have e : v = true := by rw [← h.2.2.2, hv]
 subst e
 exact h.va
theorem lessP_v {w1 w2 : World} {b1 o1 b2 o2 : Nat} (c1 c2 : Nat) {l1 l2 : List Int} (w : World) (h1 : VA w1 b1 o1 l1) (e1 : Ext w1 w) (h2 : VA w2 b2 o2 l2) (e2 : Ext w2 w) : Calls Tryz.prog 64 #[.agg #[sv b1 o1 24 c1], .agg #[sv b2 o2 24 c2]] w fun e w' => ∃ B k : Nat, e = .returned (.agg #[sv B 0 24 k]) ∧ w.heap.size ≤ B ∧ VA w' B 0 (Globe.lessL l1 l2) ∧ Ext w w' := by
 replace h1 := h1.ext e1;replace h2 := h2.ext e2;clear e1 e2;have Ci := h1.lt;have Cj := h2.lt;refine calls_cw 14 [(1, .agg #[sv b2 o2 24 c2]), (0, .agg #[sv b1 o1 24 c1])] Tryz.func64 rfl Tryz.ntmps64 (by kernel_rfl) (by kernel_rfl) (fun L => ?_);have hE := Ext.refl w;refine zc (zp (pS (sw 33 #[sv b1 o1 24 c1] ?_)));intro O1 X2 Cd Ca hb hbx;have Bb := bq1 hbx;replace hE := hE.trans hb;have Bx := hb.size;have Cg := Bb.lt;refine pS (sw 33 #[sv b2 o2 24 c2] ?_);intro O5 X6 Ce Cb hb hbx;have Be := bq1 hbx;refine mv2 hb hE Bb fun hE Bb=>?_;have Bw := hb.size;have Ch := Be.lt;refine pS (sw 33 #[.slice none 0 0] ?_);intro O9 C1 Bq Cc hb hbx;have Bk := bq1 hbx;refine mv3 hb hE Bb Be fun hE Bb Be=>?_;have Bt := hb.size;have Bv := Bk.lt;refine pl_nil (qw_then ?_);refine cw_seq ?_;have Bc := Ext.refl C1;refine zp (pU (.agg #[sv b1 o1 24 c1]) (xl (ld33 (Bb.1))) ?_);refine pU (.agg #[sv b2 o2 24 c2]) (xl (ld33 (Be.1))) ?_;refine pS (sc 47 #[.agg #[sv b1 o1 24 c1], .agg #[sv b2 o2 24 c2]] ((Less_v _ _ _ h1 hE h2 hE).mono ?_));rintro e Ck ⟨Bj, Bm, rfl, Br, -, Bf, hb⟩;refine mv2 hb hE Bc fun hE Bc=>?_;have Bp := hb.size;have Bz := Bf.lt;refine ⟨_, rfl, pD (.tuple #[.agg #[sv Bj 0 24 Bm], iv 0]) (.agg #[sv Bj 0 24 Bm]) ?_⟩;refine pT (iv 0) ?_;refine pS (sw 33 #[.slice none 0 0] ?_);intro C0 C4 Bi C3 hb hbx;have B7 := bq1 hbx;refine mv3 hb hE Bc Bf fun hE Bc Bf=>?_;have C6 := hb.size;have Cf := B7.lt;refine pP (zF C0 0 (sv Bj 0 24 Bm) (st33 B7.1 B7.2) B7 ?_);intro C2 ho B7 hk;replace hE := ho.ext hE (T (T Bx (T Bw (T Bt Bp))) (Nat.le_of_eq Bi));replace Bc := ho.ext Bc (T Bp (Nat.le_of_eq Bi));replace Bf := ho.va (Nat.ne_of_gt (Nat.lt_of_lt_of_le Bz (Nat.le_of_eq Bi))) Bf;have C8 := Nat.le_of_eq ho.size.symm;clear ho hk;refine pT (iv 0) ?_;refine zn (zc (zp (pU (.agg #[sv Bj 0 24 Bm]) (xl (ld33 (B7.1))) ?_)));have Bg := (Bb.x Bc);have Bh := (Be.x Bc);have Ba := (Bk.x Bc);refine pP (zF O9 0 (sv Bj 0 24 Bm) (st33 Ba.1 Ba.2) Ba ?_);intro C5 ho Ba hk;replace hE := ho.ext hE (T (T Bx Bw) (Nat.le_of_eq Bq));replace Bf := ho.va (Nat.ne_of_lt (Nat.lt_of_lt_of_le Bv Br)) Bf;have C9 := Nat.le_of_eq ho.size.symm;clear ho hk;refine zn (cw_ret (qw_ret [.agg #[sv Bj 0 24 Bm]] rfl ⟨⟨_, by kernel_rfl, res_ld (ld33 (Ba.1))⟩, trivial⟩ ?_));exact ⟨Bj, _, rfl, (T (T Bx (T Bw Bt)) Br), Bf, hE⟩
theorem Missing1_v {w1 w2 : World} {b1 o1 b2 o2 : Nat} (c1 c2 : Nat) {l1 l2 : List Int} (w : World) (h1 : VA w1 b1 o1 l1) (e1 : Ext w1 w) (h2 : VA w2 b2 o2 l2) (e2 : Ext w2 w) {x : Prod.Pc} : Calls Tryz.prog 63 #[.agg #[sv b1 o1 24 c1], .agg #[iv x.im, iv x.t, .bool x.cl, sv b2 o2 24 c2]] w fun e w' => ∃ B k : Nat, e = .returned (.agg #[sv B 0 24 k]) ∧ w.heap.size ≤ B ∧ VA w' B 0 (Globe.lessL l1 l2) ∧ Ext w w' := by
 replace h1 := h1.ext e1;replace h2 := h2.ext e2;clear e1 e2;have Cg := h1.lt;have Ch := h2.lt;refine calls_cw 9 [(1, .agg #[iv x.im, iv x.t, .bool x.cl, sv b2 o2 24 c2]), (0, .agg #[sv b1 o1 24 c1])] Tryz.func63 rfl Tryz.ntmps63 (by kernel_rfl) (by kernel_rfl) (fun L => ?_);have hE := Ext.refl w;refine zc (zp (pS (sw 33 #[sv b1 o1 24 c1] ?_)));intro O1 X2 Ca C6 hb hbx;have Ba := bq1 hbx;replace hE := hE.trans hb;have C1 := hb.size;have Cd := Ba.lt;refine pS (sw 49 #[iv x.im, iv x.t, .bool x.cl, sv b2 o2 24 c2] ?_);intro O5 X6 Cb C8 hb hbx;have ⟨Be, Bk, Bm, Bf⟩ := bq4 hbx;refine mv2 hb hE Ba fun hE Ba=>?_;have Bw := hb.size;have Ce := Be.lt;refine pS (sw 33 #[.slice none 0 0] ?_);intro O9 C0 Br C9 hb hbx;have Bq := bq1 hbx;refine mv6 hb hE Ba Be Bk Bm Bf fun hE Ba Be Bk Bm Bf=>?_;have Bv := hb.size;have Bz := Bq.lt;refine pl_nil (qw_then ?_);refine cw_seq ?_;have Bb := Ext.refl C0;refine zp (pU (.agg #[sv b1 o1 24 c1]) (xl (ld33 (Ba.1))) ?_);refine pT (pw O5 3) ?_;refine pU (.agg #[sv b2 o2 24 c2]) (xl (ld33 (Bf.1))) ?_;refine pS (sc 64 #[.agg #[sv b1 o1 24 c1], .agg #[sv b2 o2 24 c2]] ((lessP_v _ _ _ h1 hE h2 hE).mono ?_));rintro e Cf ⟨Bu, Bx, rfl, Bt, Bp, hb⟩;refine mv2 hb hE Bb fun hE Bb=>?_;have C4 := hb.size;have Cc := Bp.lt;refine ⟨_, rfl, ?_⟩;have Bc := (Ba.x Bb);have Bg := (Be.x Bb);have Bh := (Bk.x Bb);have Bi := (Bm.x Bb);have Bj := (Bf.x Bb);have B7 := (Bq.x Bb);refine pP (zF O9 0 (sv Bu 0 24 Bx) (st33 B7.1 B7.2) B7 ?_);intro C3 ho B7 hk;replace hE := ho.ext hE (T (T C1 Bw) (Nat.le_of_eq Br));have q9 := ho.bx O5 (Nat.ne_of_gt (Nat.lt_of_lt_of_le Ce (Nat.le_of_eq Br)));clear q9;replace Bp := ho.va (Nat.ne_of_lt (Nat.lt_of_lt_of_le Bz Bt)) Bp;have C5 := Nat.le_of_eq ho.size.symm;clear ho hk;refine zn (cw_ret (qw_ret [.agg #[sv Bu 0 24 Bx]] rfl ⟨⟨_, by kernel_rfl, res_ld (ld33 (B7.1))⟩, trivial⟩ ?_));exact ⟨Bu, _, rfl, (T (T C1 (T Bw Bv)) Bt), Bp, hE⟩
theorem foldM_v {w1 w2 : World} {a : Option Addr} {n : Nat} {l : List Prod.Pc} {b o : Nat} {r : List Int} (c k : Nat) (w : World) (h : PcsAt w1 a n l) (e1 : Ext w1 w) (hv : VA w2 b o r) (e2 : Ext w2 w) (hok : ∀ p ∈ l, Globe.validL p.rw = true) : Calls Tryz.prog 62 #[.slice a n c, .agg #[sv b o 24 k], .func (.func 63) #[] #[]] w fun e w' => ∃ B o' k' : Nat, e = .returned (.agg #[sv B o' 24 k']) ∧ VA w' B o' (Prod.rest r l) ∧ (B = b ∨ w.heap.size ≤ B) ∧ Ext w w' := by
 replace h := h.ext e1;replace hv := hv.ext e2;have hnb := h.max;have hln := h.len;have ltb := hv.lt;clear e1 e2;refine calls_cw 21 [(2, .func (.func 63) #[] #[]), (1, .agg #[sv b o 24 k]), (0, .slice a n c)] Tryz.func62 rfl Tryz.ntmps62 (by kernel_rfl) (by kernel_rfl) (fun L => ?_);have hE := Ext.refl w;refine zc (zp (pS (sw 33 #[sv b o 24 k] ?_)));intro O1 X2 C1 Ct hb hbx;have Bf := bq1 hbx;refine mv2 hb hE hv fun hE hv=>?_;have C3 := hb.size;have Bt := Bf.lt;refine pS (sw 33 #[.slice none 0 0] ?_);intro O5 X6 Bp Cu hb hbx;have B7 := bq1 hbx;refine mv3 hb hE hv Bf fun hE hv Bf=>?_;have Br := hb.size;have Cm := B7.lt;refine zn (zc (zc (zp (pD (.slice a n c) (iv n) ?_))));refine pT (iv 0) ?_;refine zn (cw_block ?_);refine cw_loop [2, 4, 6, 9, 10, 11] (fun ws' wr m => ∃ i BB : Nat, ∃ oB kB : Nat, ws' = [(2, .func (.func 63) #[] #[]), (4, pw O1 0), (6, pw O5 0), (9, .slice a n c), (10, iv n), (11, iv i)] ∧ m = n - i ∧ X6.heap.size ≤ wr.heap.size ∧ Ext w wr ∧ BoxAt wr O5 0 (.slice none 0 0) ∧ BoxAt wr O1 0 (sv BB oB 24 kB) ∧ VA wr BB oB (Prod.rest r (l.take i)) ∧ i ≤ n ∧ (BB = b ∨ w.heap.size ≤ BB) ∧ Hid (O1 ≠ BB) ∧ Hid (O5 ≠ BB)) (ws0 := [(2, .func (.func 63) #[] #[]), (4, pw O1 0), (6, pw O5 0), (9, .slice a n c), (10, iv n), (11, iv 0)]) (by kernel_rfl) _ ⟨0, b, o, k, rfl, rfl, Nat.le_refl _, hE, B7, Bf, hv, by omega, .inl rfl, Lib.hid (Nat.ne_of_gt (Nat.lt_of_lt_of_le ltb (Nat.le_of_eq C1))), Lib.hid (Nat.ne_of_gt (Nat.lt_of_lt_of_le ltb (T C3 (Nat.le_of_eq Bp))))⟩ ?_;clear hv Bf B7 hE;rintro D1 L ws Cy ⟨i, BB, oB, kB, rfl, rfl, Bk, hE, B7, b4, vB, hi, hor, Bx, Bz⟩;have Cg := vB.lt
 by_cases hlt : i < n
 ·
  obtain ⟨C6, Ch, p, Cr, D0, Bv, rfl, C0, C9, Ca, Cb, Cc, C8⟩ := h.at hlt;obtain ⟨Bu, C2, rfl, rfl, Bw⟩ := va_of C8 (hok p (List.mem_of_getElem? C0));have Cv := Bw.lt;have hrs : Prod.rest r (l.take (i + 1)) = Globe.lessL (Prod.rest r (l.take i)) p.rw := by rw [List.take_add_one, C0];exact Prod.rest_snoc _ _ _
  refine zc (zp (pU (.bool true) (ed (((i : Nat) : Int) < ((n : Nat) : Int)) (by omega)) ?_));refine zn (zc (zt ?_));refine cw_skip (zq (zc (cw_block ?_)));refine zc (zp (pU (pw C6 (Ch + i * 4)) (xi (sv C6 Ch n c) (iv i) (ix30 (k := i) (by omega))) ?_));refine pU (.agg #[iv p.im, iv p.t, .bool p.cl, sv Bu C2 24 Bv]) (xl (ld49 ((hE.cell C9)) ((hE.cell Ca)) ((hE.cell Cb)) ((hE.cell Cc)))) ?_;refine pS (sw 49 #[iv 0, iv 0, .bool false, .slice none 0 0] ?_);intro C5 Cn Bg Cl hb hbx;have ⟨Ba, Bb, Bc, Be⟩ := bq4 hbx;refine mv4 hb hE B7 b4 vB fun hE B7 b4 vB=>?_;have Bh := hb.size;have Cw := Ba.lt;refine pP (zG C5 (iv p.im) (iv p.t) (.bool p.cl) (sv Bu C2 24 Bv) (st49 Ba.1 Ba.2 Bb.1 Bb.2 Bc.1 Bc.2 Be.1 Be.2) Ba Bb Bc Be ?_);intro Co ho Ba Bb Bc Be hk;replace hE := ho.ext hE (T (T C3 (T Br Bk)) (Nat.le_of_eq Bg));replace B7 := ho.box (Nat.ne_of_gt (Nat.lt_of_lt_of_le Cm (T Bk (Nat.le_of_eq Bg)))) B7;replace b4 := ho.box (Nat.ne_of_gt (Nat.lt_of_lt_of_le Bt (T (T Br Bk) (Nat.le_of_eq Bg)))) b4;replace vB := ho.va (Nat.ne_of_gt (Nat.lt_of_lt_of_le Cg (Nat.le_of_eq Bg))) vB;have Bi := Nat.le_of_eq ho.size.symm;clear ho hk;refine zn (zp (pT (.func (.func 63) #[] #[]) ?_));refine pU (.agg #[sv BB oB 24 kB]) (xl (ld33 (b4.1))) ?_;refine pU (.agg #[iv p.im, iv p.t, .bool p.cl, sv Bu C2 24 Bv]) (xl (ld49 (Ba.1) (Bb.1) (Bc.1) (Be.1))) ?_;refine pS (sc 63 #[.agg #[sv BB oB 24 kB], .agg #[iv p.im, iv p.t, .bool p.cl, sv Bu C2 24 Bv]] ((Missing1_v (x := p) _ _ _ vB (Ext.refl _) Bw hE).mono ?_));rintro e Cz ⟨C4, Cf, rfl, Bj, Bm, hb⟩;refine mv4 hb hE B7 b4 vB fun hE B7 b4 vB=>?_;have Cd := hb.size;have Cx := Bm.lt;refine ⟨_, rfl, pP (zF O1 0 (sv C4 0 24 Cf) (st33 b4.1 b4.2) b4 ?_)⟩;intro Cp ho b4 hk;replace hE := ho.ext hE (Nat.le_of_eq C1);replace B7 := ho.box (Nat.ne_of_lt (Nat.lt_of_lt_of_le Bt (Nat.le_of_eq Bp))) B7;replace vB := ho.va Bx.out vB;have q9 := ho.bx C5 (Nat.ne_of_lt (Nat.lt_of_lt_of_le Bt (T (T Br Bk) (Nat.le_of_eq Bg))));clear q9;replace Bm := ho.va (Nat.ne_of_lt (Nat.lt_of_lt_of_le Bt (T (T Br (T Bk (T Bh Bi))) Bj))) Bm;have Ce := Nat.le_of_eq ho.size.symm;clear ho hk;refine pl_nil (qw_block (zq (zp (pU (iv ((i + 1 : Nat) : Int)) (ew (by omega) (by omega)) ?_))));refine pT (iv ((i + 1 : Nat) : Int)) ?_;refine pl_nil (qw_round [2, 4, 6, 9, 10, 11] (ws' := [(2, .func (.func 63) #[] #[]), (4, pw O1 0), (6, pw O5 0), (9, sv C6 Ch n c), (10, iv n), (11, iv ((i + 1 : Nat) : Int))]) (by kernel_rfl) _ ?_ ⟨(i + 1), C4, 0, Cf, rfl, rfl, (T Bk (T Bh (T Bi (T Cd Ce)))), hE, B7, b4, (by rw [hrs]; exact Bm), by omega, .inr (T (T C3 (T Br (T Bk (T Bh Bi)))) Bj), Lib.hid (Nat.ne_of_lt (Nat.lt_of_lt_of_le Bt (T (T Br (T Bk (T Bh Bi))) Bj))), Lib.hid (Nat.ne_of_lt (Nat.lt_of_lt_of_le Cm (T (T Bk (T Bh Bi)) Bj)))⟩);omega
 ·
  have hin : i = n := by omega
  rw [hin, List.take_of_length_le (Nat.le_of_eq hln)] at vB;refine zc (zp (pU (.bool false) (en (((i : Nat) : Int) < ((n : Nat) : Int)) (by omega)) ?_));refine zn (zc (zf ?_));refine cw_exit (qw_then_exit (qw_then_exit (qw_block_out (zq (zc (zp (pU (.agg #[sv BB oB 24 kB]) (xl (ld33 (b4.1))) ?_)))))));refine pP (zF O5 0 (sv BB oB 24 kB) (st33 B7.1 B7.2) B7 ?_);intro Cq ho B7 hk;replace hE := ho.ext hE (T C3 (Nat.le_of_eq Bp));replace vB := ho.va Bz.out vB;have Cs := Nat.le_of_eq ho.size.symm;clear ho hk;refine zn (cw_ret (qw_ret [.agg #[sv BB oB 24 kB]] rfl ⟨⟨_, by kernel_rfl, res_ld (ld33 (B7.1))⟩, trivial⟩ ?_));exact ⟨_, _, _, rfl, vB, hor, hE⟩
end Go.Proofs.YtajdohcgjgknmaaGreatDoor

namespace Go.Proofs.YtajdohcgjgknmaaGreatDoor
open Go.RowKit Go.Shelf
attribute [local go_sem] Oper.semAt_some
def Tab (w : World) : Prop := 1 < w.heap.size ∧ ∀ j, j < 64 → w.cell? ⟨1, j, none⟩ = some (.int .u8 (Lib.deBruijn64tab.getD j 0))
theorem Tab.ext {w w' : World} (h : Tab w) (hE : Ext w w') : Tab w' := ⟨Nat.lt_of_lt_of_le h.1 hE.size, fun j hj => hE.cell (h.2 j hj)⟩
theorem tz_neg (x : Nat) (h0 : x ≠ 0) (hx : x < 18446744073709551616) : IntKind.u64.wrap (-(x : Int)) = ((18446744073709551616 - x : Nat) : Int) := by rw [IntKind.wrap_u64]; omega
theorem tz_key (x a : Nat) (h0 : x ≠ 0) (hx : x < 18446744073709551616) (hlow : x &&& (18446744073709551616 - x) = a) :
  IntKind.u64.wrap (bits BinOp.and IntKind.u64 (x : Int) (IntKind.u64.wrap (-(x : Int))) * 285870213051353865) / 288230376151711744 = ((a * 285870213051353865 % 18446744073709551616 / 288230376151711744 : Nat) : Int) := by
 rw [tz_neg x h0 hx, bits_and_u64_nat x _ hx (by omega), hlow, IntKind.wrap_u64]
 omega
set_option maxHeartbeats 1000000 in
theorem tz64_core (x k idx : Nat) (w : World) (hx0 : ((x : Int) == 0) = false)
  (key : IntKind.u64.wrap (bits BinOp.and IntKind.u64 (x : Int) (IntKind.u64.wrap (-(x : Int))) * 285870213051353865) / 288230376151711744 = (idx : Int))
  (hi : idx < 64) (hk : k < 64) (hcell : w.cell? ⟨1, idx, none⟩ = some (.int .u8 k)) :
  Calls Tryz.prog 134 #[.int .u64 x] w fun e w' => e = .returned (.int .i64 k) ∧ w = w' := by
 go_enter Tryz.func134, Tryz.ntmps134
 go_wp2_with (simp only [key])
 go_ret
 exact ⟨rfl, rfl⟩
theorem TrailingZeros64_c (R : Nat) (w : World) (h0 : R ≠ 0) (h : R < 281474976710656) (hT : Tab w) :
  Calls Tryz.prog 134 #[.int .u64 (R : Int)] w fun e w' => e = .returned (.int .i64 (Lib.ctz 64 R : Nat)) ∧ w = w' := by
 obtain ⟨hlow, hk⟩ := Lib.lowest_bit 64 R h0 (by omega)
 obtain ⟨hi, htab⟩ := Lib.deBruijn64_at _ hk
 have hcell := hT.2 _ hi
 rw [htab] at hcell
 exact tz64_core R _ _ w (by simp; omega) (tz_key R _ h0 (by omega) hlow) hi hk hcell
theorem TrailingZeros_c (R : Nat) (w : World) (h0 : R ≠ 0) (h : R < 281474976710656) (hT : Tab w) :
  Calls Tryz.prog 110 #[.int .u64 (R : Int)] w fun e w' => e = .returned (.int .i64 (Lib.ctz 64 R : Nat)) ∧ w = w' := by
 go_enter Tryz.func110, Tryz.ntmps110
 go_wp2_with (go_at_call 134; refine (TrailingZeros64_c _ _ h0 h hT).mono ?_; rintro e w' ⟨rfl, rfl⟩)
 go_ret
 exact ⟨rfl, rfl⟩
end Go.Proofs.YtajdohcgjgknmaaGreatDoor

namespace Go.Proofs.YtajdohcgjgknmaaGreatDoor
open Go.RowKit Go.Shelf
attribute [local go_sem] Oper.semAt_some
theorem Tab.keep {n₀ : Nat} {X : Nat → Prop} {w w' : World} (h : Tab w) (hn : 1 < n₀) (hx : ¬ X 1) (hb : KeepX n₀ X w w') : Tab w' :=
 ⟨Nat.lt_of_lt_of_le h.1 hb.size, fun j hj => (hb.cell hn hx).trans (h.2 j hj)⟩
theorem cells_c (a : Option Addr) (k c : Nat) (w : World) : Calls Tryz.prog 70 #[.agg #[.slice a k c]] w fun e w' => e = .returned (.func (.func 109) #[] #[.pointer (some ⟨w.heap.size, 0, none⟩)]) ∧ w.alloc (.cells #[.slice a k c] 33) = w' := by
 go_enter Tryz.func70, Tryz.ntmps70
 go_wp2
 go_ret
 exact ⟨rfl, rfl⟩
def encCell (p : Nat × Nat) : Array Value := #[.agg #[.int .i64 p.1, .int .i64 p.2]]
theorem and_pred_i64 (R : Nat) (h0 : 0 < R) (h : R < 281474976710656) : bits .and .i64 (R : Int) ((R : Int) - 1) = ((R &&& (R - 1) : Nat) : Int) := by
 rw [show ((R : Int) - 1) = ((R - 1 : Nat) : Int) by omega]
 exact (bits_nat .i64 62 (by decide) (fun n h1 h2 => by rw [IntKind.wrap_i64]; omega) R (R - 1) (by omega) (by omega)).1
set_option maxHeartbeats 2000000 in
theorem cells_stops (n : Nat) (Bn b off c n₀ : Nat) (X : Nat → Prop) (l : List Int) (w : World) (hl : Globe.validL l = true) (hB : Bn < n₀) (hBX : ¬ X Bn) (hb : b < n₀) (hbX : ¬ X b) (hg : 1 < n₀) (hgX : ¬ X 1) (hn : n₀ ≤ w.heap.size)
    (hBn : w.cell? ⟨Bn, 0, none⟩ = some (.slice (some ⟨b, off, none⟩) 24 c)) (hr : ∀ i, i < 24 → w.cell? ⟨b, off + i, none⟩ = some (.int .i64 (Globe.nth l i))) (hT : Tab w) :
    SeqStopsK Fence.wide n Tryz.prog 109 #[.pointer (some ⟨Bn, 0, none⟩)] encCell (KeepX n₀ X) (fun xs => xs = Globe.cellsTo l 24) (fun pre => pre <+: Globe.cellsTo l 24) (Globe.cellsTo l 24).length w := by
  intro ll J Jx W hW hJ hJx hY Bc
  obtain ⟨hlen, hrow⟩ := Globe.validL_t.1 hl
  have hW' : KeepX n₀ X w W := KeepX.of_below (hW.mono hn)
  refine callsIn_of_wp Tryz.func109 rfl trivial ?_ rfl
  simp only [Tryz.ntmps109, List.size_toArray, List.length_cons, List.length_nil, Nat.reduceAdd, Nat.reduceSub, Array.replicate_succ, Array.replicate_zero, List.push_toArray, List.append_toArray, List.nil_append, List.cons_append]
  have hBW : W.cell? ⟨Bn, 0, none⟩ = some (.slice (some ⟨b, off, none⟩) 24 c) := (hW'.cell hB hBX).trans hBn
  have Hr : Hid (∀ i, i < 24 → W.cell? ⟨b, off + i, none⟩ = some (.int .i64 (Globe.nth l i))) := fun i hi => (hW'.cell hb hbX).trans (hr i hi)
  have HT := Lib.hid (hT.keep hg hgX hW')
  have HY := Lib.hid hY
  have Hrow := Lib.hid hrow
  clear hBn hr hT hY hrow hl
  gi_wp2
  gi_loopw [9] (fun p wr => ∃ y : Nat, y ≤ 24 ∧ p = .int .i64 y ∧ J (Globe.cellsTo l y) wr ∧ KeepX n₀ X W wr) (fun p _ => 24 - (intOf p).toNat)
  case atStart => exact ⟨0, by omega, rfl, Bc, KeepX.refl _ _ _⟩
  case round =>
    obtain ⟨y, hy, rfl, hJy, hbw⟩ := hrel
    clear Bc hBW
    by_cases hlt : y < 24
    · have hc : wr.cell? ⟨b, off + y, none⟩ = some (.int .i64 (Globe.nth l y)) := (hbw.cell hb hbX).trans (Hr.out y hlt)
      obtain ⟨Bm, Bp⟩ := Hrow.out _ (Globe.nth_mem (l := l) (i := y) (by omega))
      have Br : (0 : Int) ≤ (y : Int) := by omega
      have hdy : decide ((y : Int) < 24) = true := by simp; omega
      gi_wp2
      obtain ⟨R0, B7⟩ : ∃ R0 : Nat, Globe.nth l y = (R0 : Int) := ⟨(Globe.nth l y).toNat, by omega⟩
      have Bb := Lib.hid B7
      rw [B7]
      clear B7 hc
      obtain ⟨wo, rfl⟩ : ∃ wo : World, wo = wr := ⟨_, rfl⟩
      gi_loopw [4] (fun p wr => ∃ (R : Nat) (done : List (Nat × Nat)), R < 281474976710656 ∧ p = .int .i64 R ∧ Hid (done ++ (Globe.bitsN R).map (fun x => (x, y)) = Globe.rowCells l y) ∧ J (Globe.cellsTo l y ++ done) wr ∧ KeepX n₀ X W wr) (fun p _ => (intOf p).toNat)
      case atStart => exact ⟨R0, [], by have := Bb.out; omega, rfl, by show _ = _; rw [Globe.rowCells, Bb.out]; rfl, by simpa using hJy, hbw⟩
      case round =>
        obtain ⟨R, done, hR, rfl, Hd, hJd, hbd⟩ := hrel
        by_cases hz : R = 0
        · subst hz
          gi_wp2
          go_roundw
          case rel => exact ⟨y + 1, by omega, by go_num, by rw [Globe.cellsTo_succ, ← Hd.out]; simpa [Globe.bitsN_zero] using hJd, hbd⟩
          case measure => simp [intOf]; omega
        · have Bt : ((R : Int) != 0) = true := by simp; omega
          have hTr := HT.out.keep hg hgX hbd
          have hst := Globe.bitsN_step R hz hR
          have hd := Hd.out
          rw [hst, List.map_cons] at hd
          obtain ⟨Be, Bf⟩ := Globe.cells_mid (by omega) hd
          obtain ⟨fn, tmps, assign, body, hyy, hRd⟩ := HY.out (Globe.cellsTo l y ++ done) (Lib.ctz 64 R, y) wr hJd Be
          dsimp only [encCell] at hyy
          have Bg := Lib.hid hd; clear hd Be hst
          have Bh := Lib.hid Bf; clear Bf
          have hand := and_pred_i64 R (by omega) hR
          have Bj := Globe.and_pred_lt R hR
          have Bq := Globe.and_pred_less R hz
          gi_wp2_with (refine ⟨trivial, wide_depth, ?_⟩; gi_at_call 110; refine (callsIn_wide.2 (TrailingZeros_c R _ hz hR hTr)).mono ?_; rintro e w' ⟨rfl, rfl⟩)
          refine ⟨wide_depth, hRd.mono ?_⟩
          rintro e W3 (⟨rfl, Bi, Bk⟩ | ⟨rfl, Ba⟩)
          · gi_wp2
            go_roundw
            case rel => exact ⟨R &&& (R - 1), done ++ [(Lib.ctz 64 R, y)], Bj, rfl, by show _ = _; rw [List.append_assoc]; exact Bg.out, by rw [← List.append_assoc]; exact Bi, hbd.trans Bk⟩
            case measure => simp [intOf]; omega
          · gi_wp2
            refine bodyPost_ret (results_none rfl _ _ _) rfl ?_
            exact ⟨⟨_, rfl⟩, .inr ⟨_, Bh.out, Ba⟩⟩
    · obtain rfl : y = 24 := by omega
      gi_wp2
      go_end0
      exact ⟨⟨_, rfl⟩, by first | exact .inl hJy | exact .inl ⟨_, rfl, hJy⟩⟩
end Go.Proofs.YtajdohcgjgknmaaGreatDoor

namespace Go.Proofs.YtajdohcgjgknmaaGreatDoor
open Go.RowKit Go.Shelf
attribute [local go_sem] Oper.semAt_some
theorem Count_no (a : Option Addr) (l : List Int) (c : Nat) (w : World) (h : IntsAt w a l) (hl : l.length ≤ 140737488355328) (hv : Globe.validL l = false) :
  Calls Tryz.prog 68 #[.agg #[.slice a l.length c]] w fun e w' => e = .returned (.int .i64 0) ∧ Ext w w' := by
 have H := Lib.hid h; clear h
 go_enter Tryz.func68, Tryz.ntmps68
 go_wp2_with (go_at_call 50; refine (Valid_c _ _ _ _ (H.out.ext (by (repeat' (first | (with_reducible assumption) | (with_reducible exact Ext.refl _) | (with_reducible refine Ext.alloc ?_ _) | (with_reducible refine Ext.drew ?_) | (with_reducible refine Ext.drewN ?_ _) | (with_reducible refine Ext.setCell ?_ ?_ _) | (with_reducible refine Ext.trans ?_ (by assumption)) | go_size)))) hl).mono ?_; rintro e w1 ⟨rfl, hb⟩; have hc := hb.cellE; have hf := hb.frozenE; have hz := hb.size; have ha := alloc_keeps w1; (try simp only [World.size_alloc] at hc hf hz); (try simp only [World.size_setCell] at hc hf hz); (try simp only [World.size_drew] at hc hf hz))
 go_ret
 exact ⟨rfl, by (repeat' (first | (with_reducible assumption) | (with_reducible exact Ext.refl _) | (with_reducible refine Ext.alloc ?_ _) | (with_reducible refine Ext.drew ?_) | (with_reducible refine Ext.drewN ?_ _) | (with_reducible refine Ext.setCell ?_ ?_ _) | (with_reducible refine Ext.trans ?_ (by assumption)) | go_size))⟩
set_option maxHeartbeats 2000000 in
theorem Count_yes (b off c : Nat) (l : List Int) (w : World) (h : ∀ i, i < l.length → w.cell? ⟨b, off + i, none⟩ = some (.int .i64 (Globe.nth l i))) (hv : Globe.validL l = true) (hT : Tab w) :
  Calls Tryz.prog 68 #[.agg #[.slice (some ⟨b, off, none⟩) l.length c]] w fun e w' => e = .returned (.int .i64 (Globe.cellsTo l 24).length) ∧ Ext w w' := by
 have Ba := (Globe.validL_t.1 hv).1
 have H : Hid (IntsAt w (some ⟨b, off, none⟩) l) := .inr ⟨b, off, rfl, h⟩
 have H2 := Lib.hid h; clear h
 have Hl := Lib.hid Ba
 refine (callsIn_wide (n := 3)).1 ?_
 refine callsIn_of_wp_marks Tryz.func68 rfl trivial ?_ rfl
 simp only [Tryz.ntmps68, List.size_toArray, List.length_cons, List.length_nil, Nat.reduceAdd, Nat.reduceSub, Array.replicate_succ, Array.replicate_zero, List.push_toArray, List.append_toArray, List.nil_append, List.cons_append]
 refine wpIn_wide.2 ?_
 have hl : l.length ≤ 140737488355328 := by omega
 clear Ba
 go_wp2_with (first | (go_at_call 50; refine (Valid_c _ _ _ _ (H.out.ext (by (repeat' (first | (with_reducible assumption) | (with_reducible exact Ext.refl _) | (with_reducible refine Ext.alloc ?_ _) | (with_reducible refine Ext.drew ?_) | (with_reducible refine Ext.drewN ?_ _) | (with_reducible refine Ext.setCell ?_ ?_ _) | (with_reducible refine Ext.trans ?_ (by assumption)) | go_size)))) hl).mono ?_; rintro e w1 ⟨rfl, hb⟩; have hc := hb.cellE; have hf := hb.frozenE; have hz := hb.size; have ha := alloc_keeps w1; (try simp only [World.size_alloc] at hc hf hz); (try simp only [World.size_setCell] at hc hf hz); (try simp only [World.size_drew] at hc hf hz)) | (go_at_call 70; refine (cells_c _ _ _ _).mono ?_; rintro e w' ⟨rfl, rfl⟩))
 obtain ⟨W0, B7⟩ : ∃ W0, W0 = w1.alloc (.cells #[.slice (some ⟨b, off, none⟩) l.length c] 33) := ⟨_, rfl⟩
 have hzB : w1.heap.size < W0.heap.size := by rw [B7]; simp
 have Bc : Ext w1 W0 := by rw [B7]; (repeat' (first | (with_reducible assumption) | (with_reducible exact Ext.refl _) | (with_reducible refine Ext.alloc ?_ _) | (with_reducible refine Ext.drew ?_) | (with_reducible refine Ext.drewN ?_ _) | (with_reducible refine Ext.setCell ?_ ?_ _) | (with_reducible refine Ext.trans ?_ (by assumption)) | go_size))
 have hEw : Ext w w1 := by (repeat' (first | (with_reducible assumption) | (with_reducible exact Ext.refl _) | (with_reducible refine Ext.alloc ?_ _) | (with_reducible refine Ext.drew ?_) | (with_reducible refine Ext.drewN ?_ _) | (with_reducible refine Ext.setCell ?_ ?_ _) | (with_reducible refine Ext.trans ?_ (by assumption)) | go_size))
 have Bb : Ext w W0 := hEw.trans Bc
 have c3 : w1.cell? ⟨w.heap.size + 1, 0, none⟩ = some (.int .i64 0) := hb.cell (by simp [go_sem])
 have f3 : W0.frozen? ⟨w.heap.size + 1, 0, none⟩ = false := Bc.free c3 (hb.free (v := .int .i64 0) (by simp [go_sem]) (by simp [go_sem]))
 replace c3 := Bc.cell c3
 have cB : W0.cell? ⟨w1.heap.size, 0, none⟩ = some (.slice (some ⟨b, off, none⟩) 24 c) := by rw [B7, ← Hl.out]; simp [go_sem]
 have hr : ∀ i, i < 24 → W0.cell? ⟨b, off + i, none⟩ = some (.int .i64 (Globe.nth l i)) := fun i hi => Bb.cell (H2.out i (by rw [Hl.out]; exact hi))
 have hbs : b < w.heap.size := World.block_lt_of_cell? w _ (H2.out 0 (by rw [Hl.out]; decide))
 have hgs := hT.1
 have Be := hT.ext Bb
 rw [← B7]
 clear B7 hc hf hb
 refine wpIn_wide (n := 3).1 ?_
 refine wpIn_rangeFunc_ownF (F := Fence.wide) rfl (by omega) (gf := 109) (lb := #[.pointer (some ⟨w1.heap.size, 0, none⟩)]) rfl trivial (enters_of Tryz.func109 (by kernel_rfl) rfl)
  (cells_stops _ w1.heap.size b off c W0.heap.size (fun k => k = w.heap.size + 1) l W0 hv hzB (by omega) (by omega) (by omega) (by omega) (by omega) (Nat.le_refl _) cB hr Be) KeepX.trans (KeepX.putObj (Nat.le_refl _)) (Below.refl _ _) (fun _ => rfl)
  (fun pre W => (W.cell? ⟨w.heap.size + 1, 0, none⟩ = some (.int .i64 pre.length) ∧ W.frozen? ⟨w.heap.size + 1, 0, none⟩ = false) ∧ Ext w W)
  (fun _ _ _ => False)
  (OwnFrom.and (Own.from (fun s A B row hs hg hr => ⟨cell_kept hs.1 hg hr, (frozen_kept hs.1 hg hr).trans hs.2⟩) _) (ownFrom_below (Nat.le_refl _) (by omega)))
  (fun _ _ _ _ _ hs _ _ => hs) ⟨⟨c3, f3⟩, Bb⟩
  (fun p => { tmps := #[.agg #[.slice (some ⟨b, off, none⟩) l.length c], .pointer (some ⟨w.heap.size, 0, none⟩), .int .i64 0, .pointer (some ⟨w.heap.size + 1, 0, none⟩), .agg #[.slice (some ⟨b, off, none⟩) l.length c], .bool true, .agg #[.slice (some ⟨b, off, none⟩) l.length c], .func (.func 109) #[] #[.pointer (some ⟨w1.heap.size, 0, none⟩)], .agg #[.int .i64 p.1, .int .i64 p.2], undef, undef, undef], defers := [] }) ?assign ?body ?done ?stop
 case assign =>
  intro ll p W K hK
  dsimp only [encCell]
  gi_wp2
  simpa using hK
 case body =>
  rintro ll pre p W ⟨⟨hA, hF⟩, hE⟩ hlen
  have hcl := Globe.cellsTo_len l 24
  gi_wp2
  refine ⟨by (repeat' (first | (with_reducible refine KeepsOthers.trans ?_ (KeepsOthers.setCell _ _ _)) | (with_reducible refine KeepsOthers.trans ?_ (KeepsOthers.drew _)) | (with_reducible exact KeepsOthers.refl _) | (refine Ext.others ?_; (repeat' (first | (with_reducible assumption) | (with_reducible exact Ext.refl _) | (with_reducible refine Ext.alloc ?_ _) | (with_reducible refine Ext.drew ?_) | (with_reducible refine Ext.drewN ?_ _) | (with_reducible refine Ext.setCell ?_ ?_ _) | (with_reducible refine Ext.trans ?_ (by assumption)) | go_size)); done))), KeepX.setCell (X := fun k => k = w.heap.size + 1) W (p := ⟨w.heap.size + 1, 0, none⟩) rfl _, ⟨?_, ?_⟩, by (repeat' (first | (with_reducible assumption) | (with_reducible exact Ext.refl _) | (with_reducible refine Ext.alloc ?_ _) | (with_reducible refine Ext.drew ?_) | (with_reducible refine Ext.drewN ?_ _) | (with_reducible refine Ext.setCell ?_ ?_ _) | (with_reducible refine Ext.trans ?_ (by assumption)) | go_size))⟩
  · simp [go_sem, hA]
  · simp [go_sem, hF]
 case done =>
  rintro D xs W hD rfl ⟨⟨hA, hF⟩, hE⟩ hK
  go_wp2
  refine ⟨by simp, .inl ⟨_, _, rfl, run_takeDeferred hK, ?_⟩⟩
  exact ⟨_, results_tmp rfl _ _ _, rfl, Ext.shut hE (by omega) hK⟩
 case stop =>
  rintro D c pre W _ _ h _
  exact h.elim
end Go.Proofs.YtajdohcgjgknmaaGreatDoor

namespace Go.Proofs.YtajdohcgjgknmaaGreatDoor
open Go.RowKit
def cellVals (l : List (Nat × Nat)) : List Value := l.flatMap fun p => [.int .i64 p.1, .int .i64 p.2]
theorem cellVals_snoc (l : List (Nat × Nat)) (p : Nat × Nat) : cellVals (l ++ [p]) = cellVals l ++ [.int .i64 p.1, .int .i64 p.2] := by simp [cellVals]
theorem cell_two_new (w : World) (x y : Value) (t : TypeId) : ∀ j u, [x, y][j]? = some u → (w.alloc (.cells #[x, y] t)).cell? ((⟨w.heap.size, 0, none⟩ : Addr).add j) = some u := by
 intro j u hj
 rw [Addr.add_mid, Nat.zero_add]
 match j, hj with
 | 0, hj => simp at hj; subst hj; simp [go_sem]
 | 1, hj => simp at hj; subst hj; simp [go_sem]
 | _ + 2, hj => simp at hj
def CellsAt (w : World) (a : Option Addr) (n : Nat) (cs : List (Nat × Nat)) : Prop :=
 cs.length = n ∧ (n = 0 ∨ ∃ b, a = some ⟨b, 0, none⟩ ∧ ∀ (i : Nat) (p : Nat × Nat), cs[i]? = some p → w.cell? ⟨b, i * 2, none⟩ = some (.int .i64 p.1) ∧ w.cell? ⟨b, i * 2 + 1, none⟩ = some (.int .i64 p.2))
theorem CellsAt.ext {w w' : World} {a : Option Addr} {n : Nat} {cs : List (Nat × Nat)} (h : CellsAt w a n cs) (hE : Ext w w') : CellsAt w' a n cs := by
 refine ⟨h.1, h.2.imp id fun ⟨b, ha, hc⟩ => ⟨b, ha, fun i p hp => ⟨hE.cell (hc i p hp).1, hE.cell (hc i p hp).2⟩⟩⟩
theorem CellsAt.nil (w : World) (a : Option Addr) : CellsAt w a 0 [] := ⟨rfl, .inl rfl⟩
theorem cellVals_at : ∀ {cs : List (Nat × Nat)} {i : Nat} {p : Nat × Nat}, cs[i]? = some p → (cellVals cs)[i * 2]? = some (.int .i64 p.1) ∧ (cellVals cs)[i * 2 + 1]? = some (.int .i64 p.2)
 | q :: cs, 0, p, h => by simp at h; subst h; simp [cellVals]
 | q :: cs, i + 1, p, h => by
  have ih := cellVals_at (cs := cs) (i := i) (p := p) (by simpa using h)
  have e : cellVals (q :: cs) = [.int .i64 q.1, .int .i64 q.2] ++ cellVals cs := by simp [cellVals]
  rw [e, show (i + 1) * 2 = 2 + i * 2 by omega, show 2 + i * 2 + 1 = 2 + (i * 2 + 1) by omega]
  rw [List.getElem?_append_right (by simp), List.getElem?_append_right (by simp)]
  simpa using ih
theorem CellsAt.own {w : World} {base : Nat} {v : Value} {cs : List (Nat × Nat)} {n : Nat} (hn : cs.length = n) (h : w.ownsRow base 65 2 v n (cellVals cs)) : ∃ a k, v = .slice a n k ∧ CellsAt w a n cs := by
  rcases h.2 with ⟨rfl, h0⟩ | ⟨g, cap, cur, rfl, _, _, _⟩
  · subst h0; exact ⟨none, 0, rfl, hn, .inl rfl⟩
  · refine ⟨some ⟨g, 0, none⟩, cap, rfl, hn, .inr ⟨g, rfl, fun i p hp => ?_⟩⟩
    have hi : i < cs.length := (List.getElem?_eq_some_iff.1 hp).1
    obtain ⟨e1, e2⟩ := cellVals_at hp
    rw [h.cellAt (i * 2) (by omega), h.cellAt (i * 2 + 1) (by omega)]
    exact ⟨e1, e2⟩
end Go.Proofs.YtajdohcgjgknmaaGreatDoor

namespace Go.Proofs.YtajdohcgjgknmaaGreatDoor
open Go.RowKit Go.Shelf
attribute [local go_sem] Oper.semAt_some
set_option maxHeartbeats 2000000 in
theorem AppendSeq_cells (Bn b off c : Nat) (l : List Int) (w : World) (hBn : w.cell? ⟨Bn, 0, none⟩ = some (.slice (some ⟨b, off, none⟩) 24 c)) (h : VA w b off l) (hT : Tab w) :
  Calls Tryz.prog 108 #[.slice none 0 0, .func (.func 109) #[] #[.pointer (some ⟨Bn, 0, none⟩)]] w fun e w' => ∃ v, e = .returned v ∧ w'.ownsRow w.heap.size 65 2 v (Globe.cellsTo l 24).length (cellVals (Globe.cellsTo l 24)) ∧ Ext w w' := by
 have hBl := World.block_lt_of_cell? w _ hBn
 have hbl := h.lt
 have hgs := hT.1
 have hcl := Globe.cellsTo_len l 24
 refine (callsIn_wide (n := 3)).1 ?_
 refine callsIn_of_wp_marks Tryz.func108 rfl trivial ?_ rfl
 simp only [Tryz.ntmps108, List.size_toArray, List.length_cons, List.length_nil, Nat.reduceAdd, Nat.reduceSub, Array.replicate_succ, Array.replicate_zero, List.push_toArray, List.append_toArray, List.nil_append, List.cons_append]
 refine wpIn_wide.2 ?_
 go_wp2_with fail
 obtain ⟨W0, B7⟩ : ∃ W0, W0 = w.alloc (.cells #[.slice none 0 0] 60) := ⟨_, rfl⟩
 have Bb : Ext w W0 := by rw [B7]; (repeat' (first | (with_reducible assumption) | (with_reducible exact Ext.refl _) | (with_reducible refine Ext.alloc ?_ _) | (with_reducible refine Ext.drew ?_) | (with_reducible refine Ext.drewN ?_ _) | (with_reducible refine Ext.setCell ?_ ?_ _) | (with_reducible refine Ext.trans ?_ (by assumption)) | go_size))
 have Bp : W0.heap.size = w.heap.size + 1 := by rw [B7]; simp
 have hbx : Boxed W0 w.heap.size 60 (.slice none 0 0) := by rw [B7]; exact Boxed.new _ _ _
 rw [← B7]
 clear B7
 obtain ⟨i0, hi, Bj, Bk, Bm⟩ := info_parts (P := Tryz.prog) (e := 65) (z := .agg #[.int .i64 0, .int .i64 0]) (size := 2) (bytes := 16) (by kernel_rfl)
 refine wpIn_wide (n := 3).1 ?_
 refine wpIn_rangeFunc_ownH (F := Fence.wide) rfl (by omega) (gf := 109) (lb := #[.pointer (some ⟨Bn, 0, none⟩)]) rfl trivial (enters_of Tryz.func109 (by kernel_rfl) rfl)
  (cells_stops _ Bn b off c w.heap.size (fun _ => False) l W0 h.2 hBl id hbl id hgs id (by omega) (Bb.cell hBn) (fun i hi => Bb.cell (h.1 i hi)) (hT.ext Bb)) KeepX.trans (KeepX.putObj (by omega)) (Below.refl _ _) (fun _ => rfl)
  (fun pre W => (∃ v, Boxed W w.heap.size 60 v ∧ W.ownsRow w.heap.size 65 2 v pre.length (cellVals pre) ∧ True) ∧ Below w.heap.size w W)
  (fun _ _ _ => False)
  (OwnFrom.and (Own.from (holdsRow_own w.heap.size w.heap.size _ _ 2 List.length cellVals (fun _ _ => True)) _) (ownFrom_below (Nat.le_refl _) (by omega)))
  (fun _ _ _ _ _ hs _ _ => hs) ⟨⟨_, hbx, World.ownsRow_nil _ _ _ _, trivial⟩, Bb⟩
  (fun p a' W => ∃ bx : Nat, a' = { tmps := #[.slice none 0 0, .func (.func 109) #[] #[.pointer (some ⟨Bn, 0, none⟩)], .pointer (some ⟨w.heap.size, 0, none⟩), undef, .slice none 0 0, .pointer (some ⟨bx, 0, none⟩), .func (.func 109) #[] #[.pointer (some ⟨Bn, 0, none⟩)], .agg #[.int .i64 p.1, .int .i64 p.2], undef, undef, undef, undef, undef], defers := [] } ∧ W.cell? ⟨bx, 0, none⟩ = some (.int .i64 p.1) ∧ W.cell? ⟨bx, 1, none⟩ = some (.int .i64 p.2))
  ?hAx ?assign ?body ?done ?stop
 case hAx =>
  rintro p a' _ A B row ⟨bx, rfl, h1, h2⟩ hg hr
  exact ⟨bx, rfl, cell_kept h1 hg (fun r e => (hr r e).2), cell_kept h2 hg (fun r e => (hr r e).2)⟩
 case assign =>
  rintro ll pre p W K ⟨⟨v, hv, hrow, -⟩, hb⟩ hK
  dsimp only [encCell]
  gi_wp2
  refine hK _ _ ((KeepsOthers.alloc W _).from _) (KeepX.of_below (((Below.refl _ _).alloc hb.size _))) ⟨⟨v, hv.alloc _, hrow.alloc _, trivial⟩, hb.alloc hb.size _⟩ ⟨W.heap.size, rfl, by simp [go_sem], by simp [go_sem]⟩
 case body =>
  rintro ll pre p a' W hll hrec ⟨⟨v, hv, hrow, -⟩, hb⟩ ⟨bx, rfl, h1, h2⟩ hlen
  have hvc := hv.cell
  have hvf := hv.frozen
  have hlen' : pre.length + 1 ≤ 1152 := by omega
  gi_wp2_with (gi_at_builtin; refine wpListIn_append_own _ rfl _ _ 60 rfl w.heap.size 65 i0 (.agg #[.int .i64 0, .int .i64 0]) 2 16 Tryz.underlying60 hi Bj Bk Bm rfl (by decide) _ _ _ rfl (hrow.alloc _) ⟨W.heap.size, 0, none⟩ 1 1 [.int .i64 p.1, .int .i64 p.2] rfl rfl (cell_two_new _ _ _ _) (by simp [Value.oneCell']) (by unfold maxLen; omega) (by omega) (by have := hb.size; simp; omega) ?_; intro v' w3 hown' Bf Bc; obtain ⟨Be, Bg, Ba, hko, hbw⟩ := Boxed.appended hv (by decide) hrow hb.size (Nat.le_refl _) hown' Bf; obtain ⟨g', cap', rfl⟩ := ownsRow_succ hown'; have Bh := Be.cell; have Bi := Be.frozen; go_frame)
  refine ⟨hko.from _, KeepX.of_below hbw, ⟨_, Bg, ?_, trivial⟩, hb.trans (hbw.mono (Nat.le_refl _))⟩
  rw [cellVals_snoc, List.length_append]
  exact Ba
 case done =>
  rintro D xs W hD rfl ⟨⟨v, hv, hrow, -⟩, hb⟩ hK
  have hvc := hv.cell
  go_wp2
  refine ⟨by simp, .inl ⟨_, _, rfl, run_takeDeferred hK, ?_⟩⟩
  exact ⟨_, results_tmp rfl _ _ _, v, rfl, ownsRow_putObj hrow _ hK rfl, Ext.shut hb (by omega) hK⟩
 case stop =>
  rintro D c pre W _ _ h _
  exact h.elim
theorem Collect_cells (Bn b off c : Nat) (l : List Int) (w : World) (hBn : w.cell? ⟨Bn, 0, none⟩ = some (.slice (some ⟨b, off, none⟩) 24 c)) (h : VA w b off l) (hT : Tab w) :
  Calls Tryz.prog 69 #[.func (.func 109) #[] #[.pointer (some ⟨Bn, 0, none⟩)]] w fun e w' => ∃ v, e = .returned v ∧ w'.ownsRow w.heap.size 65 2 v (Globe.cellsTo l 24).length (cellVals (Globe.cellsTo l 24)) ∧ Ext w w' := by
 have H := Lib.hid h; clear h
 have HT := Lib.hid hT; clear hT
 go_enter Tryz.func69, Tryz.ntmps69
 go_wp2_with (go_at_call 108; refine (AppendSeq_cells _ _ _ c l _ hBn H.out HT.out).mono ?_; rintro e w1 ⟨v, rfl, hrow, hb⟩)
 go_ret
 exact ⟨v, rfl, hrow, hb⟩
theorem Count_c {w0 : World} {a : Option Addr} {l : List Int} {n : Nat} (c : Nat) {v : Bool} (w : World) (h : AA w0 a l n v) (hE : Ext w0 w) (hT : Tab w) :
    Calls Tryz.prog 68 #[.agg #[.slice a n c]] w fun e w' => e = .returned (.int .i64 (Globe.countL l : Nat)) ∧ Ext w w' := by
  replace h := h.ext hE
  obtain ⟨h1, rfl, h3, h4⟩ := h
  unfold Globe.countL Globe.cellsL
  rw [h4]
  cases v
  · exact Count_no a l c w h1 h3 h4
  · obtain ⟨b, o, rfl, hr⟩ := h1.rows (Globe.len_of_valid h4)
    have := Globe.len_of_valid h4
    exact Count_yes b o c l w (fun i hi => hr i (by omega)) h4 hT
theorem Count_v {w0 : World} {b o : Nat} (c : Nat) {l : List Int} (w : World) (h : VA w0 b o l) (hE : Ext w0 w) (hT : Tab w) :
  Calls Tryz.prog 68 #[.agg #[.slice (some ⟨b, o, none⟩) 24 c]] w fun e w' => e = .returned (.int .i64 ((Globe.cellsTo l 24).length : Nat)) ∧ Ext w w' := by
 have := Count_c c w h.aa hE hT
 unfold Globe.countL Globe.cellsL at this
 rwa [h.2] at this
end Go.Proofs.YtajdohcgjgknmaaGreatDoor

namespace Go.Proofs.YtajdohcgjgknmaaGreatDoor
set_option maxRecDepth 1000000
set_option maxHeartbeats 4000000
set_option synthInstance.maxHeartbeats 0
set_option synthInstance.maxSize 9999
open Go.RowKit
namespace Prod
theorem noC_no {l : List Int} (h : (((Globe.cellsTo l 24).length : Nat) : Int) > 0) : ¬ noC l = true := by unfold noC; rw [decide_eq_true_eq]; omega
theorem noC_yes {l : List Int} (h : ¬ (((Globe.cellsTo l 24).length : Nat) : Int) > 0) : noC l = true := by unfold noC; rw [decide_eq_true_eq]; omega
end Prod
def DivP (n₀ O : Nat) (w2 w : World) (R : List Int) (l : List Prod.Pc) (e : Ending) (w' : World) : Prop :=
 ∃ (B kk : Nat) (a' : Option Addr) (i' c' : Nat), e = .returned (.agg #[.slice (some ⟨B, 0, none⟩) 24 kk]) ∧ w.heap.size ≤ B ∧ VA w' B 0 R ∧ BoxAt w' O 0 (.slice a' i' c') ∧ OwnS (fun k => n₀ ≤ k) pieceR 49 4 (.slice a' i' c') w' l ∧ l.length = i' ∧ (.slice a' i' c' : Value).ownBlock ≠ some B ∧ KeepX n₀ (fun k => k = O) w w' ∧ Ext w2 w'
theorem divide2_c {n₀ i O : Nat} {a9 : Option Addr} {c9 : Nat} {l : List Prod.Pc} {r : List Int} {x : Prod.Pc} {b1 o1 b2 o2 : Nat} (c1 c2 : Nat) {w2 : World} (w : World) (hO : BoxAt w O 0 (.slice a9 i c9)) (hL : OwnS (fun k => n₀ ≤ k) pieceR 49 4 (.slice a9 i c9) w l) (hl : l.length = i) (hi : i ≤ 100) (hOn : O < n₀) (hn : n₀ ≤ w.heap.size) (h1 : VA w b1 o1 r) (hb1 : O ≠ b1) (hv1 : (.slice a9 i c9 : Value).ownBlock ≠ some b1) (h2 : VA w2 b2 o2 x.rw) (e2 : Ext w2 w) (hw2 : w2.heap.size ≤ O) (hT : Tab w) :
  Calls Tryz.prog 124 #[.agg #[sv b1 o1 24 c1], .agg #[iv x.im, iv x.t, .bool x.cl, sv b2 o2 24 c2], pw O 0] w (DivP n₀ O w2 w (Globe.lessL r x.rw) (l ++ if Prod.noC (Globe.meetL r x.rw) = true then [] else [Prod.own r x])) := by
 have lO := hO.lt;have Dj := h1.lt;have Dr := h2.lt;have D5 := Lib.hid hb1;have hkx : KeepX n₀ (fun k => k = O) w w := KeepX.refl _ _ _;have Cu := e2.size;refine calls_cw 33 [(2, pw O 0), (1, .agg #[iv x.im, iv x.t, .bool x.cl, sv b2 o2 24 c2]), (0, .agg #[sv b1 o1 24 c1])] Tryz.func124 rfl Tryz.ntmps124 (by kernel_rfl) (by kernel_rfl) (fun L => ?_);have hE := Ext.refl w;refine zc (zp (pS (sw 33 #[sv b1 o1 24 c1] ?_)));intro O1 X2 Co Dg hb hbx;have Bb := bq1 hbx;refine mv2 hb e2 hE fun e2 hE=>?_;replace hkx := hkx.step hb (T hn (Nat.le_refl _));have Bp := hb.size;have Cy := Bb.lt;refine pS (sw 49 #[iv x.im, iv x.t, .bool x.cl, sv b2 o2 24 c2] ?_);intro O5 X6 Ce Dh hb hbx;have ⟨Be, Bf, Bg, Bc⟩ := bq4 hbx;refine mv2 hb e2 hE fun e2 hE=>?_;replace hkx := hkx.step hb (T hn Bp);replace Bb := Bb.x hb;have Br := hb.size;have Cz := Be.lt;refine pS (sw 33 #[.slice none 0 0] ?_);intro O9 Dq C2 Di hb hbx;have Ba := bq1 hbx;refine mv2 hb e2 hE fun e2 hE=>?_;replace hkx := hkx.step hb (T hn (T Bp Br));refine mv5 hb Bb Be Bf Bg Bc fun Bb Be Bf Bg Bc=>?_;have Bi := hb.size;have C4 := Ba.lt;refine zn (zc (zp (pU (.agg #[sv b1 o1 24 c1]) (xl (ld33 (Bb.1))) ?_)));refine pT (pw O5 3) ?_;refine pU (.agg #[sv b2 o2 24 c2]) (xl (ld33 (Bc.1))) ?_;refine pS (sc 125 #[.agg #[sv b1 o1 24 c1], .agg #[sv b2 o2 24 c2]] ((Meet_v _ _ _ h1 hE h2 e2).mono ?_));rintro e Dt ⟨Cb, Cf, rfl, C6, -, Bm, hb⟩;refine mv2 hb e2 hE fun e2 hE=>?_;replace hkx := hkx.step hb (T hn (T Bp (T Br Bi)));refine mv6 hb Bb Be Bf Bg Bc Ba fun Bb Be Bf Bg Bc Ba=>?_;have Bh := hb.size;have Cx := Bm.lt;refine ⟨_, rfl, pD (.tuple #[.agg #[sv Cb 0 24 Cf], iv 0]) (.agg #[sv Cb 0 24 Cf]) ?_⟩;refine pT (iv 0) ?_;refine pS (sw 33 #[.slice none 0 0] ?_);intro D0 D6 C0 D2 hb hbx;have B7 := bq1 hbx;refine mv2 hb e2 hE fun e2 hE=>?_;replace hkx := hkx.step hb (T hn (T Bp (T Br (T Bi Bh))));refine mv7 hb Bb Be Bf Bg Bc Ba Bm fun Bb Be Bf Bg Bc Ba Bm=>?_;have Bw := hb.size;have Dk := B7.lt;refine pP (zF D0 0 (sv Cb 0 24 Cf) (st33 B7.1 B7.2) B7 ?_);intro D7 ho B7 hk;replace e2 := ho.ext e2 (T (T Cu (T Bp (T Br (T Bi Bh)))) (Nat.le_of_eq C0));replace hE := ho.ext hE (T (T Bp (T Br (T Bi Bh))) (Nat.le_of_eq C0));replace hkx := hkx.turnN ho (T hn (T (T Bp (T Br (T Bi Bh))) (Nat.le_of_eq C0)));replace Bb := ho.box (Nat.ne_of_gt (Nat.lt_of_lt_of_le Cy (T (T Br (T Bi Bh)) (Nat.le_of_eq C0)))) Bb;have q9 := ho.bx O5 (Nat.ne_of_gt (Nat.lt_of_lt_of_le Cz (T (T Bi Bh) (Nat.le_of_eq C0))));replace Be := q9 Be;replace Bf := q9 Bf;replace Bg := q9 Bg;replace Bc := q9 Bc;clear q9;replace Ba := ho.box (Nat.ne_of_gt (Nat.lt_of_lt_of_le C4 (T Bh (Nat.le_of_eq C0)))) Ba;replace Bm := ho.va (Nat.ne_of_gt (Nat.lt_of_lt_of_le Cx (Nat.le_of_eq C0))) Bm;have Bx := Nat.le_of_eq ho.size.symm;clear ho hk;refine pT (iv 0) ?_;refine zn (cK [2,3,4,5,6] (fun L => ?_));refine zc (zc (zp (pU (.agg #[sv Cb 0 24 Cf]) (xl (ld33 (B7.1))) ?_)));refine pS (sc 68 #[.agg #[sv Cb 0 24 Cf]] ((Count_v _ _ Bm (Ext.refl _) (hT.ext hE)).mono ?_));rintro e Du ⟨rfl, hb⟩;refine mv2 hb e2 hE fun e2 hE=>?_;replace hkx := hkx.step hb (T hn (T Bp (T Br (T Bi (T Bh (T Bw Bx))))));refine mv7 hb Bb Be Bf Bg Bc Ba Bm fun Bb Be Bf Bg Bc Ba Bm=>?_;replace B7 := B7.x hb;have Bz := hb.size;refine ⟨_, rfl, ?_⟩
 by_cases Ca : ((((Globe.cellsTo (Globe.meetL r x.rw) 24).length : Nat) : Int) : Int) > (0 : Int)
 ·
  refine pU (.bool true) (ed (((((Globe.cellsTo (Globe.meetL r x.rw) 24).length : Nat) : Int) : Int) > (0 : Int)) (Ca)) ?_;refine zn (zt ?_);refine zp (pU (.slice a9 i c9) (xl (ld30 (hO.c hE))) ?_);refine pT (pw O5 0) ?_;refine pU (iv x.im) (xl (ld3 (Be.1))) ?_;refine pT (pw O5 1) ?_;refine pU (iv x.t) (xl (ld3 (Bf.1))) ?_;refine pT (pw O5 2) ?_;refine pU (.bool x.cl) (xl (ld4 (Bg.1))) ?_;refine pU (.agg #[sv Cb 0 24 Cf]) (xl (ld33 (B7.1))) ?_;refine pT (.agg #[iv x.im, iv x.t, .bool x.cl, sv Cb 0 24 Cf]) ?_;refine pS (sn_newS (us := #[iv x.im, iv x.t, .bool x.cl, sv Cb 0 24 Cf]) (t := 49) (k := 1) (c := 1) (by kernel_rfl) ?_);intro Cr D8 C5 D3 hb hbx;have ⟨Bq, Bt, Bu, Bv⟩ := bq4 hbx;refine mv2 hb e2 hE fun e2 hE=>?_;replace hkx := hkx.step hb (T hn (T Bp (T Br (T Bi (T Bh (T Bw (T Bx Bz)))))));refine mv4 hb Bb Bc Ba Bm fun Bb Bc Ba Bm=>?_;have C8 := hb.size;have Dl := Bq.lt;have Bk : OwnS (fun k => n₀ ≤ k ∧ k < w.heap.size) pieceR 49 4 (.slice a9 i c9) D8 l := OwnS.ext (OwnS.now hL) hE;obtain ⟨Cs, Cc, D4, Cl, C3, Ct, Bj, Cn, D1⟩ := OwnS.app (P := Tryz.prog) (ty := 30) pieceT Bk (k := i) hl (O := Cr) (c := 1) (x := Prod.own r x) (d := [iv x.im, iv x.t, .bool x.cl, sv Cb 0 24 Cf]) (F := [Cb]) rfl (cells4 (Bq.1) (Bt.1) (Bu.1) (Bv.1)) (by simp [Value.oneCell']) (⟨_, _, _, rfl, Bm, rfl⟩) (away_cons (Bk.not (fun h => absurd h.2 (Nat.not_lt_of_le (T (T Bp (T Br Bi)) C6)))) (fun b hb => by cases hb)) (by omega) (by omega);refine pS (sn_eff (v := sv Cs 0 (i + 1) Cc) (w' := D4) (ex_append rfl (by kernel_rfl) (by kernel_rfl) Cl) ?_);have C9 := VA.grownR (h1.ext hE) Bj hv1;have C1 := BoxAt.grownR (hO.x hE) Bj (Bk.not (fun h => absurd h.1 (Nat.not_le_of_lt hOn)));replace hkx := hkx.app Bj (fun b hb => (Bk.blk b hb).1) (T hn (T Bp (T Br (T Bi (T Bh (T Bw (T Bx (T Bz C8))))))));replace Bb := BoxAt.grownR Bb Bj (Bk.not (fun h => absurd h.2 (Nat.not_lt_of_le (Nat.le_of_eq Co))));replace Bc := BoxAt.grownR Bc Bj (Bk.not (fun h => absurd h.2 (Nat.not_lt_of_le (T Bp (Nat.le_of_eq Ce)))));replace Ba := BoxAt.grownR Ba Bj (Bk.not (fun h => absurd h.2 (Nat.not_lt_of_le (T (T Bp Br) (Nat.le_of_eq C2)))));replace e2 := Ct _ e2 (fun k hk => T (T hw2 (Nat.le_of_lt hOn)) hk.1);have Cm := Bj.size;refine pP (zE O 0 (sv Cs 0 (i + 1) Cc) (st30 C1.1 C1.2) C1 ?_);intro D9 ho C1 hk;replace e2 := ho.ext e2 hw2;replace C9 := ho.va D5.out C9;replace hkx := hkx.turnX ho (rfl);replace Bb := ho.box (Nat.ne_of_lt (Nat.lt_of_lt_of_le lO (Nat.le_of_eq Co))) Bb;have q9 := ho.bx O5 (Nat.ne_of_lt (Nat.lt_of_lt_of_le lO (T Bp (Nat.le_of_eq Ce))));replace Bc := q9 Bc;clear q9;replace Ba := ho.box (Nat.ne_of_lt (Nat.lt_of_lt_of_le lO (T (T Bp Br) (Nat.le_of_eq C2)))) Ba;have q9 := ho.bx Cr (Nat.ne_of_lt (Nat.lt_of_lt_of_le lO (T (T Bp (T Br (T Bi (T Bh (T Bw (T Bx Bz)))))) (Nat.le_of_eq C5))));clear q9;replace C3 := C3.turn ho (notS3 (.inl hOn) (Nat.ne_of_lt (Nat.lt_of_lt_of_le lO (T (T Bp (T Br Bi)) C6))) (Nat.lt_of_lt_of_le lO (T Bp (T Br (T Bi (T Bh (T Bw (T Bx (T Bz C8)))))))));have Cg := Nat.le_of_eq ho.size.symm;clear ho hk;refine zn (cK [3,4,5] (fun L => ?_));refine zc (zp (pU (.agg #[sv b1 o1 24 c1]) (xl (ld33 (Bb.1))) ?_));refine pT (pw O5 3) ?_;refine pU (.agg #[sv b2 o2 24 c2]) (xl (ld33 (Bc.1))) ?_;refine pS (sc 64 #[.agg #[sv b1 o1 24 c1], .agg #[sv b2 o2 24 c2]] ((lessP_v _ _ _ C9 (Ext.refl _) h2 e2).mono ?_));rintro e Do ⟨Cp, Cv, rfl, Cj, Ch, hb⟩;replace e2 := e2.trans hb;replace hkx := hkx.step hb (T hn (T Bp (T Br (T Bi (T Bh (T Bw (T Bx (T Bz (T C8 (T Cm Cg))))))))));refine mv5 hb Bb Bc Ba C3 C1 fun Bb Bc Ba C3 C1=>?_;have Dc := hb.size;have Dm := Ch.lt;refine ⟨_, rfl, pP (zF O9 0 (sv Cp 0 24 Cv) (st33 Ba.1 Ba.2) Ba ?_)⟩;intro Da ho Ba hk;replace e2 := ho.ext e2 (T (T Cu (T Bp Br)) (Nat.le_of_eq C2));replace hkx := hkx.turnN ho (T hn (T (T Bp Br) (Nat.le_of_eq C2)));replace Bb := ho.box (Nat.ne_of_gt (Nat.lt_of_lt_of_le Cy (T Br (Nat.le_of_eq C2)))) Bb;have q9 := ho.bx O5 (Nat.ne_of_gt (Nat.lt_of_lt_of_le Cz (Nat.le_of_eq C2)));replace Bc := q9 Bc;clear q9;have q9 := ho.bx Cr (Nat.ne_of_lt (Nat.lt_of_lt_of_le C4 (T (T Bh (T Bw (T Bx Bz))) (Nat.le_of_eq C5))));clear q9;replace C3 := C3.turn ho (notS3 (.inr (T (T Bp Br) (Nat.le_of_eq C2))) (Nat.ne_of_lt (Nat.lt_of_lt_of_le C4 C6)) (Nat.lt_of_lt_of_le C4 (T Bh (T Bw (T Bx (T Bz C8))))));replace C1 := ho.box (Nat.ne_of_gt (Nat.lt_of_lt_of_le lO (T (T Bp Br) (Nat.le_of_eq C2)))) C1;replace Ch := ho.va (Nat.ne_of_lt (Nat.lt_of_lt_of_le C4 (T (T Bh (T Bw (T Bx (T Bz (T C8 (T Cm Cg)))))) Cj))) Ch;have Dd := Nat.le_of_eq ho.size.symm;clear ho hk;refine zn (cw_ret (qw_ret [.agg #[sv Cp 0 24 Cv]] rfl ⟨⟨_, by kernel_rfl, res_ld (ld33 (Ba.1))⟩, trivial⟩ ?_));exact ⟨Cp, _, _, _, _, rfl, (T (T Bp (T Br (T Bi (T Bh (T Bw (T Bx (T Bz (T C8 (T Cm Cg))))))))) Cj), Ch, C1, (by rw [if_neg (Prod.noC_no Ca)]; exact (OwnS.mono C3 fun k _ hk => fromS3 (T hn (T (T Bp (T Br Bi)) C6)) (T hn (T Bp (T Br (T Bi (T Bh (T Bw (T Bx (T Bz C8)))))))) k hk)), (by rw [if_neg (Prod.noC_no Ca), List.length_append, hl]; rfl), (fun e => absurd (Option.some.inj e) (Nat.ne_of_lt (Nat.lt_of_lt_of_le Cn (T Cg Cj)))), hkx, e2⟩
 ·
  refine pU (.bool false) (en (((((Globe.cellsTo (Globe.meetL r x.rw) 24).length : Nat) : Int) : Int) > (0 : Int)) (Ca)) ?_;refine zn (zf ?_);refine cw_skip (zq (zc (zp (pU (.agg #[sv b1 o1 24 c1]) (xl (ld33 (Bb.1))) ?_))));refine pT (pw O5 3) ?_;refine pU (.agg #[sv b2 o2 24 c2]) (xl (ld33 (Bc.1))) ?_;refine pS (sc 64 #[.agg #[sv b1 o1 24 c1], .agg #[sv b2 o2 24 c2]] ((lessP_v _ _ _ h1 hE h2 e2).mono ?_));rintro e Dp ⟨Cq, Cw, rfl, Ck, Ci, hb⟩;refine mv2 hb e2 hE fun e2 hE=>?_;replace hkx := hkx.step hb (T hn (T Bp (T Br (T Bi (T Bh (T Bw (T Bx Bz)))))));replace Ba := Ba.x hb;have De := hb.size;have Dn := Ci.lt;refine ⟨_, rfl, pP (zF O9 0 (sv Cq 0 24 Cw) (st33 Ba.1 Ba.2) Ba ?_)⟩;intro Db ho Ba hk;replace e2 := ho.ext e2 (T (T Cu (T Bp Br)) (Nat.le_of_eq C2));replace hE := ho.ext hE (T (T Bp Br) (Nat.le_of_eq C2));replace hkx := hkx.turnN ho (T hn (T (T Bp Br) (Nat.le_of_eq C2)));have q9 := ho.bx O5 (Nat.ne_of_gt (Nat.lt_of_lt_of_le Cz (Nat.le_of_eq C2)));clear q9;replace Ci := ho.va (Nat.ne_of_lt (Nat.lt_of_lt_of_le C4 (T (T Bh (T Bw (T Bx Bz))) Ck))) Ci;have Df := Nat.le_of_eq ho.size.symm;clear ho hk;refine zn (cw_ret (qw_ret [.agg #[sv Cq 0 24 Cw]] rfl ⟨⟨_, by kernel_rfl, res_ld (ld33 (Ba.1))⟩, trivial⟩ ?_));exact ⟨Cq, _, _, _, _, rfl, (T (T Bp (T Br (T Bi (T Bh (T Bw (T Bx Bz)))))) Ck), Ci, (hO.x hE), (by rw [if_pos (Prod.noC_yes Ca), List.append_nil]; exact (hL.ext hE)), (by rw [if_pos (Prod.noC_yes Ca), List.append_nil]; exact hl), (own_not2 hL.lt (T (T Bp (T Br (T Bi (T Bh (T Bw (T Bx Bz)))))) Ck)), hkx, e2⟩
end Go.Proofs.YtajdohcgjgknmaaGreatDoor

namespace Go.Proofs.YtajdohcgjgknmaaGreatDoor
set_option maxRecDepth 1000000
set_option maxHeartbeats 4000000
set_option synthInstance.maxHeartbeats 0
set_option synthInstance.maxSize 9999
open Go.RowKit
def rawN (rs : List RawPc) (i : Nat) : RawPc := rs[i]?.getD default
theorem rawN_at {rs : List RawPc} {i : Nat} (h : i < rs.length) : rs[i]? = some (rawN rs i) := by unfold rawN; rw [List.getElem?_eq_getElem h]; rfl
theorem rawN_take {rs : List RawPc} {i : Nat} (h : i < rs.length) : rs.take i ++ [rawN rs i] = rs.take (i + 1) := by rw [List.take_add_one, rawN_at h]; rfl
theorem RawsAt.parts {w : World} {a : Option Addr} {n : Nat} {rs : List RawPc} (h : RawsAt w a n rs) (hn : 0 < n) : ∃ b o, a = some ⟨b, o, none⟩ ∧ b < w.heap.size ∧ ∀ i, i < n → RawAt w b (o + i * 4) (rawN rs i) := by
 obtain ⟨h1, h2, h3⟩ := h
 rcases h3 with h3 | ⟨b, o, ha, hx⟩
 · omega
 · exact ⟨b, o, ha, World.block_lt_of_cell? _ _ (hx 0 _ (rawN_at (by omega))).1, fun i hi => hx i _ (rawN_at (by omega))⟩
theorem Values_c (a : Option Addr) (n c : Nat) (w : World) : Calls Tryz.prog 122 #[.slice a n c] w fun e w' => ∃ B, e = .returned (.func (.func 140) #[] #[pw B 0]) ∧ w.heap.size ≤ B ∧ w'.cell? ⟨B, 0, none⟩ = some (.slice a n c) ∧ Ext w w' := by
 refine calls_cw 4 [(0, .slice a n c)] Tryz.func122 rfl Tryz.ntmps122 (by kernel_rfl) (by kernel_rfl) (fun L => ?_);have hE := Ext.refl w;refine zc (zp (pS (sw 30 #[.slice a n c] ?_)));intro O1 X2 hzO1 hyO1 hb hbx;have bO1_0 := bq1 hbx;replace hE := hE.trans hb;have hs3 := hb.size;have lt4 := bO1_0.lt;refine pT (Value.nilFunc) ?_;refine zn (zc (zp (pD (.func (.func 140) #[] #[pw O1 0]) (.func (.func 140) #[] #[pw O1 0]) ?_)));refine zn (cw_ret (qw_ret [.func (.func 140) #[] #[pw O1 0]] rfl ⟨(by kernel_rfl), trivial⟩ ?_));exact ⟨O1, rfl, (Nat.le_of_eq hzO1), bO1_0.1, hE⟩
theorem Values_seq {a : Option Addr} {n c B : Nat} {rs : List RawPc} {X : Nat → Prop} {w0 w1 : World} (hR : RawsAt w0 a n rs) (e0 : Ext w0 w1) (cB : w1.cell? ⟨B, 0, none⟩ = some (.slice a n c)) (hXl : ∀ k, X k → w0.heap.size ≤ k) :
  SeqN Tryz.prog 140 #[pw B 0] n (fun i => [(rawN rs i).val]) (fun _ _ => True) X w1 := by
 intro l J Jx w hW hJst hJxst hY C0 n9;replace cB := hW.cell cB;obtain ⟨hl, hm, -⟩ := id hR;refine icalls 16 [(1, pw B 0), (0, .func (.yield l) #[] #[])] Tryz.func140 rfl Tryz.ntmps140 (by kernel_rfl) (by kernel_rfl) (fun L mm => ?_);have hE := Ext.refl w;refine icw_seq (icw_plain (iU (.slice a n c) (xl (ld30 (cB))) ?_));refine iT (iv n) ?_;refine iT (iv 0) ?_;refine ipl_nil (iqw_then (icw_block ?_));have Bm := hJst _ _ _ C0 (Ext.refl _);have Bp : KeptX X w0 w := KeptX.of_mv (n₀ := 0) (Mv.of_ext (e0.trans (hW.trans hE)));refine icw_loop [0, 5, 6, 7] (fun ws' wr m => ∃ i : Nat, ws' = [(0, .func (.yield l) #[] #[]), (5, .slice a n c), (6, iv n), (7, iv i)] ∧ m = n - i ∧ w.heap.size ≤ wr.heap.size ∧ KeptX X w0 wr ∧ J i wr ∧ i ≤ n) (ws0 := [(0, .func (.yield l) #[] #[]), (5, .slice a n c), (6, iv n), (7, iv 0)]) (by kernel_rfl) _ ⟨0, rfl, rfl, Nat.le_refl _, Bp, Bm, by omega⟩ ?_;clear cB;rintro m5 L ws w4 ⟨i, rfl, rfl, Bi, Ba, Bt, hi⟩;have Bj := Ext.refl w4
 by_cases hlt : i < n
 ·
  obtain ⟨b, o, rfl, hbl, C5⟩ := hR.parts (by omega);obtain ⟨r0, r1, r2, r3⟩ := C5 i hlt;have hnX : ¬ X b := fun hx => absurd hbl (Nat.not_lt_of_le (hXl _ hx))
  replace r0 := Ba.cell hnX r0;replace r1 := Ba.cell hnX r1;replace r2 := Ba.cell hnX r2;replace r3 := Ba.cell hnX r3;refine icw_seq (icw_plain (iU (.bool true) (ed (((i : Nat) : Int) < ((n : Nat) : Int)) (by omega)) ?_));refine ipl_nil (iqw_then (icw_seq (icw_t (by kernel_rfl) ?_)));refine icw_skip (iqw_then (icw_seq (icw_block ?_)));refine icw_seq (icw_plain (iU (pw b (o + i * 4)) (xi (sv b o n c) (iv i) (ix30 (k := i) (by omega))) ?_));refine iU (.agg #[iv ((rawN rs i).im : Int), iv ((rawN rs i).t : Int), .bool ((rawN rs i).cl), .slice ((rawN rs i).a) ((rawN rs i).n) ((rawN rs i).c)]) (xl (ld49 (r0) (r1) (r2) (r3))) ?_;refine iS (sw 49 #[iv 0, iv 0, .bool false, .slice none 0 0] ?_);intro O7 X8 Bg C6 hb hbx;have ⟨Bb, Bc, Be, Bf⟩ := bq4 hbx;replace Bj := Bj.trans hb;replace Ba := Ba.trans (KeptX.of_mv (n₀ := 0) (Mv.of_ext hb));have C4 := hb.size;have C8 := Bb.lt;refine iP (zG O7 (iv ((rawN rs i).im : Int)) (iv ((rawN rs i).t : Int)) (.bool ((rawN rs i).cl)) (.slice ((rawN rs i).a) ((rawN rs i).n) ((rawN rs i).c)) (st49 Bb.1 Bb.2 Bc.1 Bc.2 Be.1 Be.2 Bf.1 Bf.2) Bb Bc Be Bf ?_);intro Bz ho Bb Bc Be Bf hk;replace Bj := ho.ext Bj (Nat.le_of_eq Bg);replace Ba := Ba.turn ho (T (T e0.size hW.size) (T Bi (Nat.le_of_eq Bg)));have Bq := Nat.le_of_eq ho.size.symm;clear ho hk;refine ipl_nil (iqw_then (icw_seq (icw_plain (iT (.func (.yield l) #[] #[]) ?_))));refine iU (.agg #[iv ((rawN rs i).im : Int), iv ((rawN rs i).t : Int), .bool ((rawN rs i).cl), .slice ((rawN rs i).a) ((rawN rs i).n) ((rawN rs i).c)]) (xl (ld49 (Bb.1) (Bc.1) (Be.1) (Bf.1))) ?_;refine ipl_yield rfl (by kernel_rfl) (by kernel_rfl) (by kernel_rfl) (sy_yield (args := #[.agg #[iv ((rawN rs i).im : Int), iv ((rawN rs i).t : Int), .bool ((rawN rs i).cl), .slice ((rawN rs i).a) ((rawN rs i).n) ((rawN rs i).c)]]) rfl (by kernel_rfl) (by kernel_rfl) (yield_mono (hY i _ _ (by omega) (hJst _ _ _ Bt Bj) trivial) ?_));rintro e Bk (⟨rfl, Bh, B7⟩ | ⟨rfl, Bh, B7⟩)
  ·
   replace Ba := Ba.trans B7;have Br := B7.size;have C1 := Ext.refl Bk;refine ⟨_, rfl, iT (.bool false) ?_⟩;refine ipl_nil (iqw_then (icw_f (by kernel_rfl) ?_));refine icw_skip (iqw_block (iqw_then (icw_plain (iU (iv ((i + 1 : Nat) : Int)) (ew (by omega) (by omega)) ?_))));refine iT (iv ((i + 1 : Nat) : Int)) ?_;refine ipl_nil (iqw_round [0, 5, 6, 7] (ws' := [(0, .func (.yield l) #[] #[]), (5, sv b o n c), (6, iv n), (7, iv ((i + 1 : Nat) : Int))]) (by kernel_rfl) _ ?_ ⟨(i + 1), rfl, rfl, (T Bi (T C4 (T Bq Br))), Ba, (hJst _ _ _ Bh (Ext.refl _)), by omega⟩);omega
  ·
   have C3 := B7.size;have C2 := Ext.refl Bk;refine ⟨_, rfl, iT (.bool true) ?_⟩;refine ipl_nil (iqw_then (icw_t (by kernel_rfl) ?_));refine icw_ret ?_;refine iqw_block_ret ?_;refine iqw_then_ret ?_;refine iqw_then_ret ?_;refine iqw_block_ret ?_;refine iqw_ret0 [] rfl trivial ?_;exact ⟨⟨_, rfl⟩, .inr ⟨i, by omega, hJxst _ _ _ Bh (Ext.refl _)⟩⟩
 ·
  have hin : i = n := by omega
  refine icw_seq (icw_plain (iU (.bool false) (en (((i : Nat) : Int) < ((n : Nat) : Int)) (by omega)) ?_));refine ipl_nil (iqw_then (icw_seq (icw_f (by kernel_rfl) ?_)));refine icw_exit ?_;refine iqw_then_exit ?_;refine iqw_then_exit ?_;refine iqw_block_out ?_;refine iqw_end0 [] rfl trivial ?_;exact ⟨⟨_, rfl⟩, .inl (hin ▸ hJst _ _ _ Bt (Ext.refl _))⟩
end Go.Proofs.YtajdohcgjgknmaaGreatDoor

namespace Go.Proofs.YtajdohcgjgknmaaGreatDoor
set_option maxRecDepth 1000000
set_option maxHeartbeats 4000000
set_option synthInstance.maxHeartbeats 0
set_option synthInstance.maxSize 9999
open Go.RowKit
theorem OwnL.lower {α : Type} {R : Rep α} {m n₀ : Nat} {e : TypeId} {size : Nat} {v : Value} {w : World} {l : List α} (h : OwnL R n₀ e size v w l) (hm : m ≤ n₀) : OwnL R m e size v w l := by
 obtain ⟨cs, h1, h2, h3, h4⟩ := h
 refine ⟨cs, h1, h2, ⟨h3.1, ?_⟩, h4⟩
 rcases h3.2 with q | ⟨g, cap, cur, q, hb, rest⟩
 · exact .inl q
 · exact .inr ⟨g, cap, cur, q, T hm hb, rest⟩
theorem Sort_c {n₀ e : Nat} {a : Option Addr} {n cap : Nat} {rs : List RawPc} (w : World) (h : OwnL rawR n₀ e 4 (.slice a n cap) w rs) (hl : rs.length = n) (hn : n ≤ 1000) :
    Calls Tryz.prog 139 #[.slice a n cap, .func (.func 123) #[] #[]] w fun e w' => e = .returned (.tuple #[]) ∧ ∃ rs', rs'.Perm rs ∧ (rs'.Pairwise fun x y => befR y x = false) ∧ RawsAt w' a n rs' ∧ (∀ U, Ext U w → U.heap.size ≤ n₀ → Ext U w') ∧ w.heap.size ≤ w'.heap.size := by
  have hb := h.base
  by_cases h0 : n = 0
  · subst h0
    obtain rfl := List.eq_nil_of_length_eq_zero hl
    refine (Go.Proofs.AnyF.slices_SortFunc_none Tryz.sortPc a cap _ w).mono fun e w' ⟨he, hw⟩ => ⟨he, [], .refl _, List.Pairwise.nil, RawsAt.nil _ _, fun U hU _ => hw ▸ hU, by rw [hw]; exact Nat.le_refl _⟩
  · have hg : ∃ g, a = some ⟨g, 0, none⟩ := by
      obtain ⟨cs, k1, k2, k3, k4⟩ := h
      rcases k3.2 with ⟨q, _⟩ | ⟨g, cap', cur, q, _⟩
      · injection q with r1 r2 r3; omega
      · injection q with r1; exact ⟨g, r1⟩
    obtain ⟨g, rfl⟩ := hg
    refine (SortFunc_c w h hl (by omega)).mono fun e w' ⟨he, rs', h1, h2, h3, h4, h5⟩ => ⟨he, rs', h1, h2, h3, fun U hU hUn => h4 U hU (T hUn (hb g rfl)), h5⟩
theorem AppendSeq_c {w0 w1 : World} {a : Option Addr} {n c B : Nat} {rs : List RawPc} (w : World) (hR : RawsAt w0 a n rs) (hn : n ≤ 1000) (e0 : Ext w0 w1) (cB : w1.cell? ⟨B, 0, none⟩ = some (.slice a n c)) (e1 : Ext w1 w) : Calls Tryz.prog 144 #[.slice none 0 0, .func (.func 140) #[] #[pw B 0]] w fun e w' => ∃ (a' : Option Addr) (c' : Nat), e = .returned (.slice a' n c') ∧ OwnL rawR w.heap.size 49 4 (.slice a' n c') w' rs ∧ Ext w w' := by
 have hln := hR.1;have hEE : Ext w1 w := e1;refine icalls_cw 13 [(1, .func (.func 140) #[] #[pw B 0]), (0, .slice none 0 0)] Tryz.func144 rfl Tryz.ntmps144 (by kernel_rfl) (by kernel_rfl) (fun L mm => ?_);have hE := Ext.refl w;refine icw_seq (icw_plain (iS (sw 30 #[.slice none 0 0] ?_)));intro O1 X2 Ca Cx hb hbx;have Bk := bq1 hbx;replace hE := hE.trans hb;have C0 := hb.size;have Cn := Bk.lt;refine iT (.slice none 0 0) ?_;refine ipl_nil (iqw_then (icw_seq (icw_seq (icw_plain (iT (.func (.func 140) #[] #[pw B 0]) ?_)))));refine ipl_nil (iqw_then (icw_block ?_));refine icw_range (ps := [7]) (by kernel_rfl) (enters_of Tryz.func140 (by kernel_rfl) rfl) (Values_seq (X := (fun k => k = O1 ∨ X2.heap.size ≤ k)) hR e0 cB (fun k hk => hk.elim (fun e => e ▸ T (T e0.size e1.size) (Nat.le_of_eq Ca)) (fun h => T (T (T e0.size e1.size) C0) h))) (e1.trans hE) (fun _ => rfl) (by kernel_rfl) (fun i W => ∃ a9 : Option Addr, ∃ c9 : Nat, X2.heap.size ≤ W.heap.size ∧ Ext w W ∧ BoxAt W O1 0 (.slice a9 i c9) ∧ OwnL rawR X2.heap.size 49 4 (.slice a9 i c9) W (rs.take i)) (fun _ _ _ => False) (fun i A B h hm => by obtain ⟨a9, c9, hsz, hE, b9, Bj⟩ := h; exact ⟨a9, c9, T hsz hm.size, hm.ext hE C0, hm.box b9, hm.own Bj⟩) (fun _ _ _ _ h _ => h.elim) ⟨none, 0, Nat.le_refl _, hE, Bk, OwnL.nil _ _ _ _ _⟩ ?_ ?_ ?_
 ·
  clear Bk hE;intro l7 k8 i w5 hii h _;obtain ⟨a9, c9, Ce, hE, b9, Bj⟩ := h;have htk : (rs.take i).length = i := by rw [List.length_take];omega
  have htn := rawN_take (rs := rs) (i := i) (by omega);have C2 := Ext.refl w5;refine icw_clean [2, 7] (ws' := [(2, pw O1 0), (7, .agg #[iv ((rawN rs i).im : Int), iv ((rawN rs i).t : Int), .bool ((rawN rs i).cl), .slice ((rawN rs i).a) ((rawN rs i).n) ((rawN rs i).c)])]) (by kernel_rfl) (fun L => ?_);have Bi : RK X2.heap.size (fun k => k = O1 ∨ X2.heap.size ≤ k) w5 w5 := RK.refl _ _ _;refine icw_plain (iS (sw 49 #[iv 0, iv 0, .bool false, .slice none 0 0] ?_));intro Cf Cq Bq Ck hb hbx;have ⟨B7, Ba, Bb, Bc⟩ := bq4 hbx;refine mv3 hb hE C2 Bi fun hE C2 Bi=>?_;have C4 := hb.size;have Cy := B7.lt;refine iP (zG Cf (iv ((rawN rs i).im : Int)) (iv ((rawN rs i).t : Int)) (.bool ((rawN rs i).cl)) (.slice ((rawN rs i).a) ((rawN rs i).n) ((rawN rs i).c)) (st49 B7.1 B7.2 Ba.1 Ba.2 Bb.1 Bb.2 Bc.1 Bc.2) B7 Ba Bb Bc ?_);intro Cr ho B7 Ba Bb Bc hk;replace hE := ho.ext hE (T (T C0 Ce) (Nat.le_of_eq Bq));replace C2 := ho.ext C2 (Nat.le_of_eq Bq);replace Bi := Bi.turn ho (.inr (Nat.le_of_eq Bq));have C5 := Nat.le_of_eq ho.size.symm;clear ho hk;refine ipl_nil (iqw_asg Bi (fun w18 hm17 => ?_));have Bf := (b9.x C2);have Be := (Bj.ext C2);replace hE := hm17.ext hE C0;replace Bf := hm17.box Bf;replace Be := hm17.own Be;replace B7 := hm17.box B7;replace Ba := hm17.box Ba;replace Bb := hm17.box Bb;replace Bc := hm17.box Bc;have C6 := hm17.size;have Bg : RK X2.heap.size (fun k => k = O1 ∨ X2.heap.size ≤ k) w18 w18 := RK.refl _ _ _;refine icw_block ?_;refine icw_plain (iU (.slice a9 i c9) (xl (ld30 (Bf.1))) ?_);refine iU (.agg #[iv ((rawN rs i).im : Int), iv ((rawN rs i).t : Int), .bool ((rawN rs i).cl), .slice ((rawN rs i).a) ((rawN rs i).n) ((rawN rs i).c)]) (xl (ld49 (B7.1) (Ba.1) (Bb.1) (Bc.1))) ?_;refine iS (sn_newS (us := #[iv ((rawN rs i).im : Int), iv ((rawN rs i).t : Int), .bool ((rawN rs i).cl), .slice ((rawN rs i).a) ((rawN rs i).n) ((rawN rs i).c)]) (t := 49) (k := 1) (c := 1) (by kernel_rfl) ?_);intro Cp D1 Cm Cl hb hbx;have ⟨Bp, Bv, Bw, Bx⟩ := bq4 hbx;refine mv4 hb hE Bf Be Bg fun hE Bf Be Bg=>?_;have C8 := hb.size;have Cz := Bp.lt;have Br := Be.base;obtain ⟨C1, Bm, Co, Bz, Bh, Bu, Bt⟩ := own_app1k (P := Tryz.prog) (ty := 30) pieceT (Be) (T Ce (T C4 (T C5 (T C6 C8)))) (k := i) htk (O := Cp) (c := 1) (x := rawN rs i) (d := [iv ((rawN rs i).im : Int), iv ((rawN rs i).t : Int), .bool ((rawN rs i).cl), .slice ((rawN rs i).a) ((rawN rs i).n) ((rawN rs i).c)]) (F := []) rfl (cells4 (Bp.1) (Bv.1) (Bw.1) (Bx.1)) (by simp [Value.oneCell']) (⟨rfl, rfl⟩) (fun b hb => by cases hb) (by omega) (by omega);refine iS (sn_eff (v := sv C1 0 (i + 1) Bm) (w' := Co) (ex_append rfl (by kernel_rfl) (by kernel_rfl) Bz) ?_);replace Bf := BoxAt.grownR Bf Bt (own_not Br (Nat.lt_of_lt_of_le Cn (Nat.le_refl _)));replace Bg := Bg.app Bt (Be) (fun k hk => .inl (.inr (Br k hk)));replace hE := Bu.ext _ hE C0;have Cc := Bu.size;have Cu := Bh.base C1 rfl;have Ct := Bh.lt C1 rfl;rw [htn] at Bh;refine iP (zE O1 0 (sv C1 0 (i + 1) Bm) (st30 Bf.1 Bf.2) Bf ?_);intro Cs ho Bf hk;replace hE := ho.ext hE (Nat.le_of_eq Ca);replace Bg := Bg.turn ho (.inl (.inl rfl));replace Bh := Bh.turn ho (own_not (Bh.base) (Nat.lt_of_lt_of_le Cn (Nat.le_refl _))) (fun _ _ _ h => by rw [h.2]; exact fun b hb => by cases hb);have Cd := Nat.le_of_eq ho.size.symm;clear ho hk;refine ipl_nil (iqw_block ?_);exact iqw_next Bg ⟨(some ⟨C1, 0, none⟩), Bm, (T Ce (T C4 (T C5 (T C6 (T C8 (T Cc Cd)))))), hE, Bf, Bh⟩
 ·
  clear Bk hE;intro D0 D2 Cb Cg h C3;obtain ⟨a9, c9, Cv, hE, b9, Bj⟩ := h;rw [List.take_of_length_le (by omega)] at Bj;refine iqw_block (iqw_then (icw_seq (icw_plain (iU (.slice a9 n c9) (xl (ld30 (b9.1))) ?_))));refine iT (.slice a9 n c9) ?_;refine ipl_nil (iqw_then (icw_ret ?_));refine iqw_ret w.heap.size [.slice a9 n c9] rfl (marksC (T C0 Cb) C3 (fun _ h => by cases h)) (by simp) (fun W9 hm9 => ?_);replace hE := hm9.ext hE (Nat.le_refl _);replace Bj := hm9.own Bj;have Cw := hm9.size;refine ⟨⟨(by kernel_rfl), trivial⟩, ?_⟩;exact ⟨_, _, rfl, (Bj).lower C0, hE⟩
 · intro _ _ _ _ _ _ _ h _;exact h.elim
theorem Collect_c {w0 w1 : World} {a : Option Addr} {n c B : Nat} {rs : List RawPc} (w : World) (hR : RawsAt w0 a n rs) (hn : n ≤ 1000) (e0 : Ext w0 w1) (cB : w1.cell? ⟨B, 0, none⟩ = some (.slice a n c)) (e1 : Ext w1 w) : Calls Tryz.prog 138 #[.func (.func 140) #[] #[pw B 0]] w fun e w' => ∃ (a' : Option Addr) (c' : Nat), e = .returned (.slice a' n c') ∧ OwnL rawR w.heap.size 49 4 (.slice a' n c') w' rs ∧ Ext w w' := by
 refine calls_cw 5 [(0, .func (.func 140) #[] #[pw B 0])] Tryz.func138 rfl Tryz.ntmps138 (by kernel_rfl) (by kernel_rfl) (fun L => ?_);have hE := Ext.refl w;refine zc (zp (pT (.slice none 0 0) ?_));refine zn (zc (zp (pT (.func (.func 140) #[] #[pw B 0]) ?_)));refine pS (sc 144 #[.slice none 0 0, .func (.func 140) #[] #[pw B 0]] ((AppendSeq_c _ hR hn e0 cB (e1.trans (Ext.refl _))).mono ?_));rintro e w4 ⟨a1, c2, rfl, own3, hb⟩;replace hE := hE.trans hb;have hs5 := hb.size;refine ⟨_, rfl, pT (.slice a1 n c2) ?_⟩;refine zn (cw_ret (qw_ret [.slice a1 n c2] rfl ⟨(by kernel_rfl), trivial⟩ ?_));exact ⟨_, _, rfl, (own3).lower (Nat.le_refl _), hE⟩
theorem SortedFunc_c {w0 w1 : World} {a : Option Addr} {n c B : Nat} {rs : List RawPc} (w : World) (hR : RawsAt w0 a n rs) (hn : n ≤ 1000) (e0 : Ext w0 w1) (cB : w1.cell? ⟨B, 0, none⟩ = some (.slice a n c)) (e1 : Ext w1 w) : Calls Tryz.prog 121 #[.func (.func 140) #[] #[pw B 0], .func (.func 123) #[] #[]] w fun e w' => ∃ (a' : Option Addr) (c' : Nat) (rs' : List RawPc), e = .returned (.slice a' n c') ∧ rs'.Perm rs ∧ (rs'.Pairwise fun x y => befR y x = false) ∧ RawsAt w' a' n rs' ∧ Ext w w' := by
 have hln := hR.1;refine calls_cw 12 [(1, .func (.func 123) #[] #[]), (0, .func (.func 140) #[] #[pw B 0])] Tryz.func121 rfl Tryz.ntmps121 (by kernel_rfl) (by kernel_rfl) (fun L => ?_);have hE := Ext.refl w;refine zc (zp (pT (.slice none 0 0) ?_));refine zn (zc (zp (pT (.func (.func 140) #[] #[pw B 0]) ?_)));refine pS (sc 138 #[.func (.func 140) #[] #[pw B 0]] ((Collect_c _ hR hn e0 cB (e1.trans (Ext.refl _))).mono ?_));rintro e w4 ⟨a1, c2, rfl, own3, hb⟩;replace hE := hE.trans hb;have hs5 := hb.size;refine ⟨_, rfl, pT (.slice a1 n c2) ?_⟩;refine zn (zc (zp (pD (.slice a1 n c2) (.func (.func 123) #[] #[]) ?_)));refine pS (sc 139 #[.slice a1 n c2, .func (.func 123) #[] #[]] ((Sort_c _ (own3) hln hn).mono ?_));rintro e w6 ⟨rfl, hP9⟩;obtain ⟨rs9, hp9, hs9, hr9, hU9, hz9⟩ := hP9;replace hE := hU9 _ hE (Nat.le_refl _);have hs7 := hz9;refine ⟨_, rfl, ?_⟩;refine zn (zc (zp (pD (.slice a1 n c2) (.slice a1 n c2) ?_)));refine zn (cw_ret (qw_ret [.slice a1 n c2] rfl ⟨(by kernel_rfl), trivial⟩ ?_));exact ⟨_, _, rs9, rfl, hp9, hs9, hr9, hE⟩
end Go.Proofs.YtajdohcgjgknmaaGreatDoor

namespace Go.Proofs.YtajdohcgjgknmaaGreatDoor
set_option maxRecDepth 1000000
set_option maxHeartbeats 4000000
set_option synthInstance.maxHeartbeats 0
set_option synthInstance.maxSize 9999
open Go.RowKit
theorem Prod.divF_len : ∀ (l : List Prod.Pc) (r : List Int), (Prod.divF r l).length ≤ l.length
 | [], _ => Nat.le_refl _
 | x :: l, r => by
  have := Prod.divF_len l (Globe.lessL r x.rw)
  rw [Prod.divF, List.length_append, List.length_cons]
  split <;> simp <;> omega
def FolP (w1 w : World) (O : Nat) (r : List Int) (l : List Prod.Pc) (e : Ending) (w' : World) : Prop :=
 ∃ (v : Option Addr) (n k : Nat) (a' : Option Addr) (i' c' : Nat), e = .returned (.agg #[.slice v n k]) ∧ BoxAt w' O 0 (.slice a' i' c') ∧ OwnS (fun k => w.heap.size ≤ k) pieceR 49 4 (.slice a' i' c') w' (Prod.divF r l) ∧ (Prod.divF r l).length = i' ∧ Ext w1 w' ∧ w.heap.size ≤ w'.heap.size
theorem foldD_v {w1 : World} {a : Option Addr} {n : Nat} {l : List Prod.Pc} {b o O : Nat} {r : List Int} (c k : Nat) (w : World) (h : PcsAt w1 a n l) (e1 : Ext w1 w) (hw1 : w1.heap.size ≤ O) (hv : VA w b o r) (hbO : O ≠ b) (hO : BoxAt w O 0 (.slice none 0 0)) (hn : n ≤ 100) (hT : Tab w1) (hok : ∀ p ∈ l, Globe.validL p.rw = true) :
  Calls Tryz.prog 62 #[.slice a n c, .agg #[sv b o 24 k], .func (.func 124) #[] #[pw O 0]] w (FolP w1 w O r l) := by
 have Cm := e1.size;have hnb := h.max;have hln := h.len;have ltb := hv.lt;have lO := hO.lt;have HOb := Lib.hid hbO;refine calls_cw 21 [(2, .func (.func 124) #[] #[pw O 0]), (1, .agg #[sv b o 24 k]), (0, .slice a n c)] Tryz.func62 rfl Tryz.ntmps62 (by kernel_rfl) (by kernel_rfl) (fun L => ?_);have hE := Ext.refl w;refine zc (zp (pS (sw 33 #[sv b o 24 k] ?_)));intro O1 X2 Bx D7 hb hbx;have Bi := bq1 hbx;refine mv4 hb e1 hE hv hO fun e1 hE hv hO=>?_;have Bu := hb.size;have C2 := Bi.lt;refine pS (sw 33 #[.slice none 0 0] ?_);intro O5 X6 Bp D8 hb hbx;have B7 := bq1 hbx;refine mv5 hb e1 hE hv hO Bi fun e1 hE hv hO Bi=>?_;have Bv := hb.size;have Cr := B7.lt;refine zn (zc (zc (zp (pD (.slice a n c) (iv n) ?_))));refine pT (iv 0) ?_;refine zn (cw_block ?_);refine cw_loop [2, 4, 6, 9, 10, 11] (fun ws' wr m => ∃ i BB : Nat, ∃ oB kB : Nat, ∃ a9 : Option Addr, ∃ i9 c9 : Nat, ws' = [(2, .func (.func 124) #[] #[pw O 0]), (4, pw O1 0), (6, pw O5 0), (9, .slice a n c), (10, iv n), (11, iv i)] ∧ m = n - i ∧ X6.heap.size ≤ wr.heap.size ∧ Ext w1 wr ∧ BoxAt wr O5 0 (.slice none 0 0) ∧ BoxAt wr O1 0 (sv BB oB 24 kB) ∧ VA wr BB oB (Prod.rest r (l.take i)) ∧ BoxAt wr O 0 (.slice a9 i9 c9) ∧ OwnS (fun k => X6.heap.size ≤ k) pieceR 49 4 (.slice a9 i9 c9) wr (Prod.divF r (l.take i)) ∧ i ≤ n ∧ (Prod.divF r (l.take i)).length = i9 ∧ (.slice a9 i9 c9 : Value).ownBlock ≠ some BB ∧ Hid (O1 ≠ BB) ∧ Hid (O5 ≠ BB) ∧ Hid (O ≠ BB)) (ws0 := [(2, .func (.func 124) #[] #[pw O 0]), (4, pw O1 0), (6, pw O5 0), (9, .slice a n c), (10, iv n), (11, iv 0)]) (by kernel_rfl) _ ⟨0, b, o, k, none, 0, 0, rfl, rfl, Nat.le_refl _, e1, B7, Bi, hv, hO, OwnS.nil _ _ _ _ _, by omega, rfl, (fun e => by cases e), Lib.hid (Nat.ne_of_gt (Nat.lt_of_lt_of_le ltb (Nat.le_of_eq Bx))), Lib.hid (Nat.ne_of_gt (Nat.lt_of_lt_of_le ltb (T Bu (Nat.le_of_eq Bp)))), Lib.hid HOb.out⟩ ?_;clear hv hO Bi B7 e1;rintro Dh L ws Ct ⟨i, BB, oB, kB, a9, i9, c9, rfl, rfl, Bz, e1, B7, b4, vB, bO, Cb, hi, Ch, hnB, Cv, C8, hneO⟩;have Da := vB.lt
 by_cases hlt : i < n
 ·
  obtain ⟨Cd, Cs, p, D5, Dg, C4, rfl, C9, Ci, Cj, Ck, Cl, Ce⟩ := h.at hlt;obtain ⟨C3, Ca, rfl, rfl, C5⟩ := va_of Ce (hok p (List.mem_of_getElem? C9));have Db := C5.lt;have htk : l.take (i + 1) = l.take i ++ [p] := by rw [List.take_add_one, C9];rfl
  have hrs : Prod.rest r (l.take (i + 1)) = Globe.lessL (Prod.rest r (l.take i)) p.rw := by rw [htk];exact Prod.rest_snoc _ _ _
  have hds : Prod.divF r (l.take (i + 1)) = Prod.divF r (l.take i) ++ (if Prod.noC (Globe.meetL (Prod.rest r (l.take i)) p.rw) = true then [] else [Prod.own (Prod.rest r (l.take i)) p]) := by rw [htk];exact Prod.divF_snoc _ _ _
  have hdl := Prod.divF_len (l.take i) r;rw [List.length_take] at hdl;have Bg := Ext.refl Ct;refine zc (zp (pU (.bool true) (ed (((i : Nat) : Int) < ((n : Nat) : Int)) (by omega)) ?_));refine zn (zc (zt ?_));refine cw_skip (zq (zc (cw_block ?_)));refine zc (zp (pU (pw Cd (Cs + i * 4)) (xi (sv Cd Cs n c) (iv i) (ix30 (k := i) (by omega))) ?_));refine pU (.agg #[iv p.im, iv p.t, .bool p.cl, sv C3 Ca 24 C4]) (xl (ld49 ((e1.cell Ci)) ((e1.cell Cj)) ((e1.cell Ck)) ((e1.cell Cl)))) ?_;refine pS (sw 49 #[iv 0, iv 0, .bool false, .slice none 0 0] ?_);intro Cu D0 C1 Cz hb hbx;have ⟨Ba, Bb, Bc, Be⟩ := bq4 hbx;refine mv2 hb e1 Bg fun e1 Bg=>?_;have Bk := hb.size;have Dc := Ba.lt;refine pP (zG Cu (iv p.im) (iv p.t) (.bool p.cl) (sv C3 Ca 24 C4) (st49 Ba.1 Ba.2 Bb.1 Bb.2 Bc.1 Bc.2 Be.1 Be.2) Ba Bb Bc Be ?_);intro D1 ho Ba Bb Bc Be hk;replace e1 := ho.ext e1 (T (T Cm (T Bu (T Bv Bz))) (Nat.le_of_eq C1));replace Bg := ho.ext Bg (Nat.le_of_eq C1);have Bm := Nat.le_of_eq ho.size.symm;clear ho hk;refine zn (zp (pT (.func (.func 124) #[] #[pw O 0]) ?_));refine pU (.agg #[sv BB oB 24 kB]) (xl (ld33 (b4.c Bg))) ?_;refine pU (.agg #[iv p.im, iv p.t, .bool p.cl, sv C3 Ca 24 C4]) (xl (ld49 (Ba.1) (Bb.1) (Bc.1) (Be.1))) ?_;refine pS (sc 124 #[.agg #[sv BB oB 24 kB], .agg #[iv p.im, iv p.t, .bool p.cl, sv C3 Ca 24 C4], pw O 0] ((divide2_c (x := p) _ _ _ (bO.x Bg) ((Cb.ext Bg)) Ch (by omega) (Nat.lt_of_lt_of_le lO (T Bu Bv)) (T Bz (T Bk Bm)) (vB.ext Bg) hneO.out hnB C5 e1 hw1 (hT.ext e1)).mono ?_));rintro e Df ⟨Cc, Cq, D4, D9, D6, rfl, Bt, Bw, Bj, Br, Cg, C6, Bq, Cf⟩;have Bf := Bq.box (B7.x Bg) (Nat.lt_of_lt_of_le Cr (Nat.le_refl _)) (Nat.ne_of_gt (Nat.lt_of_lt_of_le lO (T Bu (Nat.le_of_eq Bp))));have Bh := Bq.box (b4.x Bg) (Nat.lt_of_lt_of_le C2 Bv) (Nat.ne_of_gt (Nat.lt_of_lt_of_le lO (Nat.le_of_eq Bx)));replace e1 := Cf;have Cn := Bq.size;have Dd := Bw.lt;have De := Bj.lt;refine ⟨_, rfl, pP (zF O1 0 (sv Cc 0 24 Cq) (st33 Bh.1 Bh.2) Bh ?_)⟩;intro D2 ho Bh hk;replace e1 := ho.ext e1 (T Cm (Nat.le_of_eq Bx));replace Bf := ho.box (Nat.ne_of_lt (Nat.lt_of_lt_of_le C2 (Nat.le_of_eq Bp))) Bf;replace Bw := ho.va (Nat.ne_of_lt (Nat.lt_of_lt_of_le C2 (T (T Bv (T Bz (T Bk Bm))) Bt))) Bw;replace Bj := ho.box (Nat.ne_of_gt (Nat.lt_of_lt_of_le lO (Nat.le_of_eq Bx))) Bj;replace Br := Br.turn ho (notS1 (Nat.lt_of_lt_of_le C2 Bv));have Co := Nat.le_of_eq ho.size.symm;clear ho hk;refine pl_nil (qw_block (zq (zp (pU (iv ((i + 1 : Nat) : Int)) (ew (by omega) (by omega)) ?_))));refine pT (iv ((i + 1 : Nat) : Int)) ?_;refine pl_nil (qw_round [2, 4, 6, 9, 10, 11] (ws' := [(2, .func (.func 124) #[] #[pw O 0]), (4, pw O1 0), (6, pw O5 0), (9, sv Cd Cs n c), (10, iv n), (11, iv ((i + 1 : Nat) : Int))]) (by kernel_rfl) _ ?_ ⟨(i + 1), Cc, 0, Cq, D4, D9, D6, rfl, rfl, (T Bz (T Bk (T Bm (T Cn Co)))), e1, Bf, Bh, (by rw [hrs]; exact Bw), Bj, (by rw [hds]; exact Br), by omega, (by rw [hds]; exact Cg), C6, Lib.hid (Nat.ne_of_lt (Nat.lt_of_lt_of_le C2 (T (T Bv (T Bz (T Bk Bm))) Bt))), Lib.hid (Nat.ne_of_lt (Nat.lt_of_lt_of_le Cr (T (T Bz (T Bk Bm)) Bt))), Lib.hid (Nat.ne_of_lt (Nat.lt_of_lt_of_le lO (T (T Bu (T Bv (T Bz (T Bk Bm)))) Bt)))⟩);omega
 ·
  have hin : i = n := by omega
  rw [hin, List.take_of_length_le (Nat.le_of_eq hln)] at Cb Ch;refine zc (zp (pU (.bool false) (en (((i : Nat) : Int) < ((n : Nat) : Int)) (by omega)) ?_));refine zn (zc (zf ?_));refine cw_exit (qw_then_exit (qw_then_exit (qw_block_out (zq (zc (zp (pU (.agg #[sv BB oB 24 kB]) (xl (ld33 (b4.1))) ?_)))))));refine pP (zF O5 0 (sv BB oB 24 kB) (st33 B7.1 B7.2) B7 ?_);intro D3 ho B7 hk;replace e1 := ho.ext e1 (T (T Cm Bu) (Nat.le_of_eq Bp));replace bO := ho.box (Nat.ne_of_gt (Nat.lt_of_lt_of_le lO (T Bu (Nat.le_of_eq Bp)))) bO;replace Cb := Cb.turn ho (notS1 (Nat.lt_of_lt_of_le Cr (Nat.le_refl _)));have Cp := Nat.le_of_eq ho.size.symm;clear ho hk;refine zn (cw_ret (qw_ret [.agg #[sv BB oB 24 kB]] rfl ⟨⟨_, by kernel_rfl, res_ld (ld33 (B7.1))⟩, trivial⟩ ?_));exact ⟨_, _, _, _, _, _, rfl, bO, OwnS.mono (Cb) (fun k _ hk => T (T Bu Bv) hk), Ch, e1, (T Bu (T Bv (T Bz Cp)))⟩
end Go.Proofs.YtajdohcgjgknmaaGreatDoor
