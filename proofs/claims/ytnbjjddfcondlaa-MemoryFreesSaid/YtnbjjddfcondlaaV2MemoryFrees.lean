/- Part 2 of what the proof of MemoryFrees stands on. -/
import Derived.Test.YtnbjjddfcondlaaV1MemoryFrees
import Derived.OrdersIn
import Derived.TacticsIn
import Derived.Shelf.SlSortCmp.NoneTotal
/- A range over a function whose yields hand on memory: the round may lean on a fact Φ of what it is handed (a list that has just been laid, say). The iterator shows Φ at each of its calls of yield. -/
namespace Go.Proofs.Ytnbjjddfcondlaa
open Go.RowKit

/-- The iterator's contract. -/
def SeqM {α : Type} (P : Program) (g : Nat) (lb : Array Value) (encs : α → Array Value) (Φ : α → World → Prop) (Kp : World → World → Prop) (S Sp : List α → Prop) (w : World) : Prop :=
  ∀ (l : Nat) (J Jx : List α → World → Prop) (W : World), Below w.heap.size w W → AbidesFrom W.heap.size J → AbidesFrom W.heap.size Jx →
    (∀ pre x W1 m, J pre W1 → Φ x W1 → YieldAt Fence.wide m P l (encs x) W1 fun e W' => (e = .returned (.bool true) ∧ J (pre ++ [x]) W' ∧ Kp W1 W') ∨ (e = .returned (.bool false) ∧ Jx (pre ++ [x]) W' ∧ Kp W1 W')) →
    J [] W → ∀ n, CallsIn Fence.wide n P g (#[.func (.yield l) #[] #[]] ++ lb) W fun e W' => (∃ v, e = .returned v) ∧ ((∃ xs, S xs ∧ J xs W') ∨ (∃ pre, Sp pre ∧ Jx pre W'))

/-- How a round may be left: each way keeps what the iterator wants kept. -/
def roundM {α : Type} (B : Nat) (Kp : World → World → Prop) (I : List α → World → Prop) (Ix : Code → List α → World → Prop) (xs : List α) (W : World) : Exit → Act → World → Prop
  | .normal, _, W' => KeepsFrom B W W' ∧ Kp W W' ∧ I xs W'
  | .ret, _, W' => KeepsFrom B W W' ∧ Kp W W' ∧ Ix .ret xs W'
  | .exit id, _, W' => KeepsFrom B W W' ∧ Kp W W' ∧ Ix (.exit id) xs W'
  | .goto t, _, W' => KeepsFrom B W W' ∧ Kp W W' ∧ Ix (.goto t) xs W'
  | .panic _, _, _ => False
  | .outgrown, _, _ => False
/-- The loop's record. -/
def recOf (a : Act) (ps : Array Tmp) (assign body : Code) (fn : FuncId) (D : Nat) (st : LoopState) (pe : Option Code) : Loop := { state := st, pending := pe, fn, tmps := a.tmps, params := ps, assign, body, defers := D }

theorem rangeFunc_mem {α : Type} {P : Program} {n : Nat} {g : Operand} {ps : Array Tmp} {assign body : Code} {Q : Exit → Act → World → Prop} {a : Act} {w : World}
    {gf : Nat} {lb : Array Value} (hg : a.eval g = .func (.func gf) #[] lb) (eg : ∀ args w, (callFunc gf args).run P w = .ok (.enter gf args) w)
    {encs : α → Array Value} {Φ : α → World → Prop} {Kp : World → World → Prop} {S Sp : List α → Prop} {w0 : World} (hseq : SeqM P gf lb encs Φ Kp S Sp w0) (hb0 : Below w0.heap.size w0 w) (hps : ∀ x, (encs x).size = ps.size)
    (hΦ : ∀ x, OwnFrom w.heap.size (fun (_ : Unit) W => Φ x W))
    (hKt : ∀ {A B C : World}, Kp A B → Kp B C → Kp A C) (hKb : ∀ (W : World) (l : Nat) (o o' : Obj), w.heap.size ≤ l → W.heap[l]? = some o → o.isCells = false → o.isWalk = false → Kp W (W.putObj l o'))
    (I : List α → World → Prop) (Ix : Code → List α → World → Prop) (hI : OwnFrom w.heap.size I) (hIx : ∀ c, OwnFrom w.heap.size (Ix c)) (h0 : I [] w) (a₁ : α → Act)
    (hassign : ∀ (l m : Nat) (x : α) (W : World) (K : Act → World → Prop), K (a₁ x) W →
      assign.wpIn (Fence.wide.inRound l) m P (Exit.then K (fun _ _ _ => False)) { tmps := (ps.zip (encs x)).foldl (fun t (p, v) => t.setIfInBounds p v) a.tmps, defers := [] } W)
    (hbody : ∀ (l m : Nat) (pre : List α) (x : α) (W : World), I pre W → Φ x W → body.wpIn (Fence.wide.inRound l) m P (roundM w.heap.size Kp I Ix (pre ++ [x]) W) (a₁ x) W)
    (hdone : ∀ (D : Nat) (xs : List α) (W : World), w.heap.size ≤ D → S xs → I xs W → W.heap[D]? = some (.deferred (some [])) → Q .normal { a with defers := { target := .collected D, args := #[] } :: a.defers } W)
    (hstop : ∀ (D : Nat) (c : Code) (pre : List α) (W : World), w.heap.size ≤ D → Sp pre → Ix c pre W → W.heap[D]? = some (.deferred (some [])) → c.wpIn Fence.wide n P Q { a with defers := { target := .collected D, args := #[] } :: a.defers } W) :
    (Code.rangeFunc g ps assign body).wpIn Fence.wide n P Q a w := by
  refine wpIn_rangeFunc fun fn hfn => ?_
  let R := recOf a ps assign body fn w.heap.size
  have dn : ∀ st pe, (Obj.loop (R st pe)).isCells = false ∧ (Obj.loop (R st pe)).isWalk = false := fun _ _ => ⟨rfl, rfl⟩
  have dd : (Obj.deferred (some [])).isCells = false ∧ (Obj.deferred (some [])).isWalk = false := ⟨rfl, rfl⟩
  let W1 := (w.alloc (.deferred (some []))).alloc (.loop (R .ready none))
  have sz : W1.heap.size = w.heap.size + 2 := by simp [W1]
  have hL1 : W1.heap[w.heap.size + 1]? = some (.loop (R .ready none)) := by
    have := World.alloc_heap_new (w.alloc (.deferred (some []))) (.loop (R .ready none))
    rwa [World.size_alloc] at this
  have hK1 : W1.heap[w.heap.size]? = some (.deferred (some [])) := (Below.heap_alloc _ _ _ (by simp)).trans (World.alloc_heap_new w _)
  refine ⟨w.heap.size + 1, [{ target := .collected w.heap.size, args := #[] }], W1, { target := .fn (.func gf) lb, args := #[.func (.yield (w.heap.size + 1)) #[] #[]] }, W1, gf, #[.func (.yield (w.heap.size + 1)) #[] #[]] ++ lb, W1,
    run_enterLoop_outer _ _ _ _ _, ?_, fun _ _ => trivial, by simp [invoke, go_sem, eg], fun h => by simp [Fence.wide] at h, ?_⟩
  · simp only [resolve, hg]; simp [go_sem]
  -- what the iterator's own steps turn are walks' objects beyond W1: neither the record nor the mark's block
  have far : ∀ {A : World} {row : Option Nat}, (∀ r, row = some r → W1.heap.size ≤ r ∧ ∃ o : Obj, A.heap[r]? = some o ∧ o.isWalk = true) → (∀ r, row = some r → w.heap.size ≤ r ∧ ∃ o : Obj, A.heap[r]? = some o ∧ o.isCells = false) :=
    fun h r e => by obtain ⟨hB, o, ho, hw⟩ := h r e; exact ⟨by omega, o, ho, Obj.not_cells_of_walk hw⟩
  have stays : ∀ {A B : World} {row : Option Nat} {k : Nat} {o : Obj}, A.grownBy B row → (∀ r, row = some r → W1.heap.size ≤ r ∧ ∃ o : Obj, A.heap[r]? = some o ∧ o.isWalk = true) → A.heap[k]? = some o → o.isWalk = false → B.heap[k]? = some o :=
    fun h hr hk hw => (grownBy_keeps h (fun r e => (hr r e).2) hk hw).trans hk
  refine (hseq (w.heap.size + 1)
    (fun pre W => I pre W ∧ W.heap[w.heap.size + 1]? = some (.loop (R .ready none)) ∧ W.heap[w.heap.size]? = some (.deferred (some [])))
    (fun pre W => ∃ c, Ix c pre W ∧ W.heap[w.heap.size + 1]? = some (.loop (R .done (some c))) ∧ W.heap[w.heap.size]? = some (.deferred (some [])))
    W1 (hb0.trans ((((Below.refl _ w).alloc (Nat.le_refl _) _).alloc (by simp) _).mono hb0.size))
    (fun s A B row hs h hr => ⟨hI s A B row hs.1 h (far hr), stays h hr hs.2.1 rfl, stays h hr hs.2.2 rfl⟩)
    (fun s A B row ⟨c, hs, h1, h2⟩ h hr => ⟨c, hIx c s A B row hs h (far hr), stays h hr h1 rfl, stays h hr h2 rfl⟩)
    ?_ ⟨hI.alloc _ (hI.alloc _ h0), hL1, hK1⟩ _).mono ?_
  · rintro pre x W m ⟨hi, hl, hk⟩ hx
    have hlt := (Array.getElem?_eq_some_iff.1 hl).1
    refine ⟨fn, _, assign, body, run_yield (P := P) (args := encs x) hl (hps x), roundIn_of_wpIn hfn (hassign _ _ x W _ ⟨_, run_beginRound hl rfl, ?_⟩)⟩
    let W2 := W.putObj (w.heap.size + 1) (.loop (R .busy none))
    have hl2 : W2.heap[w.heap.size + 1]? = some (.loop (R .busy none)) := World.putObj_heap_same hlt
    have hk2 : W2.heap[w.heap.size]? = some (.deferred (some [])) := (World.putObj_heap_other (by omega)).trans hk
    have leave : ∀ (jump : Option Code) (W3 : World), KeepsFrom w.heap.size W2 W3 →
        W3.heap[w.heap.size + 1]? = some (.loop (R .busy none)) ∧
        (Instr.endRound (w.heap.size + 1) jump).run P W3 = .ok (.bool jump.isNone) (W3.putObj (w.heap.size + 1) (.loop (R (if jump.isNone then .ready else .done) jump))) ∧
        (W3.putObj (w.heap.size + 1) (.loop (R (if jump.isNone then .ready else .done) jump))).heap[w.heap.size + 1]? = some (.loop (R (if jump.isNone then .ready else .done) jump)) ∧
        (W3.putObj (w.heap.size + 1) (.loop (R (if jump.isNone then .ready else .done) jump))).heap[w.heap.size]? = some (.deferred (some [])) := fun jump W3 h3 => by
      have hl3 := h3.same _ _ (by omega) hl2 rfl
      exact ⟨hl3, run_endRound (P := P) jump hl3, World.putObj_heap_same (Array.getElem?_eq_some_iff.1 hl3).1, (World.putObj_heap_other (by omega)).trans (h3.same _ _ (Nat.le_refl _) hk2 rfl)⟩
    refine wpIn_mono (hbody _ _ pre x _ (hI.putObj _ hi (by omega) hl rfl) ((hΦ x).putObj (s := ()) _ hx (by omega) hl rfl)) fun e a3 W3 hp => ?_
    cases e with
    | normal =>
      obtain ⟨h3, hkp, hi3⟩ := hp
      obtain ⟨hl3, hr, q1, q2⟩ := leave none W3 h3
      exact ⟨_, _, hr, .inl ⟨rfl, ⟨hI.putObj _ hi3 (by omega) hl3 rfl, q1, q2⟩, hKt (hKt (hKb _ _ _ _ (by omega) hl rfl rfl) hkp) (hKb _ _ _ _ (by omega) hl3 rfl rfl)⟩⟩
    | ret =>
      obtain ⟨h3, hkp, hi3⟩ := hp
      obtain ⟨hl3, hr, q1, q2⟩ := leave (some .ret) W3 h3
      exact ⟨_, _, hr, .inr ⟨rfl, ⟨_, (hIx _).putObj _ hi3 (by omega) hl3 rfl, q1, q2⟩, hKt (hKt (hKb _ _ _ _ (by omega) hl rfl rfl) hkp) (hKb _ _ _ _ (by omega) hl3 rfl rfl)⟩⟩
    | exit id =>
      obtain ⟨h3, hkp, hi3⟩ := hp
      obtain ⟨hl3, hr, q1, q2⟩ := leave (some (.exit id)) W3 h3
      exact ⟨_, _, hr, .inr ⟨rfl, ⟨_, (hIx _).putObj _ hi3 (by omega) hl3 rfl, q1, q2⟩, hKt (hKt (hKb _ _ _ _ (by omega) hl rfl rfl) hkp) (hKb _ _ _ _ (by omega) hl3 rfl rfl)⟩⟩
    | goto t =>
      obtain ⟨h3, hkp, hi3⟩ := hp
      obtain ⟨hl3, hr, q1, q2⟩ := leave (some (.goto t)) W3 h3
      exact ⟨_, _, hr, .inr ⟨rfl, ⟨_, (hIx _).putObj _ hi3 (by omega) hl3 rfl, q1, q2⟩, hKt (hKt (hKb _ _ _ _ (by omega) hl rfl rfl) hkp) (hKb _ _ _ _ (by omega) hl3 rfl rfl)⟩⟩
    | panic _ => exact hp.elim
    | outgrown => exact hp.elim
  · rintro e W2 ⟨⟨v, rfl⟩, (⟨xs, hS, hi, hl, hk⟩ | ⟨pre, hSp, c, hi, hl, hk⟩)⟩
    · exact ⟨none, _, run_endLoop (P := P) hl (by simp [R, recOf]), hdone _ xs _ (Nat.le_refl _) hS (hI.putObj _ hi (by omega) hl rfl) ((World.putObj_heap_other (by omega)).trans hk)⟩
    · exact ⟨some c, _, run_endLoop (P := P) hl (by simp [R, recOf]), hstop _ c pre _ (Nat.le_refl _) hSp ((hIx c).putObj _ hi (by omega) hl rfl) ((World.putObj_heap_other (by omega)).trans hk)⟩

/-- Leaving with the marks of several such loops: each block for deferred calls is taken over, and is empty. -/
theorem leaves_marks {F : Fence} {n : Nat} {P : Program} {fn : Func} {tmps : Array Value} {R : Ending → World → Prop} (n₀ : Nat) (Pw : World → Prop)
    (hP : ∀ D W, n₀ ≤ D → Pw W → W.heap[D]? = some (.deferred (some [])) → Pw (W.putObj D (.deferred none))) (hend : ∀ W, Pw W → LeavesIn F n P fn tmps R [] .returning W) :
    ∀ (Ds : List Nat) (W : World), Ds.Nodup → (∀ D ∈ Ds, n₀ ≤ D ∧ W.heap[D]? = some (.deferred (some []))) → Pw W → LeavesInM F n P fn tmps R (Ds.map fun D => { target := .collected D, args := #[] }) .returning W
  | [], W, _, _, h => hend W h
  | D :: r, W, hn, hd, h => by
    obtain ⟨hD, hn'⟩ := List.nodup_cons.1 hn
    obtain ⟨h0, h1⟩ := hd D (by simp)
    refine ⟨by simp, .inl ⟨D, _, rfl, run_takeDeferred h1, ?_⟩⟩
    refine leaves_marks n₀ Pw hP hend r _ hn' (fun D' hD' => ?_) (hP D W h0 h h1)
    obtain ⟨q0, q1⟩ := hd D' (by simp [hD'])
    exact ⟨q0, (World.putObj_heap_other (fun e => hD (by rw [← e]; exact hD'))).trans q1⟩

end Go.Proofs.Ytnbjjddfcondlaa

/- The walk over a list of what has been written, within the rounds of a range over a function, and in functions that hold such loops or that yield. -/
namespace Go.Proofs.Ytnbjjddfcondlaa
open Go.RowKit

/-- The fence of a function's activation (none), or of a round of the loop l. -/
def FR (r : Option Nat) : Fence := { Fence.wide with round := r }
def marks (Ds : List Nat) : List Deferred := Ds.map fun D => { target := .collected D, args := #[] }

section
variable {P : Program} {n : Nat} {L : List Value} {ws : List (Nat × Value)} {w : World} {Q : Exit → Act → World → Prop} {r : Option Nat} {m : Nat} {Ds : List Nat}

theorem calls_fr {f : FuncId} {args : Array Value} {R : Ending → World → Prop} (h : Calls P f args w R) : CallsIn (FR r) m P f args w R := (callsIn_wide (n := m)).2 h
theorem semAt_of {ev : Operand → Value} {o : Oper} {nx : Next} {w' : World} (h : (execOp ev o).run P w = .ok nx w') (hd : ∀ d, nx ≠ .defer d) : (o.semAt r ev).run P w = .ok nx w' := by
  rw [Oper.semAt_eq]
  · exact h
  · intro c hc
    simp only [execOp, hc, Sem.run_bind] at h
    cases e : (resolve ev c o.type).run P w with
    | ok d w1 => rw [e] at h; simp [Result.andThen] at h; exact hd _ h.1.symm
    | halt x w1 => rw [e] at h; simp [Result.andThen] at h
theorem StepN.wpI {ev : Operand → Value} {oi : Oper} {N : Value → World → Prop} {a : Act} {K : Act → World → Prop} (h : StepN P ev oi w N) (he : a.eval = ev) (hK : ∀ v w', N v w' → K (a.put oi.dst v) w') : Oper.wpIn (FR r) m P oi a w K Q := by
  refine ⟨fun _ _ => trivial, ?_⟩
  rw [he]
  show oi.uponIn (FR r) m P a K Q ((oi.semAt r ev).run P w)
  rcases h with ⟨v, w', h1, h3⟩ | ⟨w', h1, h3⟩ | ⟨f, args, h1, h2⟩
  · rw [semAt_of h1 (by simp), Oper.uponIn_value]; exact hK v w' h3
  · rw [semAt_of h1 (by simp), Oper.uponIn_skip]; exact hK undef w' h3
  · rw [semAt_of h1 (by simp), Oper.uponIn_enter]
    exact ⟨fun h => by simp [FR, Fence.wide] at h, calls_fr (h2.mono fun e w' ⟨v, he, hn⟩ => by subst he; exact hK v w' hn)⟩
/-- A call of yield. -/
def StepY (P : Program) (m : Nat) (ev : Operand → Value) (oi : Oper) (w : World) (N : Value → World → Prop) : Prop :=
  ∃ l fn tmps assign body, (execOp ev oi).run P w = .ok (.round l fn tmps assign body) w ∧ RoundIn Fence.wide (m - 1) P l fn tmps assign body w fun e w' => ∃ v, e = .returned v ∧ N v w'
theorem StepY.wpI {ev : Operand → Value} {oi : Oper} {N : Value → World → Prop} {a : Act} {K : Act → World → Prop} (h : StepY P m ev oi w N) (he : a.eval = ev) (hK : ∀ v w', N v w' → K (a.put oi.dst v) w') : Oper.wpIn (FR r) m P oi a w K Q := by
  refine ⟨fun _ _ => trivial, ?_⟩
  rw [he]
  show oi.uponIn (FR r) m P a K Q ((oi.semAt r ev).run P w)
  obtain ⟨l, fn, tmps, assign, body, h1, h2⟩ := h
  rw [semAt_of h1 (by simp), Oper.uponIn_round]
  exact ⟨fun h => by simp [FR, Fence.wide] at h, (RoundIn.mono h2 fun e w' ⟨v, he, hn⟩ => by subst he; exact hK v w' hn : RoundIn Fence.wide (m - 1) P l fn tmps assign body w _)⟩
theorem sy_yield {ev : Operand → Value} {oi : Oper} {x : Operand} {ys : Array Operand} {ts : Array TypeId} {l : Nat} {args : Array Value} {N : Value → World → Prop} (hop : oi.op = .call { callee := .value x, args := ys, argTypes := ts }) (hx : ev x = .func (.yield l) #[] #[]) (hy : ys.map ev = args)
    (h : YieldAt Fence.wide (m - 1) P l args w fun e w' => ∃ v, e = .returned v ∧ N v w') : StepY P m ev oi w N := by
  obtain ⟨fn, tmps, assign, body, h1, h2⟩ := h
  refine ⟨l, fn, tmps, assign, body, ?_, h2⟩
  simp only [execOp, hop, resolve, hx, hy, Sem.run_bind]
  simp [Result.andThen, invoke, h1, Deferred.ofValue]

structure ICW (P : Program) (r : Option Nat) (m : Nat) (Ds : List Nat) (c : Code) (Q : Exit → Act → World → Prop) (n : Nat) (L : List Value) (ws : List (Nat × Value)) (w : World) : Prop where
  out : Bd n L ws → c.wpIn (FR r) m P Q ⟨(setAll L ws).toArray, marks Ds⟩ w
structure IQW (Ds : List Nat) (Q : Exit → Act → World → Prop) (e : Exit) (n : Nat) (L : List Value) (ws : List (Nat × Value)) (w : World) : Prop where
  out : Bd n L ws → Q e ⟨(setAll L ws).toArray, marks Ds⟩ w
structure IPL (P : Program) (r : Option Nat) (m : Nat) (Ds : List Nat) (ops rest : List Oper) (Q : Exit → Act → World → Prop) (n : Nat) (L : List Value) (ws : List (Nat × Value)) (w : World) : Prop where
  out : Bd n L ws → wpListIn (FR r) m P ops.toArray Q rest ⟨(setAll L ws).toArray, marks Ds⟩ w

/-- A function's end, with the marks of its loops. -/
def IBody (m : Nat) (P : Program) (fn : Func) (R : Ending → World → Prop) : Exit → Act → World → Prop
  | .normal, a, w => bodyPostM Fence.wide m P fn R .normal a w
  | .ret, a, w => bodyPostM Fence.wide m P fn R .ret a w
  | _, _, _ => False
theorem icalls {f : FuncId} {fn : Func} {c : Code} {av : List Value} {R : Ending → World → Prop} (n : Nat) (ws : List (Nat × Value)) (hf : P.funcs[f]? = some fn) (hb : fn.body = some c) (hn : fn.ntmps = n)
    (he : av ++ List.replicate (n - av.length) undef = setAll (List.replicate n undef) ws) (hl : ws.all (fun p => Nat.blt p.1 n) = true)
    (h : ∀ L m, ICW P none m [] c (IBody m P fn R) n L ws w) : CallsIn Fence.wide m P f av.toArray w R := by
  refine callsIn_of_wp_marks hf hb trivial ?_ rfl
  have e : (av.toArray ++ Array.replicate (fn.ntmps - av.toArray.size) undef : Array Value) = (setAll (List.replicate n undef) ws).toArray := by
    rw [hn, ← he]; simp
  rw [e]
  refine Go.wpIn_mono ((h _ m).out ⟨List.length_replicate, fun p hp => Nat.blt_eq.mp (List.all_eq_true.1 hl p hp)⟩) fun e a' w' q => ?_
  cases e with
  | normal => exact q
  | ret => exact q
  | _ => exact q.elim
theorem icalls_cw {f : FuncId} {fn : Func} {c : Code} {av : List Value} {R : Ending → World → Prop} (n : Nat) (ws : List (Nat × Value)) (hf : P.funcs[f]? = some fn) (hb : fn.body = some c) (hn : fn.ntmps = n)
    (he : av ++ List.replicate (n - av.length) undef = setAll (List.replicate n undef) ws) (hl : ws.all (fun p => Nat.blt p.1 n) = true)
    (h : ∀ L m, ICW P none m [] c (IBody m P fn R) n L ws w) : Calls P f av.toArray w R := (callsIn_wide (n := 0)).1 (icalls n ws hf hb hn he hl h)

theorem icw_seq {x y : Code} (h : ICW P r m Ds x (Exit.then (y.wpIn (FR r) m P Q) Q) n L ws w) : ICW P r m Ds (.seq x y) Q n L ws w := ⟨fun b => wpIn_seq (h.out b)⟩
theorem icw_block {id : Nat} {c : Code} (h : ICW P r m Ds c (Exit.inBlock id Q) n L ws w) : ICW P r m Ds (.block id c) Q n L ws w := ⟨fun b => wpIn_block (h.out b)⟩
theorem icw_skip (h : IQW Ds Q .normal n L ws w) : ICW P r m Ds .skip Q n L ws w := ⟨fun b => wpIn_skip (h.out b)⟩
theorem icw_exit {id : Nat} (h : IQW Ds Q (.exit id) n L ws w) : ICW P r m Ds (.exit id) Q n L ws w := ⟨fun b => wpIn_exit (h.out b)⟩
theorem icw_ret (h : IQW Ds Q .ret n L ws w) : ICW P r m Ds .ret Q n L ws w := ⟨fun b => wpIn_ret (h.out b)⟩
theorem icw_plain {id : Nat} {l : List Oper} (h : IPL P r m Ds l l Q n L ws w) : ICW P r m Ds (.region id l.toArray false) Q n L ws w := ⟨fun b => wpIn_region_lit (h.out b)⟩
theorem icw_t {c : Operand} {x y : Code} (hc : evalW L ws c = .bool true) (h : ICW P r m Ds x Q n L ws w) : ICW P r m Ds (.cond c x y) Q n L ws w := ⟨fun b => wpIn_cond_true (by rw [eval_W b.lt]; exact hc) (h.out b)⟩
theorem icw_f {c : Operand} {x y : Code} (hc : evalW L ws c = .bool false) (h : ICW P r m Ds y Q n L ws w) : ICW P r m Ds (.cond c x y) Q n L ws w := ⟨fun b => wpIn_cond_false (by rw [eval_W b.lt]; exact hc) (h.out b)⟩

theorem iqw_then {y : Code} (h : ICW P r m Ds y Q n L ws w) : IQW Ds (Exit.then (y.wpIn (FR r) m P Q) Q) .normal n L ws w := ⟨h.out⟩
theorem iqw_then_ret {K : Act → World → Prop} (h : IQW Ds Q .ret n L ws w) : IQW Ds (Exit.then K Q) .ret n L ws w := ⟨h.out⟩
theorem iqw_then_exit {K : Act → World → Prop} {id : Nat} (h : IQW Ds Q (.exit id) n L ws w) : IQW Ds (Exit.then K Q) (.exit id) n L ws w := ⟨h.out⟩
theorem iqw_block {id : Nat} (h : IQW Ds Q .normal n L ws w) : IQW Ds (Exit.inBlock id Q) .normal n L ws w := ⟨h.out⟩
theorem iqw_block_ret {id : Nat} (h : IQW Ds Q .ret n L ws w) : IQW Ds (Exit.inBlock id Q) .ret n L ws w := ⟨h.out⟩
theorem iqw_block_out {id : Nat} (h : IQW Ds Q .normal n L ws w) : IQW Ds (Exit.inBlock id Q) (.exit id) n L ws w := ⟨fun b => by
  show (if id = id then _ else _)
  rw [if_pos rfl]; exact h.out b⟩
theorem iqw_block_on {id id' : Nat} (hne : id' ≠ id) (h : IQW Ds Q (.exit id') n L ws w) : IQW Ds (Exit.inBlock id Q) (.exit id') n L ws w := ⟨fun b => by
  show (if id' = id then _ else _)
  rw [if_neg hne]; exact h.out b⟩

theorem ipl_nil {ops : List Oper} (h : IQW Ds Q .normal n L ws w) : IPL P r m Ds ops [] Q n L ws w := ⟨h.out⟩
theorem wantP_specD {ops : List Oper} {o : Oper} {b : Bool} (h : Bd n L ws) (hok : ∀ x ∈ ops, ∀ d, x.dst = some d → d < n) (hw : wantP ops L ws o.guard = b) :
    Region.wanted o (yielded ops.toArray (⟨(setAll L ws).toArray, marks Ds⟩ : Act).tmps) = b := wantP_spec h hok hw
theorem ipl_take {ops rest : List Oper} {o : Oper} {d : Nat} (v : Value) (hdst : o.dst = some d) (hok : dstOk n ops = true) (hd : Nat.blt d n = true) (hw : wantP ops L ws o.guard = true)
    (hr : (execOp (evalW L ws) o).run P w = .ok (.value v) w) (h : IPL P r m Ds ops rest Q n L ((d, v) :: ws) w) : IPL P r m Ds ops (o :: rest) Q n L ws w := ⟨fun b => by
  refine wpListIn_step fun K hK => ?_
  rw [if_pos (wantP_specD b (dstOk_spec hok) hw)]
  refine StepN.wpI (N := fun v' w' => v' = v ∧ w' = w) (.inl ⟨v, w, hr, rfl, rfl⟩) (eval_W b.lt _) fun v' w' ⟨e1, e2⟩ => hK _ _ ?_
  subst e1 e2
  rw [put_W, hdst]; exact h.out (b.put hd)⟩
theorem ipl_skip {ops rest : List Oper} {o : Oper} {d : Nat} (hdst : o.dst = some d) (hok : dstOk n ops = true) (hd : Nat.blt d n = true) (hw : wantP ops L ws o.guard = false)
    (h : IPL P r m Ds ops rest Q n L ((d, undef) :: ws) w) : IPL P r m Ds ops (o :: rest) Q n L ws w := ⟨fun b => by
  refine wpListIn_step fun K hK => ?_
  rw [if_neg (by rw [wantP_specD b (dstOk_spec hok) hw]; simp)]
  refine ⟨fun _ _ => trivial, hK _ _ ?_⟩
  rw [put_W, hdst]; exact h.out (b.put hd)⟩
theorem ipl_step {ops rest : List Oper} {o : Oper} {d : Nat} (hdst : o.dst = some d) (hok : dstOk n ops = true) (hd : Nat.blt d n = true) (hw : wantP ops L ws o.guard = true)
    (h : StepN P (evalW L ws) o w fun v w' => IPL P r m Ds ops rest Q n L ((d, v) :: ws) w') : IPL P r m Ds ops (o :: rest) Q n L ws w := ⟨fun b => by
  refine wpListIn_step fun K hK => ?_
  rw [if_pos (wantP_specD b (dstOk_spec hok) hw)]
  exact h.wpI (eval_W b.lt _) fun v w' hn => hK _ _ (by rw [put_W, hdst]; exact hn.out (b.put hd))⟩
theorem ipl_yield {ops rest : List Oper} {o : Oper} {d : Nat} (hdst : o.dst = some d) (hok : dstOk n ops = true) (hd : Nat.blt d n = true) (hw : wantP ops L ws o.guard = true)
    (h : StepY P m (evalW L ws) o w fun v w' => IPL P r m Ds ops rest Q n L ((d, v) :: ws) w') : IPL P r m Ds ops (o :: rest) Q n L ws w := ⟨fun b => by
  refine wpListIn_step fun K hK => ?_
  rw [if_pos (wantP_specD b (dstOk_spec hok) hw)]
  exact h.wpI (eval_W b.lt _) fun v w' hn => hK _ _ (by rw [put_W, hdst]; exact hn.out (b.put hd))⟩
theorem ipl_put {ops rest : List Oper} {o : Oper} (hdst : o.dst = none) (hok : dstOk n ops = true) (hw : wantP ops L ws o.guard = true)
    (h : StepN P (evalW L ws) o w fun _ w' => IPL P r m Ds ops rest Q n L ws w') : IPL P r m Ds ops (o :: rest) Q n L ws w := ⟨fun b => by
  refine wpListIn_step fun K hK => ?_
  rw [if_pos (wantP_specD b (dstOk_spec hok) hw)]
  exact h.wpI (eval_W b.lt _) fun v w' hn => hK _ _ (by rw [put_W, hdst]; exact hn.out b)⟩
theorem icw_clean {c : Code} (ks : List Nat) {ws' : List (Nat × Value)} (hp : pickW ws ks = some ws') (h : ∀ L', ICW P r m Ds c Q n L' ws' w) : ICW P r m Ds c Q n L ws w := ⟨fun b => by
  have := (h (setAll L ws)).out (pick_bd hp b)
  rwa [pick_set hp] at this⟩
theorem icw_join {c : Code} (R : List (Nat × Value) → World → Prop) (main : (∀ L' ws' w', R ws' w' → IQW Ds Q .normal n L' ws' w') → ICW P r m Ds c Q n L ws w) (rest : ∀ L' ws' w', R ws' w' → IQW Ds Q .normal n L' ws' w') : ICW P r m Ds c Q n L ws w := main rest
theorem iqw_leaf {R : List (Nat × Value) → World → Prop} (hJ : ∀ L' ws' w', R ws' w' → IQW Ds Q .normal n L' ws' w') (ks : List Nat) {ws' : List (Nat × Value)} (hp : pickW ws ks = some ws') (h : R ws' w) : IQW Ds Q .normal n L ws w := ⟨fun b => by
  have := (hJ (setAll L ws) ws' w h).out (pick_bd hp b)
  rwa [pick_set hp] at this⟩
def ILoopK (n : Nat) (Ds : List Nat) (Inv : List (Nat × Value) → World → Nat → Prop) (m : Nat) : Act → World → Prop := fun a w => ∃ L' ws' m', m' < m ∧ Bd n L' ws' ∧ a = ⟨(setAll L' ws').toArray, marks Ds⟩ ∧ Inv ws' w m'
open Classical in
theorem icw_loop {c : Code} (ks : List Nat) (Inv : List (Nat × Value) → World → Nat → Prop) {ws0 : List (Nat × Value)} (hp : pickW ws ks = some ws0) (m0 : Nat) (h0 : Inv ws0 w m0)
    (round : ∀ k L' ws' w', Inv ws' w' k → ICW P r m Ds c (Exit.then (ILoopK n Ds Inv k) Q) n L' ws' w') : ICW P r m Ds (.loop c) Q n L ws w := ⟨fun b => by
  let J : Nat → Act → World → Prop := fun k a w => ∃ L' ws', Bd n L' ws' ∧ a = ⟨(setAll L' ws').toArray, marks Ds⟩ ∧ Inv ws' w k
  let μ : Act → World → Nat := fun a w => if h : ∃ k, J k a w then Classical.choose (least h) else 0
  have hμ : ∀ a w (h : ∃ k, J k a w), J (μ a w) a w ∧ ∀ k, J k a w → μ a w ≤ k := fun a w h => by
    have e : μ a w = Classical.choose (least h) := dif_pos h
    rw [e]; exact Classical.choose_spec (least h)
  refine wpIn_loop (fun a w => ∃ k, J k a w) μ ⟨m0, setAll L ws, ws0, pick_bd hp b, by rw [pick_set hp], h0⟩ fun a w h => ?_
  obtain ⟨⟨L', ws', hb, ha, hI⟩, _⟩ := hμ a w h
  have := (round (μ a w) L' ws' w hI).out hb
  rw [← ha] at this
  refine Go.wpIn_mono this (fun e a' w' q => ?_)
  cases e with
  | normal =>
    obtain ⟨L2, ws2, m2, hlt, hb2, ha2, hI2⟩ := q
    have hJ : J m2 a' w' := ⟨L2, ws2, hb2, ha2, hI2⟩
    exact ⟨⟨m2, hJ⟩, Nat.lt_of_le_of_lt ((hμ a' w' ⟨m2, hJ⟩).2 m2 hJ) hlt⟩
  | _ => exact q⟩
theorem iqw_round {Inv : List (Nat × Value) → World → Nat → Prop} {k : Nat} (ks : List Nat) {ws' : List (Nat × Value)} (hp : pickW ws ks = some ws') (m' : Nat) (hlt : m' < k) (h : Inv ws' w m') : IQW Ds (Exit.then (ILoopK n Ds Inv k) Q) .normal n L ws w := ⟨fun b =>
  ⟨setAll L ws, ws', m', hlt, pick_bd hp b, by rw [pick_set hp], h⟩⟩
end

/-! The loops' own book-keeping turns objects that are no cells, at n₀ or behind it. -/
structure Mv (n₀ : Nat) (A B : World) : Prop where
  os : B.os = A.os
  tape : B.tape = A.tape
  output : B.output = A.output
  size : A.heap.size ≤ B.heap.size
  cells : ∀ (k : Nat) (o : Obj), A.heap[k]? = some o → o.isCells = true → B.heap[k]? = some o
  below : ∀ (k : Nat), k < n₀ → k < A.heap.size → B.heap[k]? = A.heap[k]?
theorem Mv.refl (n₀ : Nat) (A : World) : Mv n₀ A A := ⟨rfl, rfl, rfl, Nat.le_refl _, fun _ _ h _ => h, fun _ _ _ => rfl⟩
theorem Mv.trans {n₀ : Nat} {A B C : World} (h : Mv n₀ A B) (k : Mv n₀ B C) : Mv n₀ A C :=
  ⟨k.os.trans h.os, k.tape.trans h.tape, k.output.trans h.output, Nat.le_trans h.size k.size, fun i o hi ho => k.cells i o (h.cells i o hi ho) ho, fun i hi hl => (k.below i hi (Nat.lt_of_lt_of_le hl h.size)).trans (h.below i hi hl)⟩
theorem Mv.of_ext {n₀ : Nat} {A B : World} (h : Ext A B) : Mv n₀ A B :=
  ⟨h.os, h.tape, h.output, h.size, fun k _ hk _ => (h.block k (Array.getElem?_eq_some_iff.1 hk).1).trans hk, fun k _ hk => h.block k hk⟩
theorem Mv.putObj {n₀ : Nat} {A : World} {k : Nat} {o : Obj} (o' : Obj) (hk : n₀ ≤ k) (ho : A.heap[k]? = some o) (hc : o.isCells = false) : Mv n₀ A (A.putObj k o') :=
  ⟨rfl, rfl, rfl, by simp, fun j u hj hu => (World.putObj_heap_other (fun e => by subst e; rw [ho] at hj; cases hj; rw [hc] at hu; cases hu)).trans hj, fun j hj _ => World.putObj_heap_other (by omega)⟩
theorem Mv.ext {n₀ : Nat} {A B U : World} (h : Mv n₀ A B) (hU : Ext U A) (hn : U.heap.size ≤ n₀) : Ext U B :=
  ⟨h.os.trans hU.os, h.tape.trans hU.tape, h.output.trans hU.output, Nat.le_trans hU.size h.size, fun k hk => (h.below k (Nat.lt_of_lt_of_le hk hn) (Nat.lt_of_lt_of_le hk hU.size)).trans (hU.block k hk)⟩
theorem Mv.cell {n₀ : Nat} {A B : World} (h : Mv n₀ A B) {p : Addr} {v : Value} (hv : A.cell? p = some v) : B.cell? p = some v := by
  obtain ⟨o, ho, hc⟩ := cells_of_cell hv
  exact (World.cell?_of_block ((h.cells _ o ho hc).trans ho.symm)).trans hv
theorem Mv.froz {n₀ : Nat} {A B : World} (h : Mv n₀ A B) {p : Addr} {v : Value} (hv : A.cell? p = some v) : B.frozen? p = A.frozen? p := by
  obtain ⟨o, ho, hc⟩ := cells_of_cell hv
  exact World.frozen?_of_block ((h.cells _ o ho hc).trans ho.symm)
theorem Mv.box {n₀ : Nat} {A B : World} (h : Mv n₀ A B) {b o : Nat} {v : Value} (hv : BoxAt A b o v) : BoxAt B b o v := ⟨h.cell hv.1, by rw [h.froz hv.1]; exact hv.2⟩
theorem Mv.va {n₀ : Nat} {A B : World} (h : Mv n₀ A B) {b o : Nat} {l : List Int} (hv : VA A b o l) : VA B b o l := ⟨fun i hi => h.cell (hv.1 i hi), hv.2⟩
theorem Mv.rows {n₀ : Nat} {A B : World} (h : Mv n₀ A B) {b : Nat} {l : List Int} (hv : RowsAt A b l) : RowsAt B b l := ⟨hv.1, fun i hi => h.cell (hv.cell hi), fun i hi => by rw [h.froz (hv.cell hi)]; exact hv.free hi⟩
theorem Mv.ints {n₀ : Nat} {A B : World} (h : Mv n₀ A B) {a : Option Addr} {l : List Int} (hv : IntsAt A a l) : IntsAt B a l := by
  rcases hv with q | ⟨b, off, rfl, q⟩
  · exact .inl q
  · exact .inr ⟨b, off, rfl, fun i hi => h.cell (q i hi)⟩
theorem Mv.mark {n₀ : Nat} {A B : World} (h : Mv n₀ A B) {D : Nat} {x : Option (List Deferred)} (hD : A.heap[D]? = some (.deferred x)) (hlt : D < n₀) : B.heap[D]? = some (.deferred x) :=
  (h.below D hlt (Array.getElem?_eq_some_iff.1 hD).1).trans hD
theorem Mv.own {α : Type} {R : Rep α} {n₀ n₁ : Nat} {e : TypeId} {size : Nat} {v : Value} {A B : World} {l : List α} (h : Mv n₁ A B) (ho : OwnL R n₀ e size v A l) : OwnL R n₀ e size v B l := by
  obtain ⟨cs, h1, h2, h3, h4⟩ := ho
  refine ⟨cs, h1, h2, ⟨h3.1, ?_⟩, fun j x c hx hc => ?_⟩
  · rcases h3.2 with q | ⟨g, cap, cur, q, hb, hcur, rest⟩
    · exact .inl q
    · exact .inr ⟨g, cap, cur, q, hb, h.cells _ _ hcur rfl, rest⟩
  · obtain ⟨F, q1, q2⟩ := h4 j x c hx hc
    exact ⟨F, R.keep q1 (fun b _ o u hu => h.cell hu), q2⟩

/-! What a round keeps. -/
/-- Cells keep their content, but for the blocks of X. -/
structure KeptX (X : Nat → Prop) (A B : World) : Prop where
  size : A.heap.size ≤ B.heap.size
  cells : ∀ (k : Nat) (o : Obj), A.heap[k]? = some o → o.isCells = true → ¬ X k → B.heap[k]? = some o
theorem KeptX.trans {X : Nat → Prop} {A B C : World} (h : KeptX X A B) (k : KeptX X B C) : KeptX X A C := ⟨Nat.le_trans h.size k.size, fun i o hi ho hx => k.cells i o (h.cells i o hi ho hx) ho hx⟩
theorem KeptX.of_mv {X : Nat → Prop} {n₀ : Nat} {A B : World} (h : Mv n₀ A B) : KeptX X A B := ⟨h.size, fun k o hk ho _ => h.cells k o hk ho⟩
theorem KeptX.cell {X : Nat → Prop} {A B : World} (h : KeptX X A B) {b o : Nat} {v : Value} (hx : ¬ X b) (hv : A.cell? ⟨b, o, none⟩ = some v) : B.cell? ⟨b, o, none⟩ = some v := by
  obtain ⟨u, hu, hc⟩ := cells_of_cell hv
  exact (World.cell?_of_block ((h.cells _ u hu hc hx).trans hu.symm)).trans hv
theorem KeptX.box {X : Nat → Prop} {A B : World} (h : KeptX X A B) {b o : Nat} {v : Value} (hx : ¬ X b) (hv : BoxAt A b o v) : BoxAt B b o v := by
  obtain ⟨u, hu, hc⟩ := cells_of_cell hv.1
  exact ⟨h.cell hx hv.1, (World.frozen?_of_block ((h.cells _ u hu hc hx).trans hu.symm)).trans hv.2⟩
structure RK (n₀ : Nat) (X : Nat → Prop) (A B : World) : Prop where
  kept : KeptX X A B
  oth : KeepsFrom n₀ A B
theorem RK.refl (n₀ : Nat) (X : Nat → Prop) (A : World) : RK n₀ X A A := ⟨⟨Nat.le_refl _, fun _ _ h _ _ => h⟩, KeepsFrom.refl _ _⟩
theorem RK.ext {n₀ : Nat} {X : Nat → Prop} {A B C : World} (h : RK n₀ X A B) (e : Ext B C) : RK n₀ X A C :=
  ⟨h.kept.trans (KeptX.of_mv (n₀ := 0) (Mv.of_ext e)), h.oth.trans (e.others.from _)⟩
theorem RK.turn {n₀ : Nat} {X : Nat → Prop} {A B C : World} (h : RK n₀ X A B) {O : Nat} (t : Turns O B C) (hO : X O ∨ A.heap.size ≤ O) : RK n₀ X A C := by
  refine ⟨⟨by rw [t.size]; exact h.kept.size, fun k o hk ho hx => ?_⟩, ⟨by rw [t.size]; exact h.oth.size, fun k o hk hi ho => ?_⟩⟩
  · have hne : k ≠ O := fun e => by
      subst e
      rcases hO with q | q
      · exact hx q
      · have := (Array.getElem?_eq_some_iff.1 hk).1; omega
    rw [t.heap' k hne]; exact h.kept.cells k o hk ho hx
  · have h2 := h.oth.same k o hk hi ho
    by_cases e : k = O
    · subst e; exact t.oth' o h2 ho
    · rw [t.heap' k e]; exact h2

/-! A range over a function that yields N times, in order. -/
def SeqN (P : Program) (g : Nat) (lb : Array Value) (N : Nat) (encs : Nat → List Value) (Φ : Nat → World → Prop) (X : Nat → Prop) (w : World) : Prop :=
  ∀ (l : Nat) (J Jx : Nat → World → Prop) (W : World), Ext w W → (∀ i A B, J i A → Ext A B → J i B) → (∀ i A B, Jx i A → Ext A B → Jx i B) →
    (∀ i W1 m, i < N → J i W1 → Φ i W1 → YieldAt Fence.wide m P l (encs i).toArray W1 fun e W' => (e = .returned (.bool true) ∧ J (i + 1) W' ∧ KeptX X W1 W') ∨ (e = .returned (.bool false) ∧ Jx i W' ∧ KeptX X W1 W')) →
    J 0 W → ∀ n, CallsIn Fence.wide n P g (#[.func (.yield l) #[] #[]] ++ lb) W fun e W' => (∃ v, e = .returned v) ∧ (J N W' ∨ ∃ i, i < N ∧ Jx i W')
/-- How a round may be left. -/
def RndQ (n₀ : Nat) (X : Nat → Prop) (Inv : Nat → World → Prop) (Ix : Code → Nat → World → Prop) (i : Nat) (W : World) : Exit → Act → World → Prop
  | .normal, _, W' => RK n₀ X W W' ∧ Inv (i + 1) W'
  | .ret, _, W' => RK n₀ X W W' ∧ Ix .ret i W'
  | .exit id, _, W' => RK n₀ X W W' ∧ Ix (.exit id) i W'
  | _, _, _ => False
/-- How the assignments to the loop's variables end. -/
def AsgQ (P : Program) (l k n₀ : Nat) (X : Nat → Prop) (body : Code) (Inv : Nat → World → Prop) (Ix : Code → Nat → World → Prop) (i : Nat) (W : World) : Exit → Act → World → Prop
  | .normal, a, w1 => RK n₀ X W w1 ∧ ∀ w2, Mv n₀ w1 w2 → body.wpIn (FR (some l)) k P (RndQ n₀ X Inv Ix i w2) a w2
  | _, _, _ => False
def zipW : List Nat → List Value → List (Nat × Value) → List (Nat × Value)
  | p :: ps, v :: vs, ws => zipW ps vs ((p, v) :: ws)
  | _, _, ws => ws
theorem zip_setL (L : List Value) : ∀ (ps : List Nat) (vs : List Value) (ws : List (Nat × Value)), (ps.zip vs).foldl (fun t (p, v) => t.setIfInBounds p v) (setAll L ws).toArray = (setAll L (zipW ps vs ws)).toArray
  | p :: ps, v :: vs, ws => by
    have ih := zip_setL L ps vs ((p, v) :: ws)
    rw [zipW, ← ih, List.zip_cons_cons, List.foldl_cons]
    simp [setAll]
  | [], vs, ws => by simp [zipW]
  | p :: ps, [], ws => by simp [zipW]
theorem zip_set (L : List Value) (ps : List Nat) (vs : List Value) (ws : List (Nat × Value)) : (ps.toArray.zip vs.toArray).foldl (fun t (p, v) => t.setIfInBounds p v) (setAll L ws).toArray = (setAll L (zipW ps vs ws)).toArray := by
  rw [← zip_setL, List.zip_toArray]
  exact List.foldl_toArray _ _ _
theorem zip_bd {n : Nat} {L : List Value} : ∀ {ps : List Nat} {vs : List Value} {ws : List (Nat × Value)}, Bd n L ws → ps.all (fun p => Nat.blt p n) = true → Bd n L (zipW ps vs ws)
  | p :: ps, v :: vs, ws, b, h => by
    simp only [List.all_cons, Bool.and_eq_true] at h
    exact zip_bd (ps := ps) (vs := vs) (b.put h.1) h.2
  | [], vs, ws, b, _ => b
  | p :: ps, [], ws, b, _ => b
section
variable {P : Program} {n : Nat} {L : List Value} {ws : List (Nat × Value)} {w : World} {Q : Exit → Act → World → Prop} {r : Option Nat} {m : Nat} {Ds : List Nat}
theorem icw_range {g : Operand} {ps : List Nat} {assign body : Code} {gf : Nat} {lb : Array Value} (hg : evalW L ws g = .func (.func gf) #[] lb) (eg : ∀ args w, (callFunc gf args).run P w = .ok (.enter gf args) w)
    {N : Nat} {encs : Nat → List Value} {Φ : Nat → World → Prop} {X : Nat → Prop} {w0 : World} (hseq : SeqN P gf lb N encs Φ X w0) (hb0 : Ext w0 w) (hps : ∀ i, (encs i).length = ps.length) (hpn : ps.all (fun p => Nat.blt p n) = true)
    (Inv : Nat → World → Prop) (Ix : Code → Nat → World → Prop) (hI : ∀ i A B, Inv i A → Mv w.heap.size A B → Inv i B) (hIx : ∀ c i A B, Ix c i A → Mv w.heap.size A B → Ix c i B) (h0 : Inv 0 w)
    (round : ∀ l k i W, i < N → Inv i W → Φ i W → ICW P (some l) k [] assign (AsgQ P l k w.heap.size X body Inv Ix i W) n L (zipW ps (encs i) ws) W)
    (done : ∀ D W, w.heap.size ≤ D → D < W.heap.size → Inv N W → W.heap[D]? = some (.deferred (some [])) → IQW (D :: Ds) Q .normal n L ws W)
    (stop : ∀ c D i W, w.heap.size ≤ D → D < W.heap.size → i < N → Ix c i W → W.heap[D]? = some (.deferred (some [])) → ICW P none m (D :: Ds) c Q n L ws W) :
    ICW P none m Ds (.rangeFunc g ps.toArray assign body) Q n L ws w := ⟨fun b => by
  have hgv : Act.eval ⟨(setAll L ws).toArray, marks Ds⟩ g = .func (.func gf) #[] lb := by rw [eval_W b.lt]; exact hg
  show (Code.rangeFunc g ps.toArray assign body).wpIn Fence.wide m P Q ⟨(setAll L ws).toArray, marks Ds⟩ w
  refine wpIn_rangeFunc fun fn hfn => ?_
  let R := recOf ⟨(setAll L ws).toArray, marks Ds⟩ ps.toArray assign body fn w.heap.size
  let W1 := (w.alloc (.deferred (some []))).alloc (.loop (R .ready none))
  have sz : W1.heap.size = w.heap.size + 2 := by simp [W1]
  have hL1 : W1.heap[w.heap.size + 1]? = some (.loop (R .ready none)) := by
    have := World.alloc_heap_new (w.alloc (.deferred (some []))) (.loop (R .ready none))
    rwa [World.size_alloc] at this
  have hK1 : W1.heap[w.heap.size]? = some (.deferred (some [])) := (Below.heap_alloc _ _ _ (by simp)).trans (World.alloc_heap_new w _)
  have hE1 : Ext w W1 := ((Ext.refl w).alloc _).alloc _
  refine ⟨w.heap.size + 1, [{ target := .collected w.heap.size, args := #[] }], W1, { target := .fn (.func gf) lb, args := #[.func (.yield (w.heap.size + 1)) #[] #[]] }, W1, gf, #[.func (.yield (w.heap.size + 1)) #[] #[]] ++ lb, W1,
    run_enterLoop_outer _ _ _ _ _, ?_, fun _ _ => trivial, by simp [invoke, go_sem, eg], fun h => by simp [Fence.wide] at h, ?_⟩
  · have hgv' : Act.eval ⟨(setAll L ws).toArray, marks Ds⟩ g = .func (.func gf) #[] lb := hgv
    simp only [resolve, hgv']; simp [go_sem]
  refine (hseq (w.heap.size + 1)
    (fun i W => Inv i W ∧ W.heap[w.heap.size + 1]? = some (.loop (R .ready none)) ∧ W.heap[w.heap.size]? = some (.deferred (some [])))
    (fun i W => ∃ c, Ix c i W ∧ W.heap[w.heap.size + 1]? = some (.loop (R .done (some c))) ∧ W.heap[w.heap.size]? = some (.deferred (some [])))
    W1 (hb0.trans hE1)
    (fun i A B hs e => ⟨hI i A B hs.1 (Mv.of_ext e), (e.block _ (Array.getElem?_eq_some_iff.1 hs.2.1).1).trans hs.2.1, (e.block _ (Array.getElem?_eq_some_iff.1 hs.2.2).1).trans hs.2.2⟩)
    (fun i A B ⟨c, h1, h2, h3⟩ e => ⟨c, hIx c i A B h1 (Mv.of_ext e), (e.block _ (Array.getElem?_eq_some_iff.1 h2).1).trans h2, (e.block _ (Array.getElem?_eq_some_iff.1 h3).1).trans h3⟩)
    ?_ ⟨hI 0 w W1 h0 (Mv.of_ext hE1), hL1, hK1⟩ _).mono ?_
  · rintro i W k hi ⟨hInv, hl, hk⟩ hx
    have hlt := (Array.getElem?_eq_some_iff.1 hl).1
    have hsz : (encs i).toArray.size = ps.toArray.size := by simp [hps i]
    refine ⟨fn, _, assign, body, run_yield (P := P) (args := (encs i).toArray) hl hsz, roundIn_of_wpIn (F := Fence.wide) hfn ?_⟩
    have hround := (round (w.heap.size + 1) k i W hi hInv hx).out (zip_bd b hpn)
    have e0 : (⟨(setAll L (zipW ps (encs i) ws)).toArray, marks []⟩ : Act) = { tmps := (ps.toArray.zip (encs i).toArray).foldl (fun t (p, v) => t.setIfInBounds p v) (setAll L ws).toArray, defers := [] } := by rw [zip_set]; rfl
    rw [e0] at hround
    refine Go.wpIn_mono hround fun e a1 w1 hp => ?_
    cases e with
    | normal =>
      obtain ⟨hk1, hbody⟩ := hp
      have hl1 := hk1.oth.same _ _ (by omega) hl rfl
      have hkk := hk1.oth.same _ _ (Nat.le_refl _) hk rfl
      have hlt1 := (Array.getElem?_eq_some_iff.1 hl1).1
      refine ⟨_, run_beginRound hl1 rfl, ?_⟩
      let W2 := w1.putObj (w.heap.size + 1) (.loop (R .busy none))
      have hm2 : Mv w.heap.size w1 W2 := Mv.putObj _ (by omega) hl1 rfl
      have hl2 : W2.heap[w.heap.size + 1]? = some (.loop (R .busy none)) := World.putObj_heap_same hlt1
      have hk2 : W2.heap[w.heap.size]? = some (.deferred (some [])) := (World.putObj_heap_other (by omega)).trans hkk
      have leave : ∀ (jump : Option Code) (W3 : World), RK w.heap.size X W2 W3 →
          W3.heap[w.heap.size + 1]? = some (.loop (R .busy none)) ∧
          (Instr.endRound (w.heap.size + 1) jump).run P W3 = .ok (.bool jump.isNone) (W3.putObj (w.heap.size + 1) (.loop (R (if jump.isNone then .ready else .done) jump))) ∧
          (W3.putObj (w.heap.size + 1) (.loop (R (if jump.isNone then .ready else .done) jump))).heap[w.heap.size + 1]? = some (.loop (R (if jump.isNone then .ready else .done) jump)) ∧
          (W3.putObj (w.heap.size + 1) (.loop (R (if jump.isNone then .ready else .done) jump))).heap[w.heap.size]? = some (.deferred (some [])) ∧
          Mv w.heap.size W3 (W3.putObj (w.heap.size + 1) (.loop (R (if jump.isNone then .ready else .done) jump))) ∧ KeptX X W (W3.putObj (w.heap.size + 1) (.loop (R (if jump.isNone then .ready else .done) jump))) := fun jump W3 h3 => by
        have hl3 := h3.oth.same _ _ (by omega) hl2 rfl
        have hm3 : Mv w.heap.size W3 (W3.putObj (w.heap.size + 1) (.loop (R (if jump.isNone then .ready else .done) jump))) := Mv.putObj _ (by omega) hl3 rfl
        exact ⟨hl3, run_endRound (P := P) jump hl3, World.putObj_heap_same (Array.getElem?_eq_some_iff.1 hl3).1, (World.putObj_heap_other (by omega)).trans (h3.oth.same _ _ (Nat.le_refl _) hk2 rfl), hm3, ((hk1.kept.trans (KeptX.of_mv hm2)).trans h3.kept).trans (KeptX.of_mv hm3)⟩
      refine Go.wpIn_mono (hbody W2 hm2) fun e a3 W3 hp => ?_
      cases e with
      | normal =>
        obtain ⟨h3, hi3⟩ := hp
        obtain ⟨hl3, hr, q1, q2, q3, q4⟩ := leave none W3 h3
        exact ⟨_, _, hr, .inl ⟨rfl, ⟨hI _ _ _ hi3 q3, q1, q2⟩, q4⟩⟩
      | ret =>
        obtain ⟨h3, hi3⟩ := hp
        obtain ⟨hl3, hr, q1, q2, q3, q4⟩ := leave (some .ret) W3 h3
        exact ⟨_, _, hr, .inr ⟨rfl, ⟨_, hIx _ _ _ _ hi3 q3, q1, q2⟩, q4⟩⟩
      | exit id =>
        obtain ⟨h3, hi3⟩ := hp
        obtain ⟨hl3, hr, q1, q2, q3, q4⟩ := leave (some (.exit id)) W3 h3
        exact ⟨_, _, hr, .inr ⟨rfl, ⟨_, hIx _ _ _ _ hi3 q3, q1, q2⟩, q4⟩⟩
      | goto _ => exact hp.elim
      | panic _ => exact hp.elim
      | outgrown => exact hp.elim
    | exit _ => exact hp.elim
    | ret => exact hp.elim
    | goto _ => exact hp.elim
    | panic _ => exact hp.elim
    | outgrown => exact hp.elim
  · rintro e W2 ⟨⟨v, rfl⟩, (⟨hi, hl, hk⟩ | ⟨i, hiN, c, hi, hl, hk⟩)⟩
    · exact ⟨none, _, run_endLoop (P := P) hl (by simp [R, recOf]), (done w.heap.size _ (Nat.le_refl _) (by have := (Array.getElem?_eq_some_iff.1 hk).1; simpa using this) (hI _ _ _ hi (Mv.putObj _ (by omega) hl rfl)) ((World.putObj_heap_other (by omega)).trans hk)).out b⟩
    · exact ⟨some c, _, run_endLoop (P := P) hl (by simp [R, recOf]), (stop c w.heap.size i _ (Nat.le_refl _) (by have := (Array.getElem?_eq_some_iff.1 hk).1; simpa using this) hiN (hIx _ _ _ _ hi (Mv.putObj _ (by omega) hl rfl)) ((World.putObj_heap_other (by omega)).trans hk)).out b⟩⟩
theorem iqw_asg {l k n₀ i : Nat} {X : Nat → Prop} {body : Code} {Inv : Nat → World → Prop} {Ix : Code → Nat → World → Prop} {W : World} (hk : RK n₀ X W w) (h : ∀ W2, Mv n₀ w W2 → ICW P (some l) k [] body (RndQ n₀ X Inv Ix i W2) n L ws W2) : IQW [] (AsgQ P l k n₀ X body Inv Ix i W) .normal n L ws w :=
  ⟨fun b => ⟨hk, fun w2 hm => (h w2 hm).out b⟩⟩
theorem iqw_next {n₀ i : Nat} {X : Nat → Prop} {Inv : Nat → World → Prop} {Ix : Code → Nat → World → Prop} {W : World} (hk : RK n₀ X W w) (h : Inv (i + 1) w) : IQW Ds (RndQ n₀ X Inv Ix i W) .normal n L ws w := ⟨fun _ => ⟨hk, h⟩⟩
theorem iqw_brk_ret {n₀ i : Nat} {X : Nat → Prop} {Inv : Nat → World → Prop} {Ix : Code → Nat → World → Prop} {W : World} (hk : RK n₀ X W w) (h : Ix .ret i w) : IQW Ds (RndQ n₀ X Inv Ix i W) .ret n L ws w := ⟨fun _ => ⟨hk, h⟩⟩
theorem iqw_brk {n₀ i id : Nat} {X : Nat → Prop} {Inv : Nat → World → Prop} {Ix : Code → Nat → World → Prop} {W : World} (hk : RK n₀ X W w) (h : Ix (.exit id) i w) : IQW Ds (RndQ n₀ X Inv Ix i W) (.exit id) n L ws w := ⟨fun _ => ⟨hk, h⟩⟩
theorem ileave {fn : Func} {R : Ending → World → Prop} {rs : List ResultVar} (n₀ : Nat) (vs : List Value) (hf : fn.results = rs.toArray) (b : Bd n L ws) (hD : ∀ D ∈ Ds, n₀ ≤ D ∧ w.heap[D]? = some (.deferred (some []))) (hn : Ds.Nodup)
    (h : ∀ W, Mv n₀ w W → ResV P (evalW L ws) W rs vs ∧ R (.returned (resOf vs)) W) : LeavesInM Fence.wide m P fn (setAll L ws).toArray R (marks Ds) .returning w := by
  refine leaves_marks n₀ (fun W => Mv n₀ w W) (fun D W hD hW hk => hW.trans (Mv.putObj _ hD hk rfl)) (fun W hW => ?_) Ds w hn hD (Mv.refl _ _)
  obtain ⟨h1, h2⟩ := h W hW
  exact ⟨_, res_run (a := ⟨(setAll L ws).toArray, marks Ds⟩) hf (by rw [eval_W b.lt]; exact h1), h2⟩
theorem iqw_ret {fn : Func} {R : Ending → World → Prop} {rs : List ResultVar} (n₀ : Nat) (vs : List Value) (hf : fn.results = rs.toArray) (hD : ∀ D ∈ Ds, n₀ ≤ D ∧ w.heap[D]? = some (.deferred (some []))) (hn : Ds.Nodup)
    (h : ∀ W, Mv n₀ w W → ResV P (evalW L ws) W rs vs ∧ R (.returned (resOf vs)) W) : IQW Ds (IBody m P fn R) .ret n L ws w := ⟨fun b => ileave n₀ vs hf b hD hn h⟩
theorem iqw_end {fn : Func} {R : Ending → World → Prop} {rs : List ResultVar} (n₀ : Nat) (vs : List Value) (hf : fn.results = rs.toArray) (hD : ∀ D ∈ Ds, n₀ ≤ D ∧ w.heap[D]? = some (.deferred (some []))) (hn : Ds.Nodup)
    (h : ∀ W, Mv n₀ w W → ResV P (evalW L ws) W rs vs ∧ R (.returned (resOf vs)) W) : IQW Ds (IBody m P fn R) .normal n L ws w := ⟨fun b => ileave n₀ vs hf b hD hn h⟩
end
/-! Regions that draw their order, within a round. -/
section
variable {P : Program} {ops : Array Oper} {Q : Exit → Act → World → Prop} {S : World → Prop} {r : Option Nat} {m : Nat}
def AnyJ (P : Program) (r : Option Nat) (m : Nat) (ops : Array Oper) (Q : Exit → Act → World → Prop) (S : World → Prop) : Nat → Array Bool → Act → World → Prop
  | 0, listed, a, w => Region.ready .any ops listed = [] ∧ Q .normal a w
  | fuel + 1, listed, a, w => (Region.ready .any ops listed = [] → Q .normal a w) ∧ ∀ i ∈ Region.ready .any ops listed, wpOpIn (FR r) m P ops Q i (fun a' w' => S w' ∧ AnyJ P r m ops Q S fuel (listed.setIfInBounds i true) a' w') a w
theorem anyJ_sound : ∀ (fuel : Nat) (listed : Array Bool) (a : Act) (w : World), AnyJ P r m ops Q S fuel listed a w → wpAnyIn (FR r) m P .any ops Q fuel listed a w
  | 0, _, _, _, h => h
  | fuel + 1, _, _, _, h => ⟨h.1, fun i hi => wpOpIn_mono (fun a w q => anyJ_sound fuel _ a w q.2) (h.2 i hi)⟩
/-- An operation that yields v wherever S holds, and writes nothing. -/
def PureH (P : Program) (ops : Array Oper) (S : World → Prop) (o : Oper) (v : Value) (a : Act) : Prop :=
  (Region.wanted o (yielded ops a.tmps) = true ∧ ∀ w, S w → (execOp a.eval o).run P w = .ok (.value v) w) ∨ (Region.wanted o (yielded ops a.tmps) = false ∧ v = undef)
theorem PureH.same {o : Oper} {v : Value} {a a' : Act} (h : PureH P ops S o v a) (he : execOp a'.eval o = execOp a.eval o) (hw : Region.wanted o (yielded ops a'.tmps) = Region.wanted o (yielded ops a.tmps)) : PureH P ops S o v a' := by
  unfold PureH at *
  rw [hw, he]; exact h
theorem PureH.op {i : Nat} {o : Oper} {v : Value} {a : Act} (hi : ops[i]? = some o) (h : PureH P ops S o v a) {K : Act → World → Prop} {w : World} (hS : S w) (hk : K (a.put o.dst v) w) : wpOpIn (FR r) m P ops Q i K a w := by
  unfold wpOpIn
  simp only [hi]
  rcases h with ⟨hw, hv⟩ | ⟨hw, rfl⟩
  · rw [if_pos hw]
    refine ⟨fun _ _ => trivial, ?_⟩
    show o.uponIn (FR r) m P a K Q ((o.semAt r a.eval).run P w)
    rw [semAt_of (hv w hS) (by simp), Oper.uponIn_value]; exact hk
  · rw [if_neg (by rw [hw]; simp)]
    exact ⟨fun _ _ => trivial, hk⟩
theorem opJ_put {j : Nat} {oi oj : Oper} {v : Value} (hj : ops[j]? = some oj) (hap : oi.apart ops oj = true) (hsi : ∀ cs b, oi.op ≠ .select cs b) (hsj : ∀ cs b, oj.op ≠ .select cs b) (hnd : ∀ c, oj.op ≠ .defer c)
    (hQ : ∀ c a w, Q (.panic c) (a.put oi.dst v) w → Q (.panic c) a w) {K : Act → World → Prop} {a : Act} {w : World} (hy : PureH P ops S oi v a) (h : wpOpIn (FR r) m P ops Q j K (a.put oi.dst v) w) :
    wpOpIn (FR r) m P ops Q j (fun a' w' => PureH P ops S oi v a' ∧ K (a'.put oi.dst v) w') a w := by
  obtain ⟨h1, h2, h3⟩ := Oper.apart_spec hap
  have keep : ∀ (a : Act) (u : Value), PureH P ops S oi v a → PureH P ops S oi v (a.put oj.dst u) := fun a u hy => hy.same (execOp_put oi hsi a oj.dst u h3) (wanted_put oi a oj.dst u h3)
  unfold wpOpIn at *
  simp only [hj] at *
  rw [wanted_put oj a oi.dst v h1] at h
  split
  · rename_i hw
    simp only [hw, if_true] at h
    refine ⟨fun _ _ => trivial, ?_⟩
    have h9 := h.2
    rw [Oper.semAt_eq _ _ _ hnd, execOp_put oj hsj a oi.dst v h1] at h9
    rw [Oper.semAt_eq _ _ _ hnd]
    generalize (execOp a.eval oj).run P w = res at *
    cases res with
    | ok x w' =>
      cases x <;> simp only [Oper.uponIn] at h9 ⊢
      case value u => exact ⟨keep a u hy, by rw [← Act.put_comm a v u h2]; exact h9⟩
      case skip => exact ⟨keep a _ hy, by rw [← Act.put_comm a v undef h2]; exact h9⟩
      case defer d =>
        refine ⟨keep _ _ (hy.same rfl rfl), ?_⟩
        rw [← Act.put_comm _ v undef h2, ← Act.put_defers]
        exact h9
      case enter f args =>
        refine ⟨h9.1, CallsIn.mono h9.2 fun e w'' he => ?_⟩
        cases e with
        | returned u => exact ⟨keep a u hy, by rw [← Act.put_comm a v u h2]; exact he⟩
        | panicked c => exact hQ _ _ _ he
        | outgrown => exact he
      case row row args => exact ⟨h9.1, RowsIn.mono h9.2 fun u w'' he => ⟨keep a u hy, by rw [← Act.put_comm a v u h2]; exact he⟩⟩
      case round l f tmps assign body =>
        refine ⟨h9.1, RoundIn.mono h9.2 fun e w'' he => ?_⟩
        cases e with
        | returned u => exact ⟨keep a u hy, by rw [← Act.put_comm a v u h2]; exact he⟩
        | panicked c => exact hQ _ _ _ he
        | outgrown => exact he
    | halt x w' =>
      cases x <;> simp only [Oper.uponIn] at h9 ⊢
      case panic u => exact hQ _ _ _ h9
  · rename_i hw
    simp only [hw] at h
    exact ⟨fun _ _ => trivial, keep a _ hy, by rw [← Act.put_comm a v undef h2]; exact h.2⟩
theorem anyJ_first {i : Nat} {oi : Oper} {v : Value} (hi : ops[i]? = some oi) (hsel : ∀ (j : Nat) (o : Oper) cs b, ops[j]? = some o → o.op ≠ .select cs b) (hnd : ∀ (j : Nat) (o : Oper) c, ops[j]? = some o → o.op ≠ .defer c)
    (hQ : ∀ c a w, Q (.panic c) (a.put oi.dst v) w → Q (.panic c) a w) :
    ∀ (fuel : Nat) (listed : Array Bool) (a : Act) (w : World),
      (∀ j oj, ops[j]? = some oj → j ≠ i → listed.getD j true = false → (∀ e ∈ oj.after, Region.binds .any e = true → e.on ≠ i) → oi.apart ops oj = true) →
      i ∈ Region.ready .any ops listed → PureH P ops S oi v a → S w →
      AnyJ P r m ops Q S fuel (listed.setIfInBounds i true) (a.put oi.dst v) w → AnyJ P r m ops Q S (fuel + 1) listed a w := by
  intro fuel
  induction fuel with
  | zero =>
    intro listed a w _ hr hy hS H
    refine ⟨fun h => (by rw [h] at hr; cases hr), fun j hj => ?_⟩
    by_cases hji : j = i
    · subst hji; exact hy.op hi hS ⟨hS, H⟩
    · have := ready_mono hj hji
      rw [H.1] at this
      cases this
  | succ fuel ih =>
    intro listed a w hfree hr hy hS H
    refine ⟨fun h => (by rw [h] at hr; cases hr), fun j hj => ?_⟩
    by_cases hji : j = i
    · subst hji; exact hy.op hi hS ⟨hS, H⟩
    · have h1 := H.2 j (ready_mono hj hji)
      obtain ⟨hjun, oj, hoj, hall⟩ := mem_ready.1 hj
      have hnot : ∀ e ∈ oj.after, Region.binds .any e = true → e.on ≠ i := fun e he hb heq => by
        have h1 := hall e he hb
        have h0 := (mem_ready.1 hr).1
        rw [heq] at h1
        rcases Nat.lt_or_ge i listed.size with h' | h'
        · simp [h'] at h0 h1; rw [h0] at h1; cases h1
        · simp [Array.getElem?_eq_none h'] at h1
      have h2 := opJ_put (S := S) hoj (hfree j oj hoj hji hjun hnot) (fun cs b => hsel i oi cs b hi) (fun cs b => hsel j oj cs b hoj) (fun c => hnd j oj c hoj) hQ hy h1
      have hfree' : ∀ k ok, ops[k]? = some ok → k ≠ i → (listed.setIfInBounds j true).getD k true = false →
          (∀ e ∈ ok.after, Region.binds .any e = true → e.on ≠ i) → oi.apart ops ok = true := fun k ok hk hki hun hno => by
        refine hfree k ok hk hki ?_ hno
        by_cases hjk : j = k
        · subst hjk; exact hjun
        · rw [getD_set_ne true hjk] at hun; exact hun
      refine wpOpIn_mono (fun a' w' h3 => ⟨h3.2.1, ih (listed.setIfInBounds j true) a' w' hfree' (ready_mono hr (Ne.symm hji)) h3.1 h3.2.1 ?_⟩) h2
      rw [Array.setIfInBounds_comm _ _ hji]
      exact h3.2.2
end
def noDefer (ops : Array Oper) : Bool := ops.toList.all fun o => match o.op with | .defer _ => false | _ => true
theorem noDefer_spec {ops : Array Oper} (h : noDefer ops = true) : ∀ (j : Nat) (o : Oper) c, ops[j]? = some o → o.op ≠ .defer c := fun j o c hj he => by
  have hm : o ∈ ops.toList := by rw [← Array.getElem?_toList] at hj; exact List.mem_of_getElem? hj
  have := List.all_eq_true.1 h o hm
  rw [he] at this; cases this
section
variable {P : Program} {ops ops0 : Array Oper} {Q Q' : Exit → Act → World → Prop} {S : World → Prop} {T : List Row} {L : List Value} {Ds : List Nat} {fuel n : Nat} {done : List Nat} {ws : List (Nat × Value)} {w : World} {r : Option Nat} {m : Nat}
structure IReg (P : Program) (ops0 ops : Array Oper) (Q : Exit → Act → World → Prop) (L : List Value) (T : List Row) : Prop extends Reg P ops0 ops Q L T where
  nodef : noDefer ops = true
structure IWD (P : Program) (r : Option Nat) (m : Nat) (Ds : List Nat) (ops : Array Oper) (Q : Exit → Act → World → Prop) (S : World → Prop) (L : List Value) (fuel : Nat) (done : List Nat) (ws : List (Nat × Value)) (w : World) : Prop where
  out : (∀ p ∈ ws, p.1 < L.length) → AnyJ P r m ops Q S fuel (lset ops.size done) ⟨(setAll L ws).toArray, marks Ds⟩ w
theorem icw_draw {id : Nat} {ops0 : Array Oper} (T : List Row) (S : World → Prop) (hm : P.follows .mixedOrders = true) (ht : tableR ops0 = T) (hg : goodT n ops0.size T = true) (hs : (Region.noSelect ops0 && noDefer ops0) = true) (hQ : Calm Q) (_hS : S w.drew)
    (h : ∀ (ops : Array Oper) (Q' : Exit → Act → World → Prop) (X : World), Ext w X → L.length = n → IReg P ops0 ops Q' L T → Shut (∀ ws w, IQW Ds Q .normal n L ws w → IQW Ds Q' .normal n L ws w) → IWD P r m Ds ops Q' S L ops0.size [] ws X) : ICW P r m Ds (.region id ops0 true) Q n L ws w := ⟨fun b => by
  obtain ⟨hs1, hs2⟩ := Bool.and_eq_true_iff.1 hs
  have h9 := (h ops0 Q _ (Ext.drew (Ext.refl _)) b.1 ⟨⟨rfl, ht, by rw [b.1]; exact hg, hs1, hQ⟩, hs2⟩ (fun _ _ h => h)).out b.lt
  exact wpIn_region_any hm (anyJ_sound _ _ _ _ h9)⟩
theorem iwd_end (hL : L.length = n) (hR : IReg P ops0 ops Q' L T) (hK : Shut (∀ ws w, IQW Ds Q .normal n L ws w → IQW Ds Q' .normal n L ws w)) (hd : upT done (numbered T 0) = []) (h : IQW Ds Q .normal n L ws w) : IWD P r m Ds ops Q' S L fuel done ws w := ⟨fun hb => by
  have hr : Region.ready .any ops (lset ops.size done) = [] := by
    rw [List.eq_nil_iff_forall_not_mem]
    intro j hj
    have := ready_up hR.toReg hj
    rw [hd] at this; cases this
  have hq := (hK _ _ h).out ⟨hL, fun p hp => by rw [← hL]; exact hb p hp⟩
  cases fuel with
  | zero => exact ⟨hr, hq⟩
  | succ k => exact ⟨fun _ => hq, by rw [hr]; simp⟩⟩
theorem iwd_take (i : Nat) {d : Nat} {oi : Oper} {rs : List Oper} (v : Value) (hR : IReg P ops0 ops Q' L T) (hi : ops0.toList.drop i = oi :: rs) (hr : readyT T done i = true) (hdst : oi.dst = some d)
    (hw : wantedW T L ws oi.guard = true) (hy : ∀ w, S w → (execOp (evalW L ws) oi).run P w = .ok (.value v) w) (hS : S w)
    (h : IWD P r m Ds ops Q' S L fuel (i :: done) ((d, v) :: ws) w) : IWD P r m Ds ops Q' S L (fuel + 1) done ws w := ⟨fun hb => by
  have ho := op_at hR.toReg hi
  refine anyJ_first (v := v) ho (Region.noSelect_spec hR.nosel) (noDefer_spec hR.nodef) (fun c a w => hR.calm c _ _ a w) fuel _ _ w (apart_of_good hR.tab hR.good ho hr) (readyT_mem hR.tab hR.good ho hr) ?_ hS ?_
  · exact .inl ⟨wanted_W (marks Ds) hR.tab hR.good hb hw, fun w hw => by rw [eval_W hb]; exact hy w hw⟩
  · rw [put_W, hdst]; exact h.out (putW_lt (d := some d) hb (fun k e => by cases e; exact dst_lt hR.toReg ho _ hdst))⟩
theorem iwd_skip (i : Nat) {d : Nat} {oi : Oper} {rs : List Oper} (hR : IReg P ops0 ops Q' L T) (hi : ops0.toList.drop i = oi :: rs) (hr : readyT T done i = true) (hdst : oi.dst = some d)
    (hw : wantedW T L ws oi.guard = false) (hS : S w)
    (h : IWD P r m Ds ops Q' S L fuel (i :: done) ((d, undef) :: ws) w) : IWD P r m Ds ops Q' S L (fuel + 1) done ws w := ⟨fun hb => by
  have ho := op_at hR.toReg hi
  refine anyJ_first (v := undef) ho (Region.noSelect_spec hR.nosel) (noDefer_spec hR.nodef) (fun c a w => hR.calm c _ _ a w) fuel _ _ w (apart_of_good hR.tab hR.good ho hr) (readyT_mem hR.tab hR.good ho hr) ?_ hS ?_
  · exact .inr ⟨wanted_W (marks Ds) hR.tab hR.good hb hw, rfl⟩
  · rw [put_W, hdst]; exact h.out (putW_lt (d := some d) hb (fun k e => by cases e; exact dst_lt hR.toReg ho _ hdst))⟩
theorem iwd_step (i : Nat) {oi : Oper} {rs : List Oper} (hR : IReg P ops0 ops Q' L T) (hi : ops0.toList.drop i = oi :: rs) (hr : upT done (numbered T 0) = [i]) (hr2 : readyT T done i = true)
    (hw : wantedW T L ws oi.guard = true) (h : StepN P (evalW L ws) oi w fun v w' => S w' ∧ IWD P r m Ds ops Q' S L fuel (i :: done) (putW oi.dst v ws) w') : IWD P r m Ds ops Q' S L (fuel + 1) done ws w := ⟨fun hb => by
  have ho := op_at hR.toReg hi
  refine ⟨fun h0 => ?_, fun j hj => ?_⟩
  · have := readyT_mem hR.tab hR.good ho hr2
    rw [h0] at this; cases this
  · have := ready_up hR.toReg hj
    rw [hr] at this
    obtain rfl := List.mem_singleton.1 this
    unfold wpOpIn
    simp only [ho]
    rw [if_pos (wanted_W (marks Ds) hR.tab hR.good hb hw)]
    exact h.wpI (eval_W hb _) fun v w' hn => ⟨hn.1, by rw [put_W]; exact hn.2.out (putW_lt hb (dst_lt hR.toReg ho))⟩⟩
theorem iwd_two (i j : Nat) {oi oj : Oper} {rs s : List Oper} (hR : IReg P ops0 ops Q' L T) (hi : ops0.toList.drop i = oi :: rs) (hj : ops0.toList.drop j = oj :: s) (hr : upT done (numbered T 0) = [i, j]) (hr2 : readyT T done i = true)
    (hwi : wantedW T L ws oi.guard = true) (hwj : wantedW T L ws oj.guard = true)
    (h1 : StepN P (evalW L ws) oi w fun v w' => S w' ∧ IWD P r m Ds ops Q' S L fuel (i :: done) (putW oi.dst v ws) w')
    (h2 : StepN P (evalW L ws) oj w fun v w' => S w' ∧ IWD P r m Ds ops Q' S L fuel (j :: done) (putW oj.dst v ws) w') : IWD P r m Ds ops Q' S L (fuel + 1) done ws w := ⟨fun hb => by
  have ho := op_at hR.toReg hi
  have ho2 := op_at hR.toReg hj
  refine ⟨fun h0 => ?_, fun k hk => ?_⟩
  · have := readyT_mem hR.tab hR.good ho hr2
    rw [h0] at this; cases this
  · have := ready_up hR.toReg hk
    rw [hr] at this
    unfold wpOpIn
    rcases List.mem_cons.1 this with rfl | this
    · simp only [ho]
      rw [if_pos (wanted_W (marks Ds) hR.tab hR.good hb hwi)]
      exact h1.wpI (eval_W hb _) fun v w' hn => ⟨hn.1, by rw [put_W]; exact hn.2.out (putW_lt hb (dst_lt hR.toReg ho))⟩
    · obtain rfl := List.mem_singleton.1 this
      simp only [ho2]
      rw [if_pos (wanted_W (marks Ds) hR.tab hR.good hb hwj)]
      exact h2.wpI (eval_W hb _) fun v w' hn => ⟨hn.1, by rw [put_W]; exact hn.2.out (putW_lt hb (dst_lt hR.toReg ho2))⟩⟩
theorem calm_no (h : ∀ c a w, ¬ Q (.panic c) a w) : Calm Q := fun c _ _ _ w q => (h c _ w q).elim
theorem calm_ibody {m : Nat} {fn : Func} {R : Ending → World → Prop} : Calm (IBody m P fn R) := calm_no fun _ _ _ h => h
theorem calm_rnd {n₀ i : Nat} {X : Nat → Prop} {Inv : Nat → World → Prop} {Ix : Code → Nat → World → Prop} {W : World} : Calm (RndQ n₀ X Inv Ix i W) := calm_no fun _ _ _ h => h
theorem calm_asg {l k n₀ i : Nat} {X : Nat → Prop} {body : Code} {Inv : Nat → World → Prop} {Ix : Code → Nat → World → Prop} {W : World} : Calm (AsgQ P l k n₀ X body Inv Ix i W) := calm_no fun _ _ _ h => h
end
section
variable {P : Program} {n : Nat} {L : List Value} {ws : List (Nat × Value)} {w : World} {m : Nat}
theorem iqw_ret0 {fn : Func} {R : Ending → World → Prop} {rs : List ResultVar} (vs : List Value) (hf : fn.results = rs.toArray) (h : ResV P (evalW L ws) w rs vs) (hR : R (.returned (resOf vs)) w) : IQW [] (IBody m P fn R) .ret n L ws w := ⟨fun b => by
  show LeavesInM Fence.wide m P fn (setAll L ws).toArray R [] .returning w
  exact ⟨_, res_run (a := ⟨(setAll L ws).toArray, []⟩) hf (by rw [eval_W b.lt]; exact h), hR⟩⟩
theorem iqw_end0 {fn : Func} {R : Ending → World → Prop} {rs : List ResultVar} (vs : List Value) (hf : fn.results = rs.toArray) (h : ResV P (evalW L ws) w rs vs) (hR : R (.returned (resOf vs)) w) : IQW [] (IBody m P fn R) .normal n L ws w := ⟨fun b => by
  show LeavesInM Fence.wide m P fn (setAll L ws).toArray R [] .returning w
  exact ⟨_, res_run (a := ⟨(setAll L ws).toArray, []⟩) hf (by rw [eval_W b.lt]; exact h), hR⟩⟩
end
theorem yield_mono {F : Fence} {m : Nat} {P : Program} {l : Nat} {args : Array Value} {W : World} {R R' : Ending → World → Prop} (h : YieldAt F m P l args W R) (hr : ∀ e w', R e w' → R' e w') : YieldAt F m P l args W R' :=
  let ⟨fn, tmps, assign, body, h1, h2⟩ := h; ⟨fn, tmps, assign, body, h1, h2.mono hr⟩
theorem mk_ext {A B : World} {D : Nat} {o : Obj} (h : A.heap[D]? = some o) (e : Ext A B) : B.heap[D]? = some o := (e.block _ (Array.getElem?_eq_some_iff.1 h).1).trans h
theorem mk_turn {A B : World} {D O : Nat} {x : Option (List Deferred)} (h : A.heap[D]? = some (.deferred x)) (t : Turns O A B) : B.heap[D]? = some (.deferred x) := by
  by_cases e : D = O
  · subst e; exact t.oth' _ h rfl
  · rw [t.heap' D e]; exact h
theorem marks1 {n₀ D : Nat} {w : World} (h : n₀ ≤ D) (hm : w.heap[D]? = some (.deferred (some []))) : ∀ D' ∈ [D], n₀ ≤ D' ∧ w.heap[D']? = some (.deferred (some [])) := fun D' hD => by
  rw [List.mem_singleton.1 hD]; exact ⟨h, hm⟩
theorem marksC {n₀ D : Nat} {w : World} {Ds : List Nat} (h : n₀ ≤ D) (hm : w.heap[D]? = some (.deferred (some []))) (hr : ∀ D' ∈ Ds, n₀ ≤ D' ∧ w.heap[D']? = some (.deferred (some []))) : ∀ D' ∈ D :: Ds, n₀ ≤ D' ∧ w.heap[D']? = some (.deferred (some [])) := fun D' hD => by
  rcases List.mem_cons.1 hD with rfl | hD
  · exact ⟨h, hm⟩
  · exact hr D' hD
/-! What a call may write: the blocks of X. -/
structure Wrote (X : Nat → Prop) (A B : World) : Prop where
  os : B.os = A.os
  tape : B.tape = A.tape
  output : B.output = A.output
  size : A.heap.size ≤ B.heap.size
  same : ∀ (k : Nat), k < A.heap.size → ¬ X k → B.heap[k]? = A.heap[k]?
  oth : ∀ (k : Nat) (o : Obj), A.heap[k]? = some o → o.isCells = false → B.heap[k]? = some o
theorem Wrote.refl (X : Nat → Prop) (A : World) : Wrote X A A := ⟨rfl, rfl, rfl, Nat.le_refl _, fun _ _ _ => rfl, fun _ _ h _ => h⟩
theorem Wrote.trans {X : Nat → Prop} {A B C : World} (h : Wrote X A B) (k : Wrote X B C) : Wrote X A C :=
  ⟨k.os.trans h.os, k.tape.trans h.tape, k.output.trans h.output, Nat.le_trans h.size k.size, fun i hi hx => (k.same i (Nat.lt_of_lt_of_le hi h.size) hx).trans (h.same i hi hx), fun i o hi ho => k.oth i o (h.oth i o hi ho) ho⟩
theorem Wrote.of_ext {X : Nat → Prop} {A B : World} (e : Ext A B) : Wrote X A B :=
  ⟨e.os, e.tape, e.output, e.size, fun k hk _ => e.block k hk, fun k _o hk _ => (e.block k (Array.getElem?_eq_some_iff.1 hk).1).trans hk⟩
theorem Wrote.of_turns {X : Nat → Prop} {A B : World} {O : Nat} (t : Turns O A B) (hx : X O) : Wrote X A B := by
  have h0 : Ext { A with heap := #[] } A := ⟨rfl, rfl, rfl, Nat.zero_le _, fun k hk => absurd hk (Nat.not_lt_zero k)⟩
  have h1 := t.ext h0 (Nat.zero_le _)
  refine ⟨h1.os, h1.tape, h1.output, Nat.le_of_eq t.size.symm, fun k _ hk => t.heap' k (fun e => hk (e ▸ hx)), fun k o hk ho => ?_⟩
  by_cases e : k = O
  · subst e; exact t.oth' o hk ho
  · rw [t.heap' k e]; exact hk
theorem Wrote.step {X : Nat → Prop} {A B C : World} (h : Wrote X A B) (e : Ext B C) : Wrote X A C := h.trans (Wrote.of_ext e)
/-- A turn of a block that is new, or of X. -/
theorem Wrote.turn {X : Nat → Prop} {A B C : World} (h : Wrote X A B) {O : Nat} (t : Turns O B C) (hO : X O ∨ A.heap.size ≤ O) : Wrote X A C := by
  rcases hO with q | q
  · exact h.trans (Wrote.of_turns t q)
  · have k := Wrote.of_turns (X := fun k => k = O) t rfl
    exact ⟨k.os.trans h.os, k.tape.trans h.tape, k.output.trans h.output, Nat.le_trans h.size k.size, fun i hi hx => (k.same i (Nat.lt_of_lt_of_le hi h.size) (fun e => by omega)).trans (h.same i hi hx), fun i o hi ho => k.oth i o (h.oth i o hi ho) ho⟩
theorem Wrote.ext {X : Nat → Prop} {A B U : World} (h : Wrote X A B) (hU : Ext U A) (hx : ∀ k, X k → U.heap.size ≤ k) : Ext U B :=
  ⟨h.os.trans hU.os, h.tape.trans hU.tape, h.output.trans hU.output, Nat.le_trans hU.size h.size, fun k hk => (h.same k (Nat.lt_of_lt_of_le hk hU.size) (fun q => absurd hk (Nat.not_lt_of_le (hx k q)))).trans (hU.block k hk)⟩
theorem Wrote.kept {X Y : Nat → Prop} {A B : World} (h : Wrote X A B) (hx : ∀ k, X k → Y k) : KeptX Y A B :=
  ⟨h.size, fun k _o hk _ hy => (h.same k (Array.getElem?_eq_some_iff.1 hk).1 (fun q => hy (hx k q))).trans hk⟩
theorem Wrote.cell {X : Nat → Prop} {A B : World} (h : Wrote X A B) {b o : Nat} {v : Value} (hb : ¬ X b) (hv : A.cell? ⟨b, o, none⟩ = some v) : B.cell? ⟨b, o, none⟩ = some v := (h.kept (fun _ q => q)).cell hb hv
theorem Wrote.box {X : Nat → Prop} {A B : World} (h : Wrote X A B) {b o : Nat} {v : Value} (hb : ¬ X b) (hv : BoxAt A b o v) : BoxAt B b o v := (h.kept (fun _ q => q)).box hb hv
theorem Wrote.va {X : Nat → Prop} {A B : World} (h : Wrote X A B) {b o : Nat} {l : List Int} (hb : ¬ X b) (hv : VA A b o l) : VA B b o l := ⟨fun i hi => h.cell hb (hv.1 i hi), hv.2⟩
theorem Wrote.rows {X : Nat → Prop} {A B : World} (h : Wrote X A B) {b : Nat} {l : List Int} (hb : ¬ X b) (hv : RowsAt A b l) : RowsAt B b l :=
  ⟨hv.1, fun _i hi => h.cell hb (hv.cell hi), fun _i hi => (h.box hb ⟨hv.cell hi, hv.free hi⟩).2⟩
theorem Wrote.mark {X : Nat → Prop} {A B : World} (h : Wrote X A B) {D : Nat} {x : Option (List Deferred)} (hD : A.heap[D]? = some (.deferred x)) : B.heap[D]? = some (.deferred x) := h.oth D _ hD rfl
theorem RK.wrote {n₀ : Nat} {X Y : Nat → Prop} {A B C : World} (h : RK n₀ X A B) (t : Wrote Y B C) (hY : ∀ k, Y k → X k ∨ A.heap.size ≤ k) : RK n₀ X A C := by
  refine ⟨⟨Nat.le_trans h.kept.size t.size, fun k o hk ho hx => ?_⟩, ⟨Nat.le_trans h.oth.size t.size, fun k o hk hi ho => t.oth k o (h.oth.same k o hk hi ho) ho⟩⟩
  have h2 := h.kept.cells k o hk ho hx
  refine (t.same k (Array.getElem?_eq_some_iff.1 h2).1 (fun q => ?_)).trans h2
  rcases hY k q with q | q
  · exact hx q
  · have := (Array.getElem?_eq_some_iff.1 hk).1; omega
theorem Wrote.wrote {X Y : Nat → Prop} {A B C : World} (h : Wrote X A B) (t : Wrote Y B C) (hY : ∀ k, Y k → X k ∨ A.heap.size ≤ k) : Wrote X A C :=
  ⟨t.os.trans h.os, t.tape.trans h.tape, t.output.trans h.output, Nat.le_trans h.size t.size, fun k hk hx => (t.same k (Nat.lt_of_lt_of_le hk h.size) (fun q => (hY k q).elim hx (fun z => absurd hk (Nat.not_lt_of_le z)))).trans (h.same k hk hx), fun k o hk ho => t.oth k o (h.oth k o hk ho) ho⟩

end Go.Proofs.Ytnbjjddfcondlaa

/- Lists of one's own beside boxes and areas: what an append, a store, a loop's own book-keeping leave of them. -/
namespace Go.Proofs.Ytnbjjddfcondlaa
open Go.RowKit

/-- Appending one element; what is not the list's block is as it was. -/
theorem own_app1k {α : Type} {R : Rep α} {P : Program} {t ty e : TypeId} {z : Value} {size bytes : Nat} (E : ElemT P t e z size bytes) {n₀ : Nat} {v : Value} {w : World} {l : List α} (h : OwnL R n₀ e size v w l) (hn : n₀ ≤ w.heap.size) {k : Nat} (hl : l.length = k)
    {O c : Nat} {x : α} {d : List Value} {F : List Nat} (hsz : d.length = size) (hcell : ∀ j u, d[j]? = some u → w.cell? ⟨O, j, none⟩ = some u) (h1 : ∀ u ∈ d, u.oneCell' = true)
    (hR : R.rel w d x F) (hF : ∀ b ∈ F, v.ownBlock ≠ some b) (hb : (k + 1) * bytes ≤ 140737488355328) (hmax : k + 1 ≤ 9223372036854775807) :
    ∃ g cap w', (Builtin.append_ #[t, t] ty #[v, .slice (some ⟨O, 0, none⟩) 1 c]).run P w = .ok (.slice (some ⟨g, 0, none⟩) (k + 1) cap) w' ∧ OwnL R n₀ e size (.slice (some ⟨g, 0, none⟩) (k + 1) cap) w' (l ++ [x]) ∧ Grew n₀ w w' ∧ w.grownBy w' v.ownBlock := by
  subst hl
  obtain ⟨cs, h2, h3, h4, h5⟩ := h
  obtain ⟨i, hi, hz0, hz1, hz2⟩ := info_parts E.info
  obtain ⟨v', w', hrun, hown, hg, hiff, hat⟩ := run_append_own_at (P := P) w n₀ t ty e i z size bytes E.under hi hz0 hz1 hz2 E.zs E.pos v l.length cs.flatten h4 ⟨O, 0, none⟩ 1 c d (by rw [hsz, Nat.one_mul]) (fun j u hj => by
    rw [Addr.add_mid, Nat.zero_add]; exact hcell j u hj) h1 (by unfold maxLen; exact hmax) hb hn
  have hnb : ∀ F : List Nat, (∀ b ∈ F, v.ownBlock ≠ some b) → (∀ b ∈ F, b < w.heap.size) → (∀ b ∈ F, v'.ownBlock ≠ some b) ∧ ∀ b ∈ F, ∀ o u, w.cell? ⟨b, o, none⟩ = some u → w'.cell? ⟨b, o, none⟩ = some u := by
    intro F hF hFl
    refine ⟨fun b hbF hv' => ?_, fun b hbF o u hu => hg.cell hu (fun e => hF b hbF e.symm)⟩
    rcases hat with e1 | e1
    · exact hF b hbF (by rw [← e1]; exact hv')
    · rw [e1] at hv'; cases hv'; have := hFl _ hbF; omega
  have hO : OwnL R n₀ e size v' w' (l ++ [x]) := ⟨cs ++ [d], by simp [h2], by
      intro y hy
      rcases List.mem_append.1 hy with hy | hy
      · exact h3 y hy
      · rw [List.mem_singleton.1 hy]; exact hsz, by rw [List.flatten_append, List.length_append]; simpa using hown, by
      intro j y c hx hc
      rcases Nat.lt_or_ge j l.length with hj | hj
      · rw [List.getElem?_append_left hj] at hx
        rw [List.getElem?_append_left (by rw [h2]; exact hj)] at hc
        obtain ⟨F, q1, q2⟩ := h5 j y c hx hc
        obtain ⟨k1, k2⟩ := hnb F q2 (R.lt q1)
        exact ⟨F, R.keep q1 k2, k1⟩
      · rw [List.getElem?_append_right hj] at hx
        rw [List.getElem?_append_right (by rw [h2]; exact hj), h2] at hc
        match hj' : j - l.length, hx, hc with
        | 0, hx, hc =>
          simp at hx hc; subst hx hc
          obtain ⟨k1, k2⟩ := hnb F hF (R.lt hR)
          exact ⟨F, R.keep hR k2, k1⟩
        | _ + 1, hx, _ => simp at hx⟩
  rcases hown.2 with ⟨q, _⟩ | ⟨g, cap, cur, q, _, _, q3, _⟩
  · have := (hiff.1 q).2; omega
  · subst q
    exact ⟨g, cap, w', hrun, hO, ⟨hg.size, fun U hU hUn => Ext.own' hU h4 hUn hg⟩, hg⟩
theorem OwnL.keepR {α : Type} {R : Rep α} {m n₀ : Nat} {e : TypeId} {size : Nat} {v : Value} {w w' : World} {l : List α} {O : Nat} (h : OwnL (freshR m R) n₀ e size v w l) (hg : w.grownBy w' (some O)) (h1 : O < n₀) (h2 : O < m) : OwnL (freshR m R) n₀ e size v w' l := by
  obtain ⟨cs, q1, q2, q3, q4⟩ := h
  exact ⟨cs, q1, q2, q3.kept hg (.inr (own_ne q3 h1)), fun j x c hx hc => by
    obtain ⟨F, k1, k2⟩ := q4 j x c hx hc
    exact ⟨F, (freshR m R).keep k1 (fun b hb o u hu => hg.cell hu (fun e => by have h9 : b = O := Option.some.inj e; have := k1.2 b hb; omega)), k2⟩⟩
/-- A cell that is stored to, and what the store leaves. -/
theorem sn_setG {P : Program} {ev : Operand → Value} {oi : Oper} {w : World} {N : Value → World → Prop} {O j : Nat} {u v : Value} (h1 : (execOp ev oi).run P w = .ok .skip (w.setCell ⟨O, j, none⟩ v)) (hO : BoxAt w O j u)
    (h : ∀ X, Turns O w X → BoxAt X O j v → w.grownBy X (some O) → N undef X) : StepN P ev oi w N :=
  sn_skp h1 (h _ (turns_set _ _ _ _) ⟨by have := hO.1; simp [go_sem, this], by have := hO.2; simpa [go_sem] using this⟩ (grown_set (p := ⟨O, j, none⟩) rfl (Below.refl _ _)))
theorem own_not {v : Value} {n b : Nat} (h : ∀ b, v.ownBlock = some b → n ≤ b) (hb : b < n) : v.ownBlock ≠ some b := fun e => by have := h b e; omega
theorem own_not2 {v : Value} {m b : Nat} (h : ∀ b, v.ownBlock = some b → b < m) (hb : m ≤ b) : v.ownBlock ≠ some b := fun e => by have := h b e; omega

theorem away_cons {v : Value} {b : Nat} {F : List Nat} (h : v.ownBlock ≠ some b) (k : ∀ c ∈ F, v.ownBlock ≠ some c) : ∀ c ∈ b :: F, v.ownBlock ≠ some c := fun c hc => by
  rcases List.mem_cons.1 hc with rfl | hc
  · exact h
  · exact k c hc
theorem OwnL.turn {α : Type} {R : Rep α} {n₀ : Nat} {e : TypeId} {size : Nat} {v : Value} {w X : World} {l : List α} {O : Nat} (h : OwnL R n₀ e size v w l) (ho : Turns O w X) (h1 : v.ownBlock ≠ some O) (h2 : ∀ c x F, R.rel w c x F → ∀ b ∈ F, b ≠ O) : OwnL R n₀ e size v X l := by
  obtain ⟨cs, q1, q2, q3, q4⟩ := h
  refine ⟨cs, q1, q2, ⟨q3.1, ?_⟩, fun j x c hx hc => ?_⟩
  · rcases q3.2 with q | ⟨g, cap, cur, rfl, hb, hcur, rest⟩
    · exact .inl q
    · refine .inr ⟨g, cap, cur, rfl, hb, ?_, rest⟩
      rw [ho.heap' g (fun e => h1 (by rw [← e]; rfl))]; exact hcur
  · obtain ⟨F, k1, k2⟩ := q4 j x c hx hc
    exact ⟨F, R.keep k1 (fun b hb o u hu => ho.cell (fun e => h2 _ _ _ k1 b hb e.symm) hu), k2⟩
theorem fresh_noF {α : Type} {R : Rep α} {m O : Nat} {w : World} (hO : O < m) : ∀ c x F, (freshR m R).rel w c x F → ∀ b ∈ F, b ≠ O := fun _ _ _ h b hb e => by have := h.2 b hb; omega
theorem RowsAt.grownR {w w' : World} {r : Option Nat} {b : Nat} {l : List Int} (h : RowsAt w b l) (hg : w.grownBy w' r) (hne : r ≠ some b) : RowsAt w' b l :=
  ⟨h.1, fun _i hi => hg.cell (h.cell hi) (fun e => hne e.symm), fun _i hi => (BoxAt.grownR ⟨h.cell hi, h.free hi⟩ hg hne).2⟩
theorem cell_grownR {w w' : World} {r : Option Nat} {b o : Nat} {v : Value} (h : w.cell? ⟨b, o, none⟩ = some v) (hg : w.grownBy w' r) (hne : r ≠ some b) : w'.cell? ⟨b, o, none⟩ = some v := hg.cell h (fun e => hne e.symm)
theorem RK.app {n₁ : Nat} {X : Nat → Prop} {A B C : World} (h : RK n₁ X A B) {α : Type} {R : Rep α} {n₀ : Nat} {e : TypeId} {size : Nat} {v : Value} {l : List α} (hg : B.grownBy C v.ownBlock) (ho : OwnL R n₀ e size v B l) (hX : ∀ k, v.ownBlock = some k → X k ∨ A.heap.size ≤ k) : RK n₁ X A C := by
  refine h.wrote (Y := fun k => v.ownBlock = some k) ⟨hg.os, hg.tape, hg.output, hg.size, fun k hk hx => hg.block k hk (fun e => hx e.symm), fun k o hk hc => ?_⟩ hX
  refine (hg.block k (Array.getElem?_eq_some_iff.1 hk).1 fun e => ?_).trans hk
  obtain ⟨cs, q1, q2, q3, q4⟩ := ho
  rcases q3.2 with ⟨rfl, _⟩ | ⟨g, cap, cur, rfl, hb, hcur, rest⟩
  · cases e
  · cases e; rw [hk] at hcur; cases hcur; cases hc
theorem KeepX.step {n₀ : Nat} {X : Nat → Prop} {A B C : World} (h : KeepX n₀ X A B) (e : Ext B C) (hn : n₀ ≤ B.heap.size) : KeepX n₀ X A C := h.trans (KeepX.of_ext e hn)
theorem KeepX.turnX {n₀ : Nat} {X : Nat → Prop} {A B C : World} (h : KeepX n₀ X A B) {O : Nat} (t : Turns O B C) (hO : X O) : KeepX n₀ X A C :=
  h.trans ⟨Nat.le_of_eq t.size.symm, fun k _ hx => t.heap' k (fun e => hx (e ▸ hO))⟩
theorem KeepX.turnN {n₀ : Nat} {X : Nat → Prop} {A B C : World} (h : KeepX n₀ X A B) {O : Nat} (t : Turns O B C) (hO : n₀ ≤ O) : KeepX n₀ X A C :=
  h.trans ⟨Nat.le_of_eq t.size.symm, fun k hk _ => t.heap' k (fun e => by omega)⟩
theorem KeepX.app {n₀ : Nat} {X : Nat → Prop} {A B C : World} (h : KeepX n₀ X A B) {v : Value} (hg : B.grownBy C v.ownBlock) (hb : ∀ b, v.ownBlock = some b → n₀ ≤ b) (hn : n₀ ≤ B.heap.size) : KeepX n₀ X A C :=
  ⟨Nat.le_trans h.size hg.size, fun k hk hx => (hg.block k (Nat.lt_of_lt_of_le hk hn) (fun e => by have := hb k e.symm; omega)).trans (h.block k hk hx)⟩
theorem KeptX.turn {X : Nat → Prop} {A B C : World} (h : KeptX X A B) {O : Nat} (t : Turns O B C) (hO : A.heap.size ≤ O) : KeptX X A C :=
  ⟨by rw [t.size]; exact h.size, fun k o hk ho hx => by
    have hk1 := (Array.getElem?_eq_some_iff.1 hk).1
    rw [t.heap' k (by omega)]; exact h.cells k o hk ho hx⟩
/-! Lists of one's own within a set of blocks: the list's own block, and all that its elements look into, lie in S. -/
def inR {α : Type} (S : Nat → Prop) (R : Rep α) : Rep α where
  rel w c x F := R.rel w c x F ∧ ∀ b ∈ F, S b
  keep := fun h hk => ⟨R.keep h.1 hk, h.2⟩
  lt := fun h => R.lt h.1
structure OwnS {α : Type} (S : Nat → Prop) (R : Rep α) (e : TypeId) (size : Nat) (v : Value) (w : World) (l : List α) : Prop where
  own : OwnL (inR S R) 0 e size v w l
  blk : ∀ b, v.ownBlock = some b → S b
theorem OwnS.nil {α : Type} (S : Nat → Prop) (R : Rep α) (e : TypeId) (size : Nat) (w : World) : OwnS S R e size (.slice none 0 0) w [] := ⟨OwnL.nil _ _ _ _ _, fun b h => by cases h⟩
theorem OwnS.ext {α : Type} {S : Nat → Prop} {R : Rep α} {e : TypeId} {size : Nat} {v : Value} {w w' : World} {l : List α} (h : OwnS S R e size v w l) (hE : Ext w w') : OwnS S R e size v w' l := ⟨h.own.ext hE, h.blk⟩
theorem OwnS.mv {α : Type} {S : Nat → Prop} {R : Rep α} {e : TypeId} {size m : Nat} {v : Value} {w w' : World} {l : List α} (h : OwnS S R e size v w l) (hm : Mv m w w') : OwnS S R e size v w' l := ⟨hm.own h.own, h.blk⟩
theorem OwnS.lt {α : Type} {S : Nat → Prop} {R : Rep α} {e : TypeId} {size : Nat} {v : Value} {w : World} {l : List α} (h : OwnS S R e size v w l) : ∀ b, v.ownBlock = some b → b < w.heap.size := h.own.lt
theorem OwnS.turn {α : Type} {S : Nat → Prop} {R : Rep α} {e : TypeId} {size : Nat} {v : Value} {w X : World} {l : List α} {O : Nat} (h : OwnS S R e size v w l) (ho : Turns O w X) (hO : ¬ S O) : OwnS S R e size v X l :=
  ⟨h.own.turn ho (fun e => hO (h.blk O e)) fun _c _x _F hr b hb e => hO (e ▸ hr.2 b hb), h.blk⟩
theorem OwnS.not {α : Type} {S : Nat → Prop} {R : Rep α} {e : TypeId} {size : Nat} {v : Value} {w : World} {l : List α} {b : Nat} (h : OwnS S R e size v w l) (hb : ¬ S b) : v.ownBlock ≠ some b := fun e => hb (h.blk b e)
theorem OwnL.into {α : Type} {S : Nat → Prop} {R : Rep α} {n₀ : Nat} {e : TypeId} {size : Nat} {v : Value} {w : World} {l : List α} (h : OwnL R n₀ e size v w l) (hS : ∀ c x F, R.rel w c x F → ∀ b ∈ F, S b) : OwnL (inR S R) 0 e size v w l := by
  obtain ⟨cs, h1, h2, h3, h4⟩ := h
  refine ⟨cs, h1, h2, ⟨h3.1, ?_⟩, fun j x c hx hc => by obtain ⟨F, q1, q2⟩ := h4 j x c hx hc; exact ⟨F, ⟨q1, hS _ _ _ q1⟩, q2⟩⟩
  rcases h3.2 with q | ⟨g, cap, cur, q, hb, rest⟩
  · exact .inl q
  · exact .inr ⟨g, cap, cur, q, Nat.zero_le _, rest⟩
theorem OwnS.mono {α : Type} {S T : Nat → Prop} {R : Rep α} {e : TypeId} {size : Nat} {v : Value} {w : World} {l : List α} (h : OwnS S R e size v w l) (hST : ∀ k, k < w.heap.size → S k → T k) : OwnS T R e size v w l := by
  obtain ⟨⟨cs, h1, h2, h3, h4⟩, hb⟩ := h
  exact ⟨⟨cs, h1, h2, h3, fun j x c hx hc => by obtain ⟨F, q1, q2⟩ := h4 j x c hx hc; exact ⟨F, ⟨q1.1, fun b hb => hST b (R.lt q1.1 b hb) (q1.2 b hb)⟩, q2⟩⟩, fun b e => hST b (h3.lt b e).2 (hb b e)⟩
theorem OwnS.now {α : Type} {S : Nat → Prop} {R : Rep α} {e : TypeId} {size : Nat} {v : Value} {w : World} {l : List α} (h : OwnS S R e size v w l) : OwnS (fun k => S k ∧ k < w.heap.size) R e size v w l := h.mono fun _ hk hs => ⟨hs, hk⟩
/-- Appending one element. -/
theorem OwnS.app {α : Type} {S : Nat → Prop} {R : Rep α} {P : Program} {t ty e : TypeId} {z : Value} {size bytes : Nat} (E : ElemT P t e z size bytes) {v : Value} {w : World} {l : List α} (h : OwnS S R e size v w l) {k : Nat} (hl : l.length = k)
    {O c : Nat} {x : α} {d : List Value} {F : List Nat} (hsz : d.length = size) (hcell : ∀ j u, d[j]? = some u → w.cell? ⟨O, j, none⟩ = some u) (h1 : ∀ u ∈ d, u.oneCell' = true)
    (hR : R.rel w d x F) (hF : ∀ b ∈ F, v.ownBlock ≠ some b) (hb : (k + 1) * bytes ≤ 140737488355328) (hmax : k + 1 ≤ 9223372036854775807) :
    ∃ g cap w', (Builtin.append_ #[t, t] ty #[v, .slice (some ⟨O, 0, none⟩) 1 c]).run P w = .ok (.slice (some ⟨g, 0, none⟩) (k + 1) cap) w' ∧ OwnS (fun b => S b ∨ b ∈ F ∨ w.heap.size ≤ b) R e size (.slice (some ⟨g, 0, none⟩) (k + 1) cap) w' (l ++ [x]) ∧
      (∀ U, Ext U w → (∀ b, S b → U.heap.size ≤ b) → Ext U w') ∧ w.grownBy w' v.ownBlock ∧ g < w'.heap.size ∧ (S g ∨ w.heap.size ≤ g) := by
  have hS : OwnL (inR (fun b => S b ∨ b ∈ F ∨ w.heap.size ≤ b) R) 0 e size v w l := by
    obtain ⟨cs, h1, h2, h3, h4⟩ := h.own
    exact ⟨cs, h1, h2, h3, fun j x c hx hc => by obtain ⟨F, q1, q2⟩ := h4 j x c hx hc; exact ⟨F, ⟨q1.1, fun b hb => .inl (q1.2 b hb)⟩, q2⟩⟩
  obtain ⟨cs, q1, q2, q3, q4⟩ := hS
  subst hl
  obtain ⟨i, hi, hz0, hz1, hz2⟩ := info_parts E.info
  obtain ⟨v', w', hrun, hown, hg, hiff, hat⟩ := run_append_own_at (P := P) w 0 t ty e i z size bytes E.under hi hz0 hz1 hz2 E.zs E.pos v l.length cs.flatten q3 ⟨O, 0, none⟩ 1 c d (by rw [hsz, Nat.one_mul]) (fun j u hj => by
    rw [Addr.add_mid, Nat.zero_add]; exact hcell j u hj) h1 (by unfold maxLen; exact hmax) hb (Nat.zero_le _)
  have hnb : ∀ F : List Nat, (∀ b ∈ F, v.ownBlock ≠ some b) → (∀ b ∈ F, b < w.heap.size) → (∀ b ∈ F, v'.ownBlock ≠ some b) ∧ ∀ b ∈ F, ∀ o u, w.cell? ⟨b, o, none⟩ = some u → w'.cell? ⟨b, o, none⟩ = some u := by
    intro F hF hFl
    refine ⟨fun b hbF hv' => ?_, fun b hbF o u hu => hg.cell hu (fun e => hF b hbF e.symm)⟩
    rcases hat with e1 | e1
    · exact hF b hbF (by rw [← e1]; exact hv')
    · rw [e1] at hv'; cases hv'; have := hFl _ hbF; omega
  have hO : OwnL (inR (fun b => S b ∨ b ∈ F ∨ w.heap.size ≤ b) R) 0 e size v' w' (l ++ [x]) := ⟨cs ++ [d], by simp [q1], by
      intro y hy
      rcases List.mem_append.1 hy with hy | hy
      · exact q2 y hy
      · rw [List.mem_singleton.1 hy]; exact hsz, by rw [List.flatten_append, List.length_append]; simpa using hown, by
      intro j y c hx hc
      rcases Nat.lt_or_ge j l.length with hj | hj
      · rw [List.getElem?_append_left hj] at hx
        rw [List.getElem?_append_left (by rw [q1]; exact hj)] at hc
        obtain ⟨F', p1, p2⟩ := q4 j y c hx hc
        obtain ⟨k1, k2⟩ := hnb F' p2 (R.lt p1.1)
        exact ⟨F', ⟨R.keep p1.1 k2, p1.2⟩, k1⟩
      · rw [List.getElem?_append_right hj] at hx
        rw [List.getElem?_append_right (by rw [q1]; exact hj), q1] at hc
        match hj' : j - l.length, hx, hc with
        | 0, hx, hc =>
          simp at hx hc; subst hx hc
          obtain ⟨k1, k2⟩ := hnb F hF (R.lt hR)
          exact ⟨F, ⟨R.keep hR k2, fun b hb => .inr (.inl hb)⟩, k1⟩
        | _ + 1, hx, _ => simp at hx⟩
  have hblk : ∀ b, v'.ownBlock = some b → S b ∨ w.heap.size ≤ b := fun b hb => by
    rcases hat with e1 | e1
    · exact .inl (h.blk b (by rw [← e1]; exact hb))
    · rw [e1] at hb; cases hb; exact .inr (Nat.le_refl _)
  have hlt' := hO.lt
  rcases hown.2 with ⟨q, _⟩ | ⟨g, cap, cur, q, _, _, _, _⟩
  · have := (hiff.1 q).2; omega
  · subst q
    exact ⟨g, cap, w', hrun, ⟨hO, fun b hb => (hblk b hb).elim .inl (fun h => .inr (.inr h))⟩, fun U hU hUS => ⟨hg.os.trans hU.os, hg.tape.trans hU.tape, hg.output.trans hU.output, Nat.le_trans hU.size hg.size, fun k hk => (hg.block k (Nat.lt_of_lt_of_le hk hU.size) (fun e => by have := hUS k (h.blk k e.symm); omega)).trans (hU.block k hk)⟩, hg, hlt' g rfl, hblk g rfl⟩
theorem OwnS.toL {α : Type} {S : Nat → Prop} {R : Rep α} {e : TypeId} {size : Nat} {v : Value} {w : World} {l : List α} (h : OwnS S R e size v w l) : OwnL R 0 e size v w l := by
  obtain ⟨⟨cs, h1, h2, h3, h4⟩, hb⟩ := h
  exact ⟨cs, h1, h2, h3, fun j x c hx hc => by obtain ⟨F, q1, q2⟩ := h4 j x c hx hc; exact ⟨F, q1.1, q2⟩⟩
/-- The world's first blocks. -/
def trunc (w : World) (g : Nat) : World := { w with heap := w.heap.extract 0 g }
theorem trunc_block (w : World) {g k : Nat} (hk : k < g) : (trunc w g).heap[k]? = w.heap[k]? := by
  show (w.heap.extract 0 g)[k]? = _
  rw [Array.getElem?_extract]
  split
  · rw [Nat.zero_add]
  · rw [Array.getElem?_eq_none]; omega
theorem trunc_ext (w : World) (g : Nat) : Ext (trunc w g) w := ⟨rfl, rfl, rfl, by simp [trunc]; omega, fun k hk => (trunc_block w (by simp [trunc] at hk; omega)).symm⟩
theorem trunc_size (w : World) (g : Nat) : (trunc w g).heap.size ≤ g := by simp [trunc]; omega
section
variable {w w' : World} {g : Nat}
theorem old_block (hU : ∀ U, Ext U w → U.heap.size ≤ g → Ext U w') {b : Nat} (hb : b < g) (hw : b < w.heap.size) : w'.heap[b]? = w.heap[b]? := by
  rw [← trunc_block w hb]
  exact (hU _ (trunc_ext w g) (trunc_size w g)).block b (by simp [trunc]; omega)
theorem old_cell (hU : ∀ U, Ext U w → U.heap.size ≤ g → Ext U w') {b o : Nat} {v : Value} (h : w.cell? ⟨b, o, none⟩ = some v) (hb : b < g) : w'.cell? ⟨b, o, none⟩ = some v :=
  (World.cell?_of_block (w := w) (old_block hU hb (World.block_lt_of_cell? _ _ h))).trans h
theorem old_box (hU : ∀ U, Ext U w → U.heap.size ≤ g → Ext U w') {b o : Nat} {v : Value} (h : BoxAt w b o v) (hb : b < g) : BoxAt w' b o v :=
  ⟨old_cell hU h.1 hb, (World.frozen?_of_block (old_block hU hb h.lt)).trans h.2⟩
theorem old_va (hU : ∀ U, Ext U w → U.heap.size ≤ g → Ext U w') {b o : Nat} {l : List Int} (h : VA w b o l) (hb : b < g) : VA w' b o l := ⟨fun i hi => old_cell hU (h.1 i hi) hb, h.2⟩
end
theorem KeepX.box {n₀ : Nat} {X : Nat → Prop} {A B : World} (hk : KeepX n₀ X A B) {b o : Nat} {v : Value} (h : BoxAt A b o v) (hb : b < n₀) (hx : ¬ X b) : BoxAt B b o v :=
  ⟨(hk.cell hb hx).trans h.1, (World.frozen?_of_block (hk.block b hb hx)).trans h.2⟩
theorem OwnS.cap {α : Type} {S : Nat → Prop} {R : Rep α} {e : TypeId} {size : Nat} {a : Option Addr} {n c : Nat} {w : World} {l : List α} (h : OwnS S R e size (.slice a n c) w l) (hl : l.length = n) : n ≤ c := by
  obtain ⟨⟨cs, h1, h2, h3, h4⟩, hb⟩ := h
  rcases h3.2 with ⟨q, q2⟩ | ⟨g, cap, cur, q, _, _, hc, _⟩
  · injection q with r1 r2 r3; omega
  · injection q with r1 r2 r3; omega
theorem notS1 {n b : Nat} (h : b < n) : ¬ n ≤ b := Nat.not_le_of_lt h
/-- Not among what was there from n on, nor b', nor new. -/
theorem notS3 {n a c b b' : Nat} (h : b < n ∨ a ≤ b) (h1 : b ≠ b') (h2 : b < c) : ¬ ((n ≤ b ∧ b < a) ∨ b ∈ [b'] ∨ c ≤ b) := fun q => by
  rcases q with q | q | q
  · omega
  · exact h1 (List.mem_singleton.1 q)
  · omega
theorem fromS3 {n a c b' : Nat} (h1 : n ≤ b') (h2 : n ≤ c) : ∀ k, ((n ≤ k ∧ k < a) ∨ k ∈ [b'] ∨ c ≤ k) → n ≤ k := fun k q => by
  rcases q with q | q | q
  · exact q.1
  · rw [List.mem_singleton.1 q]; exact h1
  · omega
theorem notS2 {n a c b : Nat} (h : b < n ∨ a ≤ b) (h2 : b < c) : ¬ ((n ≤ b ∧ b < a) ∨ b ∈ ([] : List Nat) ∨ c ≤ b) := fun q => by
  rcases q with q | q | q
  · omega
  · cases q
  · omega
theorem fromS2 {n a c : Nat} (h2 : n ≤ c) : ∀ k, ((n ≤ k ∧ k < a) ∨ k ∈ ([] : List Nat) ∨ c ≤ k) → n ≤ k := fun k q => by
  rcases q with q | q | q
  · exact q.1
  · cases q
  · omega
theorem RK.appS {n₁ : Nat} {X : Nat → Prop} {A B C : World} (h : RK n₁ X A B) {α : Type} {S : Nat → Prop} {R : Rep α} {e : TypeId} {size : Nat} {v : Value} {l : List α} (hg : B.grownBy C v.ownBlock) (ho : OwnS S R e size v B l) (hX : ∀ k, S k → X k ∨ A.heap.size ≤ k) : RK n₁ X A C := h.app hg ho.own fun k hk => hX k (ho.blk k hk)
end Go.Proofs.Ytnbjjddfcondlaa

/- Stored images in memory, and the steps of a fill; the library's sort of steps. -/
namespace Go.Proofs.Ytnbjjddfcondlaa
open Go.RowKit

/-! Stored images at an address. -/
def Mem.St.enc (x : Mem.St) : List Value := [.int .i64 x.im, .int .i64 x.un, .int .i64 x.fr, .int .i64 x.to]
def StAt (w : World) (b o : Nat) (x : Mem.St) : Prop := w.cell? ⟨b, o, none⟩ = some (.int .i64 x.im) ∧ w.cell? ⟨b, o + 1, none⟩ = some (.int .i64 x.un) ∧ w.cell? ⟨b, o + 2, none⟩ = some (.int .i64 x.fr) ∧ w.cell? ⟨b, o + 3, none⟩ = some (.int .i64 x.to)
theorem StAt.ext {w w' : World} {b o : Nat} {x : Mem.St} (h : StAt w b o x) (hE : Ext w w') : StAt w' b o x := ⟨hE.cell h.1, hE.cell h.2.1, hE.cell h.2.2.1, hE.cell h.2.2.2⟩
def StsAt (w : World) (a : Option Addr) (n : Nat) (l : List Mem.St) : Prop := l.length = n ∧ n ≤ 140737488355328 ∧ (n = 0 ∨ ∃ b o, a = some ⟨b, o, none⟩ ∧ ∀ (i : Nat) x, l[i]? = some x → StAt w b (o + i * 4) x)
theorem StsAt.ext {w w' : World} {a : Option Addr} {n : Nat} {l : List Mem.St} (h : StsAt w a n l) (hE : Ext w w') : StsAt w' a n l :=
  ⟨h.1, h.2.1, h.2.2.imp id fun ⟨b, o, ha, hx⟩ => ⟨b, o, ha, fun i x hi => (hx i x hi).ext hE⟩⟩
theorem StsAt.nil (w : World) (a : Option Addr) : StsAt w a 0 [] := ⟨rfl, Nat.zero_le _, .inl rfl⟩
def stN (l : List Mem.St) (i : Nat) : Mem.St := l[i]?.getD default
theorem stN_at {l : List Mem.St} {i : Nat} (h : i < l.length) : l[i]? = some (stN l i) := by unfold stN; rw [List.getElem?_eq_getElem h]; rfl
theorem stN_mem {l : List Mem.St} {i : Nat} (h : i < l.length) : stN l i ∈ l := List.mem_of_getElem? (stN_at h)
theorem stN_take {l : List Mem.St} {i : Nat} (h : i < l.length) : l.take (i + 1) = l.take i ++ [stN l i] := by rw [List.take_add_one, stN_at h]; rfl
theorem StsAt.parts {w : World} {a : Option Addr} {n : Nat} {l : List Mem.St} (h : StsAt w a n l) : ∃ b o, (0 < n → a = some ⟨b, o, none⟩) ∧ (0 < n → b < w.heap.size) ∧ ∀ i, i < n → StAt w b (o + i * 4) (stN l i) := by
  obtain ⟨h1, _, h3⟩ := h
  rcases h3 with h3 | ⟨b, o, ha, hx⟩
  · exact ⟨0, 0, fun h => by omega, fun h => by omega, fun i hi => by omega⟩
  · exact ⟨b, o, fun _ => ha, fun h => World.block_lt_of_cell? _ _ (hx 0 _ (stN_at (by omega))).1, fun i hi => hx i _ (stN_at (by omega))⟩
theorem StsAt.take {w : World} {a : Option Addr} {n : Nat} {l : List Mem.St} (h : StsAt w a n l) {k : Nat} (hk : k ≤ n) : StsAt w a k (l.take k) := by
  obtain ⟨h1, h2, h3⟩ := h
  refine ⟨by rw [List.length_take]; omega, by omega, ?_⟩
  rcases h3 with h3 | ⟨b, o, ha, hx⟩
  · exact .inl (by omega)
  · refine .inr ⟨b, o, ha, fun i x hi => hx i x ?_⟩
    rw [List.getElem?_take] at hi
    split at hi
    · exact hi
    · cases hi
/-- A stored image in a list of one's own. -/
def stR : Rep Mem.St where
  rel _ c x F := c = x.enc ∧ F = []
  keep := fun h _ => h
  lt := by rintro w c x F ⟨_, rfl⟩ b hb; cases hb
theorem stT : ElemT Try.prog 27 26 (.agg #[.int .i64 0, .int .i64 0, .int .i64 0, .int .i64 0]) 4 32 := ⟨Try.underlying27, by kernel_rfl, rfl, by decide⟩
theorem own_cell9 {w : World} {base : Nat} {e : TypeId} {size g n cap : Nat} {xs : List Value} (h : w.ownsRow base e size (.slice (some ⟨g, 0, none⟩) n cap) n xs) {j : Nat} {u : Value} (hj : j < n * size) (hu : xs[j]? = some u) : w.cell? ⟨g, 0 + j, none⟩ = some u := by
  rw [Nat.zero_add, h.cellAt j hj]; exact hu
theorem own_sts {n₀ e n cap : Nat} {a : Option Addr} {w : World} {l : List Mem.St} (h : OwnL stR n₀ e 4 (.slice a n cap) w l) (hl : l.length = n) (hn : n ≤ 140737488355328) : StsAt w a n l := by
  subst hl
  obtain ⟨cs, h1, h2, h3, h4⟩ := h
  refine ⟨rfl, hn, ?_⟩
  rcases Nat.eq_zero_or_pos l.length with h0 | h0
  · exact .inl h0
  · right
    rcases h3.2 with ⟨q1, q2⟩ | ⟨g, cap', cur, q1, _⟩
    · injection q1 with r1 r2 r3; omega
    · injection q1 with r1 r2 r3
      subst r1
      refine ⟨g, 0, rfl, fun i x hx => ?_⟩
      have hi := (List.getElem?_eq_some_iff.1 hx).1
      have hc := List.getElem?_eq_getElem (l := cs) (i := i) (by omega)
      obtain ⟨F, ⟨e1, _⟩, _⟩ := h4 i _ _ hx hc
      have k : ∀ q u, q < 4 → x.enc[q]? = some u → w.cell? ⟨g, 0 + i * 4 + q, none⟩ = some u := fun q u hq hu => by
        have f := flatten_get h2 i hc q hq
        rw [e1, hu] at f
        rw [Nat.add_assoc]
        exact own_cell9 h3 (by omega) f
      exact ⟨k 0 _ (by omega) rfl, k 1 _ (by omega) rfl, k 2 _ (by omega) rfl, k 3 _ (by omega) rfl⟩

/-! Steps. -/
def stpE (x : Mem.Stp) : List Value := [.int .i64 x.1, .int .i64 x.2]
def StpAt (w : World) (b o : Nat) (x : Mem.Stp) : Prop := w.cell? ⟨b, o, none⟩ = some (.int .i64 x.1) ∧ w.cell? ⟨b, o + 1, none⟩ = some (.int .i64 x.2)
def StpsAt (w : World) (a : Option Addr) (n : Nat) (l : List Mem.Stp) : Prop := l.length = n ∧ (n = 0 ∨ ∃ b, a = some ⟨b, 0, none⟩ ∧ ∀ (i : Nat) x, l[i]? = some x → StpAt w b (i * 2) x)
theorem StpsAt.ext {w w' : World} {a : Option Addr} {n : Nat} {l : List Mem.Stp} (h : StpsAt w a n l) (hE : Ext w w') : StpsAt w' a n l :=
  ⟨h.1, h.2.imp id fun ⟨b, ha, hx⟩ => ⟨b, ha, fun i x hi => ⟨hE.cell (hx i x hi).1, hE.cell (hx i x hi).2⟩⟩⟩
def stpN (l : List Mem.Stp) (i : Nat) : Mem.Stp := l[i]?.getD (0, 0)
theorem stpN_at {l : List Mem.Stp} {i : Nat} (h : i < l.length) : l[i]? = some (stpN l i) := by unfold stpN; rw [List.getElem?_eq_getElem h]; rfl
theorem StpsAt.parts {w : World} {a : Option Addr} {n : Nat} {l : List Mem.Stp} (h : StpsAt w a n l) : ∃ b, (0 < n → a = some ⟨b, 0, none⟩) ∧ ∀ i, i < n → StpAt w b (i * 2) (stpN l i) := by
  obtain ⟨h1, h3⟩ := h
  rcases h3 with h3 | ⟨b, ha, hx⟩
  · exact ⟨0, fun h => by omega, fun i hi => by omega⟩
  · exact ⟨b, fun _ => ha, fun i hi => hx i _ (stpN_at (by omega))⟩
def stpR : Rep Mem.Stp where
  rel _ c x F := c = stpE x ∧ F = []
  keep := fun h _ => h
  lt := by rintro w c x F ⟨_, rfl⟩ b hb; cases hb
theorem stpT : ElemT Try.prog 84 86 (.agg #[.int .i64 0, .int .i64 0]) 2 16 := ⟨Try.underlying84, by kernel_rfl, rfl, by decide⟩
theorem enc_len (x : Mem.Stp) : (stpE x).length = 2 := rfl
theorem enc_one : ∀ x : Mem.Stp, ∀ v ∈ stpE x, v.oneCell' = true := fun x v hv => by
  simp [stpE] at hv; rcases hv with rfl | rfl <;> rfl
theorem flat_at (rs : List Mem.Stp) {i q : Nat} (hi : i < rs.length) (hq : q < 2) : (Go.Sort.flatK stpE 2 rs.toArray)[i * 2 + q]! = (stpE rs[i])[q]! := by
  rw [Go.Sort.get_flatK _ _ _ _ (by simp; omega), show (i * 2 + q) / 2 = i by omega, show (i * 2 + q) % 2 = q by omega]
  simp [hi]
theorem holds_stps {w : World} {b : Nat} {rs : List Mem.Stp} (h : Go.Sort.HoldsK stpE 2 w b 0 rs.toArray) : StpsAt w (some ⟨b, 0, none⟩) rs.length rs := by
  refine ⟨rfl, .inr ⟨b, rfl, fun i x hx => ?_⟩⟩
  obtain ⟨hi, rfl⟩ := List.getElem?_eq_some_iff.1 hx
  have k : ∀ q, q < 2 → w.cell? ⟨b, i * 2 + q, none⟩ = some (stpE rs[i])[q]! := fun q hq => by
    have := (h (i * 2 + q) (by simp; omega)).1
    rw [Nat.zero_add] at this
    rw [this, id, flat_at rs hi hq]
  exact ⟨k 0 (by omega), k 1 (by omega)⟩
theorem own_holds {n₀ e g n cap : Nat} {w : World} {rs : List Mem.Stp} (h : OwnL stpR n₀ e 2 (.slice (some ⟨g, 0, none⟩) n cap) w rs) (hl : rs.length = n) : Go.Sort.HoldsK stpE 2 w g 0 rs.toArray := by
  subst hl
  obtain ⟨cs, h1, h2, h3, h4⟩ := h
  intro j hj
  have hj' : j < rs.length * 2 := by simpa using hj
  obtain ⟨i, q, rfl, hq⟩ : ∃ i q, j = i * 2 + q ∧ q < 2 := ⟨j / 2, j % 2, by omega, by omega⟩
  have hi : i < rs.length := by omega
  have hc := List.getElem?_eq_getElem (l := cs) (i := i) (by omega)
  obtain ⟨F, ⟨e1, _⟩, _⟩ := h4 i _ _ (List.getElem?_eq_getElem hi) hc
  have f := flatten_get h2 i hc q hq
  have e2 := List.getElem?_eq_getElem (l := stpE rs[i]) (i := q) (by rw [enc_len]; exact hq)
  rw [e1, e2] at f
  refine ⟨?_, h3.frozenAt _⟩
  rw [id, flat_at rs hi hq, getElem!_pos _ q (by rw [enc_len]; exact hq)]
  exact own_cell9 h3 (by omega) f
theorem putRow_ext9 {α : Type} [Inhabited α] {U w : World} {g m : Nat} (enc : α → Value) (h : Ext U w) (hg : U.heap.size ≤ g) (d : Array α) : Ext U (Go.Sort.putRow enc (Go.Sort.ahead w m) g 0 d) :=
  ⟨h.os, h.tape, h.output, by rw [Go.Sort.size_putRow]; exact h.size, fun k hk => by
    show (w.heap.modify g _)[k]? = _
    rw [Array.getElem?_modify, if_neg (by omega)]; exact h.block k hk⟩
theorem grow_ext {U w : World} (h : Ext U w) (os : Array Obj) : Ext U (Go.Sort.grow w os) :=
  ⟨h.os, h.tape, h.output, by have := h.size; rw [Go.Sort.size_grow]; omega, fun k hk => by
    show (w.heap ++ os)[k]? = _
    rw [Array.getElem?_append_left (Nat.lt_of_lt_of_le hk h.size)]; exact h.block k hk⟩
theorem ltOf_bef (x y : Mem.Stp) : Go.Proofs.ltOf (fun x y : Mem.Stp => Mem.cmpI x.1 y.1) x y = decide (x.1 < y.1) := by
  unfold Go.Proofs.ltOf
  rw [Bool.eq_iff_iff, decide_eq_true_iff, decide_eq_true_iff, Mem.cmpI_neg]
theorem swo_bef : Go.Sort.SWO (Go.Proofs.ltOf fun x y : Mem.Stp => Mem.cmpI x.1 y.1) where
  irrefl x := by rw [ltOf_bef]; simp
  trans x y z h k := by rw [ltOf_bef] at *; simp at *; omega
  ntrans x y z h k := by rw [ltOf_bef] at *; simp at *; omega
theorem raw_order (blk off size : Nat) (w : World) : Go.Proofs.CmpLays Try.prog 53 #[] stpE 2 (fun x y => Mem.cmpI x.1 y.1) blk off size w :=
  fun _ _ _ _ x y => order_g x y _
def SortPost (w : World) (n₀ : Nat) (a : Option Addr) (n : Nat) (rs : List Mem.Stp) (e : Ending) (w' : World) : Prop :=
  e = .returned (.tuple #[]) ∧ ∃ rs', rs'.Perm rs ∧ Mem.Srt rs' ∧ StpsAt w' a n rs' ∧ (∀ U, Ext U w → U.heap.size ≤ n₀ → Ext U w') ∧ w.heap.size ≤ w'.heap.size
theorem SortFunc_c {n₀ e g n cap : Nat} {rs : List Mem.Stp} (w : World) (h : OwnL stpR n₀ e 2 (.slice (some ⟨g, 0, none⟩) n cap) w rs) (hl : rs.length = n) (hn : n ≤ 1000000) :
    Calls Try.prog 52 #[.slice (some ⟨g, 0, none⟩) n cap, .func (.func 53) #[] #[]] w (SortPost w g (some ⟨g, 0, none⟩) n rs) := by
  subst hl
  have hcon := Go.Proofs.AnyQ.slices_SortFunc Try.sortSt 2 Try.isAgg86 Try.sizeOf86 stpE enc_len enc_one (fun x y => Mem.cmpI x.1 y.1) swo_bef 53 #[] g 0 cap rs.toArray w (Go.Proofs.enters_of Try.func53 (by kernel_rfl) rfl)
    (raw_order g 0 rs.toArray.size w) (own_holds h rfl) (h.lt g rfl) (by simp; omega)
  refine hcon.mono fun e w' ⟨he, d', m, os, ⟨hs, _, hp⟩, hso, hw⟩ => ⟨he, d'.toList, ?_, ?_, ?_, ?_, ?_⟩
  · have e1 : d'.extract 0 rs.toArray.size = d' := by rw [← hs]; simp
    have e2 : rs.toArray.extract 0 rs.toArray.size = rs.toArray := by simp
    rw [e1, e2] at hp; simpa using hp
  · unfold Mem.Srt
    rw [List.pairwise_iff_getElem]
    intro i j hi hj hij
    have h0 := hso i j (Nat.zero_le _) hij (by rw [← hs]; simpa using hj)
    rw [ltOf_bef, decide_eq_false_iff_not] at h0
    have h1 : ¬ (d'.toList[j]).1 < (d'.toList[i]).1 := by
      simpa [getElem!_pos, show i < d'.size by simpa using hi, show j < d'.size by simpa using hj] using h0
    omega
  · have hl' : d'.toList.length = rs.length := by simpa using hs
    have := holds_stps (w := w') (b := g) (rs := d'.toList) (by
      rw [hw]
      refine Go.Sort.holdsK_grow stpE 2 _ _ _ _ _ ?_ ?_
      · rw [Go.Sort.putRowK, Go.Sort.size_putRow]; exact h.lt g rfl
      · exact Go.Sort.holdsK_putRowK _ _ _ _ _ rs.toArray _ (Go.Sort.holdsK_ahead _ _ _ _ _ _ _ (own_holds h rfl)) (by simpa using hs))
    rwa [hl'] at this
  · intro U hU hUg
    rw [hw]
    exact grow_ext (putRow_ext9 _ hU hUg _) _
  · rw [hw]; unfold Go.Proofs.sortWorldK; rw [Go.Sort.size_grow, Go.Sort.putRowK, Go.Sort.size_putRow]; exact Nat.le_add_right _ _
/-- The sort of a list of one's own, empty or not. -/
theorem Sort_c {n₀ e : Nat} {a : Option Addr} {n cap : Nat} {rs : List Mem.Stp} (w : World) (h : OwnL stpR n₀ e 2 (.slice a n cap) w rs) (hl : rs.length = n) (hn : n ≤ 1000) :
    Calls Try.prog 52 #[.slice a n cap, .func (.func 53) #[] #[]] w (SortPost w n₀ a n rs) := by
  have hb := h.base
  by_cases h0 : n = 0
  · subst h0
    obtain rfl := List.eq_nil_of_length_eq_zero hl
    refine (Go.Proofs.AnyF.slices_SortFunc_none Try.sortSt a cap _ w).mono fun e w' ⟨he, hw⟩ => ⟨he, [], .refl _, List.Pairwise.nil, ⟨rfl, .inl rfl⟩, fun U hU _ => hw ▸ hU, by rw [hw]; exact Nat.le_refl _⟩
  · have hg : ∃ g, a = some ⟨g, 0, none⟩ := by
      obtain ⟨cs, k1, k2, k3, k4⟩ := h
      rcases k3.2 with ⟨q, _⟩ | ⟨g, cap', cur, q, _⟩
      · injection q with r1 r2 r3; omega
      · injection q with r1; exact ⟨g, r1⟩
    obtain ⟨g, rfl⟩ := hg
    refine (SortFunc_c w h hl (by omega)).mono fun e w' ⟨he, rs', h1, h2, h3, h4, h5⟩ => ⟨he, rs', h1, h2, h3, fun U hU hUn => h4 U hU (Nat.le_trans hUn (hb g rfl)), h5⟩
/-- Appending several elements; what is not the list's block is as it was. -/
theorem own_appMk {α : Type} {R : Rep α} {P : Program} {t ty e : TypeId} {z : Value} {size bytes : Nat} (E : ElemT P t e z size bytes) {n₀ : Nat} {v : Value} {w : World} {l : List α} (h : OwnL R n₀ e size v w l) (hn : n₀ ≤ w.heap.size) {k : Nat} (hl : l.length = k)
    {O c m : Nat} {xs : List α} {ds : List (List Value)} (hm : xs.length = m) (h0 : 0 < m) (hds : ds.length = m) (hsz : ∀ d ∈ ds, d.length = size) (hcell : ∀ j u, ds.flatten[j]? = some u → w.cell? ⟨O, j, none⟩ = some u) (h1 : ∀ d ∈ ds, ∀ u ∈ d, u.oneCell' = true)
    (hR : ∀ (j : Nat) x d, xs[j]? = some x → ds[j]? = some d → ∃ F, R.rel w d x F ∧ ∀ b ∈ F, v.ownBlock ≠ some b) (hb : (k + m) * bytes ≤ 140737488355328) (hmax : k + m ≤ 9223372036854775807) :
    ∃ g cap w', (Builtin.append_ #[t, t] ty #[v, .slice (some ⟨O, 0, none⟩) m c]).run P w = .ok (.slice (some ⟨g, 0, none⟩) (k + m) cap) w' ∧ OwnL R n₀ e size (.slice (some ⟨g, 0, none⟩) (k + m) cap) w' (l ++ xs) ∧ Grew n₀ w w' ∧ w.grownBy w' v.ownBlock := by
  subst hl
  obtain ⟨cs, h2, h3, h4, h5⟩ := h
  obtain ⟨i, hi, hz0, hz1, hz2⟩ := info_parts E.info
  obtain ⟨v', w', hrun, hown, hg, hiff, hat⟩ := run_append_own_at (P := P) w n₀ t ty e i z size bytes E.under hi hz0 hz1 hz2 E.zs E.pos v l.length cs.flatten h4 ⟨O, 0, none⟩ m c ds.flatten (by rw [flatten_len hsz, hds]) (fun j u hj => by
    rw [Addr.add_mid, Nat.zero_add]; exact hcell j u hj) (fun u hu => by obtain ⟨d, hd, hu⟩ := List.mem_flatten.1 hu; exact h1 d hd u hu) (by unfold maxLen; exact hmax) hb hn
  have hnb : ∀ F : List Nat, (∀ b ∈ F, v.ownBlock ≠ some b) → (∀ b ∈ F, b < w.heap.size) → (∀ b ∈ F, v'.ownBlock ≠ some b) ∧ ∀ b ∈ F, ∀ o u, w.cell? ⟨b, o, none⟩ = some u → w'.cell? ⟨b, o, none⟩ = some u := by
    intro F hF hFl
    refine ⟨fun b hbF hv' => ?_, fun b hbF o u hu => hg.cell hu (fun e => hF b hbF e.symm)⟩
    rcases hat with e1 | e1
    · exact hF b hbF (by rw [← e1]; exact hv')
    · rw [e1] at hv'; cases hv'; have := hFl _ hbF; omega
  have hO : OwnL R n₀ e size v' w' (l ++ xs) := ⟨cs ++ ds, by simp [h2, hds, hm], by
      intro y hy
      rcases List.mem_append.1 hy with hy | hy
      · exact h3 y hy
      · exact hsz y hy, by rw [List.flatten_append, List.length_append, hm]; exact hown, by
      intro j y c hx hc
      rcases Nat.lt_or_ge j l.length with hj | hj
      · rw [List.getElem?_append_left hj] at hx
        rw [List.getElem?_append_left (by rw [h2]; exact hj)] at hc
        obtain ⟨F, q1, q2⟩ := h5 j y c hx hc
        obtain ⟨k1, k2⟩ := hnb F q2 (R.lt q1)
        exact ⟨F, R.keep q1 k2, k1⟩
      · rw [List.getElem?_append_right hj] at hx
        rw [List.getElem?_append_right (by rw [h2]; exact hj), h2] at hc
        obtain ⟨F, q1, q2⟩ := hR _ y c hx hc
        obtain ⟨k1, k2⟩ := hnb F q2 (R.lt q1)
        exact ⟨F, R.keep q1 k2, k1⟩⟩
  rcases hown.2 with ⟨q, _⟩ | ⟨g, cap, cur, q, _, _, q3, _⟩
  · have := (hiff.1 q).2; omega
  · subst q
    exact ⟨g, cap, w', hrun, hO, ⟨hg.size, fun U hU hUn => Ext.own' hU h4 hUn hg⟩, hg⟩
theorem cells4 {w : World} {O : Nat} {x y z u : Value} (h : w.cell? ⟨O, 0, none⟩ = some x) (h1 : w.cell? ⟨O, 1, none⟩ = some y) (h2 : w.cell? ⟨O, 2, none⟩ = some z) (h3 : w.cell? ⟨O, 3, none⟩ = some u) : ∀ j v, [x, y, z, u][j]? = some v → w.cell? ⟨O, j, none⟩ = some v
  | 0, v, hv => by simp at hv; subst hv; exact h
  | 1, v, hv => by simp at hv; subst hv; exact h1
  | 2, v, hv => by simp at hv; subst hv; exact h2
  | 3, v, hv => by simp at hv; subst hv; exact h3
  | _ + 4, v, hv => by simp at hv

/-! An array of booleans in a block of one's own, by a function. -/
def ArrAt (w : World) (B n : Nat) (f : Nat → Bool) : Prop := 0 < n ∧ ∀ k, k < n → BoxAt w B k (.bool (f k))
theorem ArrAt.at {w : World} {B n : Nat} {f : Nat → Bool} (h : ArrAt w B n f) {k : Nat} (hk : k < n) : BoxAt w B k (.bool (f k)) := h.2 k hk
theorem ArrAt.ext {w w' : World} {B n : Nat} {f : Nat → Bool} (h : ArrAt w B n f) (hE : Ext w w') : ArrAt w' B n f := ⟨h.1, fun k hk => BoxAt.ext hE (h.2 k hk)⟩
theorem ArrAt.lt {w : World} {B n : Nat} {f : Nat → Bool} (h : ArrAt w B n f) : B < w.heap.size := (h.2 0 h.1).lt
theorem Turns.arr {O : Nat} {w X : World} (h : Turns O w X) {B n : Nat} {f : Nat → Bool} (hb : O ≠ B) (hv : ArrAt w B n f) : ArrAt X B n f := ⟨hv.1, fun k hk => h.box hb (hv.2 k hk)⟩
def upd (f : Nat → Bool) (j : Nat) (v : Bool) (k : Nat) : Bool := if k = j then v else f k
theorem ArrAt.upd {w X : World} {B n j : Nat} {f : Nat → Bool} {v : Bool} (h : ArrAt w B n f) (hv : BoxAt X B j (.bool v)) (hk : ∀ i x, i ≠ j → BoxAt w B i x → BoxAt X B i x) : ArrAt X B n (upd f j v) :=
  ⟨h.1, fun k hn => by
    unfold Go.Proofs.Ytnbjjddfcondlaa.upd
    by_cases e : k = j
    · subst e; rw [if_pos rfl]; exact hv
    · rw [if_neg e]; exact hk k _ e (h.2 k hn)⟩
theorem ArrAt.congr {w : World} {B n : Nat} {f g : Nat → Bool} (h : ArrAt w B n f) (e : ∀ k, k < n → f k = g k) : ArrAt w B n g := ⟨h.1, fun k hk => by rw [← e k hk]; exact h.2 k hk⟩
section
variable {P : Program} {w : World}
theorem sn_newA {ev : Operand → Value} {oi : Oper} {N : Value → World → Prop} {n : Nat} {t : TypeId} (hn : 0 < n) (h1 : (execOp ev oi).run P w = .ok (.value (.pointer (some ⟨w.heap.size, 0, none⟩))) (w.alloc (.cells (Array.replicate n (.bool false)) t)))
    (h : ∀ O X, w.heap.size = O → X.heap.size = O + 1 → Ext w X → ArrAt X O n (fun _ => false) → N (.pointer (some ⟨O, 0, none⟩)) X) : StepN P ev oi w N :=
  sn_new h1 fun O X hO hX hE hb => h O X hO hX hE ⟨hn, fun k hk => hb k _ (by rw [Array.getElem?_replicate, if_pos hk])⟩
end
theorem ia64 {w : World} {b : Nat} {z : Int} (h0 : 0 ≤ z) (h1 : z < 64) : (Instr.indexAt 79 (.pointer (some ⟨b, 0, none⟩)) (.int .i64 z)).run Try.prog w = .ok (.pointer (some ⟨b, z.toNat, none⟩)) w := by
  go_simp
end Go.Proofs.Ytnbjjddfcondlaa

/- Contracts of package memory: small functions, Valid. -/
namespace Go.Proofs.Ytnbjjddfcondlaa
open Go.RowKit

namespace Mem
def spB (s : Int × Int) : Bool := (decide (0 ≤ s.1) && decide (s.1 < s.2)) && decide (s.2 ≤ 1000001)
theorem spB_t {s : Int × Int} : spB s = true ↔ (0 ≤ s.1 ∧ s.1 < s.2) ∧ s.2 ≤ 1000001 := by unfold spB; simp
def okSt (x : St) : Bool := Globe.inB x.im 0 63 && (Globe.inB x.un 1 1000000 && spB (x.fr, x.to))
def distB : List St → Bool
  | [] => true
  | x :: r => !(r.any fun y => decide (y.im = x.im)) && distB r
theorem distB_snoc : ∀ (l : List St) (x : St), distB (l ++ [x]) = (distB l && !(l.any fun y => decide (y.im = x.im)))
  | [], x => rfl
  | y :: l, x => by
    simp only [List.cons_append, distB, distB_snoc l x, List.any_append, List.any_cons, List.any_nil, Bool.or_false]
    have e : decide (y.im = x.im) = decide (x.im = y.im) := by rw [Bool.eq_iff_iff, decide_eq_true_iff, decide_eq_true_iff]; exact eq_comm
    rw [e]
    cases (l.any fun z => decide (z.im = y.im)) <;> cases decide (x.im = y.im) <;> cases distB l <;> cases (l.any fun z => decide (z.im = x.im)) <;> simp_all
theorem distB_app {a b : List St} (h : distB (a ++ b) = true) : distB a = true := by
  induction b generalizing a with
  | nil => rwa [List.append_nil] at h
  | cons x b ih =>
    rw [show a ++ x :: b = (a ++ [x]) ++ b by simp] at h
    have := ih h
    rw [distB_snoc] at this
    exact (Bool.and_eq_true_iff.1 this).1
def okL (l : List St) : Bool := (l.all okSt && distB l) && decide (l.length ≤ 24)
def seenF (l : List St) (k : Nat) : Bool := l.any fun y => decide (y.im = (k : Int))
theorem bad_st {l : List St} {i : Nat} (hi : i < l.length) (h : okSt (stN l i) = false) : okL l = false := by
  cases q : okL l
  · rfl
  · unfold okL at q
    have := List.all_eq_true.1 (Bool.and_eq_true_iff.1 (Bool.and_eq_true_iff.1 q).1).1 _ (stN_mem hi)
    rw [h] at this; cases this
theorem bad_seen {l : List St} {i : Nat} (hi : i < l.length) (h : ((l.take i).any fun y => decide (y.im = (stN l i).im)) = true) : okL l = false := by
  cases q : okL l
  · rfl
  · unfold okL at q
    have h2 := (Bool.and_eq_true_iff.1 (Bool.and_eq_true_iff.1 q).1).2
    rw [← List.take_append_drop (i + 1) l] at h2
    have h3 := distB_app h2
    rw [stN_take hi, distB_snoc, h] at h3
    simp at h3
theorem seen_next {l : List St} {i : Nat} (hi : i < l.length) (h0 : 0 ≤ (stN l i).im) (k : Nat) : upd (seenF (l.take i)) (stN l i).im.toNat true k = seenF (l.take (i + 1)) k := by
  rw [stN_take hi]
  unfold upd seenF
  rw [List.any_append]
  by_cases e : k = (stN l i).im.toNat
  · rw [if_pos e]
    have : (stN l i).im = (k : Int) := by omega
    simp [this]
  · rw [if_neg e]
    have : ¬ (stN l i).im = (k : Int) := by omega
    simp [this]
theorem ok_next {l : List St} {i : Nat} (hi : i < l.length) (h : (l.take i).all okSt = true ∧ distB (l.take i) = true) (h1 : okSt (stN l i) = true) (h2 : ((l.take i).any fun y => decide (y.im = (stN l i).im)) = false) : (l.take (i + 1)).all okSt = true ∧ distB (l.take (i + 1)) = true := by
  rw [stN_take hi, List.all_append, distB_snoc, h.1, h.2, h2]
  simp [h1]
theorem okL_at {l : List St} (h : okL l = true) {x : St} (hx : x ∈ l) : (0 ≤ x.im ∧ x.im ≤ 63) ∧ (1 ≤ x.un ∧ x.un ≤ 1000000) ∧ 0 ≤ x.fr ∧ x.fr < x.to ∧ x.to ≤ 1000001 := by
  unfold okL at h
  have := List.all_eq_true.1 (Bool.and_eq_true_iff.1 (Bool.and_eq_true_iff.1 h).1).1 x hx
  unfold okSt at this
  obtain ⟨h1, h2⟩ := Bool.and_eq_true_iff.1 this
  obtain ⟨h2, h3⟩ := Bool.and_eq_true_iff.1 h2
  have a := Globe.inB_t.1 h1
  have b := Globe.inB_t.1 h2
  have c := spB_t.1 h3
  simp only [] at c
  omega
theorem okL_len {l : List St} (h : okL l = true) : l.length ≤ 24 := of_decide_eq_true (Bool.and_eq_true_iff.1 h).2
theorem okL_u {l : List St} (h : okL l = true) : ∀ x ∈ l, okU x := fun x hx => by have := okL_at h hx; exact ⟨this.2.1.1, this.2.2.2.1⟩
theorem okL_f {l : List St} (h : okL l = true) : ∀ x ∈ l, 0 ≤ x.fr := fun _x hx => (okL_at h hx).2.2.1
end Mem
set_option maxRecDepth 1000000 in
set_option maxHeartbeats 4000000 in
theorem memory_isIn_c (n lo hi : Int) (w : World) : Calls Try.prog 46 #[.int .i64 n, .int .i64 lo, .int .i64 hi] w fun e w' => e = .returned (.bool (Globe.inB n lo hi)) ∧ Ext w w' := by
  refine calls_cw 15 [(2, .int .i64 (hi : Int)), (1, .int .i64 (lo : Int)), (0, .int .i64 (n : Int))] Try.func46 rfl Try.ntmps46 (by kernel_rfl) (by kernel_rfl) (fun L => ?_)
  have hE : Ext w w := Ext.refl w
  refine cw_seq ?_
  refine cw_plain ?_
  refine pl_take (.bool false) rfl (by kernel_rfl) (by kernel_rfl) (by kernel_rfl) (by kernel_rfl) ?_
  refine pl_nil ?_
  refine qw_then ?_
  refine cw_seq ?_
  refine cw_plain ?_
  refine pl_take (.int .i64 (lo : Int)) rfl (by kernel_rfl) (by kernel_rfl) (by kernel_rfl) (by kernel_rfl) ?_
  refine pl_take (.int .i64 (n : Int)) rfl (by kernel_rfl) (by kernel_rfl) (by kernel_rfl) (by kernel_rfl) ?_
  by_cases hc1 : (lo : Int) ≤ (n : Int)
  ·
    refine pl_take (.bool true) rfl (by kernel_rfl) (by kernel_rfl) (by kernel_rfl) (ev_dec (show _ = Result.ok (Next.value (Value.bool (decide ((lo : Int) ≤ (n : Int))))) _ from by kernel_rfl) (hc1)) ?_
    refine pl_take (.bool true) rfl (by kernel_rfl) (by kernel_rfl) (by kernel_rfl) (by kernel_rfl) ?_
    refine pl_take (.int .i64 (n : Int)) rfl (by kernel_rfl) (by kernel_rfl) (by kernel_rfl) (by kernel_rfl) ?_
    refine pl_take (.int .i64 (hi : Int)) rfl (by kernel_rfl) (by kernel_rfl) (by kernel_rfl) (by kernel_rfl) ?_
    by_cases hc2 : (n : Int) ≤ (hi : Int)
    ·
      refine pl_take (.bool true) rfl (by kernel_rfl) (by kernel_rfl) (by kernel_rfl) (ev_dec (show _ = Result.ok (Next.value (Value.bool (decide ((n : Int) ≤ (hi : Int))))) _ from by kernel_rfl) (hc2)) ?_
      refine pl_take (.bool true) rfl (by kernel_rfl) (by kernel_rfl) (by kernel_rfl) (by kernel_rfl) ?_
      refine pl_take (.bool true) rfl (by kernel_rfl) (by kernel_rfl) (by kernel_rfl) (by kernel_rfl) ?_
      refine pl_nil ?_
      refine qw_then ?_
      refine cw_ret ?_
      refine qw_ret [.bool true] rfl ⟨(by kernel_rfl), trivial⟩ ?_
      exact ⟨congrArg (fun b => Ending.returned (Value.bool b)) (by first | exact (decide_eq_true (by omega)).symm | exact (decide_eq_false (by omega)).symm), hE⟩
    ·
      refine pl_take (.bool false) rfl (by kernel_rfl) (by kernel_rfl) (by kernel_rfl) (ev_ndec (show _ = Result.ok (Next.value (Value.bool (decide ((n : Int) ≤ (hi : Int))))) _ from by kernel_rfl) (hc2)) ?_
      refine pl_take (.bool false) rfl (by kernel_rfl) (by kernel_rfl) (by kernel_rfl) (by kernel_rfl) ?_
      refine pl_take (.bool false) rfl (by kernel_rfl) (by kernel_rfl) (by kernel_rfl) (by kernel_rfl) ?_
      refine pl_nil ?_
      refine qw_then ?_
      refine cw_ret ?_
      refine qw_ret [.bool false] rfl ⟨(by kernel_rfl), trivial⟩ ?_
      exact ⟨congrArg (fun b => Ending.returned (Value.bool b)) (by first | exact (decide_eq_true (by omega)).symm | exact (decide_eq_false (by omega)).symm), hE⟩
  ·
    refine pl_take (.bool false) rfl (by kernel_rfl) (by kernel_rfl) (by kernel_rfl) (ev_ndec (show _ = Result.ok (Next.value (Value.bool (decide ((lo : Int) ≤ (n : Int))))) _ from by kernel_rfl) (hc1)) ?_
    refine pl_take (.bool false) rfl (by kernel_rfl) (by kernel_rfl) (by kernel_rfl) (by kernel_rfl) ?_
    refine pl_skip rfl (by kernel_rfl) (by kernel_rfl) (by kernel_rfl) ?_
    refine pl_skip rfl (by kernel_rfl) (by kernel_rfl) (by kernel_rfl) ?_
    refine pl_skip rfl (by kernel_rfl) (by kernel_rfl) (by kernel_rfl) ?_
    refine pl_take (.bool false) rfl (by kernel_rfl) (by kernel_rfl) (by kernel_rfl) (by kernel_rfl) ?_
    refine pl_take (.bool false) rfl (by kernel_rfl) (by kernel_rfl) (by kernel_rfl) (by kernel_rfl) ?_
    refine pl_nil ?_
    refine qw_then ?_
    refine cw_ret ?_
    refine qw_ret [.bool false] rfl ⟨(by kernel_rfl), trivial⟩ ?_
    exact ⟨congrArg (fun b => Ending.returned (Value.bool b)) (by first | exact (decide_eq_true (by omega)).symm | exact (decide_eq_false (by omega)).symm), hE⟩
theorem memory_isIn_r (n lo hi : Int) {r : Bool} (w : World) (hr : Globe.inB n lo hi = r) : Calls Try.prog 46 #[.int .i64 n, .int .i64 lo, .int .i64 hi] w fun e w' => e = .returned (.bool r) ∧ Ext w w' := hr ▸ memory_isIn_c n lo hi w
set_option maxRecDepth 1000000 in
set_option maxHeartbeats 4000000 in
theorem isSpell_c (f t : Int) (w : World) : Calls Try.prog 47 #[.agg #[.int .i64 f, .int .i64 t]] w fun e w' => e = .returned (.bool (Mem.spB (f, t))) ∧ Ext w w' := by
  refine calls_cw 18 [(0, .agg #[.int .i64 (f : Int), .int .i64 (t : Int)])] Try.func47 rfl Try.ntmps47 (by kernel_rfl) (by kernel_rfl) (fun L => ?_)
  have hE : Ext w w := Ext.refl w
  refine cw_seq ?_
  refine cw_plain ?_
  refine pl_step rfl (by kernel_rfl) (by kernel_rfl) (by kernel_rfl) (sn_new (us := #[.int .i64 (f : Int), .int .i64 (t : Int)]) (t := 24) (by kernel_rfl) ?_)
  intro O1 X2 hO hOs hb hbx
  have hzO1 := hO; have hyO1 := hOs; clear hO hOs
  have bO1_0 : BoxAt X2 O1 0 (.int .i64 (f : Int)) := hbx 0 _ rfl
  have bO1_1 : BoxAt X2 O1 1 (.int .i64 (t : Int)) := hbx 1 _ rfl
  clear hbx
  replace hE := hE.trans hb
  have hs3 := hb.size
  clear hb
  have lt4 := bO1_0.lt
  refine pl_take (.bool false) rfl (by kernel_rfl) (by kernel_rfl) (by kernel_rfl) (by kernel_rfl) ?_
  refine pl_nil ?_
  refine qw_then ?_
  refine cw_seq ?_
  refine cw_plain ?_
  refine pl_take (.pointer (some ⟨O1, 0, none⟩)) rfl (by kernel_rfl) (by kernel_rfl) (by kernel_rfl) (by kernel_rfl) ?_
  refine pl_take (.int .i64 (f : Int)) rfl (by kernel_rfl) (by kernel_rfl) (by kernel_rfl) (ex_load rfl (by kernel_rfl) (ld3 (bO1_0.1))) ?_
  by_cases hc5 : (0 : Int) ≤ (f : Int)
  ·
    refine pl_take (.bool true) rfl (by kernel_rfl) (by kernel_rfl) (by kernel_rfl) (ev_dec (show _ = Result.ok (Next.value (Value.bool (decide ((0 : Int) ≤ (f : Int))))) _ from by kernel_rfl) (hc5)) ?_
    refine pl_take (.bool true) rfl (by kernel_rfl) (by kernel_rfl) (by kernel_rfl) (by kernel_rfl) ?_
    refine pl_take (.pointer (some ⟨O1, 0, none⟩)) rfl (by kernel_rfl) (by kernel_rfl) (by kernel_rfl) (by kernel_rfl) ?_
    refine pl_take (.int .i64 (f : Int)) rfl (by kernel_rfl) (by kernel_rfl) (by kernel_rfl) (ex_load rfl (by kernel_rfl) (ld3 (bO1_0.1))) ?_
    refine pl_take (.pointer (some ⟨O1, 1, none⟩)) rfl (by kernel_rfl) (by kernel_rfl) (by kernel_rfl) (by kernel_rfl) ?_
    refine pl_take (.int .i64 (t : Int)) rfl (by kernel_rfl) (by kernel_rfl) (by kernel_rfl) (ex_load rfl (by kernel_rfl) (ld3 (bO1_1.1))) ?_
    by_cases hc6 : (f : Int) < (t : Int)
    ·
      refine pl_take (.bool true) rfl (by kernel_rfl) (by kernel_rfl) (by kernel_rfl) (ev_dec (show _ = Result.ok (Next.value (Value.bool (decide ((f : Int) < (t : Int))))) _ from by kernel_rfl) (hc6)) ?_
      refine pl_take (.bool true) rfl (by kernel_rfl) (by kernel_rfl) (by kernel_rfl) (by kernel_rfl) ?_
      refine pl_take (.bool true) rfl (by kernel_rfl) (by kernel_rfl) (by kernel_rfl) (by kernel_rfl) ?_
      refine pl_take (.pointer (some ⟨O1, 1, none⟩)) rfl (by kernel_rfl) (by kernel_rfl) (by kernel_rfl) (by kernel_rfl) ?_
      refine pl_take (.int .i64 (t : Int)) rfl (by kernel_rfl) (by kernel_rfl) (by kernel_rfl) (ex_load rfl (by kernel_rfl) (ld3 (bO1_1.1))) ?_
      by_cases hc7 : (t : Int) ≤ (1000001 : Int)
      ·
        refine pl_take (.bool true) rfl (by kernel_rfl) (by kernel_rfl) (by kernel_rfl) (ev_dec (show _ = Result.ok (Next.value (Value.bool (decide ((t : Int) ≤ (1000001 : Int))))) _ from by kernel_rfl) (hc7)) ?_
        refine pl_take (.bool true) rfl (by kernel_rfl) (by kernel_rfl) (by kernel_rfl) (by kernel_rfl) ?_
        refine pl_take (.bool true) rfl (by kernel_rfl) (by kernel_rfl) (by kernel_rfl) (by kernel_rfl) ?_
        refine pl_nil ?_
        refine qw_then ?_
        refine cw_clean [2] (ws' := [(2, .bool true)]) (by kernel_rfl) (fun L => ?_)
        refine cw_ret ?_
        refine qw_ret [.bool true] rfl ⟨(by kernel_rfl), trivial⟩ ?_
        exact ⟨congrArg (fun b => Ending.returned (Value.bool b)) (show Mem.spB (f, t) = true by simp [Mem.spB, hc5, hc6, hc7]).symm, hE⟩
      ·
        refine pl_take (.bool false) rfl (by kernel_rfl) (by kernel_rfl) (by kernel_rfl) (ev_ndec (show _ = Result.ok (Next.value (Value.bool (decide ((t : Int) ≤ (1000001 : Int))))) _ from by kernel_rfl) (hc7)) ?_
        refine pl_take (.bool false) rfl (by kernel_rfl) (by kernel_rfl) (by kernel_rfl) (by kernel_rfl) ?_
        refine pl_take (.bool false) rfl (by kernel_rfl) (by kernel_rfl) (by kernel_rfl) (by kernel_rfl) ?_
        refine pl_nil ?_
        refine qw_then ?_
        refine cw_clean [2] (ws' := [(2, .bool false)]) (by kernel_rfl) (fun L => ?_)
        refine cw_ret ?_
        refine qw_ret [.bool false] rfl ⟨(by kernel_rfl), trivial⟩ ?_
        exact ⟨congrArg (fun b => Ending.returned (Value.bool b)) (show Mem.spB (f, t) = false by simp [Mem.spB, hc5, hc6, hc7]).symm, hE⟩
    ·
      refine pl_take (.bool false) rfl (by kernel_rfl) (by kernel_rfl) (by kernel_rfl) (ev_ndec (show _ = Result.ok (Next.value (Value.bool (decide ((f : Int) < (t : Int))))) _ from by kernel_rfl) (hc6)) ?_
      refine pl_take (.bool false) rfl (by kernel_rfl) (by kernel_rfl) (by kernel_rfl) (by kernel_rfl) ?_
      refine pl_take (.bool false) rfl (by kernel_rfl) (by kernel_rfl) (by kernel_rfl) (by kernel_rfl) ?_
      refine pl_skip rfl (by kernel_rfl) (by kernel_rfl) (by kernel_rfl) ?_
      refine pl_skip rfl (by kernel_rfl) (by kernel_rfl) (by kernel_rfl) ?_
      refine pl_skip rfl (by kernel_rfl) (by kernel_rfl) (by kernel_rfl) ?_
      refine pl_take (.bool false) rfl (by kernel_rfl) (by kernel_rfl) (by kernel_rfl) (by kernel_rfl) ?_
      refine pl_take (.bool false) rfl (by kernel_rfl) (by kernel_rfl) (by kernel_rfl) (by kernel_rfl) ?_
      refine pl_nil ?_
      refine qw_then ?_
      refine cw_clean [2] (ws' := [(2, .bool false)]) (by kernel_rfl) (fun L => ?_)
      refine cw_ret ?_
      refine qw_ret [.bool false] rfl ⟨(by kernel_rfl), trivial⟩ ?_
      exact ⟨congrArg (fun b => Ending.returned (Value.bool b)) (show Mem.spB (f, t) = false by simp [Mem.spB, hc5, hc6]).symm, hE⟩
  ·
    refine pl_take (.bool false) rfl (by kernel_rfl) (by kernel_rfl) (by kernel_rfl) (ev_ndec (show _ = Result.ok (Next.value (Value.bool (decide ((0 : Int) ≤ (f : Int))))) _ from by kernel_rfl) (hc5)) ?_
    refine pl_take (.bool false) rfl (by kernel_rfl) (by kernel_rfl) (by kernel_rfl) (by kernel_rfl) ?_
    refine pl_skip rfl (by kernel_rfl) (by kernel_rfl) (by kernel_rfl) ?_
    refine pl_skip rfl (by kernel_rfl) (by kernel_rfl) (by kernel_rfl) ?_
    refine pl_skip rfl (by kernel_rfl) (by kernel_rfl) (by kernel_rfl) ?_
    refine pl_skip rfl (by kernel_rfl) (by kernel_rfl) (by kernel_rfl) ?_
    refine pl_skip rfl (by kernel_rfl) (by kernel_rfl) (by kernel_rfl) ?_
    refine pl_take (.bool false) rfl (by kernel_rfl) (by kernel_rfl) (by kernel_rfl) (by kernel_rfl) ?_
    refine pl_take (.bool false) rfl (by kernel_rfl) (by kernel_rfl) (by kernel_rfl) (by kernel_rfl) ?_
    refine pl_skip rfl (by kernel_rfl) (by kernel_rfl) (by kernel_rfl) ?_
    refine pl_skip rfl (by kernel_rfl) (by kernel_rfl) (by kernel_rfl) ?_
    refine pl_skip rfl (by kernel_rfl) (by kernel_rfl) (by kernel_rfl) ?_
    refine pl_take (.bool false) rfl (by kernel_rfl) (by kernel_rfl) (by kernel_rfl) (by kernel_rfl) ?_
    refine pl_take (.bool false) rfl (by kernel_rfl) (by kernel_rfl) (by kernel_rfl) (by kernel_rfl) ?_
    refine pl_nil ?_
    refine qw_then ?_
    refine cw_clean [2] (ws' := [(2, .bool false)]) (by kernel_rfl) (fun L => ?_)
    refine cw_ret ?_
    refine qw_ret [.bool false] rfl ⟨(by kernel_rfl), trivial⟩ ?_
    exact ⟨congrArg (fun b => Ending.returned (Value.bool b)) (show Mem.spB (f, t) = false by simp [Mem.spB, hc5]).symm, hE⟩
theorem isSpell_r (f t : Int) {r : Bool} (w : World) (hr : Mem.spB (f, t) = r) : Calls Try.prog 47 #[.agg #[.int .i64 f, .int .i64 t]] w fun e w' => e = .returned (.bool r) ∧ Ext w w' := hr ▸ isSpell_c f t w
set_option maxRecDepth 1000000 in
set_option maxHeartbeats 4000000 in
theorem proper_c (f t : Int) (w : World) : Calls Try.prog 48 #[.agg #[.int .i64 f, .int .i64 t]] w fun e w' => e = .returned (.bool (Mem.spB (f, t))) ∧ Ext w w' := by
  refine calls_cw 18 [(0, .agg #[.int .i64 (f : Int), .int .i64 (t : Int)])] Try.func48 rfl Try.ntmps48 (by kernel_rfl) (by kernel_rfl) (fun L => ?_)
  have hE : Ext w w := Ext.refl w
  refine cw_seq ?_
  refine cw_plain ?_
  refine pl_step rfl (by kernel_rfl) (by kernel_rfl) (by kernel_rfl) (sn_new (us := #[.int .i64 (f : Int), .int .i64 (t : Int)]) (t := 24) (by kernel_rfl) ?_)
  intro O1 X2 hO hOs hb hbx
  have hzO1 := hO; have hyO1 := hOs; clear hO hOs
  have bO1_0 : BoxAt X2 O1 0 (.int .i64 (f : Int)) := hbx 0 _ rfl
  have bO1_1 : BoxAt X2 O1 1 (.int .i64 (t : Int)) := hbx 1 _ rfl
  clear hbx
  replace hE := hE.trans hb
  have hs3 := hb.size
  clear hb
  have lt4 := bO1_0.lt
  refine pl_take (.bool false) rfl (by kernel_rfl) (by kernel_rfl) (by kernel_rfl) (by kernel_rfl) ?_
  refine pl_nil ?_
  refine qw_then ?_
  refine cw_seq ?_
  refine cw_plain ?_
  refine pl_take (.pointer (some ⟨O1, 0, none⟩)) rfl (by kernel_rfl) (by kernel_rfl) (by kernel_rfl) (by kernel_rfl) ?_
  refine pl_take (.int .i64 (f : Int)) rfl (by kernel_rfl) (by kernel_rfl) (by kernel_rfl) (ex_load rfl (by kernel_rfl) (ld3 (bO1_0.1))) ?_
  by_cases hc5 : (f : Int) ≥ (0 : Int)
  ·
    refine pl_take (.bool true) rfl (by kernel_rfl) (by kernel_rfl) (by kernel_rfl) (ev_dec (show _ = Result.ok (Next.value (Value.bool (decide ((f : Int) ≥ (0 : Int))))) _ from by kernel_rfl) (hc5)) ?_
    refine pl_take (.bool true) rfl (by kernel_rfl) (by kernel_rfl) (by kernel_rfl) (by kernel_rfl) ?_
    refine pl_take (.pointer (some ⟨O1, 0, none⟩)) rfl (by kernel_rfl) (by kernel_rfl) (by kernel_rfl) (by kernel_rfl) ?_
    refine pl_take (.int .i64 (f : Int)) rfl (by kernel_rfl) (by kernel_rfl) (by kernel_rfl) (ex_load rfl (by kernel_rfl) (ld3 (bO1_0.1))) ?_
    refine pl_take (.pointer (some ⟨O1, 1, none⟩)) rfl (by kernel_rfl) (by kernel_rfl) (by kernel_rfl) (by kernel_rfl) ?_
    refine pl_take (.int .i64 (t : Int)) rfl (by kernel_rfl) (by kernel_rfl) (by kernel_rfl) (ex_load rfl (by kernel_rfl) (ld3 (bO1_1.1))) ?_
    by_cases hc6 : (f : Int) < (t : Int)
    ·
      refine pl_take (.bool true) rfl (by kernel_rfl) (by kernel_rfl) (by kernel_rfl) (ev_dec (show _ = Result.ok (Next.value (Value.bool (decide ((f : Int) < (t : Int))))) _ from by kernel_rfl) (hc6)) ?_
      refine pl_take (.bool true) rfl (by kernel_rfl) (by kernel_rfl) (by kernel_rfl) (by kernel_rfl) ?_
      refine pl_take (.bool true) rfl (by kernel_rfl) (by kernel_rfl) (by kernel_rfl) (by kernel_rfl) ?_
      refine pl_take (.pointer (some ⟨O1, 1, none⟩)) rfl (by kernel_rfl) (by kernel_rfl) (by kernel_rfl) (by kernel_rfl) ?_
      refine pl_take (.int .i64 (t : Int)) rfl (by kernel_rfl) (by kernel_rfl) (by kernel_rfl) (ex_load rfl (by kernel_rfl) (ld3 (bO1_1.1))) ?_
      by_cases hc7 : (t : Int) ≤ (1000001 : Int)
      ·
        refine pl_take (.bool true) rfl (by kernel_rfl) (by kernel_rfl) (by kernel_rfl) (ev_dec (show _ = Result.ok (Next.value (Value.bool (decide ((t : Int) ≤ (1000001 : Int))))) _ from by kernel_rfl) (hc7)) ?_
        refine pl_take (.bool true) rfl (by kernel_rfl) (by kernel_rfl) (by kernel_rfl) (by kernel_rfl) ?_
        refine pl_take (.bool true) rfl (by kernel_rfl) (by kernel_rfl) (by kernel_rfl) (by kernel_rfl) ?_
        refine pl_nil ?_
        refine qw_then ?_
        refine cw_clean [2] (ws' := [(2, .bool true)]) (by kernel_rfl) (fun L => ?_)
        refine cw_ret ?_
        refine qw_ret [.bool true] rfl ⟨(by kernel_rfl), trivial⟩ ?_
        exact ⟨congrArg (fun b => Ending.returned (Value.bool b)) (show Mem.spB (f, t) = true by simp [Mem.spB, hc5, hc6, hc7]).symm, hE⟩
      ·
        refine pl_take (.bool false) rfl (by kernel_rfl) (by kernel_rfl) (by kernel_rfl) (ev_ndec (show _ = Result.ok (Next.value (Value.bool (decide ((t : Int) ≤ (1000001 : Int))))) _ from by kernel_rfl) (hc7)) ?_
        refine pl_take (.bool false) rfl (by kernel_rfl) (by kernel_rfl) (by kernel_rfl) (by kernel_rfl) ?_
        refine pl_take (.bool false) rfl (by kernel_rfl) (by kernel_rfl) (by kernel_rfl) (by kernel_rfl) ?_
        refine pl_nil ?_
        refine qw_then ?_
        refine cw_clean [2] (ws' := [(2, .bool false)]) (by kernel_rfl) (fun L => ?_)
        refine cw_ret ?_
        refine qw_ret [.bool false] rfl ⟨(by kernel_rfl), trivial⟩ ?_
        exact ⟨congrArg (fun b => Ending.returned (Value.bool b)) (show Mem.spB (f, t) = false by simp [Mem.spB, hc5, hc6, hc7]).symm, hE⟩
    ·
      refine pl_take (.bool false) rfl (by kernel_rfl) (by kernel_rfl) (by kernel_rfl) (ev_ndec (show _ = Result.ok (Next.value (Value.bool (decide ((f : Int) < (t : Int))))) _ from by kernel_rfl) (hc6)) ?_
      refine pl_take (.bool false) rfl (by kernel_rfl) (by kernel_rfl) (by kernel_rfl) (by kernel_rfl) ?_
      refine pl_take (.bool false) rfl (by kernel_rfl) (by kernel_rfl) (by kernel_rfl) (by kernel_rfl) ?_
      refine pl_skip rfl (by kernel_rfl) (by kernel_rfl) (by kernel_rfl) ?_
      refine pl_skip rfl (by kernel_rfl) (by kernel_rfl) (by kernel_rfl) ?_
      refine pl_skip rfl (by kernel_rfl) (by kernel_rfl) (by kernel_rfl) ?_
      refine pl_take (.bool false) rfl (by kernel_rfl) (by kernel_rfl) (by kernel_rfl) (by kernel_rfl) ?_
      refine pl_take (.bool false) rfl (by kernel_rfl) (by kernel_rfl) (by kernel_rfl) (by kernel_rfl) ?_
      refine pl_nil ?_
      refine qw_then ?_
      refine cw_clean [2] (ws' := [(2, .bool false)]) (by kernel_rfl) (fun L => ?_)
      refine cw_ret ?_
      refine qw_ret [.bool false] rfl ⟨(by kernel_rfl), trivial⟩ ?_
      exact ⟨congrArg (fun b => Ending.returned (Value.bool b)) (show Mem.spB (f, t) = false by simp [Mem.spB, hc5, hc6]).symm, hE⟩
  ·
    refine pl_take (.bool false) rfl (by kernel_rfl) (by kernel_rfl) (by kernel_rfl) (ev_ndec (show _ = Result.ok (Next.value (Value.bool (decide ((f : Int) ≥ (0 : Int))))) _ from by kernel_rfl) (hc5)) ?_
    refine pl_take (.bool false) rfl (by kernel_rfl) (by kernel_rfl) (by kernel_rfl) (by kernel_rfl) ?_
    refine pl_skip rfl (by kernel_rfl) (by kernel_rfl) (by kernel_rfl) ?_
    refine pl_skip rfl (by kernel_rfl) (by kernel_rfl) (by kernel_rfl) ?_
    refine pl_skip rfl (by kernel_rfl) (by kernel_rfl) (by kernel_rfl) ?_
    refine pl_skip rfl (by kernel_rfl) (by kernel_rfl) (by kernel_rfl) ?_
    refine pl_skip rfl (by kernel_rfl) (by kernel_rfl) (by kernel_rfl) ?_
    refine pl_take (.bool false) rfl (by kernel_rfl) (by kernel_rfl) (by kernel_rfl) (by kernel_rfl) ?_
    refine pl_take (.bool false) rfl (by kernel_rfl) (by kernel_rfl) (by kernel_rfl) (by kernel_rfl) ?_
    refine pl_skip rfl (by kernel_rfl) (by kernel_rfl) (by kernel_rfl) ?_
    refine pl_skip rfl (by kernel_rfl) (by kernel_rfl) (by kernel_rfl) ?_
    refine pl_skip rfl (by kernel_rfl) (by kernel_rfl) (by kernel_rfl) ?_
    refine pl_take (.bool false) rfl (by kernel_rfl) (by kernel_rfl) (by kernel_rfl) (by kernel_rfl) ?_
    refine pl_take (.bool false) rfl (by kernel_rfl) (by kernel_rfl) (by kernel_rfl) (by kernel_rfl) ?_
    refine pl_nil ?_
    refine qw_then ?_
    refine cw_clean [2] (ws' := [(2, .bool false)]) (by kernel_rfl) (fun L => ?_)
    refine cw_ret ?_
    refine qw_ret [.bool false] rfl ⟨(by kernel_rfl), trivial⟩ ?_
    exact ⟨congrArg (fun b => Ending.returned (Value.bool b)) (show Mem.spB (f, t) = false by simp [Mem.spB, hc5]).symm, hE⟩
theorem proper_r (f t : Int) {r : Bool} (w : World) (hr : Mem.spB (f, t) = r) : Calls Try.prog 48 #[.agg #[.int .i64 f, .int .i64 t]] w fun e w' => e = .returned (.bool r) ∧ Ext w w' := hr ▸ proper_c f t w
set_option maxRecDepth 1000000 in
set_option maxHeartbeats 4000000 in
theorem Valid_c {w0 : World} {a : Option Addr} {n : Nat} {l : List Mem.St} (c : Nat) (w : World) (h : StsAt w0 a n l) (e0 : Ext w0 w) : Calls Try.prog 18 #[.slice a n c] w fun e w' => e = .returned (.bool (Mem.okL l)) ∧ Ext w w' := by
  have hln := h.1; have hmx := h.2.1
  have hs0 := e0.size
  obtain ⟨bs, os, ha, hbl, hx⟩ := h.parts
  refine calls_cw 41 [(0, .slice a n c)] Try.func18 rfl Try.ntmps18 (by kernel_rfl) (by kernel_rfl) (fun L => ?_)
  have hE : Ext w w := Ext.refl w
  refine cw_seq ?_
  refine cw_plain ?_
  refine pl_take (.bool false) rfl (by kernel_rfl) (by kernel_rfl) (by kernel_rfl) (by kernel_rfl) ?_
  refine pl_nil ?_
  refine qw_then ?_
  refine cw_seq ?_
  refine cw_plain ?_
  refine pl_step rfl (by kernel_rfl) (by kernel_rfl) (by kernel_rfl) (sn_newA (n := 64) (t := 79) (by omega) (by kernel_rfl) ?_)
  intro O1 X2 hO hOs hb hm3
  have hzO1 := hO; have hyO1 := hOs; clear hO hOs
  replace e0 := e0.trans hb
  replace hE := hE.trans hb
  have hs4 := hb.size
  clear hb
  have lt5 := hm3.lt
  refine pl_nil ?_
  refine qw_then ?_
  refine cw_seq ?_
  refine cw_seq ?_
  refine cw_plain ?_
  refine pl_take (.slice a n c) rfl (by kernel_rfl) (by kernel_rfl) (by kernel_rfl) (by kernel_rfl) ?_
  refine pl_take (.int .i64 (((n : Nat) : Int) : Int)) rfl (by kernel_rfl) (by kernel_rfl) (by kernel_rfl) (by kernel_rfl) ?_
  refine pl_take (.int .i64 0) rfl (by kernel_rfl) (by kernel_rfl) (by kernel_rfl) (by kernel_rfl) ?_
  refine pl_nil ?_
  refine qw_then ?_
  refine cw_block ?_
  refine cw_loop [0, 3, 6, 7, 8] (fun ws' wr m => ∃ i : Nat, ws' = [(0, .slice a n c), (3, .pointer (some ⟨O1, 0, none⟩)), (6, .slice a n c), (7, .int .i64 (((n : Nat) : Int) : Int)), (8, .int .i64 (((i : Nat) : Int) : Int))] ∧ m = n - i ∧ X2.heap.size ≤ wr.heap.size ∧ Ext w0 wr ∧ Ext w wr ∧ ArrAt wr O1 64 (Mem.seenF (l.take i)) ∧ i ≤ n ∧ ((l.take i).all Mem.okSt = true ∧ Mem.distB (l.take i) = true)) (ws0 := [(0, .slice a n c), (3, .pointer (some ⟨O1, 0, none⟩)), (6, .slice a n c), (7, .int .i64 (((n : Nat) : Int) : Int)), (8, .int .i64 0)]) (by kernel_rfl) _ ⟨0, rfl, rfl, Nat.le_refl _, e0, hE, (hm3.congr fun k _ => by rw [List.take_zero]; rfl), Nat.zero_le _, ⟨by rw [List.take_zero]; rfl, by rw [List.take_zero]; rfl⟩⟩ ?_
  clear hm3 e0 hE
  rintro m8 L ws w7 ⟨i, rfl, rfl, hs6, e0, hE, hm9, hi, hpre⟩
  by_cases hlt : i < n
  ·
    obtain rfl := ha (by omega)
    obtain ⟨q9, q10, q11, q12⟩ := hx i hlt
    refine cw_seq ?_
    refine cw_plain ?_
    refine pl_take (.bool true) rfl (by kernel_rfl) (by kernel_rfl) (by kernel_rfl) (ev_dec (show _ = Result.ok (Next.value (Value.bool (decide ((((i : Nat) : Int) : Int) < (((n : Nat) : Int) : Int))))) _ from by kernel_rfl) (by omega)) ?_
    refine pl_nil ?_
    refine qw_then ?_
    refine cw_seq ?_
    refine cw_t (by kernel_rfl) ?_
    refine cw_skip ?_
    refine qw_then ?_
    refine cw_seq ?_
    refine cw_block ?_
    refine cw_seq ?_
    refine cw_plain ?_
    refine pl_take (.pointer (some ⟨bs, os + i * 4, none⟩)) rfl (by kernel_rfl) (by kernel_rfl) (by kernel_rfl) (ex_index (p := .slice (some ⟨bs, os, none⟩) n c) (i := .int .i64 ((i : Nat) : Int)) rfl (by kernel_rfl) (by kernel_rfl) (ix27 (k := i) (by omega))) ?_
    refine pl_take (.agg #[.int .i64 ((stN l i).im : Int), .int .i64 ((stN l i).un : Int), .int .i64 ((stN l i).fr : Int), .int .i64 ((stN l i).to : Int)]) rfl (by kernel_rfl) (by kernel_rfl) (by kernel_rfl) (ex_load rfl (by kernel_rfl) (ld26 ((e0.cell q9)) ((e0.cell q10)) ((e0.cell q11)) ((e0.cell q12)))) ?_
    refine pl_step rfl (by kernel_rfl) (by kernel_rfl) (by kernel_rfl) (sn_new (us := #[.int .i64 0, .int .i64 0, .int .i64 0, .int .i64 0]) (t := 26) (by kernel_rfl) ?_)
    intro O13 X14 hO hOs hb hbx
    have hzO13 := hO; have hyO13 := hOs; clear hO hOs
    have bO13_0 : BoxAt X14 O13 0 (.int .i64 0) := hbx 0 _ rfl
    have bO13_1 : BoxAt X14 O13 1 (.int .i64 0) := hbx 1 _ rfl
    have bO13_2 : BoxAt X14 O13 2 (.int .i64 0) := hbx 2 _ rfl
    have bO13_3 : BoxAt X14 O13 3 (.int .i64 0) := hbx 3 _ rfl
    clear hbx
    replace e0 := e0.trans hb
    replace hE := hE.trans hb
    replace hm9 := hm9.ext hb
    have hs15 := hb.size
    clear hb
    have lt16 := bO13_0.lt
    refine pl_put rfl (by kernel_rfl) (by kernel_rfl) (sn_setK4 (O := O13) (j := 0) (v0 := .int .i64 ((stN l i).im : Int)) (v1 := .int .i64 ((stN l i).un : Int)) (v2 := .int .i64 ((stN l i).fr : Int)) (v3 := .int .i64 ((stN l i).to : Int)) (ex_store (p := .pointer (some ⟨O13, 0, none⟩)) (v := .agg #[.int .i64 ((stN l i).im : Int), .int .i64 ((stN l i).un : Int), .int .i64 ((stN l i).fr : Int), .int .i64 ((stN l i).to : Int)]) rfl (by kernel_rfl) (by kernel_rfl) (st26 bO13_0.1 bO13_0.2 bO13_1.1 bO13_1.2 bO13_2.1 bO13_2.2 bO13_3.1 bO13_3.2)) bO13_0 bO13_1 bO13_2 bO13_3 ?_)
    intro X17 ho hv0 hv1 hv2 hv3 hk
    replace e0 := ho.ext e0 (Nat.le_trans (Nat.le_trans hs0 (Nat.le_trans hs4 hs6)) (Nat.le_of_eq hzO13))
    replace hE := ho.ext hE (Nat.le_trans (Nat.le_trans hs4 hs6) (Nat.le_of_eq hzO13))
    replace hm9 := ho.arr (Nat.ne_of_gt (Nat.lt_of_lt_of_le lt5 (Nat.le_trans hs6 (Nat.le_of_eq hzO13)))) hm9
    have hs18 : X14.heap.size ≤ X17.heap.size := Nat.le_of_eq ho.size.symm
    clear ho hk bO13_0 bO13_1 bO13_2 bO13_3
    have bO13_0 := hv0; clear hv0
    have bO13_1 := hv1; clear hv1
    have bO13_2 := hv2; clear hv2
    have bO13_3 := hv3; clear hv3
    refine pl_nil ?_
    refine qw_then ?_
    refine cw_seq ?_
    refine cw_seq ?_
    refine cw_plain ?_
    refine pl_take (.pointer (some ⟨O13, 0, none⟩)) rfl (by kernel_rfl) (by kernel_rfl) (by kernel_rfl) (by kernel_rfl) ?_
    refine pl_take (.int .i64 ((stN l i).im : Int)) rfl (by kernel_rfl) (by kernel_rfl) (by kernel_rfl) (ex_load rfl (by kernel_rfl) (ld3 (bO13_0.1))) ?_
    rcases Bool.eq_false_or_eq_true (Globe.inB ((stN l i).im) 0 63) with hb19 | hb19
    ·
      have hq20 := Globe.inB_t.1 hb19
      refine pl_step rfl (by kernel_rfl) (by kernel_rfl) (by kernel_rfl) (sn_call (f := 46) (args := #[.int .i64 ((stN l i).im : Int), .int .i64 0, .int .i64 63]) (by kernel_rfl) ((memory_isIn_r (r := true) ((stN l i).im) 0 63 _ (hb19)).mono ?_))
      rintro e w21 ⟨rfl, hb⟩
      replace e0 := e0.trans hb
      replace hE := hE.trans hb
      replace hm9 := hm9.ext hb
      replace bO13_0 := BoxAt.ext hb bO13_0
      replace bO13_1 := BoxAt.ext hb bO13_1
      replace bO13_2 := BoxAt.ext hb bO13_2
      replace bO13_3 := BoxAt.ext hb bO13_3
      have hs22 := hb.size
      clear hb
      refine ⟨_, rfl, ?_⟩
      refine pl_take (.bool false) rfl (by kernel_rfl) (by kernel_rfl) (by kernel_rfl) (by kernel_rfl) ?_
      refine pl_take (.bool false) rfl (by kernel_rfl) (by kernel_rfl) (by kernel_rfl) (by kernel_rfl) ?_
      refine pl_take (.pointer (some ⟨O13, 0, none⟩)) rfl (by kernel_rfl) (by kernel_rfl) (by kernel_rfl) (by kernel_rfl) ?_
      refine pl_take (.int .i64 ((stN l i).im : Int)) rfl (by kernel_rfl) (by kernel_rfl) (by kernel_rfl) (ex_load rfl (by kernel_rfl) (ld3 (bO13_0.1))) ?_
      refine pl_take (.pointer (some ⟨O1, (stN l i).im.toNat, none⟩)) rfl (by kernel_rfl) (by kernel_rfl) (by kernel_rfl) (ex_index (p := .pointer (some ⟨O1, 0, none⟩)) (i := .int .i64 (stN l i).im) rfl (by kernel_rfl) (by kernel_rfl) (ia64 (by omega) (by omega))) ?_
      by_cases hc23 : Mem.seenF (l.take i) ((stN l i).im.toNat) = true
      ·
        refine pl_take (.bool true) rfl (by kernel_rfl) (by kernel_rfl) (by kernel_rfl) (ex_load rfl (by kernel_rfl) (ld4 (by have hz := (hm9.at (k := (stN l i).im.toNat) (by omega)).1; rw [hc23] at hz; exact hz))) ?_
        refine pl_take (.bool true) rfl (by kernel_rfl) (by kernel_rfl) (by kernel_rfl) (by kernel_rfl) ?_
        refine pl_take (.bool true) rfl (by kernel_rfl) (by kernel_rfl) (by kernel_rfl) (by kernel_rfl) ?_
        refine pl_skip rfl (by kernel_rfl) (by kernel_rfl) (by kernel_rfl) ?_
        refine pl_skip rfl (by kernel_rfl) (by kernel_rfl) (by kernel_rfl) ?_
        refine pl_skip rfl (by kernel_rfl) (by kernel_rfl) (by kernel_rfl) ?_
        refine pl_skip rfl (by kernel_rfl) (by kernel_rfl) (by kernel_rfl) ?_
        refine pl_take (.bool true) rfl (by kernel_rfl) (by kernel_rfl) (by kernel_rfl) (by kernel_rfl) ?_
        refine pl_take (.bool true) rfl (by kernel_rfl) (by kernel_rfl) (by kernel_rfl) (by kernel_rfl) ?_
        refine pl_skip rfl (by kernel_rfl) (by kernel_rfl) (by kernel_rfl) ?_
        refine pl_skip rfl (by kernel_rfl) (by kernel_rfl) (by kernel_rfl) ?_
        refine pl_skip rfl (by kernel_rfl) (by kernel_rfl) (by kernel_rfl) ?_
        refine pl_skip rfl (by kernel_rfl) (by kernel_rfl) (by kernel_rfl) ?_
        refine pl_take (.bool true) rfl (by kernel_rfl) (by kernel_rfl) (by kernel_rfl) (by kernel_rfl) ?_
        refine pl_nil ?_
        refine qw_then ?_
        refine cw_clean [0, 3, 5, 6, 7, 8, 33] (ws' := [(0, .slice (some ⟨bs, os, none⟩) n c), (3, .pointer (some ⟨O1, 0, none⟩)), (5, .pointer (some ⟨O13, 0, none⟩)), (6, .slice (some ⟨bs, os, none⟩) n c), (7, .int .i64 (((n : Nat) : Int) : Int)), (8, .int .i64 (((i : Nat) : Int) : Int)), (33, .bool true)]) (by kernel_rfl) (fun L => ?_)
        refine cw_t (by kernel_rfl) ?_
        refine cw_seq ?_
        refine cw_plain ?_
        refine pl_take (.bool false) rfl (by kernel_rfl) (by kernel_rfl) (by kernel_rfl) (by kernel_rfl) ?_
        refine pl_nil ?_
        refine qw_then ?_
        refine cw_ret ?_
        refine qw_then_ret ?_
        refine qw_block_ret ?_
        refine qw_then_ret ?_
        refine qw_then_ret ?_
        refine qw_block_ret ?_
        refine qw_then_ret ?_
        refine qw_ret [.bool false] rfl ⟨(by kernel_rfl), trivial⟩ ?_
        exact ⟨congrArg (fun b => Ending.returned (Value.bool b)) (show Mem.okL l = false from Mem.bad_seen (i := i) (by omega) (by have hz := hc23; unfold Mem.seenF at hz; rwa [Int.toNat_of_nonneg (by omega)] at hz)).symm, hE⟩
      ·
        refine pl_take (.bool false) rfl (by kernel_rfl) (by kernel_rfl) (by kernel_rfl) (ex_load rfl (by kernel_rfl) (ld4 (by have hz := (hm9.at (k := (stN l i).im.toNat) (by omega)).1; rw [show Mem.seenF (l.take i) ((stN l i).im.toNat) = false from Bool.eq_false_iff.2 hc23] at hz; exact hz))) ?_
        refine pl_take (.bool false) rfl (by kernel_rfl) (by kernel_rfl) (by kernel_rfl) (by kernel_rfl) ?_
        refine pl_take (.bool false) rfl (by kernel_rfl) (by kernel_rfl) (by kernel_rfl) (by kernel_rfl) ?_
        refine pl_take (.pointer (some ⟨O13, 1, none⟩)) rfl (by kernel_rfl) (by kernel_rfl) (by kernel_rfl) (by kernel_rfl) ?_
        refine pl_take (.int .i64 ((stN l i).un : Int)) rfl (by kernel_rfl) (by kernel_rfl) (by kernel_rfl) (ex_load rfl (by kernel_rfl) (ld3 (bO13_1.1))) ?_
        rcases Bool.eq_false_or_eq_true (Globe.inB ((stN l i).un) 1 1000000) with hb24 | hb24
        ·
          have hq25 := Globe.inB_t.1 hb24
          refine pl_step rfl (by kernel_rfl) (by kernel_rfl) (by kernel_rfl) (sn_call (f := 46) (args := #[.int .i64 ((stN l i).un : Int), .int .i64 1, .int .i64 1000000]) (by kernel_rfl) ((memory_isIn_r (r := true) ((stN l i).un) 1 1000000 _ (hb24)).mono ?_))
          rintro e w26 ⟨rfl, hb⟩
          replace e0 := e0.trans hb
          replace hE := hE.trans hb
          replace hm9 := hm9.ext hb
          replace bO13_0 := BoxAt.ext hb bO13_0
          replace bO13_1 := BoxAt.ext hb bO13_1
          replace bO13_2 := BoxAt.ext hb bO13_2
          replace bO13_3 := BoxAt.ext hb bO13_3
          have hs27 := hb.size
          clear hb
          refine ⟨_, rfl, ?_⟩
          refine pl_take (.bool false) rfl (by kernel_rfl) (by kernel_rfl) (by kernel_rfl) (by kernel_rfl) ?_
          refine pl_take (.bool false) rfl (by kernel_rfl) (by kernel_rfl) (by kernel_rfl) (by kernel_rfl) ?_
          refine pl_take (.bool false) rfl (by kernel_rfl) (by kernel_rfl) (by kernel_rfl) (by kernel_rfl) ?_
          refine pl_take (.pointer (some ⟨O13, 2, none⟩)) rfl (by kernel_rfl) (by kernel_rfl) (by kernel_rfl) (by kernel_rfl) ?_
          refine pl_take (.agg #[.int .i64 ((stN l i).fr : Int), .int .i64 ((stN l i).to : Int)]) rfl (by kernel_rfl) (by kernel_rfl) (by kernel_rfl) (ex_load rfl (by kernel_rfl) (ld24 (bO13_2.1) (bO13_3.1))) ?_
          rcases Bool.eq_false_or_eq_true (Mem.spB ((stN l i).fr, (stN l i).to)) with hb28 | hb28
          ·
            have hq29 := Mem.spB_t.1 hb28; simp only [] at hq29
            refine pl_step rfl (by kernel_rfl) (by kernel_rfl) (by kernel_rfl) (sn_call (f := 47) (args := #[.agg #[.int .i64 ((stN l i).fr : Int), .int .i64 ((stN l i).to : Int)]]) (by kernel_rfl) ((isSpell_r (r := true) ((stN l i).fr) ((stN l i).to) _ (hb28)).mono ?_))
            rintro e w30 ⟨rfl, hb⟩
            replace e0 := e0.trans hb
            replace hE := hE.trans hb
            replace hm9 := hm9.ext hb
            replace bO13_0 := BoxAt.ext hb bO13_0
            replace bO13_1 := BoxAt.ext hb bO13_1
            replace bO13_2 := BoxAt.ext hb bO13_2
            replace bO13_3 := BoxAt.ext hb bO13_3
            have hs31 := hb.size
            clear hb
            refine ⟨_, rfl, ?_⟩
            refine pl_take (.bool false) rfl (by kernel_rfl) (by kernel_rfl) (by kernel_rfl) (by kernel_rfl) ?_
            refine pl_take (.bool false) rfl (by kernel_rfl) (by kernel_rfl) (by kernel_rfl) (by kernel_rfl) ?_
            refine pl_nil ?_
            refine qw_then ?_
            refine cw_clean [0, 3, 5, 6, 7, 8, 33] (ws' := [(0, .slice (some ⟨bs, os, none⟩) n c), (3, .pointer (some ⟨O1, 0, none⟩)), (5, .pointer (some ⟨O13, 0, none⟩)), (6, .slice (some ⟨bs, os, none⟩) n c), (7, .int .i64 (((n : Nat) : Int) : Int)), (8, .int .i64 (((i : Nat) : Int) : Int)), (33, .bool false)]) (by kernel_rfl) (fun L => ?_)
            refine cw_f (by kernel_rfl) ?_
            refine cw_skip ?_
            refine qw_then ?_
            refine cw_plain ?_
            refine pl_take (.pointer (some ⟨O13, 0, none⟩)) rfl (by kernel_rfl) (by kernel_rfl) (by kernel_rfl) (by kernel_rfl) ?_
            refine pl_take (.int .i64 ((stN l i).im : Int)) rfl (by kernel_rfl) (by kernel_rfl) (by kernel_rfl) (ex_load rfl (by kernel_rfl) (ld3 (bO13_0.1))) ?_
            refine pl_take (.pointer (some ⟨O1, (stN l i).im.toNat, none⟩)) rfl (by kernel_rfl) (by kernel_rfl) (by kernel_rfl) (ex_index (p := .pointer (some ⟨O1, 0, none⟩)) (i := .int .i64 (stN l i).im) rfl (by kernel_rfl) (by kernel_rfl) (ia64 (by omega) (by omega))) ?_
            have hka := hm9.at (k := (stN l i).im.toNat) (by omega)
            refine pl_put rfl (by kernel_rfl) (by kernel_rfl) (sn_set (O := O1) (j := (stN l i).im.toNat) (v := .bool true) (ex_store (p := .pointer (some ⟨O1, (stN l i).im.toNat, none⟩)) (v := .bool true) rfl (by kernel_rfl) (by kernel_rfl) (st4 hka.1 hka.2)) hka ?_)
            intro X32 ho hv0 hk
            replace e0 := ho.ext e0 (Nat.le_trans hs0 (Nat.le_of_eq hzO1))
            replace hE := ho.ext hE (Nat.le_of_eq hzO1)
            replace bO13_0 := ho.box (Nat.ne_of_lt (Nat.lt_of_lt_of_le lt5 (Nat.le_trans hs6 (Nat.le_of_eq hzO13)))) bO13_0
            replace bO13_1 := ho.box (Nat.ne_of_lt (Nat.lt_of_lt_of_le lt5 (Nat.le_trans hs6 (Nat.le_of_eq hzO13)))) bO13_1
            replace bO13_2 := ho.box (Nat.ne_of_lt (Nat.lt_of_lt_of_le lt5 (Nat.le_trans hs6 (Nat.le_of_eq hzO13)))) bO13_2
            replace bO13_3 := ho.box (Nat.ne_of_lt (Nat.lt_of_lt_of_le lt5 (Nat.le_trans hs6 (Nat.le_of_eq hzO13)))) bO13_3
            have hs33 : w30.heap.size ≤ X32.heap.size := Nat.le_of_eq ho.size.symm
            replace hm9 := hm9.upd hv0 hk; clear ho hka hv0 hk
            refine pl_nil ?_
            refine qw_block ?_
            refine qw_then ?_
            refine cw_plain ?_
            refine pl_take (.int .i64 (((i + 1 : Nat) : Int) : Int)) rfl (by kernel_rfl) (by kernel_rfl) (by kernel_rfl) (ev_wrap (by kernel_rfl) (by omega) (by omega)) ?_
            refine pl_take (.int .i64 (((i + 1 : Nat) : Int) : Int)) rfl (by kernel_rfl) (by kernel_rfl) (by kernel_rfl) (by kernel_rfl) ?_
            refine pl_nil ?_
            have hok9 : Mem.okSt (stN l i) = true := by unfold Mem.okSt; rw [hb19, hb24, hb28]; rfl
            have hns9 : ((l.take i).any fun y => decide (y.im = (stN l i).im)) = false := by have hz := Bool.eq_false_iff.2 hc23; unfold Mem.seenF at hz; rwa [Int.toNat_of_nonneg (by omega)] at hz
            refine qw_round [0, 3, 6, 7, 8] (ws' := [(0, .slice (some ⟨bs, os, none⟩) n c), (3, .pointer (some ⟨O1, 0, none⟩)), (6, .slice (some ⟨bs, os, none⟩) n c), (7, .int .i64 (((n : Nat) : Int) : Int)), (8, .int .i64 (((i + 1 : Nat) : Int) : Int))]) (by kernel_rfl) _ ?_ ⟨(i + 1), rfl, rfl, (Nat.le_trans hs6 (Nat.le_trans hs15 (Nat.le_trans hs18 (Nat.le_trans hs22 (Nat.le_trans hs27 (Nat.le_trans hs31 hs33)))))), e0, hE, (hm9.congr fun k _ => Mem.seen_next (by omega) (by omega) k), by omega, Mem.ok_next (by omega) hpre hok9 hns9⟩
            omega
          ·
            refine pl_step rfl (by kernel_rfl) (by kernel_rfl) (by kernel_rfl) (sn_call (f := 47) (args := #[.agg #[.int .i64 ((stN l i).fr : Int), .int .i64 ((stN l i).to : Int)]]) (by kernel_rfl) ((isSpell_r (r := false) ((stN l i).fr) ((stN l i).to) _ (hb28)).mono ?_))
            rintro e w34 ⟨rfl, hb⟩
            replace e0 := e0.trans hb
            replace hE := hE.trans hb
            replace hm9 := hm9.ext hb
            replace bO13_0 := BoxAt.ext hb bO13_0
            replace bO13_1 := BoxAt.ext hb bO13_1
            replace bO13_2 := BoxAt.ext hb bO13_2
            replace bO13_3 := BoxAt.ext hb bO13_3
            have hs35 := hb.size
            clear hb
            refine ⟨_, rfl, ?_⟩
            refine pl_take (.bool true) rfl (by kernel_rfl) (by kernel_rfl) (by kernel_rfl) (by kernel_rfl) ?_
            refine pl_take (.bool true) rfl (by kernel_rfl) (by kernel_rfl) (by kernel_rfl) (by kernel_rfl) ?_
            refine pl_nil ?_
            refine qw_then ?_
            refine cw_clean [0, 3, 5, 6, 7, 8, 33] (ws' := [(0, .slice (some ⟨bs, os, none⟩) n c), (3, .pointer (some ⟨O1, 0, none⟩)), (5, .pointer (some ⟨O13, 0, none⟩)), (6, .slice (some ⟨bs, os, none⟩) n c), (7, .int .i64 (((n : Nat) : Int) : Int)), (8, .int .i64 (((i : Nat) : Int) : Int)), (33, .bool true)]) (by kernel_rfl) (fun L => ?_)
            refine cw_t (by kernel_rfl) ?_
            refine cw_seq ?_
            refine cw_plain ?_
            refine pl_take (.bool false) rfl (by kernel_rfl) (by kernel_rfl) (by kernel_rfl) (by kernel_rfl) ?_
            refine pl_nil ?_
            refine qw_then ?_
            refine cw_ret ?_
            refine qw_then_ret ?_
            refine qw_block_ret ?_
            refine qw_then_ret ?_
            refine qw_then_ret ?_
            refine qw_block_ret ?_
            refine qw_then_ret ?_
            refine qw_ret [.bool false] rfl ⟨(by kernel_rfl), trivial⟩ ?_
            exact ⟨congrArg (fun b => Ending.returned (Value.bool b)) (show Mem.okL l = false from Mem.bad_st (i := i) (by omega) (by unfold Mem.okSt; rw [hb28]; simp)).symm, hE⟩
        ·
          refine pl_step rfl (by kernel_rfl) (by kernel_rfl) (by kernel_rfl) (sn_call (f := 46) (args := #[.int .i64 ((stN l i).un : Int), .int .i64 1, .int .i64 1000000]) (by kernel_rfl) ((memory_isIn_r (r := false) ((stN l i).un) 1 1000000 _ (hb24)).mono ?_))
          rintro e w36 ⟨rfl, hb⟩
          replace e0 := e0.trans hb
          replace hE := hE.trans hb
          replace hm9 := hm9.ext hb
          replace bO13_0 := BoxAt.ext hb bO13_0
          replace bO13_1 := BoxAt.ext hb bO13_1
          replace bO13_2 := BoxAt.ext hb bO13_2
          replace bO13_3 := BoxAt.ext hb bO13_3
          have hs37 := hb.size
          clear hb
          refine ⟨_, rfl, ?_⟩
          refine pl_take (.bool true) rfl (by kernel_rfl) (by kernel_rfl) (by kernel_rfl) (by kernel_rfl) ?_
          refine pl_take (.bool true) rfl (by kernel_rfl) (by kernel_rfl) (by kernel_rfl) (by kernel_rfl) ?_
          refine pl_take (.bool true) rfl (by kernel_rfl) (by kernel_rfl) (by kernel_rfl) (by kernel_rfl) ?_
          refine pl_skip rfl (by kernel_rfl) (by kernel_rfl) (by kernel_rfl) ?_
          refine pl_skip rfl (by kernel_rfl) (by kernel_rfl) (by kernel_rfl) ?_
          refine pl_skip rfl (by kernel_rfl) (by kernel_rfl) (by kernel_rfl) ?_
          refine pl_skip rfl (by kernel_rfl) (by kernel_rfl) (by kernel_rfl) ?_
          refine pl_take (.bool true) rfl (by kernel_rfl) (by kernel_rfl) (by kernel_rfl) (by kernel_rfl) ?_
          refine pl_nil ?_
          refine qw_then ?_
          refine cw_clean [0, 3, 5, 6, 7, 8, 33] (ws' := [(0, .slice (some ⟨bs, os, none⟩) n c), (3, .pointer (some ⟨O1, 0, none⟩)), (5, .pointer (some ⟨O13, 0, none⟩)), (6, .slice (some ⟨bs, os, none⟩) n c), (7, .int .i64 (((n : Nat) : Int) : Int)), (8, .int .i64 (((i : Nat) : Int) : Int)), (33, .bool true)]) (by kernel_rfl) (fun L => ?_)
          refine cw_t (by kernel_rfl) ?_
          refine cw_seq ?_
          refine cw_plain ?_
          refine pl_take (.bool false) rfl (by kernel_rfl) (by kernel_rfl) (by kernel_rfl) (by kernel_rfl) ?_
          refine pl_nil ?_
          refine qw_then ?_
          refine cw_ret ?_
          refine qw_then_ret ?_
          refine qw_block_ret ?_
          refine qw_then_ret ?_
          refine qw_then_ret ?_
          refine qw_block_ret ?_
          refine qw_then_ret ?_
          refine qw_ret [.bool false] rfl ⟨(by kernel_rfl), trivial⟩ ?_
          exact ⟨congrArg (fun b => Ending.returned (Value.bool b)) (show Mem.okL l = false from Mem.bad_st (i := i) (by omega) (by unfold Mem.okSt; rw [hb24]; simp)).symm, hE⟩
    ·
      refine pl_step rfl (by kernel_rfl) (by kernel_rfl) (by kernel_rfl) (sn_call (f := 46) (args := #[.int .i64 ((stN l i).im : Int), .int .i64 0, .int .i64 63]) (by kernel_rfl) ((memory_isIn_r (r := false) ((stN l i).im) 0 63 _ (hb19)).mono ?_))
      rintro e w38 ⟨rfl, hb⟩
      replace e0 := e0.trans hb
      replace hE := hE.trans hb
      replace hm9 := hm9.ext hb
      replace bO13_0 := BoxAt.ext hb bO13_0
      replace bO13_1 := BoxAt.ext hb bO13_1
      replace bO13_2 := BoxAt.ext hb bO13_2
      replace bO13_3 := BoxAt.ext hb bO13_3
      have hs39 := hb.size
      clear hb
      refine ⟨_, rfl, ?_⟩
      refine pl_take (.bool true) rfl (by kernel_rfl) (by kernel_rfl) (by kernel_rfl) (by kernel_rfl) ?_
      refine pl_take (.bool true) rfl (by kernel_rfl) (by kernel_rfl) (by kernel_rfl) (by kernel_rfl) ?_
      refine pl_skip rfl (by kernel_rfl) (by kernel_rfl) (by kernel_rfl) ?_
      refine pl_skip rfl (by kernel_rfl) (by kernel_rfl) (by kernel_rfl) ?_
      refine pl_skip rfl (by kernel_rfl) (by kernel_rfl) (by kernel_rfl) ?_
      refine pl_skip rfl (by kernel_rfl) (by kernel_rfl) (by kernel_rfl) ?_
      refine pl_take (.bool true) rfl (by kernel_rfl) (by kernel_rfl) (by kernel_rfl) (by kernel_rfl) ?_
      refine pl_take (.bool true) rfl (by kernel_rfl) (by kernel_rfl) (by kernel_rfl) (by kernel_rfl) ?_
      refine pl_skip rfl (by kernel_rfl) (by kernel_rfl) (by kernel_rfl) ?_
      refine pl_skip rfl (by kernel_rfl) (by kernel_rfl) (by kernel_rfl) ?_
      refine pl_skip rfl (by kernel_rfl) (by kernel_rfl) (by kernel_rfl) ?_
      refine pl_skip rfl (by kernel_rfl) (by kernel_rfl) (by kernel_rfl) ?_
      refine pl_take (.bool true) rfl (by kernel_rfl) (by kernel_rfl) (by kernel_rfl) (by kernel_rfl) ?_
      refine pl_take (.bool true) rfl (by kernel_rfl) (by kernel_rfl) (by kernel_rfl) (by kernel_rfl) ?_
      refine pl_skip rfl (by kernel_rfl) (by kernel_rfl) (by kernel_rfl) ?_
      refine pl_skip rfl (by kernel_rfl) (by kernel_rfl) (by kernel_rfl) ?_
      refine pl_skip rfl (by kernel_rfl) (by kernel_rfl) (by kernel_rfl) ?_
      refine pl_skip rfl (by kernel_rfl) (by kernel_rfl) (by kernel_rfl) ?_
      refine pl_take (.bool true) rfl (by kernel_rfl) (by kernel_rfl) (by kernel_rfl) (by kernel_rfl) ?_
      refine pl_nil ?_
      refine qw_then ?_
      refine cw_clean [0, 3, 5, 6, 7, 8, 33] (ws' := [(0, .slice (some ⟨bs, os, none⟩) n c), (3, .pointer (some ⟨O1, 0, none⟩)), (5, .pointer (some ⟨O13, 0, none⟩)), (6, .slice (some ⟨bs, os, none⟩) n c), (7, .int .i64 (((n : Nat) : Int) : Int)), (8, .int .i64 (((i : Nat) : Int) : Int)), (33, .bool true)]) (by kernel_rfl) (fun L => ?_)
      refine cw_t (by kernel_rfl) ?_
      refine cw_seq ?_
      refine cw_plain ?_
      refine pl_take (.bool false) rfl (by kernel_rfl) (by kernel_rfl) (by kernel_rfl) (by kernel_rfl) ?_
      refine pl_nil ?_
      refine qw_then ?_
      refine cw_ret ?_
      refine qw_then_ret ?_
      refine qw_block_ret ?_
      refine qw_then_ret ?_
      refine qw_then_ret ?_
      refine qw_block_ret ?_
      refine qw_then_ret ?_
      refine qw_ret [.bool false] rfl ⟨(by kernel_rfl), trivial⟩ ?_
      exact ⟨congrArg (fun b => Ending.returned (Value.bool b)) (show Mem.okL l = false from Mem.bad_st (i := i) (by omega) (by unfold Mem.okSt; rw [hb19]; rfl)).symm, hE⟩
  ·
    have hin : i = n := by omega
    refine cw_seq ?_
    refine cw_plain ?_
    refine pl_take (.bool false) rfl (by kernel_rfl) (by kernel_rfl) (by kernel_rfl) (ev_ndec (show _ = Result.ok (Next.value (Value.bool (decide ((((i : Nat) : Int) : Int) < (((n : Nat) : Int) : Int))))) _ from by kernel_rfl) (by omega)) ?_
    refine pl_nil ?_
    refine qw_then ?_
    refine cw_seq ?_
    refine cw_f (by kernel_rfl) ?_
    refine cw_exit ?_
    refine qw_then_exit ?_
    refine qw_then_exit ?_
    refine qw_block_out ?_
    refine qw_then ?_
    refine cw_seq ?_
    refine cw_plain ?_
    refine pl_take (.slice a n c) rfl (by kernel_rfl) (by kernel_rfl) (by kernel_rfl) (by kernel_rfl) ?_
    refine pl_take (.int .i64 (((n : Nat) : Int) : Int)) rfl (by kernel_rfl) (by kernel_rfl) (by kernel_rfl) (by kernel_rfl) ?_
    by_cases hc40 : (((n : Nat) : Int) : Int) ≤ (24 : Int)
    ·
      refine pl_take (.bool true) rfl (by kernel_rfl) (by kernel_rfl) (by kernel_rfl) (ev_dec (show _ = Result.ok (Next.value (Value.bool (decide ((((n : Nat) : Int) : Int) ≤ (24 : Int))))) _ from by kernel_rfl) (hc40)) ?_
      refine pl_take (.bool true) rfl (by kernel_rfl) (by kernel_rfl) (by kernel_rfl) (by kernel_rfl) ?_
      refine pl_nil ?_
      refine qw_then ?_
      refine cw_ret ?_
      refine qw_ret [.bool true] rfl ⟨(by kernel_rfl), trivial⟩ ?_
      exact ⟨congrArg (fun b => Ending.returned (Value.bool b)) (show Mem.okL l = true from by have hz := hpre; rw [hin, List.take_of_length_le (Nat.le_of_eq hln)] at hz; unfold Mem.okL; rw [hz.1, hz.2, decide_eq_true (show l.length ≤ 24 by omega)]; rfl).symm, hE⟩
    ·
      refine pl_take (.bool false) rfl (by kernel_rfl) (by kernel_rfl) (by kernel_rfl) (ev_ndec (show _ = Result.ok (Next.value (Value.bool (decide ((((n : Nat) : Int) : Int) ≤ (24 : Int))))) _ from by kernel_rfl) (hc40)) ?_
      refine pl_take (.bool false) rfl (by kernel_rfl) (by kernel_rfl) (by kernel_rfl) (by kernel_rfl) ?_
      refine pl_nil ?_
      refine qw_then ?_
      refine cw_ret ?_
      refine qw_ret [.bool false] rfl ⟨(by kernel_rfl), trivial⟩ ?_
      exact ⟨congrArg (fun b => Ending.returned (Value.bool b)) (show Mem.okL l = false from by unfold Mem.okL; rw [decide_eq_false (show ¬ l.length ≤ 24 by omega)]; simp).symm, hE⟩
theorem Valid_r {w0 : World} {a : Option Addr} {n : Nat} {l : List Mem.St} {r : Bool} (c : Nat) (w : World) (h : StsAt w0 a n l) (e0 : Ext w0 w) (hr : Mem.okL l = r) : Calls Try.prog 18 #[.slice a n c] w fun e w' => e = .returned (.bool r) ∧ Ext w w' := hr ▸ Valid_c c w h e0

end Go.Proofs.Ytnbjjddfcondlaa
