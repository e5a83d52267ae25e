/- A range over a function whose yields hand on memory: the round may lean on a fact Φ of what it is handed (a list that has just been laid, say). The iterator shows Φ at each of its calls of yield. -/
import Derived.Test.YtglfoglkdbbmmaaDoorRF
import Derived.Test.YtglfoglkdbbmmaaDoorWO
namespace Go.Proofs.YtglfoglkdbbmmaaDoor
open Go.RowKit

/-- The iterator's contract. -/
def SeqM {α : Type} (P : Program) (g : Nat) (lb : Array Value) (encs : α → Array Value) (Φ : α → World → Prop) (Kp : World → World → Prop) (S Sp : List α → Prop) (w : World) : Prop :=
  ∀ (l : Nat) (J Jx : List α → World → Prop) (W : World), Below w.heap.size w W → AbidesFrom W.heap.size J → AbidesFrom W.heap.size Jx →
    (∀ pre x W1 m, J pre W1 → Φ x W1 → YieldAt Fence.wide m P l (encs x) W1 fun e W' => (e = .returned (.bool true) ∧ J (pre ++ [x]) W' ∧ Kp W1 W') ∨ (e = .returned (.bool false) ∧ Jx (pre ++ [x]) W' ∧ Kp W1 W')) →
    J [] W → ∀ n, CallsIn Fence.wide n P g (#[.func (.yield l) #[] #[]] ++ lb) W fun e W' => (∃ v, e = .returned v) ∧ ((∃ xs, S xs ∧ J xs W') ∨ (∃ pre, Sp pre ∧ Jx pre W'))

/-- How a round may be left: each way keeps what the iterator wants kept. -/
def roundM {α : Type} (B : Nat) (Kp : World → World → Prop) (I : List α → World → Prop) (Ix : Code → List α → World → Prop) (xs : List α) (W : World) : Exit → Act → World → Prop
  | .normal, _, W' => KeepsFrom B W W' ∧ Kp W W' ∧ I xs W'
  | .ret, _, W' => KeepsFrom B W W' ∧ Kp W W' ∧ Ix .ret xs W'
  | .exit id, _, W' => KeepsFrom B W W' ∧ Kp W W' ∧ Ix (.exit id) xs W'
  | .goto t, _, W' => KeepsFrom B W W' ∧ Kp W W' ∧ Ix (.goto t) xs W'
  | .panic _, _, _ => False
  | .outgrown, _, _ => False
/-- The loop's record. -/
def recOf (a : Act) (ps : Array Tmp) (assign body : Code) (fn : FuncId) (D : Nat) (st : LoopState) (pe : Option Code) : Loop := { state := st, pending := pe, fn, tmps := a.tmps, params := ps, assign, body, defers := D }

theorem rangeFunc_mem {α : Type} {P : Program} {n : Nat} {g : Operand} {ps : Array Tmp} {assign body : Code} {Q : Exit → Act → World → Prop} {a : Act} {w : World}
    {gf : Nat} {lb : Array Value} (hg : a.eval g = .func (.func gf) #[] lb) (eg : ∀ args w, (callFunc gf args).run P w = .ok (.enter gf args) w)
    {encs : α → Array Value} {Φ : α → World → Prop} {Kp : World → World → Prop} {S Sp : List α → Prop} {w0 : World} (hseq : SeqM P gf lb encs Φ Kp S Sp w0) (hb0 : Below w0.heap.size w0 w) (hps : ∀ x, (encs x).size = ps.size)
    (hΦ : ∀ x, OwnFrom w.heap.size (fun (_ : Unit) W => Φ x W))
    (hKt : ∀ {A B C : World}, Kp A B → Kp B C → Kp A C) (hKb : ∀ (W : World) (l : Nat) (o o' : Obj), w.heap.size ≤ l → W.heap[l]? = some o → o.isCells = false → o.isWalk = false → Kp W (W.putObj l o'))
    (I : List α → World → Prop) (Ix : Code → List α → World → Prop) (hI : OwnFrom w.heap.size I) (hIx : ∀ c, OwnFrom w.heap.size (Ix c)) (h0 : I [] w) (a₁ : α → Act)
    (hassign : ∀ (l m : Nat) (x : α) (W : World) (K : Act → World → Prop), K (a₁ x) W →
      assign.wpIn (Fence.wide.inRound l) m P (Exit.then K (fun _ _ _ => False)) { tmps := (ps.zip (encs x)).foldl (fun t (p, v) => t.setIfInBounds p v) a.tmps, defers := [] } W)
    (hbody : ∀ (l m : Nat) (pre : List α) (x : α) (W : World), I pre W → Φ x W → body.wpIn (Fence.wide.inRound l) m P (roundM w.heap.size Kp I Ix (pre ++ [x]) W) (a₁ x) W)
    (hdone : ∀ (D : Nat) (xs : List α) (W : World), w.heap.size ≤ D → S xs → I xs W → W.heap[D]? = some (.deferred (some [])) → Q .normal { a with defers := { target := .collected D, args := #[] } :: a.defers } W)
    (hstop : ∀ (D : Nat) (c : Code) (pre : List α) (W : World), w.heap.size ≤ D → Sp pre → Ix c pre W → W.heap[D]? = some (.deferred (some [])) → c.wpIn Fence.wide n P Q { a with defers := { target := .collected D, args := #[] } :: a.defers } W) :
    (Code.rangeFunc g ps assign body).wpIn Fence.wide n P Q a w := by
  refine wpIn_rangeFunc fun fn hfn => ?_
  let R := recOf a ps assign body fn w.heap.size
  have dn : ∀ st pe, (Obj.loop (R st pe)).isCells = false ∧ (Obj.loop (R st pe)).isWalk = false := fun _ _ => ⟨rfl, rfl⟩
  have dd : (Obj.deferred (some [])).isCells = false ∧ (Obj.deferred (some [])).isWalk = false := ⟨rfl, rfl⟩
  let W1 := (w.alloc (.deferred (some []))).alloc (.loop (R .ready none))
  have sz : W1.heap.size = w.heap.size + 2 := by simp [W1]
  have hL1 : W1.heap[w.heap.size + 1]? = some (.loop (R .ready none)) := by
    have := World.alloc_heap_new (w.alloc (.deferred (some []))) (.loop (R .ready none))
    rwa [World.size_alloc] at this
  have hK1 : W1.heap[w.heap.size]? = some (.deferred (some [])) := (Below.heap_alloc _ _ _ (by simp)).trans (World.alloc_heap_new w _)
  refine ⟨w.heap.size + 1, [{ target := .collected w.heap.size, args := #[] }], W1, { target := .fn (.func gf) lb, args := #[.func (.yield (w.heap.size + 1)) #[] #[]] }, W1, gf, #[.func (.yield (w.heap.size + 1)) #[] #[]] ++ lb, W1,
    run_enterLoop_outer _ _ _ _ _, ?_, fun _ _ => trivial, by simp [invoke, go_sem, eg], fun h => by simp [Fence.wide] at h, ?_⟩
  · simp only [resolve, hg]; simp [go_sem]
  -- what the iterator's own steps turn are walks' objects beyond W1: neither the record nor the mark's block
  have far : ∀ {A : World} {row : Option Nat}, (∀ r, row = some r → W1.heap.size ≤ r ∧ ∃ o : Obj, A.heap[r]? = some o ∧ o.isWalk = true) → (∀ r, row = some r → w.heap.size ≤ r ∧ ∃ o : Obj, A.heap[r]? = some o ∧ o.isCells = false) :=
    fun h r e => by obtain ⟨hB, o, ho, hw⟩ := h r e; exact ⟨by omega, o, ho, Obj.not_cells_of_walk hw⟩
  have stays : ∀ {A B : World} {row : Option Nat} {k : Nat} {o : Obj}, A.grownBy B row → (∀ r, row = some r → W1.heap.size ≤ r ∧ ∃ o : Obj, A.heap[r]? = some o ∧ o.isWalk = true) → A.heap[k]? = some o → o.isWalk = false → B.heap[k]? = some o :=
    fun h hr hk hw => (grownBy_keeps h (fun r e => (hr r e).2) hk hw).trans hk
  refine (hseq (w.heap.size + 1)
    (fun pre W => I pre W ∧ W.heap[w.heap.size + 1]? = some (.loop (R .ready none)) ∧ W.heap[w.heap.size]? = some (.deferred (some [])))
    (fun pre W => ∃ c, Ix c pre W ∧ W.heap[w.heap.size + 1]? = some (.loop (R .done (some c))) ∧ W.heap[w.heap.size]? = some (.deferred (some [])))
    W1 (hb0.trans ((((Below.refl _ w).alloc (Nat.le_refl _) _).alloc (by simp) _).mono hb0.size))
    (fun s A B row hs h hr => ⟨hI s A B row hs.1 h (far hr), stays h hr hs.2.1 rfl, stays h hr hs.2.2 rfl⟩)
    (fun s A B row ⟨c, hs, h1, h2⟩ h hr => ⟨c, hIx c s A B row hs h (far hr), stays h hr h1 rfl, stays h hr h2 rfl⟩)
    ?_ ⟨hI.alloc _ (hI.alloc _ h0), hL1, hK1⟩ _).mono ?_
  · rintro pre x W m ⟨hi, hl, hk⟩ hx
    have hlt := (Array.getElem?_eq_some_iff.1 hl).1
    refine ⟨fn, _, assign, body, run_yield (P := P) (args := encs x) hl (hps x), roundIn_of_wpIn hfn (hassign _ _ x W _ ⟨_, run_beginRound hl rfl, ?_⟩)⟩
    let W2 := W.putObj (w.heap.size + 1) (.loop (R .busy none))
    have hl2 : W2.heap[w.heap.size + 1]? = some (.loop (R .busy none)) := World.putObj_heap_same hlt
    have hk2 : W2.heap[w.heap.size]? = some (.deferred (some [])) := (World.putObj_heap_other (by omega)).trans hk
    have leave : ∀ (jump : Option Code) (W3 : World), KeepsFrom w.heap.size W2 W3 →
        W3.heap[w.heap.size + 1]? = some (.loop (R .busy none)) ∧
        (Instr.endRound (w.heap.size + 1) jump).run P W3 = .ok (.bool jump.isNone) (W3.putObj (w.heap.size + 1) (.loop (R (if jump.isNone then .ready else .done) jump))) ∧
        (W3.putObj (w.heap.size + 1) (.loop (R (if jump.isNone then .ready else .done) jump))).heap[w.heap.size + 1]? = some (.loop (R (if jump.isNone then .ready else .done) jump)) ∧
        (W3.putObj (w.heap.size + 1) (.loop (R (if jump.isNone then .ready else .done) jump))).heap[w.heap.size]? = some (.deferred (some [])) := fun jump W3 h3 => by
      have hl3 := h3.same _ _ (by omega) hl2 rfl
      exact ⟨hl3, run_endRound (P := P) jump hl3, World.putObj_heap_same (Array.getElem?_eq_some_iff.1 hl3).1, (World.putObj_heap_other (by omega)).trans (h3.same _ _ (Nat.le_refl _) hk2 rfl)⟩
    refine wpIn_mono (hbody _ _ pre x _ (hI.putObj _ hi (by omega) hl rfl) ((hΦ x).putObj (s := ()) _ hx (by omega) hl rfl)) fun e a3 W3 hp => ?_
    cases e with
    | normal =>
      obtain ⟨h3, hkp, hi3⟩ := hp
      obtain ⟨hl3, hr, q1, q2⟩ := leave none W3 h3
      exact ⟨_, _, hr, .inl ⟨rfl, ⟨hI.putObj _ hi3 (by omega) hl3 rfl, q1, q2⟩, hKt (hKt (hKb _ _ _ _ (by omega) hl rfl rfl) hkp) (hKb _ _ _ _ (by omega) hl3 rfl rfl)⟩⟩
    | ret =>
      obtain ⟨h3, hkp, hi3⟩ := hp
      obtain ⟨hl3, hr, q1, q2⟩ := leave (some .ret) W3 h3
      exact ⟨_, _, hr, .inr ⟨rfl, ⟨_, (hIx _).putObj _ hi3 (by omega) hl3 rfl, q1, q2⟩, hKt (hKt (hKb _ _ _ _ (by omega) hl rfl rfl) hkp) (hKb _ _ _ _ (by omega) hl3 rfl rfl)⟩⟩
    | exit id =>
      obtain ⟨h3, hkp, hi3⟩ := hp
      obtain ⟨hl3, hr, q1, q2⟩ := leave (some (.exit id)) W3 h3
      exact ⟨_, _, hr, .inr ⟨rfl, ⟨_, (hIx _).putObj _ hi3 (by omega) hl3 rfl, q1, q2⟩, hKt (hKt (hKb _ _ _ _ (by omega) hl rfl rfl) hkp) (hKb _ _ _ _ (by omega) hl3 rfl rfl)⟩⟩
    | goto t =>
      obtain ⟨h3, hkp, hi3⟩ := hp
      obtain ⟨hl3, hr, q1, q2⟩ := leave (some (.goto t)) W3 h3
      exact ⟨_, _, hr, .inr ⟨rfl, ⟨_, (hIx _).putObj _ hi3 (by omega) hl3 rfl, q1, q2⟩, hKt (hKt (hKb _ _ _ _ (by omega) hl rfl rfl) hkp) (hKb _ _ _ _ (by omega) hl3 rfl rfl)⟩⟩
    | panic _ => exact hp.elim
    | outgrown => exact hp.elim
  · rintro e W2 ⟨⟨v, rfl⟩, (⟨xs, hS, hi, hl, hk⟩ | ⟨pre, hSp, c, hi, hl, hk⟩)⟩
    · exact ⟨none, _, run_endLoop (P := P) hl (by simp [R, recOf]), hdone _ xs _ (Nat.le_refl _) hS (hI.putObj _ hi (by omega) hl rfl) ((World.putObj_heap_other (by omega)).trans hk)⟩
    · exact ⟨some c, _, run_endLoop (P := P) hl (by simp [R, recOf]), hstop _ c pre _ (Nat.le_refl _) hSp ((hIx c).putObj _ hi (by omega) hl rfl) ((World.putObj_heap_other (by omega)).trans hk)⟩

/-- Leaving with the marks of several such loops: each block for deferred calls is taken over, and is empty. -/
theorem leaves_marks {F : Fence} {n : Nat} {P : Program} {fn : Func} {tmps : Array Value} {R : Ending → World → Prop} (n₀ : Nat) (Pw : World → Prop)
    (hP : ∀ D W, n₀ ≤ D → Pw W → W.heap[D]? = some (.deferred (some [])) → Pw (W.putObj D (.deferred none))) (hend : ∀ W, Pw W → LeavesIn F n P fn tmps R [] .returning W) :
    ∀ (Ds : List Nat) (W : World), Ds.Nodup → (∀ D ∈ Ds, n₀ ≤ D ∧ W.heap[D]? = some (.deferred (some []))) → Pw W → LeavesInM F n P fn tmps R (Ds.map fun D => { target := .collected D, args := #[] }) .returning W
  | [], W, _, _, h => hend W h
  | D :: r, W, hn, hd, h => by
    obtain ⟨hD, hn'⟩ := List.nodup_cons.1 hn
    obtain ⟨h0, h1⟩ := hd D (by simp)
    refine ⟨by simp, .inl ⟨D, _, rfl, run_takeDeferred h1, ?_⟩⟩
    refine leaves_marks n₀ Pw hP hend r _ hn' (fun D' hD' => ?_) (hP D W h0 h h1)
    obtain ⟨q0, q1⟩ := hd D' (by simp [hD'])
    exact ⟨q0, (World.putObj_heap_other (fun e => hD (by rw [← e]; exact hD'))).trans q1⟩

end Go.Proofs.YtglfoglkdbbmmaaDoor
