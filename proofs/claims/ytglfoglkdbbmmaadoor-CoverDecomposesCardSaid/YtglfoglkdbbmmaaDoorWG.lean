/- A region that draws its order, gone through over a list of what its operations have written so far: the frame itself stays behind a name till the region's end. -/
import Derived.Test.YtglfoglkdbbmmaaDoorW1
namespace Go.Proofs.YtglfoglkdbbmmaaDoor
open Go.RowKit

/-- What was written last at a slot. -/
def look : List (Nat × Value) → (Nat → Value) → Nat → Value
  | [], f, k => f k
  | (d, v) :: ws, f, k => if k = d then v else look ws f k
theorem look_nil (f : Nat → Value) (k : Nat) : look [] f k = f k := rfl
theorem look_cons (d : Nat) (v : Value) (ws : List (Nat × Value)) (f : Nat → Value) (k : Nat) : look ((d, v) :: ws) f k = if k = d then v else look ws f k := rfl
def base (L : List Value) (t : Nat) : Value := L.toArray.getD t undef
def evalW (L : List Value) (ws : List (Nat × Value)) : Operand → Value
  | .tmp t => look ws (base L) t
  | o => Act.eval ⟨#[], []⟩ o
theorem evalW_tmp (L : List Value) (ws : List (Nat × Value)) (t : Nat) : evalW L ws (.tmp t) = look ws (base L) t := rfl
theorem evalW_const (L : List Value) (ws : List (Nat × Value)) (v : Value) : evalW L ws (.const v) = v := rfl
theorem evalW_func (L : List Value) (ws : List (Nat × Value)) (f : FuncId) : evalW L ws (.func f) = .func (.func f) #[] #[] := rfl
theorem evalW_global (L : List Value) (ws : List (Nat × Value)) (g : Nat) : evalW L ws (.global g) = .pointer (some ⟨g, 0, none⟩) := rfl
def setAll (L : List Value) : List (Nat × Value) → List Value
  | [] => L
  | (d, v) :: ws => (setAll L ws).set d v
theorem setAll_len (L : List Value) : ∀ ws, (setAll L ws).length = L.length
  | [] => rfl
  | (d, v) :: ws => by rw [setAll, List.length_set, setAll_len L ws]
theorem setAll_get (L : List Value) : ∀ ws : List (Nat × Value), (∀ p ∈ ws, p.1 < L.length) → ∀ t, (setAll L ws).toArray.getD t undef = look ws (base L) t
  | [], _, t => rfl
  | (d, v) :: ws, h, t => by
    have ih := setAll_get L ws (fun p hp => h p (List.mem_cons_of_mem _ hp)) t
    have hd : d < (setAll L ws).length := by rw [setAll_len]; exact h (d, v) (by simp)
    rw [look_cons, ← ih, setAll]
    by_cases e : t = d
    · subst e; simp [hd]
    · have e' : d ≠ t := fun c => e c.symm
      simp [e, List.getElem?_set_ne e']
def lset (m : Nat) : List Nat → Array Bool
  | [] => Array.replicate m false
  | i :: r => (lset m r).setIfInBounds i true
theorem lset_size (m : Nat) : ∀ l, (lset m l).size = m
  | [] => by simp [lset]
  | i :: r => by simp [lset, lset_size m r]
theorem lset_get (m : Nat) (b : Bool) : ∀ (l : List Nat) (j : Nat), (lset m l).getD j b = if j < m then l.contains j else b
  | [], j => by by_cases h : j < m <;> simp [lset, h]
  | i :: r, j => by
    have ih := lset_get m b r j
    have hs := lset_size m r
    by_cases h : j < m
    · rw [if_pos h] at ih ⊢
      by_cases e : i = j
      · subst e; simp [lset, hs, h]
      · have e2 : j ≠ i := fun c => e c.symm
        simp only [lset, Array.getD_eq_getD_getElem?, Array.getElem?_setIfInBounds_ne e, List.contains_cons] at ih ⊢
        rw [ih]
        have : (j == i) = false := by simp [e2]
        rw [this, Bool.false_or]
    · rw [if_neg h] at ih ⊢
      have h1 : m ≤ j := by omega
      simp [lset, hs, h1]

/-- A region's rows: where an operation writes, what it looks at, what it waits for. -/
abbrev Row := Option Nat × List Nat × List Nat
def waits (o : Oper) : List Nat := (o.after.toList.filter (Region.binds .any)).map (·.on)
def rowOf (ops : Array Oper) (o : Oper) : Row := (o.dst, o.looksAt ops, waits o)
def tableR (ops : Array Oper) : List Row := ops.toList.map (rowOf ops)
def ordered (x y : Row × Nat) : Bool := x.1.2.2.contains y.2 || y.1.2.2.contains x.2
/-- Two rows: where they touch one slot, one waits for the other. -/
def fits (x y : Row × Nat) : Bool :=
  (match x.1.1 with
   | some d => (!(y.1.2.1.contains d) || ordered x y) && (!(y.1.1 == some d) || ordered x y)
   | none => true) &&
  (match y.1.1 with
   | some d => !(x.1.2.1.contains d) || ordered x y
   | none => true)
def fitsAll (x : Row × Nat) : List (Row × Nat) → Bool
  | [] => true
  | y :: r => fits x y && fitsAll x r
def goodL : List (Row × Nat) → Bool
  | [] => true
  | x :: r => fitsAll x r && goodL r
def numbered : List Row → Nat → List (Row × Nat)
  | [], _ => []
  | x :: r, k => (x, k) :: numbered r (k + 1)
def inB (n : Nat) : List Row → Bool
  | [] => true
  | x :: r => (match x.1 with | some d => Nat.blt d n | none => true) && inB n r
def inA (m : Nat) : List Row → Bool
  | [] => true
  | x :: r => x.2.2.all (fun k => Nat.blt k m) && inA m r
def goodT (n m : Nat) (T : List Row) : Bool := goodL (numbered T 0) && (inB n T && inA m T)
theorem fits_comm (x y : Row × Nat) (h : fits x y = true) : fits y x = true := by
  obtain ⟨⟨dx, lx, ax⟩, i⟩ := x
  obtain ⟨⟨dy, ly, ay⟩, j⟩ := y
  have e : ∀ a b : Bool, (a || b) = (b || a) := fun a b => Bool.or_comm a b
  cases dx <;> cases dy <;> simp only [fits, ordered, Bool.and_true, Bool.true_and] at h ⊢
  · rw [e (ay.contains i)]; simpa using h
  · rw [e (ay.contains i)]; simpa using h
  · rename_i d d'
    rw [e (ay.contains i)]
    simp only [Bool.and_eq_true] at h ⊢
    obtain ⟨⟨h1, h2⟩, h3⟩ := h
    refine ⟨⟨h3, ?_⟩, h1⟩
    by_cases c : d = d'
    · subst c; simpa using h2
    · have : (some d == some d') = false := by simp [c]
      rw [this]; rfl
theorem fitsAll_mem {x y : Row × Nat} : ∀ {l}, fitsAll x l = true → y ∈ l → fits x y = true
  | z :: r, h, hy => by
    simp only [fitsAll, Bool.and_eq_true] at h
    rcases List.mem_cons.1 hy with rfl | hy
    · exact h.1
    · exact fitsAll_mem h.2 hy
theorem goodL_mem {x y : Row × Nat} : ∀ {l}, goodL l = true → x ∈ l → y ∈ l → x ≠ y → fits x y = true
  | z :: r, h, hx, hy, hne => by
    simp only [goodL, Bool.and_eq_true] at h
    rcases List.mem_cons.1 hx with e1 | h1
    · rcases List.mem_cons.1 hy with e2 | h2
      · exact absurd (e1.trans e2.symm) hne
      · rw [e1]; exact fitsAll_mem h.1 h2
    · rcases List.mem_cons.1 hy with e2 | h2
      · rw [e2]; exact fits_comm _ _ (fitsAll_mem h.1 h1)
      · exact goodL_mem h.2 h1 h2 hne
theorem mem_numbered : ∀ {T : List Row} {k i : Nat} {x : Row}, T[i]? = some x → (x, k + i) ∈ numbered T k
  | y :: r, k, 0, x, h => by simp at h; subst h; simp [numbered]
  | y :: r, k, i + 1, x, h => by
    simp at h
    have := mem_numbered (k := k + 1) h
    rw [numbered, show k + (i + 1) = k + 1 + i by omega]
    exact List.mem_cons_of_mem _ this
theorem inB_get {n : Nat} : ∀ {T : List Row} {i : Nat} {x : Row} {d : Nat}, inB n T = true → T[i]? = some x → x.1 = some d → d < n
  | y :: r, 0, x, d, h, hx, hd => by
    simp at hx; subst hx
    simp only [inB, Bool.and_eq_true, hd] at h
    exact Nat.blt_eq.mp h.1
  | y :: r, i + 1, x, d, h, hx, hd => by
    simp only [inB, Bool.and_eq_true] at h
    exact inB_get h.2 (by simpa using hx) hd

theorem inA_get {m : Nat} : ∀ {T : List Row} {i : Nat} {x : Row}, inA m T = true → T[i]? = some x → ∀ k ∈ x.2.2, k < m
  | y :: r, 0, x, h, hx => by
    simp at hx; subst hx
    simp only [inA, Bool.and_eq_true] at h
    exact fun k hk => Nat.blt_eq.mp (List.all_eq_true.1 h.1 k hk)
  | y :: r, i + 1, x, h, hx => by
    simp only [inA, Bool.and_eq_true] at h
    exact inA_get h.2 (by simpa using hx)

section
variable {P : Program} {ops : Array Oper} {Q : Exit → Act → World → Prop} {S : World → Prop} {T : List Row}

theorem table_get {i : Nat} {oi : Oper} (ht : tableR ops = T) (hi : ops[i]? = some oi) : T[i]? = some (rowOf ops oi) := by
  rw [← ht]; simp [tableR, hi]
theorem table_len (ht : tableR ops = T) : T.length = ops.size := by rw [← ht]; simp [tableR]
/-- May number i come up? -/
def readyT (T : List Row) (done : List Nat) (i : Nat) : Bool := !done.contains i && match T.drop i with | (_, _, a) :: _ => a.all (fun k => done.contains k) | [] => false
theorem lt_of_get {α : Type} {l : Array α} {i : Nat} {x : α} (h : l[i]? = some x) : i < l.size := by
  rcases Nat.lt_or_ge i l.size with h1 | h1
  · exact h1
  · rw [Array.getElem?_eq_none h1] at h; cases h
theorem drop_get {α : Type} {l : List α} {i : Nat} {x : α} (h : l[i]? = some x) : ∃ r, l.drop i = x :: r := by
  have hl : i < l.length := by
    rcases Nat.lt_or_ge i l.length with h1 | h1
    · exact h1
    · rw [List.getElem?_eq_none h1] at h; cases h
  rw [List.getElem?_eq_getElem hl] at h
  exact ⟨_, by rw [List.drop_eq_getElem_cons hl]; simp at h; rw [h]⟩
theorem mem_waits {o : Oper} {e : Edge} (he : e ∈ o.after) (hb : Region.binds .any e = true) : e.on ∈ waits o := by
  unfold waits
  rw [List.mem_map]
  exact ⟨e, by rw [List.mem_filter]; exact ⟨by simpa using he, hb⟩, rfl⟩
theorem waits_mem {o : Oper} {k : Nat} (h : k ∈ waits o) : ∃ e ∈ o.after, Region.binds .any e = true ∧ e.on = k := by
  unfold waits at h
  rw [List.mem_map] at h
  obtain ⟨e, h1, h2⟩ := h
  rw [List.mem_filter] at h1
  exact ⟨e, by simpa using h1.1, h1.2, h2⟩
theorem ready_iff {done : List Nat} {i : Nat} {oi : Oper} (hi : ops[i]? = some oi) (hin : ∀ k ∈ waits oi, k < ops.size) :
    i ∈ Region.ready .any ops (lset ops.size done) ↔ done.contains i = false ∧ ∀ k ∈ waits oi, done.contains k = true := by
  have hlt := lt_of_get hi
  rw [mem_ready, lset_get, if_pos hlt]
  constructor
  · rintro ⟨h1, o, ho, h2⟩
    rw [hi] at ho; cases ho
    refine ⟨h1, fun k hk => ?_⟩
    obtain ⟨e, he, hb, rfl⟩ := waits_mem hk
    have := h2 e he hb
    rwa [lset_get, if_pos (hin _ hk)] at this
  · rintro ⟨h1, h2⟩
    refine ⟨h1, oi, hi, fun e he hb => ?_⟩
    rw [lset_get, if_pos (hin _ (mem_waits he hb))]
    exact h2 _ (mem_waits he hb)
theorem readyT_mem {n : Nat} {done : List Nat} {i : Nat} {oi : Oper} (ht : tableR ops = T) (hg : goodT n ops.size T = true) (hi : ops[i]? = some oi) (h : readyT T done i = true) :
    i ∈ Region.ready .any ops (lset ops.size done) := by
  have hT := table_get ht hi
  simp only [goodT, Bool.and_eq_true] at hg
  rw [ready_iff hi (inA_get hg.2.2 hT)]
  obtain ⟨r, hr⟩ := drop_get hT
  unfold readyT at h
  rw [hr] at h
  simp only [rowOf, Bool.and_eq_true] at h
  exact ⟨by simpa using h.1, List.all_eq_true.1 h.2⟩
/-- What may come up touches nothing that another one, which does not wait for it, touches. -/
theorem apart_of_good {n : Nat} {done : List Nat} {i : Nat} {oi : Oper} (ht : tableR ops = T) (hg : goodT n ops.size T = true) (hi : ops[i]? = some oi) (hr : readyT T done i = true)
    (j : Nat) (oj : Oper) (hj : ops[j]? = some oj) (hne : j ≠ i) (hun : (lset ops.size done).getD j true = false) (hno : ∀ e ∈ oj.after, Region.binds .any e = true → e.on ≠ i) : oi.apart ops oj = true := by
  have hmi := readyT_mem ht hg hi hr
  have hTi := table_get ht hi
  have hTj := table_get ht hj
  simp only [goodT, Bool.and_eq_true] at hg
  rw [ready_iff hi (inA_get hg.2.2 hTi)] at hmi
  rw [lset_get, if_pos (lt_of_get hj)] at hun
  have hf := goodL_mem hg.1 (mem_numbered (k := 0) hTi) (mem_numbered (k := 0) hTj) (by
    intro c
    have := congrArg Prod.snd c
    simp at this
    exact hne this.symm)
  have hord : ordered (rowOf ops oi, 0 + i) (rowOf ops oj, 0 + j) = false := by
    simp only [ordered, rowOf, Nat.zero_add, Bool.or_eq_false_iff]
    constructor
    · rcases h : (waits oi).contains j with _ | _
      · rfl
      · have := hmi.2 j (by simpa using h)
        rw [hun] at this; cases this
    · rcases h : (waits oj).contains i with _ | _
      · rfl
      · obtain ⟨e, he, hb, hk⟩ := waits_mem (o := oj) (k := i) (by simpa using h)
        exact absurd hk (hno e he hb)
  unfold fits at hf
  rw [hord] at hf
  simp only [rowOf, Bool.or_false] at hf
  unfold Oper.apart
  cases h1 : oi.dst <;> cases h2 : oj.dst <;> rw [h1, h2] at hf <;> first | rfl | simpa [bne] using hf

/-- The walk through a region: the operations 'done' have come up, 'ws' is what they have written. -/
def W (P : Program) (ops : Array Oper) (Q : Exit → Act → World → Prop) (S : World → Prop) (L : List Value) (ds : List Deferred) (fuel : Nat) (done : List Nat) (ws : List (Nat × Value)) (w : World) : Prop :=
  (∀ p ∈ ws, p.1 < L.length) → wpAnyH P .any ops Q S fuel (lset ops.size done) ⟨(setAll L ws).toArray, ds⟩ w
theorem eval_W {L : List Value} {ws : List (Nat × Value)} (h : ∀ p ∈ ws, p.1 < L.length) (ds : List Deferred) : Act.eval ⟨(setAll L ws).toArray, ds⟩ = evalW L ws := by
  funext o
  cases o with
  | tmp t => exact setAll_get L ws h t
  | const v => rfl
  | global g => rfl
  | func f => rfl
def putW : Option Nat → Value → List (Nat × Value) → List (Nat × Value)
  | some d, v, ws => (d, v) :: ws
  | none, _, ws => ws
theorem put_W (L : List Value) (ws : List (Nat × Value)) (ds : List Deferred) (d : Option Nat) (v : Value) : Act.put ⟨(setAll L ws).toArray, ds⟩ d v = ⟨(setAll L (putW d v ws)).toArray, ds⟩ := by
  cases d with
  | none => rfl
  | some d => simp [Act.put, putW, setAll]
theorem putW_lt {L : List Value} {ws : List (Nat × Value)} {d : Option Nat} {v : Value} (h : ∀ p ∈ ws, p.1 < L.length) (hd : ∀ k, d = some k → k < L.length) : ∀ p ∈ putW d v ws, p.1 < L.length := by
  cases d with
  | none => exact h
  | some d =>
    intro p hp
    rcases List.mem_cons.1 hp with rfl | hp
    · exact hd _ rfl
    · exact h p hp
/-- Is an operation wanted? -/
def wantedW (T : List Row) (L : List Value) (ws : List (Nat × Value)) : Option (Nat × Bool) → Bool
  | none => true
  | some (g, want) => match T.drop g with
    | (some d, _, _) :: _ => (match look ws (base L) d with | .bool b => b == want | _ => false)
    | _ => false
theorem wanted_W {n : Nat} {L : List Value} {ws : List (Nat × Value)} {o : Oper} {b : Bool} (ds : List Deferred) (ht : tableR ops = T) (hg : goodT L.length n T = true) (h : ∀ p ∈ ws, p.1 < L.length) (hw : wantedW T L ws o.guard = b) :
    Region.wanted o (yielded ops (⟨(setAll L ws).toArray, ds⟩ : Act).tmps) = b := by
  subst hw
  unfold Region.wanted wantedW
  cases hgd : o.guard with
  | none => rfl
  | some p =>
    obtain ⟨g, want⟩ := p
    simp only [yielded]
    cases hj : ops[g]? with
    | none =>
      have : T.drop g = [] := by
        rw [List.drop_eq_nil_iff, table_len ht]
        rcases Nat.lt_or_ge g ops.size with h1 | h1
        · rw [Array.getElem?_eq_getElem h1] at hj; cases hj
        · exact h1
      rw [this]; rfl
    | some og =>
      have hT := table_get ht hj
      obtain ⟨r, hr⟩ := drop_get hT
      rw [hr]
      simp only [rowOf, Option.bind_some]
      cases hd : og.dst with
      | none => rfl
      | some d =>
        simp only [goodT, Bool.and_eq_true] at hg
        have hlt : d < L.length := inB_get hg.2.1 hT hd
        have hget := setAll_get L ws h d
        have hlt2 : d < (setAll L ws).toArray.size := by simp [setAll_len, hlt]
        simp only [Array.getD, hlt2, dif_pos] at hget
        simp only [Option.bind_some]
        rw [Array.getElem?_eq_getElem hlt2]
        have e : (setAll L ws).toArray[d] = look ws (base L) d := hget
        rw [e]
        cases look ws (base L) d <;> rfl

section
variable {L : List Value} {ds : List Deferred} {fuel : Nat} {done : List Nat} {ws : List (Nat × Value)} {w : World}
/-- All that is fixed through a region. -/
structure Reg (P : Program) (ops0 ops : Array Oper) (Q : Exit → Act → World → Prop) (L : List Value) (T : List Row) : Prop where
  ops_eq : ops = ops0
  tab : tableR ops = T
  good : goodT L.length ops.size T = true
  nosel : Region.noSelect ops = true
  calm : ∀ c d v a w, Q (.panic c) (Act.put a d v) w → Q (.panic c) a w
variable {ops0 : Array Oper}
theorem dst_lt (hR : Reg P ops0 ops Q L T) {i : Nat} {oi : Oper} (hi : ops[i]? = some oi) : ∀ k, oi.dst = some k → k < L.length := fun k hk => by
  have := hR.good
  simp only [goodT, Bool.and_eq_true] at this
  exact inB_get this.2.1 (table_get hR.tab hi) hk
theorem op_at (hR : Reg P ops0 ops Q L T) {i : Nat} {oi : Oper} {r : List Oper} (hi : ops0.toList.drop i = oi :: r) : ops[i]? = some oi := by
  rw [hR.ops_eq, ← Array.getElem?_toList, ← Nat.add_zero i, ← List.getElem?_drop, hi]; rfl
/-- Number i, which only reads, comes first. -/
theorem wg_take (i : Nat) {oi : Oper} {r : List Oper} {v : Value} (hR : Reg P ops0 ops Q L T) (hi : ops0.toList.drop i = oi :: r) (hr : readyT T done i = true)
    (hw : wantedW T L ws oi.guard = true) (hy : ∀ w, S w → (execOp (evalW L ws) oi).run P w = .ok (.value v) w) (hS : S w)
    (h : W P ops Q S L ds fuel (i :: done) (putW oi.dst v ws) w) : W P ops Q S L ds (fuel + 1) done ws w := fun hb => by
  have ho := op_at hR hi
  refine wpAnyH_first (v := v) ho (Region.noSelect_spec hR.nosel) (fun c a w => hR.calm c _ _ a w) fuel _ _ w (apart_of_good hR.tab hR.good ho hr) (readyT_mem hR.tab hR.good ho hr) ?_ hS ?_
  · exact .inl ⟨wanted_W ds hR.tab hR.good hb hw, fun w hw => by rw [eval_W hb]; exact hy w hw⟩
  · rw [put_W]; exact h (putW_lt hb (dst_lt hR ho))
/-- Number i is not wanted. -/
theorem wg_skip (i : Nat) {oi : Oper} {r : List Oper} (hR : Reg P ops0 ops Q L T) (hi : ops0.toList.drop i = oi :: r) (hr : readyT T done i = true)
    (hw : wantedW T L ws oi.guard = false) (hS : S w)
    (h : W P ops Q S L ds fuel (i :: done) (putW oi.dst undef ws) w) : W P ops Q S L ds (fuel + 1) done ws w := fun hb => by
  have ho := op_at hR hi
  refine wpAnyH_first (v := undef) ho (Region.noSelect_spec hR.nosel) (fun c a w => hR.calm c _ _ a w) fuel _ _ w (apart_of_good hR.tab hR.good ho hr) (readyT_mem hR.tab hR.good ho hr) ?_ hS ?_
  · exact .inr ⟨wanted_W ds hR.tab hR.good hb hw, rfl⟩
  · rw [put_W]; exact h (putW_lt hb (dst_lt hR ho))
/-- What comes of an operation that is carried out. -/
def StepW (P : Program) (S : World → Prop) (L : List Value) (ws : List (Nat × Value)) (oi : Oper) (w : World) (N : Value → World → Prop) : Prop :=
  (∃ v w', (execOp (evalW L ws) oi).run P w = .ok (.value v) w' ∧ S w' ∧ N v w') ∨ (∃ w', (execOp (evalW L ws) oi).run P w = .ok .skip w' ∧ S w' ∧ N undef w') ∨
  (∃ f args, (execOp (evalW L ws) oi).run P w = .ok (.enter f args) w ∧ Calls P f args w fun e w' => ∃ v, e = .returned v ∧ S w' ∧ N v w')
theorem StepW.wp {oi : Oper} {N : Value → World → Prop} {a : Act} {K : Act → World → Prop} (h : StepW P S L ws oi w N) (he : a.eval = evalW L ws) (hK : ∀ v w', S w' → N v w' → K (a.put oi.dst v) w') : Oper.wp P oi a w K Q := by
  unfold Oper.wp
  rw [he]
  rcases h with ⟨v, w', h1, h2, h3⟩ | ⟨w', h1, h2, h3⟩ | ⟨f, args, h1, h2⟩
  · rw [h1, Oper.upon_value]; exact hK v w' h2 h3
  · rw [h1, Oper.upon_skip]; exact hK undef w' h2 h3
  · rw [h1, Oper.upon_enter]
    exact h2.mono fun e w' ⟨v, he, hs, hn⟩ => by subst he; exact hK v w' hs hn
/-- Which numbers may come up. -/
def upT (done : List Nat) : List (Row × Nat) → List Nat
  | [] => []
  | (x, k) :: r => if !done.contains k && x.2.2.all (fun j => done.contains j) then k :: upT done r else upT done r
theorem mem_upT {done : List Nat} {x : Row} {k : Nat} (h1 : done.contains k = false) (h2 : ∀ j ∈ x.2.2, done.contains j = true) : ∀ {l}, (x, k) ∈ l → k ∈ upT done l
  | (y, j) :: r, h => by
    rcases List.mem_cons.1 h with e | h
    · cases e
      unfold upT
      rw [if_pos (by simp only [h1, Bool.not_false, Bool.true_and]; exact List.all_eq_true.2 h2)]
      exact List.mem_cons_self
    · have ih := mem_upT h1 h2 h
      unfold upT
      split
      · exact List.mem_cons_of_mem _ ih
      · exact ih
theorem ready_up (hR : Reg P ops0 ops Q L T) {j : Nat} (h : j ∈ Region.ready .any ops (lset ops.size done)) : j ∈ upT done (numbered T 0) := by
  obtain ⟨_, oj, hj, _⟩ := mem_ready.1 h
  have hT := table_get hR.tab hj
  have hg := hR.good
  simp only [goodT, Bool.and_eq_true] at hg
  rw [ready_iff hj (inA_get hg.2.2 hT)] at h
  have hm := mem_numbered (k := 0) hT
  rw [Nat.zero_add] at hm
  exact mem_upT (x := rowOf ops oj) h.1 h.2 hm
/-- One operation alone may come up. -/
theorem wg_step (i : Nat) {oi : Oper} {r : List Oper} (hR : Reg P ops0 ops Q L T) (hi : ops0.toList.drop i = oi :: r) (hr : upT done (numbered T 0) = [i])
    (hw : wantedW T L ws oi.guard = true)
    (h : StepW P S L ws oi w fun v w' => S w' → W P ops Q S L ds fuel (i :: done) (putW oi.dst v ws) w') (hr2 : readyT T done i = true) : W P ops Q S L ds (fuel + 1) done ws w := fun hb => by
  have ho := op_at hR hi
  refine ⟨fun h0 => ?_, fun j hj => ?_⟩
  · have := readyT_mem hR.tab hR.good ho hr2
    rw [h0] at this; cases this
  · have := ready_up hR hj
    rw [hr] at this
    obtain rfl := List.mem_singleton.1 this
    refine wpOp_step ho fun K' hK => ?_
    rw [if_pos (wanted_W ds hR.tab hR.good hb hw)]
    exact h.wp (eval_W hb ds) fun v w' hs hn => hK _ _ ⟨hs, by rw [put_W]; exact hn hs (putW_lt hb (dst_lt hR ho))⟩
/-- Either of two may come up. -/
theorem wg_two (i j : Nat) {oi oj : Oper} {r s : List Oper} (hR : Reg P ops0 ops Q L T) (hi : ops0.toList.drop i = oi :: r) (hj : ops0.toList.drop j = oj :: s) (hr : upT done (numbered T 0) = [i, j])
    (hwi : wantedW T L ws oi.guard = true) (hwj : wantedW T L ws oj.guard = true) (hr2 : readyT T done i = true)
    (h1 : StepW P S L ws oi w fun v w' => S w' → W P ops Q S L ds fuel (i :: done) (putW oi.dst v ws) w')
    (h2 : StepW P S L ws oj w fun v w' => S w' → W P ops Q S L ds fuel (j :: done) (putW oj.dst v ws) w') : W P ops Q S L ds (fuel + 1) done ws w := fun hb => by
  have ho := op_at hR hi
  have ho2 := op_at hR hj
  refine ⟨fun h0 => ?_, fun k hk => ?_⟩
  · have := readyT_mem hR.tab hR.good ho hr2
    rw [h0] at this; cases this
  · have := ready_up hR hk
    rw [hr] at this
    rcases List.mem_cons.1 this with rfl | this
    · refine wpOp_step ho fun K' hK => ?_
      rw [if_pos (wanted_W ds hR.tab hR.good hb hwi)]
      exact h1.wp (eval_W hb ds) fun v w' hs hn => hK _ _ ⟨hs, by rw [put_W]; exact hn hs (putW_lt hb (dst_lt hR ho))⟩
    · obtain rfl := List.mem_singleton.1 this
      refine wpOp_step ho2 fun K' hK => ?_
      rw [if_pos (wanted_W ds hR.tab hR.good hb hwj)]
      exact h2.wp (eval_W hb ds) fun v w' hs hn => hK _ _ ⟨hs, by rw [put_W]; exact hn hs (putW_lt hb (dst_lt hR ho2))⟩
theorem wg_three (i j m : Nat) {oi oj om : Oper} {r s q : List Oper} (hR : Reg P ops0 ops Q L T) (hi : ops0.toList.drop i = oi :: r) (hj : ops0.toList.drop j = oj :: s) (hm : ops0.toList.drop m = om :: q) (hr : upT done (numbered T 0) = [i, j, m])
    (hwi : wantedW T L ws oi.guard = true) (hwj : wantedW T L ws oj.guard = true) (hwm : wantedW T L ws om.guard = true) (hr2 : readyT T done i = true)
    (h1 : StepW P S L ws oi w fun v w' => S w' → W P ops Q S L ds fuel (i :: done) (putW oi.dst v ws) w')
    (h2 : StepW P S L ws oj w fun v w' => S w' → W P ops Q S L ds fuel (j :: done) (putW oj.dst v ws) w')
    (h3 : StepW P S L ws om w fun v w' => S w' → W P ops Q S L ds fuel (m :: done) (putW om.dst v ws) w') : W P ops Q S L ds (fuel + 1) done ws w := fun hb => by
  have ho := op_at hR hi
  have ho2 := op_at hR hj
  have ho3 := op_at hR hm
  refine ⟨fun h0 => ?_, fun k hk => ?_⟩
  · have := readyT_mem hR.tab hR.good ho hr2
    rw [h0] at this; cases this
  · have := ready_up hR hk
    rw [hr] at this
    rcases List.mem_cons.1 this with rfl | this
    · refine wpOp_step ho fun K' hK => ?_
      rw [if_pos (wanted_W ds hR.tab hR.good hb hwi)]
      exact h1.wp (eval_W hb ds) fun v w' hs hn => hK _ _ ⟨hs, by rw [put_W]; exact hn hs (putW_lt hb (dst_lt hR ho))⟩
    · rcases List.mem_cons.1 this with rfl | this
      · refine wpOp_step ho2 fun K' hK => ?_
        rw [if_pos (wanted_W ds hR.tab hR.good hb hwj)]
        exact h2.wp (eval_W hb ds) fun v w' hs hn => hK _ _ ⟨hs, by rw [put_W]; exact hn hs (putW_lt hb (dst_lt hR ho2))⟩
      · obtain rfl := List.mem_singleton.1 this
        refine wpOp_step ho3 fun K' hK => ?_
        rw [if_pos (wanted_W ds hR.tab hR.good hb hwm)]
        exact h3.wp (eval_W hb ds) fun v w' hs hn => hK _ _ ⟨hs, by rw [put_W]; exact hn hs (putW_lt hb (dst_lt hR ho3))⟩
/-- What a slot holds when the region begins. -/
theorem wg_read {L L0 : List Value} (h : L = L0) (k : Nat) {v : Value} {r : List Value} (e : L0.drop k = v :: r) : base L k = v := by
  subst h
  have : L[k]? = some v := by rw [← Nat.add_zero k, ← List.getElem?_drop, e]; rfl
  simp [base, this]
/-- The beginning. -/
theorem wg_begin {L0 : List Value} {id : Nat} {Q0 : Exit → Act → World → Prop} (T : List Row) (S : World → Prop) (hm : P.follows .mixedOrders = true) (ht : tableR ops0 = T) (hg : goodT L0.length ops0.size T = true) (hs : Region.noSelect ops0 = true)
    (hQ : ∀ c d v a w, Q0 (.panic c) (Act.put a d v) w → Q0 (.panic c) a w) (hS : S w.drew)
    (h : ∀ (ops : Array Oper) (Q : Exit → Act → World → Prop) (L : List Value), L = L0 → Reg P ops0 ops Q L T →
      Shut (∀ ws w, Q0 .normal ⟨(setAll L0 ws).toArray, ds⟩ w → Q .normal ⟨(setAll L ws).toArray, ds⟩ w) → S w.drew → W P ops Q S L ds ops0.size [] [] w.drew) :
    (Code.region id ops0 true).wp P Q0 ⟨L0.toArray, ds⟩ w := by
  refine wp_region_held_drew hm hS fun hS => ?_
  have := h ops0 Q0 L0 rfl ⟨rfl, ht, hg, hs, hQ⟩ (fun _ _ h => h) hS
  exact this (by simp)
/-- The gaps between the slots that were written, in rising order. -/
def mg : List Value → List (Nat × Value) → List Value
  | l, [] => l
  | [], _ => []
  | _ :: l, (0, v) :: r => v :: mg l r
  | x :: l, (g + 1, v) :: r => x :: mg l ((g, v) :: r)
def absT : Nat → List (Nat × Value) → List (Nat × Value)
  | _, [] => []
  | b, (g, v) :: r => (b + g, v) :: absT (b + g + 1) r
def lookO : List (Nat × Value) → Nat → Option Value
  | [], _ => none
  | (d, v) :: ws, k => if k = d then some v else lookO ws k
theorem setAll_get? (L : List Value) : ∀ (ws : List (Nat × Value)) (t : Nat), (setAll L ws)[t]? = if t < L.length then (lookO ws t).or (L[t]?) else none
  | [], t => by by_cases h : t < L.length <;> simp [setAll, lookO, h]
  | (d, v) :: ws, t => by
    have ih := setAll_get? L ws t
    rw [setAll, List.getElem?_set, lookO, setAll_len]
    by_cases e : t = d
    · subst e
      by_cases h : t < L.length <;> simp [h]
    · have e' : d ≠ t := fun c => e c.symm
      rw [if_neg e', ih, if_neg e]
theorem lookO_lt {k : Nat} : ∀ {r : List (Nat × Value)} {b : Nat}, k < b → lookO (absT b r) k = none
  | [], _, _ => rfl
  | (g, v) :: r, b, h => by
    rw [absT, lookO, if_neg (by omega)]
    exact lookO_lt (by omega)
theorem lookO_shift (s : Nat) : ∀ (r : List (Nat × Value)) (b k : Nat), lookO (absT (b + s) r) (k + s) = lookO (absT b r) k
  | [], _, _ => rfl
  | (g, v) :: r, b, k => by
    simp only [absT, lookO]
    have ih := lookO_shift s r (b + g + 1) k
    by_cases h : k = b + g
    · rw [if_pos h, if_pos (by omega)]
    · rw [if_neg h, if_neg (by omega), ← ih]
      congr 2; omega
theorem mg_get? : ∀ (L : List Value) (gs : List (Nat × Value)) (t : Nat), (mg L gs)[t]? = if t < L.length then (lookO (absT 0 gs) t).or (L[t]?) else none
  | l, [], t => by by_cases h : t < l.length <;> simp [mg, absT, lookO, h]
  | [], p :: r, t => by simp [mg]
  | x :: l, (0, v) :: r, t => by
    have e1 : lookO (absT 0 ((0, v) :: r)) t = if t = 0 then some v else lookO (absT 1 r) t := rfl
    rw [e1]
    cases t with
    | zero => simp [mg]
    | succ t =>
      have ih := mg_get? l r t
      have h1 := lookO_shift 1 r 0 t
      simp only [Nat.zero_add] at h1
      simp only [mg, List.getElem?_cons_succ, ih, List.length_cons, Nat.add_lt_add_iff_right, Nat.add_eq_zero_iff, Nat.one_ne_zero, and_false, if_false, h1]
  | x :: l, (g + 1, v) :: r, t => by
    have e1 : absT 0 ((g + 1, v) :: r) = absT 1 ((g, v) :: r) := by
      simp only [absT]
      rw [show 0 + (g + 1) = 1 + g by omega]
    rw [e1]
    cases t with
    | zero => simp [mg, lookO_lt (k := 0) (b := 1) (by omega)]
    | succ t =>
      have ih := mg_get? l ((g, v) :: r) t
      have h1 := lookO_shift 1 ((g, v) :: r) 0 t
      simp only [Nat.zero_add] at h1
      simp only [mg, List.getElem?_cons_succ, ih, List.length_cons, Nat.add_lt_add_iff_right, h1]
theorem lookO_perm : ∀ {a b : List (Nat × Value)}, a.Perm b → (a.map Prod.fst).Nodup → ∀ t, lookO a t = lookO b t := by
  intro a b h
  induction h with
  | nil => intro _ t; rfl
  | cons x _ ih =>
    intro hn t
    obtain ⟨d, v⟩ := x
    simp only [List.map_cons, List.nodup_cons] at hn
    rw [lookO, lookO, ih hn.2]
  | swap x y l =>
    intro hn t
    obtain ⟨d, v⟩ := x
    obtain ⟨d', v'⟩ := y
    simp only [List.map_cons, List.nodup_cons, List.mem_cons, not_or] at hn
    simp only [lookO]
    by_cases h1 : t = d
    · have h2 : ¬ t = d' := fun c => hn.1.1 (by omega)
      rw [if_pos h1, if_neg h2, if_pos h1]
    · rw [if_neg h1, if_neg h1]
  | trans p1 p2 ih1 ih2 =>
    intro hn t
    rw [ih1 hn, ih2 ((p1.map Prod.fst).nodup_iff.1 hn)]
/-- The slots in falling order, each by the number of its writing. -/
def insG (d : Nat) (v : Value) : List (Nat × Value) → List (Nat × Value)
  | [] => [(d, v)]
  | (d', v') :: r => if d' < d then (d, v) :: (d', v') :: r else if d' = d then (d, v) :: r else (d', v') :: insG d v r
theorem lookO_ins (d : Nat) (v : Value) : ∀ (r : List (Nat × Value)) (t : Nat), lookO (insG d v r) t = if t = d then some v else lookO r t
  | [], t => rfl
  | (d', v') :: r, t => by
    have ih := lookO_ins d v r t
    unfold insG
    split
    · rfl
    · split
      · rename_i h; subst h
        simp only [lookO]
        by_cases h : t = d' <;> simp [h]
      · rename_i h1 h2
        simp only [lookO, ih]
        by_cases h : t = d'
        · have : ¬ t = d := fun c => h2 (by omega)
          rw [if_pos h, if_neg this, if_pos h]
        · rw [if_neg h, if_neg h]
def sortG : List (Nat × Value) → List (Nat × Value)
  | [] => []
  | (d, v) :: r => insG d v (sortG r)
theorem lookO_sort : ∀ (ws : List (Nat × Value)) (t : Nat), lookO (sortG ws) t = lookO ws t
  | [], t => rfl
  | (d, v) :: r, t => by rw [sortG, lookO_ins, lookO, lookO_sort r t]
/-- The end: the frame is what it was, with what was written. -/
theorem wg_end {L0 L : List Value} {Q0 : Exit → Act → World → Prop} (hR : Reg P ops0 ops Q L T) (hK : Shut (∀ ws w, Q0 .normal ⟨(setAll L0 ws).toArray, ds⟩ w → Q .normal ⟨(setAll L ws).toArray, ds⟩ w))
    (gs : List (Nat × Value)) {M : List Value} (hd : upT done (numbered T 0) = []) (hsort : sortG ws = (absT 0 gs).reverse) (hM : mg L0 gs = M) (h : Q0 .normal ⟨M.toArray, ds⟩ w) : W P ops Q S L ds fuel done ws w := fun _ => by
  have hready : Region.ready .any ops (lset ops.size done) = [] := by
    rw [List.eq_nil_iff_forall_not_mem]
    intro j hj
    have := ready_up hR hj
    rw [hd] at this; cases this
  refine wpAnyH_done hready ?_ fuel
  refine hK _ _ ?_
  have e : setAll L0 ws = M := by
    rw [← hM]
    refine List.ext_getElem? fun t => ?_
    rw [setAll_get?, mg_get?, ← lookO_sort ws t, hsort]
    have hn : ∀ (g : List (Nat × Value)) (b : Nat), ((absT b g).map Prod.fst).Nodup ∧ ∀ k ∈ (absT b g).map Prod.fst, b ≤ k := by
      intro g
      induction g with
      | nil => intro b; simp [absT]
      | cons p r ih =>
        intro b
        obtain ⟨g, v⟩ := p
        obtain ⟨h1, h2⟩ := ih (b + g + 1)
        simp only [absT, List.map_cons, List.nodup_cons]
        refine ⟨⟨fun c => by have := h2 _ c; omega, h1⟩, fun k hk => ?_⟩
        rcases List.mem_cons.1 hk with rfl | hk
        · exact Nat.le_add_right _ _
        · have := h2 k hk; omega
    rw [lookO_perm (List.reverse_perm _) (((List.reverse_perm _).map _).nodup_iff.2 (hn gs 0).1)]
  rw [e]; exact h
theorem wg_call {f : FuncId} {args : Array Value} {oi : Oper} {N : Value → World → Prop} (h1 : (execOp (evalW L ws) oi).run P w = .ok (.enter f args) w) (h2 : Calls P f args w fun e w' => ∃ v, e = .returned v ∧ S w' ∧ N v w') : StepW P S L ws oi w N := .inr (.inr ⟨f, args, h1, h2⟩)
theorem wg_eff {v : Value} {w' : World} {oi : Oper} {N : Value → World → Prop} (h1 : (execOp (evalW L ws) oi).run P w = .ok (.value v) w') (h2 : S w') (h3 : N v w') : StepW P S L ws oi w N := .inl ⟨v, w', h1, h2, h3⟩
theorem wg_skp {w' : World} {oi : Oper} {N : Value → World → Prop} (h1 : (execOp (evalW L ws) oi).run P w = .ok .skip w') (h2 : S w') (h3 : N undef w') : StepW P S L ws oi w N := .inr (.inl ⟨w', h1, h2, h3⟩)
def sameB (a b : List Nat) : Bool := a.all (fun k => b.contains k) && b.all (fun k => a.contains k)
/-- In which order it came does not matter any more. -/
theorem wg_swap {done' : List Nat} {ws' : List (Nat × Value)} (h1 : sameB done done' = true) (h2 : sortG ws = sortG ws') (h : W P ops Q S L ds fuel done' ws' w) : W P ops Q S L ds fuel done ws w := fun hb => by
  simp only [sameB, Bool.and_eq_true] at h1
  have e1 : lset ops.size done = lset ops.size done' := by
    refine Array.ext (by rw [lset_size, lset_size]) fun i hi hi' => ?_
    have a := lset_get ops.size false done i
    have b := lset_get ops.size false done' i
    rw [lset_size] at hi
    rw [if_pos hi] at a b
    simp only [Array.getD, lset_size, hi, dif_pos] at a b
    have a' : (lset ops.size done)[i] = done.contains i := a
    have b' : (lset ops.size done')[i] = done'.contains i := b
    rw [a', b', Bool.eq_iff_iff]
    constructor
    · intro hc
      exact List.all_eq_true.1 h1.1 i (by simpa using hc)
    · intro hc
      exact List.all_eq_true.1 h1.2 i (by simpa using hc)
  have hl : ∀ t, lookO ws t = lookO ws' t := fun t => by rw [← lookO_sort ws t, h2, lookO_sort]
  have e2 : setAll L ws = setAll L ws' := List.ext_getElem? fun t => by rw [setAll_get?, setAll_get?, hl]
  have hm : ∀ (x : List (Nat × Value)) (p : Nat × Value), p ∈ x → ∃ v, lookO x p.1 = some v := by
    intro x
    induction x with
    | nil => intro p hp; cases hp
    | cons q r ih =>
      intro p hp
      obtain ⟨d, v⟩ := q
      by_cases e : p.1 = d
      · exact ⟨v, by rw [lookO, if_pos e]⟩
      · rcases List.mem_cons.1 hp with rfl | hp
        · exact absurd rfl e
        · obtain ⟨u, hu⟩ := ih p hp
          exact ⟨u, by rw [lookO, if_neg e, hu]⟩
  have hm2 : ∀ (x : List (Nat × Value)) (t : Nat) (v : Value), lookO x t = some v → ∃ p ∈ x, p.1 = t := by
    intro x
    induction x with
    | nil => intro t v h; cases h
    | cons q r ih =>
      intro t v h
      obtain ⟨d, u⟩ := q
      by_cases e : t = d
      · exact ⟨_, List.mem_cons_self, e.symm⟩
      · rw [lookO, if_neg e] at h
        obtain ⟨p, hp, he⟩ := ih t v h
        exact ⟨p, List.mem_cons_of_mem _ hp, he⟩
  rw [e1, e2]
  exact h fun p hp => by
    obtain ⟨v, hv⟩ := hm _ _ hp
    rw [← hl] at hv
    obtain ⟨q, hq, he⟩ := hm2 _ _ _ hv
    rw [← he]; exact hb q hq
theorem wg_join {α β γ : Type} {fuel' : Nat} {done' : List Nat} {F : α → β → γ → List (Nat × Value)} (R : α → β → γ → World → Prop)
    (main : (∀ a b c w', R a b c w' → W P ops Q S L ds fuel' done' (F a b c) w') → W P ops Q S L ds fuel done ws w) (rest : ∀ a b c w', R a b c w' → W P ops Q S L ds fuel' done' (F a b c) w') : W P ops Q S L ds fuel done ws w := main rest
theorem wg_join8 {α1 α2 α3 α4 α5 α6 α7 α8 : Type} {fuel' : Nat} {done' : List Nat} {F : α1 → α2 → α3 → α4 → α5 → α6 → α7 → α8 → List (Nat × Value)} (R : α1 → α2 → α3 → α4 → α5 → α6 → α7 → α8 → World → Prop)
    (main : (∀ a b c d e f g h w', R a b c d e f g h w' → W P ops Q S L ds fuel' done' (F a b c d e f g h) w') → W P ops Q S L ds fuel done ws w) (rest : ∀ a b c d e f g h w', R a b c d e f g h w' → W P ops Q S L ds fuel' done' (F a b c d e f g h) w') : W P ops Q S L ds fuel done ws w := main rest
/-- The values written, by where they stand in the list. -/
def valAt : List (Nat × Value) → Nat → Value
  | [], _ => undef
  | (_, v) :: _, 0 => v
  | _ :: r, p + 1 => valAt r p
def gsOf (ws : List (Nat × Value)) : List (Nat × Nat) → List (Nat × Value)
  | [] => []
  | (g, p) :: r => (g, valAt ws p) :: gsOf ws r
theorem wg_fin {L0 L : List Value} {Q0 : Exit → Act → World → Prop} (hR : Reg P ops0 ops Q L T) (hK : Shut (∀ ws w, Q0 .normal ⟨(setAll L0 ws).toArray, ds⟩ w → Q .normal ⟨(setAll L ws).toArray, ds⟩ w))
    (ks : List (Nat × Nat)) {M : List Value} (hd : upT done (numbered T 0) = []) (hsort : sortG ws = (absT 0 (gsOf ws ks)).reverse) (hM : mg L0 (gsOf ws ks) = M) (h : Q0 .normal ⟨M.toArray, ds⟩ w) : W P ops Q S L ds fuel done ws w := wg_end hR hK (gsOf ws ks) hd hsort hM h

end
end

end Go.Proofs.YtglfoglkdbbmmaaDoor
