/- Part 2 of what the proof of ProductMatchesReference stands on. -/
import Derived.Test.YtajdohcgjgknmaaGreatDoorV1ProductMatchesReference
import Derived.Scope
import Derived.RangeFuncOwn
import Derived.Shelf.SlSortCmp.WholeK
import Derived.Shelf.Lay
import Derived.Ground.SlsfProg
import Derived.Shelf.SlGeneric
import Derived.Shelf.SlicesQ.Reverse
import Derived.Ground.SlgnProg
import Derived.Test.YtajdohcgjgknmaaGreatDoorProg
import Derived.Maps.AppendAt
import Derived.RangeFuncNested
import Derived.RangeFuncBound
import Derived.RangeFuncCalls
import Derived.RangeFuncLeaves
import Derived.RangeFuncBox
import Derived.Shelf.Abstract
import Derived.Shelf.RegionOpen
import Derived.OwnWalkIn
import Derived.TacticsInMore
import Derived.LoopNIn
import Derived.LoopIn
import Derived.Deep.RegionHeld3
import Derived.OrdersIn
import Derived.TacticsIn
namespace Go.Proofs.YtajdohcgjgknmaaGreatDoor
open Go.RowKit
section
variable {P : Program} {n : Nat} {L : List Value} {ws : List (Nat × Value)} {w : World} {Q : Exit → Act → World → Prop}
def Bd (n : Nat) (L : List Value) (ws : List (Nat × Value)) : Prop := L.length = n ∧ ∀ p ∈ ws, p.1 < n
theorem Bd.lt (h : Bd n L ws) : ∀ p ∈ ws, p.1 < L.length := fun p hp => by rw [h.1]; exact h.2 p hp
theorem Bd.put (h : Bd n L ws) {d : Nat} {v : Value} (hd : Nat.blt d n = true) : Bd n L ((d, v) :: ws) :=
  ⟨h.1, fun p hp => by rcases List.mem_cons.1 hp with rfl | hp; exact Nat.blt_eq.mp hd; exact h.2 p hp⟩
structure CW (P : Program) (c : Code) (Q : Exit → Act → World → Prop) (n : Nat) (L : List Value) (ws : List (Nat × Value)) (w : World) : Prop where
  out : Bd n L ws → c.wp P Q ⟨(setAll L ws).toArray, []⟩ w
structure QW (Q : Exit → Act → World → Prop) (e : Exit) (n : Nat) (L : List Value) (ws : List (Nat × Value)) (w : World) : Prop where
  out : Bd n L ws → Q e ⟨(setAll L ws).toArray, []⟩ w
structure PL (P : Program) (ops rest : List Oper) (Q : Exit → Act → World → Prop) (n : Nat) (L : List Value) (ws : List (Nat × Value)) (w : World) : Prop where
  out : Bd n L ws → wpList P ops.toArray Q rest ⟨(setAll L ws).toArray, []⟩ w
structure WD (P : Program) (ops : Array Oper) (Q : Exit → Act → World → Prop) (S : World → Prop) (L : List Value) (fuel : Nat) (done : List Nat) (ws : List (Nat × Value)) (w : World) : Prop where
  out : W P ops Q S L [] fuel done ws w
theorem calls_cw {f : FuncId} {fn : Func} {c : Code} {av : List Value} {R : Ending → World → Prop} (n : Nat) (ws : List (Nat × Value)) (hf : P.funcs[f]? = some fn) (hb : fn.body = some c) (hn : fn.ntmps = n)
    (he : av ++ List.replicate (n - av.length) undef = setAll (List.replicate n undef) ws) (hl : ws.all (fun p => Nat.blt p.1 n) = true)
    (h : ∀ L, CW P c (bodyPost P fn R) n L ws w) : Calls P f av.toArray w R := by
  refine calls_of_wp hf hb ?_
  have e : (av.toArray ++ Array.replicate (fn.ntmps - av.toArray.size) undef : Array Value) = (setAll (List.replicate n undef) ws).toArray := by
    rw [hn, ← he]; simp
  rw [e]
  exact (h _).out ⟨List.length_replicate, fun p hp => Nat.blt_eq.mp (List.all_eq_true.1 hl p hp)⟩
theorem cw_seq {x y : Code} (h : CW P x (Exit.then (y.wp P Q) Q) n L ws w) : CW P (.seq x y) Q n L ws w := ⟨fun b => wp_seq (h.out b)⟩
theorem cw_block {id : Nat} {c : Code} (h : CW P c (Exit.inBlock id Q) n L ws w) : CW P (.block id c) Q n L ws w := ⟨fun b => wp_block (h.out b)⟩
theorem cw_skip (h : QW Q .normal n L ws w) : CW P .skip Q n L ws w := ⟨fun b => wp_skip (h.out b)⟩
theorem cw_exit {id : Nat} (h : QW Q (.exit id) n L ws w) : CW P (.exit id) Q n L ws w := ⟨fun b => wp_exit (h.out b)⟩
theorem cw_ret (h : QW Q .ret n L ws w) : CW P .ret Q n L ws w := ⟨fun b => wp_ret (h.out b)⟩
theorem cw_plain {id : Nat} {l : List Oper} (h : PL P l l Q n L ws w) : CW P (.region id l.toArray false) Q n L ws w := ⟨fun b => wp_region_lit (h.out b)⟩
theorem cw_t {c : Operand} {x y : Code} (hc : evalW L ws c = .bool true) (h : CW P x Q n L ws w) : CW P (.cond c x y) Q n L ws w := ⟨fun b => wp_cond_true (by rw [eval_W b.lt]; exact hc) (h.out b)⟩
theorem cw_f {c : Operand} {x y : Code} (hc : evalW L ws c = .bool false) (h : CW P y Q n L ws w) : CW P (.cond c x y) Q n L ws w := ⟨fun b => wp_cond_false (by rw [eval_W b.lt]; exact hc) (h.out b)⟩
theorem qw_then {y : Code} (h : CW P y Q n L ws w) : QW (Exit.then (y.wp P Q) Q) .normal n L ws w := ⟨h.out⟩
theorem qw_then_ret {K : Act → World → Prop} (h : QW Q .ret n L ws w) : QW (Exit.then K Q) .ret n L ws w := ⟨h.out⟩
theorem qw_then_exit {K : Act → World → Prop} {id : Nat} (h : QW Q (.exit id) n L ws w) : QW (Exit.then K Q) (.exit id) n L ws w := ⟨h.out⟩
theorem qw_block {id : Nat} (h : QW Q .normal n L ws w) : QW (Exit.inBlock id Q) .normal n L ws w := ⟨h.out⟩
theorem qw_block_ret {id : Nat} (h : QW Q .ret n L ws w) : QW (Exit.inBlock id Q) .ret n L ws w := ⟨h.out⟩
theorem qw_block_out {id : Nat} (h : QW Q .normal n L ws w) : QW (Exit.inBlock id Q) (.exit id) n L ws w := ⟨fun b => by
  show (if id = id then _ else _)
  rw [if_pos rfl]; exact h.out b⟩
def ResV (P : Program) (ev : Operand → Value) (w : World) : List ResultVar → List Value → Prop
  | [], [] => True
  | .tmp t :: rs, v :: vs => ev (.tmp t) = v ∧ ResV P ev w rs vs
  | .cell a t :: rs, v :: vs => (∃ ad, ev (.tmp a) = .pointer (some ad) ∧ (loadVar t ad).run P w = .ok v w) ∧ ResV P ev w rs vs
  | _, _ => False
def resOf : List Value → Value
  | [v] => v
  | vs => .tuple vs.toArray
theorem res_map {ev : Operand → Value} {g : ResultVar → Sem Value} (h1 : ∀ t, g (.tmp t) = pure (ev (.tmp t))) (h2 : ∀ b t, g (.cell b t) = do loadVar t (← asAddr (ev (.tmp b)))) :
    ∀ {rs : List ResultVar} {vs : List Value}, ResV P ev w rs vs → (rs.mapM g).run P w = .ok vs w
  | [], [], _ => by simp [go_sem]
  | .tmp t :: rs, v :: vs, h => by
    have ih := res_map h1 h2 h.2
    rw [List.mapM_cons, h1, h.1]
    simp [ih, Result.andThen]
  | .cell b t :: rs, v :: vs, h => by
    have ih := res_map h1 h2 h.2
    obtain ⟨ad, e1, e2⟩ := h.1
    rw [List.mapM_cons, h2, e1]
    simp [ih, asAddr, e2, Result.andThen]
theorem results_g (fn : Func) (tmps : Array Value) : ∃ g : ResultVar → Sem Value, (∀ t, g (.tmp t) = pure (tmps.getD t undef)) ∧ (∀ b t, g (.cell b t) = do loadVar t (← asAddr (tmps.getD b undef))) ∧
    results fn tmps = (do let vs ← fn.results.mapM g; pure (if h : vs.size = 1 then vs[0] else .tuple vs)) := ⟨_, fun _ => rfl, fun _ _ => rfl, rfl⟩
theorem res_run {fn : Func} {a : Act} {rs : List ResultVar} {vs : List Value} (hf : fn.results = rs.toArray) (h : ResV P a.eval w rs vs) : (results fn a.tmps).run P w = .ok (resOf vs) w := by
  obtain ⟨g, h1, h2, e⟩ := results_g fn a.tmps
  have := res_map (P := P) (w := w) (ev := a.eval) h1 h2 h
  rw [e, hf, List.mapM_toArray]
  simp only [Sem.run_bind, Sem.run_map, this, Result.andThen]
  match vs with
  | [] => rfl
  | [v] => rfl
  | u :: v :: r => simp [resOf]
theorem qw_ret {fn : Func} {R : Ending → World → Prop} {rs : List ResultVar} (vs : List Value) (hf : fn.results = rs.toArray) (h : ResV P (evalW L ws) w rs vs) (hR : R (.returned (resOf vs)) w) : QW (bodyPost P fn R) .ret n L ws w := ⟨fun b =>
  bodyPost_ret (res_run hf (by rw [eval_W b.lt]; exact h)) rfl hR⟩
def StepN (P : Program) (ev : Operand → Value) (oi : Oper) (w : World) (N : Value → World → Prop) : Prop :=
  (∃ v w', (execOp ev oi).run P w = .ok (.value v) w' ∧ N v w') ∨ (∃ w', (execOp ev oi).run P w = .ok .skip w' ∧ N undef w') ∨
  (∃ f args, (execOp ev oi).run P w = .ok (.enter f args) w ∧ Calls P f args w fun e w' => ∃ v, e = .returned v ∧ N v w')
theorem StepN.wp {ev : Operand → Value} {oi : Oper} {N : Value → World → Prop} {a : Act} {K : Act → World → Prop} (h : StepN P ev oi w N) (he : a.eval = ev) (hK : ∀ v w', N v w' → K (a.put oi.dst v) w') : Oper.wp P oi a w K Q := by
  unfold Oper.wp
  rw [he]
  rcases h with ⟨v, w', h1, h3⟩ | ⟨w', h1, h3⟩ | ⟨f, args, h1, h2⟩
  · rw [h1, Oper.upon_value]; exact hK v w' h3
  · rw [h1, Oper.upon_skip]; exact hK undef w' h3
  · rw [h1, Oper.upon_enter]
    exact h2.mono fun e w' ⟨v, he, hn⟩ => by subst he; exact hK v w' hn
theorem StepN.toW {S : World → Prop} {oi : Oper} {N : Value → World → Prop} (h : StepN P (evalW L ws) oi w fun v w' => S w' ∧ N v w') : StepW P S L ws oi w fun v w' => S w' → N v w' := by
  rcases h with ⟨v, w', h1, h3⟩ | ⟨w', h1, h3⟩ | ⟨f, args, h1, h2⟩
  · exact .inl ⟨v, w', h1, h3.1, fun _ => h3.2⟩
  · exact .inr (.inl ⟨w', h1, h3.1, fun _ => h3.2⟩)
  · exact .inr (.inr ⟨f, args, h1, h2.mono fun e w' ⟨v, he, hn⟩ => ⟨v, he, hn.1, fun _ => hn.2⟩⟩)
theorem sn_call {ev : Operand → Value} {oi : Oper} {N : Value → World → Prop} {f : FuncId} {args : Array Value} (h1 : (execOp ev oi).run P w = .ok (.enter f args) w) (h2 : Calls P f args w fun e w' => ∃ v, e = .returned v ∧ N v w') : StepN P ev oi w N := .inr (.inr ⟨f, args, h1, h2⟩)
theorem sn_eff {ev : Operand → Value} {oi : Oper} {N : Value → World → Prop} {v : Value} {w' : World} (h1 : (execOp ev oi).run P w = .ok (.value v) w') (h3 : N v w') : StepN P ev oi w N := .inl ⟨v, w', h1, h3⟩
theorem sn_skp {ev : Operand → Value} {oi : Oper} {N : Value → World → Prop} {w' : World} (h1 : (execOp ev oi).run P w = .ok .skip w') (h3 : N undef w') : StepN P ev oi w N := .inr (.inl ⟨w', h1, h3⟩)
theorem sn_new {ev : Operand → Value} {oi : Oper} {N : Value → World → Prop} {us : Array Value} {t : TypeId} (h1 : (execOp ev oi).run P w = .ok (.value (.pointer (some ⟨w.heap.size, 0, none⟩))) (w.alloc (.cells us t)))
    (h : ∀ O X, w.heap.size = O → X.heap.size = O + 1 → Ext w X → (∀ i u, us[i]? = some u → BoxAt X O i u) → N (.pointer (some ⟨O, 0, none⟩)) X) : StepN P ev oi w N := by
  refine sn_eff h1 (h _ _ rfl (by simp) (Ext.alloc (Ext.refl _) _) (fun i u hu => ⟨?_, ?_⟩))
  · rw [cell_of_row _ _ i _ t (0, 0) (heap_alloc_new w _)]; exact hu
  · simp [go_sem]
theorem sn_newS {ev : Operand → Value} {oi : Oper} {N : Value → World → Prop} {us : Array Value} {t : TypeId} {k c : Nat} (h1 : (execOp ev oi).run P w = .ok (.value (.slice (some ⟨w.heap.size, 0, none⟩) k c)) (w.alloc (.cells us t)))
    (h : ∀ O X, w.heap.size = O → X.heap.size = O + 1 → Ext w X → (∀ i u, us[i]? = some u → BoxAt X O i u) → N (.slice (some ⟨O, 0, none⟩) k c) X) : StepN P ev oi w N := by
  refine sn_eff h1 (h _ _ rfl (by simp) (Ext.alloc (Ext.refl _) _) (fun i u hu => ⟨?_, ?_⟩))
  · rw [cell_of_row _ _ i _ t (0, 0) (heap_alloc_new w _)]; exact hu
  · simp [go_sem]
def wantP (ops : List Oper) (L : List Value) (ws : List (Nat × Value)) : Option (Nat × Bool) → Bool
  | none => true
  | some (g, want) => match ops.drop g with
    | o :: _ => (match o.dst with | some d => (match look ws (base L) d with | .bool b => b == want | _ => false) | none => false)
    | [] => false
theorem wantP_spec {ops : List Oper} {o : Oper} {b : Bool} (h : Bd n L ws) (hok : ∀ x ∈ ops, ∀ d, x.dst = some d → d < n) (hw : wantP ops L ws o.guard = b) :
    Region.wanted o (yielded ops.toArray (⟨(setAll L ws).toArray, []⟩ : Act).tmps) = b := by
  subst hw
  unfold Region.wanted wantP
  cases hgd : o.guard with
  | none => rfl
  | some p =>
    obtain ⟨g, want⟩ := p
    have ho : ops.toArray[g]? = ops[g]? := by simp
    simp only [yielded, ho]
    cases hj : ops[g]? with
    | none =>
      have : ops.drop g = [] := by
        rw [List.drop_eq_nil_iff]
        rcases Nat.lt_or_ge g ops.length with h1 | h1
        · rw [List.getElem?_eq_getElem h1] at hj; cases hj
        · exact h1
      rw [this]; rfl
    | some og =>
      obtain ⟨r, hr⟩ := drop_get hj
      rw [hr]
      simp only [Option.bind_some]
      cases hd : og.dst with
      | none => rfl
      | some d =>
        have hlt : d < n := hok og (List.mem_of_getElem? hj) d hd
        have hget := setAll_get L ws h.lt d
        have hlt2 : d < (setAll L ws).toArray.size := by simp [setAll_len, h.1, hlt]
        simp only [Array.getD, hlt2, dif_pos] at hget
        simp only [Option.bind_some]
        rw [Array.getElem?_eq_getElem hlt2]
        have e : (setAll L ws).toArray[d] = look ws (base L) d := hget
        rw [e]
        cases look ws (base L) d <;> rfl
def dstOk (n : Nat) : List Oper → Bool
  | [] => true
  | o :: r => (match o.dst with | some d => Nat.blt d n | none => true) && dstOk n r
theorem dstOk_spec {ops : List Oper} (h : dstOk n ops = true) : ∀ x ∈ ops, ∀ d, x.dst = some d → d < n := by
  induction ops with
  | nil => intro x hx; cases hx
  | cons o r ih =>
    unfold dstOk at h
    obtain ⟨h1, h2⟩ := Bool.and_eq_true_iff.1 h
    intro x hx d hd
    rcases List.mem_cons.1 hx with e | hx
    · rw [← e, hd] at h1; exact Nat.blt_eq.mp h1
    · exact ih h2 x hx d hd
theorem pl_nil {ops : List Oper} (h : QW Q .normal n L ws w) : PL P ops [] Q n L ws w := ⟨h.out⟩
theorem pl_take {ops rest : List Oper} {o : Oper} {d : Nat} (v : Value) (hdst : o.dst = some d) (hok : dstOk n ops = true) (hd : Nat.blt d n = true) (hw : wantP ops L ws o.guard = true)
    (hr : (execOp (evalW L ws) o).run P w = .ok (.value v) w) (h : PL P ops rest Q n L ((d, v) :: ws) w) : PL P ops (o :: rest) Q n L ws w := ⟨fun b => by
  refine wpList_step fun K hK => ?_
  rw [if_pos (wantP_spec b (dstOk_spec hok) hw)]
  unfold Oper.wp
  rw [eval_W b.lt, hr, Oper.upon_value]
  refine hK _ _ ?_
  rw [put_W, hdst]; exact h.out (b.put hd)⟩
theorem pl_skip {ops rest : List Oper} {o : Oper} {d : Nat} (hdst : o.dst = some d) (hok : dstOk n ops = true) (hd : Nat.blt d n = true) (hw : wantP ops L ws o.guard = false)
    (h : PL P ops rest Q n L ((d, undef) :: ws) w) : PL P ops (o :: rest) Q n L ws w := ⟨fun b => by
  refine wpList_step fun K hK => ?_
  rw [if_neg (by rw [wantP_spec b (dstOk_spec hok) hw]; simp)]
  refine hK _ _ ?_
  rw [put_W, hdst]; exact h.out (b.put hd)⟩
theorem pl_step {ops rest : List Oper} {o : Oper} {d : Nat} (hdst : o.dst = some d) (hok : dstOk n ops = true) (hd : Nat.blt d n = true) (hw : wantP ops L ws o.guard = true)
    (h : StepN P (evalW L ws) o w fun v w' => PL P ops rest Q n L ((d, v) :: ws) w') : PL P ops (o :: rest) Q n L ws w := ⟨fun b => by
  refine wpList_step fun K hK => ?_
  rw [if_pos (wantP_spec b (dstOk_spec hok) hw)]
  exact h.wp (eval_W b.lt []) fun v w' hn => hK _ _ (by rw [put_W, hdst]; exact hn.out (b.put hd))⟩
theorem pl_put {ops rest : List Oper} {o : Oper} (hdst : o.dst = none) (hok : dstOk n ops = true) (hw : wantP ops L ws o.guard = true)
    (h : StepN P (evalW L ws) o w fun _ w' => PL P ops rest Q n L ws w') : PL P ops (o :: rest) Q n L ws w := ⟨fun b => by
  refine wpList_step fun K hK => ?_
  rw [if_pos (wantP_spec b (dstOk_spec hok) hw)]
  exact h.wp (eval_W b.lt []) fun v w' hn => hK _ _ (by rw [put_W, hdst]; exact hn.out b)⟩
def Calm (Q : Exit → Act → World → Prop) : Prop := ∀ c d v a w, Q (.panic c) (Act.put a d v) w → Q (.panic c) a w
theorem calm_then {K : Act → World → Prop} (h : Calm Q) : Calm (Exit.then K Q) := fun c d v a w h' => h c d v a w h'
theorem calm_block {id : Nat} (h : Calm Q) : Calm (Exit.inBlock id Q) := fun c d v a w h' => h c d v a w h'
theorem calm_body {fn : Func} {R : Ending → World → Prop} : Calm (bodyPost P fn R) := fun c d v a w h => by cases d <;> exact h
theorem cw_draw {id : Nat} {ops0 : Array Oper} (T : List Row) (S : World → Prop) (hm : P.follows .mixedOrders = true) (ht : tableR ops0 = T) (hg : goodT n ops0.size T = true) (hs : Region.noSelect ops0 = true) (hQ : Calm Q) (hS : S w.drew)
    (h : ∀ (ops : Array Oper) (Q' : Exit → Act → World → Prop) (X : World), Ext w X → L.length = n → Reg P ops0 ops Q' L T → Shut (∀ ws w, QW Q .normal n L ws w → QW Q' .normal n L ws w) → WD P ops Q' S L ops0.size [] ws X) : CW P (.region id ops0 true) Q n L ws w := ⟨fun b => by
  refine wp_region_held_drew hm hS fun hS => ?_
  exact (h ops0 Q _ (Ext.drew (Ext.refl _)) b.1 ⟨rfl, ht, by rw [b.1]; exact hg, hs, hQ⟩ (fun _ _ h => h)).out b.lt⟩
variable {ops0 ops : Array Oper} {Q' : Exit → Act → World → Prop} {T : List Row} {S : World → Prop} {fuel : Nat} {done : List Nat}
theorem StepN.toD {S : World → Prop} {oi : Oper} {L' : Value → List (Nat × Value)} {Q' : Exit → Act → World → Prop} {ops : Array Oper} {fuel : Nat} {done : List Nat} (h : StepN P (evalW L ws) oi w fun v w' => S w' ∧ WD P ops Q' S L fuel done (L' v) w') : StepW P S L ws oi w fun v w' => S w' → W P ops Q' S L [] fuel done (L' v) w' :=
  StepN.toW (N := fun v w' => W P ops Q' S L [] fuel done (L' v) w') (by
    rcases h with ⟨v, w', h1, h3⟩ | ⟨w', h1, h3⟩ | ⟨f, args, h1, h2⟩
    · exact .inl ⟨v, w', h1, h3.1, h3.2.out⟩
    · exact .inr (.inl ⟨w', h1, h3.1, h3.2.out⟩)
    · exact .inr (.inr ⟨f, args, h1, h2.mono fun e w' ⟨v, he, hn⟩ => ⟨v, he, hn.1, hn.2.out⟩⟩))
theorem wd_end (hL : L.length = n) (hR : Reg P ops0 ops Q' L T) (hK : Shut (∀ ws w, QW Q .normal n L ws w → QW Q' .normal n L ws w)) (hd : upT done (numbered T 0) = []) (h : QW Q .normal n L ws w) : WD P ops Q' S L fuel done ws w := ⟨fun hb => by
  refine wpAnyH_done ?_ ?_ fuel
  · rw [List.eq_nil_iff_forall_not_mem]
    intro j hj
    have := ready_up hR hj
    rw [hd] at this; cases this
  · exact (hK _ _ h).out ⟨hL, fun p hp => by rw [← hL]; exact hb p hp⟩⟩
theorem wd_take (i : Nat) {d : Nat} {oi : Oper} {r : List Oper} (v : Value) (hR : Reg P ops0 ops Q' L T) (hi : ops0.toList.drop i = oi :: r) (hr : readyT T done i = true) (hdst : oi.dst = some d)
    (hw : wantedW T L ws oi.guard = true) (hy : ∀ w, S w → (execOp (evalW L ws) oi).run P w = .ok (.value v) w) (hS : S w)
    (h : WD P ops Q' S L fuel (i :: done) ((d, v) :: ws) w) : WD P ops Q' S L (fuel + 1) done ws w := ⟨wg_take i hR hi hr hw hy hS (by rw [hdst]; exact h.out)⟩
theorem wd_skip (i : Nat) {d : Nat} {oi : Oper} {r : List Oper} (hR : Reg P ops0 ops Q' L T) (hi : ops0.toList.drop i = oi :: r) (hr : readyT T done i = true) (hdst : oi.dst = some d)
    (hw : wantedW T L ws oi.guard = false) (hS : S w)
    (h : WD P ops Q' S L fuel (i :: done) ((d, undef) :: ws) w) : WD P ops Q' S L (fuel + 1) done ws w := ⟨wg_skip i hR hi hr hw hS (by rw [hdst]; exact h.out)⟩
theorem wd_step (i : Nat) {oi : Oper} {r : List Oper} (hR : Reg P ops0 ops Q' L T) (hi : ops0.toList.drop i = oi :: r) (hr : upT done (numbered T 0) = [i]) (hr2 : readyT T done i = true)
    (hw : wantedW T L ws oi.guard = true) (h : StepN P (evalW L ws) oi w fun v w' => S w' ∧ WD P ops Q' S L fuel (i :: done) (putW oi.dst v ws) w') : WD P ops Q' S L (fuel + 1) done ws w := ⟨wg_step i hR hi hr hw h.toD hr2⟩
theorem wd_two (i j : Nat) {oi oj : Oper} {r s : List Oper} (hR : Reg P ops0 ops Q' L T) (hi : ops0.toList.drop i = oi :: r) (hj : ops0.toList.drop j = oj :: s) (hr : upT done (numbered T 0) = [i, j]) (hr2 : readyT T done i = true)
    (hwi : wantedW T L ws oi.guard = true) (hwj : wantedW T L ws oj.guard = true)
    (h1 : StepN P (evalW L ws) oi w fun v w' => S w' ∧ WD P ops Q' S L fuel (i :: done) (putW oi.dst v ws) w')
    (h2 : StepN P (evalW L ws) oj w fun v w' => S w' ∧ WD P ops Q' S L fuel (j :: done) (putW oj.dst v ws) w') : WD P ops Q' S L (fuel + 1) done ws w := ⟨wg_two i j hR hi hj hr hwi hwj hr2 h1.toD h2.toD⟩
theorem wd_three (i j m : Nat) {oi oj om : Oper} {r s q : List Oper} (hR : Reg P ops0 ops Q' L T) (hi : ops0.toList.drop i = oi :: r) (hj : ops0.toList.drop j = oj :: s) (hm : ops0.toList.drop m = om :: q) (hr : upT done (numbered T 0) = [i, j, m]) (hr2 : readyT T done i = true)
    (hwi : wantedW T L ws oi.guard = true) (hwj : wantedW T L ws oj.guard = true) (hwm : wantedW T L ws om.guard = true)
    (h1 : StepN P (evalW L ws) oi w fun v w' => S w' ∧ WD P ops Q' S L fuel (i :: done) (putW oi.dst v ws) w')
    (h2 : StepN P (evalW L ws) oj w fun v w' => S w' ∧ WD P ops Q' S L fuel (j :: done) (putW oj.dst v ws) w')
    (h3 : StepN P (evalW L ws) om w fun v w' => S w' ∧ WD P ops Q' S L fuel (m :: done) (putW om.dst v ws) w') : WD P ops Q' S L (fuel + 1) done ws w := ⟨wg_three i j m hR hi hj hm hr hwi hwj hwm hr2 h1.toD h2.toD h3.toD⟩
def pickW (ws : List (Nat × Value)) : List Nat → Option (List (Nat × Value))
  | [] => some []
  | k :: ks => match lookO ws k, pickW ws ks with
    | some v, some r => some ((k, v) :: r)
    | _, _ => none
theorem pick_look : ∀ {ks : List Nat} {ws' : List (Nat × Value)}, pickW ws ks = some ws' → ∀ t v, lookO ws' t = some v → lookO ws t = some v
  | [], ws', h, t, v, ht => by cases h; cases ht
  | k :: ks, ws', h, t, v, ht => by
    unfold pickW at h
    cases e1 : lookO ws k with
    | none => rw [e1] at h; cases h
    | some u =>
      cases e2 : pickW ws ks with
      | none => rw [e1, e2] at h; cases h
      | some r =>
        rw [e1, e2] at h; cases h
        unfold lookO at ht
        by_cases e : t = k
        · rw [if_pos e] at ht; subst e; rw [e1]; exact ht
        · rw [if_neg e] at ht; exact pick_look e2 t v ht
theorem look_mem : ∀ {ws : List (Nat × Value)} {t : Nat} {v : Value}, lookO ws t = some v → (t, v) ∈ ws
  | (d, u) :: r, t, v, h => by
    unfold lookO at h
    by_cases e : t = d
    · rw [if_pos e] at h; cases h; subst e; exact List.mem_cons_self
    · rw [if_neg e] at h; exact List.mem_cons_of_mem _ (look_mem h)
theorem mem_look : ∀ {ws : List (Nat × Value)} {p : Nat × Value}, p ∈ ws → ∃ v, lookO ws p.1 = some v
  | (d, u) :: r, p, h => by
    by_cases e : p.1 = d
    · exact ⟨u, by rw [lookO, if_pos e]⟩
    · rcases List.mem_cons.1 h with rfl | h
      · exact absurd rfl e
      · obtain ⟨v, hv⟩ := mem_look h
        exact ⟨v, by rw [lookO, if_neg e, hv]⟩
theorem pick_set {ks : List Nat} {ws' : List (Nat × Value)} (h : pickW ws ks = some ws') : setAll (setAll L ws) ws' = setAll L ws := by
  refine List.ext_getElem? fun t => ?_
  rw [setAll_get?, setAll_len]
  split
  · rename_i ht
    cases e : lookO ws' t with
    | none => simp
    | some v =>
      have := pick_look h t v e
      rw [setAll_get?, if_pos ht, this]; rfl
  · rename_i ht
    rw [setAll_get?, if_neg ht]
theorem pick_bd {ks : List Nat} {ws' : List (Nat × Value)} (h : pickW ws ks = some ws') (b : Bd n L ws) : Bd n (setAll L ws) ws' :=
  ⟨by rw [setAll_len]; exact b.1, fun p hp => by
    obtain ⟨v, hv⟩ := mem_look hp
    exact b.2 (p.1, v) (look_mem (pick_look h _ _ hv))⟩
theorem cw_clean {c : Code} (ks : List Nat) {ws' : List (Nat × Value)} (hp : pickW ws ks = some ws') (h : ∀ L', CW P c Q n L' ws' w) : CW P c Q n L ws w := ⟨fun b => by
  have := (h (setAll L ws)).out (pick_bd hp b)
  rwa [pick_set hp] at this⟩
theorem cw_join {c : Code} (R : List (Nat × Value) → World → Prop) (main : (∀ L' ws' w', R ws' w' → QW Q .normal n L' ws' w') → CW P c Q n L ws w) (rest : ∀ L' ws' w', R ws' w' → QW Q .normal n L' ws' w') : CW P c Q n L ws w := main rest
theorem qw_leaf {R : List (Nat × Value) → World → Prop} (hJ : ∀ L' ws' w', R ws' w' → QW Q .normal n L' ws' w') (ks : List Nat) {ws' : List (Nat × Value)} (hp : pickW ws ks = some ws') (h : R ws' w) : QW Q .normal n L ws w := ⟨fun b => by
  have := (hJ (setAll L ws) ws' w h).out (pick_bd hp b)
  rwa [pick_set hp] at this⟩
theorem least {p : Nat → Prop} : (∃ m, p m) → ∃ m, p m ∧ ∀ k, p k → m ≤ k := by
  rintro ⟨m, hm⟩
  induction m using Nat.strongRecOn with
  | _ m ih =>
    by_cases h : ∃ k, k < m ∧ p k
    · obtain ⟨k, hk, hp⟩ := h; exact ih k hk hp
    · exact ⟨m, hm, fun k hk => Nat.le_of_not_lt fun hlt => h ⟨k, hlt, hk⟩⟩
def LoopK (n : Nat) (Inv : List (Nat × Value) → World → Nat → Prop) (m : Nat) : Act → World → Prop := fun a w => ∃ L' ws' m', m' < m ∧ Bd n L' ws' ∧ a = ⟨(setAll L' ws').toArray, []⟩ ∧ Inv ws' w m'
open Classical in
theorem cw_loop {c : Code} (ks : List Nat) (Inv : List (Nat × Value) → World → Nat → Prop) {ws0 : List (Nat × Value)} (hp : pickW ws ks = some ws0) (m0 : Nat) (h0 : Inv ws0 w m0)
    (round : ∀ m L' ws' w', Inv ws' w' m → CW P c (Exit.then (LoopK n Inv m) Q) n L' ws' w') : CW P (.loop c) Q n L ws w := ⟨fun b => by
  let J : Nat → Act → World → Prop := fun m a w => ∃ L' ws', Bd n L' ws' ∧ a = ⟨(setAll L' ws').toArray, []⟩ ∧ Inv ws' w m
  let μ : Act → World → Nat := fun a w => if h : ∃ m, J m a w then Classical.choose (least h) else 0
  have hμ : ∀ a w (h : ∃ m, J m a w), J (μ a w) a w ∧ ∀ k, J k a w → μ a w ≤ k := fun a w h => by
    have e : μ a w = Classical.choose (least h) := dif_pos h
    rw [e]; exact Classical.choose_spec (least h)
  refine wp_loop (fun a w => ∃ m, J m a w) μ ⟨m0, setAll L ws, ws0, pick_bd hp b, by rw [pick_set hp], h0⟩ fun a w h => ?_
  obtain ⟨⟨L', ws', hb, ha, hI⟩, _⟩ := hμ a w h
  have := (round (μ a w) L' ws' w hI).out hb
  rw [← ha] at this
  refine Code.wp_mono (fun e a' w' q => ?_) this
  cases e with
  | normal =>
    obtain ⟨L2, ws2, m2, hlt, hb2, ha2, hI2⟩ := q
    have hJ : J m2 a' w' := ⟨L2, ws2, hb2, ha2, hI2⟩
    exact ⟨⟨m2, hJ⟩, Nat.lt_of_le_of_lt ((hμ a' w' ⟨m2, hJ⟩).2 m2 hJ) hlt⟩
  | _ => exact q⟩
theorem qw_round {Inv : List (Nat × Value) → World → Nat → Prop} {m : Nat} (ks : List Nat) {ws' : List (Nat × Value)} (hp : pickW ws ks = some ws') (m' : Nat) (hlt : m' < m) (h : Inv ws' w m') : QW (Exit.then (LoopK n Inv m) Q) .normal n L ws w := ⟨fun b =>
  ⟨setAll L ws, ws', m', hlt, pick_bd hp b, by rw [pick_set hp], h⟩⟩
end
theorem T {a b c : Nat} (h : a ≤ b) (k : b ≤ c) : a ≤ c := Nat.le_trans h k
section
variable {P : Program} {n : Nat} {L : List Value} {ws : List (Nat × Value)} {w : World} {Q : Exit → Act → World → Prop}
theorem pT {ops rest : List Oper} {o : Oper} {d : Nat} (v : Value) (h : PL P ops rest Q n L ((d, v) :: ws) w) (hdst : o.dst = some d := by rfl) (hok : dstOk n ops = true := by kernel_rfl) (hd : Nat.blt d n = true := by kernel_rfl) (hw : wantP ops L ws o.guard = true := by kernel_rfl)
    (hr : (execOp (evalW L ws) o).run P w = .ok (.value v) w := by kernel_rfl) : PL P ops (o :: rest) Q n L ws w := pl_take v hdst hok hd hw hr h
theorem pU {ops rest : List Oper} {o : Oper} {d : Nat} (v : Value) (hr : (execOp (evalW L ws) o).run P w = .ok (.value v) w) (h : PL P ops rest Q n L ((d, v) :: ws) w) (hdst : o.dst = some d := by rfl) (hok : dstOk n ops = true := by kernel_rfl) (hd : Nat.blt d n = true := by kernel_rfl) (hw : wantP ops L ws o.guard = true := by kernel_rfl) : PL P ops (o :: rest) Q n L ws w := pl_take v hdst hok hd hw hr h
theorem pK {ops rest : List Oper} {o : Oper} {d : Nat} (h : PL P ops rest Q n L ((d, undef) :: ws) w) (hdst : o.dst = some d := by rfl) (hok : dstOk n ops = true := by kernel_rfl) (hd : Nat.blt d n = true := by kernel_rfl) (hw : wantP ops L ws o.guard = false := by kernel_rfl) : PL P ops (o :: rest) Q n L ws w := pl_skip hdst hok hd hw h
theorem pS {ops rest : List Oper} {o : Oper} {d : Nat} (h : StepN P (evalW L ws) o w fun v w' => PL P ops rest Q n L ((d, v) :: ws) w') (hdst : o.dst = some d := by rfl) (hok : dstOk n ops = true := by kernel_rfl) (hd : Nat.blt d n = true := by kernel_rfl) (hw : wantP ops L ws o.guard = true := by kernel_rfl) : PL P ops (o :: rest) Q n L ws w := pl_step hdst hok hd hw h
theorem pP {ops rest : List Oper} {o : Oper} (h : StepN P (evalW L ws) o w fun _ w' => PL P ops rest Q n L ws w') (hdst : o.dst = none := by rfl) (hok : dstOk n ops = true := by kernel_rfl) (hw : wantP ops L ws o.guard = true := by kernel_rfl) : PL P ops (o :: rest) Q n L ws w := pl_put hdst hok hw h
variable {ops0 ops : Array Oper} {Q' : Exit → Act → World → Prop} {T9 : List Row} {S : World → Prop} {fuel : Nat} {done : List Nat}
theorem wS (i : Nat) {oi : Oper} {r : List Oper} (hR : Reg P ops0 ops Q' L T9) (h : StepN P (evalW L ws) oi w fun v w' => S w' ∧ WD P ops Q' S L fuel (i :: done) (putW oi.dst v ws) w') (hi : ops0.toList.drop i = oi :: r := by rfl) (hr : upT done (numbered T9 0) = [i] := by kernel_rfl) (hr2 : readyT T9 done i = true := by kernel_rfl)
    (hw : wantedW T9 L ws oi.guard = true := by kernel_rfl) : WD P ops Q' S L (fuel + 1) done ws w := wd_step i hR hi hr hr2 hw h
class At1 (ws : List (Nat × Value)) (k : Nat) (v : outParam Value) : Prop where
  out : True
instance {k : Nat} {v : Value} {r : List (Nat × Value)} : At1 ((k, v) :: r) k v := ⟨trivial⟩
instance (priority := low) {k : Nat} {p : Nat × Value} {v : Value} {r : List (Nat × Value)} [At1 r k v] : At1 (p :: r) k v := ⟨trivial⟩
instance {k : Nat} {v : Value} {r : List (Nat × Value)} : At1 (putW (some k) v r) k v := ⟨trivial⟩
instance (priority := low) {k d : Nat} {u v : Value} {r : List (Nat × Value)} [At1 r k v] : At1 (putW (some d) u r) k v := ⟨trivial⟩
instance (priority := low) {k : Nat} {u v : Value} {r : List (Nat × Value)} [At1 r k v] : At1 (putW none u r) k v := ⟨trivial⟩
end
theorem bq1 {X : World} {O : Nat} {u0 : Value} (h : ∀ i u, (#[u0] : Array Value)[i]? = some u → BoxAt X O i u) : BoxAt X O 0 u0 := h 0 _ rfl
theorem bq2 {X : World} {O : Nat} {u0 u1 : Value} (h : ∀ i u, (#[u0, u1] : Array Value)[i]? = some u → BoxAt X O i u) : BoxAt X O 0 u0 ∧ BoxAt X O 1 u1 := ⟨h 0 _ rfl, h 1 _ rfl⟩
theorem bq3 {X : World} {O : Nat} {u0 u1 u2 : Value} (h : ∀ i u, (#[u0, u1, u2] : Array Value)[i]? = some u → BoxAt X O i u) : BoxAt X O 0 u0 ∧ BoxAt X O 1 u1 ∧ BoxAt X O 2 u2 := ⟨h 0 _ rfl, h 1 _ rfl, h 2 _ rfl⟩
theorem bq4 {X : World} {O : Nat} {u0 u1 u2 u3 : Value} (h : ∀ i u, (#[u0, u1, u2, u3] : Array Value)[i]? = some u → BoxAt X O i u) : BoxAt X O 0 u0 ∧ BoxAt X O 1 u1 ∧ BoxAt X O 2 u2 ∧ BoxAt X O 3 u3 := ⟨h 0 _ rfl, h 1 _ rfl, h 2 _ rfl, h 3 _ rfl⟩
theorem bq8 {X : World} {O : Nat} {u0 u1 u2 u3 u4 u5 u6 u7 : Value} (h : ∀ i u, (#[u0, u1, u2, u3, u4, u5, u6, u7] : Array Value)[i]? = some u → BoxAt X O i u) : BoxAt X O 0 u0 ∧ BoxAt X O 1 u1 ∧ BoxAt X O 2 u2 ∧ BoxAt X O 3 u3 ∧ BoxAt X O 4 u4 ∧ BoxAt X O 5 u5 ∧ BoxAt X O 6 u6 ∧ BoxAt X O 7 u7 := ⟨h 0 _ rfl, h 1 _ rfl, h 2 _ rfl, h 3 _ rfl, h 4 _ rfl, h 5 _ rfl, h 6 _ rfl, h 7 _ rfl⟩
theorem bq12 {X : World} {O : Nat} {u0 u1 u2 u3 u4 u5 u6 u7 u8 u9 u10 u11 : Value} (h : ∀ i u, (#[u0, u1, u2, u3, u4, u5, u6, u7, u8, u9, u10, u11] : Array Value)[i]? = some u → BoxAt X O i u) : BoxAt X O 0 u0 ∧ BoxAt X O 1 u1 ∧ BoxAt X O 2 u2 ∧ BoxAt X O 3 u3 ∧ BoxAt X O 4 u4 ∧ BoxAt X O 5 u5 ∧ BoxAt X O 6 u6 ∧ BoxAt X O 7 u7 ∧ BoxAt X O 8 u8 ∧ BoxAt X O 9 u9 ∧ BoxAt X O 10 u10 ∧ BoxAt X O 11 u11 := ⟨h 0 _ rfl, h 1 _ rfl, h 2 _ rfl, h 3 _ rfl, h 4 _ rfl, h 5 _ rfl, h 6 _ rfl, h 7 _ rfl, h 8 _ rfl, h 9 _ rfl, h 10 _ rfl, h 11 _ rfl⟩
theorem bq16 {X : World} {O : Nat} {u0 u1 u2 u3 u4 u5 u6 u7 u8 u9 u10 u11 u12 u13 u14 u15 : Value} (h : ∀ i u, (#[u0, u1, u2, u3, u4, u5, u6, u7, u8, u9, u10, u11, u12, u13, u14, u15] : Array Value)[i]? = some u → BoxAt X O i u) : BoxAt X O 0 u0 ∧ BoxAt X O 1 u1 ∧ BoxAt X O 2 u2 ∧ BoxAt X O 3 u3 ∧ BoxAt X O 4 u4 ∧ BoxAt X O 5 u5 ∧ BoxAt X O 6 u6 ∧ BoxAt X O 7 u7 ∧ BoxAt X O 8 u8 ∧ BoxAt X O 9 u9 ∧ BoxAt X O 10 u10 ∧ BoxAt X O 11 u11 ∧ BoxAt X O 12 u12 ∧ BoxAt X O 13 u13 ∧ BoxAt X O 14 u14 ∧ BoxAt X O 15 u15 := ⟨h 0 _ rfl, h 1 _ rfl, h 2 _ rfl, h 3 _ rfl, h 4 _ rfl, h 5 _ rfl, h 6 _ rfl, h 7 _ rfl, h 8 _ rfl, h 9 _ rfl, h 10 _ rfl, h 11 _ rfl, h 12 _ rfl, h 13 _ rfl, h 14 _ rfl, h 15 _ rfl⟩
section
variable {P : Program} {n : Nat} {L : List Value} {ws : List (Nat × Value)} {w : World} {Q : Exit → Act → World → Prop}
variable {ops0 ops : Array Oper} {Q' : Exit → Act → World → Prop} {T9 : List Row} {S : World → Prop} {fuel : Nat} {done : List Nat}
theorem wV (i : Nat) {d : Nat} {oi : Oper} {r : List Oper} (v : Value) (hR : Reg P ops0 ops Q' L T9) (hS : S w) (h : WD P ops Q' S L fuel (i :: done) ((d, v) :: ws) w) (hi : ops0.toList.drop i = oi :: r := by rfl) (hr : readyT T9 done i = true := by kernel_rfl) (hdst : oi.dst = some d := by rfl) (hw : wantedW T9 L ws oi.guard = true := by kernel_rfl)
    (hy : ∀ w, S w → (execOp (evalW L ws) oi).run P w = .ok (.value v) w := by intro w _; kernel_rfl) : WD P ops Q' S L (fuel + 1) done ws w := wd_take i v hR hi hr hdst hw hy hS h
theorem wL (i : Nat) {d : Nat} {oi : Oper} {r : List Oper} (v : Value) (hR : Reg P ops0 ops Q' L T9) (hy : ∀ w, S w → (execOp (evalW L ws) oi).run P w = .ok (.value v) w) (hS : S w) (h : WD P ops Q' S L fuel (i :: done) ((d, v) :: ws) w)
    (hi : ops0.toList.drop i = oi :: r := by rfl) (hr : readyT T9 done i = true := by kernel_rfl) (hdst : oi.dst = some d := by rfl) (hw : wantedW T9 L ws oi.guard = true := by kernel_rfl) : WD P ops Q' S L (fuel + 1) done ws w := wd_take i v hR hi hr hdst hw hy hS h
theorem wK (i : Nat) {d : Nat} {oi : Oper} {r : List Oper} (hR : Reg P ops0 ops Q' L T9) (hS : S w) (h : WD P ops Q' S L fuel (i :: done) ((d, undef) :: ws) w) (hi : ops0.toList.drop i = oi :: r := by rfl) (hr : readyT T9 done i = true := by kernel_rfl) (hdst : oi.dst = some d := by rfl) (hw : wantedW T9 L ws oi.guard = false := by kernel_rfl) : WD P ops Q' S L (fuel + 1) done ws w := wd_skip i hR hi hr hdst hw hS h
theorem BoxAt.x {w w' : World} {b o : Nat} {v : Value} (h : BoxAt w b o v) (hE : Ext w w') : BoxAt w' b o v := BoxAt.ext hE h
theorem A2 {p0 p1 : Prop} (h0 : p0) (h1 : p1) : p0 ∧ p1 := ⟨h0, h1⟩
theorem A3 {p0 p1 p2 : Prop} (h0 : p0) (h1 : p1) (h2 : p2) : p0 ∧ p1 ∧ p2 := ⟨h0, h1, h2⟩
theorem A4 {p0 p1 p2 p3 : Prop} (h0 : p0) (h1 : p1) (h2 : p2) (h3 : p3) : p0 ∧ p1 ∧ p2 ∧ p3 := ⟨h0, h1, h2, h3⟩
theorem A5 {p0 p1 p2 p3 p4 : Prop} (h0 : p0) (h1 : p1) (h2 : p2) (h3 : p3) (h4 : p4) : p0 ∧ p1 ∧ p2 ∧ p3 ∧ p4 := ⟨h0, h1, h2, h3, h4⟩
theorem A6 {p0 p1 p2 p3 p4 p5 : Prop} (h0 : p0) (h1 : p1) (h2 : p2) (h3 : p3) (h4 : p4) (h5 : p5) : p0 ∧ p1 ∧ p2 ∧ p3 ∧ p4 ∧ p5 := ⟨h0, h1, h2, h3, h4, h5⟩
theorem A8 {p0 p1 p2 p3 p4 p5 p6 p7 : Prop} (h0 : p0) (h1 : p1) (h2 : p2) (h3 : p3) (h4 : p4) (h5 : p5) (h6 : p6) (h7 : p7) : p0 ∧ p1 ∧ p2 ∧ p3 ∧ p4 ∧ p5 ∧ p6 ∧ p7 := ⟨h0, h1, h2, h3, h4, h5, h6, h7⟩
theorem A10 {p0 p1 p2 p3 p4 p5 p6 p7 p8 p9 : Prop} (h0 : p0) (h1 : p1) (h2 : p2) (h3 : p3) (h4 : p4) (h5 : p5) (h6 : p6) (h7 : p7) (h8 : p8) (h9 : p9) : p0 ∧ p1 ∧ p2 ∧ p3 ∧ p4 ∧ p5 ∧ p6 ∧ p7 ∧ p8 ∧ p9 := ⟨h0, h1, h2, h3, h4, h5, h6, h7, h8, h9⟩
end
class MvC (w w' : World) (p : Prop) (p' : outParam Prop) : Prop where
  out : Ext w w' → p → p'
instance {w w' : World} {b o : Nat} {v : Value} : MvC w w' (BoxAt w b o v) (BoxAt w' b o v) := ⟨fun e h => BoxAt.ext e h⟩
instance {w w' U : World} : MvC w w' (Ext U w) (Ext U w') := ⟨fun e h => h.trans e⟩
instance {w w' : World} {b o : Nat} {l : List Int} : MvC w w' (VA w b o l) (VA w' b o l) := ⟨fun e h => h.ext e⟩
instance {w w' : World} {a : Option Addr} {l : List Int} {n : Nat} {v : Bool} : MvC w w' (AA w a l n v) (AA w' a l n v) := ⟨fun e h => h.ext e⟩
theorem mv16 {w w' : World} {p0 q0 p1 q1 p2 q2 p3 q3 p4 q4 p5 q5 p6 q6 p7 q7 p8 q8 p9 q9 p10 q10 p11 q11 p12 q12 p13 q13 p14 q14 p15 q15 G : Prop} [c0 : MvC w w' p0 q0] [c1 : MvC w w' p1 q1] [c2 : MvC w w' p2 q2] [c3 : MvC w w' p3 q3] [c4 : MvC w w' p4 q4] [c5 : MvC w w' p5 q5] [c6 : MvC w w' p6 q6] [c7 : MvC w w' p7 q7] [c8 : MvC w w' p8 q8] [c9 : MvC w w' p9 q9] [c10 : MvC w w' p10 q10] [c11 : MvC w w' p11 q11] [c12 : MvC w w' p12 q12] [c13 : MvC w w' p13 q13] [c14 : MvC w w' p14 q14] [c15 : MvC w w' p15 q15] (e : Ext w w') (h0 : p0) (h1 : p1) (h2 : p2) (h3 : p3) (h4 : p4) (h5 : p5) (h6 : p6) (h7 : p7) (h8 : p8) (h9 : p9) (h10 : p10) (h11 : p11) (h12 : p12) (h13 : p13) (h14 : p14) (h15 : p15) (h : q0 → q1 → q2 → q3 → q4 → q5 → q6 → q7 → q8 → q9 → q10 → q11 → q12 → q13 → q14 → q15 → G) : G := h (c0.out e h0) (c1.out e h1) (c2.out e h2) (c3.out e h3) (c4.out e h4) (c5.out e h5) (c6.out e h6) (c7.out e h7) (c8.out e h8) (c9.out e h9) (c10.out e h10) (c11.out e h11) (c12.out e h12) (c13.out e h13) (c14.out e h14) (c15.out e h15)
theorem mv12 {w w' : World} {p0 q0 p1 q1 p2 q2 p3 q3 p4 q4 p5 q5 p6 q6 p7 q7 p8 q8 p9 q9 p10 q10 p11 q11 G : Prop} [c0 : MvC w w' p0 q0] [c1 : MvC w w' p1 q1] [c2 : MvC w w' p2 q2] [c3 : MvC w w' p3 q3] [c4 : MvC w w' p4 q4] [c5 : MvC w w' p5 q5] [c6 : MvC w w' p6 q6] [c7 : MvC w w' p7 q7] [c8 : MvC w w' p8 q8] [c9 : MvC w w' p9 q9] [c10 : MvC w w' p10 q10] [c11 : MvC w w' p11 q11] (e : Ext w w') (h0 : p0) (h1 : p1) (h2 : p2) (h3 : p3) (h4 : p4) (h5 : p5) (h6 : p6) (h7 : p7) (h8 : p8) (h9 : p9) (h10 : p10) (h11 : p11) (h : q0 → q1 → q2 → q3 → q4 → q5 → q6 → q7 → q8 → q9 → q10 → q11 → G) : G := h (c0.out e h0) (c1.out e h1) (c2.out e h2) (c3.out e h3) (c4.out e h4) (c5.out e h5) (c6.out e h6) (c7.out e h7) (c8.out e h8) (c9.out e h9) (c10.out e h10) (c11.out e h11)
theorem mv9 {w w' : World} {p0 q0 p1 q1 p2 q2 p3 q3 p4 q4 p5 q5 p6 q6 p7 q7 p8 q8 G : Prop} [c0 : MvC w w' p0 q0] [c1 : MvC w w' p1 q1] [c2 : MvC w w' p2 q2] [c3 : MvC w w' p3 q3] [c4 : MvC w w' p4 q4] [c5 : MvC w w' p5 q5] [c6 : MvC w w' p6 q6] [c7 : MvC w w' p7 q7] [c8 : MvC w w' p8 q8] (e : Ext w w') (h0 : p0) (h1 : p1) (h2 : p2) (h3 : p3) (h4 : p4) (h5 : p5) (h6 : p6) (h7 : p7) (h8 : p8) (h : q0 → q1 → q2 → q3 → q4 → q5 → q6 → q7 → q8 → G) : G := h (c0.out e h0) (c1.out e h1) (c2.out e h2) (c3.out e h3) (c4.out e h4) (c5.out e h5) (c6.out e h6) (c7.out e h7) (c8.out e h8)
theorem mv7 {w w' : World} {p0 q0 p1 q1 p2 q2 p3 q3 p4 q4 p5 q5 p6 q6 G : Prop} [c0 : MvC w w' p0 q0] [c1 : MvC w w' p1 q1] [c2 : MvC w w' p2 q2] [c3 : MvC w w' p3 q3] [c4 : MvC w w' p4 q4] [c5 : MvC w w' p5 q5] [c6 : MvC w w' p6 q6] (e : Ext w w') (h0 : p0) (h1 : p1) (h2 : p2) (h3 : p3) (h4 : p4) (h5 : p5) (h6 : p6) (h : q0 → q1 → q2 → q3 → q4 → q5 → q6 → G) : G := h (c0.out e h0) (c1.out e h1) (c2.out e h2) (c3.out e h3) (c4.out e h4) (c5.out e h5) (c6.out e h6)
theorem mv6 {w w' : World} {p0 q0 p1 q1 p2 q2 p3 q3 p4 q4 p5 q5 G : Prop} [c0 : MvC w w' p0 q0] [c1 : MvC w w' p1 q1] [c2 : MvC w w' p2 q2] [c3 : MvC w w' p3 q3] [c4 : MvC w w' p4 q4] [c5 : MvC w w' p5 q5] (e : Ext w w') (h0 : p0) (h1 : p1) (h2 : p2) (h3 : p3) (h4 : p4) (h5 : p5) (h : q0 → q1 → q2 → q3 → q4 → q5 → G) : G := h (c0.out e h0) (c1.out e h1) (c2.out e h2) (c3.out e h3) (c4.out e h4) (c5.out e h5)
theorem mv5 {w w' : World} {p0 q0 p1 q1 p2 q2 p3 q3 p4 q4 G : Prop} [c0 : MvC w w' p0 q0] [c1 : MvC w w' p1 q1] [c2 : MvC w w' p2 q2] [c3 : MvC w w' p3 q3] [c4 : MvC w w' p4 q4] (e : Ext w w') (h0 : p0) (h1 : p1) (h2 : p2) (h3 : p3) (h4 : p4) (h : q0 → q1 → q2 → q3 → q4 → G) : G := h (c0.out e h0) (c1.out e h1) (c2.out e h2) (c3.out e h3) (c4.out e h4)
theorem mv4 {w w' : World} {p0 q0 p1 q1 p2 q2 p3 q3 G : Prop} [c0 : MvC w w' p0 q0] [c1 : MvC w w' p1 q1] [c2 : MvC w w' p2 q2] [c3 : MvC w w' p3 q3] (e : Ext w w') (h0 : p0) (h1 : p1) (h2 : p2) (h3 : p3) (h : q0 → q1 → q2 → q3 → G) : G := h (c0.out e h0) (c1.out e h1) (c2.out e h2) (c3.out e h3)
theorem mv3 {w w' : World} {p0 q0 p1 q1 p2 q2 G : Prop} [c0 : MvC w w' p0 q0] [c1 : MvC w w' p1 q1] [c2 : MvC w w' p2 q2] (e : Ext w w') (h0 : p0) (h1 : p1) (h2 : p2) (h : q0 → q1 → q2 → G) : G := h (c0.out e h0) (c1.out e h1) (c2.out e h2)
theorem mv2 {w w' : World} {p0 q0 p1 q1 G : Prop} [c0 : MvC w w' p0 q0] [c1 : MvC w w' p1 q1] (e : Ext w w') (h0 : p0) (h1 : p1) (h : q0 → q1 → G) : G := h (c0.out e h0) (c1.out e h1)
theorem Only.bx {O : Nat} {w X : World} (h : Only O w X) (b : Nat) (hb : O ≠ b) ⦃o : Nat⦄ ⦃u : Value⦄ (hv : BoxAt w b o u) : BoxAt X b o u := h.box hb hv
theorem Only.sz {O : Nat} {w X : World} (h : Only O w X) : w.heap.size ≤ X.heap.size := Nat.le_of_eq h.size.symm
class CalmC (Q : Exit → Act → World → Prop) : Prop where
  out : Calm Q
instance {Q : Exit → Act → World → Prop} {K : Act → World → Prop} [h : CalmC Q] : CalmC (Exit.then K Q) := ⟨calm_then h.out⟩
instance {Q : Exit → Act → World → Prop} {id : Nat} [h : CalmC Q] : CalmC (Exit.inBlock id Q) := ⟨calm_block h.out⟩
instance {P : Program} {fn : Func} {R : Ending → World → Prop} : CalmC (bodyPost P fn R) := ⟨calm_body⟩
theorem rb {b c : Bool} (h : b = c) : Ending.returned (.bool b) = Ending.returned (.bool c) := h ▸ rfl
theorem BoxAt.c {w w' : World} {b o : Nat} {v : Value} (h : BoxAt w b o v) (hE : Ext w w') : w'.cell? ⟨b, o, none⟩ = some v := (BoxAt.ext hE h).1
@[reducible] def iv (x : Int) : Value := .int .i64 x
@[reducible] def pw (b o : Nat) : Value := .pointer (some ⟨b, o, none⟩)
@[reducible] def sv (b o n c : Nat) : Value := .slice (some ⟨b, o, none⟩) n c
section
variable {P : Program} {n : Nat} {L : List Value} {ws : List (Nat × Value)} {w : World} {Q : Exit → Act → World → Prop}
theorem zt {c : Operand} {x y : Code} (h : CW P x Q n L ws w) (hc : evalW L ws c = .bool true := by kernel_rfl) : CW P (.cond c x y) Q n L ws w := cw_t hc h
theorem zf {c : Operand} {x y : Code} (h : CW P y Q n L ws w) (hc : evalW L ws c = .bool false := by kernel_rfl) : CW P (.cond c x y) Q n L ws w := cw_f hc h
theorem pick_got {ks : List Nat} (h : (pickW ws ks).isSome = true) : pickW ws ks = some ((pickW ws ks).getD []) := by
  cases q : pickW ws ks with
  | none => rw [q] at h; cases h
  | some v => rfl
theorem zl {R : List (Nat × Value) → World → Prop} (hJ : ∀ L' ws' w', R ws' w' → QW Q .normal n L' ws' w') (ks : List Nat) (h : R ((pickW ws ks).getD []) w) (hp : (pickW ws ks).isSome = true := by kernel_rfl) : QW Q .normal n L ws w := qw_leaf hJ ks (pick_got hp) h
theorem zr {Inv : List (Nat × Value) → World → Nat → Prop} {m : Nat} (ks : List Nat) (m' : Nat) (hlt : m' < m) (h : Inv ((pickW ws ks).getD []) w m') (hp : (pickW ws ks).isSome = true := by kernel_rfl) : QW (Exit.then (LoopK n Inv m) Q) .normal n L ws w := qw_round ks (pick_got hp) m' hlt h
theorem zc {x y : Code} (h : CW P x (Exit.then (y.wp P Q) Q) n L ws w) : CW P (.seq x y) Q n L ws w := cw_seq h
theorem zp {id : Nat} {l : List Oper} (h : PL P l l Q n L ws w) : CW P (.region id l.toArray false) Q n L ws w := cw_plain h
theorem zq {y : Code} (h : CW P y Q n L ws w) : QW (Exit.then (y.wp P Q) Q) .normal n L ws w := qw_then h
theorem zn {ops : List Oper} {y : Code} (h : CW P y Q n L ws w) : PL P ops [] (Exit.then (y.wp P Q) Q) n L ws w := pl_nil (qw_then h)
theorem sc {ev : Operand → Value} {oi : Oper} {N : Value → World → Prop} (f : FuncId) (args : Array Value) (h2 : Calls P f args w fun e w' => ∃ v, e = .returned v ∧ N v w') (h1 : (execOp ev oi).run P w = .ok (.enter f args) w := by kernel_rfl) : StepN P ev oi w N := sn_call h1 h2
theorem sw {ev : Operand → Value} {oi : Oper} {N : Value → World → Prop} (t : TypeId) (us : Array Value) (h : ∀ O X, w.heap.size = O → X.heap.size = O + 1 → Ext w X → (∀ i u, us[i]? = some u → BoxAt X O i u) → N (.pointer (some ⟨O, 0, none⟩)) X)
    (h1 : (execOp ev oi).run P w = .ok (.value (.pointer (some ⟨w.heap.size, 0, none⟩))) (w.alloc (.cells us t)) := by kernel_rfl) : StepN P ev oi w N := sn_new h1 h
variable {ops0 ops : Array Oper} {Q' : Exit → Act → World → Prop} {T9 : List Row} {S : World → Prop} {fuel : Nat} {done : List Nat}
theorem pD {rest : List Oper} {ops : List Oper} {o o2 : Oper} {d d2 : Nat} (v v2 : Value) (h : PL P ops rest Q n L ((d2, v2) :: (d, v) :: ws) w) (hdst : o.dst = some d := by rfl) (hok : dstOk n ops = true := by kernel_rfl) (hd : Nat.blt d n = true := by kernel_rfl) (hw : wantP ops L ws o.guard = true := by kernel_rfl)
    (hr : (execOp (evalW L ws) o).run P w = .ok (.value v) w := by kernel_rfl) (hdst2 : o2.dst = some d2 := by rfl) (hd2 : Nat.blt d2 n = true := by kernel_rfl) (hw2 : wantP ops L ((d, v) :: ws) o2.guard = true := by kernel_rfl) (hr2 : (execOp (evalW L ((d, v) :: ws)) o2).run P w = .ok (.value v2) w := by kernel_rfl) : PL P ops (o :: o2 :: rest) Q n L ws w := pl_take v hdst hok hd hw hr (pl_take v2 hdst2 hok hd2 hw2 hr2 h)
theorem dE {id : Nat} {ops0 : Array Oper} [hQ : CalmC Q] (T : List Row) (S : World → Prop) (hS : S w.drew) (h : ∀ (ops : Array Oper) (Q' : Exit → Act → World → Prop) (X : World), Ext w X → L.length = n → Reg P ops0 ops Q' L T → Shut (∀ ws w, QW Q .normal n L ws w → QW Q' .normal n L ws w) → WD P ops Q' S L ops0.size [] ws X)
    (hm : P.follows .mixedOrders = true := by kernel_rfl) (ht : tableR ops0 = T := by kernel_rfl) (hg : goodT n ops0.size T = true := by kernel_rfl) (hs : Region.noSelect ops0 = true := by kernel_rfl) : CW P (.region id ops0 true) Q n L ws w := cw_draw T S hm ht hg hs hQ.out hS h
class AtL (ws : List (Nat × Value)) (ks : List Nat) (ws' : outParam (List (Nat × Value))) : Prop where
  out : True
instance : AtL ws [] [] := ⟨trivial⟩
instance {k : Nat} {ks : List Nat} {v : Value} {r : List (Nat × Value)} [At1 ws k v] [AtL ws ks r] : AtL ws (k :: ks) ((k, v) :: r) := ⟨trivial⟩
theorem cK (ks : List Nat) {ws' : List (Nat × Value)} {c : Code} [AtL ws ks ws'] (h : ∀ L', CW P c Q n L' ws' w) (hp : pickW ws ks = some ws' := by kernel_rfl) : CW P c Q n L ws w := cw_clean ks hp h
theorem wW (i : Nat) (v : Value) (j : Nat) (v2 : Value) {d d2 : Nat} {oi o2 : Oper} {r r2 : List Oper} (hR : Reg P ops0 ops Q' L T9) (hS : S w) (h : WD P ops Q' S L fuel (j :: i :: done) ((d2, v2) :: (d, v) :: ws) w) (hi : ops0.toList.drop i = oi :: r := by rfl) (hr : readyT T9 done i = true := by kernel_rfl) (hdst : oi.dst = some d := by rfl) (hw : wantedW T9 L ws oi.guard = true := by kernel_rfl)
    (hy : ∀ w, S w → (execOp (evalW L ws) oi).run P w = .ok (.value v) w := by intro w _; kernel_rfl) (hj : ops0.toList.drop j = o2 :: r2 := by rfl) (hr2 : readyT T9 (i :: done) j = true := by kernel_rfl) (hdst2 : o2.dst = some d2 := by rfl) (hw2 : wantedW T9 L ((d, v) :: ws) o2.guard = true := by kernel_rfl) (hy2 : ∀ w, S w → (execOp (evalW L ((d, v) :: ws)) o2).run P w = .ok (.value v2) w := by intro w _; kernel_rfl) : WD P ops Q' S L (fuel + 1 + 1) done ws w := wd_take i v hR hi hr hdst hw hy hS (wd_take j v2 hR hj hr2 hdst2 hw2 hy2 hS h)
theorem wC (i : Nat) (f : FuncId) (args : Array Value) {oi : Oper} {r : List Oper} (hR : Reg P ops0 ops Q' L T9) (h2 : Calls P f args w fun e w' => ∃ v, e = .returned v ∧ (S w' ∧ WD P ops Q' S L fuel (i :: done) (putW oi.dst v ws) w')) (hi : ops0.toList.drop i = oi :: r := by rfl) (hr : upT done (numbered T9 0) = [i] := by kernel_rfl) (hr2 : readyT T9 done i = true := by kernel_rfl)
    (hw : wantedW T9 L ws oi.guard = true := by kernel_rfl) (h1 : (execOp (evalW L ws) oi).run P w = .ok (.enter f args) w := by kernel_rfl) : WD P ops Q' S L (fuel + 1) done ws w := wd_step i hR hi hr hr2 hw (sn_call h1 h2)
theorem wN (i : Nat) (t : TypeId) (us : Array Value) {oi : Oper} {r : List Oper} (hR : Reg P ops0 ops Q' L T9) (h : ∀ O X, w.heap.size = O → X.heap.size = O + 1 → Ext w X → (∀ i u, us[i]? = some u → BoxAt X O i u) → (S X ∧ WD P ops Q' S L fuel (i :: done) (putW oi.dst (.pointer (some ⟨O, 0, none⟩)) ws) X)) (hi : ops0.toList.drop i = oi :: r := by rfl) (hr : upT done (numbered T9 0) = [i] := by kernel_rfl) (hr2 : readyT T9 done i = true := by kernel_rfl)
    (hw : wantedW T9 L ws oi.guard = true := by kernel_rfl) (h1 : (execOp (evalW L ws) oi).run P w = .ok (.value (.pointer (some ⟨w.heap.size, 0, none⟩))) (w.alloc (.cells us t)) := by kernel_rfl) : WD P ops Q' S L (fuel + 1) done ws w := wd_step i hR hi hr hr2 hw (sn_new h1 h)
theorem we (hL : L.length = n) (hR : Reg P ops0 ops Q' L T9) (hK : Shut (∀ ws w, QW Q .normal n L ws w → QW Q' .normal n L ws w)) (h : QW Q .normal n L ws w) (hd : upT done (numbered T9 0) = [] := by kernel_rfl) : WD P ops Q' S L fuel done ws w := wd_end hL hR hK hd h
theorem zw (i j : Nat) {oi oj : Oper} {r s : List Oper} (hR : Reg P ops0 ops Q' L T9)
    (h1 : StepN P (evalW L ws) oi w fun v w' => S w' ∧ WD P ops Q' S L fuel (i :: done) (putW oi.dst v ws) w') (h2 : StepN P (evalW L ws) oj w fun v w' => S w' ∧ WD P ops Q' S L fuel (j :: done) (putW oj.dst v ws) w')
    (hi : ops0.toList.drop i = oi :: r := by rfl) (hj : ops0.toList.drop j = oj :: s := by rfl) (hr : upT done (numbered T9 0) = [i, j] := by kernel_rfl) (hr2 : readyT T9 done i = true := by kernel_rfl)
    (hwi : wantedW T9 L ws oi.guard = true := by kernel_rfl) (hwj : wantedW T9 L ws oj.guard = true := by kernel_rfl) : WD P ops Q' S L (fuel + 1) done ws w := wd_two i j hR hi hj hr hr2 hwi hwj h1 h2
end
end Go.Proofs.YtajdohcgjgknmaaGreatDoor

namespace Go.Proofs.YtajdohcgjgknmaaGreatDoor
open Go.RowKit
section
variable {P : Program} {ev : Operand → Value} {o : Oper} {w : World}
theorem ex_load {t : TypeId} {x : Operand} {p v : Value} (hop : o.op = .load t x) (hx : ev x = p) (h : (Instr.loadAt t p).run P w = .ok v w) : (execOp ev o).run P w = .ok (.value v) w := by
 simp [execOp, hop, hx, h, Result.andThen]
theorem ex_store {t : TypeId} {x y : Operand} {p v : Value} {w' : World} (hop : o.op = .store t x y) (hx : ev x = p) (hy : ev y = v) (h : (Instr.storeAt t p v).run P w = .ok () w') : (execOp ev o).run P w = .ok .skip w' := by
 simp [execOp, hop, hx, hy, h, Result.andThen]
theorem ex_index {t : TypeId} {x y : Operand} {p i v : Value} (hop : o.op = .indexAddr t x y) (hx : ev x = p) (hy : ev y = i) (h : (Instr.indexAt t p i).run P w = .ok v w) : (execOp ev o).run P w = .ok (.value v) w := by
 simp [execOp, hop, hx, hy, h, Result.andThen]
theorem ex_slice {t : TypeId} {x : Operand} {lo hi mx : Option Operand} {lv hv mv : Option Value} {p v : Value} (hop : o.op = .slice t x lo hi mx) (hx : ev x = p) (h1 : lo.map ev = lv) (h2 : hi.map ev = hv) (h3 : mx.map ev = mv)
  (h : (Instr.sliceAt t p lv hv mv).run P w = .ok v w) : (execOp ev o).run P w = .ok (.value v) w := by
 simp [execOp, hop, hx, h1, h2, h3, h, Result.andThen]
theorem ev_wrap {a : Int} {r : Result Next} (h : r = .ok (.value (.int .i64 (IntKind.i64.wrap a))) w) (h0 : -9223372036854775808 ≤ a) (h1 : a ≤ 9223372036854775807) : r = .ok (.value (.int .i64 a)) w := by
 have e : IntKind.i64.wrap a = a := by rw [IntKind.wrap_i64]; omega
 rw [h, e]
theorem ev_val {v v' : Value} {r : Result Next} (h : r = .ok (.value v) w) (e : v = v') : r = .ok (.value v') w := by rw [h, e]
theorem ev_int {a b : Int} {k : IntKind} {r : Result Next} (h : r = .ok (.value (.int k a)) w) (e : a = b) : r = .ok (.value (.int k b)) w := by rw [h, e]
theorem ev_bool {b b' : Bool} {r : Result Next} (h : r = .ok (.value (.bool b)) w) (e : b = b') : r = .ok (.value (.bool b')) w := by rw [h, e]
theorem ev_dec {p : Prop} [Decidable p] {r : Result Next} (h : r = .ok (.value (.bool (decide p))) w) (e : p) : r = .ok (.value (.bool true)) w := by rw [h, decide_eq_true e]
theorem ev_ndec {p : Prop} [Decidable p] {r : Result Next} (h : r = .ok (.value (.bool (decide p))) w) (e : ¬ p) : r = .ok (.value (.bool false)) w := by rw [h, decide_eq_false e]
theorem ev_eq {a b : Int} {r : Result Next} (h : r = .ok (.value (.bool (a == b))) w) (e : a = b) : r = .ok (.value (.bool true)) w := by rw [h, e]; simp
theorem ev_neq {a b : Int} {r : Result Next} (h : r = .ok (.value (.bool (a == b))) w) (e : a ≠ b) : r = .ok (.value (.bool false)) w := by rw [h]; simp [e]
theorem ev_ne {a b : Int} {r : Result Next} (h : r = .ok (.value (.bool (a != b))) w) (e : a ≠ b) : r = .ok (.value (.bool true)) w := by rw [h]; simp [e]
theorem ev_nne {a b : Int} {r : Result Next} (h : r = .ok (.value (.bool (a != b))) w) (e : a = b) : r = .ok (.value (.bool false)) w := by rw [h, e]; simp
end
theorem res_ld {P : Program} {t : TypeId} {ad : Addr} {v : Value} {w : World} (h : (Instr.loadAt t (.pointer (some ad))).run P w = .ok v w) : (loadVar t ad).run P w = .ok v w := h
theorem ex_bin {P : Program} {ev : Operand → Value} {o : Oper} {w : World} {op : BinOp} {t t2 : TypeId} {x y : Operand} {a b : Int} {v : Value} (hop : o.op = .binOp op t x y t2) (hx : ev x = .int .i64 a) (hy : ev y = .int .i64 b)
  (h : (binOp op t (.int .i64 a) (.int .i64 b)).run P w = .ok v w) : (execOp ev o).run P w = .ok (.value v) w := by
 have e : (eqGuard op t x y (.int .i64 a) (.int .i64 b)).run P w = .ok () w := by cases op <;> simp [eqGuard]
 simp [execOp, hop, hx, hy, e, h, Result.andThen]
theorem bin_tdiv {P : Program} {w : World} {t : TypeId} {a b : Int} (hb : 0 < b) (h0 : -9223372036854775808 ≤ a) (h1 : a ≤ 9223372036854775807) : (binOp .quo t (.int .i64 a) (.int .i64 b)).run P w = .ok (.int .i64 (a.tdiv b)) w := by
 have hne : ¬ b = 0 := by omega
 have h2 : (a.tdiv b).natAbs ≤ a.natAbs := by rw [Int.natAbs_tdiv]; exact Nat.div_le_self _ _
 have e2 : IntKind.i64.wrap (a.tdiv b) = a.tdiv b := by
  rw [IntKind.wrap_i64]
  have h3 : 0 ≤ a → 0 ≤ a.tdiv b := fun h => Int.tdiv_nonneg h (by omega)
  have h4 : a ≤ 0 → a.tdiv b ≤ 0 := fun h => by
   have := Int.tdiv_nonneg (a := -a) (b := b) (by omega) (by omega)
   rw [Int.neg_tdiv] at this; omega
  generalize a.tdiv b = q at h2 h3 h4 ⊢
  omega
 simp only [binOp, Op.intDiv, if_neg hne, e2]
 simp
structure Turns (O : Nat) (w X : World) : Prop where
 size : X.heap.size = w.heap.size
 cell' : ∀ p : Addr, p.block ≠ O → X.cell? p = w.cell? p
 froz' : ∀ p : Addr, X.frozen? p = w.frozen? p
 ext' : ∀ a, Ext a w → a.heap.size ≤ O → Ext a X
 heap' : ∀ k, k ≠ O → X.heap[k]? = w.heap[k]?
 oth' : ∀ o : Obj, w.heap[O]? = some o → o.isCells = false → X.heap[O]? = some o
theorem Turns.ext {O : Nat} {a w X : World} (h : Turns O w X) (hE : Ext a w) (hO : a.heap.size ≤ O) : Ext a X := h.ext' a hE hO
theorem Turns.cell {O : Nat} {w X : World} (h : Turns O w X) {p : Addr} {u : Value} (hb : O ≠ p.block) (hv : w.cell? p = some u) : X.cell? p = some u := by
 rw [h.cell' p (fun e => hb e.symm)]; exact hv
theorem Turns.va {O : Nat} {w X : World} (h : Turns O w X) {b o : Nat} {l : List Int} (hb : O ≠ b) (hv : VA w b o l) : VA X b o l := ⟨fun i hi => h.cell hb (hv.1 i hi), hv.2⟩
theorem Turns.box {O : Nat} {w X : World} (h : Turns O w X) {b o : Nat} {u : Value} (hb : O ≠ b) (hv : BoxAt w b o u) : BoxAt X b o u := ⟨h.cell hb hv.1, by rw [h.froz']; exact hv.2⟩
theorem Turns.rows {O : Nat} {w X : World} (h : Turns O w X) {b : Nat} {l : List Int} (hb : O ≠ b) (hv : RowsAt w b l) : RowsAt X b l := ⟨hv.1, fun i hi => h.cell hb (hv.cell hi), fun i hi => by rw [h.froz']; exact hv.free hi⟩
theorem turns_set (w : World) (O j : Nat) (v : Value) : Turns O w (w.setCell ⟨O, j, none⟩ v) :=
 ⟨by simp, fun p hp => World.cell?_setCell_other w _ _ _ (fun e => hp (congrArg Addr.block e).symm), fun p => by simp [go_sem], fun _ hE hO => hE.setCell hO v, fun k hk => Below.heap_setCell _ _ _ _ (fun e => hk e), fun o ho hc => by
  have h2 : (w.setCell ⟨O, j, none⟩ v).heap[O]? = _ := Array.getElem?_modify
  rw [h2, if_pos rfl, ho]
  cases o <;> first | rfl | simp [Obj.isCells] at hc⟩
theorem Turns.trans {O : Nat} {a b c : World} (h : Turns O a b) (k : Turns O b c) : Turns O a c :=
 ⟨k.size.trans h.size, fun p hp => (k.cell' p hp).trans (h.cell' p hp), fun p => (k.froz' p).trans (h.froz' p), fun x hE hO => k.ext' x (h.ext' x hE hO) hO, fun i hi => (k.heap' i hi).trans (h.heap' i hi), fun o ho hc => k.oth' o (h.oth' o ho hc) hc⟩
section
variable {P : Program} {ev : Operand → Value} {oi : Oper} {w : World} {N : Value → World → Prop}
theorem sn_set {O j : Nat} {u v : Value} (h1 : (execOp ev oi).run P w = .ok .skip (w.setCell ⟨O, j, none⟩ v)) (hO : BoxAt w O j u)
  (h : ∀ X, Turns O w X → BoxAt X O j v → (∀ i x, i ≠ j → BoxAt w O i x → BoxAt X O i x) → N undef X) : StepN P ev oi w N := by
 have hB : BoxAt (w.setCell ⟨O, j, none⟩ v) O j v := ⟨by have := hO.1; simp [go_sem, this], by have := hO.2; simpa [go_sem] using this⟩
 exact sn_skp h1 (h _ (turns_set _ _ _ _) hB fun i x hi hx => ⟨by rw [World.cell?_setCell_other w _ _ _ (fun e => hi (congrArg Addr.off e).symm)]; exact hx.1, by simp [go_sem, hx.2]⟩)
theorem sn_set2 {O j : Nat} {u u' v v' : Value} (h1 : (execOp ev oi).run P w = .ok .skip ((w.setCell ⟨O, j, none⟩ v).setCell ⟨O, j + 1, none⟩ v')) (hO : BoxAt w O j u) (hO' : BoxAt w O (j + 1) u')
  (h : ∀ X, Turns O w X → BoxAt X O j v → BoxAt X O (j + 1) v' → (∀ i x, i ≠ j → i ≠ j + 1 → BoxAt w O i x → BoxAt X O i x) → N undef X) : StepN P ev oi w N := by
 have k : ∀ (W : World) (j : Nat) (u v : Value), BoxAt W O j u → BoxAt (W.setCell ⟨O, j, none⟩ v) O j v := fun W j u v hO => ⟨by have := hO.1; simp [go_sem, this], by have := hO.2; simpa [go_sem] using this⟩
 have k2 : ∀ (W : World) (j i : Nat) (x v : Value), i ≠ j → BoxAt W O i x → BoxAt (W.setCell ⟨O, j, none⟩ v) O i x := fun W j i x v hi hx => ⟨by rw [World.cell?_setCell_other W _ _ _ (fun e => hi (congrArg Addr.off e).symm)]; exact hx.1, by simp [go_sem, hx.2]⟩
 exact sn_skp h1 (h _ ((turns_set _ _ _ _).trans (turns_set _ _ _ _)) (k2 _ _ _ _ _ (by omega) (k _ _ _ _ hO)) (k _ _ _ _ (k2 _ _ _ _ _ (by omega) hO')) fun i x hi hi' hx => k2 _ _ _ _ _ hi' (k2 _ _ _ _ _ hi hx))
end
section
variable {P : Program} {n : Nat} {L : List Value} {ws : List (Nat × Value)} {w : World} {Q : Exit → Act → World → Prop}
theorem calm_scope (h : Calm Q) : Calm (Exit.noGoto Q) := fun c d v a w h' => h c d v a w h'
end
theorem Turns.bx {O : Nat} {w X : World} (h : Turns O w X) (b : Nat) (hb : O ≠ b) ⦃o : Nat⦄ ⦃u : Value⦄ (hv : BoxAt w b o u) : BoxAt X b o u := h.box hb hv
section
variable {P : Program} {ev : Operand → Value} {oi : Oper} {w : World} {N : Value → World → Prop} {t : TypeId} {x y : Operand} {u : Value}
theorem zE (O j : Nat) (v : Value) (hst : (Instr.storeAt t (.pointer (some ⟨O, j, none⟩)) v).run P w = .ok () (w.setCell ⟨O, j, none⟩ v)) (hO : BoxAt w O j u) (h : ∀ X, Turns O w X → BoxAt X O j v → (∀ i x, i ≠ j → BoxAt w O i x → BoxAt X O i x) → N undef X) (hop : oi.op = .store t x y := by rfl) (hx : ev x = .pointer (some ⟨O, j, none⟩) := by kernel_rfl) (hy : ev y = v := by kernel_rfl) : StepN P ev oi w N := sn_set (ex_store hop hx hy hst) hO h
theorem zF (O j : Nat) (v : Value) (hst : (Instr.storeAt t (.pointer (some ⟨O, j, none⟩)) (.agg #[v])).run P w = .ok () (w.setCell ⟨O, j, none⟩ v)) (hO : BoxAt w O j u) (h : ∀ X, Turns O w X → BoxAt X O j v → (∀ i x, i ≠ j → BoxAt w O i x → BoxAt X O i x) → N undef X) (hop : oi.op = .store t x y := by rfl) (hx : ev x = .pointer (some ⟨O, j, none⟩) := by kernel_rfl) (hy : ev y = .agg #[v] := by kernel_rfl) : StepN P ev oi w N := sn_set (ex_store hop hx hy hst) hO h
end
instance {Q : Exit → Act → World → Prop} [h : CalmC Q] : CalmC (Exit.noGoto Q) := ⟨calm_scope h.out⟩
section
variable {P : Program} {ev : Operand → Value} {o : Oper} {w : World}
theorem eE (a b : Int) {r : Result Next} (e : a = b) (h : r = .ok (.value (.bool (a == b))) w := by kernel_rfl) : r = .ok (.value (.bool true)) w := ev_eq h e
theorem eN (a b : Int) {r : Result Next} (e : a ≠ b) (h : r = .ok (.value (.bool (a == b))) w := by kernel_rfl) : r = .ok (.value (.bool false)) w := ev_neq h e
theorem eM (a b : Int) {r : Result Next} (e : a ≠ b) (h : r = .ok (.value (.bool (a != b))) w := by kernel_rfl) : r = .ok (.value (.bool true)) w := ev_ne h e
theorem wM {L : List Value} {ws : List (Nat × Value)} {ops0 ops : Array Oper} {Q' : Exit → Act → World → Prop} {T9 : List Row} {S : World → Prop} {fuel : Nat} {done : List Nat} (i : Nat) {d : Nat} {oi : Oper} {r : List Oper} {t : TypeId} {x : Operand} {p : Value} (v : Value) (hR : Reg P ops0 ops Q' L T9) (hy : ∀ w, S w → (Instr.loadAt t p).run P w = .ok v w) (hS : S w) (h : WD P ops Q' S L fuel (i :: done) ((d, v) :: ws) w)
    (hi : ops0.toList.drop i = oi :: r := by rfl) (hop : oi.op = .load t x := by rfl) (hx : evalW L ws x = p := by kernel_rfl) (hr : readyT T9 done i = true := by kernel_rfl) (hdst : oi.dst = some d := by rfl) (hw : wantedW T9 L ws oi.guard = true := by kernel_rfl) : WD P ops Q' S L (fuel + 1) done ws w := wd_take i v hR hi hr hdst hw (fun w hw => ex_load hop hx (hy w hw)) hS h
theorem xl {t : TypeId} {x : Operand} {p v : Value} (h : (Instr.loadAt t p).run P w = .ok v w) (hop : o.op = .load t x := by rfl) (hx : ev x = p := by kernel_rfl) : (execOp ev o).run P w = .ok (.value v) w := ex_load hop hx h
theorem xt {t : TypeId} {x y : Operand} {w' : World} (p v : Value) (h : (Instr.storeAt t p v).run P w = .ok () w') (hop : o.op = .store t x y := by rfl) (hx : ev x = p := by kernel_rfl) (hy : ev y = v := by kernel_rfl) : (execOp ev o).run P w = .ok .skip w' := ex_store hop hx hy h
theorem xi {t : TypeId} {x y : Operand} {v : Value} (p i : Value) (h : (Instr.indexAt t p i).run P w = .ok v w) (hop : o.op = .indexAddr t x y := by rfl) (hx : ev x = p := by kernel_rfl) (hy : ev y = i := by kernel_rfl) : (execOp ev o).run P w = .ok (.value v) w := ex_index hop hx hy h
theorem ed (p : Prop) [Decidable p] {r : Result Next} (e : p) (h : r = .ok (.value (.bool (decide p))) w := by kernel_rfl) : r = .ok (.value (.bool true)) w := ev_dec h e
theorem en (p : Prop) [Decidable p] {r : Result Next} (e : ¬ p) (h : r = .ok (.value (.bool (decide p))) w := by kernel_rfl) : r = .ok (.value (.bool false)) w := ev_ndec h e
theorem ew {a : Int} {r : Result Next} (h0 : -9223372036854775808 ≤ a) (h1 : a ≤ 9223372036854775807) (h : r = .ok (.value (.int .i64 (IntKind.i64.wrap a))) w := by kernel_rfl) : r = .ok (.value (.int .i64 a)) w := ev_wrap h h0 h1
end
end Go.Proofs.YtajdohcgjgknmaaGreatDoor

namespace Go.Proofs.YtajdohcgjgknmaaGreatDoor
open Go.RowKit
def Gro (w w' : World) : Prop := ∃ q os, w' = Go.Sort.grow (w.drewN q) os
theorem Gro.refl (w : World) : Gro w w := ⟨0, #[], by rw [Go.Sort.grow_empty]; rfl⟩
theorem Gro.trans {a b c : World} (h : Gro a b) (k : Gro b c) : Gro a c := by
 obtain ⟨q, os, rfl⟩ := h
 obtain ⟨q', os', rfl⟩ := k
 refine ⟨q + q', os ++ os', ?_⟩
 show Go.Sort.grow (Go.Sort.grow ((a.drewN q).drewN q') os) os' = _
 rw [Go.Sort.grow_grow, World.drewN_drewN]
theorem Gro.alloc (w : World) (o : Obj) : Gro w (w.alloc o) := ⟨0, #[o], by rw [Go.Sort.alloc_eq_grow]; rfl⟩
theorem Gro.drew (w : World) : Gro w w.drew := ⟨1, #[], by rw [Go.Sort.grow_empty]; rfl⟩
theorem Gro.ext {w w' : World} (h : Gro w w') : Ext w w' := by
 obtain ⟨q, os, rfl⟩ := h
 refine (Ext.drewN (Ext.refl w) q).trans ⟨rfl, rfl, rfl, by simp, fun k hk => ?_⟩
 show ((w.drewN q).heap ++ os)[k]? = _
 rw [Array.getElem?_append_left hk]
section
variable {P : Program} {n : Nat} {L : List Value} {ws : List (Nat × Value)} {w : World} {Q : Exit → Act → World → Prop}
theorem sn_newG {ev : Operand → Value} {oi : Oper} {N : Value → World → Prop} {us : Array Value} {t : TypeId} (h1 : (execOp ev oi).run P w = .ok (.value (.pointer (some ⟨w.heap.size, 0, none⟩))) (w.alloc (.cells us t)))
  (h : ∀ O X, w.heap.size = O → X.heap.size = O + 1 → Ext w X → (∀ i u, us[i]? = some u → BoxAt X O i u) → Gro w X → N (.pointer (some ⟨O, 0, none⟩)) X) : StepN P ev oi w N := by
 refine sn_eff h1 (h _ _ rfl (by simp) (Ext.alloc (Ext.refl _) _) (fun i u hu => ⟨?_, ?_⟩) (Gro.alloc _ _))
 · rw [cell_of_row _ _ i _ t (0, 0) (heap_alloc_new w _)]; exact hu
 · simp [go_sem]
theorem sn_newSG {ev : Operand → Value} {oi : Oper} {N : Value → World → Prop} {us : Array Value} {t : TypeId} {k c : Nat} (h1 : (execOp ev oi).run P w = .ok (.value (.slice (some ⟨w.heap.size, 0, none⟩) k c)) (w.alloc (.cells us t)))
  (h : ∀ O X, w.heap.size = O → X.heap.size = O + 1 → Ext w X → (∀ i u, us[i]? = some u → BoxAt X O i u) → Gro w X → N (.slice (some ⟨O, 0, none⟩) k c) X) : StepN P ev oi w N := by
 refine sn_eff h1 (h _ _ rfl (by simp) (Ext.alloc (Ext.refl _) _) (fun i u hu => ⟨?_, ?_⟩) (Gro.alloc _ _))
 · rw [cell_of_row _ _ i _ t (0, 0) (heap_alloc_new w _)]; exact hu
 · simp [go_sem]
theorem cw_drawG {id : Nat} {ops0 : Array Oper} (T : List Row) (S : World → Prop) (hm : P.follows .mixedOrders = true) (ht : tableR ops0 = T) (hg : goodT n ops0.size T = true) (hs : Region.noSelect ops0 = true) (hQ : Calm Q) (hS : S w.drew)
  (h : ∀ (ops : Array Oper) (Q' : Exit → Act → World → Prop) (X : World), Gro w X → Ext w X → L.length = n → Reg P ops0 ops Q' L T → Shut (∀ ws w, QW Q .normal n L ws w → QW Q' .normal n L ws w) → WD P ops Q' S L ops0.size [] ws X) : CW P (.region id ops0 true) Q n L ws w := ⟨fun b => by
 refine wp_region_held_drew hm hS fun hS => ?_
 exact (h ops0 Q _ (Gro.drew _) (Ext.drew (Ext.refl _)) b.1 ⟨rfl, ht, by rw [b.1]; exact hg, hs, hQ⟩ (fun _ _ h => h)).out b.lt⟩
end
end Go.Proofs.YtajdohcgjgknmaaGreatDoor

namespace Go.Proofs.YtajdohcgjgknmaaGreatDoor
namespace Globe
def leftL (a : List Int) : List (List Int) → List Int
 | [] => a
 | b :: r => leftL (lessL a b) r
theorem left_snoc : ∀ (l : List (List Int)) (a b : List Int), leftL a (l ++ [b]) = lessL (leftL a l) b
 | [], _, _ => rfl
 | c :: r, a, b => left_snoc r (lessL a c) b
theorem left_valid : ∀ (l : List (List Int)) {a : List Int}, validL a = true → validL (leftL a l) = true
 | [], _, h => h
 | _ :: r, _, h => left_valid r (less_valid h)
theorem has_left {x y : Nat} (hy : y < 24) : ∀ (l : List (List Int)) (a : List Int), hasL (leftL a l) x y = (hasL a x y && l.all fun b => !hasL b x y)
 | [], a => by simp [leftL]
 | b :: r, a => by rw [leftL, has_left hy r, has_less hy, List.all_cons, Bool.and_assoc]
theorem zero_iff {l : List Int} (h : validL l = true) : (cellsTo l 24).length = 0 ↔ ∀ x y, x < 48 → y < 24 → hasL l x y = false := by
 rw [count_zero_iff h]
 constructor
 · rintro rfl x y _ _; exact has_zero x y
 · intro hz; exact ext_has h valid_zero fun x y hx hy => by rw [hz x y hx hy, has_zero]
end Globe
end Go.Proofs.YtajdohcgjgknmaaGreatDoor

namespace Go.Proofs.YtajdohcgjgknmaaGreatDoor
namespace Globe
end Globe
end Go.Proofs.YtajdohcgjgknmaaGreatDoor

namespace Go.Proofs.YtajdohcgjgknmaaGreatDoor
namespace Prod
open Globe
structure Pc where
 im : Int
 t : Int
 cl : Bool
 rw : List Int
def clI (c : Bool) : Int := if c then 1 else 0
def cmpI (a b : Int) : Int := if a < b then -1 else if b < a then 1 else 0
theorem cmpI_pos {a b : Int} : 0 < cmpI a b ↔ b < a := by unfold cmpI; split <;> (try split) <;> omega
theorem cmpI_neg {a b : Int} : cmpI a b < 0 ↔ a < b := by unfold cmpI; split <;> (try split) <;> omega
theorem cmpI_zero {a b : Int} : cmpI a b = 0 ↔ a = b := by unfold cmpI; split <;> (try split) <;> omega
def or3 (a b c : Int) : Int := if a = 0 then (if b = 0 then c else b) else a
def rk (c1 : Bool) (t1 i1 : Int) (c2 : Bool) (t2 i2 : Int) : Int := or3 (cmpI (clI c1) (clI c2)) (cmpI t1 t2) (cmpI i1 i2)
def bet (c1 : Bool) (t1 i1 : Int) (c2 : Bool) (t2 i2 : Int) : Bool := if c1 = c2 then (if t1 = t2 then decide (i2 < i1) else decide (t2 < t1)) else c1
theorem rk_pos {c1 c2 : Bool} {t1 i1 t2 i2 : Int} : 0 < rk c1 t1 i1 c2 t2 i2 ↔ bet c1 t1 i1 c2 t2 i2 = true := by
  unfold rk or3 bet
  by_cases hc : c1 = c2
  · subst hc
    rw [if_pos (cmpI_zero.2 rfl), if_pos rfl]
    by_cases ht : t1 = t2
    · subst ht
      rw [if_pos (cmpI_zero.2 rfl), if_pos rfl, cmpI_pos]; simp
    · rw [if_neg (fun e => ht (cmpI_zero.1 e)), if_neg ht, cmpI_pos]; simp
  · have h1 : cmpI (clI c1) (clI c2) ≠ 0 := fun e => by
      have := cmpI_zero.1 e
      cases c1 <;> cases c2 <;> simp [clI] at this hc
    rw [if_neg h1, if_neg hc, cmpI_pos]
    cases c1 <;> cases c2 <;> simp [clI] at hc ⊢
theorem bet_iff {c1 c2 : Bool} {t1 i1 t2 i2 : Int} : bet c1 t1 i1 c2 t2 i2 = true ↔ clI c2 < clI c1 ∨ (clI c1 = clI c2 ∧ (t2 < t1 ∨ (t1 = t2 ∧ i2 < i1))) := by
  unfold bet
  by_cases hc : c1 = c2
  · subst hc
    rw [if_pos rfl]
    by_cases ht : t1 = t2
    · subst ht; rw [if_pos rfl, decide_eq_true_iff]; omega
    · rw [if_neg ht, decide_eq_true_iff]; omega
  · rw [if_neg hc]
    cases c1 <;> cases c2 <;> simp [clI] at hc ⊢
theorem bet_irrefl (c : Bool) (t i : Int) : bet c t i c t i = false := by simp [bet]
theorem bet_trans {c1 c2 c3 : Bool} {t1 i1 t2 i2 t3 i3 : Int} (h : bet c1 t1 i1 c2 t2 i2 = true) (k : bet c2 t2 i2 c3 t3 i3 = true) : bet c1 t1 i1 c3 t3 i3 = true := by
 rw [bet_iff] at *; omega
theorem bet_asymm {c1 c2 : Bool} {t1 i1 t2 i2 : Int} (h : bet c1 t1 i1 c2 t2 i2 = true) : bet c2 t2 i2 c1 t1 i1 = false := by
 cases k : bet c2 t2 i2 c1 t1 i1
 · rfl
 · exact absurd (bet_trans h k) (by rw [bet_irrefl]; simp)
theorem bet_total {c1 c2 : Bool} {t1 i1 t2 i2 : Int} (h : bet c1 t1 i1 c2 t2 i2 = false) (k : bet c2 t2 i2 c1 t1 i1 = false) : c1 = c2 ∧ t1 = t2 ∧ i1 = i2 := by
  unfold bet at *
  by_cases hc : c1 = c2
  · subst hc
    rw [if_pos rfl] at h k
    by_cases ht : t1 = t2
    · subst ht; rw [if_pos rfl] at h k; simp at h k; exact ⟨rfl, rfl, by omega⟩
    · rw [if_neg ht] at h; rw [if_neg (Ne.symm ht)] at k; simp at h k; omega
  · rw [if_neg hc] at h; rw [if_neg (Ne.symm hc)] at k
    subst h k; exact absurd rfl hc
theorem bet_ntrans {c1 c2 c3 : Bool} {t1 i1 t2 i2 t3 i3 : Int} (h : bet c1 t1 i1 c2 t2 i2 = false) (k : bet c2 t2 i2 c3 t3 i3 = false) : bet c1 t1 i1 c3 t3 i3 = false := by
  cases q : bet c1 t1 i1 c3 t3 i3
  · rfl
  · cases r : bet c2 t2 i2 c1 t1 i1
    · obtain ⟨rfl, rfl, rfl⟩ := bet_total h r
      rw [q] at k; exact k
    · rw [bet_trans r q] at k; exact k
theorem rk_neg {c1 c2 : Bool} {t1 i1 t2 i2 : Int} : rk c1 t1 i1 c2 t2 i2 < 0 ↔ bet c2 t2 i2 c1 t1 i1 = true := by
  unfold rk or3 bet
  by_cases hc : c1 = c2
  · subst hc
    rw [if_pos (cmpI_zero.2 rfl), if_pos rfl]
    by_cases ht : t1 = t2
    · subst ht
      rw [if_pos (cmpI_zero.2 rfl), if_pos rfl, cmpI_neg]; simp
    · rw [if_neg (fun e => ht (cmpI_zero.1 e)), if_neg (Ne.symm ht), cmpI_neg]; simp
  · have h1 : cmpI (clI c1) (clI c2) ≠ 0 := fun e => by
      have := cmpI_zero.1 e
      cases c1 <;> cases c2 <;> simp [clI] at this hc
    rw [if_neg h1, if_neg (Ne.symm hc), cmpI_neg]
    cases c1 <;> cases c2 <;> simp [clI] at hc ⊢
def better (a b : Pc) : Bool := bet a.cl a.t a.im b.cl b.t b.im
theorem better_trans {a b c : Pc} (h : better a b = true) (k : better b c = true) : better a c = true := bet_trans h k
theorem better_asymm {a b : Pc} (h : better a b = true) : better b a = false := bet_asymm h
theorem better_or {a b : Pc} (h : a.im ≠ b.im) : better a b = true ∨ better b a = true := by
  cases h1 : better a b
  · cases h2 : better b a
    · exact absurd (bet_total h1 h2).2.2 h
    · exact .inr rfl
  · exact .inl rfl
def ins (x : Pc) : List Pc → List Pc
 | [] => [x]
 | y :: l => if better x y then x :: y :: l else y :: ins x l
def sortD : List Pc → List Pc
 | [] => []
 | x :: l => ins x (sortD l)
def Sorted (l : List Pc) : Prop := l.Pairwise fun a b => better a b = true
def Dist (l : List Pc) : Prop := l.Pairwise fun a b => a.im ≠ b.im
theorem ins_perm (x : Pc) : ∀ l, (ins x l).Perm (x :: l)
 | [] => .refl _
 | y :: l => by
  unfold ins; split
  · exact .refl _
  · exact ((ins_perm x l).cons y).trans (.swap x y l)
theorem sortD_perm : ∀ l, (sortD l).Perm l
 | [] => .refl _
 | x :: l => (ins_perm x _).trans ((sortD_perm l).cons x)
theorem ins_sorted {x : Pc} : ∀ {l : List Pc}, Sorted l → (∀ y ∈ l, x.im ≠ y.im) → Sorted (ins x l)
  | [], _, _ => List.pairwise_singleton _ _
  | y :: l, h, hd => by
    unfold ins
    obtain ⟨h1, h2⟩ := List.pairwise_cons.1 h
    split
    · rename_i hb
      exact List.pairwise_cons.2 ⟨fun z hz => by
        rcases List.mem_cons.1 hz with rfl | hz
        · exact hb
        · exact better_trans hb (h1 z hz), h⟩
    · rename_i hb
      have hyx : better y x = true := (better_or (hd y (by simp))).resolve_left hb
      refine List.pairwise_cons.2 ⟨fun z hz => ?_, ins_sorted h2 fun z hz => hd z (by simp [hz])⟩
      rcases List.mem_cons.1 ((ins_perm x l).mem_iff.1 hz) with rfl | hz
      · exact hyx
      · exact h1 z hz
theorem Dist.cons {x : Pc} {l : List Pc} : Dist (x :: l) ↔ (∀ y ∈ l, x.im ≠ y.im) ∧ Dist l := List.pairwise_cons
theorem Dist.perm {a b : List Pc} (h : a.Perm b) : Dist a ↔ Dist b := h.pairwise_iff (fun h e => h e.symm)
theorem sortD_sorted : ∀ {l : List Pc}, Dist l → Sorted (sortD l)
 | [], _ => List.Pairwise.nil
 | x :: l, h => by
  obtain ⟨h1, h2⟩ := Dist.cons.1 h
  exact ins_sorted (sortD_sorted h2) fun y hy => h1 y ((sortD_perm l).mem_iff.1 hy)
theorem sorted_uniq : ∀ {a b : List Pc}, Sorted a → Sorted b → a.Perm b → a = b
 | [], b, _, _, hp => (List.nil_perm.1 hp).symm
 | x :: a, [], _, _, hp => absurd hp.symm (by simp)
 | x :: a, y :: b, ha, hb, hp => by
  obtain ⟨a1, a2⟩ := List.pairwise_cons.1 ha
  obtain ⟨b1, b2⟩ := List.pairwise_cons.1 hb
  have e : x = y := by
   rcases List.mem_cons.1 (hp.mem_iff.1 (by simp : x ∈ x :: a)) with e | hx
   · exact e
   rcases List.mem_cons.1 (hp.mem_iff.2 (by simp : y ∈ y :: b)) with e | hy
   · exact e.symm
   have := better_asymm (b1 x hx)
   rw [a1 y hy] at this; cases this
  subst e
  rw [sorted_uniq a2 b2 hp.cons_inv]
theorem sortD_eq {l s : List Pc} (hd : Dist l) (hs : Sorted s) (hp : s.Perm l) : s = sortD l := sorted_uniq hs (sortD_sorted hd) (hp.trans (sortD_perm l).symm)
def noC (l : List Int) : Bool := decide ((cellsTo l 24).length = 0)
def own (r : List Int) (x : Pc) : Pc := { x with rw := meetL r x.rw }
def divF : List Int → List Pc → List Pc
 | _, [] => []
 | r, x :: l => (if noC (meetL r x.rw) then [] else [own r x]) ++ divF (lessL r x.rw) l
def divide (area : List Int) (l : List Pc) : List Pc := (divF area (sortD l)).reverse
def rest (r : List Int) (l : List Pc) : List Int := leftL r (l.map Pc.rw)
theorem rest_nil (r : List Int) : rest r [] = r := rfl
theorem rest_cons (r : List Int) (x : Pc) (l : List Pc) : rest r (x :: l) = rest (lessL r x.rw) l := rfl
theorem rest_snoc (r : List Int) (l : List Pc) (x : Pc) : rest r (l ++ [x]) = lessL (rest r l) x.rw := by unfold rest; rw [List.map_append]; exact left_snoc _ _ _
theorem rest_valid {r : List Int} (l : List Pc) (h : validL r = true) : validL (rest r l) = true := left_valid _ h
theorem divF_snoc : ∀ (l : List Pc) (r : List Int) (x : Pc), divF r (l ++ [x]) = divF r l ++ (if noC (meetL (rest r l) x.rw) then [] else [own (rest r l) x])
 | [], r, x => by rw [List.nil_append, divF, divF, divF, rest_nil, List.append_nil, List.nil_append]
 | y :: l, r, x => by rw [List.cons_append, divF, divF, divF_snoc l, rest_cons, List.append_assoc]
theorem has_rest {x y : Nat} (hy : y < 24) (r : List Int) (l : List Pc) : hasL (rest r l) x y = (hasL r x y && l.all fun p => !hasL p.rw x y) := by
 unfold rest; rw [has_left hy, List.all_map]; rfl
theorem noC_iff {l : List Int} (h : validL l = true) : noC l = true ↔ ∀ x y, x < 48 → y < 24 → hasL l x y = false := by unfold noC; rw [decide_eq_true_eq]; exact zero_iff h
def okP (x : Pc) : Bool := (inB x.im 0 999 && inB x.t 0 1000000) && validL x.rw
theorem okP_t {x : Pc} : okP x = true ↔ (0 ≤ x.im ∧ x.im ≤ 999) ∧ (0 ≤ x.t ∧ x.t ≤ 1000000) ∧ validL x.rw = true := by
 unfold okP; rw [Bool.and_eq_true, Bool.and_eq_true, inB_t, inB_t, and_assoc]
def stepOk (free : List Int) (pre : List Pc) (x : Pc) : Bool :=
 okP x && (!noC x.rw && (containsB free x.rw && ((match pre.getLast? with | none => true | some p => better x p) && !pre.any fun p => decide (p.im = x.im))))
def vGo (free : List Int) (pre : List Pc) : List Pc → Bool
 | [] => true
 | x :: l => stepOk free pre x && vGo (lessL free x.rw) (pre ++ [x]) l
def headOk (id ver : Int) (area : List Int) (n : Nat) : Bool := (inB id 0 63 && inB ver 1 100) && (validL area && decide (n ≤ 24))
def validP (id ver : Int) (area : List Int) (ps : List Pc) : Bool := headOk id ver area ps.length && vGo area [] ps
end Prod
end Go.Proofs.YtajdohcgjgknmaaGreatDoor

namespace Go.Proofs.YtajdohcgjgknmaaGreatDoor
open Go.RowKit
theorem ix23 {w : World} {b o n c k : Nat} (hk : k < n) : (Instr.indexAt 23 (.slice (some ⟨b, o, none⟩) n c) (.int .i64 k)).run Tryz.prog w = .ok (.pointer (some ⟨b, o + k * 4, none⟩)) w := by
 have : (0 : Int) ≤ (k : Int) := by omega
 have : (k : Int) < (n : Int) := by omega
 go_simp
theorem ix24 {w : World} {b o n c k : Nat} (hk : k < n) : (Instr.indexAt 24 (.slice (some ⟨b, o, none⟩) n c) (.int .i64 k)).run Tryz.prog w = .ok (.pointer (some ⟨b, o + k, none⟩)) w := by
 have : (0 : Int) ≤ (k : Int) := by omega
 have : (k : Int) < (n : Int) := by omega
 go_simp
theorem ix24z {w : World} {b n c k : Nat} (hk : k < n) : (Instr.indexAt 24 (.slice (some ⟨b, 0, none⟩) n c) (.int .i64 k)).run Tryz.prog w = .ok (.pointer (some ⟨b, k, none⟩)) w := by
 have h := ix24 (w := w) (b := b) (o := 0) (c := c) hk
 rwa [Nat.zero_add] at h
theorem ix30 {w : World} {b o n c k : Nat} (hk : k < n) : (Instr.indexAt 30 (.slice (some ⟨b, o, none⟩) n c) (.int .i64 k)).run Tryz.prog w = .ok (.pointer (some ⟨b, o + k * 4, none⟩)) w := by
 have : (0 : Int) ≤ (k : Int) := by omega
 have : (k : Int) < (n : Int) := by omega
 go_simp
theorem ix30z {w : World} {b n c k : Nat} (hk : k < n) : (Instr.indexAt 30 (.slice (some ⟨b, 0, none⟩) n c) (.int .i64 k)).run Tryz.prog w = .ok (.pointer (some ⟨b, k * 4, none⟩)) w := by
 have h := ix30 (w := w) (b := b) (o := 0) (c := c) hk
 rwa [Nat.zero_add] at h
theorem ix31 {w : World} {b o n c k : Nat} (hk : k < n) : (Instr.indexAt 31 (.slice (some ⟨b, o, none⟩) n c) (.int .i64 k)).run Tryz.prog w = .ok (.pointer (some ⟨b, o + k, none⟩)) w := by
 have : (0 : Int) ≤ (k : Int) := by omega
 have : (k : Int) < (n : Int) := by omega
 go_simp
theorem ix31z {w : World} {b n c k : Nat} (hk : k < n) : (Instr.indexAt 31 (.slice (some ⟨b, 0, none⟩) n c) (.int .i64 k)).run Tryz.prog w = .ok (.pointer (some ⟨b, k, none⟩)) w := by
 have h := ix31 (w := w) (b := b) (o := 0) (c := c) hk
 rwa [Nat.zero_add] at h
theorem ix60 {w : World} {b o n c k : Nat} (hk : k < n) : (Instr.indexAt 60 (.slice (some ⟨b, o, none⟩) n c) (.int .i64 k)).run Tryz.prog w = .ok (.pointer (some ⟨b, o + k * 2, none⟩)) w := by
 have : (0 : Int) ≤ (k : Int) := by omega
 have : (k : Int) < (n : Int) := by omega
 go_simp
theorem ix60z {w : World} {b n c k : Nat} (hk : k < n) : (Instr.indexAt 60 (.slice (some ⟨b, 0, none⟩) n c) (.int .i64 k)).run Tryz.prog w = .ok (.pointer (some ⟨b, k * 2, none⟩)) w := by
 have h := ix60 (w := w) (b := b) (o := 0) (c := c) hk
 rwa [Nat.zero_add] at h
theorem ix72 {w : World} {b o n c k : Nat} (hk : k < n) : (Instr.indexAt 72 (.slice (some ⟨b, o, none⟩) n c) (.int .i64 k)).run Tryz.prog w = .ok (.pointer (some ⟨b, o + k * 4, none⟩)) w := by
 have : (0 : Int) ≤ (k : Int) := by omega
 have : (k : Int) < (n : Int) := by omega
 go_simp
theorem ix72z {w : World} {b n c k : Nat} (hk : k < n) : (Instr.indexAt 72 (.slice (some ⟨b, 0, none⟩) n c) (.int .i64 k)).run Tryz.prog w = .ok (.pointer (some ⟨b, k * 4, none⟩)) w := by
 have h := ix72 (w := w) (b := b) (o := 0) (c := c) hk
 rwa [Nat.zero_add] at h
theorem ix74 {w : World} {b o n c k : Nat} (hk : k < n) : (Instr.indexAt 74 (.slice (some ⟨b, o, none⟩) n c) (.int .i64 k)).run Tryz.prog w = .ok (.pointer (some ⟨b, o + k, none⟩)) w := by
 have : (0 : Int) ≤ (k : Int) := by omega
 have : (k : Int) < (n : Int) := by omega
 go_simp
theorem ix74z {w : World} {b n c k : Nat} (hk : k < n) : (Instr.indexAt 74 (.slice (some ⟨b, 0, none⟩) n c) (.int .i64 k)).run Tryz.prog w = .ok (.pointer (some ⟨b, k, none⟩)) w := by
 have h := ix74 (w := w) (b := b) (o := 0) (c := c) hk
 rwa [Nat.zero_add] at h
theorem ld24 {w : World} {b o : Nat} {x0 : Value} (h0 : w.cell? ⟨b, o, none⟩ = some x0) : (Instr.loadAt 24 (.pointer (some ⟨b, o, none⟩))).run Tryz.prog w = .ok (x0) w := by go_simp
theorem ld3 {w : World} {b o : Nat} {x0 : Value} (h0 : w.cell? ⟨b, o, none⟩ = some x0) : (Instr.loadAt 3 (.pointer (some ⟨b, o, none⟩))).run Tryz.prog w = .ok (x0) w := by go_simp
theorem ld30 {w : World} {b o : Nat} {x0 : Value} (h0 : w.cell? ⟨b, o, none⟩ = some x0) : (Instr.loadAt 30 (.pointer (some ⟨b, o, none⟩))).run Tryz.prog w = .ok (x0) w := by go_simp
theorem ld33 {w : World} {b o : Nat} {x0 : Value} (h0 : w.cell? ⟨b, o, none⟩ = some x0) : (Instr.loadAt 33 (.pointer (some ⟨b, o, none⟩))).run Tryz.prog w = .ok (.agg #[x0]) w := by go_simp
theorem ld4 {w : World} {b o : Nat} {x0 : Value} (h0 : w.cell? ⟨b, o, none⟩ = some x0) : (Instr.loadAt 4 (.pointer (some ⟨b, o, none⟩))).run Tryz.prog w = .ok (x0) w := by go_simp
theorem ld49 {w : World} {b o : Nat} {x0 x1 x2 x3 : Value} (h0 : w.cell? ⟨b, o, none⟩ = some x0) (h1 : w.cell? ⟨b, o + 1, none⟩ = some x1) (h2 : w.cell? ⟨b, o + 2, none⟩ = some x2) (h3 : w.cell? ⟨b, o + 3, none⟩ = some x3) : (Instr.loadAt 49 (.pointer (some ⟨b, o, none⟩))).run Tryz.prog w = .ok (.agg #[x0, x1, x2, x3]) w := by go_simp
theorem ld53 {w : World} {b o : Nat} {x0 x1 x2 x3 : Value} (h0 : w.cell? ⟨b, o, none⟩ = some x0) (h1 : w.cell? ⟨b, o + 1, none⟩ = some x1) (h2 : w.cell? ⟨b, o + 2, none⟩ = some x2) (h3 : w.cell? ⟨b, o + 3, none⟩ = some x3) : (Instr.loadAt 53 (.pointer (some ⟨b, o, none⟩))).run Tryz.prog w = .ok (.agg #[x0, x1, x2, x3]) w := by go_simp
theorem ld65 {w : World} {b o : Nat} {x0 x1 : Value} (h0 : w.cell? ⟨b, o, none⟩ = some x0) (h1 : w.cell? ⟨b, o + 1, none⟩ = some x1) : (Instr.loadAt 65 (.pointer (some ⟨b, o, none⟩))).run Tryz.prog w = .ok (.agg #[x0, x1]) w := by go_simp
theorem sl23_110 {w : World} {b o n c k m : Nat} (h1 : k ≤ m) (h2 : m ≤ c) (h4 : k ≠ c) : (Instr.sliceAt 23 (.slice (some ⟨b, o, none⟩) n c) (some (.int .i64 k)) (some (.int .i64 m)) none).run Tryz.prog w = .ok (.slice (some ⟨b, o + k * 4, none⟩) (m - k) (c - k)) w := by
 have : (0 : Int) ≤ (k : Int) := by omega
 have : (0 : Int) ≤ (m : Int) := by omega
 have : (k : Int) ≤ (m : Int) := by omega
 have : (m : Int) ≤ (c : Int) := by omega
 have : ¬ c = k := by omega
 go_simp
theorem sl24_010a {w : World} {a : Option Addr} {n c m : Nat} (h1 : 0 ≤ m) (h2 : m ≤ c) : (Instr.sliceAt 24 (.slice a n c) none (some (.int .i64 m)) none).run Tryz.prog w = .ok (.slice a m c) w := by
 have : (0 : Int) ≤ (m : Int) := by omega
 have : (m : Int) ≤ (c : Int) := by omega
 have e : (if c = 0 then a else a.map (fun x => x.add 0)) = a := by split; rfl; cases a <;> rfl
 go_simp <;> exact e
theorem sl30_010a {w : World} {a : Option Addr} {n c m : Nat} (h1 : 0 ≤ m) (h2 : m ≤ c) : (Instr.sliceAt 30 (.slice a n c) none (some (.int .i64 m)) none).run Tryz.prog w = .ok (.slice a m c) w := by
 have : (0 : Int) ≤ (m : Int) := by omega
 have : (m : Int) ≤ (c : Int) := by omega
 have e : (if c = 0 then a else a.map (fun x => x.add 0)) = a := by split; rfl; cases a <;> rfl
 go_simp <;> exact e
theorem sl30_010 {w : World} {b o n c m : Nat} (h1 : 0 ≤ m) (h2 : m ≤ c) : (Instr.sliceAt 30 (.slice (some ⟨b, o, none⟩) n c) none (some (.int .i64 m)) none).run Tryz.prog w = .ok (.slice (some ⟨b, o, none⟩) m c) w := sl30_010a h1 h2
theorem sl30_011a {w : World} {a : Option Addr} {n c m r : Nat} (h1 : 0 ≤ m) (h2 : m ≤ r) (h3 : r ≤ c) : (Instr.sliceAt 30 (.slice a n c) none (some (.int .i64 m)) (some (.int .i64 r))).run Tryz.prog w = .ok (.slice a m r) w := by
 have : (0 : Int) ≤ (m : Int) := by omega
 have : (0 : Int) ≤ (r : Int) := by omega
 have : (m : Int) ≤ (r : Int) := by omega
 have : (r : Int) ≤ (c : Int) := by omega
 have e : (if r = 0 then a else a.map (fun x => x.add 0)) = a := by split; rfl; cases a <;> rfl
 go_simp <;> exact e
theorem sl30_011 {w : World} {b o n c m r : Nat} (h1 : 0 ≤ m) (h2 : m ≤ r) (h3 : r ≤ c) : (Instr.sliceAt 30 (.slice (some ⟨b, o, none⟩) n c) none (some (.int .i64 m)) (some (.int .i64 r))).run Tryz.prog w = .ok (.slice (some ⟨b, o, none⟩) m r) w := sl30_011a h1 h2 h3
theorem sl30_100b {w : World} {a : Option Addr} {n c k : Nat} (h1 : k ≤ n) (h2 : n ≤ c) : (Instr.sliceAt 30 (.slice a n c) (some (.int .i64 k)) none none).run Tryz.prog w = .ok (.slice (if c = k then a else a.map (fun x => x.add (k * 4))) (n - k) (c - k)) w := by
 have : (0 : Int) ≤ (k : Int) := by omega
 have : (k : Int) ≤ (n : Int) := by omega
 have : (n : Int) ≤ (c : Int) := by omega
 go_simp
theorem sl30_100 {w : World} {b o n c k : Nat} (h1 : k ≤ n) (h2 : n ≤ c) (h4 : k ≠ c) : (Instr.sliceAt 30 (.slice (some ⟨b, o, none⟩) n c) (some (.int .i64 k)) none none).run Tryz.prog w = .ok (.slice (some ⟨b, o + k * 4, none⟩) (n - k) (c - k)) w := by
 have : (0 : Int) ≤ (k : Int) := by omega
 have : (k : Int) ≤ (n : Int) := by omega
 have : (n : Int) ≤ (c : Int) := by omega
 have : ¬ c = k := by omega
 go_simp
theorem sn_setK4 {ev : Operand → Value} {oi : Oper} {w : World} {N : Value → World → Prop} {O j : Nat} {u0 v0 u1 v1 u2 v2 u3 v3 : Value} (h1 : (execOp ev oi).run Tryz.prog w = .ok .skip ((((w.setCell ⟨O, j, none⟩ v0).setCell ⟨O, j + 1, none⟩ v1).setCell ⟨O, j + 2, none⟩ v2).setCell ⟨O, j + 3, none⟩ v3)) (b0 : BoxAt w O j u0) (b1 : BoxAt w O (j + 1) u1) (b2 : BoxAt w O (j + 2) u2) (b3 : BoxAt w O (j + 3) u3)
  (h : ∀ X, Turns O w X → BoxAt X O j v0 → BoxAt X O (j + 1) v1 → BoxAt X O (j + 2) v2 → BoxAt X O (j + 3) v3 → (∀ i x, i ≠ j → i ≠ (j + 1) → i ≠ (j + 2) → i ≠ (j + 3) → BoxAt w O i x → BoxAt X O i x) → N undef X) : StepN Tryz.prog ev oi w N := by
 have k : ∀ (W : World) (j : Nat) (u v : Value), BoxAt W O j u → BoxAt (W.setCell ⟨O, j, none⟩ v) O j v := fun W j u v hO => ⟨by have := hO.1; simp [go_sem, this], by have := hO.2; simpa [go_sem] using this⟩
 have k2 : ∀ (W : World) (j i : Nat) (x v : Value), i ≠ j → BoxAt W O i x → BoxAt (W.setCell ⟨O, j, none⟩ v) O i x := fun W j i x v hi hx => ⟨by rw [World.cell?_setCell_other W _ _ _ (fun e => hi (congrArg Addr.off e).symm)]; exact hx.1, by simp [go_sem, hx.2]⟩
 exact sn_skp h1 (h _ ((((turns_set _ _ _ _).trans (turns_set _ _ _ _)).trans (turns_set _ _ _ _)).trans (turns_set _ _ _ _)) (k2 _ _ _ _ _ (by omega) (k2 _ _ _ _ _ (by omega) (k2 _ _ _ _ _ (by omega) (k _ _ _ _ b0)))) (k2 _ _ _ _ _ (by omega) (k2 _ _ _ _ _ (by omega) (k _ _ _ _ (k2 _ _ _ _ _ (by omega) b1)))) (k2 _ _ _ _ _ (by omega) (k _ _ _ _ (k2 _ _ _ _ _ (by omega) (k2 _ _ _ _ _ (by omega) b2)))) (k _ _ _ _ (k2 _ _ _ _ _ (by omega) (k2 _ _ _ _ _ (by omega) (k2 _ _ _ _ _ (by omega) b3)))) fun i x h0 h1 h2 h3 hx => (k2 _ _ _ _ _ h3 (k2 _ _ _ _ _ h2 (k2 _ _ _ _ _ h1 (k2 _ _ _ _ _ h0 hx)))))
theorem st24 {w : World} {b o : Nat} {u0 : Value} {a0 : Option Addr} {n0 c0 : Nat} (h0 : w.cell? ⟨b, o, none⟩ = some u0) (f0 : w.frozen? ⟨b, o, none⟩ = false) : (Instr.storeAt 24 (.pointer (some ⟨b, o, none⟩)) ((.slice a0 n0 c0))).run Tryz.prog w = .ok () (w.setCell ⟨b, o, none⟩ (.slice a0 n0 c0)) := by go_simp
theorem st3 {w : World} {b o : Nat} {u0 : Value} {x0 : Int} (h0 : w.cell? ⟨b, o, none⟩ = some u0) (f0 : w.frozen? ⟨b, o, none⟩ = false) : (Instr.storeAt 3 (.pointer (some ⟨b, o, none⟩)) ((.int .i64 x0))).run Tryz.prog w = .ok () (w.setCell ⟨b, o, none⟩ (.int .i64 x0)) := by go_simp
theorem st30 {w : World} {b o : Nat} {u0 : Value} {a0 : Option Addr} {n0 c0 : Nat} (h0 : w.cell? ⟨b, o, none⟩ = some u0) (f0 : w.frozen? ⟨b, o, none⟩ = false) : (Instr.storeAt 30 (.pointer (some ⟨b, o, none⟩)) ((.slice a0 n0 c0))).run Tryz.prog w = .ok () (w.setCell ⟨b, o, none⟩ (.slice a0 n0 c0)) := by go_simp
theorem st33 {w : World} {b o : Nat} {u0 : Value} {a0 : Option Addr} {n0 c0 : Nat} (h0 : w.cell? ⟨b, o, none⟩ = some u0) (f0 : w.frozen? ⟨b, o, none⟩ = false) : (Instr.storeAt 33 (.pointer (some ⟨b, o, none⟩)) (.agg #[(.slice a0 n0 c0)])).run Tryz.prog w = .ok () (w.setCell ⟨b, o, none⟩ (.slice a0 n0 c0)) := by go_simp
theorem st4 {w : World} {b o : Nat} {u0 : Value} {x0 : Bool} (h0 : w.cell? ⟨b, o, none⟩ = some u0) (f0 : w.frozen? ⟨b, o, none⟩ = false) : (Instr.storeAt 4 (.pointer (some ⟨b, o, none⟩)) ((.bool x0))).run Tryz.prog w = .ok () (w.setCell ⟨b, o, none⟩ (.bool x0)) := by go_simp
theorem st49 {w : World} {b o : Nat} {u0 u1 u2 u3 : Value} {x0 : Int} {x1 : Int} {x2 : Bool} {a3 : Option Addr} {n3 c3 : Nat} (h0 : w.cell? ⟨b, o, none⟩ = some u0) (f0 : w.frozen? ⟨b, o, none⟩ = false) (h1 : w.cell? ⟨b, o + 1, none⟩ = some u1) (f1 : w.frozen? ⟨b, o + 1, none⟩ = false) (h2 : w.cell? ⟨b, o + 2, none⟩ = some u2) (f2 : w.frozen? ⟨b, o + 2, none⟩ = false) (h3 : w.cell? ⟨b, o + 3, none⟩ = some u3) (f3 : w.frozen? ⟨b, o + 3, none⟩ = false) : (Instr.storeAt 49 (.pointer (some ⟨b, o, none⟩)) (.agg #[(.int .i64 x0), (.int .i64 x1), (.bool x2), (.slice a3 n3 c3)])).run Tryz.prog w = .ok () ((((w.setCell ⟨b, o, none⟩ (.int .i64 x0)).setCell ⟨b, o + 1, none⟩ (.int .i64 x1)).setCell ⟨b, o + 2, none⟩ (.bool x2)).setCell ⟨b, o + 3, none⟩ (.slice a3 n3 c3)) := by go_simp
theorem st53 {w : World} {b o : Nat} {u0 u1 u2 u3 : Value} {x0 : Int} {x1 : Int} {a2 : Option Addr} {n2 c2 : Nat} {a3 : Option Addr} {n3 c3 : Nat} (h0 : w.cell? ⟨b, o, none⟩ = some u0) (f0 : w.frozen? ⟨b, o, none⟩ = false) (h1 : w.cell? ⟨b, o + 1, none⟩ = some u1) (f1 : w.frozen? ⟨b, o + 1, none⟩ = false) (h2 : w.cell? ⟨b, o + 2, none⟩ = some u2) (f2 : w.frozen? ⟨b, o + 2, none⟩ = false) (h3 : w.cell? ⟨b, o + 3, none⟩ = some u3) (f3 : w.frozen? ⟨b, o + 3, none⟩ = false) : (Instr.storeAt 53 (.pointer (some ⟨b, o, none⟩)) (.agg #[(.int .i64 x0), (.int .i64 x1), (.slice a2 n2 c2), (.slice a3 n3 c3)])).run Tryz.prog w = .ok () ((((w.setCell ⟨b, o, none⟩ (.int .i64 x0)).setCell ⟨b, o + 1, none⟩ (.int .i64 x1)).setCell ⟨b, o + 2, none⟩ (.slice a2 n2 c2)).setCell ⟨b, o + 3, none⟩ (.slice a3 n3 c3)) := by go_simp
theorem st65 {w : World} {b o : Nat} {u0 u1 : Value} {x0 : Int} {x1 : Int} (h0 : w.cell? ⟨b, o, none⟩ = some u0) (f0 : w.frozen? ⟨b, o, none⟩ = false) (h1 : w.cell? ⟨b, o + 1, none⟩ = some u1) (f1 : w.frozen? ⟨b, o + 1, none⟩ = false) : (Instr.storeAt 65 (.pointer (some ⟨b, o, none⟩)) (.agg #[(.int .i64 x0), (.int .i64 x1)])).run Tryz.prog w = .ok () ((w.setCell ⟨b, o, none⟩ (.int .i64 x0)).setCell ⟨b, o + 1, none⟩ (.int .i64 x1)) := by go_simp
theorem zG {ev : Operand → Value} {oi : Oper} {w : World} {N : Value → World → Prop} {t : TypeId} {x y : Operand} {u0 u1 u2 u3 : Value} (O : Nat) (v0 v1 v2 v3 : Value) (hst : (Instr.storeAt t (.pointer (some ⟨O, 0, none⟩)) (.agg #[v0, v1, v2, v3])).run Tryz.prog w = .ok () ((((w.setCell ⟨O, 0, none⟩ v0).setCell ⟨O, 0 + 1, none⟩ v1).setCell ⟨O, 0 + 2, none⟩ v2).setCell ⟨O, 0 + 3, none⟩ v3)) (b0 : BoxAt w O 0 u0) (b1 : BoxAt w O (0 + 1) u1) (b2 : BoxAt w O (0 + 2) u2) (b3 : BoxAt w O (0 + 3) u3)
    (h : ∀ X, Turns O w X → BoxAt X O 0 v0 → BoxAt X O (0 + 1) v1 → BoxAt X O (0 + 2) v2 → BoxAt X O (0 + 3) v3 → (∀ i x, i ≠ 0 → i ≠ (0 + 1) → i ≠ (0 + 2) → i ≠ (0 + 3) → BoxAt w O i x → BoxAt X O i x) → N undef X) (hop : oi.op = .store t x y := by rfl) (hx : ev x = .pointer (some ⟨O, 0, none⟩) := by kernel_rfl) (hy : ev y = .agg #[v0, v1, v2, v3] := by kernel_rfl) : StepN Tryz.prog ev oi w N := sn_setK4 (ex_store hop hx hy hst) b0 b1 b2 b3 h
end Go.Proofs.YtajdohcgjgknmaaGreatDoor

namespace Go.Proofs.YtajdohcgjgknmaaGreatDoor
set_option maxRecDepth 1000000
set_option maxHeartbeats 4000000
set_option synthInstance.maxHeartbeats 0
set_option synthInstance.maxSize 9999
open Go.RowKit
theorem isNaN_g (x : Int) (w : World) : Calls Tryz.prog 135 #[iv x] w fun e w' => e = .returned (.bool false) ∧ Gro w w' := by
 have hG : Gro w w := Gro.refl w;refine calls_cw 6 [(0, iv x)] Tryz.func135 rfl Tryz.ntmps135 (by kernel_rfl) (by kernel_rfl) (fun L => ?_);have hE := Ext.refl w;refine zc (zp (pT (.bool false) ?_));refine zn (zc (zp (pD (iv x) (iv x) ?_)));refine pU (.bool false) (ev_bool (show _ = Result.ok (Next.value (Value.bool ((x : Int) != x))) _ from by kernel_rfl) (bne_self_eq_false _)) ?_;refine pT (.bool false) ?_;refine zn (cw_ret (qw_ret [.bool false] rfl ⟨(by kernel_rfl), trivial⟩ ?_));exact ⟨rfl, hG⟩
theorem Compare_g (a b : Int) (w : World) : Calls Tryz.prog 114 #[iv a, iv b] w fun e w' => e = .returned (iv (Prod.cmpI a b)) ∧ Gro w w' := by
 have hG : Gro w w := Gro.refl w;refine calls_cw 20 [(1, iv b), (0, iv a)] Tryz.func114 rfl Tryz.ntmps114 (by kernel_rfl) (by kernel_rfl) (fun L => ?_);have hE := Ext.refl w;refine zc (zp (pT (iv 0) ?_));refine zn (zc (zp (pT (iv a) ?_)));refine pS (sc 135 #[iv a] ((isNaN_g a _).mono ?_));rintro e w1 ⟨rfl, hb⟩;have hgx := hb;replace hb := hgx.ext;replace hG := hG.trans hgx;clear hgx;replace hE := hE.trans hb;have B3 := hb.size;refine ⟨_, rfl, pT (.bool false) ?_⟩;refine zn (zc (zp (pT (iv b) ?_)));refine pS (sc 135 #[iv b] ((isNaN_g b _).mono ?_));rintro e w3 ⟨rfl, hb⟩;have hgx := hb;replace hb := hgx.ext;replace hG := hG.trans hgx;clear hgx;replace hE := hE.trans hb;have B4 := hb.size;refine ⟨_, rfl, pT (.bool false) ?_⟩;refine zn (zc (zc (zp (pT (.bool false) ?_))));refine zn (zf ?_);refine cw_skip (zq (zc (zc (zp (pT (.bool false) ?_)))));refine zn (zf ?_);refine cw_skip (zq (zc (zc (zp (pD (iv a) (iv b) ?_)))))
 by_cases B0 : (a : Int) < (b : Int)
 ·
  refine pU (.bool true) (ed ((a : Int) < (b : Int)) (B0)) ?_;refine zn (zt ?_);refine zc (zp (pT (iv (-1 : Int)) ?_));refine zn (cw_ret (qw_then_ret (qw_ret [iv (-1 : Int)] rfl ⟨(by kernel_rfl), trivial⟩ ?_)));exact ⟨congrArg (fun z => Ending.returned (Value.int .i64 z)) (show (-1 : Int) = Prod.cmpI a b by unfold Prod.cmpI; simp [B0]), hG⟩
 ·
  refine pU (.bool false) (en ((a : Int) < (b : Int)) (B0)) ?_;refine zn (zf ?_);refine cw_skip (zq (zc (zc (zp (pD (iv a) (iv b) ?_)))))
  by_cases B2 : (a : Int) > (b : Int)
  ·
   refine pU (.bool true) (ed ((a : Int) > (b : Int)) (B2)) ?_;refine zn (cK [19] (fun L => ?_));refine zt ?_;refine zc (zp (pT (iv 1) ?_));refine zn (cw_ret (qw_then_ret (qw_ret [iv 1] rfl ⟨(by kernel_rfl), trivial⟩ ?_)));exact ⟨congrArg (fun z => Ending.returned (Value.int .i64 z)) (show (1 : Int) = Prod.cmpI a b by unfold Prod.cmpI; simp [B0, B2]), hG⟩
  ·
   refine pU (.bool false) (en ((a : Int) > (b : Int)) (B2)) ?_;refine zn (cK [19] (fun L => ?_));refine zf ?_;refine cw_skip (zq (zc (zp (pT (iv 0) ?_))));refine zn (cw_ret (qw_ret [iv 0] rfl ⟨(by kernel_rfl), trivial⟩ ?_));exact ⟨congrArg (fun z => Ending.returned (Value.int .i64 z)) (show (0 : Int) = Prod.cmpI a b by unfold Prod.cmpI; simp [B0, B2]), hG⟩
theorem clear_g (x : Prod.Pc) (a : Option Addr) (k c : Nat) (w : World) : Calls Tryz.prog 115 #[.agg #[iv x.im, iv x.t, .bool x.cl, .slice a k c]] w fun e w' => e = .returned (iv (Prod.clI x.cl)) ∧ Gro w w' := by
 cases hcl : x.cl
 ·
  have hG : Gro w w := Gro.refl w;refine calls_cw 5 [(0, .agg #[iv x.im, iv x.t, .bool false, .slice a k c])] Tryz.func115 rfl Tryz.ntmps115 (by kernel_rfl) (by kernel_rfl) (fun L => ?_);have hE := Ext.refl w;refine zc (zp (pS (sn_newG (us := #[iv x.im, iv x.t, .bool false, .slice a k c]) (t := 49) (by kernel_rfl) ?_)));intro O1 X2 hO hOs hb hbx hgx;replace hG := hG.trans hgx;clear hgx;have hzO1 := hO;have hyO1 := hOs;clear hO hOs;have ⟨bO1_0, bO1_1, bO1_2, bO1_3⟩ := bq4 hbx;replace hE := hE.trans hb;have hs3 := hb.size;have lt4 := bO1_0.lt;refine pT (iv 0) ?_;refine zn (zc (zc (zp (pT (pw O1 2) ?_))));refine pU (.bool false) (xl (ld4 (bO1_2.1))) ?_;refine zn (zf ?_);refine cw_skip (zq (zc (zp (pT (iv 0) ?_))));refine zn (cw_ret (qw_ret [iv 0] rfl ⟨(by kernel_rfl), trivial⟩ ?_));exact ⟨rfl, hG⟩
 ·
  have hG : Gro w w := Gro.refl w;refine calls_cw 5 [(0, .agg #[iv x.im, iv x.t, .bool true, .slice a k c])] Tryz.func115 rfl Tryz.ntmps115 (by kernel_rfl) (by kernel_rfl) (fun L => ?_);have hE := Ext.refl w;refine zc (zp (pS (sn_newG (us := #[iv x.im, iv x.t, .bool true, .slice a k c]) (t := 49) (by kernel_rfl) ?_)));intro O1 X2 hO hOs hb hbx hgx;replace hG := hG.trans hgx;clear hgx;have hzO1 := hO;have hyO1 := hOs;clear hO hOs;have ⟨bO1_0, bO1_1, bO1_2, bO1_3⟩ := bq4 hbx;replace hE := hE.trans hb;have hs3 := hb.size;have lt4 := bO1_0.lt;refine pT (iv 0) ?_;refine zn (zc (zc (zp (pT (pw O1 2) ?_))));refine pU (.bool true) (xl (ld4 (bO1_2.1))) ?_;refine zn (zt ?_);refine zc (zp (pT (iv 1) ?_));refine zn (cw_ret (qw_then_ret (qw_ret [iv 1] rfl ⟨(by kernel_rfl), trivial⟩ ?_)));exact ⟨rfl, hG⟩
theorem Or_g {b o c : Nat} {x y z : Int} (w : World) (h0 : w.cell? ⟨b, o, none⟩ = some (.int .i64 x)) (h1 : w.cell? ⟨b, o + 1, none⟩ = some (.int .i64 y)) (h2 : w.cell? ⟨b, o + 2, none⟩ = some (.int .i64 z)) :
    Calls Tryz.prog 113 #[.slice (some ⟨b, o, none⟩) 3 c] w fun e w' => e = .returned (.int .i64 (Prod.or3 x y z)) ∧ Gro w w' := by
  by_cases hx : x = 0
  · by_cases hy : y = 0
    · by_cases hz : z = 0
      · go_enter Tryz.func113, Tryz.ntmps113
        go_wp2_with fail
        refine wp_loop_rounds 4 ?_
        iterate 4 (rw [rounds_succ]; go_wp2_with fail)
        go_ret
        exact ⟨by simp [Prod.or3, hx, hy, hz], Gro.refl _⟩
      · go_enter Tryz.func113, Tryz.ntmps113
        go_wp2_with fail
        refine wp_loop_rounds 4 ?_
        iterate 3 (rw [rounds_succ]; go_wp2_with fail)
        go_ret
        exact ⟨by simp [Prod.or3, hx, hy], Gro.refl _⟩
    · go_enter Tryz.func113, Tryz.ntmps113
      go_wp2_with fail
      refine wp_loop_rounds 4 ?_
      iterate 2 (rw [rounds_succ]; go_wp2_with fail)
      go_ret
      exact ⟨by simp [Prod.or3, hx, hy], Gro.refl _⟩
  · go_enter Tryz.func113, Tryz.ntmps113
    go_wp2_with fail
    refine wp_loop_rounds 4 ?_
    rw [rounds_succ]; go_wp2_with fail
    go_ret
    exact ⟨by simp [Prod.or3, hx], Gro.refl _⟩
theorem rank_g {x y : Prod.Pc} {a1 a2 : Option Addr} {k1 c1 k2 c2 : Nat} (w : World) : Calls Tryz.prog 80 #[.agg #[iv x.im, iv x.t, .bool x.cl, .slice a1 k1 c1], .agg #[iv y.im, iv y.t, .bool y.cl, .slice a2 k2 c2]] w fun e w' => e = .returned (iv (Prod.rk x.cl x.t x.im y.cl y.t y.im)) ∧ Gro w w' := by
 have hG : Gro w w := Gro.refl w;refine calls_cw 22 [(1, .agg #[iv y.im, iv y.t, .bool y.cl, .slice a2 k2 c2]), (0, .agg #[iv x.im, iv x.t, .bool x.cl, .slice a1 k1 c1])] Tryz.func80 rfl Tryz.ntmps80 (by kernel_rfl) (by kernel_rfl) (fun L => ?_);have hE := Ext.refl w;refine zc (zp (pS (sn_newG (us := #[iv x.im, iv x.t, .bool x.cl, .slice a1 k1 c1]) (t := 49) (by kernel_rfl) ?_)));intro O1 X2 hO hOs hb hbx hgx;replace hG := hG.trans hgx;clear hgx;have Bk := hO;have Bp := hOs;clear hO hOs;have ⟨B0, B3, B4, B2⟩ := bq4 hbx;replace hE := hE.trans hb;have C2 := hb.size;have C1 := B0.lt;refine pS (sn_newG (us := #[iv y.im, iv y.t, .bool y.cl, .slice a2 k2 c2]) (t := 49) (by kernel_rfl) ?_);intro O5 X6 hO hOs hb hbx hgx;replace hG := hG.trans hgx;clear hgx;have Bo := hO;have Bl := hOs;clear hO hOs;have ⟨B6, Ba, Bb, B7⟩ := bq4 hbx;refine mv5 hb hE B0 B3 B4 B2 fun hE B0 B3 B4 B2=>?_;have C0 := hb.size;have C7 := B6.lt;refine pT (iv 0) ?_;refine zn (zc (cw_drawG [(some 5, [2], []), (some 6, [5], [0]), (some 7, [3], []), (some 8, [7], [2, 1]), (some 9, [6, 8], [1, 3, 3]), (some 10, [2], []), (some 11, [10], [5]), (some 12, [3], []), (some 13, [12], [7]), (some 14, [11, 13], [6, 8, 4]), (some 15, [2], []), (some 16, [15], [10]), (some 17, [3], []), (some 18, [17], [12]), (some 19, [16, 18], [11, 13, 9]), (some 20, [9, 14, 19], [4, 9, 14]), (some 21, [20], [15, 14]), (some 4, [21], [16, 16, 0, 1, 2, 3, 4, 5, 6, 7, 8, 9, 10, 11, 12, 13, 14, 15, 16])] (fun w' => w'.cell? ⟨O1, 0, none⟩ = some (iv x.im) ∧ w'.cell? ⟨O1, 1, none⟩ = some (iv x.t) ∧ w'.cell? ⟨O1, 2, none⟩ = some (.bool x.cl) ∧ w'.cell? ⟨O1, 3, none⟩ = some (.slice a1 k1 c1) ∧ w'.cell? ⟨O5, 0, none⟩ = some (iv y.im) ∧ w'.cell? ⟨O5, 1, none⟩ = some (iv y.t) ∧ w'.cell? ⟨O5, 2, none⟩ = some (.bool y.cl) ∧ w'.cell? ⟨O5, 3, none⟩ = some (.slice a2 k2 c2)) (by kernel_rfl) (by kernel_rfl) (by kernel_rfl) (by kernel_rfl) ((calm_then calm_body)) (⟨B0.1, B3.1, B4.1, B2.1, B6.1, Ba.1, Bb.1, B7.1⟩) (fun ops Q X9 hgx hb hL hR hK => ?_)));replace hG := hG.trans hgx;clear hgx;refine mv9 hb hE B0 B3 B4 B2 B6 Ba Bb B7 fun hE B0 B3 B4 B2 B6 Ba Bb B7=>?_;have Bm := hb.size;have hS := A8 B0.1 B3.1 B4.1 B2.1 B6.1 Ba.1 Bb.1 B7.1;refine wM 0 (.agg #[iv x.im, iv x.t, .bool x.cl, .slice a1 k1 c1]) hR (fun w hS => ld49 (hS.1) (hS.2.1) (hS.2.2.1) (hS.2.2.2.1)) hS ?_;refine wM 2 (.agg #[iv y.im, iv y.t, .bool y.cl, .slice a2 k2 c2]) hR (fun w hS => ld49 (hS.2.2.2.2.1) (hS.2.2.2.2.2.1) (hS.2.2.2.2.2.2.1) (hS.2.2.2.2.2.2.2)) hS ?_;refine wV 5 (pw O1 1) hR hS ?_;refine wM 6 (iv x.t) hR (fun w hS => ld3 (hS.2.1)) hS ?_;refine wV 7 (pw O5 1) hR hS ?_;refine wM 8 (iv y.t) hR (fun w hS => ld3 (hS.2.2.2.2.2.1)) hS ?_;refine wV 10 (pw O1 0) hR hS ?_;refine wM 11 (iv x.im) hR (fun w hS => ld3 (hS.1)) hS ?_;refine wV 12 (pw O5 0) hR hS ?_;refine wM 13 (iv y.im) hR (fun w hS => ld3 (hS.2.2.2.2.1)) hS ?_;refine wC 1 115 #[.agg #[iv x.im, iv x.t, .bool x.cl, .slice a1 k1 c1]] hR ((clear_g x a1 k1 c1 _).mono ?_);rintro e C4 ⟨rfl, hb⟩;have hgx := hb;replace hb := hgx.ext;replace hG := hG.trans hgx;clear hgx;refine mv9 hb hE B0 B3 B4 B2 B6 Ba Bb B7 fun hE B0 B3 B4 B2 B6 Ba Bb B7=>?_;have Bv := hb.size;refine ⟨_, rfl, ⟨B0.1, B3.1, B4.1, B2.1, B6.1, Ba.1, Bb.1, B7.1⟩, ?_⟩;refine wC 3 115 #[.agg #[iv y.im, iv y.t, .bool y.cl, .slice a2 k2 c2]] hR ((clear_g y a2 k2 c2 _).mono ?_);rintro e C3 ⟨rfl, hb⟩;have hgx := hb;replace hb := hgx.ext;replace hG := hG.trans hgx;clear hgx;refine mv9 hb hE B0 B3 B4 B2 B6 Ba Bb B7 fun hE B0 B3 B4 B2 B6 Ba Bb B7=>?_;have Bq := hb.size;refine ⟨_, rfl, ⟨B0.1, B3.1, B4.1, B2.1, B6.1, Ba.1, Bb.1, B7.1⟩, ?_⟩;refine wC 4 114 #[iv (Prod.clI x.cl : Int), iv (Prod.clI y.cl : Int)] hR ((Compare_g (Prod.clI x.cl) (Prod.clI y.cl) _).mono ?_);rintro e Bx ⟨rfl, hb⟩;have hgx := hb;replace hb := hgx.ext;replace hG := hG.trans hgx;clear hgx;refine mv9 hb hE B0 B3 B4 B2 B6 Ba Bb B7 fun hE B0 B3 B4 B2 B6 Ba Bb B7=>?_;have Bj := hb.size;refine ⟨_, rfl, ⟨B0.1, B3.1, B4.1, B2.1, B6.1, Ba.1, Bb.1, B7.1⟩, ?_⟩;refine wC 9 114 #[iv x.t, iv y.t] hR ((Compare_g x.t y.t _).mono ?_);rintro e C8 ⟨rfl, hb⟩;have hgx := hb;replace hb := hgx.ext;replace hG := hG.trans hgx;clear hgx;refine mv9 hb hE B0 B3 B4 B2 B6 Ba Bb B7 fun hE B0 B3 B4 B2 B6 Ba Bb B7=>?_;have Bu := hb.size;refine ⟨_, rfl, ⟨B0.1, B3.1, B4.1, B2.1, B6.1, Ba.1, Bb.1, B7.1⟩, ?_⟩;refine wC 14 114 #[iv x.im, iv y.im] hR ((Compare_g x.im y.im _).mono ?_);rintro e C6 ⟨rfl, hb⟩;have hgx := hb;replace hb := hgx.ext;replace hG := hG.trans hgx;clear hgx;refine mv9 hb hE B0 B3 B4 B2 B6 Ba Bb B7 fun hE B0 B3 B4 B2 B6 Ba Bb B7=>?_;have Bw := hb.size;refine ⟨_, rfl, ⟨B0.1, B3.1, B4.1, B2.1, B6.1, Ba.1, Bb.1, B7.1⟩, ?_⟩;refine wS 15 hR (sn_newSG (us := #[iv (Prod.cmpI (Prod.clI x.cl) (Prod.clI y.cl) : Int), iv (Prod.cmpI x.t y.t : Int), iv (Prod.cmpI x.im y.im : Int)]) (t := 3) (k := 3) (c := 3) (by kernel_rfl) ?_);intro Bt Bz hO hOs hb hbx hgx;replace hG := hG.trans hgx;clear hgx;have Bh := hO;have Bg := hOs;clear hO hOs;have ⟨Bc, Bf, Be⟩ := bq3 hbx;refine mv9 hb hE B0 B3 B4 B2 B6 Ba Bb B7 fun hE B0 B3 B4 B2 B6 Ba Bb B7=>?_;have Bs := hb.size;have Bi := Bc.lt
 refine ⟨⟨B0.1, B3.1, B4.1, B2.1, B6.1, Ba.1, Bb.1, B7.1⟩, ?_⟩;refine wC 16 113 #[sv Bt 0 3 3] hR ((Or_g _ (Bc.1) (Bf.1) (Be.1)).mono ?_);rintro e C5 ⟨rfl, hb⟩;have hgx := hb;replace hb := hgx.ext;replace hG := hG.trans hgx;clear hgx;refine mv9 hb hE B0 B3 B4 B2 B6 Ba Bb B7 fun hE B0 B3 B4 B2 B6 Ba Bb B7=>?_;have Br := hb.size;have hS := A8 B0.1 B3.1 B4.1 B2.1 B6.1 Ba.1 Bb.1 B7.1;refine ⟨_, rfl, hS, ?_⟩;refine wV 17 (iv (Prod.or3 (Prod.cmpI (Prod.clI x.cl) (Prod.clI y.cl)) (Prod.cmpI x.t y.t) (Prod.cmpI x.im y.im) : Int)) hR hS ?_;refine we hL hR hK ?_;refine zq (cK [4] (fun L => ?_));refine cw_ret (qw_ret [iv (Prod.or3 (Prod.cmpI (Prod.clI x.cl) (Prod.clI y.cl)) (Prod.cmpI x.t y.t) (Prod.cmpI x.im y.im) : Int)] rfl ⟨(by kernel_rfl), trivial⟩ ?_);exact ⟨rfl, hG⟩
theorem order_g {x y : Prod.Pc} {a1 a2 : Option Addr} {k1 c1 k2 c2 : Nat} (w : World) : Calls Tryz.prog 123 #[.agg #[iv x.im, iv x.t, .bool x.cl, .slice a1 k1 c1], .agg #[iv y.im, iv y.t, .bool y.cl, .slice a2 k2 c2]] w fun e w' => e = .returned (iv (Prod.rk y.cl y.t y.im x.cl x.t x.im)) ∧ Gro w w' := by
 have hG : Gro w w := Gro.refl w;refine calls_cw 8 [(1, .agg #[iv y.im, iv y.t, .bool y.cl, .slice a2 k2 c2]), (0, .agg #[iv x.im, iv x.t, .bool x.cl, .slice a1 k1 c1])] Tryz.func123 rfl Tryz.ntmps123 (by kernel_rfl) (by kernel_rfl) (fun L => ?_);have hE := Ext.refl w;refine zc (zp (pS (sn_newG (us := #[iv x.im, iv x.t, .bool x.cl, .slice a1 k1 c1]) (t := 49) (by kernel_rfl) ?_)));intro O1 X2 hO hOs hb hbx hgx;replace hG := hG.trans hgx;clear hgx;have hzO1 := hO;have hyO1 := hOs;clear hO hOs;have ⟨bO1_0, bO1_1, bO1_2, bO1_3⟩ := bq4 hbx;replace hE := hE.trans hb;have hs3 := hb.size;have lt4 := bO1_0.lt;refine pS (sn_newG (us := #[iv y.im, iv y.t, .bool y.cl, .slice a2 k2 c2]) (t := 49) (by kernel_rfl) ?_);intro O5 X6 hO hOs hb hbx hgx;replace hG := hG.trans hgx;clear hgx;have hzO5 := hO;have hyO5 := hOs;clear hO hOs;have ⟨bO5_0, bO5_1, bO5_2, bO5_3⟩ := bq4 hbx;refine mv5 hb hE bO1_0 bO1_1 bO1_2 bO1_3 fun hE bO1_0 bO1_1 bO1_2 bO1_3=>?_;have hs7 := hb.size;have lt8 := bO5_0.lt;refine pT (iv 0) ?_;refine zn (zc (zp (pU (.agg #[iv y.im, iv y.t, .bool y.cl, .slice a2 k2 c2]) (xl (ld49 (bO5_0.1) (bO5_1.1) (bO5_2.1) (bO5_3.1))) ?_)));refine pU (.agg #[iv x.im, iv x.t, .bool x.cl, .slice a1 k1 c1]) (xl (ld49 (bO1_0.1) (bO1_1.1) (bO1_2.1) (bO1_3.1))) ?_;refine pS (sc 80 #[.agg #[iv y.im, iv y.t, .bool y.cl, .slice a2 k2 c2], .agg #[iv x.im, iv x.t, .bool x.cl, .slice a1 k1 c1]] ((rank_g _).mono ?_));rintro e w9 ⟨rfl, hb⟩;have hgx := hb;replace hb := hgx.ext;replace hG := hG.trans hgx;clear hgx;replace hE := hE.trans hb;have hs10 := hb.size;refine ⟨_, rfl, pT (iv (Prod.rk y.cl y.t y.im x.cl x.t x.im : Int)) ?_⟩;refine zn (cw_ret (qw_ret [iv (Prod.rk y.cl y.t y.im x.cl x.t x.im : Int)] rfl ⟨(by kernel_rfl), trivial⟩ ?_));exact ⟨rfl, hG⟩
end Go.Proofs.YtajdohcgjgknmaaGreatDoor

namespace Go.Proofs
open Go.Shelf
def Tryz.sortPc_ren : Go.Shelf.Ren := ⟨fun | 6 => 139 | 15 => 146 | 14 => 145 | 28 => 157 | 29 => 158 | 20 => 149 | 21 => 150 | 22 => 151 | 23 => 152 | 24 => 153 | 25 => 154 | 26 => 155 | 27 => 156 | 46 => 160 | 47 => 161 | 48 => 162 | 49 => 163 | 50 => 164 | 57 => 165 | n => n, fun | 22 => 30 | 24 => 49 | 25 => 115 | 3 => 3 | 39 => 140 | 0 => 0 | 53 => 159 | 55 => 161 | 4 => 4 | 46 => 177 | 45 => 176 | 50 => 62 | 5 => 5 | 9 => 9 | 66 => 182 | 70 => 186 | 76 => 188 | 77 => 189 | n => n, fun | n => n⟩
theorem Tryz.sortPc : Go.Proofs.SlLaysF0.n6 Tryz.prog Tryz.sortPc_ren := {
 mixed := by kernel_rfl
 f6 := ⟨Tryz.f139.name, by decide, Tryz.func139.trans (congrArg some (by kernel_rfl))⟩
 f14 := ⟨Tryz.f145.name, by decide, Tryz.func145.trans (congrArg some (by kernel_rfl))⟩
 f15 := Tryz.func146.trans (congrArg some (by kernel_rfl))
 f20 := ⟨Tryz.f149.name, by decide, Tryz.func149.trans (congrArg some (by kernel_rfl))⟩
 f21 := ⟨Tryz.f150.name, by decide, Tryz.func150.trans (congrArg some (by kernel_rfl))⟩
 f22 := ⟨Tryz.f151.name, by decide, Tryz.func151.trans (congrArg some (by kernel_rfl))⟩
 f23 := ⟨Tryz.f152.name, by decide, Tryz.func152.trans (congrArg some (by kernel_rfl))⟩
 f24 := ⟨Tryz.f153.name, by decide, Tryz.func153.trans (congrArg some (by kernel_rfl))⟩
 f25 := ⟨Tryz.f154.name, by decide, Tryz.func154.trans (congrArg some (by kernel_rfl))⟩
 f26 := ⟨Tryz.f155.name, by decide, Tryz.func155.trans (congrArg some (by kernel_rfl))⟩
 f27 := ⟨Tryz.f156.name, by decide, Tryz.func156.trans (congrArg some (by kernel_rfl))⟩
 f28 := Tryz.func157.trans (congrArg some (by kernel_rfl))
 f29 := Tryz.func158.trans (congrArg some (by kernel_rfl))
 f46 := ⟨Tryz.f160.name, by decide, Tryz.func160.trans (congrArg some (by kernel_rfl))⟩
 f47 := Tryz.func161.trans (congrArg some (by kernel_rfl))
 f48 := Tryz.func162.trans (congrArg some (by kernel_rfl))
 f49 := ⟨Tryz.f163.name, by decide, Tryz.func163.trans (congrArg some (by kernel_rfl))⟩
 f50 := ⟨Tryz.f164.name, by decide, Tryz.func164.trans (congrArg some (by kernel_rfl))⟩
 f57 := ⟨Tryz.f165.name, by decide, Tryz.func165.trans (congrArg some (by kernel_rfl))⟩
 t0 := Tryz.underlying0
 a0 := Tryz.isAgg0
 z0 := Tryz.sizeOf0
 v0 := Tryz.zeroValue0
 t3 := Tryz.underlying3
 a3 := Tryz.isAgg3
 z3 := Tryz.sizeOf3
 v3 := Tryz.zeroValue3
 t4 := Tryz.underlying4
 a4 := Tryz.isAgg4
 z4 := Tryz.sizeOf4
 v4 := Tryz.zeroValue4
 t5 := Tryz.underlying5
 a5 := Tryz.isAgg5
 z5 := Tryz.sizeOf5
 v5 := Tryz.zeroValue5
 t9 := Tryz.underlying9
 a9 := Tryz.isAgg9
 z9 := Tryz.sizeOf9
 v9 := Tryz.zeroValue9
 t22 := Tryz.underlying30
 a22 := Tryz.isAgg30
 z22 := Tryz.sizeOf30
 v22 := Tryz.zeroValue30
 t25 := Tryz.underlying115
 a25 := Tryz.isAgg115
 z25 := Tryz.sizeOf115
 v25 := Tryz.zeroValue115
 t39 := Tryz.underlying140
 a39 := Tryz.isAgg140
 z39 := Tryz.sizeOf140
 v39 := Tryz.zeroValue140
 t45 := Tryz.underlying176
 a45 := Tryz.isAgg176
 z45 := Tryz.sizeOf176
 v45 := Tryz.zeroValue176
 t46 := Tryz.underlying177
 a46 := Tryz.isAgg177
 z46 := Tryz.sizeOf177
 v46 := Tryz.zeroValue177
 t50 := Tryz.underlying62
 a50 := Tryz.isAgg62
 z50 := Tryz.sizeOf62
 v50 := Tryz.zeroValue62
 t53 := Tryz.underlying159
 a53 := Tryz.isAgg159
 z53 := Tryz.sizeOf159
 v53 := Tryz.zeroValue159
 t55 := Tryz.underlying161
 a55 := Tryz.isAgg161
 z55 := Tryz.sizeOf161
 v55 := Tryz.zeroValue161
 t66 := Tryz.underlying182
 a66 := Tryz.isAgg182
 z66 := Tryz.sizeOf182
 v66 := Tryz.zeroValue182
 t70 := Tryz.underlying186
 a70 := Tryz.isAgg186
 z70 := Tryz.sizeOf186
 v70 := Tryz.zeroValue186
 t76 := Tryz.underlying188
 a76 := Tryz.isAgg188
 z76 := Tryz.sizeOf188
 v76 := Tryz.zeroValue188
 t77 := Tryz.underlying189
 a77 := Tryz.isAgg189
 z77 := Tryz.sizeOf189
 v77 := Tryz.zeroValue189 }
def Tryz.revPc_ren : Go.Shelf.Ren := ⟨fun | 35 => 126 | n => n, fun | 22 => 30 | 23 => 49 | 3 => 3 | 4 => 4 | 0 => 0 | n => n, fun | n => n⟩
theorem Tryz.revPc : Go.Proofs.SlLaysE0.n35 Tryz.prog Tryz.revPc_ren := {
 mixed := by kernel_rfl
 f35 := ⟨Tryz.f126.name, by decide, Tryz.func126.trans (congrArg some (by kernel_rfl))⟩
 t0 := Tryz.underlying0
 a0 := Tryz.isAgg0
 z0 := Tryz.sizeOf0
 v0 := Tryz.zeroValue0
 t3 := Tryz.underlying3
 a3 := Tryz.isAgg3
 z3 := Tryz.sizeOf3
 v3 := Tryz.zeroValue3
 t4 := Tryz.underlying4
 a4 := Tryz.isAgg4
 z4 := Tryz.sizeOf4
 v4 := Tryz.zeroValue4
 t22 := Tryz.underlying30
 a22 := Tryz.isAgg30
 z22 := Tryz.sizeOf30
 v22 := Tryz.zeroValue30 }
end Go.Proofs

namespace Go.Proofs.YtajdohcgjgknmaaGreatDoor
open Go.RowKit
structure Rep (α : Type) where
 rel : World → List Value → α → List Nat → Prop
 keep : ∀ {w w' : World} {c : List Value} {x : α} {F : List Nat}, rel w c x F → (∀ b ∈ F, ∀ o u, w.cell? ⟨b, o, none⟩ = some u → w'.cell? ⟨b, o, none⟩ = some u) → rel w' c x F
 lt : ∀ {w : World} {c : List Value} {x : α} {F : List Nat}, rel w c x F → ∀ b ∈ F, b < w.heap.size
theorem Rep.ext {α : Type} (R : Rep α) {w w' : World} {c : List Value} {x : α} {F : List Nat} (h : R.rel w c x F) (hE : Ext w w') : R.rel w' c x F := R.keep h fun _ _ _ _ hu => hE.cell hu
def OwnL {α : Type} (R : Rep α) (n₀ : Nat) (e : TypeId) (size : Nat) (v : Value) (w : World) (l : List α) : Prop :=
 ∃ cs : List (List Value), cs.length = l.length ∧ (∀ c ∈ cs, c.length = size) ∧ w.ownsRow n₀ e size v l.length cs.flatten ∧
  ∀ (j : Nat) x c, l[j]? = some x → cs[j]? = some c → ∃ F, R.rel w c x F ∧ ∀ b ∈ F, v.ownBlock ≠ some b
structure Grew (n₀ : Nat) (w w' : World) : Prop where
 size : w.heap.size ≤ w'.heap.size
 ext : ∀ U, Ext U w → U.heap.size ≤ n₀ → Ext U w'
theorem OwnL.nil {α : Type} (R : Rep α) (n₀ : Nat) (e : TypeId) (size : Nat) (w : World) : OwnL R n₀ e size (.slice none 0 0) w [] := ⟨[], rfl, (fun c hc => by cases hc), World.ownsRow_nil w n₀ e size, (fun j x c hx => by simp at hx)⟩
theorem OwnL.ext {α : Type} {R : Rep α} {n₀ : Nat} {e : TypeId} {size : Nat} {v : Value} {w w' : World} {l : List α} (h : OwnL R n₀ e size v w l) (hE : Ext w w') : OwnL R n₀ e size v w' l := by
 obtain ⟨cs, h1, h2, h3, h4⟩ := h
 exact ⟨cs, h1, h2, own_ext h3 hE, fun j x c hx hc => by obtain ⟨F, q1, q2⟩ := h4 j x c hx hc; exact ⟨F, R.ext q1 hE, q2⟩⟩
theorem OwnL.lt {α : Type} {R : Rep α} {n₀ : Nat} {e : TypeId} {size : Nat} {v : Value} {w : World} {l : List α} (h : OwnL R n₀ e size v w l) : ∀ b, v.ownBlock = some b → b < w.heap.size := by
 obtain ⟨cs, h1, h2, h3, h4⟩ := h
 exact fun b hb => (h3.lt b hb).2
structure ElemT (P : Program) (t e : TypeId) (z : Value) (size bytes : Nat) : Prop where
 under : P.underlying t = some (.slice e)
 info : (P.info? e).map (fun i => (i.zero, i.size, i.bytes)) = some (some z, size, bytes)
 zs : z.cells.size = size
 pos : 0 < size
theorem flatten_len {size : Nat} : ∀ {cs : List (List Value)}, (∀ c ∈ cs, c.length = size) → cs.flatten.length = cs.length * size
 | [], _ => by simp
 | c :: r, h => by
  rw [List.flatten_cons, List.length_append, flatten_len (fun d hd => h d (List.mem_cons_of_mem _ hd)), h c (by simp), List.length_cons, Nat.add_mul]; omega
theorem flatten_get {size : Nat} : ∀ {cs : List (List Value)}, (∀ c ∈ cs, c.length = size) → ∀ (j : Nat) {c : List Value}, cs[j]? = some c → ∀ i, i < size → cs.flatten[j * size + i]? = c[i]?
 | [], _, j, c, h, _, _ => by simp at h
 | d :: r, h, 0, c, hc, i, hi => by
  simp at hc; subst hc
  rw [List.flatten_cons, Nat.zero_mul, Nat.zero_add, List.getElem?_append_left (by rw [h d (by simp)]; exact hi)]
 | d :: r, h, j + 1, c, hc, i, hi => by
  have hd := h d (by simp)
  rw [List.flatten_cons, List.getElem?_append_right (by rw [hd, Nat.add_mul]; omega), hd, show (j + 1) * size + i - size = j * size + i by rw [Nat.add_mul]; omega]
  exact flatten_get (fun d hd => h d (List.mem_cons_of_mem _ hd)) j (by simpa using hc) i hi
theorem own_app {α : Type} {R : Rep α} {P : Program} {t ty e : TypeId} {z : Value} {size bytes : Nat} (E : ElemT P t e z size bytes) {n₀ : Nat} {v : Value} {w : World} {l : List α} (h : OwnL R n₀ e size v w l) (hn : n₀ ≤ w.heap.size)
    {a : Addr} {m c : Nat} {xs : List α} {ds : List (List Value)} (hm : xs.length = m) (hds : ds.length = m) (hsz : ∀ d ∈ ds, d.length = size) (hcell : ∀ j u, ds.flatten[j]? = some u → w.cell? (a.add j) = some u) (h1 : ∀ d ∈ ds, ∀ u ∈ d, u.oneCell' = true)
    (hR : ∀ (j : Nat) x d, xs[j]? = some x → ds[j]? = some d → ∃ F, R.rel w d x F ∧ ∀ b ∈ F, v.ownBlock ≠ some b) (hb : (l.length + m) * bytes ≤ 140737488355328) (hmax : l.length + m ≤ 9223372036854775807) :
    ∃ v' w', (Builtin.append_ #[t, t] ty #[v, .slice (some a) m c]).run P w = .ok v' w' ∧ OwnL R n₀ e size v' w' (l ++ xs) ∧ Grew n₀ w w' ∧ (v' = .slice none 0 0 ∨ ∃ g cap, v' = .slice (some ⟨g, 0, none⟩) (l.length + m) cap ∧ l.length + m ≤ cap) ∧ (v' = .slice none 0 0 → m = 0 ∧ v = .slice none 0 0) := by
  obtain ⟨cs, h2, h3, h4, h5⟩ := h
  obtain ⟨i, hi, hz0, hz1, hz2⟩ := info_parts E.info
  obtain ⟨v', w', hrun, hown, hg, hiff, hat⟩ := run_append_own_at (P := P) w n₀ t ty e i z size bytes E.under hi hz0 hz1 hz2 E.zs E.pos v l.length cs.flatten h4 a m c ds.flatten (by rw [flatten_len hsz, hds]) hcell
    (fun u hu => by obtain ⟨d, hd, hu⟩ := List.mem_flatten.1 hu; exact h1 d hd u hu) (by unfold maxLen; exact hmax) hb hn
  have hnb : ∀ F : List Nat, (∀ b ∈ F, v.ownBlock ≠ some b) → (∀ b ∈ F, b < w.heap.size) → (∀ b ∈ F, v'.ownBlock ≠ some b) ∧ ∀ b ∈ F, ∀ o u, w.cell? ⟨b, o, none⟩ = some u → w'.cell? ⟨b, o, none⟩ = some u := by
    intro F hF hFl
    refine ⟨fun b hbF hv' => ?_, fun b hbF o u hu => hg.cell hu (fun e => hF b hbF e.symm)⟩
    -- the new value's block is the old one, or is new
    rcases hat with e1 | e1
    · exact hF b hbF (by rw [← e1]; exact hv')
    · rw [e1] at hv'; cases hv'; have := hFl _ hbF; omega
  refine ⟨v', w', hrun, ⟨cs ++ ds, by simp [h2, hds, hm], ?_, ?_, ?_⟩, ⟨hg.size, fun U hU hUn => Ext.own' hU h4 hUn hg⟩, ?_, fun e1 => by have := hiff.1 e1; exact ⟨this.2, this.1⟩⟩
  · intro d hd
    rcases List.mem_append.1 hd with hd | hd
    · exact h3 d hd
    · exact hsz d hd
  · rw [List.flatten_append, List.length_append, hm]; exact hown
  · intro j x d hx hd
    rcases Nat.lt_or_ge j l.length with hj | hj
    · rw [List.getElem?_append_left hj] at hx
      rw [List.getElem?_append_left (by rw [h2]; exact hj)] at hd
      obtain ⟨F, q1, q2⟩ := h5 j x d hx hd
      obtain ⟨k1, k2⟩ := hnb F q2 (R.lt q1)
      exact ⟨F, R.keep q1 k2, k1⟩
    · rw [List.getElem?_append_right hj] at hx
      rw [List.getElem?_append_right (by rw [h2]; exact hj), h2] at hd
      obtain ⟨F, q1, q2⟩ := hR _ x d hx hd
      obtain ⟨k1, k2⟩ := hnb F q2 (R.lt q1)
      exact ⟨F, R.keep q1 k2, k1⟩
  · rcases hown.2 with ⟨q, _⟩ | ⟨g, cap, cur, q, _, _, q3, _⟩
    · exact .inl q
    · exact .inr ⟨g, cap, q, q3⟩
theorem own_app1 {α : Type} {R : Rep α} {P : Program} {t ty e : TypeId} {z : Value} {size bytes : Nat} (E : ElemT P t e z size bytes) {n₀ : Nat} {v : Value} {w : World} {l : List α} (h : OwnL R n₀ e size v w l) (hn : n₀ ≤ w.heap.size) {k : Nat} (hl : l.length = k)
  {O c : Nat} {x : α} {d : List Value} {F : List Nat} (hsz : d.length = size) (hcell : ∀ j u, d[j]? = some u → w.cell? ⟨O, j, none⟩ = some u) (h1 : ∀ u ∈ d, u.oneCell' = true)
  (hR : R.rel w d x F) (hF : ∀ b ∈ F, v.ownBlock ≠ some b) (hb : (k + 1) * bytes ≤ 140737488355328) (hmax : k + 1 ≤ 9223372036854775807) :
  ∃ g cap w', (Builtin.append_ #[t, t] ty #[v, .slice (some ⟨O, 0, none⟩) 1 c]).run P w = .ok (.slice (some ⟨g, 0, none⟩) (k + 1) cap) w' ∧ OwnL R n₀ e size (.slice (some ⟨g, 0, none⟩) (k + 1) cap) w' (l ++ [x]) ∧ Grew n₀ w w' := by
 subst hl
 obtain ⟨v', w', h2, h3, h4, h5, h6⟩ := own_app E h hn (a := ⟨O, 0, none⟩) (m := 1) (c := c) (xs := [x]) (ds := [d]) rfl rfl (by simpa using hsz) (fun j u hj => by
   rw [Addr.add_mid, Nat.zero_add]; exact hcell j u (by simpa using hj)) (by simpa using h1) (fun j y e hy he => by
   match j, hy, he with
   | 0, hy, he => simp at hy he; subst hy he; exact ⟨F, hR, hF⟩
   | _ + 1, hy, _ => simp at hy) hb hmax
 rcases h5 with rfl | ⟨g, cap, rfl, _⟩
 · have := h6 rfl; omega
 · exact ⟨g, cap, w', h2, h3, h4⟩
theorem away1 {v : Value} {m B : Nat} (h : ∀ b, v.ownBlock = some b → b < m) (h1 : m ≤ B) : ∀ b ∈ [B], v.ownBlock ≠ some b := fun b hb he => by
 have := h b he; rw [List.mem_singleton.1 hb] at this; omega
theorem OwnL.base {α : Type} {R : Rep α} {n₀ : Nat} {e : TypeId} {size : Nat} {v : Value} {w : World} {l : List α} (h : OwnL R n₀ e size v w l) : ∀ b, v.ownBlock = some b → n₀ ≤ b := by
 obtain ⟨cs, h1, h2, h3, h4⟩ := h
 exact fun b hb => (h3.lt b hb).1
theorem sn_newS0 {P : Program} {ev : Operand → Value} {oi : Oper} {w : World} {N : Value → World → Prop} {t : TypeId} (h1 : (execOp ev oi).run P w = .ok (.value (.slice (some ⟨w.heap.size, 0, none⟩) 0 0)) (w.alloc (.cells #[] t)))
  (h : ∀ O X, w.heap.size = O → X.heap.size = O + 1 → Ext w X → X.heap[O]? = some (.cells #[] t (0, 0)) → N (.slice (some ⟨O, 0, none⟩) 0 0) X) : StepN P ev oi w N :=
 sn_eff h1 (h _ _ rfl (by simp) (Ext.alloc (Ext.refl _) _) (heap_alloc_new w _))
theorem own_empty {w : World} {base O size : Nat} {e : TypeId} (h : w.heap[O]? = some (.cells #[] e (0, 0))) (hb : base ≤ O) : w.ownsRow base e size (.slice (some ⟨O, 0, none⟩) 0 0) 0 [] :=
 ⟨by simp, .inr ⟨O, 0, #[], rfl, hb, h, Nat.le_refl _, by unfold maxLen; omega, by simp, by simp⟩⟩
theorem OwnL.empty {α : Type} (R : Rep α) {n₀ O : Nat} {e : TypeId} {size : Nat} {w : World} (h : w.heap[O]? = some (.cells #[] e (0, 0))) (hb : n₀ ≤ O) : OwnL R n₀ e size (.slice (some ⟨O, 0, none⟩) 0 0) w [] :=
 ⟨[], rfl, (fun c hc => by cases hc), own_empty h hb, (fun j x c hx => by simp at hx)⟩
theorem app_none {P : Program} {w : World} {t e ty : TypeId} {z : Value} {size bytes : Nat} (E : ElemT P t e z size bytes) {b : Option Addr} {n c : Nat} {a : Option Addr} {k : Nat} (h : n ≤ c) :
  (Builtin.append_ #[t, t] ty #[.slice b n c, .slice a 0 k]).run P w = .ok (.slice b n c) w := by
 obtain ⟨i, hi, hz0, hz1, hz2⟩ := info_parts E.info
 cases a <;> cases b <;> simp [Builtin.append_, run_underlying E.under, sizeOf, typeInfo, hi, Builtin.lenOf, Builtin.firstCells, loadCells, loadCellsFrom, storeCells, h]
def freshR {α : Type} (n₀ : Nat) (R : Rep α) : Rep α where
 rel w c x F := R.rel w c x F ∧ ∀ b ∈ F, n₀ ≤ b
 keep := fun h hk => ⟨R.keep h.1 hk, h.2⟩
 lt := fun h => R.lt h.1
theorem fresh1 {n B : Nat} (h : n ≤ B) : ∀ b ∈ [B], n ≤ b := fun b hb => by rw [List.mem_singleton.1 hb]; exact h
theorem ex_append {P : Program} {ev : Operand → Value} {o : Oper} {w : World} {x y : Operand} {t1 t2 : TypeId} {v s v' : Value} {w' : World} (hop : o.op = .call { callee := .builtin .append, args := #[x, y], argTypes := #[t1, t2] }) (hx : ev x = v) (hy : ev y = s)
  (h : (Builtin.append_ #[t1, t2] o.type #[v, s]).run P w = .ok v' w') : (execOp ev o).run P w = .ok (.value v') w' := by
 simp [execOp, hop, resolve, invoke, builtin, hx, hy, h, Result.andThen]
instance {α : Type} {R : Rep α} {n₀ : Nat} {e : TypeId} {size : Nat} {v : Value} {w w' : World} {l : List α} : MvC w w' (OwnL R n₀ e size v w l) (OwnL R n₀ e size v w' l) := ⟨fun e h => h.ext e⟩
end Go.Proofs.YtajdohcgjgknmaaGreatDoor

namespace Go.Proofs.YtajdohcgjgknmaaGreatDoor
open Go.RowKit
theorem Ext.others {a b : World} (h : Ext a b) : KeepsOthers a b := ⟨h.size, fun k _ ho _ => (Below.block h k (Array.getElem?_eq_some_iff.1 ho).1).trans ho⟩
theorem wide_depth {n : Nat} : Fence.wide.depth.isSome = true → 1 ≤ n := fun h => by simp [Fence.wide] at h
structure KeepX (n₀ : Nat) (X : Nat → Prop) (A B : World) : Prop where
 size : A.heap.size ≤ B.heap.size
 block : ∀ k, k < n₀ → ¬ X k → B.heap[k]? = A.heap[k]?
theorem KeepX.refl (n₀ : Nat) (X : Nat → Prop) (A : World) : KeepX n₀ X A A := ⟨Nat.le_refl _, fun _ _ _ => rfl⟩
theorem KeepX.trans {n₀ : Nat} {X : Nat → Prop} {A B C : World} (h : KeepX n₀ X A B) (k : KeepX n₀ X B C) : KeepX n₀ X A C :=
 ⟨T h.size k.size, fun i hi hx => (k.block i hi hx).trans (h.block i hi hx)⟩
theorem KeepX.of_below {n₀ : Nat} {X : Nat → Prop} {A B : World} (h : Below n₀ A B) : KeepX n₀ X A B := ⟨h.size, fun k hk _ => h.block k hk⟩
theorem KeepX.of_ext {n₀ : Nat} {X : Nat → Prop} {A B : World} (h : Ext A B) (hn : n₀ ≤ A.heap.size) : KeepX n₀ X A B := KeepX.of_below (Below.mono h hn)
theorem KeepX.cell {n₀ : Nat} {X : Nat → Prop} {A B : World} (h : KeepX n₀ X A B) {b o : Nat} (hb : b < n₀) (hx : ¬ X b) : B.cell? ⟨b, o, none⟩ = A.cell? ⟨b, o, none⟩ := World.cell?_of_block (w := A) (h.block b hb hx)
theorem KeepX.setCell {n₀ : Nat} {X : Nat → Prop} (A : World) {p : Addr} (hp : X p.block) (u : Value) : KeepX n₀ X A (A.setCell p u) :=
 ⟨by simp [World.setCell], fun k _ hx => Below.heap_setCell _ _ _ _ (fun e => hx (e ▸ hp))⟩
theorem KeepX.putObj {n₀ : Nat} {X : Nat → Prop} {w : World} (hn : n₀ ≤ w.heap.size) (W : World) (l : Nat) (o o' : Obj) (hl : w.heap.size ≤ l) (h : W.heap[l]? = some o) (hc : o.isCells = false) (hw : o.isWalk = false) : KeepX n₀ X W (W.putObj l o') :=
 KeepX.of_below (belowK_b hn W l o o' hl h hc hw)
theorem Ext.shut {w W : World} {D : Nat} (h : Ext w W) (hD : w.heap.size ≤ D) (hK : W.heap[D]? = some (.deferred (some []))) : Ext w (W.putObj D (.deferred none)) :=
 Below.trans h (belowK_b (w := w) (Nat.le_refl _) W D _ _ hD hK rfl rfl)
end Go.Proofs.YtajdohcgjgknmaaGreatDoor

namespace Go.Proofs.YtajdohcgjgknmaaGreatDoor
open Go.RowKit
def recOf (a : Act) (ps : Array Tmp) (assign body : Code) (fn : FuncId) (D : Nat) (st : LoopState) (pe : Option Code) : Loop := { state := st, pending := pe, fn, tmps := a.tmps, params := ps, assign, body, defers := D }
theorem leaves_marks {F : Fence} {n : Nat} {P : Program} {fn : Func} {tmps : Array Value} {R : Ending → World → Prop} (n₀ : Nat) (Pw : World → Prop)
  (hP : ∀ D W, n₀ ≤ D → Pw W → W.heap[D]? = some (.deferred (some [])) → Pw (W.putObj D (.deferred none))) (hend : ∀ W, Pw W → LeavesIn F n P fn tmps R [] .returning W) :
  ∀ (Ds : List Nat) (W : World), Ds.Nodup → (∀ D ∈ Ds, n₀ ≤ D ∧ W.heap[D]? = some (.deferred (some []))) → Pw W → LeavesInM F n P fn tmps R (Ds.map fun D => { target := .collected D, args := #[] }) .returning W
 | [], W, _, _, h => hend W h
 | D :: r, W, hn, hd, h => by
  obtain ⟨hD, hn'⟩ := List.nodup_cons.1 hn
  obtain ⟨h0, h1⟩ := hd D (by simp)
  refine ⟨by simp, .inl ⟨D, _, rfl, run_takeDeferred h1, ?_⟩⟩
  refine leaves_marks n₀ Pw hP hend r _ hn' (fun D' hD' => ?_) (hP D W h0 h h1)
  obtain ⟨q0, q1⟩ := hd D' (by simp [hD'])
  exact ⟨q0, (World.putObj_heap_other (fun e => hD (by rw [← e]; exact hD'))).trans q1⟩
end Go.Proofs.YtajdohcgjgknmaaGreatDoor

namespace Go.Proofs.YtajdohcgjgknmaaGreatDoor
open Go.RowKit
def FR (r : Option Nat) : Fence := { Fence.wide with round := r }
def marks (Ds : List Nat) : List Deferred := Ds.map fun D => { target := .collected D, args := #[] }
section
variable {P : Program} {n : Nat} {L : List Value} {ws : List (Nat × Value)} {w : World} {Q : Exit → Act → World → Prop} {r : Option Nat} {m : Nat} {Ds : List Nat}
theorem calls_fr {f : FuncId} {args : Array Value} {R : Ending → World → Prop} (h : Calls P f args w R) : CallsIn (FR r) m P f args w R := (callsIn_wide (n := m)).2 h
theorem semAt_of {ev : Operand → Value} {o : Oper} {nx : Next} {w' : World} (h : (execOp ev o).run P w = .ok nx w') (hd : ∀ d, nx ≠ .defer d) : (o.semAt r ev).run P w = .ok nx w' := by
  rw [Oper.semAt_eq]
  · exact h
  · intro c hc
    simp only [execOp, hc, Sem.run_bind] at h
    cases e : (resolve ev c o.type).run P w with
    | ok d w1 => rw [e] at h; simp [Result.andThen] at h; exact hd _ h.1.symm
    | halt x w1 => rw [e] at h; simp [Result.andThen] at h
theorem StepN.wpI {ev : Operand → Value} {oi : Oper} {N : Value → World → Prop} {a : Act} {K : Act → World → Prop} (h : StepN P ev oi w N) (he : a.eval = ev) (hK : ∀ v w', N v w' → K (a.put oi.dst v) w') : Oper.wpIn (FR r) m P oi a w K Q := by
  refine ⟨fun _ _ => trivial, ?_⟩
  rw [he]
  show oi.uponIn (FR r) m P a K Q ((oi.semAt r ev).run P w)
  rcases h with ⟨v, w', h1, h3⟩ | ⟨w', h1, h3⟩ | ⟨f, args, h1, h2⟩
  · rw [semAt_of h1 (by simp), Oper.uponIn_value]; exact hK v w' h3
  · rw [semAt_of h1 (by simp), Oper.uponIn_skip]; exact hK undef w' h3
  · rw [semAt_of h1 (by simp), Oper.uponIn_enter]
    exact ⟨fun h => by simp [FR, Fence.wide] at h, calls_fr (h2.mono fun e w' ⟨v, he, hn⟩ => by subst he; exact hK v w' hn)⟩
def StepY (P : Program) (m : Nat) (ev : Operand → Value) (oi : Oper) (w : World) (N : Value → World → Prop) : Prop :=
 ∃ l fn tmps assign body, (execOp ev oi).run P w = .ok (.round l fn tmps assign body) w ∧ RoundIn Fence.wide (m - 1) P l fn tmps assign body w fun e w' => ∃ v, e = .returned v ∧ N v w'
theorem StepY.wpI {ev : Operand → Value} {oi : Oper} {N : Value → World → Prop} {a : Act} {K : Act → World → Prop} (h : StepY P m ev oi w N) (he : a.eval = ev) (hK : ∀ v w', N v w' → K (a.put oi.dst v) w') : Oper.wpIn (FR r) m P oi a w K Q := by
 refine ⟨fun _ _ => trivial, ?_⟩
 rw [he]
 show oi.uponIn (FR r) m P a K Q ((oi.semAt r ev).run P w)
 obtain ⟨l, fn, tmps, assign, body, h1, h2⟩ := h
 rw [semAt_of h1 (by simp), Oper.uponIn_round]
 exact ⟨fun h => by simp [FR, Fence.wide] at h, (RoundIn.mono h2 fun e w' ⟨v, he, hn⟩ => by subst he; exact hK v w' hn : RoundIn Fence.wide (m - 1) P l fn tmps assign body w _)⟩
theorem sy_yield {ev : Operand → Value} {oi : Oper} {x : Operand} {ys : Array Operand} {ts : Array TypeId} {l : Nat} {args : Array Value} {N : Value → World → Prop} (hop : oi.op = .call { callee := .value x, args := ys, argTypes := ts }) (hx : ev x = .func (.yield l) #[] #[]) (hy : ys.map ev = args)
  (h : YieldAt Fence.wide (m - 1) P l args w fun e w' => ∃ v, e = .returned v ∧ N v w') : StepY P m ev oi w N := by
 obtain ⟨fn, tmps, assign, body, h1, h2⟩ := h
 refine ⟨l, fn, tmps, assign, body, ?_, h2⟩
 simp only [execOp, hop, resolve, hx, hy, Sem.run_bind]
 simp [Result.andThen, invoke, h1, Deferred.ofValue]
structure ICW (P : Program) (r : Option Nat) (m : Nat) (Ds : List Nat) (c : Code) (Q : Exit → Act → World → Prop) (n : Nat) (L : List Value) (ws : List (Nat × Value)) (w : World) : Prop where
 out : Bd n L ws → c.wpIn (FR r) m P Q ⟨(setAll L ws).toArray, marks Ds⟩ w
structure IQW (Ds : List Nat) (Q : Exit → Act → World → Prop) (e : Exit) (n : Nat) (L : List Value) (ws : List (Nat × Value)) (w : World) : Prop where
 out : Bd n L ws → Q e ⟨(setAll L ws).toArray, marks Ds⟩ w
structure IPL (P : Program) (r : Option Nat) (m : Nat) (Ds : List Nat) (ops rest : List Oper) (Q : Exit → Act → World → Prop) (n : Nat) (L : List Value) (ws : List (Nat × Value)) (w : World) : Prop where
 out : Bd n L ws → wpListIn (FR r) m P ops.toArray Q rest ⟨(setAll L ws).toArray, marks Ds⟩ w
def IBody (m : Nat) (P : Program) (fn : Func) (R : Ending → World → Prop) : Exit → Act → World → Prop
 | .normal, a, w => bodyPostM Fence.wide m P fn R .normal a w
 | .ret, a, w => bodyPostM Fence.wide m P fn R .ret a w
 | _, _, _ => False
theorem icalls {f : FuncId} {fn : Func} {c : Code} {av : List Value} {R : Ending → World → Prop} (n : Nat) (ws : List (Nat × Value)) (hf : P.funcs[f]? = some fn) (hb : fn.body = some c) (hn : fn.ntmps = n)
  (he : av ++ List.replicate (n - av.length) undef = setAll (List.replicate n undef) ws) (hl : ws.all (fun p => Nat.blt p.1 n) = true)
  (h : ∀ L m, ICW P none m [] c (IBody m P fn R) n L ws w) : CallsIn Fence.wide m P f av.toArray w R := by
 refine callsIn_of_wp_marks hf hb trivial ?_ rfl
 have e : (av.toArray ++ Array.replicate (fn.ntmps - av.toArray.size) undef : Array Value) = (setAll (List.replicate n undef) ws).toArray := by
  rw [hn, ← he]; simp
 rw [e]
 refine Go.wpIn_mono ((h _ m).out ⟨List.length_replicate, fun p hp => Nat.blt_eq.mp (List.all_eq_true.1 hl p hp)⟩) fun e a' w' q => ?_
 cases e with
 | normal => exact q
 | ret => exact q
 | _ => exact q.elim
theorem icalls_cw {f : FuncId} {fn : Func} {c : Code} {av : List Value} {R : Ending → World → Prop} (n : Nat) (ws : List (Nat × Value)) (hf : P.funcs[f]? = some fn) (hb : fn.body = some c) (hn : fn.ntmps = n)
  (he : av ++ List.replicate (n - av.length) undef = setAll (List.replicate n undef) ws) (hl : ws.all (fun p => Nat.blt p.1 n) = true)
  (h : ∀ L m, ICW P none m [] c (IBody m P fn R) n L ws w) : Calls P f av.toArray w R := (callsIn_wide (n := 0)).1 (icalls n ws hf hb hn he hl h)
theorem icw_seq {x y : Code} (h : ICW P r m Ds x (Exit.then (y.wpIn (FR r) m P Q) Q) n L ws w) : ICW P r m Ds (.seq x y) Q n L ws w := ⟨fun b => wpIn_seq (h.out b)⟩
theorem icw_block {id : Nat} {c : Code} (h : ICW P r m Ds c (Exit.inBlock id Q) n L ws w) : ICW P r m Ds (.block id c) Q n L ws w := ⟨fun b => wpIn_block (h.out b)⟩
theorem icw_skip (h : IQW Ds Q .normal n L ws w) : ICW P r m Ds .skip Q n L ws w := ⟨fun b => wpIn_skip (h.out b)⟩
theorem icw_exit {id : Nat} (h : IQW Ds Q (.exit id) n L ws w) : ICW P r m Ds (.exit id) Q n L ws w := ⟨fun b => wpIn_exit (h.out b)⟩
theorem icw_ret (h : IQW Ds Q .ret n L ws w) : ICW P r m Ds .ret Q n L ws w := ⟨fun b => wpIn_ret (h.out b)⟩
theorem icw_plain {id : Nat} {l : List Oper} (h : IPL P r m Ds l l Q n L ws w) : ICW P r m Ds (.region id l.toArray false) Q n L ws w := ⟨fun b => wpIn_region_lit (h.out b)⟩
theorem icw_t {c : Operand} {x y : Code} (hc : evalW L ws c = .bool true) (h : ICW P r m Ds x Q n L ws w) : ICW P r m Ds (.cond c x y) Q n L ws w := ⟨fun b => wpIn_cond_true (by rw [eval_W b.lt]; exact hc) (h.out b)⟩
theorem icw_f {c : Operand} {x y : Code} (hc : evalW L ws c = .bool false) (h : ICW P r m Ds y Q n L ws w) : ICW P r m Ds (.cond c x y) Q n L ws w := ⟨fun b => wpIn_cond_false (by rw [eval_W b.lt]; exact hc) (h.out b)⟩
theorem iqw_then {y : Code} (h : ICW P r m Ds y Q n L ws w) : IQW Ds (Exit.then (y.wpIn (FR r) m P Q) Q) .normal n L ws w := ⟨h.out⟩
theorem iqw_then_ret {K : Act → World → Prop} (h : IQW Ds Q .ret n L ws w) : IQW Ds (Exit.then K Q) .ret n L ws w := ⟨h.out⟩
theorem iqw_then_exit {K : Act → World → Prop} {id : Nat} (h : IQW Ds Q (.exit id) n L ws w) : IQW Ds (Exit.then K Q) (.exit id) n L ws w := ⟨h.out⟩
theorem iqw_block {id : Nat} (h : IQW Ds Q .normal n L ws w) : IQW Ds (Exit.inBlock id Q) .normal n L ws w := ⟨h.out⟩
theorem iqw_block_ret {id : Nat} (h : IQW Ds Q .ret n L ws w) : IQW Ds (Exit.inBlock id Q) .ret n L ws w := ⟨h.out⟩
theorem iqw_block_out {id : Nat} (h : IQW Ds Q .normal n L ws w) : IQW Ds (Exit.inBlock id Q) (.exit id) n L ws w := ⟨fun b => by
 show (if id = id then _ else _)
 rw [if_pos rfl]; exact h.out b⟩
theorem ipl_nil {ops : List Oper} (h : IQW Ds Q .normal n L ws w) : IPL P r m Ds ops [] Q n L ws w := ⟨h.out⟩
theorem wantP_specD {ops : List Oper} {o : Oper} {b : Bool} (h : Bd n L ws) (hok : ∀ x ∈ ops, ∀ d, x.dst = some d → d < n) (hw : wantP ops L ws o.guard = b) :
  Region.wanted o (yielded ops.toArray (⟨(setAll L ws).toArray, marks Ds⟩ : Act).tmps) = b := wantP_spec h hok hw
theorem ipl_take {ops rest : List Oper} {o : Oper} {d : Nat} (v : Value) (hdst : o.dst = some d) (hok : dstOk n ops = true) (hd : Nat.blt d n = true) (hw : wantP ops L ws o.guard = true)
  (hr : (execOp (evalW L ws) o).run P w = .ok (.value v) w) (h : IPL P r m Ds ops rest Q n L ((d, v) :: ws) w) : IPL P r m Ds ops (o :: rest) Q n L ws w := ⟨fun b => by
 refine wpListIn_step fun K hK => ?_
 rw [if_pos (wantP_specD b (dstOk_spec hok) hw)]
 refine StepN.wpI (N := fun v' w' => v' = v ∧ w' = w) (.inl ⟨v, w, hr, rfl, rfl⟩) (eval_W b.lt _) fun v' w' ⟨e1, e2⟩ => hK _ _ ?_
 subst e1 e2
 rw [put_W, hdst]; exact h.out (b.put hd)⟩
theorem ipl_skip {ops rest : List Oper} {o : Oper} {d : Nat} (hdst : o.dst = some d) (hok : dstOk n ops = true) (hd : Nat.blt d n = true) (hw : wantP ops L ws o.guard = false)
  (h : IPL P r m Ds ops rest Q n L ((d, undef) :: ws) w) : IPL P r m Ds ops (o :: rest) Q n L ws w := ⟨fun b => by
 refine wpListIn_step fun K hK => ?_
 rw [if_neg (by rw [wantP_specD b (dstOk_spec hok) hw]; simp)]
 refine ⟨fun _ _ => trivial, hK _ _ ?_⟩
 rw [put_W, hdst]; exact h.out (b.put hd)⟩
theorem ipl_step {ops rest : List Oper} {o : Oper} {d : Nat} (hdst : o.dst = some d) (hok : dstOk n ops = true) (hd : Nat.blt d n = true) (hw : wantP ops L ws o.guard = true)
  (h : StepN P (evalW L ws) o w fun v w' => IPL P r m Ds ops rest Q n L ((d, v) :: ws) w') : IPL P r m Ds ops (o :: rest) Q n L ws w := ⟨fun b => by
 refine wpListIn_step fun K hK => ?_
 rw [if_pos (wantP_specD b (dstOk_spec hok) hw)]
 exact h.wpI (eval_W b.lt _) fun v w' hn => hK _ _ (by rw [put_W, hdst]; exact hn.out (b.put hd))⟩
theorem ipl_yield {ops rest : List Oper} {o : Oper} {d : Nat} (hdst : o.dst = some d) (hok : dstOk n ops = true) (hd : Nat.blt d n = true) (hw : wantP ops L ws o.guard = true)
  (h : StepY P m (evalW L ws) o w fun v w' => IPL P r m Ds ops rest Q n L ((d, v) :: ws) w') : IPL P r m Ds ops (o :: rest) Q n L ws w := ⟨fun b => by
 refine wpListIn_step fun K hK => ?_
 rw [if_pos (wantP_specD b (dstOk_spec hok) hw)]
 exact h.wpI (eval_W b.lt _) fun v w' hn => hK _ _ (by rw [put_W, hdst]; exact hn.out (b.put hd))⟩
theorem ipl_put {ops rest : List Oper} {o : Oper} (hdst : o.dst = none) (hok : dstOk n ops = true) (hw : wantP ops L ws o.guard = true)
  (h : StepN P (evalW L ws) o w fun _ w' => IPL P r m Ds ops rest Q n L ws w') : IPL P r m Ds ops (o :: rest) Q n L ws w := ⟨fun b => by
 refine wpListIn_step fun K hK => ?_
 rw [if_pos (wantP_specD b (dstOk_spec hok) hw)]
 exact h.wpI (eval_W b.lt _) fun v w' hn => hK _ _ (by rw [put_W, hdst]; exact hn.out b)⟩
theorem icw_clean {c : Code} (ks : List Nat) {ws' : List (Nat × Value)} (hp : pickW ws ks = some ws') (h : ∀ L', ICW P r m Ds c Q n L' ws' w) : ICW P r m Ds c Q n L ws w := ⟨fun b => by
 have := (h (setAll L ws)).out (pick_bd hp b)
 rwa [pick_set hp] at this⟩
def ILoopK (n : Nat) (Ds : List Nat) (Inv : List (Nat × Value) → World → Nat → Prop) (m : Nat) : Act → World → Prop := fun a w => ∃ L' ws' m', m' < m ∧ Bd n L' ws' ∧ a = ⟨(setAll L' ws').toArray, marks Ds⟩ ∧ Inv ws' w m'
open Classical in
theorem icw_loop {c : Code} (ks : List Nat) (Inv : List (Nat × Value) → World → Nat → Prop) {ws0 : List (Nat × Value)} (hp : pickW ws ks = some ws0) (m0 : Nat) (h0 : Inv ws0 w m0)
  (round : ∀ k L' ws' w', Inv ws' w' k → ICW P r m Ds c (Exit.then (ILoopK n Ds Inv k) Q) n L' ws' w') : ICW P r m Ds (.loop c) Q n L ws w := ⟨fun b => by
 let J : Nat → Act → World → Prop := fun k a w => ∃ L' ws', Bd n L' ws' ∧ a = ⟨(setAll L' ws').toArray, marks Ds⟩ ∧ Inv ws' w k
 let μ : Act → World → Nat := fun a w => if h : ∃ k, J k a w then Classical.choose (least h) else 0
 have hμ : ∀ a w (h : ∃ k, J k a w), J (μ a w) a w ∧ ∀ k, J k a w → μ a w ≤ k := fun a w h => by
  have e : μ a w = Classical.choose (least h) := dif_pos h
  rw [e]; exact Classical.choose_spec (least h)
 refine wpIn_loop (fun a w => ∃ k, J k a w) μ ⟨m0, setAll L ws, ws0, pick_bd hp b, by rw [pick_set hp], h0⟩ fun a w h => ?_
 obtain ⟨⟨L', ws', hb, ha, hI⟩, _⟩ := hμ a w h
 have := (round (μ a w) L' ws' w hI).out hb
 rw [← ha] at this
 refine Go.wpIn_mono this (fun e a' w' q => ?_)
 cases e with
 | normal =>
  obtain ⟨L2, ws2, m2, hlt, hb2, ha2, hI2⟩ := q
  have hJ : J m2 a' w' := ⟨L2, ws2, hb2, ha2, hI2⟩
  exact ⟨⟨m2, hJ⟩, Nat.lt_of_le_of_lt ((hμ a' w' ⟨m2, hJ⟩).2 m2 hJ) hlt⟩
 | _ => exact q⟩
theorem iqw_round {Inv : List (Nat × Value) → World → Nat → Prop} {k : Nat} (ks : List Nat) {ws' : List (Nat × Value)} (hp : pickW ws ks = some ws') (m' : Nat) (hlt : m' < k) (h : Inv ws' w m') : IQW Ds (Exit.then (ILoopK n Ds Inv k) Q) .normal n L ws w := ⟨fun b =>
 ⟨setAll L ws, ws', m', hlt, pick_bd hp b, by rw [pick_set hp], h⟩⟩
end
structure Mv (n₀ : Nat) (A B : World) : Prop where
 os : B.os = A.os
 tape : B.tape = A.tape
 output : B.output = A.output
 size : A.heap.size ≤ B.heap.size
 cells : ∀ (k : Nat) (o : Obj), A.heap[k]? = some o → o.isCells = true → B.heap[k]? = some o
 below : ∀ (k : Nat), k < n₀ → k < A.heap.size → B.heap[k]? = A.heap[k]?
theorem Mv.refl (n₀ : Nat) (A : World) : Mv n₀ A A := ⟨rfl, rfl, rfl, Nat.le_refl _, fun _ _ h _ => h, fun _ _ _ => rfl⟩
theorem Mv.trans {n₀ : Nat} {A B C : World} (h : Mv n₀ A B) (k : Mv n₀ B C) : Mv n₀ A C :=
 ⟨k.os.trans h.os, k.tape.trans h.tape, k.output.trans h.output, T h.size k.size, fun i o hi ho => k.cells i o (h.cells i o hi ho) ho, fun i hi hl => (k.below i hi (Nat.lt_of_lt_of_le hl h.size)).trans (h.below i hi hl)⟩
theorem Mv.of_ext {n₀ : Nat} {A B : World} (h : Ext A B) : Mv n₀ A B :=
 ⟨h.os, h.tape, h.output, h.size, fun k _ hk _ => (h.block k (Array.getElem?_eq_some_iff.1 hk).1).trans hk, fun k _ hk => h.block k hk⟩
theorem Mv.putObj {n₀ : Nat} {A : World} {k : Nat} {o : Obj} (o' : Obj) (hk : n₀ ≤ k) (ho : A.heap[k]? = some o) (hc : o.isCells = false) : Mv n₀ A (A.putObj k o') :=
 ⟨rfl, rfl, rfl, by simp, fun j u hj hu => (World.putObj_heap_other (fun e => by subst e; rw [ho] at hj; cases hj; rw [hc] at hu; cases hu)).trans hj, fun j hj _ => World.putObj_heap_other (by omega)⟩
theorem Mv.ext {n₀ : Nat} {A B U : World} (h : Mv n₀ A B) (hU : Ext U A) (hn : U.heap.size ≤ n₀) : Ext U B :=
 ⟨h.os.trans hU.os, h.tape.trans hU.tape, h.output.trans hU.output, T hU.size h.size, fun k hk => (h.below k (Nat.lt_of_lt_of_le hk hn) (Nat.lt_of_lt_of_le hk hU.size)).trans (hU.block k hk)⟩
theorem Mv.cell {n₀ : Nat} {A B : World} (h : Mv n₀ A B) {p : Addr} {v : Value} (hv : A.cell? p = some v) : B.cell? p = some v := by
 obtain ⟨o, ho, hc⟩ := cells_of_cell hv
 exact (World.cell?_of_block ((h.cells _ o ho hc).trans ho.symm)).trans hv
theorem Mv.froz {n₀ : Nat} {A B : World} (h : Mv n₀ A B) {p : Addr} {v : Value} (hv : A.cell? p = some v) : B.frozen? p = A.frozen? p := by
 obtain ⟨o, ho, hc⟩ := cells_of_cell hv
 exact World.frozen?_of_block ((h.cells _ o ho hc).trans ho.symm)
theorem Mv.box {n₀ : Nat} {A B : World} (h : Mv n₀ A B) {b o : Nat} {v : Value} (hv : BoxAt A b o v) : BoxAt B b o v := ⟨h.cell hv.1, by rw [h.froz hv.1]; exact hv.2⟩
theorem Mv.va {n₀ : Nat} {A B : World} (h : Mv n₀ A B) {b o : Nat} {l : List Int} (hv : VA A b o l) : VA B b o l := ⟨fun i hi => h.cell (hv.1 i hi), hv.2⟩
theorem Mv.rows {n₀ : Nat} {A B : World} (h : Mv n₀ A B) {b : Nat} {l : List Int} (hv : RowsAt A b l) : RowsAt B b l := ⟨hv.1, fun i hi => h.cell (hv.cell hi), fun i hi => by rw [h.froz (hv.cell hi)]; exact hv.free hi⟩
theorem Mv.ints {n₀ : Nat} {A B : World} (h : Mv n₀ A B) {a : Option Addr} {l : List Int} (hv : IntsAt A a l) : IntsAt B a l := by
 rcases hv with q | ⟨b, off, rfl, q⟩
 · exact .inl q
 · exact .inr ⟨b, off, rfl, fun i hi => h.cell (q i hi)⟩
theorem Mv.own {α : Type} {R : Rep α} {n₀ n₁ : Nat} {e : TypeId} {size : Nat} {v : Value} {A B : World} {l : List α} (h : Mv n₁ A B) (ho : OwnL R n₀ e size v A l) : OwnL R n₀ e size v B l := by
  obtain ⟨cs, h1, h2, h3, h4⟩ := ho
  refine ⟨cs, h1, h2, ⟨h3.1, ?_⟩, fun j x c hx hc => ?_⟩
  · rcases h3.2 with q | ⟨g, cap, cur, q, hb, hcur, rest⟩
    · exact .inl q
    · exact .inr ⟨g, cap, cur, q, hb, h.cells _ _ hcur rfl, rest⟩
  · obtain ⟨F, q1, q2⟩ := h4 j x c hx hc
    exact ⟨F, R.keep q1 (fun b _ o u hu => h.cell hu), q2⟩
structure KeptX (X : Nat → Prop) (A B : World) : Prop where
 size : A.heap.size ≤ B.heap.size
 cells : ∀ (k : Nat) (o : Obj), A.heap[k]? = some o → o.isCells = true → ¬ X k → B.heap[k]? = some o
theorem KeptX.trans {X : Nat → Prop} {A B C : World} (h : KeptX X A B) (k : KeptX X B C) : KeptX X A C := ⟨T h.size k.size, fun i o hi ho hx => k.cells i o (h.cells i o hi ho hx) ho hx⟩
theorem KeptX.of_mv {X : Nat → Prop} {n₀ : Nat} {A B : World} (h : Mv n₀ A B) : KeptX X A B := ⟨h.size, fun k o hk ho _ => h.cells k o hk ho⟩
theorem KeptX.cell {X : Nat → Prop} {A B : World} (h : KeptX X A B) {b o : Nat} {v : Value} (hx : ¬ X b) (hv : A.cell? ⟨b, o, none⟩ = some v) : B.cell? ⟨b, o, none⟩ = some v := by
 obtain ⟨u, hu, hc⟩ := cells_of_cell hv
 exact (World.cell?_of_block ((h.cells _ u hu hc hx).trans hu.symm)).trans hv
theorem KeptX.box {X : Nat → Prop} {A B : World} (h : KeptX X A B) {b o : Nat} {v : Value} (hx : ¬ X b) (hv : BoxAt A b o v) : BoxAt B b o v := by
 obtain ⟨u, hu, hc⟩ := cells_of_cell hv.1
 exact ⟨h.cell hx hv.1, (World.frozen?_of_block ((h.cells _ u hu hc hx).trans hu.symm)).trans hv.2⟩
structure RK (n₀ : Nat) (X : Nat → Prop) (A B : World) : Prop where
 kept : KeptX X A B
 oth : KeepsFrom n₀ A B
theorem RK.refl (n₀ : Nat) (X : Nat → Prop) (A : World) : RK n₀ X A A := ⟨⟨Nat.le_refl _, fun _ _ h _ _ => h⟩, KeepsFrom.refl _ _⟩
theorem RK.ext {n₀ : Nat} {X : Nat → Prop} {A B C : World} (h : RK n₀ X A B) (e : Ext B C) : RK n₀ X A C :=
 ⟨h.kept.trans (KeptX.of_mv (n₀ := 0) (Mv.of_ext e)), h.oth.trans (e.others.from _)⟩
theorem RK.turn {n₀ : Nat} {X : Nat → Prop} {A B C : World} (h : RK n₀ X A B) {O : Nat} (t : Turns O B C) (hO : X O ∨ A.heap.size ≤ O) : RK n₀ X A C := by
  refine ⟨⟨by rw [t.size]; exact h.kept.size, fun k o hk ho hx => ?_⟩, ⟨by rw [t.size]; exact h.oth.size, fun k o hk hi ho => ?_⟩⟩
  · have hne : k ≠ O := fun e => by
      subst e
      rcases hO with q | q
      · exact hx q
      · have := (Array.getElem?_eq_some_iff.1 hk).1; omega
    rw [t.heap' k hne]; exact h.kept.cells k o hk ho hx
  · have h2 := h.oth.same k o hk hi ho
    by_cases e : k = O
    · subst e; exact t.oth' o h2 ho
    · rw [t.heap' k e]; exact h2
def SeqN (P : Program) (g : Nat) (lb : Array Value) (N : Nat) (encs : Nat → List Value) (Φ : Nat → World → Prop) (X : Nat → Prop) (w : World) : Prop :=
 ∀ (l : Nat) (J Jx : Nat → World → Prop) (W : World), Ext w W → (∀ i A B, J i A → Ext A B → J i B) → (∀ i A B, Jx i A → Ext A B → Jx i B) →
  (∀ i W1 m, i < N → J i W1 → Φ i W1 → YieldAt Fence.wide m P l (encs i).toArray W1 fun e W' => (e = .returned (.bool true) ∧ J (i + 1) W' ∧ KeptX X W1 W') ∨ (e = .returned (.bool false) ∧ Jx i W' ∧ KeptX X W1 W')) →
  J 0 W → ∀ n, CallsIn Fence.wide n P g (#[.func (.yield l) #[] #[]] ++ lb) W fun e W' => (∃ v, e = .returned v) ∧ (J N W' ∨ ∃ i, i < N ∧ Jx i W')
def RndQ (n₀ : Nat) (X : Nat → Prop) (Inv : Nat → World → Prop) (Ix : Code → Nat → World → Prop) (i : Nat) (W : World) : Exit → Act → World → Prop
 | .normal, _, W' => RK n₀ X W W' ∧ Inv (i + 1) W'
 | .ret, _, W' => RK n₀ X W W' ∧ Ix .ret i W'
 | .exit id, _, W' => RK n₀ X W W' ∧ Ix (.exit id) i W'
 | _, _, _ => False
def AsgQ (P : Program) (l k n₀ : Nat) (X : Nat → Prop) (body : Code) (Inv : Nat → World → Prop) (Ix : Code → Nat → World → Prop) (i : Nat) (W : World) : Exit → Act → World → Prop
 | .normal, a, w1 => RK n₀ X W w1 ∧ ∀ w2, Mv n₀ w1 w2 → body.wpIn (FR (some l)) k P (RndQ n₀ X Inv Ix i w2) a w2
 | _, _, _ => False
def zipW : List Nat → List Value → List (Nat × Value) → List (Nat × Value)
 | p :: ps, v :: vs, ws => zipW ps vs ((p, v) :: ws)
 | _, _, ws => ws
theorem zip_setL (L : List Value) : ∀ (ps : List Nat) (vs : List Value) (ws : List (Nat × Value)), (ps.zip vs).foldl (fun t (p, v) => t.setIfInBounds p v) (setAll L ws).toArray = (setAll L (zipW ps vs ws)).toArray
 | p :: ps, v :: vs, ws => by
  have ih := zip_setL L ps vs ((p, v) :: ws)
  rw [zipW, ← ih, List.zip_cons_cons, List.foldl_cons]
  simp [setAll]
 | [], vs, ws => by simp [zipW]
 | p :: ps, [], ws => by simp [zipW]
theorem zip_set (L : List Value) (ps : List Nat) (vs : List Value) (ws : List (Nat × Value)) : (ps.toArray.zip vs.toArray).foldl (fun t (p, v) => t.setIfInBounds p v) (setAll L ws).toArray = (setAll L (zipW ps vs ws)).toArray := by
 rw [← zip_setL, List.zip_toArray]
 exact List.foldl_toArray _ _ _
theorem zip_bd {n : Nat} {L : List Value} : ∀ {ps : List Nat} {vs : List Value} {ws : List (Nat × Value)}, Bd n L ws → ps.all (fun p => Nat.blt p n) = true → Bd n L (zipW ps vs ws)
 | p :: ps, v :: vs, ws, b, h => by
  simp only [List.all_cons, Bool.and_eq_true] at h
  exact zip_bd (ps := ps) (vs := vs) (b.put h.1) h.2
 | [], vs, ws, b, _ => b
 | p :: ps, [], ws, b, _ => b
section
variable {P : Program} {n : Nat} {L : List Value} {ws : List (Nat × Value)} {w : World} {Q : Exit → Act → World → Prop} {r : Option Nat} {m : Nat} {Ds : List Nat}
theorem icw_range {g : Operand} {ps : List Nat} {assign body : Code} {gf : Nat} {lb : Array Value} (hg : evalW L ws g = .func (.func gf) #[] lb) (eg : ∀ args w, (callFunc gf args).run P w = .ok (.enter gf args) w)
    {N : Nat} {encs : Nat → List Value} {Φ : Nat → World → Prop} {X : Nat → Prop} {w0 : World} (hseq : SeqN P gf lb N encs Φ X w0) (hb0 : Ext w0 w) (hps : ∀ i, (encs i).length = ps.length) (hpn : ps.all (fun p => Nat.blt p n) = true)
    (Inv : Nat → World → Prop) (Ix : Code → Nat → World → Prop) (hI : ∀ i A B, Inv i A → Mv w.heap.size A B → Inv i B) (hIx : ∀ c i A B, Ix c i A → Mv w.heap.size A B → Ix c i B) (h0 : Inv 0 w)
    (round : ∀ l k i W, i < N → Inv i W → Φ i W → ICW P (some l) k [] assign (AsgQ P l k w.heap.size X body Inv Ix i W) n L (zipW ps (encs i) ws) W)
    (done : ∀ D W, w.heap.size ≤ D → D < W.heap.size → Inv N W → W.heap[D]? = some (.deferred (some [])) → IQW (D :: Ds) Q .normal n L ws W)
    (stop : ∀ c D i W, w.heap.size ≤ D → D < W.heap.size → i < N → Ix c i W → W.heap[D]? = some (.deferred (some [])) → ICW P none m (D :: Ds) c Q n L ws W) :
    ICW P none m Ds (.rangeFunc g ps.toArray assign body) Q n L ws w := ⟨fun b => by
  have hgv : Act.eval ⟨(setAll L ws).toArray, marks Ds⟩ g = .func (.func gf) #[] lb := by rw [eval_W b.lt]; exact hg
  show (Code.rangeFunc g ps.toArray assign body).wpIn Fence.wide m P Q ⟨(setAll L ws).toArray, marks Ds⟩ w
  refine wpIn_rangeFunc fun fn hfn => ?_
  let R := recOf ⟨(setAll L ws).toArray, marks Ds⟩ ps.toArray assign body fn w.heap.size
  let W1 := (w.alloc (.deferred (some []))).alloc (.loop (R .ready none))
  have sz : W1.heap.size = w.heap.size + 2 := by simp [W1]
  have hL1 : W1.heap[w.heap.size + 1]? = some (.loop (R .ready none)) := by
    have := World.alloc_heap_new (w.alloc (.deferred (some []))) (.loop (R .ready none))
    rwa [World.size_alloc] at this
  have Bf : W1.heap[w.heap.size]? = some (.deferred (some [])) := (Below.heap_alloc _ _ _ (by simp)).trans (World.alloc_heap_new w _)
  have Bb : Ext w W1 := ((Ext.refl w).alloc _).alloc _
  refine ⟨w.heap.size + 1, [{ target := .collected w.heap.size, args := #[] }], W1, { target := .fn (.func gf) lb, args := #[.func (.yield (w.heap.size + 1)) #[] #[]] }, W1, gf, #[.func (.yield (w.heap.size + 1)) #[] #[]] ++ lb, W1,
    run_enterLoop_outer _ _ _ _ _, ?_, fun _ _ => trivial, by simp [invoke, go_sem, eg], fun h => by simp [Fence.wide] at h, ?_⟩
  · have hgv' : Act.eval ⟨(setAll L ws).toArray, marks Ds⟩ g = .func (.func gf) #[] lb := hgv
    simp only [resolve, hgv']; simp [go_sem]
  refine (hseq (w.heap.size + 1)
    (fun i W => Inv i W ∧ W.heap[w.heap.size + 1]? = some (.loop (R .ready none)) ∧ W.heap[w.heap.size]? = some (.deferred (some [])))
    (fun i W => ∃ c, Ix c i W ∧ W.heap[w.heap.size + 1]? = some (.loop (R .done (some c))) ∧ W.heap[w.heap.size]? = some (.deferred (some [])))
    W1 (hb0.trans Bb)
    (fun i A B hs e => ⟨hI i A B hs.1 (Mv.of_ext e), (e.block _ (Array.getElem?_eq_some_iff.1 hs.2.1).1).trans hs.2.1, (e.block _ (Array.getElem?_eq_some_iff.1 hs.2.2).1).trans hs.2.2⟩)
    (fun i A B ⟨c, h1, h2, h3⟩ e => ⟨c, hIx c i A B h1 (Mv.of_ext e), (e.block _ (Array.getElem?_eq_some_iff.1 h2).1).trans h2, (e.block _ (Array.getElem?_eq_some_iff.1 h3).1).trans h3⟩)
    ?_ ⟨hI 0 w W1 h0 (Mv.of_ext Bb), hL1, Bf⟩ _).mono ?_
  · rintro i W k hi ⟨hInv, hl, hk⟩ hx
    have hlt := (Array.getElem?_eq_some_iff.1 hl).1
    have hsz : (encs i).toArray.size = ps.toArray.size := by simp [hps i]
    refine ⟨fn, _, assign, body, run_yield (P := P) (args := (encs i).toArray) hl hsz, roundIn_of_wpIn (F := Fence.wide) hfn ?_⟩
    have hround := (round (w.heap.size + 1) k i W hi hInv hx).out (zip_bd b hpn)
    have e0 : (⟨(setAll L (zipW ps (encs i) ws)).toArray, marks []⟩ : Act) = { tmps := (ps.toArray.zip (encs i).toArray).foldl (fun t (p, v) => t.setIfInBounds p v) (setAll L ws).toArray, defers := [] } := by rw [zip_set]; rfl
    rw [e0] at hround
    refine Go.wpIn_mono hround fun e a1 w1 hp => ?_
    cases e with
    | normal =>
      obtain ⟨B6, hbody⟩ := hp
      have B3 := B6.oth.same _ _ (by omega) hl rfl
      have hkk := B6.oth.same _ _ (Nat.le_refl _) hk rfl
      have B4 := (Array.getElem?_eq_some_iff.1 B3).1
      refine ⟨_, run_beginRound B3 rfl, ?_⟩
      let W2 := w1.putObj (w.heap.size + 1) (.loop (R .busy none))
      have B7 : Mv w.heap.size w1 W2 := Mv.putObj _ (by omega) B3 rfl
      have Bc : W2.heap[w.heap.size + 1]? = some (.loop (R .busy none)) := World.putObj_heap_same B4
      have Be : W2.heap[w.heap.size]? = some (.deferred (some [])) := (World.putObj_heap_other (by omega)).trans hkk
      have leave : ∀ (jump : Option Code) (W3 : World), RK w.heap.size X W2 W3 →
          W3.heap[w.heap.size + 1]? = some (.loop (R .busy none)) ∧
          (Instr.endRound (w.heap.size + 1) jump).run P W3 = .ok (.bool jump.isNone) (W3.putObj (w.heap.size + 1) (.loop (R (if jump.isNone then .ready else .done) jump))) ∧
          (W3.putObj (w.heap.size + 1) (.loop (R (if jump.isNone then .ready else .done) jump))).heap[w.heap.size + 1]? = some (.loop (R (if jump.isNone then .ready else .done) jump)) ∧
          (W3.putObj (w.heap.size + 1) (.loop (R (if jump.isNone then .ready else .done) jump))).heap[w.heap.size]? = some (.deferred (some [])) ∧
          Mv w.heap.size W3 (W3.putObj (w.heap.size + 1) (.loop (R (if jump.isNone then .ready else .done) jump))) ∧ KeptX X W (W3.putObj (w.heap.size + 1) (.loop (R (if jump.isNone then .ready else .done) jump))) := fun jump W3 h3 => by
        have B0 := h3.oth.same _ _ (by omega) Bc rfl
        have Ba : Mv w.heap.size W3 (W3.putObj (w.heap.size + 1) (.loop (R (if jump.isNone then .ready else .done) jump))) := Mv.putObj _ (by omega) B0 rfl
        exact ⟨B0, run_endRound (P := P) jump B0, World.putObj_heap_same (Array.getElem?_eq_some_iff.1 B0).1, (World.putObj_heap_other (by omega)).trans (h3.oth.same _ _ (Nat.le_refl _) Be rfl), Ba, ((B6.kept.trans (KeptX.of_mv B7)).trans h3.kept).trans (KeptX.of_mv Ba)⟩
      refine Go.wpIn_mono (hbody W2 B7) fun e a3 W3 hp => ?_
      cases e with
      | normal =>
        obtain ⟨h3, B2⟩ := hp
        obtain ⟨B0, hr, q1, q2, q3, q4⟩ := leave none W3 h3
        exact ⟨_, _, hr, .inl ⟨rfl, ⟨hI _ _ _ B2 q3, q1, q2⟩, q4⟩⟩
      | ret =>
        obtain ⟨h3, B2⟩ := hp
        obtain ⟨B0, hr, q1, q2, q3, q4⟩ := leave (some .ret) W3 h3
        exact ⟨_, _, hr, .inr ⟨rfl, ⟨_, hIx _ _ _ _ B2 q3, q1, q2⟩, q4⟩⟩
      | exit id =>
        obtain ⟨h3, B2⟩ := hp
        obtain ⟨B0, hr, q1, q2, q3, q4⟩ := leave (some (.exit id)) W3 h3
        exact ⟨_, _, hr, .inr ⟨rfl, ⟨_, hIx _ _ _ _ B2 q3, q1, q2⟩, q4⟩⟩
      | goto _ => exact hp.elim
      | panic _ => exact hp.elim
      | outgrown => exact hp.elim
    | exit _ => exact hp.elim
    | ret => exact hp.elim
    | goto _ => exact hp.elim
    | panic _ => exact hp.elim
    | outgrown => exact hp.elim
  · rintro e W2 ⟨⟨v, rfl⟩, (⟨hi, hl, hk⟩ | ⟨i, hiN, c, hi, hl, hk⟩)⟩
    · exact ⟨none, _, run_endLoop (P := P) hl (by simp [R, recOf]), (done w.heap.size _ (Nat.le_refl _) (by have := (Array.getElem?_eq_some_iff.1 hk).1; simpa using this) (hI _ _ _ hi (Mv.putObj _ (by omega) hl rfl)) ((World.putObj_heap_other (by omega)).trans hk)).out b⟩
    · exact ⟨some c, _, run_endLoop (P := P) hl (by simp [R, recOf]), (stop c w.heap.size i _ (Nat.le_refl _) (by have := (Array.getElem?_eq_some_iff.1 hk).1; simpa using this) hiN (hIx _ _ _ _ hi (Mv.putObj _ (by omega) hl rfl)) ((World.putObj_heap_other (by omega)).trans hk)).out b⟩⟩
theorem iqw_asg {l k n₀ i : Nat} {X : Nat → Prop} {body : Code} {Inv : Nat → World → Prop} {Ix : Code → Nat → World → Prop} {W : World} (hk : RK n₀ X W w) (h : ∀ W2, Mv n₀ w W2 → ICW P (some l) k [] body (RndQ n₀ X Inv Ix i W2) n L ws W2) : IQW [] (AsgQ P l k n₀ X body Inv Ix i W) .normal n L ws w :=
 ⟨fun b => ⟨hk, fun w2 hm => (h w2 hm).out b⟩⟩
theorem iqw_next {n₀ i : Nat} {X : Nat → Prop} {Inv : Nat → World → Prop} {Ix : Code → Nat → World → Prop} {W : World} (hk : RK n₀ X W w) (h : Inv (i + 1) w) : IQW Ds (RndQ n₀ X Inv Ix i W) .normal n L ws w := ⟨fun _ => ⟨hk, h⟩⟩
theorem iqw_brk_ret {n₀ i : Nat} {X : Nat → Prop} {Inv : Nat → World → Prop} {Ix : Code → Nat → World → Prop} {W : World} (hk : RK n₀ X W w) (h : Ix .ret i w) : IQW Ds (RndQ n₀ X Inv Ix i W) .ret n L ws w := ⟨fun _ => ⟨hk, h⟩⟩
theorem ileave {fn : Func} {R : Ending → World → Prop} {rs : List ResultVar} (n₀ : Nat) (vs : List Value) (hf : fn.results = rs.toArray) (b : Bd n L ws) (hD : ∀ D ∈ Ds, n₀ ≤ D ∧ w.heap[D]? = some (.deferred (some []))) (hn : Ds.Nodup)
  (h : ∀ W, Mv n₀ w W → ResV P (evalW L ws) W rs vs ∧ R (.returned (resOf vs)) W) : LeavesInM Fence.wide m P fn (setAll L ws).toArray R (marks Ds) .returning w := by
 refine leaves_marks n₀ (fun W => Mv n₀ w W) (fun D W hD hW hk => hW.trans (Mv.putObj _ hD hk rfl)) (fun W hW => ?_) Ds w hn hD (Mv.refl _ _)
 obtain ⟨h1, h2⟩ := h W hW
 exact ⟨_, res_run (a := ⟨(setAll L ws).toArray, marks Ds⟩) hf (by rw [eval_W b.lt]; exact h1), h2⟩
theorem iqw_ret {fn : Func} {R : Ending → World → Prop} {rs : List ResultVar} (n₀ : Nat) (vs : List Value) (hf : fn.results = rs.toArray) (hD : ∀ D ∈ Ds, n₀ ≤ D ∧ w.heap[D]? = some (.deferred (some []))) (hn : Ds.Nodup)
  (h : ∀ W, Mv n₀ w W → ResV P (evalW L ws) W rs vs ∧ R (.returned (resOf vs)) W) : IQW Ds (IBody m P fn R) .ret n L ws w := ⟨fun b => ileave n₀ vs hf b hD hn h⟩
end
section
variable {P : Program} {ops : Array Oper} {Q : Exit → Act → World → Prop} {S : World → Prop} {r : Option Nat} {m : Nat}
def PureH (P : Program) (ops : Array Oper) (S : World → Prop) (o : Oper) (v : Value) (a : Act) : Prop :=
 (Region.wanted o (yielded ops a.tmps) = true ∧ ∀ w, S w → (execOp a.eval o).run P w = .ok (.value v) w) ∨ (Region.wanted o (yielded ops a.tmps) = false ∧ v = undef)
theorem PureH.same {o : Oper} {v : Value} {a a' : Act} (h : PureH P ops S o v a) (he : execOp a'.eval o = execOp a.eval o) (hw : Region.wanted o (yielded ops a'.tmps) = Region.wanted o (yielded ops a.tmps)) : PureH P ops S o v a' := by
 unfold PureH at *
 rw [hw, he]; exact h
theorem PureH.op {i : Nat} {o : Oper} {v : Value} {a : Act} (hi : ops[i]? = some o) (h : PureH P ops S o v a) {K : Act → World → Prop} {w : World} (hS : S w) (hk : K (a.put o.dst v) w) : wpOpIn (FR r) m P ops Q i K a w := by
  unfold wpOpIn
  simp only [hi]
  rcases h with ⟨hw, hv⟩ | ⟨hw, rfl⟩
  · rw [if_pos hw]
    refine ⟨fun _ _ => trivial, ?_⟩
    show o.uponIn (FR r) m P a K Q ((o.semAt r a.eval).run P w)
    rw [semAt_of (hv w hS) (by simp), Oper.uponIn_value]; exact hk
  · rw [if_neg (by rw [hw]; simp)]
    exact ⟨fun _ _ => trivial, hk⟩
end
section
variable {P : Program} {ops ops0 : Array Oper} {Q Q' : Exit → Act → World → Prop} {S : World → Prop} {T : List Row} {L : List Value} {Ds : List Nat} {fuel n : Nat} {done : List Nat} {ws : List (Nat × Value)} {w : World} {r : Option Nat} {m : Nat}
end
section
variable {P : Program} {n : Nat} {L : List Value} {ws : List (Nat × Value)} {w : World} {m : Nat}
theorem iqw_ret0 {fn : Func} {R : Ending → World → Prop} {rs : List ResultVar} (vs : List Value) (hf : fn.results = rs.toArray) (h : ResV P (evalW L ws) w rs vs) (hR : R (.returned (resOf vs)) w) : IQW [] (IBody m P fn R) .ret n L ws w := ⟨fun b => by
 show LeavesInM Fence.wide m P fn (setAll L ws).toArray R [] .returning w
 exact ⟨_, res_run (a := ⟨(setAll L ws).toArray, []⟩) hf (by rw [eval_W b.lt]; exact h), hR⟩⟩
theorem iqw_end0 {fn : Func} {R : Ending → World → Prop} {rs : List ResultVar} (vs : List Value) (hf : fn.results = rs.toArray) (h : ResV P (evalW L ws) w rs vs) (hR : R (.returned (resOf vs)) w) : IQW [] (IBody m P fn R) .normal n L ws w := ⟨fun b => by
 show LeavesInM Fence.wide m P fn (setAll L ws).toArray R [] .returning w
 exact ⟨_, res_run (a := ⟨(setAll L ws).toArray, []⟩) hf (by rw [eval_W b.lt]; exact h), hR⟩⟩
end
theorem yield_mono {F : Fence} {m : Nat} {P : Program} {l : Nat} {args : Array Value} {W : World} {R R' : Ending → World → Prop} (h : YieldAt F m P l args W R) (hr : ∀ e w', R e w' → R' e w') : YieldAt F m P l args W R' :=
 let ⟨fn, tmps, assign, body, h1, h2⟩ := h; ⟨fn, tmps, assign, body, h1, h2.mono hr⟩
theorem mk_turn {A B : World} {D O : Nat} {x : Option (List Deferred)} (h : A.heap[D]? = some (.deferred x)) (t : Turns O A B) : B.heap[D]? = some (.deferred x) := by
 by_cases e : D = O
 · subst e; exact t.oth' _ h rfl
 · rw [t.heap' D e]; exact h
theorem marksC {n₀ D : Nat} {w : World} {Ds : List Nat} (h : n₀ ≤ D) (hm : w.heap[D]? = some (.deferred (some []))) (hr : ∀ D' ∈ Ds, n₀ ≤ D' ∧ w.heap[D']? = some (.deferred (some []))) : ∀ D' ∈ D :: Ds, n₀ ≤ D' ∧ w.heap[D']? = some (.deferred (some [])) := fun D' hD => by
 rcases List.mem_cons.1 hD with rfl | hD
 · exact ⟨h, hm⟩
 · exact hr D' hD
structure Wrote (X : Nat → Prop) (A B : World) : Prop where
 os : B.os = A.os
 tape : B.tape = A.tape
 output : B.output = A.output
 size : A.heap.size ≤ B.heap.size
 same : ∀ (k : Nat), k < A.heap.size → ¬ X k → B.heap[k]? = A.heap[k]?
 oth : ∀ (k : Nat) (o : Obj), A.heap[k]? = some o → o.isCells = false → B.heap[k]? = some o
theorem Wrote.refl (X : Nat → Prop) (A : World) : Wrote X A A := ⟨rfl, rfl, rfl, Nat.le_refl _, fun _ _ _ => rfl, fun _ _ h _ => h⟩
theorem Wrote.trans {X : Nat → Prop} {A B C : World} (h : Wrote X A B) (k : Wrote X B C) : Wrote X A C :=
 ⟨k.os.trans h.os, k.tape.trans h.tape, k.output.trans h.output, T h.size k.size, fun i hi hx => (k.same i (Nat.lt_of_lt_of_le hi h.size) hx).trans (h.same i hi hx), fun i o hi ho => k.oth i o (h.oth i o hi ho) ho⟩
theorem Wrote.of_ext {X : Nat → Prop} {A B : World} (e : Ext A B) : Wrote X A B :=
 ⟨e.os, e.tape, e.output, e.size, fun k hk _ => e.block k hk, fun k o hk _ => (e.block k (Array.getElem?_eq_some_iff.1 hk).1).trans hk⟩
theorem Wrote.of_turns {X : Nat → Prop} {A B : World} {O : Nat} (t : Turns O A B) (hx : X O) : Wrote X A B := by
 have h0 : Ext { A with heap := #[] } A := ⟨rfl, rfl, rfl, Nat.zero_le _, fun k hk => absurd hk (Nat.not_lt_zero k)⟩
 have h1 := t.ext h0 (Nat.zero_le _)
 refine ⟨h1.os, h1.tape, h1.output, Nat.le_of_eq t.size.symm, fun k _ hk => t.heap' k (fun e => hk (e ▸ hx)), fun k o hk ho => ?_⟩
 by_cases e : k = O
 · subst e; exact t.oth' o hk ho
 · rw [t.heap' k e]; exact hk
theorem Wrote.step {X : Nat → Prop} {A B C : World} (h : Wrote X A B) (e : Ext B C) : Wrote X A C := h.trans (Wrote.of_ext e)
theorem Wrote.turn {X : Nat → Prop} {A B C : World} (h : Wrote X A B) {O : Nat} (t : Turns O B C) (hO : X O ∨ A.heap.size ≤ O) : Wrote X A C := by
  rcases hO with q | q
  · exact h.trans (Wrote.of_turns t q)
  · have k := Wrote.of_turns (X := fun k => k = O) t rfl
    exact ⟨k.os.trans h.os, k.tape.trans h.tape, k.output.trans h.output, T h.size k.size, fun i hi hx => (k.same i (Nat.lt_of_lt_of_le hi h.size) (fun e => by omega)).trans (h.same i hi hx), fun i o hi ho => k.oth i o (h.oth i o hi ho) ho⟩
theorem Wrote.ext {X : Nat → Prop} {A B U : World} (h : Wrote X A B) (hU : Ext U A) (hx : ∀ k, X k → U.heap.size ≤ k) : Ext U B :=
 ⟨h.os.trans hU.os, h.tape.trans hU.tape, h.output.trans hU.output, T hU.size h.size, fun k hk => (h.same k (Nat.lt_of_lt_of_le hk hU.size) (fun q => absurd hk (Nat.not_lt_of_le (hx k q)))).trans (hU.block k hk)⟩
theorem Wrote.kept {X Y : Nat → Prop} {A B : World} (h : Wrote X A B) (hx : ∀ k, X k → Y k) : KeptX Y A B :=
 ⟨h.size, fun k o hk _ hy => (h.same k (Array.getElem?_eq_some_iff.1 hk).1 (fun q => hy (hx k q))).trans hk⟩
theorem Wrote.cell {X : Nat → Prop} {A B : World} (h : Wrote X A B) {b o : Nat} {v : Value} (hb : ¬ X b) (hv : A.cell? ⟨b, o, none⟩ = some v) : B.cell? ⟨b, o, none⟩ = some v := (h.kept (fun _ q => q)).cell hb hv
theorem Wrote.box {X : Nat → Prop} {A B : World} (h : Wrote X A B) {b o : Nat} {v : Value} (hb : ¬ X b) (hv : BoxAt A b o v) : BoxAt B b o v := (h.kept (fun _ q => q)).box hb hv
theorem Wrote.va {X : Nat → Prop} {A B : World} (h : Wrote X A B) {b o : Nat} {l : List Int} (hb : ¬ X b) (hv : VA A b o l) : VA B b o l := ⟨fun i hi => h.cell hb (hv.1 i hi), hv.2⟩
theorem Wrote.rows {X : Nat → Prop} {A B : World} (h : Wrote X A B) {b : Nat} {l : List Int} (hb : ¬ X b) (hv : RowsAt A b l) : RowsAt B b l :=
 ⟨hv.1, fun i hi => h.cell hb (hv.cell hi), fun i hi => (h.box hb ⟨hv.cell hi, hv.free hi⟩).2⟩
theorem RK.wrote {n₀ : Nat} {X Y : Nat → Prop} {A B C : World} (h : RK n₀ X A B) (t : Wrote Y B C) (hY : ∀ k, Y k → X k ∨ A.heap.size ≤ k) : RK n₀ X A C := by
 refine ⟨⟨T h.kept.size t.size, fun k o hk ho hx => ?_⟩, ⟨T h.oth.size t.size, fun k o hk hi ho => t.oth k o (h.oth.same k o hk hi ho) ho⟩⟩
 have h2 := h.kept.cells k o hk ho hx
 refine (t.same k (Array.getElem?_eq_some_iff.1 h2).1 (fun q => ?_)).trans h2
 rcases hY k q with q | q
 · exact hx q
 · have := (Array.getElem?_eq_some_iff.1 hk).1; omega
theorem Wrote.wrote {X Y : Nat → Prop} {A B C : World} (h : Wrote X A B) (t : Wrote Y B C) (hY : ∀ k, Y k → X k ∨ A.heap.size ≤ k) : Wrote X A C :=
 ⟨t.os.trans h.os, t.tape.trans h.tape, t.output.trans h.output, T h.size t.size, fun k hk hx => (t.same k (Nat.lt_of_lt_of_le hk h.size) (fun q => (hY k q).elim hx (fun z => absurd hk (Nat.not_lt_of_le z)))).trans (h.same k hk hx), fun k o hk ho => t.oth k o (h.oth k o hk ho) ho⟩
instance {w w' : World} {n₀ : Nat} {X : Nat → Prop} {A : World} : MvC w w' (RK n₀ X A w) (RK n₀ X A w') := ⟨fun e h => h.ext e⟩
section
variable {P : Program} {n : Nat} {L : List Value} {ws : List (Nat × Value)} {w : World} {Q : Exit → Act → World → Prop} {r : Option Nat} {m : Nat} {Ds : List Nat}
theorem iU {ops rest : List Oper} {o : Oper} {d : Nat} (v : Value) (hr : (execOp (evalW L ws) o).run P w = .ok (.value v) w) (h : IPL P r m Ds ops rest Q n L ((d, v) :: ws) w)
    (hdst : o.dst = some d := by rfl) (hok : dstOk n ops = true := by kernel_rfl) (hd : Nat.blt d n = true := by kernel_rfl) (hw : wantP ops L ws o.guard = true := by kernel_rfl) : IPL P r m Ds ops (o :: rest) Q n L ws w := ipl_take v hdst hok hd hw hr h
theorem iT {ops rest : List Oper} {o : Oper} {d : Nat} (v : Value) (h : IPL P r m Ds ops rest Q n L ((d, v) :: ws) w)
    (hdst : o.dst = some d := by rfl) (hok : dstOk n ops = true := by kernel_rfl) (hd : Nat.blt d n = true := by kernel_rfl) (hw : wantP ops L ws o.guard = true := by kernel_rfl) (hr : (execOp (evalW L ws) o).run P w = .ok (.value v) w := by kernel_rfl) : IPL P r m Ds ops (o :: rest) Q n L ws w := ipl_take v hdst hok hd hw hr h
theorem iK {ops rest : List Oper} {o : Oper} {d : Nat} (h : IPL P r m Ds ops rest Q n L ((d, undef) :: ws) w)
    (hdst : o.dst = some d := by rfl) (hok : dstOk n ops = true := by kernel_rfl) (hd : Nat.blt d n = true := by kernel_rfl) (hw : wantP ops L ws o.guard = false := by kernel_rfl) : IPL P r m Ds ops (o :: rest) Q n L ws w := ipl_skip hdst hok hd hw h
theorem iS {ops rest : List Oper} {o : Oper} {d : Nat} (h : StepN P (evalW L ws) o w fun v w' => IPL P r m Ds ops rest Q n L ((d, v) :: ws) w')
    (hdst : o.dst = some d := by rfl) (hok : dstOk n ops = true := by kernel_rfl) (hd : Nat.blt d n = true := by kernel_rfl) (hw : wantP ops L ws o.guard = true := by kernel_rfl) : IPL P r m Ds ops (o :: rest) Q n L ws w := ipl_step hdst hok hd hw h
theorem iP {ops rest : List Oper} {o : Oper} (h : StepN P (evalW L ws) o w fun _ w' => IPL P r m Ds ops rest Q n L ws w')
    (hdst : o.dst = none := by rfl) (hok : dstOk n ops = true := by kernel_rfl) (hw : wantP ops L ws o.guard = true := by kernel_rfl) : IPL P r m Ds ops (o :: rest) Q n L ws w := ipl_put hdst hok hw h
end
end Go.Proofs.YtajdohcgjgknmaaGreatDoor

namespace Go.Proofs.YtajdohcgjgknmaaGreatDoor
open Go.RowKit
theorem own_app1k {α : Type} {R : Rep α} {P : Program} {t ty e : TypeId} {z : Value} {size bytes : Nat} (E : ElemT P t e z size bytes) {n₀ : Nat} {v : Value} {w : World} {l : List α} (h : OwnL R n₀ e size v w l) (hn : n₀ ≤ w.heap.size) {k : Nat} (hl : l.length = k)
    {O c : Nat} {x : α} {d : List Value} {F : List Nat} (hsz : d.length = size) (hcell : ∀ j u, d[j]? = some u → w.cell? ⟨O, j, none⟩ = some u) (h1 : ∀ u ∈ d, u.oneCell' = true)
    (hR : R.rel w d x F) (hF : ∀ b ∈ F, v.ownBlock ≠ some b) (hb : (k + 1) * bytes ≤ 140737488355328) (hmax : k + 1 ≤ 9223372036854775807) :
    ∃ g cap w', (Builtin.append_ #[t, t] ty #[v, .slice (some ⟨O, 0, none⟩) 1 c]).run P w = .ok (.slice (some ⟨g, 0, none⟩) (k + 1) cap) w' ∧ OwnL R n₀ e size (.slice (some ⟨g, 0, none⟩) (k + 1) cap) w' (l ++ [x]) ∧ Grew n₀ w w' ∧ w.grownBy w' v.ownBlock := by
  subst hl
  obtain ⟨cs, h2, h3, h4, h5⟩ := h
  obtain ⟨i, hi, hz0, hz1, hz2⟩ := info_parts E.info
  obtain ⟨v', w', hrun, hown, hg, hiff, hat⟩ := run_append_own_at (P := P) w n₀ t ty e i z size bytes E.under hi hz0 hz1 hz2 E.zs E.pos v l.length cs.flatten h4 ⟨O, 0, none⟩ 1 c d (by rw [hsz, Nat.one_mul]) (fun j u hj => by
    rw [Addr.add_mid, Nat.zero_add]; exact hcell j u hj) h1 (by unfold maxLen; exact hmax) hb hn
  have hnb : ∀ F : List Nat, (∀ b ∈ F, v.ownBlock ≠ some b) → (∀ b ∈ F, b < w.heap.size) → (∀ b ∈ F, v'.ownBlock ≠ some b) ∧ ∀ b ∈ F, ∀ o u, w.cell? ⟨b, o, none⟩ = some u → w'.cell? ⟨b, o, none⟩ = some u := by
    intro F hF hFl
    refine ⟨fun b hbF hv' => ?_, fun b hbF o u hu => hg.cell hu (fun e => hF b hbF e.symm)⟩
    rcases hat with e1 | e1
    · exact hF b hbF (by rw [← e1]; exact hv')
    · rw [e1] at hv'; cases hv'; have := hFl _ hbF; omega
  have hO : OwnL R n₀ e size v' w' (l ++ [x]) := ⟨cs ++ [d], by simp [h2], by
      intro y hy
      rcases List.mem_append.1 hy with hy | hy
      · exact h3 y hy
      · rw [List.mem_singleton.1 hy]; exact hsz, by rw [List.flatten_append, List.length_append]; simpa using hown, by
      intro j y c hx hc
      rcases Nat.lt_or_ge j l.length with hj | hj
      · rw [List.getElem?_append_left hj] at hx
        rw [List.getElem?_append_left (by rw [h2]; exact hj)] at hc
        obtain ⟨F, q1, q2⟩ := h5 j y c hx hc
        obtain ⟨k1, k2⟩ := hnb F q2 (R.lt q1)
        exact ⟨F, R.keep q1 k2, k1⟩
      · rw [List.getElem?_append_right hj] at hx
        rw [List.getElem?_append_right (by rw [h2]; exact hj), h2] at hc
        match hj' : j - l.length, hx, hc with
        | 0, hx, hc =>
          simp at hx hc; subst hx hc
          obtain ⟨k1, k2⟩ := hnb F hF (R.lt hR)
          exact ⟨F, R.keep hR k2, k1⟩
        | _ + 1, hx, _ => simp at hx⟩
  rcases hown.2 with ⟨q, _⟩ | ⟨g, cap, cur, q, _, _, q3, _⟩
  · have := (hiff.1 q).2; omega
  · subst q
    exact ⟨g, cap, w', hrun, hO, ⟨hg.size, fun U hU hUn => Ext.own' hU h4 hUn hg⟩, hg⟩
theorem own_not {v : Value} {n b : Nat} (h : ∀ b, v.ownBlock = some b → n ≤ b) (hb : b < n) : v.ownBlock ≠ some b := fun e => by have := h b e; omega
theorem own_not2 {v : Value} {m b : Nat} (h : ∀ b, v.ownBlock = some b → b < m) (hb : m ≤ b) : v.ownBlock ≠ some b := fun e => by have := h b e; omega
theorem away_cons {v : Value} {b : Nat} {F : List Nat} (h : v.ownBlock ≠ some b) (k : ∀ c ∈ F, v.ownBlock ≠ some c) : ∀ c ∈ b :: F, v.ownBlock ≠ some c := fun c hc => by
 rcases List.mem_cons.1 hc with rfl | hc
 · exact h
 · exact k c hc
theorem OwnL.turn {α : Type} {R : Rep α} {n₀ : Nat} {e : TypeId} {size : Nat} {v : Value} {w X : World} {l : List α} {O : Nat} (h : OwnL R n₀ e size v w l) (ho : Turns O w X) (h1 : v.ownBlock ≠ some O) (h2 : ∀ c x F, R.rel w c x F → ∀ b ∈ F, b ≠ O) : OwnL R n₀ e size v X l := by
  obtain ⟨cs, q1, q2, q3, q4⟩ := h
  refine ⟨cs, q1, q2, ⟨q3.1, ?_⟩, fun j x c hx hc => ?_⟩
  · rcases q3.2 with q | ⟨g, cap, cur, rfl, hb, hcur, rest⟩
    · exact .inl q
    · refine .inr ⟨g, cap, cur, rfl, hb, ?_, rest⟩
      rw [ho.heap' g (fun e => h1 (by rw [← e]; rfl))]; exact hcur
  · obtain ⟨F, k1, k2⟩ := q4 j x c hx hc
    exact ⟨F, R.keep k1 (fun b hb o u hu => ho.cell (fun e => h2 _ _ _ k1 b hb e.symm) hu), k2⟩
theorem RowsAt.grownR {w w' : World} {r : Option Nat} {b : Nat} {l : List Int} (h : RowsAt w b l) (hg : w.grownBy w' r) (hne : r ≠ some b) : RowsAt w' b l :=
 ⟨h.1, fun i hi => hg.cell (h.cell hi) (fun e => hne e.symm), fun i hi => (BoxAt.grownR ⟨h.cell hi, h.free hi⟩ hg hne).2⟩
theorem cell_grownR {w w' : World} {r : Option Nat} {b o : Nat} {v : Value} (h : w.cell? ⟨b, o, none⟩ = some v) (hg : w.grownBy w' r) (hne : r ≠ some b) : w'.cell? ⟨b, o, none⟩ = some v := hg.cell h (fun e => hne e.symm)
theorem RK.app {n₁ : Nat} {X : Nat → Prop} {A B C : World} (h : RK n₁ X A B) {α : Type} {R : Rep α} {n₀ : Nat} {e : TypeId} {size : Nat} {v : Value} {l : List α} (hg : B.grownBy C v.ownBlock) (ho : OwnL R n₀ e size v B l) (hX : ∀ k, v.ownBlock = some k → X k ∨ A.heap.size ≤ k) : RK n₁ X A C := by
 refine h.wrote (Y := fun k => v.ownBlock = some k) ⟨hg.os, hg.tape, hg.output, hg.size, fun k hk hx => hg.block k hk (fun e => hx e.symm), fun k o hk hc => ?_⟩ hX
 refine (hg.block k (Array.getElem?_eq_some_iff.1 hk).1 fun e => ?_).trans hk
 obtain ⟨cs, q1, q2, q3, q4⟩ := ho
 rcases q3.2 with ⟨rfl, _⟩ | ⟨g, cap, cur, rfl, hb, hcur, rest⟩
 · cases e
 · cases e; rw [hk] at hcur; cases hcur; cases hc
theorem KeepX.step {n₀ : Nat} {X : Nat → Prop} {A B C : World} (h : KeepX n₀ X A B) (e : Ext B C) (hn : n₀ ≤ B.heap.size) : KeepX n₀ X A C := h.trans (KeepX.of_ext e hn)
theorem KeepX.turnX {n₀ : Nat} {X : Nat → Prop} {A B C : World} (h : KeepX n₀ X A B) {O : Nat} (t : Turns O B C) (hO : X O) : KeepX n₀ X A C :=
 h.trans ⟨Nat.le_of_eq t.size.symm, fun k _ hx => t.heap' k (fun e => hx (e ▸ hO))⟩
theorem KeepX.turnN {n₀ : Nat} {X : Nat → Prop} {A B C : World} (h : KeepX n₀ X A B) {O : Nat} (t : Turns O B C) (hO : n₀ ≤ O) : KeepX n₀ X A C :=
 h.trans ⟨Nat.le_of_eq t.size.symm, fun k hk _ => t.heap' k (fun e => by omega)⟩
theorem KeepX.app {n₀ : Nat} {X : Nat → Prop} {A B C : World} (h : KeepX n₀ X A B) {v : Value} (hg : B.grownBy C v.ownBlock) (hb : ∀ b, v.ownBlock = some b → n₀ ≤ b) (hn : n₀ ≤ B.heap.size) : KeepX n₀ X A C :=
 ⟨T h.size hg.size, fun k hk hx => (hg.block k (Nat.lt_of_lt_of_le hk hn) (fun e => by have := hb k e.symm; omega)).trans (h.block k hk hx)⟩
theorem KeptX.turn {X : Nat → Prop} {A B C : World} (h : KeptX X A B) {O : Nat} (t : Turns O B C) (hO : A.heap.size ≤ O) : KeptX X A C :=
 ⟨by rw [t.size]; exact h.size, fun k o hk ho hx => by
  have hk1 := (Array.getElem?_eq_some_iff.1 hk).1
  rw [t.heap' k (by omega)]; exact h.cells k o hk ho hx⟩
def inR {α : Type} (S : Nat → Prop) (R : Rep α) : Rep α where
 rel w c x F := R.rel w c x F ∧ ∀ b ∈ F, S b
 keep := fun h hk => ⟨R.keep h.1 hk, h.2⟩
 lt := fun h => R.lt h.1
structure OwnS {α : Type} (S : Nat → Prop) (R : Rep α) (e : TypeId) (size : Nat) (v : Value) (w : World) (l : List α) : Prop where
 own : OwnL (inR S R) 0 e size v w l
 blk : ∀ b, v.ownBlock = some b → S b
theorem OwnS.nil {α : Type} (S : Nat → Prop) (R : Rep α) (e : TypeId) (size : Nat) (w : World) : OwnS S R e size (.slice none 0 0) w [] := ⟨OwnL.nil _ _ _ _ _, fun b h => by cases h⟩
theorem OwnS.ext {α : Type} {S : Nat → Prop} {R : Rep α} {e : TypeId} {size : Nat} {v : Value} {w w' : World} {l : List α} (h : OwnS S R e size v w l) (hE : Ext w w') : OwnS S R e size v w' l := ⟨h.own.ext hE, h.blk⟩
theorem OwnS.mv {α : Type} {S : Nat → Prop} {R : Rep α} {e : TypeId} {size m : Nat} {v : Value} {w w' : World} {l : List α} (h : OwnS S R e size v w l) (hm : Mv m w w') : OwnS S R e size v w' l := ⟨hm.own h.own, h.blk⟩
theorem OwnS.lt {α : Type} {S : Nat → Prop} {R : Rep α} {e : TypeId} {size : Nat} {v : Value} {w : World} {l : List α} (h : OwnS S R e size v w l) : ∀ b, v.ownBlock = some b → b < w.heap.size := h.own.lt
theorem OwnS.turn {α : Type} {S : Nat → Prop} {R : Rep α} {e : TypeId} {size : Nat} {v : Value} {w X : World} {l : List α} {O : Nat} (h : OwnS S R e size v w l) (ho : Turns O w X) (hO : ¬ S O) : OwnS S R e size v X l :=
 ⟨h.own.turn ho (fun e => hO (h.blk O e)) fun c x F hr b hb e => hO (e ▸ hr.2 b hb), h.blk⟩
theorem OwnS.not {α : Type} {S : Nat → Prop} {R : Rep α} {e : TypeId} {size : Nat} {v : Value} {w : World} {l : List α} {b : Nat} (h : OwnS S R e size v w l) (hb : ¬ S b) : v.ownBlock ≠ some b := fun e => hb (h.blk b e)
theorem OwnL.into {α : Type} {S : Nat → Prop} {R : Rep α} {n₀ : Nat} {e : TypeId} {size : Nat} {v : Value} {w : World} {l : List α} (h : OwnL R n₀ e size v w l) (hS : ∀ c x F, R.rel w c x F → ∀ b ∈ F, S b) : OwnL (inR S R) 0 e size v w l := by
 obtain ⟨cs, h1, h2, h3, h4⟩ := h
 refine ⟨cs, h1, h2, ⟨h3.1, ?_⟩, fun j x c hx hc => by obtain ⟨F, q1, q2⟩ := h4 j x c hx hc; exact ⟨F, ⟨q1, hS _ _ _ q1⟩, q2⟩⟩
 rcases h3.2 with q | ⟨g, cap, cur, q, hb, rest⟩
 · exact .inl q
 · exact .inr ⟨g, cap, cur, q, Nat.zero_le _, rest⟩
theorem OwnS.mono {α : Type} {S T : Nat → Prop} {R : Rep α} {e : TypeId} {size : Nat} {v : Value} {w : World} {l : List α} (h : OwnS S R e size v w l) (hST : ∀ k, k < w.heap.size → S k → T k) : OwnS T R e size v w l := by
 obtain ⟨⟨cs, h1, h2, h3, h4⟩, hb⟩ := h
 exact ⟨⟨cs, h1, h2, h3, fun j x c hx hc => by obtain ⟨F, q1, q2⟩ := h4 j x c hx hc; exact ⟨F, ⟨q1.1, fun b hb => hST b (R.lt q1.1 b hb) (q1.2 b hb)⟩, q2⟩⟩, fun b e => hST b (h3.lt b e).2 (hb b e)⟩
theorem OwnS.now {α : Type} {S : Nat → Prop} {R : Rep α} {e : TypeId} {size : Nat} {v : Value} {w : World} {l : List α} (h : OwnS S R e size v w l) : OwnS (fun k => S k ∧ k < w.heap.size) R e size v w l := h.mono fun _ hk hs => ⟨hs, hk⟩
theorem OwnS.app {α : Type} {S : Nat → Prop} {R : Rep α} {P : Program} {t ty e : TypeId} {z : Value} {size bytes : Nat} (E : ElemT P t e z size bytes) {v : Value} {w : World} {l : List α} (h : OwnS S R e size v w l) {k : Nat} (hl : l.length = k)
    {O c : Nat} {x : α} {d : List Value} {F : List Nat} (hsz : d.length = size) (hcell : ∀ j u, d[j]? = some u → w.cell? ⟨O, j, none⟩ = some u) (h1 : ∀ u ∈ d, u.oneCell' = true)
    (hR : R.rel w d x F) (hF : ∀ b ∈ F, v.ownBlock ≠ some b) (hb : (k + 1) * bytes ≤ 140737488355328) (hmax : k + 1 ≤ 9223372036854775807) :
    ∃ g cap w', (Builtin.append_ #[t, t] ty #[v, .slice (some ⟨O, 0, none⟩) 1 c]).run P w = .ok (.slice (some ⟨g, 0, none⟩) (k + 1) cap) w' ∧ OwnS (fun b => S b ∨ b ∈ F ∨ w.heap.size ≤ b) R e size (.slice (some ⟨g, 0, none⟩) (k + 1) cap) w' (l ++ [x]) ∧
      (∀ U, Ext U w → (∀ b, S b → U.heap.size ≤ b) → Ext U w') ∧ w.grownBy w' v.ownBlock ∧ g < w'.heap.size ∧ (S g ∨ w.heap.size ≤ g) := by
  have hS : OwnL (inR (fun b => S b ∨ b ∈ F ∨ w.heap.size ≤ b) R) 0 e size v w l := by
    obtain ⟨cs, h1, h2, h3, h4⟩ := h.own
    exact ⟨cs, h1, h2, h3, fun j x c hx hc => by obtain ⟨F, q1, q2⟩ := h4 j x c hx hc; exact ⟨F, ⟨q1.1, fun b hb => .inl (q1.2 b hb)⟩, q2⟩⟩
  obtain ⟨cs, q1, q2, q3, q4⟩ := hS
  subst hl
  obtain ⟨i, hi, hz0, hz1, hz2⟩ := info_parts E.info
  obtain ⟨v', w', hrun, hown, hg, hiff, hat⟩ := run_append_own_at (P := P) w 0 t ty e i z size bytes E.under hi hz0 hz1 hz2 E.zs E.pos v l.length cs.flatten q3 ⟨O, 0, none⟩ 1 c d (by rw [hsz, Nat.one_mul]) (fun j u hj => by
    rw [Addr.add_mid, Nat.zero_add]; exact hcell j u hj) h1 (by unfold maxLen; exact hmax) hb (Nat.zero_le _)
  have hnb : ∀ F : List Nat, (∀ b ∈ F, v.ownBlock ≠ some b) → (∀ b ∈ F, b < w.heap.size) → (∀ b ∈ F, v'.ownBlock ≠ some b) ∧ ∀ b ∈ F, ∀ o u, w.cell? ⟨b, o, none⟩ = some u → w'.cell? ⟨b, o, none⟩ = some u := by
    intro F hF hFl
    refine ⟨fun b hbF hv' => ?_, fun b hbF o u hu => hg.cell hu (fun e => hF b hbF e.symm)⟩
    rcases hat with e1 | e1
    · exact hF b hbF (by rw [← e1]; exact hv')
    · rw [e1] at hv'; cases hv'; have := hFl _ hbF; omega
  have hO : OwnL (inR (fun b => S b ∨ b ∈ F ∨ w.heap.size ≤ b) R) 0 e size v' w' (l ++ [x]) := ⟨cs ++ [d], by simp [q1], by
      intro y hy
      rcases List.mem_append.1 hy with hy | hy
      · exact q2 y hy
      · rw [List.mem_singleton.1 hy]; exact hsz, by rw [List.flatten_append, List.length_append]; simpa using hown, by
      intro j y c hx hc
      rcases Nat.lt_or_ge j l.length with hj | hj
      · rw [List.getElem?_append_left hj] at hx
        rw [List.getElem?_append_left (by rw [q1]; exact hj)] at hc
        obtain ⟨F', p1, p2⟩ := q4 j y c hx hc
        obtain ⟨k1, k2⟩ := hnb F' p2 (R.lt p1.1)
        exact ⟨F', ⟨R.keep p1.1 k2, p1.2⟩, k1⟩
      · rw [List.getElem?_append_right hj] at hx
        rw [List.getElem?_append_right (by rw [q1]; exact hj), q1] at hc
        match hj' : j - l.length, hx, hc with
        | 0, hx, hc =>
          simp at hx hc; subst hx hc
          obtain ⟨k1, k2⟩ := hnb F hF (R.lt hR)
          exact ⟨F, ⟨R.keep hR k2, fun b hb => .inr (.inl hb)⟩, k1⟩
        | _ + 1, hx, _ => simp at hx⟩
  have hblk : ∀ b, v'.ownBlock = some b → S b ∨ w.heap.size ≤ b := fun b hb => by
    rcases hat with e1 | e1
    · exact .inl (h.blk b (by rw [← e1]; exact hb))
    · rw [e1] at hb; cases hb; exact .inr (Nat.le_refl _)
  have hlt' := hO.lt
  rcases hown.2 with ⟨q, _⟩ | ⟨g, cap, cur, q, _, _, _, _⟩
  · have := (hiff.1 q).2; omega
  · subst q
    exact ⟨g, cap, w', hrun, ⟨hO, fun b hb => (hblk b hb).elim .inl (fun h => .inr (.inr h))⟩, fun U hU hUS => ⟨hg.os.trans hU.os, hg.tape.trans hU.tape, hg.output.trans hU.output, T hU.size hg.size, fun k hk => (hg.block k (Nat.lt_of_lt_of_le hk hU.size) (fun e => by have := hUS k (h.blk k e.symm); omega)).trans (hU.block k hk)⟩, hg, hlt' g rfl, hblk g rfl⟩
def trunc (w : World) (g : Nat) : World := { w with heap := w.heap.extract 0 g }
theorem trunc_block (w : World) {g k : Nat} (hk : k < g) : (trunc w g).heap[k]? = w.heap[k]? := by
 show (w.heap.extract 0 g)[k]? = _
 rw [Array.getElem?_extract]
 split
 · rw [Nat.zero_add]
 · rw [Array.getElem?_eq_none]; omega
theorem trunc_ext (w : World) (g : Nat) : Ext (trunc w g) w := ⟨rfl, rfl, rfl, by simp [trunc]; omega, fun k hk => (trunc_block w (by simp [trunc] at hk; omega)).symm⟩
theorem trunc_size (w : World) (g : Nat) : (trunc w g).heap.size ≤ g := by simp [trunc]; omega
section
variable {w w' : World} {g : Nat}
theorem old_block (hU : ∀ U, Ext U w → U.heap.size ≤ g → Ext U w') {b : Nat} (hb : b < g) (hw : b < w.heap.size) : w'.heap[b]? = w.heap[b]? := by
 rw [← trunc_block w hb]
 exact (hU _ (trunc_ext w g) (trunc_size w g)).block b (by simp [trunc]; omega)
theorem old_cell (hU : ∀ U, Ext U w → U.heap.size ≤ g → Ext U w') {b o : Nat} {v : Value} (h : w.cell? ⟨b, o, none⟩ = some v) (hb : b < g) : w'.cell? ⟨b, o, none⟩ = some v :=
 (World.cell?_of_block (w := w) (old_block hU hb (World.block_lt_of_cell? _ _ h))).trans h
theorem old_box (hU : ∀ U, Ext U w → U.heap.size ≤ g → Ext U w') {b o : Nat} {v : Value} (h : BoxAt w b o v) (hb : b < g) : BoxAt w' b o v :=
 ⟨old_cell hU h.1 hb, (World.frozen?_of_block (old_block hU hb h.lt)).trans h.2⟩
end
theorem KeepX.box {n₀ : Nat} {X : Nat → Prop} {A B : World} (hk : KeepX n₀ X A B) {b o : Nat} {v : Value} (h : BoxAt A b o v) (hb : b < n₀) (hx : ¬ X b) : BoxAt B b o v :=
 ⟨(hk.cell hb hx).trans h.1, (World.frozen?_of_block (hk.block b hb hx)).trans h.2⟩
theorem OwnS.cap {α : Type} {S : Nat → Prop} {R : Rep α} {e : TypeId} {size : Nat} {a : Option Addr} {n c : Nat} {w : World} {l : List α} (h : OwnS S R e size (.slice a n c) w l) (hl : l.length = n) : n ≤ c := by
 obtain ⟨⟨cs, h1, h2, h3, h4⟩, hb⟩ := h
 rcases h3.2 with ⟨q, q2⟩ | ⟨g, cap, cur, q, _, _, hc, _⟩
 · injection q with r1 r2 r3; omega
 · injection q with r1 r2 r3; omega
theorem notS1 {n b : Nat} (h : b < n) : ¬ n ≤ b := Nat.not_le_of_lt h
theorem notS3 {n a c b b' : Nat} (h : b < n ∨ a ≤ b) (h1 : b ≠ b') (h2 : b < c) : ¬ ((n ≤ b ∧ b < a) ∨ b ∈ [b'] ∨ c ≤ b) := fun q => by
 rcases q with q | q | q
 · omega
 · exact h1 (List.mem_singleton.1 q)
 · omega
theorem fromS3 {n a c b' : Nat} (h1 : n ≤ b') (h2 : n ≤ c) : ∀ k, ((n ≤ k ∧ k < a) ∨ k ∈ [b'] ∨ c ≤ k) → n ≤ k := fun k q => by
 rcases q with q | q | q
 · exact q.1
 · rw [List.mem_singleton.1 q]; exact h1
 · omega
instance {α : Type} {S : Nat → Prop} {R : Rep α} {e : TypeId} {size : Nat} {v : Value} {w w' : World} {l : List α} : MvC w w' (OwnS S R e size v w l) (OwnS S R e size v w' l) := ⟨fun e h => h.ext e⟩
end Go.Proofs.YtajdohcgjgknmaaGreatDoor

namespace Go.Proofs.YtajdohcgjgknmaaGreatDoor
open Go.RowKit
structure RawPc where
 im : Int
 t : Int
 cl : Bool
 a : Option Addr
 n : Nat
 c : Nat
instance : Inhabited RawPc := ⟨⟨0, 0, false, none, 0, 0⟩⟩
def RawPc.enc (x : RawPc) : List Value := [.int .i64 x.im, .int .i64 x.t, .bool x.cl, .slice x.a x.n x.c]
def RawPc.val (x : RawPc) : Value := .agg #[.int .i64 x.im, .int .i64 x.t, .bool x.cl, .slice x.a x.n x.c]
def RawAt (w : World) (b o : Nat) (x : RawPc) : Prop := w.cell? ⟨b, o, none⟩ = some (.int .i64 x.im) ∧ w.cell? ⟨b, o + 1, none⟩ = some (.int .i64 x.t) ∧ w.cell? ⟨b, o + 2, none⟩ = some (.bool x.cl) ∧ w.cell? ⟨b, o + 3, none⟩ = some (.slice x.a x.n x.c)
theorem RawAt.ext {w w' : World} {b o : Nat} {x : RawPc} (h : RawAt w b o x) (hE : Ext w w') : RawAt w' b o x := ⟨hE.cell h.1, hE.cell h.2.1, hE.cell h.2.2.1, hE.cell h.2.2.2⟩
def RawsAt (w : World) (a : Option Addr) (n : Nat) (rs : List RawPc) : Prop := rs.length = n ∧ n ≤ 140737488355328 ∧ (n = 0 ∨ ∃ b o, a = some ⟨b, o, none⟩ ∧ ∀ (i : Nat) x, rs[i]? = some x → RawAt w b (o + i * 4) x)
theorem RawsAt.ext {w w' : World} {a : Option Addr} {n : Nat} {rs : List RawPc} (h : RawsAt w a n rs) (hE : Ext w w') : RawsAt w' a n rs :=
 ⟨h.1, h.2.1, h.2.2.imp id fun ⟨b, o, ha, hx⟩ => ⟨b, o, ha, fun i x hi => (hx i x hi).ext hE⟩⟩
theorem RawsAt.nil (w : World) (a : Option Addr) : RawsAt w a 0 [] := ⟨rfl, Nat.zero_le _, .inl rfl⟩
def ReadsP (w : World) (x : RawPc) (p : Prod.Pc) : Prop := x.im = p.im ∧ x.t = p.t ∧ x.cl = p.cl ∧ AA w x.a p.rw x.n (Globe.validL p.rw)
theorem ReadsP.ext {w w' : World} {x : RawPc} {p : Prod.Pc} (h : ReadsP w x p) (hE : Ext w w') : ReadsP w' x p := ⟨h.1, h.2.1, h.2.2.1, h.2.2.2.ext hE⟩
def Reads (w : World) : List RawPc → List Prod.Pc → Prop
 | [], [] => True
 | x :: rs, p :: l => ReadsP w x p ∧ Reads w rs l
 | _, _ => False
theorem Reads.ext {w w' : World} (hE : Ext w w') : ∀ {rs : List RawPc} {l : List Prod.Pc}, Reads w rs l → Reads w' rs l
 | [], [], _ => trivial
 | _ :: _, _ :: _, h => ⟨h.1.ext hE, Reads.ext hE h.2⟩
theorem Reads.len {w : World} : ∀ {rs : List RawPc} {l : List Prod.Pc}, Reads w rs l → rs.length = l.length
 | [], [], _ => rfl
 | _ :: _, _ :: _, h => by rw [List.length_cons, List.length_cons, Reads.len h.2]
theorem Reads.at {w : World} : ∀ {rs : List RawPc} {l : List Prod.Pc}, Reads w rs l → ∀ {i : Nat} {x : RawPc}, rs[i]? = some x → ∃ p, l[i]? = some p ∧ ReadsP w x p
 | [], [], _, i, x, hx => by simp at hx
 | x :: _, p :: _, h, 0, y, hy => by simp at hy; subst hy; exact ⟨p, rfl, h.1⟩
 | _ :: _, _ :: _, h, i + 1, y, hy => by simpa using Reads.at h.2 (by simpa using hy)
theorem Reads.of_at {w : World} : ∀ {rs : List RawPc} {l : List Prod.Pc}, rs.length = l.length → (∀ (i : Nat) x p, rs[i]? = some x → l[i]? = some p → ReadsP w x p) → Reads w rs l
 | [], [], _, _ => trivial
 | [], _ :: _, h, _ => by simp at h
 | _ :: _, [], h, _ => by simp at h
 | x :: rs, p :: l, h, k => ⟨k 0 x p rfl rfl, Reads.of_at (by simpa using h) fun i y q hy hq => k (i + 1) y q (by simpa using hy) (by simpa using hq)⟩
theorem Reads.app {w : World} : ∀ {rs : List RawPc} {l : List Prod.Pc} {rs' : List RawPc} {l' : List Prod.Pc}, Reads w rs l → Reads w rs' l' → Reads w (rs ++ rs') (l ++ l')
 | [], [], _, _, _, k => k
 | _ :: _, _ :: _, _, _, h, k => ⟨h.1, Reads.app h.2 k⟩
theorem Reads.rev {w : World} : ∀ {rs : List RawPc} {l : List Prod.Pc}, Reads w rs l → Reads w rs.reverse l.reverse
 | [], [], _ => trivial
 | x :: rs, p :: l, h => by rw [List.reverse_cons, List.reverse_cons]; exact Reads.app (Reads.rev h.2) ⟨h.1, trivial⟩
theorem Reads.perm {w : World} {rs rs' : List RawPc} (hp : rs.Perm rs') : ∀ {l : List Prod.Pc}, Reads w rs l → ∃ l', l'.Perm l ∧ Reads w rs' l' := by
 induction hp with
 | nil => exact fun {l} h => ⟨l, .refl _, h⟩
 | cons x _ ih =>
  intro l h
  cases l with
  | nil => exact h.elim
  | cons p l => obtain ⟨l', q1, q2⟩ := ih h.2; exact ⟨p :: l', q1.cons p, h.1, q2⟩
 | swap x y r =>
  intro l h
  match l, h with
  | p :: q :: l, h => exact ⟨q :: p :: l, .swap p q l, h.2.1, h.1, h.2.2⟩
 | trans _ _ i1 i2 =>
  intro l h
  obtain ⟨l1, q1, q2⟩ := i1 h
  obtain ⟨l2, q3, q4⟩ := i2 q2
  exact ⟨l2, q3.trans q1, q4⟩
def PcsAt (w : World) (a : Option Addr) (n : Nat) (l : List Prod.Pc) : Prop := ∃ rs, RawsAt w a n rs ∧ Reads w rs l
theorem PcsAt.ext {w w' : World} {a : Option Addr} {n : Nat} {l : List Prod.Pc} (h : PcsAt w a n l) (hE : Ext w w') : PcsAt w' a n l := by
 obtain ⟨rs, h1, h2⟩ := h; exact ⟨rs, h1.ext hE, h2.ext hE⟩
theorem PcsAt.len {w : World} {a : Option Addr} {n : Nat} {l : List Prod.Pc} (h : PcsAt w a n l) : l.length = n := by
 obtain ⟨rs, h1, h2⟩ := h; rw [← h2.len, h1.1]
theorem PcsAt.max {w : World} {a : Option Addr} {n : Nat} {l : List Prod.Pc} (h : PcsAt w a n l) : n ≤ 140737488355328 := by obtain ⟨rs, h1, h2⟩ := h; exact h1.2.1
theorem PcsAt.nil (w : World) (a : Option Addr) : PcsAt w a 0 [] := ⟨[], RawsAt.nil w a, trivial⟩
theorem PcsAt.at {w : World} {a : Option Addr} {n : Nat} {l : List Prod.Pc} (h : PcsAt w a n l) {i : Nat} (hi : i < n) :
    ∃ (b o : Nat) (p : Prod.Pc) (ar : Option Addr) (k c : Nat), a = some ⟨b, o, none⟩ ∧ l[i]? = some p ∧ w.cell? ⟨b, o + i * 4, none⟩ = some (.int .i64 p.im) ∧ w.cell? ⟨b, o + i * 4 + 1, none⟩ = some (.int .i64 p.t) ∧ w.cell? ⟨b, o + i * 4 + 2, none⟩ = some (.bool p.cl) ∧
      w.cell? ⟨b, o + i * 4 + 3, none⟩ = some (.slice ar k c) ∧ AA w ar p.rw k (Globe.validL p.rw) := by
  obtain ⟨rs, ⟨h1, _, h3⟩, h2⟩ := h
  rcases h3 with h3 | ⟨b, o, ha, hx⟩
  · omega
  · have hr := List.getElem?_eq_getElem (l := rs) (i := i) (by omega)
    obtain ⟨p, hp, e1, e2, e3, e4⟩ := h2.at hr
    obtain ⟨c1, c2, c3, c4⟩ := hx i _ hr
    rw [e1] at c1; rw [e2] at c2; rw [e3] at c3
    exact ⟨b, o, p, _, _, _, ha, hp, c1, c2, c3, c4, e4⟩
theorem PcsAt.take {w : World} {a : Option Addr} {n : Nat} {l : List Prod.Pc} (h : PcsAt w a n l) {k : Nat} (hk : k ≤ n) : PcsAt w a k (l.take k) := by
  obtain ⟨rs, ⟨h1, h4, h3⟩, h2⟩ := h
  have e := h2.len
  refine ⟨rs.take k, ⟨by rw [List.length_take]; omega, by omega, ?_⟩, Reads.of_at (by rw [List.length_take, List.length_take]; omega) fun i x p hx hp => ?_⟩
  · rcases h3 with h3 | ⟨b, o, ha, hx⟩
    · exact .inl (by omega)
    · refine .inr ⟨b, o, ha, fun i x hi => hx i x ?_⟩
      rw [List.getElem?_take] at hi
      split at hi
      · exact hi
      · cases hi
  · rw [List.getElem?_take] at hx hp
    split at hx
    · rename_i hi
      rw [if_pos hi] at hp
      obtain ⟨q, hq, hr⟩ := h2.at hx
      rw [hp] at hq; cases hq; exact hr
    · cases hx
def rawR : Rep RawPc where
 rel _ c x F := c = x.enc ∧ F = []
 keep := fun h _ => h
 lt := by rintro w c x F ⟨_, rfl⟩ b hb; cases hb
def pieceR : Rep Prod.Pc where
 rel w c x F := ∃ (b o k : Nat), c = [.int .i64 x.im, .int .i64 x.t, .bool x.cl, .slice (some ⟨b, o, none⟩) 24 k] ∧ VA w b o x.rw ∧ F = [b]
 keep := by
  rintro w w' c x F ⟨b, o, k, rfl, hv, rfl⟩ h
  exact ⟨b, o, k, rfl, ⟨fun i hi => h b (by simp) _ _ (hv.1 i hi), hv.2⟩, rfl⟩
 lt := by
  rintro w c x F ⟨b, o, k, rfl, hv, rfl⟩ b' hb'
  rw [List.mem_singleton.1 hb']; exact hv.lt
theorem pieceT : ElemT Tryz.prog 30 49 (.agg #[.int .i64 0, .int .i64 0, .bool false, .slice none 0 0]) 4 48 := ⟨Tryz.underlying30, by kernel_rfl, rfl, by decide⟩
theorem cells4 {w : World} {O : Nat} {x y z u : Value} (h : w.cell? ⟨O, 0, none⟩ = some x) (h1 : w.cell? ⟨O, 1, none⟩ = some y) (h2 : w.cell? ⟨O, 2, none⟩ = some z) (h3 : w.cell? ⟨O, 3, none⟩ = some u) : ∀ j v, [x, y, z, u][j]? = some v → w.cell? ⟨O, j, none⟩ = some v
 | 0, v, hv => by simp at hv; subst hv; exact h
 | 1, v, hv => by simp at hv; subst hv; exact h1
 | 2, v, hv => by simp at hv; subst hv; exact h2
 | 3, v, hv => by simp at hv; subst hv; exact h3
 | _ + 4, v, hv => by simp at hv
theorem enc_len (x : RawPc) : x.enc.length = 4 := rfl
theorem enc_one : ∀ x : RawPc, ∀ v ∈ x.enc, v.oneCell' = true := fun x v hv => by
 simp [RawPc.enc] at hv; rcases hv with rfl | rfl | rfl | rfl <;> rfl
theorem flat_at (rs : List RawPc) {i q : Nat} (hi : i < rs.length) (hq : q < 4) : (Go.Sort.flatK RawPc.enc 4 rs.toArray)[i * 4 + q]! = (rs[i].enc)[q]! := by
 rw [Go.Sort.get_flatK _ _ _ _ (by simp; omega), show (i * 4 + q) / 4 = i by omega, show (i * 4 + q) % 4 = q by omega]
 simp [hi]
theorem holds_raws {w : World} {b : Nat} {rs : List RawPc} (h : Go.Sort.HoldsK RawPc.enc 4 w b 0 rs.toArray) (hn : rs.length ≤ 140737488355328) : RawsAt w (some ⟨b, 0, none⟩) rs.length rs := by
 refine ⟨rfl, hn, .inr ⟨b, 0, rfl, fun i x hx => ?_⟩⟩
 obtain ⟨hi, rfl⟩ := List.getElem?_eq_some_iff.1 hx
 have k : ∀ q, q < 4 → w.cell? ⟨b, 0 + i * 4 + q, none⟩ = some (rs[i].enc)[q]! := fun q hq => by
  have := (h (i * 4 + q) (by simp; omega)).1
  rw [show 0 + i * 4 + q = 0 + (i * 4 + q) by omega, this, id, flat_at rs hi hq]
 exact ⟨k 0 (by omega), k 1 (by omega), k 2 (by omega), k 3 (by omega)⟩
theorem own_cell9 {w : World} {base : Nat} {e : TypeId} {size g n cap : Nat} {xs : List Value} (h : w.ownsRow base e size (.slice (some ⟨g, 0, none⟩) n cap) n xs) {j : Nat} {u : Value} (hj : j < n * size) (hu : xs[j]? = some u) : w.cell? ⟨g, 0 + j, none⟩ = some u := by
 rw [Nat.zero_add, h.cellAt j hj]; exact hu
theorem own_holds {n₀ e g n cap : Nat} {w : World} {rs : List RawPc} (h : OwnL rawR n₀ e 4 (.slice (some ⟨g, 0, none⟩) n cap) w rs) (hl : rs.length = n) : Go.Sort.HoldsK RawPc.enc 4 w g 0 rs.toArray := by
 subst hl
 obtain ⟨cs, h1, h2, h3, h4⟩ := h
 intro j hj
 have hj' : j < rs.length * 4 := by simpa using hj
 obtain ⟨i, q, rfl, hq⟩ : ∃ i q, j = i * 4 + q ∧ q < 4 := ⟨j / 4, j % 4, by omega, by omega⟩
 have hi : i < rs.length := by omega
 have hc := List.getElem?_eq_getElem (l := cs) (i := i) (by omega)
 obtain ⟨F, ⟨e1, _⟩, _⟩ := h4 i _ _ (List.getElem?_eq_getElem hi) hc
 have f := flatten_get h2 i hc q hq
 have e2 := List.getElem?_eq_getElem (l := rs[i].enc) (i := q) (by rw [enc_len]; exact hq)
 rw [e1, e2] at f
 refine ⟨?_, h3.frozenAt _⟩
 rw [id, flat_at rs hi hq, getElem!_pos _ q (by rw [enc_len]; exact hq)]
 exact own_cell9 h3 (by omega) f
theorem putRowK_ext {U w : World} {g m : Nat} (h : Ext U w) (hg : U.heap.size ≤ g) (d : Array RawPc) : Ext U (Go.Sort.putRowK RawPc.enc 4 (Go.Sort.ahead w m) g 0 d) :=
 ⟨h.os, h.tape, h.output, by rw [Go.Sort.putRowK, Go.Sort.size_putRow]; exact h.size, fun k hk => by
  show (w.heap.modify g _)[k]? = _
  rw [Array.getElem?_modify, if_neg (by omega)]; exact h.block k hk⟩
theorem grow_ext {U w : World} (h : Ext U w) (os : Array Obj) : Ext U (Go.Sort.grow w os) :=
 ⟨h.os, h.tape, h.output, by have := h.size; rw [Go.Sort.size_grow]; omega, fun k hk => by
  show (w.heap ++ os)[k]? = _
  rw [Array.getElem?_append_left (Nat.lt_of_lt_of_le hk h.size)]; exact h.block k hk⟩
def befR (x y : RawPc) : Bool := Prod.bet x.cl x.t x.im y.cl y.t y.im
theorem ltOf_bef (x y : RawPc) : Go.Proofs.ltOf (fun x y : RawPc => Prod.rk y.cl y.t y.im x.cl x.t x.im) x y = befR x y := by
 unfold Go.Proofs.ltOf befR
 cases h : Prod.bet x.cl x.t x.im y.cl y.t y.im
 · rw [decide_eq_false_iff_not, Prod.rk_neg, h]; simp
 · rw [decide_eq_true_iff, Prod.rk_neg, h]
theorem swo_bef : Go.Sort.SWO (Go.Proofs.ltOf fun x y : RawPc => Prod.rk y.cl y.t y.im x.cl x.t x.im) where
 irrefl x := by rw [ltOf_bef]; exact Prod.bet_irrefl _ _ _
 trans x y z h k := by rw [ltOf_bef] at *; exact Prod.bet_trans h k
 ntrans x y z h k := by rw [ltOf_bef] at *; exact Prod.bet_ntrans h k
theorem raw_order (blk off size : Nat) (w : World) : Go.Proofs.CmpLays Tryz.prog 123 #[] RawPc.enc 4 (fun x y => Prod.rk y.cl y.t y.im x.cl x.t x.im) blk off size w :=
 fun _ _ _ _ x y => order_g (x := ⟨x.im, x.t, x.cl, []⟩) (y := ⟨y.im, y.t, y.cl, []⟩) (a1 := x.a) (a2 := y.a) (k1 := x.n) (c1 := x.c) (k2 := y.n) (c2 := y.c) _
def SortPost (w : World) (g n : Nat) (rs : List RawPc) (e : Ending) (w' : World) : Prop :=
 e = .returned (.tuple #[]) ∧ ∃ rs', rs'.Perm rs ∧ (rs'.Pairwise fun x y => befR y x = false) ∧ RawsAt w' (some ⟨g, 0, none⟩) n rs' ∧ (∀ U, Ext U w → U.heap.size ≤ g → Ext U w') ∧ w.heap.size ≤ w'.heap.size
theorem SortFunc_c {n₀ e g n cap : Nat} {rs : List RawPc} (w : World) (h : OwnL rawR n₀ e 4 (.slice (some ⟨g, 0, none⟩) n cap) w rs) (hl : rs.length = n) (hn : n ≤ 1000000) :
    Calls Tryz.prog 139 #[.slice (some ⟨g, 0, none⟩) n cap, .func (.func 123) #[] #[]] w (SortPost w g n rs) := by
  subst hl
  have hcon := Go.Proofs.AnyQ.slices_SortFunc Tryz.sortPc 4 Tryz.isAgg49 Tryz.sizeOf49 RawPc.enc enc_len enc_one (fun x y => Prod.rk y.cl y.t y.im x.cl x.t x.im) swo_bef 123 #[] g 0 cap rs.toArray w (Go.Proofs.enters_of Tryz.func123 (by kernel_rfl) rfl)
    (raw_order g 0 rs.toArray.size w) (own_holds h rfl) (h.lt g rfl) (by simp; omega)
  refine hcon.mono fun e w' ⟨he, d', m, os, ⟨hs, _, hp⟩, hso, hw⟩ => ⟨he, d'.toList, ?_, ?_, ?_, ?_, ?_⟩
  · have e1 : d'.extract 0 rs.toArray.size = d' := by rw [← hs]; simp
    have e2 : rs.toArray.extract 0 rs.toArray.size = rs.toArray := by simp
    rw [e1, e2] at hp; simpa using hp
  · rw [List.pairwise_iff_getElem]
    intro i j hi hj hij
    have h0 := hso i j (Nat.zero_le _) hij (by rw [← hs]; simpa using hj)
    rw [ltOf_bef] at h0
    simpa [getElem!_pos, hi, hj, show i < d'.size by simpa using hi, show j < d'.size by simpa using hj] using h0
  · have hl' : d'.toList.length = rs.length := by simpa using hs
    have := holds_raws (w := w') (b := g) (rs := d'.toList) (by
      rw [hw]
      refine Go.Sort.holdsK_grow RawPc.enc 4 _ _ _ _ _ ?_ ?_
      · rw [Go.Sort.putRowK, Go.Sort.size_putRow]; exact h.lt g rfl
      · exact Go.Sort.holdsK_putRowK _ _ _ _ _ rs.toArray _ (Go.Sort.holdsK_ahead _ _ _ _ _ _ _ (own_holds h rfl)) (by simpa using hs)) (by omega)
    rwa [hl'] at this
  · intro U hU hUg
    rw [hw]
    exact grow_ext (putRowK_ext hU hUg _) _
  · rw [hw]; unfold Go.Proofs.sortWorldK; rw [Go.Sort.size_grow, Go.Sort.putRowK, Go.Sort.size_putRow]; exact Nat.le_add_right _ _
def PcsS (S : Nat → Prop) (w : World) (a : Option Addr) (n : Nat) (l : List Prod.Pc) : Prop := ∃ rs, RawsAt w a n rs ∧ Reads w rs l ∧ (0 < n → ∀ ad, a = some ad → S ad.block) ∧ ∀ x ∈ rs, 0 < x.n → ∀ ad, x.a = some ad → S ad.block
theorem PcsS.pcs {S : Nat → Prop} {w : World} {a : Option Addr} {n : Nat} {l : List Prod.Pc} (h : PcsS S w a n l) : PcsAt w a n l := by obtain ⟨rs, h1, h2, _⟩ := h; exact ⟨rs, h1, h2⟩
theorem PcsS.ext {S : Nat → Prop} {w w' : World} {a : Option Addr} {n : Nat} {l : List Prod.Pc} (h : PcsS S w a n l) (hE : Ext w w') : PcsS S w' a n l := by obtain ⟨rs, h1, h2, h3, h4⟩ := h; exact ⟨rs, h1.ext hE, h2.ext hE, h3, h4⟩
theorem PcsS.nil (S : Nat → Prop) (w : World) (a : Option Addr) : PcsS S w a 0 [] := ⟨[], RawsAt.nil w a, trivial, fun h => absurd h (Nat.lt_irrefl 0), fun x hx => by cases hx⟩
theorem PcsS.mono {S T : Nat → Prop} {w : World} {a : Option Addr} {n : Nat} {l : List Prod.Pc} (h : PcsS S w a n l) (hST : ∀ k, S k → T k) : PcsS T w a n l := by obtain ⟨rs, h1, h2, h3, h4⟩ := h; exact ⟨rs, h1, h2, fun q ad e => hST _ (h3 q ad e), fun x hx q ad e => hST _ (h4 x hx q ad e)⟩
theorem aa_turn {w X : World} {a : Option Addr} {l : List Int} {n : Nat} {v : Bool} {O : Nat} (h : AA w a l n v) (ho : Turns O w X) (hO : 0 < n → ∀ ad, a = some ad → ad.block ≠ O) : AA X a l n v := by
 obtain ⟨h1, h2, h3, h4⟩ := h
 refine ⟨?_, h2, h3, h4⟩
 rcases Nat.eq_zero_or_pos n with h0 | h0
 · exact .inl (List.eq_nil_of_length_eq_zero (by omega))
 · exact h1.imp id fun ⟨b, off, ha, hc⟩ => ⟨b, off, ha, fun i hi => ho.cell (fun e => hO h0 _ ha e.symm) (hc i hi)⟩
theorem PcsS.turn {S : Nat → Prop} {w X : World} {a : Option Addr} {n : Nat} {l : List Prod.Pc} {O : Nat} (h : PcsS S w a n l) (ho : Turns O w X) (hO : ¬ S O) : PcsS S X a n l := by
  obtain ⟨rs, ⟨g1, g2, g3⟩, h2, h3, h4⟩ := h
  refine ⟨rs, ⟨g1, g2, ?_⟩, Reads.of_at h2.len fun i x p hx hp => ?_, h3, h4⟩
  · rcases Nat.eq_zero_or_pos n with h0 | h0
    · exact .inl h0
    · refine g3.imp id fun ⟨b, o, ha, hx⟩ => ⟨b, o, ha, fun i x hi => ?_⟩
      have hb : O ≠ b := fun e => hO (e ▸ h3 h0 _ ha)
      obtain ⟨c1, c2, c3, c4⟩ := hx i x hi
      exact ⟨ho.cell hb c1, ho.cell hb c2, ho.cell hb c3, ho.cell hb c4⟩
  · obtain ⟨q, hq, e1, e2, e3, e4⟩ := h2.at hx
    rw [hp] at hq; cases hq
    exact ⟨e1, e2, e3, aa_turn e4 ho fun h0 ad ha e => hO (e ▸ h4 x (List.mem_of_getElem? hx) h0 ad ha)⟩
theorem aa_lt {w : World} {a : Option Addr} {l : List Int} {n : Nat} {v : Bool} (h : AA w a l n v) (h0 : 0 < n) : ∀ ad, a = some ad → ad.block < w.heap.size := fun ad ha => by
 obtain ⟨h1, h2, h3, h4⟩ := h
 rcases h1 with rfl | ⟨b, off, e, hc⟩
 · simp at h2; omega
 · rw [ha] at e; cases e; exact World.block_lt_of_cell? _ _ (hc 0 (by omega))
theorem PcsAt.now {w : World} {a : Option Addr} {n : Nat} {l : List Prod.Pc} (h : PcsAt w a n l) : PcsS (fun k => k < w.heap.size) w a n l := by
  obtain ⟨rs, h1, h2⟩ := h
  refine ⟨rs, h1, h2, fun h0 ad ha => ?_, fun x hx h0 ad ha => ?_⟩
  · obtain ⟨g1, g2, g3⟩ := h1
    rcases g3 with g3 | ⟨b, o, e, hx⟩
    · omega
    · rw [ha] at e; cases e
      exact World.block_lt_of_cell? _ _ (hx 0 _ (List.getElem?_eq_getElem (by omega))).1
  · obtain ⟨i, hi⟩ := List.getElem?_of_mem hx
    obtain ⟨q, hq, e1, e2, e3, e4⟩ := h2.at hi
    exact aa_lt e4 h0 ad ha
def RevPost (S : Nat → Prop) (w : World) (a : Option Addr) (n : Nat) (l : List Prod.Pc) (e : Ending) (w' : World) : Prop :=
 e = .returned (.tuple #[]) ∧ PcsS S w' a n l.reverse ∧ (∀ U, Ext U w → (∀ k, S k → U.heap.size ≤ k) → Ext U w') ∧ w.heap.size ≤ w'.heap.size
theorem own_raw {S : Nat → Prop} {n₀ e : Nat} {v : Value} {w : World} {l : List Prod.Pc} (h : OwnL (inR S pieceR) n₀ e 4 v w l) : ∃ rs, OwnL rawR n₀ e 4 v w rs ∧ rs.length = l.length ∧ (∀ (w' : World), (∀ p : Addr, v.ownBlock ≠ some p.block → ∀ u, w.cell? p = some u → w'.cell? p = some u) → Reads w' rs l) ∧ ∀ x ∈ rs, ∀ ad, x.a = some ad → S ad.block := by
  obtain ⟨cs, h1, h2, h3, h4⟩ := h
  have hex : ∀ i : Nat, ∃ x : RawPc, ∀ p : Prod.Pc, l[i]? = some p → ∃ b o k : Nat, cs[i]? = some x.enc ∧ x = ⟨p.im, p.t, p.cl, some ⟨b, o, none⟩, 24, k⟩ ∧ VA w b o p.rw ∧ v.ownBlock ≠ some b ∧ S b := fun i => by
    cases hp : l[i]? with
    | none => exact ⟨default, fun p hp => by cases hp⟩
    | some p =>
      have hi := (List.getElem?_eq_some_iff.1 hp).1
      have hc := List.getElem?_eq_getElem (l := cs) (i := i) (by omega)
      obtain ⟨F, ⟨⟨b, o, k, e1, hv, rfl⟩, hS⟩, hF⟩ := h4 i p _ hp hc
      exact ⟨⟨p.im, p.t, p.cl, some ⟨b, o, none⟩, 24, k⟩, fun p' hp' => by cases hp'; exact ⟨b, o, k, by rw [hc, e1]; rfl, rfl, hv, hF b (by simp), hS b (by simp)⟩⟩
  obtain ⟨f, hf⟩ := Classical.axiomOfChoice hex
  refine ⟨(List.range l.length).map f, ⟨cs, by simp [h1], h2, by simpa using h3, fun j x c hx hc => ?_⟩, by simp, fun w' hk => Reads.of_at (by simp) fun i x p hx hp => ?_, fun x hx ad ha => ?_⟩
  · rw [List.getElem?_map] at hx
    obtain ⟨j', hj', rfl⟩ := Option.map_eq_some_iff.1 hx
    obtain ⟨hjl, rfl⟩ := List.getElem?_eq_some_iff.1 hj'
    simp at hjl
    rw [List.getElem_range]
    obtain ⟨b, o, k, e1, _⟩ := hf j _ (List.getElem?_eq_getElem hjl)
    rw [hc] at e1; cases e1
    exact ⟨[], ⟨rfl, rfl⟩, fun b hb => by cases hb⟩
  · rw [List.getElem?_map] at hx
    obtain ⟨j', hj', rfl⟩ := Option.map_eq_some_iff.1 hx
    obtain ⟨hjl, rfl⟩ := List.getElem?_eq_some_iff.1 hj'
    rw [List.getElem_range]
    obtain ⟨b, o, k, _, e2, hv, hb, _⟩ := hf i p hp
    rw [e2]
    exact ⟨rfl, rfl, rfl, (VA.aa (w := w') (b := b) (o := o) (l := p.rw) ⟨fun i hi => hk ⟨b, o + i, none⟩ hb _ (hv.1 i hi), hv.2⟩).1, Globe.len_of_valid hv.2, by show 24 ≤ _; omega, rfl⟩
  · obtain ⟨j, hj, rfl⟩ := List.mem_map.1 hx
    have hjl : j < l.length := by simpa using hj
    obtain ⟨b, o, k, _, e2, _, _, hS⟩ := hf j _ (List.getElem?_eq_getElem hjl)
    rw [e2] at ha; cases ha; exact hS
theorem Reverse_c {S : Nat → Prop} {e : Nat} {a : Option Addr} {n cap : Nat} {l : List Prod.Pc} (w : World) (h : OwnS S pieceR e 4 (.slice a n cap) w l) (hl : l.length = n) (hn : n ≤ 1000000) :
    Calls Tryz.prog 126 #[.slice a n cap] w (RevPost S w a n l) := by
  subst hl
  have hblk := h.blk
  obtain ⟨rs, h1, hrl, hr, hS⟩ := own_raw h.own
  have hlt := h1.lt
  rcases h1 with ⟨cs, k1, k2, k3, k4⟩
  rcases k3.2 with ⟨q1, q2⟩ | ⟨g, cap', cur, q1, _⟩
  · injection q1 with r1 r2 r3
    obtain rfl : l = [] := List.eq_nil_of_length_eq_zero r2
    subst r1 r3
    refine (Go.Proofs.AnyQ.slices_Reverse_empty Tryz.revPc none 0 w).mono fun e w' ⟨he, hw⟩ => ⟨he, ?_, fun U hU _ => hw ▸ hU, by rw [hw]; exact Nat.le_refl _⟩
    exact PcsS.nil _ _ _
  · injection q1 with r1 r2 r3
    subst r1
    have h1 : OwnL rawR 0 e 4 (.slice (some ⟨g, 0, none⟩) l.length cap) w rs := ⟨cs, k1, k2, by rw [hrl] at k3 ⊢; exact k3, k4⟩
    have hcon := Go.Proofs.AnyQ.slices_Reverse Tryz.revPc 4 Tryz.isAgg49 Tryz.sizeOf49 RawPc.enc enc_len enc_one g 0 cap rs.toArray w (own_holds h1 hrl) (by simp; omega)
    rw [show rs.toArray.size = l.length by simpa using hrl] at hcon
    refine hcon.mono fun e w' ⟨he, m, hw⟩ => ⟨he, ⟨rs.reverse, ?_, (hr w' fun p hp u hu => ?_).rev, fun _ ad ha => by cases ha; exact hblk g rfl, fun x hx _ ad ha => hS x (by simpa using hx) ad ha⟩, fun U hU hUg => by rw [hw]; exact putRowK_ext hU (hUg _ (hblk g rfl)) _, by rw [hw, Go.Sort.putRowK, Go.Sort.size_putRow]; exact Nat.le_refl _⟩
    · have := holds_raws (w := w') (b := g) (rs := rs.reverse) (by
        rw [hw, show rs.toArray.reverse = rs.reverse.toArray by simp]
        exact Go.Sort.holdsK_putRowK _ _ _ _ _ rs.toArray _ (Go.Sort.holdsK_ahead _ _ _ _ _ _ _ (own_holds h1 hrl)) (by simp)) (by simp; omega)
      rw [List.length_reverse] at this
      rwa [hrl] at this
    · rw [hw, Go.Sort.cell?_putRowK_other _ _ _ _ _ _ _ (fun e => hp (by rw [e]; rfl))]; exact hu
instance {w w' : World} {a : Option Addr} {n : Nat} {rs : List RawPc} : MvC w w' (RawsAt w a n rs) (RawsAt w' a n rs) := ⟨fun e h => h.ext e⟩
instance {w w' : World} {b o : Nat} {x : RawPc} : MvC w w' (RawAt w b o x) (RawAt w' b o x) := ⟨fun e h => h.ext e⟩
instance {w w' : World} {a : Option Addr} {n : Nat} {l : List Prod.Pc} : MvC w w' (PcsAt w a n l) (PcsAt w' a n l) := ⟨fun e h => h.ext e⟩
instance {S : Nat → Prop} {w w' : World} {a : Option Addr} {n : Nat} {l : List Prod.Pc} : MvC w w' (PcsS S w a n l) (PcsS S w' a n l) := ⟨fun e h => h.ext e⟩
end Go.Proofs.YtajdohcgjgknmaaGreatDoor

namespace Go.Proofs.YtajdohcgjgknmaaGreatDoor
set_option maxRecDepth 1000000
set_option maxHeartbeats 4000000
set_option synthInstance.maxHeartbeats 0
set_option synthInstance.maxSize 9999
open Go.RowKit
namespace Prod
def hasIm (l : List Pc) (im : Int) : Bool := l.any fun p => decide (p.im = im)
theorem hasIm_next {l : List Pc} {i : Nat} {p : Pc} {im : Int} (h : hasIm (l.take i) im = false) (hp : l[i]? = some p) (hne : ¬ p.im = im) : hasIm (l.take (i + 1)) im = false := by
 unfold hasIm at *; rw [List.take_add_one, hp, List.any_append, h]; simp [hne]
theorem hasIm_found {l : List Pc} {i : Nat} {p : Pc} {im : Int} (hp : l[i]? = some p) (he : p.im = im) : hasIm l im = true := by
 unfold hasIm; rw [List.any_eq_true]; exact ⟨p, List.mem_of_getElem? hp, by simp [he]⟩
end Prod
theorem in_c (n lo hi : Int) (w : World) : Calls Tryz.prog 79 #[iv n, iv lo, iv hi] w fun e w' => e = .returned (.bool (Globe.inB n lo hi)) ∧ Ext w w' := by
 refine calls_cw 15 [(2, iv hi), (1, iv lo), (0, iv n)] Tryz.func79 rfl Tryz.ntmps79 (by kernel_rfl) (by kernel_rfl) (fun L => ?_);have hE := Ext.refl w;refine zc (zp (pT (.bool false) ?_));refine zn (zc (zp (pD (iv n) (iv lo) ?_)))
 by_cases hc1 : (n : Int) ≥ (lo : Int)
 ·
  refine pU (.bool true) (ed ((n : Int) ≥ (lo : Int)) (hc1)) ?_;refine pD (.bool true) (iv n) ?_;refine pT (iv hi) ?_
  by_cases hc2 : (n : Int) ≤ (hi : Int)
  ·
   refine pU (.bool true) (ed ((n : Int) ≤ (hi : Int)) (hc2)) ?_;refine pD (.bool true) (.bool true) ?_;refine zn (cw_ret (qw_ret [.bool true] rfl ⟨(by kernel_rfl), trivial⟩ ?_));exact ⟨rb (by first | exact (decide_eq_true (by omega)).symm | exact (decide_eq_false (by omega)).symm), hE⟩
  ·
   refine pU (.bool false) (en ((n : Int) ≤ (hi : Int)) (hc2)) ?_;refine pD (.bool false) (.bool false) ?_;refine zn (cw_ret (qw_ret [.bool false] rfl ⟨(by kernel_rfl), trivial⟩ ?_));exact ⟨rb (by first | exact (decide_eq_true (by omega)).symm | exact (decide_eq_false (by omega)).symm), hE⟩
 ·
  refine pU (.bool false) (en ((n : Int) ≥ (lo : Int)) (hc1)) ?_;refine pT (.bool false) ?_;refine pK ?_;refine pK ?_;refine pK ?_;refine pD (.bool false) (.bool false) ?_;refine zn (cw_ret (qw_ret [.bool false] rfl ⟨(by kernel_rfl), trivial⟩ ?_));exact ⟨rb (by first | exact (decide_eq_true (by omega)).symm | exact (decide_eq_false (by omega)).symm), hE⟩
theorem in_r (n lo hi : Int) {r : Bool} (w : World) (hr : Globe.inB n lo hi = r) : Calls Tryz.prog 79 #[.int .i64 n, .int .i64 lo, .int .i64 hi] w fun e w' => e = .returned (.bool r) ∧ Ext w w' := hr ▸ in_c n lo hi w
theorem Valid_q {v r : Bool} {w0 : World} {a : Option Addr} {l : List Int} {n : Nat} (c : Nat) (w : World) (h : AA w0 a l n v) (hE : Ext w0 w) (hr : v = r) : Calls Tryz.prog 50 #[.agg #[.slice a n c]] w fun e w' => e = .returned (.bool r) ∧ Ext w w' := hr ▸ Valid_e c w h hE
theorem right_c {w0 : World} {x : Prod.Pc} {a : Option Addr} {k c : Nat} (w : World) (hA : AA w0 a x.rw k (Globe.validL x.rw)) (e0 : Ext w0 w) : Calls Tryz.prog 57 #[.agg #[iv x.im, iv x.t, .bool x.cl, .slice a k c]] w fun e w' => e = .returned (.bool (Prod.okP x)) ∧ Ext w w' := by
 refine calls_cw 16 [(0, .agg #[iv x.im, iv x.t, .bool x.cl, .slice a k c])] Tryz.func57 rfl Tryz.ntmps57 (by kernel_rfl) (by kernel_rfl) (fun L => ?_);have hE := Ext.refl w;refine zc (zp (pS (sw 49 #[iv x.im, iv x.t, .bool x.cl, .slice a k c] ?_)));intro O1 X2 Bb Bi hb hbx;have ⟨B0, B3, B4, B2⟩ := bq4 hbx;refine mv2 hb e0 hE fun e0 hE=>?_;have Bp := hb.size;have Bm := B0.lt;refine pT (.bool false) ?_;refine zn (zc (zp (pT (pw O1 0) ?_)));refine pU (iv x.im) (xl (ld3 (B0.1))) ?_;rcases Bool.eq_false_or_eq_true (Globe.inB x.im 0 999) with B7 | B7
 ·
  refine pS (sc 79 #[iv x.im, iv 0, iv 999] ((in_r (r := true) x.im 0 999 _ (B7)).mono ?_));rintro e w6 ⟨rfl, hb⟩;refine mv4 hb e0 hE B3 B2 fun e0 hE B3 B2=>?_;have Bl := hb.size;refine ⟨_, rfl, pD (.bool true) (pw O1 1) ?_⟩;refine pU (iv x.t) (xl (ld3 (B3.1))) ?_;rcases Bool.eq_false_or_eq_true (Globe.inB x.t 0 1000000) with Ba | Ba
  ·
   refine pS (sc 79 #[iv x.t, iv 0, iv 1000000] ((in_r (r := true) x.t 0 1000000 _ (Ba)).mono ?_));rintro e w9 ⟨rfl, hb⟩;refine mv3 hb e0 hE B2 fun e0 hE B2=>?_;have Bg := hb.size;refine ⟨_, rfl, pD (.bool true) (.bool true) ?_⟩;refine pT (pw O1 3) ?_;refine pU (.agg #[.slice a k c]) (xl (ld33 (B2.1))) ?_;rcases Bool.eq_false_or_eq_true (Globe.validL x.rw) with B6 | B6
   ·
    refine pS (sc 50 #[.agg #[.slice a k c]] ((Valid_q (r := true) _ _ (hA) e0 B6).mono ?_));rintro e Bj ⟨rfl, hb⟩;refine mv2 hb e0 hE fun e0 hE=>?_;have Bc := hb.size;refine ⟨_, rfl, pD (.bool true) (.bool true) ?_⟩;refine zn (cK [2] (fun L => ?_));refine cw_ret (qw_ret [.bool true] rfl ⟨(by kernel_rfl), trivial⟩ ?_);exact ⟨rb (show Prod.okP x = true by simp [Prod.okP, B7, Ba, B6]).symm, hE⟩
   ·
    refine pS (sc 50 #[.agg #[.slice a k c]] ((Valid_q (r := false) _ _ (hA) e0 B6).mono ?_));rintro e Bo ⟨rfl, hb⟩;replace hE := hE.trans hb;have Be := hb.size;refine ⟨_, rfl, pD (.bool false) (.bool false) ?_⟩;refine zn (cK [2] (fun L => ?_));refine cw_ret (qw_ret [.bool false] rfl ⟨(by kernel_rfl), trivial⟩ ?_);exact ⟨rb (show Prod.okP x = false by simp [Prod.okP, B7, Ba, B6]).symm, hE⟩
  ·
   refine pS (sc 79 #[iv x.t, iv 0, iv 1000000] ((in_r (r := false) x.t 0 1000000 _ (Ba)).mono ?_));rintro e Bk ⟨rfl, hb⟩;replace hE := hE.trans hb;have Bf := hb.size;refine ⟨_, rfl, pD (.bool false) (.bool false) ?_⟩;refine pK ?_;refine pK ?_;refine pK ?_;refine pD (.bool false) (.bool false) ?_;refine zn (cK [2] (fun L => ?_));refine cw_ret (qw_ret [.bool false] rfl ⟨(by kernel_rfl), trivial⟩ ?_);exact ⟨rb (show Prod.okP x = false by simp [Prod.okP, B7, Ba]).symm, hE⟩
 ·
  refine pS (sc 79 #[iv x.im, iv 0, iv 999] ((in_r (r := false) x.im 0 999 _ (B7)).mono ?_));rintro e Bq ⟨rfl, hb⟩;replace hE := hE.trans hb;have Bh := hb.size;refine ⟨_, rfl, pT (.bool false) ?_⟩;refine pK ?_;refine pK ?_;refine pK ?_;refine pD (.bool false) (.bool false) ?_;refine pK ?_;refine pK ?_;refine pK ?_;refine pD (.bool false) (.bool false) ?_;refine zn (cK [2] (fun L => ?_));refine cw_ret (qw_ret [.bool false] rfl ⟨(by kernel_rfl), trivial⟩ ?_);exact ⟨rb (show Prod.okP x = false by simp [Prod.okP, B7]).symm, hE⟩
theorem right_r {w0 : World} {x : Prod.Pc} {a : Option Addr} {k c : Nat} {r v : Bool} (w : World) (hA : AA w0 a x.rw k v) (e0 : Ext w0 w) (hr : Prod.okP x = r) : Calls Tryz.prog 57 #[.agg #[.int .i64 x.im, .int .i64 x.t, .bool x.cl, .slice a k c]] w fun e w' => e = .returned (.bool r) ∧ Ext w w' := by
 obtain rfl := hA.2.2.2; exact hr ▸ right_c w hA e0
theorem twin_c (im : Int) (w : World) : Calls Tryz.prog 59 #[iv im] w fun e w' => ∃ B, e = .returned (.func (.func 105) #[] #[pw B 0]) ∧ w.heap.size ≤ B ∧ w'.cell? ⟨B, 0, none⟩ = some (iv im) ∧ Ext w w' := by
 refine calls_cw 4 [(0, iv im)] Tryz.func59 rfl Tryz.ntmps59 (by kernel_rfl) (by kernel_rfl) (fun L => ?_);have hE := Ext.refl w;refine zc (zp (pS (sw 3 #[iv im] ?_)));intro O1 X2 hzO1 hyO1 hb hbx;have bO1_0 := bq1 hbx;replace hE := hE.trans hb;have hs3 := hb.size;have lt4 := bO1_0.lt;refine pT (Value.nilFunc) ?_;refine zn (zc (zp (pD (.func (.func 105) #[] #[pw O1 0]) (.func (.func 105) #[] #[pw O1 0]) ?_)));refine zn (cw_ret (qw_ret [.func (.func 105) #[] #[pw O1 0]] rfl ⟨(by kernel_rfl), trivial⟩ ?_));exact ⟨O1, rfl, (Nat.le_of_eq hzO1), bO1_0.1, hE⟩
theorem twin1_c {x : Prod.Pc} {a : Option Addr} {k c B : Nat} {im : Int} (w : World) (cB : w.cell? ⟨B, 0, none⟩ = some (iv im)) : Calls Tryz.prog 105 #[.agg #[iv x.im, iv x.t, .bool x.cl, .slice a k c], pw B 0] w fun e w' => e = .returned (.bool (decide (x.im = im))) ∧ Ext w w' := by
 refine calls_cw 8 [(1, pw B 0), (0, .agg #[iv x.im, iv x.t, .bool x.cl, .slice a k c])] Tryz.func105 rfl Tryz.ntmps105 (by kernel_rfl) (by kernel_rfl) (fun L => ?_);have hE := Ext.refl w;refine zc (zp (pS (sw 49 #[iv x.im, iv x.t, .bool x.cl, .slice a k c] ?_)));intro O1 X2 hzO1 hyO1 hb hbx;have ⟨bO1_0, bO1_1, bO1_2, bO1_3⟩ := bq4 hbx;replace hE := hE.trans hb;have hs3 := hb.size;have lt4 := bO1_0.lt;refine pT (.bool false) ?_;refine pl_nil (qw_then ?_);refine cw_seq ?_;have hX5 := Ext.refl X2;refine zp (pT (pw O1 0) ?_);refine pU (iv x.im) (xl (ld3 (bO1_0.1))) ?_;refine pU (iv im) (xl (ld3 ((hE.cell cB)))) ?_
 by_cases hc6 : (x.im : Int) = (im : Int)
 ·
  refine pU (.bool true) (eE (x.im : Int) (im : Int) (hc6)) ?_;refine pT (.bool true) ?_;refine zn (cw_ret (qw_ret [.bool true] rfl ⟨(by kernel_rfl), trivial⟩ ?_));exact ⟨rb (show decide (x.im = im) = true by simp [hc6]).symm, hE⟩
 ·
  refine pU (.bool false) (eN (x.im : Int) (im : Int) (hc6)) ?_;refine pT (.bool false) ?_;refine zn (cw_ret (qw_ret [.bool false] rfl ⟨(by kernel_rfl), trivial⟩ ?_));exact ⟨rb (show decide (x.im = im) = false by simp [hc6]).symm, hE⟩
theorem twin1_r {x : Prod.Pc} {a : Option Addr} {k c B : Nat} {im : Int} {r : Bool} (w : World) (cB : w.cell? ⟨B, 0, none⟩ = some (.int .i64 im)) (hr : decide (x.im = im) = r) : Calls Tryz.prog 105 #[.agg #[.int .i64 x.im, .int .i64 x.t, .bool x.cl, .slice a k c], .pointer (some ⟨B, 0, none⟩)] w fun e w' => e = .returned (.bool r) ∧ Ext w w' := hr ▸ twin1_c w cB
theorem IndexTwin_c {w0 w1 : World} {a : Option Addr} {n : Nat} {l : List Prod.Pc} {B : Nat} {im : Int} (c : Nat) (w : World) (h : PcsAt w0 a n l) (e0 : Ext w0 w) (cB : w1.cell? ⟨B, 0, none⟩ = some (iv im)) (e1 : Ext w1 w) : Calls Tryz.prog 104 #[.slice a n c, .func (.func 105) #[] #[pw B 0]] w fun e w' => ∃ z : Int, e = .returned (iv z) ∧ (0 ≤ z ↔ Prod.hasIm l im = true) ∧ (-1 ≤ z ∧ z ≤ 140737488355328) ∧ Ext w w' := by
 replace cB := e1.cell cB;replace h := h.ext e0;have hnb := h.max;have hln := h.len;clear e0 e1;refine calls_cw 19 [(1, .func (.func 105) #[] #[pw B 0]), (0, .slice a n c)] Tryz.func104 rfl Tryz.ntmps104 (by kernel_rfl) (by kernel_rfl) (fun L => ?_);have hE := Ext.refl w;refine zc (zp (pT (iv 0) ?_));refine zn (zc (zc (zp (pD (.slice a n c) (iv n) ?_))));refine pT (iv 0) ?_;refine zn (cw_block ?_);refine cw_loop [0, 1, 7, 8] (fun ws' wr m => ∃ i : Nat, ws' = [(0, .slice a n c), (1, .func (.func 105) #[] #[pw B 0]), (7, iv n), (8, iv i)] ∧ m = n - i ∧ w.heap.size ≤ wr.heap.size ∧ Ext w wr ∧ i ≤ n ∧ Prod.hasIm (l.take i) im = false) (ws0 := [(0, .slice a n c), (1, .func (.func 105) #[] #[pw B 0]), (7, iv n), (8, iv 0)]) (by kernel_rfl) _ ⟨0, rfl, rfl, Nat.le_refl _, hE, by omega, rfl⟩ ?_;clear hE;rintro m3 L ws w2 ⟨i, rfl, rfl, Be, hE, hi, hno⟩
 by_cases hlt : i < n
 ·
  obtain ⟨b4, o5, p, B4, k7, c8, rfl, Bb, B7, B2, B3, B6, Bc⟩ := h.at hlt;refine zc (zp (pU (.bool true) (ed (((i : Nat) : Int) < ((n : Nat) : Int)) (by omega)) ?_));refine zn (zc (zt ?_));refine cw_skip (zq (zc (cw_block ?_)));refine zc (zp (pD (iv i) (iv i) ?_));refine zn (zc (zp (pD (.func (.func 105) #[] #[pw B 0]) (sv b4 o5 n c) ?_)));refine pT (iv i) ?_;refine pU (pw b4 (o5 + i * 4)) (xi (sv b4 o5 n c) (iv i) (ix30 (k := i) (by omega))) ?_;refine pU (.agg #[iv p.im, iv p.t, .bool p.cl, .slice B4 k7 c8]) (xl (ld49 ((hE.cell B7)) ((hE.cell B2)) ((hE.cell B3)) ((hE.cell B6)))) ?_;rcases Bool.eq_false_or_eq_true (decide (p.im = im)) with B0 | B0
  ·
   refine pS (sc 105 #[.agg #[iv p.im, iv p.t, .bool p.cl, .slice B4 k7 c8], pw B 0] ((twin1_r (x := p) (r := true) _ ((hE.cell cB)) B0).mono ?_));rintro e Bg ⟨rfl, hb⟩;replace hE := hE.trans hb;have Bf := hb.size;refine ⟨_, rfl, ?_⟩;refine zn (zt ?_);refine zc (zp (pD (iv i) (iv i) ?_));refine zn (cK [4] (fun L => ?_));refine cw_ret (qw_block_ret (qw_then_ret (qw_then_ret (qw_block_ret (qw_then_ret (qw_ret [iv i] rfl ⟨(by kernel_rfl), trivial⟩ ?_))))));exact ⟨_, rfl, ⟨fun _ => Prod.hasIm_found Bb (of_decide_eq_true B0), fun _ => by omega⟩, by omega, hE⟩
  ·
   refine pS (sc 105 #[.agg #[iv p.im, iv p.t, .bool p.cl, .slice B4 k7 c8], pw B 0] ((twin1_r (x := p) (r := false) _ ((hE.cell cB)) B0).mono ?_));rintro e Bh ⟨rfl, hb⟩;replace hE := hE.trans hb;have Ba := hb.size;refine ⟨_, rfl, ?_⟩;refine zn (zf ?_);refine cw_skip (qw_block (zq (zp (pU (iv ((i + 1 : Nat) : Int)) (ew (by omega) (by omega)) ?_))));refine pT (iv ((i + 1 : Nat) : Int)) ?_;refine pl_nil (zr [0, 1, 7, 8] _ ?_ ⟨(i + 1), rfl, rfl, (T Be Ba), hE, by omega, Prod.hasIm_next hno Bb (of_decide_eq_false B0)⟩);omega
 ·
  have hin : i = n := by omega
  refine zc (zp (pU (.bool false) (en (((i : Nat) : Int) < ((n : Nat) : Int)) (by omega)) ?_));refine zn (zc (zf ?_));refine cw_exit (qw_then_exit (qw_then_exit (qw_block_out (zq (zc (zp (pT (iv (-1 : Int)) ?_)))))));refine zn (cw_ret (qw_ret [iv (-1 : Int)] rfl ⟨(by kernel_rfl), trivial⟩ ?_));exact ⟨_, rfl, ⟨fun h => absurd h (by omega), fun h => by rw [hin, List.take_of_length_le (Nat.le_of_eq hln)] at hno; rw [hno] at h; cases h⟩, by omega, hE⟩
theorem ContainsTwin_c {w0 w1 : World} {a : Option Addr} {n : Nat} {l : List Prod.Pc} {B : Nat} {im : Int} (c : Nat) (w : World) (h : PcsAt w0 a n l) (e0 : Ext w0 w) (cB : w1.cell? ⟨B, 0, none⟩ = some (iv im)) (e1 : Ext w1 w) : Calls Tryz.prog 58 #[.slice a n c, .func (.func 105) #[] #[pw B 0]] w fun e w' => e = .returned (.bool (Prod.hasIm l im)) ∧ Ext w w' := by
 refine calls_cw 9 [(1, .func (.func 105) #[] #[pw B 0]), (0, .slice a n c)] Tryz.func58 rfl Tryz.ntmps58 (by kernel_rfl) (by kernel_rfl) (fun L => ?_);have hE := Ext.refl w;refine zc (zp (pT (.bool false) ?_));refine zn (zc (zp (pD (.slice a n c) (.func (.func 105) #[] #[pw B 0]) ?_)));refine pS (sc 104 #[.slice a n c, .func (.func 105) #[] #[pw B 0]] ((IndexTwin_c _ _ h (e0.trans (Ext.refl _)) cB (e1.trans (Ext.refl _))).mono ?_));rintro e w1 ⟨z, rfl, hz, hzb, hb⟩;replace hE := hE.trans hb;have hs2 := hb.size;refine ⟨_, rfl, ?_⟩
 by_cases hc3 : (z : Int) ≥ (0 : Int)
 ·
  refine pU (.bool true) (ed ((z : Int) ≥ (0 : Int)) (hc3)) ?_;refine pT (.bool true) ?_;refine zn (cw_ret (qw_ret [.bool true] rfl ⟨(by kernel_rfl), trivial⟩ ?_));exact ⟨rb ((hz.1 hc3).symm), hE⟩
 ·
  refine pU (.bool false) (en ((z : Int) ≥ (0 : Int)) (hc3)) ?_;refine pT (.bool false) ?_;refine zn (cw_ret (qw_ret [.bool false] rfl ⟨(by kernel_rfl), trivial⟩ ?_));exact ⟨rb (by cases q : Prod.hasIm l im; rfl; exact absurd (hz.2 q) hc3), hE⟩
theorem ContainsTwin_r {w0 w1 : World} {a : Option Addr} {n : Nat} {l : List Prod.Pc} {B : Nat} {im : Int} (c : Nat) (w : World) (h : PcsAt w0 a n l) (e0 : Ext w0 w) (cB : w1.cell? ⟨B, 0, none⟩ = some (.int .i64 im)) (e1 : Ext w1 w) {r : Bool} (hr : Prod.hasIm l im = r) : Calls Tryz.prog 58 #[.slice a n c, .func (.func 105) #[] #[.pointer (some ⟨B, 0, none⟩)]] w fun e w' => e = .returned (.bool r) ∧ Ext w w' := hr ▸ ContainsTwin_c c w h e0 cB e1
end Go.Proofs.YtajdohcgjgknmaaGreatDoor
