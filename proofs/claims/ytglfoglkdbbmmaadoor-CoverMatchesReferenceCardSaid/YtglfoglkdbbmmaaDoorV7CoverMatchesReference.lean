/- The statement CoverMatchesReference: for every input that the row lists, the law returns true, and every argument reads as it read before. -/
import Derived.Test.YtglfoglkdbbmmaaDoorV6CoverMatchesReference
/- The walk of the law CoverMatchesReference. -/
namespace Go.Proofs.YtglfoglkdbbmmaaDoor
open Go.RowKit Go.Shelf

namespace Globe
theorem left_le : ∀ (S : List (List Int)) {l : List Int}, l.length ≤ 140737488355328 → (leftL l S).length ≤ 140737488355328
  | [], _, h => h
  | s :: r, l, _ => left_le r (l := lessL l s) (by unfold lessL; rw [rowsF_len]; omega)
theorem pieces_ok {l : List Int} {ss : List (List Int × List Int)} {v : Bool} {P : List (List Int)} (hv : validL l = v) (h : orP (v && stripsOk ss) (piecesL l (ss.map fun s => s.1)) = P) : (∀ p ∈ P, validL p = true) ∧ P.length ≤ 24 := by
  subst h
  cases hq : (v && stripsOk ss)
  · exact ⟨fun p hp => by simp [orP] at hp, Nat.zero_le _⟩
  · obtain ⟨rfl, hok⟩ := Bool.and_eq_true_iff.1 hq
    refine ⟨pieces_valid _ hv, ?_⟩
    show (piecesL l _).length ≤ 24
    rw [pieces_len, List.length_map]; exact (stripsOk_t.1 hok).1
end Globe
theorem aa_of {w : World} {a : Option Addr} {l : List Int} (h : IntsAt w a l) (hb : l.length ≤ 140737488355328) : AA w a l l.length (Globe.validL l) := ⟨h, rfl, hb, rfl⟩
theorem rSame_t {w1 w2 : World} {a1 a2 : Option Addr} {l : List Int} {n : Nat} {v1 v2 : Bool} (c1 c2 : Nat) (w : World) (h1 : AA w1 a1 l n v1) (e1 : Ext w1 w) (h2 : AA w2 a2 l n v2) (e2 : Ext w2 w) :
    Calls Tryd.prog 21 #[.agg #[.slice a1 n c1], .agg #[.slice a2 n c2]] w fun e w' => e = .returned (.bool true) ∧ Ext w w' := by
  have h := rSame_c c1 c2 w h1 e1 h2 e2
  rwa [decide_eq_true rfl] at h
def UncV (w : World) (L1 L2 : List Int) (c : Int) (e : Ending) (w' : World) : Prop :=
  ∃ (a1 : Option Addr) (k1 : Nat) (a2 : Option Addr) (k2 : Nat), e = .returned (.tuple #[.agg #[.slice a1 L1.length k1], .agg #[.slice a2 L2.length k2], .int .i64 c]) ∧ IntsAt w' a1 L1 ∧ IntsAt w' a2 L2 ∧ Ext w w' ∧
    (∀ ad, a1 = some ad → True ∧ ad.block < w'.heap.size) ∧ ∀ ad, a2 = some ad → True ∧ ad.block < w'.heap.size
theorem unc_p {f : Nat} {args : Array Value} {w : World} {ok : Bool} {L1 L2 U1 U2 : List Int} {ec : Int} (h1 : orL ok L1 = U1) (h2 : orL ok L2 = U2) (h3 : orE ok 160 = ec) (h : Calls Tryd.prog f args w (UncAny w ok L1 L2)) : Calls Tryd.prog f args w (UncV w U1 U2 ec) := by
  subst h1 h2 h3; exact h
def DecV (w : World) (P : List (List Int)) (L : List Int) (c : Int) (e : Ending) (w' : World) : Prop :=
  ∃ (a : Option Addr) (c1 : Nat) (a1 : Option Addr) (k : Nat), e = .returned (.tuple #[.slice a P.length c1, .agg #[.slice a1 L.length k], .int .i64 c]) ∧ AreasAt w' a P.length P ∧ IntsAt w' a1 L ∧ Ext w w' ∧ ∀ ad, a1 = some ad → True ∧ ad.block < w'.heap.size
theorem dec_p {f : Nat} {args : Array Value} {w : World} {ok : Bool} {P PL : List (List Int)} {L U : List Int} {ec : Int} (h1 : orP ok P = PL) (h2 : orL ok L = U) (h3 : orE ok 160 = ec) (h : Calls Tryd.prog f args w (DecAny w ok P L)) : Calls Tryd.prog f args w (DecV w PL U ec) := by
  subst h1 h2 h3; exact h
def FewV (w : World) (FL : List Nat) (q : Bool) (c : Int) (e : Ending) (w' : World) : Prop :=
  ∃ (a : Option Addr) (k : Nat), e = .returned (.tuple #[.slice a FL.length k, .bool q, .int .i64 c]) ∧ IntsAt w' a (intsN FL) ∧ Ext w w'
theorem few_p {f : Nat} {args : Array Value} {w : World} {ok : Bool} {r : Option (List Nat)} {FL : List Nat} {q : Bool} {ec : Int} (h1 : (if ok then r.getD [] else []) = FL) (h2 : (ok && r.isSome) = q) (h3 : orE ok 160 = ec) (h : Calls Tryd.prog f args w (FewAny w ok r)) : Calls Tryd.prog f args w (FewV w FL q ec) := by
  subst h1 h2 h3; exact h
theorem few_le {p : List Nat → Bool} {n : Nat} {x : Bool} {FL : List Nat} (h : (if decide (n ≤ 12) && x then (Globe.fewestL p n).getD [] else []) = FL) : FL.length ≤ 12 := by
  subst h
  split
  · rename_i hq
    have h12 : n ≤ 12 := by simpa using (Bool.and_eq_true_iff.1 hq).1
    have : ((Globe.fewestL p n).getD []).length ≤ n := by
      cases e : Globe.fewestL p n with
      | none => simp
      | some l => exact (Globe.fewest_some e).2.2.1
    omega
  · simp
theorem few_aa {w : World} {a : Option Addr} {n c : Nat} {l : List Int} (h : AreaC w a n c l) {M : Nat} (hM : M = min n 25) : AA w a (few25 l) M (Globe.validL (few25 l)) := by
  obtain ⟨F, h1, h2, h3, _⟩ := few_rows h hM
  exact ⟨h1.ints, h2, h3, rfl⟩
/-- As R, where nothing that is looked into lies in block O. -/
def avR {α : Type} (O : Nat) (R : Rep α) : Rep α where
  rel w c x F := R.rel w c x F ∧ ∀ b ∈ F, b ≠ O
  keep := fun h hk => ⟨R.keep h.1 hk, h.2⟩
  lt := fun h => R.lt h.1
theorem OwnL.toAv {O m n₀ : Nat} {e : TypeId} {v : Value} {w : World} {l : List (List Int × List Int)} (h : OwnL (freshR m stripR) n₀ e 2 v w l) (hO : O < m) : OwnL (avR O stripA) n₀ e 2 v w l := by
  obtain ⟨cs, h1, h2, h3, h4⟩ := h
  exact ⟨cs, h1, h2, h3, fun j x c hx hc => by
    obtain ⟨F, ⟨⟨b, o, k, b', o', k', rfl, v1, v2, rfl⟩, hm⟩, q2⟩ := h4 j x c hx hc
    have l1 := v1.len; have l2 := v2.len
    exact ⟨[b, b'], ⟨⟨_, 24, k, _, 24, k', [b], [b'], rfl, .inr ⟨b, o, rfl, fun i hi => v1.1 i (by omega), by omega, rfl⟩, l1, by omega, .inr ⟨b', o', rfl, fun i hi => v2.1 i (by omega), by omega, rfl⟩, l2, by omega, rfl⟩, fun d hd e => by have := hm d hd; omega⟩, q2⟩⟩
theorem IntsF.turn {O : Nat} {w X : World} (ht : Turns O w X) {a : Option Addr} {l : List Int} {F : List Nat} (h : IntsF w a l F) (hF : ∀ b ∈ F, b ≠ O) : IntsF X a l F := h.keep fun b hb _ _ hu => ht.cell (fun e => hF b hb e.symm) hu
/-- Strips of one's own stay so while block O turns. -/
theorem own_safe {O n₀ : Nat} {e : TypeId} {w : World} {a : Option Addr} {n c : Nat} {l : List (List Int × List Int)} (h : OwnL (avR O stripA) n₀ e 2 (.slice a n c) w l) (hl : l.length = n) (hn : n ≤ 140737488355328) (hO : O < n₀) : ∀ X, Turns O w X → StripsAt X a n l := fun X ht => by
  have hb := h.base
  subst hl
  obtain ⟨cs, h1, h2, h3, h4⟩ := h
  refine ⟨rfl, hn, ?_⟩
  rcases h3.2 with ⟨_, q⟩ | ⟨g, cap, cur, hv, _⟩
  · exact .inl q
  · cases hv
    have hg : O ≠ g := by have := hb g rfl; omega
    refine .inr ⟨g, 0, rfl, fun i s hs => ?_⟩
    have hi := (List.getElem?_eq_some_iff.1 hs).1
    obtain ⟨d, hd⟩ : ∃ d, cs[i]? = some d := ⟨_, List.getElem?_eq_getElem (by rw [h1]; exact hi)⟩
    obtain ⟨F, ⟨⟨a1, n1, c1, a2, n2, c2, F1, F2, rfl, q1, e1, b1, q2, e2, b2, rfl⟩, hF⟩, _⟩ := h4 i s d hs hd
    have f0 := flatten_get h2 i hd 0 (by omega)
    have f1 := flatten_get h2 i hd 1 (by omega)
    refine ⟨a1, n1, c1, _, a2, n2, c2, _, ?_, ⟨(q1.turn ht fun b hb => hF b (by simp [hb])).ints, e1, b1, rfl⟩, ?_, ⟨(q2.turn ht fun b hb => hF b (by simp [hb])).ints, e2, b2, rfl⟩⟩
    · exact ht.cell hg (own_cell h3 (by omega) (by simpa using f0))
    · rw [show 0 + i * 2 + 1 = 0 + (i * 2 + 1) by omega]; exact ht.cell hg (own_cell h3 (by omega) (by simpa using f1))
theorem own_addr {α : Type} {R : Rep α} {n₀ : Nat} {e : TypeId} {size : Nat} {a : Option Addr} {n c : Nat} {w : World} {l : List α} (h : OwnL R n₀ e size (.slice a n c) w l) (hl : l.length = n) (hn : 0 < n) : ∃ g, a = some ⟨g, 0, none⟩ := by
  subst hl
  obtain ⟨cs, h1, h2, h3, h4⟩ := h
  rcases h3.2 with ⟨_, q⟩ | ⟨g, cap, cur, hv, _⟩
  · omega
  · cases hv; exact ⟨g, rfl⟩
/-- The first of some strips of one's own. -/
theorem own_stripA0 {m n₀ : Nat} {e : TypeId} {w : World} {a : Option Addr} {n c : Nat} {l : List (List Int × List Int)} (h : OwnL (oldR m stripA) n₀ e 2 (.slice a n c) w l) (hl : l.length = n) (hn : 0 < n) :
    ∃ (g : Nat) (s : List Int × List Int) (a1 : Option Addr) (n1 c1 : Nat) (a2 : Option Addr) (n2 c2 : Nat) (F1 F2 : List Nat), a = some ⟨g, 0, none⟩ ∧ l[0]? = some s ∧ w.cell? ⟨g, 0, none⟩ = some (.slice a1 n1 c1) ∧ w.cell? ⟨g, 1, none⟩ = some (.slice a2 n2 c2) ∧
      IntsF w a1 s.1 F1 ∧ s.1.length = n1 ∧ n1 ≤ 140737488355328 ∧ IntsF w a2 s.2 F2 ∧ s.2.length = n2 ∧ n2 ≤ 140737488355328 ∧ (∀ b ∈ F1, b < m) ∧ ∀ b ∈ F2, b < m := by
  subst hl
  obtain ⟨cs, h1, h2, h3, h4⟩ := h
  rcases h3.2 with ⟨_, q⟩ | ⟨g, cap, cur, hv, _⟩
  · omega
  · cases hv
    obtain ⟨d, hd⟩ : ∃ d, cs[0]? = some d := ⟨_, List.getElem?_eq_getElem (by rw [h1]; exact hn)⟩
    have hli := List.getElem?_eq_getElem hn
    obtain ⟨F, ⟨⟨a1, n1, c1, a2, n2, c2, F1, F2, rfl, q1, e1, b1, q2, e2, b2, rfl⟩, hF⟩, _⟩ := h4 0 _ d hli hd
    have f0 := own_cell h3 (j := 0) (by omega) (by simpa using flatten_get h2 0 hd 0 (by omega))
    have f1 := own_cell h3 (j := 1) (by omega) (by simpa using flatten_get h2 0 hd 1 (by omega))
    exact ⟨g, _, a1, n1, c1, a2, n2, c2, F1, F2, rfl, hli, f0, f1, q1, e1, b1, q2, e2, b2, fun b hb => hF b (by simp [hb]), fun b hb => hF b (by simp [hb])⟩
/-- A strip put in the place of another one, in a list of one's own; it stays so while block O turns. -/
theorem strips_setS {O : Nat} {w : World} {n₀ e : Nat} {g n cap : Nat} {ls : List (List Int × List Int)} (h : OwnL (avR O stripA) n₀ e 2 (.slice (some ⟨g, 0, none⟩) n cap) w ls) (hl : ls.length = n) (hn : n ≤ 140737488355328) {k : Nat} (hk : k < n) (hgO : O ≠ g)
    {a1 a2 : Option Addr} {n1 c1 n2 c2 : Nat} {s : List Int × List Int} {F1 F2 : List Nat} (i1 : IntsF w a1 s.1 F1) (g1 : ∀ b ∈ F1, b ≠ g ∧ b ≠ O) (l1 : s.1.length = n1) (b1 : n1 ≤ 140737488355328) (i2 : IntsF w a2 s.2 F2) (g2 : ∀ b ∈ F2, b ≠ g ∧ b ≠ O) (l2 : s.2.length = n2) (b2 : n2 ≤ 140737488355328) :
    (∃ u u', w.cell? ⟨g, k * 2, none⟩ = some u ∧ w.cell? ⟨g, k * 2 + 1, none⟩ = some u') ∧ w.frozen? ⟨g, k * 2, none⟩ = false ∧ w.frozen? ⟨g, k * 2 + 1, none⟩ = false ∧
      ∀ X, Turns O ((w.setCell ⟨g, k * 2, none⟩ (.slice a1 n1 c1)).setCell ⟨g, k * 2 + 1, none⟩ (.slice a2 n2 c2)) X → StripsAt X (some ⟨g, 0, none⟩) n (ls.set k s) := by
  subst hl
  obtain ⟨cs, h1, h2, h3, h4⟩ := h
  have cellj : ∀ j (hj : j < ls.length), ∃ (t : List Int × List Int) (a3 : Option Addr) (n3 c3 : Nat) (a4 : Option Addr) (n4 c4 : Nat) (F3 F4 : List Nat), ls[j]? = some t ∧ w.cell? ⟨g, j * 2, none⟩ = some (.slice a3 n3 c3) ∧ w.cell? ⟨g, j * 2 + 1, none⟩ = some (.slice a4 n4 c4) ∧
      IntsF w a3 t.1 F3 ∧ t.1.length = n3 ∧ n3 ≤ 140737488355328 ∧ IntsF w a4 t.2 F4 ∧ t.2.length = n4 ∧ n4 ≤ 140737488355328 ∧ (∀ b ∈ F3, b ≠ g ∧ b ≠ O) ∧ ∀ b ∈ F4, b ≠ g ∧ b ≠ O := fun j hj => by
    obtain ⟨d, hd⟩ : ∃ d, cs[j]? = some d := ⟨_, List.getElem?_eq_getElem (by rw [h1]; exact hj)⟩
    have hlj := List.getElem?_eq_getElem hj
    obtain ⟨F, ⟨⟨a3, n3, c3, a4, n4, c4, F3, F4, rfl, q1, e1, d1, q2, e2, d2, rfl⟩, hO⟩, q3⟩ := h4 j _ d hlj hd
    have f0 := own_cell h3 (j := j * 2) (by omega) (by simpa using flatten_get h2 j hd 0 (by omega))
    have f1 := own_cell h3 (j := j * 2 + 1) (by omega) (by simpa using flatten_get h2 j hd 1 (by omega))
    rw [Nat.zero_add] at f0 f1
    exact ⟨_, a3, n3, c3, a4, n4, c4, F3, F4, hlj, f0, f1, q1, e1, d1, q2, e2, d2, fun b hb => ⟨fun e => q3 b (by simp [hb]) (by rw [e]; rfl), hO b (by simp [hb])⟩, fun b hb => ⟨fun e => q3 b (by simp [hb]) (by rw [e]; rfl), hO b (by simp [hb])⟩⟩
  obtain ⟨_, _, _, _, _, _, _, _, _, _, hc0, hc1, _⟩ := cellj k hk
  refine ⟨⟨_, _, hc0, hc1⟩, h3.frozenAt _, h3.frozenAt _, fun X ht => ⟨by rw [List.length_set], hn, .inr ⟨g, 0, rfl, fun i t hi => ?_⟩⟩⟩
  have keepF : ∀ {a : Option Addr} {l : List Int} {F : List Nat}, IntsF w a l F → (∀ b ∈ F, b ≠ g ∧ b ≠ O) → IntsAt X a l := fun hi hg =>
    (((hi.other (p := ⟨g, k * 2, none⟩) (fun b hb => (hg b hb).1) _).other (p := ⟨g, k * 2 + 1, none⟩) (fun b hb => (hg b hb).1) _).turn ht fun b hb => (hg b hb).2).ints
  have hiL : i < ls.length := by have := (List.getElem?_eq_some_iff.1 hi).1; rwa [List.length_set] at this
  by_cases e : k = i
  · subst e
    rw [List.getElem?_set_self (by exact hk)] at hi
    cases hi
    refine ⟨a1, n1, c1, _, a2, n2, c2, _, ht.cell hgO ?_, ⟨keepF i1 g1, l1, b1, rfl⟩, ht.cell hgO ?_, ⟨keepF i2 g2, l2, b2, rfl⟩⟩
    · rw [Nat.zero_add, World.cell?_setCell_other _ _ _ _ (fun c => by have := congrArg Addr.off c; simp at this)]; simp [go_sem, hc0]
    · rw [Nat.zero_add]
      have h9 : (w.setCell ⟨g, k * 2, none⟩ (.slice a1 n1 c1)).cell? ⟨g, k * 2 + 1, none⟩ = some _ := (World.cell?_setCell_other w _ _ _ (fun c => by have := congrArg Addr.off c; simp at this)).trans hc1
      simp [go_sem, h9]
  · rw [List.getElem?_set_ne e] at hi
    obtain ⟨t', a3, n3, c3, a4, n4, c4, F3, F4, q0, q1, q2, v1, e1, d1, v2, e2, d2, m1, m2⟩ := cellj i hiL
    rw [hi] at q0; cases q0
    refine ⟨a3, n3, c3, _, a4, n4, c4, _, ht.cell hgO ?_, ⟨keepF v1 m1, e1, d1, rfl⟩, ht.cell hgO ?_, ⟨keepF v2 m2, e2, d2, rfl⟩⟩
    · rw [Nat.zero_add, World.cell?_setCell_other _ _ _ _ (fun c => by have := congrArg Addr.off c; simp at this; omega), World.cell?_setCell_other _ _ _ _ (fun c => by have := congrArg Addr.off c; simp at this; omega)]; exact q1
    · rw [Nat.zero_add, World.cell?_setCell_other _ _ _ _ (fun c => by have := congrArg Addr.off c; simp at this; omega), World.cell?_setCell_other _ _ _ _ (fun c => by have := congrArg Addr.off c; simp at this; omega)]; exact q2
/-- Areas, appended to an empty slice. -/
theorem app_areas0 {w : World} {n₀ O n c : Nat} {a : Option Addr} {ty : TypeId} {ls : List (List Int)} (hO : w.heap[O]? = some (.cells #[] 25 (0, 0))) (hnO : n₀ ≤ O) (h : AreasAt w a n ls) (hn9 : n ≤ 1000) (hv : ∀ l ∈ ls, Globe.validL l = true) :
    ∃ g cap w', (Builtin.append_ #[34, 34] ty #[.slice (some ⟨O, 0, none⟩) 0 0, .slice a n c]).run Tryd.prog w = .ok (.slice (some ⟨g, 0, none⟩) n cap) w' ∧ OwnL areaR n₀ 25 1 (.slice (some ⟨g, 0, none⟩) n cap) w' ls ∧ Grew n₀ w w' := by
  rcases Nat.eq_zero_or_pos n with h0 | h0
  · subst h0
    obtain rfl := List.eq_nil_of_length_eq_zero h.1
    exact ⟨O, 0, w, app_none areaT (Nat.le_refl _), OwnL.empty areaR hO hnO, Nat.le_refl _, fun _ hE _ => hE⟩
  · obtain ⟨b, off, rfl, _⟩ := h.2.2.resolve_left (by omega)
    exact app_areas hO hnO h h0 hn9 hv
theorem oldF {m O g : Nat} {F : List Nat} (h : ∀ b ∈ F, b < m) (h1 : m ≤ g) (h2 : m ≤ O) : ∀ b ∈ F, b ≠ g ∧ b ≠ O := fun b hb => by have := h b hb; omega
theorem Turns.ints {O : Nat} {w X : World} (h : Turns O w X) {a : Option Addr} {l : List Int} (hne : ∀ ad, a = some ad → ad.block ≠ O) (hv : IntsAt w a l) : IntsAt X a l := by
  rcases hv with q | ⟨b, off, rfl, q⟩
  · exact .inl q
  · exact .inr ⟨b, off, rfl, fun i hi => h.cell (fun e => hne _ rfl e.symm) (q i hi)⟩
theorem IntsAt.F9 {w : World} {a : Option Addr} {l : List Int} (h : IntsAt w a l) {m : Nat} (hm : w.heap.size ≤ m) : ∃ F, IntsF w a l F ∧ ∀ b ∈ F, b ≠ m := by
  obtain ⟨F, hF⟩ := h.F
  exact ⟨F, hF, fun b hb e => by have := hF.lt b hb; omega⟩
set_option maxRecDepth 1000000 in
set_option maxHeartbeats 4000000 in
theorem CoverMatchesReference_walk (w : World) (v0 : Value) (o0 : Quads w v0) (v1 : Value) (o1 : Quads w v1) (v2 : Value) (o2 : AnArea w v2) (v3 : Value) (o3 : AStrips w v3) (v4 : Value) (o4 : AStrip w v4) (i5 : Int) (hi5 : IsI i5) (hT : Tab w) :
    Calls Tryd.prog 3 #[v0, v1, v2, v3, v4, .int .i64 i5] w fun e w' => e = .returned (.bool true) ∧ Ext w w' := by
  obtain ⟨a0, n0, c0, q0, rfl, hnc0, hcm0, hz0, Q0⟩ := o0
  obtain ⟨a1, n1, c1, q1, rfl, hnc1, hcm1, hz1, Q1⟩ := o1
  obtain ⟨aR, nR, kR, lR, rfl, AR⟩ := o2
  obtain ⟨aS, nS, cS, sS, rfl, hnS, hcS, hzS, SS⟩ := o3
  obtain ⟨p1, m1, k1, p2, m2, k2, sO, rfl, Od1, Od2⟩ := o4
  obtain ⟨MR, hMR⟩ : ∃ M, M = min nR 25 := ⟨_, rfl⟩
  have hcR := AR.2.2.1
  have AAR := few_aa AR hMR
  refine calls_cw 217 [(5, .int .i64 (i5 : Int)), (4, .agg #[.slice p1 m1 k1, .slice p2 m2 k2]), (3, .slice aS nS cS), (2, .agg #[.slice aR nR kR]), (1, .slice a1 n1 c1), (0, .slice a0 n0 c0)] Tryd.func3 rfl Tryd.ntmps3 (by kernel_rfl) (by kernel_rfl) (fun L => ?_)
  have hE : Ext w w := Ext.refl w
  refine cw_seq ?_
  refine cw_plain ?_
  refine pl_step rfl (by kernel_rfl) (by kernel_rfl) (by kernel_rfl) (sn_new (us := #[.slice aR nR kR]) (t := 25) (by kernel_rfl) ?_)
  intro O1 X2 hO hOs hb hbx
  have hzO1 := hO; have hyO1 := hOs; clear hO hOs
  have bO1_0 : BoxAt X2 O1 0 (.slice aR nR kR) := hbx 0 _ rfl
  clear hbx
  replace hE := hE.trans hb
  have hs3 := hb.size
  clear hb
  have lt4 := bO1_0.lt
  refine pl_step rfl (by kernel_rfl) (by kernel_rfl) (by kernel_rfl) (sn_new (us := #[.slice p1 m1 k1, .slice p2 m2 k2]) (t := 28) (by kernel_rfl) ?_)
  intro O5 X6 hO hOs hb hbx
  have hzO5 := hO; have hyO5 := hOs; clear hO hOs
  have bO5_0 : BoxAt X6 O5 0 (.slice p1 m1 k1) := hbx 0 _ rfl
  have bO5_1 : BoxAt X6 O5 1 (.slice p2 m2 k2) := hbx 1 _ rfl
  clear hbx
  replace hE := hE.trans hb
  replace bO1_0 := BoxAt.ext hb bO1_0
  have hs7 := hb.size
  clear hb
  have lt8 := bO5_0.lt
  refine pl_take (.bool false) rfl (by kernel_rfl) (by kernel_rfl) (by kernel_rfl) (by kernel_rfl) ?_
  refine pl_nil ?_
  refine qw_then ?_
  refine cw_seq ?_
  refine cw_seq ?_
  refine cw_plain ?_
  refine pl_step rfl (by kernel_rfl) (by kernel_rfl) (by kernel_rfl) (sn_call (f := 10) (args := #[]) (by kernel_rfl) ((sane_c _ (hT.ext hE)).mono ?_))
  rintro e w9 ⟨rfl, hb⟩
  replace hE := hE.trans hb
  replace bO1_0 := BoxAt.ext hb bO1_0
  replace bO5_0 := BoxAt.ext hb bO5_0
  replace bO5_1 := BoxAt.ext hb bO5_1
  have hs10 := hb.size
  clear hb
  refine ⟨_, rfl, ?_⟩
  refine pl_take (.bool false) rfl (by kernel_rfl) (by kernel_rfl) (by kernel_rfl) (by kernel_rfl) ?_
  refine pl_nil ?_
  refine qw_then ?_
  refine cw_f (by kernel_rfl) ?_
  refine cw_skip ?_
  refine qw_then ?_
  refine cw_seq ?_
  refine cw_plain ?_
  refine pl_take (.slice a0 n0 c0) rfl (by kernel_rfl) (by kernel_rfl) (by kernel_rfl) (by kernel_rfl) ?_
  refine pl_step rfl (by kernel_rfl) (by kernel_rfl) (by kernel_rfl) (sn_call (f := 11) (args := #[.slice a0 n0 c0]) (by kernel_rfl) ((Area_c _ _ Q0 hE (by omega)).mono ?_))
  rintro e w15 ⟨B11, k12, rfl, hn14, v13, hb⟩
  replace hE := hE.trans hb
  replace bO1_0 := BoxAt.ext hb bO1_0
  replace bO5_0 := BoxAt.ext hb bO5_0
  replace bO5_1 := BoxAt.ext hb bO5_1
  have hs16 := hb.size
  clear hb
  have lt17 := v13.lt
  refine ⟨_, rfl, ?_⟩
  refine pl_step rfl (by kernel_rfl) (by kernel_rfl) (by kernel_rfl) (sn_new (us := #[.slice none 0 0]) (t := 25) (by kernel_rfl) ?_)
  intro O18 X19 hO hOs hb hbx
  have hzO18 := hO; have hyO18 := hOs; clear hO hOs
  have bO18_0 : BoxAt X19 O18 0 (.slice none 0 0) := hbx 0 _ rfl
  clear hbx
  replace hE := hE.trans hb
  replace bO1_0 := BoxAt.ext hb bO1_0
  replace bO5_0 := BoxAt.ext hb bO5_0
  replace bO5_1 := BoxAt.ext hb bO5_1
  replace v13 := v13.ext hb
  have hs20 := hb.size
  clear hb
  have lt21 := bO18_0.lt
  refine pl_put rfl (by kernel_rfl) (by kernel_rfl) (sn_set (O := O18) (j := 0) (v := .slice (some ⟨B11, 0, none⟩) 24 k12) (ex_store (p := .pointer (some ⟨O18, 0, none⟩)) (v := .agg #[.slice (some ⟨B11, 0, none⟩) 24 k12]) rfl (by kernel_rfl) (by kernel_rfl) (st25 bO18_0.1 bO18_0.2)) bO18_0 ?_)
  intro X22 ho hv0 hk
  replace hE := ho.ext hE (Nat.le_trans (Nat.le_trans hs3 (Nat.le_trans hs7 (Nat.le_trans hs10 hs16))) (Nat.le_of_eq hzO18))
  replace bO1_0 := ho.box (Nat.ne_of_gt (Nat.lt_of_lt_of_le lt4 (Nat.le_trans (Nat.le_trans hs7 (Nat.le_trans hs10 hs16)) (Nat.le_of_eq hzO18)))) bO1_0
  replace bO5_0 := ho.box (Nat.ne_of_gt (Nat.lt_of_lt_of_le lt8 (Nat.le_trans (Nat.le_trans hs10 hs16) (Nat.le_of_eq hzO18)))) bO5_0
  replace bO5_1 := ho.box (Nat.ne_of_gt (Nat.lt_of_lt_of_le lt8 (Nat.le_trans (Nat.le_trans hs10 hs16) (Nat.le_of_eq hzO18)))) bO5_1
  replace v13 := ho.va (Nat.ne_of_gt (Nat.lt_of_lt_of_le lt17 (Nat.le_of_eq hzO18))) v13
  have hs23 : X19.heap.size ≤ X22.heap.size := Nat.le_of_eq ho.size.symm
  clear ho hk bO18_0
  have bO18_0 := hv0; clear hv0
  refine pl_nil ?_
  refine qw_then ?_
  refine cw_seq ?_
  refine cw_plain ?_
  refine pl_take (.slice a1 n1 c1) rfl (by kernel_rfl) (by kernel_rfl) (by kernel_rfl) (by kernel_rfl) ?_
  refine pl_step rfl (by kernel_rfl) (by kernel_rfl) (by kernel_rfl) (sn_call (f := 12) (args := #[.slice a1 n1 c1]) (by kernel_rfl) ((Strips_o _ Q1 hE hnc1 hcm1).mono ?_))
  rintro e w29 ⟨la24, t25, lc26, rfl, ht27, own28, hb⟩
  replace hE := hE.trans hb
  replace bO1_0 := BoxAt.ext hb bO1_0
  replace bO5_0 := BoxAt.ext hb bO5_0
  replace bO5_1 := BoxAt.ext hb bO5_1
  replace v13 := v13.ext hb
  replace bO18_0 := BoxAt.ext hb bO18_0
  have hs30 := hb.size
  clear hb
  have hX31 : Ext w29 w29 := Ext.refl _
  refine ⟨_, rfl, ?_⟩
  refine pl_take (.slice la24 t25 lc26) rfl (by kernel_rfl) (by kernel_rfl) (by kernel_rfl) (by kernel_rfl) ?_
  refine pl_nil ?_
  refine qw_then ?_
  refine cw_clean [1, 3, 5, 8, 10, 13, 14] (ws' := [(1, .slice a1 n1 c1), (3, .slice aS nS cS), (5, .int .i64 (i5 : Int)), (8, .pointer (some ⟨O1, 0, none⟩)), (10, .pointer (some ⟨O5, 0, none⟩)), (13, .pointer (some ⟨O18, 0, none⟩)), (14, .slice la24 t25 lc26)]) (by kernel_rfl) (fun L => ?_)
  refine cw_seq ?_
  refine cw_plain ?_
  refine pl_take (.slice a1 n1 c1) rfl (by kernel_rfl) (by kernel_rfl) (by kernel_rfl) (by kernel_rfl) ?_
  refine pl_step rfl (by kernel_rfl) (by kernel_rfl) (by kernel_rfl) (sn_call (f := 12) (args := #[.slice a1 n1 c1]) (by kernel_rfl) ((Strips_o _ Q1 hE hnc1 hcm1).mono ?_))
  rintro e w37 ⟨la32, t33, lc34, rfl, ht35, own36, hb⟩
  replace hE := hE.trans hb
  replace hX31 := hX31.trans hb
  replace bO1_0 := BoxAt.ext hb bO1_0
  replace bO5_0 := BoxAt.ext hb bO5_0
  replace bO5_1 := BoxAt.ext hb bO5_1
  replace v13 := v13.ext hb
  replace bO18_0 := BoxAt.ext hb bO18_0
  have hs38 := hb.size
  clear hb
  have hX39 : Ext w37 w37 := Ext.refl _
  refine ⟨_, rfl, ?_⟩
  refine pl_take (.slice la32 t33 lc34) rfl (by kernel_rfl) (by kernel_rfl) (by kernel_rfl) (by kernel_rfl) ?_
  refine pl_nil ?_
  refine qw_then ?_
  refine cw_seq ?_
  refine cw_seq ?_
  obtain ⟨q6, hq6⟩ : ∃ q, decide (((t33 : Nat) : Int) > (0 : Int)) = q := ⟨_, rfl⟩
  refine cw_plain ?_
  refine pl_take (.slice la32 t33 lc34) rfl (by kernel_rfl) (by kernel_rfl) (by kernel_rfl) (by kernel_rfl) ?_
  refine pl_take (.int .i64 (((t33 : Nat) : Int) : Int)) rfl (by kernel_rfl) (by kernel_rfl) (by kernel_rfl) (by kernel_rfl) ?_
  refine pl_take (.bool q6) rfl (by kernel_rfl) (by kernel_rfl) (by kernel_rfl) (ev_bool (show _ = Result.ok (Next.value (Value.bool (decide (((t33 : Nat) : Int) > (0 : Int))))) _ from by kernel_rfl) hq6) ?_
  refine pl_nil ?_
  refine qw_then ?_
  refine cw_join (fun ws' wr => ∃ lB : Option Addr, ∃ cB : Nat, ∃ sB : List (List Int × List Int), ws' = [(3, .slice aS nS cS), (5, .int .i64 (i5 : Int)), (8, .pointer (some ⟨O1, 0, none⟩)), (13, .pointer (some ⟨O18, 0, none⟩)), (14, .slice la24 t25 lc26), (15, .slice lB t33 cB)] ∧ w37.heap.size ≤ wr.heap.size ∧ Ext w wr ∧ Ext w29 wr ∧ BoxAt wr O1 0 (.slice aR nR kR) ∧ BoxAt wr O5 0 (.slice p1 m1 k1) ∧ BoxAt wr O5 1 (.slice p2 m2 k2) ∧ VA wr B11 0 (areaL q0 n0) ∧ BoxAt wr O18 0 (.slice (some ⟨B11, 0, none⟩) 24 k12) ∧ ∀ X, Turns O1 wr X → StripsAt X lB t33 sB) (fun hJ => ?_) ?_
  ·
    cases q6
    ·
      refine cw_f (by kernel_rfl) ?_
      refine cw_skip ?_
      exact qw_leaf hJ [3, 5, 8, 13, 14, 15] (ws' := [(3, .slice aS nS cS), (5, .int .i64 (i5 : Int)), (8, .pointer (some ⟨O1, 0, none⟩)), (13, .pointer (some ⟨O18, 0, none⟩)), (14, .slice la24 t25 lc26), (15, .slice la32 t33 lc34)]) (by kernel_rfl) ⟨la32, lc34, (stripsL q1 t33), rfl, (Nat.le_refl _), hE, hX31, bO1_0, bO5_0, bO5_1, v13, bO18_0, (own_safe (OwnL.toAv own36 (Nat.lt_of_lt_of_le lt4 (Nat.le_trans hs7 (Nat.le_trans hs10 (Nat.le_trans hs16 (Nat.le_trans hs20 (Nat.le_trans hs23 hs30))))))) (stripsL_len _ _) (by omega) (Nat.lt_of_lt_of_le lt4 (Nat.le_trans hs7 (Nat.le_trans hs10 (Nat.le_trans hs16 (Nat.le_trans hs20 (Nat.le_trans hs23 hs30)))))))⟩
    ·
      have hq : 0 < t33 := by have := of_decide_eq_true hq6; omega
      obtain ⟨g5, rfl⟩ := own_addr own36 (stripsL_len _ _) hq
      have lo5 := own36.base g5 rfl; have lt5 := own36.lt g5 rfl
      refine cw_t (by kernel_rfl) ?_
      refine cw_draw [(some 52, [15], []), (some 53, [5], []), (some 54, [15], []), (some 55, [54], [2]), (some 56, [53, 55], [1, 3]), (some 57, [10], []), (some 58, [57], [5]), (some 59, [58], [6, 4]), (some 60, [59], [7]), (some 61, [60], [8]), (some 62, [52, 56], [0, 4, 0, 1, 2, 3, 4, 5, 6, 7, 8, 9]), (none, [62, 61], [10, 9, 7, 0, 1, 2, 3, 4, 5, 6, 7, 8, 9])] (fun w' => w'.cell? ⟨O5, 0, none⟩ = some (.slice p1 m1 k1) ∧ w'.cell? ⟨O5, 1, none⟩ = some (.slice p2 m2 k2)) (by kernel_rfl) (by kernel_rfl) (by kernel_rfl) (by kernel_rfl) ((calm_then calm_body)) (⟨bO5_0.1, bO5_1.1⟩) (fun ops Q X41 hb hL hR hK => ?_)
      replace hE := hE.trans hb
      replace hX31 := hX31.trans hb
      replace hX39 := hX39.trans hb
      replace bO1_0 := BoxAt.ext hb bO1_0
      replace bO5_0 := BoxAt.ext hb bO5_0
      replace bO5_1 := BoxAt.ext hb bO5_1
      replace v13 := v13.ext hb
      replace bO18_0 := BoxAt.ext hb bO18_0
      have hs42 := hb.size
      clear hb
      refine wd_take 0 (.slice (some ⟨g5, 0, none⟩) t33 lc34) hR rfl (by kernel_rfl) rfl (by kernel_rfl) (fun w _ => by kernel_rfl) (⟨bO5_0.1, bO5_1.1⟩) ?_
      refine wd_take 1 (.int .i64 (i5 : Int)) hR rfl (by kernel_rfl) rfl (by kernel_rfl) (fun w _ => by kernel_rfl) (⟨bO5_0.1, bO5_1.1⟩) ?_
      refine wd_take 2 (.slice (some ⟨g5, 0, none⟩) t33 lc34) hR rfl (by kernel_rfl) rfl (by kernel_rfl) (fun w _ => by kernel_rfl) (⟨bO5_0.1, bO5_1.1⟩) ?_
      refine wd_take 3 (.int .i64 (((t33 : Nat) : Int) : Int)) hR rfl (by kernel_rfl) rfl (by kernel_rfl) (fun w _ => by kernel_rfl) (⟨bO5_0.1, bO5_1.1⟩) ?_
      refine wd_take 5 (.agg #[.slice p1 m1 k1, .slice p2 m2 k2]) hR rfl (by kernel_rfl) rfl (by kernel_rfl) (fun w hS => ex_load rfl (by kernel_rfl) (ld28 (hS.1) (hS.2))) (⟨bO5_0.1, bO5_1.1⟩) ?_
      refine wd_two 4 6 hR rfl rfl (by kernel_rfl) (by kernel_rfl) (by kernel_rfl) (by kernel_rfl) ?_ ?_
      ·
        refine sn_call (f := 14) (args := #[.int .i64 (i5 : Int), .int .i64 (((t33 : Nat) : Int) : Int)]) (by kernel_rfl) ((pickN_c _ t33 _ hi5 (by omega) (by omega)).mono ?_)
        rintro e w' ⟨kk, rfl, kkl, -, rfl⟩
        refine ⟨_, rfl, ⟨bO5_0.1, bO5_1.1⟩, ?_⟩
        refine wd_step 6 hR rfl (by kernel_rfl) (by kernel_rfl) (by kernel_rfl) (sn_newS (us := #[.slice p1 m1 k1, .slice p2 m2 k2]) (t := 28) (k := 1) (c := 1) (by kernel_rfl) ?_)
        intro O43 X44 hO hOs hb hbx
        have hzO43 := hO; have hyO43 := hOs; clear hO hOs
        have bO43_0 : BoxAt X44 O43 0 (.slice p1 m1 k1) := hbx 0 _ rfl
        have bO43_1 : BoxAt X44 O43 1 (.slice p2 m2 k2) := hbx 1 _ rfl
        clear hbx
        replace hE := hE.trans hb
        replace hX31 := hX31.trans hb
        replace hX39 := hX39.trans hb
        replace bO1_0 := BoxAt.ext hb bO1_0
        replace bO5_0 := BoxAt.ext hb bO5_0
        replace bO5_1 := BoxAt.ext hb bO5_1
        replace v13 := v13.ext hb
        replace bO18_0 := BoxAt.ext hb bO18_0
        have hs45 := hb.size
        clear hb
        have lt46 := bO43_0.lt
        refine ⟨⟨bO5_0.1, bO5_1.1⟩, ?_⟩
        refine wd_step 7 hR rfl (by kernel_rfl) (by kernel_rfl) (by kernel_rfl) (sn_call (f := 13) (args := #[.slice (some ⟨O43, 0, none⟩) 1 1]) (by kernel_rfl) ((fewS_c _ (StripsR.one (s := sO) bO43_0.1 bO43_1.1 Od1 Od2) hE (Ext.refl _)).mono ?_))
        rintro e w52 ⟨fa47, fk48, fc49, rfl, hk50, own51, hb⟩
        replace hE := hE.trans hb
        replace hX31 := hX31.trans hb
        replace hX39 := hX39.trans hb
        replace bO1_0 := BoxAt.ext hb bO1_0
        replace bO5_0 := BoxAt.ext hb bO5_0
        replace bO5_1 := BoxAt.ext hb bO5_1
        replace v13 := v13.ext hb
        replace bO18_0 := BoxAt.ext hb bO18_0
        replace bO43_0 := BoxAt.ext hb bO43_0
        replace bO43_1 := BoxAt.ext hb bO43_1
        have hs53 := hb.size
        clear hb
        have hX54 : Ext w52 w52 := Ext.refl _
        refine ⟨_, rfl, ⟨bO5_0.1, bO5_1.1⟩, ?_⟩
        obtain ⟨fg, sF, x1, y1, z1, x2, y2, z2, F1, F2, rfl, hsF, u1, u2, I1, j1, b1, I2, j2, b2, o1, o2⟩ := own_stripA0 own51 (show (fewS [sO]).length = fk48 by rw [hk50]; rfl) (by omega)
        refine wd_take 8 (.pointer (some ⟨fg, 0, none⟩)) hR rfl (by kernel_rfl) rfl (by kernel_rfl) (fun w _ => ex_index (p := .slice (some ⟨fg, 0, none⟩) fk48 fc49) (i := .int .i64 ((0 : Nat) : Int)) rfl (by kernel_rfl) (by kernel_rfl) (ix26 (k := 0) (by omega))) (⟨bO5_0.1, bO5_1.1⟩) ?_
        refine wd_step 9 hR rfl (by kernel_rfl) (by kernel_rfl) (by kernel_rfl) (sn_eff (v := .agg #[.slice x1 y1 z1, .slice x2 y2 z2]) (w' := w52) (ex_load rfl (by kernel_rfl) (ld28 (u1) (u2))) ⟨⟨bO5_0.1, bO5_1.1⟩, ?_⟩)
        refine wd_take 10 (.pointer (some ⟨g5, kk * 2, none⟩)) hR rfl (by kernel_rfl) rfl (by kernel_rfl) (fun w _ => ex_index (p := .slice (some ⟨g5, 0, none⟩) t33 lc34) (i := .int .i64 ((kk : Nat) : Int)) rfl (by kernel_rfl) (by kernel_rfl) (ix26z (k := kk) (by omega))) (⟨bO5_0.1, bO5_1.1⟩) ?_
        obtain ⟨⟨u8, u9, hu8, hu9⟩, hf8, hf9, pS⟩ := strips_setS (O := O1) (c1 := z1) (c2 := z2) (s := sF) (OwnL.toAv (own36.ext hX39) (Nat.lt_of_lt_of_le lt4 (Nat.le_trans hs7 (Nat.le_trans hs10 (Nat.le_trans hs16 (Nat.le_trans hs20 (Nat.le_trans hs23 hs30))))))) (stripsL_len _ _) (by omega) (k := kk) kkl (Nat.ne_of_lt (Nat.lt_of_lt_of_le lt4 (Nat.le_trans (Nat.le_trans hs7 (Nat.le_trans hs10 (Nat.le_trans hs16 (Nat.le_trans hs20 (Nat.le_trans hs23 hs30))))) lo5))) (I1.ext (Ext.refl _)) (oldF o1 (Nat.le_trans (Nat.le_trans hs3 (Nat.le_trans hs7 (Nat.le_trans hs10 (Nat.le_trans hs16 (Nat.le_trans hs20 (Nat.le_trans hs23 hs30)))))) lo5) (Nat.le_of_eq hzO1)) j1 b1 (I2.ext (Ext.refl _)) (oldF o2 (Nat.le_trans (Nat.le_trans hs3 (Nat.le_trans hs7 (Nat.le_trans hs10 (Nat.le_trans hs16 (Nat.le_trans hs20 (Nat.le_trans hs23 hs30)))))) lo5) (Nat.le_of_eq hzO1)) j2 b2
        refine wd_step 11 hR rfl (by kernel_rfl) (by kernel_rfl) (by kernel_rfl) (sn_skp (w' := (w52.setCell ⟨g5, kk * 2, none⟩ (.slice x1 y1 z1)).setCell ⟨g5, kk * 2 + 1, none⟩ (.slice x2 y2 z2)) (ex_store (p := .pointer (some ⟨g5, kk * 2, none⟩)) (v := .agg #[.slice x1 y1 z1, .slice x2 y2 z2]) rfl (by kernel_rfl) (by kernel_rfl) (st28 hu8 hf8 hu9 hf9)) ?_)
        have ho := (turns_set w52 g5 (kk * 2) (.slice x1 y1 z1)).trans (turns_set _ g5 (kk * 2 + 1) (.slice x2 y2 z2))
        obtain ⟨X55, hX8⟩ : ∃ X, X = (w52.setCell ⟨g5, kk * 2, none⟩ (.slice x1 y1 z1)).setCell ⟨g5, kk * 2 + 1, none⟩ (.slice x2 y2 z2) := ⟨_, rfl⟩
        rw [← hX8] at ho pS ⊢; clear hX8
        replace hE := ho.ext hE (Nat.le_trans (Nat.le_trans hs3 (Nat.le_trans hs7 (Nat.le_trans hs10 (Nat.le_trans hs16 (Nat.le_trans hs20 (Nat.le_trans hs23 hs30)))))) lo5)
        replace hX31 := ho.ext hX31 lo5
        replace bO1_0 := ho.box (Nat.ne_of_gt (Nat.lt_of_lt_of_le lt4 (Nat.le_trans (Nat.le_trans hs7 (Nat.le_trans hs10 (Nat.le_trans hs16 (Nat.le_trans hs20 (Nat.le_trans hs23 hs30))))) lo5))) bO1_0
        replace bO5_0 := ho.box (Nat.ne_of_gt (Nat.lt_of_lt_of_le lt8 (Nat.le_trans (Nat.le_trans hs10 (Nat.le_trans hs16 (Nat.le_trans hs20 (Nat.le_trans hs23 hs30)))) lo5))) bO5_0
        replace bO5_1 := ho.box (Nat.ne_of_gt (Nat.lt_of_lt_of_le lt8 (Nat.le_trans (Nat.le_trans hs10 (Nat.le_trans hs16 (Nat.le_trans hs20 (Nat.le_trans hs23 hs30)))) lo5))) bO5_1
        replace v13 := ho.va (Nat.ne_of_gt (Nat.lt_of_lt_of_le lt17 (Nat.le_trans (Nat.le_trans hs20 (Nat.le_trans hs23 hs30)) lo5))) v13
        replace bO18_0 := ho.box (Nat.ne_of_gt (Nat.lt_of_lt_of_le lt21 (Nat.le_trans (Nat.le_trans hs23 hs30) lo5))) bO18_0
        replace bO43_0 := ho.box (Nat.ne_of_lt (Nat.lt_of_lt_of_le lt5 (Nat.le_trans hs42 (Nat.le_of_eq hzO43)))) bO43_0
        replace bO43_1 := ho.box (Nat.ne_of_lt (Nat.lt_of_lt_of_le lt5 (Nat.le_trans hs42 (Nat.le_of_eq hzO43)))) bO43_1
        have hs56 : w52.heap.size ≤ X55.heap.size := Nat.le_of_eq ho.size.symm
        refine ⟨⟨bO5_0.1, bO5_1.1⟩, ?_⟩
        refine wd_end hL hR hK (by kernel_rfl) ?_
        exact qw_leaf hJ [3, 5, 8, 13, 14, 15] (ws' := [(3, .slice aS nS cS), (5, .int .i64 (i5 : Int)), (8, .pointer (some ⟨O1, 0, none⟩)), (13, .pointer (some ⟨O18, 0, none⟩)), (14, .slice la24 t25 lc26), (15, .slice (some ⟨g5, 0, none⟩) t33 lc34)]) (by kernel_rfl) ⟨(some ⟨g5, 0, none⟩), lc34, ((stripsL q1 t33).set kk sF), rfl, (Nat.le_trans hs42 (Nat.le_trans hs45 (Nat.le_trans hs53 hs56))), hE, hX31, bO1_0, bO5_0, bO5_1, v13, bO18_0, pS⟩
      ·
        refine sn_newS (us := #[.slice p1 m1 k1, .slice p2 m2 k2]) (t := 28) (k := 1) (c := 1) (by kernel_rfl) ?_
        intro O57 X58 hO hOs hb hbx
        have hzO57 := hO; have hyO57 := hOs; clear hO hOs
        have bO57_0 : BoxAt X58 O57 0 (.slice p1 m1 k1) := hbx 0 _ rfl
        have bO57_1 : BoxAt X58 O57 1 (.slice p2 m2 k2) := hbx 1 _ rfl
        clear hbx
        replace hE := hE.trans hb
        replace hX31 := hX31.trans hb
        replace hX39 := hX39.trans hb
        replace bO1_0 := BoxAt.ext hb bO1_0
        replace bO5_0 := BoxAt.ext hb bO5_0
        replace bO5_1 := BoxAt.ext hb bO5_1
        replace v13 := v13.ext hb
        replace bO18_0 := BoxAt.ext hb bO18_0
        have hs59 := hb.size
        clear hb
        have lt60 := bO57_0.lt
        refine ⟨⟨bO5_0.1, bO5_1.1⟩, ?_⟩
        refine wd_step 4 hR rfl (by kernel_rfl) (by kernel_rfl) (by kernel_rfl) (sn_call (f := 14) (args := #[.int .i64 (i5 : Int), .int .i64 (((t33 : Nat) : Int) : Int)]) (by kernel_rfl) ((pickN_c _ t33 _ hi5 (by omega) (by omega)).mono ?_))
        rintro e w' ⟨kk, rfl, kkl, -, rfl⟩
        refine ⟨_, rfl, ⟨bO5_0.1, bO5_1.1⟩, ?_⟩
        refine wd_step 7 hR rfl (by kernel_rfl) (by kernel_rfl) (by kernel_rfl) (sn_call (f := 13) (args := #[.slice (some ⟨O57, 0, none⟩) 1 1]) (by kernel_rfl) ((fewS_c _ (StripsR.one (s := sO) bO57_0.1 bO57_1.1 Od1 Od2) hE (Ext.refl _)).mono ?_))
        rintro e w66 ⟨fa61, fk62, fc63, rfl, hk64, own65, hb⟩
        replace hE := hE.trans hb
        replace hX31 := hX31.trans hb
        replace hX39 := hX39.trans hb
        replace bO1_0 := BoxAt.ext hb bO1_0
        replace bO5_0 := BoxAt.ext hb bO5_0
        replace bO5_1 := BoxAt.ext hb bO5_1
        replace v13 := v13.ext hb
        replace bO18_0 := BoxAt.ext hb bO18_0
        replace bO57_0 := BoxAt.ext hb bO57_0
        replace bO57_1 := BoxAt.ext hb bO57_1
        have hs67 := hb.size
        clear hb
        have hX68 : Ext w66 w66 := Ext.refl _
        refine ⟨_, rfl, ⟨bO5_0.1, bO5_1.1⟩, ?_⟩
        obtain ⟨fg, sF, x1, y1, z1, x2, y2, z2, F1, F2, rfl, hsF, u1, u2, I1, j1, b1, I2, j2, b2, o1, o2⟩ := own_stripA0 own65 (show (fewS [sO]).length = fk62 by rw [hk64]; rfl) (by omega)
        refine wd_take 8 (.pointer (some ⟨fg, 0, none⟩)) hR rfl (by kernel_rfl) rfl (by kernel_rfl) (fun w _ => ex_index (p := .slice (some ⟨fg, 0, none⟩) fk62 fc63) (i := .int .i64 ((0 : Nat) : Int)) rfl (by kernel_rfl) (by kernel_rfl) (ix26 (k := 0) (by omega))) (⟨bO5_0.1, bO5_1.1⟩) ?_
        refine wd_step 9 hR rfl (by kernel_rfl) (by kernel_rfl) (by kernel_rfl) (sn_eff (v := .agg #[.slice x1 y1 z1, .slice x2 y2 z2]) (w' := w66) (ex_load rfl (by kernel_rfl) (ld28 (u1) (u2))) ⟨⟨bO5_0.1, bO5_1.1⟩, ?_⟩)
        refine wd_take 10 (.pointer (some ⟨g5, kk * 2, none⟩)) hR rfl (by kernel_rfl) rfl (by kernel_rfl) (fun w _ => ex_index (p := .slice (some ⟨g5, 0, none⟩) t33 lc34) (i := .int .i64 ((kk : Nat) : Int)) rfl (by kernel_rfl) (by kernel_rfl) (ix26z (k := kk) (by omega))) (⟨bO5_0.1, bO5_1.1⟩) ?_
        obtain ⟨⟨u8, u9, hu8, hu9⟩, hf8, hf9, pS⟩ := strips_setS (O := O1) (c1 := z1) (c2 := z2) (s := sF) (OwnL.toAv (own36.ext hX39) (Nat.lt_of_lt_of_le lt4 (Nat.le_trans hs7 (Nat.le_trans hs10 (Nat.le_trans hs16 (Nat.le_trans hs20 (Nat.le_trans hs23 hs30))))))) (stripsL_len _ _) (by omega) (k := kk) kkl (Nat.ne_of_lt (Nat.lt_of_lt_of_le lt4 (Nat.le_trans (Nat.le_trans hs7 (Nat.le_trans hs10 (Nat.le_trans hs16 (Nat.le_trans hs20 (Nat.le_trans hs23 hs30))))) lo5))) (I1.ext (Ext.refl _)) (oldF o1 (Nat.le_trans (Nat.le_trans hs3 (Nat.le_trans hs7 (Nat.le_trans hs10 (Nat.le_trans hs16 (Nat.le_trans hs20 (Nat.le_trans hs23 hs30)))))) lo5) (Nat.le_of_eq hzO1)) j1 b1 (I2.ext (Ext.refl _)) (oldF o2 (Nat.le_trans (Nat.le_trans hs3 (Nat.le_trans hs7 (Nat.le_trans hs10 (Nat.le_trans hs16 (Nat.le_trans hs20 (Nat.le_trans hs23 hs30)))))) lo5) (Nat.le_of_eq hzO1)) j2 b2
        refine wd_step 11 hR rfl (by kernel_rfl) (by kernel_rfl) (by kernel_rfl) (sn_skp (w' := (w66.setCell ⟨g5, kk * 2, none⟩ (.slice x1 y1 z1)).setCell ⟨g5, kk * 2 + 1, none⟩ (.slice x2 y2 z2)) (ex_store (p := .pointer (some ⟨g5, kk * 2, none⟩)) (v := .agg #[.slice x1 y1 z1, .slice x2 y2 z2]) rfl (by kernel_rfl) (by kernel_rfl) (st28 hu8 hf8 hu9 hf9)) ?_)
        have ho := (turns_set w66 g5 (kk * 2) (.slice x1 y1 z1)).trans (turns_set _ g5 (kk * 2 + 1) (.slice x2 y2 z2))
        obtain ⟨X69, hX8⟩ : ∃ X, X = (w66.setCell ⟨g5, kk * 2, none⟩ (.slice x1 y1 z1)).setCell ⟨g5, kk * 2 + 1, none⟩ (.slice x2 y2 z2) := ⟨_, rfl⟩
        rw [← hX8] at ho pS ⊢; clear hX8
        replace hE := ho.ext hE (Nat.le_trans (Nat.le_trans hs3 (Nat.le_trans hs7 (Nat.le_trans hs10 (Nat.le_trans hs16 (Nat.le_trans hs20 (Nat.le_trans hs23 hs30)))))) lo5)
        replace hX31 := ho.ext hX31 lo5
        replace bO1_0 := ho.box (Nat.ne_of_gt (Nat.lt_of_lt_of_le lt4 (Nat.le_trans (Nat.le_trans hs7 (Nat.le_trans hs10 (Nat.le_trans hs16 (Nat.le_trans hs20 (Nat.le_trans hs23 hs30))))) lo5))) bO1_0
        replace bO5_0 := ho.box (Nat.ne_of_gt (Nat.lt_of_lt_of_le lt8 (Nat.le_trans (Nat.le_trans hs10 (Nat.le_trans hs16 (Nat.le_trans hs20 (Nat.le_trans hs23 hs30)))) lo5))) bO5_0
        replace bO5_1 := ho.box (Nat.ne_of_gt (Nat.lt_of_lt_of_le lt8 (Nat.le_trans (Nat.le_trans hs10 (Nat.le_trans hs16 (Nat.le_trans hs20 (Nat.le_trans hs23 hs30)))) lo5))) bO5_1
        replace v13 := ho.va (Nat.ne_of_gt (Nat.lt_of_lt_of_le lt17 (Nat.le_trans (Nat.le_trans hs20 (Nat.le_trans hs23 hs30)) lo5))) v13
        replace bO18_0 := ho.box (Nat.ne_of_gt (Nat.lt_of_lt_of_le lt21 (Nat.le_trans (Nat.le_trans hs23 hs30) lo5))) bO18_0
        replace bO57_0 := ho.box (Nat.ne_of_lt (Nat.lt_of_lt_of_le lt5 (Nat.le_trans hs42 (Nat.le_of_eq hzO57)))) bO57_0
        replace bO57_1 := ho.box (Nat.ne_of_lt (Nat.lt_of_lt_of_le lt5 (Nat.le_trans hs42 (Nat.le_of_eq hzO57)))) bO57_1
        have hs70 : w66.heap.size ≤ X69.heap.size := Nat.le_of_eq ho.size.symm
        refine ⟨⟨bO5_0.1, bO5_1.1⟩, ?_⟩
        refine wd_end hL hR hK (by kernel_rfl) ?_
        exact qw_leaf hJ [3, 5, 8, 13, 14, 15] (ws' := [(3, .slice aS nS cS), (5, .int .i64 (i5 : Int)), (8, .pointer (some ⟨O1, 0, none⟩)), (13, .pointer (some ⟨O18, 0, none⟩)), (14, .slice la24 t25 lc26), (15, .slice (some ⟨g5, 0, none⟩) t33 lc34)]) (by kernel_rfl) ⟨(some ⟨g5, 0, none⟩), lc34, ((stripsL q1 t33).set kk sF), rfl, (Nat.le_trans hs42 (Nat.le_trans hs59 (Nat.le_trans hs67 hs70))), hE, hX31, bO1_0, bO5_0, bO5_1, v13, bO18_0, pS⟩
  ·
    clear bO1_0 bO5_0 bO5_1 v13 bO18_0 hE hX31 hX39
    rintro L ws w71 ⟨lB, cB, sB, rfl, hs40, hE, hX31, bO1_0, bO5_0, bO5_1, v13, bO18_0, sb8⟩
    refine qw_then ?_
    refine cw_seq ?_
    refine cw_plain ?_
    refine pl_take (.pointer (some ⟨O1, 0, none⟩)) rfl (by kernel_rfl) (by kernel_rfl) (by kernel_rfl) (by kernel_rfl) ?_
    refine pl_take (.slice aR nR kR) rfl (by kernel_rfl) (by kernel_rfl) (by kernel_rfl) (ex_load rfl (by kernel_rfl) (ld23 (bO1_0.1))) ?_
    refine pl_take (.pointer (some ⟨O1, 0, none⟩)) rfl (by kernel_rfl) (by kernel_rfl) (by kernel_rfl) (by kernel_rfl) ?_
    refine pl_take (.slice aR nR kR) rfl (by kernel_rfl) (by kernel_rfl) (by kernel_rfl) (ex_load rfl (by kernel_rfl) (ld23 (bO1_0.1))) ?_
    refine pl_take (.int .i64 (((nR : Nat) : Int) : Int)) rfl (by kernel_rfl) (by kernel_rfl) (by kernel_rfl) (by kernel_rfl) ?_
    refine pl_take (.int .i64 (((MR : Nat) : Int) : Int)) rfl (by kernel_rfl) (by kernel_rfl) (by kernel_rfl) (ev_int (show _ = Result.ok (Next.value (Value.int .i64 (if (25 : Int) < (nR : Int) then (25 : Int) else (nR : Int)))) _ from by kernel_rfl) (by rw [hMR]; split <;> omega)) ?_
    refine pl_take (.slice aR MR kR) rfl (by kernel_rfl) (by kernel_rfl) (by kernel_rfl) (ex_slice (p := .slice aR nR kR) rfl (by kernel_rfl) (by kernel_rfl) (by kernel_rfl) (by kernel_rfl) (sl23_010a (m := MR) (by omega) (by omega))) ?_
    refine pl_take (.pointer (some ⟨O1, 0, none⟩)) rfl (by kernel_rfl) (by kernel_rfl) (by kernel_rfl) (by kernel_rfl) ?_
    have sl8 := own_safe (OwnL.toAv (own28.ext hX31) (Nat.lt_of_lt_of_le lt4 (Nat.le_trans hs7 (Nat.le_trans hs10 (Nat.le_trans hs16 (Nat.le_trans hs20 hs23)))))) (stripsL_len _ _) (by omega) (Nat.lt_of_lt_of_le lt4 (Nat.le_trans hs7 (Nat.le_trans hs10 (Nat.le_trans hs16 (Nat.le_trans hs20 hs23)))))
    refine pl_put rfl (by kernel_rfl) (by kernel_rfl) (sn_set (O := O1) (j := 0) (v := .slice aR MR kR) (ex_store (p := .pointer (some ⟨O1, 0, none⟩)) (v := .slice aR MR kR) rfl (by kernel_rfl) (by kernel_rfl) (st23 bO1_0.1 bO1_0.2)) bO1_0 ?_)
    intro X72 ho hv0 hk
    replace hE := ho.ext hE (Nat.le_of_eq hzO1)
    replace bO5_0 := ho.box (Nat.ne_of_lt (Nat.lt_of_lt_of_le lt4 (Nat.le_of_eq hzO5))) bO5_0
    replace bO5_1 := ho.box (Nat.ne_of_lt (Nat.lt_of_lt_of_le lt4 (Nat.le_of_eq hzO5))) bO5_1
    replace v13 := ho.va (Nat.ne_of_lt (Nat.lt_of_lt_of_le lt4 (Nat.le_trans (Nat.le_trans hs7 hs10) hn14))) v13
    replace bO18_0 := ho.box (Nat.ne_of_lt (Nat.lt_of_lt_of_le lt4 (Nat.le_trans (Nat.le_trans hs7 (Nat.le_trans hs10 hs16)) (Nat.le_of_eq hzO18)))) bO18_0
    replace sb8 := sb8 _ ho
    replace sl8 := sl8 _ ho
    have hs73 : w71.heap.size ≤ X72.heap.size := Nat.le_of_eq ho.size.symm
    clear ho hk bO1_0
    have bO1_0 := hv0; clear hv0
    have hX74 : Ext X72 X72 := Ext.refl _
    refine pl_nil ?_
    refine qw_then ?_
    refine cw_seq ?_
    refine cw_seq ?_
    refine cw_plain ?_
    refine pl_take (.agg #[.slice (some ⟨B11, 0, none⟩) 24 k12]) rfl (by kernel_rfl) (by kernel_rfl) (by kernel_rfl) (ex_load rfl (by kernel_rfl) (ld25 (bO18_0.1))) ?_
    refine pl_take (.agg #[.slice aR MR kR]) rfl (by kernel_rfl) (by kernel_rfl) (by kernel_rfl) (ex_load rfl (by kernel_rfl) (ld25 (bO1_0.1))) ?_
    refine pl_step rfl (by kernel_rfl) (by kernel_rfl) (by kernel_rfl) (sn_newS (us := #[.slice (some ⟨B11, 0, none⟩) 24 k12, .slice aR MR kR]) (t := 25) (k := 2) (c := 2) (by kernel_rfl) ?_)
    intro O75 X76 hO hOs hb hbx
    have hzO75 := hO; have hyO75 := hOs; clear hO hOs
    have bO75_0 : BoxAt X76 O75 0 (.slice (some ⟨B11, 0, none⟩) 24 k12) := hbx 0 _ rfl
    have bO75_1 : BoxAt X76 O75 1 (.slice aR MR kR) := hbx 1 _ rfl
    clear hbx
    replace hE := hE.trans hb
    replace hX74 := hX74.trans hb
    replace bO5_0 := BoxAt.ext hb bO5_0
    replace bO5_1 := BoxAt.ext hb bO5_1
    replace v13 := v13.ext hb
    replace bO18_0 := BoxAt.ext hb bO18_0
    replace bO1_0 := BoxAt.ext hb bO1_0
    have hs77 := hb.size
    clear hb
    have lt78 := bO75_0.lt
    refine pl_take (.int .i64 2) rfl (by kernel_rfl) (by kernel_rfl) (by kernel_rfl) (by kernel_rfl) ?_
    refine pl_take (.int .i64 0) rfl (by kernel_rfl) (by kernel_rfl) (by kernel_rfl) (by kernel_rfl) ?_
    refine pl_nil ?_
    refine qw_then ?_
    refine cw_clean [3, 5, 8, 14, 15, 73, 74, 75] (ws' := [(3, .slice aS nS cS), (5, .int .i64 (i5 : Int)), (8, .pointer (some ⟨O1, 0, none⟩)), (14, .slice la24 t25 lc26), (15, .slice lB t33 cB), (73, .slice (some ⟨O75, 0, none⟩) 2 2), (74, .int .i64 2), (75, .int .i64 0)]) (by kernel_rfl) (fun L => ?_)
    refine cw_block ?_
    have hX79 : Ext X76 X76 := Ext.refl _
    have hAr : ∀ i, i < 2 → ∃ (a : Option Addr) (n c : Nat) (l : List Int) (v : Bool), X76.cell? ⟨O75, i, none⟩ = some (.slice a n c) ∧ AA X76 a l n v := fun i hi => by
      match i, hi with
      | 0, _ => exact ⟨_, _, _, _, _, bO75_0.1, v13.aa⟩
      | 1, _ => exact ⟨_, _, _, _, _, bO75_1.1, AAR.ext hE⟩
      | _ + 2, h => omega
    have hrb := bO1_0.1
    replace sb8 := sb8.ext hX74
    replace sl8 := sl8.ext hX74
    refine cw_loop [3, 5, 8, 14, 15, 73, 74, 75] (fun ws' wr m => ∃ ia : Nat, ws' = [(3, .slice aS nS cS), (5, .int .i64 (i5 : Int)), (8, .pointer (some ⟨O1, 0, none⟩)), (14, .slice la24 t25 lc26), (15, .slice lB t33 cB), (73, .slice (some ⟨O75, 0, none⟩) 2 2), (74, .int .i64 2), (75, .int .i64 (((ia : Nat) : Int) : Int))] ∧ m = 2 - ia ∧ X76.heap.size ≤ wr.heap.size ∧ Ext w wr ∧ Ext X76 wr ∧ ia ≤ 2) (ws0 := [(3, .slice aS nS cS), (5, .int .i64 (i5 : Int)), (8, .pointer (some ⟨O1, 0, none⟩)), (14, .slice la24 t25 lc26), (15, .slice lB t33 cB), (73, .slice (some ⟨O75, 0, none⟩) 2 2), (74, .int .i64 2), (75, .int .i64 0)]) (by kernel_rfl) _ ⟨0, rfl, rfl, Nat.le_refl _, hE, hX79, by omega⟩ ?_
    clear hE hX79
    rintro m82 L ws w81 ⟨ia, rfl, rfl, hs80, hE, hX79, hiia⟩
    by_cases hlt : ia < 2
    ·
      obtain ⟨aD, nD, cD, lD, vD, ceD, aaD⟩ := hAr ia hlt
      have bnD : lD.length ≤ 140737488355328 := by rw [aaD.2.1]; exact aaD.2.2.1
      refine cw_seq ?_
      refine cw_plain ?_
      refine pl_take (.bool true) rfl (by kernel_rfl) (by kernel_rfl) (by kernel_rfl) (ev_dec (show _ = Result.ok (Next.value (Value.bool (decide ((((ia : Nat) : Int) : Int) < (2 : Int))))) _ from by kernel_rfl) (by omega)) ?_
      refine pl_nil ?_
      refine qw_then ?_
      refine cw_seq ?_
      refine cw_t (by kernel_rfl) ?_
      refine cw_skip ?_
      refine qw_then ?_
      refine cw_seq ?_
      refine cw_block ?_
      refine cw_seq ?_
      have hX83 : Ext w81 w81 := Ext.refl _
      refine cw_plain ?_
      refine pl_take (.pointer (some ⟨O75, ia, none⟩)) rfl (by kernel_rfl) (by kernel_rfl) (by kernel_rfl) (ex_index (p := .slice (some ⟨O75, 0, none⟩) 2 2) (i := .int .i64 ((ia : Nat) : Int)) rfl (by kernel_rfl) (by kernel_rfl) (ix34z (k := ia) (by omega))) ?_
      refine pl_take (.agg #[.slice aD nD cD]) rfl (by kernel_rfl) (by kernel_rfl) (by kernel_rfl) (ex_load rfl (by kernel_rfl) (ld25 ((hX79.cell ceD)))) ?_
      refine pl_step rfl (by kernel_rfl) (by kernel_rfl) (by kernel_rfl) (sn_new (us := #[.slice none 0 0]) (t := 25) (by kernel_rfl) ?_)
      intro O84 X85 hO hOs hb hbx
      have hzO84 := hO; have hyO84 := hOs; clear hO hOs
      have bO84_0 : BoxAt X85 O84 0 (.slice none 0 0) := hbx 0 _ rfl
      clear hbx
      replace hE := hE.trans hb
      replace hX79 := hX79.trans hb
      replace hX83 := hX83.trans hb
      have hs86 := hb.size
      clear hb
      have lt87 := bO84_0.lt
      refine pl_put rfl (by kernel_rfl) (by kernel_rfl) (sn_set (O := O84) (j := 0) (v := .slice aD nD cD) (ex_store (p := .pointer (some ⟨O84, 0, none⟩)) (v := .agg #[.slice aD nD cD]) rfl (by kernel_rfl) (by kernel_rfl) (st25 bO84_0.1 bO84_0.2)) bO84_0 ?_)
      intro X88 ho hv0 hk
      replace hE := ho.ext hE (Nat.le_trans (Nat.le_trans hs3 (Nat.le_trans hs7 (Nat.le_trans hs10 (Nat.le_trans hs16 (Nat.le_trans hs20 (Nat.le_trans hs23 (Nat.le_trans hs30 (Nat.le_trans hs38 (Nat.le_trans hs40 (Nat.le_trans hs73 (Nat.le_trans hs77 hs80))))))))))) (Nat.le_of_eq hzO84))
      replace hX79 := ho.ext hX79 (Nat.le_trans hs80 (Nat.le_of_eq hzO84))
      replace hX83 := ho.ext hX83 (Nat.le_of_eq hzO84)
      have hs89 : X85.heap.size ≤ X88.heap.size := Nat.le_of_eq ho.size.symm
      clear ho hk bO84_0
      have bO84_0 := hv0; clear hv0
      refine pl_nil ?_
      refine qw_then ?_
      refine cw_seq ?_
      have hX90 : Ext X88 X88 := Ext.refl _
      refine cw_plain ?_
      refine pl_take (.slice la24 t25 lc26) rfl (by kernel_rfl) (by kernel_rfl) (by kernel_rfl) (by kernel_rfl) ?_
      refine pl_take (.slice lB t33 cB) rfl (by kernel_rfl) (by kernel_rfl) (by kernel_rfl) (by kernel_rfl) ?_
      refine pl_take (.slice aS nS cS) rfl (by kernel_rfl) (by kernel_rfl) (by kernel_rfl) (by kernel_rfl) ?_
      refine pl_step rfl (by kernel_rfl) (by kernel_rfl) (by kernel_rfl) (sn_call (f := 13) (args := #[.slice aS nS cS]) (by kernel_rfl) ((fewS_c _ SS.r hE hE).mono ?_))
      rintro e w96 ⟨fa91, fk92, fc93, rfl, hk94, own95, hb⟩
      replace hE := hE.trans hb
      replace hX79 := hX79.trans hb
      replace hX83 := hX83.trans hb
      replace hX90 := hX90.trans hb
      have hs97 := hb.size
      clear hb
      have hX98 : Ext w96 w96 := Ext.refl _
      refine ⟨_, rfl, ?_⟩
      refine pl_step rfl (by kernel_rfl) (by kernel_rfl) (by kernel_rfl) (sn_newS (us := #[.slice la24 t25 lc26, .slice lB t33 cB, .slice fa91 fk92 fc93]) (t := 26) (k := 3) (c := 3) (by kernel_rfl) ?_)
      intro O99 X100 hO hOs hb hbx
      have hzO99 := hO; have hyO99 := hOs; clear hO hOs
      have bO99_0 : BoxAt X100 O99 0 (.slice la24 t25 lc26) := hbx 0 _ rfl
      have bO99_1 : BoxAt X100 O99 1 (.slice lB t33 cB) := hbx 1 _ rfl
      have bO99_2 : BoxAt X100 O99 2 (.slice fa91 fk92 fc93) := hbx 2 _ rfl
      clear hbx
      replace hE := hE.trans hb
      replace hX79 := hX79.trans hb
      replace hX83 := hX83.trans hb
      replace hX90 := hX90.trans hb
      replace hX98 := hX98.trans hb
      have hs101 := hb.size
      clear hb
      have lt102 := bO99_0.lt
      refine pl_take (.int .i64 3) rfl (by kernel_rfl) (by kernel_rfl) (by kernel_rfl) (by kernel_rfl) ?_
      refine pl_take (.int .i64 0) rfl (by kernel_rfl) (by kernel_rfl) (by kernel_rfl) (by kernel_rfl) ?_
      refine pl_nil ?_
      refine qw_then ?_
      refine cw_clean [3, 5, 8, 14, 15, 17, 73, 74, 75, 83, 84, 85] (ws' := [(3, .slice aS nS cS), (5, .int .i64 (i5 : Int)), (8, .pointer (some ⟨O1, 0, none⟩)), (14, .slice la24 t25 lc26), (15, .slice lB t33 cB), (17, .pointer (some ⟨O84, 0, none⟩)), (73, .slice (some ⟨O75, 0, none⟩) 2 2), (74, .int .i64 2), (75, .int .i64 (((ia : Nat) : Int) : Int)), (83, .slice (some ⟨O99, 0, none⟩) 3 3), (84, .int .i64 3), (85, .int .i64 0)]) (by kernel_rfl) (fun L => ?_)
      refine cw_block ?_
      have hX103 : Ext X100 X100 := Ext.refl _
      have hLs : ∀ i, i < 3 → ∃ (a : Option Addr) (n c : Nat) (ss : List (List Int × List Int)), X100.cell? ⟨O99, i, none⟩ = some (.slice a n c) ∧ StripsAt X100 a n ss := fun i hi => by
        match i, hi with
        | 0, _ => exact ⟨_, _, _, _, bO99_0.1, sl8.ext hX79⟩
        | 1, _ => exact ⟨_, _, _, _, bO99_1.1, sb8.ext hX79⟩
        | 2, _ => exact ⟨_, _, _, _, bO99_2.1, ((own95.ext hX98).weakenO.stripsA (by unfold fewS; rw [List.length_map, List.length_take, SS.1, hk94, Nat.min_comm]) (by omega))⟩
        | _ + 3, h => omega
      have hbx := (BoxAt.ext hX90 bO84_0).1
      refine cw_loop [3, 5, 8, 14, 15, 17, 73, 74, 75, 83, 84, 85] (fun ws' wr m => ∃ ja : Nat, ws' = [(3, .slice aS nS cS), (5, .int .i64 (i5 : Int)), (8, .pointer (some ⟨O1, 0, none⟩)), (14, .slice la24 t25 lc26), (15, .slice lB t33 cB), (17, .pointer (some ⟨O84, 0, none⟩)), (73, .slice (some ⟨O75, 0, none⟩) 2 2), (74, .int .i64 2), (75, .int .i64 (((ia : Nat) : Int) : Int)), (83, .slice (some ⟨O99, 0, none⟩) 3 3), (84, .int .i64 3), (85, .int .i64 (((ja : Nat) : Int) : Int))] ∧ m = 3 - ja ∧ X100.heap.size ≤ wr.heap.size ∧ Ext w wr ∧ Ext X76 wr ∧ Ext X100 wr ∧ ja ≤ 3) (ws0 := [(3, .slice aS nS cS), (5, .int .i64 (i5 : Int)), (8, .pointer (some ⟨O1, 0, none⟩)), (14, .slice la24 t25 lc26), (15, .slice lB t33 cB), (17, .pointer (some ⟨O84, 0, none⟩)), (73, .slice (some ⟨O75, 0, none⟩) 2 2), (74, .int .i64 2), (75, .int .i64 (((ia : Nat) : Int) : Int)), (83, .slice (some ⟨O99, 0, none⟩) 3 3), (84, .int .i64 3), (85, .int .i64 0)]) (by kernel_rfl) _ ⟨0, rfl, rfl, Nat.le_refl _, hE, hX79, hX103, by omega⟩ ?_
      clear hE hX79 hX103
      rintro m106 L ws w105 ⟨ja, rfl, rfl, hs104, hE, hX79, hX103, hija⟩
      by_cases hlt : ja < 3
      ·
        obtain ⟨aL, nL, cL, ss, ceL, sL⟩ := hLs ja hlt
        obtain ⟨ec, hec⟩ : ∃ e, orE (vD && Globe.stripsOk ss) 160 = e := ⟨_, rfl⟩
        obtain ⟨U1, hU1⟩ : ∃ L, orL (vD && Globe.stripsOk ss) (Globe.leftL lD (ss.map fun s => s.2)) = L := ⟨_, rfl⟩
        obtain ⟨U2, hU2⟩ : ∃ L, orL (vD && Globe.stripsOk ss) (Globe.leftL lD (ss.map fun s => s.1)) = L := ⟨_, rfl⟩
        obtain ⟨PL, hPL⟩ : ∃ L, orP (vD && Globe.stripsOk ss) (Globe.piecesL lD (ss.map fun s => s.1)) = L := ⟨_, rfl⟩
        have bU1 : U1.length ≤ 140737488355328 := hU1 ▸ orL_len (Globe.left_le _ bnD)
        have bU2 : U2.length ≤ 140737488355328 := hU2 ▸ orL_len (Globe.left_le _ bnD)
        obtain ⟨hPv, hPn⟩ := Globe.pieces_ok aaD.2.2.2 hPL
        obtain ⟨fc, hfc⟩ : ∃ e, orE (decide (nL ≤ 12) && (vD && Globe.stripsOk ss)) 160 = e := ⟨_, rfl⟩
        obtain ⟨FL, hFL⟩ : ∃ L, (if decide (nL ≤ 12) && (vD && Globe.stripsOk ss) then (Globe.fewestL (Globe.enough lD (ss.map fun s => s.1)) nL).getD [] else []) = L := ⟨_, rfl⟩
        obtain ⟨fq, hfq⟩ : ∃ q, (decide (nL ≤ 12) && (vD && Globe.stripsOk ss) && (Globe.fewestL (Globe.enough lD (ss.map fun s => s.1)) nL).isSome) = q := ⟨_, rfl⟩
        have hF12 := few_le hFL
        refine cw_seq ?_
        refine cw_plain ?_
        refine pl_take (.bool true) rfl (by kernel_rfl) (by kernel_rfl) (by kernel_rfl) (ev_dec (show _ = Result.ok (Next.value (Value.bool (decide ((((ja : Nat) : Int) : Int) < (3 : Int))))) _ from by kernel_rfl) (by omega)) ?_
        refine pl_nil ?_
        refine qw_then ?_
        refine cw_seq ?_
        refine cw_t (by kernel_rfl) ?_
        refine cw_skip ?_
        refine qw_then ?_
        refine cw_seq ?_
        refine cw_block ?_
        refine cw_seq ?_
        refine cw_plain ?_
        refine pl_take (.pointer (some ⟨O99, ja, none⟩)) rfl (by kernel_rfl) (by kernel_rfl) (by kernel_rfl) (ex_index (p := .slice (some ⟨O99, 0, none⟩) 3 3) (i := .int .i64 ((ja : Nat) : Int)) rfl (by kernel_rfl) (by kernel_rfl) (ix35z (k := ja) (by omega))) ?_
        refine pl_take (.slice aL nL cL) rfl (by kernel_rfl) (by kernel_rfl) (by kernel_rfl) (ex_load rfl (by kernel_rfl) (ld26 ((hX103.cell ceL)))) ?_
        refine pl_take (.slice aL nL cL) rfl (by kernel_rfl) (by kernel_rfl) (by kernel_rfl) (by kernel_rfl) ?_
        refine pl_nil ?_
        refine qw_then ?_
        refine cw_clean [3, 5, 8, 14, 15, 17, 19, 73, 74, 75, 83, 84, 85] (ws' := [(3, .slice aS nS cS), (5, .int .i64 (i5 : Int)), (8, .pointer (some ⟨O1, 0, none⟩)), (14, .slice la24 t25 lc26), (15, .slice lB t33 cB), (17, .pointer (some ⟨O84, 0, none⟩)), (19, .slice aL nL cL), (73, .slice (some ⟨O75, 0, none⟩) 2 2), (74, .int .i64 2), (75, .int .i64 (((ia : Nat) : Int) : Int)), (83, .slice (some ⟨O99, 0, none⟩) 3 3), (84, .int .i64 3), (85, .int .i64 (((ja : Nat) : Int) : Int))]) (by kernel_rfl) (fun L => ?_)
        refine cw_seq ?_
        have hX107 : Ext w105 w105 := Ext.refl _
        refine cw_plain ?_
        refine pl_take (.agg #[.slice aD nD cD]) rfl (by kernel_rfl) (by kernel_rfl) (by kernel_rfl) (ex_load rfl (by kernel_rfl) (ld25 ((hX103.cell hbx)))) ?_
        refine pl_take (.slice aL nL cL) rfl (by kernel_rfl) (by kernel_rfl) (by kernel_rfl) (by kernel_rfl) ?_
        refine pl_step rfl (by kernel_rfl) (by kernel_rfl) (by kernel_rfl) (sn_call (f := 15) (args := #[.agg #[.slice aD nD cD], .slice aL nL cL]) (by kernel_rfl) ((unc_p hU1 hU2 hec (Uncovered_c _ _ _ aaD hX79 sL hX103)).mono ?_))
        rintro e w116 ⟨ua108, uk109, ub110, ul111, rfl, hU112, hV113, hb, hf114, hg115⟩
        replace hE := hE.trans hb
        replace hX79 := hX79.trans hb
        replace hX103 := hX103.trans hb
        replace hX107 := hX107.trans hb
        have hs117 := hb.size
        clear hb
        refine ⟨_, rfl, ?_⟩
        refine pl_take (.tuple #[.agg #[.slice ua108 U1.length uk109], .agg #[.slice ub110 U2.length ul111], .int .i64 (ec : Int)]) rfl (by kernel_rfl) (by kernel_rfl) (by kernel_rfl) (by kernel_rfl) ?_
        refine pl_take (.agg #[.slice ua108 U1.length uk109]) rfl (by kernel_rfl) (by kernel_rfl) (by kernel_rfl) (by kernel_rfl) ?_
        refine pl_take (.agg #[.slice ub110 U2.length ul111]) rfl (by kernel_rfl) (by kernel_rfl) (by kernel_rfl) (by kernel_rfl) ?_
        refine pl_take (.int .i64 (ec : Int)) rfl (by kernel_rfl) (by kernel_rfl) (by kernel_rfl) (by kernel_rfl) ?_
        refine pl_step rfl (by kernel_rfl) (by kernel_rfl) (by kernel_rfl) (sn_new (us := #[.slice none 0 0]) (t := 25) (by kernel_rfl) ?_)
        intro O118 X119 hO hOs hb hbx
        have hzO118 := hO; have hyO118 := hOs; clear hO hOs
        have bO118_0 : BoxAt X119 O118 0 (.slice none 0 0) := hbx 0 _ rfl
        clear hbx
        replace hE := hE.trans hb
        replace hX79 := hX79.trans hb
        replace hX103 := hX103.trans hb
        replace hX107 := hX107.trans hb
        replace hU112 := hU112.ext hb
        replace hV113 := hV113.ext hb
        have hs120 := hb.size
        clear hb
        have lt121 := bO118_0.lt
        refine pl_step rfl (by kernel_rfl) (by kernel_rfl) (by kernel_rfl) (sn_new (us := #[.slice none 0 0]) (t := 25) (by kernel_rfl) ?_)
        intro O122 X123 hO hOs hb hbx
        have hzO122 := hO; have hyO122 := hOs; clear hO hOs
        have bO122_0 : BoxAt X123 O122 0 (.slice none 0 0) := hbx 0 _ rfl
        clear hbx
        replace hE := hE.trans hb
        replace hX79 := hX79.trans hb
        replace hX103 := hX103.trans hb
        replace hX107 := hX107.trans hb
        replace hU112 := hU112.ext hb
        replace hV113 := hV113.ext hb
        replace bO118_0 := BoxAt.ext hb bO118_0
        have hs124 := hb.size
        clear hb
        have lt125 := bO122_0.lt
        refine pl_put rfl (by kernel_rfl) (by kernel_rfl) (sn_set (O := O118) (j := 0) (v := .slice ua108 U1.length uk109) (ex_store (p := .pointer (some ⟨O118, 0, none⟩)) (v := .agg #[.slice ua108 U1.length uk109]) rfl (by kernel_rfl) (by kernel_rfl) (st25 bO118_0.1 bO118_0.2)) bO118_0 ?_)
        intro X126 ho hv0 hk
        replace hE := ho.ext hE (Nat.le_trans (Nat.le_trans hs3 (Nat.le_trans hs7 (Nat.le_trans hs10 (Nat.le_trans hs16 (Nat.le_trans hs20 (Nat.le_trans hs23 (Nat.le_trans hs30 (Nat.le_trans hs38 (Nat.le_trans hs40 (Nat.le_trans hs73 (Nat.le_trans hs77 (Nat.le_trans hs80 (Nat.le_trans hs86 (Nat.le_trans hs89 (Nat.le_trans hs97 (Nat.le_trans hs101 (Nat.le_trans hs104 hs117))))))))))))))))) (Nat.le_of_eq hzO118))
        replace hX79 := ho.ext hX79 (Nat.le_trans (Nat.le_trans hs80 (Nat.le_trans hs86 (Nat.le_trans hs89 (Nat.le_trans hs97 (Nat.le_trans hs101 (Nat.le_trans hs104 hs117)))))) (Nat.le_of_eq hzO118))
        replace hX103 := ho.ext hX103 (Nat.le_trans (Nat.le_trans hs104 hs117) (Nat.le_of_eq hzO118))
        replace hX107 := ho.ext hX107 (Nat.le_trans hs117 (Nat.le_of_eq hzO118))
        replace hU112 := ho.ints (fun ad e => Nat.ne_of_lt (Nat.lt_of_lt_of_le (hf114 ad e).2 (Nat.le_of_eq hzO118))) hU112
        replace hV113 := ho.ints (fun ad e => Nat.ne_of_lt (Nat.lt_of_lt_of_le (hg115 ad e).2 (Nat.le_of_eq hzO118))) hV113
        replace bO122_0 := ho.box (Nat.ne_of_lt (Nat.lt_of_lt_of_le lt121 (Nat.le_of_eq hzO122))) bO122_0
        have hs127 : X123.heap.size ≤ X126.heap.size := Nat.le_of_eq ho.size.symm
        clear ho hk bO118_0
        have bO118_0 := hv0; clear hv0
        refine pl_put rfl (by kernel_rfl) (by kernel_rfl) (sn_set (O := O122) (j := 0) (v := .slice ub110 U2.length ul111) (ex_store (p := .pointer (some ⟨O122, 0, none⟩)) (v := .agg #[.slice ub110 U2.length ul111]) rfl (by kernel_rfl) (by kernel_rfl) (st25 bO122_0.1 bO122_0.2)) bO122_0 ?_)
        intro X128 ho hv0 hk
        replace hE := ho.ext hE (Nat.le_trans (Nat.le_trans hs3 (Nat.le_trans hs7 (Nat.le_trans hs10 (Nat.le_trans hs16 (Nat.le_trans hs20 (Nat.le_trans hs23 (Nat.le_trans hs30 (Nat.le_trans hs38 (Nat.le_trans hs40 (Nat.le_trans hs73 (Nat.le_trans hs77 (Nat.le_trans hs80 (Nat.le_trans hs86 (Nat.le_trans hs89 (Nat.le_trans hs97 (Nat.le_trans hs101 (Nat.le_trans hs104 (Nat.le_trans hs117 hs120)))))))))))))))))) (Nat.le_of_eq hzO122))
        replace hX79 := ho.ext hX79 (Nat.le_trans (Nat.le_trans hs80 (Nat.le_trans hs86 (Nat.le_trans hs89 (Nat.le_trans hs97 (Nat.le_trans hs101 (Nat.le_trans hs104 (Nat.le_trans hs117 hs120))))))) (Nat.le_of_eq hzO122))
        replace hX103 := ho.ext hX103 (Nat.le_trans (Nat.le_trans hs104 (Nat.le_trans hs117 hs120)) (Nat.le_of_eq hzO122))
        replace hX107 := ho.ext hX107 (Nat.le_trans (Nat.le_trans hs117 hs120) (Nat.le_of_eq hzO122))
        replace hU112 := ho.ints (fun ad e => Nat.ne_of_lt (Nat.lt_of_lt_of_le (hf114 ad e).2 (Nat.le_trans hs120 (Nat.le_of_eq hzO122)))) hU112
        replace hV113 := ho.ints (fun ad e => Nat.ne_of_lt (Nat.lt_of_lt_of_le (hg115 ad e).2 (Nat.le_trans hs120 (Nat.le_of_eq hzO122)))) hV113
        replace bO118_0 := ho.box (Nat.ne_of_gt (Nat.lt_of_lt_of_le lt121 (Nat.le_of_eq hzO122))) bO118_0
        have hs129 : X126.heap.size ≤ X128.heap.size := Nat.le_of_eq ho.size.symm
        clear ho hk bO122_0
        have bO122_0 := hv0; clear hv0
        refine pl_take (.int .i64 (ec : Int)) rfl (by kernel_rfl) (by kernel_rfl) (by kernel_rfl) (by kernel_rfl) ?_
        refine pl_nil ?_
        refine qw_then ?_
        refine cw_clean [3, 5, 8, 14, 15, 17, 19, 20, 21, 22, 73, 74, 75, 83, 84, 85] (ws' := [(3, .slice aS nS cS), (5, .int .i64 (i5 : Int)), (8, .pointer (some ⟨O1, 0, none⟩)), (14, .slice la24 t25 lc26), (15, .slice lB t33 cB), (17, .pointer (some ⟨O84, 0, none⟩)), (19, .slice aL nL cL), (20, .pointer (some ⟨O118, 0, none⟩)), (21, .pointer (some ⟨O122, 0, none⟩)), (22, .int .i64 (ec : Int)), (73, .slice (some ⟨O75, 0, none⟩) 2 2), (74, .int .i64 2), (75, .int .i64 (((ia : Nat) : Int) : Int)), (83, .slice (some ⟨O99, 0, none⟩) 3 3), (84, .int .i64 3), (85, .int .i64 (((ja : Nat) : Int) : Int))]) (by kernel_rfl) (fun L => ?_)
        refine cw_seq ?_
        have hX130 : Ext X128 X128 := Ext.refl _
        refine cw_plain ?_
        refine pl_take (.agg #[.slice aD nD cD]) rfl (by kernel_rfl) (by kernel_rfl) (by kernel_rfl) (ex_load rfl (by kernel_rfl) (ld25 ((hX103.cell hbx)))) ?_
        refine pl_take (.slice aL nL cL) rfl (by kernel_rfl) (by kernel_rfl) (by kernel_rfl) (by kernel_rfl) ?_
        refine pl_step rfl (by kernel_rfl) (by kernel_rfl) (by kernel_rfl) (sn_call (f := 16) (args := #[.agg #[.slice aD nD cD], .slice aL nL cL]) (by kernel_rfl) ((unc_p hU1 hU2 hec (rUncovered_c _ _ _ aaD hX79 sL hX103)).mono ?_))
        rintro e w139 ⟨ua131, uk132, ub133, ul134, rfl, hU135, hV136, hb, hf137, hg138⟩
        replace hE := hE.trans hb
        replace hX79 := hX79.trans hb
        replace hX103 := hX103.trans hb
        replace hX107 := hX107.trans hb
        replace hX130 := hX130.trans hb
        have hs140 := hb.size
        clear hb
        refine ⟨_, rfl, ?_⟩
        refine pl_take (.tuple #[.agg #[.slice ua131 U1.length uk132], .agg #[.slice ub133 U2.length ul134], .int .i64 (ec : Int)]) rfl (by kernel_rfl) (by kernel_rfl) (by kernel_rfl) (by kernel_rfl) ?_
        refine pl_take (.agg #[.slice ua131 U1.length uk132]) rfl (by kernel_rfl) (by kernel_rfl) (by kernel_rfl) (by kernel_rfl) ?_
        refine pl_take (.agg #[.slice ub133 U2.length ul134]) rfl (by kernel_rfl) (by kernel_rfl) (by kernel_rfl) (by kernel_rfl) ?_
        refine pl_take (.int .i64 (ec : Int)) rfl (by kernel_rfl) (by kernel_rfl) (by kernel_rfl) (by kernel_rfl) ?_
        refine pl_step rfl (by kernel_rfl) (by kernel_rfl) (by kernel_rfl) (sn_new (us := #[.slice none 0 0]) (t := 25) (by kernel_rfl) ?_)
        intro O141 X142 hO hOs hb hbx
        have hzO141 := hO; have hyO141 := hOs; clear hO hOs
        have bO141_0 : BoxAt X142 O141 0 (.slice none 0 0) := hbx 0 _ rfl
        clear hbx
        replace hE := hE.trans hb
        replace hX79 := hX79.trans hb
        replace hX103 := hX103.trans hb
        replace hX107 := hX107.trans hb
        replace hX130 := hX130.trans hb
        replace hU135 := hU135.ext hb
        replace hV136 := hV136.ext hb
        have hs143 := hb.size
        clear hb
        have lt144 := bO141_0.lt
        refine pl_step rfl (by kernel_rfl) (by kernel_rfl) (by kernel_rfl) (sn_new (us := #[.slice none 0 0]) (t := 25) (by kernel_rfl) ?_)
        intro O145 X146 hO hOs hb hbx
        have hzO145 := hO; have hyO145 := hOs; clear hO hOs
        have bO145_0 : BoxAt X146 O145 0 (.slice none 0 0) := hbx 0 _ rfl
        clear hbx
        replace hE := hE.trans hb
        replace hX79 := hX79.trans hb
        replace hX103 := hX103.trans hb
        replace hX107 := hX107.trans hb
        replace hX130 := hX130.trans hb
        replace hU135 := hU135.ext hb
        replace hV136 := hV136.ext hb
        replace bO141_0 := BoxAt.ext hb bO141_0
        have hs147 := hb.size
        clear hb
        have lt148 := bO145_0.lt
        refine pl_put rfl (by kernel_rfl) (by kernel_rfl) (sn_set (O := O141) (j := 0) (v := .slice ua131 U1.length uk132) (ex_store (p := .pointer (some ⟨O141, 0, none⟩)) (v := .agg #[.slice ua131 U1.length uk132]) rfl (by kernel_rfl) (by kernel_rfl) (st25 bO141_0.1 bO141_0.2)) bO141_0 ?_)
        intro X149 ho hv0 hk
        replace hE := ho.ext hE (Nat.le_trans (Nat.le_trans hs3 (Nat.le_trans hs7 (Nat.le_trans hs10 (Nat.le_trans hs16 (Nat.le_trans hs20 (Nat.le_trans hs23 (Nat.le_trans hs30 (Nat.le_trans hs38 (Nat.le_trans hs40 (Nat.le_trans hs73 (Nat.le_trans hs77 (Nat.le_trans hs80 (Nat.le_trans hs86 (Nat.le_trans hs89 (Nat.le_trans hs97 (Nat.le_trans hs101 (Nat.le_trans hs104 (Nat.le_trans hs117 (Nat.le_trans hs120 (Nat.le_trans hs124 (Nat.le_trans hs127 (Nat.le_trans hs129 hs140)))))))))))))))))))))) (Nat.le_of_eq hzO141))
        replace hX79 := ho.ext hX79 (Nat.le_trans (Nat.le_trans hs80 (Nat.le_trans hs86 (Nat.le_trans hs89 (Nat.le_trans hs97 (Nat.le_trans hs101 (Nat.le_trans hs104 (Nat.le_trans hs117 (Nat.le_trans hs120 (Nat.le_trans hs124 (Nat.le_trans hs127 (Nat.le_trans hs129 hs140))))))))))) (Nat.le_of_eq hzO141))
        replace hX103 := ho.ext hX103 (Nat.le_trans (Nat.le_trans hs104 (Nat.le_trans hs117 (Nat.le_trans hs120 (Nat.le_trans hs124 (Nat.le_trans hs127 (Nat.le_trans hs129 hs140)))))) (Nat.le_of_eq hzO141))
        replace hX107 := ho.ext hX107 (Nat.le_trans (Nat.le_trans hs117 (Nat.le_trans hs120 (Nat.le_trans hs124 (Nat.le_trans hs127 (Nat.le_trans hs129 hs140))))) (Nat.le_of_eq hzO141))
        replace hX130 := ho.ext hX130 (Nat.le_trans hs140 (Nat.le_of_eq hzO141))
        replace hU135 := ho.ints (fun ad e => Nat.ne_of_lt (Nat.lt_of_lt_of_le (hf137 ad e).2 (Nat.le_of_eq hzO141))) hU135
        replace hV136 := ho.ints (fun ad e => Nat.ne_of_lt (Nat.lt_of_lt_of_le (hg138 ad e).2 (Nat.le_of_eq hzO141))) hV136
        replace bO145_0 := ho.box (Nat.ne_of_lt (Nat.lt_of_lt_of_le lt144 (Nat.le_of_eq hzO145))) bO145_0
        have hs150 : X146.heap.size ≤ X149.heap.size := Nat.le_of_eq ho.size.symm
        clear ho hk bO141_0
        have bO141_0 := hv0; clear hv0
        refine pl_put rfl (by kernel_rfl) (by kernel_rfl) (sn_set (O := O145) (j := 0) (v := .slice ub133 U2.length ul134) (ex_store (p := .pointer (some ⟨O145, 0, none⟩)) (v := .agg #[.slice ub133 U2.length ul134]) rfl (by kernel_rfl) (by kernel_rfl) (st25 bO145_0.1 bO145_0.2)) bO145_0 ?_)
        intro X151 ho hv0 hk
        replace hE := ho.ext hE (Nat.le_trans (Nat.le_trans hs3 (Nat.le_trans hs7 (Nat.le_trans hs10 (Nat.le_trans hs16 (Nat.le_trans hs20 (Nat.le_trans hs23 (Nat.le_trans hs30 (Nat.le_trans hs38 (Nat.le_trans hs40 (Nat.le_trans hs73 (Nat.le_trans hs77 (Nat.le_trans hs80 (Nat.le_trans hs86 (Nat.le_trans hs89 (Nat.le_trans hs97 (Nat.le_trans hs101 (Nat.le_trans hs104 (Nat.le_trans hs117 (Nat.le_trans hs120 (Nat.le_trans hs124 (Nat.le_trans hs127 (Nat.le_trans hs129 (Nat.le_trans hs140 hs143))))))))))))))))))))))) (Nat.le_of_eq hzO145))
        replace hX79 := ho.ext hX79 (Nat.le_trans (Nat.le_trans hs80 (Nat.le_trans hs86 (Nat.le_trans hs89 (Nat.le_trans hs97 (Nat.le_trans hs101 (Nat.le_trans hs104 (Nat.le_trans hs117 (Nat.le_trans hs120 (Nat.le_trans hs124 (Nat.le_trans hs127 (Nat.le_trans hs129 (Nat.le_trans hs140 hs143)))))))))))) (Nat.le_of_eq hzO145))
        replace hX103 := ho.ext hX103 (Nat.le_trans (Nat.le_trans hs104 (Nat.le_trans hs117 (Nat.le_trans hs120 (Nat.le_trans hs124 (Nat.le_trans hs127 (Nat.le_trans hs129 (Nat.le_trans hs140 hs143))))))) (Nat.le_of_eq hzO145))
        replace hX107 := ho.ext hX107 (Nat.le_trans (Nat.le_trans hs117 (Nat.le_trans hs120 (Nat.le_trans hs124 (Nat.le_trans hs127 (Nat.le_trans hs129 (Nat.le_trans hs140 hs143)))))) (Nat.le_of_eq hzO145))
        replace hX130 := ho.ext hX130 (Nat.le_trans (Nat.le_trans hs140 hs143) (Nat.le_of_eq hzO145))
        replace hU135 := ho.ints (fun ad e => Nat.ne_of_lt (Nat.lt_of_lt_of_le (hf137 ad e).2 (Nat.le_trans hs143 (Nat.le_of_eq hzO145)))) hU135
        replace hV136 := ho.ints (fun ad e => Nat.ne_of_lt (Nat.lt_of_lt_of_le (hg138 ad e).2 (Nat.le_trans hs143 (Nat.le_of_eq hzO145)))) hV136
        replace bO141_0 := ho.box (Nat.ne_of_gt (Nat.lt_of_lt_of_le lt144 (Nat.le_of_eq hzO145))) bO141_0
        have hs152 : X149.heap.size ≤ X151.heap.size := Nat.le_of_eq ho.size.symm
        clear ho hk bO145_0
        have bO145_0 := hv0; clear hv0
        refine pl_take (.int .i64 (ec : Int)) rfl (by kernel_rfl) (by kernel_rfl) (by kernel_rfl) (by kernel_rfl) ?_
        refine pl_nil ?_
        refine qw_then ?_
        refine cw_clean [3, 5, 8, 14, 15, 17, 19, 20, 21, 22, 23, 24, 25, 73, 74, 75, 83, 84, 85] (ws' := [(3, .slice aS nS cS), (5, .int .i64 (i5 : Int)), (8, .pointer (some ⟨O1, 0, none⟩)), (14, .slice la24 t25 lc26), (15, .slice lB t33 cB), (17, .pointer (some ⟨O84, 0, none⟩)), (19, .slice aL nL cL), (20, .pointer (some ⟨O118, 0, none⟩)), (21, .pointer (some ⟨O122, 0, none⟩)), (22, .int .i64 (ec : Int)), (23, .pointer (some ⟨O141, 0, none⟩)), (24, .pointer (some ⟨O145, 0, none⟩)), (25, .int .i64 (ec : Int)), (73, .slice (some ⟨O75, 0, none⟩) 2 2), (74, .int .i64 2), (75, .int .i64 (((ia : Nat) : Int) : Int)), (83, .slice (some ⟨O99, 0, none⟩) 3 3), (84, .int .i64 3), (85, .int .i64 (((ja : Nat) : Int) : Int))]) (by kernel_rfl) (fun L => ?_)
        refine cw_seq ?_
        have hX153 : Ext X151 X151 := Ext.refl _
        refine cw_plain ?_
        refine pl_take (.agg #[.slice aD nD cD]) rfl (by kernel_rfl) (by kernel_rfl) (by kernel_rfl) (ex_load rfl (by kernel_rfl) (ld25 ((hX103.cell hbx)))) ?_
        refine pl_take (.slice aL nL cL) rfl (by kernel_rfl) (by kernel_rfl) (by kernel_rfl) (by kernel_rfl) ?_
        refine pl_step rfl (by kernel_rfl) (by kernel_rfl) (by kernel_rfl) (sn_call (f := 17) (args := #[.agg #[.slice aD nD cD], .slice aL nL cL]) (by kernel_rfl) ((dec_p hPL hU2 hec (Decompose_c _ _ _ aaD hX79 sL hX103)).mono ?_))
        rintro e w161 ⟨da154, dk155, db156, dl157, rfl, hA158, hU159, hb, hf160⟩
        replace hE := hE.trans hb
        replace hX79 := hX79.trans hb
        replace hX103 := hX103.trans hb
        replace hX107 := hX107.trans hb
        replace hX130 := hX130.trans hb
        replace hX153 := hX153.trans hb
        have hs162 := hb.size
        clear hb
        have hX163 : Ext w161 w161 := Ext.refl _
        refine ⟨_, rfl, ?_⟩
        refine pl_take (.tuple #[.slice da154 PL.length dk155, .agg #[.slice db156 U2.length dl157], .int .i64 (ec : Int)]) rfl (by kernel_rfl) (by kernel_rfl) (by kernel_rfl) (by kernel_rfl) ?_
        refine pl_take (.slice da154 PL.length dk155) rfl (by kernel_rfl) (by kernel_rfl) (by kernel_rfl) (by kernel_rfl) ?_
        refine pl_take (.agg #[.slice db156 U2.length dl157]) rfl (by kernel_rfl) (by kernel_rfl) (by kernel_rfl) (by kernel_rfl) ?_
        refine pl_take (.int .i64 (ec : Int)) rfl (by kernel_rfl) (by kernel_rfl) (by kernel_rfl) (by kernel_rfl) ?_
        refine pl_step rfl (by kernel_rfl) (by kernel_rfl) (by kernel_rfl) (sn_new (us := #[.slice none 0 0]) (t := 25) (by kernel_rfl) ?_)
        intro O164 X165 hO hOs hb hbx
        have hzO164 := hO; have hyO164 := hOs; clear hO hOs
        have bO164_0 : BoxAt X165 O164 0 (.slice none 0 0) := hbx 0 _ rfl
        clear hbx
        replace hE := hE.trans hb
        replace hX79 := hX79.trans hb
        replace hX103 := hX103.trans hb
        replace hX107 := hX107.trans hb
        replace hX130 := hX130.trans hb
        replace hX153 := hX153.trans hb
        replace hX163 := hX163.trans hb
        replace hU159 := hU159.ext hb
        have hs166 := hb.size
        clear hb
        have lt167 := bO164_0.lt
        refine pl_take (.slice da154 PL.length dk155) rfl (by kernel_rfl) (by kernel_rfl) (by kernel_rfl) (by kernel_rfl) ?_
        refine pl_put rfl (by kernel_rfl) (by kernel_rfl) (sn_set (O := O164) (j := 0) (v := .slice db156 U2.length dl157) (ex_store (p := .pointer (some ⟨O164, 0, none⟩)) (v := .agg #[.slice db156 U2.length dl157]) rfl (by kernel_rfl) (by kernel_rfl) (st25 bO164_0.1 bO164_0.2)) bO164_0 ?_)
        intro X168 ho hv0 hk
        replace hE := ho.ext hE (Nat.le_trans (Nat.le_trans hs3 (Nat.le_trans hs7 (Nat.le_trans hs10 (Nat.le_trans hs16 (Nat.le_trans hs20 (Nat.le_trans hs23 (Nat.le_trans hs30 (Nat.le_trans hs38 (Nat.le_trans hs40 (Nat.le_trans hs73 (Nat.le_trans hs77 (Nat.le_trans hs80 (Nat.le_trans hs86 (Nat.le_trans hs89 (Nat.le_trans hs97 (Nat.le_trans hs101 (Nat.le_trans hs104 (Nat.le_trans hs117 (Nat.le_trans hs120 (Nat.le_trans hs124 (Nat.le_trans hs127 (Nat.le_trans hs129 (Nat.le_trans hs140 (Nat.le_trans hs143 (Nat.le_trans hs147 (Nat.le_trans hs150 (Nat.le_trans hs152 hs162))))))))))))))))))))))))))) (Nat.le_of_eq hzO164))
        replace hX79 := ho.ext hX79 (Nat.le_trans (Nat.le_trans hs80 (Nat.le_trans hs86 (Nat.le_trans hs89 (Nat.le_trans hs97 (Nat.le_trans hs101 (Nat.le_trans hs104 (Nat.le_trans hs117 (Nat.le_trans hs120 (Nat.le_trans hs124 (Nat.le_trans hs127 (Nat.le_trans hs129 (Nat.le_trans hs140 (Nat.le_trans hs143 (Nat.le_trans hs147 (Nat.le_trans hs150 (Nat.le_trans hs152 hs162)))))))))))))))) (Nat.le_of_eq hzO164))
        replace hX103 := ho.ext hX103 (Nat.le_trans (Nat.le_trans hs104 (Nat.le_trans hs117 (Nat.le_trans hs120 (Nat.le_trans hs124 (Nat.le_trans hs127 (Nat.le_trans hs129 (Nat.le_trans hs140 (Nat.le_trans hs143 (Nat.le_trans hs147 (Nat.le_trans hs150 (Nat.le_trans hs152 hs162))))))))))) (Nat.le_of_eq hzO164))
        replace hX107 := ho.ext hX107 (Nat.le_trans (Nat.le_trans hs117 (Nat.le_trans hs120 (Nat.le_trans hs124 (Nat.le_trans hs127 (Nat.le_trans hs129 (Nat.le_trans hs140 (Nat.le_trans hs143 (Nat.le_trans hs147 (Nat.le_trans hs150 (Nat.le_trans hs152 hs162)))))))))) (Nat.le_of_eq hzO164))
        replace hX130 := ho.ext hX130 (Nat.le_trans (Nat.le_trans hs140 (Nat.le_trans hs143 (Nat.le_trans hs147 (Nat.le_trans hs150 (Nat.le_trans hs152 hs162))))) (Nat.le_of_eq hzO164))
        replace hX153 := ho.ext hX153 (Nat.le_trans hs162 (Nat.le_of_eq hzO164))
        replace hX163 := ho.ext hX163 (Nat.le_of_eq hzO164)
        replace hU159 := ho.ints (fun ad e => Nat.ne_of_lt (Nat.lt_of_lt_of_le (hf160 ad e).2 (Nat.le_of_eq hzO164))) hU159
        have hs169 : X165.heap.size ≤ X168.heap.size := Nat.le_of_eq ho.size.symm
        clear ho hk bO164_0
        have bO164_0 := hv0; clear hv0
        refine pl_take (.int .i64 (ec : Int)) rfl (by kernel_rfl) (by kernel_rfl) (by kernel_rfl) (by kernel_rfl) ?_
        refine pl_nil ?_
        refine qw_then ?_
        refine cw_clean [3, 5, 8, 14, 15, 17, 19, 20, 21, 22, 23, 24, 25, 26, 27, 28, 73, 74, 75, 83, 84, 85] (ws' := [(3, .slice aS nS cS), (5, .int .i64 (i5 : Int)), (8, .pointer (some ⟨O1, 0, none⟩)), (14, .slice la24 t25 lc26), (15, .slice lB t33 cB), (17, .pointer (some ⟨O84, 0, none⟩)), (19, .slice aL nL cL), (20, .pointer (some ⟨O118, 0, none⟩)), (21, .pointer (some ⟨O122, 0, none⟩)), (22, .int .i64 (ec : Int)), (23, .pointer (some ⟨O141, 0, none⟩)), (24, .pointer (some ⟨O145, 0, none⟩)), (25, .int .i64 (ec : Int)), (26, .slice da154 PL.length dk155), (27, .pointer (some ⟨O164, 0, none⟩)), (28, .int .i64 (ec : Int)), (73, .slice (some ⟨O75, 0, none⟩) 2 2), (74, .int .i64 2), (75, .int .i64 (((ia : Nat) : Int) : Int)), (83, .slice (some ⟨O99, 0, none⟩) 3 3), (84, .int .i64 3), (85, .int .i64 (((ja : Nat) : Int) : Int))]) (by kernel_rfl) (fun L => ?_)
        refine cw_seq ?_
        have hX170 : Ext X168 X168 := Ext.refl _
        refine cw_plain ?_
        refine pl_take (.agg #[.slice aD nD cD]) rfl (by kernel_rfl) (by kernel_rfl) (by kernel_rfl) (ex_load rfl (by kernel_rfl) (ld25 ((hX103.cell hbx)))) ?_
        refine pl_take (.slice aL nL cL) rfl (by kernel_rfl) (by kernel_rfl) (by kernel_rfl) (by kernel_rfl) ?_
        refine pl_step rfl (by kernel_rfl) (by kernel_rfl) (by kernel_rfl) (sn_call (f := 18) (args := #[.agg #[.slice aD nD cD], .slice aL nL cL]) (by kernel_rfl) ((dec_p hPL hU2 hec (rDecompose_c _ _ _ aaD hX79 sL hX103)).mono ?_))
        rintro e w178 ⟨da171, dk172, db173, dl174, rfl, hA175, hU176, hb, hf177⟩
        replace hE := hE.trans hb
        replace hX79 := hX79.trans hb
        replace hX103 := hX103.trans hb
        replace hX107 := hX107.trans hb
        replace hX130 := hX130.trans hb
        replace hX153 := hX153.trans hb
        replace hX163 := hX163.trans hb
        replace hX170 := hX170.trans hb
        have hs179 := hb.size
        clear hb
        have hX180 : Ext w178 w178 := Ext.refl _
        refine ⟨_, rfl, ?_⟩
        refine pl_take (.tuple #[.slice da171 PL.length dk172, .agg #[.slice db173 U2.length dl174], .int .i64 (ec : Int)]) rfl (by kernel_rfl) (by kernel_rfl) (by kernel_rfl) (by kernel_rfl) ?_
        refine pl_take (.slice da171 PL.length dk172) rfl (by kernel_rfl) (by kernel_rfl) (by kernel_rfl) (by kernel_rfl) ?_
        refine pl_take (.agg #[.slice db173 U2.length dl174]) rfl (by kernel_rfl) (by kernel_rfl) (by kernel_rfl) (by kernel_rfl) ?_
        refine pl_take (.int .i64 (ec : Int)) rfl (by kernel_rfl) (by kernel_rfl) (by kernel_rfl) (by kernel_rfl) ?_
        refine pl_step rfl (by kernel_rfl) (by kernel_rfl) (by kernel_rfl) (sn_new (us := #[.slice none 0 0]) (t := 25) (by kernel_rfl) ?_)
        intro O181 X182 hO hOs hb hbx
        have hzO181 := hO; have hyO181 := hOs; clear hO hOs
        have bO181_0 : BoxAt X182 O181 0 (.slice none 0 0) := hbx 0 _ rfl
        clear hbx
        replace hE := hE.trans hb
        replace hX79 := hX79.trans hb
        replace hX103 := hX103.trans hb
        replace hX107 := hX107.trans hb
        replace hX130 := hX130.trans hb
        replace hX153 := hX153.trans hb
        replace hX163 := hX163.trans hb
        replace hX170 := hX170.trans hb
        replace hX180 := hX180.trans hb
        replace hU176 := hU176.ext hb
        have hs183 := hb.size
        clear hb
        have lt184 := bO181_0.lt
        refine pl_take (.slice da171 PL.length dk172) rfl (by kernel_rfl) (by kernel_rfl) (by kernel_rfl) (by kernel_rfl) ?_
        refine pl_put rfl (by kernel_rfl) (by kernel_rfl) (sn_set (O := O181) (j := 0) (v := .slice db173 U2.length dl174) (ex_store (p := .pointer (some ⟨O181, 0, none⟩)) (v := .agg #[.slice db173 U2.length dl174]) rfl (by kernel_rfl) (by kernel_rfl) (st25 bO181_0.1 bO181_0.2)) bO181_0 ?_)
        intro X185 ho hv0 hk
        replace hE := ho.ext hE (Nat.le_trans (Nat.le_trans hs3 (Nat.le_trans hs7 (Nat.le_trans hs10 (Nat.le_trans hs16 (Nat.le_trans hs20 (Nat.le_trans hs23 (Nat.le_trans hs30 (Nat.le_trans hs38 (Nat.le_trans hs40 (Nat.le_trans hs73 (Nat.le_trans hs77 (Nat.le_trans hs80 (Nat.le_trans hs86 (Nat.le_trans hs89 (Nat.le_trans hs97 (Nat.le_trans hs101 (Nat.le_trans hs104 (Nat.le_trans hs117 (Nat.le_trans hs120 (Nat.le_trans hs124 (Nat.le_trans hs127 (Nat.le_trans hs129 (Nat.le_trans hs140 (Nat.le_trans hs143 (Nat.le_trans hs147 (Nat.le_trans hs150 (Nat.le_trans hs152 (Nat.le_trans hs162 (Nat.le_trans hs166 (Nat.le_trans hs169 hs179)))))))))))))))))))))))))))))) (Nat.le_of_eq hzO181))
        replace hX79 := ho.ext hX79 (Nat.le_trans (Nat.le_trans hs80 (Nat.le_trans hs86 (Nat.le_trans hs89 (Nat.le_trans hs97 (Nat.le_trans hs101 (Nat.le_trans hs104 (Nat.le_trans hs117 (Nat.le_trans hs120 (Nat.le_trans hs124 (Nat.le_trans hs127 (Nat.le_trans hs129 (Nat.le_trans hs140 (Nat.le_trans hs143 (Nat.le_trans hs147 (Nat.le_trans hs150 (Nat.le_trans hs152 (Nat.le_trans hs162 (Nat.le_trans hs166 (Nat.le_trans hs169 hs179))))))))))))))))))) (Nat.le_of_eq hzO181))
        replace hX103 := ho.ext hX103 (Nat.le_trans (Nat.le_trans hs104 (Nat.le_trans hs117 (Nat.le_trans hs120 (Nat.le_trans hs124 (Nat.le_trans hs127 (Nat.le_trans hs129 (Nat.le_trans hs140 (Nat.le_trans hs143 (Nat.le_trans hs147 (Nat.le_trans hs150 (Nat.le_trans hs152 (Nat.le_trans hs162 (Nat.le_trans hs166 (Nat.le_trans hs169 hs179)))))))))))))) (Nat.le_of_eq hzO181))
        replace hX107 := ho.ext hX107 (Nat.le_trans (Nat.le_trans hs117 (Nat.le_trans hs120 (Nat.le_trans hs124 (Nat.le_trans hs127 (Nat.le_trans hs129 (Nat.le_trans hs140 (Nat.le_trans hs143 (Nat.le_trans hs147 (Nat.le_trans hs150 (Nat.le_trans hs152 (Nat.le_trans hs162 (Nat.le_trans hs166 (Nat.le_trans hs169 hs179))))))))))))) (Nat.le_of_eq hzO181))
        replace hX130 := ho.ext hX130 (Nat.le_trans (Nat.le_trans hs140 (Nat.le_trans hs143 (Nat.le_trans hs147 (Nat.le_trans hs150 (Nat.le_trans hs152 (Nat.le_trans hs162 (Nat.le_trans hs166 (Nat.le_trans hs169 hs179)))))))) (Nat.le_of_eq hzO181))
        replace hX153 := ho.ext hX153 (Nat.le_trans (Nat.le_trans hs162 (Nat.le_trans hs166 (Nat.le_trans hs169 hs179))) (Nat.le_of_eq hzO181))
        replace hX163 := ho.ext hX163 (Nat.le_trans (Nat.le_trans hs166 (Nat.le_trans hs169 hs179)) (Nat.le_of_eq hzO181))
        replace hX170 := ho.ext hX170 (Nat.le_trans hs179 (Nat.le_of_eq hzO181))
        replace hX180 := ho.ext hX180 (Nat.le_of_eq hzO181)
        replace hU176 := ho.ints (fun ad e => Nat.ne_of_lt (Nat.lt_of_lt_of_le (hf177 ad e).2 (Nat.le_of_eq hzO181))) hU176
        have hs186 : X182.heap.size ≤ X185.heap.size := Nat.le_of_eq ho.size.symm
        clear ho hk bO181_0
        have bO181_0 := hv0; clear hv0
        refine pl_take (.int .i64 (ec : Int)) rfl (by kernel_rfl) (by kernel_rfl) (by kernel_rfl) (by kernel_rfl) ?_
        refine pl_nil ?_
        refine qw_then ?_
        refine cw_clean [3, 5, 8, 14, 15, 17, 19, 20, 21, 22, 23, 24, 25, 26, 27, 28, 29, 30, 31, 73, 74, 75, 83, 84, 85] (ws' := [(3, .slice aS nS cS), (5, .int .i64 (i5 : Int)), (8, .pointer (some ⟨O1, 0, none⟩)), (14, .slice la24 t25 lc26), (15, .slice lB t33 cB), (17, .pointer (some ⟨O84, 0, none⟩)), (19, .slice aL nL cL), (20, .pointer (some ⟨O118, 0, none⟩)), (21, .pointer (some ⟨O122, 0, none⟩)), (22, .int .i64 (ec : Int)), (23, .pointer (some ⟨O141, 0, none⟩)), (24, .pointer (some ⟨O145, 0, none⟩)), (25, .int .i64 (ec : Int)), (26, .slice da154 PL.length dk155), (27, .pointer (some ⟨O164, 0, none⟩)), (28, .int .i64 (ec : Int)), (29, .slice da171 PL.length dk172), (30, .pointer (some ⟨O181, 0, none⟩)), (31, .int .i64 (ec : Int)), (73, .slice (some ⟨O75, 0, none⟩) 2 2), (74, .int .i64 2), (75, .int .i64 (((ia : Nat) : Int) : Int)), (83, .slice (some ⟨O99, 0, none⟩) 3 3), (84, .int .i64 3), (85, .int .i64 (((ja : Nat) : Int) : Int))]) (by kernel_rfl) (fun L => ?_)
        refine cw_seq ?_
        refine cw_seq ?_
        have hX187 : Ext X185 X185 := Ext.refl _
        refine cw_plain ?_
        refine pl_take (.slice aL nL cL) rfl (by kernel_rfl) (by kernel_rfl) (by kernel_rfl) (by kernel_rfl) ?_
        refine pl_step rfl (by kernel_rfl) (by kernel_rfl) (by kernel_rfl) (sn_call (f := 19) (args := #[.slice aL nL cL]) (by kernel_rfl) ((ValidS_c _ _ sL hX103).mono ?_))
        rintro e w188 ⟨rfl, hb⟩
        replace hE := hE.trans hb
        replace hX79 := hX79.trans hb
        replace hX103 := hX103.trans hb
        replace hX107 := hX107.trans hb
        replace hX130 := hX130.trans hb
        replace hX153 := hX153.trans hb
        replace hX163 := hX163.trans hb
        replace hX170 := hX170.trans hb
        replace hX180 := hX180.trans hb
        replace hX187 := hX187.trans hb
        have hs189 := hb.size
        clear hb
        refine ⟨_, rfl, ?_⟩
        refine pl_take (.slice aL nL cL) rfl (by kernel_rfl) (by kernel_rfl) (by kernel_rfl) (by kernel_rfl) ?_
        refine pl_step rfl (by kernel_rfl) (by kernel_rfl) (by kernel_rfl) (sn_call (f := 20) (args := #[.slice aL nL cL]) (by kernel_rfl) ((rValidS_c _ _ sL hX103).mono ?_))
        rintro e w190 ⟨rfl, hb⟩
        replace hE := hE.trans hb
        replace hX79 := hX79.trans hb
        replace hX103 := hX103.trans hb
        replace hX107 := hX107.trans hb
        replace hX130 := hX130.trans hb
        replace hX153 := hX153.trans hb
        replace hX163 := hX163.trans hb
        replace hX170 := hX170.trans hb
        replace hX180 := hX180.trans hb
        replace hX187 := hX187.trans hb
        have hs191 := hb.size
        clear hb
        refine ⟨_, rfl, ?_⟩
        refine pl_take (.bool false) rfl (by kernel_rfl) (by kernel_rfl) (by kernel_rfl) (ev_bool (show _ = Result.ok (Next.value (Value.bool ((Globe.stripsOk ss) != (Globe.stripsOk ss)))) _ from by kernel_rfl) (by simp)) ?_
        refine pl_take (.bool false) rfl (by kernel_rfl) (by kernel_rfl) (by kernel_rfl) (by kernel_rfl) ?_
        refine pl_take (.int .i64 (ec : Int)) rfl (by kernel_rfl) (by kernel_rfl) (by kernel_rfl) (by kernel_rfl) ?_
        refine pl_take (.int .i64 (ec : Int)) rfl (by kernel_rfl) (by kernel_rfl) (by kernel_rfl) (by kernel_rfl) ?_
        refine pl_take (.bool false) rfl (by kernel_rfl) (by kernel_rfl) (by kernel_rfl) (ev_nne (show _ = Result.ok (Next.value (Value.bool ((ec : Int) != (ec : Int)))) _ from by kernel_rfl) (rfl)) ?_
        refine pl_take (.bool false) rfl (by kernel_rfl) (by kernel_rfl) (by kernel_rfl) (by kernel_rfl) ?_
        refine pl_take (.bool false) rfl (by kernel_rfl) (by kernel_rfl) (by kernel_rfl) (by kernel_rfl) ?_
        refine pl_take (.agg #[.slice ua108 U1.length uk109]) rfl (by kernel_rfl) (by kernel_rfl) (by kernel_rfl) (ex_load rfl (by kernel_rfl) (ld25 ((BoxAt.ext hX130 bO118_0).1))) ?_
        refine pl_take (.agg #[.slice ua131 U1.length uk132]) rfl (by kernel_rfl) (by kernel_rfl) (by kernel_rfl) (ex_load rfl (by kernel_rfl) (ld25 ((BoxAt.ext hX153 bO141_0).1))) ?_
        refine pl_step rfl (by kernel_rfl) (by kernel_rfl) (by kernel_rfl) (sn_call (f := 21) (args := #[.agg #[.slice ua108 U1.length uk109], .agg #[.slice ua131 U1.length uk132]]) (by kernel_rfl) ((rSame_t _ _ _ (aa_of hU112 bU1) hX130 (aa_of hU135 bU1) hX153).mono ?_))
        rintro e w192 ⟨rfl, hb⟩
        replace hE := hE.trans hb
        replace hX79 := hX79.trans hb
        replace hX103 := hX103.trans hb
        replace hX107 := hX107.trans hb
        replace hX130 := hX130.trans hb
        replace hX153 := hX153.trans hb
        replace hX163 := hX163.trans hb
        replace hX170 := hX170.trans hb
        replace hX180 := hX180.trans hb
        replace hX187 := hX187.trans hb
        have hs193 := hb.size
        clear hb
        refine ⟨_, rfl, ?_⟩
        refine pl_take (.bool false) rfl (by kernel_rfl) (by kernel_rfl) (by kernel_rfl) (by kernel_rfl) ?_
        refine pl_take (.bool false) rfl (by kernel_rfl) (by kernel_rfl) (by kernel_rfl) (by kernel_rfl) ?_
        refine pl_take (.bool false) rfl (by kernel_rfl) (by kernel_rfl) (by kernel_rfl) (by kernel_rfl) ?_
        refine pl_take (.agg #[.slice ub110 U2.length ul111]) rfl (by kernel_rfl) (by kernel_rfl) (by kernel_rfl) (ex_load rfl (by kernel_rfl) (ld25 ((BoxAt.ext hX130 bO122_0).1))) ?_
        refine pl_take (.agg #[.slice ub133 U2.length ul134]) rfl (by kernel_rfl) (by kernel_rfl) (by kernel_rfl) (ex_load rfl (by kernel_rfl) (ld25 ((BoxAt.ext hX153 bO145_0).1))) ?_
        refine pl_step rfl (by kernel_rfl) (by kernel_rfl) (by kernel_rfl) (sn_call (f := 21) (args := #[.agg #[.slice ub110 U2.length ul111], .agg #[.slice ub133 U2.length ul134]]) (by kernel_rfl) ((rSame_t _ _ _ (aa_of hV113 bU2) hX130 (aa_of hV136 bU2) hX153).mono ?_))
        rintro e w194 ⟨rfl, hb⟩
        replace hE := hE.trans hb
        replace hX79 := hX79.trans hb
        replace hX103 := hX103.trans hb
        replace hX107 := hX107.trans hb
        replace hX130 := hX130.trans hb
        replace hX153 := hX153.trans hb
        replace hX163 := hX163.trans hb
        replace hX170 := hX170.trans hb
        replace hX180 := hX180.trans hb
        replace hX187 := hX187.trans hb
        have hs195 := hb.size
        clear hb
        refine ⟨_, rfl, ?_⟩
        refine pl_take (.bool false) rfl (by kernel_rfl) (by kernel_rfl) (by kernel_rfl) (by kernel_rfl) ?_
        refine pl_take (.bool false) rfl (by kernel_rfl) (by kernel_rfl) (by kernel_rfl) (by kernel_rfl) ?_
        refine pl_take (.bool false) rfl (by kernel_rfl) (by kernel_rfl) (by kernel_rfl) (by kernel_rfl) ?_
        refine pl_take (.int .i64 (ec : Int)) rfl (by kernel_rfl) (by kernel_rfl) (by kernel_rfl) (by kernel_rfl) ?_
        refine pl_take (.int .i64 (ec : Int)) rfl (by kernel_rfl) (by kernel_rfl) (by kernel_rfl) (by kernel_rfl) ?_
        refine pl_take (.bool false) rfl (by kernel_rfl) (by kernel_rfl) (by kernel_rfl) (ev_nne (show _ = Result.ok (Next.value (Value.bool ((ec : Int) != (ec : Int)))) _ from by kernel_rfl) (rfl)) ?_
        refine pl_take (.bool false) rfl (by kernel_rfl) (by kernel_rfl) (by kernel_rfl) (by kernel_rfl) ?_
        refine pl_take (.bool false) rfl (by kernel_rfl) (by kernel_rfl) (by kernel_rfl) (by kernel_rfl) ?_
        refine pl_take (.agg #[.slice db156 U2.length dl157]) rfl (by kernel_rfl) (by kernel_rfl) (by kernel_rfl) (ex_load rfl (by kernel_rfl) (ld25 ((BoxAt.ext hX170 bO164_0).1))) ?_
        refine pl_take (.agg #[.slice db173 U2.length dl174]) rfl (by kernel_rfl) (by kernel_rfl) (by kernel_rfl) (ex_load rfl (by kernel_rfl) (ld25 ((BoxAt.ext hX187 bO181_0).1))) ?_
        refine pl_step rfl (by kernel_rfl) (by kernel_rfl) (by kernel_rfl) (sn_call (f := 21) (args := #[.agg #[.slice db156 U2.length dl157], .agg #[.slice db173 U2.length dl174]]) (by kernel_rfl) ((rSame_t _ _ _ (aa_of hU159 bU2) hX170 (aa_of hU176 bU2) hX187).mono ?_))
        rintro e w196 ⟨rfl, hb⟩
        replace hE := hE.trans hb
        replace hX79 := hX79.trans hb
        replace hX103 := hX103.trans hb
        replace hX107 := hX107.trans hb
        replace hX130 := hX130.trans hb
        replace hX153 := hX153.trans hb
        replace hX163 := hX163.trans hb
        replace hX170 := hX170.trans hb
        replace hX180 := hX180.trans hb
        replace hX187 := hX187.trans hb
        have hs197 := hb.size
        clear hb
        refine ⟨_, rfl, ?_⟩
        refine pl_take (.bool false) rfl (by kernel_rfl) (by kernel_rfl) (by kernel_rfl) (by kernel_rfl) ?_
        refine pl_take (.bool false) rfl (by kernel_rfl) (by kernel_rfl) (by kernel_rfl) (by kernel_rfl) ?_
        refine pl_take (.bool false) rfl (by kernel_rfl) (by kernel_rfl) (by kernel_rfl) (by kernel_rfl) ?_
        refine pl_take (.slice da154 PL.length dk155) rfl (by kernel_rfl) (by kernel_rfl) (by kernel_rfl) (by kernel_rfl) ?_
        refine pl_take (.slice da171 PL.length dk172) rfl (by kernel_rfl) (by kernel_rfl) (by kernel_rfl) (by kernel_rfl) ?_
        refine pl_step rfl (by kernel_rfl) (by kernel_rfl) (by kernel_rfl) (sn_call (f := 22) (args := #[.slice da154 PL.length dk155, .slice da171 PL.length dk172]) (by kernel_rfl) ((rSameAreas_t _ _ _ hA158 hX163 hA175 hX180).mono ?_))
        rintro e w198 ⟨rfl, hb⟩
        replace hE := hE.trans hb
        replace hX79 := hX79.trans hb
        replace hX103 := hX103.trans hb
        replace hX107 := hX107.trans hb
        replace hX130 := hX130.trans hb
        replace hX153 := hX153.trans hb
        replace hX163 := hX163.trans hb
        replace hX170 := hX170.trans hb
        replace hX180 := hX180.trans hb
        replace hX187 := hX187.trans hb
        have hs199 := hb.size
        clear hb
        refine ⟨_, rfl, ?_⟩
        refine pl_take (.bool false) rfl (by kernel_rfl) (by kernel_rfl) (by kernel_rfl) (by kernel_rfl) ?_
        refine pl_take (.bool false) rfl (by kernel_rfl) (by kernel_rfl) (by kernel_rfl) (by kernel_rfl) ?_
        refine pl_nil ?_
        refine qw_then ?_
        refine cw_clean [3, 5, 8, 14, 15, 17, 19, 29, 73, 74, 75, 83, 84, 85, 155] (ws' := [(3, .slice aS nS cS), (5, .int .i64 (i5 : Int)), (8, .pointer (some ⟨O1, 0, none⟩)), (14, .slice la24 t25 lc26), (15, .slice lB t33 cB), (17, .pointer (some ⟨O84, 0, none⟩)), (19, .slice aL nL cL), (29, .slice da171 PL.length dk172), (73, .slice (some ⟨O75, 0, none⟩) 2 2), (74, .int .i64 2), (75, .int .i64 (((ia : Nat) : Int) : Int)), (83, .slice (some ⟨O99, 0, none⟩) 3 3), (84, .int .i64 3), (85, .int .i64 (((ja : Nat) : Int) : Int)), (155, .bool false)]) (by kernel_rfl) (fun L => ?_)
        refine cw_f (by kernel_rfl) ?_
        refine cw_skip ?_
        refine qw_then ?_
        refine cw_clean [3, 5, 8, 14, 15, 17, 19, 29, 73, 74, 75, 83, 84, 85] (ws' := [(3, .slice aS nS cS), (5, .int .i64 (i5 : Int)), (8, .pointer (some ⟨O1, 0, none⟩)), (14, .slice la24 t25 lc26), (15, .slice lB t33 cB), (17, .pointer (some ⟨O84, 0, none⟩)), (19, .slice aL nL cL), (29, .slice da171 PL.length dk172), (73, .slice (some ⟨O75, 0, none⟩) 2 2), (74, .int .i64 2), (75, .int .i64 (((ia : Nat) : Int) : Int)), (83, .slice (some ⟨O99, 0, none⟩) 3 3), (84, .int .i64 3), (85, .int .i64 (((ja : Nat) : Int) : Int))]) (by kernel_rfl) (fun L => ?_)
        refine cw_seq ?_
        have hX200 : Ext w198 w198 := Ext.refl _
        refine cw_plain ?_
        refine pl_step rfl (by kernel_rfl) (by kernel_rfl) (by kernel_rfl) (sn_newS0 (t := 25) (by kernel_rfl) ?_)
        intro O201 X202 hO hOs hb hpO201
        have hzO201 := hO; have hyO201 : O201 < X202.heap.size := (by omega); clear hO hOs
        replace hE := hE.trans hb
        replace hX79 := hX79.trans hb
        replace hX103 := hX103.trans hb
        replace hX107 := hX107.trans hb
        replace hX130 := hX130.trans hb
        replace hX153 := hX153.trans hb
        replace hX163 := hX163.trans hb
        replace hX170 := hX170.trans hb
        replace hX180 := hX180.trans hb
        replace hX187 := hX187.trans hb
        replace hX200 := hX200.trans hb
        have hs203 := hb.size
        clear hb
        refine pl_take (.slice da171 PL.length dk172) rfl (by kernel_rfl) (by kernel_rfl) (by kernel_rfl) (by kernel_rfl) ?_
        obtain ⟨g204, cap205, w206, hrun207, own208, hgr209⟩ := app_areas0 (ty := 34) (c := dk172) (n₀ := w198.heap.size) hpO201 (Nat.le_of_eq hzO201) (hA175.ext hX180) (by omega) hPv
        refine pl_step rfl (by kernel_rfl) (by kernel_rfl) (by kernel_rfl) (sn_eff (v := .slice (some ⟨g204, 0, none⟩) PL.length cap205) (w' := w206) (ex_append rfl (by kernel_rfl) (by kernel_rfl) hrun207) ?_)
        replace hE := hgr209.ext _ hE (Nat.le_trans hs3 (Nat.le_trans hs7 (Nat.le_trans hs10 (Nat.le_trans hs16 (Nat.le_trans hs20 (Nat.le_trans hs23 (Nat.le_trans hs30 (Nat.le_trans hs38 (Nat.le_trans hs40 (Nat.le_trans hs73 (Nat.le_trans hs77 (Nat.le_trans hs80 (Nat.le_trans hs86 (Nat.le_trans hs89 (Nat.le_trans hs97 (Nat.le_trans hs101 (Nat.le_trans hs104 (Nat.le_trans hs117 (Nat.le_trans hs120 (Nat.le_trans hs124 (Nat.le_trans hs127 (Nat.le_trans hs129 (Nat.le_trans hs140 (Nat.le_trans hs143 (Nat.le_trans hs147 (Nat.le_trans hs150 (Nat.le_trans hs152 (Nat.le_trans hs162 (Nat.le_trans hs166 (Nat.le_trans hs169 (Nat.le_trans hs179 (Nat.le_trans hs183 (Nat.le_trans hs186 (Nat.le_trans hs189 (Nat.le_trans hs191 (Nat.le_trans hs193 (Nat.le_trans hs195 (Nat.le_trans hs197 hs199))))))))))))))))))))))))))))))))))))))
        replace hX79 := hgr209.ext _ hX79 (Nat.le_trans hs80 (Nat.le_trans hs86 (Nat.le_trans hs89 (Nat.le_trans hs97 (Nat.le_trans hs101 (Nat.le_trans hs104 (Nat.le_trans hs117 (Nat.le_trans hs120 (Nat.le_trans hs124 (Nat.le_trans hs127 (Nat.le_trans hs129 (Nat.le_trans hs140 (Nat.le_trans hs143 (Nat.le_trans hs147 (Nat.le_trans hs150 (Nat.le_trans hs152 (Nat.le_trans hs162 (Nat.le_trans hs166 (Nat.le_trans hs169 (Nat.le_trans hs179 (Nat.le_trans hs183 (Nat.le_trans hs186 (Nat.le_trans hs189 (Nat.le_trans hs191 (Nat.le_trans hs193 (Nat.le_trans hs195 (Nat.le_trans hs197 hs199)))))))))))))))))))))))))))
        replace hX103 := hgr209.ext _ hX103 (Nat.le_trans hs104 (Nat.le_trans hs117 (Nat.le_trans hs120 (Nat.le_trans hs124 (Nat.le_trans hs127 (Nat.le_trans hs129 (Nat.le_trans hs140 (Nat.le_trans hs143 (Nat.le_trans hs147 (Nat.le_trans hs150 (Nat.le_trans hs152 (Nat.le_trans hs162 (Nat.le_trans hs166 (Nat.le_trans hs169 (Nat.le_trans hs179 (Nat.le_trans hs183 (Nat.le_trans hs186 (Nat.le_trans hs189 (Nat.le_trans hs191 (Nat.le_trans hs193 (Nat.le_trans hs195 (Nat.le_trans hs197 hs199))))))))))))))))))))))
        replace hX107 := hgr209.ext _ hX107 (Nat.le_trans hs117 (Nat.le_trans hs120 (Nat.le_trans hs124 (Nat.le_trans hs127 (Nat.le_trans hs129 (Nat.le_trans hs140 (Nat.le_trans hs143 (Nat.le_trans hs147 (Nat.le_trans hs150 (Nat.le_trans hs152 (Nat.le_trans hs162 (Nat.le_trans hs166 (Nat.le_trans hs169 (Nat.le_trans hs179 (Nat.le_trans hs183 (Nat.le_trans hs186 (Nat.le_trans hs189 (Nat.le_trans hs191 (Nat.le_trans hs193 (Nat.le_trans hs195 (Nat.le_trans hs197 hs199)))))))))))))))))))))
        replace hX130 := hgr209.ext _ hX130 (Nat.le_trans hs140 (Nat.le_trans hs143 (Nat.le_trans hs147 (Nat.le_trans hs150 (Nat.le_trans hs152 (Nat.le_trans hs162 (Nat.le_trans hs166 (Nat.le_trans hs169 (Nat.le_trans hs179 (Nat.le_trans hs183 (Nat.le_trans hs186 (Nat.le_trans hs189 (Nat.le_trans hs191 (Nat.le_trans hs193 (Nat.le_trans hs195 (Nat.le_trans hs197 hs199))))))))))))))))
        replace hX153 := hgr209.ext _ hX153 (Nat.le_trans hs162 (Nat.le_trans hs166 (Nat.le_trans hs169 (Nat.le_trans hs179 (Nat.le_trans hs183 (Nat.le_trans hs186 (Nat.le_trans hs189 (Nat.le_trans hs191 (Nat.le_trans hs193 (Nat.le_trans hs195 (Nat.le_trans hs197 hs199)))))))))))
        replace hX163 := hgr209.ext _ hX163 (Nat.le_trans hs166 (Nat.le_trans hs169 (Nat.le_trans hs179 (Nat.le_trans hs183 (Nat.le_trans hs186 (Nat.le_trans hs189 (Nat.le_trans hs191 (Nat.le_trans hs193 (Nat.le_trans hs195 (Nat.le_trans hs197 hs199))))))))))
        replace hX170 := hgr209.ext _ hX170 (Nat.le_trans hs179 (Nat.le_trans hs183 (Nat.le_trans hs186 (Nat.le_trans hs189 (Nat.le_trans hs191 (Nat.le_trans hs193 (Nat.le_trans hs195 (Nat.le_trans hs197 hs199))))))))
        replace hX180 := hgr209.ext _ hX180 (Nat.le_trans hs183 (Nat.le_trans hs186 (Nat.le_trans hs189 (Nat.le_trans hs191 (Nat.le_trans hs193 (Nat.le_trans hs195 (Nat.le_trans hs197 hs199)))))))
        replace hX187 := hgr209.ext _ hX187 (Nat.le_trans hs189 (Nat.le_trans hs191 (Nat.le_trans hs193 (Nat.le_trans hs195 (Nat.le_trans hs197 hs199)))))
        replace hX200 := hgr209.ext _ hX200 (Nat.le_refl _)
        have hs212 := hgr209.size
        have hn210 := own208.base g204 rfl; have lt211 := own208.lt g204 rfl
        have hX213 : Ext w206 w206 := Ext.refl _
        refine pl_take (.slice (some ⟨g204, 0, none⟩) PL.length cap205) rfl (by kernel_rfl) (by kernel_rfl) (by kernel_rfl) (by kernel_rfl) ?_
        refine pl_nil ?_
        refine qw_then ?_
        refine cw_clean [3, 5, 8, 14, 15, 17, 19, 29, 32, 73, 74, 75, 83, 84, 85] (ws' := [(3, .slice aS nS cS), (5, .int .i64 (i5 : Int)), (8, .pointer (some ⟨O1, 0, none⟩)), (14, .slice la24 t25 lc26), (15, .slice lB t33 cB), (17, .pointer (some ⟨O84, 0, none⟩)), (19, .slice aL nL cL), (29, .slice da171 PL.length dk172), (32, .slice (some ⟨g204, 0, none⟩) PL.length cap205), (73, .slice (some ⟨O75, 0, none⟩) 2 2), (74, .int .i64 2), (75, .int .i64 (((ia : Nat) : Int) : Int)), (83, .slice (some ⟨O99, 0, none⟩) 3 3), (84, .int .i64 3), (85, .int .i64 (((ja : Nat) : Int) : Int))]) (by kernel_rfl) (fun L => ?_)
        refine cw_seq ?_
        refine cw_seq ?_
        obtain ⟨q22, hq22⟩ : ∃ q, decide (((PL.length : Nat) : Int) > (0 : Int)) = q := ⟨_, rfl⟩
        refine cw_plain ?_
        refine pl_take (.slice (some ⟨g204, 0, none⟩) PL.length cap205) rfl (by kernel_rfl) (by kernel_rfl) (by kernel_rfl) (by kernel_rfl) ?_
        refine pl_take (.int .i64 (((PL.length : Nat) : Int) : Int)) rfl (by kernel_rfl) (by kernel_rfl) (by kernel_rfl) (by kernel_rfl) ?_
        refine pl_take (.bool q22) rfl (by kernel_rfl) (by kernel_rfl) (by kernel_rfl) (ev_bool (show _ = Result.ok (Next.value (Value.bool (decide (((PL.length : Nat) : Int) > (0 : Int))))) _ from by kernel_rfl) hq22) ?_
        refine pl_nil ?_
        refine qw_then ?_
        refine cw_clean [3, 5, 8, 14, 15, 17, 19, 29, 32, 73, 74, 75, 83, 84, 85, 161] (ws' := [(3, .slice aS nS cS), (5, .int .i64 (i5 : Int)), (8, .pointer (some ⟨O1, 0, none⟩)), (14, .slice la24 t25 lc26), (15, .slice lB t33 cB), (17, .pointer (some ⟨O84, 0, none⟩)), (19, .slice aL nL cL), (29, .slice da171 PL.length dk172), (32, .slice (some ⟨g204, 0, none⟩) PL.length cap205), (73, .slice (some ⟨O75, 0, none⟩) 2 2), (74, .int .i64 2), (75, .int .i64 (((ia : Nat) : Int) : Int)), (83, .slice (some ⟨O99, 0, none⟩) 3 3), (84, .int .i64 3), (85, .int .i64 (((ja : Nat) : Int) : Int)), (161, .bool q22)]) (by kernel_rfl) (fun L => ?_)
        refine cw_join (fun ws' wr => ∃ PB : List (List Int), ws' = [(3, .slice aS nS cS), (5, .int .i64 (i5 : Int)), (8, .pointer (some ⟨O1, 0, none⟩)), (14, .slice la24 t25 lc26), (15, .slice lB t33 cB), (17, .pointer (some ⟨O84, 0, none⟩)), (19, .slice aL nL cL), (29, .slice da171 PL.length dk172), (32, .slice (some ⟨g204, 0, none⟩) PL.length cap205), (73, .slice (some ⟨O75, 0, none⟩) 2 2), (74, .int .i64 2), (75, .int .i64 (((ia : Nat) : Int) : Int)), (83, .slice (some ⟨O99, 0, none⟩) 3 3), (84, .int .i64 3), (85, .int .i64 (((ja : Nat) : Int) : Int))] ∧ w206.heap.size ≤ wr.heap.size ∧ Ext w wr ∧ Ext X76 wr ∧ Ext X100 wr ∧ Ext w105 wr ∧ Ext X128 wr ∧ Ext X151 wr ∧ Ext w161 wr ∧ Ext X168 wr ∧ Ext w178 wr ∧ Ext X185 wr ∧ Ext w198 wr ∧ AreasAt wr (some ⟨g204, 0, none⟩) PL.length PB) (fun hJ => ?_) ?_
        ·
          cases q22
          ·
            refine cw_f (by kernel_rfl) ?_
            refine cw_skip ?_
            exact qw_leaf hJ [3, 5, 8, 14, 15, 17, 19, 29, 32, 73, 74, 75, 83, 84, 85] (ws' := [(3, .slice aS nS cS), (5, .int .i64 (i5 : Int)), (8, .pointer (some ⟨O1, 0, none⟩)), (14, .slice la24 t25 lc26), (15, .slice lB t33 cB), (17, .pointer (some ⟨O84, 0, none⟩)), (19, .slice aL nL cL), (29, .slice da171 PL.length dk172), (32, .slice (some ⟨g204, 0, none⟩) PL.length cap205), (73, .slice (some ⟨O75, 0, none⟩) 2 2), (74, .int .i64 2), (75, .int .i64 (((ia : Nat) : Int) : Int)), (83, .slice (some ⟨O99, 0, none⟩) 3 3), (84, .int .i64 3), (85, .int .i64 (((ja : Nat) : Int) : Int))]) (by kernel_rfl) ⟨PL, rfl, (Nat.le_refl _), hE, hX79, hX103, hX107, hX130, hX153, hX163, hX170, hX180, hX187, hX200, ((own208).areas rfl (by omega))⟩
          ·
            have hq : 0 < PL.length := by have := of_decide_eq_true hq22; omega
            refine cw_t (by kernel_rfl) ?_
            refine cw_draw [(some 162, [32], []), (some 163, [5], []), (some 164, [32], []), (some 165, [164], [2]), (some 166, [163, 165], [1, 3]), (some 167, [8], []), (some 168, [162, 166], [0, 4, 0, 1, 2, 3, 4, 5]), (none, [168, 167], [6, 5, 4, 0, 1, 2, 3, 4, 5])] (fun w' => w'.cell? ⟨O1, 0, none⟩ = some (.slice aR MR kR)) (by kernel_rfl) (by kernel_rfl) (by kernel_rfl) (by kernel_rfl) ((calm_then (calm_block (calm_then (calm_then (calm_block (calm_block (calm_then (calm_then (calm_block (calm_then calm_body))))))))))) ((hX79.cell hrb)) (fun ops Q X215 hb hL hR hK => ?_)
            replace hE := hE.trans hb
            replace hX79 := hX79.trans hb
            replace hX103 := hX103.trans hb
            replace hX107 := hX107.trans hb
            replace hX130 := hX130.trans hb
            replace hX153 := hX153.trans hb
            replace hX163 := hX163.trans hb
            replace hX170 := hX170.trans hb
            replace hX180 := hX180.trans hb
            replace hX187 := hX187.trans hb
            replace hX200 := hX200.trans hb
            replace hX213 := hX213.trans hb
            have hs216 := hb.size
            clear hb
            refine wd_take 0 (.slice (some ⟨g204, 0, none⟩) PL.length cap205) hR rfl (by kernel_rfl) rfl (by kernel_rfl) (fun w _ => by kernel_rfl) ((hX79.cell hrb)) ?_
            refine wd_take 1 (.int .i64 (i5 : Int)) hR rfl (by kernel_rfl) rfl (by kernel_rfl) (fun w _ => by kernel_rfl) ((hX79.cell hrb)) ?_
            refine wd_take 2 (.slice (some ⟨g204, 0, none⟩) PL.length cap205) hR rfl (by kernel_rfl) rfl (by kernel_rfl) (fun w _ => by kernel_rfl) ((hX79.cell hrb)) ?_
            refine wd_take 3 (.int .i64 (((PL.length : Nat) : Int) : Int)) hR rfl (by kernel_rfl) rfl (by kernel_rfl) (fun w _ => by kernel_rfl) ((hX79.cell hrb)) ?_
            refine wd_take 5 (.agg #[.slice aR MR kR]) hR rfl (by kernel_rfl) rfl (by kernel_rfl) (fun w hS => ex_load rfl (by kernel_rfl) (ld25 (hS))) ((hX79.cell hrb)) ?_
            refine wd_step 4 hR rfl (by kernel_rfl) (by kernel_rfl) (by kernel_rfl) (sn_call (f := 14) (args := #[.int .i64 (i5 : Int), .int .i64 (((PL.length : Nat) : Int) : Int)]) (by kernel_rfl) ((pickN_c _ PL.length _ hi5 (by omega) (by omega)).mono ?_))
            rintro e w' ⟨kp, rfl, kpl, -, rfl⟩
            refine ⟨_, rfl, (hX79.cell hrb), ?_⟩
            refine wd_take 6 (.pointer (some ⟨g204, kp, none⟩)) hR rfl (by kernel_rfl) rfl (by kernel_rfl) (fun w _ => ex_index (p := .slice (some ⟨g204, 0, none⟩) PL.length cap205) (i := .int .i64 ((kp : Nat) : Int)) rfl (by kernel_rfl) (by kernel_rfl) (ix34z (k := kp) (by omega))) ((hX79.cell hrb)) ?_
            obtain ⟨FR, hFR, hFm⟩ := AAR.1.F9 (m := g204) (Nat.le_trans (Nat.le_trans hs3 (Nat.le_trans hs7 (Nat.le_trans hs10 (Nat.le_trans hs16 (Nat.le_trans hs20 (Nat.le_trans hs23 (Nat.le_trans hs30 (Nat.le_trans hs38 (Nat.le_trans hs40 (Nat.le_trans hs73 (Nat.le_trans hs77 (Nat.le_trans hs80 (Nat.le_trans hs86 (Nat.le_trans hs89 (Nat.le_trans hs97 (Nat.le_trans hs101 (Nat.le_trans hs104 (Nat.le_trans hs117 (Nat.le_trans hs120 (Nat.le_trans hs124 (Nat.le_trans hs127 (Nat.le_trans hs129 (Nat.le_trans hs140 (Nat.le_trans hs143 (Nat.le_trans hs147 (Nat.le_trans hs150 (Nat.le_trans hs152 (Nat.le_trans hs162 (Nat.le_trans hs166 (Nat.le_trans hs169 (Nat.le_trans hs179 (Nat.le_trans hs183 (Nat.le_trans hs186 (Nat.le_trans hs189 (Nat.le_trans hs191 (Nat.le_trans hs193 (Nat.le_trans hs195 (Nat.le_trans hs197 hs199)))))))))))))))))))))))))))))))))))))) hn210)
            obtain ⟨⟨u8, hu8⟩, hf8, pS⟩ := areas_setA (c1 := kR) ((own208.ext hX213)) rfl (by omega) (k := kp) kpl (hFR.ext hE) hFm AAR.2.1 AAR.2.2.1
            refine wd_step 7 hR rfl (by kernel_rfl) (by kernel_rfl) (by kernel_rfl) (sn_skp (w' := X215.setCell ⟨g204, kp, none⟩ (.slice aR MR kR)) (ex_store (p := .pointer (some ⟨g204, kp, none⟩)) (v := .agg #[.slice aR MR kR]) rfl (by kernel_rfl) (by kernel_rfl) (st25 hu8 hf8)) ?_)
            have ho := turns_set X215 g204 kp (.slice aR MR kR)
            obtain ⟨X217, hX8⟩ : ∃ X, X = X215.setCell ⟨g204, kp, none⟩ (.slice aR MR kR) := ⟨_, rfl⟩
            rw [← hX8] at ho pS ⊢; clear hX8
            replace hE := ho.ext hE (Nat.le_trans (Nat.le_trans hs3 (Nat.le_trans hs7 (Nat.le_trans hs10 (Nat.le_trans hs16 (Nat.le_trans hs20 (Nat.le_trans hs23 (Nat.le_trans hs30 (Nat.le_trans hs38 (Nat.le_trans hs40 (Nat.le_trans hs73 (Nat.le_trans hs77 (Nat.le_trans hs80 (Nat.le_trans hs86 (Nat.le_trans hs89 (Nat.le_trans hs97 (Nat.le_trans hs101 (Nat.le_trans hs104 (Nat.le_trans hs117 (Nat.le_trans hs120 (Nat.le_trans hs124 (Nat.le_trans hs127 (Nat.le_trans hs129 (Nat.le_trans hs140 (Nat.le_trans hs143 (Nat.le_trans hs147 (Nat.le_trans hs150 (Nat.le_trans hs152 (Nat.le_trans hs162 (Nat.le_trans hs166 (Nat.le_trans hs169 (Nat.le_trans hs179 (Nat.le_trans hs183 (Nat.le_trans hs186 (Nat.le_trans hs189 (Nat.le_trans hs191 (Nat.le_trans hs193 (Nat.le_trans hs195 (Nat.le_trans hs197 hs199)))))))))))))))))))))))))))))))))))))) hn210)
            replace hX79 := ho.ext hX79 (Nat.le_trans (Nat.le_trans hs80 (Nat.le_trans hs86 (Nat.le_trans hs89 (Nat.le_trans hs97 (Nat.le_trans hs101 (Nat.le_trans hs104 (Nat.le_trans hs117 (Nat.le_trans hs120 (Nat.le_trans hs124 (Nat.le_trans hs127 (Nat.le_trans hs129 (Nat.le_trans hs140 (Nat.le_trans hs143 (Nat.le_trans hs147 (Nat.le_trans hs150 (Nat.le_trans hs152 (Nat.le_trans hs162 (Nat.le_trans hs166 (Nat.le_trans hs169 (Nat.le_trans hs179 (Nat.le_trans hs183 (Nat.le_trans hs186 (Nat.le_trans hs189 (Nat.le_trans hs191 (Nat.le_trans hs193 (Nat.le_trans hs195 (Nat.le_trans hs197 hs199))))))))))))))))))))))))))) hn210)
            replace hX103 := ho.ext hX103 (Nat.le_trans (Nat.le_trans hs104 (Nat.le_trans hs117 (Nat.le_trans hs120 (Nat.le_trans hs124 (Nat.le_trans hs127 (Nat.le_trans hs129 (Nat.le_trans hs140 (Nat.le_trans hs143 (Nat.le_trans hs147 (Nat.le_trans hs150 (Nat.le_trans hs152 (Nat.le_trans hs162 (Nat.le_trans hs166 (Nat.le_trans hs169 (Nat.le_trans hs179 (Nat.le_trans hs183 (Nat.le_trans hs186 (Nat.le_trans hs189 (Nat.le_trans hs191 (Nat.le_trans hs193 (Nat.le_trans hs195 (Nat.le_trans hs197 hs199)))))))))))))))))))))) hn210)
            replace hX107 := ho.ext hX107 (Nat.le_trans (Nat.le_trans hs117 (Nat.le_trans hs120 (Nat.le_trans hs124 (Nat.le_trans hs127 (Nat.le_trans hs129 (Nat.le_trans hs140 (Nat.le_trans hs143 (Nat.le_trans hs147 (Nat.le_trans hs150 (Nat.le_trans hs152 (Nat.le_trans hs162 (Nat.le_trans hs166 (Nat.le_trans hs169 (Nat.le_trans hs179 (Nat.le_trans hs183 (Nat.le_trans hs186 (Nat.le_trans hs189 (Nat.le_trans hs191 (Nat.le_trans hs193 (Nat.le_trans hs195 (Nat.le_trans hs197 hs199))))))))))))))))))))) hn210)
            replace hX130 := ho.ext hX130 (Nat.le_trans (Nat.le_trans hs140 (Nat.le_trans hs143 (Nat.le_trans hs147 (Nat.le_trans hs150 (Nat.le_trans hs152 (Nat.le_trans hs162 (Nat.le_trans hs166 (Nat.le_trans hs169 (Nat.le_trans hs179 (Nat.le_trans hs183 (Nat.le_trans hs186 (Nat.le_trans hs189 (Nat.le_trans hs191 (Nat.le_trans hs193 (Nat.le_trans hs195 (Nat.le_trans hs197 hs199)))))))))))))))) hn210)
            replace hX153 := ho.ext hX153 (Nat.le_trans (Nat.le_trans hs162 (Nat.le_trans hs166 (Nat.le_trans hs169 (Nat.le_trans hs179 (Nat.le_trans hs183 (Nat.le_trans hs186 (Nat.le_trans hs189 (Nat.le_trans hs191 (Nat.le_trans hs193 (Nat.le_trans hs195 (Nat.le_trans hs197 hs199))))))))))) hn210)
            replace hX163 := ho.ext hX163 (Nat.le_trans (Nat.le_trans hs166 (Nat.le_trans hs169 (Nat.le_trans hs179 (Nat.le_trans hs183 (Nat.le_trans hs186 (Nat.le_trans hs189 (Nat.le_trans hs191 (Nat.le_trans hs193 (Nat.le_trans hs195 (Nat.le_trans hs197 hs199)))))))))) hn210)
            replace hX170 := ho.ext hX170 (Nat.le_trans (Nat.le_trans hs179 (Nat.le_trans hs183 (Nat.le_trans hs186 (Nat.le_trans hs189 (Nat.le_trans hs191 (Nat.le_trans hs193 (Nat.le_trans hs195 (Nat.le_trans hs197 hs199)))))))) hn210)
            replace hX180 := ho.ext hX180 (Nat.le_trans (Nat.le_trans hs183 (Nat.le_trans hs186 (Nat.le_trans hs189 (Nat.le_trans hs191 (Nat.le_trans hs193 (Nat.le_trans hs195 (Nat.le_trans hs197 hs199))))))) hn210)
            replace hX187 := ho.ext hX187 (Nat.le_trans (Nat.le_trans hs189 (Nat.le_trans hs191 (Nat.le_trans hs193 (Nat.le_trans hs195 (Nat.le_trans hs197 hs199))))) hn210)
            replace hX200 := ho.ext hX200 hn210
            have hs218 : X215.heap.size ≤ X217.heap.size := Nat.le_of_eq ho.size.symm
            refine ⟨(hX79.cell hrb), ?_⟩
            refine wd_end hL hR hK (by kernel_rfl) ?_
            exact qw_leaf hJ [3, 5, 8, 14, 15, 17, 19, 29, 32, 73, 74, 75, 83, 84, 85] (ws' := [(3, .slice aS nS cS), (5, .int .i64 (i5 : Int)), (8, .pointer (some ⟨O1, 0, none⟩)), (14, .slice la24 t25 lc26), (15, .slice lB t33 cB), (17, .pointer (some ⟨O84, 0, none⟩)), (19, .slice aL nL cL), (29, .slice da171 PL.length dk172), (32, .slice (some ⟨g204, 0, none⟩) PL.length cap205), (73, .slice (some ⟨O75, 0, none⟩) 2 2), (74, .int .i64 2), (75, .int .i64 (((ia : Nat) : Int) : Int)), (83, .slice (some ⟨O99, 0, none⟩) 3 3), (84, .int .i64 3), (85, .int .i64 (((ja : Nat) : Int) : Int))]) (by kernel_rfl) ⟨(PL.set kp (few25 lR)), rfl, (Nat.le_trans hs216 hs218), hE, hX79, hX103, hX107, hX130, hX153, hX163, hX170, hX180, hX187, hX200, pS⟩
        ·
          clear hE hX79 hX103 hX107 hX130 hX153 hX163 hX170 hX180 hX187 hX200 hX213
          rintro L ws w219 ⟨PB, rfl, hs214, hE, hX79, hX103, hX107, hX130, hX153, hX163, hX170, hX180, hX187, hX200, pB⟩
          have hX220 : Ext w219 w219 := Ext.refl _
          refine qw_then ?_
          refine cw_clean [3, 5, 8, 14, 15, 17, 19, 29, 32, 73, 74, 75, 83, 84, 85] (ws' := [(3, .slice aS nS cS), (5, .int .i64 (i5 : Int)), (8, .pointer (some ⟨O1, 0, none⟩)), (14, .slice la24 t25 lc26), (15, .slice lB t33 cB), (17, .pointer (some ⟨O84, 0, none⟩)), (19, .slice aL nL cL), (29, .slice da171 PL.length dk172), (32, .slice (some ⟨g204, 0, none⟩) PL.length cap205), (73, .slice (some ⟨O75, 0, none⟩) 2 2), (74, .int .i64 2), (75, .int .i64 (((ia : Nat) : Int) : Int)), (83, .slice (some ⟨O99, 0, none⟩) 3 3), (84, .int .i64 3), (85, .int .i64 (((ja : Nat) : Int) : Int))]) (by kernel_rfl) (fun L => ?_)
          refine cw_seq ?_
          refine cw_seq ?_
          refine cw_plain ?_
          refine pl_take (.slice da171 PL.length dk172) rfl (by kernel_rfl) (by kernel_rfl) (by kernel_rfl) (by kernel_rfl) ?_
          refine pl_take (.slice (some ⟨g204, 0, none⟩) PL.length cap205) rfl (by kernel_rfl) (by kernel_rfl) (by kernel_rfl) (by kernel_rfl) ?_
          refine pl_step rfl (by kernel_rfl) (by kernel_rfl) (by kernel_rfl) (sn_newS (us := #[.slice da171 PL.length dk172, .slice (some ⟨g204, 0, none⟩) PL.length cap205]) (t := 34) (k := 2) (c := 2) (by kernel_rfl) ?_)
          intro O221 X222 hO hOs hb hbx
          have hzO221 := hO; have hyO221 := hOs; clear hO hOs
          have bO221_0 : BoxAt X222 O221 0 (.slice da171 PL.length dk172) := hbx 0 _ rfl
          have bO221_1 : BoxAt X222 O221 1 (.slice (some ⟨g204, 0, none⟩) PL.length cap205) := hbx 1 _ rfl
          clear hbx
          replace hE := hE.trans hb
          replace hX79 := hX79.trans hb
          replace hX103 := hX103.trans hb
          replace hX107 := hX107.trans hb
          replace hX130 := hX130.trans hb
          replace hX153 := hX153.trans hb
          replace hX163 := hX163.trans hb
          replace hX170 := hX170.trans hb
          replace hX180 := hX180.trans hb
          replace hX187 := hX187.trans hb
          replace hX200 := hX200.trans hb
          replace hX220 := hX220.trans hb
          have hs223 := hb.size
          clear hb
          have lt224 := bO221_0.lt
          refine pl_take (.int .i64 2) rfl (by kernel_rfl) (by kernel_rfl) (by kernel_rfl) (by kernel_rfl) ?_
          refine pl_take (.int .i64 0) rfl (by kernel_rfl) (by kernel_rfl) (by kernel_rfl) (by kernel_rfl) ?_
          refine pl_nil ?_
          refine qw_then ?_
          refine cw_clean [3, 5, 8, 14, 15, 17, 19, 73, 74, 75, 83, 84, 85, 171, 172, 173] (ws' := [(3, .slice aS nS cS), (5, .int .i64 (i5 : Int)), (8, .pointer (some ⟨O1, 0, none⟩)), (14, .slice la24 t25 lc26), (15, .slice lB t33 cB), (17, .pointer (some ⟨O84, 0, none⟩)), (19, .slice aL nL cL), (73, .slice (some ⟨O75, 0, none⟩) 2 2), (74, .int .i64 2), (75, .int .i64 (((ia : Nat) : Int) : Int)), (83, .slice (some ⟨O99, 0, none⟩) 3 3), (84, .int .i64 3), (85, .int .i64 (((ja : Nat) : Int) : Int)), (171, .slice (some ⟨O221, 0, none⟩) 2 2), (172, .int .i64 2), (173, .int .i64 0)]) (by kernel_rfl) (fun L => ?_)
          refine cw_block ?_
          have hX225 : Ext X222 X222 := Ext.refl _
          have hPs : ∀ i, i < 2 → ∃ (a : Option Addr) (n c : Nat) (ps : List (List Int)), X222.cell? ⟨O221, i, none⟩ = some (.slice a n c) ∧ AreasAt X222 a n ps := fun i hi => by
            match i, hi with
            | 0, _ => exact ⟨_, _, _, _, bO221_0.1, hA175.ext hX180⟩
            | 1, _ => exact ⟨_, _, _, _, bO221_1.1, pB.ext hX220⟩
            | _ + 2, h => omega
          refine cw_loop [3, 5, 8, 14, 15, 17, 19, 73, 74, 75, 83, 84, 85, 171, 172, 173] (fun ws' wr m => ∃ ka : Nat, ws' = [(3, .slice aS nS cS), (5, .int .i64 (i5 : Int)), (8, .pointer (some ⟨O1, 0, none⟩)), (14, .slice la24 t25 lc26), (15, .slice lB t33 cB), (17, .pointer (some ⟨O84, 0, none⟩)), (19, .slice aL nL cL), (73, .slice (some ⟨O75, 0, none⟩) 2 2), (74, .int .i64 2), (75, .int .i64 (((ia : Nat) : Int) : Int)), (83, .slice (some ⟨O99, 0, none⟩) 3 3), (84, .int .i64 3), (85, .int .i64 (((ja : Nat) : Int) : Int)), (171, .slice (some ⟨O221, 0, none⟩) 2 2), (172, .int .i64 2), (173, .int .i64 (((ka : Nat) : Int) : Int))] ∧ m = 2 - ka ∧ X222.heap.size ≤ wr.heap.size ∧ Ext w wr ∧ Ext X76 wr ∧ Ext X100 wr ∧ Ext X222 wr ∧ ka ≤ 2) (ws0 := [(3, .slice aS nS cS), (5, .int .i64 (i5 : Int)), (8, .pointer (some ⟨O1, 0, none⟩)), (14, .slice la24 t25 lc26), (15, .slice lB t33 cB), (17, .pointer (some ⟨O84, 0, none⟩)), (19, .slice aL nL cL), (73, .slice (some ⟨O75, 0, none⟩) 2 2), (74, .int .i64 2), (75, .int .i64 (((ia : Nat) : Int) : Int)), (83, .slice (some ⟨O99, 0, none⟩) 3 3), (84, .int .i64 3), (85, .int .i64 (((ja : Nat) : Int) : Int)), (171, .slice (some ⟨O221, 0, none⟩) 2 2), (172, .int .i64 2), (173, .int .i64 0)]) (by kernel_rfl) _ ⟨0, rfl, rfl, Nat.le_refl _, hE, hX79, hX103, hX225, by omega⟩ ?_
          clear hE hX79 hX103 hX225
          rintro m228 L ws w227 ⟨ka, rfl, rfl, hs226, hE, hX79, hX103, hX225, hika⟩
          by_cases hlt : ka < 2
          ·
            obtain ⟨aP, nP, cP, ps, ceP, pP⟩ := hPs ka hlt
            refine cw_seq ?_
            refine cw_plain ?_
            refine pl_take (.bool true) rfl (by kernel_rfl) (by kernel_rfl) (by kernel_rfl) (ev_dec (show _ = Result.ok (Next.value (Value.bool (decide ((((ka : Nat) : Int) : Int) < (2 : Int))))) _ from by kernel_rfl) (by omega)) ?_
            refine pl_nil ?_
            refine qw_then ?_
            refine cw_clean [3, 5, 8, 14, 15, 17, 19, 73, 74, 75, 83, 84, 85, 171, 172, 173, 174] (ws' := [(3, .slice aS nS cS), (5, .int .i64 (i5 : Int)), (8, .pointer (some ⟨O1, 0, none⟩)), (14, .slice la24 t25 lc26), (15, .slice lB t33 cB), (17, .pointer (some ⟨O84, 0, none⟩)), (19, .slice aL nL cL), (73, .slice (some ⟨O75, 0, none⟩) 2 2), (74, .int .i64 2), (75, .int .i64 (((ia : Nat) : Int) : Int)), (83, .slice (some ⟨O99, 0, none⟩) 3 3), (84, .int .i64 3), (85, .int .i64 (((ja : Nat) : Int) : Int)), (171, .slice (some ⟨O221, 0, none⟩) 2 2), (172, .int .i64 2), (173, .int .i64 (((ka : Nat) : Int) : Int)), (174, .bool true)]) (by kernel_rfl) (fun L => ?_)
            refine cw_seq ?_
            refine cw_t (by kernel_rfl) ?_
            refine cw_skip ?_
            refine qw_then ?_
            refine cw_clean [3, 5, 8, 14, 15, 17, 19, 73, 74, 75, 83, 84, 85, 171, 172, 173] (ws' := [(3, .slice aS nS cS), (5, .int .i64 (i5 : Int)), (8, .pointer (some ⟨O1, 0, none⟩)), (14, .slice la24 t25 lc26), (15, .slice lB t33 cB), (17, .pointer (some ⟨O84, 0, none⟩)), (19, .slice aL nL cL), (73, .slice (some ⟨O75, 0, none⟩) 2 2), (74, .int .i64 2), (75, .int .i64 (((ia : Nat) : Int) : Int)), (83, .slice (some ⟨O99, 0, none⟩) 3 3), (84, .int .i64 3), (85, .int .i64 (((ja : Nat) : Int) : Int)), (171, .slice (some ⟨O221, 0, none⟩) 2 2), (172, .int .i64 2), (173, .int .i64 (((ka : Nat) : Int) : Int))]) (by kernel_rfl) (fun L => ?_)
            refine cw_seq ?_
            refine cw_block ?_
            refine cw_seq ?_
            refine cw_plain ?_
            refine pl_take (.pointer (some ⟨O221, ka, none⟩)) rfl (by kernel_rfl) (by kernel_rfl) (by kernel_rfl) (ex_index (p := .slice (some ⟨O221, 0, none⟩) 2 2) (i := .int .i64 ((ka : Nat) : Int)) rfl (by kernel_rfl) (by kernel_rfl) (ix44z (k := ka) (by omega))) ?_
            refine pl_take (.slice aP nP cP) rfl (by kernel_rfl) (by kernel_rfl) (by kernel_rfl) (ex_load rfl (by kernel_rfl) (ld34 ((hX225.cell ceP)))) ?_
            refine pl_take (.slice aP nP cP) rfl (by kernel_rfl) (by kernel_rfl) (by kernel_rfl) (by kernel_rfl) ?_
            refine pl_nil ?_
            refine qw_then ?_
            refine cw_clean [3, 5, 8, 14, 15, 17, 19, 34, 73, 74, 75, 83, 84, 85, 171, 172, 173] (ws' := [(3, .slice aS nS cS), (5, .int .i64 (i5 : Int)), (8, .pointer (some ⟨O1, 0, none⟩)), (14, .slice la24 t25 lc26), (15, .slice lB t33 cB), (17, .pointer (some ⟨O84, 0, none⟩)), (19, .slice aL nL cL), (34, .slice aP nP cP), (73, .slice (some ⟨O75, 0, none⟩) 2 2), (74, .int .i64 2), (75, .int .i64 (((ia : Nat) : Int) : Int)), (83, .slice (some ⟨O99, 0, none⟩) 3 3), (84, .int .i64 3), (85, .int .i64 (((ja : Nat) : Int) : Int)), (171, .slice (some ⟨O221, 0, none⟩) 2 2), (172, .int .i64 2), (173, .int .i64 (((ka : Nat) : Int) : Int))]) (by kernel_rfl) (fun L => ?_)
            refine cw_seq ?_
            refine cw_draw [(some 177, [17], []), (some 178, [19], []), (some 179, [34], []), (some 180, [177, 178, 179], [0, 1, 2]), (some 181, [17], []), (some 182, [19], []), (some 183, [34], []), (some 184, [181, 182, 183], [4, 5, 6, 3]), (some 185, [180, 184], [3, 7])] (fun w' => w'.cell? ⟨O84, 0, none⟩ = some (.slice aD nD cD)) (by kernel_rfl) (by kernel_rfl) (by kernel_rfl) (by kernel_rfl) ((calm_then (calm_block (calm_then (calm_then (calm_block (calm_then (calm_block (calm_then (calm_then (calm_block (calm_block (calm_then (calm_then (calm_block (calm_then calm_body)))))))))))))))) ((hX103.cell hbx)) (fun ops Q X229 hb hL hR hK => ?_)
            replace hE := hE.trans hb
            replace hX79 := hX79.trans hb
            replace hX103 := hX103.trans hb
            replace hX225 := hX225.trans hb
            have hs230 := hb.size
            clear hb
            refine wd_take 0 (.agg #[.slice aD nD cD]) hR rfl (by kernel_rfl) rfl (by kernel_rfl) (fun w hS => ex_load rfl (by kernel_rfl) (ld25 (hS))) ((hX103.cell hbx)) ?_
            refine wd_take 1 (.slice aL nL cL) hR rfl (by kernel_rfl) rfl (by kernel_rfl) (fun w _ => by kernel_rfl) ((hX103.cell hbx)) ?_
            refine wd_take 2 (.slice aP nP cP) hR rfl (by kernel_rfl) rfl (by kernel_rfl) (fun w _ => by kernel_rfl) ((hX103.cell hbx)) ?_
            refine wd_take 4 (.agg #[.slice aD nD cD]) hR rfl (by kernel_rfl) rfl (by kernel_rfl) (fun w hS => ex_load rfl (by kernel_rfl) (ld25 (hS))) ((hX103.cell hbx)) ?_
            refine wd_take 5 (.slice aL nL cL) hR rfl (by kernel_rfl) rfl (by kernel_rfl) (fun w _ => by kernel_rfl) ((hX103.cell hbx)) ?_
            refine wd_take 6 (.slice aP nP cP) hR rfl (by kernel_rfl) rfl (by kernel_rfl) (fun w _ => by kernel_rfl) ((hX103.cell hbx)) ?_
            refine wd_step 3 hR rfl (by kernel_rfl) (by kernel_rfl) (by kernel_rfl) (sn_call (f := 23) (args := #[.agg #[.slice aD nD cD], .slice aL nL cL, .slice aP nP cP]) (by kernel_rfl) ((Check_c _ _ _ _ aaD hX79 sL hX103 pP hX225 (hT.ext hE)).mono ?_))
            rintro e w231 ⟨rfl, hb⟩
            replace hE := hE.trans hb
            replace hX79 := hX79.trans hb
            replace hX103 := hX103.trans hb
            replace hX225 := hX225.trans hb
            have hs232 := hb.size
            clear hb
            refine ⟨_, rfl, (hX103.cell hbx), ?_⟩
            refine wd_step 7 hR rfl (by kernel_rfl) (by kernel_rfl) (by kernel_rfl) (sn_call (f := 24) (args := #[.agg #[.slice aD nD cD], .slice aL nL cL, .slice aP nP cP]) (by kernel_rfl) ((rCheck_c _ _ _ _ aaD hX79 sL hX103 pP hX225).mono ?_))
            rintro e w233 ⟨rfl, hb⟩
            replace hE := hE.trans hb
            replace hX79 := hX79.trans hb
            replace hX103 := hX103.trans hb
            replace hX225 := hX225.trans hb
            have hs234 := hb.size
            clear hb
            refine ⟨_, rfl, (hX103.cell hbx), ?_⟩
            refine wd_take 8 (.bool false) hR rfl (by kernel_rfl) rfl (by kernel_rfl) (fun w _ => ev_bool (show _ = Result.ok (Next.value (Value.bool ((checkB lD ss ps) != (checkB lD ss ps)))) _ from by kernel_rfl) (by simp)) ((hX103.cell hbx)) ?_
            refine wd_end hL hR hK (by kernel_rfl) ?_
            refine qw_then ?_
            refine cw_clean [3, 5, 8, 14, 15, 17, 19, 73, 74, 75, 83, 84, 85, 171, 172, 173, 185] (ws' := [(3, .slice aS nS cS), (5, .int .i64 (i5 : Int)), (8, .pointer (some ⟨O1, 0, none⟩)), (14, .slice la24 t25 lc26), (15, .slice lB t33 cB), (17, .pointer (some ⟨O84, 0, none⟩)), (19, .slice aL nL cL), (73, .slice (some ⟨O75, 0, none⟩) 2 2), (74, .int .i64 2), (75, .int .i64 (((ia : Nat) : Int) : Int)), (83, .slice (some ⟨O99, 0, none⟩) 3 3), (84, .int .i64 3), (85, .int .i64 (((ja : Nat) : Int) : Int)), (171, .slice (some ⟨O221, 0, none⟩) 2 2), (172, .int .i64 2), (173, .int .i64 (((ka : Nat) : Int) : Int)), (185, .bool false)]) (by kernel_rfl) (fun L => ?_)
            refine cw_f (by kernel_rfl) ?_
            refine cw_skip ?_
            refine qw_block ?_
            refine qw_then ?_
            refine cw_clean [3, 5, 8, 14, 15, 17, 19, 73, 74, 75, 83, 84, 85, 171, 172, 173] (ws' := [(3, .slice aS nS cS), (5, .int .i64 (i5 : Int)), (8, .pointer (some ⟨O1, 0, none⟩)), (14, .slice la24 t25 lc26), (15, .slice lB t33 cB), (17, .pointer (some ⟨O84, 0, none⟩)), (19, .slice aL nL cL), (73, .slice (some ⟨O75, 0, none⟩) 2 2), (74, .int .i64 2), (75, .int .i64 (((ia : Nat) : Int) : Int)), (83, .slice (some ⟨O99, 0, none⟩) 3 3), (84, .int .i64 3), (85, .int .i64 (((ja : Nat) : Int) : Int)), (171, .slice (some ⟨O221, 0, none⟩) 2 2), (172, .int .i64 2), (173, .int .i64 (((ka : Nat) : Int) : Int))]) (by kernel_rfl) (fun L => ?_)
            refine cw_plain ?_
            refine pl_take (.int .i64 (((ka + 1 : Nat) : Int) : Int)) rfl (by kernel_rfl) (by kernel_rfl) (by kernel_rfl) (ev_wrap (by kernel_rfl) (by omega) (by omega)) ?_
            refine pl_take (.int .i64 (((ka + 1 : Nat) : Int) : Int)) rfl (by kernel_rfl) (by kernel_rfl) (by kernel_rfl) (by kernel_rfl) ?_
            refine pl_nil ?_
            refine qw_round [3, 5, 8, 14, 15, 17, 19, 73, 74, 75, 83, 84, 85, 171, 172, 173] (ws' := [(3, .slice aS nS cS), (5, .int .i64 (i5 : Int)), (8, .pointer (some ⟨O1, 0, none⟩)), (14, .slice la24 t25 lc26), (15, .slice lB t33 cB), (17, .pointer (some ⟨O84, 0, none⟩)), (19, .slice aL nL cL), (73, .slice (some ⟨O75, 0, none⟩) 2 2), (74, .int .i64 2), (75, .int .i64 (((ia : Nat) : Int) : Int)), (83, .slice (some ⟨O99, 0, none⟩) 3 3), (84, .int .i64 3), (85, .int .i64 (((ja : Nat) : Int) : Int)), (171, .slice (some ⟨O221, 0, none⟩) 2 2), (172, .int .i64 2), (173, .int .i64 (((ka + 1 : Nat) : Int) : Int))]) (by kernel_rfl) _ ?_ ⟨(ka + 1), rfl, rfl, (Nat.le_trans hs226 (Nat.le_trans hs230 (Nat.le_trans hs232 hs234))), hE, hX79, hX103, hX225, by omega⟩
            omega
          ·
            refine cw_seq ?_
            refine cw_plain ?_
            refine pl_take (.bool false) rfl (by kernel_rfl) (by kernel_rfl) (by kernel_rfl) (ev_ndec (show _ = Result.ok (Next.value (Value.bool (decide ((((ka : Nat) : Int) : Int) < (2 : Int))))) _ from by kernel_rfl) (by omega)) ?_
            refine pl_nil ?_
            refine qw_then ?_
            refine cw_clean [3, 5, 8, 14, 15, 17, 19, 73, 74, 75, 83, 84, 85, 171, 172, 173, 174] (ws' := [(3, .slice aS nS cS), (5, .int .i64 (i5 : Int)), (8, .pointer (some ⟨O1, 0, none⟩)), (14, .slice la24 t25 lc26), (15, .slice lB t33 cB), (17, .pointer (some ⟨O84, 0, none⟩)), (19, .slice aL nL cL), (73, .slice (some ⟨O75, 0, none⟩) 2 2), (74, .int .i64 2), (75, .int .i64 (((ia : Nat) : Int) : Int)), (83, .slice (some ⟨O99, 0, none⟩) 3 3), (84, .int .i64 3), (85, .int .i64 (((ja : Nat) : Int) : Int)), (171, .slice (some ⟨O221, 0, none⟩) 2 2), (172, .int .i64 2), (173, .int .i64 (((ka : Nat) : Int) : Int)), (174, .bool false)]) (by kernel_rfl) (fun L => ?_)
            refine cw_seq ?_
            refine cw_f (by kernel_rfl) ?_
            refine cw_exit ?_
            refine qw_then_exit ?_
            refine qw_then_exit ?_
            refine qw_block_out ?_
            refine qw_then ?_
            refine cw_clean [3, 5, 8, 14, 15, 17, 19, 73, 74, 75, 83, 84, 85] (ws' := [(3, .slice aS nS cS), (5, .int .i64 (i5 : Int)), (8, .pointer (some ⟨O1, 0, none⟩)), (14, .slice la24 t25 lc26), (15, .slice lB t33 cB), (17, .pointer (some ⟨O84, 0, none⟩)), (19, .slice aL nL cL), (73, .slice (some ⟨O75, 0, none⟩) 2 2), (74, .int .i64 2), (75, .int .i64 (((ia : Nat) : Int) : Int)), (83, .slice (some ⟨O99, 0, none⟩) 3 3), (84, .int .i64 3), (85, .int .i64 (((ja : Nat) : Int) : Int))]) (by kernel_rfl) (fun L => ?_)
            refine cw_seq ?_
            have hX235 : Ext w227 w227 := Ext.refl _
            refine cw_plain ?_
            refine pl_take (.agg #[.slice aD nD cD]) rfl (by kernel_rfl) (by kernel_rfl) (by kernel_rfl) (ex_load rfl (by kernel_rfl) (ld25 ((hX103.cell hbx)))) ?_
            refine pl_take (.slice aL nL cL) rfl (by kernel_rfl) (by kernel_rfl) (by kernel_rfl) (by kernel_rfl) ?_
            refine pl_step rfl (by kernel_rfl) (by kernel_rfl) (by kernel_rfl) (sn_call (f := 25) (args := #[.agg #[.slice aD nD cD], .slice aL nL cL]) (by kernel_rfl) ((few_p hFL hfq hfc (Fewest_c _ _ _ aaD hX79 sL hX103 (hT.ext hE))).mono ?_))
            rintro e w239 ⟨fa236, fk237, rfl, hI238, hb⟩
            replace hE := hE.trans hb
            replace hX79 := hX79.trans hb
            replace hX103 := hX103.trans hb
            replace hX225 := hX225.trans hb
            replace hX235 := hX235.trans hb
            have hs240 := hb.size
            clear hb
            have hX241 : Ext w239 w239 := Ext.refl _
            refine ⟨_, rfl, ?_⟩
            refine pl_take (.tuple #[.slice fa236 FL.length fk237, .bool fq, .int .i64 (fc : Int)]) rfl (by kernel_rfl) (by kernel_rfl) (by kernel_rfl) (by kernel_rfl) ?_
            refine pl_take (.slice fa236 FL.length fk237) rfl (by kernel_rfl) (by kernel_rfl) (by kernel_rfl) (by kernel_rfl) ?_
            refine pl_take (.bool fq) rfl (by kernel_rfl) (by kernel_rfl) (by kernel_rfl) (by kernel_rfl) ?_
            refine pl_take (.int .i64 (fc : Int)) rfl (by kernel_rfl) (by kernel_rfl) (by kernel_rfl) (by kernel_rfl) ?_
            refine pl_take (.slice fa236 FL.length fk237) rfl (by kernel_rfl) (by kernel_rfl) (by kernel_rfl) (by kernel_rfl) ?_
            refine pl_take (.bool fq) rfl (by kernel_rfl) (by kernel_rfl) (by kernel_rfl) (by kernel_rfl) ?_
            refine pl_take (.int .i64 (fc : Int)) rfl (by kernel_rfl) (by kernel_rfl) (by kernel_rfl) (by kernel_rfl) ?_
            refine pl_nil ?_
            refine qw_then ?_
            refine cw_clean [3, 5, 8, 14, 15, 17, 19, 35, 36, 37, 73, 74, 75, 83, 84, 85] (ws' := [(3, .slice aS nS cS), (5, .int .i64 (i5 : Int)), (8, .pointer (some ⟨O1, 0, none⟩)), (14, .slice la24 t25 lc26), (15, .slice lB t33 cB), (17, .pointer (some ⟨O84, 0, none⟩)), (19, .slice aL nL cL), (35, .slice fa236 FL.length fk237), (36, .bool fq), (37, .int .i64 (fc : Int)), (73, .slice (some ⟨O75, 0, none⟩) 2 2), (74, .int .i64 2), (75, .int .i64 (((ia : Nat) : Int) : Int)), (83, .slice (some ⟨O99, 0, none⟩) 3 3), (84, .int .i64 3), (85, .int .i64 (((ja : Nat) : Int) : Int))]) (by kernel_rfl) (fun L => ?_)
            refine cw_seq ?_
            refine cw_plain ?_
            refine pl_take (.agg #[.slice aD nD cD]) rfl (by kernel_rfl) (by kernel_rfl) (by kernel_rfl) (ex_load rfl (by kernel_rfl) (ld25 ((hX103.cell hbx)))) ?_
            refine pl_take (.slice aL nL cL) rfl (by kernel_rfl) (by kernel_rfl) (by kernel_rfl) (by kernel_rfl) ?_
            refine pl_step rfl (by kernel_rfl) (by kernel_rfl) (by kernel_rfl) (sn_call (f := 26) (args := #[.agg #[.slice aD nD cD], .slice aL nL cL]) (by kernel_rfl) ((few_p hFL hfq hfc (rFewest_c _ _ _ aaD hX79 sL hX103)).mono ?_))
            rintro e w245 ⟨fa242, fk243, rfl, hI244, hb⟩
            replace hE := hE.trans hb
            replace hX79 := hX79.trans hb
            replace hX103 := hX103.trans hb
            replace hX225 := hX225.trans hb
            replace hX235 := hX235.trans hb
            replace hX241 := hX241.trans hb
            have hs246 := hb.size
            clear hb
            have hX247 : Ext w245 w245 := Ext.refl _
            refine ⟨_, rfl, ?_⟩
            refine pl_take (.tuple #[.slice fa242 FL.length fk243, .bool fq, .int .i64 (fc : Int)]) rfl (by kernel_rfl) (by kernel_rfl) (by kernel_rfl) (by kernel_rfl) ?_
            refine pl_take (.slice fa242 FL.length fk243) rfl (by kernel_rfl) (by kernel_rfl) (by kernel_rfl) (by kernel_rfl) ?_
            refine pl_take (.bool fq) rfl (by kernel_rfl) (by kernel_rfl) (by kernel_rfl) (by kernel_rfl) ?_
            refine pl_take (.int .i64 (fc : Int)) rfl (by kernel_rfl) (by kernel_rfl) (by kernel_rfl) (by kernel_rfl) ?_
            refine pl_take (.slice fa242 FL.length fk243) rfl (by kernel_rfl) (by kernel_rfl) (by kernel_rfl) (by kernel_rfl) ?_
            refine pl_take (.bool fq) rfl (by kernel_rfl) (by kernel_rfl) (by kernel_rfl) (by kernel_rfl) ?_
            refine pl_take (.int .i64 (fc : Int)) rfl (by kernel_rfl) (by kernel_rfl) (by kernel_rfl) (by kernel_rfl) ?_
            refine pl_nil ?_
            refine qw_then ?_
            refine cw_clean [3, 5, 8, 14, 15, 17, 35, 36, 37, 38, 39, 40, 73, 74, 75, 83, 84, 85] (ws' := [(3, .slice aS nS cS), (5, .int .i64 (i5 : Int)), (8, .pointer (some ⟨O1, 0, none⟩)), (14, .slice la24 t25 lc26), (15, .slice lB t33 cB), (17, .pointer (some ⟨O84, 0, none⟩)), (35, .slice fa236 FL.length fk237), (36, .bool fq), (37, .int .i64 (fc : Int)), (38, .slice fa242 FL.length fk243), (39, .bool fq), (40, .int .i64 (fc : Int)), (73, .slice (some ⟨O75, 0, none⟩) 2 2), (74, .int .i64 2), (75, .int .i64 (((ia : Nat) : Int) : Int)), (83, .slice (some ⟨O99, 0, none⟩) 3 3), (84, .int .i64 3), (85, .int .i64 (((ja : Nat) : Int) : Int))]) (by kernel_rfl) (fun L => ?_)
            refine cw_seq ?_
            refine cw_plain ?_
            refine pl_take (.bool fq) rfl (by kernel_rfl) (by kernel_rfl) (by kernel_rfl) (by kernel_rfl) ?_
            refine pl_take (.bool fq) rfl (by kernel_rfl) (by kernel_rfl) (by kernel_rfl) (by kernel_rfl) ?_
            refine pl_take (.bool false) rfl (by kernel_rfl) (by kernel_rfl) (by kernel_rfl) (ev_bool (show _ = Result.ok (Next.value (Value.bool (fq != fq))) _ from by kernel_rfl) (by simp)) ?_
            refine pl_take (.bool false) rfl (by kernel_rfl) (by kernel_rfl) (by kernel_rfl) (by kernel_rfl) ?_
            refine pl_take (.int .i64 (fc : Int)) rfl (by kernel_rfl) (by kernel_rfl) (by kernel_rfl) (by kernel_rfl) ?_
            refine pl_take (.int .i64 (fc : Int)) rfl (by kernel_rfl) (by kernel_rfl) (by kernel_rfl) (by kernel_rfl) ?_
            refine pl_take (.bool false) rfl (by kernel_rfl) (by kernel_rfl) (by kernel_rfl) (ev_nne (show _ = Result.ok (Next.value (Value.bool ((fc : Int) != (fc : Int)))) _ from by kernel_rfl) (rfl)) ?_
            refine pl_take (.bool false) rfl (by kernel_rfl) (by kernel_rfl) (by kernel_rfl) (by kernel_rfl) ?_
            refine pl_take (.bool false) rfl (by kernel_rfl) (by kernel_rfl) (by kernel_rfl) (by kernel_rfl) ?_
            refine pl_take (.slice fa236 FL.length fk237) rfl (by kernel_rfl) (by kernel_rfl) (by kernel_rfl) (by kernel_rfl) ?_
            refine pl_take (.slice fa242 FL.length fk243) rfl (by kernel_rfl) (by kernel_rfl) (by kernel_rfl) (by kernel_rfl) ?_
            refine pl_step rfl (by kernel_rfl) (by kernel_rfl) (by kernel_rfl) (sn_call (f := 27) (args := #[.slice fa236 FL.length fk237, .slice fa242 FL.length fk243]) (by kernel_rfl) ((rInts_t _ _ _ hI238 hX241 hI244 (Ext.refl _) (by simp [intsN]) (by omega)).mono ?_))
            rintro e w248 ⟨rfl, hb⟩
            replace hE := hE.trans hb
            replace hX79 := hX79.trans hb
            replace hX103 := hX103.trans hb
            replace hX225 := hX225.trans hb
            replace hX235 := hX235.trans hb
            replace hX241 := hX241.trans hb
            replace hX247 := hX247.trans hb
            have hs249 := hb.size
            clear hb
            refine ⟨_, rfl, ?_⟩
            refine pl_take (.bool false) rfl (by kernel_rfl) (by kernel_rfl) (by kernel_rfl) (by kernel_rfl) ?_
            refine pl_take (.bool false) rfl (by kernel_rfl) (by kernel_rfl) (by kernel_rfl) (by kernel_rfl) ?_
            refine pl_nil ?_
            refine qw_then ?_
            refine cw_clean [3, 5, 8, 14, 15, 17, 73, 74, 75, 83, 84, 85, 214] (ws' := [(3, .slice aS nS cS), (5, .int .i64 (i5 : Int)), (8, .pointer (some ⟨O1, 0, none⟩)), (14, .slice la24 t25 lc26), (15, .slice lB t33 cB), (17, .pointer (some ⟨O84, 0, none⟩)), (73, .slice (some ⟨O75, 0, none⟩) 2 2), (74, .int .i64 2), (75, .int .i64 (((ia : Nat) : Int) : Int)), (83, .slice (some ⟨O99, 0, none⟩) 3 3), (84, .int .i64 3), (85, .int .i64 (((ja : Nat) : Int) : Int)), (214, .bool false)]) (by kernel_rfl) (fun L => ?_)
            refine cw_f (by kernel_rfl) ?_
            refine cw_skip ?_
            refine qw_block ?_
            refine qw_then ?_
            refine cw_plain ?_
            refine pl_take (.int .i64 (((ja + 1 : Nat) : Int) : Int)) rfl (by kernel_rfl) (by kernel_rfl) (by kernel_rfl) (ev_wrap (by kernel_rfl) (by omega) (by omega)) ?_
            refine pl_take (.int .i64 (((ja + 1 : Nat) : Int) : Int)) rfl (by kernel_rfl) (by kernel_rfl) (by kernel_rfl) (by kernel_rfl) ?_
            refine pl_nil ?_
            refine qw_round [3, 5, 8, 14, 15, 17, 73, 74, 75, 83, 84, 85] (ws' := [(3, .slice aS nS cS), (5, .int .i64 (i5 : Int)), (8, .pointer (some ⟨O1, 0, none⟩)), (14, .slice la24 t25 lc26), (15, .slice lB t33 cB), (17, .pointer (some ⟨O84, 0, none⟩)), (73, .slice (some ⟨O75, 0, none⟩) 2 2), (74, .int .i64 2), (75, .int .i64 (((ia : Nat) : Int) : Int)), (83, .slice (some ⟨O99, 0, none⟩) 3 3), (84, .int .i64 3), (85, .int .i64 (((ja + 1 : Nat) : Int) : Int))]) (by kernel_rfl) _ ?_ ⟨(ja + 1), rfl, rfl, (Nat.le_trans hs104 (Nat.le_trans hs117 (Nat.le_trans hs120 (Nat.le_trans hs124 (Nat.le_trans hs127 (Nat.le_trans hs129 (Nat.le_trans hs140 (Nat.le_trans hs143 (Nat.le_trans hs147 (Nat.le_trans hs150 (Nat.le_trans hs152 (Nat.le_trans hs162 (Nat.le_trans hs166 (Nat.le_trans hs169 (Nat.le_trans hs179 (Nat.le_trans hs183 (Nat.le_trans hs186 (Nat.le_trans hs189 (Nat.le_trans hs191 (Nat.le_trans hs193 (Nat.le_trans hs195 (Nat.le_trans hs197 (Nat.le_trans hs199 (Nat.le_trans hs203 (Nat.le_trans hs212 (Nat.le_trans hs214 (Nat.le_trans hs223 (Nat.le_trans hs226 (Nat.le_trans hs240 (Nat.le_trans hs246 hs249)))))))))))))))))))))))))))))), hE, hX79, hX103, by omega⟩
            omega
      ·
        refine cw_seq ?_
        refine cw_plain ?_
        refine pl_take (.bool false) rfl (by kernel_rfl) (by kernel_rfl) (by kernel_rfl) (ev_ndec (show _ = Result.ok (Next.value (Value.bool (decide ((((ja : Nat) : Int) : Int) < (3 : Int))))) _ from by kernel_rfl) (by omega)) ?_
        refine pl_nil ?_
        refine qw_then ?_
        refine cw_seq ?_
        refine cw_f (by kernel_rfl) ?_
        refine cw_exit ?_
        refine qw_then_exit ?_
        refine qw_then_exit ?_
        refine qw_block_out ?_
        refine qw_block ?_
        refine qw_then ?_
        refine cw_plain ?_
        refine pl_take (.int .i64 (((ia + 1 : Nat) : Int) : Int)) rfl (by kernel_rfl) (by kernel_rfl) (by kernel_rfl) (ev_wrap (by kernel_rfl) (by omega) (by omega)) ?_
        refine pl_take (.int .i64 (((ia + 1 : Nat) : Int) : Int)) rfl (by kernel_rfl) (by kernel_rfl) (by kernel_rfl) (by kernel_rfl) ?_
        refine pl_nil ?_
        refine qw_round [3, 5, 8, 14, 15, 73, 74, 75] (ws' := [(3, .slice aS nS cS), (5, .int .i64 (i5 : Int)), (8, .pointer (some ⟨O1, 0, none⟩)), (14, .slice la24 t25 lc26), (15, .slice lB t33 cB), (73, .slice (some ⟨O75, 0, none⟩) 2 2), (74, .int .i64 2), (75, .int .i64 (((ia + 1 : Nat) : Int) : Int))]) (by kernel_rfl) _ ?_ ⟨(ia + 1), rfl, rfl, (Nat.le_trans hs80 (Nat.le_trans hs86 (Nat.le_trans hs89 (Nat.le_trans hs97 (Nat.le_trans hs101 hs104))))), hE, hX79, by omega⟩
        omega
    ·
      refine cw_seq ?_
      refine cw_plain ?_
      refine pl_take (.bool false) rfl (by kernel_rfl) (by kernel_rfl) (by kernel_rfl) (ev_ndec (show _ = Result.ok (Next.value (Value.bool (decide ((((ia : Nat) : Int) : Int) < (2 : Int))))) _ from by kernel_rfl) (by omega)) ?_
      refine pl_nil ?_
      refine qw_then ?_
      refine cw_seq ?_
      refine cw_f (by kernel_rfl) ?_
      refine cw_exit ?_
      refine qw_then_exit ?_
      refine qw_then_exit ?_
      refine qw_block_out ?_
      refine qw_then ?_
      refine cw_seq ?_
      refine cw_plain ?_
      refine pl_take (.bool true) rfl (by kernel_rfl) (by kernel_rfl) (by kernel_rfl) (by kernel_rfl) ?_
      refine pl_nil ?_
      refine qw_then ?_
      refine cw_ret ?_
      refine qw_ret [.bool true] rfl ⟨(by kernel_rfl), trivial⟩ ?_
      exact ⟨rfl, hE⟩

end Go.Proofs.YtglfoglkdbbmmaaDoor

/- The statement CoverMatchesReference: for every input the law returns true, and every argument reads as it read before; the two tables of package math/bits that the row lists are tied to the program's text. -/
namespace Go.Proofs.YtglfoglkdbbmmaaDoor
open Go.ChangeShapes Go.WideShapes Go.ChangeAt Go.RowKit

set_option maxRecDepth 100000 in
theorem CoverMatchesReference_lifted (os : Os) (started : os.Started) (H : Type) (enc : TypeId × Value → H) :
    ReturnsInHanded {} Tryd.checked os 3 .any (fun w args => (Rows.coverMatchesReferenceSpec.pre enc Tryd.prog Tryd.f3 [] false w args ∧ laidMetH Tryd.prog laidTabs w) ∧ sizedMet enc Tryd.prog Tryd.f3 (OpenSpec.ofChange Rows.coverMatchesReferenceSpec) false w args)
      (Rows.coverMatchesReferenceSpec.post enc Tryd.prog Tryd.f3 false true false false) := by
  refine returnsInHanded_of_change_and (C := Tryd.checked) (X := fun w _ => laidMetH Tryd.prog laidTabs w) (fun _ _ _ hh h => h.of_heap hh) own started (by kernel_rfl) Tryd.func3
    (ChangeSpec.witness_shaped (enc := enc) (C := Tryd.checked) (os := os) (X := fun w _ => laidMetH Tryd.prog laidTabs w) false (World.doorLaid Tryd.prog 19 os) #[.slice none 0 0, .slice none 0 0, .agg #[.slice none 0 0], .slice none 0 0, .agg #[.slice none 0 0, .slice none 0 0], .int .i64 0] 8 rfl (World.shaped_of_RefB (by kernel_rfl) (by kernel_rfl)) (by kernel_rfl) (by kernel_rfl) (by kernel_rfl) (door_met os _)) ?_
  intro W base args ds gs before hval0 hW _ hsz hL _
  have hval : ∀ (j : Nat) t v, Tryd.f3.params[j]? = some t → args[j]? = some v → Value.okWide Tryd.prog W .any base t v := hval0
  have hW' := hW
  obtain ⟨p, q, hA0, hV, rfl, hfz, hnd⟩ := hW
  have hA : DataW.TrodAll enc Tryd.prog W 0 (fun _ => true) true Tryd.f3.params.toList args.toList ds p := hA0
  rw [Tryd.params3] at hA hval
  obtain ⟨v0, vs0, d0, ds0, p0, q0, hargs, rfl, rfl, h0, r0⟩ := trodAll_cons hA
  obtain ⟨v1, vs1, d1, ds1, p1, q1, rfl, rfl, rfl, h1, r1⟩ := trodAll_cons r0
  obtain ⟨v2, vs2, d2, ds2, p2, q2, rfl, rfl, rfl, h2, r2⟩ := trodAll_cons r1
  obtain ⟨v3, vs3, d3, ds3, p3, q3, rfl, rfl, rfl, h3, r3⟩ := trodAll_cons r2
  obtain ⟨v4, vs4, d4, ds4, p4, q4, rfl, rfl, rfl, h4, r4⟩ := trodAll_cons r3
  obtain ⟨v5, vs5, d5, ds5, p5, q5, rfl, rfl, rfl, h5, r5⟩ := trodAll_cons r4
  obtain ⟨rfl, rfl, rfl⟩ := trodAll_nil r5
  obtain rfl : args = #[v0, v1, v2, v3, v4, v5] := by cases args; simp_all
  obtain ⟨rfl, rfl⟩ := trodVars_none hV
  have k0 := h0
  have lt0 : ∀ x ∈ p0, x.block < W.heap.size := by obtain ⟨m, hm⟩ := k0; exact DataW.trod_lt m _ _ _ hm
  have op0 := open_quads (hval 0 _ v0 rfl rfl) h0
  have k1 := h1
  have lt1 : ∀ x ∈ p1, x.block < W.heap.size := by obtain ⟨m, hm⟩ := k1; exact DataW.trod_lt m _ _ _ hm
  have op1 := open_quads (hval 1 _ v1 rfl rfl) h1
  have k2 := h2
  have lt2 : ∀ x ∈ p2, x.block < W.heap.size := by obtain ⟨m, hm⟩ := k2; exact DataW.trod_lt m _ _ _ hm
  have op2 := open_area (hval 2 _ v2 rfl rfl) h2
  have k3 := h3
  have lt3 : ∀ x ∈ p3, x.block < W.heap.size := by obtain ⟨m, hm⟩ := k3; exact DataW.trod_lt m _ _ _ hm
  have op3 := open_strips (hval 3 _ v3 rfl rfl) h3
  have k4 := h4
  have lt4 : ∀ x ∈ p4, x.block < W.heap.size := by obtain ⟨m, hm⟩ := k4; exact DataW.trod_lt m _ _ _ hm
  have op4 := open_strip (hval 4 _ v4 rfl rfl) h4
  obtain ⟨a5, rfl, rfl, rfl, w5⟩ := open_int Tryd.underlying3 (hval 5 3 v5 rfl rfl) h5
  clear hA0 hval0
  refine (CoverMatchesReference_walk W v0 op0 v1 op1 v2 op2 v3 op3 v4 op4 a5 (isI_of_wf w5) (tab_of_laid hL)).mono fun e W' ⟨he, hE⟩ => ?_
  subst he
  have bel : Below W.heap.size W W' := hE
  exact ⟨_, rfl, _, _, _, [], _, [], hW', trodAll_mk1 (shut_bool Tryd.underlying4 _), (trodAll_cons_mk (Below.trod laidOut (by kernel_rfl) (of_decide_eq_true (by kernel_rfl)) k0 bel lt0) (trodAll_cons_mk (Below.trod laidOut (by kernel_rfl) (of_decide_eq_true (by kernel_rfl)) k1 bel lt1) (trodAll_cons_mk (Below.trod laidOut (by kernel_rfl) (of_decide_eq_true (by kernel_rfl)) k2 bel lt2) (trodAll_cons_mk (Below.trod laidOut (by kernel_rfl) (of_decide_eq_true (by kernel_rfl)) k3 bel lt3) (trodAll_cons_mk (Below.trod laidOut (by kernel_rfl) (of_decide_eq_true (by kernel_rfl)) k4 bel lt4) (trodAll_cons_mk (shut_int Tryd.underlying3 w5) trodAll_mk0)))))), rfl, bel.frame _, fun h => by cases h⟩

theorem CoverMatchesReference_over : Rows.CoverMatchesReferenceSaid :=
  OpenClaim.holds_of_wide 3 Tryd.f3 rfl rfl rfl rfl rfl rfl rfl ⟨rfl, rfl, rfl, rfl, rfl⟩ rfl rfl rfl rfl rfl (by kernel_rfl) Tryd.func3 (by kernel_rfl)
    (of_decide_eq_true (by kernel_rfl)) (by unfold Func.isWrapper; first | (rw [if_pos (by decide +kernel)]; kernel_rfl) | (rw [if_neg (by decide +kernel)]; exact ⟨rfl, rfl⟩))
    (fun os started H enc _ => CoverMatchesReference_lifted os started H enc)

/-- The tied card. -/
theorem CoverMatchesReference_holds : Rows.CoverMatchesReferenceCardSaid :=
  Claim7.holds_tied_plain_at .later [] [.data, .data] true (true, "f3c7cfc24bd30fe2366dd98a5567a6f2f4e716248d39bc96b650dc6c6e3eb102") false
    CoverMatchesReference_over (fun _ h => by cases h) (by kernel_rfl) (fun _ h => by cases h) coverMatchesReference_row_tie rfl ⟨rfl, rfl⟩ (by kernel_rfl) rfl
    (fun f fn hf hfn => by
      obtain rfl : f = 3 := Option.some.inj ((show Tryd.prog.funcNamed "nadir/nadirlaw16.CoverMatchesReference" = some 3 by kernel_rfl).symm.trans hf) |>.symm
      obtain rfl : fn = Tryd.f3 := (Option.some.inj (Tryd.func3.symm.trans hfn)).symm
      exact ⟨by kernel_rfl, fun j t ht => by
        rw [Tryd.params3] at ht
        have hm : t ∈ [22, 22, 25, 26, 28, 3] := by simpa using Array.mem_of_getElem? ht
        have hall : ([22, 22, 25, 26, 28, 3].all fun u => !Tryd.prog.wantsStandIn u) = true := by kernel_rfl
        exact (show Tryd.prog.wantsStandIn t = false by simpa using List.all_eq_true.1 hall t hm)⟩)
    (by kernel_rfl)
#print axioms CoverMatchesReference_holds
end Go.Proofs.YtglfoglkdbbmmaaDoor
