/- What the laws of chapter 16 call: in the forms that their walks want. -/
import Derived.Test.YtglfoglkdbbmmaaDoorSC
import Derived.Test.YtglfoglkdbbmmaaDoorLX
namespace Go.Proofs.YtglfoglkdbbmmaaDoor
namespace Globe

/-- An area, and further ones put to it. -/
def uniL : List Int → List (List Int) → List Int
  | r, [] => r
  | r, p :: ps => uniL (unionL r p) ps
theorem uni_snoc : ∀ (ps : List (List Int)) (r p : List Int), uniL r (ps ++ [p]) = unionL (uniL r ps) p
  | [], _, _ => rfl
  | q :: ps, r, p => uni_snoc ps (unionL r q) p
theorem uni_valid : ∀ (ps : List (List Int)) {r : List Int}, validL r = true → (∀ p ∈ ps, validL p = true) → validL (uniL r ps) = true
  | [], _, h, _ => h
  | q :: ps, _, h, hp => uni_valid ps (union_valid h (hp q (by simp))) (fun p hp' => hp p (by simp [hp']))
theorem has_uni {x y : Nat} (hy : y < 24) : ∀ (ps : List (List Int)) (r : List Int), hasL (uniL r ps) x y = (hasL r x y || ps.any fun p => hasL p x y)
  | [], r => by simp [uniL]
  | q :: ps, r => by rw [uniL, has_uni hy ps, has_union hy, List.any_cons, Bool.or_assoc]
theorem has_pieces {x y : Nat} (hy : y < 24) : ∀ (ss : List (List Int)) (a : List Int), (hasL (leftL a ss) x y || (piecesL a ss).any fun p => hasL p x y) = hasL a x y
  | [], a => by simp [leftL, piecesL]
  | s :: ss, a => by
    rw [leftL, piecesL, List.any_cons, has_meet hy]
    have := has_pieces (x := x) hy ss (lessL a s)
    rw [has_less hy] at this
    rw [← Bool.or_assoc, Bool.or_comm (hasL (leftL (lessL a s) ss) x y), Bool.or_assoc, this]
    cases hasL a x y <;> cases hasL s x y <;> rfl
theorem uni_pieces {a : List Int} (ha : validL a = true) (ss : List (List Int)) : uniL (leftL a ss) (piecesL a ss) = a :=
  ext_has (uni_valid _ (left_valid ss ha) (pieces_valid ss ha)) ha fun x y _ hy => by rw [has_uni hy, has_pieces hy]
/-- How many cells areas have together. -/
def sumC : List (List Int) → Nat
  | [] => 0
  | p :: ps => (cellsTo p 24).length + sumC ps
theorem sum_snoc : ∀ (ps : List (List Int)) (p : List Int), sumC (ps ++ [p]) = sumC ps + (cellsTo p 24).length
  | [], p => by simp [sumC]
  | q :: ps, p => by show _ + sumC (ps ++ [p]) = _; rw [sum_snoc ps p, sumC]; omega
theorem sum_pieces : ∀ (ss : List (List Int)) (a : List Int), (cellsTo (leftL a ss) 24).length + sumC (piecesL a ss) = (cellsTo a 24).length
  | [], a => by simp [leftL, piecesL, sumC]
  | s :: ss, a => by
    have h1 := sum_pieces ss (lessL a s)
    have h2 := count_less a s
    rw [leftL, piecesL, sumC]; omega
theorem sum_le : ∀ (ps : List (List Int)), sumC ps ≤ ps.length * 1152
  | [] => by simp [sumC]
  | p :: ps => by
    have h1 := sum_le ps
    have h2 := cellsTo_len p 24
    rw [sumC, List.length_cons]; omega
theorem piece_in : ∀ (ss : List (List Int)) {a : List Int}, validL a = true → (∀ s ∈ ss, validL s = true) → ∀ {i : Nat} {p s : List Int}, (piecesL a ss)[i]? = some p → ss[i]? = some s → containsB s p = true
  | s :: ss, a, ha, hs, 0, p, q, hp, hq => by
    simp [piecesL] at hp hq
    subst hp hq
    exact contains_meet_r ha (hs _ (by simp))
  | s :: ss, a, ha, hs, i + 1, p, q, hp, hq => piece_in ss (less_valid ha) (fun t ht => hs t (by simp [ht])) (i := i) (by simpa [piecesL] using hp) (by simpa using hq)
  | [], _, _, _, _, _, _, _, hq => by simp at hq

end Globe

open Go.RowKit

def RetS2 (w : World) (e : Ending) (w' : World) : Prop :=
  ∃ (ss : List (List Int × List Int)) (t : Nat) (a : Option Addr) (c : Nat), e = .returned (.slice a t c) ∧ StripsAt w' a t ss ∧ Globe.stripsOk ss = true ∧ t ≤ 9 ∧ Ext w w'
theorem Strips_s {w0 : World} {a : Option Addr} {n c : Nat} {q : Nat → Nat → Int} (w : World) (h : QAt w0 a n q) (hE0 : Ext w0 w) (hnc : n ≤ c) (hc : c ≤ 9223372036854775807) :
    Calls Tryd.prog 12 #[.slice a n c] w (RetS2 w) :=
  (Strips_c w h hE0 hnc hc).mono fun e w' ⟨a', c', he, hS, hE⟩ => by
    rw [stripsL_len] at he hS
    exact ⟨_, _, a', c', he, hS, stripsL_ok q (by omega), by omega, hE⟩
def DecRes2 (w : World) (n : Nat) (L : List Int) (Ss : List (List Int)) (e : Ending) (w' : World) : Prop :=
  ∃ (a : Option Addr) (c B o k : Nat), e = .returned (.tuple #[.slice a n c, .agg #[.slice (some ⟨B, o, none⟩) 24 k], .int .i64 0]) ∧ n ≤ c ∧ AreasAt w' a n (Globe.piecesL L Ss) ∧ VA w' B o (Globe.leftL L Ss) ∧ Ext w w'
theorem Decompose_s {w1 w2 : World} {a : Option Addr} {n : Nat} {ss : List (List Int × List Int)} {b o : Nat} (c k : Nat) {l : List Int} (w : World) (hl : VA w1 b o l) (e1 : Ext w1 w) (h : StripsAt w2 a n ss) (e2 : Ext w2 w) (hok : Globe.stripsOk ss = true) :
    Calls Tryd.prog 17 #[.agg #[.slice (some ⟨b, o, none⟩) 24 k], .slice a n c] w (DecRes2 w n l (ss.map fun s => s.1)) :=
  (Decompose_v c k w hl e1 h e2 hok).mono fun e w' ⟨a', c', B, o', k', he, hn, hA, hv, hE⟩ => by
    rw [List.length_map, h.1] at he hn hA
    exact ⟨a', c', B, o', k', he, hn, hA, hv, hE⟩
theorem sures_ok {ss : List (List Int × List Int)} (hok : Globe.stripsOk ss = true) : ∀ s ∈ ss.map (fun s => s.1), Globe.validL s = true := by
  intro s hs
  obtain ⟨z, hz, rfl⟩ := List.mem_map.1 hs
  exact (Globe.stripOk_v ((Globe.stripsOk_t.1 hok).2 z hz)).1
theorem cans_ok {ss : List (List Int × List Int)} (hok : Globe.stripsOk ss = true) : ∀ s ∈ ss.map (fun s => s.2), Globe.validL s = true := by
  intro s hs
  obtain ⟨z, hz, rfl⟩ := List.mem_map.1 hs
  exact (Globe.stripOk_v ((Globe.stripsOk_t.1 hok).2 z hz)).2.1
theorem Contains_r {w1 w2 : World} {b1 o1 b2 o2 : Nat} (c1 c2 : Nat) {l1 l2 : List Int} {r : Bool} (w : World) (h1 : VA w1 b1 o1 l1) (e1 : Ext w1 w) (h2 : VA w2 b2 o2 l2) (e2 : Ext w2 w) (hr : Globe.containsB l1 l2 = r) :
    Calls Tryd.prog 32 #[.agg #[.slice (some ⟨b1, o1, none⟩) 24 c1], .agg #[.slice (some ⟨b2, o2, none⟩) 24 c2]] w fun e w' => e = .returned (.bool r) ∧ Ext w w' := hr ▸ Contains_v c1 c2 w h1 e1 h2 e2
theorem rSame_r {w1 w2 : World} {b1 o1 b2 o2 : Nat} (c1 c2 : Nat) {l1 l2 : List Int} {r : Bool} (w : World) (h1 : VA w1 b1 o1 l1) (e1 : Ext w1 w) (h2 : VA w2 b2 o2 l2) (e2 : Ext w2 w) (hr : decide (l1 = l2) = r) :
    Calls Tryd.prog 21 #[.agg #[.slice (some ⟨b1, o1, none⟩) 24 c1], .agg #[.slice (some ⟨b2, o2, none⟩) 24 c2]] w fun e w' => e = .returned (.bool r) ∧ Ext w w' := hr ▸ rSame_c c1 c2 w h1.aa e1 h2.aa e2

end Go.Proofs.YtglfoglkdbbmmaaDoor
