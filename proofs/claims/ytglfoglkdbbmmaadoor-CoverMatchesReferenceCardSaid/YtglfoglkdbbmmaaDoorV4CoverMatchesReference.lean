/- Part 4 of what the proof of CoverMatchesReference stands on. -/
import Derived.Test.YtglfoglkdbbmmaaDoorV3CoverMatchesReference
import Derived.OwnWalk
/- Lists of strips and of areas of one's own. -/
namespace Go.Proofs.YtglfoglkdbbmmaaDoor
open Go.RowKit

/-- A strip in two cells. -/
def stripR : Rep (List Int × List Int) where
  rel w c x F := ∃ b o k b' o' k', c = [.slice (some ⟨b, o, none⟩) 24 k, .slice (some ⟨b', o', none⟩) 24 k'] ∧ VA w b o x.1 ∧ VA w b' o' x.2 ∧ F = [b, b']
  keep := by
    rintro w w' c x F ⟨b, o, k, b', o', k', rfl, hv, hv', rfl⟩ h
    exact ⟨b, o, k, b', o', k', rfl, ⟨fun i hi => h b (by simp) _ _ (hv.1 i hi), hv.2⟩, ⟨fun i hi => h b' (by simp) _ _ (hv'.1 i hi), hv'.2⟩, rfl⟩
  lt := by
    rintro w c x F ⟨b, o, k, b', o', k', rfl, hv, hv', rfl⟩ d hd
    rcases List.mem_cons.1 hd with rfl | hd
    · exact hv.lt
    · rw [List.mem_singleton.1 hd]; exact hv'.lt
theorem own_cell {w : World} {base : Nat} {e : TypeId} {size g n cap : Nat} {xs : List Value} (h : w.ownsRow base e size (.slice (some ⟨g, 0, none⟩) n cap) n xs) {j : Nat} {u : Value} (hj : j < n * size) (hu : xs[j]? = some u) : w.cell? ⟨g, 0 + j, none⟩ = some u := by
  rw [Nat.zero_add, h.cellAt j hj]; exact hu
/-- Strips of one's own are strips. -/
theorem OwnL.strips {n₀ : Nat} {e : TypeId} {w : World} {a : Option Addr} {n c : Nat} {l : List (List Int × List Int)} (h : OwnL stripR n₀ e 2 (.slice a n c) w l) (hl : l.length = n) (hn : n ≤ 140737488355328) : StripsAt w a n l := by
  subst hl
  obtain ⟨cs, h1, h2, h3, h4⟩ := h
  refine ⟨rfl, hn, ?_⟩
  rcases h3.2 with ⟨_, q⟩ | ⟨g, cap, cur, hv, _⟩
  · exact .inl q
  · cases hv
    refine .inr ⟨g, 0, rfl, fun i s hs => ?_⟩
    have hi := (List.getElem?_eq_some_iff.1 hs).1
    obtain ⟨d, hd⟩ : ∃ d, cs[i]? = some d := ⟨_, List.getElem?_eq_getElem (by rw [h1]; exact hi)⟩
    obtain ⟨F, ⟨b, o, k, b', o', k', rfl, q1, q2, rfl⟩, _⟩ := h4 i s d hs hd
    have f0 := flatten_get h2 i hd 0 (by omega)
    have f1 := flatten_get h2 i hd 1 (by omega)
    refine ⟨_, _, k, _, _, _, k', _, ?_, q1.aa, ?_, q2.aa⟩
    · exact own_cell h3 (by omega) (by simpa using f0)
    · rw [show 0 + i * 2 + 1 = 0 + (i * 2 + 1) by omega]; exact own_cell h3 (by omega) (by simpa using f1)
/-- Areas of one's own are areas. -/
theorem OwnL.areas {n₀ : Nat} {e : TypeId} {w : World} {a : Option Addr} {n c : Nat} {l : List (List Int)} (h : OwnL areaR n₀ e 1 (.slice a n c) w l) (hl : l.length = n) (hn : n ≤ 140737488355328) : AreasAt w a n l := by
  subst hl
  obtain ⟨cs, h1, h2, h3, h4⟩ := h
  refine ⟨rfl, hn, ?_⟩
  rcases h3.2 with ⟨_, q⟩ | ⟨g, cap, cur, hv, _⟩
  · exact .inl q
  · cases hv
    refine .inr ⟨g, 0, rfl, fun i s hs => ?_⟩
    have hi := (List.getElem?_eq_some_iff.1 hs).1
    obtain ⟨d, hd⟩ : ∃ d, cs[i]? = some d := ⟨_, List.getElem?_eq_getElem (by rw [h1]; exact hi)⟩
    obtain ⟨F, ⟨b, o, k, rfl, q1, rfl⟩, _⟩ := h4 i s d hs hd
    have f0 := flatten_get h2 i hd 0 (by omega)
    exact ⟨_, _, k, _, own_cell h3 (by omega) (by simpa using f0), q1.aa⟩
theorem stripT : ElemT Tryd.prog 26 28 (.agg #[.slice none 0 0, .slice none 0 0]) 2 48 := ⟨Tryd.underlying26, by kernel_rfl, rfl, by decide⟩
theorem areaT : ElemT Tryd.prog 34 25 (.agg #[.slice none 0 0]) 1 24 := ⟨Tryd.underlying34, by kernel_rfl, rfl, by decide⟩

theorem intT : ElemT Tryd.prog 23 3 (.int .i64 0) 1 8 := ⟨Tryd.underlying23, by kernel_rfl, rfl, by decide⟩
/-- The rows of an area, appended to an empty slice. -/
theorem app_rows {w : World} {O b o c : Nat} {ty : TypeId} {L : List Int} (hO : w.heap[O]? = some (.cells #[] 3 (0, 0))) (h : VA w b o L) :
    ∃ g cap w', (Builtin.append_ #[23, 23] ty #[.slice (some ⟨O, 0, none⟩) 0 0, .slice (some ⟨b, o, none⟩) 24 c]).run Tryd.prog w = .ok (.slice (some ⟨g, 0, none⟩) 24 cap) w' ∧ RowsAt w' g L ∧ O ≤ g ∧ Grew O w w' := by
  have hOl : O < w.heap.size := by
    rcases Nat.lt_or_ge O w.heap.size with q | q
    · exact q
    · rw [Array.getElem?_eq_none q] at hO; cases hO
  obtain ⟨i, hi, hz0, hz1, hz2⟩ := info_parts intT.info
  have hl := h.len
  have hx : ∀ j u, (intVals L)[j]? = some u → w.cell? ((⟨b, o, none⟩ : Addr).add j) = some u := fun j u hj => by
    have hjl : j < L.length := by rw [← List.length_map (f := Value.int .i64)]; exact (List.getElem?_eq_some_iff.1 hj).1
    have e := intVals_at hjl
    rw [List.getElem?_toArray, hj] at e
    cases e
    rw [Addr.add_mid]; exact h.1 j (by omega)
  obtain ⟨v', w', hrun, hown, hg, _, _⟩ := run_append_own_at (P := Tryd.prog) w O 23 ty 3 i (.int .i64 0) 1 8 intT.under hi hz0 hz1 hz2 rfl (by decide) (.slice (some ⟨O, 0, none⟩) 0 0) 0 [] (own_empty hO (Nat.le_refl _)) ⟨b, o, none⟩ 24 c (intVals L) (by simp [intVals, hl]) hx
    (by simp [intVals, Value.oneCell']) (by unfold maxLen; omega) (by omega) (by omega)
  have hown2 : w'.ownsRow O 3 1 v' 24 (intVals L) := by simpa using hown
  obtain ⟨g, k, rfl, hgO, hr⟩ := rows_of_own hl hown2
  exact ⟨g, k, w', hrun, hr, hgO, ⟨hg.size, fun U hU hUn => Ext.own' hU (own_empty (size := 1) hO (Nat.le_refl _)) hUn hg⟩⟩
/-- The cells of areas, one behind the other. -/
theorem areas_cells {w : World} {b off n : Nat} {ls : List (List Int)} (h : AreasAt w (some ⟨b, off, none⟩) n ls) (_hn : 0 < n) (hv : ∀ l ∈ ls, Globe.validL l = true) :
    ∃ ds : List (List Value), ds.length = n ∧ (∀ d ∈ ds, d.length = 1) ∧ (∀ j u, ds.flatten[j]? = some u → w.cell? ((⟨b, off, none⟩ : Addr).add j) = some u) ∧ (∀ d ∈ ds, ∀ u ∈ d, u.oneCell' = true) ∧
      ∀ (j : Nat) l d, ls[j]? = some l → ds[j]? = some d → ∃ F, areaR.rel w d l F := by
  have each : ∀ i, i < n → ∃ (l : List Int) (B o k : Nat), ls[i]? = some l ∧ w.cell? ⟨b, off + i, none⟩ = some (.slice (some ⟨B, o, none⟩) 24 k) ∧ VA w B o l := fun i hi => by
    obtain ⟨b', off', l, a1, n1, c1, v1, ha, hl, hc, hA⟩ := h.at hi
    cases ha
    obtain rfl : v1 = true := hA.2.2.2.symm.trans (hv l (List.mem_of_getElem? hl))
    obtain ⟨B, o, rfl, rfl, hV⟩ := hA.va
    exact ⟨l, B, o, c1, hl, hc, hV⟩
  let cel : Nat → Value := fun i => (w.cell? ⟨b, off + i, none⟩).getD undef
  have hd : ∀ i (hi : i < n), ∃ (l : List Int) (B o k : Nat), ls[i]? = some l ∧ cel i = .slice (some ⟨B, o, none⟩) 24 k ∧ w.cell? ⟨b, off + i, none⟩ = some (cel i) ∧ VA w B o l := fun i hi => by
    obtain ⟨l, B, o, k, h1, h2, h3⟩ := each i hi
    have e : cel i = .slice (some ⟨B, o, none⟩) 24 k := by show (w.cell? ⟨b, off + i, none⟩).getD undef = _; rw [h2]; rfl
    exact ⟨l, B, o, k, h1, e, by rw [e]; exact h2, h3⟩
  have hflat : ∀ m, (((List.range m).map fun i => [cel i]).flatten) = (List.range m).map cel := fun m => by
    induction m with
    | zero => rfl
    | succ m ih => rw [List.range_succ, List.map_append, List.flatten_append, ih, List.map_append]; rfl
  refine ⟨(List.range n).map fun i => [cel i], by simp, ?_, ?_, ?_, ?_⟩
  · intro d hdm; obtain ⟨i, _, rfl⟩ := List.mem_map.1 hdm; rfl
  · intro j u hj
    rw [hflat] at hj
    obtain ⟨hjl, e⟩ := List.getElem?_eq_some_iff.1 hj
    have hjn : j < n := by simpa using hjl
    obtain ⟨_, _, _, _, _, _, h3, _⟩ := hd j hjn
    have e2 : cel j = u := by simpa using e
    rw [Addr.add_mid, h3, e2]
  · intro d hdm u hu
    obtain ⟨i, hi, rfl⟩ := List.mem_map.1 hdm
    obtain ⟨_, B, o, k, _, e, _, _⟩ := hd i (List.mem_range.1 hi)
    rw [List.mem_singleton.1 hu, e]; rfl
  · intro j l d hl hdj
    obtain ⟨hjl, e⟩ := List.getElem?_eq_some_iff.1 hdj
    have hjn : j < n := by simpa using hjl
    obtain ⟨l', B, o, k, h1, h2, _, h4⟩ := hd j hjn
    rw [hl] at h1; cases h1
    have e2 : [cel j] = d := by simpa using e
    exact ⟨[B], B, o, k, by rw [← e2, h2], h4, rfl⟩
/-- Areas, appended to an empty slice. -/
theorem app_areas {w : World} {n₀ O b off n c : Nat} {ty : TypeId} {ls : List (List Int)} (hO : w.heap[O]? = some (.cells #[] 25 (0, 0))) (hnO : n₀ ≤ O) (h : AreasAt w (some ⟨b, off, none⟩) n ls) (hn : 0 < n) (hn9 : n ≤ 1000) (hv : ∀ l ∈ ls, Globe.validL l = true) :
    ∃ g cap w', (Builtin.append_ #[34, 34] ty #[.slice (some ⟨O, 0, none⟩) 0 0, .slice (some ⟨b, off, none⟩) n c]).run Tryd.prog w = .ok (.slice (some ⟨g, 0, none⟩) n cap) w' ∧ OwnL areaR n₀ 25 1 (.slice (some ⟨g, 0, none⟩) n cap) w' ls ∧ Grew n₀ w w' := by
  obtain ⟨ds, h1, h2, h3, h4, h5⟩ := areas_cells h hn hv
  have hOl : O < w.heap.size := by
    rcases Nat.lt_or_ge O w.heap.size with q | q
    · exact q
    · rw [Array.getElem?_eq_none q] at hO; cases hO
  obtain ⟨v', w', k1, k2, k3, k4, k5⟩ := own_app (R := areaR) (P := Tryd.prog) (ty := ty) areaT (OwnL.empty areaR (size := 1) hO hnO) (by omega) (a := ⟨b, off, none⟩) (m := n) (c := c) (xs := ls) (ds := ds) h.1 h1 h2 h3 h4
    (fun j x d hx hd => by obtain ⟨F, hF⟩ := h5 j x d hx hd; exact ⟨F, hF, fun y hy e => by
      obtain ⟨B, o, k, -, hV, rfl⟩ := hF
      rw [List.mem_singleton.1 hy] at e
      have e1 : O = B := Option.some.inj e
      subst e1
      have := hV.1 0 (by omega)
      rw [cell_of_row _ _ _ _ _ _ hO] at this; simp at this⟩) (by simp; omega) (by simp; omega)
  simp only [List.length_nil, Nat.zero_add, List.nil_append] at k2 k4
  rcases k4 with rfl | ⟨g, cap, rfl, _⟩
  · have := (k5 rfl).1; omega
  · exact ⟨g, cap, w', k1, k2, k3⟩
/-- An area put in the place of another one. -/
theorem areas_set {w : World} {n₀ e : Nat} {g n cap : Nat} {ls : List (List Int)} (h : OwnL areaR n₀ e 1 (.slice (some ⟨g, 0, none⟩) n cap) w ls) (hl : ls.length = n) (hn : n ≤ 140737488355328) {k : Nat} (hk : k < n) {B o c : Nat} {L : List Int} (hL : VA w B o L) (hB : B ≠ g) :
    (∃ u, w.cell? ⟨g, k, none⟩ = some u) ∧ w.frozen? ⟨g, k, none⟩ = false ∧ AreasAt (w.setCell ⟨g, k, none⟩ (.slice (some ⟨B, o, none⟩) 24 c)) (some ⟨g, 0, none⟩) n (ls.set k L) := by
  subst hl
  obtain ⟨cs, h1, h2, h3, h4⟩ := h
  have cellj : ∀ j (hj : j < ls.length), ∃ (l : List Int) (b' o' k' : Nat), ls[j]? = some l ∧ w.cell? ⟨g, j, none⟩ = some (.slice (some ⟨b', o', none⟩) 24 k') ∧ VA w b' o' l ∧ b' ≠ g := fun j hj => by
    obtain ⟨d, hd⟩ : ∃ d, cs[j]? = some d := ⟨_, List.getElem?_eq_getElem (by rw [h1]; exact hj)⟩
    have hlj := List.getElem?_eq_getElem hj
    obtain ⟨F, ⟨b', o', k', rfl, q1, rfl⟩, q2⟩ := h4 j _ d hlj hd
    have f0 := flatten_get h2 j hd 0 (by omega)
    have := own_cell h3 (j := j) (by omega) (by simpa using f0)
    rw [Nat.zero_add] at this
    exact ⟨_, b', o', k', hlj, this, q1, fun e => q2 b' (by simp) (by rw [e]; rfl)⟩
  have hfr : w.frozen? ⟨g, k, none⟩ = false := h3.frozenAt k
  obtain ⟨_, _, _, _, _, hck, _, _⟩ := cellj k hk
  refine ⟨⟨_, hck⟩, hfr, by rw [List.length_set], hn, .inr ⟨g, 0, rfl, fun i l hi => ?_⟩⟩
  have hiL : i < ls.length := by have := (List.getElem?_eq_some_iff.1 hi).1; rwa [List.length_set] at this
  rw [Nat.zero_add]
  by_cases e : k = i
  · subst e
    rw [List.getElem?_set_self (by exact hk)] at hi
    cases hi
    exact ⟨_, _, c, _, by simp [go_sem, hck], (VA.other hL (p := ⟨g, k, none⟩) (fun e => hB e.symm) _).aa⟩
  · rw [List.getElem?_set_ne e] at hi
    obtain ⟨l', b', o', k', q0, q1, q2, q3⟩ := cellj i hiL
    rw [hi] at q0; cases q0
    exact ⟨_, _, k', _, by rw [World.cell?_setCell_other w _ _ _ (fun c => e (congrArg Addr.off c))]; exact q1, (VA.other q2 (p := ⟨g, k, none⟩) (fun e => q3 e.symm) _).aa⟩
/-- A row that is written in place. -/
theorem sn_row {P : Program} {ev : Operand → Value} {oi : Oper} {w : World} {N : Value → World → Prop} {g y : Nat} {L : List Int} {v : Int} (h1 : (execOp ev oi).run P w = .ok .skip (w.setCell ⟨g, y, none⟩ (.int .i64 v))) (hr : RowsAt w g L) (hy : y < 24)
    (h : ∀ X, Turns g w X → RowsAt X g (L.set y v) → N undef X) : StepN P ev oi w N := sn_skp h1 (h _ (turns_set _ _ _ _) (hr.set hy v))

/-- Strips, appended to an empty slice. -/
theorem app_strips {w : World} {n₀ O n c : Nat} {a : Option Addr} {ty : TypeId} {ss : List (List Int × List Int)} (hO : w.heap[O]? = some (.cells #[] 28 (0, 0))) (hnO : n₀ ≤ O) (h : StripsAt w a n ss) (hn9 : n ≤ 1000) (hok : Globe.stripsOk ss = true) :
    ∃ g cap w', (Builtin.append_ #[26, 26] ty #[.slice (some ⟨O, 0, none⟩) 0 0, .slice a n c]).run Tryd.prog w = .ok (.slice (some ⟨g, 0, none⟩) n cap) w' ∧ OwnL stripR n₀ 28 2 (.slice (some ⟨g, 0, none⟩) n cap) w' ss ∧ Grew n₀ w w' := by
  have hOl : O < w.heap.size := by
    rcases Nat.lt_or_ge O w.heap.size with q | q
    · exact q
    · rw [Array.getElem?_eq_none q] at hO; cases hO
  rcases Nat.eq_zero_or_pos n with rfl | hn
  · obtain rfl : ss = [] := List.eq_nil_of_length_eq_zero h.1
    exact ⟨O, 0, w, app_none stripT (Nat.le_refl _), OwnL.empty stripR hO hnO, ⟨Nat.le_refl _, fun U hU _ => hU⟩⟩
  · obtain ⟨b, off, rfl, -⟩ : ∃ b off, a = some ⟨b, off, none⟩ ∧ True := by obtain ⟨b, off, s, ha, _, _⟩ := h.at hn; exact ⟨b, off, ha, trivial⟩
    let cel : Nat → Value := fun i => (w.cell? ⟨b, i, none⟩).getD undef
    have each : ∀ i, i < n → ∃ (s : List Int × List Int) (B1 o1 k1 B2 o2 k2 : Nat), ss[i]? = some s ∧ w.cell? ⟨b, off + i * 2, none⟩ = some (cel (off + i * 2)) ∧ cel (off + i * 2) = .slice (some ⟨B1, o1, none⟩) 24 k1 ∧
        w.cell? ⟨b, off + i * 2 + 1, none⟩ = some (cel (off + i * 2 + 1)) ∧ cel (off + i * 2 + 1) = .slice (some ⟨B2, o2, none⟩) 24 k2 ∧ VA w B1 o1 s.1 ∧ VA w B2 o2 s.2 := fun i hi => by
      obtain ⟨b', off', s, ha, hs, hst⟩ := h.at hi
      cases ha
      obtain ⟨q1, q2, _⟩ := okS_at hok hs
      obtain ⟨B1, o1, k1, B2, o2, k2, e1, e2, v1, v2⟩ := hst.v q1 q2
      have c1 : cel (off + i * 2) = .slice (some ⟨B1, o1, none⟩) 24 k1 := by show (w.cell? ⟨b, off + i * 2, none⟩).getD undef = _; rw [e1]; rfl
      have c2 : cel (off + i * 2 + 1) = .slice (some ⟨B2, o2, none⟩) 24 k2 := by show (w.cell? ⟨b, off + i * 2 + 1, none⟩).getD undef = _; rw [e2]; rfl
      exact ⟨s, B1, o1, k1, B2, o2, k2, hs, by rw [c1]; exact e1, c1, by rw [c2]; exact e2, c2, v1, v2⟩
    obtain ⟨v', w', k1, k2, k3, k4, k5⟩ := own_app (R := stripR) (P := Tryd.prog) (ty := ty) stripT (OwnL.empty stripR (size := 2) hO hnO) (by omega) (a := ⟨b, off, none⟩) (m := n) (c := c) (xs := ss) (ds := (List.range n).map fun i => [cel (off + i * 2), cel (off + i * 2 + 1)]) h.1 (by simp)
      (fun d hd => by obtain ⟨i, _, rfl⟩ := List.mem_map.1 hd; rfl)
      (flat_cells (size := 2) (fun _ _ => rfl) (fun i hi j u hu => by
        obtain ⟨s, B1, o1, k1, B2, o2, k2, _, e1, _, e2, _, _⟩ := each i hi
        match j, hu with
        | 0, hu => simp at hu; subst hu; exact e1
        | 1, hu => simp at hu; subst hu; exact e2
        | _ + 2, hu => simp at hu) n (Nat.le_refl _))
      (fun d hd u hu => by
        obtain ⟨i, hi, rfl⟩ := List.mem_map.1 hd
        obtain ⟨s, B1, o1, k1, B2, o2, k2, _, _, e1, _, e2, _⟩ := each i (List.mem_range.1 hi)
        rcases List.mem_cons.1 hu with rfl | hu
        · rw [e1]; rfl
        · rw [List.mem_singleton.1 hu, e2]; rfl)
      (fun j x d hx hd => by
        obtain ⟨hj, e⟩ := List.getElem?_eq_some_iff.1 hd
        have hjn : j < n := by simpa using hj
        obtain ⟨s, B1, o1, k1, B2, o2, k2, hs, _, e1, _, e2, v1, v2⟩ := each j hjn
        rw [hx] at hs; cases hs
        have ed : [cel (off + j * 2), cel (off + j * 2 + 1)] = d := by simpa using e
        have noO : ∀ {B o : Nat} {l : List Int}, VA w B o l → O ≠ B := fun hV e => by
          subst e
          have := hV.1 0 (by omega)
          rw [cell_of_row _ _ _ _ _ _ hO] at this; simp at this
        refine ⟨[B1, B2], ⟨B1, o1, k1, B2, o2, k2, by rw [← ed, e1, e2], v1, v2, rfl⟩, fun y hy e => ?_⟩
        rcases List.mem_cons.1 hy with rfl | hy
        · exact noO v1 (Option.some.inj e)
        · rw [List.mem_singleton.1 hy] at e; exact noO v2 (Option.some.inj e)) (by simp; omega) (by simp; omega)
    simp only [List.length_nil, Nat.zero_add, List.nil_append] at k2 k4
    rcases k4 with rfl | ⟨g, cap, rfl, _⟩
    · have := (k5 rfl).1; omega
    · exact ⟨g, cap, w', k1, k2, k3⟩
/-- A strip put in the place of another one. -/
theorem strips_set {w : World} {n₀ e : Nat} {g n cap : Nat} {ls : List (List Int × List Int)} (h : OwnL stripR n₀ e 2 (.slice (some ⟨g, 0, none⟩) n cap) w ls) (hl : ls.length = n) (hn : n ≤ 140737488355328) {k : Nat} (hk : k < n) {B o c B' o' c' : Nat} {L L' : List Int} (hL : VA w B o L) (hB : B ≠ g) (hL' : VA w B' o' L') (hB' : B' ≠ g) :
    (∃ u u', w.cell? ⟨g, k * 2, none⟩ = some u ∧ w.cell? ⟨g, k * 2 + 1, none⟩ = some u') ∧ w.frozen? ⟨g, k * 2, none⟩ = false ∧ w.frozen? ⟨g, k * 2 + 1, none⟩ = false ∧
      StripsAt ((w.setCell ⟨g, k * 2, none⟩ (.slice (some ⟨B, o, none⟩) 24 c)).setCell ⟨g, k * 2 + 1, none⟩ (.slice (some ⟨B', o', none⟩) 24 c')) (some ⟨g, 0, none⟩) n (ls.set k (L, L')) := by
  subst hl
  obtain ⟨cs, h1, h2, h3, h4⟩ := h
  have cellj : ∀ j (hj : j < ls.length), ∃ (s : List Int × List Int) (b1 o1 k1 b2 o2 k2 : Nat), ls[j]? = some s ∧ w.cell? ⟨g, j * 2, none⟩ = some (.slice (some ⟨b1, o1, none⟩) 24 k1) ∧ w.cell? ⟨g, j * 2 + 1, none⟩ = some (.slice (some ⟨b2, o2, none⟩) 24 k2) ∧ VA w b1 o1 s.1 ∧ VA w b2 o2 s.2 ∧ b1 ≠ g ∧ b2 ≠ g := fun j hj => by
    obtain ⟨d, hd⟩ : ∃ d, cs[j]? = some d := ⟨_, List.getElem?_eq_getElem (by rw [h1]; exact hj)⟩
    have hlj := List.getElem?_eq_getElem hj
    obtain ⟨F, ⟨b1, o1, k1, b2, o2, k2, rfl, q1, q2, rfl⟩, q3⟩ := h4 j _ d hlj hd
    have f0 := own_cell h3 (j := j * 2) (by omega) (by simpa using flatten_get h2 j hd 0 (by omega))
    have f1 := own_cell h3 (j := j * 2 + 1) (by omega) (by simpa using flatten_get h2 j hd 1 (by omega))
    rw [Nat.zero_add] at f0 f1
    exact ⟨_, b1, o1, k1, b2, o2, k2, hlj, f0, f1, q1, q2, fun e => q3 b1 (by simp) (by rw [e]; rfl), fun e => q3 b2 (by simp) (by rw [e]; rfl)⟩
  obtain ⟨_, _, _, _, _, _, _, _, hc0, hc1, _⟩ := cellj k hk
  have keepV : ∀ {b o : Nat} {l : List Int}, VA w b o l → b ≠ g → VA ((w.setCell ⟨g, k * 2, none⟩ (.slice (some ⟨B, o, none⟩) 24 c)).setCell ⟨g, k * 2 + 1, none⟩ (.slice (some ⟨B', o', none⟩) 24 c')) b o l := fun hv hb =>
    VA.other (p := ⟨g, k * 2 + 1, none⟩) (VA.other (p := ⟨g, k * 2, none⟩) hv (fun e => hb e.symm) _) (fun e => hb e.symm) _
  refine ⟨⟨_, _, hc0, hc1⟩, h3.frozenAt _, h3.frozenAt _, by rw [List.length_set], hn, .inr ⟨g, 0, rfl, fun i s hi => ?_⟩⟩
  have hiL : i < ls.length := by have := (List.getElem?_eq_some_iff.1 hi).1; rwa [List.length_set] at this
  by_cases e : k = i
  · subst e
    rw [List.getElem?_set_self (by exact hk)] at hi
    cases hi
    refine ⟨_, _, c, _, _, _, c', _, ?_, (VA.other (p := ⟨g, k * 2 + 1, none⟩) (VA.other (p := ⟨g, k * 2, none⟩) hL (fun e => hB e.symm) _) (fun e => hB e.symm) _).aa, ?_, (VA.other (p := ⟨g, k * 2 + 1, none⟩) (VA.other (p := ⟨g, k * 2, none⟩) hL' (fun e => hB' e.symm) _) (fun e => hB' e.symm) _).aa⟩
    · rw [Nat.zero_add, World.cell?_setCell_other _ _ _ _ (fun c => by have := congrArg Addr.off c; simp at this)]; simp [go_sem, hc0]
    · rw [Nat.zero_add]
      have h9 : (w.setCell ⟨g, k * 2, none⟩ (.slice (some ⟨B, o, none⟩) 24 c)).cell? ⟨g, k * 2 + 1, none⟩ = some _ := (World.cell?_setCell_other w _ _ _ (fun c => by have := congrArg Addr.off c; simp at this)).trans hc1
      simp [go_sem, h9]
  · rw [List.getElem?_set_ne e] at hi
    obtain ⟨s', b1, o1, k1, b2, o2, k2, q0, q1, q2, v1, v2, n1, n2⟩ := cellj i hiL
    rw [hi] at q0; cases q0
    refine ⟨_, _, k1, _, _, _, k2, _, ?_, (VA.other (p := ⟨g, k * 2 + 1, none⟩) (VA.other (p := ⟨g, k * 2, none⟩) v1 (fun e => n1 e.symm) _) (fun e => n1 e.symm) _).aa, ?_, (VA.other (p := ⟨g, k * 2 + 1, none⟩) (VA.other (p := ⟨g, k * 2, none⟩) v2 (fun e => n2 e.symm) _) (fun e => n2 e.symm) _).aa⟩
    · rw [Nat.zero_add, World.cell?_setCell_other _ _ _ _ (fun c => by have := congrArg Addr.off c; simp at this; omega), World.cell?_setCell_other _ _ _ _ (fun c => by have := congrArg Addr.off c; simp at this; omega)]; exact q1
    · rw [Nat.zero_add, World.cell?_setCell_other _ _ _ _ (fun c => by have := congrArg Addr.off c; simp at this; omega), World.cell?_setCell_other _ _ _ _ (fun c => by have := congrArg Addr.off c; simp at this; omega)]; exact q2
/-- Four ints in four cells. -/
def quadR : Rep (Nat → Int) where
  rel _ c x F := c = [.int .i64 (x 0), .int .i64 (x 1), .int .i64 (x 2), .int .i64 (x 3)] ∧ (∀ j, j < 4 → IsI (x j)) ∧ F = []
  keep := fun h _ => h
  lt := by rintro w c x F ⟨_, _, rfl⟩ b hb; cases hb
theorem quadT : ElemT Tryd.prog 22 59 (.agg #[.int .i64 0, .int .i64 0, .int .i64 0, .int .i64 0]) 4 32 := ⟨Tryd.underlying22, by kernel_rfl, rfl, by decide⟩
theorem app_quads {w : World} {n₀ O n c : Nat} {a : Option Addr} {ty : TypeId} {q : Nat → Nat → Int} (hO : w.heap[O]? = some (.cells #[] 59 (0, 0))) (hnO : n₀ ≤ O) (h : QAt w a n q) (hn9 : n * 32 ≤ 140737488355328) :
    ∃ g cap w', (Builtin.append_ #[22, 22] ty #[.slice (some ⟨O, 0, none⟩) 0 0, .slice a n c]).run Tryd.prog w = .ok (.slice (some ⟨g, 0, none⟩) n cap) w' ∧ OwnL quadR n₀ 59 4 (.slice (some ⟨g, 0, none⟩) n cap) w' ((List.range n).map q) ∧ Grew n₀ w w' := by
  have hOl : O < w.heap.size := by
    rcases Nat.lt_or_ge O w.heap.size with q | q
    · exact q
    · rw [Array.getElem?_eq_none q] at hO; cases hO
  rcases Nat.eq_zero_or_pos n with rfl | hn
  · exact ⟨O, 0, w, app_none quadT (Nat.le_refl _), OwnL.empty quadR hO hnO, ⟨Nat.le_refl _, fun U hU _ => hU⟩⟩
  · obtain ⟨b, off, rfl, hq⟩ := h.resolve_left (by omega)
    obtain ⟨v', w', k1, k2, k3, k4, k5⟩ := own_app (R := quadR) (P := Tryd.prog) (ty := ty) quadT (OwnL.empty quadR (size := 4) hO hnO) (by omega) (a := ⟨b, off, none⟩) (m := n) (c := c) (xs := (List.range n).map q) (ds := (List.range n).map fun i => [.int .i64 (q i 0), .int .i64 (q i 1), .int .i64 (q i 2), .int .i64 (q i 3)]) (by simp) (by simp)
      (fun d hd => by obtain ⟨i, _, rfl⟩ := List.mem_map.1 hd; rfl)
      (flat_cells (size := 4) (fun _ _ => rfl) (fun i hi j u hu => by
        match j, hu with
        | 0, hu => simp at hu; subst hu; exact (hq i hi 0 (by omega)).1
        | 1, hu => simp at hu; subst hu; exact (hq i hi 1 (by omega)).1
        | 2, hu => simp at hu; subst hu; exact (hq i hi 2 (by omega)).1
        | 3, hu => simp at hu; subst hu; exact (hq i hi 3 (by omega)).1
        | _ + 4, hu => simp at hu) n (Nat.le_refl _))
      (fun d hd u hu => by
        obtain ⟨i, hi, rfl⟩ := List.mem_map.1 hd
        simp at hu
        rcases hu with rfl | rfl | rfl | rfl <;> rfl)
      (fun j x d hx hd => by
        obtain ⟨hj, e⟩ := List.getElem?_eq_some_iff.1 hd
        have hjn : j < n := by simpa using hj
        have ex : q j = x := by rw [List.getElem?_map, List.getElem?_range hjn] at hx; simpa using hx
        have ed : [.int .i64 (q j 0), .int .i64 (q j 1), .int .i64 (q j 2), .int .i64 (q j 3)] = d := by simpa using e
        subst ex
        exact ⟨[], ⟨ed.symm, fun i hi => (hq j hjn i hi).2, rfl⟩, fun b hb => by cases hb⟩) (by simp; omega) (by simp; omega)
    simp only [List.length_nil, Nat.zero_add, List.nil_append] at k2 k4
    rcases k4 with rfl | ⟨g, cap, rfl, _⟩
    · have := (k5 rfl).1; omega
    · exact ⟨g, cap, w', k1, k2, k3⟩
theorem OwnL.quads {n₀ : Nat} {e : TypeId} {w : World} {a : Option Addr} {n c : Nat} {l : List (Nat → Int)} (h : OwnL quadR n₀ e 4 (.slice a n c) w l) (hl : l.length = n) : QAt w a n (fun i j => (l[i]?.getD fun _ => 0) j) := by
  subst hl
  obtain ⟨cs, h1, h2, h3, h4⟩ := h
  rcases h3.2 with ⟨_, q⟩ | ⟨g, cap, cur, hv, _⟩
  · exact .inl q
  · cases hv
    refine .inr ⟨g, 0, rfl, fun i hi j hj => ?_⟩
    obtain ⟨d, hd⟩ : ∃ d, cs[i]? = some d := ⟨_, List.getElem?_eq_getElem (by rw [h1]; exact hi)⟩
    have hli := List.getElem?_eq_getElem hi
    obtain ⟨F, ⟨rfl, hI, rfl⟩, _⟩ := h4 i _ d hli hd
    show w.cell? _ = some (.int .i64 ((l[i]?.getD fun _ => 0) j)) ∧ IsI ((l[i]?.getD fun _ => 0) j)
    rw [hli]
    refine ⟨?_, hI j hj⟩
    have f := own_cell h3 (j := i * 4 + j) (u := .int .i64 (l[i] j)) (by omega) (by
      rw [flatten_get h2 i hd j hj]
      match j, hj with
      | 0, _ => rfl
      | 1, _ => rfl
      | 2, _ => rfl
      | 3, _ => rfl
      | _ + 4, hj => omega)
    rw [show 0 + i * 4 + j = 0 + (i * 4 + j) by omega]; exact f

theorem pickN_c (c : Int) (n : Nat) (w : World) (hc : IsI c) (h0 : 0 < n) (h1 : n ≤ 100000000) : Calls Tryd.prog 14 #[.int .i64 c, .int .i64 (n : Int)] w fun e w' => ∃ k : Nat, e = .returned (.int .i64 (k : Int)) ∧ k < n ∧ pickF c n = (k : Int) ∧ w = w' :=
  (pick_c c n w hc (by omega) (by omega)).mono fun e w' ⟨he, hw⟩ => by
    have hb := pickF_bd (c := c) (n := (n : Int)) (by omega)
    obtain ⟨k, hk⟩ : ∃ k : Nat, pickF c n = (k : Int) := ⟨(pickF c n).toNat, by omega⟩
    exact ⟨k, by rw [he, hk], by omega, hk, hw⟩

end Go.Proofs.YtglfoglkdbbmmaaDoor

/- Loads, stores, indices and slices at the types of this seat. -/
namespace Go.Proofs.YtglfoglkdbbmmaaDoor
open Go.RowKit

theorem ix23 {w : World} {b o n c k : Nat} (hk : k < n) : (Instr.indexAt 23 (.slice (some ⟨b, o, none⟩) n c) (.int .i64 (k : Int))).run Tryd.prog w = .ok (.pointer (some ⟨b, o + k, none⟩)) w := by
  have : (0 : Int) ≤ (k : Int) := by omega
  have : (k : Int) < (n : Int) := by omega
  go_simp
theorem ix23z {w : World} {b n c k : Nat} (hk : k < n) : (Instr.indexAt 23 (.slice (some ⟨b, 0, none⟩) n c) (.int .i64 (k : Int))).run Tryd.prog w = .ok (.pointer (some ⟨b, k, none⟩)) w := by
  have h := ix23 (w := w) (b := b) (o := 0) (c := c) hk
  rwa [Nat.zero_add] at h
theorem ix26 {w : World} {b o n c k : Nat} (hk : k < n) : (Instr.indexAt 26 (.slice (some ⟨b, o, none⟩) n c) (.int .i64 (k : Int))).run Tryd.prog w = .ok (.pointer (some ⟨b, o + k * 2, none⟩)) w := by
  have : (0 : Int) ≤ (k : Int) := by omega
  have : (k : Int) < (n : Int) := by omega
  go_simp
theorem ix26z {w : World} {b n c k : Nat} (hk : k < n) : (Instr.indexAt 26 (.slice (some ⟨b, 0, none⟩) n c) (.int .i64 (k : Int))).run Tryd.prog w = .ok (.pointer (some ⟨b, k * 2, none⟩)) w := by
  have h := ix26 (w := w) (b := b) (o := 0) (c := c) hk
  rwa [Nat.zero_add] at h
theorem ix34 {w : World} {b o n c k : Nat} (hk : k < n) : (Instr.indexAt 34 (.slice (some ⟨b, o, none⟩) n c) (.int .i64 (k : Int))).run Tryd.prog w = .ok (.pointer (some ⟨b, o + k, none⟩)) w := by
  have : (0 : Int) ≤ (k : Int) := by omega
  have : (k : Int) < (n : Int) := by omega
  go_simp
theorem ix34z {w : World} {b n c k : Nat} (hk : k < n) : (Instr.indexAt 34 (.slice (some ⟨b, 0, none⟩) n c) (.int .i64 (k : Int))).run Tryd.prog w = .ok (.pointer (some ⟨b, k, none⟩)) w := by
  have h := ix34 (w := w) (b := b) (o := 0) (c := c) hk
  rwa [Nat.zero_add] at h
theorem ix35 {w : World} {b o n c k : Nat} (hk : k < n) : (Instr.indexAt 35 (.slice (some ⟨b, o, none⟩) n c) (.int .i64 (k : Int))).run Tryd.prog w = .ok (.pointer (some ⟨b, o + k, none⟩)) w := by
  have : (0 : Int) ≤ (k : Int) := by omega
  have : (k : Int) < (n : Int) := by omega
  go_simp
theorem ix35z {w : World} {b n c k : Nat} (hk : k < n) : (Instr.indexAt 35 (.slice (some ⟨b, 0, none⟩) n c) (.int .i64 (k : Int))).run Tryd.prog w = .ok (.pointer (some ⟨b, k, none⟩)) w := by
  have h := ix35 (w := w) (b := b) (o := 0) (c := c) hk
  rwa [Nat.zero_add] at h
theorem ix44 {w : World} {b o n c k : Nat} (hk : k < n) : (Instr.indexAt 44 (.slice (some ⟨b, o, none⟩) n c) (.int .i64 (k : Int))).run Tryd.prog w = .ok (.pointer (some ⟨b, o + k, none⟩)) w := by
  have : (0 : Int) ≤ (k : Int) := by omega
  have : (k : Int) < (n : Int) := by omega
  go_simp
theorem ix44z {w : World} {b n c k : Nat} (hk : k < n) : (Instr.indexAt 44 (.slice (some ⟨b, 0, none⟩) n c) (.int .i64 (k : Int))).run Tryd.prog w = .ok (.pointer (some ⟨b, k, none⟩)) w := by
  have h := ix44 (w := w) (b := b) (o := 0) (c := c) hk
  rwa [Nat.zero_add] at h
theorem ld23 {w : World} {b o : Nat} {x0 : Value} (h0 : w.cell? ⟨b, o, none⟩ = some x0) : (Instr.loadAt 23 (.pointer (some ⟨b, o, none⟩))).run Tryd.prog w = .ok (x0) w := by go_simp
theorem ld25 {w : World} {b o : Nat} {x0 : Value} (h0 : w.cell? ⟨b, o, none⟩ = some x0) : (Instr.loadAt 25 (.pointer (some ⟨b, o, none⟩))).run Tryd.prog w = .ok (.agg #[x0]) w := by go_simp
theorem ld26 {w : World} {b o : Nat} {x0 : Value} (h0 : w.cell? ⟨b, o, none⟩ = some x0) : (Instr.loadAt 26 (.pointer (some ⟨b, o, none⟩))).run Tryd.prog w = .ok (x0) w := by go_simp
theorem ld28 {w : World} {b o : Nat} {x0 x1 : Value} (h0 : w.cell? ⟨b, o, none⟩ = some x0) (h1 : w.cell? ⟨b, o + 1, none⟩ = some x1) : (Instr.loadAt 28 (.pointer (some ⟨b, o, none⟩))).run Tryd.prog w = .ok (.agg #[x0, x1]) w := by go_simp
theorem ld3 {w : World} {b o : Nat} {x0 : Value} (h0 : w.cell? ⟨b, o, none⟩ = some x0) : (Instr.loadAt 3 (.pointer (some ⟨b, o, none⟩))).run Tryd.prog w = .ok (x0) w := by go_simp
theorem ld34 {w : World} {b o : Nat} {x0 : Value} (h0 : w.cell? ⟨b, o, none⟩ = some x0) : (Instr.loadAt 34 (.pointer (some ⟨b, o, none⟩))).run Tryd.prog w = .ok (x0) w := by go_simp
theorem sl22_100b {w : World} {a : Option Addr} {n c k : Nat} (h1 : k ≤ n) (h2 : n ≤ c) : (Instr.sliceAt 22 (.slice a n c) (some (.int .i64 (k : Int))) none none).run Tryd.prog w = .ok (.slice (if c = k then a else a.map (fun x => x.add (k * 4))) (n - k) (c - k)) w := by
  have : (0 : Int) ≤ (k : Int) := by omega
  have : (k : Int) ≤ (n : Int) := by omega
  have : (n : Int) ≤ (c : Int) := by omega
  go_simp
theorem sl22_100 {w : World} {b o n c k : Nat} (h1 : k ≤ n) (h2 : n ≤ c) (h4 : k ≠ c) : (Instr.sliceAt 22 (.slice (some ⟨b, o, none⟩) n c) (some (.int .i64 (k : Int))) none none).run Tryd.prog w = .ok (.slice (some ⟨b, o + k * 4, none⟩) (n - k) (c - k)) w := by
  have : (0 : Int) ≤ (k : Int) := by omega
  have : (k : Int) ≤ (n : Int) := by omega
  have : (n : Int) ≤ (c : Int) := by omega
  have : ¬ c = k := by omega
  go_simp
theorem sl22_110b {w : World} {a : Option Addr} {n c k m : Nat} (h1 : k ≤ m) (h2 : m ≤ c) : (Instr.sliceAt 22 (.slice a n c) (some (.int .i64 (k : Int))) (some (.int .i64 (m : Int))) none).run Tryd.prog w = .ok (.slice (if c = k then a else a.map (fun x => x.add (k * 4))) (m - k) (c - k)) w := by
  have : (0 : Int) ≤ (k : Int) := by omega
  have : (0 : Int) ≤ (m : Int) := by omega
  have : (k : Int) ≤ (m : Int) := by omega
  have : (m : Int) ≤ (c : Int) := by omega
  go_simp
theorem sl22_110 {w : World} {b o n c k m : Nat} (h1 : k ≤ m) (h2 : m ≤ c) (h4 : k ≠ c) : (Instr.sliceAt 22 (.slice (some ⟨b, o, none⟩) n c) (some (.int .i64 (k : Int))) (some (.int .i64 (m : Int))) none).run Tryd.prog w = .ok (.slice (some ⟨b, o + k * 4, none⟩) (m - k) (c - k)) w := by
  have : (0 : Int) ≤ (k : Int) := by omega
  have : (0 : Int) ≤ (m : Int) := by omega
  have : (k : Int) ≤ (m : Int) := by omega
  have : (m : Int) ≤ (c : Int) := by omega
  have : ¬ c = k := by omega
  go_simp
theorem sl23_010a {w : World} {a : Option Addr} {n c m : Nat} (h1 : 0 ≤ m) (h2 : m ≤ c) : (Instr.sliceAt 23 (.slice a n c) none (some (.int .i64 (m : Int))) none).run Tryd.prog w = .ok (.slice a m c) w := by
  have : (0 : Int) ≤ (m : Int) := by omega
  have : (m : Int) ≤ (c : Int) := by omega
  have e : (if c = 0 then a else a.map (fun x => x.add 0)) = a := by split; rfl; cases a <;> rfl
  go_simp <;> exact e
theorem sl23_010 {w : World} {b o n c m : Nat} (h1 : 0 ≤ m) (h2 : m ≤ c) : (Instr.sliceAt 23 (.slice (some ⟨b, o, none⟩) n c) none (some (.int .i64 (m : Int))) none).run Tryd.prog w = .ok (.slice (some ⟨b, o, none⟩) m c) w := sl23_010a h1 h2
theorem st23 {w : World} {b o : Nat} {u0 : Value} {a0 : Option Addr} {n0 c0 : Nat} (h0 : w.cell? ⟨b, o, none⟩ = some u0) (f0 : w.frozen? ⟨b, o, none⟩ = false) : (Instr.storeAt 23 (.pointer (some ⟨b, o, none⟩)) ((.slice a0 n0 c0))).run Tryd.prog w = .ok () (w.setCell ⟨b, o, none⟩ (.slice a0 n0 c0)) := by go_simp
theorem st25 {w : World} {b o : Nat} {u0 : Value} {a0 : Option Addr} {n0 c0 : Nat} (h0 : w.cell? ⟨b, o, none⟩ = some u0) (f0 : w.frozen? ⟨b, o, none⟩ = false) : (Instr.storeAt 25 (.pointer (some ⟨b, o, none⟩)) (.agg #[(.slice a0 n0 c0)])).run Tryd.prog w = .ok () (w.setCell ⟨b, o, none⟩ (.slice a0 n0 c0)) := by go_simp
theorem st28 {w : World} {b o : Nat} {u0 u1 : Value} {a0 : Option Addr} {n0 c0 : Nat} {a1 : Option Addr} {n1 c1 : Nat} (h0 : w.cell? ⟨b, o, none⟩ = some u0) (f0 : w.frozen? ⟨b, o, none⟩ = false) (h1 : w.cell? ⟨b, o + 1, none⟩ = some u1) (f1 : w.frozen? ⟨b, o + 1, none⟩ = false) : (Instr.storeAt 28 (.pointer (some ⟨b, o, none⟩)) (.agg #[(.slice a0 n0 c0), (.slice a1 n1 c1)])).run Tryd.prog w = .ok () ((w.setCell ⟨b, o, none⟩ (.slice a0 n0 c0)).setCell ⟨b, o + 1, none⟩ (.slice a1 n1 c1)) := by go_simp
theorem st3 {w : World} {b o : Nat} {u0 : Value} {x0 : Int} (h0 : w.cell? ⟨b, o, none⟩ = some u0) (f0 : w.frozen? ⟨b, o, none⟩ = false) : (Instr.storeAt 3 (.pointer (some ⟨b, o, none⟩)) ((.int .i64 x0))).run Tryd.prog w = .ok () (w.setCell ⟨b, o, none⟩ (.int .i64 x0)) := by go_simp

end Go.Proofs.YtglfoglkdbbmmaaDoor

/- The walk of the law CoverBetween. -/
namespace Go.Proofs.YtglfoglkdbbmmaaDoor
open Go.RowKit Go.Shelf

namespace Globe
/-- One strip more: what is uncovered lies between the two. -/
theorem between_step {C S T a b z : List Int} (hab : containsB b a = true) (_hz : validL z = true) (h1 : containsB T C = true) (h2 : containsB S T = true) :
    containsB (lessL T (unionL a (meetL b z))) (lessL C b) = true ∧ containsB (lessL S a) (lessL T (unionL a (meetL b z))) = true := by
  obtain ⟨vT, vC⟩ := contains_v h1
  obtain ⟨vS, -⟩ := contains_v h2
  obtain ⟨vb, va⟩ := contains_v hab
  refine ⟨contains_of (less_valid vT) (less_valid vC) fun x y hx hy h => ?_, contains_of (less_valid vS) (less_valid vT) fun x y hx hy h => ?_⟩
  · rw [has_less hy, has_union hy, has_meet hy]
    rw [has_less hy] at h
    simp only [Bool.and_eq_true, Bool.not_eq_true'] at h
    have q1 := contains_has h1 hx hy h.1
    have q2 : hasL a x y = false := by
      cases hq : hasL a x y
      · rfl
      · have := contains_has hab hx hy hq
        rw [h.2] at this; cases this
    rw [q1, q2, h.2]; rfl
  · rw [has_less hy]
    rw [has_less hy, has_union hy] at h
    simp only [Bool.and_eq_true, Bool.not_eq_true', Bool.or_eq_false_iff] at h
    rw [contains_has h2 hx hy h.1, h.2.1]; rfl
theorem contains_self {a : List Int} (h : validL a = true) : containsB a a = true := contains_of h h fun _ _ _ _ h => h
end Globe
open Go.RowKit
theorem QAt.drop {w : World} {a : Option Addr} {n : Nat} {q : Nat → Nat → Int} (h : QAt w a n q) (c : Nat) (hnc : n ≤ c) (M : Nat) (hM : M ≤ n) : QAt w (if c = M then a else a.map (fun x => x.add (M * 4))) (n - M) (fun i j => q (i + M) j) := by
  rcases Nat.eq_or_lt_of_le hM with rfl | hlt
  · exact .inl (by omega)
  · rw [if_neg (by omega)]
    obtain ⟨b, off, rfl, hq⟩ := h.resolve_left (by omega)
    refine .inr ⟨b, off + M * 4, by simp [Addr.add_mid], fun i hi j hj => ?_⟩
    rw [show off + M * 4 + i * 4 + j = off + (i + M) * 4 + j by omega]
    exact hq (i + M) (by omega) j hj
set_option maxRecDepth 1000000 in
set_option maxHeartbeats 4000000 in
theorem CoverBetween_walk (w : World) (v0 : Value) (o0 : Quads w v0) (v1 : Value) (o1 : Quads w v1) (v2 : Value) (o2 : Quads w v2) (hT : Tab w) :
    Calls Tryd.prog 7 #[v0, v1, v2] w fun e w' => e = .returned (.bool true) ∧ Ext w w' := by
  obtain ⟨a0, n0, c0, q0, rfl, hnc0, hcm0, hz0, Q0⟩ := o0
  obtain ⟨a1, n1, c1, q1, rfl, hnc1, hcm1, hz1, Q1⟩ := o1
  obtain ⟨a2, n2, c2, q2, rfl, hnc2, hcm2, hz2, Q2⟩ := o2
  refine calls_cw 93 [(2, .slice a2 n2 c2), (1, .slice a1 n1 c1), (0, .slice a0 n0 c0)] Tryd.func7 rfl Tryd.ntmps7 (by kernel_rfl) (by kernel_rfl) (fun L => ?_)
  have hE : Ext w w := Ext.refl w
  refine cw_seq ?_
  refine cw_plain ?_
  refine pl_take (.bool false) rfl (by kernel_rfl) (by kernel_rfl) (by kernel_rfl) (by kernel_rfl) ?_
  refine pl_nil ?_
  refine qw_then ?_
  refine cw_seq ?_
  refine cw_seq ?_
  refine cw_plain ?_
  refine pl_step rfl (by kernel_rfl) (by kernel_rfl) (by kernel_rfl) (sn_call (f := 10) (args := #[]) (by kernel_rfl) ((sane_c _ (hT.ext hE)).mono ?_))
  rintro e w1 ⟨rfl, hb⟩
  replace hE := hE.trans hb
  have hs2 := hb.size
  clear hb
  refine ⟨_, rfl, ?_⟩
  refine pl_take (.bool false) rfl (by kernel_rfl) (by kernel_rfl) (by kernel_rfl) (by kernel_rfl) ?_
  refine pl_nil ?_
  refine qw_then ?_
  refine cw_f (by kernel_rfl) ?_
  refine cw_skip ?_
  refine qw_then ?_
  refine cw_seq ?_
  refine cw_plain ?_
  refine pl_take (.slice a0 n0 c0) rfl (by kernel_rfl) (by kernel_rfl) (by kernel_rfl) (by kernel_rfl) ?_
  refine pl_step rfl (by kernel_rfl) (by kernel_rfl) (by kernel_rfl) (sn_call (f := 11) (args := #[.slice a0 n0 c0]) (by kernel_rfl) ((Area_c _ _ Q0 hE (by omega)).mono ?_))
  rintro e w7 ⟨B3, k4, rfl, hn6, v5, hb⟩
  replace hE := hE.trans hb
  have hs8 := hb.size
  clear hb
  have lt9 := v5.lt
  refine ⟨_, rfl, ?_⟩
  refine pl_step rfl (by kernel_rfl) (by kernel_rfl) (by kernel_rfl) (sn_new (us := #[.slice none 0 0]) (t := 25) (by kernel_rfl) ?_)
  intro O10 X11 hO hOs hb hbx
  have hzO10 := hO; have hyO10 := hOs; clear hO hOs
  have bO10_0 : BoxAt X11 O10 0 (.slice none 0 0) := hbx 0 _ rfl
  clear hbx
  replace hE := hE.trans hb
  replace v5 := v5.ext hb
  have hs12 := hb.size
  clear hb
  have lt13 := bO10_0.lt
  refine pl_put rfl (by kernel_rfl) (by kernel_rfl) (sn_set (O := O10) (j := 0) (v := .slice (some ⟨B3, 0, none⟩) 24 k4) (ex_store (p := .pointer (some ⟨O10, 0, none⟩)) (v := .agg #[.slice (some ⟨B3, 0, none⟩) 24 k4]) rfl (by kernel_rfl) (by kernel_rfl) (st25 bO10_0.1 bO10_0.2)) bO10_0 ?_)
  intro X14 ho hv0 hk
  replace hE := ho.ext hE (Nat.le_trans (Nat.le_trans hs2 hs8) (Nat.le_of_eq hzO10))
  replace v5 := ho.va (Nat.ne_of_gt (Nat.lt_of_lt_of_le lt9 (Nat.le_of_eq hzO10))) v5
  have hs15 : X11.heap.size ≤ X14.heap.size := Nat.le_of_eq ho.size.symm
  clear ho hk bO10_0
  have bO10_0 := hv0; clear hv0
  refine pl_nil ?_
  refine qw_then ?_
  refine cw_seq ?_
  refine cw_plain ?_
  refine pl_take (.slice a1 n1 c1) rfl (by kernel_rfl) (by kernel_rfl) (by kernel_rfl) (by kernel_rfl) ?_
  refine pl_step rfl (by kernel_rfl) (by kernel_rfl) (by kernel_rfl) (sn_call (f := 12) (args := #[.slice a1 n1 c1]) (by kernel_rfl) ((Strips_s _ Q1 hE (by omega) (by omega)).mono ?_))
  rintro e w23 ⟨ss16, t17, la18, lc19, rfl, sS20, hok21, ht22, hb⟩
  replace hE := hE.trans hb
  replace v5 := v5.ext hb
  replace bO10_0 := BoxAt.ext hb bO10_0
  have hs24 := hb.size
  clear hb
  have hX25 : Ext w23 w23 := Ext.refl _
  refine ⟨_, rfl, ?_⟩
  refine pl_take (.slice la18 t17 lc19) rfl (by kernel_rfl) (by kernel_rfl) (by kernel_rfl) (by kernel_rfl) ?_
  refine pl_nil ?_
  refine qw_then ?_
  refine cw_seq ?_
  refine cw_plain ?_
  refine pl_take (.agg #[.slice (some ⟨B3, 0, none⟩) 24 k4]) rfl (by kernel_rfl) (by kernel_rfl) (by kernel_rfl) (ex_load rfl (by kernel_rfl) (ld25 (bO10_0.1))) ?_
  refine pl_take (.slice la18 t17 lc19) rfl (by kernel_rfl) (by kernel_rfl) (by kernel_rfl) (by kernel_rfl) ?_
  refine pl_step rfl (by kernel_rfl) (by kernel_rfl) (by kernel_rfl) (sn_call (f := 15) (args := #[.agg #[.slice (some ⟨B3, 0, none⟩) 24 k4], .slice la18 t17 lc19]) (by kernel_rfl) ((Uncovered_v _ _ _ v5 (Ext.refl _) sS20 (Ext.refl _) hok21).mono ?_))
  rintro e w36 ⟨B26, o27, k28, B29, o30, k31, rfl, v32, v33, hn34, hn35, hb⟩
  replace hE := hE.trans hb
  replace hX25 := hX25.trans hb
  replace v5 := v5.ext hb
  replace bO10_0 := BoxAt.ext hb bO10_0
  have hs37 := hb.size
  clear hb
  have lt38 := v32.lt
  have lt39 := v33.lt
  refine ⟨_, rfl, ?_⟩
  refine pl_take (.tuple #[.agg #[.slice (some ⟨B26, o27, none⟩) 24 k28], .agg #[.slice (some ⟨B29, o30, none⟩) 24 k31], .int .i64 0]) rfl (by kernel_rfl) (by kernel_rfl) (by kernel_rfl) (by kernel_rfl) ?_
  refine pl_take (.agg #[.slice (some ⟨B26, o27, none⟩) 24 k28]) rfl (by kernel_rfl) (by kernel_rfl) (by kernel_rfl) (by kernel_rfl) ?_
  refine pl_take (.agg #[.slice (some ⟨B29, o30, none⟩) 24 k31]) rfl (by kernel_rfl) (by kernel_rfl) (by kernel_rfl) (by kernel_rfl) ?_
  refine pl_take (.int .i64 0) rfl (by kernel_rfl) (by kernel_rfl) (by kernel_rfl) (by kernel_rfl) ?_
  refine pl_step rfl (by kernel_rfl) (by kernel_rfl) (by kernel_rfl) (sn_new (us := #[.slice none 0 0]) (t := 25) (by kernel_rfl) ?_)
  intro O40 X41 hO hOs hb hbx
  have hzO40 := hO; have hyO40 := hOs; clear hO hOs
  have bO40_0 : BoxAt X41 O40 0 (.slice none 0 0) := hbx 0 _ rfl
  clear hbx
  replace hE := hE.trans hb
  replace hX25 := hX25.trans hb
  replace v5 := v5.ext hb
  replace bO10_0 := BoxAt.ext hb bO10_0
  replace v32 := v32.ext hb
  replace v33 := v33.ext hb
  have hs42 := hb.size
  clear hb
  have lt43 := bO40_0.lt
  refine pl_step rfl (by kernel_rfl) (by kernel_rfl) (by kernel_rfl) (sn_new (us := #[.slice none 0 0]) (t := 25) (by kernel_rfl) ?_)
  intro O44 X45 hO hOs hb hbx
  have hzO44 := hO; have hyO44 := hOs; clear hO hOs
  have bO44_0 : BoxAt X45 O44 0 (.slice none 0 0) := hbx 0 _ rfl
  clear hbx
  replace hE := hE.trans hb
  replace hX25 := hX25.trans hb
  replace v5 := v5.ext hb
  replace bO10_0 := BoxAt.ext hb bO10_0
  replace v32 := v32.ext hb
  replace v33 := v33.ext hb
  replace bO40_0 := BoxAt.ext hb bO40_0
  have hs46 := hb.size
  clear hb
  have lt47 := bO44_0.lt
  refine pl_put rfl (by kernel_rfl) (by kernel_rfl) (sn_set (O := O40) (j := 0) (v := .slice (some ⟨B26, o27, none⟩) 24 k28) (ex_store (p := .pointer (some ⟨O40, 0, none⟩)) (v := .agg #[.slice (some ⟨B26, o27, none⟩) 24 k28]) rfl (by kernel_rfl) (by kernel_rfl) (st25 bO40_0.1 bO40_0.2)) bO40_0 ?_)
  intro X48 ho hv0 hk
  replace hE := ho.ext hE (Nat.le_trans (Nat.le_trans hs2 (Nat.le_trans hs8 (Nat.le_trans hs12 (Nat.le_trans hs15 (Nat.le_trans hs24 hs37))))) (Nat.le_of_eq hzO40))
  replace hX25 := ho.ext hX25 (Nat.le_trans hs37 (Nat.le_of_eq hzO40))
  replace v5 := ho.va (Nat.ne_of_gt (Nat.lt_of_lt_of_le lt9 (Nat.le_trans (Nat.le_trans hs12 (Nat.le_trans hs15 (Nat.le_trans hs24 hs37))) (Nat.le_of_eq hzO40)))) v5
  replace bO10_0 := ho.box (Nat.ne_of_gt (Nat.lt_of_lt_of_le lt13 (Nat.le_trans (Nat.le_trans hs15 (Nat.le_trans hs24 hs37)) (Nat.le_of_eq hzO40)))) bO10_0
  replace v32 := ho.va (Nat.ne_of_gt (Nat.lt_of_lt_of_le lt38 (Nat.le_of_eq hzO40))) v32
  replace v33 := ho.va (Nat.ne_of_gt (Nat.lt_of_lt_of_le lt39 (Nat.le_of_eq hzO40))) v33
  replace bO44_0 := ho.box (Nat.ne_of_lt (Nat.lt_of_lt_of_le lt43 (Nat.le_of_eq hzO44))) bO44_0
  have hs49 : X45.heap.size ≤ X48.heap.size := Nat.le_of_eq ho.size.symm
  clear ho hk bO40_0
  have bO40_0 := hv0; clear hv0
  refine pl_put rfl (by kernel_rfl) (by kernel_rfl) (sn_set (O := O44) (j := 0) (v := .slice (some ⟨B29, o30, none⟩) 24 k31) (ex_store (p := .pointer (some ⟨O44, 0, none⟩)) (v := .agg #[.slice (some ⟨B29, o30, none⟩) 24 k31]) rfl (by kernel_rfl) (by kernel_rfl) (st25 bO44_0.1 bO44_0.2)) bO44_0 ?_)
  intro X50 ho hv0 hk
  replace hE := ho.ext hE (Nat.le_trans (Nat.le_trans hs2 (Nat.le_trans hs8 (Nat.le_trans hs12 (Nat.le_trans hs15 (Nat.le_trans hs24 (Nat.le_trans hs37 hs42)))))) (Nat.le_of_eq hzO44))
  replace hX25 := ho.ext hX25 (Nat.le_trans (Nat.le_trans hs37 hs42) (Nat.le_of_eq hzO44))
  replace v5 := ho.va (Nat.ne_of_gt (Nat.lt_of_lt_of_le lt9 (Nat.le_trans (Nat.le_trans hs12 (Nat.le_trans hs15 (Nat.le_trans hs24 (Nat.le_trans hs37 hs42)))) (Nat.le_of_eq hzO44)))) v5
  replace bO10_0 := ho.box (Nat.ne_of_gt (Nat.lt_of_lt_of_le lt13 (Nat.le_trans (Nat.le_trans hs15 (Nat.le_trans hs24 (Nat.le_trans hs37 hs42))) (Nat.le_of_eq hzO44)))) bO10_0
  replace v32 := ho.va (Nat.ne_of_gt (Nat.lt_of_lt_of_le lt38 (Nat.le_trans hs42 (Nat.le_of_eq hzO44)))) v32
  replace v33 := ho.va (Nat.ne_of_gt (Nat.lt_of_lt_of_le lt39 (Nat.le_trans hs42 (Nat.le_of_eq hzO44)))) v33
  replace bO40_0 := ho.box (Nat.ne_of_gt (Nat.lt_of_lt_of_le lt43 (Nat.le_of_eq hzO44))) bO40_0
  have hs51 : X48.heap.size ≤ X50.heap.size := Nat.le_of_eq ho.size.symm
  clear ho hk bO44_0
  have bO44_0 := hv0; clear hv0
  refine pl_take (.int .i64 0) rfl (by kernel_rfl) (by kernel_rfl) (by kernel_rfl) (by kernel_rfl) ?_
  refine pl_nil ?_
  refine qw_then ?_
  refine cw_clean [2, 7, 8, 9, 10, 11] (ws' := [(2, .slice a2 n2 c2), (7, .pointer (some ⟨O10, 0, none⟩)), (8, .slice la18 t17 lc19), (9, .pointer (some ⟨O40, 0, none⟩)), (10, .pointer (some ⟨O44, 0, none⟩)), (11, .int .i64 0)]) (by kernel_rfl) (fun L => ?_)
  refine cw_seq ?_
  refine cw_seq ?_
  refine cw_plain ?_
  refine pl_take (.int .i64 0) rfl (by kernel_rfl) (by kernel_rfl) (by kernel_rfl) (by kernel_rfl) ?_
  refine pl_take (.bool false) rfl (by kernel_rfl) (by kernel_rfl) (by kernel_rfl) (by kernel_rfl) ?_
  refine pl_nil ?_
  refine qw_then ?_
  refine cw_f (by kernel_rfl) ?_
  refine cw_skip ?_
  refine qw_then ?_
  refine cw_seq ?_
  refine cw_plain ?_
  refine pl_take (.agg #[.slice (some ⟨B3, 0, none⟩) 24 k4]) rfl (by kernel_rfl) (by kernel_rfl) (by kernel_rfl) (ex_load rfl (by kernel_rfl) (ld25 (bO10_0.1))) ?_
  refine pl_step rfl (by kernel_rfl) (by kernel_rfl) (by kernel_rfl) (sn_new (us := #[.slice none 0 0]) (t := 25) (by kernel_rfl) ?_)
  intro O52 X53 hO hOs hb hbx
  have hzO52 := hO; have hyO52 := hOs; clear hO hOs
  have bO52_0 : BoxAt X53 O52 0 (.slice none 0 0) := hbx 0 _ rfl
  clear hbx
  replace hE := hE.trans hb
  replace hX25 := hX25.trans hb
  replace v5 := v5.ext hb
  replace bO10_0 := BoxAt.ext hb bO10_0
  replace v32 := v32.ext hb
  replace v33 := v33.ext hb
  replace bO40_0 := BoxAt.ext hb bO40_0
  replace bO44_0 := BoxAt.ext hb bO44_0
  have hs54 := hb.size
  clear hb
  have lt55 := bO52_0.lt
  refine pl_put rfl (by kernel_rfl) (by kernel_rfl) (sn_set (O := O52) (j := 0) (v := .slice (some ⟨B3, 0, none⟩) 24 k4) (ex_store (p := .pointer (some ⟨O52, 0, none⟩)) (v := .agg #[.slice (some ⟨B3, 0, none⟩) 24 k4]) rfl (by kernel_rfl) (by kernel_rfl) (st25 bO52_0.1 bO52_0.2)) bO52_0 ?_)
  intro X56 ho hv0 hk
  replace hE := ho.ext hE (Nat.le_trans (Nat.le_trans hs2 (Nat.le_trans hs8 (Nat.le_trans hs12 (Nat.le_trans hs15 (Nat.le_trans hs24 (Nat.le_trans hs37 (Nat.le_trans hs42 (Nat.le_trans hs46 (Nat.le_trans hs49 hs51))))))))) (Nat.le_of_eq hzO52))
  replace hX25 := ho.ext hX25 (Nat.le_trans (Nat.le_trans hs37 (Nat.le_trans hs42 (Nat.le_trans hs46 (Nat.le_trans hs49 hs51)))) (Nat.le_of_eq hzO52))
  replace v5 := ho.va (Nat.ne_of_gt (Nat.lt_of_lt_of_le lt9 (Nat.le_trans (Nat.le_trans hs12 (Nat.le_trans hs15 (Nat.le_trans hs24 (Nat.le_trans hs37 (Nat.le_trans hs42 (Nat.le_trans hs46 (Nat.le_trans hs49 hs51))))))) (Nat.le_of_eq hzO52)))) v5
  replace bO10_0 := ho.box (Nat.ne_of_gt (Nat.lt_of_lt_of_le lt13 (Nat.le_trans (Nat.le_trans hs15 (Nat.le_trans hs24 (Nat.le_trans hs37 (Nat.le_trans hs42 (Nat.le_trans hs46 (Nat.le_trans hs49 hs51)))))) (Nat.le_of_eq hzO52)))) bO10_0
  replace v32 := ho.va (Nat.ne_of_gt (Nat.lt_of_lt_of_le lt38 (Nat.le_trans (Nat.le_trans hs42 (Nat.le_trans hs46 (Nat.le_trans hs49 hs51))) (Nat.le_of_eq hzO52)))) v32
  replace v33 := ho.va (Nat.ne_of_gt (Nat.lt_of_lt_of_le lt39 (Nat.le_trans (Nat.le_trans hs42 (Nat.le_trans hs46 (Nat.le_trans hs49 hs51))) (Nat.le_of_eq hzO52)))) v33
  replace bO40_0 := ho.box (Nat.ne_of_gt (Nat.lt_of_lt_of_le lt43 (Nat.le_trans (Nat.le_trans hs46 (Nat.le_trans hs49 hs51)) (Nat.le_of_eq hzO52)))) bO40_0
  replace bO44_0 := ho.box (Nat.ne_of_gt (Nat.lt_of_lt_of_le lt47 (Nat.le_trans (Nat.le_trans hs49 hs51) (Nat.le_of_eq hzO52)))) bO44_0
  have hs57 : X53.heap.size ≤ X56.heap.size := Nat.le_of_eq ho.size.symm
  clear ho hk bO52_0
  have bO52_0 := hv0; clear hv0
  refine pl_nil ?_
  refine qw_then ?_
  refine cw_seq ?_
  refine cw_seq ?_
  refine cw_plain ?_
  refine pl_take (.int .i64 0) rfl (by kernel_rfl) (by kernel_rfl) (by kernel_rfl) (by kernel_rfl) ?_
  refine pl_nil ?_
  refine qw_then ?_
  refine cw_block ?_
  refine cw_loop [2, 8, 9, 10, 12, 13] (fun ws' wr m => ∃ i : Nat, ∃ B : Nat, ∃ o : Nat, ∃ k : Nat, ∃ T : List Int, ws' = [(2, .slice a2 n2 c2), (8, .slice la18 t17 lc19), (9, .pointer (some ⟨O40, 0, none⟩)), (10, .pointer (some ⟨O44, 0, none⟩)), (12, .pointer (some ⟨O52, 0, none⟩)), (13, .int .i64 (((i : Nat) : Int) : Int))] ∧ m = t17 - i ∧ X56.heap.size ≤ wr.heap.size ∧ Ext w wr ∧ Ext w23 wr ∧ VA wr B3 0 (areaL q0 n0) ∧ BoxAt wr O10 0 (.slice (some ⟨B3, 0, none⟩) 24 k4) ∧ VA wr B26 o27 (Globe.leftL (areaL q0 n0) (ss16.map fun s => s.2)) ∧ VA wr B29 o30 (Globe.leftL (areaL q0 n0) (ss16.map fun s => s.1)) ∧ BoxAt wr O40 0 (.slice (some ⟨B26, o27, none⟩) 24 k28) ∧ BoxAt wr O44 0 (.slice (some ⟨B29, o30, none⟩) 24 k31) ∧ BoxAt wr O52 0 (.slice (some ⟨B, o, none⟩) 24 k) ∧ VA wr B o T ∧ i ≤ t17 ∧ Hid (O52 ≠ B) ∧ Globe.containsB T (Globe.leftL (areaL q0 n0) ((ss16.map fun s => s.2).take i)) = true ∧ Globe.containsB (Globe.leftL (areaL q0 n0) ((ss16.map fun s => s.1).take i)) T = true) (ws0 := [(2, .slice a2 n2 c2), (8, .slice la18 t17 lc19), (9, .pointer (some ⟨O40, 0, none⟩)), (10, .pointer (some ⟨O44, 0, none⟩)), (12, .pointer (some ⟨O52, 0, none⟩)), (13, .int .i64 0)]) (by kernel_rfl) _ ⟨0, B3, 0, k4, (areaL q0 n0), rfl, rfl, Nat.le_refl _, hE, hX25, v5, bO10_0, v32, v33, bO40_0, bO44_0, bO52_0, v5, by omega, Lib.hid (Nat.ne_of_gt (Nat.lt_of_lt_of_le lt9 (Nat.le_trans (Nat.le_trans hs12 (Nat.le_trans hs15 (Nat.le_trans hs24 (Nat.le_trans hs37 (Nat.le_trans hs42 (Nat.le_trans hs46 (Nat.le_trans hs49 hs51))))))) (Nat.le_of_eq hzO52)))), ⟨Globe.contains_self v5.2, Globe.contains_self v5.2⟩⟩ ?_
  clear v5 bO10_0 v32 v33 bO40_0 bO44_0 bO52_0 hE hX25
  rintro m60 L ws w59 ⟨i, B, o, k, T, rfl, rfl, hs58, hE, hX25, v5, bO10_0, v32, v33, bO40_0, bO44_0, bO52_0, vT, hi, hne, Hbt⟩
  have lt61 := vT.lt
  by_cases hlt : i < t17
  ·
    obtain ⟨sb, so, s, rfl, hs, hst⟩ := sS20.at hlt
    obtain ⟨q1', q2', q3'⟩ := okS_at hok21 hs
    obtain ⟨S1, s1, e1, S2, s2, e2, d1, d2, g1, g2⟩ := hst.v q1' q2'
    have hl1 : Globe.leftL (areaL q0 n0) ((ss16.map fun s => s.2).take (i + 1)) = Globe.lessL (Globe.leftL (areaL q0 n0) ((ss16.map fun s => s.2).take i)) s.2 := by rw [take_snoc' (x := s.2) (by rw [List.getElem?_map, hs]; rfl), Globe.left_snoc]
    have hl2 : Globe.leftL (areaL q0 n0) ((ss16.map fun s => s.1).take (i + 1)) = Globe.lessL (Globe.leftL (areaL q0 n0) ((ss16.map fun s => s.1).take i)) s.1 := by rw [take_snoc' (x := s.1) (by rw [List.getElem?_map, hs]; rfl), Globe.left_snoc]
    obtain ⟨M, hM⟩ : ∃ M, M = min n2 i := ⟨_, rfl⟩
    have hM1 : M ≤ n2 := by omega
    have QM := QAt.drop Q2 c2 hnc2 M hM1
    refine cw_seq ?_
    refine cw_seq ?_
    refine cw_plain ?_
    refine pl_take (.int .i64 (((i : Nat) : Int) : Int)) rfl (by kernel_rfl) (by kernel_rfl) (by kernel_rfl) (by kernel_rfl) ?_
    refine pl_take (.slice (some ⟨sb, so, none⟩) t17 lc19) rfl (by kernel_rfl) (by kernel_rfl) (by kernel_rfl) (by kernel_rfl) ?_
    refine pl_take (.int .i64 (((t17 : Nat) : Int) : Int)) rfl (by kernel_rfl) (by kernel_rfl) (by kernel_rfl) (by kernel_rfl) ?_
    refine pl_take (.bool true) rfl (by kernel_rfl) (by kernel_rfl) (by kernel_rfl) (ev_dec (show _ = Result.ok (Next.value (Value.bool (decide ((((i : Nat) : Int) : Int) < (((t17 : Nat) : Int) : Int))))) _ from by kernel_rfl) (by omega)) ?_
    refine pl_nil ?_
    refine qw_then ?_
    refine cw_t (by kernel_rfl) ?_
    refine cw_skip ?_
    refine qw_then ?_
    refine cw_seq ?_
    refine cw_block ?_
    refine cw_seq ?_
    refine cw_join (fun ws' Y => ∃ B64 : Nat, ∃ k65 : Nat, ∃ B71 : Nat, ∃ k72 : Nat, ∃ O78 : Nat, ws' = [(2, .slice a2 n2 c2), (8, .slice (some ⟨sb, so, none⟩) t17 lc19), (9, .pointer (some ⟨O40, 0, none⟩)), (10, .pointer (some ⟨O44, 0, none⟩)), (12, .pointer (some ⟨O52, 0, none⟩)), (13, .int .i64 (((i : Nat) : Int) : Int)), (14, .pointer (some ⟨O78, 0, none⟩)), (15, .int .i64 0)] ∧ Ext w Y ∧ Ext w23 Y ∧ VA Y B3 0 (areaL q0 n0) ∧ BoxAt Y O10 0 (.slice (some ⟨B3, 0, none⟩) 24 k4) ∧ VA Y B26 o27 (Globe.leftL (areaL q0 n0) (ss16.map fun s => s.2)) ∧ VA Y B29 o30 (Globe.leftL (areaL q0 n0) (ss16.map fun s => s.1)) ∧ BoxAt Y O40 0 (.slice (some ⟨B26, o27, none⟩) 24 k28) ∧ BoxAt Y O44 0 (.slice (some ⟨B29, o30, none⟩) 24 k31) ∧ BoxAt Y O52 0 (.slice (some ⟨B, o, none⟩) 24 k) ∧ VA Y B o T ∧ VA Y B64 0 (areaL (fun i j => q2 (i + M) j) (n2 - M)) ∧ VA Y B71 0 (Globe.meetL s.2 (areaL (fun i j => q2 (i + M) j) (n2 - M))) ∧ BoxAt Y O78 0 (.slice (some ⟨B71, 0, none⟩) 24 k72) ∧ w59.heap.size ≤ Y.heap.size ∧ w59.heap.size ≤ B64 ∧ w59.heap.size ≤ B71 ∧ w59.heap.size ≤ O78 ∧ Hid (B64 ≠ B71) ∧ Hid (B64 ≠ O78) ∧ Hid (B71 ≠ O78)) (fun hJ => ?_) ?_
    ·
      refine cw_draw [(some 43, [8], []), (some 44, [13], []), (some 45, [43, 44], [0, 1]), (some 46, [45], [2]), (some 47, [46], [3]), (some 48, [2], []), (some 49, [2], []), (some 50, [49], [6]), (some 51, [13], []), (some 52, [50, 51], [7, 8]), (some 53, [48, 52], [5, 9]), (some 54, [53], [10]), (some 55, [47, 54], [4, 11, 11]), (some 42, [55], [12]), (some 56, [42], [13]), (some 57, [42], [13]), (some 14, [], []), (none, [14, 56], [16, 14, 12, 0, 1, 2, 3, 4, 5, 6, 7, 8, 9, 10, 11, 12, 13, 14, 16]), (some 15, [57], [15, 17, 0, 1, 2, 3, 4, 5, 6, 7, 8, 9, 10, 11, 12, 13, 14, 15, 16, 17])] (fun w' => w'.cell? ⟨sb, so + i * 2 + 1, none⟩ = some (.slice (some ⟨S2, s2, none⟩) 24 e2)) (by kernel_rfl) (by kernel_rfl) (by kernel_rfl) (by kernel_rfl) ((calm_then (calm_block (calm_then (calm_then (calm_block (calm_then calm_body))))))) ((hX25.cell d2)) (fun ops Q X62 hb hL hR hK => ?_)
      replace hE := hE.trans hb
      replace hX25 := hX25.trans hb
      replace v5 := v5.ext hb
      replace bO10_0 := BoxAt.ext hb bO10_0
      replace v32 := v32.ext hb
      replace v33 := v33.ext hb
      replace bO40_0 := BoxAt.ext hb bO40_0
      replace bO44_0 := BoxAt.ext hb bO44_0
      replace bO52_0 := BoxAt.ext hb bO52_0
      replace vT := vT.ext hb
      have hs63 := hb.size
      clear hb
      refine wd_take 0 (.slice (some ⟨sb, so, none⟩) t17 lc19) hR rfl (by kernel_rfl) rfl (by kernel_rfl) (fun w _ => by kernel_rfl) ((hX25.cell d2)) ?_
      refine wd_take 1 (.int .i64 (((i : Nat) : Int) : Int)) hR rfl (by kernel_rfl) rfl (by kernel_rfl) (fun w _ => by kernel_rfl) ((hX25.cell d2)) ?_
      refine wd_take 2 (.pointer (some ⟨sb, so + i * 2, none⟩)) hR rfl (by kernel_rfl) rfl (by kernel_rfl) (fun w _ => ex_index (p := .slice (some ⟨sb, so, none⟩) t17 lc19) (i := .int .i64 ((i : Nat) : Int)) rfl (by kernel_rfl) (by kernel_rfl) (ix26 (k := i) (by omega))) ((hX25.cell d2)) ?_
      refine wd_take 3 (.pointer (some ⟨sb, so + i * 2 + 1, none⟩)) hR rfl (by kernel_rfl) rfl (by kernel_rfl) (fun w _ => by kernel_rfl) ((hX25.cell d2)) ?_
      refine wd_take 4 (.agg #[.slice (some ⟨S2, s2, none⟩) 24 e2]) hR rfl (by kernel_rfl) rfl (by kernel_rfl) (fun w hS => ex_load rfl (by kernel_rfl) (ld25 (hS))) ((hX25.cell d2)) ?_
      refine wd_take 5 (.slice a2 n2 c2) hR rfl (by kernel_rfl) rfl (by kernel_rfl) (fun w _ => by kernel_rfl) ((hX25.cell d2)) ?_
      refine wd_take 6 (.slice a2 n2 c2) hR rfl (by kernel_rfl) rfl (by kernel_rfl) (fun w _ => by kernel_rfl) ((hX25.cell d2)) ?_
      refine wd_take 7 (.int .i64 (((n2 : Nat) : Int) : Int)) hR rfl (by kernel_rfl) rfl (by kernel_rfl) (fun w _ => by kernel_rfl) ((hX25.cell d2)) ?_
      refine wd_take 8 (.int .i64 (((i : Nat) : Int) : Int)) hR rfl (by kernel_rfl) rfl (by kernel_rfl) (fun w _ => by kernel_rfl) ((hX25.cell d2)) ?_
      refine wd_take 9 (.int .i64 (((M : Nat) : Int) : Int)) hR rfl (by kernel_rfl) rfl (by kernel_rfl) (fun w _ => ev_int (show _ = Result.ok (Next.value (Value.int .i64 (if (i : Int) < (n2 : Int) then (i : Int) else (n2 : Int)))) _ from by kernel_rfl) (by rw [hM]; split <;> omega)) ((hX25.cell d2)) ?_
      refine wd_take 10 (.slice (if c2 = M then a2 else a2.map (fun x => x.add (M * 4))) (n2 - M) (c2 - M)) hR rfl (by kernel_rfl) rfl (by kernel_rfl) (fun w _ => ex_slice (p := .slice a2 n2 c2) rfl (by kernel_rfl) (by kernel_rfl) (by kernel_rfl) (by kernel_rfl) (sl22_100b (k := M) (by omega) (by omega))) ((hX25.cell d2)) ?_
      refine wd_two 11 16 hR rfl rfl (by kernel_rfl) (by kernel_rfl) (by kernel_rfl) (by kernel_rfl) ?_ ?_
      ·
        refine sn_call (f := 11) (args := #[.slice (if c2 = M then a2 else a2.map (fun x => x.add (M * 4))) (n2 - M) (c2 - M)]) (by kernel_rfl) ((Area_c _ _ QM hE (by omega)).mono ?_)
        rintro e w68 ⟨B64, k65, rfl, hn67, v66, hb⟩
        replace hE := hE.trans hb
        replace hX25 := hX25.trans hb
        replace v5 := v5.ext hb
        replace bO10_0 := BoxAt.ext hb bO10_0
        replace v32 := v32.ext hb
        replace v33 := v33.ext hb
        replace bO40_0 := BoxAt.ext hb bO40_0
        replace bO44_0 := BoxAt.ext hb bO44_0
        replace bO52_0 := BoxAt.ext hb bO52_0
        replace vT := vT.ext hb
        have hs69 := hb.size
        clear hb
        have lt70 := v66.lt
        refine ⟨_, rfl, (hX25.cell d2), ?_⟩
        refine wd_two 12 16 hR rfl rfl (by kernel_rfl) (by kernel_rfl) (by kernel_rfl) (by kernel_rfl) ?_ ?_
        ·
          refine sn_call (f := 28) (args := #[.agg #[.slice (some ⟨S2, s2, none⟩) 24 e2], .agg #[.slice (some ⟨B64, 0, none⟩) 24 k65]]) (by kernel_rfl) ((Meet_v _ _ _ (g2.ext hX25) (Ext.refl _) v66 (Ext.refl _)).mono ?_)
          rintro e w75 ⟨B71, k72, rfl, hn74, -, v73, hb⟩
          replace hE := hE.trans hb
          replace hX25 := hX25.trans hb
          replace v5 := v5.ext hb
          replace bO10_0 := BoxAt.ext hb bO10_0
          replace v32 := v32.ext hb
          replace v33 := v33.ext hb
          replace bO40_0 := BoxAt.ext hb bO40_0
          replace bO44_0 := BoxAt.ext hb bO44_0
          replace bO52_0 := BoxAt.ext hb bO52_0
          replace vT := vT.ext hb
          replace v66 := v66.ext hb
          have hs76 := hb.size
          clear hb
          have lt77 := v73.lt
          refine ⟨_, rfl, (hX25.cell d2), ?_⟩
          refine wd_take 13 (.tuple #[.agg #[.slice (some ⟨B71, 0, none⟩) 24 k72], .int .i64 0]) hR rfl (by kernel_rfl) rfl (by kernel_rfl) (fun w _ => by kernel_rfl) ((hX25.cell d2)) ?_
          refine wd_take 14 (.agg #[.slice (some ⟨B71, 0, none⟩) 24 k72]) hR rfl (by kernel_rfl) rfl (by kernel_rfl) (fun w _ => by kernel_rfl) ((hX25.cell d2)) ?_
          refine wd_take 15 (.int .i64 0) hR rfl (by kernel_rfl) rfl (by kernel_rfl) (fun w _ => by kernel_rfl) ((hX25.cell d2)) ?_
          refine wd_step 16 hR rfl (by kernel_rfl) (by kernel_rfl) (by kernel_rfl) (sn_new (us := #[.slice none 0 0]) (t := 25) (by kernel_rfl) ?_)
          intro O78 X79 hO hOs hb hbx
          have hzO78 := hO; have hyO78 := hOs; clear hO hOs
          have bO78_0 : BoxAt X79 O78 0 (.slice none 0 0) := hbx 0 _ rfl
          clear hbx
          replace hE := hE.trans hb
          replace hX25 := hX25.trans hb
          replace v5 := v5.ext hb
          replace bO10_0 := BoxAt.ext hb bO10_0
          replace v32 := v32.ext hb
          replace v33 := v33.ext hb
          replace bO40_0 := BoxAt.ext hb bO40_0
          replace bO44_0 := BoxAt.ext hb bO44_0
          replace bO52_0 := BoxAt.ext hb bO52_0
          replace vT := vT.ext hb
          replace v66 := v66.ext hb
          replace v73 := v73.ext hb
          have hs80 := hb.size
          clear hb
          have lt81 := bO78_0.lt
          refine ⟨(hX25.cell d2), ?_⟩
          refine wd_step 17 hR rfl (by kernel_rfl) (by kernel_rfl) (by kernel_rfl) (sn_set (O := O78) (j := 0) (v := .slice (some ⟨B71, 0, none⟩) 24 k72) (ex_store (p := .pointer (some ⟨O78, 0, none⟩)) (v := .agg #[.slice (some ⟨B71, 0, none⟩) 24 k72]) rfl (by kernel_rfl) (by kernel_rfl) (st25 bO78_0.1 bO78_0.2)) bO78_0 ?_)
          intro X82 ho hv0 hk
          replace hE := ho.ext hE (Nat.le_trans (Nat.le_trans hs2 (Nat.le_trans hs8 (Nat.le_trans hs12 (Nat.le_trans hs15 (Nat.le_trans hs24 (Nat.le_trans hs37 (Nat.le_trans hs42 (Nat.le_trans hs46 (Nat.le_trans hs49 (Nat.le_trans hs51 (Nat.le_trans hs54 (Nat.le_trans hs57 (Nat.le_trans hs58 (Nat.le_trans hs63 (Nat.le_trans hs69 hs76))))))))))))))) (Nat.le_of_eq hzO78))
          replace hX25 := ho.ext hX25 (Nat.le_trans (Nat.le_trans hs37 (Nat.le_trans hs42 (Nat.le_trans hs46 (Nat.le_trans hs49 (Nat.le_trans hs51 (Nat.le_trans hs54 (Nat.le_trans hs57 (Nat.le_trans hs58 (Nat.le_trans hs63 (Nat.le_trans hs69 hs76)))))))))) (Nat.le_of_eq hzO78))
          replace v5 := ho.va (Nat.ne_of_gt (Nat.lt_of_lt_of_le lt9 (Nat.le_trans (Nat.le_trans hs12 (Nat.le_trans hs15 (Nat.le_trans hs24 (Nat.le_trans hs37 (Nat.le_trans hs42 (Nat.le_trans hs46 (Nat.le_trans hs49 (Nat.le_trans hs51 (Nat.le_trans hs54 (Nat.le_trans hs57 (Nat.le_trans hs58 (Nat.le_trans hs63 (Nat.le_trans hs69 hs76))))))))))))) (Nat.le_of_eq hzO78)))) v5
          replace bO10_0 := ho.box (Nat.ne_of_gt (Nat.lt_of_lt_of_le lt13 (Nat.le_trans (Nat.le_trans hs15 (Nat.le_trans hs24 (Nat.le_trans hs37 (Nat.le_trans hs42 (Nat.le_trans hs46 (Nat.le_trans hs49 (Nat.le_trans hs51 (Nat.le_trans hs54 (Nat.le_trans hs57 (Nat.le_trans hs58 (Nat.le_trans hs63 (Nat.le_trans hs69 hs76)))))))))))) (Nat.le_of_eq hzO78)))) bO10_0
          replace v32 := ho.va (Nat.ne_of_gt (Nat.lt_of_lt_of_le lt38 (Nat.le_trans (Nat.le_trans hs42 (Nat.le_trans hs46 (Nat.le_trans hs49 (Nat.le_trans hs51 (Nat.le_trans hs54 (Nat.le_trans hs57 (Nat.le_trans hs58 (Nat.le_trans hs63 (Nat.le_trans hs69 hs76))))))))) (Nat.le_of_eq hzO78)))) v32
          replace v33 := ho.va (Nat.ne_of_gt (Nat.lt_of_lt_of_le lt39 (Nat.le_trans (Nat.le_trans hs42 (Nat.le_trans hs46 (Nat.le_trans hs49 (Nat.le_trans hs51 (Nat.le_trans hs54 (Nat.le_trans hs57 (Nat.le_trans hs58 (Nat.le_trans hs63 (Nat.le_trans hs69 hs76))))))))) (Nat.le_of_eq hzO78)))) v33
          replace bO40_0 := ho.box (Nat.ne_of_gt (Nat.lt_of_lt_of_le lt43 (Nat.le_trans (Nat.le_trans hs46 (Nat.le_trans hs49 (Nat.le_trans hs51 (Nat.le_trans hs54 (Nat.le_trans hs57 (Nat.le_trans hs58 (Nat.le_trans hs63 (Nat.le_trans hs69 hs76)))))))) (Nat.le_of_eq hzO78)))) bO40_0
          replace bO44_0 := ho.box (Nat.ne_of_gt (Nat.lt_of_lt_of_le lt47 (Nat.le_trans (Nat.le_trans hs49 (Nat.le_trans hs51 (Nat.le_trans hs54 (Nat.le_trans hs57 (Nat.le_trans hs58 (Nat.le_trans hs63 (Nat.le_trans hs69 hs76))))))) (Nat.le_of_eq hzO78)))) bO44_0
          replace bO52_0 := ho.box (Nat.ne_of_gt (Nat.lt_of_lt_of_le lt55 (Nat.le_trans (Nat.le_trans hs57 (Nat.le_trans hs58 (Nat.le_trans hs63 (Nat.le_trans hs69 hs76)))) (Nat.le_of_eq hzO78)))) bO52_0
          replace vT := ho.va (Nat.ne_of_gt (Nat.lt_of_lt_of_le lt61 (Nat.le_trans (Nat.le_trans hs63 (Nat.le_trans hs69 hs76)) (Nat.le_of_eq hzO78)))) vT
          replace v66 := ho.va (Nat.ne_of_gt (Nat.lt_of_lt_of_le lt70 (Nat.le_trans hs76 (Nat.le_of_eq hzO78)))) v66
          replace v73 := ho.va (Nat.ne_of_gt (Nat.lt_of_lt_of_le lt77 (Nat.le_of_eq hzO78))) v73
          have hs83 : X79.heap.size ≤ X82.heap.size := Nat.le_of_eq ho.size.symm
          clear ho hk bO78_0
          have bO78_0 := hv0; clear hv0
          refine ⟨(hX25.cell d2), ?_⟩
          refine wd_take 18 (.int .i64 0) hR rfl (by kernel_rfl) rfl (by kernel_rfl) (fun w _ => by kernel_rfl) ((hX25.cell d2)) ?_
          refine wd_end hL hR hK (by kernel_rfl) ?_
          exact qw_leaf hJ [2, 8, 9, 10, 12, 13, 14, 15] (ws' := [(2, .slice a2 n2 c2), (8, .slice (some ⟨sb, so, none⟩) t17 lc19), (9, .pointer (some ⟨O40, 0, none⟩)), (10, .pointer (some ⟨O44, 0, none⟩)), (12, .pointer (some ⟨O52, 0, none⟩)), (13, .int .i64 (((i : Nat) : Int) : Int)), (14, .pointer (some ⟨O78, 0, none⟩)), (15, .int .i64 0)]) (by kernel_rfl) ⟨B64, k65, B71, k72, O78, rfl, hE, hX25, v5, bO10_0, v32, v33, bO40_0, bO44_0, bO52_0, vT, v66, v73, bO78_0, (Nat.le_trans hs63 (Nat.le_trans hs69 (Nat.le_trans hs76 (Nat.le_trans hs80 hs83)))), (Nat.le_trans hs63 hn67), (Nat.le_trans (Nat.le_trans hs63 hs69) hn74), (Nat.le_trans (Nat.le_trans hs63 (Nat.le_trans hs69 hs76)) (Nat.le_of_eq hzO78)), Lib.hid (Nat.ne_of_lt (Nat.lt_of_lt_of_le lt70 hn74)), Lib.hid (Nat.ne_of_lt (Nat.lt_of_lt_of_le lt70 (Nat.le_trans hs76 (Nat.le_of_eq hzO78)))), Lib.hid (Nat.ne_of_lt (Nat.lt_of_lt_of_le lt77 (Nat.le_of_eq hzO78)))⟩
        ·
          refine sn_new (us := #[.slice none 0 0]) (t := 25) (by kernel_rfl) ?_
          intro O84 X85 hO hOs hb hbx
          have hzO84 := hO; have hyO84 := hOs; clear hO hOs
          have bO84_0 : BoxAt X85 O84 0 (.slice none 0 0) := hbx 0 _ rfl
          clear hbx
          replace hE := hE.trans hb
          replace hX25 := hX25.trans hb
          replace v5 := v5.ext hb
          replace bO10_0 := BoxAt.ext hb bO10_0
          replace v32 := v32.ext hb
          replace v33 := v33.ext hb
          replace bO40_0 := BoxAt.ext hb bO40_0
          replace bO44_0 := BoxAt.ext hb bO44_0
          replace bO52_0 := BoxAt.ext hb bO52_0
          replace vT := vT.ext hb
          replace v66 := v66.ext hb
          have hs86 := hb.size
          clear hb
          have lt87 := bO84_0.lt
          refine ⟨(hX25.cell d2), ?_⟩
          refine wd_step 12 hR rfl (by kernel_rfl) (by kernel_rfl) (by kernel_rfl) (sn_call (f := 28) (args := #[.agg #[.slice (some ⟨S2, s2, none⟩) 24 e2], .agg #[.slice (some ⟨B64, 0, none⟩) 24 k65]]) (by kernel_rfl) ((Meet_v _ _ _ (g2.ext hX25) (Ext.refl _) v66 (Ext.refl _)).mono ?_))
          rintro e w92 ⟨B88, k89, rfl, hn91, -, v90, hb⟩
          replace hE := hE.trans hb
          replace hX25 := hX25.trans hb
          replace v5 := v5.ext hb
          replace bO10_0 := BoxAt.ext hb bO10_0
          replace v32 := v32.ext hb
          replace v33 := v33.ext hb
          replace bO40_0 := BoxAt.ext hb bO40_0
          replace bO44_0 := BoxAt.ext hb bO44_0
          replace bO52_0 := BoxAt.ext hb bO52_0
          replace vT := vT.ext hb
          replace v66 := v66.ext hb
          replace bO84_0 := BoxAt.ext hb bO84_0
          have hs93 := hb.size
          clear hb
          have lt94 := v90.lt
          refine ⟨_, rfl, (hX25.cell d2), ?_⟩
          refine wd_take 13 (.tuple #[.agg #[.slice (some ⟨B88, 0, none⟩) 24 k89], .int .i64 0]) hR rfl (by kernel_rfl) rfl (by kernel_rfl) (fun w _ => by kernel_rfl) ((hX25.cell d2)) ?_
          refine wd_take 14 (.agg #[.slice (some ⟨B88, 0, none⟩) 24 k89]) hR rfl (by kernel_rfl) rfl (by kernel_rfl) (fun w _ => by kernel_rfl) ((hX25.cell d2)) ?_
          refine wd_take 15 (.int .i64 0) hR rfl (by kernel_rfl) rfl (by kernel_rfl) (fun w _ => by kernel_rfl) ((hX25.cell d2)) ?_
          refine wd_step 17 hR rfl (by kernel_rfl) (by kernel_rfl) (by kernel_rfl) (sn_set (O := O84) (j := 0) (v := .slice (some ⟨B88, 0, none⟩) 24 k89) (ex_store (p := .pointer (some ⟨O84, 0, none⟩)) (v := .agg #[.slice (some ⟨B88, 0, none⟩) 24 k89]) rfl (by kernel_rfl) (by kernel_rfl) (st25 bO84_0.1 bO84_0.2)) bO84_0 ?_)
          intro X95 ho hv0 hk
          replace hE := ho.ext hE (Nat.le_trans (Nat.le_trans hs2 (Nat.le_trans hs8 (Nat.le_trans hs12 (Nat.le_trans hs15 (Nat.le_trans hs24 (Nat.le_trans hs37 (Nat.le_trans hs42 (Nat.le_trans hs46 (Nat.le_trans hs49 (Nat.le_trans hs51 (Nat.le_trans hs54 (Nat.le_trans hs57 (Nat.le_trans hs58 (Nat.le_trans hs63 hs69)))))))))))))) (Nat.le_of_eq hzO84))
          replace hX25 := ho.ext hX25 (Nat.le_trans (Nat.le_trans hs37 (Nat.le_trans hs42 (Nat.le_trans hs46 (Nat.le_trans hs49 (Nat.le_trans hs51 (Nat.le_trans hs54 (Nat.le_trans hs57 (Nat.le_trans hs58 (Nat.le_trans hs63 hs69))))))))) (Nat.le_of_eq hzO84))
          replace v5 := ho.va (Nat.ne_of_gt (Nat.lt_of_lt_of_le lt9 (Nat.le_trans (Nat.le_trans hs12 (Nat.le_trans hs15 (Nat.le_trans hs24 (Nat.le_trans hs37 (Nat.le_trans hs42 (Nat.le_trans hs46 (Nat.le_trans hs49 (Nat.le_trans hs51 (Nat.le_trans hs54 (Nat.le_trans hs57 (Nat.le_trans hs58 (Nat.le_trans hs63 hs69)))))))))))) (Nat.le_of_eq hzO84)))) v5
          replace bO10_0 := ho.box (Nat.ne_of_gt (Nat.lt_of_lt_of_le lt13 (Nat.le_trans (Nat.le_trans hs15 (Nat.le_trans hs24 (Nat.le_trans hs37 (Nat.le_trans hs42 (Nat.le_trans hs46 (Nat.le_trans hs49 (Nat.le_trans hs51 (Nat.le_trans hs54 (Nat.le_trans hs57 (Nat.le_trans hs58 (Nat.le_trans hs63 hs69))))))))))) (Nat.le_of_eq hzO84)))) bO10_0
          replace v32 := ho.va (Nat.ne_of_gt (Nat.lt_of_lt_of_le lt38 (Nat.le_trans (Nat.le_trans hs42 (Nat.le_trans hs46 (Nat.le_trans hs49 (Nat.le_trans hs51 (Nat.le_trans hs54 (Nat.le_trans hs57 (Nat.le_trans hs58 (Nat.le_trans hs63 hs69)))))))) (Nat.le_of_eq hzO84)))) v32
          replace v33 := ho.va (Nat.ne_of_gt (Nat.lt_of_lt_of_le lt39 (Nat.le_trans (Nat.le_trans hs42 (Nat.le_trans hs46 (Nat.le_trans hs49 (Nat.le_trans hs51 (Nat.le_trans hs54 (Nat.le_trans hs57 (Nat.le_trans hs58 (Nat.le_trans hs63 hs69)))))))) (Nat.le_of_eq hzO84)))) v33
          replace bO40_0 := ho.box (Nat.ne_of_gt (Nat.lt_of_lt_of_le lt43 (Nat.le_trans (Nat.le_trans hs46 (Nat.le_trans hs49 (Nat.le_trans hs51 (Nat.le_trans hs54 (Nat.le_trans hs57 (Nat.le_trans hs58 (Nat.le_trans hs63 hs69))))))) (Nat.le_of_eq hzO84)))) bO40_0
          replace bO44_0 := ho.box (Nat.ne_of_gt (Nat.lt_of_lt_of_le lt47 (Nat.le_trans (Nat.le_trans hs49 (Nat.le_trans hs51 (Nat.le_trans hs54 (Nat.le_trans hs57 (Nat.le_trans hs58 (Nat.le_trans hs63 hs69)))))) (Nat.le_of_eq hzO84)))) bO44_0
          replace bO52_0 := ho.box (Nat.ne_of_gt (Nat.lt_of_lt_of_le lt55 (Nat.le_trans (Nat.le_trans hs57 (Nat.le_trans hs58 (Nat.le_trans hs63 hs69))) (Nat.le_of_eq hzO84)))) bO52_0
          replace vT := ho.va (Nat.ne_of_gt (Nat.lt_of_lt_of_le lt61 (Nat.le_trans (Nat.le_trans hs63 hs69) (Nat.le_of_eq hzO84)))) vT
          replace v66 := ho.va (Nat.ne_of_gt (Nat.lt_of_lt_of_le lt70 (Nat.le_of_eq hzO84))) v66
          replace v90 := ho.va (Nat.ne_of_lt (Nat.lt_of_lt_of_le lt87 hn91)) v90
          have hs96 : w92.heap.size ≤ X95.heap.size := Nat.le_of_eq ho.size.symm
          clear ho hk bO84_0
          have bO84_0 := hv0; clear hv0
          refine ⟨(hX25.cell d2), ?_⟩
          refine wd_take 18 (.int .i64 0) hR rfl (by kernel_rfl) rfl (by kernel_rfl) (fun w _ => by kernel_rfl) ((hX25.cell d2)) ?_
          refine wd_end hL hR hK (by kernel_rfl) ?_
          exact qw_leaf hJ [2, 8, 9, 10, 12, 13, 14, 15] (ws' := [(2, .slice a2 n2 c2), (8, .slice (some ⟨sb, so, none⟩) t17 lc19), (9, .pointer (some ⟨O40, 0, none⟩)), (10, .pointer (some ⟨O44, 0, none⟩)), (12, .pointer (some ⟨O52, 0, none⟩)), (13, .int .i64 (((i : Nat) : Int) : Int)), (14, .pointer (some ⟨O84, 0, none⟩)), (15, .int .i64 0)]) (by kernel_rfl) ⟨B64, k65, B88, k89, O84, rfl, hE, hX25, v5, bO10_0, v32, v33, bO40_0, bO44_0, bO52_0, vT, v66, v90, bO84_0, (Nat.le_trans hs63 (Nat.le_trans hs69 (Nat.le_trans hs86 (Nat.le_trans hs93 hs96)))), (Nat.le_trans hs63 hn67), (Nat.le_trans (Nat.le_trans hs63 (Nat.le_trans hs69 hs86)) hn91), (Nat.le_trans (Nat.le_trans hs63 hs69) (Nat.le_of_eq hzO84)), Lib.hid (Nat.ne_of_lt (Nat.lt_of_lt_of_le lt70 (Nat.le_trans hs86 hn91))), Lib.hid (Nat.ne_of_lt (Nat.lt_of_lt_of_le lt70 (Nat.le_of_eq hzO84))), Lib.hid (Nat.ne_of_gt (Nat.lt_of_lt_of_le lt87 hn91))⟩
      ·
        refine sn_new (us := #[.slice none 0 0]) (t := 25) (by kernel_rfl) ?_
        intro O97 X98 hO hOs hb hbx
        have hzO97 := hO; have hyO97 := hOs; clear hO hOs
        have bO97_0 : BoxAt X98 O97 0 (.slice none 0 0) := hbx 0 _ rfl
        clear hbx
        replace hE := hE.trans hb
        replace hX25 := hX25.trans hb
        replace v5 := v5.ext hb
        replace bO10_0 := BoxAt.ext hb bO10_0
        replace v32 := v32.ext hb
        replace v33 := v33.ext hb
        replace bO40_0 := BoxAt.ext hb bO40_0
        replace bO44_0 := BoxAt.ext hb bO44_0
        replace bO52_0 := BoxAt.ext hb bO52_0
        replace vT := vT.ext hb
        have hs99 := hb.size
        clear hb
        have lt100 := bO97_0.lt
        refine ⟨(hX25.cell d2), ?_⟩
        refine wd_step 11 hR rfl (by kernel_rfl) (by kernel_rfl) (by kernel_rfl) (sn_call (f := 11) (args := #[.slice (if c2 = M then a2 else a2.map (fun x => x.add (M * 4))) (n2 - M) (c2 - M)]) (by kernel_rfl) ((Area_c _ _ QM hE (by omega)).mono ?_))
        rintro e w105 ⟨B101, k102, rfl, hn104, v103, hb⟩
        replace hE := hE.trans hb
        replace hX25 := hX25.trans hb
        replace v5 := v5.ext hb
        replace bO10_0 := BoxAt.ext hb bO10_0
        replace v32 := v32.ext hb
        replace v33 := v33.ext hb
        replace bO40_0 := BoxAt.ext hb bO40_0
        replace bO44_0 := BoxAt.ext hb bO44_0
        replace bO52_0 := BoxAt.ext hb bO52_0
        replace vT := vT.ext hb
        replace bO97_0 := BoxAt.ext hb bO97_0
        have hs106 := hb.size
        clear hb
        have lt107 := v103.lt
        refine ⟨_, rfl, (hX25.cell d2), ?_⟩
        refine wd_step 12 hR rfl (by kernel_rfl) (by kernel_rfl) (by kernel_rfl) (sn_call (f := 28) (args := #[.agg #[.slice (some ⟨S2, s2, none⟩) 24 e2], .agg #[.slice (some ⟨B101, 0, none⟩) 24 k102]]) (by kernel_rfl) ((Meet_v _ _ _ (g2.ext hX25) (Ext.refl _) v103 (Ext.refl _)).mono ?_))
        rintro e w112 ⟨B108, k109, rfl, hn111, -, v110, hb⟩
        replace hE := hE.trans hb
        replace hX25 := hX25.trans hb
        replace v5 := v5.ext hb
        replace bO10_0 := BoxAt.ext hb bO10_0
        replace v32 := v32.ext hb
        replace v33 := v33.ext hb
        replace bO40_0 := BoxAt.ext hb bO40_0
        replace bO44_0 := BoxAt.ext hb bO44_0
        replace bO52_0 := BoxAt.ext hb bO52_0
        replace vT := vT.ext hb
        replace bO97_0 := BoxAt.ext hb bO97_0
        replace v103 := v103.ext hb
        have hs113 := hb.size
        clear hb
        have lt114 := v110.lt
        refine ⟨_, rfl, (hX25.cell d2), ?_⟩
        refine wd_take 13 (.tuple #[.agg #[.slice (some ⟨B108, 0, none⟩) 24 k109], .int .i64 0]) hR rfl (by kernel_rfl) rfl (by kernel_rfl) (fun w _ => by kernel_rfl) ((hX25.cell d2)) ?_
        refine wd_take 14 (.agg #[.slice (some ⟨B108, 0, none⟩) 24 k109]) hR rfl (by kernel_rfl) rfl (by kernel_rfl) (fun w _ => by kernel_rfl) ((hX25.cell d2)) ?_
        refine wd_take 15 (.int .i64 0) hR rfl (by kernel_rfl) rfl (by kernel_rfl) (fun w _ => by kernel_rfl) ((hX25.cell d2)) ?_
        refine wd_step 17 hR rfl (by kernel_rfl) (by kernel_rfl) (by kernel_rfl) (sn_set (O := O97) (j := 0) (v := .slice (some ⟨B108, 0, none⟩) 24 k109) (ex_store (p := .pointer (some ⟨O97, 0, none⟩)) (v := .agg #[.slice (some ⟨B108, 0, none⟩) 24 k109]) rfl (by kernel_rfl) (by kernel_rfl) (st25 bO97_0.1 bO97_0.2)) bO97_0 ?_)
        intro X115 ho hv0 hk
        replace hE := ho.ext hE (Nat.le_trans (Nat.le_trans hs2 (Nat.le_trans hs8 (Nat.le_trans hs12 (Nat.le_trans hs15 (Nat.le_trans hs24 (Nat.le_trans hs37 (Nat.le_trans hs42 (Nat.le_trans hs46 (Nat.le_trans hs49 (Nat.le_trans hs51 (Nat.le_trans hs54 (Nat.le_trans hs57 (Nat.le_trans hs58 hs63))))))))))))) (Nat.le_of_eq hzO97))
        replace hX25 := ho.ext hX25 (Nat.le_trans (Nat.le_trans hs37 (Nat.le_trans hs42 (Nat.le_trans hs46 (Nat.le_trans hs49 (Nat.le_trans hs51 (Nat.le_trans hs54 (Nat.le_trans hs57 (Nat.le_trans hs58 hs63)))))))) (Nat.le_of_eq hzO97))
        replace v5 := ho.va (Nat.ne_of_gt (Nat.lt_of_lt_of_le lt9 (Nat.le_trans (Nat.le_trans hs12 (Nat.le_trans hs15 (Nat.le_trans hs24 (Nat.le_trans hs37 (Nat.le_trans hs42 (Nat.le_trans hs46 (Nat.le_trans hs49 (Nat.le_trans hs51 (Nat.le_trans hs54 (Nat.le_trans hs57 (Nat.le_trans hs58 hs63))))))))))) (Nat.le_of_eq hzO97)))) v5
        replace bO10_0 := ho.box (Nat.ne_of_gt (Nat.lt_of_lt_of_le lt13 (Nat.le_trans (Nat.le_trans hs15 (Nat.le_trans hs24 (Nat.le_trans hs37 (Nat.le_trans hs42 (Nat.le_trans hs46 (Nat.le_trans hs49 (Nat.le_trans hs51 (Nat.le_trans hs54 (Nat.le_trans hs57 (Nat.le_trans hs58 hs63)))))))))) (Nat.le_of_eq hzO97)))) bO10_0
        replace v32 := ho.va (Nat.ne_of_gt (Nat.lt_of_lt_of_le lt38 (Nat.le_trans (Nat.le_trans hs42 (Nat.le_trans hs46 (Nat.le_trans hs49 (Nat.le_trans hs51 (Nat.le_trans hs54 (Nat.le_trans hs57 (Nat.le_trans hs58 hs63))))))) (Nat.le_of_eq hzO97)))) v32
        replace v33 := ho.va (Nat.ne_of_gt (Nat.lt_of_lt_of_le lt39 (Nat.le_trans (Nat.le_trans hs42 (Nat.le_trans hs46 (Nat.le_trans hs49 (Nat.le_trans hs51 (Nat.le_trans hs54 (Nat.le_trans hs57 (Nat.le_trans hs58 hs63))))))) (Nat.le_of_eq hzO97)))) v33
        replace bO40_0 := ho.box (Nat.ne_of_gt (Nat.lt_of_lt_of_le lt43 (Nat.le_trans (Nat.le_trans hs46 (Nat.le_trans hs49 (Nat.le_trans hs51 (Nat.le_trans hs54 (Nat.le_trans hs57 (Nat.le_trans hs58 hs63)))))) (Nat.le_of_eq hzO97)))) bO40_0
        replace bO44_0 := ho.box (Nat.ne_of_gt (Nat.lt_of_lt_of_le lt47 (Nat.le_trans (Nat.le_trans hs49 (Nat.le_trans hs51 (Nat.le_trans hs54 (Nat.le_trans hs57 (Nat.le_trans hs58 hs63))))) (Nat.le_of_eq hzO97)))) bO44_0
        replace bO52_0 := ho.box (Nat.ne_of_gt (Nat.lt_of_lt_of_le lt55 (Nat.le_trans (Nat.le_trans hs57 (Nat.le_trans hs58 hs63)) (Nat.le_of_eq hzO97)))) bO52_0
        replace vT := ho.va (Nat.ne_of_gt (Nat.lt_of_lt_of_le lt61 (Nat.le_trans hs63 (Nat.le_of_eq hzO97)))) vT
        replace v103 := ho.va (Nat.ne_of_lt (Nat.lt_of_lt_of_le lt100 hn104)) v103
        replace v110 := ho.va (Nat.ne_of_lt (Nat.lt_of_lt_of_le lt100 (Nat.le_trans hs106 hn111))) v110
        have hs116 : w112.heap.size ≤ X115.heap.size := Nat.le_of_eq ho.size.symm
        clear ho hk bO97_0
        have bO97_0 := hv0; clear hv0
        refine ⟨(hX25.cell d2), ?_⟩
        refine wd_take 18 (.int .i64 0) hR rfl (by kernel_rfl) rfl (by kernel_rfl) (fun w _ => by kernel_rfl) ((hX25.cell d2)) ?_
        refine wd_end hL hR hK (by kernel_rfl) ?_
        exact qw_leaf hJ [2, 8, 9, 10, 12, 13, 14, 15] (ws' := [(2, .slice a2 n2 c2), (8, .slice (some ⟨sb, so, none⟩) t17 lc19), (9, .pointer (some ⟨O40, 0, none⟩)), (10, .pointer (some ⟨O44, 0, none⟩)), (12, .pointer (some ⟨O52, 0, none⟩)), (13, .int .i64 (((i : Nat) : Int) : Int)), (14, .pointer (some ⟨O97, 0, none⟩)), (15, .int .i64 0)]) (by kernel_rfl) ⟨B101, k102, B108, k109, O97, rfl, hE, hX25, v5, bO10_0, v32, v33, bO40_0, bO44_0, bO52_0, vT, v103, v110, bO97_0, (Nat.le_trans hs63 (Nat.le_trans hs99 (Nat.le_trans hs106 (Nat.le_trans hs113 hs116)))), (Nat.le_trans (Nat.le_trans hs63 hs99) hn104), (Nat.le_trans (Nat.le_trans hs63 (Nat.le_trans hs99 hs106)) hn111), (Nat.le_trans hs63 (Nat.le_of_eq hzO97)), Lib.hid (Nat.ne_of_lt (Nat.lt_of_lt_of_le lt107 hn111)), Lib.hid (Nat.ne_of_gt (Nat.lt_of_lt_of_le lt100 hn104)), Lib.hid (Nat.ne_of_gt (Nat.lt_of_lt_of_le lt100 (Nat.le_trans hs106 hn111)))⟩
    ·
      clear v5 bO10_0 v32 v33 bO40_0 bO44_0 bO52_0 vT hE hX25
      rintro L ws Y117 ⟨B64, k65, B71, k72, O78, rfl, hE, hX25, v5, bO10_0, v32, v33, bO40_0, bO44_0, bO52_0, vT, v66, v73, bO78_0, hn118, hn119, hn120, hn121, hn122, hn123, hn124⟩
      have lt125 := v66.lt
      have lt126 := v73.lt
      have lt127 := bO78_0.lt
      refine qw_then ?_
      refine cw_seq ?_
      refine cw_join (fun ws' Y => ∃ B130 : Nat, ∃ k131 : Nat, ∃ O137 : Nat, ws' = [(2, .slice a2 n2 c2), (8, .slice (some ⟨sb, so, none⟩) t17 lc19), (9, .pointer (some ⟨O40, 0, none⟩)), (10, .pointer (some ⟨O44, 0, none⟩)), (12, .pointer (some ⟨O52, 0, none⟩)), (13, .int .i64 (((i : Nat) : Int) : Int)), (15, .int .i64 0), (16, .pointer (some ⟨O137, 0, none⟩)), (17, .int .i64 0)] ∧ Ext w Y ∧ Ext w23 Y ∧ VA Y B3 0 (areaL q0 n0) ∧ BoxAt Y O10 0 (.slice (some ⟨B3, 0, none⟩) 24 k4) ∧ VA Y B26 o27 (Globe.leftL (areaL q0 n0) (ss16.map fun s => s.2)) ∧ VA Y B29 o30 (Globe.leftL (areaL q0 n0) (ss16.map fun s => s.1)) ∧ BoxAt Y O40 0 (.slice (some ⟨B26, o27, none⟩) 24 k28) ∧ BoxAt Y O44 0 (.slice (some ⟨B29, o30, none⟩) 24 k31) ∧ BoxAt Y O52 0 (.slice (some ⟨B, o, none⟩) 24 k) ∧ VA Y B o T ∧ VA Y B64 0 (areaL (fun i j => q2 (i + M) j) (n2 - M)) ∧ VA Y B71 0 (Globe.meetL s.2 (areaL (fun i j => q2 (i + M) j) (n2 - M))) ∧ BoxAt Y O78 0 (.slice (some ⟨B71, 0, none⟩) 24 k72) ∧ VA Y B130 0 (Globe.unionL s.1 (Globe.meetL s.2 (areaL (fun i j => q2 (i + M) j) (n2 - M)))) ∧ BoxAt Y O137 0 (.slice (some ⟨B130, 0, none⟩) 24 k131) ∧ Y117.heap.size ≤ Y.heap.size ∧ Y117.heap.size ≤ B130 ∧ Y117.heap.size ≤ O137 ∧ Hid (B130 ≠ O137)) (fun hJ => ?_) ?_
      ·
        refine cw_draw [(some 59, [8], []), (some 60, [13], []), (some 61, [59, 60], [0, 1]), (some 62, [61], [2]), (some 63, [62], [3]), (some 64, [14], []), (some 65, [63, 64], [4, 5]), (some 58, [65], [6]), (some 66, [58], [7]), (some 67, [58], [7]), (some 16, [], []), (none, [16, 66], [10, 8, 6, 0, 1, 2, 3, 4, 5, 6, 7, 8, 10]), (some 17, [67], [9, 11, 0, 1, 2, 3, 4, 5, 6, 7, 8, 9, 10, 11])] (fun w' => w'.cell? ⟨sb, so + i * 2, none⟩ = some (.slice (some ⟨S1, s1, none⟩) 24 e1) ∧ w'.cell? ⟨O78, 0, none⟩ = some (.slice (some ⟨B71, 0, none⟩) 24 k72)) (by kernel_rfl) (by kernel_rfl) (by kernel_rfl) (by kernel_rfl) ((calm_then (calm_block (calm_then (calm_then (calm_block (calm_then calm_body))))))) (⟨(hX25.cell d1), bO78_0.1⟩) (fun ops Q X128 hb hL hR hK => ?_)
        replace hE := hE.trans hb
        replace hX25 := hX25.trans hb
        replace v5 := v5.ext hb
        replace bO10_0 := BoxAt.ext hb bO10_0
        replace v32 := v32.ext hb
        replace v33 := v33.ext hb
        replace bO40_0 := BoxAt.ext hb bO40_0
        replace bO44_0 := BoxAt.ext hb bO44_0
        replace bO52_0 := BoxAt.ext hb bO52_0
        replace vT := vT.ext hb
        replace v66 := v66.ext hb
        replace v73 := v73.ext hb
        replace bO78_0 := BoxAt.ext hb bO78_0
        have hs129 := hb.size
        clear hb
        refine wd_take 0 (.slice (some ⟨sb, so, none⟩) t17 lc19) hR rfl (by kernel_rfl) rfl (by kernel_rfl) (fun w _ => by kernel_rfl) (⟨(hX25.cell d1), bO78_0.1⟩) ?_
        refine wd_take 1 (.int .i64 (((i : Nat) : Int) : Int)) hR rfl (by kernel_rfl) rfl (by kernel_rfl) (fun w _ => by kernel_rfl) (⟨(hX25.cell d1), bO78_0.1⟩) ?_
        refine wd_take 2 (.pointer (some ⟨sb, so + i * 2, none⟩)) hR rfl (by kernel_rfl) rfl (by kernel_rfl) (fun w _ => ex_index (p := .slice (some ⟨sb, so, none⟩) t17 lc19) (i := .int .i64 ((i : Nat) : Int)) rfl (by kernel_rfl) (by kernel_rfl) (ix26 (k := i) (by omega))) (⟨(hX25.cell d1), bO78_0.1⟩) ?_
        refine wd_take 3 (.pointer (some ⟨sb, so + i * 2, none⟩)) hR rfl (by kernel_rfl) rfl (by kernel_rfl) (fun w _ => by kernel_rfl) (⟨(hX25.cell d1), bO78_0.1⟩) ?_
        refine wd_take 4 (.agg #[.slice (some ⟨S1, s1, none⟩) 24 e1]) hR rfl (by kernel_rfl) rfl (by kernel_rfl) (fun w hS => ex_load rfl (by kernel_rfl) (ld25 (hS.1))) (⟨(hX25.cell d1), bO78_0.1⟩) ?_
        refine wd_take 5 (.agg #[.slice (some ⟨B71, 0, none⟩) 24 k72]) hR rfl (by kernel_rfl) rfl (by kernel_rfl) (fun w hS => ex_load rfl (by kernel_rfl) (ld25 (hS.2))) (⟨(hX25.cell d1), bO78_0.1⟩) ?_
        refine wd_two 6 10 hR rfl rfl (by kernel_rfl) (by kernel_rfl) (by kernel_rfl) (by kernel_rfl) ?_ ?_
        ·
          refine sn_call (f := 31) (args := #[.agg #[.slice (some ⟨S1, s1, none⟩) 24 e1], .agg #[.slice (some ⟨B71, 0, none⟩) 24 k72]]) (by kernel_rfl) ((Union_v _ _ _ (g1.ext hX25) (Ext.refl _) v73 (Ext.refl _)).mono ?_)
          rintro e w134 ⟨B130, k131, rfl, hn133, -, v132, hb⟩
          replace hE := hE.trans hb
          replace hX25 := hX25.trans hb
          replace v5 := v5.ext hb
          replace bO10_0 := BoxAt.ext hb bO10_0
          replace v32 := v32.ext hb
          replace v33 := v33.ext hb
          replace bO40_0 := BoxAt.ext hb bO40_0
          replace bO44_0 := BoxAt.ext hb bO44_0
          replace bO52_0 := BoxAt.ext hb bO52_0
          replace vT := vT.ext hb
          replace v66 := v66.ext hb
          replace v73 := v73.ext hb
          replace bO78_0 := BoxAt.ext hb bO78_0
          have hs135 := hb.size
          clear hb
          have lt136 := v132.lt
          refine ⟨_, rfl, ⟨(hX25.cell d1), bO78_0.1⟩, ?_⟩
          refine wd_take 7 (.tuple #[.agg #[.slice (some ⟨B130, 0, none⟩) 24 k131], .int .i64 0]) hR rfl (by kernel_rfl) rfl (by kernel_rfl) (fun w _ => by kernel_rfl) (⟨(hX25.cell d1), bO78_0.1⟩) ?_
          refine wd_take 8 (.agg #[.slice (some ⟨B130, 0, none⟩) 24 k131]) hR rfl (by kernel_rfl) rfl (by kernel_rfl) (fun w _ => by kernel_rfl) (⟨(hX25.cell d1), bO78_0.1⟩) ?_
          refine wd_take 9 (.int .i64 0) hR rfl (by kernel_rfl) rfl (by kernel_rfl) (fun w _ => by kernel_rfl) (⟨(hX25.cell d1), bO78_0.1⟩) ?_
          refine wd_step 10 hR rfl (by kernel_rfl) (by kernel_rfl) (by kernel_rfl) (sn_new (us := #[.slice none 0 0]) (t := 25) (by kernel_rfl) ?_)
          intro O137 X138 hO hOs hb hbx
          have hzO137 := hO; have hyO137 := hOs; clear hO hOs
          have bO137_0 : BoxAt X138 O137 0 (.slice none 0 0) := hbx 0 _ rfl
          clear hbx
          replace hE := hE.trans hb
          replace hX25 := hX25.trans hb
          replace v5 := v5.ext hb
          replace bO10_0 := BoxAt.ext hb bO10_0
          replace v32 := v32.ext hb
          replace v33 := v33.ext hb
          replace bO40_0 := BoxAt.ext hb bO40_0
          replace bO44_0 := BoxAt.ext hb bO44_0
          replace bO52_0 := BoxAt.ext hb bO52_0
          replace vT := vT.ext hb
          replace v66 := v66.ext hb
          replace v73 := v73.ext hb
          replace bO78_0 := BoxAt.ext hb bO78_0
          replace v132 := v132.ext hb
          have hs139 := hb.size
          clear hb
          have lt140 := bO137_0.lt
          refine ⟨⟨(hX25.cell d1), bO78_0.1⟩, ?_⟩
          refine wd_step 11 hR rfl (by kernel_rfl) (by kernel_rfl) (by kernel_rfl) (sn_set (O := O137) (j := 0) (v := .slice (some ⟨B130, 0, none⟩) 24 k131) (ex_store (p := .pointer (some ⟨O137, 0, none⟩)) (v := .agg #[.slice (some ⟨B130, 0, none⟩) 24 k131]) rfl (by kernel_rfl) (by kernel_rfl) (st25 bO137_0.1 bO137_0.2)) bO137_0 ?_)
          intro X141 ho hv0 hk
          replace hE := ho.ext hE (Nat.le_trans (Nat.le_trans hs2 (Nat.le_trans hs8 (Nat.le_trans hs12 (Nat.le_trans hs15 (Nat.le_trans hs24 (Nat.le_trans hs37 (Nat.le_trans hs42 (Nat.le_trans hs46 (Nat.le_trans hs49 (Nat.le_trans hs51 (Nat.le_trans hs54 (Nat.le_trans hs57 (Nat.le_trans hs58 (Nat.le_trans hn118 (Nat.le_trans hs129 hs135))))))))))))))) (Nat.le_of_eq hzO137))
          replace hX25 := ho.ext hX25 (Nat.le_trans (Nat.le_trans hs37 (Nat.le_trans hs42 (Nat.le_trans hs46 (Nat.le_trans hs49 (Nat.le_trans hs51 (Nat.le_trans hs54 (Nat.le_trans hs57 (Nat.le_trans hs58 (Nat.le_trans hn118 (Nat.le_trans hs129 hs135)))))))))) (Nat.le_of_eq hzO137))
          replace v5 := ho.va (Nat.ne_of_gt (Nat.lt_of_lt_of_le lt9 (Nat.le_trans (Nat.le_trans hs12 (Nat.le_trans hs15 (Nat.le_trans hs24 (Nat.le_trans hs37 (Nat.le_trans hs42 (Nat.le_trans hs46 (Nat.le_trans hs49 (Nat.le_trans hs51 (Nat.le_trans hs54 (Nat.le_trans hs57 (Nat.le_trans hs58 (Nat.le_trans hn118 (Nat.le_trans hs129 hs135))))))))))))) (Nat.le_of_eq hzO137)))) v5
          replace bO10_0 := ho.box (Nat.ne_of_gt (Nat.lt_of_lt_of_le lt13 (Nat.le_trans (Nat.le_trans hs15 (Nat.le_trans hs24 (Nat.le_trans hs37 (Nat.le_trans hs42 (Nat.le_trans hs46 (Nat.le_trans hs49 (Nat.le_trans hs51 (Nat.le_trans hs54 (Nat.le_trans hs57 (Nat.le_trans hs58 (Nat.le_trans hn118 (Nat.le_trans hs129 hs135)))))))))))) (Nat.le_of_eq hzO137)))) bO10_0
          replace v32 := ho.va (Nat.ne_of_gt (Nat.lt_of_lt_of_le lt38 (Nat.le_trans (Nat.le_trans hs42 (Nat.le_trans hs46 (Nat.le_trans hs49 (Nat.le_trans hs51 (Nat.le_trans hs54 (Nat.le_trans hs57 (Nat.le_trans hs58 (Nat.le_trans hn118 (Nat.le_trans hs129 hs135))))))))) (Nat.le_of_eq hzO137)))) v32
          replace v33 := ho.va (Nat.ne_of_gt (Nat.lt_of_lt_of_le lt39 (Nat.le_trans (Nat.le_trans hs42 (Nat.le_trans hs46 (Nat.le_trans hs49 (Nat.le_trans hs51 (Nat.le_trans hs54 (Nat.le_trans hs57 (Nat.le_trans hs58 (Nat.le_trans hn118 (Nat.le_trans hs129 hs135))))))))) (Nat.le_of_eq hzO137)))) v33
          replace bO40_0 := ho.box (Nat.ne_of_gt (Nat.lt_of_lt_of_le lt43 (Nat.le_trans (Nat.le_trans hs46 (Nat.le_trans hs49 (Nat.le_trans hs51 (Nat.le_trans hs54 (Nat.le_trans hs57 (Nat.le_trans hs58 (Nat.le_trans hn118 (Nat.le_trans hs129 hs135)))))))) (Nat.le_of_eq hzO137)))) bO40_0
          replace bO44_0 := ho.box (Nat.ne_of_gt (Nat.lt_of_lt_of_le lt47 (Nat.le_trans (Nat.le_trans hs49 (Nat.le_trans hs51 (Nat.le_trans hs54 (Nat.le_trans hs57 (Nat.le_trans hs58 (Nat.le_trans hn118 (Nat.le_trans hs129 hs135))))))) (Nat.le_of_eq hzO137)))) bO44_0
          replace bO52_0 := ho.box (Nat.ne_of_gt (Nat.lt_of_lt_of_le lt55 (Nat.le_trans (Nat.le_trans hs57 (Nat.le_trans hs58 (Nat.le_trans hn118 (Nat.le_trans hs129 hs135)))) (Nat.le_of_eq hzO137)))) bO52_0
          replace vT := ho.va (Nat.ne_of_gt (Nat.lt_of_lt_of_le lt61 (Nat.le_trans (Nat.le_trans hn118 (Nat.le_trans hs129 hs135)) (Nat.le_of_eq hzO137)))) vT
          replace v66 := ho.va (Nat.ne_of_gt (Nat.lt_of_lt_of_le lt125 (Nat.le_trans (Nat.le_trans hs129 hs135) (Nat.le_of_eq hzO137)))) v66
          replace v73 := ho.va (Nat.ne_of_gt (Nat.lt_of_lt_of_le lt126 (Nat.le_trans (Nat.le_trans hs129 hs135) (Nat.le_of_eq hzO137)))) v73
          replace bO78_0 := ho.box (Nat.ne_of_gt (Nat.lt_of_lt_of_le lt127 (Nat.le_trans (Nat.le_trans hs129 hs135) (Nat.le_of_eq hzO137)))) bO78_0
          replace v132 := ho.va (Nat.ne_of_gt (Nat.lt_of_lt_of_le lt136 (Nat.le_of_eq hzO137))) v132
          have hs142 : X138.heap.size ≤ X141.heap.size := Nat.le_of_eq ho.size.symm
          clear ho hk bO137_0
          have bO137_0 := hv0; clear hv0
          refine ⟨⟨(hX25.cell d1), bO78_0.1⟩, ?_⟩
          refine wd_take 12 (.int .i64 0) hR rfl (by kernel_rfl) rfl (by kernel_rfl) (fun w _ => by kernel_rfl) (⟨(hX25.cell d1), bO78_0.1⟩) ?_
          refine wd_end hL hR hK (by kernel_rfl) ?_
          exact qw_leaf hJ [2, 8, 9, 10, 12, 13, 15, 16, 17] (ws' := [(2, .slice a2 n2 c2), (8, .slice (some ⟨sb, so, none⟩) t17 lc19), (9, .pointer (some ⟨O40, 0, none⟩)), (10, .pointer (some ⟨O44, 0, none⟩)), (12, .pointer (some ⟨O52, 0, none⟩)), (13, .int .i64 (((i : Nat) : Int) : Int)), (15, .int .i64 0), (16, .pointer (some ⟨O137, 0, none⟩)), (17, .int .i64 0)]) (by kernel_rfl) ⟨B130, k131, O137, rfl, hE, hX25, v5, bO10_0, v32, v33, bO40_0, bO44_0, bO52_0, vT, v66, v73, bO78_0, v132, bO137_0, (Nat.le_trans hs129 (Nat.le_trans hs135 (Nat.le_trans hs139 hs142))), (Nat.le_trans hs129 hn133), (Nat.le_trans (Nat.le_trans hs129 hs135) (Nat.le_of_eq hzO137)), Lib.hid (Nat.ne_of_lt (Nat.lt_of_lt_of_le lt136 (Nat.le_of_eq hzO137)))⟩
        ·
          refine sn_new (us := #[.slice none 0 0]) (t := 25) (by kernel_rfl) ?_
          intro O143 X144 hO hOs hb hbx
          have hzO143 := hO; have hyO143 := hOs; clear hO hOs
          have bO143_0 : BoxAt X144 O143 0 (.slice none 0 0) := hbx 0 _ rfl
          clear hbx
          replace hE := hE.trans hb
          replace hX25 := hX25.trans hb
          replace v5 := v5.ext hb
          replace bO10_0 := BoxAt.ext hb bO10_0
          replace v32 := v32.ext hb
          replace v33 := v33.ext hb
          replace bO40_0 := BoxAt.ext hb bO40_0
          replace bO44_0 := BoxAt.ext hb bO44_0
          replace bO52_0 := BoxAt.ext hb bO52_0
          replace vT := vT.ext hb
          replace v66 := v66.ext hb
          replace v73 := v73.ext hb
          replace bO78_0 := BoxAt.ext hb bO78_0
          have hs145 := hb.size
          clear hb
          have lt146 := bO143_0.lt
          refine ⟨⟨(hX25.cell d1), bO78_0.1⟩, ?_⟩
          refine wd_step 6 hR rfl (by kernel_rfl) (by kernel_rfl) (by kernel_rfl) (sn_call (f := 31) (args := #[.agg #[.slice (some ⟨S1, s1, none⟩) 24 e1], .agg #[.slice (some ⟨B71, 0, none⟩) 24 k72]]) (by kernel_rfl) ((Union_v _ _ _ (g1.ext hX25) (Ext.refl _) v73 (Ext.refl _)).mono ?_))
          rintro e w151 ⟨B147, k148, rfl, hn150, -, v149, hb⟩
          replace hE := hE.trans hb
          replace hX25 := hX25.trans hb
          replace v5 := v5.ext hb
          replace bO10_0 := BoxAt.ext hb bO10_0
          replace v32 := v32.ext hb
          replace v33 := v33.ext hb
          replace bO40_0 := BoxAt.ext hb bO40_0
          replace bO44_0 := BoxAt.ext hb bO44_0
          replace bO52_0 := BoxAt.ext hb bO52_0
          replace vT := vT.ext hb
          replace v66 := v66.ext hb
          replace v73 := v73.ext hb
          replace bO78_0 := BoxAt.ext hb bO78_0
          replace bO143_0 := BoxAt.ext hb bO143_0
          have hs152 := hb.size
          clear hb
          have lt153 := v149.lt
          refine ⟨_, rfl, ⟨(hX25.cell d1), bO78_0.1⟩, ?_⟩
          refine wd_take 7 (.tuple #[.agg #[.slice (some ⟨B147, 0, none⟩) 24 k148], .int .i64 0]) hR rfl (by kernel_rfl) rfl (by kernel_rfl) (fun w _ => by kernel_rfl) (⟨(hX25.cell d1), bO78_0.1⟩) ?_
          refine wd_take 8 (.agg #[.slice (some ⟨B147, 0, none⟩) 24 k148]) hR rfl (by kernel_rfl) rfl (by kernel_rfl) (fun w _ => by kernel_rfl) (⟨(hX25.cell d1), bO78_0.1⟩) ?_
          refine wd_take 9 (.int .i64 0) hR rfl (by kernel_rfl) rfl (by kernel_rfl) (fun w _ => by kernel_rfl) (⟨(hX25.cell d1), bO78_0.1⟩) ?_
          refine wd_step 11 hR rfl (by kernel_rfl) (by kernel_rfl) (by kernel_rfl) (sn_set (O := O143) (j := 0) (v := .slice (some ⟨B147, 0, none⟩) 24 k148) (ex_store (p := .pointer (some ⟨O143, 0, none⟩)) (v := .agg #[.slice (some ⟨B147, 0, none⟩) 24 k148]) rfl (by kernel_rfl) (by kernel_rfl) (st25 bO143_0.1 bO143_0.2)) bO143_0 ?_)
          intro X154 ho hv0 hk
          replace hE := ho.ext hE (Nat.le_trans (Nat.le_trans hs2 (Nat.le_trans hs8 (Nat.le_trans hs12 (Nat.le_trans hs15 (Nat.le_trans hs24 (Nat.le_trans hs37 (Nat.le_trans hs42 (Nat.le_trans hs46 (Nat.le_trans hs49 (Nat.le_trans hs51 (Nat.le_trans hs54 (Nat.le_trans hs57 (Nat.le_trans hs58 (Nat.le_trans hn118 hs129)))))))))))))) (Nat.le_of_eq hzO143))
          replace hX25 := ho.ext hX25 (Nat.le_trans (Nat.le_trans hs37 (Nat.le_trans hs42 (Nat.le_trans hs46 (Nat.le_trans hs49 (Nat.le_trans hs51 (Nat.le_trans hs54 (Nat.le_trans hs57 (Nat.le_trans hs58 (Nat.le_trans hn118 hs129))))))))) (Nat.le_of_eq hzO143))
          replace v5 := ho.va (Nat.ne_of_gt (Nat.lt_of_lt_of_le lt9 (Nat.le_trans (Nat.le_trans hs12 (Nat.le_trans hs15 (Nat.le_trans hs24 (Nat.le_trans hs37 (Nat.le_trans hs42 (Nat.le_trans hs46 (Nat.le_trans hs49 (Nat.le_trans hs51 (Nat.le_trans hs54 (Nat.le_trans hs57 (Nat.le_trans hs58 (Nat.le_trans hn118 hs129)))))))))))) (Nat.le_of_eq hzO143)))) v5
          replace bO10_0 := ho.box (Nat.ne_of_gt (Nat.lt_of_lt_of_le lt13 (Nat.le_trans (Nat.le_trans hs15 (Nat.le_trans hs24 (Nat.le_trans hs37 (Nat.le_trans hs42 (Nat.le_trans hs46 (Nat.le_trans hs49 (Nat.le_trans hs51 (Nat.le_trans hs54 (Nat.le_trans hs57 (Nat.le_trans hs58 (Nat.le_trans hn118 hs129))))))))))) (Nat.le_of_eq hzO143)))) bO10_0
          replace v32 := ho.va (Nat.ne_of_gt (Nat.lt_of_lt_of_le lt38 (Nat.le_trans (Nat.le_trans hs42 (Nat.le_trans hs46 (Nat.le_trans hs49 (Nat.le_trans hs51 (Nat.le_trans hs54 (Nat.le_trans hs57 (Nat.le_trans hs58 (Nat.le_trans hn118 hs129)))))))) (Nat.le_of_eq hzO143)))) v32
          replace v33 := ho.va (Nat.ne_of_gt (Nat.lt_of_lt_of_le lt39 (Nat.le_trans (Nat.le_trans hs42 (Nat.le_trans hs46 (Nat.le_trans hs49 (Nat.le_trans hs51 (Nat.le_trans hs54 (Nat.le_trans hs57 (Nat.le_trans hs58 (Nat.le_trans hn118 hs129)))))))) (Nat.le_of_eq hzO143)))) v33
          replace bO40_0 := ho.box (Nat.ne_of_gt (Nat.lt_of_lt_of_le lt43 (Nat.le_trans (Nat.le_trans hs46 (Nat.le_trans hs49 (Nat.le_trans hs51 (Nat.le_trans hs54 (Nat.le_trans hs57 (Nat.le_trans hs58 (Nat.le_trans hn118 hs129))))))) (Nat.le_of_eq hzO143)))) bO40_0
          replace bO44_0 := ho.box (Nat.ne_of_gt (Nat.lt_of_lt_of_le lt47 (Nat.le_trans (Nat.le_trans hs49 (Nat.le_trans hs51 (Nat.le_trans hs54 (Nat.le_trans hs57 (Nat.le_trans hs58 (Nat.le_trans hn118 hs129)))))) (Nat.le_of_eq hzO143)))) bO44_0
          replace bO52_0 := ho.box (Nat.ne_of_gt (Nat.lt_of_lt_of_le lt55 (Nat.le_trans (Nat.le_trans hs57 (Nat.le_trans hs58 (Nat.le_trans hn118 hs129))) (Nat.le_of_eq hzO143)))) bO52_0
          replace vT := ho.va (Nat.ne_of_gt (Nat.lt_of_lt_of_le lt61 (Nat.le_trans (Nat.le_trans hn118 hs129) (Nat.le_of_eq hzO143)))) vT
          replace v66 := ho.va (Nat.ne_of_gt (Nat.lt_of_lt_of_le lt125 (Nat.le_trans hs129 (Nat.le_of_eq hzO143)))) v66
          replace v73 := ho.va (Nat.ne_of_gt (Nat.lt_of_lt_of_le lt126 (Nat.le_trans hs129 (Nat.le_of_eq hzO143)))) v73
          replace bO78_0 := ho.box (Nat.ne_of_gt (Nat.lt_of_lt_of_le lt127 (Nat.le_trans hs129 (Nat.le_of_eq hzO143)))) bO78_0
          replace v149 := ho.va (Nat.ne_of_lt (Nat.lt_of_lt_of_le lt146 hn150)) v149
          have hs155 : w151.heap.size ≤ X154.heap.size := Nat.le_of_eq ho.size.symm
          clear ho hk bO143_0
          have bO143_0 := hv0; clear hv0
          refine ⟨⟨(hX25.cell d1), bO78_0.1⟩, ?_⟩
          refine wd_take 12 (.int .i64 0) hR rfl (by kernel_rfl) rfl (by kernel_rfl) (fun w _ => by kernel_rfl) (⟨(hX25.cell d1), bO78_0.1⟩) ?_
          refine wd_end hL hR hK (by kernel_rfl) ?_
          exact qw_leaf hJ [2, 8, 9, 10, 12, 13, 15, 16, 17] (ws' := [(2, .slice a2 n2 c2), (8, .slice (some ⟨sb, so, none⟩) t17 lc19), (9, .pointer (some ⟨O40, 0, none⟩)), (10, .pointer (some ⟨O44, 0, none⟩)), (12, .pointer (some ⟨O52, 0, none⟩)), (13, .int .i64 (((i : Nat) : Int) : Int)), (15, .int .i64 0), (16, .pointer (some ⟨O143, 0, none⟩)), (17, .int .i64 0)]) (by kernel_rfl) ⟨B147, k148, O143, rfl, hE, hX25, v5, bO10_0, v32, v33, bO40_0, bO44_0, bO52_0, vT, v66, v73, bO78_0, v149, bO143_0, (Nat.le_trans hs129 (Nat.le_trans hs145 (Nat.le_trans hs152 hs155))), (Nat.le_trans (Nat.le_trans hs129 hs145) hn150), (Nat.le_trans hs129 (Nat.le_of_eq hzO143)), Lib.hid (Nat.ne_of_gt (Nat.lt_of_lt_of_le lt146 hn150))⟩
      ·
        clear v5 bO10_0 v32 v33 bO40_0 bO44_0 bO52_0 vT v66 v73 bO78_0 hE hX25
        rintro L ws Y156 ⟨B130, k131, O137, rfl, hE, hX25, v5, bO10_0, v32, v33, bO40_0, bO44_0, bO52_0, vT, v66, v73, bO78_0, v132, bO137_0, hn157, hn158, hn159, hn160⟩
        have lt161 := v132.lt
        have lt162 := bO137_0.lt
        refine qw_then ?_
        refine cw_seq ?_
        refine cw_plain ?_
        refine pl_take (.agg #[.slice (some ⟨B, o, none⟩) 24 k]) rfl (by kernel_rfl) (by kernel_rfl) (by kernel_rfl) (ex_load rfl (by kernel_rfl) (ld25 (bO52_0.1))) ?_
        refine pl_take (.agg #[.slice (some ⟨B130, 0, none⟩) 24 k131]) rfl (by kernel_rfl) (by kernel_rfl) (by kernel_rfl) (ex_load rfl (by kernel_rfl) (ld25 (bO137_0.1))) ?_
        refine pl_step rfl (by kernel_rfl) (by kernel_rfl) (by kernel_rfl) (sn_call (f := 33) (args := #[.agg #[.slice (some ⟨B, o, none⟩) 24 k], .agg #[.slice (some ⟨B130, 0, none⟩) 24 k131]]) (by kernel_rfl) ((Less_v _ _ _ vT (Ext.refl _) v132 (Ext.refl _)).mono ?_))
        rintro e w167 ⟨B163, k164, rfl, hn166, -, v165, hb⟩
        replace hE := hE.trans hb
        replace hX25 := hX25.trans hb
        replace v5 := v5.ext hb
        replace bO10_0 := BoxAt.ext hb bO10_0
        replace v32 := v32.ext hb
        replace v33 := v33.ext hb
        replace bO40_0 := BoxAt.ext hb bO40_0
        replace bO44_0 := BoxAt.ext hb bO44_0
        replace bO52_0 := BoxAt.ext hb bO52_0
        replace vT := vT.ext hb
        replace v66 := v66.ext hb
        replace v73 := v73.ext hb
        replace bO78_0 := BoxAt.ext hb bO78_0
        replace v132 := v132.ext hb
        replace bO137_0 := BoxAt.ext hb bO137_0
        have hs168 := hb.size
        clear hb
        have lt169 := v165.lt
        refine ⟨_, rfl, ?_⟩
        refine pl_take (.tuple #[.agg #[.slice (some ⟨B163, 0, none⟩) 24 k164], .int .i64 0]) rfl (by kernel_rfl) (by kernel_rfl) (by kernel_rfl) (by kernel_rfl) ?_
        refine pl_take (.agg #[.slice (some ⟨B163, 0, none⟩) 24 k164]) rfl (by kernel_rfl) (by kernel_rfl) (by kernel_rfl) (by kernel_rfl) ?_
        refine pl_take (.int .i64 0) rfl (by kernel_rfl) (by kernel_rfl) (by kernel_rfl) (by kernel_rfl) ?_
        refine pl_step rfl (by kernel_rfl) (by kernel_rfl) (by kernel_rfl) (sn_new (us := #[.slice none 0 0]) (t := 25) (by kernel_rfl) ?_)
        intro O170 X171 hO hOs hb hbx
        have hzO170 := hO; have hyO170 := hOs; clear hO hOs
        have bO170_0 : BoxAt X171 O170 0 (.slice none 0 0) := hbx 0 _ rfl
        clear hbx
        replace hE := hE.trans hb
        replace hX25 := hX25.trans hb
        replace v5 := v5.ext hb
        replace bO10_0 := BoxAt.ext hb bO10_0
        replace v32 := v32.ext hb
        replace v33 := v33.ext hb
        replace bO40_0 := BoxAt.ext hb bO40_0
        replace bO44_0 := BoxAt.ext hb bO44_0
        replace bO52_0 := BoxAt.ext hb bO52_0
        replace vT := vT.ext hb
        replace v66 := v66.ext hb
        replace v73 := v73.ext hb
        replace bO78_0 := BoxAt.ext hb bO78_0
        replace v132 := v132.ext hb
        replace bO137_0 := BoxAt.ext hb bO137_0
        replace v165 := v165.ext hb
        have hs172 := hb.size
        clear hb
        have lt173 := bO170_0.lt
        refine pl_put rfl (by kernel_rfl) (by kernel_rfl) (sn_set (O := O170) (j := 0) (v := .slice (some ⟨B163, 0, none⟩) 24 k164) (ex_store (p := .pointer (some ⟨O170, 0, none⟩)) (v := .agg #[.slice (some ⟨B163, 0, none⟩) 24 k164]) rfl (by kernel_rfl) (by kernel_rfl) (st25 bO170_0.1 bO170_0.2)) bO170_0 ?_)
        intro X174 ho hv0 hk
        replace hE := ho.ext hE (Nat.le_trans (Nat.le_trans hs2 (Nat.le_trans hs8 (Nat.le_trans hs12 (Nat.le_trans hs15 (Nat.le_trans hs24 (Nat.le_trans hs37 (Nat.le_trans hs42 (Nat.le_trans hs46 (Nat.le_trans hs49 (Nat.le_trans hs51 (Nat.le_trans hs54 (Nat.le_trans hs57 (Nat.le_trans hs58 (Nat.le_trans hn118 (Nat.le_trans hn157 hs168))))))))))))))) (Nat.le_of_eq hzO170))
        replace hX25 := ho.ext hX25 (Nat.le_trans (Nat.le_trans hs37 (Nat.le_trans hs42 (Nat.le_trans hs46 (Nat.le_trans hs49 (Nat.le_trans hs51 (Nat.le_trans hs54 (Nat.le_trans hs57 (Nat.le_trans hs58 (Nat.le_trans hn118 (Nat.le_trans hn157 hs168)))))))))) (Nat.le_of_eq hzO170))
        replace v5 := ho.va (Nat.ne_of_gt (Nat.lt_of_lt_of_le lt9 (Nat.le_trans (Nat.le_trans hs12 (Nat.le_trans hs15 (Nat.le_trans hs24 (Nat.le_trans hs37 (Nat.le_trans hs42 (Nat.le_trans hs46 (Nat.le_trans hs49 (Nat.le_trans hs51 (Nat.le_trans hs54 (Nat.le_trans hs57 (Nat.le_trans hs58 (Nat.le_trans hn118 (Nat.le_trans hn157 hs168))))))))))))) (Nat.le_of_eq hzO170)))) v5
        replace bO10_0 := ho.box (Nat.ne_of_gt (Nat.lt_of_lt_of_le lt13 (Nat.le_trans (Nat.le_trans hs15 (Nat.le_trans hs24 (Nat.le_trans hs37 (Nat.le_trans hs42 (Nat.le_trans hs46 (Nat.le_trans hs49 (Nat.le_trans hs51 (Nat.le_trans hs54 (Nat.le_trans hs57 (Nat.le_trans hs58 (Nat.le_trans hn118 (Nat.le_trans hn157 hs168)))))))))))) (Nat.le_of_eq hzO170)))) bO10_0
        replace v32 := ho.va (Nat.ne_of_gt (Nat.lt_of_lt_of_le lt38 (Nat.le_trans (Nat.le_trans hs42 (Nat.le_trans hs46 (Nat.le_trans hs49 (Nat.le_trans hs51 (Nat.le_trans hs54 (Nat.le_trans hs57 (Nat.le_trans hs58 (Nat.le_trans hn118 (Nat.le_trans hn157 hs168))))))))) (Nat.le_of_eq hzO170)))) v32
        replace v33 := ho.va (Nat.ne_of_gt (Nat.lt_of_lt_of_le lt39 (Nat.le_trans (Nat.le_trans hs42 (Nat.le_trans hs46 (Nat.le_trans hs49 (Nat.le_trans hs51 (Nat.le_trans hs54 (Nat.le_trans hs57 (Nat.le_trans hs58 (Nat.le_trans hn118 (Nat.le_trans hn157 hs168))))))))) (Nat.le_of_eq hzO170)))) v33
        replace bO40_0 := ho.box (Nat.ne_of_gt (Nat.lt_of_lt_of_le lt43 (Nat.le_trans (Nat.le_trans hs46 (Nat.le_trans hs49 (Nat.le_trans hs51 (Nat.le_trans hs54 (Nat.le_trans hs57 (Nat.le_trans hs58 (Nat.le_trans hn118 (Nat.le_trans hn157 hs168)))))))) (Nat.le_of_eq hzO170)))) bO40_0
        replace bO44_0 := ho.box (Nat.ne_of_gt (Nat.lt_of_lt_of_le lt47 (Nat.le_trans (Nat.le_trans hs49 (Nat.le_trans hs51 (Nat.le_trans hs54 (Nat.le_trans hs57 (Nat.le_trans hs58 (Nat.le_trans hn118 (Nat.le_trans hn157 hs168))))))) (Nat.le_of_eq hzO170)))) bO44_0
        replace bO52_0 := ho.box (Nat.ne_of_gt (Nat.lt_of_lt_of_le lt55 (Nat.le_trans (Nat.le_trans hs57 (Nat.le_trans hs58 (Nat.le_trans hn118 (Nat.le_trans hn157 hs168)))) (Nat.le_of_eq hzO170)))) bO52_0
        replace vT := ho.va (Nat.ne_of_gt (Nat.lt_of_lt_of_le lt61 (Nat.le_trans (Nat.le_trans hn118 (Nat.le_trans hn157 hs168)) (Nat.le_of_eq hzO170)))) vT
        replace v66 := ho.va (Nat.ne_of_gt (Nat.lt_of_lt_of_le lt125 (Nat.le_trans (Nat.le_trans hn157 hs168) (Nat.le_of_eq hzO170)))) v66
        replace v73 := ho.va (Nat.ne_of_gt (Nat.lt_of_lt_of_le lt126 (Nat.le_trans (Nat.le_trans hn157 hs168) (Nat.le_of_eq hzO170)))) v73
        replace bO78_0 := ho.box (Nat.ne_of_gt (Nat.lt_of_lt_of_le lt127 (Nat.le_trans (Nat.le_trans hn157 hs168) (Nat.le_of_eq hzO170)))) bO78_0
        replace v132 := ho.va (Nat.ne_of_gt (Nat.lt_of_lt_of_le lt161 (Nat.le_trans hs168 (Nat.le_of_eq hzO170)))) v132
        replace bO137_0 := ho.box (Nat.ne_of_gt (Nat.lt_of_lt_of_le lt162 (Nat.le_trans hs168 (Nat.le_of_eq hzO170)))) bO137_0
        replace v165 := ho.va (Nat.ne_of_gt (Nat.lt_of_lt_of_le lt169 (Nat.le_of_eq hzO170))) v165
        have hs175 : X171.heap.size ≤ X174.heap.size := Nat.le_of_eq ho.size.symm
        clear ho hk bO170_0
        have bO170_0 := hv0; clear hv0
        refine pl_take (.int .i64 0) rfl (by kernel_rfl) (by kernel_rfl) (by kernel_rfl) (by kernel_rfl) ?_
        refine pl_nil ?_
        refine qw_then ?_
        refine cw_clean [2, 8, 9, 10, 12, 13, 15, 17, 18, 19] (ws' := [(2, .slice a2 n2 c2), (8, .slice (some ⟨sb, so, none⟩) t17 lc19), (9, .pointer (some ⟨O40, 0, none⟩)), (10, .pointer (some ⟨O44, 0, none⟩)), (12, .pointer (some ⟨O52, 0, none⟩)), (13, .int .i64 (((i : Nat) : Int) : Int)), (15, .int .i64 0), (17, .int .i64 0), (18, .pointer (some ⟨O170, 0, none⟩)), (19, .int .i64 0)]) (by kernel_rfl) (fun L => ?_)
        refine cw_seq ?_
        refine cw_seq ?_
        refine cw_plain ?_
        refine pl_take (.int .i64 0) rfl (by kernel_rfl) (by kernel_rfl) (by kernel_rfl) (by kernel_rfl) ?_
        refine pl_take (.bool false) rfl (by kernel_rfl) (by kernel_rfl) (by kernel_rfl) (by kernel_rfl) ?_
        refine pl_take (.bool false) rfl (by kernel_rfl) (by kernel_rfl) (by kernel_rfl) (by kernel_rfl) ?_
        refine pl_take (.int .i64 0) rfl (by kernel_rfl) (by kernel_rfl) (by kernel_rfl) (by kernel_rfl) ?_
        refine pl_take (.bool false) rfl (by kernel_rfl) (by kernel_rfl) (by kernel_rfl) (by kernel_rfl) ?_
        refine pl_take (.bool false) rfl (by kernel_rfl) (by kernel_rfl) (by kernel_rfl) (by kernel_rfl) ?_
        refine pl_take (.bool false) rfl (by kernel_rfl) (by kernel_rfl) (by kernel_rfl) (by kernel_rfl) ?_
        refine pl_take (.int .i64 0) rfl (by kernel_rfl) (by kernel_rfl) (by kernel_rfl) (by kernel_rfl) ?_
        refine pl_take (.bool false) rfl (by kernel_rfl) (by kernel_rfl) (by kernel_rfl) (by kernel_rfl) ?_
        refine pl_take (.bool false) rfl (by kernel_rfl) (by kernel_rfl) (by kernel_rfl) (by kernel_rfl) ?_
        refine pl_nil ?_
        refine qw_then ?_
        refine cw_clean [2, 8, 9, 10, 12, 13, 18, 83] (ws' := [(2, .slice a2 n2 c2), (8, .slice (some ⟨sb, so, none⟩) t17 lc19), (9, .pointer (some ⟨O40, 0, none⟩)), (10, .pointer (some ⟨O44, 0, none⟩)), (12, .pointer (some ⟨O52, 0, none⟩)), (13, .int .i64 (((i : Nat) : Int) : Int)), (18, .pointer (some ⟨O170, 0, none⟩)), (83, .bool false)]) (by kernel_rfl) (fun L => ?_)
        refine cw_f (by kernel_rfl) ?_
        refine cw_skip ?_
        refine qw_then ?_
        refine cw_plain ?_
        refine pl_take (.agg #[.slice (some ⟨B163, 0, none⟩) 24 k164]) rfl (by kernel_rfl) (by kernel_rfl) (by kernel_rfl) (ex_load rfl (by kernel_rfl) (ld25 (bO170_0.1))) ?_
        refine pl_put rfl (by kernel_rfl) (by kernel_rfl) (sn_set (O := O52) (j := 0) (v := .slice (some ⟨B163, 0, none⟩) 24 k164) (ex_store (p := .pointer (some ⟨O52, 0, none⟩)) (v := .agg #[.slice (some ⟨B163, 0, none⟩) 24 k164]) rfl (by kernel_rfl) (by kernel_rfl) (st25 bO52_0.1 bO52_0.2)) bO52_0 ?_)
        intro X176 ho hv0 hk
        replace hE := ho.ext hE (Nat.le_trans (Nat.le_trans hs2 (Nat.le_trans hs8 (Nat.le_trans hs12 (Nat.le_trans hs15 (Nat.le_trans hs24 (Nat.le_trans hs37 (Nat.le_trans hs42 (Nat.le_trans hs46 (Nat.le_trans hs49 hs51))))))))) (Nat.le_of_eq hzO52))
        replace hX25 := ho.ext hX25 (Nat.le_trans (Nat.le_trans hs37 (Nat.le_trans hs42 (Nat.le_trans hs46 (Nat.le_trans hs49 hs51)))) (Nat.le_of_eq hzO52))
        replace v5 := ho.va (Nat.ne_of_gt (Nat.lt_of_lt_of_le lt9 (Nat.le_trans (Nat.le_trans hs12 (Nat.le_trans hs15 (Nat.le_trans hs24 (Nat.le_trans hs37 (Nat.le_trans hs42 (Nat.le_trans hs46 (Nat.le_trans hs49 hs51))))))) (Nat.le_of_eq hzO52)))) v5
        replace bO10_0 := ho.box (Nat.ne_of_gt (Nat.lt_of_lt_of_le lt13 (Nat.le_trans (Nat.le_trans hs15 (Nat.le_trans hs24 (Nat.le_trans hs37 (Nat.le_trans hs42 (Nat.le_trans hs46 (Nat.le_trans hs49 hs51)))))) (Nat.le_of_eq hzO52)))) bO10_0
        replace v32 := ho.va (Nat.ne_of_gt (Nat.lt_of_lt_of_le lt38 (Nat.le_trans (Nat.le_trans hs42 (Nat.le_trans hs46 (Nat.le_trans hs49 hs51))) (Nat.le_of_eq hzO52)))) v32
        replace v33 := ho.va (Nat.ne_of_gt (Nat.lt_of_lt_of_le lt39 (Nat.le_trans (Nat.le_trans hs42 (Nat.le_trans hs46 (Nat.le_trans hs49 hs51))) (Nat.le_of_eq hzO52)))) v33
        replace bO40_0 := ho.box (Nat.ne_of_gt (Nat.lt_of_lt_of_le lt43 (Nat.le_trans (Nat.le_trans hs46 (Nat.le_trans hs49 hs51)) (Nat.le_of_eq hzO52)))) bO40_0
        replace bO44_0 := ho.box (Nat.ne_of_gt (Nat.lt_of_lt_of_le lt47 (Nat.le_trans (Nat.le_trans hs49 hs51) (Nat.le_of_eq hzO52)))) bO44_0
        replace vT := ho.va hne.out vT
        replace v66 := ho.va (Nat.ne_of_lt (Nat.lt_of_lt_of_le lt55 (Nat.le_trans (Nat.le_trans hs57 hs58) hn119))) v66
        replace v73 := ho.va (Nat.ne_of_lt (Nat.lt_of_lt_of_le lt55 (Nat.le_trans (Nat.le_trans hs57 hs58) hn120))) v73
        replace bO78_0 := ho.box (Nat.ne_of_lt (Nat.lt_of_lt_of_le lt55 (Nat.le_trans (Nat.le_trans hs57 hs58) hn121))) bO78_0
        replace v132 := ho.va (Nat.ne_of_lt (Nat.lt_of_lt_of_le lt55 (Nat.le_trans (Nat.le_trans hs57 (Nat.le_trans hs58 hn118)) hn158))) v132
        replace bO137_0 := ho.box (Nat.ne_of_lt (Nat.lt_of_lt_of_le lt55 (Nat.le_trans (Nat.le_trans hs57 (Nat.le_trans hs58 hn118)) hn159))) bO137_0
        replace v165 := ho.va (Nat.ne_of_lt (Nat.lt_of_lt_of_le lt55 (Nat.le_trans (Nat.le_trans hs57 (Nat.le_trans hs58 (Nat.le_trans hn118 hn157))) hn166))) v165
        replace bO170_0 := ho.box (Nat.ne_of_lt (Nat.lt_of_lt_of_le lt55 (Nat.le_trans (Nat.le_trans hs57 (Nat.le_trans hs58 (Nat.le_trans hn118 (Nat.le_trans hn157 hs168)))) (Nat.le_of_eq hzO170)))) bO170_0
        have hs177 : X174.heap.size ≤ X176.heap.size := Nat.le_of_eq ho.size.symm
        clear ho hk bO52_0
        have bO52_0 := hv0; clear hv0
        refine pl_nil ?_
        refine qw_block ?_
        refine qw_then ?_
        refine cw_plain ?_
        refine pl_take (.int .i64 (((i : Nat) : Int) : Int)) rfl (by kernel_rfl) (by kernel_rfl) (by kernel_rfl) (by kernel_rfl) ?_
        refine pl_take (.int .i64 (((i + 1 : Nat) : Int) : Int)) rfl (by kernel_rfl) (by kernel_rfl) (by kernel_rfl) (ev_wrap (by kernel_rfl) (by omega) (by omega)) ?_
        refine pl_take (.int .i64 (((i + 1 : Nat) : Int) : Int)) rfl (by kernel_rfl) (by kernel_rfl) (by kernel_rfl) (by kernel_rfl) ?_
        refine pl_nil ?_
        refine qw_round [2, 8, 9, 10, 12, 13] (ws' := [(2, .slice a2 n2 c2), (8, .slice (some ⟨sb, so, none⟩) t17 lc19), (9, .pointer (some ⟨O40, 0, none⟩)), (10, .pointer (some ⟨O44, 0, none⟩)), (12, .pointer (some ⟨O52, 0, none⟩)), (13, .int .i64 (((i + 1 : Nat) : Int) : Int))]) (by kernel_rfl) _ ?_ ⟨(i + 1), B163, 0, k164, (Globe.lessL T (Globe.unionL s.1 (Globe.meetL s.2 (areaL (fun i j => q2 (i + M) j) (n2 - M))))), rfl, rfl, (Nat.le_trans hs58 (Nat.le_trans hn118 (Nat.le_trans hn157 (Nat.le_trans hs168 (Nat.le_trans hs172 (Nat.le_trans hs175 hs177)))))), hE, hX25, v5, bO10_0, v32, v33, bO40_0, bO44_0, bO52_0, v165, by omega, Lib.hid (Nat.ne_of_lt (Nat.lt_of_lt_of_le lt55 (Nat.le_trans (Nat.le_trans hs57 (Nat.le_trans hs58 (Nat.le_trans hn118 hn157))) hn166))), (by rw [hl1, hl2]; exact Globe.between_step q3' (area_valid _ _) Hbt.1 Hbt.2)⟩
        omega
  ·
    have hit : i = t17 := by omega
    have hbt := Hbt
    rw [hit, List.take_of_length_le (by rw [List.length_map, sS20.1]; exact Nat.le_refl _), List.take_of_length_le (by rw [List.length_map, sS20.1]; exact Nat.le_refl _)] at hbt
    refine cw_seq ?_
    refine cw_seq ?_
    refine cw_plain ?_
    refine pl_take (.int .i64 (((i : Nat) : Int) : Int)) rfl (by kernel_rfl) (by kernel_rfl) (by kernel_rfl) (by kernel_rfl) ?_
    refine pl_take (.slice la18 t17 lc19) rfl (by kernel_rfl) (by kernel_rfl) (by kernel_rfl) (by kernel_rfl) ?_
    refine pl_take (.int .i64 (((t17 : Nat) : Int) : Int)) rfl (by kernel_rfl) (by kernel_rfl) (by kernel_rfl) (by kernel_rfl) ?_
    refine pl_take (.bool false) rfl (by kernel_rfl) (by kernel_rfl) (by kernel_rfl) (ev_ndec (show _ = Result.ok (Next.value (Value.bool (decide ((((i : Nat) : Int) : Int) < (((t17 : Nat) : Int) : Int))))) _ from by kernel_rfl) (by omega)) ?_
    refine pl_nil ?_
    refine qw_then ?_
    refine cw_f (by kernel_rfl) ?_
    refine cw_exit ?_
    refine qw_then_exit ?_
    refine qw_then_exit ?_
    refine qw_block_out ?_
    refine qw_then ?_
    refine cw_seq ?_
    refine cw_plain ?_
    refine pl_take (.agg #[.slice (some ⟨B, o, none⟩) 24 k]) rfl (by kernel_rfl) (by kernel_rfl) (by kernel_rfl) (ex_load rfl (by kernel_rfl) (ld25 (bO52_0.1))) ?_
    refine pl_take (.agg #[.slice (some ⟨B26, o27, none⟩) 24 k28]) rfl (by kernel_rfl) (by kernel_rfl) (by kernel_rfl) (ex_load rfl (by kernel_rfl) (ld25 (bO40_0.1))) ?_
    refine pl_step rfl (by kernel_rfl) (by kernel_rfl) (by kernel_rfl) (sn_call (f := 32) (args := #[.agg #[.slice (some ⟨B, o, none⟩) 24 k], .agg #[.slice (some ⟨B26, o27, none⟩) 24 k28]]) (by kernel_rfl) ((Contains_r _ _ _ vT (Ext.refl _) v32 (Ext.refl _) hbt.1).mono ?_))
    rintro e w178 ⟨rfl, hb⟩
    replace hE := hE.trans hb
    replace hX25 := hX25.trans hb
    replace v5 := v5.ext hb
    replace bO10_0 := BoxAt.ext hb bO10_0
    replace v32 := v32.ext hb
    replace v33 := v33.ext hb
    replace bO40_0 := BoxAt.ext hb bO40_0
    replace bO44_0 := BoxAt.ext hb bO44_0
    replace bO52_0 := BoxAt.ext hb bO52_0
    replace vT := vT.ext hb
    have hs179 := hb.size
    clear hb
    refine ⟨_, rfl, ?_⟩
    refine pl_take (.bool true) rfl (by kernel_rfl) (by kernel_rfl) (by kernel_rfl) (by kernel_rfl) ?_
    refine pl_take (.agg #[.slice (some ⟨B29, o30, none⟩) 24 k31]) rfl (by kernel_rfl) (by kernel_rfl) (by kernel_rfl) (ex_load rfl (by kernel_rfl) (ld25 (bO44_0.1))) ?_
    refine pl_take (.agg #[.slice (some ⟨B, o, none⟩) 24 k]) rfl (by kernel_rfl) (by kernel_rfl) (by kernel_rfl) (ex_load rfl (by kernel_rfl) (ld25 (bO52_0.1))) ?_
    refine pl_step rfl (by kernel_rfl) (by kernel_rfl) (by kernel_rfl) (sn_call (f := 32) (args := #[.agg #[.slice (some ⟨B29, o30, none⟩) 24 k31], .agg #[.slice (some ⟨B, o, none⟩) 24 k]]) (by kernel_rfl) ((Contains_r _ _ _ v33 (Ext.refl _) vT (Ext.refl _) hbt.2).mono ?_))
    rintro e w180 ⟨rfl, hb⟩
    replace hE := hE.trans hb
    replace hX25 := hX25.trans hb
    replace v5 := v5.ext hb
    replace bO10_0 := BoxAt.ext hb bO10_0
    replace v32 := v32.ext hb
    replace v33 := v33.ext hb
    replace bO40_0 := BoxAt.ext hb bO40_0
    replace bO44_0 := BoxAt.ext hb bO44_0
    replace bO52_0 := BoxAt.ext hb bO52_0
    replace vT := vT.ext hb
    have hs181 := hb.size
    clear hb
    refine ⟨_, rfl, ?_⟩
    refine pl_take (.bool true) rfl (by kernel_rfl) (by kernel_rfl) (by kernel_rfl) (by kernel_rfl) ?_
    refine pl_take (.bool true) rfl (by kernel_rfl) (by kernel_rfl) (by kernel_rfl) (by kernel_rfl) ?_
    refine pl_nil ?_
    refine qw_then ?_
    refine cw_clean [6] (ws' := [(6, .bool true)]) (by kernel_rfl) (fun L => ?_)
    refine cw_ret ?_
    refine qw_ret [.bool true] rfl ⟨(by kernel_rfl), trivial⟩ ?_
    exact ⟨rfl, hE⟩

end Go.Proofs.YtglfoglkdbbmmaaDoor

/- Cells in memory. -/
namespace Go.Proofs.YtglfoglkdbbmmaaDoor
open Go.RowKit

/-- The cells as they lie in memory, one behind the other. -/
def cellVals (l : List (Nat × Nat)) : List Value := l.flatMap fun p => [.int .i64 (p.1 : Int), .int .i64 (p.2 : Int)]
theorem cellVals_snoc (l : List (Nat × Nat)) (p : Nat × Nat) : cellVals (l ++ [p]) = cellVals l ++ [.int .i64 (p.1 : Int), .int .i64 (p.2 : Int)] := by simp [cellVals]
theorem cellVals_len (l : List (Nat × Nat)) : (cellVals l).length = l.length * 2 := by
  induction l with
  | nil => rfl
  | cons p l ih => simp only [cellVals, List.flatMap_cons, List.length_append, List.length_cons, List.length_nil] at ih ⊢; omega

theorem cell_two_new (w : World) (x y : Value) (t : TypeId) : ∀ j u, [x, y][j]? = some u → (w.alloc (.cells #[x, y] t)).cell? ((⟨w.heap.size, 0, none⟩ : Addr).add j) = some u := by
  intro j u hj
  rw [Addr.add_mid, Nat.zero_add]
  match j, hj with
  | 0, hj => simp at hj; subst hj; simp [go_sem]
  | 1, hj => simp at hj; subst hj; simp [go_sem]
  | _ + 2, hj => simp at hj

/-- The slice at a (n elements) reads as the list of cells. -/
def CellsAt (w : World) (a : Option Addr) (n : Nat) (cs : List (Nat × Nat)) : Prop :=
  cs.length = n ∧ (n = 0 ∨ ∃ b, a = some ⟨b, 0, none⟩ ∧ ∀ (i : Nat) (p : Nat × Nat), cs[i]? = some p → w.cell? ⟨b, i * 2, none⟩ = some (.int .i64 (p.1 : Int)) ∧ w.cell? ⟨b, i * 2 + 1, none⟩ = some (.int .i64 (p.2 : Int)))
theorem CellsAt.ext {w w' : World} {a : Option Addr} {n : Nat} {cs : List (Nat × Nat)} (h : CellsAt w a n cs) (hE : Ext w w') : CellsAt w' a n cs := by
  refine ⟨h.1, h.2.imp id fun ⟨b, ha, hc⟩ => ⟨b, ha, fun i p hp => ⟨hE.cell (hc i p hp).1, hE.cell (hc i p hp).2⟩⟩⟩
theorem CellsAt.nil (w : World) (a : Option Addr) : CellsAt w a 0 [] := ⟨rfl, .inl rfl⟩
theorem cellVals_at : ∀ {cs : List (Nat × Nat)} {i : Nat} {p : Nat × Nat}, cs[i]? = some p → (cellVals cs)[i * 2]? = some (.int .i64 (p.1 : Int)) ∧ (cellVals cs)[i * 2 + 1]? = some (.int .i64 (p.2 : Int))
  | q :: cs, 0, p, h => by simp at h; subst h; simp [cellVals]
  | q :: cs, i + 1, p, h => by
    have ih := cellVals_at (cs := cs) (i := i) (p := p) (by simpa using h)
    have e : cellVals (q :: cs) = [.int .i64 (q.1 : Int), .int .i64 (q.2 : Int)] ++ cellVals cs := by simp [cellVals]
    rw [e, show (i + 1) * 2 = 2 + i * 2 by omega, show 2 + i * 2 + 1 = 2 + (i * 2 + 1) by omega]
    rw [List.getElem?_append_right (by simp), List.getElem?_append_right (by simp)]
    simpa using ih
theorem CellsAt.own {w : World} {base : Nat} {v : Value} {cs : List (Nat × Nat)} {n : Nat} (hn : cs.length = n) (h : w.ownsRow base 94 2 v n (cellVals cs)) : ∃ a k, v = .slice a n k ∧ CellsAt w a n cs := by
  rcases h.2 with ⟨rfl, h0⟩ | ⟨g, cap, cur, rfl, _, _, _⟩
  · subst h0; exact ⟨none, 0, rfl, hn, .inl rfl⟩
  · refine ⟨some ⟨g, 0, none⟩, cap, rfl, hn, .inr ⟨g, rfl, fun i p hp => ?_⟩⟩
    have hi : i < cs.length := (List.getElem?_eq_some_iff.1 hp).1
    obtain ⟨e1, e2⟩ := cellVals_at hp
    rw [h.cellAt (i * 2) (by omega), h.cellAt (i * 2 + 1) (by omega)]
    exact ⟨e1, e2⟩

end Go.Proofs.YtglfoglkdbbmmaaDoor

/- Contracts of the reference of package globe: ValidCell. -/
namespace Go.Proofs.YtglfoglkdbbmmaaDoor
open Go.RowKit


end Go.Proofs.YtglfoglkdbbmmaaDoor

/- Contracts of the reference of package globe: ValidCell, Valid, has, Cells, Count. -/
namespace Go.Proofs.YtglfoglkdbbmmaaDoor
open Go.RowKit

theorem has_nil {l : List Int} {n : Nat} (hn : l.length = n) (h24 : n ≠ 24) : Globe.validL l = false := by
  rw [Bool.eq_false_iff]; intro h; exact h24 (by rw [← hn]; exact Globe.len_of_valid h)
theorem bad_row {l : List Int} {k : Nat} (hk : k < l.length) (h : Globe.rowOk (Globe.nth l k) = false) : Globe.validL l = false := by
  rw [Bool.eq_false_iff]; intro hv
  have := (Globe.validL_t.1 hv).2 _ (Globe.nth_mem hk)
  rw [← Globe.rowOk_t, h] at this
  cases this
theorem all_rows {l : List Int} (hl : l.length = 24) (h : ∀ j, j < 24 → Globe.rowOk (Globe.nth l j) = true) : Globe.validL l = true :=
  Globe.validL_t.2 ⟨hl, fun r hr => by
    obtain ⟨i, hi, rfl⟩ := Globe.mem_nth hr
    exact Globe.rowOk_t.1 (h i (by omega))⟩

set_option maxHeartbeats 2000000 in
theorem rValid_c {w0 : World} {a : Option Addr} {l : List Int} {n : Nat} (c : Nat) {v : Bool} (w : World) (h : AA w0 a l n v) (hE : Ext w0 w) :
    Calls Tryd.prog 44 #[.agg #[.slice a n c]] w fun e w' => e = .returned (.bool v) ∧ Ext w w' := by
  obtain ⟨h1, hn, hl, hv⟩ := h.ext hE
  clear hE h
  rcases Nat.eq_zero_or_pos n with h0 | h0
  · subst h0
    obtain rfl := List.length_eq_zero_iff.1 hn
    obtain rfl : v = false := by rw [← hv]; exact has_nil rfl (by simp)
    clear h1 hn hv hl
    go_enter Tryd.func44, Tryd.ntmps44
    go_wp2_with fail
    refine wp_loop_rounds 1 ?_
    rw [rounds_succ]
    go_wp2_with fail
    go_ret
    exact ⟨rfl, by (repeat' (first | (with_reducible assumption) | (with_reducible exact Ext.refl _) | (with_reducible refine Ext.alloc ?_ _) | (with_reducible refine Ext.drew ?_) | (with_reducible refine Ext.drewN ?_ _) | (with_reducible refine Ext.setCell ?_ ?_ _) | (with_reducible refine Ext.trans ?_ (by assumption)) | go_size))⟩
  · obtain ⟨b, off, rfl, hr⟩ : ∃ b off, a = some ⟨b, off, none⟩ ∧ ∀ i, i < n → w.cell? ⟨b, off + i, none⟩ = some (.int .i64 (Globe.nth l i)) := by
      rcases h1 with rfl | ⟨b, off, rfl, h⟩
      · simp at hn; omega
      · exact ⟨b, off, rfl, fun i hi => h i (by omega)⟩
    have HR := Lib.hid hr; have Hn := Lib.hid hn; have Hv := Lib.hid hv
    clear h1 hr hn hv
    go_enter Tryd.func44, Tryd.ntmps44
    go_wp2_with fail
    refine wp_name (fun V => Ext w V ∧ V.cell? ⟨w.heap.size, 0, none⟩ = some (.slice (some ⟨b, off, none⟩) n c)) ⟨by (repeat' (first | (with_reducible assumption) | (with_reducible exact Ext.refl _) | (with_reducible refine Ext.alloc ?_ _) | (with_reducible refine Ext.drew ?_) | (with_reducible refine Ext.drewN ?_ _) | (with_reducible refine Ext.setCell ?_ ?_ _) | (with_reducible refine Ext.trans ?_ (by assumption)) | go_size)), by simp [go_sem]⟩ ?_
    rintro V ⟨hV, k1⟩
    go_loopw [3] (fun p wr => ∃ k : Nat, k ≤ n ∧ k ≤ 25 ∧ p = .int .i64 k ∧ Hid (∀ j, j < k → Globe.rowOk (Globe.nth l j) = true) ∧ Ext V wr) (fun p _ => 25 - (intOf p).toNat)
    case atStart => exact ⟨0, by omega, by omega, rfl, fun j hj => by omega, Ext.refl _⟩
    case round =>
      obtain ⟨k, hk, hk25, rfl, Hp, hE⟩ := hrel
      replace k1 := hE.cell k1
      by_cases hlt : k < n
      · by_cases hl5 : k < 25
        · have d1 : wr.cell? ⟨b, off + k, none⟩ = some (.int .i64 (Globe.nth l k)) := hE.cell (hV.cell (HR.out k hlt))
          have kk0 : (0 : Int) ≤ (k : Int) := by omega
          have kk1 : (k : Int) < (n : Int) := by omega
          cases hq : Globe.rowOk (Globe.nth l k)
          · have hf : v = false := by rw [← Hv.out]; exact bad_row (by rw [Hn.out]; exact hlt) hq
            have Hf := Lib.hid hf; clear hf
            have hq' := Globe.rowOk_f.1 hq
            clear hq
            generalize Globe.nth l k = x at *
            by_cases hx : x < 0
            · clear hq'
              go_wp2_with fail
              go_ret
              exact ⟨ret_bool Hf.out.symm, by (repeat' (first | (with_reducible assumption) | (with_reducible exact Ext.refl _) | (with_reducible refine Ext.alloc ?_ _) | (with_reducible refine Ext.drew ?_) | (with_reducible refine Ext.drewN ?_ _) | (with_reducible refine Ext.setCell ?_ ?_ _) | (with_reducible refine Ext.trans ?_ (by assumption)) | go_size))⟩
            · have hx2 : 281474976710656 ≤ x := by omega
              clear hq'
              go_wp2_with fail
              go_ret
              exact ⟨ret_bool Hf.out.symm, by (repeat' (first | (with_reducible assumption) | (with_reducible exact Ext.refl _) | (with_reducible refine Ext.alloc ?_ _) | (with_reducible refine Ext.drew ?_) | (with_reducible refine Ext.drewN ?_ _) | (with_reducible refine Ext.setCell ?_ ?_ _) | (with_reducible refine Ext.trans ?_ (by assumption)) | go_size))⟩
          · have hq' := Globe.rowOk_t.1 hq
            have Hq := Lib.hid hq; clear hq
            obtain ⟨q1, q2⟩ := hq'
            have q3 : ¬ 281474976710656 ≤ Globe.nth l k := by omega
            have q4 : ¬ Globe.nth l k < 0 := by omega
            go_wp2_with fail
            go_roundw
            case rel => exact ⟨k + 1, by omega, by omega, by go_num, fun j hj => by
              rcases Nat.lt_or_ge j k with h | h
              · exact Hp.out j h
              · rw [show j = k by omega]; exact Hq.out, by (repeat' (first | (with_reducible assumption) | (with_reducible exact Ext.refl _) | (with_reducible refine Ext.alloc ?_ _) | (with_reducible refine Ext.drew ?_) | (with_reducible refine Ext.drewN ?_ _) | (with_reducible refine Ext.setCell ?_ ?_ _) | (with_reducible refine Ext.trans ?_ (by assumption)) | go_size))⟩
            case measure => simp [intOf]; omega
        · obtain rfl : k = 25 := by omega
          have hf : v = false := by rw [← Hv.out]; exact has_nil Hn.out (by omega)
          subst hf
          have hn24 : ((n : Int) == 24) = false := by simp; omega
          have hn24' : (n == 24) = false := by simp; omega
          have hn24'' : ¬ n = 24 := by omega
          go_wp2_with fail
          go_ret
          exact ⟨rfl, by (repeat' (first | (with_reducible assumption) | (with_reducible exact Ext.refl _) | (with_reducible refine Ext.alloc ?_ _) | (with_reducible refine Ext.drew ?_) | (with_reducible refine Ext.drewN ?_ _) | (with_reducible refine Ext.setCell ?_ ?_ _) | (with_reducible refine Ext.trans ?_ (by assumption)) | go_size))⟩
      · obtain rfl : k = n := by omega
        by_cases h24 : k = 24
        · subst h24
          have ht : v = true := by rw [← Hv.out]; exact all_rows Hn.out Hp.out
          subst ht
          go_wp2_with fail
          go_ret
          exact ⟨rfl, by (repeat' (first | (with_reducible assumption) | (with_reducible exact Ext.refl _) | (with_reducible refine Ext.alloc ?_ _) | (with_reducible refine Ext.drew ?_) | (with_reducible refine Ext.drewN ?_ _) | (with_reducible refine Ext.setCell ?_ ?_ _) | (with_reducible refine Ext.trans ?_ (by assumption)) | go_size))⟩
        · have hf : v = false := by rw [← Hv.out]; exact has_nil Hn.out h24
          subst hf
          have hn24 : ((k : Int) == 24) = false := by simp; omega
          have hn24' : (k == 24) = false := by simp; omega
          by_cases h25 : k < 25
          · go_wp2_with fail
            go_ret
            exact ⟨rfl, by (repeat' (first | (with_reducible assumption) | (with_reducible exact Ext.refl _) | (with_reducible refine Ext.alloc ?_ _) | (with_reducible refine Ext.drew ?_) | (with_reducible refine Ext.drewN ?_ _) | (with_reducible refine Ext.setCell ?_ ?_ _) | (with_reducible refine Ext.trans ?_ (by assumption)) | go_size))⟩
          · go_wp2_with fail
            go_ret
            exact ⟨rfl, by (repeat' (first | (with_reducible assumption) | (with_reducible exact Ext.refl _) | (with_reducible refine Ext.alloc ?_ _) | (with_reducible refine Ext.drew ?_) | (with_reducible refine Ext.drewN ?_ _) | (with_reducible refine Ext.setCell ?_ ?_ _) | (with_reducible refine Ext.trans ?_ (by assumption)) | go_size))⟩

/-- Whether a valid area has a cell. -/
theorem rhas_v {w0 : World} {b o : Nat} (c : Nat) {l : List Int} {x y : Nat} {r : Bool} (w : World) (h : VA w0 b o l) (hE : Ext w0 w) (hx : x < 48) (hy : y < 24) (hr : Globe.hasL l x y = r) :
    Calls Tryd.prog 78 #[.agg #[.slice (some ⟨b, o, none⟩) 24 c], .int .i64 (x : Int), .int .i64 (y : Int)] w fun e w' => e = .returned (.bool r) ∧ Ext w w' := by
  replace h := h.ext hE
  clear hE
  have d := h.cell hy
  have hbl := h.lt
  have hm := bit_mod2 (Globe.rowN l y) x
  have hge : (0 : Int) ≤ ((Globe.rowN l y : Nat) : Int) / 2 ^ x := by rw [div_pow_cast]; exact Int.natCast_nonneg _
  have ht : (((Globe.rowN l y : Nat) : Int) / 2 ^ x).tmod 2 = ((Globe.rowN l y : Nat) : Int) / 2 ^ x % 2 := Int.tmod_eq_emod_of_nonneg hge
  have hh : Globe.hasL l x y = (Globe.rowN l y).testBit x := rfl
  rw [hm] at ht
  have y0 : (0 : Int) ≤ (y : Int) := by omega
  have y1 : (y : Int) < 24 := by omega
  have x0 : (0 : Int) ≤ (x : Int) := by omega
  have x1 : (x : Int) < 48 := by omega
  rw [hr] at hh
  rw [← hh] at hm ht
  clear hh hr h
  generalize Globe.rowN l y = R at *
  cases r
  · rw [if_neg (by simp)] at hm ht
    go_enter Tryd.func78, Tryd.ntmps78
    go_wp2
    go_ret
    exact ⟨rfl, by (repeat' (first | (with_reducible assumption) | (with_reducible exact Ext.refl _) | (with_reducible refine Ext.alloc ?_ _) | (with_reducible refine Ext.drew ?_) | (with_reducible refine Ext.drewN ?_ _) | (with_reducible refine Ext.setCell ?_ ?_ _) | (with_reducible refine Ext.trans ?_ (by assumption)) | go_size))⟩
  · rw [if_pos rfl] at hm ht
    go_enter Tryd.func78, Tryd.ntmps78
    go_wp2
    go_ret
    exact ⟨rfl, by (repeat' (first | (with_reducible assumption) | (with_reducible exact Ext.refl _) | (with_reducible refine Ext.alloc ?_ _) | (with_reducible refine Ext.drew ?_) | (with_reducible refine Ext.drewN ?_ _) | (with_reducible refine Ext.setCell ?_ ?_ _) | (with_reducible refine Ext.trans ?_ (by assumption)) | go_size))⟩

/-- A list of cells. -/
def RetCells (w : World) (cs : List (Nat × Nat)) (e : Ending) (w' : World) : Prop := ∃ (a : Option Addr) (k : Nat), e = .returned (.slice a cs.length k) ∧ CellsAt w' a cs.length cs ∧ (∀ ad, a = some ad → w.heap.size ≤ ad.block) ∧ Ext w w'
/-- The cells of a row below a column. -/
def rowTo (l : List Int) (y x : Nat) : List (Nat × Nat) := ((List.range x).filter fun i => Globe.hasL l i y).map fun i => (i, y)
theorem rowTo_zero (l : List Int) (y : Nat) : rowTo l y 0 = [] := by simp [rowTo]
theorem rowTo_yes {l : List Int} {y x : Nat} (h : Globe.hasL l x y = true) : rowTo l y (x + 1) = rowTo l y x ++ [(x, y)] := by
  unfold rowTo
  rw [List.range_succ, List.filter_append, List.map_append]
  simp [h]
theorem rowTo_no {l : List Int} {y x : Nat} (h : Globe.hasL l x y = false) : rowTo l y (x + 1) = rowTo l y x := by
  unfold rowTo
  rw [List.range_succ, List.filter_append, List.map_append]
  simp [h]
theorem rowTo_all (l : List Int) (y : Nat) : rowTo l y 48 = Globe.rowCells l y := rfl
theorem rowTo_len (l : List Int) (y x : Nat) : (rowTo l y x).length ≤ x := by
  unfold rowTo
  rw [List.length_map]
  exact Nat.le_trans (List.length_filter_le _ _) (by simp)

set_option maxHeartbeats 2000000 in
theorem rCells_v {w0 : World} {b o : Nat} (c : Nat) {l : List Int} (w : World) (h : VA w0 b o l) (hE : Ext w0 w) :
    Calls Tryd.prog 70 #[.agg #[.slice (some ⟨b, o, none⟩) 24 c]] w (RetCells w (Globe.cellsTo l 24)) := by
  replace h := h.ext hE
  clear hE
  obtain ⟨i0, hi, hz0, hz1, hz2⟩ := info_parts (P := Tryd.prog) (e := 94) (z := .agg #[.int .i64 0, .int .i64 0]) (size := 2) (bytes := 16) (by kernel_rfl)
  go_enter Tryd.func70, Tryd.ntmps70
  go_wp2_with fail
  refine (rValid_c c _ h.aa (by (repeat' (first | (with_reducible assumption) | (with_reducible exact Ext.refl _) | (with_reducible refine Ext.alloc ?_ _) | (with_reducible refine Ext.drew ?_) | (with_reducible refine Ext.drewN ?_ _) | (with_reducible refine Ext.setCell ?_ ?_ _) | (with_reducible refine Ext.trans ?_ (by assumption)) | go_size)))).mono ?_
  rintro e w1 ⟨rfl, hb⟩
  have hc := hb.cellE; have hf := hb.frozenE; have hz := hb.size; have ha := alloc_keeps w1; (try simp only [World.size_alloc] at hc hf hz); (try simp only [World.size_setCell] at hc hf hz); (try simp only [World.size_drew] at hc hf hz)
  go_wp2_with fail
  refine wp_name (fun V => Ext w V ∧ V.cell? ⟨w.heap.size, 0, none⟩ = some (.slice (some ⟨b, o, none⟩) 24 c)) ⟨by (repeat' (first | (with_reducible assumption) | (with_reducible exact Ext.refl _) | (with_reducible refine Ext.alloc ?_ _) | (with_reducible refine Ext.drew ?_) | (with_reducible refine Ext.drewN ?_ _) | (with_reducible refine Ext.setCell ?_ ?_ _) | (with_reducible refine Ext.trans ?_ (by assumption)) | go_size)), hb.cell (by simp [go_sem])⟩ ?_
  clear hb hc hf hz ha
  rintro V ⟨hE, k1⟩
  replace h := h.ext hE
  have lk := World.block_lt_of_cell? V _ k1
  have H := Lib.hid h; clear h
  have Hi := Lib.hid (And.intro hi (And.intro hz0 (And.intro hz1 hz2))); clear hi hz0 hz1 hz2
  go_loopw [3, 4] (fun r p wr => ∃ y : Nat, y ≤ 24 ∧ p = .int .i64 y ∧ wr.ownsRow V.heap.size 94 2 r (Globe.cellsTo l y).length (cellVals (Globe.cellsTo l y)) ∧ Ext V wr) (fun _ p _ => 24 - (intOf p).toNat)
  case atStart => exact ⟨0, by omega, rfl, World.ownsRow_nil _ _ _ _, Ext.refl _⟩
  case round =>
    obtain ⟨y, hy, rfl, hrow, e6⟩ := hrel
    have Hrow := Lib.hid hrow; clear hrow
    by_cases hlt : y < 24
    · have y1 : (y : Int) < 24 := by omega
      have y0 : (0 : Int) ≤ (y : Int) := by omega
      go_wp2_with fail
      go_loopw [3, 5] (fun r p wr => ∃ x : Nat, x ≤ 48 ∧ p = .int .i64 x ∧ wr.ownsRow V.heap.size 94 2 r (Globe.cellsTo l y ++ rowTo l y x).length (cellVals (Globe.cellsTo l y ++ rowTo l y x)) ∧ Ext V wr) (fun _ p _ => 48 - (intOf p).toNat)
      case atStart => exact ⟨0, by omega, rfl, by rw [rowTo_zero, List.append_nil]; exact Hrow.out, e6⟩
      case round =>
        clear e6
        obtain ⟨x, hx, rfl, hrow, e6⟩ := hrel
        have Hrow := Lib.hid hrow; clear hrow
        by_cases hlx : x < 48
        · have x1 : (x : Int) < 48 := by omega
          have x0 : (0 : Int) ≤ (x : Int) := by omega
          have k2 := e6.cell k1
          cases hh : Globe.hasL l x y
          · have HH := Lib.hid hh; clear hh
            go_wp2_with fail
            refine (rhas_v c _ H.out e6 hlx hlt HH.out).mono ?_
            rintro e w1 ⟨rfl, hb⟩
            go_wp2_with fail
            go_roundw
            case rel => exact ⟨x + 1, by omega, by go_num, by rw [rowTo_no HH.out]; exact own_ext Hrow.out hb, e6.trans hb⟩
            case measure => simp [intOf]; omega
          · have HH := Lib.hid hh; clear hh
            go_wp2_with fail
            refine (rhas_v c _ H.out e6 hlx hlt HH.out).mono ?_
            rintro e w1 ⟨rfl, hb⟩
            have hlen : (Globe.cellsTo l y ++ rowTo l y x).length ≤ 1152 := by
              have e1 := Globe.cellsTo_len l y
              have e2 := rowTo_len l y x
              rw [List.length_append]; omega
            have hs6 := (e6.trans hb).size
            go_wp2_with (at_builtin; refine wpList_append_own _ rfl _ _ 86 rfl V.heap.size 94 i0 (.agg #[.int .i64 0, .int .i64 0]) 2 16 Tryd.underlying86 Hi.out.1 Hi.out.2.1 Hi.out.2.2.1 Hi.out.2.2.2 rfl (by decide) _ _ _ rfl ((own_ext Hrow.out hb).alloc _) ⟨w1.heap.size, 0, none⟩ 1 1 [.int .i64 (x : Int), .int .i64 (y : Int)] rfl rfl (cell_two_new _ _ _ _) (by simp [Value.oneCell']) (by unfold maxLen; omega) (by omega) (by simp; omega) ?_; intro v' w3 hown' hg3 hnil3; go_frame)
            have hE3 := Ext.own (Ext.alloc (e6.trans hb) _) ((own_ext Hrow.out hb).alloc _) hg3
            go_roundw
            case rel =>
              refine ⟨x + 1, by omega, by go_num, ?_, hE3⟩
              rw [rowTo_yes HH.out, ← List.append_assoc, cellVals_snoc, List.length_append]
              exact hown'
            case measure => simp [intOf]; omega
        · obtain rfl : x = 48 := by omega
          go_wp2_with fail
          go_roundw
          case rel => exact ⟨y + 1, by omega, by go_num, by rw [Globe.cellsTo_succ, ← rowTo_all]; exact Hrow.out, e6⟩
          case measure => simp [intOf]; omega
    · obtain rfl : y = 24 := by omega
      go_wp2_with fail
      go_ret
      obtain ⟨a, k, rfl, hc2⟩ := CellsAt.own rfl Hrow.out
      exact ⟨a, k, rfl, hc2, fun ad e => by subst e; exact Nat.le_trans hE.size (Hrow.out.lt ad.block rfl).1, by (repeat' (first | (with_reducible assumption) | (with_reducible exact Ext.refl _) | (with_reducible refine Ext.alloc ?_ _) | (with_reducible refine Ext.drew ?_) | (with_reducible refine Ext.drewN ?_ _) | (with_reducible refine Ext.setCell ?_ ?_ _) | (with_reducible refine Ext.trans ?_ (by assumption)) | go_size))⟩
theorem rCells_c {w0 : World} {a : Option Addr} {l : List Int} {n : Nat} (c : Nat) {v : Bool} (w : World) (h : AA w0 a l n v) (hE : Ext w0 w) :
    Calls Tryd.prog 70 #[.agg #[.slice a n c]] w (RetCells w (Globe.cellsL l)) := by
  replace h := h.ext hE
  unfold Globe.cellsL
  rw [h.2.2.2]
  cases v
  · have H := Lib.hid h; clear h hE
    go_enter Tryd.func70, Tryd.ntmps70
    go_wp2_with fail
    refine (rValid_c c _ H.out (by (repeat' (first | (with_reducible assumption) | (with_reducible exact Ext.refl _) | (with_reducible refine Ext.alloc ?_ _) | (with_reducible refine Ext.drew ?_) | (with_reducible refine Ext.drewN ?_ _) | (with_reducible refine Ext.setCell ?_ ?_ _) | (with_reducible refine Ext.trans ?_ (by assumption)) | go_size)))).mono ?_
    rintro e w1 ⟨rfl, hb⟩
    go_wp2_with fail
    go_ret
    exact ⟨none, 0, rfl, CellsAt.nil _ _, fun ad e => (by cases e), by (repeat' (first | (with_reducible assumption) | (with_reducible exact Ext.refl _) | (with_reducible refine Ext.alloc ?_ _) | (with_reducible refine Ext.drew ?_) | (with_reducible refine Ext.drewN ?_ _) | (with_reducible refine Ext.setCell ?_ ?_ _) | (with_reducible refine Ext.trans ?_ (by assumption)) | go_size))⟩
  · obtain ⟨b, o, rfl, rfl, r⟩ := h.va
    exact rCells_v c w r (Ext.refl _)
theorem rCount_c {w0 : World} {a : Option Addr} {l : List Int} {n : Nat} (c : Nat) {v : Bool} (w : World) (h : AA w0 a l n v) (hE : Ext w0 w) :
    Calls Tryd.prog 51 #[.agg #[.slice a n c]] w fun e w' => e = .returned (.int .i64 (Globe.countL l : Nat)) ∧ Ext w w' := by
  have H := Lib.hid (h.ext hE); clear h hE
  go_enter Tryd.func51, Tryd.ntmps51
  go_wp2_with fail
  refine (rCells_c c _ H.out (by (repeat' (first | (with_reducible assumption) | (with_reducible exact Ext.refl _) | (with_reducible refine Ext.alloc ?_ _) | (with_reducible refine Ext.drew ?_) | (with_reducible refine Ext.drewN ?_ _) | (with_reducible refine Ext.setCell ?_ ?_ _) | (with_reducible refine Ext.trans ?_ (by assumption)) | go_size)))).mono ?_
  rintro e w1 ⟨a1, k, rfl, -, -, hb⟩
  go_wp2_with fail
  go_ret
  exact ⟨rfl, by (repeat' (first | (with_reducible assumption) | (with_reducible exact Ext.refl _) | (with_reducible refine Ext.alloc ?_ _) | (with_reducible refine Ext.drew ?_) | (with_reducible refine Ext.drewN ?_ _) | (with_reducible refine Ext.setCell ?_ ?_ _) | (with_reducible refine Ext.trans ?_ (by assumption)) | go_size))⟩

end Go.Proofs.YtglfoglkdbbmmaaDoor

/- Contracts of the reference of package globe, in chapters other than 05: joined, Meet, Less, Contains. -/
namespace Go.Proofs.YtglfoglkdbbmmaaDoor
open Go.RowKit
open Globe (outTo outTo_snoc outTo_nil outTo_spec)

theorem grown_ext {V w1 w2 : World} {B : Nat} (hg : V.grownBy w1 (some B)) (hE : Ext w1 w2) : V.grownBy w2 (some B) :=
  ⟨hE.os.trans hg.os, hE.tape.trans hg.tape, hE.output.trans hg.output, Nat.le_trans hg.size hE.size, fun k hk hne => (Below.block hE k (Nat.lt_of_lt_of_le hk hg.size)).trans (hg.block k hk hne)⟩
theorem modN_nat (n : Int) (m : Nat) (h : n = (m : Int)) : modN n = m % 48 := by subst h; unfold modN; omega
/-- put, where the row is any number that stands for y. -/
theorem put_r {B : Nat} {pts : List (Nat × Nat)} {Y : Nat} (c : Nat) (x y : Int) (w : World) (h : RowsAt w B (outTo pts)) (hp : ∀ p ∈ pts, p.1 < 48 ∧ p.2 < 24) (e : y = (Y : Int)) (hy : Y < 24) :
    Calls Tryd.prog 81 #[.agg #[.slice (some ⟨B, 0, none⟩) 24 c], .int .i64 x, .int .i64 y] w fun e w' => (∃ v, e = .returned v) ∧ RowsAt w' B (outTo (pts ++ [(modN x, Y)])) ∧ w.grownBy w' (some B) := by
  subst e
  rw [outTo_snoc]
  exact put_c B c (outTo pts) x Y w h (outTo_spec _ _ rfl hp).1 hy
/-- The cells of the first rows for which f says so. -/
def rowSel (f : Nat → Nat → Bool) (y x : Nat) : List (Nat × Nat) := ((List.range x).filter fun i => f i y).map fun i => (i, y)
def selTo (f : Nat → Nat → Bool) (y : Nat) : List (Nat × Nat) := (List.range y).flatMap fun j => rowSel f j 48
theorem rowSel_zero (f : Nat → Nat → Bool) (y : Nat) : rowSel f y 0 = [] := by simp [rowSel]
theorem rowSel_yes {f : Nat → Nat → Bool} {y x : Nat} (h : f x y = true) : rowSel f y (x + 1) = rowSel f y x ++ [(x, y)] := by
  unfold rowSel; rw [List.range_succ, List.filter_append, List.map_append]; simp [h]
theorem rowSel_no {f : Nat → Nat → Bool} {y x : Nat} (h : f x y = false) : rowSel f y (x + 1) = rowSel f y x := by
  unfold rowSel; rw [List.range_succ, List.filter_append, List.map_append]; simp [h]
theorem selTo_zero (f : Nat → Nat → Bool) : selTo f 0 = [] := rfl
theorem selTo_succ (f : Nat → Nat → Bool) (y : Nat) : selTo f (y + 1) = selTo f y ++ rowSel f y 48 := by simp [selTo, List.range_succ]
theorem mem_rowSel {f : Nat → Nat → Bool} {y x : Nat} {p : Nat × Nat} : p ∈ rowSel f y x ↔ p.1 < x ∧ p.2 = y ∧ f p.1 y = true := by
  simp only [rowSel, List.mem_map, List.mem_filter, List.mem_range]
  constructor
  · rintro ⟨i, ⟨h1, h2⟩, rfl⟩; exact ⟨h1, rfl, h2⟩
  · rintro ⟨h1, h2, h3⟩; exact ⟨p.1, ⟨h1, h3⟩, by rw [← h2]⟩
theorem mem_selTo {f : Nat → Nat → Bool} {y : Nat} {p : Nat × Nat} : p ∈ selTo f y ↔ p.1 < 48 ∧ p.2 < y ∧ f p.1 p.2 = true := by
  simp only [selTo, List.mem_flatMap, List.mem_range, mem_rowSel]
  constructor
  · rintro ⟨j, hj, h1, rfl, h3⟩; exact ⟨h1, hj, h3⟩
  · rintro ⟨h1, h2, h3⟩; exact ⟨p.2, h2, h1, rfl, h3⟩
theorem sel_in {f : Nat → Nat → Bool} {y x : Nat} (hy : y < 24) (hx : x ≤ 48) : ∀ p ∈ selTo f y ++ rowSel f y x, p.1 < 48 ∧ p.2 < 24 := by
  intro p hp
  rcases List.mem_append.1 hp with hp | hp
  · obtain ⟨h1, h2, _⟩ := mem_selTo.1 hp; omega
  · obtain ⟨h1, h2, _⟩ := mem_rowSel.1 hp; omega
theorem sel_all {f : Nat → Nat → Bool} : ∀ p ∈ selTo f 24, p.1 < 48 ∧ p.2 < 24 := fun p hp => by obtain ⟨h1, h2, _⟩ := mem_selTo.1 hp; omega
theorem out_sel {f : Nat → Nat → Bool} {L : List Int} (hL : Globe.validL L = true) (h : ∀ x y, x < 48 → y < 24 → Globe.hasL L x y = f x y) : outTo (selTo f 24) = L := by
  have hs := outTo_spec _ _ rfl (sel_all (f := f))
  refine Globe.ext_has hs.1 hL fun x y hx hy => ?_
  rw [hs.2, h x y hx hy, Bool.eq_iff_iff, decide_eq_true_eq, mem_selTo]
  exact ⟨fun h => h.2.2, fun h => ⟨hx, hy, h⟩⟩
/-- What the table says. -/
def tb (t0 t1 t2 t3 a b : Bool) : Bool := match a, b with
  | false, false => t0
  | false, true => t1
  | true, false => t2
  | true, true => t3

set_option maxHeartbeats 4000000 in
theorem joined_v {w1 w2 : World} {b1 o1 b2 o2 : Nat} (c1 c2 : Nat) {l1 l2 : List Int} (t0 t1 t2 t3 : Bool) (w : World) (h1 : VA w1 b1 o1 l1) (e1 : Ext w1 w) (h2 : VA w2 b2 o2 l2) (e2 : Ext w2 w) :
    Calls Tryd.prog 77 #[.agg #[.slice (some ⟨b1, o1, none⟩) 24 c1], .agg #[.slice (some ⟨b2, o2, none⟩) 24 c2], .agg #[.bool t0, .bool t1, .bool t2, .bool t3]] w (RetV w (outTo (selTo (fun x y => tb t0 t1 t2 t3 (Globe.hasL l1 x y) (Globe.hasL l2 x y)) 24))) := by
  have H1 := Lib.hid (h1.ext e1); have H2 := Lib.hid (h2.ext e2)
  clear h1 h2 e1 e2
  obtain ⟨f, hf⟩ : ∃ f, f = (fun x y => tb t0 t1 t2 t3 (Globe.hasL l1 x y) (Globe.hasL l2 x y)) := ⟨_, rfl⟩
  rw [← hf]
  have HF := Lib.hid hf; clear hf
  go_enter Tryd.func77, Tryd.ntmps77
  go_wp2_with (first | (go_at_call 44; refine (rValid_c _ _ (by first | exact H1.out.aa | exact H2.out.aa) (by (repeat' (first | (with_reducible assumption) | (with_reducible exact Ext.refl _) | (with_reducible refine Ext.alloc ?_ _) | (with_reducible refine Ext.drew ?_) | (with_reducible refine Ext.drewN ?_ _) | (with_reducible refine Ext.setCell ?_ ?_ _) | (with_reducible refine Ext.trans ?_ (by assumption)) | go_size)))).mono ?_; rintro e w4 ⟨rfl, hb4⟩; have hc4 := hb4.cellE; have hf4 := hb4.frozenE; have hz4 := hb4.size; have ha4 := alloc_keeps w4; (try simp only [World.size_alloc] at hc4 hf4 hz4); (try simp only [World.size_setCell] at hc4 hf4 hz4); (try simp only [World.size_drew] at hc4 hf4 hz4)) | (go_at_call 36; refine (rEmpty_c _).mono ?_; rintro e w3 ⟨B, rfl, hB, hr, hb3⟩; have hc3 := hb3.cellE; have hf3 := hb3.frozenE; have hz3 := hb3.size; have ha3 := alloc_keeps w3; (try simp only [World.size_alloc] at hc3 hf3 hz3); (try simp only [World.size_setCell] at hc3 hf3 hz3); (try simp only [World.size_drew] at hc3 hf3 hz3)))
  obtain ⟨O, hO⟩ : ∃ O, O = w3.heap.size := ⟨_, rfl⟩
  rw [← hO]
  have hwB : w.heap.size + 1 + 1 + 1 < B := by omega
  have hBO : B < O := by have := hr.lt; omega
  refine wp_name (fun V => Ext w V ∧ V.cell? ⟨w.heap.size, 0, none⟩ = some (.slice (some ⟨b1, o1, none⟩) 24 c1) ∧ V.cell? ⟨w.heap.size + 1, 0, none⟩ = some (.slice (some ⟨b2, o2, none⟩) 24 c2) ∧ V.cell? ⟨w.heap.size + 1 + 1, 0, none⟩ = some (.bool t0) ∧ V.cell? ⟨w.heap.size + 1 + 1, 1, none⟩ = some (.bool t1) ∧ V.cell? ⟨w.heap.size + 1 + 1, 2, none⟩ = some (.bool t2) ∧ V.cell? ⟨w.heap.size + 1 + 1, 3, none⟩ = some (.bool t3) ∧ BoxAt V (w.heap.size + 1 + 1 + 1) 0 (.slice none 0 0) ∧ V.cell? ⟨O, 0, none⟩ = some (.slice (some ⟨B, 0, none⟩) 24 24) ∧ RowsAt V B (outTo (selTo f 0))) ⟨by (repeat' (first | (with_reducible assumption) | (with_reducible exact Ext.refl _) | (with_reducible refine Ext.alloc ?_ _) | (with_reducible refine Ext.drew ?_) | (with_reducible refine Ext.drewN ?_ _) | (with_reducible refine Ext.setCell ?_ ?_ _) | (with_reducible refine Ext.trans ?_ (by assumption)) | go_size)), ?_, ?_, ?_, ?_, ?_, ?_, ?_, by rw [hO]; simp [go_sem], hr.ext (by (repeat' (first | (with_reducible assumption) | (with_reducible exact Ext.refl _) | (with_reducible refine Ext.alloc ?_ _) | (with_reducible refine Ext.drew ?_) | (with_reducible refine Ext.drewN ?_ _) | (with_reducible refine Ext.setCell ?_ ?_ _) | (with_reducible refine Ext.trans ?_ (by assumption)) | go_size)))⟩ ?_
  · (repeat' (first | (with_reducible assumption) | (simp [go_sem]; done) | (with_reducible refine Ext.cell (Ext.alloc (Ext.refl _) _) ?_) | (with_reducible refine Ext.cell (by with_reducible assumption) ?_)))
  · (repeat' (first | (with_reducible assumption) | (simp [go_sem]; done) | (with_reducible refine Ext.cell (Ext.alloc (Ext.refl _) _) ?_) | (with_reducible refine Ext.cell (by with_reducible assumption) ?_)))
  · (repeat' (first | (with_reducible assumption) | (simp [go_sem]; done) | (with_reducible refine Ext.cell (Ext.alloc (Ext.refl _) _) ?_) | (with_reducible refine Ext.cell (by with_reducible assumption) ?_)))
  · (repeat' (first | (with_reducible assumption) | (simp [go_sem]; done) | (with_reducible refine Ext.cell (Ext.alloc (Ext.refl _) _) ?_) | (with_reducible refine Ext.cell (by with_reducible assumption) ?_)))
  · (repeat' (first | (with_reducible assumption) | (simp [go_sem]; done) | (with_reducible refine Ext.cell (Ext.alloc (Ext.refl _) _) ?_) | (with_reducible refine Ext.cell (by with_reducible assumption) ?_)))
  · (repeat' (first | (with_reducible assumption) | (simp [go_sem]; done) | (with_reducible refine Ext.cell (Ext.alloc (Ext.refl _) _) ?_) | (with_reducible refine Ext.cell (by with_reducible assumption) ?_)))
  · (repeat' (first | (with_reducible assumption) | (exact ⟨by simp [go_sem], by simp [go_sem]⟩) | (with_reducible refine BoxAt.ext (Ext.alloc (Ext.refl _) _) ?_) | (with_reducible refine BoxAt.ext (by with_reducible assumption) ?_)))
  clear hO hB hr hb3 hc3 hf3 hz3 ha3 hb4 hc4 hf4 hz4 ha4
  clear hb4 hc4 hf4 hz4 ha4
  rintro V ⟨hE, cA, cB, cT0, cT1, cT2, cT3, b6, cO, hr⟩
  have lO : O < V.heap.size := World.block_lt_of_cell? V _ cO
  have HV1 := Lib.hid (H1.out.ext hE); have HV2 := Lib.hid (H2.out.ext hE)
  have lb1 := HV1.out.lt; have lb2 := HV2.out.lt
  have nb1 : b1 < w.heap.size := H1.out.lt
  have nb2 : b2 < w.heap.size := H2.out.lt
  go_loopw [9] (fun p wr => ∃ y : Nat, y ≤ 24 ∧ p = .int .i64 y ∧ RowsAt wr B (outTo (selTo f y)) ∧ V.grownBy wr (some B)) (fun p _ => 24 - (intOf p).toNat)
  case atStart => exact ⟨0, by omega, rfl, hr, grown_refl _ _⟩
  case round =>
    clear hr
    obtain ⟨y, hy, rfl, hr, hg⟩ := hrel
    have Hr := Lib.hid hr; clear hr
    by_cases hlt : y < 24
    · have y1 : (y : Int) < 24 := by omega
      go_wp2_with fail
      go_loopw [10] (fun p wr => ∃ x : Nat, x ≤ 48 ∧ p = .int .i64 x ∧ RowsAt wr B (outTo (selTo f y ++ rowSel f y x)) ∧ V.grownBy wr (some B)) (fun p _ => 48 - (intOf p).toNat)
      case atStart => exact ⟨0, by omega, rfl, by rw [rowSel_zero, List.append_nil]; exact Hr.out, hg⟩
      case round =>
        clear hg
        obtain ⟨x, hx, rfl, hr, hg⟩ := hrel
        have Hr := Lib.hid hr; clear hr
        by_cases hlx : x < 48
        · have x1 : (x : Int) < 48 := by omega
          have hsz := hg.size
          have dA := grown_cell hg cA (by show w.heap.size ≠ B; omega)
          have dB := grown_cell hg cB (by show w.heap.size + 1 ≠ B; omega)
          have v1 : VA wr b1 o1 l1 := ⟨fun i hi => grown_cell hg (HV1.out.1 i hi) (by show b1 ≠ B; omega), HV1.out.2⟩
          have v2 : VA wr b2 o2 l2 := ⟨fun i hi => grown_cell hg (HV2.out.1 i hi) (by show b2 ≠ B; omega), HV2.out.2⟩
          have dT0 := grown_cell hg cT0 (by show w.heap.size + 1 + 1 ≠ B; omega)
          have dT1 := grown_cell hg cT1 (by show w.heap.size + 1 + 1 ≠ B; omega)
          have dT2 := grown_cell hg cT2 (by show w.heap.size + 1 + 1 ≠ B; omega)
          have dT3 := grown_cell hg cT3 (by show w.heap.size + 1 + 1 ≠ B; omega)
          have dO := grown_cell hg cO (by show O ≠ B; omega)
          have HW1 := Lib.hid v1; have HW2 := Lib.hid v2; clear v1 v2
          have lO2 : O < wr.heap.size := World.block_lt_of_cell? wr _ dO
          have hfx : f x y = tb t0 t1 t2 t3 (Globe.hasL l1 x y) (Globe.hasL l2 x y) := by rw [HF.out]
          have hin := sel_in (f := f) (y := y) (x := x) hlt hx
          have Hin := Lib.hid hin; clear hin
          obtain ⟨ha, hha⟩ : ∃ r, Globe.hasL l1 x y = r := ⟨_, rfl⟩
          obtain ⟨hb, hhb⟩ : ∃ r, Globe.hasL l2 x y = r := ⟨_, rfl⟩
          rw [hha, hhb] at hfx
          have HHA := Lib.hid hha; have HHB := Lib.hid hhb; clear hha hhb
          obtain ⟨tv, htv⟩ : ∃ r, tb t0 t1 t2 t3 ha hb = r := ⟨_, rfl⟩
          rw [htv] at hfx
          have HFX := Lib.hid hfx; clear hfx
          cases ha <;> cases hb
          all_goals
            dsimp only [tb] at htv
            subst htv
            go_wp2_with fail
            refine (rhas_v c1 _ HW1.out (Ext.refl _) hlx hlt HHA.out).mono ?_
            rintro e w4 ⟨rfl, hb4⟩
            have hc4 := hb4.cellE; have hf4 := hb4.frozenE; have hz4 := hb4.size; have ha4 := alloc_keeps w4; (try simp only [World.size_alloc] at hc4 hf4 hz4); (try simp only [World.size_setCell] at hc4 hf4 hz4); (try simp only [World.size_drew] at hc4 hf4 hz4)
            go_wp2_with fail
            refine (rhas_v c2 _ HW2.out hb4 hlx hlt HHB.out).mono ?_
            rintro e w5 ⟨rfl, hb5⟩
            have hx5 := hb4.trans hb5
            have dT0' := hx5.cell dT0; have dT1' := hx5.cell dT1; have dT2' := hx5.cell dT2; have dT3' := hx5.cell dT3; have dO' := hx5.cell dO
            clear hc4 hf4 hz4 ha4 dT0 dT1 dT2 dT3 dO dA dB
            have hg5 := grown_ext hg hx5
            have Hr5 := Lib.hid (Hr.out.ext hx5)
            obtain ⟨fv, hfv⟩ : ∃ r, f x y = r := ⟨_, rfl⟩
            have e := HFX.out
            rw [hfv] at e
            have HFV := Lib.hid hfv
            clear hfv HFX HF
            subst e
            cases fv
            · go_wp2_with fail
              go_roundw
              case rel => exact ⟨x + 1, by omega, by go_num, by rw [rowSel_no HFV.out]; exact Hr5.out, hg5⟩
              case measure => simp [intOf]; omega
            · go_wp2_with fail
              refine (put_r 24 _ _ _ Hr5.out Hin.out (Y := y) rfl hlt).mono ?_
              rintro e w6 ⟨⟨v, rfl⟩, hr2, hg2⟩
              rw [modN_nat _ x rfl, Nat.mod_eq_of_lt hlx, List.append_assoc, ← rowSel_yes HFV.out] at hr2
              have Hr2 := Lib.hid hr2; clear hr2
              go_wp2_with fail
              go_roundw
              case rel => exact ⟨x + 1, by omega, by go_num, Hr2.out, grown_trans hg5 hg2⟩
              case measure => simp [intOf]; omega
        · obtain rfl : x = 48 := by omega
          go_wp2_with fail
          go_roundw
          case rel => exact ⟨y + 1, by omega, by go_num, by rw [selTo_succ]; exact Hr.out, hg⟩
          case measure => simp [intOf]; omega
    · obtain rfl : y = 24 := by omega
      have dO := grown_cell hg cO (by show O ≠ B; omega)
      obtain ⟨d6, f6⟩ := BoxAt.grown hg b6 (by show w.heap.size + 1 + 1 + 1 ≠ B; omega)
      have hE2 := Ext.grown hE hg (by omega)
      have hr3 := Hr.out.other (p := ⟨w.heap.size + 1 + 1 + 1, 0, none⟩) (by show w.heap.size + 1 + 1 + 1 ≠ B; omega) (.slice (some ⟨B, 0, none⟩) 24 24)
      have hv3 := (outTo_spec _ _ rfl (sel_all (f := f))).1
      have H3 := Lib.hid hr3; have Hv3 := Lib.hid hv3; clear hr3 hv3 hg
      go_wp2_with fail
      exact bodyPost_ret (v := .tuple #[.agg #[.slice (some ⟨B, 0, none⟩) 24 24], .int .i64 0]) (by simp [results, Tryd.results77, go_sem, d6]) rfl ⟨B, 24, rfl, by omega, H3.out, H3.out.va Hv3.out, by (repeat' (first | (with_reducible assumption) | (with_reducible exact Ext.refl _) | (with_reducible refine Ext.alloc ?_ _) | (with_reducible refine Ext.drew ?_) | (with_reducible refine Ext.drewN ?_ _) | (with_reducible refine Ext.setCell ?_ ?_ _) | (with_reducible refine Ext.trans ?_ (by assumption)) | go_size))⟩

theorem joined_n {w1 w2 : World} {a1 : Option Addr} {l1 : List Int} {n1 : Nat} (c1 : Nat) {v1 : Bool} {a2 : Option Addr} {l2 : List Int} {n2 : Nat} (c2 : Nat) {v2 : Bool} (t0 t1 t2 t3 : Bool) (w : World) (h1 : AA w1 a1 l1 n1 v1) (e1 : Ext w1 w) (h2 : AA w2 a2 l2 n2 v2) (e2 : Ext w2 w) (hv : (v1 && v2) = false) :
    Calls Tryd.prog 77 #[.agg #[.slice a1 n1 c1], .agg #[.slice a2 n2 c2], .agg #[.bool t0, .bool t1, .bool t2, .bool t3]] w (RetErr w 50) := by
  have H1 := Lib.hid (h1.ext e1); have H2 := Lib.hid (h2.ext e2)
  clear h1 h2 e1 e2
  cases v1
  · clear hv
    go_enter Tryd.func77, Tryd.ntmps77
    go_wp2_with (go_at_call 44; refine (rValid_c _ _ H1.out (by (repeat' (first | (with_reducible assumption) | (with_reducible exact Ext.refl _) | (with_reducible refine Ext.alloc ?_ _) | (with_reducible refine Ext.drew ?_) | (with_reducible refine Ext.drewN ?_ _) | (with_reducible refine Ext.setCell ?_ ?_ _) | (with_reducible refine Ext.trans ?_ (by assumption)) | go_size)))).mono ?_; rintro e w1 ⟨rfl, hb⟩; have hc := hb.cellE; have hf := hb.frozenE; have hz := hb.size; have ha := alloc_keeps w1; (try simp only [World.size_alloc] at hc hf hz); (try simp only [World.size_setCell] at hc hf hz); (try simp only [World.size_drew] at hc hf hz))
    ((try simp only [Exit.inBlock, Exit.then]); refine bodyPost_ret (v := .tuple #[.agg #[.slice none 0 0], .int .i64 50]) (by simp [results, Tryd.results77, go_sem, *]) rfl ?_)
    exact ⟨rfl, by (repeat' (first | (with_reducible assumption) | (with_reducible exact Ext.refl _) | (with_reducible refine Ext.alloc ?_ _) | (with_reducible refine Ext.drew ?_) | (with_reducible refine Ext.drewN ?_ _) | (with_reducible refine Ext.setCell ?_ ?_ _) | (with_reducible refine Ext.trans ?_ (by assumption)) | go_size))⟩
  · obtain rfl : v2 = false := by simpa using hv
    clear hv
    go_enter Tryd.func77, Tryd.ntmps77
    go_wp2_with (first | (go_at_call 44; (with_reducible refine (rValid_c _ _ H1.out (by (repeat' (first | (with_reducible assumption) | (with_reducible exact Ext.refl _) | (with_reducible refine Ext.alloc ?_ _) | (with_reducible refine Ext.drew ?_) | (with_reducible refine Ext.drewN ?_ _) | (with_reducible refine Ext.setCell ?_ ?_ _) | (with_reducible refine Ext.trans ?_ (by assumption)) | go_size)))).mono ?_); rintro e w1 ⟨rfl, hb⟩; have hc := hb.cellE; have hf := hb.frozenE; have hz := hb.size; have ha := alloc_keeps w1; (try simp only [World.size_alloc] at hc hf hz); (try simp only [World.size_setCell] at hc hf hz); (try simp only [World.size_drew] at hc hf hz)) | (go_at_call 44; refine (rValid_c _ _ H2.out (by (repeat' (first | (with_reducible assumption) | (with_reducible exact Ext.refl _) | (with_reducible refine Ext.alloc ?_ _) | (with_reducible refine Ext.drew ?_) | (with_reducible refine Ext.drewN ?_ _) | (with_reducible refine Ext.setCell ?_ ?_ _) | (with_reducible refine Ext.trans ?_ (by assumption)) | go_size)))).mono ?_; rintro e w2 ⟨rfl, hb2⟩; have hc2 := hb2.cellE; have hf2 := hb2.frozenE; have hz2 := hb2.size; have ha2 := alloc_keeps w2; (try simp only [World.size_alloc] at hc2 hf2 hz2); (try simp only [World.size_setCell] at hc2 hf2 hz2); (try simp only [World.size_drew] at hc2 hf2 hz2)))
    ((try simp only [Exit.inBlock, Exit.then]); refine bodyPost_ret (v := .tuple #[.agg #[.slice none 0 0], .int .i64 50]) (by simp [results, Tryd.results77, go_sem, *]) rfl ?_)
    exact ⟨rfl, by (repeat' (first | (with_reducible assumption) | (with_reducible exact Ext.refl _) | (with_reducible refine Ext.alloc ?_ _) | (with_reducible refine Ext.drew ?_) | (with_reducible refine Ext.drewN ?_ _) | (with_reducible refine Ext.setCell ?_ ?_ _) | (with_reducible refine Ext.trans ?_ (by assumption)) | go_size))⟩
theorem rMeet_v {w1 w2 : World} {b1 o1 b2 o2 : Nat} (c1 c2 : Nat) {l1 l2 : List Int} (w : World) (h1 : VA w1 b1 o1 l1) (e1 : Ext w1 w) (h2 : VA w2 b2 o2 l2) (e2 : Ext w2 w) :
    Calls Tryd.prog 68 #[.agg #[.slice (some ⟨b1, o1, none⟩) 24 c1], .agg #[.slice (some ⟨b2, o2, none⟩) 24 c2]] w (RetV w (Globe.meetL l1 l2)) := by
  replace h1 := h1.ext e1
  replace h2 := h2.ext e2
  clear e1 e2
  have hs : outTo (selTo (fun x y => tb false false false true (Globe.hasL l1 x y) (Globe.hasL l2 x y)) 24) = Globe.meetL l1 l2 := out_sel (Globe.meet_valid (b := l2) h1.2) fun x y hx hy => by
    rw [Globe.has_meet hy]; cases Globe.hasL l1 x y <;> cases Globe.hasL l2 x y <;> rfl
  have H1 := Lib.hid h1; have H2 := Lib.hid h2; have HS := Lib.hid hs; have HV := Lib.hid (Globe.meet_valid (b := l2) h1.2); clear h1 h2 hs
  go_enter Tryd.func68, Tryd.ntmps68
  go_wp2_with (go_at_call 77; refine (joined_v _ _ _ _ _ _ _ H1.out (by (repeat' (first | (with_reducible assumption) | (with_reducible exact Ext.refl _) | (with_reducible refine Ext.alloc ?_ _) | (with_reducible refine Ext.drew ?_) | (with_reducible refine Ext.drewN ?_ _) | (with_reducible refine Ext.setCell ?_ ?_ _) | (with_reducible refine Ext.trans ?_ (by assumption)) | go_size))) H2.out (by (repeat' (first | (with_reducible assumption) | (with_reducible exact Ext.refl _) | (with_reducible refine Ext.alloc ?_ _) | (with_reducible refine Ext.drew ?_) | (with_reducible refine Ext.drewN ?_ _) | (with_reducible refine Ext.setCell ?_ ?_ _) | (with_reducible refine Ext.trans ?_ (by assumption)) | go_size)))).mono ?_; rw [HS.out]; rintro e w1 ⟨B, k, rfl, hB, hr, hv, hb⟩; have hc := hb.cellE; have hf := hb.frozenE; have hz := hb.size; have ha := alloc_keeps w1; (try simp only [World.size_alloc] at hc hf hz); (try simp only [World.size_setCell] at hc hf hz); (try simp only [World.size_drew] at hc hf hz))
  have hne : w.heap.size + 1 + 1 ≠ B := by first | omega | (simp at hB; omega)
  have hr3 := hr.other (p := ⟨w.heap.size + 1 + 1, 0, none⟩) hne (.slice (some ⟨B, 0, none⟩) 24 k)
  refine bodyPost_ret (v := .tuple #[.agg #[.slice (some ⟨B, 0, none⟩) 24 k], .int .i64 0]) (by simp [results, Tryd.results68, go_sem, hc]) rfl ⟨B, k, rfl, by first | omega | (simp at hB; omega), hr3, hr3.va HV.out, by (repeat' (first | (with_reducible assumption) | (with_reducible exact Ext.refl _) | (with_reducible refine Ext.alloc ?_ _) | (with_reducible refine Ext.drew ?_) | (with_reducible refine Ext.drewN ?_ _) | (with_reducible refine Ext.setCell ?_ ?_ _) | (with_reducible refine Ext.trans ?_ (by assumption)) | go_size))⟩
theorem rMeet_n {w1 w2 : World} {a1 : Option Addr} {l1 : List Int} {n1 : Nat} (c1 : Nat) {v1 : Bool} {a2 : Option Addr} {l2 : List Int} {n2 : Nat} (c2 : Nat) {v2 : Bool} (w : World) (h1 : AA w1 a1 l1 n1 v1) (e1 : Ext w1 w) (h2 : AA w2 a2 l2 n2 v2) (e2 : Ext w2 w) (hv : (v1 && v2) = false) :
    Calls Tryd.prog 68 #[.agg #[.slice a1 n1 c1], .agg #[.slice a2 n2 c2]] w (RetErr w 50) := by
  have H1 := Lib.hid (h1.ext e1); have H2 := Lib.hid (h2.ext e2)
  clear h1 h2 e1 e2
  go_enter Tryd.func68, Tryd.ntmps68
  go_wp2_with (go_at_call 77; refine (joined_n _ _ _ _ _ _ _ H1.out (by (repeat' (first | (with_reducible assumption) | (with_reducible exact Ext.refl _) | (with_reducible refine Ext.alloc ?_ _) | (with_reducible refine Ext.drew ?_) | (with_reducible refine Ext.drewN ?_ _) | (with_reducible refine Ext.setCell ?_ ?_ _) | (with_reducible refine Ext.trans ?_ (by assumption)) | go_size))) H2.out (by (repeat' (first | (with_reducible assumption) | (with_reducible exact Ext.refl _) | (with_reducible refine Ext.alloc ?_ _) | (with_reducible refine Ext.drew ?_) | (with_reducible refine Ext.drewN ?_ _) | (with_reducible refine Ext.setCell ?_ ?_ _) | (with_reducible refine Ext.trans ?_ (by assumption)) | go_size))) hv).mono ?_; rintro e w1 ⟨rfl, hb⟩; have hc := hb.cellE; have hf := hb.frozenE; have hz := hb.size; have ha := alloc_keeps w1; (try simp only [World.size_alloc] at hc hf hz); (try simp only [World.size_setCell] at hc hf hz); (try simp only [World.size_drew] at hc hf hz))
  ((try simp only [Exit.inBlock, Exit.then]); refine bodyPost_ret (v := .tuple #[.agg #[.slice none 0 0], .int .i64 50]) (by simp [results, Tryd.results68, go_sem, *]) rfl ?_)
  exact ⟨rfl, by (repeat' (first | (with_reducible assumption) | (with_reducible exact Ext.refl _) | (with_reducible refine Ext.alloc ?_ _) | (with_reducible refine Ext.drew ?_) | (with_reducible refine Ext.drewN ?_ _) | (with_reducible refine Ext.setCell ?_ ?_ _) | (with_reducible refine Ext.trans ?_ (by assumption)) | go_size))⟩
theorem rMeet_c {w1 w2 : World} {a1 : Option Addr} {l1 : List Int} {n1 : Nat} (c1 : Nat) {v1 : Bool} {a2 : Option Addr} {l2 : List Int} {n2 : Nat} (c2 : Nat) {v2 : Bool} (w : World) (h1 : AA w1 a1 l1 n1 v1) (e1 : Ext w1 w) (h2 : AA w2 a2 l2 n2 v2) (e2 : Ext w2 w) :
    Calls Tryd.prog 68 #[.agg #[.slice a1 n1 c1], .agg #[.slice a2 n2 c2]] w (RetAny w (v1 && v2) (Globe.meetL l1 l2) 50) := by
  replace h1 := h1.ext e1
  replace h2 := h2.ext e2
  cases hq : (v1 && v2)
  · exact (rMeet_n c1 c2 w h1 (Ext.refl _) h2 (Ext.refl _) hq).mono fun _ _ h => RetAny.no h
  · obtain ⟨rfl, rfl⟩ := Bool.and_eq_true_iff.1 hq
    obtain ⟨b1, o1, rfl, rfl, r1⟩ := h1.va
    obtain ⟨b2, o2, rfl, rfl, r2⟩ := h2.va
    exact (rMeet_v c1 c2 w r1 (Ext.refl _) r2 (Ext.refl _)).mono fun _ _ h => h.any
theorem rLess_v {w1 w2 : World} {b1 o1 b2 o2 : Nat} (c1 c2 : Nat) {l1 l2 : List Int} (w : World) (h1 : VA w1 b1 o1 l1) (e1 : Ext w1 w) (h2 : VA w2 b2 o2 l2) (e2 : Ext w2 w) :
    Calls Tryd.prog 67 #[.agg #[.slice (some ⟨b1, o1, none⟩) 24 c1], .agg #[.slice (some ⟨b2, o2, none⟩) 24 c2]] w (RetV w (Globe.lessL l1 l2)) := by
  replace h1 := h1.ext e1
  replace h2 := h2.ext e2
  clear e1 e2
  have hs : outTo (selTo (fun x y => tb false false true false (Globe.hasL l1 x y) (Globe.hasL l2 x y)) 24) = Globe.lessL l1 l2 := out_sel (Globe.less_valid (b := l2) h1.2) fun x y hx hy => by
    rw [Globe.has_less hy]; cases Globe.hasL l1 x y <;> cases Globe.hasL l2 x y <;> rfl
  have H1 := Lib.hid h1; have H2 := Lib.hid h2; have HS := Lib.hid hs; have HV := Lib.hid (Globe.less_valid (b := l2) h1.2); clear h1 h2 hs
  go_enter Tryd.func67, Tryd.ntmps67
  go_wp2_with (go_at_call 77; refine (joined_v _ _ _ _ _ _ _ H1.out (by (repeat' (first | (with_reducible assumption) | (with_reducible exact Ext.refl _) | (with_reducible refine Ext.alloc ?_ _) | (with_reducible refine Ext.drew ?_) | (with_reducible refine Ext.drewN ?_ _) | (with_reducible refine Ext.setCell ?_ ?_ _) | (with_reducible refine Ext.trans ?_ (by assumption)) | go_size))) H2.out (by (repeat' (first | (with_reducible assumption) | (with_reducible exact Ext.refl _) | (with_reducible refine Ext.alloc ?_ _) | (with_reducible refine Ext.drew ?_) | (with_reducible refine Ext.drewN ?_ _) | (with_reducible refine Ext.setCell ?_ ?_ _) | (with_reducible refine Ext.trans ?_ (by assumption)) | go_size)))).mono ?_; rw [HS.out]; rintro e w1 ⟨B, k, rfl, hB, hr, hv, hb⟩; have hc := hb.cellE; have hf := hb.frozenE; have hz := hb.size; have ha := alloc_keeps w1; (try simp only [World.size_alloc] at hc hf hz); (try simp only [World.size_setCell] at hc hf hz); (try simp only [World.size_drew] at hc hf hz))
  have hne : w.heap.size + 1 + 1 ≠ B := by first | omega | (simp at hB; omega)
  have hr3 := hr.other (p := ⟨w.heap.size + 1 + 1, 0, none⟩) hne (.slice (some ⟨B, 0, none⟩) 24 k)
  refine bodyPost_ret (v := .tuple #[.agg #[.slice (some ⟨B, 0, none⟩) 24 k], .int .i64 0]) (by simp [results, Tryd.results67, go_sem, hc]) rfl ⟨B, k, rfl, by first | omega | (simp at hB; omega), hr3, hr3.va HV.out, by (repeat' (first | (with_reducible assumption) | (with_reducible exact Ext.refl _) | (with_reducible refine Ext.alloc ?_ _) | (with_reducible refine Ext.drew ?_) | (with_reducible refine Ext.drewN ?_ _) | (with_reducible refine Ext.setCell ?_ ?_ _) | (with_reducible refine Ext.trans ?_ (by assumption)) | go_size))⟩
theorem rLess_n {w1 w2 : World} {a1 : Option Addr} {l1 : List Int} {n1 : Nat} (c1 : Nat) {v1 : Bool} {a2 : Option Addr} {l2 : List Int} {n2 : Nat} (c2 : Nat) {v2 : Bool} (w : World) (h1 : AA w1 a1 l1 n1 v1) (e1 : Ext w1 w) (h2 : AA w2 a2 l2 n2 v2) (e2 : Ext w2 w) (hv : (v1 && v2) = false) :
    Calls Tryd.prog 67 #[.agg #[.slice a1 n1 c1], .agg #[.slice a2 n2 c2]] w (RetErr w 50) := by
  have H1 := Lib.hid (h1.ext e1); have H2 := Lib.hid (h2.ext e2)
  clear h1 h2 e1 e2
  go_enter Tryd.func67, Tryd.ntmps67
  go_wp2_with (go_at_call 77; refine (joined_n _ _ _ _ _ _ _ H1.out (by (repeat' (first | (with_reducible assumption) | (with_reducible exact Ext.refl _) | (with_reducible refine Ext.alloc ?_ _) | (with_reducible refine Ext.drew ?_) | (with_reducible refine Ext.drewN ?_ _) | (with_reducible refine Ext.setCell ?_ ?_ _) | (with_reducible refine Ext.trans ?_ (by assumption)) | go_size))) H2.out (by (repeat' (first | (with_reducible assumption) | (with_reducible exact Ext.refl _) | (with_reducible refine Ext.alloc ?_ _) | (with_reducible refine Ext.drew ?_) | (with_reducible refine Ext.drewN ?_ _) | (with_reducible refine Ext.setCell ?_ ?_ _) | (with_reducible refine Ext.trans ?_ (by assumption)) | go_size))) hv).mono ?_; rintro e w1 ⟨rfl, hb⟩; have hc := hb.cellE; have hf := hb.frozenE; have hz := hb.size; have ha := alloc_keeps w1; (try simp only [World.size_alloc] at hc hf hz); (try simp only [World.size_setCell] at hc hf hz); (try simp only [World.size_drew] at hc hf hz))
  ((try simp only [Exit.inBlock, Exit.then]); refine bodyPost_ret (v := .tuple #[.agg #[.slice none 0 0], .int .i64 50]) (by simp [results, Tryd.results67, go_sem, *]) rfl ?_)
  exact ⟨rfl, by (repeat' (first | (with_reducible assumption) | (with_reducible exact Ext.refl _) | (with_reducible refine Ext.alloc ?_ _) | (with_reducible refine Ext.drew ?_) | (with_reducible refine Ext.drewN ?_ _) | (with_reducible refine Ext.setCell ?_ ?_ _) | (with_reducible refine Ext.trans ?_ (by assumption)) | go_size))⟩
theorem rLess_c {w1 w2 : World} {a1 : Option Addr} {l1 : List Int} {n1 : Nat} (c1 : Nat) {v1 : Bool} {a2 : Option Addr} {l2 : List Int} {n2 : Nat} (c2 : Nat) {v2 : Bool} (w : World) (h1 : AA w1 a1 l1 n1 v1) (e1 : Ext w1 w) (h2 : AA w2 a2 l2 n2 v2) (e2 : Ext w2 w) :
    Calls Tryd.prog 67 #[.agg #[.slice a1 n1 c1], .agg #[.slice a2 n2 c2]] w (RetAny w (v1 && v2) (Globe.lessL l1 l2) 50) := by
  replace h1 := h1.ext e1
  replace h2 := h2.ext e2
  cases hq : (v1 && v2)
  · exact (rLess_n c1 c2 w h1 (Ext.refl _) h2 (Ext.refl _) hq).mono fun _ _ h => RetAny.no h
  · obtain ⟨rfl, rfl⟩ := Bool.and_eq_true_iff.1 hq
    obtain ⟨b1, o1, rfl, rfl, r1⟩ := h1.va
    obtain ⟨b2, o2, rfl, rfl, r2⟩ := h2.va
    exact (rLess_v c1 c2 w r1 (Ext.refl _) r2 (Ext.refl _)).mono fun _ _ h => h.any

theorem rContains_c {w1 w2 : World} {a1 : Option Addr} {l1 : List Int} {n1 : Nat} (c1 : Nat) {v1 : Bool} {a2 : Option Addr} {l2 : List Int} {n2 : Nat} (c2 : Nat) {v2 : Bool} (w : World) (h1 : AA w1 a1 l1 n1 v1) (e1 : Ext w1 w) (h2 : AA w2 a2 l2 n2 v2) (e2 : Ext w2 w) :
    Calls Tryd.prog 50 #[.agg #[.slice a1 n1 c1], .agg #[.slice a2 n2 c2]] w fun e w' => e = .returned (.bool (Globe.containsB l1 l2)) ∧ Ext w w' := by
  replace h1 := h1.ext e1
  replace h2 := h2.ext e2
  clear e1 e2
  have hcb : Globe.containsB l1 l2 = (v1 && v2 && decide (Globe.lessL l2 l1 = Globe.zeroL)) := by unfold Globe.containsB; rw [h1.2.2.2, h2.2.2.2]
  rw [hcb]
  clear hcb
  cases hq : (v2 && v1)
  · have hq' : (v1 && v2) = false := by rw [Bool.and_comm]; exact hq
    rw [hq']
    have H1 := Lib.hid h1; have H2 := Lib.hid h2; have HQ := Lib.hid hq
    clear h1 h2 hq hq'
    go_enter Tryd.func50, Tryd.ntmps50
    go_wp2_with (go_at_call 67; refine (rLess_n _ _ _ H2.out (by (repeat' (first | (with_reducible assumption) | (with_reducible exact Ext.refl _) | (with_reducible refine Ext.alloc ?_ _) | (with_reducible refine Ext.drew ?_) | (with_reducible refine Ext.drewN ?_ _) | (with_reducible refine Ext.setCell ?_ ?_ _) | (with_reducible refine Ext.trans ?_ (by assumption)) | go_size))) H1.out (by (repeat' (first | (with_reducible assumption) | (with_reducible exact Ext.refl _) | (with_reducible refine Ext.alloc ?_ _) | (with_reducible refine Ext.drew ?_) | (with_reducible refine Ext.drewN ?_ _) | (with_reducible refine Ext.setCell ?_ ?_ _) | (with_reducible refine Ext.trans ?_ (by assumption)) | go_size))) HQ.out).mono ?_; rintro e w1 ⟨rfl, hb⟩; have hc := hb.cellE; have hf := hb.frozenE; have hz := hb.size; have ha := alloc_keeps w1; (try simp only [World.size_alloc] at hc hf hz); (try simp only [World.size_setCell] at hc hf hz); (try simp only [World.size_drew] at hc hf hz))
    go_ret
    exact ⟨rfl, by (repeat' (first | (with_reducible assumption) | (with_reducible exact Ext.refl _) | (with_reducible refine Ext.alloc ?_ _) | (with_reducible refine Ext.drew ?_) | (with_reducible refine Ext.drewN ?_ _) | (with_reducible refine Ext.setCell ?_ ?_ _) | (with_reducible refine Ext.trans ?_ (by assumption)) | go_size))⟩
  · obtain ⟨rfl, rfl⟩ := Bool.and_eq_true_iff.1 hq
    clear hq
    obtain ⟨b1, o1, rfl, rfl, r1⟩ := h1.va
    obtain ⟨b2, o2, rfl, rfl, r2⟩ := h2.va
    have hz := Globe.count_zero_iff (Globe.less_valid (b := l1) r2.2)
    obtain ⟨m, hm⟩ : ∃ m, (Globe.cellsTo (Globe.lessL l2 l1) 24).length = m := ⟨_, rfl⟩
    have hcl : Globe.countL (Globe.lessL l2 l1) = m := by unfold Globe.countL Globe.cellsL; rw [Globe.less_valid r2.2]; exact hm
    rw [hm] at hz
    have HC := Lib.hid hcl; have H1 := Lib.hid r1; have H2 := Lib.hid r2
    clear hm hcl h1 h2 r1 r2
    by_cases h0 : m = 0
    · rw [decide_eq_true (hz.1 h0)]
      subst h0
      clear hz
      go_enter Tryd.func50, Tryd.ntmps50
      go_wp2_with (first | (go_at_call 67; refine (rLess_v _ _ _ H2.out (by (repeat' (first | (with_reducible assumption) | (with_reducible exact Ext.refl _) | (with_reducible refine Ext.alloc ?_ _) | (with_reducible refine Ext.drew ?_) | (with_reducible refine Ext.drewN ?_ _) | (with_reducible refine Ext.setCell ?_ ?_ _) | (with_reducible refine Ext.trans ?_ (by assumption)) | go_size))) H1.out (by (repeat' (first | (with_reducible assumption) | (with_reducible exact Ext.refl _) | (with_reducible refine Ext.alloc ?_ _) | (with_reducible refine Ext.drew ?_) | (with_reducible refine Ext.drewN ?_ _) | (with_reducible refine Ext.setCell ?_ ?_ _) | (with_reducible refine Ext.trans ?_ (by assumption)) | go_size)))).mono ?_; rintro e w1 ⟨B, k, rfl, hB, hr, hv, hb⟩; clear hr hB; have hc := hb.cellE; have hf := hb.frozenE; have hz := hb.size; have ha := alloc_keeps w1; (try simp only [World.size_alloc] at hc hf hz); (try simp only [World.size_setCell] at hc hf hz); (try simp only [World.size_drew] at hc hf hz)) | (go_at_call 51; refine (rCount_c _ _ hv.aa (by first | exact Ext.refl _ | exact Ext.alloc (Ext.refl _) _)).mono ?_; rw [HC.out]; rintro e w2 ⟨rfl, hb2⟩; have hc2 := hb2.cellE; have hf2 := hb2.frozenE; have hz2 := hb2.size; have ha2 := alloc_keeps w2; (try simp only [World.size_alloc] at hc2 hf2 hz2); (try simp only [World.size_setCell] at hc2 hf2 hz2); (try simp only [World.size_drew] at hc2 hf2 hz2)))
      go_ret
      exact ⟨rfl, by (repeat' (first | (with_reducible assumption) | (with_reducible exact Ext.refl _) | (with_reducible refine Ext.alloc ?_ _) | (with_reducible refine Ext.drew ?_) | (with_reducible refine Ext.drewN ?_ _) | (with_reducible refine Ext.setCell ?_ ?_ _) | (with_reducible refine Ext.trans ?_ (by assumption)) | go_size))⟩
    · rw [decide_eq_false (fun e => h0 (hz.2 e))]
      have m1 : ((m : Int) == 0) = false := by simp; omega
      have m2 : (m == 0) = false := by simp; omega
      clear hz
      go_enter Tryd.func50, Tryd.ntmps50
      go_wp2_with (first | (go_at_call 67; refine (rLess_v _ _ _ H2.out (by (repeat' (first | (with_reducible assumption) | (with_reducible exact Ext.refl _) | (with_reducible refine Ext.alloc ?_ _) | (with_reducible refine Ext.drew ?_) | (with_reducible refine Ext.drewN ?_ _) | (with_reducible refine Ext.setCell ?_ ?_ _) | (with_reducible refine Ext.trans ?_ (by assumption)) | go_size))) H1.out (by (repeat' (first | (with_reducible assumption) | (with_reducible exact Ext.refl _) | (with_reducible refine Ext.alloc ?_ _) | (with_reducible refine Ext.drew ?_) | (with_reducible refine Ext.drewN ?_ _) | (with_reducible refine Ext.setCell ?_ ?_ _) | (with_reducible refine Ext.trans ?_ (by assumption)) | go_size)))).mono ?_; rintro e w1 ⟨B, k, rfl, hB, hr, hv, hb⟩; clear hr hB; have hc := hb.cellE; have hf := hb.frozenE; have hz := hb.size; have ha := alloc_keeps w1; (try simp only [World.size_alloc] at hc hf hz); (try simp only [World.size_setCell] at hc hf hz); (try simp only [World.size_drew] at hc hf hz)) | (go_at_call 51; refine (rCount_c _ _ hv.aa (by first | exact Ext.refl _ | exact Ext.alloc (Ext.refl _) _)).mono ?_; rw [HC.out]; rintro e w2 ⟨rfl, hb2⟩; have hc2 := hb2.cellE; have hf2 := hb2.frozenE; have hz2 := hb2.size; have ha2 := alloc_keeps w2; (try simp only [World.size_alloc] at hc2 hf2 hz2); (try simp only [World.size_setCell] at hc2 hf2 hz2); (try simp only [World.size_drew] at hc2 hf2 hz2)))
      go_ret
      exact ⟨rfl, by (repeat' (first | (with_reducible assumption) | (with_reducible exact Ext.refl _) | (with_reducible refine Ext.alloc ?_ _) | (with_reducible refine Ext.drew ?_) | (with_reducible refine Ext.drewN ?_ _) | (with_reducible refine Ext.setCell ?_ ?_ _) | (with_reducible refine Ext.trans ?_ (by assumption)) | go_size))⟩

end Go.Proofs.YtglfoglkdbbmmaaDoor

/- Contracts of the reference of package cover: less, meet, Valid. -/
namespace Go.Proofs.YtglfoglkdbbmmaaDoor
open Go.RowKit Go.Shelf

/-- A new valid area. -/
def RetB (w : World) (L : List Int) (e : Ending) (w' : World) : Prop := ∃ B k : Nat, e = .returned (.agg #[.slice (some ⟨B, 0, none⟩) 24 k]) ∧ w.heap.size ≤ B ∧ VA w' B 0 L ∧ Ext w w'
def RetZ (w : World) (e : Ending) (w' : World) : Prop := ∃ B : Nat, e = .returned (.agg #[.slice (some ⟨B, 0, none⟩) 24 24]) ∧ w.heap.size ≤ B ∧ VA w' B 0 Globe.zeroL ∧ Ext w w'
theorem rEmpty_v (w : World) : Calls Tryd.prog 36 #[] w (RetZ w) := (rEmpty_c w).mono fun _ _ ⟨B, h1, h2, h3, h4⟩ => ⟨B, h1, h2, h3.va (by decide), h4⟩
theorem rContains_r {w1 w2 : World} {a1 : Option Addr} {l1 : List Int} {n1 : Nat} {r : Bool} (c1 : Nat) {v1 : Bool} {a2 : Option Addr} {l2 : List Int} {n2 : Nat} (c2 : Nat) {v2 : Bool} (w : World) (h1 : AA w1 a1 l1 n1 v1) (e1 : Ext w1 w) (h2 : AA w2 a2 l2 n2 v2) (e2 : Ext w2 w) (hr : Globe.containsB l1 l2 = r) :
    Calls Tryd.prog 50 #[.agg #[.slice a1 n1 c1], .agg #[.slice a2 n2 c2]] w fun e w' => e = .returned (.bool r) ∧ Ext w w' := hr ▸ rContains_c c1 c2 w h1 e1 h2 e2
theorem b3 : ∀ v r : Bool, v = false ∨ (v = true ∧ r = false) ∨ (v = true ∧ r = true) := by decide
theorem ok_of {s : List Int × List Int} (h1 : Globe.validL s.1 = true) (h2 : Globe.containsB s.2 s.1 = true) : Globe.stripOk s = true := by unfold Globe.stripOk; rw [h1, h2]; rfl
theorem ok_step {ss : List (List Int × List Int)} {i : Nat} {s : List Int × List Int} (hs : ss[i]? = some s) (ho : Globe.stripOk s = true) (hall : ∀ j s, ss[j]? = some s → j < i → Globe.stripOk s = true) : ∀ j s, ss[j]? = some s → j < i + 1 → Globe.stripOk s = true := fun j t ht hj => by
  rcases Nat.lt_or_ge j i with q | q
  · exact hall j t ht q
  · obtain rfl : j = i := by omega
    rw [hs] at ht; cases ht; exact ho
theorem ok_no {ss : List (List Int × List Int)} {i : Nat} {s : List Int × List Int} (hs : ss[i]? = some s) (h : Globe.stripOk s = false) : Globe.stripsOk ss = false := by
  cases hq : Globe.stripsOk ss
  · rfl
  · rw [(Globe.stripsOk_t.1 hq).2 s (List.mem_of_getElem? hs)] at h; cases h
theorem ok_end {ss : List (List Int × List Int)} {n : Nat} (hl : ss.length = n) (hall : ∀ j s, ss[j]? = some s → j < n → Globe.stripOk s = true) : Globe.stripsOk ss = decide (n ≤ 24) := by
  have : ss.all Globe.stripOk = true := List.all_eq_true.2 fun s hs => by
    obtain ⟨j, hj⟩ := List.mem_iff_getElem?.1 hs
    exact hall j s hj (by have := (List.getElem?_eq_some_iff.1 hj).1; omega)
  unfold Globe.stripsOk
  rw [this, hl, Bool.and_true]
set_option maxRecDepth 1000000 in
set_option maxHeartbeats 4000000 in
theorem less16_v {w1 w2 : World} {b1 o1 b2 o2 : Nat} (c1 c2 : Nat) {l1 l2 : List Int} (w : World) (h1 : VA w1 b1 o1 l1) (e1 : Ext w1 w) (h2 : VA w2 b2 o2 l2) (e2 : Ext w2 w) :
    Calls Tryd.prog 45 #[.agg #[.slice (some ⟨b1, o1, none⟩) 24 c1], .agg #[.slice (some ⟨b2, o2, none⟩) 24 c2]] w (RetB w (Globe.lessL l1 l2)) := by
  have hA := h1.ext e1; have hB := h2.ext e2
  refine calls_cw 17 [(1, .agg #[.slice (some ⟨b2, o2, none⟩) 24 c2]), (0, .agg #[.slice (some ⟨b1, o1, none⟩) 24 c1])] Tryd.func45 rfl Tryd.ntmps45 (by kernel_rfl) (by kernel_rfl) (fun L => ?_)
  have hE : Ext w w := Ext.refl w
  refine cw_seq ?_
  refine cw_plain ?_
  refine pl_step rfl (by kernel_rfl) (by kernel_rfl) (by kernel_rfl) (sn_new (us := #[.slice (some ⟨b1, o1, none⟩) 24 c1]) (t := 25) (by kernel_rfl) ?_)
  intro O1 X2 hO hOs hb hbx
  have hzO1 := hO; have hyO1 := hOs; clear hO hOs
  have bO1_0 : BoxAt X2 O1 0 (.slice (some ⟨b1, o1, none⟩) 24 c1) := hbx 0 _ rfl
  clear hbx
  replace hE := hE.trans hb
  have hs3 := hb.size
  clear hb
  have lt4 := bO1_0.lt
  refine pl_step rfl (by kernel_rfl) (by kernel_rfl) (by kernel_rfl) (sn_new (us := #[.slice (some ⟨b2, o2, none⟩) 24 c2]) (t := 25) (by kernel_rfl) ?_)
  intro O5 X6 hO hOs hb hbx
  have hzO5 := hO; have hyO5 := hOs; clear hO hOs
  have bO5_0 : BoxAt X6 O5 0 (.slice (some ⟨b2, o2, none⟩) 24 c2) := hbx 0 _ rfl
  clear hbx
  replace hE := hE.trans hb
  replace bO1_0 := BoxAt.ext hb bO1_0
  have hs7 := hb.size
  clear hb
  have lt8 := bO5_0.lt
  refine pl_step rfl (by kernel_rfl) (by kernel_rfl) (by kernel_rfl) (sn_new (us := #[.slice none 0 0]) (t := 25) (by kernel_rfl) ?_)
  intro O9 X10 hO hOs hb hbx
  have hzO9 := hO; have hyO9 := hOs; clear hO hOs
  have bO9_0 : BoxAt X10 O9 0 (.slice none 0 0) := hbx 0 _ rfl
  clear hbx
  replace hE := hE.trans hb
  replace bO1_0 := BoxAt.ext hb bO1_0
  replace bO5_0 := BoxAt.ext hb bO5_0
  have hs11 := hb.size
  clear hb
  have lt12 := bO9_0.lt
  refine pl_nil ?_
  refine qw_then ?_
  refine cw_seq ?_
  refine cw_plain ?_
  refine pl_take (.agg #[.slice (some ⟨b1, o1, none⟩) 24 c1]) rfl (by kernel_rfl) (by kernel_rfl) (by kernel_rfl) (ex_load rfl (by kernel_rfl) (ld25 (bO1_0.1))) ?_
  refine pl_take (.agg #[.slice (some ⟨b2, o2, none⟩) 24 c2]) rfl (by kernel_rfl) (by kernel_rfl) (by kernel_rfl) (ex_load rfl (by kernel_rfl) (ld25 (bO5_0.1))) ?_
  refine pl_step rfl (by kernel_rfl) (by kernel_rfl) (by kernel_rfl) (sn_call (f := 67) (args := #[.agg #[.slice (some ⟨b1, o1, none⟩) 24 c1], .agg #[.slice (some ⟨b2, o2, none⟩) 24 c2]]) (by kernel_rfl) ((rLess_v _ _ _ (hA.ext hE) (Ext.refl _) (hB.ext hE) (Ext.refl _)).mono ?_))
  rintro e w17 ⟨B13, k14, rfl, hn16, -, v15, hb⟩
  replace hE := hE.trans hb
  replace bO1_0 := BoxAt.ext hb bO1_0
  replace bO5_0 := BoxAt.ext hb bO5_0
  replace bO9_0 := BoxAt.ext hb bO9_0
  have hs18 := hb.size
  clear hb
  have lt19 := v15.lt
  refine ⟨_, rfl, ?_⟩
  refine pl_take (.tuple #[.agg #[.slice (some ⟨B13, 0, none⟩) 24 k14], .int .i64 0]) rfl (by kernel_rfl) (by kernel_rfl) (by kernel_rfl) (by kernel_rfl) ?_
  refine pl_take (.agg #[.slice (some ⟨B13, 0, none⟩) 24 k14]) rfl (by kernel_rfl) (by kernel_rfl) (by kernel_rfl) (by kernel_rfl) ?_
  refine pl_take (.int .i64 0) rfl (by kernel_rfl) (by kernel_rfl) (by kernel_rfl) (by kernel_rfl) ?_
  refine pl_step rfl (by kernel_rfl) (by kernel_rfl) (by kernel_rfl) (sn_new (us := #[.slice none 0 0]) (t := 25) (by kernel_rfl) ?_)
  intro O20 X21 hO hOs hb hbx
  have hzO20 := hO; have hyO20 := hOs; clear hO hOs
  have bO20_0 : BoxAt X21 O20 0 (.slice none 0 0) := hbx 0 _ rfl
  clear hbx
  replace hE := hE.trans hb
  replace bO1_0 := BoxAt.ext hb bO1_0
  replace bO5_0 := BoxAt.ext hb bO5_0
  replace bO9_0 := BoxAt.ext hb bO9_0
  replace v15 := v15.ext hb
  have hs22 := hb.size
  clear hb
  have lt23 := bO20_0.lt
  refine pl_put rfl (by kernel_rfl) (by kernel_rfl) (sn_set (O := O20) (j := 0) (v := .slice (some ⟨B13, 0, none⟩) 24 k14) (ex_store (p := .pointer (some ⟨O20, 0, none⟩)) (v := .agg #[.slice (some ⟨B13, 0, none⟩) 24 k14]) rfl (by kernel_rfl) (by kernel_rfl) (st25 bO20_0.1 bO20_0.2)) bO20_0 ?_)
  intro X24 ho hv0 hk
  replace hE := ho.ext hE (Nat.le_trans (Nat.le_trans hs3 (Nat.le_trans hs7 (Nat.le_trans hs11 hs18))) (Nat.le_of_eq hzO20))
  replace bO1_0 := ho.box (Nat.ne_of_gt (Nat.lt_of_lt_of_le lt4 (Nat.le_trans (Nat.le_trans hs7 (Nat.le_trans hs11 hs18)) (Nat.le_of_eq hzO20)))) bO1_0
  replace bO5_0 := ho.box (Nat.ne_of_gt (Nat.lt_of_lt_of_le lt8 (Nat.le_trans (Nat.le_trans hs11 hs18) (Nat.le_of_eq hzO20)))) bO5_0
  replace bO9_0 := ho.box (Nat.ne_of_gt (Nat.lt_of_lt_of_le lt12 (Nat.le_trans hs18 (Nat.le_of_eq hzO20)))) bO9_0
  replace v15 := ho.va (Nat.ne_of_gt (Nat.lt_of_lt_of_le lt19 (Nat.le_of_eq hzO20))) v15
  have hs25 : X21.heap.size ≤ X24.heap.size := Nat.le_of_eq ho.size.symm
  clear ho hk bO20_0
  have bO20_0 := hv0; clear hv0
  refine pl_take (.int .i64 0) rfl (by kernel_rfl) (by kernel_rfl) (by kernel_rfl) (by kernel_rfl) ?_
  refine pl_nil ?_
  refine qw_then ?_
  refine cw_seq ?_
  refine cw_seq ?_
  refine cw_plain ?_
  refine pl_take (.int .i64 0) rfl (by kernel_rfl) (by kernel_rfl) (by kernel_rfl) (by kernel_rfl) ?_
  refine pl_take (.bool false) rfl (by kernel_rfl) (by kernel_rfl) (by kernel_rfl) (by kernel_rfl) ?_
  refine pl_nil ?_
  refine qw_then ?_
  refine cw_clean [4, 5, 14] (ws' := [(4, .pointer (some ⟨O9, 0, none⟩)), (5, .pointer (some ⟨O20, 0, none⟩)), (14, .bool false)]) (by kernel_rfl) (fun L => ?_)
  refine cw_f (by kernel_rfl) ?_
  refine cw_skip ?_
  refine qw_then ?_
  refine cw_seq ?_
  refine cw_plain ?_
  refine pl_take (.agg #[.slice (some ⟨B13, 0, none⟩) 24 k14]) rfl (by kernel_rfl) (by kernel_rfl) (by kernel_rfl) (ex_load rfl (by kernel_rfl) (ld25 (bO20_0.1))) ?_
  refine pl_put rfl (by kernel_rfl) (by kernel_rfl) (sn_set (O := O9) (j := 0) (v := .slice (some ⟨B13, 0, none⟩) 24 k14) (ex_store (p := .pointer (some ⟨O9, 0, none⟩)) (v := .agg #[.slice (some ⟨B13, 0, none⟩) 24 k14]) rfl (by kernel_rfl) (by kernel_rfl) (st25 bO9_0.1 bO9_0.2)) bO9_0 ?_)
  intro X26 ho hv0 hk
  replace hE := ho.ext hE (Nat.le_trans (Nat.le_trans hs3 hs7) (Nat.le_of_eq hzO9))
  replace bO1_0 := ho.box (Nat.ne_of_gt (Nat.lt_of_lt_of_le lt4 (Nat.le_trans hs7 (Nat.le_of_eq hzO9)))) bO1_0
  replace bO5_0 := ho.box (Nat.ne_of_gt (Nat.lt_of_lt_of_le lt8 (Nat.le_of_eq hzO9))) bO5_0
  replace v15 := ho.va (Nat.ne_of_lt (Nat.lt_of_lt_of_le lt12 hn16)) v15
  replace bO20_0 := ho.box (Nat.ne_of_lt (Nat.lt_of_lt_of_le lt12 (Nat.le_trans hs18 (Nat.le_of_eq hzO20)))) bO20_0
  have hs27 : X24.heap.size ≤ X26.heap.size := Nat.le_of_eq ho.size.symm
  clear ho hk bO9_0
  have bO9_0 := hv0; clear hv0
  refine pl_nil ?_
  refine qw_then ?_
  refine cw_ret ?_
  refine qw_ret [.agg #[.slice (some ⟨B13, 0, none⟩) 24 k14]] rfl ⟨⟨_, by kernel_rfl, res_ld (ld25 (bO9_0.1))⟩, trivial⟩ ?_
  exact ⟨B13, k14, rfl, (Nat.le_trans (Nat.le_trans hs3 (Nat.le_trans hs7 hs11)) hn16), v15, hE⟩
set_option maxRecDepth 1000000 in
set_option maxHeartbeats 4000000 in
theorem meet16_v {w1 w2 : World} {b1 o1 b2 o2 : Nat} (c1 c2 : Nat) {l1 l2 : List Int} (w : World) (h1 : VA w1 b1 o1 l1) (e1 : Ext w1 w) (h2 : VA w2 b2 o2 l2) (e2 : Ext w2 w) :
    Calls Tryd.prog 47 #[.agg #[.slice (some ⟨b1, o1, none⟩) 24 c1], .agg #[.slice (some ⟨b2, o2, none⟩) 24 c2]] w (RetB w (Globe.meetL l1 l2)) := by
  have hA := h1.ext e1; have hB := h2.ext e2
  refine calls_cw 17 [(1, .agg #[.slice (some ⟨b2, o2, none⟩) 24 c2]), (0, .agg #[.slice (some ⟨b1, o1, none⟩) 24 c1])] Tryd.func47 rfl Tryd.ntmps47 (by kernel_rfl) (by kernel_rfl) (fun L => ?_)
  have hE : Ext w w := Ext.refl w
  refine cw_seq ?_
  refine cw_plain ?_
  refine pl_step rfl (by kernel_rfl) (by kernel_rfl) (by kernel_rfl) (sn_new (us := #[.slice (some ⟨b1, o1, none⟩) 24 c1]) (t := 25) (by kernel_rfl) ?_)
  intro O1 X2 hO hOs hb hbx
  have hzO1 := hO; have hyO1 := hOs; clear hO hOs
  have bO1_0 : BoxAt X2 O1 0 (.slice (some ⟨b1, o1, none⟩) 24 c1) := hbx 0 _ rfl
  clear hbx
  replace hE := hE.trans hb
  have hs3 := hb.size
  clear hb
  have lt4 := bO1_0.lt
  refine pl_step rfl (by kernel_rfl) (by kernel_rfl) (by kernel_rfl) (sn_new (us := #[.slice (some ⟨b2, o2, none⟩) 24 c2]) (t := 25) (by kernel_rfl) ?_)
  intro O5 X6 hO hOs hb hbx
  have hzO5 := hO; have hyO5 := hOs; clear hO hOs
  have bO5_0 : BoxAt X6 O5 0 (.slice (some ⟨b2, o2, none⟩) 24 c2) := hbx 0 _ rfl
  clear hbx
  replace hE := hE.trans hb
  replace bO1_0 := BoxAt.ext hb bO1_0
  have hs7 := hb.size
  clear hb
  have lt8 := bO5_0.lt
  refine pl_step rfl (by kernel_rfl) (by kernel_rfl) (by kernel_rfl) (sn_new (us := #[.slice none 0 0]) (t := 25) (by kernel_rfl) ?_)
  intro O9 X10 hO hOs hb hbx
  have hzO9 := hO; have hyO9 := hOs; clear hO hOs
  have bO9_0 : BoxAt X10 O9 0 (.slice none 0 0) := hbx 0 _ rfl
  clear hbx
  replace hE := hE.trans hb
  replace bO1_0 := BoxAt.ext hb bO1_0
  replace bO5_0 := BoxAt.ext hb bO5_0
  have hs11 := hb.size
  clear hb
  have lt12 := bO9_0.lt
  refine pl_nil ?_
  refine qw_then ?_
  refine cw_seq ?_
  refine cw_plain ?_
  refine pl_take (.agg #[.slice (some ⟨b1, o1, none⟩) 24 c1]) rfl (by kernel_rfl) (by kernel_rfl) (by kernel_rfl) (ex_load rfl (by kernel_rfl) (ld25 (bO1_0.1))) ?_
  refine pl_take (.agg #[.slice (some ⟨b2, o2, none⟩) 24 c2]) rfl (by kernel_rfl) (by kernel_rfl) (by kernel_rfl) (ex_load rfl (by kernel_rfl) (ld25 (bO5_0.1))) ?_
  refine pl_step rfl (by kernel_rfl) (by kernel_rfl) (by kernel_rfl) (sn_call (f := 68) (args := #[.agg #[.slice (some ⟨b1, o1, none⟩) 24 c1], .agg #[.slice (some ⟨b2, o2, none⟩) 24 c2]]) (by kernel_rfl) ((rMeet_v _ _ _ (hA.ext hE) (Ext.refl _) (hB.ext hE) (Ext.refl _)).mono ?_))
  rintro e w17 ⟨B13, k14, rfl, hn16, -, v15, hb⟩
  replace hE := hE.trans hb
  replace bO1_0 := BoxAt.ext hb bO1_0
  replace bO5_0 := BoxAt.ext hb bO5_0
  replace bO9_0 := BoxAt.ext hb bO9_0
  have hs18 := hb.size
  clear hb
  have lt19 := v15.lt
  refine ⟨_, rfl, ?_⟩
  refine pl_take (.tuple #[.agg #[.slice (some ⟨B13, 0, none⟩) 24 k14], .int .i64 0]) rfl (by kernel_rfl) (by kernel_rfl) (by kernel_rfl) (by kernel_rfl) ?_
  refine pl_take (.agg #[.slice (some ⟨B13, 0, none⟩) 24 k14]) rfl (by kernel_rfl) (by kernel_rfl) (by kernel_rfl) (by kernel_rfl) ?_
  refine pl_take (.int .i64 0) rfl (by kernel_rfl) (by kernel_rfl) (by kernel_rfl) (by kernel_rfl) ?_
  refine pl_step rfl (by kernel_rfl) (by kernel_rfl) (by kernel_rfl) (sn_new (us := #[.slice none 0 0]) (t := 25) (by kernel_rfl) ?_)
  intro O20 X21 hO hOs hb hbx
  have hzO20 := hO; have hyO20 := hOs; clear hO hOs
  have bO20_0 : BoxAt X21 O20 0 (.slice none 0 0) := hbx 0 _ rfl
  clear hbx
  replace hE := hE.trans hb
  replace bO1_0 := BoxAt.ext hb bO1_0
  replace bO5_0 := BoxAt.ext hb bO5_0
  replace bO9_0 := BoxAt.ext hb bO9_0
  replace v15 := v15.ext hb
  have hs22 := hb.size
  clear hb
  have lt23 := bO20_0.lt
  refine pl_put rfl (by kernel_rfl) (by kernel_rfl) (sn_set (O := O20) (j := 0) (v := .slice (some ⟨B13, 0, none⟩) 24 k14) (ex_store (p := .pointer (some ⟨O20, 0, none⟩)) (v := .agg #[.slice (some ⟨B13, 0, none⟩) 24 k14]) rfl (by kernel_rfl) (by kernel_rfl) (st25 bO20_0.1 bO20_0.2)) bO20_0 ?_)
  intro X24 ho hv0 hk
  replace hE := ho.ext hE (Nat.le_trans (Nat.le_trans hs3 (Nat.le_trans hs7 (Nat.le_trans hs11 hs18))) (Nat.le_of_eq hzO20))
  replace bO1_0 := ho.box (Nat.ne_of_gt (Nat.lt_of_lt_of_le lt4 (Nat.le_trans (Nat.le_trans hs7 (Nat.le_trans hs11 hs18)) (Nat.le_of_eq hzO20)))) bO1_0
  replace bO5_0 := ho.box (Nat.ne_of_gt (Nat.lt_of_lt_of_le lt8 (Nat.le_trans (Nat.le_trans hs11 hs18) (Nat.le_of_eq hzO20)))) bO5_0
  replace bO9_0 := ho.box (Nat.ne_of_gt (Nat.lt_of_lt_of_le lt12 (Nat.le_trans hs18 (Nat.le_of_eq hzO20)))) bO9_0
  replace v15 := ho.va (Nat.ne_of_gt (Nat.lt_of_lt_of_le lt19 (Nat.le_of_eq hzO20))) v15
  have hs25 : X21.heap.size ≤ X24.heap.size := Nat.le_of_eq ho.size.symm
  clear ho hk bO20_0
  have bO20_0 := hv0; clear hv0
  refine pl_take (.int .i64 0) rfl (by kernel_rfl) (by kernel_rfl) (by kernel_rfl) (by kernel_rfl) ?_
  refine pl_nil ?_
  refine qw_then ?_
  refine cw_seq ?_
  refine cw_seq ?_
  refine cw_plain ?_
  refine pl_take (.int .i64 0) rfl (by kernel_rfl) (by kernel_rfl) (by kernel_rfl) (by kernel_rfl) ?_
  refine pl_take (.bool false) rfl (by kernel_rfl) (by kernel_rfl) (by kernel_rfl) (by kernel_rfl) ?_
  refine pl_nil ?_
  refine qw_then ?_
  refine cw_clean [4, 5, 14] (ws' := [(4, .pointer (some ⟨O9, 0, none⟩)), (5, .pointer (some ⟨O20, 0, none⟩)), (14, .bool false)]) (by kernel_rfl) (fun L => ?_)
  refine cw_f (by kernel_rfl) ?_
  refine cw_skip ?_
  refine qw_then ?_
  refine cw_seq ?_
  refine cw_plain ?_
  refine pl_take (.agg #[.slice (some ⟨B13, 0, none⟩) 24 k14]) rfl (by kernel_rfl) (by kernel_rfl) (by kernel_rfl) (ex_load rfl (by kernel_rfl) (ld25 (bO20_0.1))) ?_
  refine pl_put rfl (by kernel_rfl) (by kernel_rfl) (sn_set (O := O9) (j := 0) (v := .slice (some ⟨B13, 0, none⟩) 24 k14) (ex_store (p := .pointer (some ⟨O9, 0, none⟩)) (v := .agg #[.slice (some ⟨B13, 0, none⟩) 24 k14]) rfl (by kernel_rfl) (by kernel_rfl) (st25 bO9_0.1 bO9_0.2)) bO9_0 ?_)
  intro X26 ho hv0 hk
  replace hE := ho.ext hE (Nat.le_trans (Nat.le_trans hs3 hs7) (Nat.le_of_eq hzO9))
  replace bO1_0 := ho.box (Nat.ne_of_gt (Nat.lt_of_lt_of_le lt4 (Nat.le_trans hs7 (Nat.le_of_eq hzO9)))) bO1_0
  replace bO5_0 := ho.box (Nat.ne_of_gt (Nat.lt_of_lt_of_le lt8 (Nat.le_of_eq hzO9))) bO5_0
  replace v15 := ho.va (Nat.ne_of_lt (Nat.lt_of_lt_of_le lt12 hn16)) v15
  replace bO20_0 := ho.box (Nat.ne_of_lt (Nat.lt_of_lt_of_le lt12 (Nat.le_trans hs18 (Nat.le_of_eq hzO20)))) bO20_0
  have hs27 : X24.heap.size ≤ X26.heap.size := Nat.le_of_eq ho.size.symm
  clear ho hk bO9_0
  have bO9_0 := hv0; clear hv0
  refine pl_nil ?_
  refine qw_then ?_
  refine cw_ret ?_
  refine qw_ret [.agg #[.slice (some ⟨B13, 0, none⟩) 24 k14]] rfl ⟨⟨_, by kernel_rfl, res_ld (ld25 (bO9_0.1))⟩, trivial⟩ ?_
  exact ⟨B13, k14, rfl, (Nat.le_trans (Nat.le_trans hs3 (Nat.le_trans hs7 hs11)) hn16), v15, hE⟩
set_option maxRecDepth 1000000 in
set_option maxHeartbeats 4000000 in
theorem rValidS_c {w0 : World} {a : Option Addr} {n : Nat} {ss : List (List Int × List Int)} (c : Nat) (w : World) (h : StripsAt w0 a n ss) (hE0 : Ext w0 w) :
    Calls Tryd.prog 20 #[.slice a n c] w fun e w' => e = .returned (.bool (Globe.stripsOk ss)) ∧ Ext w w' := by
  have hS := h.ext hE0; have hln := h.1; have hnb := h.2.1
  refine calls_cw 34 [(0, .slice a n c)] Tryd.func20 rfl Tryd.ntmps20 (by kernel_rfl) (by kernel_rfl) (fun L => ?_)
  have hE : Ext w w := Ext.refl w
  refine cw_seq ?_
  refine cw_plain ?_
  refine pl_take (.bool false) rfl (by kernel_rfl) (by kernel_rfl) (by kernel_rfl) (by kernel_rfl) ?_
  refine pl_nil ?_
  refine qw_then ?_
  refine cw_seq ?_
  refine cw_seq ?_
  refine cw_plain ?_
  refine pl_take (.int .i64 0) rfl (by kernel_rfl) (by kernel_rfl) (by kernel_rfl) (by kernel_rfl) ?_
  refine pl_nil ?_
  refine qw_then ?_
  refine cw_block ?_
  refine cw_loop [0, 3] (fun ws' wr m => ∃ i : Nat, ws' = [(0, .slice a n c), (3, .int .i64 (((i : Nat) : Int) : Int))] ∧ m = n - i ∧ w.heap.size ≤ wr.heap.size ∧ Ext w wr ∧ i ≤ n ∧ ∀ j s, ss[j]? = some s → j < i → Globe.stripOk s = true) (ws0 := [(0, .slice a n c), (3, .int .i64 0)]) (by kernel_rfl) _ ⟨0, rfl, rfl, Nat.le_refl _, hE, by omega, (fun j s _ hj => absurd hj (Nat.not_lt_zero j))⟩ ?_
  clear hE
  rintro m3 L ws w2 ⟨i, rfl, rfl, hs1, hE, hi, hall⟩
  by_cases hlt : i < n
  ·
    obtain ⟨sb, so, s, rfl, hs, hst⟩ := hS.at hlt
    obtain ⟨p1, m1, k1, v1, p2, m2, k2, v2, d1, A1, d2, A2⟩ := hst
    refine cw_seq ?_
    refine cw_seq ?_
    refine cw_plain ?_
    refine pl_take (.int .i64 (((i : Nat) : Int) : Int)) rfl (by kernel_rfl) (by kernel_rfl) (by kernel_rfl) (by kernel_rfl) ?_
    refine pl_take (.slice (some ⟨sb, so, none⟩) n c) rfl (by kernel_rfl) (by kernel_rfl) (by kernel_rfl) (by kernel_rfl) ?_
    refine pl_take (.int .i64 (((n : Nat) : Int) : Int)) rfl (by kernel_rfl) (by kernel_rfl) (by kernel_rfl) (by kernel_rfl) ?_
    refine pl_take (.bool true) rfl (by kernel_rfl) (by kernel_rfl) (by kernel_rfl) (ev_dec (show _ = Result.ok (Next.value (Value.bool (decide ((((i : Nat) : Int) : Int) < (((n : Nat) : Int) : Int))))) _ from by kernel_rfl) (by omega)) ?_
    refine pl_nil ?_
    refine qw_then ?_
    refine cw_t (by kernel_rfl) ?_
    refine cw_skip ?_
    refine qw_then ?_
    refine cw_seq ?_
    refine cw_block ?_
    refine cw_seq ?_
    rcases b3 v1 (Globe.containsB s.2 s.1) with rfl | ⟨rfl, hcq⟩ | ⟨rfl, hcq⟩
    ·
      refine cw_draw [(some 10, [0], []), (some 11, [3], []), (some 12, [10, 11], [0, 1]), (some 13, [12], [2]), (some 14, [13], [3]), (some 15, [14], [4]), (some 16, [15], [5]), (some 17, [16], [6, 5]), (some 18, [0, 17], [7]), (some 19, [3, 17], [7]), (some 20, [18, 19, 17], [8, 9, 7]), (some 21, [20, 17], [10, 7]), (some 22, [21, 17], [11, 7]), (some 23, [0, 17], [7]), (some 24, [3, 17], [7]), (some 25, [23, 24, 17], [13, 14, 7]), (some 26, [25, 17], [15, 7]), (some 27, [26, 17], [16, 7]), (some 28, [22, 27, 17], [12, 17, 7, 7]), (some 29, [28, 17], [18, 7]), (some 30, [17, 29], [7, 19])] (fun w' => w'.cell? ⟨sb, so + i * 2, none⟩ = some (.slice p1 m1 k1)) (by kernel_rfl) (by kernel_rfl) (by kernel_rfl) (by kernel_rfl) ((calm_then (calm_block (calm_then (calm_then (calm_block (calm_then calm_body))))))) ((hE.cell d1)) (fun ops Q X4 hb hL hR hK => ?_)
      replace hE := hE.trans hb
      have hs5 := hb.size
      clear hb
      refine wd_take 0 (.slice (some ⟨sb, so, none⟩) n c) hR rfl (by kernel_rfl) rfl (by kernel_rfl) (fun w _ => by kernel_rfl) ((hE.cell d1)) ?_
      refine wd_take 1 (.int .i64 (((i : Nat) : Int) : Int)) hR rfl (by kernel_rfl) rfl (by kernel_rfl) (fun w _ => by kernel_rfl) ((hE.cell d1)) ?_
      refine wd_take 2 (.pointer (some ⟨sb, so + i * 2, none⟩)) hR rfl (by kernel_rfl) rfl (by kernel_rfl) (fun w _ => ex_index (p := .slice (some ⟨sb, so, none⟩) n c) (i := .int .i64 ((i : Nat) : Int)) rfl (by kernel_rfl) (by kernel_rfl) (ix26 (k := i) (by omega))) ((hE.cell d1)) ?_
      refine wd_take 3 (.pointer (some ⟨sb, so + i * 2, none⟩)) hR rfl (by kernel_rfl) rfl (by kernel_rfl) (fun w _ => by kernel_rfl) ((hE.cell d1)) ?_
      refine wd_take 4 (.agg #[.slice p1 m1 k1]) hR rfl (by kernel_rfl) rfl (by kernel_rfl) (fun w hS => ex_load rfl (by kernel_rfl) (ld25 (hS))) ((hE.cell d1)) ?_
      refine wd_step 5 hR rfl (by kernel_rfl) (by kernel_rfl) (by kernel_rfl) (sn_call (f := 44) (args := #[.agg #[.slice p1 m1 k1]]) (by kernel_rfl) ((rValid_c _ _ A1 hE).mono ?_))
      rintro e w6 ⟨rfl, hb⟩
      replace hE := hE.trans hb
      have hs7 := hb.size
      clear hb
      refine ⟨_, rfl, (hE.cell d1), ?_⟩
      refine wd_take 6 (.bool true) hR rfl (by kernel_rfl) rfl (by kernel_rfl) (fun w _ => by kernel_rfl) ((hE.cell d1)) ?_
      refine wd_take 7 (.bool true) hR rfl (by kernel_rfl) rfl (by kernel_rfl) (fun w _ => by kernel_rfl) ((hE.cell d1)) ?_
      refine wd_skip 8 hR rfl (by kernel_rfl) rfl (by kernel_rfl) ((hE.cell d1)) ?_
      refine wd_skip 9 hR rfl (by kernel_rfl) rfl (by kernel_rfl) ((hE.cell d1)) ?_
      refine wd_skip 10 hR rfl (by kernel_rfl) rfl (by kernel_rfl) ((hE.cell d1)) ?_
      refine wd_skip 11 hR rfl (by kernel_rfl) rfl (by kernel_rfl) ((hE.cell d1)) ?_
      refine wd_skip 12 hR rfl (by kernel_rfl) rfl (by kernel_rfl) ((hE.cell d1)) ?_
      refine wd_skip 13 hR rfl (by kernel_rfl) rfl (by kernel_rfl) ((hE.cell d1)) ?_
      refine wd_skip 14 hR rfl (by kernel_rfl) rfl (by kernel_rfl) ((hE.cell d1)) ?_
      refine wd_skip 15 hR rfl (by kernel_rfl) rfl (by kernel_rfl) ((hE.cell d1)) ?_
      refine wd_skip 16 hR rfl (by kernel_rfl) rfl (by kernel_rfl) ((hE.cell d1)) ?_
      refine wd_skip 17 hR rfl (by kernel_rfl) rfl (by kernel_rfl) ((hE.cell d1)) ?_
      refine wd_skip 18 hR rfl (by kernel_rfl) rfl (by kernel_rfl) ((hE.cell d1)) ?_
      refine wd_skip 19 hR rfl (by kernel_rfl) rfl (by kernel_rfl) ((hE.cell d1)) ?_
      refine wd_take 20 (.bool true) hR rfl (by kernel_rfl) rfl (by kernel_rfl) (fun w _ => by kernel_rfl) ((hE.cell d1)) ?_
      refine wd_end hL hR hK (by kernel_rfl) ?_
      refine qw_then ?_
      refine cw_clean [0, 3, 30] (ws' := [(0, .slice (some ⟨sb, so, none⟩) n c), (3, .int .i64 (((i : Nat) : Int) : Int)), (30, .bool true)]) (by kernel_rfl) (fun L => ?_)
      refine cw_t (by kernel_rfl) ?_
      refine cw_seq ?_
      refine cw_plain ?_
      refine pl_take (.bool false) rfl (by kernel_rfl) (by kernel_rfl) (by kernel_rfl) (by kernel_rfl) ?_
      refine pl_nil ?_
      refine qw_then ?_
      refine cw_ret ?_
      refine qw_block_ret ?_
      refine qw_then_ret ?_
      refine qw_then_ret ?_
      refine qw_block_ret ?_
      refine qw_then_ret ?_
      refine qw_ret [.bool false] rfl ⟨(by kernel_rfl), trivial⟩ ?_
      exact ⟨congrArg (fun b => Ending.returned (Value.bool b)) (ok_no hs (by unfold Globe.stripOk; rw [A1.2.2.2]; rfl)).symm, hE⟩
    ·
      refine cw_draw [(some 10, [0], []), (some 11, [3], []), (some 12, [10, 11], [0, 1]), (some 13, [12], [2]), (some 14, [13], [3]), (some 15, [14], [4]), (some 16, [15], [5]), (some 17, [16], [6, 5]), (some 18, [0, 17], [7]), (some 19, [3, 17], [7]), (some 20, [18, 19, 17], [8, 9, 7]), (some 21, [20, 17], [10, 7]), (some 22, [21, 17], [11, 7]), (some 23, [0, 17], [7]), (some 24, [3, 17], [7]), (some 25, [23, 24, 17], [13, 14, 7]), (some 26, [25, 17], [15, 7]), (some 27, [26, 17], [16, 7]), (some 28, [22, 27, 17], [12, 17, 7, 7]), (some 29, [28, 17], [18, 7]), (some 30, [17, 29], [7, 19])] (fun w' => w'.cell? ⟨sb, so + i * 2, none⟩ = some (.slice p1 m1 k1) ∧ w'.cell? ⟨sb, so + i * 2 + 1, none⟩ = some (.slice p2 m2 k2)) (by kernel_rfl) (by kernel_rfl) (by kernel_rfl) (by kernel_rfl) ((calm_then (calm_block (calm_then (calm_then (calm_block (calm_then calm_body))))))) (⟨(hE.cell d1), (hE.cell d2)⟩) (fun ops Q X8 hb hL hR hK => ?_)
      replace hE := hE.trans hb
      have hs9 := hb.size
      clear hb
      refine wd_take 0 (.slice (some ⟨sb, so, none⟩) n c) hR rfl (by kernel_rfl) rfl (by kernel_rfl) (fun w _ => by kernel_rfl) (⟨(hE.cell d1), (hE.cell d2)⟩) ?_
      refine wd_take 1 (.int .i64 (((i : Nat) : Int) : Int)) hR rfl (by kernel_rfl) rfl (by kernel_rfl) (fun w _ => by kernel_rfl) (⟨(hE.cell d1), (hE.cell d2)⟩) ?_
      refine wd_take 2 (.pointer (some ⟨sb, so + i * 2, none⟩)) hR rfl (by kernel_rfl) rfl (by kernel_rfl) (fun w _ => ex_index (p := .slice (some ⟨sb, so, none⟩) n c) (i := .int .i64 ((i : Nat) : Int)) rfl (by kernel_rfl) (by kernel_rfl) (ix26 (k := i) (by omega))) (⟨(hE.cell d1), (hE.cell d2)⟩) ?_
      refine wd_take 3 (.pointer (some ⟨sb, so + i * 2, none⟩)) hR rfl (by kernel_rfl) rfl (by kernel_rfl) (fun w _ => by kernel_rfl) (⟨(hE.cell d1), (hE.cell d2)⟩) ?_
      refine wd_take 4 (.agg #[.slice p1 m1 k1]) hR rfl (by kernel_rfl) rfl (by kernel_rfl) (fun w hS => ex_load rfl (by kernel_rfl) (ld25 (hS.1))) (⟨(hE.cell d1), (hE.cell d2)⟩) ?_
      refine wd_step 5 hR rfl (by kernel_rfl) (by kernel_rfl) (by kernel_rfl) (sn_call (f := 44) (args := #[.agg #[.slice p1 m1 k1]]) (by kernel_rfl) ((rValid_c _ _ A1 hE).mono ?_))
      rintro e w10 ⟨rfl, hb⟩
      replace hE := hE.trans hb
      have hs11 := hb.size
      clear hb
      refine ⟨_, rfl, ⟨(hE.cell d1), (hE.cell d2)⟩, ?_⟩
      refine wd_take 6 (.bool false) hR rfl (by kernel_rfl) rfl (by kernel_rfl) (fun w _ => by kernel_rfl) (⟨(hE.cell d1), (hE.cell d2)⟩) ?_
      refine wd_take 7 (.bool false) hR rfl (by kernel_rfl) rfl (by kernel_rfl) (fun w _ => by kernel_rfl) (⟨(hE.cell d1), (hE.cell d2)⟩) ?_
      refine wd_take 8 (.slice (some ⟨sb, so, none⟩) n c) hR rfl (by kernel_rfl) rfl (by kernel_rfl) (fun w _ => by kernel_rfl) (⟨(hE.cell d1), (hE.cell d2)⟩) ?_
      refine wd_take 9 (.int .i64 (((i : Nat) : Int) : Int)) hR rfl (by kernel_rfl) rfl (by kernel_rfl) (fun w _ => by kernel_rfl) (⟨(hE.cell d1), (hE.cell d2)⟩) ?_
      refine wd_take 10 (.pointer (some ⟨sb, so + i * 2, none⟩)) hR rfl (by kernel_rfl) rfl (by kernel_rfl) (fun w _ => ex_index (p := .slice (some ⟨sb, so, none⟩) n c) (i := .int .i64 ((i : Nat) : Int)) rfl (by kernel_rfl) (by kernel_rfl) (ix26 (k := i) (by omega))) (⟨(hE.cell d1), (hE.cell d2)⟩) ?_
      refine wd_take 11 (.pointer (some ⟨sb, so + i * 2 + 1, none⟩)) hR rfl (by kernel_rfl) rfl (by kernel_rfl) (fun w _ => by kernel_rfl) (⟨(hE.cell d1), (hE.cell d2)⟩) ?_
      refine wd_take 12 (.agg #[.slice p2 m2 k2]) hR rfl (by kernel_rfl) rfl (by kernel_rfl) (fun w hS => ex_load rfl (by kernel_rfl) (ld25 (hS.2))) (⟨(hE.cell d1), (hE.cell d2)⟩) ?_
      refine wd_take 13 (.slice (some ⟨sb, so, none⟩) n c) hR rfl (by kernel_rfl) rfl (by kernel_rfl) (fun w _ => by kernel_rfl) (⟨(hE.cell d1), (hE.cell d2)⟩) ?_
      refine wd_take 14 (.int .i64 (((i : Nat) : Int) : Int)) hR rfl (by kernel_rfl) rfl (by kernel_rfl) (fun w _ => by kernel_rfl) (⟨(hE.cell d1), (hE.cell d2)⟩) ?_
      refine wd_take 15 (.pointer (some ⟨sb, so + i * 2, none⟩)) hR rfl (by kernel_rfl) rfl (by kernel_rfl) (fun w _ => ex_index (p := .slice (some ⟨sb, so, none⟩) n c) (i := .int .i64 ((i : Nat) : Int)) rfl (by kernel_rfl) (by kernel_rfl) (ix26 (k := i) (by omega))) (⟨(hE.cell d1), (hE.cell d2)⟩) ?_
      refine wd_take 16 (.pointer (some ⟨sb, so + i * 2, none⟩)) hR rfl (by kernel_rfl) rfl (by kernel_rfl) (fun w _ => by kernel_rfl) (⟨(hE.cell d1), (hE.cell d2)⟩) ?_
      refine wd_take 17 (.agg #[.slice p1 m1 k1]) hR rfl (by kernel_rfl) rfl (by kernel_rfl) (fun w hS => ex_load rfl (by kernel_rfl) (ld25 (hS.1))) (⟨(hE.cell d1), (hE.cell d2)⟩) ?_
      refine wd_step 18 hR rfl (by kernel_rfl) (by kernel_rfl) (by kernel_rfl) (sn_call (f := 50) (args := #[.agg #[.slice p2 m2 k2], .agg #[.slice p1 m1 k1]]) (by kernel_rfl) ((rContains_r (r := false) _ _ _ A2 hE A1 hE (hcq)).mono ?_))
      rintro e w12 ⟨rfl, hb⟩
      replace hE := hE.trans hb
      have hs13 := hb.size
      clear hb
      refine ⟨_, rfl, ⟨(hE.cell d1), (hE.cell d2)⟩, ?_⟩
      refine wd_take 19 (.bool true) hR rfl (by kernel_rfl) rfl (by kernel_rfl) (fun w _ => by kernel_rfl) (⟨(hE.cell d1), (hE.cell d2)⟩) ?_
      refine wd_take 20 (.bool true) hR rfl (by kernel_rfl) rfl (by kernel_rfl) (fun w _ => by kernel_rfl) (⟨(hE.cell d1), (hE.cell d2)⟩) ?_
      refine wd_end hL hR hK (by kernel_rfl) ?_
      refine qw_then ?_
      refine cw_clean [0, 3, 30] (ws' := [(0, .slice (some ⟨sb, so, none⟩) n c), (3, .int .i64 (((i : Nat) : Int) : Int)), (30, .bool true)]) (by kernel_rfl) (fun L => ?_)
      refine cw_t (by kernel_rfl) ?_
      refine cw_seq ?_
      refine cw_plain ?_
      refine pl_take (.bool false) rfl (by kernel_rfl) (by kernel_rfl) (by kernel_rfl) (by kernel_rfl) ?_
      refine pl_nil ?_
      refine qw_then ?_
      refine cw_ret ?_
      refine qw_block_ret ?_
      refine qw_then_ret ?_
      refine qw_then_ret ?_
      refine qw_block_ret ?_
      refine qw_then_ret ?_
      refine qw_ret [.bool false] rfl ⟨(by kernel_rfl), trivial⟩ ?_
      exact ⟨congrArg (fun b => Ending.returned (Value.bool b)) (ok_no hs (by unfold Globe.stripOk; rw [hcq, Bool.and_false])).symm, hE⟩
    ·
      refine cw_draw [(some 10, [0], []), (some 11, [3], []), (some 12, [10, 11], [0, 1]), (some 13, [12], [2]), (some 14, [13], [3]), (some 15, [14], [4]), (some 16, [15], [5]), (some 17, [16], [6, 5]), (some 18, [0, 17], [7]), (some 19, [3, 17], [7]), (some 20, [18, 19, 17], [8, 9, 7]), (some 21, [20, 17], [10, 7]), (some 22, [21, 17], [11, 7]), (some 23, [0, 17], [7]), (some 24, [3, 17], [7]), (some 25, [23, 24, 17], [13, 14, 7]), (some 26, [25, 17], [15, 7]), (some 27, [26, 17], [16, 7]), (some 28, [22, 27, 17], [12, 17, 7, 7]), (some 29, [28, 17], [18, 7]), (some 30, [17, 29], [7, 19])] (fun w' => w'.cell? ⟨sb, so + i * 2, none⟩ = some (.slice p1 m1 k1) ∧ w'.cell? ⟨sb, so + i * 2 + 1, none⟩ = some (.slice p2 m2 k2)) (by kernel_rfl) (by kernel_rfl) (by kernel_rfl) (by kernel_rfl) ((calm_then (calm_block (calm_then (calm_then (calm_block (calm_then calm_body))))))) (⟨(hE.cell d1), (hE.cell d2)⟩) (fun ops Q X14 hb hL hR hK => ?_)
      replace hE := hE.trans hb
      have hs15 := hb.size
      clear hb
      refine wd_take 0 (.slice (some ⟨sb, so, none⟩) n c) hR rfl (by kernel_rfl) rfl (by kernel_rfl) (fun w _ => by kernel_rfl) (⟨(hE.cell d1), (hE.cell d2)⟩) ?_
      refine wd_take 1 (.int .i64 (((i : Nat) : Int) : Int)) hR rfl (by kernel_rfl) rfl (by kernel_rfl) (fun w _ => by kernel_rfl) (⟨(hE.cell d1), (hE.cell d2)⟩) ?_
      refine wd_take 2 (.pointer (some ⟨sb, so + i * 2, none⟩)) hR rfl (by kernel_rfl) rfl (by kernel_rfl) (fun w _ => ex_index (p := .slice (some ⟨sb, so, none⟩) n c) (i := .int .i64 ((i : Nat) : Int)) rfl (by kernel_rfl) (by kernel_rfl) (ix26 (k := i) (by omega))) (⟨(hE.cell d1), (hE.cell d2)⟩) ?_
      refine wd_take 3 (.pointer (some ⟨sb, so + i * 2, none⟩)) hR rfl (by kernel_rfl) rfl (by kernel_rfl) (fun w _ => by kernel_rfl) (⟨(hE.cell d1), (hE.cell d2)⟩) ?_
      refine wd_take 4 (.agg #[.slice p1 m1 k1]) hR rfl (by kernel_rfl) rfl (by kernel_rfl) (fun w hS => ex_load rfl (by kernel_rfl) (ld25 (hS.1))) (⟨(hE.cell d1), (hE.cell d2)⟩) ?_
      refine wd_step 5 hR rfl (by kernel_rfl) (by kernel_rfl) (by kernel_rfl) (sn_call (f := 44) (args := #[.agg #[.slice p1 m1 k1]]) (by kernel_rfl) ((rValid_c _ _ A1 hE).mono ?_))
      rintro e w16 ⟨rfl, hb⟩
      replace hE := hE.trans hb
      have hs17 := hb.size
      clear hb
      refine ⟨_, rfl, ⟨(hE.cell d1), (hE.cell d2)⟩, ?_⟩
      refine wd_take 6 (.bool false) hR rfl (by kernel_rfl) rfl (by kernel_rfl) (fun w _ => by kernel_rfl) (⟨(hE.cell d1), (hE.cell d2)⟩) ?_
      refine wd_take 7 (.bool false) hR rfl (by kernel_rfl) rfl (by kernel_rfl) (fun w _ => by kernel_rfl) (⟨(hE.cell d1), (hE.cell d2)⟩) ?_
      refine wd_take 8 (.slice (some ⟨sb, so, none⟩) n c) hR rfl (by kernel_rfl) rfl (by kernel_rfl) (fun w _ => by kernel_rfl) (⟨(hE.cell d1), (hE.cell d2)⟩) ?_
      refine wd_take 9 (.int .i64 (((i : Nat) : Int) : Int)) hR rfl (by kernel_rfl) rfl (by kernel_rfl) (fun w _ => by kernel_rfl) (⟨(hE.cell d1), (hE.cell d2)⟩) ?_
      refine wd_take 10 (.pointer (some ⟨sb, so + i * 2, none⟩)) hR rfl (by kernel_rfl) rfl (by kernel_rfl) (fun w _ => ex_index (p := .slice (some ⟨sb, so, none⟩) n c) (i := .int .i64 ((i : Nat) : Int)) rfl (by kernel_rfl) (by kernel_rfl) (ix26 (k := i) (by omega))) (⟨(hE.cell d1), (hE.cell d2)⟩) ?_
      refine wd_take 11 (.pointer (some ⟨sb, so + i * 2 + 1, none⟩)) hR rfl (by kernel_rfl) rfl (by kernel_rfl) (fun w _ => by kernel_rfl) (⟨(hE.cell d1), (hE.cell d2)⟩) ?_
      refine wd_take 12 (.agg #[.slice p2 m2 k2]) hR rfl (by kernel_rfl) rfl (by kernel_rfl) (fun w hS => ex_load rfl (by kernel_rfl) (ld25 (hS.2))) (⟨(hE.cell d1), (hE.cell d2)⟩) ?_
      refine wd_take 13 (.slice (some ⟨sb, so, none⟩) n c) hR rfl (by kernel_rfl) rfl (by kernel_rfl) (fun w _ => by kernel_rfl) (⟨(hE.cell d1), (hE.cell d2)⟩) ?_
      refine wd_take 14 (.int .i64 (((i : Nat) : Int) : Int)) hR rfl (by kernel_rfl) rfl (by kernel_rfl) (fun w _ => by kernel_rfl) (⟨(hE.cell d1), (hE.cell d2)⟩) ?_
      refine wd_take 15 (.pointer (some ⟨sb, so + i * 2, none⟩)) hR rfl (by kernel_rfl) rfl (by kernel_rfl) (fun w _ => ex_index (p := .slice (some ⟨sb, so, none⟩) n c) (i := .int .i64 ((i : Nat) : Int)) rfl (by kernel_rfl) (by kernel_rfl) (ix26 (k := i) (by omega))) (⟨(hE.cell d1), (hE.cell d2)⟩) ?_
      refine wd_take 16 (.pointer (some ⟨sb, so + i * 2, none⟩)) hR rfl (by kernel_rfl) rfl (by kernel_rfl) (fun w _ => by kernel_rfl) (⟨(hE.cell d1), (hE.cell d2)⟩) ?_
      refine wd_take 17 (.agg #[.slice p1 m1 k1]) hR rfl (by kernel_rfl) rfl (by kernel_rfl) (fun w hS => ex_load rfl (by kernel_rfl) (ld25 (hS.1))) (⟨(hE.cell d1), (hE.cell d2)⟩) ?_
      refine wd_step 18 hR rfl (by kernel_rfl) (by kernel_rfl) (by kernel_rfl) (sn_call (f := 50) (args := #[.agg #[.slice p2 m2 k2], .agg #[.slice p1 m1 k1]]) (by kernel_rfl) ((rContains_r (r := true) _ _ _ A2 hE A1 hE (hcq)).mono ?_))
      rintro e w18 ⟨rfl, hb⟩
      replace hE := hE.trans hb
      have hs19 := hb.size
      clear hb
      refine ⟨_, rfl, ⟨(hE.cell d1), (hE.cell d2)⟩, ?_⟩
      refine wd_take 19 (.bool false) hR rfl (by kernel_rfl) rfl (by kernel_rfl) (fun w _ => by kernel_rfl) (⟨(hE.cell d1), (hE.cell d2)⟩) ?_
      refine wd_take 20 (.bool false) hR rfl (by kernel_rfl) rfl (by kernel_rfl) (fun w _ => by kernel_rfl) (⟨(hE.cell d1), (hE.cell d2)⟩) ?_
      refine wd_end hL hR hK (by kernel_rfl) ?_
      refine qw_then ?_
      refine cw_clean [0, 3, 30] (ws' := [(0, .slice (some ⟨sb, so, none⟩) n c), (3, .int .i64 (((i : Nat) : Int) : Int)), (30, .bool false)]) (by kernel_rfl) (fun L => ?_)
      refine cw_f (by kernel_rfl) ?_
      refine cw_skip ?_
      refine qw_block ?_
      refine qw_then ?_
      refine cw_plain ?_
      refine pl_take (.int .i64 (((i : Nat) : Int) : Int)) rfl (by kernel_rfl) (by kernel_rfl) (by kernel_rfl) (by kernel_rfl) ?_
      refine pl_take (.int .i64 (((i + 1 : Nat) : Int) : Int)) rfl (by kernel_rfl) (by kernel_rfl) (by kernel_rfl) (ev_wrap (by kernel_rfl) (by omega) (by omega)) ?_
      refine pl_take (.int .i64 (((i + 1 : Nat) : Int) : Int)) rfl (by kernel_rfl) (by kernel_rfl) (by kernel_rfl) (by kernel_rfl) ?_
      refine pl_nil ?_
      refine qw_round [0, 3] (ws' := [(0, .slice (some ⟨sb, so, none⟩) n c), (3, .int .i64 (((i + 1 : Nat) : Int) : Int))]) (by kernel_rfl) _ ?_ ⟨(i + 1), rfl, rfl, (Nat.le_trans hs1 (Nat.le_trans hs15 (Nat.le_trans hs17 hs19))), hE, by omega, (ok_step hs (ok_of A1.2.2.2 hcq) hall)⟩
      omega
  ·
    have hin : i = n := by omega
    refine cw_seq ?_
    refine cw_seq ?_
    refine cw_plain ?_
    refine pl_take (.int .i64 (((i : Nat) : Int) : Int)) rfl (by kernel_rfl) (by kernel_rfl) (by kernel_rfl) (by kernel_rfl) ?_
    refine pl_take (.slice a n c) rfl (by kernel_rfl) (by kernel_rfl) (by kernel_rfl) (by kernel_rfl) ?_
    refine pl_take (.int .i64 (((n : Nat) : Int) : Int)) rfl (by kernel_rfl) (by kernel_rfl) (by kernel_rfl) (by kernel_rfl) ?_
    refine pl_take (.bool false) rfl (by kernel_rfl) (by kernel_rfl) (by kernel_rfl) (ev_ndec (show _ = Result.ok (Next.value (Value.bool (decide ((((i : Nat) : Int) : Int) < (((n : Nat) : Int) : Int))))) _ from by kernel_rfl) (by omega)) ?_
    refine pl_nil ?_
    refine qw_then ?_
    refine cw_f (by kernel_rfl) ?_
    refine cw_exit ?_
    refine qw_then_exit ?_
    refine qw_then_exit ?_
    refine qw_block_out ?_
    refine qw_then ?_
    refine cw_seq ?_
    refine cw_plain ?_
    refine pl_take (.slice a n c) rfl (by kernel_rfl) (by kernel_rfl) (by kernel_rfl) (by kernel_rfl) ?_
    refine pl_take (.int .i64 (((n : Nat) : Int) : Int)) rfl (by kernel_rfl) (by kernel_rfl) (by kernel_rfl) (by kernel_rfl) ?_
    by_cases hc20 : (((n : Nat) : Int) : Int) ≤ (24 : Int)
    ·
      refine pl_take (.bool true) rfl (by kernel_rfl) (by kernel_rfl) (by kernel_rfl) (ev_dec (show _ = Result.ok (Next.value (Value.bool (decide ((((n : Nat) : Int) : Int) ≤ (24 : Int))))) _ from by kernel_rfl) (hc20)) ?_
      refine pl_take (.bool true) rfl (by kernel_rfl) (by kernel_rfl) (by kernel_rfl) (by kernel_rfl) ?_
      refine pl_nil ?_
      refine qw_then ?_
      refine cw_ret ?_
      refine qw_ret [.bool true] rfl ⟨(by kernel_rfl), trivial⟩ ?_
      exact ⟨congrArg (fun b => Ending.returned (Value.bool b)) ((ok_end hln (fun j s hs hj => hall j s hs (by omega))).trans (decide_eq_true (by omega))).symm, hE⟩
    ·
      refine pl_take (.bool false) rfl (by kernel_rfl) (by kernel_rfl) (by kernel_rfl) (ev_ndec (show _ = Result.ok (Next.value (Value.bool (decide ((((n : Nat) : Int) : Int) ≤ (24 : Int))))) _ from by kernel_rfl) (hc20)) ?_
      refine pl_take (.bool false) rfl (by kernel_rfl) (by kernel_rfl) (by kernel_rfl) (by kernel_rfl) ?_
      refine pl_nil ?_
      refine qw_then ?_
      refine cw_ret ?_
      refine qw_ret [.bool false] rfl ⟨(by kernel_rfl), trivial⟩ ?_
      exact ⟨congrArg (fun b => Ending.returned (Value.bool b)) ((ok_end hln (fun j s hs hj => hall j s hs (by omega))).trans (decide_eq_false (by omega))).symm, hE⟩
theorem rValidS_r {w0 : World} {a : Option Addr} {n : Nat} {ss : List (List Int × List Int)} {r : Bool} (c : Nat) (w : World) (h : StripsAt w0 a n ss) (hE0 : Ext w0 w) (hr : Globe.stripsOk ss = r) :
    Calls Tryd.prog 20 #[.slice a n c] w fun e w' => e = .returned (.bool r) ∧ Ext w w' := hr ▸ rValidS_c c w h hE0

end Go.Proofs.YtglfoglkdbbmmaaDoor
