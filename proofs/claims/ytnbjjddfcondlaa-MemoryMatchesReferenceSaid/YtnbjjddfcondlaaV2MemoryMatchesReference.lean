/- Part 2 of what the proof of MemoryMatchesReference stands on. -/
import Derived.Test.YtnbjjddfcondlaaV1MemoryMatchesReference
import Derived.Shelf.SlSortCmp.NoneTotal
import Derived.Lib.SlicesCompact
/- Stored images in memory, and the steps of a fill; the library's sort of steps. -/
namespace Go.Proofs.Ytnbjjddfcondlaa
open Go.RowKit

/-! Stored images at an address. -/
def Mem.St.enc (x : Mem.St) : List Value := [.int .i64 x.im, .int .i64 x.un, .int .i64 x.fr, .int .i64 x.to]
def StAt (w : World) (b o : Nat) (x : Mem.St) : Prop := w.cell? ⟨b, o, none⟩ = some (.int .i64 x.im) ∧ w.cell? ⟨b, o + 1, none⟩ = some (.int .i64 x.un) ∧ w.cell? ⟨b, o + 2, none⟩ = some (.int .i64 x.fr) ∧ w.cell? ⟨b, o + 3, none⟩ = some (.int .i64 x.to)
theorem StAt.ext {w w' : World} {b o : Nat} {x : Mem.St} (h : StAt w b o x) (hE : Ext w w') : StAt w' b o x := ⟨hE.cell h.1, hE.cell h.2.1, hE.cell h.2.2.1, hE.cell h.2.2.2⟩
def StsAt (w : World) (a : Option Addr) (n : Nat) (l : List Mem.St) : Prop := l.length = n ∧ n ≤ 140737488355328 ∧ (n = 0 ∨ ∃ b o, a = some ⟨b, o, none⟩ ∧ ∀ (i : Nat) x, l[i]? = some x → StAt w b (o + i * 4) x)
theorem StsAt.ext {w w' : World} {a : Option Addr} {n : Nat} {l : List Mem.St} (h : StsAt w a n l) (hE : Ext w w') : StsAt w' a n l :=
  ⟨h.1, h.2.1, h.2.2.imp id fun ⟨b, o, ha, hx⟩ => ⟨b, o, ha, fun i x hi => (hx i x hi).ext hE⟩⟩
theorem StsAt.nil (w : World) (a : Option Addr) : StsAt w a 0 [] := ⟨rfl, Nat.zero_le _, .inl rfl⟩
def stN (l : List Mem.St) (i : Nat) : Mem.St := l[i]?.getD default
theorem stN_at {l : List Mem.St} {i : Nat} (h : i < l.length) : l[i]? = some (stN l i) := by unfold stN; rw [List.getElem?_eq_getElem h]; rfl
theorem stN_mem {l : List Mem.St} {i : Nat} (h : i < l.length) : stN l i ∈ l := List.mem_of_getElem? (stN_at h)
theorem stN_take {l : List Mem.St} {i : Nat} (h : i < l.length) : l.take (i + 1) = l.take i ++ [stN l i] := by rw [List.take_add_one, stN_at h]; rfl
theorem StsAt.parts {w : World} {a : Option Addr} {n : Nat} {l : List Mem.St} (h : StsAt w a n l) : ∃ b o, (0 < n → a = some ⟨b, o, none⟩) ∧ (0 < n → b < w.heap.size) ∧ ∀ i, i < n → StAt w b (o + i * 4) (stN l i) := by
  obtain ⟨h1, _, h3⟩ := h
  rcases h3 with h3 | ⟨b, o, ha, hx⟩
  · exact ⟨0, 0, fun h => by omega, fun h => by omega, fun i hi => by omega⟩
  · exact ⟨b, o, fun _ => ha, fun h => World.block_lt_of_cell? _ _ (hx 0 _ (stN_at (by omega))).1, fun i hi => hx i _ (stN_at (by omega))⟩
theorem StsAt.take {w : World} {a : Option Addr} {n : Nat} {l : List Mem.St} (h : StsAt w a n l) {k : Nat} (hk : k ≤ n) : StsAt w a k (l.take k) := by
  obtain ⟨h1, h2, h3⟩ := h
  refine ⟨by rw [List.length_take]; omega, by omega, ?_⟩
  rcases h3 with h3 | ⟨b, o, ha, hx⟩
  · exact .inl (by omega)
  · refine .inr ⟨b, o, ha, fun i x hi => hx i x ?_⟩
    rw [List.getElem?_take] at hi
    split at hi
    · exact hi
    · cases hi
/-- A stored image in a list of one's own. -/
def stR : Rep Mem.St where
  rel _ c x F := c = x.enc ∧ F = []
  keep := fun h _ => h
  lt := by rintro w c x F ⟨_, rfl⟩ b hb; cases hb
theorem stT : ElemT Try.prog 27 26 (.agg #[.int .i64 0, .int .i64 0, .int .i64 0, .int .i64 0]) 4 32 := ⟨Try.underlying27, by kernel_rfl, rfl, by decide⟩
theorem own_cell9 {w : World} {base : Nat} {e : TypeId} {size g n cap : Nat} {xs : List Value} (h : w.ownsRow base e size (.slice (some ⟨g, 0, none⟩) n cap) n xs) {j : Nat} {u : Value} (hj : j < n * size) (hu : xs[j]? = some u) : w.cell? ⟨g, 0 + j, none⟩ = some u := by
  rw [Nat.zero_add, h.cellAt j hj]; exact hu
theorem own_sts {n₀ e n cap : Nat} {a : Option Addr} {w : World} {l : List Mem.St} (h : OwnL stR n₀ e 4 (.slice a n cap) w l) (hl : l.length = n) (hn : n ≤ 140737488355328) : StsAt w a n l := by
  subst hl
  obtain ⟨cs, h1, h2, h3, h4⟩ := h
  refine ⟨rfl, hn, ?_⟩
  rcases Nat.eq_zero_or_pos l.length with h0 | h0
  · exact .inl h0
  · right
    rcases h3.2 with ⟨q1, q2⟩ | ⟨g, cap', cur, q1, _⟩
    · injection q1 with r1 r2 r3; omega
    · injection q1 with r1 r2 r3
      subst r1
      refine ⟨g, 0, rfl, fun i x hx => ?_⟩
      have hi := (List.getElem?_eq_some_iff.1 hx).1
      have hc := List.getElem?_eq_getElem (l := cs) (i := i) (by omega)
      obtain ⟨F, ⟨e1, _⟩, _⟩ := h4 i _ _ hx hc
      have k : ∀ q u, q < 4 → x.enc[q]? = some u → w.cell? ⟨g, 0 + i * 4 + q, none⟩ = some u := fun q u hq hu => by
        have f := flatten_get h2 i hc q hq
        rw [e1, hu] at f
        rw [Nat.add_assoc]
        exact own_cell9 h3 (by omega) f
      exact ⟨k 0 _ (by omega) rfl, k 1 _ (by omega) rfl, k 2 _ (by omega) rfl, k 3 _ (by omega) rfl⟩

/-! Steps. -/
def stpE (x : Mem.Stp) : List Value := [.int .i64 x.1, .int .i64 x.2]
def StpAt (w : World) (b o : Nat) (x : Mem.Stp) : Prop := w.cell? ⟨b, o, none⟩ = some (.int .i64 x.1) ∧ w.cell? ⟨b, o + 1, none⟩ = some (.int .i64 x.2)
def StpsAt (w : World) (a : Option Addr) (n : Nat) (l : List Mem.Stp) : Prop := l.length = n ∧ (n = 0 ∨ ∃ b, a = some ⟨b, 0, none⟩ ∧ ∀ (i : Nat) x, l[i]? = some x → StpAt w b (i * 2) x)
theorem StpsAt.ext {w w' : World} {a : Option Addr} {n : Nat} {l : List Mem.Stp} (h : StpsAt w a n l) (hE : Ext w w') : StpsAt w' a n l :=
  ⟨h.1, h.2.imp id fun ⟨b, ha, hx⟩ => ⟨b, ha, fun i x hi => ⟨hE.cell (hx i x hi).1, hE.cell (hx i x hi).2⟩⟩⟩
def stpN (l : List Mem.Stp) (i : Nat) : Mem.Stp := l[i]?.getD (0, 0)
theorem stpN_at {l : List Mem.Stp} {i : Nat} (h : i < l.length) : l[i]? = some (stpN l i) := by unfold stpN; rw [List.getElem?_eq_getElem h]; rfl
theorem StpsAt.parts {w : World} {a : Option Addr} {n : Nat} {l : List Mem.Stp} (h : StpsAt w a n l) : ∃ b, (0 < n → a = some ⟨b, 0, none⟩) ∧ ∀ i, i < n → StpAt w b (i * 2) (stpN l i) := by
  obtain ⟨h1, h3⟩ := h
  rcases h3 with h3 | ⟨b, ha, hx⟩
  · exact ⟨0, fun h => by omega, fun i hi => by omega⟩
  · exact ⟨b, fun _ => ha, fun i hi => hx i _ (stpN_at (by omega))⟩
def stpR : Rep Mem.Stp where
  rel _ c x F := c = stpE x ∧ F = []
  keep := fun h _ => h
  lt := by rintro w c x F ⟨_, rfl⟩ b hb; cases hb
theorem stpT : ElemT Try.prog 84 86 (.agg #[.int .i64 0, .int .i64 0]) 2 16 := ⟨Try.underlying84, by kernel_rfl, rfl, by decide⟩
theorem enc_len (x : Mem.Stp) : (stpE x).length = 2 := rfl
theorem enc_one : ∀ x : Mem.Stp, ∀ v ∈ stpE x, v.oneCell' = true := fun x v hv => by
  simp [stpE] at hv; rcases hv with rfl | rfl <;> rfl
theorem flat_at (rs : List Mem.Stp) {i q : Nat} (hi : i < rs.length) (hq : q < 2) : (Go.Sort.flatK stpE 2 rs.toArray)[i * 2 + q]! = (stpE rs[i])[q]! := by
  rw [Go.Sort.get_flatK _ _ _ _ (by simp; omega), show (i * 2 + q) / 2 = i by omega, show (i * 2 + q) % 2 = q by omega]
  simp [hi]
theorem holds_stps {w : World} {b : Nat} {rs : List Mem.Stp} (h : Go.Sort.HoldsK stpE 2 w b 0 rs.toArray) : StpsAt w (some ⟨b, 0, none⟩) rs.length rs := by
  refine ⟨rfl, .inr ⟨b, rfl, fun i x hx => ?_⟩⟩
  obtain ⟨hi, rfl⟩ := List.getElem?_eq_some_iff.1 hx
  have k : ∀ q, q < 2 → w.cell? ⟨b, i * 2 + q, none⟩ = some (stpE rs[i])[q]! := fun q hq => by
    have := (h (i * 2 + q) (by simp; omega)).1
    rw [Nat.zero_add] at this
    rw [this, id, flat_at rs hi hq]
  exact ⟨k 0 (by omega), k 1 (by omega)⟩
theorem own_holds {n₀ e g n cap : Nat} {w : World} {rs : List Mem.Stp} (h : OwnL stpR n₀ e 2 (.slice (some ⟨g, 0, none⟩) n cap) w rs) (hl : rs.length = n) : Go.Sort.HoldsK stpE 2 w g 0 rs.toArray := by
  subst hl
  obtain ⟨cs, h1, h2, h3, h4⟩ := h
  intro j hj
  have hj' : j < rs.length * 2 := by simpa using hj
  obtain ⟨i, q, rfl, hq⟩ : ∃ i q, j = i * 2 + q ∧ q < 2 := ⟨j / 2, j % 2, by omega, by omega⟩
  have hi : i < rs.length := by omega
  have hc := List.getElem?_eq_getElem (l := cs) (i := i) (by omega)
  obtain ⟨F, ⟨e1, _⟩, _⟩ := h4 i _ _ (List.getElem?_eq_getElem hi) hc
  have f := flatten_get h2 i hc q hq
  have e2 := List.getElem?_eq_getElem (l := stpE rs[i]) (i := q) (by rw [enc_len]; exact hq)
  rw [e1, e2] at f
  refine ⟨?_, h3.frozenAt _⟩
  rw [id, flat_at rs hi hq, getElem!_pos _ q (by rw [enc_len]; exact hq)]
  exact own_cell9 h3 (by omega) f
theorem putRow_ext9 {α : Type} [Inhabited α] {U w : World} {g m : Nat} (enc : α → Value) (h : Ext U w) (hg : U.heap.size ≤ g) (d : Array α) : Ext U (Go.Sort.putRow enc (Go.Sort.ahead w m) g 0 d) :=
  ⟨h.os, h.tape, h.output, by rw [Go.Sort.size_putRow]; exact h.size, fun k hk => by
    show (w.heap.modify g _)[k]? = _
    rw [Array.getElem?_modify, if_neg (by omega)]; exact h.block k hk⟩
theorem grow_ext {U w : World} (h : Ext U w) (os : Array Obj) : Ext U (Go.Sort.grow w os) :=
  ⟨h.os, h.tape, h.output, by have := h.size; rw [Go.Sort.size_grow]; omega, fun k hk => by
    show (w.heap ++ os)[k]? = _
    rw [Array.getElem?_append_left (Nat.lt_of_lt_of_le hk h.size)]; exact h.block k hk⟩
theorem ltOf_bef (x y : Mem.Stp) : Go.Proofs.ltOf (fun x y : Mem.Stp => Mem.cmpI x.1 y.1) x y = decide (x.1 < y.1) := by
  unfold Go.Proofs.ltOf
  rw [Bool.eq_iff_iff, decide_eq_true_iff, decide_eq_true_iff, Mem.cmpI_neg]
theorem swo_bef : Go.Sort.SWO (Go.Proofs.ltOf fun x y : Mem.Stp => Mem.cmpI x.1 y.1) where
  irrefl x := by rw [ltOf_bef]; simp
  trans x y z h k := by rw [ltOf_bef] at *; simp at *; omega
  ntrans x y z h k := by rw [ltOf_bef] at *; simp at *; omega
theorem raw_order (blk off size : Nat) (w : World) : Go.Proofs.CmpLays Try.prog 53 #[] stpE 2 (fun x y => Mem.cmpI x.1 y.1) blk off size w :=
  fun _ _ _ _ x y => order_g x y _
def SortPost (w : World) (n₀ : Nat) (a : Option Addr) (n : Nat) (rs : List Mem.Stp) (e : Ending) (w' : World) : Prop :=
  e = .returned (.tuple #[]) ∧ ∃ rs', rs'.Perm rs ∧ Mem.Srt rs' ∧ StpsAt w' a n rs' ∧ (∀ U, Ext U w → U.heap.size ≤ n₀ → Ext U w') ∧ w.heap.size ≤ w'.heap.size
theorem SortFunc_c {n₀ e g n cap : Nat} {rs : List Mem.Stp} (w : World) (h : OwnL stpR n₀ e 2 (.slice (some ⟨g, 0, none⟩) n cap) w rs) (hl : rs.length = n) (hn : n ≤ 1000000) :
    Calls Try.prog 52 #[.slice (some ⟨g, 0, none⟩) n cap, .func (.func 53) #[] #[]] w (SortPost w g (some ⟨g, 0, none⟩) n rs) := by
  subst hl
  have hcon := Go.Proofs.AnyQ.slices_SortFunc Try.sortSt 2 Try.isAgg86 Try.sizeOf86 stpE enc_len enc_one (fun x y => Mem.cmpI x.1 y.1) swo_bef 53 #[] g 0 cap rs.toArray w (Go.Proofs.enters_of Try.func53 (by kernel_rfl) rfl)
    (raw_order g 0 rs.toArray.size w) (own_holds h rfl) (h.lt g rfl) (by simp; omega)
  refine hcon.mono fun e w' ⟨he, d', m, os, ⟨hs, _, hp⟩, hso, hw⟩ => ⟨he, d'.toList, ?_, ?_, ?_, ?_, ?_⟩
  · have e1 : d'.extract 0 rs.toArray.size = d' := by rw [← hs]; simp
    have e2 : rs.toArray.extract 0 rs.toArray.size = rs.toArray := by simp
    rw [e1, e2] at hp; simpa using hp
  · unfold Mem.Srt
    rw [List.pairwise_iff_getElem]
    intro i j hi hj hij
    have h0 := hso i j (Nat.zero_le _) hij (by rw [← hs]; simpa using hj)
    rw [ltOf_bef, decide_eq_false_iff_not] at h0
    have h1 : ¬ (d'.toList[j]).1 < (d'.toList[i]).1 := by
      simpa [getElem!_pos, show i < d'.size by simpa using hi, show j < d'.size by simpa using hj] using h0
    omega
  · have hl' : d'.toList.length = rs.length := by simpa using hs
    have := holds_stps (w := w') (b := g) (rs := d'.toList) (by
      rw [hw]
      refine Go.Sort.holdsK_grow stpE 2 _ _ _ _ _ ?_ ?_
      · rw [Go.Sort.putRowK, Go.Sort.size_putRow]; exact h.lt g rfl
      · exact Go.Sort.holdsK_putRowK _ _ _ _ _ rs.toArray _ (Go.Sort.holdsK_ahead _ _ _ _ _ _ _ (own_holds h rfl)) (by simpa using hs))
    rwa [hl'] at this
  · intro U hU hUg
    rw [hw]
    exact grow_ext (putRow_ext9 _ hU hUg _) _
  · rw [hw]; unfold Go.Proofs.sortWorldK; rw [Go.Sort.size_grow, Go.Sort.putRowK, Go.Sort.size_putRow]; exact Nat.le_add_right _ _
/-- The sort of a list of one's own, empty or not. -/
theorem Sort_c {n₀ e : Nat} {a : Option Addr} {n cap : Nat} {rs : List Mem.Stp} (w : World) (h : OwnL stpR n₀ e 2 (.slice a n cap) w rs) (hl : rs.length = n) (hn : n ≤ 1000) :
    Calls Try.prog 52 #[.slice a n cap, .func (.func 53) #[] #[]] w (SortPost w n₀ a n rs) := by
  have hb := h.base
  by_cases h0 : n = 0
  · subst h0
    obtain rfl := List.eq_nil_of_length_eq_zero hl
    refine (Go.Proofs.AnyF.slices_SortFunc_none Try.sortSt a cap _ w).mono fun e w' ⟨he, hw⟩ => ⟨he, [], .refl _, List.Pairwise.nil, ⟨rfl, .inl rfl⟩, fun U hU _ => hw ▸ hU, by rw [hw]; exact Nat.le_refl _⟩
  · have hg : ∃ g, a = some ⟨g, 0, none⟩ := by
      obtain ⟨cs, k1, k2, k3, k4⟩ := h
      rcases k3.2 with ⟨q, _⟩ | ⟨g, cap', cur, q, _⟩
      · injection q with r1 r2 r3; omega
      · injection q with r1; exact ⟨g, r1⟩
    obtain ⟨g, rfl⟩ := hg
    refine (SortFunc_c w h hl (by omega)).mono fun e w' ⟨he, rs', h1, h2, h3, h4, h5⟩ => ⟨he, rs', h1, h2, h3, fun U hU hUn => h4 U hU (Nat.le_trans hUn (hb g rfl)), h5⟩
/-- Appending several elements; what is not the list's block is as it was. -/
theorem own_appMk {α : Type} {R : Rep α} {P : Program} {t ty e : TypeId} {z : Value} {size bytes : Nat} (E : ElemT P t e z size bytes) {n₀ : Nat} {v : Value} {w : World} {l : List α} (h : OwnL R n₀ e size v w l) (hn : n₀ ≤ w.heap.size) {k : Nat} (hl : l.length = k)
    {O c m : Nat} {xs : List α} {ds : List (List Value)} (hm : xs.length = m) (h0 : 0 < m) (hds : ds.length = m) (hsz : ∀ d ∈ ds, d.length = size) (hcell : ∀ j u, ds.flatten[j]? = some u → w.cell? ⟨O, j, none⟩ = some u) (h1 : ∀ d ∈ ds, ∀ u ∈ d, u.oneCell' = true)
    (hR : ∀ (j : Nat) x d, xs[j]? = some x → ds[j]? = some d → ∃ F, R.rel w d x F ∧ ∀ b ∈ F, v.ownBlock ≠ some b) (hb : (k + m) * bytes ≤ 140737488355328) (hmax : k + m ≤ 9223372036854775807) :
    ∃ g cap w', (Builtin.append_ #[t, t] ty #[v, .slice (some ⟨O, 0, none⟩) m c]).run P w = .ok (.slice (some ⟨g, 0, none⟩) (k + m) cap) w' ∧ OwnL R n₀ e size (.slice (some ⟨g, 0, none⟩) (k + m) cap) w' (l ++ xs) ∧ Grew n₀ w w' ∧ w.grownBy w' v.ownBlock := by
  subst hl
  obtain ⟨cs, h2, h3, h4, h5⟩ := h
  obtain ⟨i, hi, hz0, hz1, hz2⟩ := info_parts E.info
  obtain ⟨v', w', hrun, hown, hg, hiff, hat⟩ := run_append_own_at (P := P) w n₀ t ty e i z size bytes E.under hi hz0 hz1 hz2 E.zs E.pos v l.length cs.flatten h4 ⟨O, 0, none⟩ m c ds.flatten (by rw [flatten_len hsz, hds]) (fun j u hj => by
    rw [Addr.add_mid, Nat.zero_add]; exact hcell j u hj) (fun u hu => by obtain ⟨d, hd, hu⟩ := List.mem_flatten.1 hu; exact h1 d hd u hu) (by unfold maxLen; exact hmax) hb hn
  have hnb : ∀ F : List Nat, (∀ b ∈ F, v.ownBlock ≠ some b) → (∀ b ∈ F, b < w.heap.size) → (∀ b ∈ F, v'.ownBlock ≠ some b) ∧ ∀ b ∈ F, ∀ o u, w.cell? ⟨b, o, none⟩ = some u → w'.cell? ⟨b, o, none⟩ = some u := by
    intro F hF hFl
    refine ⟨fun b hbF hv' => ?_, fun b hbF o u hu => hg.cell hu (fun e => hF b hbF e.symm)⟩
    rcases hat with e1 | e1
    · exact hF b hbF (by rw [← e1]; exact hv')
    · rw [e1] at hv'; cases hv'; have := hFl _ hbF; omega
  have hO : OwnL R n₀ e size v' w' (l ++ xs) := ⟨cs ++ ds, by simp [h2, hds, hm], by
      intro y hy
      rcases List.mem_append.1 hy with hy | hy
      · exact h3 y hy
      · exact hsz y hy, by rw [List.flatten_append, List.length_append, hm]; exact hown, by
      intro j y c hx hc
      rcases Nat.lt_or_ge j l.length with hj | hj
      · rw [List.getElem?_append_left hj] at hx
        rw [List.getElem?_append_left (by rw [h2]; exact hj)] at hc
        obtain ⟨F, q1, q2⟩ := h5 j y c hx hc
        obtain ⟨k1, k2⟩ := hnb F q2 (R.lt q1)
        exact ⟨F, R.keep q1 k2, k1⟩
      · rw [List.getElem?_append_right hj] at hx
        rw [List.getElem?_append_right (by rw [h2]; exact hj), h2] at hc
        obtain ⟨F, q1, q2⟩ := hR _ y c hx hc
        obtain ⟨k1, k2⟩ := hnb F q2 (R.lt q1)
        exact ⟨F, R.keep q1 k2, k1⟩⟩
  rcases hown.2 with ⟨q, _⟩ | ⟨g, cap, cur, q, _, _, q3, _⟩
  · have := (hiff.1 q).2; omega
  · subst q
    exact ⟨g, cap, w', hrun, hO, ⟨hg.size, fun U hU hUn => Ext.own' hU h4 hUn hg⟩, hg⟩
theorem cells4 {w : World} {O : Nat} {x y z u : Value} (h : w.cell? ⟨O, 0, none⟩ = some x) (h1 : w.cell? ⟨O, 1, none⟩ = some y) (h2 : w.cell? ⟨O, 2, none⟩ = some z) (h3 : w.cell? ⟨O, 3, none⟩ = some u) : ∀ j v, [x, y, z, u][j]? = some v → w.cell? ⟨O, j, none⟩ = some v
  | 0, v, hv => by simp at hv; subst hv; exact h
  | 1, v, hv => by simp at hv; subst hv; exact h1
  | 2, v, hv => by simp at hv; subst hv; exact h2
  | 3, v, hv => by simp at hv; subst hv; exact h3
  | _ + 4, v, hv => by simp at hv

/-! An array of booleans in a block of one's own, by a function. -/
def ArrAt (w : World) (B n : Nat) (f : Nat → Bool) : Prop := 0 < n ∧ ∀ k, k < n → BoxAt w B k (.bool (f k))
theorem ArrAt.at {w : World} {B n : Nat} {f : Nat → Bool} (h : ArrAt w B n f) {k : Nat} (hk : k < n) : BoxAt w B k (.bool (f k)) := h.2 k hk
theorem ArrAt.ext {w w' : World} {B n : Nat} {f : Nat → Bool} (h : ArrAt w B n f) (hE : Ext w w') : ArrAt w' B n f := ⟨h.1, fun k hk => BoxAt.ext hE (h.2 k hk)⟩
theorem ArrAt.lt {w : World} {B n : Nat} {f : Nat → Bool} (h : ArrAt w B n f) : B < w.heap.size := (h.2 0 h.1).lt
theorem Turns.arr {O : Nat} {w X : World} (h : Turns O w X) {B n : Nat} {f : Nat → Bool} (hb : O ≠ B) (hv : ArrAt w B n f) : ArrAt X B n f := ⟨hv.1, fun k hk => h.box hb (hv.2 k hk)⟩
def upd (f : Nat → Bool) (j : Nat) (v : Bool) (k : Nat) : Bool := if k = j then v else f k
theorem ArrAt.upd {w X : World} {B n j : Nat} {f : Nat → Bool} {v : Bool} (h : ArrAt w B n f) (hv : BoxAt X B j (.bool v)) (hk : ∀ i x, i ≠ j → BoxAt w B i x → BoxAt X B i x) : ArrAt X B n (upd f j v) :=
  ⟨h.1, fun k hn => by
    unfold Go.Proofs.Ytnbjjddfcondlaa.upd
    by_cases e : k = j
    · subst e; rw [if_pos rfl]; exact hv
    · rw [if_neg e]; exact hk k _ e (h.2 k hn)⟩
theorem ArrAt.congr {w : World} {B n : Nat} {f g : Nat → Bool} (h : ArrAt w B n f) (e : ∀ k, k < n → f k = g k) : ArrAt w B n g := ⟨h.1, fun k hk => by rw [← e k hk]; exact h.2 k hk⟩
section
variable {P : Program} {w : World}
theorem sn_newA {ev : Operand → Value} {oi : Oper} {N : Value → World → Prop} {n : Nat} {t : TypeId} (hn : 0 < n) (h1 : (execOp ev oi).run P w = .ok (.value (.pointer (some ⟨w.heap.size, 0, none⟩))) (w.alloc (.cells (Array.replicate n (.bool false)) t)))
    (h : ∀ O X, w.heap.size = O → X.heap.size = O + 1 → Ext w X → ArrAt X O n (fun _ => false) → N (.pointer (some ⟨O, 0, none⟩)) X) : StepN P ev oi w N :=
  sn_new h1 fun O X hO hX hE hb => h O X hO hX hE ⟨hn, fun k hk => hb k _ (by rw [Array.getElem?_replicate, if_pos hk])⟩
end
theorem ia64 {w : World} {b : Nat} {z : Int} (h0 : 0 ≤ z) (h1 : z < 64) : (Instr.indexAt 79 (.pointer (some ⟨b, 0, none⟩)) (.int .i64 z)).run Try.prog w = .ok (.pointer (some ⟨b, z.toNat, none⟩)) w := by
  go_simp
end Go.Proofs.Ytnbjjddfcondlaa

/- Contracts of package memory: small functions, Valid. -/
namespace Go.Proofs.Ytnbjjddfcondlaa
open Go.RowKit

namespace Mem
def spB (s : Int × Int) : Bool := (decide (0 ≤ s.1) && decide (s.1 < s.2)) && decide (s.2 ≤ 1000001)
theorem spB_t {s : Int × Int} : spB s = true ↔ (0 ≤ s.1 ∧ s.1 < s.2) ∧ s.2 ≤ 1000001 := by unfold spB; simp
def okSt (x : St) : Bool := Globe.inB x.im 0 63 && (Globe.inB x.un 1 1000000 && spB (x.fr, x.to))
def distB : List St → Bool
  | [] => true
  | x :: r => !(r.any fun y => decide (y.im = x.im)) && distB r
theorem distB_snoc : ∀ (l : List St) (x : St), distB (l ++ [x]) = (distB l && !(l.any fun y => decide (y.im = x.im)))
  | [], x => rfl
  | y :: l, x => by
    simp only [List.cons_append, distB, distB_snoc l x, List.any_append, List.any_cons, List.any_nil, Bool.or_false]
    have e : decide (y.im = x.im) = decide (x.im = y.im) := by rw [Bool.eq_iff_iff, decide_eq_true_iff, decide_eq_true_iff]; exact eq_comm
    rw [e]
    cases (l.any fun z => decide (z.im = y.im)) <;> cases decide (x.im = y.im) <;> cases distB l <;> cases (l.any fun z => decide (z.im = x.im)) <;> simp_all
theorem distB_app {a b : List St} (h : distB (a ++ b) = true) : distB a = true := by
  induction b generalizing a with
  | nil => rwa [List.append_nil] at h
  | cons x b ih =>
    rw [show a ++ x :: b = (a ++ [x]) ++ b by simp] at h
    have := ih h
    rw [distB_snoc] at this
    exact (Bool.and_eq_true_iff.1 this).1
def okL (l : List St) : Bool := (l.all okSt && distB l) && decide (l.length ≤ 24)
def seenF (l : List St) (k : Nat) : Bool := l.any fun y => decide (y.im = (k : Int))
theorem bad_st {l : List St} {i : Nat} (hi : i < l.length) (h : okSt (stN l i) = false) : okL l = false := by
  cases q : okL l
  · rfl
  · unfold okL at q
    have := List.all_eq_true.1 (Bool.and_eq_true_iff.1 (Bool.and_eq_true_iff.1 q).1).1 _ (stN_mem hi)
    rw [h] at this; cases this
theorem bad_seen {l : List St} {i : Nat} (hi : i < l.length) (h : ((l.take i).any fun y => decide (y.im = (stN l i).im)) = true) : okL l = false := by
  cases q : okL l
  · rfl
  · unfold okL at q
    have h2 := (Bool.and_eq_true_iff.1 (Bool.and_eq_true_iff.1 q).1).2
    rw [← List.take_append_drop (i + 1) l] at h2
    have h3 := distB_app h2
    rw [stN_take hi, distB_snoc, h] at h3
    simp at h3
theorem seen_next {l : List St} {i : Nat} (hi : i < l.length) (h0 : 0 ≤ (stN l i).im) (k : Nat) : upd (seenF (l.take i)) (stN l i).im.toNat true k = seenF (l.take (i + 1)) k := by
  rw [stN_take hi]
  unfold upd seenF
  rw [List.any_append]
  by_cases e : k = (stN l i).im.toNat
  · rw [if_pos e]
    have : (stN l i).im = (k : Int) := by omega
    simp [this]
  · rw [if_neg e]
    have : ¬ (stN l i).im = (k : Int) := by omega
    simp [this]
theorem ok_next {l : List St} {i : Nat} (hi : i < l.length) (h : (l.take i).all okSt = true ∧ distB (l.take i) = true) (h1 : okSt (stN l i) = true) (h2 : ((l.take i).any fun y => decide (y.im = (stN l i).im)) = false) : (l.take (i + 1)).all okSt = true ∧ distB (l.take (i + 1)) = true := by
  rw [stN_take hi, List.all_append, distB_snoc, h.1, h.2, h2]
  simp [h1]
theorem okL_at {l : List St} (h : okL l = true) {x : St} (hx : x ∈ l) : (0 ≤ x.im ∧ x.im ≤ 63) ∧ (1 ≤ x.un ∧ x.un ≤ 1000000) ∧ 0 ≤ x.fr ∧ x.fr < x.to ∧ x.to ≤ 1000001 := by
  unfold okL at h
  have := List.all_eq_true.1 (Bool.and_eq_true_iff.1 (Bool.and_eq_true_iff.1 h).1).1 x hx
  unfold okSt at this
  obtain ⟨h1, h2⟩ := Bool.and_eq_true_iff.1 this
  obtain ⟨h2, h3⟩ := Bool.and_eq_true_iff.1 h2
  have a := Globe.inB_t.1 h1
  have b := Globe.inB_t.1 h2
  have c := spB_t.1 h3
  simp only [] at c
  omega
theorem okL_len {l : List St} (h : okL l = true) : l.length ≤ 24 := of_decide_eq_true (Bool.and_eq_true_iff.1 h).2
theorem okL_u {l : List St} (h : okL l = true) : ∀ x ∈ l, okU x := fun x hx => by have := okL_at h hx; exact ⟨this.2.1.1, this.2.2.2.1⟩
theorem okL_f {l : List St} (h : okL l = true) : ∀ x ∈ l, 0 ≤ x.fr := fun _x hx => (okL_at h hx).2.2.1
end Mem
set_option maxRecDepth 1000000 in
set_option maxHeartbeats 4000000 in
theorem memory_isIn_c (n lo hi : Int) (w : World) : Calls Try.prog 46 #[.int .i64 n, .int .i64 lo, .int .i64 hi] w fun e w' => e = .returned (.bool (Globe.inB n lo hi)) ∧ Ext w w' := by
  refine calls_cw 15 [(2, .int .i64 (hi : Int)), (1, .int .i64 (lo : Int)), (0, .int .i64 (n : Int))] Try.func46 rfl Try.ntmps46 (by kernel_rfl) (by kernel_rfl) (fun L => ?_)
  have hE : Ext w w := Ext.refl w
  refine cw_seq ?_
  refine cw_plain ?_
  refine pT (.bool false) ?_
  refine pl_nil ?_
  refine qw_then ?_
  refine cw_seq ?_
  refine cw_plain ?_
  refine pT (.int .i64 (lo : Int)) ?_
  refine pT (.int .i64 (n : Int)) ?_
  by_cases hc1 : (lo : Int) ≤ (n : Int)
  ·
    refine pl_take (.bool true) rfl (by kernel_rfl) (by kernel_rfl) (by kernel_rfl) (ev_dec (show _ = Result.ok (Next.value (Value.bool (decide ((lo : Int) ≤ (n : Int))))) _ from by kernel_rfl) (hc1)) ?_
    refine pT (.bool true) ?_
    refine pT (.int .i64 (n : Int)) ?_
    refine pT (.int .i64 (hi : Int)) ?_
    by_cases hc2 : (n : Int) ≤ (hi : Int)
    ·
      refine pl_take (.bool true) rfl (by kernel_rfl) (by kernel_rfl) (by kernel_rfl) (ev_dec (show _ = Result.ok (Next.value (Value.bool (decide ((n : Int) ≤ (hi : Int))))) _ from by kernel_rfl) (hc2)) ?_
      refine pT (.bool true) ?_
      refine pT (.bool true) ?_
      refine pl_nil ?_
      refine qw_then ?_
      refine cw_ret ?_
      refine qw_ret [.bool true] rfl ⟨(by kernel_rfl), trivial⟩ ?_
      exact ⟨congrArg (fun b => Ending.returned (Value.bool b)) (by first | exact (decide_eq_true (by omega)).symm | exact (decide_eq_false (by omega)).symm), hE⟩
    ·
      refine pl_take (.bool false) rfl (by kernel_rfl) (by kernel_rfl) (by kernel_rfl) (ev_ndec (show _ = Result.ok (Next.value (Value.bool (decide ((n : Int) ≤ (hi : Int))))) _ from by kernel_rfl) (hc2)) ?_
      refine pT (.bool false) ?_
      refine pT (.bool false) ?_
      refine pl_nil ?_
      refine qw_then ?_
      refine cw_ret ?_
      refine qw_ret [.bool false] rfl ⟨(by kernel_rfl), trivial⟩ ?_
      exact ⟨congrArg (fun b => Ending.returned (Value.bool b)) (by first | exact (decide_eq_true (by omega)).symm | exact (decide_eq_false (by omega)).symm), hE⟩
  ·
    refine pl_take (.bool false) rfl (by kernel_rfl) (by kernel_rfl) (by kernel_rfl) (ev_ndec (show _ = Result.ok (Next.value (Value.bool (decide ((lo : Int) ≤ (n : Int))))) _ from by kernel_rfl) (hc1)) ?_
    refine pT (.bool false) ?_
    refine pl_skip rfl (by kernel_rfl) (by kernel_rfl) (by kernel_rfl) ?_
    refine pl_skip rfl (by kernel_rfl) (by kernel_rfl) (by kernel_rfl) ?_
    refine pl_skip rfl (by kernel_rfl) (by kernel_rfl) (by kernel_rfl) ?_
    refine pT (.bool false) ?_
    refine pT (.bool false) ?_
    refine pl_nil ?_
    refine qw_then ?_
    refine cw_ret ?_
    refine qw_ret [.bool false] rfl ⟨(by kernel_rfl), trivial⟩ ?_
    exact ⟨congrArg (fun b => Ending.returned (Value.bool b)) (by first | exact (decide_eq_true (by omega)).symm | exact (decide_eq_false (by omega)).symm), hE⟩
theorem memory_isIn_r (n lo hi : Int) {r : Bool} (w : World) (hr : Globe.inB n lo hi = r) : Calls Try.prog 46 #[.int .i64 n, .int .i64 lo, .int .i64 hi] w fun e w' => e = .returned (.bool r) ∧ Ext w w' := hr ▸ memory_isIn_c n lo hi w
set_option maxRecDepth 1000000 in
set_option maxHeartbeats 4000000 in
theorem isSpell_c (f t : Int) (w : World) : Calls Try.prog 47 #[.agg #[.int .i64 f, .int .i64 t]] w fun e w' => e = .returned (.bool (Mem.spB (f, t))) ∧ Ext w w' := by
  refine calls_cw 18 [(0, .agg #[.int .i64 (f : Int), .int .i64 (t : Int)])] Try.func47 rfl Try.ntmps47 (by kernel_rfl) (by kernel_rfl) (fun L => ?_)
  have hE : Ext w w := Ext.refl w
  refine cw_seq ?_
  refine cw_plain ?_
  refine pl_step rfl (by kernel_rfl) (by kernel_rfl) (by kernel_rfl) (sn_new (us := #[.int .i64 (f : Int), .int .i64 (t : Int)]) (t := 24) (by kernel_rfl) ?_)
  intro O1 X2 hO hOs hb hbx
  have hzO1 := hO; have hyO1 := hOs; clear hO hOs
  have bO1_0 : BoxAt X2 O1 0 (.int .i64 (f : Int)) := hbx 0 _ rfl
  have bO1_1 : BoxAt X2 O1 1 (.int .i64 (t : Int)) := hbx 1 _ rfl
  clear hbx
  replace hE := hE.trans hb
  have hs3 := hb.size
  clear hb
  have lt4 := bO1_0.lt
  refine pT (.bool false) ?_
  refine pl_nil ?_
  refine qw_then ?_
  refine cw_seq ?_
  refine cw_plain ?_
  refine pT (.pointer (some ⟨O1, 0, none⟩)) ?_
  refine pl_take (.int .i64 (f : Int)) rfl (by kernel_rfl) (by kernel_rfl) (by kernel_rfl) (ex_load rfl (by kernel_rfl) (ld3 (bO1_0.1))) ?_
  by_cases hc5 : (0 : Int) ≤ (f : Int)
  ·
    refine pl_take (.bool true) rfl (by kernel_rfl) (by kernel_rfl) (by kernel_rfl) (ev_dec (show _ = Result.ok (Next.value (Value.bool (decide ((0 : Int) ≤ (f : Int))))) _ from by kernel_rfl) (hc5)) ?_
    refine pT (.bool true) ?_
    refine pT (.pointer (some ⟨O1, 0, none⟩)) ?_
    refine pl_take (.int .i64 (f : Int)) rfl (by kernel_rfl) (by kernel_rfl) (by kernel_rfl) (ex_load rfl (by kernel_rfl) (ld3 (bO1_0.1))) ?_
    refine pT (.pointer (some ⟨O1, 1, none⟩)) ?_
    refine pl_take (.int .i64 (t : Int)) rfl (by kernel_rfl) (by kernel_rfl) (by kernel_rfl) (ex_load rfl (by kernel_rfl) (ld3 (bO1_1.1))) ?_
    by_cases hc6 : (f : Int) < (t : Int)
    ·
      refine pl_take (.bool true) rfl (by kernel_rfl) (by kernel_rfl) (by kernel_rfl) (ev_dec (show _ = Result.ok (Next.value (Value.bool (decide ((f : Int) < (t : Int))))) _ from by kernel_rfl) (hc6)) ?_
      refine pT (.bool true) ?_
      refine pT (.bool true) ?_
      refine pT (.pointer (some ⟨O1, 1, none⟩)) ?_
      refine pl_take (.int .i64 (t : Int)) rfl (by kernel_rfl) (by kernel_rfl) (by kernel_rfl) (ex_load rfl (by kernel_rfl) (ld3 (bO1_1.1))) ?_
      by_cases hc7 : (t : Int) ≤ (1000001 : Int)
      ·
        refine pl_take (.bool true) rfl (by kernel_rfl) (by kernel_rfl) (by kernel_rfl) (ev_dec (show _ = Result.ok (Next.value (Value.bool (decide ((t : Int) ≤ (1000001 : Int))))) _ from by kernel_rfl) (hc7)) ?_
        refine pT (.bool true) ?_
        refine pT (.bool true) ?_
        refine pl_nil ?_
        refine qw_then ?_
        refine cw_clean [2] (ws' := [(2, .bool true)]) (by kernel_rfl) (fun L => ?_)
        refine cw_ret ?_
        refine qw_ret [.bool true] rfl ⟨(by kernel_rfl), trivial⟩ ?_
        exact ⟨congrArg (fun b => Ending.returned (Value.bool b)) (show Mem.spB (f, t) = true by simp [Mem.spB, hc5, hc6, hc7]).symm, hE⟩
      ·
        refine pl_take (.bool false) rfl (by kernel_rfl) (by kernel_rfl) (by kernel_rfl) (ev_ndec (show _ = Result.ok (Next.value (Value.bool (decide ((t : Int) ≤ (1000001 : Int))))) _ from by kernel_rfl) (hc7)) ?_
        refine pT (.bool false) ?_
        refine pT (.bool false) ?_
        refine pl_nil ?_
        refine qw_then ?_
        refine cw_clean [2] (ws' := [(2, .bool false)]) (by kernel_rfl) (fun L => ?_)
        refine cw_ret ?_
        refine qw_ret [.bool false] rfl ⟨(by kernel_rfl), trivial⟩ ?_
        exact ⟨congrArg (fun b => Ending.returned (Value.bool b)) (show Mem.spB (f, t) = false by simp [Mem.spB, hc5, hc6, hc7]).symm, hE⟩
    ·
      refine pl_take (.bool false) rfl (by kernel_rfl) (by kernel_rfl) (by kernel_rfl) (ev_ndec (show _ = Result.ok (Next.value (Value.bool (decide ((f : Int) < (t : Int))))) _ from by kernel_rfl) (hc6)) ?_
      refine pT (.bool false) ?_
      refine pT (.bool false) ?_
      refine pl_skip rfl (by kernel_rfl) (by kernel_rfl) (by kernel_rfl) ?_
      refine pl_skip rfl (by kernel_rfl) (by kernel_rfl) (by kernel_rfl) ?_
      refine pl_skip rfl (by kernel_rfl) (by kernel_rfl) (by kernel_rfl) ?_
      refine pT (.bool false) ?_
      refine pT (.bool false) ?_
      refine pl_nil ?_
      refine qw_then ?_
      refine cw_clean [2] (ws' := [(2, .bool false)]) (by kernel_rfl) (fun L => ?_)
      refine cw_ret ?_
      refine qw_ret [.bool false] rfl ⟨(by kernel_rfl), trivial⟩ ?_
      exact ⟨congrArg (fun b => Ending.returned (Value.bool b)) (show Mem.spB (f, t) = false by simp [Mem.spB, hc5, hc6]).symm, hE⟩
  ·
    refine pl_take (.bool false) rfl (by kernel_rfl) (by kernel_rfl) (by kernel_rfl) (ev_ndec (show _ = Result.ok (Next.value (Value.bool (decide ((0 : Int) ≤ (f : Int))))) _ from by kernel_rfl) (hc5)) ?_
    refine pT (.bool false) ?_
    refine pl_skip rfl (by kernel_rfl) (by kernel_rfl) (by kernel_rfl) ?_
    refine pl_skip rfl (by kernel_rfl) (by kernel_rfl) (by kernel_rfl) ?_
    refine pl_skip rfl (by kernel_rfl) (by kernel_rfl) (by kernel_rfl) ?_
    refine pl_skip rfl (by kernel_rfl) (by kernel_rfl) (by kernel_rfl) ?_
    refine pl_skip rfl (by kernel_rfl) (by kernel_rfl) (by kernel_rfl) ?_
    refine pT (.bool false) ?_
    refine pT (.bool false) ?_
    refine pl_skip rfl (by kernel_rfl) (by kernel_rfl) (by kernel_rfl) ?_
    refine pl_skip rfl (by kernel_rfl) (by kernel_rfl) (by kernel_rfl) ?_
    refine pl_skip rfl (by kernel_rfl) (by kernel_rfl) (by kernel_rfl) ?_
    refine pT (.bool false) ?_
    refine pT (.bool false) ?_
    refine pl_nil ?_
    refine qw_then ?_
    refine cw_clean [2] (ws' := [(2, .bool false)]) (by kernel_rfl) (fun L => ?_)
    refine cw_ret ?_
    refine qw_ret [.bool false] rfl ⟨(by kernel_rfl), trivial⟩ ?_
    exact ⟨congrArg (fun b => Ending.returned (Value.bool b)) (show Mem.spB (f, t) = false by simp [Mem.spB, hc5]).symm, hE⟩
theorem isSpell_r (f t : Int) {r : Bool} (w : World) (hr : Mem.spB (f, t) = r) : Calls Try.prog 47 #[.agg #[.int .i64 f, .int .i64 t]] w fun e w' => e = .returned (.bool r) ∧ Ext w w' := hr ▸ isSpell_c f t w
set_option maxRecDepth 1000000 in
set_option maxHeartbeats 4000000 in
theorem proper_c (f t : Int) (w : World) : Calls Try.prog 48 #[.agg #[.int .i64 f, .int .i64 t]] w fun e w' => e = .returned (.bool (Mem.spB (f, t))) ∧ Ext w w' := by
  refine calls_cw 18 [(0, .agg #[.int .i64 (f : Int), .int .i64 (t : Int)])] Try.func48 rfl Try.ntmps48 (by kernel_rfl) (by kernel_rfl) (fun L => ?_)
  have hE : Ext w w := Ext.refl w
  refine cw_seq ?_
  refine cw_plain ?_
  refine pl_step rfl (by kernel_rfl) (by kernel_rfl) (by kernel_rfl) (sn_new (us := #[.int .i64 (f : Int), .int .i64 (t : Int)]) (t := 24) (by kernel_rfl) ?_)
  intro O1 X2 hO hOs hb hbx
  have hzO1 := hO; have hyO1 := hOs; clear hO hOs
  have bO1_0 : BoxAt X2 O1 0 (.int .i64 (f : Int)) := hbx 0 _ rfl
  have bO1_1 : BoxAt X2 O1 1 (.int .i64 (t : Int)) := hbx 1 _ rfl
  clear hbx
  replace hE := hE.trans hb
  have hs3 := hb.size
  clear hb
  have lt4 := bO1_0.lt
  refine pT (.bool false) ?_
  refine pl_nil ?_
  refine qw_then ?_
  refine cw_seq ?_
  refine cw_plain ?_
  refine pT (.pointer (some ⟨O1, 0, none⟩)) ?_
  refine pl_take (.int .i64 (f : Int)) rfl (by kernel_rfl) (by kernel_rfl) (by kernel_rfl) (ex_load rfl (by kernel_rfl) (ld3 (bO1_0.1))) ?_
  by_cases hc5 : (f : Int) ≥ (0 : Int)
  ·
    refine pl_take (.bool true) rfl (by kernel_rfl) (by kernel_rfl) (by kernel_rfl) (ev_dec (show _ = Result.ok (Next.value (Value.bool (decide ((f : Int) ≥ (0 : Int))))) _ from by kernel_rfl) (hc5)) ?_
    refine pT (.bool true) ?_
    refine pT (.pointer (some ⟨O1, 0, none⟩)) ?_
    refine pl_take (.int .i64 (f : Int)) rfl (by kernel_rfl) (by kernel_rfl) (by kernel_rfl) (ex_load rfl (by kernel_rfl) (ld3 (bO1_0.1))) ?_
    refine pT (.pointer (some ⟨O1, 1, none⟩)) ?_
    refine pl_take (.int .i64 (t : Int)) rfl (by kernel_rfl) (by kernel_rfl) (by kernel_rfl) (ex_load rfl (by kernel_rfl) (ld3 (bO1_1.1))) ?_
    by_cases hc6 : (f : Int) < (t : Int)
    ·
      refine pl_take (.bool true) rfl (by kernel_rfl) (by kernel_rfl) (by kernel_rfl) (ev_dec (show _ = Result.ok (Next.value (Value.bool (decide ((f : Int) < (t : Int))))) _ from by kernel_rfl) (hc6)) ?_
      refine pT (.bool true) ?_
      refine pT (.bool true) ?_
      refine pT (.pointer (some ⟨O1, 1, none⟩)) ?_
      refine pl_take (.int .i64 (t : Int)) rfl (by kernel_rfl) (by kernel_rfl) (by kernel_rfl) (ex_load rfl (by kernel_rfl) (ld3 (bO1_1.1))) ?_
      by_cases hc7 : (t : Int) ≤ (1000001 : Int)
      ·
        refine pl_take (.bool true) rfl (by kernel_rfl) (by kernel_rfl) (by kernel_rfl) (ev_dec (show _ = Result.ok (Next.value (Value.bool (decide ((t : Int) ≤ (1000001 : Int))))) _ from by kernel_rfl) (hc7)) ?_
        refine pT (.bool true) ?_
        refine pT (.bool true) ?_
        refine pl_nil ?_
        refine qw_then ?_
        refine cw_clean [2] (ws' := [(2, .bool true)]) (by kernel_rfl) (fun L => ?_)
        refine cw_ret ?_
        refine qw_ret [.bool true] rfl ⟨(by kernel_rfl), trivial⟩ ?_
        exact ⟨congrArg (fun b => Ending.returned (Value.bool b)) (show Mem.spB (f, t) = true by simp [Mem.spB, hc5, hc6, hc7]).symm, hE⟩
      ·
        refine pl_take (.bool false) rfl (by kernel_rfl) (by kernel_rfl) (by kernel_rfl) (ev_ndec (show _ = Result.ok (Next.value (Value.bool (decide ((t : Int) ≤ (1000001 : Int))))) _ from by kernel_rfl) (hc7)) ?_
        refine pT (.bool false) ?_
        refine pT (.bool false) ?_
        refine pl_nil ?_
        refine qw_then ?_
        refine cw_clean [2] (ws' := [(2, .bool false)]) (by kernel_rfl) (fun L => ?_)
        refine cw_ret ?_
        refine qw_ret [.bool false] rfl ⟨(by kernel_rfl), trivial⟩ ?_
        exact ⟨congrArg (fun b => Ending.returned (Value.bool b)) (show Mem.spB (f, t) = false by simp [Mem.spB, hc5, hc6, hc7]).symm, hE⟩
    ·
      refine pl_take (.bool false) rfl (by kernel_rfl) (by kernel_rfl) (by kernel_rfl) (ev_ndec (show _ = Result.ok (Next.value (Value.bool (decide ((f : Int) < (t : Int))))) _ from by kernel_rfl) (hc6)) ?_
      refine pT (.bool false) ?_
      refine pT (.bool false) ?_
      refine pl_skip rfl (by kernel_rfl) (by kernel_rfl) (by kernel_rfl) ?_
      refine pl_skip rfl (by kernel_rfl) (by kernel_rfl) (by kernel_rfl) ?_
      refine pl_skip rfl (by kernel_rfl) (by kernel_rfl) (by kernel_rfl) ?_
      refine pT (.bool false) ?_
      refine pT (.bool false) ?_
      refine pl_nil ?_
      refine qw_then ?_
      refine cw_clean [2] (ws' := [(2, .bool false)]) (by kernel_rfl) (fun L => ?_)
      refine cw_ret ?_
      refine qw_ret [.bool false] rfl ⟨(by kernel_rfl), trivial⟩ ?_
      exact ⟨congrArg (fun b => Ending.returned (Value.bool b)) (show Mem.spB (f, t) = false by simp [Mem.spB, hc5, hc6]).symm, hE⟩
  ·
    refine pl_take (.bool false) rfl (by kernel_rfl) (by kernel_rfl) (by kernel_rfl) (ev_ndec (show _ = Result.ok (Next.value (Value.bool (decide ((f : Int) ≥ (0 : Int))))) _ from by kernel_rfl) (hc5)) ?_
    refine pT (.bool false) ?_
    refine pl_skip rfl (by kernel_rfl) (by kernel_rfl) (by kernel_rfl) ?_
    refine pl_skip rfl (by kernel_rfl) (by kernel_rfl) (by kernel_rfl) ?_
    refine pl_skip rfl (by kernel_rfl) (by kernel_rfl) (by kernel_rfl) ?_
    refine pl_skip rfl (by kernel_rfl) (by kernel_rfl) (by kernel_rfl) ?_
    refine pl_skip rfl (by kernel_rfl) (by kernel_rfl) (by kernel_rfl) ?_
    refine pT (.bool false) ?_
    refine pT (.bool false) ?_
    refine pl_skip rfl (by kernel_rfl) (by kernel_rfl) (by kernel_rfl) ?_
    refine pl_skip rfl (by kernel_rfl) (by kernel_rfl) (by kernel_rfl) ?_
    refine pl_skip rfl (by kernel_rfl) (by kernel_rfl) (by kernel_rfl) ?_
    refine pT (.bool false) ?_
    refine pT (.bool false) ?_
    refine pl_nil ?_
    refine qw_then ?_
    refine cw_clean [2] (ws' := [(2, .bool false)]) (by kernel_rfl) (fun L => ?_)
    refine cw_ret ?_
    refine qw_ret [.bool false] rfl ⟨(by kernel_rfl), trivial⟩ ?_
    exact ⟨congrArg (fun b => Ending.returned (Value.bool b)) (show Mem.spB (f, t) = false by simp [Mem.spB, hc5]).symm, hE⟩
theorem proper_r (f t : Int) {r : Bool} (w : World) (hr : Mem.spB (f, t) = r) : Calls Try.prog 48 #[.agg #[.int .i64 f, .int .i64 t]] w fun e w' => e = .returned (.bool r) ∧ Ext w w' := hr ▸ proper_c f t w
set_option maxRecDepth 1000000 in
set_option maxHeartbeats 4000000 in
theorem Valid_c {w0 : World} {a : Option Addr} {n : Nat} {l : List Mem.St} (c : Nat) (w : World) (h : StsAt w0 a n l) (e0 : Ext w0 w) : Calls Try.prog 18 #[.slice a n c] w fun e w' => e = .returned (.bool (Mem.okL l)) ∧ Ext w w' := by
  have hln := h.1; have hmx := h.2.1
  have hs0 := e0.size
  obtain ⟨bs, os, ha, hbl, hx⟩ := h.parts
  refine calls_cw 41 [(0, .slice a n c)] Try.func18 rfl Try.ntmps18 (by kernel_rfl) (by kernel_rfl) (fun L => ?_)
  have hE : Ext w w := Ext.refl w
  refine cw_seq ?_
  refine cw_plain ?_
  refine pT (.bool false) ?_
  refine pl_nil ?_
  refine qw_then ?_
  refine cw_seq ?_
  refine cw_plain ?_
  refine pl_step rfl (by kernel_rfl) (by kernel_rfl) (by kernel_rfl) (sn_newA (n := 64) (t := 79) (by omega) (by kernel_rfl) ?_)
  intro O1 X2 hO hOs hb hm3
  have hzO1 := hO; have hyO1 := hOs; clear hO hOs
  replace e0 := e0.trans hb
  replace hE := hE.trans hb
  have hs4 := hb.size
  clear hb
  have lt5 := hm3.lt
  refine pl_nil ?_
  refine qw_then ?_
  refine cw_seq ?_
  refine cw_seq ?_
  refine cw_plain ?_
  refine pT (.slice a n c) ?_
  refine pT (.int .i64 (((n : Nat) : Int) : Int)) ?_
  refine pT (.int .i64 0) ?_
  refine pl_nil ?_
  refine qw_then ?_
  refine cw_block ?_
  refine cw_loop [0, 3, 6, 7, 8] (fun ws' wr m => ∃ i : Nat, ws' = [(0, .slice a n c), (3, .pointer (some ⟨O1, 0, none⟩)), (6, .slice a n c), (7, .int .i64 (((n : Nat) : Int) : Int)), (8, .int .i64 (((i : Nat) : Int) : Int))] ∧ m = n - i ∧ X2.heap.size ≤ wr.heap.size ∧ Ext w0 wr ∧ Ext w wr ∧ ArrAt wr O1 64 (Mem.seenF (l.take i)) ∧ i ≤ n ∧ ((l.take i).all Mem.okSt = true ∧ Mem.distB (l.take i) = true)) (ws0 := [(0, .slice a n c), (3, .pointer (some ⟨O1, 0, none⟩)), (6, .slice a n c), (7, .int .i64 (((n : Nat) : Int) : Int)), (8, .int .i64 0)]) (by kernel_rfl) _ ⟨0, rfl, rfl, Nat.le_refl _, e0, hE, (hm3.congr fun k _ => by rw [List.take_zero]; rfl), Nat.zero_le _, ⟨by rw [List.take_zero]; rfl, by rw [List.take_zero]; rfl⟩⟩ ?_
  clear hm3 e0 hE
  rintro m8 L ws w7 ⟨i, rfl, rfl, hs6, e0, hE, hm9, hi, hpre⟩
  by_cases hlt : i < n
  ·
    obtain rfl := ha (by omega)
    obtain ⟨q9, q10, q11, q12⟩ := hx i hlt
    refine cw_seq ?_
    refine cw_plain ?_
    refine pl_take (.bool true) rfl (by kernel_rfl) (by kernel_rfl) (by kernel_rfl) (ev_dec (show _ = Result.ok (Next.value (Value.bool (decide ((((i : Nat) : Int) : Int) < (((n : Nat) : Int) : Int))))) _ from by kernel_rfl) (by omega)) ?_
    refine pl_nil ?_
    refine qw_then ?_
    refine cw_seq ?_
    refine cw_t (by kernel_rfl) ?_
    refine cw_skip ?_
    refine qw_then ?_
    refine cw_seq ?_
    refine cw_block ?_
    refine cw_seq ?_
    refine cw_plain ?_
    refine pl_take (.pointer (some ⟨bs, os + i * 4, none⟩)) rfl (by kernel_rfl) (by kernel_rfl) (by kernel_rfl) (ex_index (p := .slice (some ⟨bs, os, none⟩) n c) (i := .int .i64 ((i : Nat) : Int)) rfl (by kernel_rfl) (by kernel_rfl) (ix27 (k := i) (by omega))) ?_
    refine pl_take (.agg #[.int .i64 ((stN l i).im : Int), .int .i64 ((stN l i).un : Int), .int .i64 ((stN l i).fr : Int), .int .i64 ((stN l i).to : Int)]) rfl (by kernel_rfl) (by kernel_rfl) (by kernel_rfl) (ex_load rfl (by kernel_rfl) (ld26 ((e0.cell q9)) ((e0.cell q10)) ((e0.cell q11)) ((e0.cell q12)))) ?_
    refine pl_step rfl (by kernel_rfl) (by kernel_rfl) (by kernel_rfl) (sn_new (us := #[.int .i64 0, .int .i64 0, .int .i64 0, .int .i64 0]) (t := 26) (by kernel_rfl) ?_)
    intro O13 X14 hO hOs hb hbx
    have hzO13 := hO; have hyO13 := hOs; clear hO hOs
    have bO13_0 : BoxAt X14 O13 0 (.int .i64 0) := hbx 0 _ rfl
    have bO13_1 : BoxAt X14 O13 1 (.int .i64 0) := hbx 1 _ rfl
    have bO13_2 : BoxAt X14 O13 2 (.int .i64 0) := hbx 2 _ rfl
    have bO13_3 : BoxAt X14 O13 3 (.int .i64 0) := hbx 3 _ rfl
    clear hbx
    replace e0 := e0.trans hb
    replace hE := hE.trans hb
    replace hm9 := hm9.ext hb
    have hs15 := hb.size
    clear hb
    have lt16 := bO13_0.lt
    refine pl_put rfl (by kernel_rfl) (by kernel_rfl) (sn_setK4 (O := O13) (j := 0) (v0 := .int .i64 ((stN l i).im : Int)) (v1 := .int .i64 ((stN l i).un : Int)) (v2 := .int .i64 ((stN l i).fr : Int)) (v3 := .int .i64 ((stN l i).to : Int)) (ex_store (p := .pointer (some ⟨O13, 0, none⟩)) (v := .agg #[.int .i64 ((stN l i).im : Int), .int .i64 ((stN l i).un : Int), .int .i64 ((stN l i).fr : Int), .int .i64 ((stN l i).to : Int)]) rfl (by kernel_rfl) (by kernel_rfl) (st26 bO13_0.1 bO13_0.2 bO13_1.1 bO13_1.2 bO13_2.1 bO13_2.2 bO13_3.1 bO13_3.2)) bO13_0 bO13_1 bO13_2 bO13_3 ?_)
    intro X17 ho hv0 hv1 hv2 hv3 hk
    replace e0 := ho.ext e0 (Nat.le_trans (Nat.le_trans hs0 (Nat.le_trans hs4 hs6)) (Nat.le_of_eq hzO13))
    replace hE := ho.ext hE (Nat.le_trans (Nat.le_trans hs4 hs6) (Nat.le_of_eq hzO13))
    replace hm9 := ho.arr (Nat.ne_of_gt (Nat.lt_of_lt_of_le lt5 (Nat.le_trans hs6 (Nat.le_of_eq hzO13)))) hm9
    have hs18 : X14.heap.size ≤ X17.heap.size := Nat.le_of_eq ho.size.symm
    clear ho hk bO13_0 bO13_1 bO13_2 bO13_3
    have bO13_0 := hv0; clear hv0
    have bO13_1 := hv1; clear hv1
    have bO13_2 := hv2; clear hv2
    have bO13_3 := hv3; clear hv3
    refine pl_nil ?_
    refine qw_then ?_
    refine cw_seq ?_
    refine cw_seq ?_
    refine cw_plain ?_
    refine pT (.pointer (some ⟨O13, 0, none⟩)) ?_
    refine pl_take (.int .i64 ((stN l i).im : Int)) rfl (by kernel_rfl) (by kernel_rfl) (by kernel_rfl) (ex_load rfl (by kernel_rfl) (ld3 (bO13_0.1))) ?_
    rcases Bool.eq_false_or_eq_true (Globe.inB ((stN l i).im) 0 63) with hb19 | hb19
    ·
      have hq20 := Globe.inB_t.1 hb19
      refine pl_step rfl (by kernel_rfl) (by kernel_rfl) (by kernel_rfl) (sn_call (f := 46) (args := #[.int .i64 ((stN l i).im : Int), .int .i64 0, .int .i64 63]) (by kernel_rfl) ((memory_isIn_r (r := true) ((stN l i).im) 0 63 _ (hb19)).mono ?_))
      rintro e w21 ⟨rfl, hb⟩
      replace e0 := e0.trans hb
      replace hE := hE.trans hb
      replace hm9 := hm9.ext hb
      replace bO13_0 := BoxAt.ext hb bO13_0
      replace bO13_1 := BoxAt.ext hb bO13_1
      replace bO13_2 := BoxAt.ext hb bO13_2
      replace bO13_3 := BoxAt.ext hb bO13_3
      have hs22 := hb.size
      clear hb
      refine ⟨_, rfl, ?_⟩
      refine pT (.bool false) ?_
      refine pT (.bool false) ?_
      refine pT (.pointer (some ⟨O13, 0, none⟩)) ?_
      refine pl_take (.int .i64 ((stN l i).im : Int)) rfl (by kernel_rfl) (by kernel_rfl) (by kernel_rfl) (ex_load rfl (by kernel_rfl) (ld3 (bO13_0.1))) ?_
      refine pl_take (.pointer (some ⟨O1, (stN l i).im.toNat, none⟩)) rfl (by kernel_rfl) (by kernel_rfl) (by kernel_rfl) (ex_index (p := .pointer (some ⟨O1, 0, none⟩)) (i := .int .i64 (stN l i).im) rfl (by kernel_rfl) (by kernel_rfl) (ia64 (by omega) (by omega))) ?_
      by_cases hc23 : Mem.seenF (l.take i) ((stN l i).im.toNat) = true
      ·
        refine pl_take (.bool true) rfl (by kernel_rfl) (by kernel_rfl) (by kernel_rfl) (ex_load rfl (by kernel_rfl) (ld4 (by have hz := (hm9.at (k := (stN l i).im.toNat) (by omega)).1; rw [hc23] at hz; exact hz))) ?_
        refine pT (.bool true) ?_
        refine pT (.bool true) ?_
        refine pl_skip rfl (by kernel_rfl) (by kernel_rfl) (by kernel_rfl) ?_
        refine pl_skip rfl (by kernel_rfl) (by kernel_rfl) (by kernel_rfl) ?_
        refine pl_skip rfl (by kernel_rfl) (by kernel_rfl) (by kernel_rfl) ?_
        refine pl_skip rfl (by kernel_rfl) (by kernel_rfl) (by kernel_rfl) ?_
        refine pT (.bool true) ?_
        refine pT (.bool true) ?_
        refine pl_skip rfl (by kernel_rfl) (by kernel_rfl) (by kernel_rfl) ?_
        refine pl_skip rfl (by kernel_rfl) (by kernel_rfl) (by kernel_rfl) ?_
        refine pl_skip rfl (by kernel_rfl) (by kernel_rfl) (by kernel_rfl) ?_
        refine pl_skip rfl (by kernel_rfl) (by kernel_rfl) (by kernel_rfl) ?_
        refine pT (.bool true) ?_
        refine pl_nil ?_
        refine qw_then ?_
        refine cw_clean [0, 3, 5, 6, 7, 8, 33] (ws' := [(0, .slice (some ⟨bs, os, none⟩) n c), (3, .pointer (some ⟨O1, 0, none⟩)), (5, .pointer (some ⟨O13, 0, none⟩)), (6, .slice (some ⟨bs, os, none⟩) n c), (7, .int .i64 (((n : Nat) : Int) : Int)), (8, .int .i64 (((i : Nat) : Int) : Int)), (33, .bool true)]) (by kernel_rfl) (fun L => ?_)
        refine cw_t (by kernel_rfl) ?_
        refine cw_seq ?_
        refine cw_plain ?_
        refine pT (.bool false) ?_
        refine pl_nil ?_
        refine qw_then ?_
        refine cw_ret ?_
        refine qw_then_ret ?_
        refine qw_block_ret ?_
        refine qw_then_ret ?_
        refine qw_then_ret ?_
        refine qw_block_ret ?_
        refine qw_then_ret ?_
        refine qw_ret [.bool false] rfl ⟨(by kernel_rfl), trivial⟩ ?_
        exact ⟨congrArg (fun b => Ending.returned (Value.bool b)) (show Mem.okL l = false from Mem.bad_seen (i := i) (by omega) (by have hz := hc23; unfold Mem.seenF at hz; rwa [Int.toNat_of_nonneg (by omega)] at hz)).symm, hE⟩
      ·
        refine pl_take (.bool false) rfl (by kernel_rfl) (by kernel_rfl) (by kernel_rfl) (ex_load rfl (by kernel_rfl) (ld4 (by have hz := (hm9.at (k := (stN l i).im.toNat) (by omega)).1; rw [show Mem.seenF (l.take i) ((stN l i).im.toNat) = false from Bool.eq_false_iff.2 hc23] at hz; exact hz))) ?_
        refine pT (.bool false) ?_
        refine pT (.bool false) ?_
        refine pT (.pointer (some ⟨O13, 1, none⟩)) ?_
        refine pl_take (.int .i64 ((stN l i).un : Int)) rfl (by kernel_rfl) (by kernel_rfl) (by kernel_rfl) (ex_load rfl (by kernel_rfl) (ld3 (bO13_1.1))) ?_
        rcases Bool.eq_false_or_eq_true (Globe.inB ((stN l i).un) 1 1000000) with hb24 | hb24
        ·
          have hq25 := Globe.inB_t.1 hb24
          refine pl_step rfl (by kernel_rfl) (by kernel_rfl) (by kernel_rfl) (sn_call (f := 46) (args := #[.int .i64 ((stN l i).un : Int), .int .i64 1, .int .i64 1000000]) (by kernel_rfl) ((memory_isIn_r (r := true) ((stN l i).un) 1 1000000 _ (hb24)).mono ?_))
          rintro e w26 ⟨rfl, hb⟩
          replace e0 := e0.trans hb
          replace hE := hE.trans hb
          replace hm9 := hm9.ext hb
          replace bO13_0 := BoxAt.ext hb bO13_0
          replace bO13_1 := BoxAt.ext hb bO13_1
          replace bO13_2 := BoxAt.ext hb bO13_2
          replace bO13_3 := BoxAt.ext hb bO13_3
          have hs27 := hb.size
          clear hb
          refine ⟨_, rfl, ?_⟩
          refine pT (.bool false) ?_
          refine pT (.bool false) ?_
          refine pT (.bool false) ?_
          refine pT (.pointer (some ⟨O13, 2, none⟩)) ?_
          refine pl_take (.agg #[.int .i64 ((stN l i).fr : Int), .int .i64 ((stN l i).to : Int)]) rfl (by kernel_rfl) (by kernel_rfl) (by kernel_rfl) (ex_load rfl (by kernel_rfl) (ld24 (bO13_2.1) (bO13_3.1))) ?_
          rcases Bool.eq_false_or_eq_true (Mem.spB ((stN l i).fr, (stN l i).to)) with hb28 | hb28
          ·
            have hq29 := Mem.spB_t.1 hb28; simp only [] at hq29
            refine pl_step rfl (by kernel_rfl) (by kernel_rfl) (by kernel_rfl) (sn_call (f := 47) (args := #[.agg #[.int .i64 ((stN l i).fr : Int), .int .i64 ((stN l i).to : Int)]]) (by kernel_rfl) ((isSpell_r (r := true) ((stN l i).fr) ((stN l i).to) _ (hb28)).mono ?_))
            rintro e w30 ⟨rfl, hb⟩
            replace e0 := e0.trans hb
            replace hE := hE.trans hb
            replace hm9 := hm9.ext hb
            replace bO13_0 := BoxAt.ext hb bO13_0
            replace bO13_1 := BoxAt.ext hb bO13_1
            replace bO13_2 := BoxAt.ext hb bO13_2
            replace bO13_3 := BoxAt.ext hb bO13_3
            have hs31 := hb.size
            clear hb
            refine ⟨_, rfl, ?_⟩
            refine pT (.bool false) ?_
            refine pT (.bool false) ?_
            refine pl_nil ?_
            refine qw_then ?_
            refine cw_clean [0, 3, 5, 6, 7, 8, 33] (ws' := [(0, .slice (some ⟨bs, os, none⟩) n c), (3, .pointer (some ⟨O1, 0, none⟩)), (5, .pointer (some ⟨O13, 0, none⟩)), (6, .slice (some ⟨bs, os, none⟩) n c), (7, .int .i64 (((n : Nat) : Int) : Int)), (8, .int .i64 (((i : Nat) : Int) : Int)), (33, .bool false)]) (by kernel_rfl) (fun L => ?_)
            refine cw_f (by kernel_rfl) ?_
            refine cw_skip ?_
            refine qw_then ?_
            refine cw_plain ?_
            refine pT (.pointer (some ⟨O13, 0, none⟩)) ?_
            refine pl_take (.int .i64 ((stN l i).im : Int)) rfl (by kernel_rfl) (by kernel_rfl) (by kernel_rfl) (ex_load rfl (by kernel_rfl) (ld3 (bO13_0.1))) ?_
            refine pl_take (.pointer (some ⟨O1, (stN l i).im.toNat, none⟩)) rfl (by kernel_rfl) (by kernel_rfl) (by kernel_rfl) (ex_index (p := .pointer (some ⟨O1, 0, none⟩)) (i := .int .i64 (stN l i).im) rfl (by kernel_rfl) (by kernel_rfl) (ia64 (by omega) (by omega))) ?_
            have hka := hm9.at (k := (stN l i).im.toNat) (by omega)
            refine pl_put rfl (by kernel_rfl) (by kernel_rfl) (sn_set (O := O1) (j := (stN l i).im.toNat) (v := .bool true) (ex_store (p := .pointer (some ⟨O1, (stN l i).im.toNat, none⟩)) (v := .bool true) rfl (by kernel_rfl) (by kernel_rfl) (st4 hka.1 hka.2)) hka ?_)
            intro X32 ho hv0 hk
            replace e0 := ho.ext e0 (Nat.le_trans hs0 (Nat.le_of_eq hzO1))
            replace hE := ho.ext hE (Nat.le_of_eq hzO1)
            replace bO13_0 := ho.box (Nat.ne_of_lt (Nat.lt_of_lt_of_le lt5 (Nat.le_trans hs6 (Nat.le_of_eq hzO13)))) bO13_0
            replace bO13_1 := ho.box (Nat.ne_of_lt (Nat.lt_of_lt_of_le lt5 (Nat.le_trans hs6 (Nat.le_of_eq hzO13)))) bO13_1
            replace bO13_2 := ho.box (Nat.ne_of_lt (Nat.lt_of_lt_of_le lt5 (Nat.le_trans hs6 (Nat.le_of_eq hzO13)))) bO13_2
            replace bO13_3 := ho.box (Nat.ne_of_lt (Nat.lt_of_lt_of_le lt5 (Nat.le_trans hs6 (Nat.le_of_eq hzO13)))) bO13_3
            have hs33 : w30.heap.size ≤ X32.heap.size := Nat.le_of_eq ho.size.symm
            replace hm9 := hm9.upd hv0 hk; clear ho hka hv0 hk
            refine pl_nil ?_
            refine qw_block ?_
            refine qw_then ?_
            refine cw_plain ?_
            refine pl_take (.int .i64 (((i + 1 : Nat) : Int) : Int)) rfl (by kernel_rfl) (by kernel_rfl) (by kernel_rfl) (ev_wrap (by kernel_rfl) (by omega) (by omega)) ?_
            refine pT (.int .i64 (((i + 1 : Nat) : Int) : Int)) ?_
            refine pl_nil ?_
            have hok9 : Mem.okSt (stN l i) = true := by unfold Mem.okSt; rw [hb19, hb24, hb28]; rfl
            have hns9 : ((l.take i).any fun y => decide (y.im = (stN l i).im)) = false := by have hz := Bool.eq_false_iff.2 hc23; unfold Mem.seenF at hz; rwa [Int.toNat_of_nonneg (by omega)] at hz
            refine qw_round [0, 3, 6, 7, 8] (ws' := [(0, .slice (some ⟨bs, os, none⟩) n c), (3, .pointer (some ⟨O1, 0, none⟩)), (6, .slice (some ⟨bs, os, none⟩) n c), (7, .int .i64 (((n : Nat) : Int) : Int)), (8, .int .i64 (((i + 1 : Nat) : Int) : Int))]) (by kernel_rfl) _ ?_ ⟨(i + 1), rfl, rfl, (Nat.le_trans hs6 (Nat.le_trans hs15 (Nat.le_trans hs18 (Nat.le_trans hs22 (Nat.le_trans hs27 (Nat.le_trans hs31 hs33)))))), e0, hE, (hm9.congr fun k _ => Mem.seen_next (by omega) (by omega) k), by omega, Mem.ok_next (by omega) hpre hok9 hns9⟩
            omega
          ·
            refine pl_step rfl (by kernel_rfl) (by kernel_rfl) (by kernel_rfl) (sn_call (f := 47) (args := #[.agg #[.int .i64 ((stN l i).fr : Int), .int .i64 ((stN l i).to : Int)]]) (by kernel_rfl) ((isSpell_r (r := false) ((stN l i).fr) ((stN l i).to) _ (hb28)).mono ?_))
            rintro e w34 ⟨rfl, hb⟩
            replace e0 := e0.trans hb
            replace hE := hE.trans hb
            replace hm9 := hm9.ext hb
            replace bO13_0 := BoxAt.ext hb bO13_0
            replace bO13_1 := BoxAt.ext hb bO13_1
            replace bO13_2 := BoxAt.ext hb bO13_2
            replace bO13_3 := BoxAt.ext hb bO13_3
            have hs35 := hb.size
            clear hb
            refine ⟨_, rfl, ?_⟩
            refine pT (.bool true) ?_
            refine pT (.bool true) ?_
            refine pl_nil ?_
            refine qw_then ?_
            refine cw_clean [0, 3, 5, 6, 7, 8, 33] (ws' := [(0, .slice (some ⟨bs, os, none⟩) n c), (3, .pointer (some ⟨O1, 0, none⟩)), (5, .pointer (some ⟨O13, 0, none⟩)), (6, .slice (some ⟨bs, os, none⟩) n c), (7, .int .i64 (((n : Nat) : Int) : Int)), (8, .int .i64 (((i : Nat) : Int) : Int)), (33, .bool true)]) (by kernel_rfl) (fun L => ?_)
            refine cw_t (by kernel_rfl) ?_
            refine cw_seq ?_
            refine cw_plain ?_
            refine pT (.bool false) ?_
            refine pl_nil ?_
            refine qw_then ?_
            refine cw_ret ?_
            refine qw_then_ret ?_
            refine qw_block_ret ?_
            refine qw_then_ret ?_
            refine qw_then_ret ?_
            refine qw_block_ret ?_
            refine qw_then_ret ?_
            refine qw_ret [.bool false] rfl ⟨(by kernel_rfl), trivial⟩ ?_
            exact ⟨congrArg (fun b => Ending.returned (Value.bool b)) (show Mem.okL l = false from Mem.bad_st (i := i) (by omega) (by unfold Mem.okSt; rw [hb28]; simp)).symm, hE⟩
        ·
          refine pl_step rfl (by kernel_rfl) (by kernel_rfl) (by kernel_rfl) (sn_call (f := 46) (args := #[.int .i64 ((stN l i).un : Int), .int .i64 1, .int .i64 1000000]) (by kernel_rfl) ((memory_isIn_r (r := false) ((stN l i).un) 1 1000000 _ (hb24)).mono ?_))
          rintro e w36 ⟨rfl, hb⟩
          replace e0 := e0.trans hb
          replace hE := hE.trans hb
          replace hm9 := hm9.ext hb
          replace bO13_0 := BoxAt.ext hb bO13_0
          replace bO13_1 := BoxAt.ext hb bO13_1
          replace bO13_2 := BoxAt.ext hb bO13_2
          replace bO13_3 := BoxAt.ext hb bO13_3
          have hs37 := hb.size
          clear hb
          refine ⟨_, rfl, ?_⟩
          refine pT (.bool true) ?_
          refine pT (.bool true) ?_
          refine pT (.bool true) ?_
          refine pl_skip rfl (by kernel_rfl) (by kernel_rfl) (by kernel_rfl) ?_
          refine pl_skip rfl (by kernel_rfl) (by kernel_rfl) (by kernel_rfl) ?_
          refine pl_skip rfl (by kernel_rfl) (by kernel_rfl) (by kernel_rfl) ?_
          refine pl_skip rfl (by kernel_rfl) (by kernel_rfl) (by kernel_rfl) ?_
          refine pT (.bool true) ?_
          refine pl_nil ?_
          refine qw_then ?_
          refine cw_clean [0, 3, 5, 6, 7, 8, 33] (ws' := [(0, .slice (some ⟨bs, os, none⟩) n c), (3, .pointer (some ⟨O1, 0, none⟩)), (5, .pointer (some ⟨O13, 0, none⟩)), (6, .slice (some ⟨bs, os, none⟩) n c), (7, .int .i64 (((n : Nat) : Int) : Int)), (8, .int .i64 (((i : Nat) : Int) : Int)), (33, .bool true)]) (by kernel_rfl) (fun L => ?_)
          refine cw_t (by kernel_rfl) ?_
          refine cw_seq ?_
          refine cw_plain ?_
          refine pT (.bool false) ?_
          refine pl_nil ?_
          refine qw_then ?_
          refine cw_ret ?_
          refine qw_then_ret ?_
          refine qw_block_ret ?_
          refine qw_then_ret ?_
          refine qw_then_ret ?_
          refine qw_block_ret ?_
          refine qw_then_ret ?_
          refine qw_ret [.bool false] rfl ⟨(by kernel_rfl), trivial⟩ ?_
          exact ⟨congrArg (fun b => Ending.returned (Value.bool b)) (show Mem.okL l = false from Mem.bad_st (i := i) (by omega) (by unfold Mem.okSt; rw [hb24]; simp)).symm, hE⟩
    ·
      refine pl_step rfl (by kernel_rfl) (by kernel_rfl) (by kernel_rfl) (sn_call (f := 46) (args := #[.int .i64 ((stN l i).im : Int), .int .i64 0, .int .i64 63]) (by kernel_rfl) ((memory_isIn_r (r := false) ((stN l i).im) 0 63 _ (hb19)).mono ?_))
      rintro e w38 ⟨rfl, hb⟩
      replace e0 := e0.trans hb
      replace hE := hE.trans hb
      replace hm9 := hm9.ext hb
      replace bO13_0 := BoxAt.ext hb bO13_0
      replace bO13_1 := BoxAt.ext hb bO13_1
      replace bO13_2 := BoxAt.ext hb bO13_2
      replace bO13_3 := BoxAt.ext hb bO13_3
      have hs39 := hb.size
      clear hb
      refine ⟨_, rfl, ?_⟩
      refine pT (.bool true) ?_
      refine pT (.bool true) ?_
      refine pl_skip rfl (by kernel_rfl) (by kernel_rfl) (by kernel_rfl) ?_
      refine pl_skip rfl (by kernel_rfl) (by kernel_rfl) (by kernel_rfl) ?_
      refine pl_skip rfl (by kernel_rfl) (by kernel_rfl) (by kernel_rfl) ?_
      refine pl_skip rfl (by kernel_rfl) (by kernel_rfl) (by kernel_rfl) ?_
      refine pT (.bool true) ?_
      refine pT (.bool true) ?_
      refine pl_skip rfl (by kernel_rfl) (by kernel_rfl) (by kernel_rfl) ?_
      refine pl_skip rfl (by kernel_rfl) (by kernel_rfl) (by kernel_rfl) ?_
      refine pl_skip rfl (by kernel_rfl) (by kernel_rfl) (by kernel_rfl) ?_
      refine pl_skip rfl (by kernel_rfl) (by kernel_rfl) (by kernel_rfl) ?_
      refine pT (.bool true) ?_
      refine pT (.bool true) ?_
      refine pl_skip rfl (by kernel_rfl) (by kernel_rfl) (by kernel_rfl) ?_
      refine pl_skip rfl (by kernel_rfl) (by kernel_rfl) (by kernel_rfl) ?_
      refine pl_skip rfl (by kernel_rfl) (by kernel_rfl) (by kernel_rfl) ?_
      refine pl_skip rfl (by kernel_rfl) (by kernel_rfl) (by kernel_rfl) ?_
      refine pT (.bool true) ?_
      refine pl_nil ?_
      refine qw_then ?_
      refine cw_clean [0, 3, 5, 6, 7, 8, 33] (ws' := [(0, .slice (some ⟨bs, os, none⟩) n c), (3, .pointer (some ⟨O1, 0, none⟩)), (5, .pointer (some ⟨O13, 0, none⟩)), (6, .slice (some ⟨bs, os, none⟩) n c), (7, .int .i64 (((n : Nat) : Int) : Int)), (8, .int .i64 (((i : Nat) : Int) : Int)), (33, .bool true)]) (by kernel_rfl) (fun L => ?_)
      refine cw_t (by kernel_rfl) ?_
      refine cw_seq ?_
      refine cw_plain ?_
      refine pT (.bool false) ?_
      refine pl_nil ?_
      refine qw_then ?_
      refine cw_ret ?_
      refine qw_then_ret ?_
      refine qw_block_ret ?_
      refine qw_then_ret ?_
      refine qw_then_ret ?_
      refine qw_block_ret ?_
      refine qw_then_ret ?_
      refine qw_ret [.bool false] rfl ⟨(by kernel_rfl), trivial⟩ ?_
      exact ⟨congrArg (fun b => Ending.returned (Value.bool b)) (show Mem.okL l = false from Mem.bad_st (i := i) (by omega) (by unfold Mem.okSt; rw [hb19]; rfl)).symm, hE⟩
  ·
    have hin : i = n := by omega
    refine cw_seq ?_
    refine cw_plain ?_
    refine pl_take (.bool false) rfl (by kernel_rfl) (by kernel_rfl) (by kernel_rfl) (ev_ndec (show _ = Result.ok (Next.value (Value.bool (decide ((((i : Nat) : Int) : Int) < (((n : Nat) : Int) : Int))))) _ from by kernel_rfl) (by omega)) ?_
    refine pl_nil ?_
    refine qw_then ?_
    refine cw_seq ?_
    refine cw_f (by kernel_rfl) ?_
    refine cw_exit ?_
    refine qw_then_exit ?_
    refine qw_then_exit ?_
    refine qw_block_out ?_
    refine qw_then ?_
    refine cw_seq ?_
    refine cw_plain ?_
    refine pT (.slice a n c) ?_
    refine pT (.int .i64 (((n : Nat) : Int) : Int)) ?_
    by_cases hc40 : (((n : Nat) : Int) : Int) ≤ (24 : Int)
    ·
      refine pl_take (.bool true) rfl (by kernel_rfl) (by kernel_rfl) (by kernel_rfl) (ev_dec (show _ = Result.ok (Next.value (Value.bool (decide ((((n : Nat) : Int) : Int) ≤ (24 : Int))))) _ from by kernel_rfl) (hc40)) ?_
      refine pT (.bool true) ?_
      refine pl_nil ?_
      refine qw_then ?_
      refine cw_ret ?_
      refine qw_ret [.bool true] rfl ⟨(by kernel_rfl), trivial⟩ ?_
      exact ⟨congrArg (fun b => Ending.returned (Value.bool b)) (show Mem.okL l = true from by have hz := hpre; rw [hin, List.take_of_length_le (Nat.le_of_eq hln)] at hz; unfold Mem.okL; rw [hz.1, hz.2, decide_eq_true (show l.length ≤ 24 by omega)]; rfl).symm, hE⟩
    ·
      refine pl_take (.bool false) rfl (by kernel_rfl) (by kernel_rfl) (by kernel_rfl) (ev_ndec (show _ = Result.ok (Next.value (Value.bool (decide ((((n : Nat) : Int) : Int) ≤ (24 : Int))))) _ from by kernel_rfl) (hc40)) ?_
      refine pT (.bool false) ?_
      refine pl_nil ?_
      refine qw_then ?_
      refine cw_ret ?_
      refine qw_ret [.bool false] rfl ⟨(by kernel_rfl), trivial⟩ ?_
      exact ⟨congrArg (fun b => Ending.returned (Value.bool b)) (show Mem.okL l = false from by unfold Mem.okL; rw [decide_eq_false (show ¬ l.length ≤ 24 by omega)]; simp).symm, hE⟩
theorem Valid_r {w0 : World} {a : Option Addr} {n : Nat} {l : List Mem.St} {r : Bool} (c : Nat) (w : World) (h : StsAt w0 a n l) (e0 : Ext w0 w) (hr : Mem.okL l = r) : Calls Try.prog 18 #[.slice a n c] w fun e w' => e = .returned (.bool r) ∧ Ext w w' := hr ▸ Valid_c c w h e0

end Go.Proofs.Ytnbjjddfcondlaa

/- Contracts of package memory: can, Freed, Worst. -/
namespace Go.Proofs.Ytnbjjddfcondlaa
open Go.RowKit

namespace Mem
/-- A slot, an option. -/
structure Slt where
  ps : Int
  fr : Int
  to : Int
instance : Inhabited Slt := ⟨⟨0, 0, 0⟩⟩
structure Opt where
  id : Int
  od : Int
  cl : Int
  sa : Int
  fr : Int
  to : Int
  lk : Int
  sz : Int
  sl : List Slt
end Mem
def SlAt (w : World) (b o : Nat) (x : Mem.Slt) : Prop := w.cell? ⟨b, o, none⟩ = some (.int .i64 x.ps) ∧ w.cell? ⟨b, o + 1, none⟩ = some (.int .i64 x.fr) ∧ w.cell? ⟨b, o + 2, none⟩ = some (.int .i64 x.to)
def SlsAt (w : World) (a : Option Addr) (n : Nat) (l : List Mem.Slt) : Prop := l.length = n ∧ n ≤ 140737488355328 ∧ (n = 0 ∨ ∃ b o, a = some ⟨b, o, none⟩ ∧ ∀ (i : Nat) x, l[i]? = some x → SlAt w b (o + i * 3) x)
theorem SlsAt.ext {w w' : World} {a : Option Addr} {n : Nat} {l : List Mem.Slt} (h : SlsAt w a n l) (hE : Ext w w') : SlsAt w' a n l :=
  ⟨h.1, h.2.1, h.2.2.imp id fun ⟨b, o, ha, hx⟩ => ⟨b, o, ha, fun i x hi => ⟨hE.cell (hx i x hi).1, hE.cell (hx i x hi).2.1, hE.cell (hx i x hi).2.2⟩⟩⟩
def slN (l : List Mem.Slt) (i : Nat) : Mem.Slt := l[i]?.getD default
theorem slN_at {l : List Mem.Slt} {i : Nat} (h : i < l.length) : l[i]? = some (slN l i) := by unfold slN; rw [List.getElem?_eq_getElem h]; rfl
theorem slN_take {l : List Mem.Slt} {i : Nat} (h : i < l.length) : l.take (i + 1) = l.take i ++ [slN l i] := by rw [List.take_add_one, slN_at h]; rfl
theorem SlsAt.parts {w : World} {a : Option Addr} {n : Nat} {l : List Mem.Slt} (h : SlsAt w a n l) : ∃ b o, (0 < n → a = some ⟨b, o, none⟩) ∧ (0 < n → b < w.heap.size) ∧ ∀ i, i < n → SlAt w b (o + i * 3) (slN l i) := by
  obtain ⟨h1, _, h3⟩ := h
  rcases h3 with h3 | ⟨b, o, ha, hx⟩
  · exact ⟨0, 0, fun h => by omega, fun h => by omega, fun i hi => by omega⟩
  · exact ⟨b, o, fun _ => ha, fun h => World.block_lt_of_cell? _ _ (hx 0 _ (slN_at (by omega))).1, fun i hi => hx i _ (slN_at (by omega))⟩
theorem SlsAt.take {w : World} {a : Option Addr} {n : Nat} {l : List Mem.Slt} (h : SlsAt w a n l) {k : Nat} (hk : k ≤ n) : SlsAt w a k (l.take k) := by
  obtain ⟨h1, h2, h3⟩ := h
  refine ⟨by rw [List.length_take]; omega, by omega, ?_⟩
  rcases h3 with h3 | ⟨b, o, ha, hx⟩
  · exact .inl (by omega)
  · refine .inr ⟨b, o, ha, fun i x hi => hx i x ?_⟩
    rw [List.getElem?_take] at hi
    split at hi
    · exact hi
    · cases hi
namespace Mem
def chainB : Int → List Slt → Bool
  | _, [] => true
  | e, s :: r => (decide (e ≤ s.fr) && spB (s.fr, s.to)) && chainB s.to r
def lastTo : Int → List Slt → Int
  | e, [] => e
  | _, s :: r => lastTo s.to r
theorem lastTo_snoc : ∀ (l : List Slt) (e : Int) (s : Slt), lastTo e (l ++ [s]) = s.to
  | [], _, _ => rfl
  | x :: l, e, s => by rw [List.cons_append, lastTo, lastTo_snoc l]
theorem chain_snoc : ∀ (l : List Slt) (e : Int) (s : Slt), chainB e (l ++ [s]) = (chainB e l && (decide (lastTo e l ≤ s.fr) && spB (s.fr, s.to)))
  | [], e, s => by rw [List.nil_append, chainB, chainB, chainB, lastTo]; simp
  | x :: l, e, s => by rw [List.cons_append, chainB, chainB, lastTo, chain_snoc l]; simp only [Bool.and_assoc]
theorem chain_app : ∀ (a b : List Slt) (e : Int), chainB e (a ++ b) = true → chainB e a = true
  | [], b, e, _ => rfl
  | x :: a, b, e, h => by
    rw [List.cons_append, chainB] at h
    obtain ⟨h1, h2⟩ := Bool.and_eq_true_iff.1 h
    rw [chainB, h1, chain_app a b _ h2]; rfl
theorem chain_bad {l : List Slt} {e : Int} {i : Nat} (hi : i < l.length) (h : (decide (lastTo e (l.take i) ≤ (slN l i).fr) && spB ((slN l i).fr, (slN l i).to)) = false) : chainB e l = false := by
  cases q : chainB e l
  · rfl
  · rw [← List.take_append_drop (i + 1) l] at q
    have h3 := chain_app _ _ _ q
    rw [slN_take hi, chain_snoc, h] at h3
    simp at h3
theorem chain_next {l : List Slt} {e : Int} {i : Nat} (hi : i < l.length) (h0 : chainB e (l.take i) = true) (h1 : lastTo e (l.take i) ≤ (slN l i).fr) (h2 : spB ((slN l i).fr, (slN l i).to) = true) : chainB e (l.take (i + 1)) = true := by
  rw [slN_take hi, chain_snoc, h0, decide_eq_true h1, h2]; rfl
theorem last_next {l : List Slt} {e : Int} {i : Nat} (hi : i < l.length) : lastTo e (l.take (i + 1)) = (slN l i).to := by rw [slN_take hi, lastTo_snoc]
def canB (o : Opt) : Bool := chainB o.to o.sl && (Globe.inB o.id 0 63 && (Globe.inB o.sz 1 1000000 && (spB (o.fr, o.to) && Globe.inB (o.sl.length : Int) 1 6)))
def freeB (o : Opt) (k : Int) : Bool := canB o && Globe.inB k 0 ((o.sl.length : Int) - 1)
/-- How it is stored if the slot number k is confirmed. -/
def freed (o : Opt) (k : Nat) : St := ⟨o.id, o.sz, o.fr, (slN o.sl k).to⟩
def freeV (o : Opt) (k : Int) : St := if freeB o k then freed o k.toNat else ⟨0, 0, 0, 0⟩
def freeE (o : Opt) (k : Int) : Int := if freeB o k then 0 else 110
end Mem
set_option maxRecDepth 1000000 in
set_option maxHeartbeats 4000000 in
theorem can_c {w0 : World} {a : Option Addr} {n : Nat} {o : Mem.Opt} (c : Nat) (w : World) (h : SlsAt w0 a n o.sl) (e0 : Ext w0 w) : Calls Try.prog 49 #[.agg #[.int .i64 o.id, .int .i64 o.od, .int .i64 o.cl, .int .i64 o.sa, .int .i64 o.fr, .int .i64 o.to, .int .i64 o.lk, .int .i64 o.sz, .slice a n c]] w fun e w' => e = .returned (.bool (Mem.canB o)) ∧ Ext w w' := by
  have hln := h.1; have hmx := h.2.1
  have hs0 := e0.size
  obtain ⟨bs, os, ha, hbl, hx⟩ := h.parts
  refine calls_cw 49 [(0, .agg #[.int .i64 (o.id : Int), .int .i64 (o.od : Int), .int .i64 (o.cl : Int), .int .i64 (o.sa : Int), .int .i64 (o.fr : Int), .int .i64 (o.to : Int), .int .i64 (o.lk : Int), .int .i64 (o.sz : Int), .slice a n c])] Try.func49 rfl Try.ntmps49 (by kernel_rfl) (by kernel_rfl) (fun L => ?_)
  have hE : Ext w w := Ext.refl w
  refine cw_seq ?_
  refine cw_plain ?_
  refine pl_step rfl (by kernel_rfl) (by kernel_rfl) (by kernel_rfl) (sn_new (us := #[.int .i64 (o.id : Int), .int .i64 (o.od : Int), .int .i64 (o.cl : Int), .int .i64 (o.sa : Int), .int .i64 (o.fr : Int), .int .i64 (o.to : Int), .int .i64 (o.lk : Int), .int .i64 (o.sz : Int), .slice a n c]) (t := 31) (by kernel_rfl) ?_)
  intro O1 X2 hO hOs hb hbx
  have hzO1 := hO; have hyO1 := hOs; clear hO hOs
  have bO1_0 : BoxAt X2 O1 0 (.int .i64 (o.id : Int)) := hbx 0 _ rfl
  have bO1_1 : BoxAt X2 O1 1 (.int .i64 (o.od : Int)) := hbx 1 _ rfl
  have bO1_2 : BoxAt X2 O1 2 (.int .i64 (o.cl : Int)) := hbx 2 _ rfl
  have bO1_3 : BoxAt X2 O1 3 (.int .i64 (o.sa : Int)) := hbx 3 _ rfl
  have bO1_4 : BoxAt X2 O1 4 (.int .i64 (o.fr : Int)) := hbx 4 _ rfl
  have bO1_5 : BoxAt X2 O1 5 (.int .i64 (o.to : Int)) := hbx 5 _ rfl
  have bO1_6 : BoxAt X2 O1 6 (.int .i64 (o.lk : Int)) := hbx 6 _ rfl
  have bO1_7 : BoxAt X2 O1 7 (.int .i64 (o.sz : Int)) := hbx 7 _ rfl
  have bO1_8 : BoxAt X2 O1 8 (.slice a n c) := hbx 8 _ rfl
  clear hbx
  replace e0 := e0.trans hb
  replace hE := hE.trans hb
  have hs3 := hb.size
  clear hb
  have lt4 := bO1_0.lt
  refine pT (.bool false) ?_
  refine pl_nil ?_
  refine qw_then ?_
  refine cw_seq ?_
  refine cw_plain ?_
  refine pT (.pointer (some ⟨O1, 4, none⟩)) ?_
  refine pl_take (.agg #[.int .i64 (o.fr : Int), .int .i64 (o.to : Int)]) rfl (by kernel_rfl) (by kernel_rfl) (by kernel_rfl) (ex_load rfl (by kernel_rfl) (ld24 (bO1_4.1) (bO1_5.1))) ?_
  refine pl_step rfl (by kernel_rfl) (by kernel_rfl) (by kernel_rfl) (sn_new (us := #[.int .i64 0, .int .i64 0]) (t := 24) (by kernel_rfl) ?_)
  intro O5 X6 hO hOs hb hbx
  have hzO5 := hO; have hyO5 := hOs; clear hO hOs
  have bO5_0 : BoxAt X6 O5 0 (.int .i64 0) := hbx 0 _ rfl
  have bO5_1 : BoxAt X6 O5 1 (.int .i64 0) := hbx 1 _ rfl
  clear hbx
  replace e0 := e0.trans hb
  replace hE := hE.trans hb
  replace bO1_0 := BoxAt.ext hb bO1_0
  replace bO1_1 := BoxAt.ext hb bO1_1
  replace bO1_2 := BoxAt.ext hb bO1_2
  replace bO1_3 := BoxAt.ext hb bO1_3
  replace bO1_4 := BoxAt.ext hb bO1_4
  replace bO1_5 := BoxAt.ext hb bO1_5
  replace bO1_6 := BoxAt.ext hb bO1_6
  replace bO1_7 := BoxAt.ext hb bO1_7
  replace bO1_8 := BoxAt.ext hb bO1_8
  have hs7 := hb.size
  clear hb
  have lt8 := bO5_0.lt
  refine pl_put rfl (by kernel_rfl) (by kernel_rfl) (sn_set2 (O := O5) (j := 0) (v := .int .i64 (o.fr : Int)) (v' := .int .i64 (o.to : Int)) (ex_store (p := .pointer (some ⟨O5, 0, none⟩)) (v := .agg #[.int .i64 (o.fr : Int), .int .i64 (o.to : Int)]) rfl (by kernel_rfl) (by kernel_rfl) (st24 bO5_0.1 bO5_0.2 bO5_1.1 bO5_1.2)) bO5_0 bO5_1 ?_)
  intro X9 ho hv0 hv1 hk
  replace e0 := ho.ext e0 (Nat.le_trans (Nat.le_trans hs0 hs3) (Nat.le_of_eq hzO5))
  replace hE := ho.ext hE (Nat.le_trans hs3 (Nat.le_of_eq hzO5))
  replace bO1_0 := ho.box (Nat.ne_of_gt (Nat.lt_of_lt_of_le lt4 (Nat.le_of_eq hzO5))) bO1_0
  replace bO1_1 := ho.box (Nat.ne_of_gt (Nat.lt_of_lt_of_le lt4 (Nat.le_of_eq hzO5))) bO1_1
  replace bO1_2 := ho.box (Nat.ne_of_gt (Nat.lt_of_lt_of_le lt4 (Nat.le_of_eq hzO5))) bO1_2
  replace bO1_3 := ho.box (Nat.ne_of_gt (Nat.lt_of_lt_of_le lt4 (Nat.le_of_eq hzO5))) bO1_3
  replace bO1_4 := ho.box (Nat.ne_of_gt (Nat.lt_of_lt_of_le lt4 (Nat.le_of_eq hzO5))) bO1_4
  replace bO1_5 := ho.box (Nat.ne_of_gt (Nat.lt_of_lt_of_le lt4 (Nat.le_of_eq hzO5))) bO1_5
  replace bO1_6 := ho.box (Nat.ne_of_gt (Nat.lt_of_lt_of_le lt4 (Nat.le_of_eq hzO5))) bO1_6
  replace bO1_7 := ho.box (Nat.ne_of_gt (Nat.lt_of_lt_of_le lt4 (Nat.le_of_eq hzO5))) bO1_7
  replace bO1_8 := ho.box (Nat.ne_of_gt (Nat.lt_of_lt_of_le lt4 (Nat.le_of_eq hzO5))) bO1_8
  have hs10 : X6.heap.size ≤ X9.heap.size := Nat.le_of_eq ho.size.symm
  clear ho hk bO5_0 bO5_1
  have bO5_0 := hv0; clear hv0
  have bO5_1 := hv1; clear hv1
  refine pl_nil ?_
  refine qw_then ?_
  refine cw_seq ?_
  refine cw_seq ?_
  refine cw_plain ?_
  refine pT (.pointer (some ⟨O1, 8, none⟩)) ?_
  refine pl_take (.slice a n c) rfl (by kernel_rfl) (by kernel_rfl) (by kernel_rfl) (ex_load rfl (by kernel_rfl) (ld29 (bO1_8.1))) ?_
  refine pT (.int .i64 (((n : Nat) : Int) : Int)) ?_
  refine pT (.int .i64 0) ?_
  refine pl_nil ?_
  refine qw_then ?_
  refine cw_block ?_
  refine cw_loop [1, 3, 9, 10, 11] (fun ws' wr m => ∃ i : Nat, ∃ lf : Int, ws' = [(1, .pointer (some ⟨O1, 0, none⟩)), (3, .pointer (some ⟨O5, 0, none⟩)), (9, .slice a n c), (10, .int .i64 (((n : Nat) : Int) : Int)), (11, .int .i64 (((i : Nat) : Int) : Int))] ∧ m = n - i ∧ X9.heap.size ≤ wr.heap.size ∧ Ext w0 wr ∧ Ext w wr ∧ BoxAt wr O1 0 (.int .i64 (o.id : Int)) ∧ BoxAt wr O1 1 (.int .i64 (o.od : Int)) ∧ BoxAt wr O1 2 (.int .i64 (o.cl : Int)) ∧ BoxAt wr O1 3 (.int .i64 (o.sa : Int)) ∧ BoxAt wr O1 4 (.int .i64 (o.fr : Int)) ∧ BoxAt wr O1 5 (.int .i64 (o.to : Int)) ∧ BoxAt wr O1 6 (.int .i64 (o.lk : Int)) ∧ BoxAt wr O1 7 (.int .i64 (o.sz : Int)) ∧ BoxAt wr O1 8 (.slice a n c) ∧ BoxAt wr O5 0 (.int .i64 (lf : Int)) ∧ BoxAt wr O5 1 (.int .i64 (Mem.lastTo o.to (o.sl.take i) : Int)) ∧ i ≤ n ∧ Mem.chainB o.to (o.sl.take i) = true) (ws0 := [(1, .pointer (some ⟨O1, 0, none⟩)), (3, .pointer (some ⟨O5, 0, none⟩)), (9, .slice a n c), (10, .int .i64 (((n : Nat) : Int) : Int)), (11, .int .i64 0)]) (by kernel_rfl) _ ⟨0, o.fr, rfl, rfl, Nat.le_refl _, e0, hE, bO1_0, bO1_1, bO1_2, bO1_3, bO1_4, bO1_5, bO1_6, bO1_7, bO1_8, bO5_0, (by rw [List.take_zero]; exact bO5_1), Nat.zero_le _, by rw [List.take_zero]; rfl⟩ ?_
  clear bO1_0 bO1_1 bO1_2 bO1_3 bO1_4 bO1_5 bO1_6 bO1_7 bO1_8 bO5_0 bO5_1 e0 hE
  rintro m13 L ws w12 ⟨i, lf, rfl, rfl, hs11, e0, hE, bO1_0, bO1_1, bO1_2, bO1_3, bO1_4, bO1_5, bO1_6, bO1_7, bO1_8, b9, b8, hi, hch⟩
  by_cases hlt : i < n
  ·
    obtain rfl := ha (by omega)
    obtain ⟨q14, q15, q16⟩ := hx i hlt
    refine cw_seq ?_
    refine cw_plain ?_
    refine pl_take (.bool true) rfl (by kernel_rfl) (by kernel_rfl) (by kernel_rfl) (ev_dec (show _ = Result.ok (Next.value (Value.bool (decide ((((i : Nat) : Int) : Int) < (((n : Nat) : Int) : Int))))) _ from by kernel_rfl) (by omega)) ?_
    refine pl_nil ?_
    refine qw_then ?_
    refine cw_seq ?_
    refine cw_t (by kernel_rfl) ?_
    refine cw_skip ?_
    refine qw_then ?_
    refine cw_seq ?_
    refine cw_block ?_
    refine cw_seq ?_
    refine cw_plain ?_
    refine pl_take (.pointer (some ⟨bs, os + i * 3, none⟩)) rfl (by kernel_rfl) (by kernel_rfl) (by kernel_rfl) (ex_index (p := .slice (some ⟨bs, os, none⟩) n c) (i := .int .i64 ((i : Nat) : Int)) rfl (by kernel_rfl) (by kernel_rfl) (ix29 (k := i) (by omega))) ?_
    refine pl_take (.agg #[.int .i64 ((slN o.sl i).ps : Int), .int .i64 ((slN o.sl i).fr : Int), .int .i64 ((slN o.sl i).to : Int)]) rfl (by kernel_rfl) (by kernel_rfl) (by kernel_rfl) (ex_load rfl (by kernel_rfl) (ld61 ((e0.cell q14)) ((e0.cell q15)) ((e0.cell q16)))) ?_
    refine pl_step rfl (by kernel_rfl) (by kernel_rfl) (by kernel_rfl) (sn_new (us := #[.int .i64 0, .int .i64 0, .int .i64 0]) (t := 61) (by kernel_rfl) ?_)
    intro O17 X18 hO hOs hb hbx
    have hzO17 := hO; have hyO17 := hOs; clear hO hOs
    have bO17_0 : BoxAt X18 O17 0 (.int .i64 0) := hbx 0 _ rfl
    have bO17_1 : BoxAt X18 O17 1 (.int .i64 0) := hbx 1 _ rfl
    have bO17_2 : BoxAt X18 O17 2 (.int .i64 0) := hbx 2 _ rfl
    clear hbx
    replace e0 := e0.trans hb
    replace hE := hE.trans hb
    replace bO1_0 := BoxAt.ext hb bO1_0
    replace bO1_1 := BoxAt.ext hb bO1_1
    replace bO1_2 := BoxAt.ext hb bO1_2
    replace bO1_3 := BoxAt.ext hb bO1_3
    replace bO1_4 := BoxAt.ext hb bO1_4
    replace bO1_5 := BoxAt.ext hb bO1_5
    replace bO1_6 := BoxAt.ext hb bO1_6
    replace bO1_7 := BoxAt.ext hb bO1_7
    replace bO1_8 := BoxAt.ext hb bO1_8
    replace b9 := BoxAt.ext hb b9
    replace b8 := BoxAt.ext hb b8
    have hs19 := hb.size
    clear hb
    have lt20 := bO17_0.lt
    refine pl_put rfl (by kernel_rfl) (by kernel_rfl) (sn_setK3 (O := O17) (j := 0) (v0 := .int .i64 ((slN o.sl i).ps : Int)) (v1 := .int .i64 ((slN o.sl i).fr : Int)) (v2 := .int .i64 ((slN o.sl i).to : Int)) (ex_store (p := .pointer (some ⟨O17, 0, none⟩)) (v := .agg #[.int .i64 ((slN o.sl i).ps : Int), .int .i64 ((slN o.sl i).fr : Int), .int .i64 ((slN o.sl i).to : Int)]) rfl (by kernel_rfl) (by kernel_rfl) (st61 bO17_0.1 bO17_0.2 bO17_1.1 bO17_1.2 bO17_2.1 bO17_2.2)) bO17_0 bO17_1 bO17_2 ?_)
    intro X21 ho hv0 hv1 hv2 hk
    replace e0 := ho.ext e0 (Nat.le_trans (Nat.le_trans hs0 (Nat.le_trans hs3 (Nat.le_trans hs7 (Nat.le_trans hs10 hs11)))) (Nat.le_of_eq hzO17))
    replace hE := ho.ext hE (Nat.le_trans (Nat.le_trans hs3 (Nat.le_trans hs7 (Nat.le_trans hs10 hs11))) (Nat.le_of_eq hzO17))
    replace bO1_0 := ho.box (Nat.ne_of_gt (Nat.lt_of_lt_of_le lt4 (Nat.le_trans (Nat.le_trans hs7 (Nat.le_trans hs10 hs11)) (Nat.le_of_eq hzO17)))) bO1_0
    replace bO1_1 := ho.box (Nat.ne_of_gt (Nat.lt_of_lt_of_le lt4 (Nat.le_trans (Nat.le_trans hs7 (Nat.le_trans hs10 hs11)) (Nat.le_of_eq hzO17)))) bO1_1
    replace bO1_2 := ho.box (Nat.ne_of_gt (Nat.lt_of_lt_of_le lt4 (Nat.le_trans (Nat.le_trans hs7 (Nat.le_trans hs10 hs11)) (Nat.le_of_eq hzO17)))) bO1_2
    replace bO1_3 := ho.box (Nat.ne_of_gt (Nat.lt_of_lt_of_le lt4 (Nat.le_trans (Nat.le_trans hs7 (Nat.le_trans hs10 hs11)) (Nat.le_of_eq hzO17)))) bO1_3
    replace bO1_4 := ho.box (Nat.ne_of_gt (Nat.lt_of_lt_of_le lt4 (Nat.le_trans (Nat.le_trans hs7 (Nat.le_trans hs10 hs11)) (Nat.le_of_eq hzO17)))) bO1_4
    replace bO1_5 := ho.box (Nat.ne_of_gt (Nat.lt_of_lt_of_le lt4 (Nat.le_trans (Nat.le_trans hs7 (Nat.le_trans hs10 hs11)) (Nat.le_of_eq hzO17)))) bO1_5
    replace bO1_6 := ho.box (Nat.ne_of_gt (Nat.lt_of_lt_of_le lt4 (Nat.le_trans (Nat.le_trans hs7 (Nat.le_trans hs10 hs11)) (Nat.le_of_eq hzO17)))) bO1_6
    replace bO1_7 := ho.box (Nat.ne_of_gt (Nat.lt_of_lt_of_le lt4 (Nat.le_trans (Nat.le_trans hs7 (Nat.le_trans hs10 hs11)) (Nat.le_of_eq hzO17)))) bO1_7
    replace bO1_8 := ho.box (Nat.ne_of_gt (Nat.lt_of_lt_of_le lt4 (Nat.le_trans (Nat.le_trans hs7 (Nat.le_trans hs10 hs11)) (Nat.le_of_eq hzO17)))) bO1_8
    replace b9 := ho.box (Nat.ne_of_gt (Nat.lt_of_lt_of_le lt8 (Nat.le_trans (Nat.le_trans hs10 hs11) (Nat.le_of_eq hzO17)))) b9
    replace b8 := ho.box (Nat.ne_of_gt (Nat.lt_of_lt_of_le lt8 (Nat.le_trans (Nat.le_trans hs10 hs11) (Nat.le_of_eq hzO17)))) b8
    have hs22 : X18.heap.size ≤ X21.heap.size := Nat.le_of_eq ho.size.symm
    clear ho hk bO17_0 bO17_1 bO17_2
    have bO17_0 := hv0; clear hv0
    have bO17_1 := hv1; clear hv1
    have bO17_2 := hv2; clear hv2
    refine pl_nil ?_
    refine qw_then ?_
    refine cw_seq ?_
    refine cw_seq ?_
    refine cw_plain ?_
    refine pT (.pointer (some ⟨O17, 1, none⟩)) ?_
    refine pT (.pointer (some ⟨O17, 1, none⟩)) ?_
    refine pl_take (.int .i64 ((slN o.sl i).fr : Int)) rfl (by kernel_rfl) (by kernel_rfl) (by kernel_rfl) (ex_load rfl (by kernel_rfl) (ld3 (bO17_1.1))) ?_
    refine pT (.pointer (some ⟨O5, 1, none⟩)) ?_
    refine pl_take (.int .i64 (Mem.lastTo o.to (o.sl.take i) : Int)) rfl (by kernel_rfl) (by kernel_rfl) (by kernel_rfl) (ex_load rfl (by kernel_rfl) (ld3 (b8.1))) ?_
    by_cases hc23 : ((slN o.sl i).fr : Int) < (Mem.lastTo o.to (o.sl.take i) : Int)
    ·
      refine pl_take (.bool true) rfl (by kernel_rfl) (by kernel_rfl) (by kernel_rfl) (ev_dec (show _ = Result.ok (Next.value (Value.bool (decide (((slN o.sl i).fr : Int) < (Mem.lastTo o.to (o.sl.take i) : Int))))) _ from by kernel_rfl) (hc23)) ?_
      refine pT (.bool true) ?_
      refine pl_skip rfl (by kernel_rfl) (by kernel_rfl) (by kernel_rfl) ?_
      refine pl_skip rfl (by kernel_rfl) (by kernel_rfl) (by kernel_rfl) ?_
      refine pl_skip rfl (by kernel_rfl) (by kernel_rfl) (by kernel_rfl) ?_
      refine pl_skip rfl (by kernel_rfl) (by kernel_rfl) (by kernel_rfl) ?_
      refine pT (.bool true) ?_
      refine pl_nil ?_
      refine qw_then ?_
      refine cw_clean [1, 3, 5, 9, 10, 11, 26] (ws' := [(1, .pointer (some ⟨O1, 0, none⟩)), (3, .pointer (some ⟨O5, 0, none⟩)), (5, .pointer (some ⟨O17, 0, none⟩)), (9, .slice (some ⟨bs, os, none⟩) n c), (10, .int .i64 (((n : Nat) : Int) : Int)), (11, .int .i64 (((i : Nat) : Int) : Int)), (26, .bool true)]) (by kernel_rfl) (fun L => ?_)
      refine cw_t (by kernel_rfl) ?_
      refine cw_seq ?_
      refine cw_plain ?_
      refine pT (.bool false) ?_
      refine pl_nil ?_
      refine qw_then ?_
      refine cw_ret ?_
      refine qw_then_ret ?_
      refine qw_block_ret ?_
      refine qw_then_ret ?_
      refine qw_then_ret ?_
      refine qw_block_ret ?_
      refine qw_then_ret ?_
      refine qw_ret [.bool false] rfl ⟨(by kernel_rfl), trivial⟩ ?_
      exact ⟨congrArg (fun b => Ending.returned (Value.bool b)) (show Mem.canB o = false from by unfold Mem.canB; rw [Mem.chain_bad (i := i) (by omega) (by rw [decide_eq_false (by omega)]; rfl)]; rfl).symm, hE⟩
    ·
      refine pl_take (.bool false) rfl (by kernel_rfl) (by kernel_rfl) (by kernel_rfl) (ev_ndec (show _ = Result.ok (Next.value (Value.bool (decide (((slN o.sl i).fr : Int) < (Mem.lastTo o.to (o.sl.take i) : Int))))) _ from by kernel_rfl) (hc23)) ?_
      refine pT (.bool false) ?_
      refine pT (.pointer (some ⟨O17, 1, none⟩)) ?_
      refine pl_take (.agg #[.int .i64 ((slN o.sl i).fr : Int), .int .i64 ((slN o.sl i).to : Int)]) rfl (by kernel_rfl) (by kernel_rfl) (by kernel_rfl) (ex_load rfl (by kernel_rfl) (ld24 (bO17_1.1) (bO17_2.1))) ?_
      rcases Bool.eq_false_or_eq_true (Mem.spB ((slN o.sl i).fr, (slN o.sl i).to)) with hb24 | hb24
      ·
        have hq25 := Mem.spB_t.1 hb24; simp only [] at hq25
        refine pl_step rfl (by kernel_rfl) (by kernel_rfl) (by kernel_rfl) (sn_call (f := 47) (args := #[.agg #[.int .i64 ((slN o.sl i).fr : Int), .int .i64 ((slN o.sl i).to : Int)]]) (by kernel_rfl) ((isSpell_r (r := true) ((slN o.sl i).fr) ((slN o.sl i).to) _ (hb24)).mono ?_))
        rintro e w26 ⟨rfl, hb⟩
        replace e0 := e0.trans hb
        replace hE := hE.trans hb
        replace bO1_0 := BoxAt.ext hb bO1_0
        replace bO1_1 := BoxAt.ext hb bO1_1
        replace bO1_2 := BoxAt.ext hb bO1_2
        replace bO1_3 := BoxAt.ext hb bO1_3
        replace bO1_4 := BoxAt.ext hb bO1_4
        replace bO1_5 := BoxAt.ext hb bO1_5
        replace bO1_6 := BoxAt.ext hb bO1_6
        replace bO1_7 := BoxAt.ext hb bO1_7
        replace bO1_8 := BoxAt.ext hb bO1_8
        replace b9 := BoxAt.ext hb b9
        replace b8 := BoxAt.ext hb b8
        replace bO17_0 := BoxAt.ext hb bO17_0
        replace bO17_1 := BoxAt.ext hb bO17_1
        replace bO17_2 := BoxAt.ext hb bO17_2
        have hs27 := hb.size
        clear hb
        refine ⟨_, rfl, ?_⟩
        refine pT (.bool false) ?_
        refine pT (.bool false) ?_
        refine pl_nil ?_
        refine qw_then ?_
        refine cw_clean [1, 3, 5, 9, 10, 11, 26] (ws' := [(1, .pointer (some ⟨O1, 0, none⟩)), (3, .pointer (some ⟨O5, 0, none⟩)), (5, .pointer (some ⟨O17, 0, none⟩)), (9, .slice (some ⟨bs, os, none⟩) n c), (10, .int .i64 (((n : Nat) : Int) : Int)), (11, .int .i64 (((i : Nat) : Int) : Int)), (26, .bool false)]) (by kernel_rfl) (fun L => ?_)
        refine cw_f (by kernel_rfl) ?_
        refine cw_skip ?_
        refine qw_then ?_
        refine cw_plain ?_
        refine pT (.pointer (some ⟨O17, 1, none⟩)) ?_
        refine pl_take (.agg #[.int .i64 ((slN o.sl i).fr : Int), .int .i64 ((slN o.sl i).to : Int)]) rfl (by kernel_rfl) (by kernel_rfl) (by kernel_rfl) (ex_load rfl (by kernel_rfl) (ld24 (bO17_1.1) (bO17_2.1))) ?_
        refine pl_put rfl (by kernel_rfl) (by kernel_rfl) (sn_set2 (O := O5) (j := 0) (v := .int .i64 ((slN o.sl i).fr : Int)) (v' := .int .i64 ((slN o.sl i).to : Int)) (ex_store (p := .pointer (some ⟨O5, 0, none⟩)) (v := .agg #[.int .i64 ((slN o.sl i).fr : Int), .int .i64 ((slN o.sl i).to : Int)]) rfl (by kernel_rfl) (by kernel_rfl) (st24 b9.1 b9.2 b8.1 b8.2)) b9 b8 ?_)
        intro X28 ho hv0 hv1 hk
        replace e0 := ho.ext e0 (Nat.le_trans (Nat.le_trans hs0 hs3) (Nat.le_of_eq hzO5))
        replace hE := ho.ext hE (Nat.le_trans hs3 (Nat.le_of_eq hzO5))
        replace bO1_0 := ho.box (Nat.ne_of_gt (Nat.lt_of_lt_of_le lt4 (Nat.le_of_eq hzO5))) bO1_0
        replace bO1_1 := ho.box (Nat.ne_of_gt (Nat.lt_of_lt_of_le lt4 (Nat.le_of_eq hzO5))) bO1_1
        replace bO1_2 := ho.box (Nat.ne_of_gt (Nat.lt_of_lt_of_le lt4 (Nat.le_of_eq hzO5))) bO1_2
        replace bO1_3 := ho.box (Nat.ne_of_gt (Nat.lt_of_lt_of_le lt4 (Nat.le_of_eq hzO5))) bO1_3
        replace bO1_4 := ho.box (Nat.ne_of_gt (Nat.lt_of_lt_of_le lt4 (Nat.le_of_eq hzO5))) bO1_4
        replace bO1_5 := ho.box (Nat.ne_of_gt (Nat.lt_of_lt_of_le lt4 (Nat.le_of_eq hzO5))) bO1_5
        replace bO1_6 := ho.box (Nat.ne_of_gt (Nat.lt_of_lt_of_le lt4 (Nat.le_of_eq hzO5))) bO1_6
        replace bO1_7 := ho.box (Nat.ne_of_gt (Nat.lt_of_lt_of_le lt4 (Nat.le_of_eq hzO5))) bO1_7
        replace bO1_8 := ho.box (Nat.ne_of_gt (Nat.lt_of_lt_of_le lt4 (Nat.le_of_eq hzO5))) bO1_8
        replace bO17_0 := ho.box (Nat.ne_of_lt (Nat.lt_of_lt_of_le lt8 (Nat.le_trans (Nat.le_trans hs10 hs11) (Nat.le_of_eq hzO17)))) bO17_0
        replace bO17_1 := ho.box (Nat.ne_of_lt (Nat.lt_of_lt_of_le lt8 (Nat.le_trans (Nat.le_trans hs10 hs11) (Nat.le_of_eq hzO17)))) bO17_1
        replace bO17_2 := ho.box (Nat.ne_of_lt (Nat.lt_of_lt_of_le lt8 (Nat.le_trans (Nat.le_trans hs10 hs11) (Nat.le_of_eq hzO17)))) bO17_2
        have hs29 : w26.heap.size ≤ X28.heap.size := Nat.le_of_eq ho.size.symm
        clear ho hk b9 b8
        have b9 := hv0; clear hv0
        have b8 := hv1; clear hv1
        refine pl_nil ?_
        refine qw_block ?_
        refine qw_then ?_
        refine cw_plain ?_
        refine pl_take (.int .i64 (((i + 1 : Nat) : Int) : Int)) rfl (by kernel_rfl) (by kernel_rfl) (by kernel_rfl) (ev_wrap (by kernel_rfl) (by omega) (by omega)) ?_
        refine pT (.int .i64 (((i + 1 : Nat) : Int) : Int)) ?_
        refine pl_nil ?_
        refine qw_round [1, 3, 9, 10, 11] (ws' := [(1, .pointer (some ⟨O1, 0, none⟩)), (3, .pointer (some ⟨O5, 0, none⟩)), (9, .slice (some ⟨bs, os, none⟩) n c), (10, .int .i64 (((n : Nat) : Int) : Int)), (11, .int .i64 (((i + 1 : Nat) : Int) : Int))]) (by kernel_rfl) _ ?_ ⟨(i + 1), (slN o.sl i).fr, rfl, rfl, (Nat.le_trans hs11 (Nat.le_trans hs19 (Nat.le_trans hs22 (Nat.le_trans hs27 hs29)))), e0, hE, bO1_0, bO1_1, bO1_2, bO1_3, bO1_4, bO1_5, bO1_6, bO1_7, bO1_8, b9, (by rw [Mem.last_next (by omega)]; exact b8), by omega, Mem.chain_next (by omega) hch (by omega) hb24⟩
        omega
      ·
        refine pl_step rfl (by kernel_rfl) (by kernel_rfl) (by kernel_rfl) (sn_call (f := 47) (args := #[.agg #[.int .i64 ((slN o.sl i).fr : Int), .int .i64 ((slN o.sl i).to : Int)]]) (by kernel_rfl) ((isSpell_r (r := false) ((slN o.sl i).fr) ((slN o.sl i).to) _ (hb24)).mono ?_))
        rintro e w30 ⟨rfl, hb⟩
        replace e0 := e0.trans hb
        replace hE := hE.trans hb
        replace bO1_0 := BoxAt.ext hb bO1_0
        replace bO1_1 := BoxAt.ext hb bO1_1
        replace bO1_2 := BoxAt.ext hb bO1_2
        replace bO1_3 := BoxAt.ext hb bO1_3
        replace bO1_4 := BoxAt.ext hb bO1_4
        replace bO1_5 := BoxAt.ext hb bO1_5
        replace bO1_6 := BoxAt.ext hb bO1_6
        replace bO1_7 := BoxAt.ext hb bO1_7
        replace bO1_8 := BoxAt.ext hb bO1_8
        replace b9 := BoxAt.ext hb b9
        replace b8 := BoxAt.ext hb b8
        replace bO17_0 := BoxAt.ext hb bO17_0
        replace bO17_1 := BoxAt.ext hb bO17_1
        replace bO17_2 := BoxAt.ext hb bO17_2
        have hs31 := hb.size
        clear hb
        refine ⟨_, rfl, ?_⟩
        refine pT (.bool true) ?_
        refine pT (.bool true) ?_
        refine pl_nil ?_
        refine qw_then ?_
        refine cw_clean [1, 3, 5, 9, 10, 11, 26] (ws' := [(1, .pointer (some ⟨O1, 0, none⟩)), (3, .pointer (some ⟨O5, 0, none⟩)), (5, .pointer (some ⟨O17, 0, none⟩)), (9, .slice (some ⟨bs, os, none⟩) n c), (10, .int .i64 (((n : Nat) : Int) : Int)), (11, .int .i64 (((i : Nat) : Int) : Int)), (26, .bool true)]) (by kernel_rfl) (fun L => ?_)
        refine cw_t (by kernel_rfl) ?_
        refine cw_seq ?_
        refine cw_plain ?_
        refine pT (.bool false) ?_
        refine pl_nil ?_
        refine qw_then ?_
        refine cw_ret ?_
        refine qw_then_ret ?_
        refine qw_block_ret ?_
        refine qw_then_ret ?_
        refine qw_then_ret ?_
        refine qw_block_ret ?_
        refine qw_then_ret ?_
        refine qw_ret [.bool false] rfl ⟨(by kernel_rfl), trivial⟩ ?_
        exact ⟨congrArg (fun b => Ending.returned (Value.bool b)) (show Mem.canB o = false from by unfold Mem.canB; rw [Mem.chain_bad (i := i) (by omega) (by rw [hb24]; simp)]; rfl).symm, hE⟩
  ·
    have hin : i = n := by omega
    refine cw_seq ?_
    refine cw_plain ?_
    refine pl_take (.bool false) rfl (by kernel_rfl) (by kernel_rfl) (by kernel_rfl) (ev_ndec (show _ = Result.ok (Next.value (Value.bool (decide ((((i : Nat) : Int) : Int) < (((n : Nat) : Int) : Int))))) _ from by kernel_rfl) (by omega)) ?_
    refine pl_nil ?_
    refine qw_then ?_
    refine cw_seq ?_
    refine cw_f (by kernel_rfl) ?_
    refine cw_exit ?_
    refine qw_then_exit ?_
    refine qw_then_exit ?_
    refine qw_block_out ?_
    refine qw_then ?_
    refine cw_seq ?_
    refine cw_plain ?_
    refine pT (.pointer (some ⟨O1, 0, none⟩)) ?_
    refine pl_take (.int .i64 (o.id : Int)) rfl (by kernel_rfl) (by kernel_rfl) (by kernel_rfl) (ex_load rfl (by kernel_rfl) (ld3 (bO1_0.1))) ?_
    rcases Bool.eq_false_or_eq_true (Globe.inB o.id 0 63) with hb32 | hb32
    ·
      have hq33 := Globe.inB_t.1 hb32
      refine pl_step rfl (by kernel_rfl) (by kernel_rfl) (by kernel_rfl) (sn_call (f := 46) (args := #[.int .i64 (o.id : Int), .int .i64 0, .int .i64 63]) (by kernel_rfl) ((memory_isIn_r (r := true) o.id 0 63 _ (hb32)).mono ?_))
      rintro e w34 ⟨rfl, hb⟩
      replace e0 := e0.trans hb
      replace hE := hE.trans hb
      replace bO1_0 := BoxAt.ext hb bO1_0
      replace bO1_1 := BoxAt.ext hb bO1_1
      replace bO1_2 := BoxAt.ext hb bO1_2
      replace bO1_3 := BoxAt.ext hb bO1_3
      replace bO1_4 := BoxAt.ext hb bO1_4
      replace bO1_5 := BoxAt.ext hb bO1_5
      replace bO1_6 := BoxAt.ext hb bO1_6
      replace bO1_7 := BoxAt.ext hb bO1_7
      replace bO1_8 := BoxAt.ext hb bO1_8
      replace b9 := BoxAt.ext hb b9
      replace b8 := BoxAt.ext hb b8
      have hs35 := hb.size
      clear hb
      refine ⟨_, rfl, ?_⟩
      refine pT (.bool true) ?_
      refine pT (.pointer (some ⟨O1, 7, none⟩)) ?_
      refine pl_take (.int .i64 (o.sz : Int)) rfl (by kernel_rfl) (by kernel_rfl) (by kernel_rfl) (ex_load rfl (by kernel_rfl) (ld3 (bO1_7.1))) ?_
      rcases Bool.eq_false_or_eq_true (Globe.inB o.sz 1 1000000) with hb36 | hb36
      ·
        have hq37 := Globe.inB_t.1 hb36
        refine pl_step rfl (by kernel_rfl) (by kernel_rfl) (by kernel_rfl) (sn_call (f := 46) (args := #[.int .i64 (o.sz : Int), .int .i64 1, .int .i64 1000000]) (by kernel_rfl) ((memory_isIn_r (r := true) o.sz 1 1000000 _ (hb36)).mono ?_))
        rintro e w38 ⟨rfl, hb⟩
        replace e0 := e0.trans hb
        replace hE := hE.trans hb
        replace bO1_0 := BoxAt.ext hb bO1_0
        replace bO1_1 := BoxAt.ext hb bO1_1
        replace bO1_2 := BoxAt.ext hb bO1_2
        replace bO1_3 := BoxAt.ext hb bO1_3
        replace bO1_4 := BoxAt.ext hb bO1_4
        replace bO1_5 := BoxAt.ext hb bO1_5
        replace bO1_6 := BoxAt.ext hb bO1_6
        replace bO1_7 := BoxAt.ext hb bO1_7
        replace bO1_8 := BoxAt.ext hb bO1_8
        replace b9 := BoxAt.ext hb b9
        replace b8 := BoxAt.ext hb b8
        have hs39 := hb.size
        clear hb
        refine ⟨_, rfl, ?_⟩
        refine pT (.bool true) ?_
        refine pT (.bool true) ?_
        refine pT (.pointer (some ⟨O1, 4, none⟩)) ?_
        refine pl_take (.agg #[.int .i64 (o.fr : Int), .int .i64 (o.to : Int)]) rfl (by kernel_rfl) (by kernel_rfl) (by kernel_rfl) (ex_load rfl (by kernel_rfl) (ld24 (bO1_4.1) (bO1_5.1))) ?_
        rcases Bool.eq_false_or_eq_true (Mem.spB (o.fr, o.to)) with hb40 | hb40
        ·
          have hq41 := Mem.spB_t.1 hb40; simp only [] at hq41
          refine pl_step rfl (by kernel_rfl) (by kernel_rfl) (by kernel_rfl) (sn_call (f := 47) (args := #[.agg #[.int .i64 (o.fr : Int), .int .i64 (o.to : Int)]]) (by kernel_rfl) ((isSpell_r (r := true) o.fr o.to _ (hb40)).mono ?_))
          rintro e w42 ⟨rfl, hb⟩
          replace e0 := e0.trans hb
          replace hE := hE.trans hb
          replace bO1_0 := BoxAt.ext hb bO1_0
          replace bO1_1 := BoxAt.ext hb bO1_1
          replace bO1_2 := BoxAt.ext hb bO1_2
          replace bO1_3 := BoxAt.ext hb bO1_3
          replace bO1_4 := BoxAt.ext hb bO1_4
          replace bO1_5 := BoxAt.ext hb bO1_5
          replace bO1_6 := BoxAt.ext hb bO1_6
          replace bO1_7 := BoxAt.ext hb bO1_7
          replace bO1_8 := BoxAt.ext hb bO1_8
          replace b9 := BoxAt.ext hb b9
          replace b8 := BoxAt.ext hb b8
          have hs43 := hb.size
          clear hb
          refine ⟨_, rfl, ?_⟩
          refine pT (.bool true) ?_
          refine pT (.bool true) ?_
          refine pT (.pointer (some ⟨O1, 8, none⟩)) ?_
          refine pl_take (.slice a n c) rfl (by kernel_rfl) (by kernel_rfl) (by kernel_rfl) (ex_load rfl (by kernel_rfl) (ld29 (bO1_8.1))) ?_
          refine pT (.int .i64 (((n : Nat) : Int) : Int)) ?_
          rcases Bool.eq_false_or_eq_true (Globe.inB (((n : Nat) : Int)) 1 6) with hb44 | hb44
          ·
            have hq45 := Globe.inB_t.1 hb44
            refine pl_step rfl (by kernel_rfl) (by kernel_rfl) (by kernel_rfl) (sn_call (f := 46) (args := #[.int .i64 (((n : Nat) : Int) : Int), .int .i64 1, .int .i64 6]) (by kernel_rfl) ((memory_isIn_r (r := true) (((n : Nat) : Int)) 1 6 _ (hb44)).mono ?_))
            rintro e w46 ⟨rfl, hb⟩
            replace e0 := e0.trans hb
            replace hE := hE.trans hb
            replace bO1_0 := BoxAt.ext hb bO1_0
            replace bO1_1 := BoxAt.ext hb bO1_1
            replace bO1_2 := BoxAt.ext hb bO1_2
            replace bO1_3 := BoxAt.ext hb bO1_3
            replace bO1_4 := BoxAt.ext hb bO1_4
            replace bO1_5 := BoxAt.ext hb bO1_5
            replace bO1_6 := BoxAt.ext hb bO1_6
            replace bO1_7 := BoxAt.ext hb bO1_7
            replace bO1_8 := BoxAt.ext hb bO1_8
            replace b9 := BoxAt.ext hb b9
            replace b8 := BoxAt.ext hb b8
            have hs47 := hb.size
            clear hb
            refine ⟨_, rfl, ?_⟩
            refine pT (.bool true) ?_
            refine pT (.bool true) ?_
            refine pl_nil ?_
            refine qw_then ?_
            refine cw_clean [2] (ws' := [(2, .bool true)]) (by kernel_rfl) (fun L => ?_)
            refine cw_ret ?_
            refine qw_ret [.bool true] rfl ⟨(by kernel_rfl), trivial⟩ ?_
            have hch9 : Mem.chainB o.to o.sl = true := by rw [hin, List.take_of_length_le (Nat.le_of_eq hln)] at hch; exact hch
            exact ⟨congrArg (fun b => Ending.returned (Value.bool b)) (show Mem.canB o = true from by unfold Mem.canB; rw [hch9, hln, hb32, hb36, hb40, hb44]; simp).symm, hE⟩
          ·
            refine pl_step rfl (by kernel_rfl) (by kernel_rfl) (by kernel_rfl) (sn_call (f := 46) (args := #[.int .i64 (((n : Nat) : Int) : Int), .int .i64 1, .int .i64 6]) (by kernel_rfl) ((memory_isIn_r (r := false) (((n : Nat) : Int)) 1 6 _ (hb44)).mono ?_))
            rintro e w48 ⟨rfl, hb⟩
            replace e0 := e0.trans hb
            replace hE := hE.trans hb
            replace bO1_0 := BoxAt.ext hb bO1_0
            replace bO1_1 := BoxAt.ext hb bO1_1
            replace bO1_2 := BoxAt.ext hb bO1_2
            replace bO1_3 := BoxAt.ext hb bO1_3
            replace bO1_4 := BoxAt.ext hb bO1_4
            replace bO1_5 := BoxAt.ext hb bO1_5
            replace bO1_6 := BoxAt.ext hb bO1_6
            replace bO1_7 := BoxAt.ext hb bO1_7
            replace bO1_8 := BoxAt.ext hb bO1_8
            replace b9 := BoxAt.ext hb b9
            replace b8 := BoxAt.ext hb b8
            have hs49 := hb.size
            clear hb
            refine ⟨_, rfl, ?_⟩
            refine pT (.bool false) ?_
            refine pT (.bool false) ?_
            refine pl_nil ?_
            refine qw_then ?_
            refine cw_clean [2] (ws' := [(2, .bool false)]) (by kernel_rfl) (fun L => ?_)
            refine cw_ret ?_
            refine qw_ret [.bool false] rfl ⟨(by kernel_rfl), trivial⟩ ?_
            have hch9 : Mem.chainB o.to o.sl = true := by rw [hin, List.take_of_length_le (Nat.le_of_eq hln)] at hch; exact hch
            exact ⟨congrArg (fun b => Ending.returned (Value.bool b)) (show Mem.canB o = false from by unfold Mem.canB; rw [hch9, hln, hb32, hb36, hb40, hb44]; simp).symm, hE⟩
        ·
          refine pl_step rfl (by kernel_rfl) (by kernel_rfl) (by kernel_rfl) (sn_call (f := 47) (args := #[.agg #[.int .i64 (o.fr : Int), .int .i64 (o.to : Int)]]) (by kernel_rfl) ((isSpell_r (r := false) o.fr o.to _ (hb40)).mono ?_))
          rintro e w50 ⟨rfl, hb⟩
          replace e0 := e0.trans hb
          replace hE := hE.trans hb
          replace bO1_0 := BoxAt.ext hb bO1_0
          replace bO1_1 := BoxAt.ext hb bO1_1
          replace bO1_2 := BoxAt.ext hb bO1_2
          replace bO1_3 := BoxAt.ext hb bO1_3
          replace bO1_4 := BoxAt.ext hb bO1_4
          replace bO1_5 := BoxAt.ext hb bO1_5
          replace bO1_6 := BoxAt.ext hb bO1_6
          replace bO1_7 := BoxAt.ext hb bO1_7
          replace bO1_8 := BoxAt.ext hb bO1_8
          replace b9 := BoxAt.ext hb b9
          replace b8 := BoxAt.ext hb b8
          have hs51 := hb.size
          clear hb
          refine ⟨_, rfl, ?_⟩
          refine pT (.bool false) ?_
          refine pT (.bool false) ?_
          refine pl_skip rfl (by kernel_rfl) (by kernel_rfl) (by kernel_rfl) ?_
          refine pl_skip rfl (by kernel_rfl) (by kernel_rfl) (by kernel_rfl) ?_
          refine pl_skip rfl (by kernel_rfl) (by kernel_rfl) (by kernel_rfl) ?_
          refine pl_skip rfl (by kernel_rfl) (by kernel_rfl) (by kernel_rfl) ?_
          refine pT (.bool false) ?_
          refine pT (.bool false) ?_
          refine pl_nil ?_
          refine qw_then ?_
          refine cw_clean [2] (ws' := [(2, .bool false)]) (by kernel_rfl) (fun L => ?_)
          refine cw_ret ?_
          refine qw_ret [.bool false] rfl ⟨(by kernel_rfl), trivial⟩ ?_
          have hch9 : Mem.chainB o.to o.sl = true := by rw [hin, List.take_of_length_le (Nat.le_of_eq hln)] at hch; exact hch
          exact ⟨congrArg (fun b => Ending.returned (Value.bool b)) (show Mem.canB o = false from by unfold Mem.canB; rw [hch9, hln, hb32, hb36, hb40]; simp).symm, hE⟩
      ·
        refine pl_step rfl (by kernel_rfl) (by kernel_rfl) (by kernel_rfl) (sn_call (f := 46) (args := #[.int .i64 (o.sz : Int), .int .i64 1, .int .i64 1000000]) (by kernel_rfl) ((memory_isIn_r (r := false) o.sz 1 1000000 _ (hb36)).mono ?_))
        rintro e w52 ⟨rfl, hb⟩
        replace e0 := e0.trans hb
        replace hE := hE.trans hb
        replace bO1_0 := BoxAt.ext hb bO1_0
        replace bO1_1 := BoxAt.ext hb bO1_1
        replace bO1_2 := BoxAt.ext hb bO1_2
        replace bO1_3 := BoxAt.ext hb bO1_3
        replace bO1_4 := BoxAt.ext hb bO1_4
        replace bO1_5 := BoxAt.ext hb bO1_5
        replace bO1_6 := BoxAt.ext hb bO1_6
        replace bO1_7 := BoxAt.ext hb bO1_7
        replace bO1_8 := BoxAt.ext hb bO1_8
        replace b9 := BoxAt.ext hb b9
        replace b8 := BoxAt.ext hb b8
        have hs53 := hb.size
        clear hb
        refine ⟨_, rfl, ?_⟩
        refine pT (.bool false) ?_
        refine pT (.bool false) ?_
        refine pl_skip rfl (by kernel_rfl) (by kernel_rfl) (by kernel_rfl) ?_
        refine pl_skip rfl (by kernel_rfl) (by kernel_rfl) (by kernel_rfl) ?_
        refine pl_skip rfl (by kernel_rfl) (by kernel_rfl) (by kernel_rfl) ?_
        refine pT (.bool false) ?_
        refine pT (.bool false) ?_
        refine pl_skip rfl (by kernel_rfl) (by kernel_rfl) (by kernel_rfl) ?_
        refine pl_skip rfl (by kernel_rfl) (by kernel_rfl) (by kernel_rfl) ?_
        refine pl_skip rfl (by kernel_rfl) (by kernel_rfl) (by kernel_rfl) ?_
        refine pl_skip rfl (by kernel_rfl) (by kernel_rfl) (by kernel_rfl) ?_
        refine pT (.bool false) ?_
        refine pT (.bool false) ?_
        refine pl_nil ?_
        refine qw_then ?_
        refine cw_clean [2] (ws' := [(2, .bool false)]) (by kernel_rfl) (fun L => ?_)
        refine cw_ret ?_
        refine qw_ret [.bool false] rfl ⟨(by kernel_rfl), trivial⟩ ?_
        have hch9 : Mem.chainB o.to o.sl = true := by rw [hin, List.take_of_length_le (Nat.le_of_eq hln)] at hch; exact hch
        exact ⟨congrArg (fun b => Ending.returned (Value.bool b)) (show Mem.canB o = false from by unfold Mem.canB; rw [hch9, hln, hb32, hb36]; simp).symm, hE⟩
    ·
      refine pl_step rfl (by kernel_rfl) (by kernel_rfl) (by kernel_rfl) (sn_call (f := 46) (args := #[.int .i64 (o.id : Int), .int .i64 0, .int .i64 63]) (by kernel_rfl) ((memory_isIn_r (r := false) o.id 0 63 _ (hb32)).mono ?_))
      rintro e w54 ⟨rfl, hb⟩
      replace e0 := e0.trans hb
      replace hE := hE.trans hb
      replace bO1_0 := BoxAt.ext hb bO1_0
      replace bO1_1 := BoxAt.ext hb bO1_1
      replace bO1_2 := BoxAt.ext hb bO1_2
      replace bO1_3 := BoxAt.ext hb bO1_3
      replace bO1_4 := BoxAt.ext hb bO1_4
      replace bO1_5 := BoxAt.ext hb bO1_5
      replace bO1_6 := BoxAt.ext hb bO1_6
      replace bO1_7 := BoxAt.ext hb bO1_7
      replace bO1_8 := BoxAt.ext hb bO1_8
      replace b9 := BoxAt.ext hb b9
      replace b8 := BoxAt.ext hb b8
      have hs55 := hb.size
      clear hb
      refine ⟨_, rfl, ?_⟩
      refine pT (.bool false) ?_
      refine pl_skip rfl (by kernel_rfl) (by kernel_rfl) (by kernel_rfl) ?_
      refine pl_skip rfl (by kernel_rfl) (by kernel_rfl) (by kernel_rfl) ?_
      refine pl_skip rfl (by kernel_rfl) (by kernel_rfl) (by kernel_rfl) ?_
      refine pT (.bool false) ?_
      refine pT (.bool false) ?_
      refine pl_skip rfl (by kernel_rfl) (by kernel_rfl) (by kernel_rfl) ?_
      refine pl_skip rfl (by kernel_rfl) (by kernel_rfl) (by kernel_rfl) ?_
      refine pl_skip rfl (by kernel_rfl) (by kernel_rfl) (by kernel_rfl) ?_
      refine pT (.bool false) ?_
      refine pT (.bool false) ?_
      refine pl_skip rfl (by kernel_rfl) (by kernel_rfl) (by kernel_rfl) ?_
      refine pl_skip rfl (by kernel_rfl) (by kernel_rfl) (by kernel_rfl) ?_
      refine pl_skip rfl (by kernel_rfl) (by kernel_rfl) (by kernel_rfl) ?_
      refine pl_skip rfl (by kernel_rfl) (by kernel_rfl) (by kernel_rfl) ?_
      refine pT (.bool false) ?_
      refine pT (.bool false) ?_
      refine pl_nil ?_
      refine qw_then ?_
      refine cw_clean [2] (ws' := [(2, .bool false)]) (by kernel_rfl) (fun L => ?_)
      refine cw_ret ?_
      refine qw_ret [.bool false] rfl ⟨(by kernel_rfl), trivial⟩ ?_
      have hch9 : Mem.chainB o.to o.sl = true := by rw [hin, List.take_of_length_le (Nat.le_of_eq hln)] at hch; exact hch
      exact ⟨congrArg (fun b => Ending.returned (Value.bool b)) (show Mem.canB o = false from by unfold Mem.canB; rw [hch9, hln, hb32]; simp).symm, hE⟩
theorem can_r {w0 : World} {a : Option Addr} {n : Nat} {o : Mem.Opt} {r : Bool} (c : Nat) (w : World) (h : SlsAt w0 a n o.sl) (e0 : Ext w0 w) (hr : Mem.canB o = r) : Calls Try.prog 49 #[.agg #[.int .i64 o.id, .int .i64 o.od, .int .i64 o.cl, .int .i64 o.sa, .int .i64 o.fr, .int .i64 o.to, .int .i64 o.lk, .int .i64 o.sz, .slice a n c]] w fun e w' => e = .returned (.bool r) ∧ Ext w w' := hr ▸ can_c c w h e0
theorem ixz29 {w : World} {b o n c : Nat} {z : Int} (h0 : 0 ≤ z) (h1 : z.toNat < n) : (Instr.indexAt 29 (.slice (some ⟨b, o, none⟩) n c) (.int .i64 z)).run Try.prog w = .ok (.pointer (some ⟨b, o + z.toNat * 3, none⟩)) w := by
  have h2 : z < (n : Int) := by omega
  go_simp
set_option maxRecDepth 1000000 in
set_option maxHeartbeats 4000000 in
theorem Freed_c {w0 : World} {a : Option Addr} {n : Nat} {o : Mem.Opt} (k : Int) (c : Nat) (w : World) (h : SlsAt w0 a n o.sl) (e0 : Ext w0 w) : Calls Try.prog 30 #[.agg #[.int .i64 o.id, .int .i64 o.od, .int .i64 o.cl, .int .i64 o.sa, .int .i64 o.fr, .int .i64 o.to, .int .i64 o.lk, .int .i64 o.sz, .slice a n c], .int .i64 k] w fun e w' => e = .returned (.tuple #[.agg #[.int .i64 (Mem.freeV o k).im, .int .i64 (Mem.freeV o k).un, .int .i64 (Mem.freeV o k).fr, .int .i64 (Mem.freeV o k).to], .int .i64 (Mem.freeE o k)]) ∧ Ext w w' := by
  have hln := h.1; have hmx := h.2.1; have hq := h
  have hs0 := e0.size
  refine calls_cw 35 [(1, .int .i64 (k : Int)), (0, .agg #[.int .i64 (o.id : Int), .int .i64 (o.od : Int), .int .i64 (o.cl : Int), .int .i64 (o.sa : Int), .int .i64 (o.fr : Int), .int .i64 (o.to : Int), .int .i64 (o.lk : Int), .int .i64 (o.sz : Int), .slice a n c])] Try.func30 rfl Try.ntmps30 (by kernel_rfl) (by kernel_rfl) (fun L => ?_)
  have hE : Ext w w := Ext.refl w
  refine cw_seq ?_
  refine cw_plain ?_
  refine pl_step rfl (by kernel_rfl) (by kernel_rfl) (by kernel_rfl) (sn_new (us := #[.int .i64 (o.id : Int), .int .i64 (o.od : Int), .int .i64 (o.cl : Int), .int .i64 (o.sa : Int), .int .i64 (o.fr : Int), .int .i64 (o.to : Int), .int .i64 (o.lk : Int), .int .i64 (o.sz : Int), .slice a n c]) (t := 31) (by kernel_rfl) ?_)
  intro O1 X2 hO hOs hb hbx
  have hzO1 := hO; have hyO1 := hOs; clear hO hOs
  have bO1_0 : BoxAt X2 O1 0 (.int .i64 (o.id : Int)) := hbx 0 _ rfl
  have bO1_1 : BoxAt X2 O1 1 (.int .i64 (o.od : Int)) := hbx 1 _ rfl
  have bO1_2 : BoxAt X2 O1 2 (.int .i64 (o.cl : Int)) := hbx 2 _ rfl
  have bO1_3 : BoxAt X2 O1 3 (.int .i64 (o.sa : Int)) := hbx 3 _ rfl
  have bO1_4 : BoxAt X2 O1 4 (.int .i64 (o.fr : Int)) := hbx 4 _ rfl
  have bO1_5 : BoxAt X2 O1 5 (.int .i64 (o.to : Int)) := hbx 5 _ rfl
  have bO1_6 : BoxAt X2 O1 6 (.int .i64 (o.lk : Int)) := hbx 6 _ rfl
  have bO1_7 : BoxAt X2 O1 7 (.int .i64 (o.sz : Int)) := hbx 7 _ rfl
  have bO1_8 : BoxAt X2 O1 8 (.slice a n c) := hbx 8 _ rfl
  clear hbx
  replace e0 := e0.trans hb
  replace hE := hE.trans hb
  have hs3 := hb.size
  clear hb
  have lt4 := bO1_0.lt
  refine pl_step rfl (by kernel_rfl) (by kernel_rfl) (by kernel_rfl) (sn_new (us := #[.int .i64 0, .int .i64 0, .int .i64 0, .int .i64 0]) (t := 26) (by kernel_rfl) ?_)
  intro O5 X6 hO hOs hb hbx
  have hzO5 := hO; have hyO5 := hOs; clear hO hOs
  have bO5_0 : BoxAt X6 O5 0 (.int .i64 0) := hbx 0 _ rfl
  have bO5_1 : BoxAt X6 O5 1 (.int .i64 0) := hbx 1 _ rfl
  have bO5_2 : BoxAt X6 O5 2 (.int .i64 0) := hbx 2 _ rfl
  have bO5_3 : BoxAt X6 O5 3 (.int .i64 0) := hbx 3 _ rfl
  clear hbx
  replace e0 := e0.trans hb
  replace hE := hE.trans hb
  replace bO1_0 := BoxAt.ext hb bO1_0
  replace bO1_1 := BoxAt.ext hb bO1_1
  replace bO1_2 := BoxAt.ext hb bO1_2
  replace bO1_3 := BoxAt.ext hb bO1_3
  replace bO1_4 := BoxAt.ext hb bO1_4
  replace bO1_5 := BoxAt.ext hb bO1_5
  replace bO1_6 := BoxAt.ext hb bO1_6
  replace bO1_7 := BoxAt.ext hb bO1_7
  replace bO1_8 := BoxAt.ext hb bO1_8
  have hs7 := hb.size
  clear hb
  have lt8 := bO5_0.lt
  refine pT (.int .i64 0) ?_
  refine pl_nil ?_
  refine qw_then ?_
  refine cw_seq ?_
  refine cw_seq ?_
  refine cw_plain ?_
  refine pl_take (.agg #[.int .i64 (o.id : Int), .int .i64 (o.od : Int), .int .i64 (o.cl : Int), .int .i64 (o.sa : Int), .int .i64 (o.fr : Int), .int .i64 (o.to : Int), .int .i64 (o.lk : Int), .int .i64 (o.sz : Int), .slice a n c]) rfl (by kernel_rfl) (by kernel_rfl) (by kernel_rfl) (ex_load rfl (by kernel_rfl) (ld31 (bO1_0.1) (bO1_1.1) (bO1_2.1) (bO1_3.1) (bO1_4.1) (bO1_5.1) (bO1_6.1) (bO1_7.1) (bO1_8.1))) ?_
  rcases Bool.eq_false_or_eq_true (Mem.canB o) with hb9 | hb9
  ·
    refine pl_step rfl (by kernel_rfl) (by kernel_rfl) (by kernel_rfl) (sn_call (f := 49) (args := #[.agg #[.int .i64 (o.id : Int), .int .i64 (o.od : Int), .int .i64 (o.cl : Int), .int .i64 (o.sa : Int), .int .i64 (o.fr : Int), .int .i64 (o.to : Int), .int .i64 (o.lk : Int), .int .i64 (o.sz : Int), .slice a n c]]) (by kernel_rfl) ((can_r (o := o) (r := true) _ _ hq e0 hb9).mono ?_))
    rintro e w10 ⟨rfl, hb⟩
    replace e0 := e0.trans hb
    replace hE := hE.trans hb
    replace bO1_0 := BoxAt.ext hb bO1_0
    replace bO1_1 := BoxAt.ext hb bO1_1
    replace bO1_2 := BoxAt.ext hb bO1_2
    replace bO1_3 := BoxAt.ext hb bO1_3
    replace bO1_4 := BoxAt.ext hb bO1_4
    replace bO1_5 := BoxAt.ext hb bO1_5
    replace bO1_6 := BoxAt.ext hb bO1_6
    replace bO1_7 := BoxAt.ext hb bO1_7
    replace bO1_8 := BoxAt.ext hb bO1_8
    replace bO5_0 := BoxAt.ext hb bO5_0
    replace bO5_1 := BoxAt.ext hb bO5_1
    replace bO5_2 := BoxAt.ext hb bO5_2
    replace bO5_3 := BoxAt.ext hb bO5_3
    have hs11 := hb.size
    clear hb
    refine ⟨_, rfl, ?_⟩
    refine pT (.bool false) ?_
    refine pT (.bool false) ?_
    refine pT (.int .i64 (k : Int)) ?_
    refine pT (.pointer (some ⟨O1, 8, none⟩)) ?_
    refine pl_take (.slice a n c) rfl (by kernel_rfl) (by kernel_rfl) (by kernel_rfl) (ex_load rfl (by kernel_rfl) (ld29 (bO1_8.1))) ?_
    refine pT (.int .i64 (((n : Nat) : Int) : Int)) ?_
    refine pl_take (.int .i64 ((((n : Nat) : Int)) - 1 : Int)) rfl (by kernel_rfl) (by kernel_rfl) (by kernel_rfl) (ev_wrap (by kernel_rfl) (by omega) (by omega)) ?_
    rcases Bool.eq_false_or_eq_true (Globe.inB k 0 ((((n : Nat) : Int)) - 1)) with hb12 | hb12
    ·
      have hq13 := Globe.inB_t.1 hb12
      refine pl_step rfl (by kernel_rfl) (by kernel_rfl) (by kernel_rfl) (sn_call (f := 46) (args := #[.int .i64 (k : Int), .int .i64 0, .int .i64 ((((n : Nat) : Int)) - 1 : Int)]) (by kernel_rfl) ((memory_isIn_r (r := true) k 0 ((((n : Nat) : Int)) - 1) _ (hb12)).mono ?_))
      rintro e w14 ⟨rfl, hb⟩
      replace e0 := e0.trans hb
      replace hE := hE.trans hb
      replace bO1_0 := BoxAt.ext hb bO1_0
      replace bO1_1 := BoxAt.ext hb bO1_1
      replace bO1_2 := BoxAt.ext hb bO1_2
      replace bO1_3 := BoxAt.ext hb bO1_3
      replace bO1_4 := BoxAt.ext hb bO1_4
      replace bO1_5 := BoxAt.ext hb bO1_5
      replace bO1_6 := BoxAt.ext hb bO1_6
      replace bO1_7 := BoxAt.ext hb bO1_7
      replace bO1_8 := BoxAt.ext hb bO1_8
      replace bO5_0 := BoxAt.ext hb bO5_0
      replace bO5_1 := BoxAt.ext hb bO5_1
      replace bO5_2 := BoxAt.ext hb bO5_2
      replace bO5_3 := BoxAt.ext hb bO5_3
      have hs15 := hb.size
      clear hb
      refine ⟨_, rfl, ?_⟩
      refine pT (.bool false) ?_
      refine pT (.bool false) ?_
      refine pl_nil ?_
      refine qw_then ?_
      refine cw_clean [1, 2, 4, 17] (ws' := [(1, .int .i64 (k : Int)), (2, .pointer (some ⟨O1, 0, none⟩)), (4, .pointer (some ⟨O5, 0, none⟩)), (17, .bool false)]) (by kernel_rfl) (fun L => ?_)
      refine cw_f (by kernel_rfl) ?_
      refine cw_skip ?_
      refine qw_then ?_
      refine cw_seq ?_
      have hkb : 0 ≤ k ∧ k.toNat < n := ⟨by omega, by omega⟩
      have hkk : ((k.toNat : Nat) : Int) = k := Int.toNat_of_nonneg hkb.1
      obtain ⟨bs, os, ha, hbl, hx⟩ := h.parts
      obtain rfl := ha (by omega)
      obtain ⟨q16, q17, q18⟩ := hx k.toNat hkb.2
      refine cw_draw [(some 19, [2], []), (some 20, [19], [0]), (some 21, [2], []), (some 22, [21], [2]), (some 23, [2], []), (some 24, [23], [4]), (some 25, [24], [5]), (some 26, [2], []), (some 27, [26], [7]), (some 28, [1], []), (some 29, [27, 28], [8, 9]), (some 30, [29], [10]), (some 31, [30], [11]), (some 32, [31], [12]), (some 33, [25, 32], [6, 13]), (some 34, [20, 22, 33], [1, 3, 14]), (none, [4, 34], [15, 0, 1, 2, 3, 4, 5, 6, 7, 8, 9, 10, 11, 12, 13, 14, 15]), (some 5, [], [16, 0, 1, 2, 3, 4, 5, 6, 7, 8, 9, 10, 11, 12, 13, 14, 15, 16])] (fun w' => w'.cell? ⟨O1, 0, none⟩ = some (.int .i64 (o.id : Int)) ∧ w'.cell? ⟨O1, 7, none⟩ = some (.int .i64 (o.sz : Int)) ∧ w'.cell? ⟨O1, 4, none⟩ = some (.int .i64 (o.fr : Int)) ∧ w'.cell? ⟨O1, 8, none⟩ = some (.slice (some ⟨bs, os, none⟩) n c) ∧ w'.cell? ⟨bs, os + k.toNat * 3 + 1 + 1, none⟩ = some (.int .i64 ((slN o.sl k.toNat).to : Int))) (by kernel_rfl) (by kernel_rfl) (by kernel_rfl) (by kernel_rfl) ((calm_then calm_body)) (⟨bO1_0.1, bO1_7.1, bO1_4.1, bO1_8.1, (e0.cell q18)⟩) (fun ops Q X19 hb hL hR hK => ?_)
      replace e0 := e0.trans hb
      replace hE := hE.trans hb
      replace bO1_0 := BoxAt.ext hb bO1_0
      replace bO1_1 := BoxAt.ext hb bO1_1
      replace bO1_2 := BoxAt.ext hb bO1_2
      replace bO1_3 := BoxAt.ext hb bO1_3
      replace bO1_4 := BoxAt.ext hb bO1_4
      replace bO1_5 := BoxAt.ext hb bO1_5
      replace bO1_6 := BoxAt.ext hb bO1_6
      replace bO1_7 := BoxAt.ext hb bO1_7
      replace bO1_8 := BoxAt.ext hb bO1_8
      replace bO5_0 := BoxAt.ext hb bO5_0
      replace bO5_1 := BoxAt.ext hb bO5_1
      replace bO5_2 := BoxAt.ext hb bO5_2
      replace bO5_3 := BoxAt.ext hb bO5_3
      have hs20 := hb.size
      clear hb
      refine wd_take 0 (.pointer (some ⟨O1, 0, none⟩)) hR rfl (by kernel_rfl) rfl (by kernel_rfl) (fun w _ => by kernel_rfl) (⟨bO1_0.1, bO1_7.1, bO1_4.1, bO1_8.1, (e0.cell q18)⟩) ?_
      refine wd_take 1 (.int .i64 (o.id : Int)) hR rfl (by kernel_rfl) rfl (by kernel_rfl) (fun w hS => ex_load rfl (by kernel_rfl) (ld3 (hS.1))) (⟨bO1_0.1, bO1_7.1, bO1_4.1, bO1_8.1, (e0.cell q18)⟩) ?_
      refine wd_take 2 (.pointer (some ⟨O1, 7, none⟩)) hR rfl (by kernel_rfl) rfl (by kernel_rfl) (fun w _ => by kernel_rfl) (⟨bO1_0.1, bO1_7.1, bO1_4.1, bO1_8.1, (e0.cell q18)⟩) ?_
      refine wd_take 3 (.int .i64 (o.sz : Int)) hR rfl (by kernel_rfl) rfl (by kernel_rfl) (fun w hS => ex_load rfl (by kernel_rfl) (ld3 (hS.2.1))) (⟨bO1_0.1, bO1_7.1, bO1_4.1, bO1_8.1, (e0.cell q18)⟩) ?_
      refine wd_take 4 (.pointer (some ⟨O1, 4, none⟩)) hR rfl (by kernel_rfl) rfl (by kernel_rfl) (fun w _ => by kernel_rfl) (⟨bO1_0.1, bO1_7.1, bO1_4.1, bO1_8.1, (e0.cell q18)⟩) ?_
      refine wd_take 5 (.pointer (some ⟨O1, 4, none⟩)) hR rfl (by kernel_rfl) rfl (by kernel_rfl) (fun w _ => by kernel_rfl) (⟨bO1_0.1, bO1_7.1, bO1_4.1, bO1_8.1, (e0.cell q18)⟩) ?_
      refine wd_take 6 (.int .i64 (o.fr : Int)) hR rfl (by kernel_rfl) rfl (by kernel_rfl) (fun w hS => ex_load rfl (by kernel_rfl) (ld3 (hS.2.2.1))) (⟨bO1_0.1, bO1_7.1, bO1_4.1, bO1_8.1, (e0.cell q18)⟩) ?_
      refine wd_take 7 (.pointer (some ⟨O1, 8, none⟩)) hR rfl (by kernel_rfl) rfl (by kernel_rfl) (fun w _ => by kernel_rfl) (⟨bO1_0.1, bO1_7.1, bO1_4.1, bO1_8.1, (e0.cell q18)⟩) ?_
      refine wd_take 8 (.slice (some ⟨bs, os, none⟩) n c) hR rfl (by kernel_rfl) rfl (by kernel_rfl) (fun w hS => ex_load rfl (by kernel_rfl) (ld29 (hS.2.2.2.1))) (⟨bO1_0.1, bO1_7.1, bO1_4.1, bO1_8.1, (e0.cell q18)⟩) ?_
      refine wd_take 9 (.int .i64 (k : Int)) hR rfl (by kernel_rfl) rfl (by kernel_rfl) (fun w _ => by kernel_rfl) (⟨bO1_0.1, bO1_7.1, bO1_4.1, bO1_8.1, (e0.cell q18)⟩) ?_
      refine wd_take 10 (.pointer (some ⟨bs, os + k.toNat * 3, none⟩)) hR rfl (by kernel_rfl) rfl (by kernel_rfl) (fun w _ => ex_index (p := .slice (some ⟨bs, os, none⟩) n c) (i := .int .i64 k) rfl (by kernel_rfl) (by kernel_rfl) (ixz29 hkb.1 hkb.2)) (⟨bO1_0.1, bO1_7.1, bO1_4.1, bO1_8.1, (e0.cell q18)⟩) ?_
      refine wd_take 11 (.pointer (some ⟨bs, os + k.toNat * 3 + 1, none⟩)) hR rfl (by kernel_rfl) rfl (by kernel_rfl) (fun w _ => by kernel_rfl) (⟨bO1_0.1, bO1_7.1, bO1_4.1, bO1_8.1, (e0.cell q18)⟩) ?_
      refine wd_take 12 (.pointer (some ⟨bs, os + k.toNat * 3 + 1 + 1, none⟩)) hR rfl (by kernel_rfl) rfl (by kernel_rfl) (fun w _ => by kernel_rfl) (⟨bO1_0.1, bO1_7.1, bO1_4.1, bO1_8.1, (e0.cell q18)⟩) ?_
      refine wd_take 13 (.int .i64 ((slN o.sl k.toNat).to : Int)) hR rfl (by kernel_rfl) rfl (by kernel_rfl) (fun w hS => ex_load rfl (by kernel_rfl) (ld3 (hS.2.2.2.2))) (⟨bO1_0.1, bO1_7.1, bO1_4.1, bO1_8.1, (e0.cell q18)⟩) ?_
      refine wd_take 14 (.agg #[.int .i64 (o.fr : Int), .int .i64 ((slN o.sl k.toNat).to : Int)]) hR rfl (by kernel_rfl) rfl (by kernel_rfl) (fun w _ => by kernel_rfl) (⟨bO1_0.1, bO1_7.1, bO1_4.1, bO1_8.1, (e0.cell q18)⟩) ?_
      refine wd_take 15 (.agg #[.int .i64 (o.id : Int), .int .i64 (o.sz : Int), .int .i64 (o.fr : Int), .int .i64 ((slN o.sl k.toNat).to : Int)]) hR rfl (by kernel_rfl) rfl (by kernel_rfl) (fun w _ => by kernel_rfl) (⟨bO1_0.1, bO1_7.1, bO1_4.1, bO1_8.1, (e0.cell q18)⟩) ?_
      refine wd_step 16 hR rfl (by kernel_rfl) (by kernel_rfl) (by kernel_rfl) (sn_setK4 (O := O5) (j := 0) (v0 := .int .i64 (o.id : Int)) (v1 := .int .i64 (o.sz : Int)) (v2 := .int .i64 (o.fr : Int)) (v3 := .int .i64 ((slN o.sl k.toNat).to : Int)) (ex_store (p := .pointer (some ⟨O5, 0, none⟩)) (v := .agg #[.int .i64 (o.id : Int), .int .i64 (o.sz : Int), .int .i64 (o.fr : Int), .int .i64 ((slN o.sl k.toNat).to : Int)]) rfl (by kernel_rfl) (by kernel_rfl) (st26 bO5_0.1 bO5_0.2 bO5_1.1 bO5_1.2 bO5_2.1 bO5_2.2 bO5_3.1 bO5_3.2)) bO5_0 bO5_1 bO5_2 bO5_3 ?_)
      intro X21 ho hv0 hv1 hv2 hv3 hk
      replace e0 := ho.ext e0 (Nat.le_trans (Nat.le_trans hs0 hs3) (Nat.le_of_eq hzO5))
      replace hE := ho.ext hE (Nat.le_trans hs3 (Nat.le_of_eq hzO5))
      replace bO1_0 := ho.box (Nat.ne_of_gt (Nat.lt_of_lt_of_le lt4 (Nat.le_of_eq hzO5))) bO1_0
      replace bO1_1 := ho.box (Nat.ne_of_gt (Nat.lt_of_lt_of_le lt4 (Nat.le_of_eq hzO5))) bO1_1
      replace bO1_2 := ho.box (Nat.ne_of_gt (Nat.lt_of_lt_of_le lt4 (Nat.le_of_eq hzO5))) bO1_2
      replace bO1_3 := ho.box (Nat.ne_of_gt (Nat.lt_of_lt_of_le lt4 (Nat.le_of_eq hzO5))) bO1_3
      replace bO1_4 := ho.box (Nat.ne_of_gt (Nat.lt_of_lt_of_le lt4 (Nat.le_of_eq hzO5))) bO1_4
      replace bO1_5 := ho.box (Nat.ne_of_gt (Nat.lt_of_lt_of_le lt4 (Nat.le_of_eq hzO5))) bO1_5
      replace bO1_6 := ho.box (Nat.ne_of_gt (Nat.lt_of_lt_of_le lt4 (Nat.le_of_eq hzO5))) bO1_6
      replace bO1_7 := ho.box (Nat.ne_of_gt (Nat.lt_of_lt_of_le lt4 (Nat.le_of_eq hzO5))) bO1_7
      replace bO1_8 := ho.box (Nat.ne_of_gt (Nat.lt_of_lt_of_le lt4 (Nat.le_of_eq hzO5))) bO1_8
      have hs22 : X19.heap.size ≤ X21.heap.size := Nat.le_of_eq ho.size.symm
      clear ho hk bO5_0 bO5_1 bO5_2 bO5_3
      have bO5_0 := hv0; clear hv0
      have bO5_1 := hv1; clear hv1
      have bO5_2 := hv2; clear hv2
      have bO5_3 := hv3; clear hv3
      refine ⟨⟨bO1_0.1, bO1_7.1, bO1_4.1, bO1_8.1, (e0.cell q18)⟩, ?_⟩
      refine wd_take 17 (.int .i64 0) hR rfl (by kernel_rfl) rfl (by kernel_rfl) (fun w _ => by kernel_rfl) (⟨bO1_0.1, bO1_7.1, bO1_4.1, bO1_8.1, (e0.cell q18)⟩) ?_
      refine wd_end hL hR hK (by kernel_rfl) ?_
      refine qw_then ?_
      refine cw_clean [4, 5] (ws' := [(4, .pointer (some ⟨O5, 0, none⟩)), (5, .int .i64 0)]) (by kernel_rfl) (fun L => ?_)
      refine cw_ret ?_
      refine qw_ret [.agg #[.int .i64 (o.id : Int), .int .i64 (o.sz : Int), .int .i64 (o.fr : Int), .int .i64 ((slN o.sl k.toNat).to : Int)], .int .i64 0] rfl ⟨⟨_, by kernel_rfl, res_ld (ld26 (bO5_0.1) (bO5_1.1) (bO5_2.1) (bO5_3.1))⟩, (by kernel_rfl), trivial⟩ ?_
      have hfb : Mem.freeB o k = true := by unfold Mem.freeB; rw [hb9, hln, show Globe.inB k 0 ((n : Int) - 1) = true from Globe.inB_t.2 ⟨by omega, by omega⟩]; rfl
      exact ⟨show Ending.returned _ = _ by rw [show Mem.freeV o k = Mem.freed o k.toNat by unfold Mem.freeV; rw [hfb]; rfl, show Mem.freeE o k = 0 by unfold Mem.freeE; rw [hfb]; rfl]; rfl, hE⟩
    ·
      refine pl_step rfl (by kernel_rfl) (by kernel_rfl) (by kernel_rfl) (sn_call (f := 46) (args := #[.int .i64 (k : Int), .int .i64 0, .int .i64 ((((n : Nat) : Int)) - 1 : Int)]) (by kernel_rfl) ((memory_isIn_r (r := false) k 0 ((((n : Nat) : Int)) - 1) _ (hb12)).mono ?_))
      rintro e w23 ⟨rfl, hb⟩
      replace e0 := e0.trans hb
      replace hE := hE.trans hb
      replace bO1_0 := BoxAt.ext hb bO1_0
      replace bO1_1 := BoxAt.ext hb bO1_1
      replace bO1_2 := BoxAt.ext hb bO1_2
      replace bO1_3 := BoxAt.ext hb bO1_3
      replace bO1_4 := BoxAt.ext hb bO1_4
      replace bO1_5 := BoxAt.ext hb bO1_5
      replace bO1_6 := BoxAt.ext hb bO1_6
      replace bO1_7 := BoxAt.ext hb bO1_7
      replace bO1_8 := BoxAt.ext hb bO1_8
      replace bO5_0 := BoxAt.ext hb bO5_0
      replace bO5_1 := BoxAt.ext hb bO5_1
      replace bO5_2 := BoxAt.ext hb bO5_2
      replace bO5_3 := BoxAt.ext hb bO5_3
      have hs24 := hb.size
      clear hb
      refine ⟨_, rfl, ?_⟩
      refine pT (.bool true) ?_
      refine pT (.bool true) ?_
      refine pl_nil ?_
      refine qw_then ?_
      refine cw_clean [1, 2, 4, 17] (ws' := [(1, .int .i64 (k : Int)), (2, .pointer (some ⟨O1, 0, none⟩)), (4, .pointer (some ⟨O5, 0, none⟩)), (17, .bool true)]) (by kernel_rfl) (fun L => ?_)
      refine cw_t (by kernel_rfl) ?_
      refine cw_seq ?_
      refine cw_plain ?_
      refine pT (.agg #[.int .i64 0, .int .i64 0, .int .i64 0, .int .i64 0]) ?_
      refine pl_put rfl (by kernel_rfl) (by kernel_rfl) (sn_setK4 (O := O5) (j := 0) (v0 := .int .i64 0) (v1 := .int .i64 0) (v2 := .int .i64 0) (v3 := .int .i64 0) (ex_store (p := .pointer (some ⟨O5, 0, none⟩)) (v := .agg #[.int .i64 0, .int .i64 0, .int .i64 0, .int .i64 0]) rfl (by kernel_rfl) (by kernel_rfl) (st26 bO5_0.1 bO5_0.2 bO5_1.1 bO5_1.2 bO5_2.1 bO5_2.2 bO5_3.1 bO5_3.2)) bO5_0 bO5_1 bO5_2 bO5_3 ?_)
      intro X25 ho hv0 hv1 hv2 hv3 hk
      replace e0 := ho.ext e0 (Nat.le_trans (Nat.le_trans hs0 hs3) (Nat.le_of_eq hzO5))
      replace hE := ho.ext hE (Nat.le_trans hs3 (Nat.le_of_eq hzO5))
      replace bO1_0 := ho.box (Nat.ne_of_gt (Nat.lt_of_lt_of_le lt4 (Nat.le_of_eq hzO5))) bO1_0
      replace bO1_1 := ho.box (Nat.ne_of_gt (Nat.lt_of_lt_of_le lt4 (Nat.le_of_eq hzO5))) bO1_1
      replace bO1_2 := ho.box (Nat.ne_of_gt (Nat.lt_of_lt_of_le lt4 (Nat.le_of_eq hzO5))) bO1_2
      replace bO1_3 := ho.box (Nat.ne_of_gt (Nat.lt_of_lt_of_le lt4 (Nat.le_of_eq hzO5))) bO1_3
      replace bO1_4 := ho.box (Nat.ne_of_gt (Nat.lt_of_lt_of_le lt4 (Nat.le_of_eq hzO5))) bO1_4
      replace bO1_5 := ho.box (Nat.ne_of_gt (Nat.lt_of_lt_of_le lt4 (Nat.le_of_eq hzO5))) bO1_5
      replace bO1_6 := ho.box (Nat.ne_of_gt (Nat.lt_of_lt_of_le lt4 (Nat.le_of_eq hzO5))) bO1_6
      replace bO1_7 := ho.box (Nat.ne_of_gt (Nat.lt_of_lt_of_le lt4 (Nat.le_of_eq hzO5))) bO1_7
      replace bO1_8 := ho.box (Nat.ne_of_gt (Nat.lt_of_lt_of_le lt4 (Nat.le_of_eq hzO5))) bO1_8
      have hs26 : w23.heap.size ≤ X25.heap.size := Nat.le_of_eq ho.size.symm
      clear ho hk bO5_0 bO5_1 bO5_2 bO5_3
      have bO5_0 := hv0; clear hv0
      have bO5_1 := hv1; clear hv1
      have bO5_2 := hv2; clear hv2
      have bO5_3 := hv3; clear hv3
      refine pT (.int .i64 110) ?_
      refine pl_nil ?_
      refine qw_then ?_
      refine cw_ret ?_
      refine qw_then_ret ?_
      refine qw_ret [.agg #[.int .i64 0, .int .i64 0, .int .i64 0, .int .i64 0], .int .i64 110] rfl ⟨⟨_, by kernel_rfl, res_ld (ld26 (bO5_0.1) (bO5_1.1) (bO5_2.1) (bO5_3.1))⟩, (by kernel_rfl), trivial⟩ ?_
      have hfb : Mem.freeB o k = false := by unfold Mem.freeB; rw [hln, show Globe.inB k 0 ((n : Int) - 1) = false from hb12]; simp
      exact ⟨show Ending.returned _ = _ by rw [show Mem.freeV o k = ⟨0, 0, 0, 0⟩ by unfold Mem.freeV; rw [hfb]; rfl, show Mem.freeE o k = 110 by unfold Mem.freeE; rw [hfb]; rfl]; rfl, hE⟩
  ·
    refine pl_step rfl (by kernel_rfl) (by kernel_rfl) (by kernel_rfl) (sn_call (f := 49) (args := #[.agg #[.int .i64 (o.id : Int), .int .i64 (o.od : Int), .int .i64 (o.cl : Int), .int .i64 (o.sa : Int), .int .i64 (o.fr : Int), .int .i64 (o.to : Int), .int .i64 (o.lk : Int), .int .i64 (o.sz : Int), .slice a n c]]) (by kernel_rfl) ((can_r (o := o) (r := false) _ _ hq e0 hb9).mono ?_))
    rintro e w27 ⟨rfl, hb⟩
    replace e0 := e0.trans hb
    replace hE := hE.trans hb
    replace bO1_0 := BoxAt.ext hb bO1_0
    replace bO1_1 := BoxAt.ext hb bO1_1
    replace bO1_2 := BoxAt.ext hb bO1_2
    replace bO1_3 := BoxAt.ext hb bO1_3
    replace bO1_4 := BoxAt.ext hb bO1_4
    replace bO1_5 := BoxAt.ext hb bO1_5
    replace bO1_6 := BoxAt.ext hb bO1_6
    replace bO1_7 := BoxAt.ext hb bO1_7
    replace bO1_8 := BoxAt.ext hb bO1_8
    replace bO5_0 := BoxAt.ext hb bO5_0
    replace bO5_1 := BoxAt.ext hb bO5_1
    replace bO5_2 := BoxAt.ext hb bO5_2
    replace bO5_3 := BoxAt.ext hb bO5_3
    have hs28 := hb.size
    clear hb
    refine ⟨_, rfl, ?_⟩
    refine pT (.bool true) ?_
    refine pT (.bool true) ?_
    refine pl_skip rfl (by kernel_rfl) (by kernel_rfl) (by kernel_rfl) ?_
    refine pl_skip rfl (by kernel_rfl) (by kernel_rfl) (by kernel_rfl) ?_
    refine pl_skip rfl (by kernel_rfl) (by kernel_rfl) (by kernel_rfl) ?_
    refine pl_skip rfl (by kernel_rfl) (by kernel_rfl) (by kernel_rfl) ?_
    refine pl_skip rfl (by kernel_rfl) (by kernel_rfl) (by kernel_rfl) ?_
    refine pl_skip rfl (by kernel_rfl) (by kernel_rfl) (by kernel_rfl) ?_
    refine pl_skip rfl (by kernel_rfl) (by kernel_rfl) (by kernel_rfl) ?_
    refine pT (.bool true) ?_
    refine pl_nil ?_
    refine qw_then ?_
    refine cw_clean [1, 2, 4, 17] (ws' := [(1, .int .i64 (k : Int)), (2, .pointer (some ⟨O1, 0, none⟩)), (4, .pointer (some ⟨O5, 0, none⟩)), (17, .bool true)]) (by kernel_rfl) (fun L => ?_)
    refine cw_t (by kernel_rfl) ?_
    refine cw_seq ?_
    refine cw_plain ?_
    refine pT (.agg #[.int .i64 0, .int .i64 0, .int .i64 0, .int .i64 0]) ?_
    refine pl_put rfl (by kernel_rfl) (by kernel_rfl) (sn_setK4 (O := O5) (j := 0) (v0 := .int .i64 0) (v1 := .int .i64 0) (v2 := .int .i64 0) (v3 := .int .i64 0) (ex_store (p := .pointer (some ⟨O5, 0, none⟩)) (v := .agg #[.int .i64 0, .int .i64 0, .int .i64 0, .int .i64 0]) rfl (by kernel_rfl) (by kernel_rfl) (st26 bO5_0.1 bO5_0.2 bO5_1.1 bO5_1.2 bO5_2.1 bO5_2.2 bO5_3.1 bO5_3.2)) bO5_0 bO5_1 bO5_2 bO5_3 ?_)
    intro X29 ho hv0 hv1 hv2 hv3 hk
    replace e0 := ho.ext e0 (Nat.le_trans (Nat.le_trans hs0 hs3) (Nat.le_of_eq hzO5))
    replace hE := ho.ext hE (Nat.le_trans hs3 (Nat.le_of_eq hzO5))
    replace bO1_0 := ho.box (Nat.ne_of_gt (Nat.lt_of_lt_of_le lt4 (Nat.le_of_eq hzO5))) bO1_0
    replace bO1_1 := ho.box (Nat.ne_of_gt (Nat.lt_of_lt_of_le lt4 (Nat.le_of_eq hzO5))) bO1_1
    replace bO1_2 := ho.box (Nat.ne_of_gt (Nat.lt_of_lt_of_le lt4 (Nat.le_of_eq hzO5))) bO1_2
    replace bO1_3 := ho.box (Nat.ne_of_gt (Nat.lt_of_lt_of_le lt4 (Nat.le_of_eq hzO5))) bO1_3
    replace bO1_4 := ho.box (Nat.ne_of_gt (Nat.lt_of_lt_of_le lt4 (Nat.le_of_eq hzO5))) bO1_4
    replace bO1_5 := ho.box (Nat.ne_of_gt (Nat.lt_of_lt_of_le lt4 (Nat.le_of_eq hzO5))) bO1_5
    replace bO1_6 := ho.box (Nat.ne_of_gt (Nat.lt_of_lt_of_le lt4 (Nat.le_of_eq hzO5))) bO1_6
    replace bO1_7 := ho.box (Nat.ne_of_gt (Nat.lt_of_lt_of_le lt4 (Nat.le_of_eq hzO5))) bO1_7
    replace bO1_8 := ho.box (Nat.ne_of_gt (Nat.lt_of_lt_of_le lt4 (Nat.le_of_eq hzO5))) bO1_8
    have hs30 : w27.heap.size ≤ X29.heap.size := Nat.le_of_eq ho.size.symm
    clear ho hk bO5_0 bO5_1 bO5_2 bO5_3
    have bO5_0 := hv0; clear hv0
    have bO5_1 := hv1; clear hv1
    have bO5_2 := hv2; clear hv2
    have bO5_3 := hv3; clear hv3
    refine pT (.int .i64 110) ?_
    refine pl_nil ?_
    refine qw_then ?_
    refine cw_ret ?_
    refine qw_then_ret ?_
    refine qw_ret [.agg #[.int .i64 0, .int .i64 0, .int .i64 0, .int .i64 0], .int .i64 110] rfl ⟨⟨_, by kernel_rfl, res_ld (ld26 (bO5_0.1) (bO5_1.1) (bO5_2.1) (bO5_3.1))⟩, (by kernel_rfl), trivial⟩ ?_
    have hfb : Mem.freeB o k = false := by unfold Mem.freeB; rw [hb9]; rfl
    exact ⟨show Ending.returned _ = _ by rw [show Mem.freeV o k = ⟨0, 0, 0, 0⟩ by unfold Mem.freeV; rw [hfb]; rfl, show Mem.freeE o k = 110 by unfold Mem.freeE; rw [hfb]; rfl]; rfl, hE⟩
set_option maxRecDepth 1000000 in
set_option maxHeartbeats 4000000 in
theorem Worst_c {w0 : World} {a : Option Addr} {n : Nat} {o : Mem.Opt} (c : Nat) (w : World) (h : SlsAt w0 a n o.sl) (e0 : Ext w0 w) : Calls Try.prog 28 #[.agg #[.int .i64 o.id, .int .i64 o.od, .int .i64 o.cl, .int .i64 o.sa, .int .i64 o.fr, .int .i64 o.to, .int .i64 o.lk, .int .i64 o.sz, .slice a n c]] w fun e w' => e = .returned (.tuple #[.agg #[.int .i64 (Mem.freeV o ((o.sl.length : Int) - 1)).im, .int .i64 (Mem.freeV o ((o.sl.length : Int) - 1)).un, .int .i64 (Mem.freeV o ((o.sl.length : Int) - 1)).fr, .int .i64 (Mem.freeV o ((o.sl.length : Int) - 1)).to], .int .i64 (Mem.freeE o ((o.sl.length : Int) - 1))]) ∧ Ext w w' := by
  have hln := h.1; have hmx := h.2.1; have hq := h
  have hs0 := e0.size
  refine calls_cw 12 [(0, .agg #[.int .i64 (o.id : Int), .int .i64 (o.od : Int), .int .i64 (o.cl : Int), .int .i64 (o.sa : Int), .int .i64 (o.fr : Int), .int .i64 (o.to : Int), .int .i64 (o.lk : Int), .int .i64 (o.sz : Int), .slice a n c])] Try.func28 rfl Try.ntmps28 (by kernel_rfl) (by kernel_rfl) (fun L => ?_)
  have hE : Ext w w := Ext.refl w
  refine cw_seq ?_
  refine cw_plain ?_
  refine pl_step rfl (by kernel_rfl) (by kernel_rfl) (by kernel_rfl) (sn_new (us := #[.int .i64 (o.id : Int), .int .i64 (o.od : Int), .int .i64 (o.cl : Int), .int .i64 (o.sa : Int), .int .i64 (o.fr : Int), .int .i64 (o.to : Int), .int .i64 (o.lk : Int), .int .i64 (o.sz : Int), .slice a n c]) (t := 31) (by kernel_rfl) ?_)
  intro O1 X2 hO hOs hb hbx
  have hzO1 := hO; have hyO1 := hOs; clear hO hOs
  have bO1_0 : BoxAt X2 O1 0 (.int .i64 (o.id : Int)) := hbx 0 _ rfl
  have bO1_1 : BoxAt X2 O1 1 (.int .i64 (o.od : Int)) := hbx 1 _ rfl
  have bO1_2 : BoxAt X2 O1 2 (.int .i64 (o.cl : Int)) := hbx 2 _ rfl
  have bO1_3 : BoxAt X2 O1 3 (.int .i64 (o.sa : Int)) := hbx 3 _ rfl
  have bO1_4 : BoxAt X2 O1 4 (.int .i64 (o.fr : Int)) := hbx 4 _ rfl
  have bO1_5 : BoxAt X2 O1 5 (.int .i64 (o.to : Int)) := hbx 5 _ rfl
  have bO1_6 : BoxAt X2 O1 6 (.int .i64 (o.lk : Int)) := hbx 6 _ rfl
  have bO1_7 : BoxAt X2 O1 7 (.int .i64 (o.sz : Int)) := hbx 7 _ rfl
  have bO1_8 : BoxAt X2 O1 8 (.slice a n c) := hbx 8 _ rfl
  clear hbx
  replace e0 := e0.trans hb
  replace hE := hE.trans hb
  have hs3 := hb.size
  clear hb
  have lt4 := bO1_0.lt
  refine pl_step rfl (by kernel_rfl) (by kernel_rfl) (by kernel_rfl) (sn_new (us := #[.int .i64 0, .int .i64 0, .int .i64 0, .int .i64 0]) (t := 26) (by kernel_rfl) ?_)
  intro O5 X6 hO hOs hb hbx
  have hzO5 := hO; have hyO5 := hOs; clear hO hOs
  have bO5_0 : BoxAt X6 O5 0 (.int .i64 0) := hbx 0 _ rfl
  have bO5_1 : BoxAt X6 O5 1 (.int .i64 0) := hbx 1 _ rfl
  have bO5_2 : BoxAt X6 O5 2 (.int .i64 0) := hbx 2 _ rfl
  have bO5_3 : BoxAt X6 O5 3 (.int .i64 0) := hbx 3 _ rfl
  clear hbx
  replace e0 := e0.trans hb
  replace hE := hE.trans hb
  replace bO1_0 := BoxAt.ext hb bO1_0
  replace bO1_1 := BoxAt.ext hb bO1_1
  replace bO1_2 := BoxAt.ext hb bO1_2
  replace bO1_3 := BoxAt.ext hb bO1_3
  replace bO1_4 := BoxAt.ext hb bO1_4
  replace bO1_5 := BoxAt.ext hb bO1_5
  replace bO1_6 := BoxAt.ext hb bO1_6
  replace bO1_7 := BoxAt.ext hb bO1_7
  replace bO1_8 := BoxAt.ext hb bO1_8
  have hs7 := hb.size
  clear hb
  have lt8 := bO5_0.lt
  refine pT (.int .i64 0) ?_
  refine pl_nil ?_
  refine qw_then ?_
  refine cw_seq ?_
  refine cw_plain ?_
  refine pl_take (.agg #[.int .i64 (o.id : Int), .int .i64 (o.od : Int), .int .i64 (o.cl : Int), .int .i64 (o.sa : Int), .int .i64 (o.fr : Int), .int .i64 (o.to : Int), .int .i64 (o.lk : Int), .int .i64 (o.sz : Int), .slice a n c]) rfl (by kernel_rfl) (by kernel_rfl) (by kernel_rfl) (ex_load rfl (by kernel_rfl) (ld31 (bO1_0.1) (bO1_1.1) (bO1_2.1) (bO1_3.1) (bO1_4.1) (bO1_5.1) (bO1_6.1) (bO1_7.1) (bO1_8.1))) ?_
  refine pT (.pointer (some ⟨O1, 8, none⟩)) ?_
  refine pl_take (.slice a n c) rfl (by kernel_rfl) (by kernel_rfl) (by kernel_rfl) (ex_load rfl (by kernel_rfl) (ld29 (bO1_8.1))) ?_
  refine pT (.int .i64 (((n : Nat) : Int) : Int)) ?_
  refine pl_take (.int .i64 ((((n : Nat) : Int)) - 1 : Int)) rfl (by kernel_rfl) (by kernel_rfl) (by kernel_rfl) (ev_wrap (by kernel_rfl) (by omega) (by omega)) ?_
  refine pl_step rfl (by kernel_rfl) (by kernel_rfl) (by kernel_rfl) (sn_call (f := 30) (args := #[.agg #[.int .i64 (o.id : Int), .int .i64 (o.od : Int), .int .i64 (o.cl : Int), .int .i64 (o.sa : Int), .int .i64 (o.fr : Int), .int .i64 (o.to : Int), .int .i64 (o.lk : Int), .int .i64 (o.sz : Int), .slice a n c], .int .i64 ((((n : Nat) : Int)) - 1 : Int)]) (by kernel_rfl) ((Freed_c (o := o) ((((n : Nat) : Int)) - 1) _ _ hq e0).mono ?_))
  rintro e w9 ⟨rfl, hb⟩
  replace e0 := e0.trans hb
  replace hE := hE.trans hb
  replace bO1_0 := BoxAt.ext hb bO1_0
  replace bO1_1 := BoxAt.ext hb bO1_1
  replace bO1_2 := BoxAt.ext hb bO1_2
  replace bO1_3 := BoxAt.ext hb bO1_3
  replace bO1_4 := BoxAt.ext hb bO1_4
  replace bO1_5 := BoxAt.ext hb bO1_5
  replace bO1_6 := BoxAt.ext hb bO1_6
  replace bO1_7 := BoxAt.ext hb bO1_7
  replace bO1_8 := BoxAt.ext hb bO1_8
  replace bO5_0 := BoxAt.ext hb bO5_0
  replace bO5_1 := BoxAt.ext hb bO5_1
  replace bO5_2 := BoxAt.ext hb bO5_2
  replace bO5_3 := BoxAt.ext hb bO5_3
  have hs10 := hb.size
  clear hb
  refine ⟨_, rfl, ?_⟩
  refine pT (.agg #[.int .i64 ((Mem.freeV o ((((n : Nat) : Int)) - 1)).im : Int), .int .i64 ((Mem.freeV o ((((n : Nat) : Int)) - 1)).un : Int), .int .i64 ((Mem.freeV o ((((n : Nat) : Int)) - 1)).fr : Int), .int .i64 ((Mem.freeV o ((((n : Nat) : Int)) - 1)).to : Int)]) ?_
  refine pT (.int .i64 (Mem.freeE o ((((n : Nat) : Int)) - 1) : Int)) ?_
  refine pl_put rfl (by kernel_rfl) (by kernel_rfl) (sn_setK4 (O := O5) (j := 0) (v0 := .int .i64 ((Mem.freeV o ((((n : Nat) : Int)) - 1)).im : Int)) (v1 := .int .i64 ((Mem.freeV o ((((n : Nat) : Int)) - 1)).un : Int)) (v2 := .int .i64 ((Mem.freeV o ((((n : Nat) : Int)) - 1)).fr : Int)) (v3 := .int .i64 ((Mem.freeV o ((((n : Nat) : Int)) - 1)).to : Int)) (ex_store (p := .pointer (some ⟨O5, 0, none⟩)) (v := .agg #[.int .i64 ((Mem.freeV o ((((n : Nat) : Int)) - 1)).im : Int), .int .i64 ((Mem.freeV o ((((n : Nat) : Int)) - 1)).un : Int), .int .i64 ((Mem.freeV o ((((n : Nat) : Int)) - 1)).fr : Int), .int .i64 ((Mem.freeV o ((((n : Nat) : Int)) - 1)).to : Int)]) rfl (by kernel_rfl) (by kernel_rfl) (st26 bO5_0.1 bO5_0.2 bO5_1.1 bO5_1.2 bO5_2.1 bO5_2.2 bO5_3.1 bO5_3.2)) bO5_0 bO5_1 bO5_2 bO5_3 ?_)
  intro X11 ho hv0 hv1 hv2 hv3 hk
  replace e0 := ho.ext e0 (Nat.le_trans (Nat.le_trans hs0 hs3) (Nat.le_of_eq hzO5))
  replace hE := ho.ext hE (Nat.le_trans hs3 (Nat.le_of_eq hzO5))
  replace bO1_0 := ho.box (Nat.ne_of_gt (Nat.lt_of_lt_of_le lt4 (Nat.le_of_eq hzO5))) bO1_0
  replace bO1_1 := ho.box (Nat.ne_of_gt (Nat.lt_of_lt_of_le lt4 (Nat.le_of_eq hzO5))) bO1_1
  replace bO1_2 := ho.box (Nat.ne_of_gt (Nat.lt_of_lt_of_le lt4 (Nat.le_of_eq hzO5))) bO1_2
  replace bO1_3 := ho.box (Nat.ne_of_gt (Nat.lt_of_lt_of_le lt4 (Nat.le_of_eq hzO5))) bO1_3
  replace bO1_4 := ho.box (Nat.ne_of_gt (Nat.lt_of_lt_of_le lt4 (Nat.le_of_eq hzO5))) bO1_4
  replace bO1_5 := ho.box (Nat.ne_of_gt (Nat.lt_of_lt_of_le lt4 (Nat.le_of_eq hzO5))) bO1_5
  replace bO1_6 := ho.box (Nat.ne_of_gt (Nat.lt_of_lt_of_le lt4 (Nat.le_of_eq hzO5))) bO1_6
  replace bO1_7 := ho.box (Nat.ne_of_gt (Nat.lt_of_lt_of_le lt4 (Nat.le_of_eq hzO5))) bO1_7
  replace bO1_8 := ho.box (Nat.ne_of_gt (Nat.lt_of_lt_of_le lt4 (Nat.le_of_eq hzO5))) bO1_8
  have hs12 : w9.heap.size ≤ X11.heap.size := Nat.le_of_eq ho.size.symm
  clear ho hk bO5_0 bO5_1 bO5_2 bO5_3
  have bO5_0 := hv0; clear hv0
  have bO5_1 := hv1; clear hv1
  have bO5_2 := hv2; clear hv2
  have bO5_3 := hv3; clear hv3
  refine pT (.int .i64 (Mem.freeE o ((((n : Nat) : Int)) - 1) : Int)) ?_
  refine pl_nil ?_
  refine qw_then ?_
  refine cw_ret ?_
  refine qw_ret [.agg #[.int .i64 ((Mem.freeV o ((((n : Nat) : Int)) - 1)).im : Int), .int .i64 ((Mem.freeV o ((((n : Nat) : Int)) - 1)).un : Int), .int .i64 ((Mem.freeV o ((((n : Nat) : Int)) - 1)).fr : Int), .int .i64 ((Mem.freeV o ((((n : Nat) : Int)) - 1)).to : Int)], .int .i64 (Mem.freeE o ((((n : Nat) : Int)) - 1) : Int)] rfl ⟨⟨_, by kernel_rfl, res_ld (ld26 (bO5_0.1) (bO5_1.1) (bO5_2.1) (bO5_3.1))⟩, (by kernel_rfl), trivial⟩ ?_
  rw [hln]; exact ⟨rfl, hE⟩

end Go.Proofs.Ytnbjjddfcondlaa

/- Stored images: the answers as functions, in the words of the reference; what they are. -/
namespace Go.Proofs.Ytnbjjddfcondlaa
namespace Mem
/-- Of those that are stored at a minute, the one that began last. -/
theorem latest : ∀ (l : List St) (t : Int), (∀ x ∈ l, live t x = false) ∨ ∃ x ∈ l, live t x = true ∧ ∀ y ∈ l, live t y = true → y.fr ≤ x.fr
  | [], t => .inl fun x hx => by cases hx
  | x :: l, t => by
    rcases latest l t with h | ⟨z, hz, h1, h2⟩
    · cases q : live t x
      · exact .inl fun y hy => by
          rcases List.mem_cons.1 hy with rfl | hy
          · exact q
          · exact h y hy
      · exact .inr ⟨x, by simp, q, fun y hy hl => by
          rcases List.mem_cons.1 hy with rfl | hy
          · exact Int.le_refl _
          · rw [h y hy] at hl; cases hl⟩
    · right
      by_cases q : live t x = true ∧ z.fr < x.fr
      · refine ⟨x, by simp, q.1, fun y hy hl => ?_⟩
        rcases List.mem_cons.1 hy with rfl | hy
        · exact Int.le_refl _
        · have := h2 y hy hl; omega
      · refine ⟨z, by simp [hz], h1, fun y hy hl => ?_⟩
        rcases List.mem_cons.1 hy with rfl | hy
        · have : ¬ z.fr < y.fr := fun h => q ⟨hl, h⟩
          omega
        · exact h2 y hy hl
/-- The fill at a minute is at most that at the last begin before it. -/
theorem top_begin {l : List St} (hu : ∀ x ∈ l, okU x) (t : Int) : fill l t = 0 ∨ ∃ x ∈ l, live t x = true ∧ ∀ s, x.fr ≤ s → s ≤ t → fill l t ≤ fill l s := by
  rcases latest l t with h | ⟨x, hx, h1, h2⟩
  · exact .inl (fill_zero h)
  · refine .inr ⟨x, hx, h1, fun s hs ht => fill_mono hu fun y hy hl => ?_⟩
    have := h2 y hy hl
    have := live_iff.1 hl
    exact live_iff.2 ⟨by omega, by omega⟩
/-! The greatest fill. -/
def mostStep (l : List St) (bw : Int × Int) (x : St) : Int × Int := if bw.1 < fill l x.fr ∨ (fill l x.fr = bw.1 ∧ x.fr < bw.2) then (fill l x.fr, x.fr) else bw
def mostR (l : List St) : Int × Int := l.foldl (mostStep l) (0, -1)
theorem mostStep_inv {l : List St} (hu : ∀ x ∈ l, okU x) : ∀ (r p : List St), p ++ r = l → ∀ bw : Int × Int,
    ((p = [] ∧ bw = (0, -1)) ∨ ((∃ x ∈ p, x.fr = bw.2) ∧ fill l bw.2 = bw.1 ∧ ∀ x ∈ p, fill l x.fr ≤ bw.1 ∧ (fill l x.fr = bw.1 → bw.2 ≤ x.fr))) →
    ((l = [] ∧ r.foldl (mostStep l) bw = (0, -1)) ∨ ((∃ x ∈ l, x.fr = (r.foldl (mostStep l) bw).2) ∧ fill l (r.foldl (mostStep l) bw).2 = (r.foldl (mostStep l) bw).1 ∧ ∀ x ∈ l, fill l x.fr ≤ (r.foldl (mostStep l) bw).1 ∧ (fill l x.fr = (r.foldl (mostStep l) bw).1 → (r.foldl (mostStep l) bw).2 ≤ x.fr)))
  | [], p, hp, bw, h => by
    rw [List.append_nil] at hp; subst hp; exact h
  | x :: r, p, hp, bw, h => by
    rw [List.foldl_cons]
    refine mostStep_inv hu r (p ++ [x]) (by rw [List.append_assoc]; exact hp) _ (.inr ?_)
    have hx : x ∈ l := by rw [← hp]; simp
    have h1 : 1 ≤ fill l x.fr := fill_pos hu hx (live_iff.2 ⟨Int.le_refl _, (hu x hx).2⟩)
    unfold mostStep
    rcases h with ⟨rfl, rfl⟩ | ⟨⟨y, hy, ey⟩, e1, e2⟩
    · rw [if_pos (.inl (by show (0 : Int) < _; omega))]
      refine ⟨⟨x, by simp, rfl⟩, rfl, fun z hz => ?_⟩
      simp at hz; subst hz
      exact ⟨Int.le_refl _, fun _ => Int.le_refl _⟩
    · split
      · rename_i hc
        refine ⟨⟨x, by simp, rfl⟩, rfl, fun z hz => ?_⟩
        rcases List.mem_append.1 hz with hz | hz
        · obtain ⟨k1, k2⟩ := e2 z hz
          rcases hc with hc | ⟨hc, hc2⟩
          · exact ⟨by show _ ≤ fill l x.fr; omega, fun e => by simp at e; omega⟩
          · refine ⟨by show _ ≤ fill l x.fr; omega, fun e => ?_⟩
            have := k2 (by simp at e; omega)
            show x.fr ≤ z.fr; omega
        · simp at hz; subst hz
          exact ⟨Int.le_refl _, fun _ => Int.le_refl _⟩
      · rename_i hc
        have hc1 : ¬ bw.1 < fill l x.fr := fun h => hc (.inl h)
        have hc2 : fill l x.fr = bw.1 → ¬ x.fr < bw.2 := fun h h' => hc (.inr ⟨h, h'⟩)
        refine ⟨⟨y, by simp [hy], ey⟩, e1, fun z hz => ?_⟩
        rcases List.mem_append.1 hz with hz | hz
        · exact e2 z hz
        · simp at hz; subst hz
          exact ⟨by omega, fun e => by have := hc2 e; omega⟩
theorem mostR_is {l : List St} (hu : ∀ x ∈ l, okU x) : IsMost l (mostR l).1 (mostR l).2 := by
  unfold mostR
  rcases mostStep_inv hu l [] rfl (0, -1) (.inl ⟨rfl, rfl⟩) with ⟨e, h⟩ | ⟨⟨x, hx, e⟩, e1, e2⟩
  · rw [h]; exact .inl ⟨e, rfl, rfl⟩
  · generalize l.foldl (mostStep l) (0, -1) = bw at *
    have hp : 1 ≤ bw.1 := by
      rw [← e1, ← e]; exact fill_pos hu hx (live_iff.2 ⟨Int.le_refl _, (hu x hx).2⟩)
    refine .inr ⟨(fun h => by rw [h] at hx; cases hx), e1, ⟨x, hx, e⟩, fun t => ?_, fun t ht => ?_⟩
    · rcases top_begin hu t with h | ⟨y, hy, h1, h2⟩
      · omega
      · have := h2 y.fr (Int.le_refl _) (live_iff.1 h1).1
        have := (e2 y hy).1; omega
    · rcases top_begin hu t with h | ⟨y, hy, h1, h2⟩
      · omega
      · have := h2 y.fr (Int.le_refl _) (live_iff.1 h1).1
        obtain ⟨k1, k2⟩ := e2 y hy
        rcases Int.lt_or_le (fill l t) bw.1 with h | h
        · exact h
        · have := k2 (by omega)
          have := (live_iff.1 h1).1; omega
/-! The first minute over a limit. -/
def overStep (l : List St) (lim first : Int) (x : St) : Int := if lim < fill l x.fr ∧ (first < 0 ∨ x.fr < first) then x.fr else first
def overR (l : List St) (lim : Int) : Int := l.foldl (overStep l lim) (-1)
theorem overStep_inv {l : List St} {lim : Int} (hf : ∀ x ∈ l, 0 ≤ x.fr) : ∀ (r p : List St), p ++ r = l → ∀ f : Int,
    ((f = -1 ∧ ∀ x ∈ p, fill l x.fr ≤ lim) ∨ ((∃ x ∈ p, x.fr = f) ∧ lim < fill l f ∧ ∀ x ∈ p, lim < fill l x.fr → f ≤ x.fr)) →
    ((r.foldl (overStep l lim) f = -1 ∧ ∀ x ∈ l, fill l x.fr ≤ lim) ∨ ((∃ x ∈ l, x.fr = r.foldl (overStep l lim) f) ∧ lim < fill l (r.foldl (overStep l lim) f) ∧ ∀ x ∈ l, lim < fill l x.fr → r.foldl (overStep l lim) f ≤ x.fr))
  | [], p, hp, f, h => by rw [List.append_nil] at hp; subst hp; exact h
  | x :: r, p, hp, f, h => by
    rw [List.foldl_cons]
    refine overStep_inv hf r (p ++ [x]) (by rw [List.append_assoc]; exact hp) _ ?_
    have hx : x ∈ l := by rw [← hp]; simp
    have hpl : ∀ y ∈ p, y ∈ l := fun y hy => by rw [← hp]; simp [hy]
    unfold overStep
    by_cases hlt : lim < fill l x.fr
    · rcases h with ⟨rfl, e⟩ | ⟨⟨y, hy, ey⟩, e1, e2⟩
      · rw [if_pos ⟨hlt, .inl (by omega)⟩]
        refine .inr ⟨⟨x, by simp, rfl⟩, hlt, fun z hz hl => ?_⟩
        rcases List.mem_append.1 hz with hz | hz
        · have := e z hz; omega
        · simp at hz; subst hz; exact Int.le_refl _
      · by_cases h2 : x.fr < f
        · rw [if_pos ⟨hlt, .inr h2⟩]
          refine .inr ⟨⟨x, by simp, rfl⟩, hlt, fun z hz hl => ?_⟩
          rcases List.mem_append.1 hz with hz | hz
          · have := e2 z hz hl; omega
          · simp at hz; subst hz; exact Int.le_refl _
        · have h3 := hf y (hpl y hy)
          rw [if_neg (fun h => by rcases h.2 with h | h <;> omega)]
          refine .inr ⟨⟨y, by simp [hy], ey⟩, e1, fun z hz hl => ?_⟩
          rcases List.mem_append.1 hz with hz | hz
          · exact e2 z hz hl
          · simp at hz; subst hz; omega
    · rw [if_neg (fun h => hlt h.1)]
      rcases h with ⟨rfl, e⟩ | ⟨⟨y, hy, ey⟩, e1, e2⟩
      · refine .inl ⟨rfl, fun z hz => ?_⟩
        rcases List.mem_append.1 hz with hz | hz
        · exact e z hz
        · simp at hz; subst hz; omega
      · refine .inr ⟨⟨y, by simp [hy], ey⟩, e1, fun z hz hl => ?_⟩
        rcases List.mem_append.1 hz with hz | hz
        · exact e2 z hz hl
        · simp at hz; subst hz; omega
theorem overR_is {l : List St} {lim : Int} (hu : ∀ x ∈ l, okU x) (hf : ∀ x ∈ l, 0 ≤ x.fr) (h0 : 0 ≤ lim) : IsOver l lim (overR l lim) := by
  have key : ∀ s, lim < fill l s → ∃ y ∈ l, y.fr ≤ s ∧ lim < fill l y.fr := fun s hs => by
    rcases top_begin hu s with h | ⟨y, hy, h1, h2⟩
    · omega
    · have := h2 y.fr (Int.le_refl _) (live_iff.1 h1).1
      exact ⟨y, hy, (live_iff.1 h1).1, by omega⟩
  unfold overR
  rcases overStep_inv (lim := lim) hf l [] rfl (-1) (.inl ⟨rfl, fun x hx => by cases hx⟩) with ⟨e, h⟩ | ⟨h1, h2, h3⟩
  · rw [e]
    refine .inl ⟨rfl, fun s => ?_⟩
    rcases Int.lt_or_le lim (fill l s) with hs | hs
    · obtain ⟨y, hy, _, k⟩ := key s hs
      have := h y hy; omega
    · exact hs
  · refine .inr ⟨h1, h2, fun s hs => ?_⟩
    rcases Int.lt_or_le lim (fill l s) with hk | hk
    · obtain ⟨y, hy, k1, k2⟩ := key s hk
      have := h3 y hy k2; omega
    · exact hk
/-! The greatest fill within a spell. -/
def IsTop (l : List St) (a b m : Int) : Prop := (∃ t, a ≤ t ∧ t < b ∧ fill l t = m) ∧ ∀ t, a ≤ t → t < b → fill l t ≤ m
theorem IsTop.uniq {l : List St} {a b m m' : Int} (h : IsTop l a b m) (h' : IsTop l a b m') : m = m' := by
  obtain ⟨⟨t, h1, h2, rfl⟩, h3⟩ := h
  obtain ⟨⟨t', k1, k2, rfl⟩, k3⟩ := h'
  have := h3 t' k1 k2; have := k3 t h1 h2; omega
def topStep (l : List St) (a b m : Int) (x : St) : Int := if a ≤ x.fr ∧ x.fr < b then max m (fill l x.fr) else m
def topR (l : List St) (a b : Int) : Int := l.foldl (topStep l a b) (fill l a)
theorem topStep_inv {l : List St} {a b : Int} : ∀ (r p : List St) (m : Int),
    ((∃ t, a ≤ t ∧ t < b ∧ fill l t = m) ∧ fill l a ≤ m ∧ ∀ x ∈ p, a ≤ x.fr → x.fr < b → fill l x.fr ≤ m) →
    ((∃ t, a ≤ t ∧ t < b ∧ fill l t = r.foldl (topStep l a b) m) ∧ fill l a ≤ r.foldl (topStep l a b) m ∧ ∀ x ∈ p ++ r, a ≤ x.fr → x.fr < b → fill l x.fr ≤ r.foldl (topStep l a b) m)
  | [], p, m, h => by rw [List.append_nil]; exact h
  | x :: r, p, m, ⟨h1, h2, h3⟩ => by
    rw [List.foldl_cons, show p ++ x :: r = (p ++ [x]) ++ r by simp]
    refine topStep_inv r (p ++ [x]) _ ?_
    unfold topStep
    split
    · rename_i hc
      refine ⟨?_, by omega, fun z hz q1 q2 => ?_⟩
      · rcases Int.lt_or_le m (fill l x.fr) with h | h
        · exact ⟨x.fr, hc.1, hc.2, by omega⟩
        · obtain ⟨t, t1, t2, t3⟩ := h1
          exact ⟨t, t1, t2, by omega⟩
      · rcases List.mem_append.1 hz with hz | hz
        · have := h3 z hz q1 q2; omega
        · simp at hz; subst hz; omega
    · rename_i hc
      refine ⟨h1, h2, fun z hz q1 q2 => ?_⟩
      rcases List.mem_append.1 hz with hz | hz
      · exact h3 z hz q1 q2
      · simp at hz; subst hz; exact absurd ⟨q1, q2⟩ hc
theorem topR_is {l : List St} {a b : Int} (hu : ∀ x ∈ l, okU x) (hab : a < b) : IsTop l a b (topR l a b) := by
  obtain ⟨h1, h2, h3⟩ := topStep_inv (l := l) (a := a) (b := b) l [] (fill l a) ⟨⟨a, Int.le_refl _, hab, rfl⟩, Int.le_refl _, fun x hx => by cases hx⟩
  refine ⟨h1, fun t ht1 ht2 => ?_⟩
  show fill l t ≤ l.foldl (topStep l a b) (fill l a)
  rw [List.nil_append] at h3
  rcases top_begin hu t with h | ⟨y, hy, k1, k2⟩
  · have := fill_nonneg hu a; omega
  · have hy1 := (live_iff.1 k1).1
    rcases Int.lt_or_le y.fr a with q | q
    · have := k2 a (by omega) ht1; omega
    · have := k2 y.fr (Int.le_refl _) hy1
      have := h3 y hy q (by omega); omega
/-- The program's way: the fills before each change, and the last one. -/
def roomStep (a : Int) (mb : Int × Int) (q : Stp) : Int × Int := (if a < q.1 then max mb.1 mb.2 else mb.1, q.2)
theorem room_last {E : List Stp} {a : Int} : ∀ k, k ≤ E.length → ((E.take k).foldl (roomStep a) (0, 0)).2 = lastV (E.take k) := by
  intro k hk
  cases k with
  | zero => rfl
  | succ k =>
    have hm := List.getElem?_eq_getElem (l := E) (i := k) (by omega)
    rw [List.take_add_one, hm]
    show ((E.take k ++ [E[k]]).foldl (roomStep a) (0, 0)).2 = lastV (E.take k ++ [E[k]])
    rw [lastV_snoc, List.foldl_append]; rfl
theorem room_most {E : List Stp} {a : Int} : ∀ k, k ≤ E.length → (∀ j (hj : j < E.length), j < k → a < E[j].1 → lastV (E.take j) ≤ ((E.take k).foldl (roomStep a) (0, 0)).1) ∧ (((E.take k).foldl (roomStep a) (0, 0)).1 = 0 ∨ ∃ j, ∃ hj : j < E.length, j < k ∧ a < E[j].1 ∧ lastV (E.take j) = ((E.take k).foldl (roomStep a) (0, 0)).1) ∧ 0 ≤ ((E.take k).foldl (roomStep a) (0, 0)).1 := by
  intro k
  induction k with
  | zero => intro _; exact ⟨fun j _ hj => by omega, .inl rfl, Int.le_refl _⟩
  | succ k ih =>
    intro hk
    obtain ⟨h1, h2, h3⟩ := ih (by omega)
    have hb := room_last (E := E) (a := a) k (by omega)
    have hm := List.getElem?_eq_getElem (l := E) (i := k) (by omega)
    have e : (E.take (k + 1)).foldl (roomStep a) (0, 0) = roomStep a ((E.take k).foldl (roomStep a) (0, 0)) E[k] := by
      rw [List.take_add_one, hm]
      show (E.take k ++ [E[k]]).foldl _ _ = _
      rw [List.foldl_append]; rfl
    rw [e]
    generalize (E.take k).foldl (roomStep a) (0, 0) = mb at *
    unfold roomStep
    by_cases ha : a < E[k].1
    · rw [if_pos ha]
      refine ⟨fun j hj hjk hja => ?_, ?_, by show 0 ≤ max mb.1 mb.2; omega⟩
      · rcases Nat.eq_or_lt_of_le (show j ≤ k by omega) with rfl | hjk
        · show _ ≤ max mb.1 mb.2; omega
        · have := h1 j hj hjk hja
          show _ ≤ max mb.1 mb.2; omega
      · show max mb.1 mb.2 = 0 ∨ ∃ j, ∃ hj : j < E.length, j < k + 1 ∧ a < E[j].1 ∧ lastV (E.take j) = max mb.1 mb.2
        rcases Int.lt_or_le mb.1 mb.2 with hlt | hle
        · exact .inr ⟨k, by omega, by omega, ha, by omega⟩
        · rcases h2 with h2 | ⟨j, hj, j1, j2, j3⟩
          · exact .inl (by omega)
          · exact .inr ⟨j, hj, by omega, j2, by omega⟩
    · rw [if_neg ha]
      refine ⟨fun j hj hjk hja => ?_, ?_, h3⟩
      · rcases Nat.eq_or_lt_of_le (show j ≤ k by omega) with rfl | hjk
        · exact absurd hja ha
        · exact h1 j hj hjk hja
      · rcases h2 with h2 | ⟨j, hj, j1, j2, j3⟩
        · exact .inl h2
        · exact .inr ⟨j, hj, by omega, j2, j3⟩
theorem room_is {l : List St} {E : List Stp} (hu : ∀ x ∈ l, okU x) (h : Fills l E) {a b : Int} (hab : a < b) {k : Nat} (hk : k ≤ E.length) (h1 : ∀ j q, j < k → E[j]? = some q → q.1 < b) (h2 : ∀ q, E[k]? = some q → b ≤ q.1) :
    IsTop l a b (max ((E.take k).foldl (roomStep a) (0, 0)).1 ((E.take k).foldl (roomStep a) (0, 0)).2) := by
  have hn : ∀ q ∈ E, 0 ≤ q.2 := fun q hq => by rw [h.val q hq]; exact fill_nonneg hu _
  obtain ⟨m1, m2, m3⟩ := room_most (a := a) k hk
  have mb := room_last (E := E) (a := a) k hk
  generalize (E.take k).foldl (roomStep a) (0, 0) = z at *
  have asc : ∀ i j (hi : i < E.length) (hj : j < E.length), i < j → E[i].1 < E[j].1 := fun i j hi hj hij => List.pairwise_iff_getElem.1 h.asc i j hi hj hij
  have hlast : z.2 = fill l (b - 1) := by
    rw [mb]
    exact fill_at h (fun j q hj hq => by have := h1 j q hj hq; omega) (fun q hq => by have := h2 q hq; omega) hk
  have hbef : ∀ j (hj : j < E.length), lastV (E.take j) = fill l (E[j].1 - 1) := fun j hj => by
    refine fill_at h (fun i q hi hq => ?_) (fun q hq => ?_) (by omega)
    · obtain ⟨hil, rfl⟩ := List.getElem?_eq_some_iff.1 hq
      have := asc i j hil hj hi; omega
    · rw [List.getElem?_eq_getElem hj] at hq; cases hq; omega
  constructor
  · rcases Int.lt_or_le z.2 z.1 with hlt | hle
    · rcases m2 with m2 | ⟨j, hj, j1, j2, j3⟩
      · have := fill_nonneg hu (b - 1); omega
      · have := h1 j _ j1 (List.getElem?_eq_getElem hj)
        refine ⟨E[j].1 - 1, by omega, by omega, ?_⟩
        rw [← hbef j hj]; omega
    · exact ⟨b - 1, by omega, by omega, by omega⟩
  · intro t ht1 ht2
    -- how many changes there are up to t
    obtain ⟨j, hjl, hj1, hj2⟩ : ∃ j, j ≤ E.length ∧ (∀ i q, i < j → E[i]? = some q → q.1 ≤ t) ∧ ∀ q, E[j]? = some q → t < q.1 := by
      have key : ∀ n, n ≤ E.length → (∀ i q, i < n → E[i]? = some q → q.1 ≤ t) ∨ ∃ j, j ≤ n ∧ j < E.length ∧ (∀ i q, i < j → E[i]? = some q → q.1 ≤ t) ∧ ∀ q, E[j]? = some q → t < q.1 := by
        intro n
        induction n with
        | zero => intro _; exact .inl fun i q hi => by omega
        | succ n ih =>
          intro hn
          rcases ih (by omega) with q | ⟨j, j1, j2, j3, j4⟩
          · by_cases hq : E[n].1 ≤ t
            · refine .inl fun i p hi hp => ?_
              rcases Nat.eq_or_lt_of_le (show i ≤ n by omega) with rfl | hi
              · rw [List.getElem?_eq_getElem (by omega)] at hp; cases hp; exact hq
              · exact q i p hi hp
            · exact .inr ⟨n, by omega, by omega, q, fun p hp => by rw [List.getElem?_eq_getElem (by omega)] at hp; cases hp; omega⟩
          · exact .inr ⟨j, by omega, j2, j3, j4⟩
      rcases key E.length (Nat.le_refl _) with q | ⟨j, j1, j2, j3, j4⟩
      · exact ⟨E.length, Nat.le_refl _, q, fun p hp => by rw [List.getElem?_eq_none (Nat.le_refl _)] at hp; cases hp⟩
      · exact ⟨j, by omega, j3, j4⟩
    have ef := fill_at h hj1 hj2 hjl
    rw [← ef]
    rcases Nat.lt_trichotomy j k with hjk | rfl | hjk
    · have := hj2 _ (List.getElem?_eq_getElem (by omega))
      have := m1 j (by omega) hjk (by omega)
      omega
    · rw [← mb]; omega
    · have := hj1 k _ hjk (List.getElem?_eq_getElem (by omega))
      have := h2 _ (List.getElem?_eq_getElem (show k < E.length by omega))
      omega
end Mem
end Go.Proofs.Ytnbjjddfcondlaa

/- Rows of stored images: begins, who is stored at one, those that are contained in no other. -/
namespace Go.Proofs.Ytnbjjddfcondlaa
namespace Mem
/-! Begins, ascending, each once. -/
def insU (t : Int) : List Int → List Int
  | [] => [t]
  | a :: r => if t < a then t :: a :: r else if t = a then a :: r else a :: insU t r
theorem mem_insU {s t : Int} : ∀ {r : List Int}, s ∈ insU t r ↔ s = t ∨ s ∈ r
  | [] => by simp [insU]
  | a :: r => by
    rw [insU]
    split
    · simp
    · split
      · rename_i e
        subst e; simp
      · rw [List.mem_cons, List.mem_cons, mem_insU (r := r)]
        constructor
        · rintro (h | h | h)
          · exact .inr (.inl h)
          · exact .inl h
          · exact .inr (.inr h)
        · rintro (h | h | h)
          · exact .inr (.inl h)
          · exact .inl h
          · exact .inr (.inr h)
theorem asc_insU {t : Int} : ∀ {r : List Int}, r.Pairwise (· < ·) → (insU t r).Pairwise (· < ·)
  | [], _ => List.pairwise_singleton _ _
  | a :: r, h => by
    obtain ⟨h1, h2⟩ := List.pairwise_cons.1 h
    rw [insU]
    split
    · rename_i ht
      refine List.pairwise_cons.2 ⟨fun s hs => ?_, h⟩
      rcases List.mem_cons.1 hs with rfl | hs
      · exact ht
      · exact Int.lt_trans ht (h1 s hs)
    · split
      · exact h
      · refine List.pairwise_cons.2 ⟨fun s hs => ?_, asc_insU h2⟩
        rcases mem_insU.1 hs with rfl | hs
        · omega
        · exact h1 s hs
def begs (l : List St) : List Int := l.foldr (fun x r => insU x.fr r) []
theorem begs_asc : ∀ l : List St, (begs l).Pairwise (· < ·)
  | [] => List.Pairwise.nil
  | _ :: l => asc_insU (begs_asc l)
theorem mem_begs {t : Int} : ∀ {l : List St}, t ∈ begs l ↔ ∃ x ∈ l, x.fr = t
  | [] => by simp [begs]
  | x :: l => by
    show t ∈ insU x.fr (begs l) ↔ _
    rw [mem_insU, mem_begs (l := l)]
    constructor
    · rintro (rfl | ⟨y, hy, e⟩)
      · exact ⟨x, by simp, rfl⟩
      · exact ⟨y, by simp [hy], e⟩
    · rintro ⟨y, hy, e⟩
      rcases List.mem_cons.1 hy with rfl | hy
      · exact .inl e.symm
      · exact .inr ⟨y, hy, e⟩
theorem asc_uniq : ∀ {a b : List Int}, a.Pairwise (· < ·) → b.Pairwise (· < ·) → (∀ t, t ∈ a ↔ t ∈ b) → a = b
  | [], [], _, _, _ => rfl
  | [], y :: b, _, _, h => by have := (h y).2 (by simp); cases this
  | x :: a, [], _, _, h => by have := (h x).1 (by simp); cases this
  | x :: a, y :: b, ha, hb, h => by
    obtain ⟨a1, a2⟩ := List.pairwise_cons.1 ha
    obtain ⟨b1, b2⟩ := List.pairwise_cons.1 hb
    have e : x = y := by
      have h1 := (h x).1 (by simp)
      have h2 := (h y).2 (by simp)
      rcases List.mem_cons.1 h1 with e | h1
      · exact e
      · rcases List.mem_cons.1 h2 with e | h2
        · exact e.symm
        · have := b1 x h1; have := a1 y h2; omega
    subst e
    rw [asc_uniq a2 b2 fun t => ?_]
    constructor
    · intro ht
      rcases List.mem_cons.1 ((h t).1 (by simp [ht])) with rfl | h9
      · have := a1 t ht; omega
      · exact h9
    · intro ht
      rcases List.mem_cons.1 ((h t).2 (by simp [ht])) with rfl | h9
      · have := b1 t ht; omega
      · exact h9
/-- What the library's sort and compaction leave. -/
theorem compact_begs {l : List St} {zs : List Int} (hp : zs.Perm (l.map (·.fr))) (hs : zs.Pairwise (· ≤ ·)) : Lib.compact zs = begs l := by
  have key : ∀ m, m ≤ zs.length → (Lib.compactUpTo zs.toArray m).Pairwise (· < ·) ∧ (∀ t, t ∈ Lib.compactUpTo zs.toArray m ↔ t ∈ zs.take m) := by
    intro m
    induction m with
    | zero => intro _; exact ⟨by simp [Lib.compactUpTo], fun t => by simp [Lib.compactUpTo]⟩
    | succ m ih =>
      intro hm
      obtain ⟨h1, h2⟩ := ih (by omega)
      have hz := List.getElem?_eq_getElem (l := zs) (i := m) (by omega)
      have hm' : m < zs.length := by omega
      have hz2 : zs.toArray[m]! = zs[m] := by simp [hm']
      have htk : zs.take (m + 1) = zs.take m ++ [zs[m]] := by rw [List.take_add_one, hz]; rfl
      rw [Lib.compactUpTo_succ, htk, hz2]
      have hle : ∀ i (hi : i < zs.length), i ≤ m → zs[i] ≤ zs[m] := fun i hi him => by
        rcases Nat.eq_or_lt_of_le him with rfl | him
        · exact Int.le_refl _
        · exact List.pairwise_iff_getElem.1 hs i m hi (by omega) him
      by_cases hk : m = 0 ∨ zs.toArray[m]! ≠ zs.toArray[m - 1]!
      · have hk' : Lib.keeps zs.toArray m = true := by unfold Lib.keeps; exact decide_eq_true hk
        rw [hk', if_pos rfl]
        refine ⟨List.pairwise_append.2 ⟨h1, List.pairwise_singleton _ _, fun a ha b hb => ?_⟩, fun t => by rw [List.mem_append, List.mem_append, h2 t]⟩
        rw [List.mem_singleton.1 hb]
        obtain ⟨i, hi⟩ := List.getElem?_of_mem ((h2 a).1 ha)
        rw [List.getElem?_take] at hi
        split at hi
        · rename_i him
          obtain ⟨hil, rfl⟩ := List.getElem?_eq_some_iff.1 hi
          rcases hk with hk | hk
          · omega
          · have e2 : zs.toArray[m - 1]! = zs[m - 1]'(by omega) := by simp [show m - 1 < zs.length by omega]
            rw [hz2, e2] at hk
            have q1 := hle (m - 1) (by omega) (by omega)
            have q2 : zs[i] ≤ zs[m - 1]'(by omega) := by
              rcases Nat.eq_or_lt_of_le (show i ≤ m - 1 by omega) with e | him2
              · subst e; exact Int.le_refl _
              · exact List.pairwise_iff_getElem.1 hs i (m - 1) hil (by omega) him2
            omega
        · cases hi
      · have hk' : Lib.keeps zs.toArray m = false := by unfold Lib.keeps; exact decide_eq_false hk
        rw [hk']
        have hm0 : m ≠ 0 := fun h => hk (.inl h)
        have he : zs[m] = zs[m - 1]'(by omega) := by
          have : zs.toArray[m]! = zs.toArray[m - 1]! := Classical.byContradiction fun h => hk (.inr h)
          have e2 : zs.toArray[m - 1]! = zs[m - 1]'(by omega) := by simp [show m - 1 < zs.length by omega]
          rwa [hz2, e2] at this
        refine ⟨by simpa using h1, fun t => ?_⟩
        rw [List.mem_append, List.mem_append, h2 t]
        constructor
        · rintro (h | h)
          · exact .inl h
          · simp at h
        · rintro (h | h)
          · exact .inl h
          · left
            rw [List.mem_singleton.1 h, he]
            exact List.mem_of_getElem? (i := m - 1) (by rw [List.getElem?_take, if_pos (by omega)]; exact List.getElem?_eq_getElem (by omega))
  obtain ⟨h1, h2⟩ := key zs.length (Nat.le_refl _)
  refine asc_uniq h1 (begs_asc l) fun t => ?_
  show t ∈ Lib.compactUpTo zs.toArray zs.length ↔ _
  rw [h2, List.take_length, mem_begs, hp.mem_iff, List.mem_map]
/-! Who is stored at a minute. -/
def atB (l : List St) (t : Int) (i : Nat) : Bool := match l[i]? with | some x => live t x | none => false
theorem atB_iff {l : List St} {t : Int} {i : Nat} : atB l t i = true ↔ ∃ x, l[i]? = some x ∧ live t x = true := by
  unfold atB
  cases h : l[i]? with
  | none => simp
  | some x => simp
def alive (l : List St) (t : Int) : List Nat := (List.range l.length).filter (atB l t)
theorem mem_alive {l : List St} {t : Int} {i : Nat} : i ∈ alive l t ↔ ∃ x, l[i]? = some x ∧ live t x = true := by
  unfold alive
  rw [List.mem_filter, List.mem_range, atB_iff]
  constructor
  · exact fun h => h.2
  · rintro ⟨x, hx, h⟩
    exact ⟨(List.getElem?_eq_some_iff.1 hx).1, x, hx, h⟩
theorem alive_asc (l : List St) (t : Int) : (alive l t).Pairwise (· < ·) := by
  unfold alive
  exact List.Pairwise.filter _ List.pairwise_lt_range
theorem alive_len (l : List St) (t : Int) : (alive l t).length ≤ l.length := by
  unfold alive
  exact Nat.le_trans (List.length_filter_le _ _) (by simp)
/-- As elements. -/
def incl (l : List St) (s t : Int) : Bool := l.all fun x => !live s x || live t x
theorem incl_iff {l : List St} {s t : Int} : incl l s t = true ↔ ∀ x ∈ l, live s x = true → live t x = true := by
  unfold incl
  rw [List.all_eq_true]
  constructor
  · intro h x hx hs
    have := h x hx
    rw [hs] at this; simpa using this
  · intro h x hx
    cases q : live s x
    · rfl
    · simp [h x hx q]
theorem incl_alive {l : List St} {s t : Int} : incl l s t = true ↔ ∀ i ∈ alive l s, i ∈ alive l t := by
  rw [incl_iff]
  constructor
  · intro h i hi
    obtain ⟨x, hx, hl⟩ := mem_alive.1 hi
    exact mem_alive.2 ⟨x, hx, h x (List.mem_of_getElem? hx) hl⟩
  · intro h x hx hl
    obtain ⟨i, hi⟩ := List.getElem?_of_mem hx
    obtain ⟨y, hy, k⟩ := mem_alive.1 (h i (mem_alive.2 ⟨x, hi, hl⟩))
    rw [hi] at hy; cases hy; exact k
theorem filter_sub {α : Type} {p q : α → Bool} : ∀ {l : List α}, (∀ x ∈ l, p x = true → q x = true) → (l.filter p).Sublist (l.filter q)
  | [], _ => by simp
  | x :: l, h => by
    have ih := filter_sub (l := l) fun y hy => h y (by simp [hy])
    cases hp : p x
    · cases hq : q x
      · simp [hp, hq, ih]
      · simp only [List.filter_cons, hp, hq]; exact ih.cons x
    · have hq := h x (by simp) hp
      simp only [List.filter_cons, hp, hq]; exact ih.cons_cons x
theorem alive_sub {l : List St} {s t : Int} (h : incl l s t = true) : (alive l s).Sublist (alive l t) := by
  unfold alive
  refine filter_sub fun i hi hs => ?_
  rw [List.mem_range] at hi
  have h1 := incl_alive.1 h i (List.mem_filter.2 ⟨List.mem_range.2 hi, hs⟩)
  exact (List.mem_filter.1 h1).2
theorem alive_eq {l : List St} {s t : Int} : alive l s = alive l t ↔ incl l s t = true ∧ incl l t s = true := by
  constructor
  · intro h
    exact ⟨incl_alive.2 fun i hi => by rw [← h]; exact hi, incl_alive.2 fun i hi => by rw [h]; exact hi⟩
  · rintro ⟨h1, h2⟩
    exact (alive_sub h1).eq_of_length (Nat.le_antisymm (alive_sub h1).length_le (alive_sub h2).length_le)
/-- One set is shorter and contained: the other contains it, and it does not contain the other. -/
theorem shorter_iff {l : List St} {s t : Int} : ((alive l s).length < (alive l t).length ∧ ∀ i ∈ alive l s, i ∈ alive l t) ↔ incl l s t = true ∧ incl l t s = false := by
  rw [← incl_alive]
  constructor
  · rintro ⟨h1, h2⟩
    refine ⟨h2, ?_⟩
    cases q : incl l t s
    · rfl
    · have := (alive_sub q).length_le; omega
  · rintro ⟨h1, h2⟩
    refine ⟨?_, h1⟩
    have hs := alive_sub h1
    rcases Nat.eq_or_lt_of_le hs.length_le with e | e
    · have := hs.eq_of_length e
      rw [alive_eq] at this
      rw [this.2] at h2; cases h2
    · exact e
/-! The rows. -/
def sets (l : List St) : List (List Nat) := (begs l).map (alive l)
def under (a b : List Nat) : Bool := decide (a.length < b.length) && a.all fun i => b.contains i
theorem under_iff {a b : List Nat} : under a b = true ↔ a.length < b.length ∧ ∀ i ∈ a, i ∈ b := by
  unfold under
  rw [Bool.and_eq_true, decide_eq_true_eq, List.all_eq_true]
  simp
def gone (S : List (List Nat)) (a : List Nat) : Bool := S.any fun b => under a b
def rowsR (l : List St) : List (List Nat) := (sets l).filter fun a => !gone (sets l) a
/-- In no set at another begin that is greater. -/
def maxAt (l : List St) (t : Int) : Bool := (begs l).all fun s => !incl l t s || incl l s t
theorem maxAt_iff {l : List St} {t : Int} : maxAt l t = true ↔ ∀ s ∈ begs l, incl l t s = true → incl l s t = true := by
  unfold maxAt
  rw [List.all_eq_true]
  constructor
  · intro h s hs hi
    have := h s hs
    rw [hi] at this; simpa using this
  · intro h s hs
    cases q : incl l t s
    · rfl
    · simp [h s hs q]
theorem gone_max {l : List St} {t : Int} : gone (sets l) (alive l t) = !maxAt l t := by
  rw [Bool.eq_iff_iff, Bool.not_eq_true', Bool.eq_false_iff, Ne, maxAt_iff]
  unfold gone sets
  rw [List.any_eq_true]
  constructor
  · rintro ⟨b, hb, hu⟩ h
    obtain ⟨s, hs, rfl⟩ := List.mem_map.1 hb
    obtain ⟨h1, h2⟩ := shorter_iff.1 (under_iff.1 hu)
    rw [h s hs h1] at h2; cases h2
  · intro h
    obtain ⟨s, hs⟩ := Classical.not_forall.1 h
    obtain ⟨hs, h2⟩ := Classical.not_imp.1 hs
    obtain ⟨h2, h3⟩ := Classical.not_imp.1 h2
    exact ⟨alive l s, List.mem_map.2 ⟨s, hs, rfl⟩, under_iff.2 (shorter_iff.2 ⟨h2, Bool.eq_false_iff.2 h3⟩)⟩
theorem rows_eq (l : List St) : rowsR l = ((begs l).filter (maxAt l)).map (alive l) := by
  unfold rowsR
  have : ∀ ts : List Int, (ts.map (alive l)).filter (fun a => !gone (sets l) a) = (ts.filter (maxAt l)).map (alive l) := by
    intro ts
    induction ts with
    | nil => rfl
    | cons t ts ih =>
      rw [List.map_cons, List.filter_cons, List.filter_cons, gone_max, Bool.not_not, ih]
      split <;> simp
  exact this _
/-! The same by bits. -/
def bitsOf (s : List Nat) : Nat := s.foldl (fun b i => b ||| 2 ^ i) 0
theorem bits_fold : ∀ (s : List Nat) (b i : Nat), (s.foldl (fun b i => b ||| 2 ^ i) b).testBit i = (b.testBit i || decide (i ∈ s))
  | [], b, i => by simp
  | j :: s, b, i => by
    rw [List.foldl_cons, bits_fold s, Nat.testBit_or, Nat.testBit_two_pow]
    by_cases e : i = j
    · subst e; simp
    · have e2 : ¬ j = i := fun h => e h.symm
      simp [e, e2]
theorem testBit_bits (s : List Nat) (i : Nat) : (bitsOf s).testBit i = decide (i ∈ s) := by
  unfold bitsOf; rw [bits_fold]; simp
theorem bitsOf_snoc (s : List Nat) (i : Nat) : bitsOf (s ++ [i]) = bitsOf s ||| 2 ^ i := by unfold bitsOf; rw [List.foldl_append]; rfl
theorem bits_lt {s : List Nat} {n : Nat} (h : ∀ i ∈ s, i < n) : bitsOf s < 2 ^ n := by
  apply Nat.lt_pow_two_of_testBit
  intro i hi
  rw [testBit_bits]
  exact decide_eq_false fun hm => by have := h i hm; omega
theorem bits_and {a b : List Nat} : bitsOf b &&& bitsOf a = bitsOf a ↔ ∀ i ∈ a, i ∈ b := by
  constructor
  · intro h i hi
    have := congrArg (fun n => n.testBit i) h
    simp only [Nat.testBit_and, testBit_bits] at this
    simpa [hi] using this
  · intro h
    apply Nat.eq_of_testBit_eq
    intro i
    rw [Nat.testBit_and, testBit_bits, testBit_bits]
    by_cases hi : i ∈ a
    · simp [hi, h i hi]
    · simp [hi]
theorem bits_inj {l : List St} {s t : Int} : bitsOf (alive l s) = bitsOf (alive l t) ↔ alive l s = alive l t := by
  constructor
  · intro h
    rw [alive_eq, incl_alive, incl_alive]
    have k : ∀ i, i ∈ alive l s ↔ i ∈ alive l t := fun i => by
      have := congrArg (fun n => n.testBit i) h
      simpa [testBit_bits] using this
    exact ⟨fun i => (k i).1, fun i => (k i).2⟩
  · intro h; rw [h]
/-- The reference's words for a row. -/
theorem maxAt_bits {l : List St} {t : Int} : maxAt l t = true ↔ ∀ x ∈ l, ¬ (bitsOf (alive l x.fr) ≠ bitsOf (alive l t) ∧ bitsOf (alive l x.fr) &&& bitsOf (alive l t) = bitsOf (alive l t)) := by
  rw [maxAt_iff]
  constructor
  · rintro h x hx ⟨h1, h2⟩
    rw [bits_and, ← incl_alive] at h2
    have := h x.fr (mem_begs.2 ⟨x, hx, rfl⟩) h2
    exact h1 (bits_inj.2 (alive_eq.2 ⟨this, h2⟩))
  · intro h s hs hi
    obtain ⟨x, hx, rfl⟩ := mem_begs.1 hs
    cases q : incl l x.fr t
    · exact absurd ⟨(fun e => by rw [bits_inj, alive_eq] at e; rw [e.1] at q; cases q), bits_and.2 (incl_alive.1 hi)⟩ (h x hx)
    · rfl
/-! Rows of a list, and a limit. -/
end Mem
end Go.Proofs.Ytnbjjddfcondlaa

/- What the fills of stored images are, as a list: the minutes of change, each with the fill there; step by step. -/
namespace Go.Proofs.Ytnbjjddfcondlaa
namespace Mem
def chg (l : List St) : List Int := l.foldr (fun x r => insU x.fr (insU x.to r)) []
theorem chg_asc : ∀ l : List St, (chg l).Pairwise (· < ·)
  | [] => List.Pairwise.nil
  | _ :: l => asc_insU (asc_insU (chg_asc l))
theorem mem_chg {t : Int} : ∀ {l : List St}, t ∈ chg l ↔ ∃ x ∈ l, t = x.fr ∨ t = x.to
  | [] => by simp [chg]
  | x :: l => by
    show t ∈ insU x.fr (insU x.to (chg l)) ↔ _
    rw [mem_insU, mem_insU, mem_chg (l := l)]
    constructor
    · rintro (e | e | ⟨y, hy, e⟩)
      · exact ⟨x, by simp, .inl e⟩
      · exact ⟨x, by simp, .inr e⟩
      · exact ⟨y, by simp [hy], e⟩
    · rintro ⟨y, hy, e⟩
      rcases List.mem_cons.1 hy with rfl | hy
      · rcases e with e | e
        · exact .inl e
        · exact .inr (.inl e)
      · exact .inr (.inr ⟨y, hy, e⟩)
theorem insU_len (t : Int) : ∀ r : List Int, (insU t r).length ≤ r.length + 1
  | [] => Nat.le_refl _
  | a :: r => by
    rw [insU]
    split
    · simp
    · split
      · simp
      · have := insU_len t r; simp; omega
def evL (l : List St) : List Stp := (chg l).map fun t => (t, fill l t)
theorem evL_len (l : List St) : (evL l).length = (chg l).length := by unfold evL; simp
theorem evL_fills (l : List St) : Fills l (evL l) where
  asc := by unfold evL; rw [List.pairwise_map]; exact chg_asc l
  val q hq := by unfold evL at hq; obtain ⟨t, ht, rfl⟩ := List.mem_map.1 hq; rfl
  at_ q hq := by unfold evL at hq; obtain ⟨t, ht, rfl⟩ := List.mem_map.1 hq; exact mem_chg.1 ht
  fr x hx := ⟨(x.fr, fill l x.fr), by unfold evL; exact List.mem_map.2 ⟨x.fr, mem_chg.2 ⟨x, hx, .inl rfl⟩, rfl⟩, rfl⟩
  to x hx := ⟨(x.to, fill l x.to), by unfold evL; exact List.mem_map.2 ⟨x.to, mem_chg.2 ⟨x, hx, .inr rfl⟩, rfl⟩, rfl⟩
theorem Fills.uniq {l : List St} {E F : List Stp} (h : Fills l E) (k : Fills l F) : E = F := by
  have e : E.map (·.1) = F.map (·.1) := by
    refine asc_uniq (List.pairwise_map.2 h.asc) (List.pairwise_map.2 k.asc) fun t => ?_
    have one : ∀ {A B : List Stp}, Fills l A → Fills l B → t ∈ A.map (·.1) → t ∈ B.map (·.1) := fun ha hb ht => by
      obtain ⟨q, hq, rfl⟩ := List.mem_map.1 ht
      obtain ⟨x, hx, e⟩ := ha.at_ q hq
      rcases e with e | e
      · obtain ⟨p, hp, e2⟩ := hb.fr x hx
        exact List.mem_map.2 ⟨p, hp, by rw [e2, e]⟩
      · obtain ⟨p, hp, e2⟩ := hb.to x hx
        exact List.mem_map.2 ⟨p, hp, by rw [e2, e]⟩
    exact ⟨one h k, one k h⟩
  have g : ∀ {A : List Stp}, Fills l A → A = (A.map (·.1)).map fun t => (t, fill l t) := fun {A} ha => by
    rw [List.map_map]
    refine (List.map_id A).symm.trans (List.map_congr_left fun q hq => ?_)
    show q = (q.1, fill l q.1)
    rw [← ha.val q hq]
  rw [g h, g k, e]
theorem emit_ev {l : List St} {s : List Stp} (hu : ∀ x ∈ l, okU x) (hp : s.Perm (steps l)) (hs : Srt s) : emit 0 s = evL l := (fills_of hu hp hs).uniq (evL_fills l)
/-! The steps one by one. -/
def lastAt (s : List Stp) (i : Nat) : Bool := !(decide (i + 1 < s.length) && decide ((stpN s (i + 1)).1 = (stpN s i).1))
def preS (s : List Stp) (i : Nat) : Int := sumI ((s.take i).map (·.2))
def cntS (s : List Stp) (i : Nat) : Nat := ((List.range i).filter (lastAt s)).length
theorem preS_next {s : List Stp} {i : Nat} (hi : i < s.length) : preS s (i + 1) = preS s i + (stpN s i).2 := by
  unfold preS
  rw [List.take_add_one, stpN_at hi, List.map_append, sumI_app]
  show _ + sumI [(stpN s i).2] = _
  rw [sumI_cons, sumI_nil]; omega
theorem cntS_next (s : List Stp) (i : Nat) : cntS s (i + 1) = cntS s i + if lastAt s i then 1 else 0 := by
  unfold cntS
  rw [List.range_succ, List.filter_append, List.length_append]
  cases h : lastAt s i <;> simp [h]
theorem emit_eq : ∀ (s : List Stp) (f : Int), emit f s = ((List.range s.length).filter (lastAt s)).map fun i => ((stpN s i).1, f + preS s (i + 1))
  | [], _ => rfl
  | [a], f => by
    have : lastAt [a] 0 = true := rfl
    have e2 : preS [a] 1 = a.2 := by show a.2 + 0 = a.2; omega
    show [(a.1, f + a.2)] = ((List.range 1).filter (lastAt [a])).map _
    rw [List.range_succ, List.range_zero, List.nil_append, List.filter_cons, this, if_pos rfl]
    show _ = [((stpN [a] 0).1, f + preS [a] 1)]
    rw [e2]; rfl
  | a :: b :: s, f => by
    have h1 : ∀ i, lastAt (a :: b :: s) (i + 1) = lastAt (b :: s) i := fun i => by
      unfold lastAt
      simp only [List.length_cons, Nat.add_lt_add_iff_right]
      rfl
    have h2 : ∀ i, preS (a :: b :: s) (i + 1) = a.2 + preS (b :: s) i := fun i => rfl
    have hr : (List.range (a :: b :: s).length).filter (lastAt (a :: b :: s)) = (if lastAt (a :: b :: s) 0 then [0] else []) ++ ((List.range (b :: s).length).filter (lastAt (b :: s))).map Nat.succ := by
      rw [List.length_cons, List.range_succ_eq_map, List.filter_cons, List.filter_map]
      have : (lastAt (a :: b :: s)) ∘ Nat.succ = lastAt (b :: s) := funext h1
      rw [this]
      split <;> rfl
    have hm : (((List.range (b :: s).length).filter (lastAt (b :: s))).map Nat.succ).map (fun i => ((stpN (a :: b :: s) i).1, f + preS (a :: b :: s) (i + 1))) = emit (f + a.2) (b :: s) := by
      rw [emit_eq (b :: s), List.map_map]
      refine List.map_congr_left fun i _ => ?_
      show ((stpN (a :: b :: s) (i + 1)).1, f + preS (a :: b :: s) (i + 1 + 1)) = _
      rw [h2, show stpN (a :: b :: s) (i + 1) = stpN (b :: s) i from rfl]
      congr 1; omega
    rw [hr, List.map_append, hm, emit]
    by_cases hb : b.1 = a.1
    · have : lastAt (a :: b :: s) 0 = false := by
        unfold lastAt
        have e0 : stpN (a :: b :: s) (0 + 1) = b := rfl
        have e1 : stpN (a :: b :: s) 0 = a := rfl
        rw [e0, e1, decide_eq_true hb, decide_eq_true (by simp)]; rfl
      rw [if_pos hb, this]; rfl
    · have : lastAt (a :: b :: s) 0 = true := by
        unfold lastAt
        have e0 : stpN (a :: b :: s) (0 + 1) = b := rfl
        have e1 : stpN (a :: b :: s) 0 = a := rfl
        rw [e0, e1, decide_eq_false hb]; simp
      have e2 : preS (a :: b :: s) (0 + 1) = a.2 := by show a.2 + 0 = a.2; omega
      rw [if_neg hb, this, if_pos rfl]
      show _ = ((stpN (a :: b :: s) 0).1, f + preS (a :: b :: s) (0 + 1)) :: _
      rw [e2]; rfl
theorem filter_range_at {p : Nat → Bool} : ∀ {n i : Nat}, i < n → p i = true → ((List.range n).filter p)[((List.range i).filter p).length]? = some i
  | 0, i, h, _ => by omega
  | n + 1, i, h, hp => by
    rw [List.range_succ, List.filter_append]
    rcases Nat.eq_or_lt_of_le (show i ≤ n by omega) with rfl | hi
    · rw [List.getElem?_append_right (Nat.le_refl _), Nat.sub_self]
      simp [hp]
    · have := filter_range_at hi hp
      rw [List.getElem?_append_left (List.getElem?_eq_some_iff.1 this).1]; exact this
/-- What is yielded at a step that is the last one at its minute. -/
theorem emit_step {l : List St} {s : List Stp} (hu : ∀ x ∈ l, okU x) (hp : s.Perm (steps l)) (hs : Srt s) {i : Nat} (hi : i < s.length) (hl : lastAt s i = true) : (evL l)[cntS s i]? = some ((stpN s i).1, preS s (i + 1)) := by
  rw [← emit_ev hu hp hs, emit_eq, List.getElem?_map]
  unfold cntS
  rw [filter_range_at hi hl]
  show some ((stpN s i).1, 0 + preS s (i + 1)) = _
  rw [Int.zero_add]
theorem cnt_all {l : List St} {s : List Stp} (hu : ∀ x ∈ l, okU x) (hp : s.Perm (steps l)) (hs : Srt s) : cntS s s.length = (evL l).length := by
  rw [← emit_ev hu hp hs, emit_eq, List.length_map]; rfl
theorem cnt_lt {l : List St} {s : List Stp} (hu : ∀ x ∈ l, okU x) (hp : s.Perm (steps l)) (hs : Srt s) {i : Nat} (hi : i < s.length) (hl : lastAt s i = true) : cntS s i < (evL l).length := (List.getElem?_eq_some_iff.1 (emit_step hu hp hs hi hl)).1
/-- The sums are small. -/
theorem sum_bd {c : Int} (hc : 0 ≤ c) : ∀ {s : List Stp}, (∀ p ∈ s, -c ≤ p.2 ∧ p.2 ≤ c) → -(c * s.length) ≤ sumI (s.map (·.2)) ∧ sumI (s.map (·.2)) ≤ c * s.length
  | [], _ => by show -(c * 0) ≤ 0 ∧ 0 ≤ c * 0; omega
  | p :: s, h => by
    have h1 := h p (by simp)
    have h2 := sum_bd hc (s := s) fun q hq => h q (by simp [hq])
    rw [List.map_cons, sumI_cons, List.length_cons]
    have : c * ((s.length + 1 : Nat) : Int) = c * s.length + c := by rw [Int.natCast_add, Int.mul_add]; omega
    omega
theorem preS_bd {l : List St} {s : List Stp} (hb : ∀ x ∈ l, 1 ≤ x.un ∧ x.un ≤ 1000000) (hl : l.length ≤ 24) (hp : s.Perm (steps l)) (i : Nat) : -48000000 ≤ preS s i ∧ preS s i ≤ 48000000 := by
  have h1 : ∀ p ∈ s.take i, -1000000 ≤ p.2 ∧ p.2 ≤ 1000000 := fun p hp' => by
    obtain ⟨x, hx, h⟩ := mem_steps.1 (hp.mem_iff.1 (List.mem_of_mem_take hp'))
    have := hb x hx
    rcases h with rfl | rfl
    · exact ⟨by show -1000000 ≤ x.un; omega, by show x.un ≤ 1000000; omega⟩
    · exact ⟨by show -1000000 ≤ -x.un; omega, by show -x.un ≤ 1000000; omega⟩
  have h2 := sum_bd (c := 1000000) (by omega) h1
  have h3 : (s.take i).length ≤ 48 := by
    have := hp.length_eq
    rw [steps_len] at this
    rw [List.length_take]; omega
  unfold preS
  omega
theorem step_bd {l : List St} {s : List Stp} (hb : ∀ x ∈ l, (1 ≤ x.un ∧ x.un ≤ 1000000) ∧ 0 ≤ x.fr ∧ x.fr < x.to ∧ x.to ≤ 1000001) (hp : s.Perm (steps l)) {i : Nat} (hi : i < s.length) : (0 ≤ (stpN s i).1 ∧ (stpN s i).1 ≤ 1000001) ∧ -1000000 ≤ (stpN s i).2 ∧ (stpN s i).2 ≤ 1000000 := by
  obtain ⟨x, hx, h⟩ := mem_steps.1 (hp.mem_iff.1 (List.mem_of_getElem? (stpN_at hi)))
  have := hb x hx
  rcases h with h | h <;> rw [h] <;> simp only [] <;> omega
end Mem
/-- What is yielded, as values. -/
def encF (l : List Mem.St) (k : Nat) : List Value := [.int .i64 (stpN (Mem.evL l) k).1, .int .i64 (stpN (Mem.evL l) k).2]
theorem yield_at {F : Fence} {m g k : Nat} {W : World} {l : List Mem.St} {t f : Int} {Q : Ending → World → Prop} (h : YieldAt F m Try.prog g (encF l k).toArray W Q) (hG : (Mem.evL l)[k]? = some (t, f)) : YieldAt F m Try.prog g #[.int .i64 t, .int .i64 f] W Q := by
  have : stpN (Mem.evL l) k = (t, f) := by unfold stpN; rw [hG]; rfl
  unfold encF at h; rw [this] at h; exact h
end Go.Proofs.Ytnbjjddfcondlaa

/- Contracts of package memory: what fills yields. -/
namespace Go.Proofs.Ytnbjjddfcondlaa
open Go.RowKit

set_option maxRecDepth 1000000 in
set_option maxHeartbeats 4000000 in
theorem fills_c (a : Option Addr) (n c : Nat) (w : World) : Calls Try.prog 33 #[.slice a n c] w fun e w' => ∃ B, e = .returned (.func (.func 51) #[] #[.pointer (some ⟨B, 0, none⟩)]) ∧ w.heap.size ≤ B ∧ w'.cell? ⟨B, 0, none⟩ = some (.slice a n c) ∧ Ext w w' := by
  refine calls_cw 4 [(0, .slice a n c)] Try.func33 rfl Try.ntmps33 (by kernel_rfl) (by kernel_rfl) (fun L => ?_)
  have hE : Ext w w := Ext.refl w
  refine cw_seq ?_
  refine cw_plain ?_
  refine pl_step rfl (by kernel_rfl) (by kernel_rfl) (by kernel_rfl) (sn_new (us := #[.slice a n c]) (t := 27) (by kernel_rfl) ?_)
  intro O1 X2 hO hOs hb hbx
  have hzO1 := hO; have hyO1 := hOs; clear hO hOs
  have bO1_0 : BoxAt X2 O1 0 (.slice a n c) := hbx 0 _ rfl
  clear hbx
  replace hE := hE.trans hb
  have hs3 := hb.size
  clear hb
  have lt4 := bO1_0.lt
  refine pT (Value.nilFunc) ?_
  refine pl_nil ?_
  refine qw_then ?_
  refine cw_seq ?_
  refine cw_plain ?_
  refine pT (.func (.func 51) #[] #[.pointer (some ⟨O1, 0, none⟩)]) ?_
  refine pT (.func (.func 51) #[] #[.pointer (some ⟨O1, 0, none⟩)]) ?_
  refine pl_nil ?_
  refine qw_then ?_
  refine cw_ret ?_
  refine qw_ret [.func (.func 51) #[] #[.pointer (some ⟨O1, 0, none⟩)]] rfl ⟨(by kernel_rfl), trivial⟩ ?_
  exact ⟨O1, rfl, (Nat.le_of_eq hzO1), bO1_0.1, hE⟩
set_option maxRecDepth 1000000 in
set_option maxHeartbeats 4000000 in
theorem fills_seq {a : Option Addr} {n c B : Nat} {l : List Mem.St} {X : Nat → Prop} {w0 w1 : World} (hL : StsAt w0 a n l) (hok : Mem.okL l = true) (e0 : Ext w0 w1) (cB : w1.cell? ⟨B, 0, none⟩ = some (.slice a n c)) (hX2 : ∀ k, X k → k < w1.heap.size) :
    SeqN Try.prog 51 #[.pointer (some ⟨B, 0, none⟩)] (Mem.chg l).length (encF l) (fun _ _ => True) X w1 := by
  intro l9 J Jx w hW hJst hJxst hY hJ0 n9
  replace cB := hW.cell cB
  have hln := hL.1
  have hmx := hL.2.1
  have hll := Mem.okL_len hok
  have hu := Mem.okL_u hok
  have hW0 := hW.size
  have e0W := e0.trans hW
  have hs0 := e0W.size
  obtain ⟨bs, os, ha, hbl, hx⟩ := hL.parts
  refine icalls 68 [(1, .pointer (some ⟨B, 0, none⟩)), (0, .func (.yield l9) #[] #[])] Try.func51 rfl Try.ntmps51 (by kernel_rfl) (by kernel_rfl) (fun L mm => ?_)
  have hE : Ext w w := Ext.refl w
  refine icw_seq ?_
  refine icw_plain ?_
  refine ipl_take (.slice none 0 0) rfl (by kernel_rfl) (by kernel_rfl) (by kernel_rfl) (by kernel_rfl) ?_
  refine ipl_nil ?_
  refine iqw_then ?_
  refine icw_seq ?_
  refine icw_seq ?_
  refine icw_plain ?_
  refine ipl_take (.slice a n c) rfl (by kernel_rfl) (by kernel_rfl) (by kernel_rfl) (ex_load rfl (by kernel_rfl) (ld27 (cB))) ?_
  refine ipl_take (.int .i64 (((n : Nat) : Int) : Int)) rfl (by kernel_rfl) (by kernel_rfl) (by kernel_rfl) (by kernel_rfl) ?_
  refine ipl_take (.int .i64 0) rfl (by kernel_rfl) (by kernel_rfl) (by kernel_rfl) (by kernel_rfl) ?_
  refine ipl_nil ?_
  refine iqw_then ?_
  refine icw_block ?_
  refine icw_loop [0, 3, 9, 10, 11] (fun ws' wr m => ∃ i : Nat, ∃ a9 : Option Addr, ∃ c9 : Nat, ws' = [(0, .func (.yield l9) #[] #[]), (3, .slice a9 (2 * i) c9), (9, .slice a n c), (10, .int .i64 (((n : Nat) : Int) : Int)), (11, .int .i64 (((i : Nat) : Int) : Int))] ∧ m = n - i ∧ w.heap.size ≤ wr.heap.size ∧ Ext w0 wr ∧ Ext w wr ∧ OwnL stpR w.heap.size 86 2 (.slice a9 (2 * i) c9) wr (Mem.steps (l.take i)) ∧ i ≤ n ∧ (Mem.steps (l.take i)).length = 2 * i) (ws0 := [(0, .func (.yield l9) #[] #[]), (3, .slice none 0 0), (9, .slice a n c), (10, .int .i64 (((n : Nat) : Int) : Int)), (11, .int .i64 0)]) (by kernel_rfl) _ ⟨0, none, 0, rfl, rfl, Nat.le_refl _, e0W, hE, OwnL.nil _ _ _ _ _, Nat.zero_le _, rfl⟩ ?_
  clear e0W hE
  rintro m3 L ws w2 ⟨i, a9, c9, rfl, rfl, hs1, e0W, hE, own9, hi, htk⟩
  by_cases hlt : i < n
  ·
    obtain rfl := ha (by omega)
    obtain ⟨q4, q5, q6, q7⟩ := hx i hlt
    have hbk9 := own9.lt
    have hxb := Mem.okL_at hok (stN_mem (l := l) (i := i) (by omega))
    have hstp : Mem.steps (l.take (i + 1)) = Mem.steps (l.take i) ++ [((stN l i).fr, (stN l i).un), ((stN l i).to, -(stN l i).un)] := by rw [stN_take (by omega), Mem.steps_snoc]
    refine icw_seq ?_
    refine icw_plain ?_
    refine ipl_take (.bool true) rfl (by kernel_rfl) (by kernel_rfl) (by kernel_rfl) (ev_dec (show _ = Result.ok (Next.value (Value.bool (decide ((((i : Nat) : Int) : Int) < (((n : Nat) : Int) : Int))))) _ from by kernel_rfl) (by omega)) ?_
    refine ipl_nil ?_
    refine iqw_then ?_
    refine icw_seq ?_
    refine icw_t (by kernel_rfl) ?_
    refine icw_skip ?_
    refine iqw_then ?_
    refine icw_seq ?_
    refine icw_block ?_
    refine icw_seq ?_
    refine icw_plain ?_
    refine ipl_take (.pointer (some ⟨bs, os + i * 4, none⟩)) rfl (by kernel_rfl) (by kernel_rfl) (by kernel_rfl) (ex_index (p := .slice (some ⟨bs, os, none⟩) n c) (i := .int .i64 ((i : Nat) : Int)) rfl (by kernel_rfl) (by kernel_rfl) (ix27 (k := i) (by omega))) ?_
    refine ipl_take (.agg #[.int .i64 ((stN l i).im : Int), .int .i64 ((stN l i).un : Int), .int .i64 ((stN l i).fr : Int), .int .i64 ((stN l i).to : Int)]) rfl (by kernel_rfl) (by kernel_rfl) (by kernel_rfl) (ex_load rfl (by kernel_rfl) (ld26 ((e0W.cell q4)) ((e0W.cell q5)) ((e0W.cell q6)) ((e0W.cell q7)))) ?_
    refine ipl_step rfl (by kernel_rfl) (by kernel_rfl) (by kernel_rfl) (sn_new (us := #[.int .i64 0, .int .i64 0, .int .i64 0, .int .i64 0]) (t := 26) (by kernel_rfl) ?_)
    intro O8 X9 hO hOs hb hbx
    have hzO8 := hO; have hyO8 := hOs; clear hO hOs
    have bO8_0 : BoxAt X9 O8 0 (.int .i64 0) := hbx 0 _ rfl
    have bO8_1 : BoxAt X9 O8 1 (.int .i64 0) := hbx 1 _ rfl
    have bO8_2 : BoxAt X9 O8 2 (.int .i64 0) := hbx 2 _ rfl
    have bO8_3 : BoxAt X9 O8 3 (.int .i64 0) := hbx 3 _ rfl
    clear hbx
    replace e0W := e0W.trans hb
    replace hE := hE.trans hb
    replace own9 := own9.ext hb
    have hs10 := hb.size
    clear hb
    have lt11 := bO8_0.lt
    refine ipl_put rfl (by kernel_rfl) (by kernel_rfl) (sn_setK4 (O := O8) (j := 0) (v0 := .int .i64 ((stN l i).im : Int)) (v1 := .int .i64 ((stN l i).un : Int)) (v2 := .int .i64 ((stN l i).fr : Int)) (v3 := .int .i64 ((stN l i).to : Int)) (ex_store (p := .pointer (some ⟨O8, 0, none⟩)) (v := .agg #[.int .i64 ((stN l i).im : Int), .int .i64 ((stN l i).un : Int), .int .i64 ((stN l i).fr : Int), .int .i64 ((stN l i).to : Int)]) rfl (by kernel_rfl) (by kernel_rfl) (st26 bO8_0.1 bO8_0.2 bO8_1.1 bO8_1.2 bO8_2.1 bO8_2.2 bO8_3.1 bO8_3.2)) bO8_0 bO8_1 bO8_2 bO8_3 ?_)
    intro X12 ho hv0 hv1 hv2 hv3 hk
    replace e0W := ho.ext e0W (Nat.le_trans (Nat.le_trans hs0 hs1) (Nat.le_of_eq hzO8))
    replace hE := ho.ext hE (Nat.le_trans hs1 (Nat.le_of_eq hzO8))
    replace own9 := own9.turn ho (own_not2 hbk9 (Nat.le_of_eq hzO8)) (fun _ _ _ h => by rw [h.2]; exact fun b hb => by cases hb)
    have hs13 : X9.heap.size ≤ X12.heap.size := Nat.le_of_eq ho.size.symm
    clear ho hk bO8_0 bO8_1 bO8_2 bO8_3
    have bO8_0 := hv0; clear hv0
    have bO8_1 := hv1; clear hv1
    have bO8_2 := hv2; clear hv2
    have bO8_3 := hv3; clear hv3
    refine ipl_nil ?_
    refine iqw_then ?_
    refine icw_plain ?_
    refine ipl_take (.slice a9 (2 * i) c9) rfl (by kernel_rfl) (by kernel_rfl) (by kernel_rfl) (by kernel_rfl) ?_
    refine ipl_take (.pointer (some ⟨O8, 2, none⟩)) rfl (by kernel_rfl) (by kernel_rfl) (by kernel_rfl) (by kernel_rfl) ?_
    refine ipl_take (.pointer (some ⟨O8, 2, none⟩)) rfl (by kernel_rfl) (by kernel_rfl) (by kernel_rfl) (by kernel_rfl) ?_
    refine ipl_take (.int .i64 ((stN l i).fr : Int)) rfl (by kernel_rfl) (by kernel_rfl) (by kernel_rfl) (ex_load rfl (by kernel_rfl) (ld3 (bO8_2.1))) ?_
    refine ipl_take (.pointer (some ⟨O8, 1, none⟩)) rfl (by kernel_rfl) (by kernel_rfl) (by kernel_rfl) (by kernel_rfl) ?_
    refine ipl_take (.int .i64 ((stN l i).un : Int)) rfl (by kernel_rfl) (by kernel_rfl) (by kernel_rfl) (ex_load rfl (by kernel_rfl) (ld3 (bO8_1.1))) ?_
    refine ipl_take (.agg #[.int .i64 ((stN l i).fr : Int), .int .i64 ((stN l i).un : Int)]) rfl (by kernel_rfl) (by kernel_rfl) (by kernel_rfl) (by kernel_rfl) ?_
    refine ipl_take (.pointer (some ⟨O8, 2, none⟩)) rfl (by kernel_rfl) (by kernel_rfl) (by kernel_rfl) (by kernel_rfl) ?_
    refine ipl_take (.pointer (some ⟨O8, 3, none⟩)) rfl (by kernel_rfl) (by kernel_rfl) (by kernel_rfl) (by kernel_rfl) ?_
    refine ipl_take (.int .i64 ((stN l i).to : Int)) rfl (by kernel_rfl) (by kernel_rfl) (by kernel_rfl) (ex_load rfl (by kernel_rfl) (ld3 (bO8_3.1))) ?_
    refine ipl_take (.pointer (some ⟨O8, 1, none⟩)) rfl (by kernel_rfl) (by kernel_rfl) (by kernel_rfl) (by kernel_rfl) ?_
    refine ipl_take (.int .i64 ((stN l i).un : Int)) rfl (by kernel_rfl) (by kernel_rfl) (by kernel_rfl) (ex_load rfl (by kernel_rfl) (ld3 (bO8_1.1))) ?_
    refine ipl_take (.int .i64 (-((stN l i).un) : Int)) rfl (by kernel_rfl) (by kernel_rfl) (by kernel_rfl) (ev_int (ev_wrap (a := 0 - ((stN l i).un)) (by kernel_rfl) (by omega) (by omega)) (by omega)) ?_
    refine ipl_take (.agg #[.int .i64 ((stN l i).to : Int), .int .i64 (-((stN l i).un) : Int)]) rfl (by kernel_rfl) (by kernel_rfl) (by kernel_rfl) (by kernel_rfl) ?_
    refine ipl_step rfl (by kernel_rfl) (by kernel_rfl) (by kernel_rfl) (sn_newS (us := #[.int .i64 ((stN l i).fr : Int), .int .i64 ((stN l i).un : Int), .int .i64 ((stN l i).to : Int), .int .i64 (-((stN l i).un) : Int)]) (t := 86) (k := 2) (c := 2) (by kernel_rfl) ?_)
    intro O14 X15 hO hOs hb hbx
    have hzO14 := hO; have hyO14 := hOs; clear hO hOs
    have bO14_0 : BoxAt X15 O14 0 (.int .i64 ((stN l i).fr : Int)) := hbx 0 _ rfl
    have bO14_1 : BoxAt X15 O14 1 (.int .i64 ((stN l i).un : Int)) := hbx 1 _ rfl
    have bO14_2 : BoxAt X15 O14 2 (.int .i64 ((stN l i).to : Int)) := hbx 2 _ rfl
    have bO14_3 : BoxAt X15 O14 3 (.int .i64 (-((stN l i).un) : Int)) := hbx 3 _ rfl
    clear hbx
    replace e0W := e0W.trans hb
    replace hE := hE.trans hb
    replace own9 := own9.ext hb
    replace bO8_0 := BoxAt.ext hb bO8_0
    replace bO8_1 := BoxAt.ext hb bO8_1
    replace bO8_2 := BoxAt.ext hb bO8_2
    replace bO8_3 := BoxAt.ext hb bO8_3
    have hs16 := hb.size
    clear hb
    have lt17 := bO14_0.lt
    have hbs28 := own9.base
    obtain ⟨g18, cap19, w20, hrun21, own22, hgr23, hgb24⟩ := own_appMk (P := Try.prog) (ty := 84) stpT (own9) (Nat.le_trans hs1 (Nat.le_trans hs10 (Nat.le_trans hs13 hs16))) (k := 2 * i) htk (O := O14) (c := 2) (m := 2) (xs := [((stN l i).fr, (stN l i).un), ((stN l i).to, -(stN l i).un)]) (ds := [[.int .i64 ((stN l i).fr : Int), .int .i64 ((stN l i).un : Int)], [.int .i64 ((stN l i).to : Int), .int .i64 (-((stN l i).un) : Int)]]) rfl (by omega) rfl (by intro d hd; simp at hd; rcases hd with rfl | rfl <;> rfl) (cells4 (bO14_0.1) (bO14_1.1) (bO14_2.1) (bO14_3.1)) (by intro d hd u hu; simp at hd; rcases hd with rfl | rfl <;> (simp at hu; rcases hu with rfl | rfl <;> rfl)) (by intro j x d hx hd; match j, hx, hd with | 0, hx, hd => (cases hx; cases hd; exact ⟨[], ⟨rfl, rfl⟩, fun b hb => by cases hb⟩) | 1, hx, hd => (cases hx; cases hd; exact ⟨[], ⟨rfl, rfl⟩, fun b hb => by cases hb⟩) | _ + 2, hx, _ => simp at hx) (by omega) (by omega)
    refine ipl_step rfl (by kernel_rfl) (by kernel_rfl) (by kernel_rfl) (sn_eff (v := .slice (some ⟨g18, 0, none⟩) (2 * i + 2) cap19) (w' := w20) (ex_append rfl (by kernel_rfl) (by kernel_rfl) hrun21) ?_)
    replace bO8_0 := BoxAt.grownR bO8_0 hgb24 (own_not2 hbk9 (Nat.le_of_eq hzO8))
    replace bO8_1 := BoxAt.grownR bO8_1 hgb24 (own_not2 hbk9 (Nat.le_of_eq hzO8))
    replace bO8_2 := BoxAt.grownR bO8_2 hgb24 (own_not2 hbk9 (Nat.le_of_eq hzO8))
    replace bO8_3 := BoxAt.grownR bO8_3 hgb24 (own_not2 hbk9 (Nat.le_of_eq hzO8))
    replace bO14_0 := BoxAt.grownR bO14_0 hgb24 (own_not2 hbk9 (Nat.le_trans (Nat.le_trans hs10 hs13) (Nat.le_of_eq hzO14)))
    replace bO14_1 := BoxAt.grownR bO14_1 hgb24 (own_not2 hbk9 (Nat.le_trans (Nat.le_trans hs10 hs13) (Nat.le_of_eq hzO14)))
    replace bO14_2 := BoxAt.grownR bO14_2 hgb24 (own_not2 hbk9 (Nat.le_trans (Nat.le_trans hs10 hs13) (Nat.le_of_eq hzO14)))
    replace bO14_3 := BoxAt.grownR bO14_3 hgb24 (own_not2 hbk9 (Nat.le_trans (Nat.le_trans hs10 hs13) (Nat.le_of_eq hzO14)))
    replace e0W := hgr23.ext _ e0W hs0
    replace hE := hgr23.ext _ hE (Nat.le_refl _)
    have hs25 := hgr23.size
    have hl26 := own22.base g18 rfl; have hh27 := own22.lt g18 rfl
    refine ipl_take (.slice (some ⟨g18, 0, none⟩) (2 * i + 2) cap19) rfl (by kernel_rfl) (by kernel_rfl) (by kernel_rfl) (by kernel_rfl) ?_
    refine ipl_nil ?_
    refine iqw_block ?_
    refine iqw_then ?_
    refine icw_clean [0, 3, 9, 10, 11] (ws' := [(0, .func (.yield l9) #[] #[]), (3, .slice (some ⟨g18, 0, none⟩) (2 * i + 2) cap19), (9, .slice (some ⟨bs, os, none⟩) n c), (10, .int .i64 (((n : Nat) : Int) : Int)), (11, .int .i64 (((i : Nat) : Int) : Int))]) (by kernel_rfl) (fun L => ?_)
    refine icw_plain ?_
    refine ipl_take (.int .i64 (((i + 1 : Nat) : Int) : Int)) rfl (by kernel_rfl) (by kernel_rfl) (by kernel_rfl) (ev_wrap (by kernel_rfl) (by omega) (by omega)) ?_
    refine ipl_take (.int .i64 (((i + 1 : Nat) : Int) : Int)) rfl (by kernel_rfl) (by kernel_rfl) (by kernel_rfl) (by kernel_rfl) ?_
    refine ipl_nil ?_
    refine iqw_round [0, 3, 9, 10, 11] (ws' := [(0, .func (.yield l9) #[] #[]), (3, .slice (some ⟨g18, 0, none⟩) (2 * i + 2) cap19), (9, .slice (some ⟨bs, os, none⟩) n c), (10, .int .i64 (((n : Nat) : Int) : Int)), (11, .int .i64 (((i + 1 : Nat) : Int) : Int))]) (by kernel_rfl) _ ?_ ⟨(i + 1), (some ⟨g18, 0, none⟩), cap19, rfl, rfl, (Nat.le_trans hs1 (Nat.le_trans hs10 (Nat.le_trans hs13 (Nat.le_trans hs16 hs25)))), e0W, hE, (by rw [hstp]; exact own22), by omega, (by rw [Mem.steps_len, List.length_take]; omega)⟩
    omega
  ·
    have hin : i = n := by omega
    rw [show l.take i = l from List.take_of_length_le (by omega)] at own9 htk
    refine icw_seq ?_
    refine icw_plain ?_
    refine ipl_take (.bool false) rfl (by kernel_rfl) (by kernel_rfl) (by kernel_rfl) (ev_ndec (show _ = Result.ok (Next.value (Value.bool (decide ((((i : Nat) : Int) : Int) < (((n : Nat) : Int) : Int))))) _ from by kernel_rfl) (by omega)) ?_
    refine ipl_nil ?_
    refine iqw_then ?_
    refine icw_seq ?_
    refine icw_f (by kernel_rfl) ?_
    refine icw_exit ?_
    refine iqw_then_exit ?_
    refine iqw_then_exit ?_
    refine iqw_block_out ?_
    refine iqw_then ?_
    refine icw_seq ?_
    refine icw_plain ?_
    refine ipl_take (.slice a9 (2 * i) c9) rfl (by kernel_rfl) (by kernel_rfl) (by kernel_rfl) (by kernel_rfl) ?_
    have hob9 := own9.base
    refine ipl_step rfl (by kernel_rfl) (by kernel_rfl) (by kernel_rfl) (sn_call (f := 52) (args := #[.slice a9 (2 * i) c9, .func (.func 53) #[] #[]]) (by kernel_rfl) ((Sort_c _ (own9) htk (by omega)).mono ?_))
    rintro e w30 ⟨rfl, hP9⟩
    obtain ⟨s, hp9, hs9, hr9, hU9, hz9⟩ := hP9
    replace e0W := hU9 _ e0W hs0
    replace hE := hU9 _ hE (Nat.le_refl _)
    have hs31 := hz9
    have hsl : s.length = 2 * n := by rw [hp9.length_eq, htk, hin]
    have hcn := Mem.cnt_all hu hp9 hs9
    have hX32 : Ext w30 w30 := Ext.refl _
    refine ⟨_, rfl, ?_⟩
    refine ipl_nil ?_
    refine iqw_then ?_
    refine icw_seq ?_
    refine icw_plain ?_
    refine ipl_take (.int .i64 0) rfl (by kernel_rfl) (by kernel_rfl) (by kernel_rfl) (by kernel_rfl) ?_
    refine ipl_nil ?_
    refine iqw_then ?_
    refine icw_seq ?_
    refine icw_plain ?_
    refine ipl_take (.slice a9 (2 * i) c9) rfl (by kernel_rfl) (by kernel_rfl) (by kernel_rfl) (by kernel_rfl) ?_
    refine ipl_take (.int .i64 (((2 * i : Nat) : Int) : Int)) rfl (by kernel_rfl) (by kernel_rfl) (by kernel_rfl) (by kernel_rfl) ?_
    refine ipl_take (.int .i64 0) rfl (by kernel_rfl) (by kernel_rfl) (by kernel_rfl) (by kernel_rfl) ?_
    refine ipl_nil ?_
    refine iqw_then ?_
    refine icw_block ?_
    have hJs33 := hJst _ _ _ hJ0 hE
    have hrw := hr9.ext (Ext.refl _)
    obtain ⟨b2, ha2, hx2⟩ := hrw.parts
    have hkq34 : KeptX X w30 w30 := KeptX.of_mv (n₀ := 0) (Mv.refl _ _)
    have cBt35 := (hE.cell cB)
    refine icw_loop [0, 3, 6, 34, 35, 36] (fun ws' wr m => ∃ j : Nat, ws' = [(0, .func (.yield l9) #[] #[]), (3, .slice a9 (2 * i) c9), (6, .int .i64 (Mem.preS s j : Int)), (34, .slice a9 (2 * i) c9), (35, .int .i64 (((2 * i : Nat) : Int) : Int)), (36, .int .i64 (((j : Nat) : Int) : Int))] ∧ m = 2 * n - j ∧ w30.heap.size ≤ wr.heap.size ∧ KeptX X w30 wr ∧ J (Mem.cntS s j) wr ∧ j ≤ 2 * n) (ws0 := [(0, .func (.yield l9) #[] #[]), (3, .slice a9 (2 * i) c9), (6, .int .i64 0), (34, .slice a9 (2 * i) c9), (35, .int .i64 (((2 * i : Nat) : Int) : Int)), (36, .int .i64 0)]) (by kernel_rfl) _ ⟨0, rfl, rfl, Nat.le_refl _, hkq34, hJs33, Nat.zero_le _⟩ ?_
    clear cBt35
    rintro m38 L ws w37 ⟨j, rfl, rfl, hs36, hkq9, hJ9, hi2⟩
    have hX39 : Ext w37 w37 := Ext.refl _
    by_cases hlt : j < 2 * n
    ·
      obtain rfl := ha2 (by omega)
      have hb2 := hob9 b2 rfl
      have hnXc : ¬ X b2 := fun hx => absurd (hX2 _ hx) (Nat.not_lt_of_le (Nat.le_trans hW0 hb2))
      have hpre := Mem.preS_next (s := s) (i := j) (by omega)
      have hpb := Mem.preS_bd (fun x hx => (Mem.okL_at hok hx).2.1) hll hp9 j
      have hpb1 := Mem.preS_bd (fun x hx => (Mem.okL_at hok hx).2.1) hll hp9 (j + 1)
      have hsb := Mem.step_bd (fun x hx => (Mem.okL_at hok hx).2) hp9 (i := j) (by omega)
      have hcx := Mem.cntS_next s j
      obtain ⟨d0, d1⟩ := hx2 j (by omega)
      replace d0 := hkq9.cell hnXc d0
      replace d1 := hkq9.cell hnXc d1
      have hbcl : b2 < w37.heap.size := World.block_lt_of_cell? _ _ d0
      refine icw_seq ?_
      refine icw_plain ?_
      refine ipl_take (.bool true) rfl (by kernel_rfl) (by kernel_rfl) (by kernel_rfl) (ev_dec (show _ = Result.ok (Next.value (Value.bool (decide ((((j : Nat) : Int) : Int) < (((2 * i : Nat) : Int) : Int))))) _ from by kernel_rfl) (by omega)) ?_
      refine ipl_nil ?_
      refine iqw_then ?_
      refine icw_seq ?_
      refine icw_t (by kernel_rfl) ?_
      refine icw_skip ?_
      refine iqw_then ?_
      refine icw_seq ?_
      refine icw_block ?_
      refine icw_seq ?_
      refine icw_plain ?_
      refine ipl_take (.int .i64 (((j : Nat) : Int) : Int)) rfl (by kernel_rfl) (by kernel_rfl) (by kernel_rfl) (by kernel_rfl) ?_
      refine ipl_take (.pointer (some ⟨b2, j * 2, none⟩)) rfl (by kernel_rfl) (by kernel_rfl) (by kernel_rfl) (ex_index (p := .slice (some ⟨b2, 0, none⟩) (2 * i) c9) (i := .int .i64 ((j : Nat) : Int)) rfl (by kernel_rfl) (by kernel_rfl) (ix84z (k := j) (by omega))) ?_
      refine ipl_take (.agg #[.int .i64 ((stpN s j).1 : Int), .int .i64 ((stpN s j).2 : Int)]) rfl (by kernel_rfl) (by kernel_rfl) (by kernel_rfl) (ex_load rfl (by kernel_rfl) (ld86 (d0) (d1))) ?_
      refine ipl_step rfl (by kernel_rfl) (by kernel_rfl) (by kernel_rfl) (sn_new (us := #[.int .i64 0, .int .i64 0]) (t := 86) (by kernel_rfl) ?_)
      intro O40 X41 hO hOs hb hbx
      have hzO40 := hO; have hyO40 := hOs; clear hO hOs
      have bO40_0 : BoxAt X41 O40 0 (.int .i64 0) := hbx 0 _ rfl
      have bO40_1 : BoxAt X41 O40 1 (.int .i64 0) := hbx 1 _ rfl
      clear hbx
      replace hX39 := hX39.trans hb
      replace hkq9 := hkq9.trans (KeptX.of_mv (n₀ := 0) (Mv.of_ext hb))
      replace d0 := hb.cell d0
      replace d1 := hb.cell d1
      have hs42 := hb.size
      clear hb
      have lt43 := bO40_0.lt
      refine ipl_take (.int .i64 (((j : Nat) : Int) : Int)) rfl (by kernel_rfl) (by kernel_rfl) (by kernel_rfl) (by kernel_rfl) ?_
      refine ipl_put rfl (by kernel_rfl) (by kernel_rfl) (sn_set2 (O := O40) (j := 0) (v := .int .i64 ((stpN s j).1 : Int)) (v' := .int .i64 ((stpN s j).2 : Int)) (ex_store (p := .pointer (some ⟨O40, 0, none⟩)) (v := .agg #[.int .i64 ((stpN s j).1 : Int), .int .i64 ((stpN s j).2 : Int)]) rfl (by kernel_rfl) (by kernel_rfl) (st86 bO40_0.1 bO40_0.2 bO40_1.1 bO40_1.2)) bO40_0 bO40_1 ?_)
      intro X44 ho hv0 hv1 hk
      replace hX39 := ho.ext hX39 (Nat.le_of_eq hzO40)
      replace hkq9 := hkq9.turn ho (Nat.le_trans hs36 (Nat.le_of_eq hzO40))
      replace d0 := ho.cell (Nat.ne_of_gt (Nat.lt_of_lt_of_le hbcl (Nat.le_of_eq hzO40))) d0
      replace d1 := ho.cell (Nat.ne_of_gt (Nat.lt_of_lt_of_le hbcl (Nat.le_of_eq hzO40))) d1
      have hs45 : X41.heap.size ≤ X44.heap.size := Nat.le_of_eq ho.size.symm
      clear ho hk bO40_0 bO40_1
      have bO40_0 := hv0; clear hv0
      have bO40_1 := hv1; clear hv1
      refine ipl_nil ?_
      refine iqw_then ?_
      refine icw_seq ?_
      refine icw_plain ?_
      refine ipl_take (.int .i64 (Mem.preS s j : Int)) rfl (by kernel_rfl) (by kernel_rfl) (by kernel_rfl) (by kernel_rfl) ?_
      refine ipl_take (.pointer (some ⟨O40, 1, none⟩)) rfl (by kernel_rfl) (by kernel_rfl) (by kernel_rfl) (by kernel_rfl) ?_
      refine ipl_take (.int .i64 ((stpN s j).2 : Int)) rfl (by kernel_rfl) (by kernel_rfl) (by kernel_rfl) (ex_load rfl (by kernel_rfl) (ld3 (bO40_1.1))) ?_
      refine ipl_take (.int .i64 (Mem.preS s (j + 1) : Int)) rfl (by kernel_rfl) (by kernel_rfl) (by kernel_rfl) (ev_int (ev_wrap (a := Mem.preS s j + (stpN s j).2) (by kernel_rfl) (by omega) (by omega)) hpre.symm) ?_
      refine ipl_take (.int .i64 (Mem.preS s (j + 1) : Int)) rfl (by kernel_rfl) (by kernel_rfl) (by kernel_rfl) (by kernel_rfl) ?_
      refine ipl_nil ?_
      refine iqw_then ?_
      refine icw_clean [0, 3, 6, 7, 8, 34, 35, 36] (ws' := [(0, .func (.yield l9) #[] #[]), (3, .slice (some ⟨b2, 0, none⟩) (2 * i) c9), (6, .int .i64 (Mem.preS s (j + 1) : Int)), (7, .int .i64 (((j : Nat) : Int) : Int)), (8, .pointer (some ⟨O40, 0, none⟩)), (34, .slice (some ⟨b2, 0, none⟩) (2 * i) c9), (35, .int .i64 (((2 * i : Nat) : Int) : Int)), (36, .int .i64 (((j : Nat) : Int) : Int))]) (by kernel_rfl) (fun L => ?_)
      refine icw_seq ?_
      refine icw_seq ?_
      by_cases hl1 : j + 1 < 2 * n
      ·
        obtain ⟨g0, g1⟩ := hx2 (j + 1) (by omega)
        replace g0 := hkq9.cell hnXc g0
        replace g1 := hkq9.cell hnXc g1
        by_cases he1 : (stpN s (j + 1)).1 = (stpN s j).1
        ·
          have hla : Mem.lastAt s j = false := by unfold Mem.lastAt; rw [decide_eq_true (show j + 1 < s.length by omega), decide_eq_true he1]; rfl
          refine icw_draw [(some 45, [7], []), (some 46, [45], [0]), (some 47, [3], []), (some 48, [47], [2]), (some 49, [46, 48], [1, 3]), (some 50, [49], [4]), (some 51, [3, 50], [5]), (some 52, [7, 50], [5]), (some 53, [52, 50], [7, 5]), (some 54, [51, 53, 50], [6, 8, 5]), (some 55, [54, 50], [9, 5]), (some 56, [55, 50], [10, 5]), (some 57, [8, 50], [5]), (some 58, [57, 50], [12, 5]), (some 59, [56, 58, 50], [11, 13, 5]), (some 60, [50, 59], [5, 14])] (fun w' => w'.cell? ⟨b2, (j + 1) * 2, none⟩ = some (.int .i64 ((stpN s (j + 1)).1 : Int)) ∧ w'.cell? ⟨O40, 0, none⟩ = some (.int .i64 ((stpN s j).1 : Int))) (by kernel_rfl) (by kernel_rfl) (by kernel_rfl) (by kernel_rfl) ((calm_then (calm_then (calm_block (calm_then (calm_then (calm_block calm_ibody))))))) (⟨g0, bO40_0.1⟩) (fun ops Q X46 hb hL hR hK => ?_)
          replace hX39 := hX39.trans hb
          replace hkq9 := hkq9.trans (KeptX.of_mv (n₀ := 0) (Mv.of_ext hb))
          replace d0 := hb.cell d0
          replace d1 := hb.cell d1
          replace bO40_0 := BoxAt.ext hb bO40_0
          replace bO40_1 := BoxAt.ext hb bO40_1
          replace g0 := hb.cell g0
          replace g1 := hb.cell g1
          have hs47 := hb.size
          clear hb
          refine iwd_take 0 (.int .i64 (((j : Nat) : Int) : Int)) hR rfl (by kernel_rfl) rfl (by kernel_rfl) (fun w _ => by kernel_rfl) (⟨g0, bO40_0.1⟩) ?_
          refine iwd_take 1 (.int .i64 (((j + 1 : Nat) : Int) : Int)) hR rfl (by kernel_rfl) rfl (by kernel_rfl) (fun w _ => ev_wrap (by kernel_rfl) (by omega) (by omega)) (⟨g0, bO40_0.1⟩) ?_
          refine iwd_take 2 (.slice (some ⟨b2, 0, none⟩) (2 * i) c9) hR rfl (by kernel_rfl) rfl (by kernel_rfl) (fun w _ => by kernel_rfl) (⟨g0, bO40_0.1⟩) ?_
          refine iwd_take 3 (.int .i64 (((2 * i : Nat) : Int) : Int)) hR rfl (by kernel_rfl) rfl (by kernel_rfl) (fun w _ => by kernel_rfl) (⟨g0, bO40_0.1⟩) ?_
          refine iwd_take 4 (.bool true) hR rfl (by kernel_rfl) rfl (by kernel_rfl) (fun w _ => ev_dec (show _ = Result.ok (Next.value (Value.bool (decide ((((j + 1 : Nat) : Int) : Int) < (((2 * i : Nat) : Int) : Int))))) _ from by kernel_rfl) (by omega)) (⟨g0, bO40_0.1⟩) ?_
          refine iwd_take 5 (.bool true) hR rfl (by kernel_rfl) rfl (by kernel_rfl) (fun w _ => by kernel_rfl) (⟨g0, bO40_0.1⟩) ?_
          refine iwd_take 6 (.slice (some ⟨b2, 0, none⟩) (2 * i) c9) hR rfl (by kernel_rfl) rfl (by kernel_rfl) (fun w _ => by kernel_rfl) (⟨g0, bO40_0.1⟩) ?_
          refine iwd_take 7 (.int .i64 (((j : Nat) : Int) : Int)) hR rfl (by kernel_rfl) rfl (by kernel_rfl) (fun w _ => by kernel_rfl) (⟨g0, bO40_0.1⟩) ?_
          refine iwd_take 8 (.int .i64 (((j + 1 : Nat) : Int) : Int)) hR rfl (by kernel_rfl) rfl (by kernel_rfl) (fun w _ => ev_wrap (by kernel_rfl) (by omega) (by omega)) (⟨g0, bO40_0.1⟩) ?_
          refine iwd_take 9 (.pointer (some ⟨b2, (j + 1) * 2, none⟩)) hR rfl (by kernel_rfl) rfl (by kernel_rfl) (fun w _ => ex_index (p := .slice (some ⟨b2, 0, none⟩) (2 * i) c9) (i := .int .i64 ((j + 1 : Nat) : Int)) rfl (by kernel_rfl) (by kernel_rfl) (ix84z (k := j + 1) (by omega))) (⟨g0, bO40_0.1⟩) ?_
          refine iwd_take 10 (.pointer (some ⟨b2, (j + 1) * 2, none⟩)) hR rfl (by kernel_rfl) rfl (by kernel_rfl) (fun w _ => by kernel_rfl) (⟨g0, bO40_0.1⟩) ?_
          refine iwd_take 11 (.int .i64 ((stpN s (j + 1)).1 : Int)) hR rfl (by kernel_rfl) rfl (by kernel_rfl) (fun w hS => ex_load rfl (by kernel_rfl) (ld3 (hS.1))) (⟨g0, bO40_0.1⟩) ?_
          refine iwd_take 12 (.pointer (some ⟨O40, 0, none⟩)) hR rfl (by kernel_rfl) rfl (by kernel_rfl) (fun w _ => by kernel_rfl) (⟨g0, bO40_0.1⟩) ?_
          refine iwd_take 13 (.int .i64 ((stpN s j).1 : Int)) hR rfl (by kernel_rfl) rfl (by kernel_rfl) (fun w hS => ex_load rfl (by kernel_rfl) (ld3 (hS.2))) (⟨g0, bO40_0.1⟩) ?_
          refine iwd_take 14 (.bool true) hR rfl (by kernel_rfl) rfl (by kernel_rfl) (fun w _ => ev_eq (show _ = Result.ok (Next.value (Value.bool (((stpN s (j + 1)).1 : Int) == ((stpN s j).1 : Int)))) _ from by kernel_rfl) (he1)) (⟨g0, bO40_0.1⟩) ?_
          refine iwd_take 15 (.bool true) hR rfl (by kernel_rfl) rfl (by kernel_rfl) (fun w _ => by kernel_rfl) (⟨g0, bO40_0.1⟩) ?_
          refine iwd_end hL hR hK (by kernel_rfl) ?_
          refine iqw_then ?_
          refine icw_clean [0, 3, 6, 8, 34, 35, 36, 60] (ws' := [(0, .func (.yield l9) #[] #[]), (3, .slice (some ⟨b2, 0, none⟩) (2 * i) c9), (6, .int .i64 (Mem.preS s (j + 1) : Int)), (8, .pointer (some ⟨O40, 0, none⟩)), (34, .slice (some ⟨b2, 0, none⟩) (2 * i) c9), (35, .int .i64 (((2 * i : Nat) : Int) : Int)), (36, .int .i64 (((j : Nat) : Int) : Int)), (60, .bool true)]) (by kernel_rfl) (fun L => ?_)
          refine icw_t (by kernel_rfl) ?_
          refine icw_exit ?_
          refine iqw_then_exit ?_
          refine iqw_block_out ?_
          refine iqw_then ?_
          refine icw_plain ?_
          refine ipl_take (.int .i64 (((j + 1 : Nat) : Int) : Int)) rfl (by kernel_rfl) (by kernel_rfl) (by kernel_rfl) (ev_wrap (by kernel_rfl) (by omega) (by omega)) ?_
          refine ipl_take (.int .i64 (((j + 1 : Nat) : Int) : Int)) rfl (by kernel_rfl) (by kernel_rfl) (by kernel_rfl) (by kernel_rfl) ?_
          refine ipl_nil ?_
          refine iqw_round [0, 3, 6, 34, 35, 36] (ws' := [(0, .func (.yield l9) #[] #[]), (3, .slice (some ⟨b2, 0, none⟩) (2 * i) c9), (6, .int .i64 (Mem.preS s (j + 1) : Int)), (34, .slice (some ⟨b2, 0, none⟩) (2 * i) c9), (35, .int .i64 (((2 * i : Nat) : Int) : Int)), (36, .int .i64 (((j + 1 : Nat) : Int) : Int))]) (by kernel_rfl) _ ?_ ⟨(j + 1), rfl, rfl, (Nat.le_trans hs36 (Nat.le_trans hs42 (Nat.le_trans hs45 hs47))), hkq9, (by rw [hcx, hla]; exact hJst _ _ _ hJ9 hX39), by omega⟩
          omega
        ·
          have hla : Mem.lastAt s j = true := by unfold Mem.lastAt; rw [decide_eq_false he1]; simp
          have hG := Mem.emit_step hu hp9 hs9 (by omega) hla
          have hcl := Mem.cnt_lt hu hp9 hs9 (by omega) hla
          rw [Mem.evL_len] at hcl
          refine icw_draw [(some 45, [7], []), (some 46, [45], [0]), (some 47, [3], []), (some 48, [47], [2]), (some 49, [46, 48], [1, 3]), (some 50, [49], [4]), (some 51, [3, 50], [5]), (some 52, [7, 50], [5]), (some 53, [52, 50], [7, 5]), (some 54, [51, 53, 50], [6, 8, 5]), (some 55, [54, 50], [9, 5]), (some 56, [55, 50], [10, 5]), (some 57, [8, 50], [5]), (some 58, [57, 50], [12, 5]), (some 59, [56, 58, 50], [11, 13, 5]), (some 60, [50, 59], [5, 14])] (fun w' => w'.cell? ⟨b2, (j + 1) * 2, none⟩ = some (.int .i64 ((stpN s (j + 1)).1 : Int)) ∧ w'.cell? ⟨O40, 0, none⟩ = some (.int .i64 ((stpN s j).1 : Int))) (by kernel_rfl) (by kernel_rfl) (by kernel_rfl) (by kernel_rfl) ((calm_then (calm_then (calm_block (calm_then (calm_then (calm_block calm_ibody))))))) (⟨g0, bO40_0.1⟩) (fun ops Q X48 hb hL hR hK => ?_)
          replace hX39 := hX39.trans hb
          replace hkq9 := hkq9.trans (KeptX.of_mv (n₀ := 0) (Mv.of_ext hb))
          replace d0 := hb.cell d0
          replace d1 := hb.cell d1
          replace bO40_0 := BoxAt.ext hb bO40_0
          replace bO40_1 := BoxAt.ext hb bO40_1
          replace g0 := hb.cell g0
          replace g1 := hb.cell g1
          have hs49 := hb.size
          clear hb
          refine iwd_take 0 (.int .i64 (((j : Nat) : Int) : Int)) hR rfl (by kernel_rfl) rfl (by kernel_rfl) (fun w _ => by kernel_rfl) (⟨g0, bO40_0.1⟩) ?_
          refine iwd_take 1 (.int .i64 (((j + 1 : Nat) : Int) : Int)) hR rfl (by kernel_rfl) rfl (by kernel_rfl) (fun w _ => ev_wrap (by kernel_rfl) (by omega) (by omega)) (⟨g0, bO40_0.1⟩) ?_
          refine iwd_take 2 (.slice (some ⟨b2, 0, none⟩) (2 * i) c9) hR rfl (by kernel_rfl) rfl (by kernel_rfl) (fun w _ => by kernel_rfl) (⟨g0, bO40_0.1⟩) ?_
          refine iwd_take 3 (.int .i64 (((2 * i : Nat) : Int) : Int)) hR rfl (by kernel_rfl) rfl (by kernel_rfl) (fun w _ => by kernel_rfl) (⟨g0, bO40_0.1⟩) ?_
          refine iwd_take 4 (.bool true) hR rfl (by kernel_rfl) rfl (by kernel_rfl) (fun w _ => ev_dec (show _ = Result.ok (Next.value (Value.bool (decide ((((j + 1 : Nat) : Int) : Int) < (((2 * i : Nat) : Int) : Int))))) _ from by kernel_rfl) (by omega)) (⟨g0, bO40_0.1⟩) ?_
          refine iwd_take 5 (.bool true) hR rfl (by kernel_rfl) rfl (by kernel_rfl) (fun w _ => by kernel_rfl) (⟨g0, bO40_0.1⟩) ?_
          refine iwd_take 6 (.slice (some ⟨b2, 0, none⟩) (2 * i) c9) hR rfl (by kernel_rfl) rfl (by kernel_rfl) (fun w _ => by kernel_rfl) (⟨g0, bO40_0.1⟩) ?_
          refine iwd_take 7 (.int .i64 (((j : Nat) : Int) : Int)) hR rfl (by kernel_rfl) rfl (by kernel_rfl) (fun w _ => by kernel_rfl) (⟨g0, bO40_0.1⟩) ?_
          refine iwd_take 8 (.int .i64 (((j + 1 : Nat) : Int) : Int)) hR rfl (by kernel_rfl) rfl (by kernel_rfl) (fun w _ => ev_wrap (by kernel_rfl) (by omega) (by omega)) (⟨g0, bO40_0.1⟩) ?_
          refine iwd_take 9 (.pointer (some ⟨b2, (j + 1) * 2, none⟩)) hR rfl (by kernel_rfl) rfl (by kernel_rfl) (fun w _ => ex_index (p := .slice (some ⟨b2, 0, none⟩) (2 * i) c9) (i := .int .i64 ((j + 1 : Nat) : Int)) rfl (by kernel_rfl) (by kernel_rfl) (ix84z (k := j + 1) (by omega))) (⟨g0, bO40_0.1⟩) ?_
          refine iwd_take 10 (.pointer (some ⟨b2, (j + 1) * 2, none⟩)) hR rfl (by kernel_rfl) rfl (by kernel_rfl) (fun w _ => by kernel_rfl) (⟨g0, bO40_0.1⟩) ?_
          refine iwd_take 11 (.int .i64 ((stpN s (j + 1)).1 : Int)) hR rfl (by kernel_rfl) rfl (by kernel_rfl) (fun w hS => ex_load rfl (by kernel_rfl) (ld3 (hS.1))) (⟨g0, bO40_0.1⟩) ?_
          refine iwd_take 12 (.pointer (some ⟨O40, 0, none⟩)) hR rfl (by kernel_rfl) rfl (by kernel_rfl) (fun w _ => by kernel_rfl) (⟨g0, bO40_0.1⟩) ?_
          refine iwd_take 13 (.int .i64 ((stpN s j).1 : Int)) hR rfl (by kernel_rfl) rfl (by kernel_rfl) (fun w hS => ex_load rfl (by kernel_rfl) (ld3 (hS.2))) (⟨g0, bO40_0.1⟩) ?_
          refine iwd_take 14 (.bool false) hR rfl (by kernel_rfl) rfl (by kernel_rfl) (fun w _ => ev_neq (show _ = Result.ok (Next.value (Value.bool (((stpN s (j + 1)).1 : Int) == ((stpN s j).1 : Int)))) _ from by kernel_rfl) (he1)) (⟨g0, bO40_0.1⟩) ?_
          refine iwd_take 15 (.bool false) hR rfl (by kernel_rfl) rfl (by kernel_rfl) (fun w _ => by kernel_rfl) (⟨g0, bO40_0.1⟩) ?_
          refine iwd_end hL hR hK (by kernel_rfl) ?_
          refine iqw_then ?_
          refine icw_clean [0, 3, 6, 8, 34, 35, 36, 60] (ws' := [(0, .func (.yield l9) #[] #[]), (3, .slice (some ⟨b2, 0, none⟩) (2 * i) c9), (6, .int .i64 (Mem.preS s (j + 1) : Int)), (8, .pointer (some ⟨O40, 0, none⟩)), (34, .slice (some ⟨b2, 0, none⟩) (2 * i) c9), (35, .int .i64 (((2 * i : Nat) : Int) : Int)), (36, .int .i64 (((j : Nat) : Int) : Int)), (60, .bool false)]) (by kernel_rfl) (fun L => ?_)
          refine icw_f (by kernel_rfl) ?_
          refine icw_skip ?_
          refine iqw_then ?_
          refine icw_seq ?_
          refine icw_plain ?_
          refine ipl_take (.func (.yield l9) #[] #[]) rfl (by kernel_rfl) (by kernel_rfl) (by kernel_rfl) (by kernel_rfl) ?_
          refine ipl_take (.pointer (some ⟨O40, 0, none⟩)) rfl (by kernel_rfl) (by kernel_rfl) (by kernel_rfl) (by kernel_rfl) ?_
          refine ipl_take (.int .i64 ((stpN s j).1 : Int)) rfl (by kernel_rfl) (by kernel_rfl) (by kernel_rfl) (ex_load rfl (by kernel_rfl) (ld3 (bO40_0.1))) ?_
          refine ipl_take (.int .i64 (Mem.preS s (j + 1) : Int)) rfl (by kernel_rfl) (by kernel_rfl) (by kernel_rfl) (by kernel_rfl) ?_
          refine ipl_yield rfl (by kernel_rfl) (by kernel_rfl) (by kernel_rfl) (sy_yield (args := #[.int .i64 ((stpN s j).1 : Int), .int .i64 (Mem.preS s (j + 1) : Int)]) rfl (by kernel_rfl) (by kernel_rfl) (yield_mono (yield_at (hY (Mem.cntS s j) _ _ hcl (hJst _ _ _ hJ9 hX39) trivial) hG) ?_))
          rintro e w50 (⟨rfl, hJ51, hk52⟩ | ⟨rfl, hJ51, hk52⟩)
          ·
            replace hkq9 := hkq9.trans hk52
            replace d0 := hk52.cell hnXc d0
            replace d1 := hk52.cell hnXc d1
            replace bO40_0 := hk52.box (fun hx => absurd (hX2 _ hx) (Nat.not_lt_of_le (Nat.le_trans hW0 (Nat.le_trans (Nat.le_trans hs1 (Nat.le_trans hs31 hs36)) (Nat.le_of_eq hzO40))))) bO40_0
            replace bO40_1 := hk52.box (fun hx => absurd (hX2 _ hx) (Nat.not_lt_of_le (Nat.le_trans hW0 (Nat.le_trans (Nat.le_trans hs1 (Nat.le_trans hs31 hs36)) (Nat.le_of_eq hzO40))))) bO40_1
            replace g0 := hk52.cell hnXc g0
            replace g1 := hk52.cell hnXc g1
            have hs53 := hk52.size
            have hX54 : Ext w50 w50 := Ext.refl _
            refine ⟨_, rfl, ?_⟩
            refine ipl_take (.bool false) rfl (by kernel_rfl) (by kernel_rfl) (by kernel_rfl) (by kernel_rfl) ?_
            refine ipl_nil ?_
            refine iqw_then ?_
            refine icw_f (by kernel_rfl) ?_
            refine icw_skip ?_
            refine iqw_block ?_
            refine iqw_then ?_
            refine icw_plain ?_
            refine ipl_take (.int .i64 (((j + 1 : Nat) : Int) : Int)) rfl (by kernel_rfl) (by kernel_rfl) (by kernel_rfl) (ev_wrap (by kernel_rfl) (by omega) (by omega)) ?_
            refine ipl_take (.int .i64 (((j + 1 : Nat) : Int) : Int)) rfl (by kernel_rfl) (by kernel_rfl) (by kernel_rfl) (by kernel_rfl) ?_
            refine ipl_nil ?_
            refine iqw_round [0, 3, 6, 34, 35, 36] (ws' := [(0, .func (.yield l9) #[] #[]), (3, .slice (some ⟨b2, 0, none⟩) (2 * i) c9), (6, .int .i64 (Mem.preS s (j + 1) : Int)), (34, .slice (some ⟨b2, 0, none⟩) (2 * i) c9), (35, .int .i64 (((2 * i : Nat) : Int) : Int)), (36, .int .i64 (((j + 1 : Nat) : Int) : Int))]) (by kernel_rfl) _ ?_ ⟨(j + 1), rfl, rfl, (Nat.le_trans hs36 (Nat.le_trans hs42 (Nat.le_trans hs45 (Nat.le_trans hs49 hs53)))), hkq9, (by rw [hcx, hla]; exact hJst _ _ _ hJ51 (Ext.refl _)), by omega⟩
            omega
          ·
            replace hkq9 := hkq9.trans hk52
            replace d0 := hk52.cell hnXc d0
            replace d1 := hk52.cell hnXc d1
            replace bO40_0 := hk52.box (fun hx => absurd (hX2 _ hx) (Nat.not_lt_of_le (Nat.le_trans hW0 (Nat.le_trans (Nat.le_trans hs1 (Nat.le_trans hs31 hs36)) (Nat.le_of_eq hzO40))))) bO40_0
            replace bO40_1 := hk52.box (fun hx => absurd (hX2 _ hx) (Nat.not_lt_of_le (Nat.le_trans hW0 (Nat.le_trans (Nat.le_trans hs1 (Nat.le_trans hs31 hs36)) (Nat.le_of_eq hzO40))))) bO40_1
            replace g0 := hk52.cell hnXc g0
            replace g1 := hk52.cell hnXc g1
            have hs55 := hk52.size
            have hX56 : Ext w50 w50 := Ext.refl _
            refine ⟨_, rfl, ?_⟩
            refine ipl_take (.bool true) rfl (by kernel_rfl) (by kernel_rfl) (by kernel_rfl) (by kernel_rfl) ?_
            refine ipl_nil ?_
            refine iqw_then ?_
            refine icw_t (by kernel_rfl) ?_
            refine icw_ret ?_
            refine iqw_block_ret ?_
            refine iqw_then_ret ?_
            refine iqw_then_ret ?_
            refine iqw_block_ret ?_
            refine iqw_ret0 [] rfl trivial ?_
            exact ⟨⟨_, rfl⟩, .inr ⟨Mem.cntS s j, hcl, hJxst _ _ _ hJ51 (Ext.refl _)⟩⟩
      ·
        have hla : Mem.lastAt s j = true := by unfold Mem.lastAt; rw [decide_eq_false (show ¬ j + 1 < s.length by omega)]; rfl
        have hG := Mem.emit_step hu hp9 hs9 (by omega) hla
        have hcl := Mem.cnt_lt hu hp9 hs9 (by omega) hla
        rw [Mem.evL_len] at hcl
        refine icw_draw [(some 45, [7], []), (some 46, [45], [0]), (some 47, [3], []), (some 48, [47], [2]), (some 49, [46, 48], [1, 3]), (some 50, [49], [4]), (some 51, [3, 50], [5]), (some 52, [7, 50], [5]), (some 53, [52, 50], [7, 5]), (some 54, [51, 53, 50], [6, 8, 5]), (some 55, [54, 50], [9, 5]), (some 56, [55, 50], [10, 5]), (some 57, [8, 50], [5]), (some 58, [57, 50], [12, 5]), (some 59, [56, 58, 50], [11, 13, 5]), (some 60, [50, 59], [5, 14])] (fun w' => True) (by kernel_rfl) (by kernel_rfl) (by kernel_rfl) (by kernel_rfl) ((calm_then (calm_then (calm_block (calm_then (calm_then (calm_block calm_ibody))))))) (trivial) (fun ops Q X57 hb hL hR hK => ?_)
        replace hX39 := hX39.trans hb
        replace hkq9 := hkq9.trans (KeptX.of_mv (n₀ := 0) (Mv.of_ext hb))
        replace d0 := hb.cell d0
        replace d1 := hb.cell d1
        replace bO40_0 := BoxAt.ext hb bO40_0
        replace bO40_1 := BoxAt.ext hb bO40_1
        have hs58 := hb.size
        clear hb
        refine iwd_take 0 (.int .i64 (((j : Nat) : Int) : Int)) hR rfl (by kernel_rfl) rfl (by kernel_rfl) (fun w _ => by kernel_rfl) (trivial) ?_
        refine iwd_take 1 (.int .i64 (((j + 1 : Nat) : Int) : Int)) hR rfl (by kernel_rfl) rfl (by kernel_rfl) (fun w _ => ev_wrap (by kernel_rfl) (by omega) (by omega)) (trivial) ?_
        refine iwd_take 2 (.slice (some ⟨b2, 0, none⟩) (2 * i) c9) hR rfl (by kernel_rfl) rfl (by kernel_rfl) (fun w _ => by kernel_rfl) (trivial) ?_
        refine iwd_take 3 (.int .i64 (((2 * i : Nat) : Int) : Int)) hR rfl (by kernel_rfl) rfl (by kernel_rfl) (fun w _ => by kernel_rfl) (trivial) ?_
        refine iwd_take 4 (.bool false) hR rfl (by kernel_rfl) rfl (by kernel_rfl) (fun w _ => ev_ndec (show _ = Result.ok (Next.value (Value.bool (decide ((((j + 1 : Nat) : Int) : Int) < (((2 * i : Nat) : Int) : Int))))) _ from by kernel_rfl) (by omega)) (trivial) ?_
        refine iwd_take 5 (.bool false) hR rfl (by kernel_rfl) rfl (by kernel_rfl) (fun w _ => by kernel_rfl) (trivial) ?_
        refine iwd_skip 6 hR rfl (by kernel_rfl) rfl (by kernel_rfl) (trivial) ?_
        refine iwd_skip 7 hR rfl (by kernel_rfl) rfl (by kernel_rfl) (trivial) ?_
        refine iwd_skip 8 hR rfl (by kernel_rfl) rfl (by kernel_rfl) (trivial) ?_
        refine iwd_skip 9 hR rfl (by kernel_rfl) rfl (by kernel_rfl) (trivial) ?_
        refine iwd_skip 10 hR rfl (by kernel_rfl) rfl (by kernel_rfl) (trivial) ?_
        refine iwd_skip 11 hR rfl (by kernel_rfl) rfl (by kernel_rfl) (trivial) ?_
        refine iwd_skip 12 hR rfl (by kernel_rfl) rfl (by kernel_rfl) (trivial) ?_
        refine iwd_skip 13 hR rfl (by kernel_rfl) rfl (by kernel_rfl) (trivial) ?_
        refine iwd_skip 14 hR rfl (by kernel_rfl) rfl (by kernel_rfl) (trivial) ?_
        refine iwd_take 15 (.bool false) hR rfl (by kernel_rfl) rfl (by kernel_rfl) (fun w _ => by kernel_rfl) (trivial) ?_
        refine iwd_end hL hR hK (by kernel_rfl) ?_
        refine iqw_then ?_
        refine icw_clean [0, 3, 6, 8, 34, 35, 36, 60] (ws' := [(0, .func (.yield l9) #[] #[]), (3, .slice (some ⟨b2, 0, none⟩) (2 * i) c9), (6, .int .i64 (Mem.preS s (j + 1) : Int)), (8, .pointer (some ⟨O40, 0, none⟩)), (34, .slice (some ⟨b2, 0, none⟩) (2 * i) c9), (35, .int .i64 (((2 * i : Nat) : Int) : Int)), (36, .int .i64 (((j : Nat) : Int) : Int)), (60, .bool false)]) (by kernel_rfl) (fun L => ?_)
        refine icw_f (by kernel_rfl) ?_
        refine icw_skip ?_
        refine iqw_then ?_
        refine icw_seq ?_
        refine icw_plain ?_
        refine ipl_take (.func (.yield l9) #[] #[]) rfl (by kernel_rfl) (by kernel_rfl) (by kernel_rfl) (by kernel_rfl) ?_
        refine ipl_take (.pointer (some ⟨O40, 0, none⟩)) rfl (by kernel_rfl) (by kernel_rfl) (by kernel_rfl) (by kernel_rfl) ?_
        refine ipl_take (.int .i64 ((stpN s j).1 : Int)) rfl (by kernel_rfl) (by kernel_rfl) (by kernel_rfl) (ex_load rfl (by kernel_rfl) (ld3 (bO40_0.1))) ?_
        refine ipl_take (.int .i64 (Mem.preS s (j + 1) : Int)) rfl (by kernel_rfl) (by kernel_rfl) (by kernel_rfl) (by kernel_rfl) ?_
        refine ipl_yield rfl (by kernel_rfl) (by kernel_rfl) (by kernel_rfl) (sy_yield (args := #[.int .i64 ((stpN s j).1 : Int), .int .i64 (Mem.preS s (j + 1) : Int)]) rfl (by kernel_rfl) (by kernel_rfl) (yield_mono (yield_at (hY (Mem.cntS s j) _ _ hcl (hJst _ _ _ hJ9 hX39) trivial) hG) ?_))
        rintro e w59 (⟨rfl, hJ60, hk61⟩ | ⟨rfl, hJ60, hk61⟩)
        ·
          replace hkq9 := hkq9.trans hk61
          replace d0 := hk61.cell hnXc d0
          replace d1 := hk61.cell hnXc d1
          replace bO40_0 := hk61.box (fun hx => absurd (hX2 _ hx) (Nat.not_lt_of_le (Nat.le_trans hW0 (Nat.le_trans (Nat.le_trans hs1 (Nat.le_trans hs31 hs36)) (Nat.le_of_eq hzO40))))) bO40_0
          replace bO40_1 := hk61.box (fun hx => absurd (hX2 _ hx) (Nat.not_lt_of_le (Nat.le_trans hW0 (Nat.le_trans (Nat.le_trans hs1 (Nat.le_trans hs31 hs36)) (Nat.le_of_eq hzO40))))) bO40_1
          have hs62 := hk61.size
          have hX63 : Ext w59 w59 := Ext.refl _
          refine ⟨_, rfl, ?_⟩
          refine ipl_take (.bool false) rfl (by kernel_rfl) (by kernel_rfl) (by kernel_rfl) (by kernel_rfl) ?_
          refine ipl_nil ?_
          refine iqw_then ?_
          refine icw_f (by kernel_rfl) ?_
          refine icw_skip ?_
          refine iqw_block ?_
          refine iqw_then ?_
          refine icw_plain ?_
          refine ipl_take (.int .i64 (((j + 1 : Nat) : Int) : Int)) rfl (by kernel_rfl) (by kernel_rfl) (by kernel_rfl) (ev_wrap (by kernel_rfl) (by omega) (by omega)) ?_
          refine ipl_take (.int .i64 (((j + 1 : Nat) : Int) : Int)) rfl (by kernel_rfl) (by kernel_rfl) (by kernel_rfl) (by kernel_rfl) ?_
          refine ipl_nil ?_
          refine iqw_round [0, 3, 6, 34, 35, 36] (ws' := [(0, .func (.yield l9) #[] #[]), (3, .slice (some ⟨b2, 0, none⟩) (2 * i) c9), (6, .int .i64 (Mem.preS s (j + 1) : Int)), (34, .slice (some ⟨b2, 0, none⟩) (2 * i) c9), (35, .int .i64 (((2 * i : Nat) : Int) : Int)), (36, .int .i64 (((j + 1 : Nat) : Int) : Int))]) (by kernel_rfl) _ ?_ ⟨(j + 1), rfl, rfl, (Nat.le_trans hs36 (Nat.le_trans hs42 (Nat.le_trans hs45 (Nat.le_trans hs58 hs62)))), hkq9, (by rw [hcx, hla]; exact hJst _ _ _ hJ60 (Ext.refl _)), by omega⟩
          omega
        ·
          replace hkq9 := hkq9.trans hk61
          replace d0 := hk61.cell hnXc d0
          replace d1 := hk61.cell hnXc d1
          replace bO40_0 := hk61.box (fun hx => absurd (hX2 _ hx) (Nat.not_lt_of_le (Nat.le_trans hW0 (Nat.le_trans (Nat.le_trans hs1 (Nat.le_trans hs31 hs36)) (Nat.le_of_eq hzO40))))) bO40_0
          replace bO40_1 := hk61.box (fun hx => absurd (hX2 _ hx) (Nat.not_lt_of_le (Nat.le_trans hW0 (Nat.le_trans (Nat.le_trans hs1 (Nat.le_trans hs31 hs36)) (Nat.le_of_eq hzO40))))) bO40_1
          have hs64 := hk61.size
          have hX65 : Ext w59 w59 := Ext.refl _
          refine ⟨_, rfl, ?_⟩
          refine ipl_take (.bool true) rfl (by kernel_rfl) (by kernel_rfl) (by kernel_rfl) (by kernel_rfl) ?_
          refine ipl_nil ?_
          refine iqw_then ?_
          refine icw_t (by kernel_rfl) ?_
          refine icw_ret ?_
          refine iqw_block_ret ?_
          refine iqw_then_ret ?_
          refine iqw_then_ret ?_
          refine iqw_block_ret ?_
          refine iqw_ret0 [] rfl trivial ?_
          exact ⟨⟨_, rfl⟩, .inr ⟨Mem.cntS s j, hcl, hJxst _ _ _ hJ60 (Ext.refl _)⟩⟩
    ·
      have hjn : j = s.length := by omega
      refine icw_seq ?_
      refine icw_plain ?_
      refine ipl_take (.bool false) rfl (by kernel_rfl) (by kernel_rfl) (by kernel_rfl) (ev_ndec (show _ = Result.ok (Next.value (Value.bool (decide ((((j : Nat) : Int) : Int) < (((2 * i : Nat) : Int) : Int))))) _ from by kernel_rfl) (by omega)) ?_
      refine ipl_nil ?_
      refine iqw_then ?_
      refine icw_seq ?_
      refine icw_f (by kernel_rfl) ?_
      refine icw_exit ?_
      refine iqw_then_exit ?_
      refine iqw_then_exit ?_
      refine iqw_block_out ?_
      refine iqw_end0 [] rfl trivial ?_
      rw [hjn, hcn, Mem.evL_len] at hJ9
      exact ⟨⟨_, rfl⟩, .inl (hJst _ _ _ hJ9 (Ext.refl _))⟩

end Go.Proofs.Ytnbjjddfcondlaa
