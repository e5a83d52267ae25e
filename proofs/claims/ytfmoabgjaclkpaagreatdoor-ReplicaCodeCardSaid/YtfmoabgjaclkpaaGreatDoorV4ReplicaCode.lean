/- Part 4 of what the proof of ReplicaCode stands on. -/
import Derived.Test.YtfmoabgjaclkpaaGreatDoorV3ReplicaCode
import Derived.Shelf.SlSortCmp.Whole1
namespace Go.Proofs.YtfmoabgjaclkpaaGreatDoor
namespace Rep
instance (a b : Rec) : Decidable (ltL a b) := by unfold ltL; infer_instance
instance (a b : Rec) : Decidable (ltB a b) := by unfold ltB; infer_instance
theorem ltL_irrefl (x : Rec) : ¬ ltL x x := by unfold ltL; omega
theorem ltL_trans {x y z : Rec} (h : ltL x y) (k : ltL y z) : ltL x z := by unfold ltL at *; omega
theorem ltL_asymm {x y : Rec} (h : ltL x y) : ¬ ltL y x := by unfold ltL at *; omega
theorem key_iff {x y : Rec} : x.key = y.key ↔ x.c = y.c ∧ x.n = y.n := by unfold Rec.key; rw [Prod.mk.injEq]
theorem ltL_tri (x y : Rec) : ltL x y ∨ x.key = y.key ∨ ltL y x := by rw [key_iff]; unfold ltL; omega
theorem ltL_ne {x y : Rec} (h : ltL x y) : x.key ≠ y.key := by rw [Ne, key_iff]; unfold ltL at h; omega
theorem ltB_irrefl (x : Rec) : ¬ ltB x x := by unfold ltB ltL; omega
theorem ltB_trans {x y z : Rec} (h : ltB x y) (k : ltB y z) : ltB x z := by unfold ltB ltL at *; omega
theorem ltB_asymm {x y : Rec} (h : ltB x y) : ¬ ltB y x := by unfold ltB ltL at *; omega
theorem ltB_tri (x y : Rec) : ltB x y ∨ x.key = y.key ∨ ltB y x := by rw [key_iff]; unfold ltB ltL; omega
theorem keysD_of {l : List Rec} (h : l.Pairwise ltL) : keysD l := h.imp ltL_ne
theorem keysD.inj {l : List Rec} (h : keysD l) {x y : Rec} (hx : x ∈ l) (hy : y ∈ l) (e : x.key = y.key) : x = y := by
 have h1 := findK_mem h hx; have h2 := findK_mem h hy
 rw [e, h2] at h1; cases h1; rfl
theorem sort_uniq {R : Rec → Rec → Prop} (hi : ∀ x, ¬ R x x) (ha : ∀ x y, R x y → ¬ R y x) : ∀ {l l' : List Rec}, l.Pairwise R → l'.Pairwise R → (∀ x, x ∈ l ↔ x ∈ l') → l = l'
  | [], [], _, _, _ => rfl
  | [], y :: l', _, _, h => absurd ((h y).2 (List.mem_cons_self ..)) (by simp)
  | x :: l, [], _, _, h => absurd ((h x).1 (List.mem_cons_self ..)) (by simp)
  | x :: l, y :: l', hl, hl', h => by
    rw [List.pairwise_cons] at hl hl'
    have e : x = y := by
      rcases List.mem_cons.1 ((h x).1 (List.mem_cons_self ..)) with e | hx
      · exact e
      · rcases List.mem_cons.1 ((h y).2 (List.mem_cons_self ..)) with e | hy
        · exact e.symm
        · exact absurd (hl'.1 x hx) (ha _ _ (hl.1 y hy))
    subst e
    refine congrArg (x :: ·) (sort_uniq hi ha hl.2 hl'.2 fun z => ⟨fun hz => ?_, fun hz => ?_⟩)
    · rcases List.mem_cons.1 ((h z).1 (List.mem_cons_of_mem _ hz)) with e | q
      · subst e; exact absurd (hl.1 z hz) (hi z)
      · exact q
    · rcases List.mem_cons.1 ((h z).2 (List.mem_cons_of_mem _ hz)) with e | q
      · subst e; exact absurd (hl'.1 z hz) (hi z)
      · exact q
theorem uniqL {l l' : List Rec} (h : l.Pairwise ltL) (h' : l'.Pairwise ltL) (k : ∀ x, x ∈ l ↔ x ∈ l') : l = l' := sort_uniq ltL_irrefl (fun _ _ => ltL_asymm) h h' k
theorem uniqB {l l' : List Rec} (h : l.Pairwise ltB) (h' : l'.Pairwise ltB) (k : ∀ x, x ∈ l ↔ x ∈ l') : l = l' := sort_uniq ltB_irrefl (fun _ _ => ltB_asymm) h h' k
def isRoot (x : Rec) : Prop := x.o = -1 ∧ x.w = 0
instance (x : Rec) : Decidable (isRoot x) := by unfold isRoot; infer_instance
structure Vd (l : List Rec) : Prop where
 ok : ∀ x ∈ l, okR x = true
 srt : l.Pairwise ltL
 pre : ∀ x ∈ l, x.n = 1 ∨ ∃ y ∈ l, y.c = x.c ∧ y.n = x.n - 1 ∧ y.t ≤ x.t
 snd : ∀ x ∈ l, isRoot x ∨ ∃ y ∈ l, y.key = x.tgt ∧ ltB y x
theorem Vd.keys {l : List Rec} (h : Vd l) : keysD l := keysD_of h.srt
theorem Vd.nil : Vd [] := ⟨(fun x h => by cases h), .nil, (fun x h => by cases h), (fun x h => by cases h)⟩
theorem pair_next {l : List Rec} (h : ∀ i, i + 1 < l.length → ltL (recN l i) (recN l (i + 1))) : l.Pairwise ltL := by
 rw [List.pairwise_iff_getElem]
 intro i j hi hj hij
 rw [← recN_get hi, ← recN_get hj]
 clear hi
 induction j with
 | zero => omega
 | succ j ih =>
  rcases Nat.lt_succ_iff_lt_or_eq.1 hij with q | q
  · exact ltL_trans (ih (by omega) q) (h j hj)
  · subst q; exact h i hj
theorem mem_recN {l : List Rec} {x : Rec} (h : x ∈ l) : ∃ i, i < l.length ∧ x = recN l i := by
 obtain ⟨i, hi, rfl⟩ := List.getElem_of_mem h
 exact ⟨i, hi, (recN_get hi).symm⟩
theorem srt_at {l : List Rec} (h : l.Pairwise ltL) {i j : Nat} (hij : i < j) (hj : j < l.length) : ltL (recN l i) (recN l j) := by
 rw [recN_get (by omega), recN_get hj]; exact List.pairwise_iff_getElem.1 h i j (by omega) hj hij
theorem srt_lt {l : List Rec} (h : l.Pairwise ltL) {i j : Nat} (hi : i < l.length) (hj : j < l.length) (hl : ltL (recN l i) (recN l j)) : i < j := by
 rcases Nat.lt_trichotomy i j with q | q | q
 · exact q
 · subst q; exact absurd hl (ltL_irrefl _)
 · exact absurd hl (ltL_asymm (srt_at h q hi))
theorem soundB_iff {l : List Rec} (hd : keysD l) (x : Rec) : soundB (bookL l) x = true ↔ isRoot x ∨ ∃ y ∈ l, y.key = x.tgt ∧ ltB y x := by
 unfold soundB
 rw [book_get hd]
 rw [Bool.or_eq_true, decide_eq_true_iff]
 refine or_congr Iff.rfl ?_
 cases hf : findK l (x.o, x.w) with
 | none => exact ⟨(fun h => by cases h), fun ⟨y, hy, e, _⟩ => absurd e (findK_none hf y hy)⟩
 | some y =>
  have hm := findK_some hf
  refine ⟨fun h => ⟨y, hm.1, hm.2, befC_neg.1 (of_decide_eq_true h)⟩, fun ⟨z, hz, e, hlt⟩ => decide_eq_true (befC_neg.2 ?_)⟩
  have := hd.inj hm.1 hz (hm.2.trans e.symm)
  subst this; exact hlt
theorem valid_iff {c : Int} {l : List Rec} : validB c l = true ↔ (0 ≤ c ∧ c ≤ 15) ∧ l.length ≤ 80 ∧ Vd l := by
  have hR : ∀ x : Rec, okR x = true → 1 ≤ x.n ∧ x.n ≤ 80 := fun x h => by
    unfold okR at h; have := of_decide_eq_true h; omega
  constructor
  · intro h
    unfold validB at h
    rw [Bool.and_eq_true, Bool.and_eq_true, Bool.not_eq_true'] at h
    obtain ⟨⟨h1, h2⟩, h3⟩ := h
    have h1 := of_decide_eq_true h1
    have hs : ∀ i, i < l.length → stepB l i = true := fun i hi => List.all_eq_true.1 h2 i (List.mem_range.2 hi)
    have hst := fun i hi => of_decide_eq_true (hs i hi)
    have srt : l.Pairwise ltL := pair_next fun i hi => by
      have := ((hst (i + 1) hi).2.2 (by omega)).1
      rw [Nat.add_sub_cancel] at this; exact listC_neg.1 this
    refine ⟨h1.1, h1.2, fun x hx => ?_, srt, fun x hx => ?_, fun x hx => ?_⟩
    · obtain ⟨i, hi, rfl⟩ := mem_recN hx; exact (hst i hi).1
    · obtain ⟨i, hi, rfl⟩ := mem_recN hx
      by_cases hf : i = 0 ∨ ¬ (recN l (i - 1)).c = (recN l i).c
      · exact .inl ((hst i hi).2.1 hf)
      · have hf : ¬ i = 0 ∧ (recN l (i - 1)).c = (recN l i).c := ⟨fun e => hf (.inl e), Classical.not_not.1 fun e => hf (.inr e)⟩
        have k := ((hst i hi).2.2 (by omega)).2 hf.2
        exact .inr ⟨recN l (i - 1), recN_mem (by omega), hf.2, by omega, k.2⟩
    · refine (soundB_iff (keysD_of srt) x).1 (Classical.byContradiction fun q => ?_)
      have q := Bool.eq_false_iff.2 q
      rw [List.any_eq_true.2 ⟨x, hx, by rw [q]; rfl⟩] at h3
      cases h3
  · rintro ⟨hc, hl, hv⟩
    rw [valid_end ⟨hc, hl⟩ fun i hi => ?_]
    · rw [Bool.not_eq_true', Bool.eq_false_iff]
      intro q
      obtain ⟨x, hx, q⟩ := List.any_eq_true.1 q
      rw [(soundB_iff hv.keys x).2 (hv.snd x hx)] at q; cases q
    · have hx := recN_mem hi
      have hxo := hR _ (hv.ok _ hx)
      refine decide_eq_true ⟨hv.ok _ hx, fun hf => ?_, fun h0 => ?_⟩
      · rcases hv.pre _ hx with q | ⟨y, hy, e1, e2, e3⟩
        · exact q
        · exfalso
          obtain ⟨j, hj, rfl⟩ := mem_recN hy
          have hji := srt_lt hv.srt hj hi (show ltL _ _ by unfold ltL; omega)
          rcases hf with hf | hf
          · omega
          · have k2 := srt_at hv.srt (show i - 1 < i by omega) hi
            rcases Nat.lt_or_ge j (i - 1) with q | q
            · have k1 := srt_at hv.srt q (by omega)
              unfold ltL at k1 k2; omega
            · obtain rfl : j = i - 1 := by omega
              exact hf e1
      · have k2 := srt_at hv.srt (show i - 1 < i by omega) hi
        refine ⟨listC_neg.2 k2, fun e => ?_⟩
        have hy0 := hR _ (hv.ok _ (recN_mem (show i - 1 < l.length by omega)))
        rcases hv.pre _ hx with q | ⟨y, hy, e1, e2, e3⟩
        · exfalso; unfold ltL at k2; omega
        · obtain ⟨j, hj, rfl⟩ := mem_recN hy
          have hji := srt_lt hv.srt hj hi (show ltL _ _ by unfold ltL; omega)
          rcases Nat.lt_or_ge j (i - 1) with q | q
          · have k1 := srt_at hv.srt q (by omega)
            unfold ltL at k1 k2; omega
          · obtain rfl : j = i - 1 := by omega
            exact ⟨by omega, e3⟩
theorem okR_n {x : Rec} (h : okR x = true) : (1 ≤ x.n ∧ x.n ≤ 80) ∧ 0 ≤ x.c ∧ x.c ≤ 15 := by
 unfold okR at h; have := of_decide_eq_true h; omega
structure Uni (l1 l2 l : List Rec) : Prop where
 srt : l.Pairwise ltL
 mem : ∀ x, x ∈ l ↔ x ∈ l1 ∨ x ∈ l2
theorem Uni.uniq {l1 l2 l l' : List Rec} (h : Uni l1 l2 l) (h' : Uni l1 l2 l') : l = l' := uniqL h.srt h'.srt fun x => (h.mem x).trans (h'.mem x).symm
theorem Uni.swap {l1 l2 l : List Rec} (h : Uni l1 l2 l) : Uni l2 l1 l := ⟨h.srt, fun x => (h.mem x).trans or_comm⟩
def Cons (l1 l2 : List Rec) : Prop := ∀ x ∈ l1, ∀ y ∈ l2, x.key = y.key → x = y
theorem Cons.symm {l1 l2 : List Rec} (h : Cons l1 l2) : Cons l2 l1 := fun x hx y hy e => (h y hy x hx e.symm).symm
theorem cp_sorted {ls : List Rec} {n : Nat} (hs : Sd ls 0 n) (hn : n ≤ ls.length) (hk : ∀ x ∈ ls, ∀ y ∈ ls, x.key = y.key → x = y) : ∀ p, p ≤ n → (cpN ls p).Pairwise ltL ∧ (∀ x, x ∈ cpN ls p ↔ x ∈ ls.take p) ∧ ∀ x ∈ cpN ls p, x = recN ls (p - 1) ∨ ltL x (recN ls (p - 1))
  | 0, _ => ⟨.nil, fun x => by simp [cpN], fun x h => by cases h⟩
  | 1, h => ⟨by simp [cpN], fun x => by rw [recN_take (show 0 < ls.length by omega)]; simp [cpN], fun x hx => by simp [cpN] at hx; exact .inl hx⟩
  | p + 2, h => by
    obtain ⟨i1, i2, i3⟩ := cp_sorted hs hn hk (p + 1) (by omega)
    rw [Nat.add_sub_cancel] at i3
    have hm := recN_take (l := ls) (i := p + 1) (by omega)
    have h0 : recN ls p ∈ ls.take (p + 1) := by rw [recN_take (by omega)]; simp
    by_cases e : recN ls (p + 1) = recN ls p
    · have ec := cp_eq (l := ls) (p := p + 1) (by omega) (by rw [Nat.add_sub_cancel]; exact e)
      rw [ec]
      refine ⟨i1, fun x => ?_, fun x hx => ?_⟩
      · rw [i2, hm, List.mem_append, e]
        exact ⟨.inl, fun q => q.elim id fun q => by simp at q; rw [q]; exact h0⟩
      · show x = recN ls (p + 1) ∨ ltL x (recN ls (p + 1))
        rw [e]; exact i3 x hx
    · have ec := cp_ne (l := ls) (p := p + 1) (by omega) (by rw [Nat.add_sub_cancel]; exact e)
      rw [ec]
      have hlt : ltL (recN ls p) (recN ls (p + 1)) := by
        have h1 : le (recN ls p) (recN ls (p + 1)) := hs p (p + 1) (Nat.zero_le _) (by omega) (by omega)
        rcases ltL_tri (recN ls p) (recN ls (p + 1)) with q | q | q
        · exact q
        · exact absurd (hk _ (recN_mem (by omega)) _ (recN_mem (by omega)) q).symm e
        · exact absurd q h1
      have hall : ∀ x ∈ cpN ls (p + 1), ltL x (recN ls (p + 1)) := fun x hx => by
        rcases i3 x hx with q | q
        · rw [q]; exact hlt
        · exact ltL_trans q hlt
      refine ⟨?_, fun x => ?_, fun x hx => ?_⟩
      · rw [List.pairwise_append]; exact ⟨i1, by simp, fun x hx y hy => by simp at hy; subst hy; exact hall x hx⟩
      · rw [List.mem_append, i2, hm, List.mem_append]
      · rcases List.mem_append.1 hx with q | q
        · exact .inr (hall x q)
        · simp at q; exact .inl q
theorem Mrg.uni {l1 l2 l : List Rec} {n : Nat} (h : Mrg l1 l2 n l) (hn : n = l1.length + l2.length) (h1 : keysD l1) (h2 : keysD l2) (hc : Cons l1 l2) : Uni l1 l2 l := by
 obtain ⟨ls, hp, hs, rfl⟩ := h.ex
 have hl : ls.length = n := by rw [hp.length_eq, List.length_append, hn]
 have hmem : ∀ x, x ∈ ls ↔ x ∈ l1 ∨ x ∈ l2 := fun x => by rw [hp.mem_iff, List.mem_append]
 obtain ⟨k1, k2, _⟩ := cp_sorted hs (by omega) (fun x hx y hy e => by
  rcases (hmem x).1 hx with a | a <;> rcases (hmem y).1 hy with b | b
  · exact h1.inj a b e
  · exact hc x a y b e
  · exact (hc y b x a e.symm).symm
  · exact h2.inj a b e) n (Nat.le_refl _)
 exact ⟨k1, fun x => by rw [k2, List.take_of_length_le (by omega), hmem]⟩
theorem Vd.uni {l1 l2 l : List Rec} (h1 : Vd l1) (h2 : Vd l2) (h : Uni l1 l2 l) : Vd l := by
  have f1 : ∀ y ∈ l1, y ∈ l := fun y hy => (h.mem y).2 (.inl hy)
  have f2 : ∀ y ∈ l2, y ∈ l := fun y hy => (h.mem y).2 (.inr hy)
  refine ⟨fun x hx => ?_, h.srt, fun x hx => ?_, fun x hx => ?_⟩
  · rcases (h.mem x).1 hx with q | q
    · exact h1.ok x q
    · exact h2.ok x q
  · rcases (h.mem x).1 hx with q | q
    · exact (h1.pre x q).imp id fun ⟨y, hy, k⟩ => ⟨y, f1 y hy, k⟩
    · exact (h2.pre x q).imp id fun ⟨y, hy, k⟩ => ⟨y, f2 y hy, k⟩
  · rcases (h.mem x).1 hx with q | q
    · exact (h1.snd x q).imp id fun ⟨y, hy, k⟩ => ⟨y, f1 y hy, k⟩
    · exact (h2.snd x q).imp id fun ⟨y, hy, k⟩ => ⟨y, f2 y hy, k⟩
def hasK (l : List Rec) (k : Int × Int) : Bool := (findK l k).isSome
theorem hasK_iff {l : List Rec} {k : Int × Int} : hasK l k = true ↔ ∃ y ∈ l, y.key = k := by
 unfold hasK
 cases h : findK l k with
 | none => exact ⟨(fun q => by cases q), fun ⟨y, hy, e⟩ => absurd e (findK_none h y hy)⟩
 | some y => exact ⟨fun _ => ⟨y, (findK_some h).1, (findK_some h).2⟩, fun _ => rfl⟩
def more (l1 l2 : List Rec) : List Rec := l2.filter fun r => !hasK l1 r.key
theorem mem_more {l1 l2 : List Rec} (hc : Cons l1 l2) {x : Rec} : x ∈ more l1 l2 ↔ x ∈ l2 ∧ x ∉ l1 := by
 unfold more
 rw [List.mem_filter, Bool.not_eq_true', Bool.eq_false_iff, Ne, hasK_iff]
 exact ⟨fun ⟨h, k⟩ => ⟨h, fun q => k ⟨x, q, rfl⟩⟩, fun ⟨h, k⟩ => ⟨h, fun ⟨y, hy, e⟩ => k (hc y hy x h e ▸ hy)⟩⟩
theorem nodup_of {R : Rec → Rec → Prop} (hi : ∀ x, ¬ R x x) {l : List Rec} (h : l.Pairwise R) : l.Nodup := List.Pairwise.imp (S := fun a b => a ≠ b) (fun {x y} k e => by subst e; exact hi _ k) h
theorem Uni.len {l1 l2 l : List Rec} (h : Uni l1 l2 l) (h1 : l1.Pairwise ltL) (h2 : l2.Pairwise ltL) (hc : Cons l1 l2) : l.length = l1.length + (more l1 l2).length := by
  have hp : l.Perm (l1 ++ more l1 l2) := by
    refine (List.perm_ext_iff_of_nodup (nodup_of ltL_irrefl h.srt) ?_).2 fun x => ?_
    · rw [List.nodup_append]
      refine ⟨nodup_of ltL_irrefl h1, (nodup_of ltL_irrefl h2).filter _, fun x hx y hy e => ?_⟩
      subst e; exact ((mem_more hc).1 hy).2 hx
    · rw [h.mem, List.mem_append, mem_more hc]
      by_cases q : x ∈ l1 <;> simp [q]
  rw [hp.length_eq, List.length_append]
def insL (x : Rec) : List Rec → List Rec
 | [] => [x]
 | y :: l => if ltL x y then x :: y :: l else y :: insL x l
def sortL : List Rec → List Rec
 | [] => []
 | x :: l => insL x (sortL l)
theorem insL_mem {x z : Rec} : ∀ {l : List Rec}, z ∈ insL x l ↔ z = x ∨ z ∈ l
  | [] => by simp [insL]
  | y :: l => by
    unfold insL
    split
    · simp
    · rw [List.mem_cons, insL_mem, List.mem_cons]; constructor
      · rintro (h | h | h)
        · exact .inr (.inl h)
        · exact .inl h
        · exact .inr (.inr h)
      · rintro (h | h | h)
        · exact .inr (.inl h)
        · exact .inl h
        · exact .inr (.inr h)
theorem insL_sorted {x : Rec} : ∀ {l : List Rec}, l.Pairwise ltL → (∀ z ∈ l, z.key ≠ x.key) → (insL x l).Pairwise ltL
  | [], _, _ => by simp [insL]
  | y :: l, h, hk => by
    rw [List.pairwise_cons] at h
    unfold insL
    split
    · rename_i hl
      rw [List.pairwise_cons]
      refine ⟨fun z hz => ?_, List.pairwise_cons.2 h⟩
      rcases List.mem_cons.1 hz with rfl | hz
      · exact hl
      · exact ltL_trans hl (h.1 z hz)
    · rename_i hl
      rw [List.pairwise_cons]
      refine ⟨fun z hz => ?_, insL_sorted h.2 fun z hz => hk z (List.mem_cons_of_mem _ hz)⟩
      rcases insL_mem.1 hz with rfl | hz
      · rcases ltL_tri y z with q | q | q
        · exact q
        · exact absurd q (hk y (List.mem_cons_self ..))
        · exact absurd q hl
      · exact h.1 z hz
theorem sortL_mem {z : Rec} : ∀ {l : List Rec}, z ∈ sortL l ↔ z ∈ l
 | [] => Iff.rfl
 | x :: l => by unfold sortL; rw [insL_mem, sortL_mem, List.mem_cons]
theorem sortL_sorted : ∀ {l : List Rec}, keysD l → (sortL l).Pairwise ltL
 | [], _ => .nil
 | x :: l, h => by
  unfold keysD at h
  rw [List.pairwise_cons] at h
  exact insL_sorted (sortL_sorted h.2) fun z hz => (h.1 z (sortL_mem.1 hz)).symm
def unionF (l1 l2 : List Rec) : List Rec := sortL (l1 ++ more l1 l2)
theorem union_is {l1 l2 : List Rec} (h1 : keysD l1) (h2 : keysD l2) (hc : Cons l1 l2) : Uni l1 l2 (unionF l1 l2) := by
  refine ⟨sortL_sorted ?_, fun x => ?_⟩
  · unfold keysD
    rw [List.pairwise_append]
    refine ⟨h1, List.Pairwise.filter _ h2, fun x hx y hy e => ?_⟩
    have hy' := (mem_more hc).1 hy
    exact hy'.2 (hc x hx y hy'.1 e ▸ hx)
  · unfold unionF
    rw [sortL_mem, List.mem_append, mem_more hc]
    by_cases q : x ∈ l1 <;> simp [q]
theorem Mrg.eq {l1 l2 l : List Rec} {n : Nat} (h : Mrg l1 l2 n l) (hn : n = l1.length + l2.length) (h1 : keysD l1) (h2 : keysD l2) (hc : Cons l1 l2) : l = unionF l1 l2 := (h.uni hn h1 h2 hc).uniq (union_is h1 h2 hc)
def contrB (mp : List ((Int × Int) × Rec)) (r : Rec) : Bool := match getM r.key mp with
 | some x => decide (x ≠ r)
 | none => false
theorem contr_iff {l1 l2 : List Rec} (h1 : keysD l1) : l2.any (contrB (bookL l1)) = false ↔ Cons l1 l2 := by
  rw [Bool.eq_false_iff, Ne, List.any_eq_true]
  constructor
  · intro h x hx y hy e
    refine Classical.byContradiction fun q => h ⟨y, hy, ?_⟩
    unfold contrB
    rw [book_get h1, ← e, findK_mem h1 hx]; exact decide_eq_true q
  · rintro hc ⟨y, hy, h⟩
    unfold contrB at h
    rw [book_get h1] at h
    cases hf : findK l1 y.key with
    | none => rw [hf] at h; cases h
    | some x =>
      rw [hf] at h
      have := findK_some hf
      exact of_decide_eq_true h (hc x this.1 y hy this.2)
theorem nums_at {f : List Rec} (hs : f.Pairwise fun x y => x.n < y.n) (h1 : ∀ x ∈ f, 1 ≤ x.n) (hp : ∀ x ∈ f, x.n = 1 ∨ ∃ y ∈ f, y.n = x.n - 1) : ∀ i, i < f.length → (recN f i).n = (i : Int) + 1 := by
  have hat : ∀ i j, i < j → j < f.length → (recN f i).n < (recN f j).n := fun i j hij hj => by
    rw [recN_get (by omega), recN_get hj]; exact List.pairwise_iff_getElem.1 hs i j (by omega) hj hij
  intro i
  induction i with
  | zero =>
    intro hi
    rcases hp _ (recN_mem hi) with e | ⟨y, hy, e⟩
    · rw [e]; rfl
    · obtain ⟨j, hj, rfl⟩ := mem_recN hy
      rcases Nat.eq_zero_or_pos j with q | q
      · subst q; omega
      · have := hat 0 j q hj; omega
  | succ i ih =>
    intro hi
    have ih := ih (by omega)
    have hlt := hat i (i + 1) (by omega) hi
    rcases hp _ (recN_mem hi) with e | ⟨y, hy, e⟩
    · have := h1 _ (recN_mem (show i < f.length by omega)); omega
    · obtain ⟨j, hj, rfl⟩ := mem_recN hy
      rcases Nat.lt_trichotomy j i with q | q | q
      · have := hat j i q (by omega); omega
      · subst q; omega
      · rcases Nat.lt_or_ge (i + 1) j with q2 | q2
        · have := hat (i + 1) j q2 hj; omega
        · obtain rfl : j = i + 1 := by omega
          omega
theorem own_nums {l : List Rec} (hv : Vd l) (c : Int) : (∀ x ∈ l, x.c = c → x.n ≤ cntC c l) ∧ ∀ m : Nat, 1 ≤ m → m ≤ cntC c l → ∃ x ∈ l, x.c = c ∧ x.n = m := by
  have hf : ∀ x, x ∈ l.filter (fun r => decide (r.c = c)) ↔ x ∈ l ∧ x.c = c := fun x => by rw [List.mem_filter, decide_eq_true_iff]
  have hn := nums_at (f := l.filter fun r => decide (r.c = c)) (by
      refine List.Pairwise.imp_of_mem (fun {x y} hx hy h => ?_) (hv.srt.filter _)
      have h1 := ((hf x).1 hx).2; have h2 := ((hf y).1 hy).2
      unfold ltL at h; omega) (fun x hx => (okR_n (hv.ok x ((hf x).1 hx).1)).1.1) fun x hx => by
      have hx' := (hf x).1 hx
      exact (hv.pre x hx'.1).imp id fun ⟨y, hy, e1, e2, _⟩ => ⟨y, (hf y).2 ⟨hy, e1.trans hx'.2⟩, e2⟩
  refine ⟨fun x hx e => ?_, fun m h1 h2 => ?_⟩
  · obtain ⟨i, hi, e2⟩ := mem_recN ((hf x).2 ⟨hx, e⟩)
    rw [e2, hn i hi]; unfold cntC; omega
  · have hi : m - 1 < (l.filter fun r => decide (r.c = c)).length := by unfold cntC at h2; omega
    have := (hf _).1 (recN_mem hi)
    exact ⟨_, this.1, this.2, by rw [hn _ hi]; omega⟩
theorem own_key {l : List Rec} (hv : Vd l) (c : Int) (x : Rec) : ∀ y ∈ l, y.key ≠ (own c l x).key := fun y hy e => by
 rw [key_iff] at e
 have := (own_nums hv c).1 y hy e.1
 have e2 := e.2
 unfold own at e2; simp only at e2; omega
theorem own_cons {l : List Rec} (hv : Vd l) (c : Int) (x : Rec) : Cons l [own c l x] := fun y hy z hz e => by
 rw [List.mem_singleton] at hz; subst hz
 exact absurd e (own_key hv c x y hy)
theorem keysD_one (x : Rec) : keysD [x] := List.pairwise_singleton ..
def addF (c : Int) (l : List Rec) (x : Rec) : Option (List Rec) :=
 if validB c l = true ∧ validB c (unionF l [own c l x]) = true then some (unionF l [own c l x]) else none
def corrF (c : Int) (l : List Rec) (x : Rec) : Option (List Rec) := if x.o = -1 ∧ x.w = 0 then none else addF c l x
def okM (c1 : Int) (l1 : List Rec) (c2 : Int) (l2 : List Rec) : Prop := validB c1 l1 = true ∧ validB c2 l2 = true ∧ l2.any (contrB (bookL l1)) = false ∧ validB c1 (unionF l1 l2) = true
instance (c1 : Int) (l1 : List Rec) (c2 : Int) (l2 : List Rec) : Decidable (okM c1 l1 c2 l2) := by unfold okM; infer_instance
def mergeF (c1 : Int) (l1 : List Rec) (c2 : Int) (l2 : List Rec) : Option (List Rec) := if okM c1 l1 c2 l2 then some (unionF l1 l2) else none
def behindF (c1 : Int) (l1 : List Rec) (c2 : Int) (l2 : List Rec) : Option (List Rec) := if okM c1 l1 c2 l2 then some (more l1 l2) else none
theorem valid_vd {c : Int} {l : List Rec} (h : validB c l = true) : Vd l := (valid_iff.1 h).2.2
theorem okM_iff {c1 c2 : Int} {l1 l2 : List Rec} : okM c1 l1 c2 l2 ↔ validB c1 l1 = true ∧ validB c2 l2 = true ∧ Cons l1 l2 ∧ l1.length + (more l1 l2).length ≤ 80 := by
  unfold okM
  constructor
  · rintro ⟨h1, h2, h3, h4⟩
    have v1 := valid_vd h1; have v2 := valid_vd h2
    have hc := (contr_iff v1.keys).1 h3
    exact ⟨h1, h2, hc, by rw [← (union_is v1.keys v2.keys hc).len v1.srt v2.srt hc]; exact (valid_iff.1 h4).2.1⟩
  · rintro ⟨h1, h2, h3, h4⟩
    have v1 := valid_vd h1; have v2 := valid_vd h2
    have hu := union_is v1.keys v2.keys h3
    exact ⟨h1, h2, (contr_iff v1.keys).2 h3, valid_iff.2 ⟨(valid_iff.1 h1).1, by rw [hu.len v1.srt v2.srt h3]; exact h4, v1.uni v2 hu⟩⟩
end Rep
end Go.Proofs.YtfmoabgjaclkpaaGreatDoor

namespace Go.Proofs.YtfmoabgjaclkpaaGreatDoor
namespace Rep
theorem sort_uniqG {α : Type} {R : α → α → Prop} (hi : ∀ x, ¬ R x x) (ha : ∀ x y, R x y → ¬ R y x) : ∀ {l l' : List α}, l.Pairwise R → l'.Pairwise R → (∀ x, x ∈ l ↔ x ∈ l') → l = l'
  | [], [], _, _, _ => rfl
  | [], y :: l', _, _, h => absurd ((h y).2 (List.mem_cons_self ..)) (by simp)
  | x :: l, [], _, _, h => absurd ((h x).1 (List.mem_cons_self ..)) (by simp)
  | x :: l, y :: l', hl, hl', h => by
    rw [List.pairwise_cons] at hl hl'
    have e : x = y := by
      rcases List.mem_cons.1 ((h x).1 (List.mem_cons_self ..)) with e | hx
      · exact e
      · rcases List.mem_cons.1 ((h y).2 (List.mem_cons_self ..)) with e | hy
        · exact e.symm
        · exact absurd (hl'.1 x hx) (ha _ _ (hl.1 y hy))
    subst e
    refine congrArg (x :: ·) (sort_uniqG hi ha hl.2 hl'.2 fun z => ⟨fun hz => ?_, fun hz => ?_⟩)
    · rcases List.mem_cons.1 ((h z).1 (List.mem_cons_of_mem _ hz)) with e | q
      · subst e; exact absurd (hl.1 z hz) (hi z)
      · exact q
    · rcases List.mem_cons.1 ((h z).2 (List.mem_cons_of_mem _ hz)) with e | q
      · subst e; exact absurd (hl'.1 z hz) (hi z)
      · exact q
def dep (l : List Rec) (x : Rec) : Nat := l.countP fun y => decide (ltB y x)
theorem dep_le (l : List Rec) (x : Rec) : dep l x ≤ l.length := List.countP_le_length
theorem countP_lt {p q : Rec → Bool} : ∀ {l : List Rec}, (∀ z ∈ l, p z = true → q z = true) → ∀ {y : Rec}, y ∈ l → p y = false → q y = true → l.countP p < l.countP q
  | [], _, _, hy, _, _ => by cases hy
  | z :: l, h, y, hy, hp, hq => by
    rw [List.countP_cons, List.countP_cons]
    rcases List.mem_cons.1 hy with rfl | hy
    · have := List.countP_mono_left (l := l) fun z hz => h z (List.mem_cons_of_mem _ hz)
      rw [hp, hq]; simp; omega
    · have ih := countP_lt (fun z hz => h z (List.mem_cons_of_mem _ hz)) hy hp hq
      have hz := h z (List.mem_cons_self ..)
      cases e : p z
      · simp; split <;> omega
      · rw [hz e]; simp; omega
theorem dep_lt {l : List Rec} {x y : Rec} (hy : y ∈ l) (h : ltB y x) : dep l y < dep l x :=
 countP_lt (fun _ _ hz => decide_eq_true (ltB_trans (of_decide_eq_true hz) h)) hy (decide_eq_false (ltB_irrefl y)) (decide_eq_true h)
def rtN (l : List Rec) : Nat → Rec → Rec
 | 0, x => x
 | n + 1, x => if isRoot x then x else match findK l x.tgt with
  | some y => rtN l n y
  | none => x
def rt (l : List Rec) (x : Rec) : Rec := rtN l l.length x
theorem rtN_root {l : List Rec} {x : Rec} (h : isRoot x) : ∀ n, rtN l n x = x
 | 0 => rfl
 | n + 1 => by unfold rtN; rw [if_pos h]
theorem rtN_step {l : List Rec} {x y : Rec} (h : ¬ isRoot x) (hf : findK l x.tgt = some y) (n : Nat) : rtN l (n + 1) x = rtN l n y := by
 rw [rtN, if_neg h, hf]
theorem Vd.tgt {l : List Rec} (hv : Vd l) {x : Rec} (hx : x ∈ l) (hr : ¬ isRoot x) : ∃ y, findK l x.tgt = some y ∧ y ∈ l ∧ ltB y x := by
 rcases hv.snd x hx with q | ⟨y, hy, e, hl⟩
 · exact absurd q hr
 · exact ⟨y, by rw [← e]; exact findK_mem hv.keys hy, hy, hl⟩
theorem rtN_eq {l : List Rec} (hv : Vd l) : ∀ (n m : Nat) (x : Rec), x ∈ l → dep l x ≤ n → dep l x ≤ m → rtN l n x = rtN l m x
  | n, m, x, hx, hn, hm => by
    by_cases hr : isRoot x
    · rw [rtN_root hr, rtN_root hr]
    · obtain ⟨y, hf, hy, hl⟩ := hv.tgt hx hr
      have hd := dep_lt hy hl
      obtain ⟨n, rfl⟩ : ∃ q, n = q + 1 := ⟨n - 1, by omega⟩
      obtain ⟨m, rfl⟩ : ∃ q, m = q + 1 := ⟨m - 1, by omega⟩
      rw [rtN_step hr hf, rtN_step hr hf]
      exact rtN_eq hv n m y hy (by omega) (by omega)
theorem rt_root {l : List Rec} {x : Rec} (h : isRoot x) : rt l x = x := rtN_root h _
theorem rt_step {l : List Rec} (hv : Vd l) {x y : Rec} (hx : x ∈ l) (h : ¬ isRoot x) (hf : findK l x.tgt = some y) : rt l x = rt l y := by
 obtain ⟨z, hf', hz, hl⟩ := hv.tgt hx h
 rw [hf] at hf'; cases hf'
 have hd := dep_lt hz hl
 have := dep_le l x
 unfold rt
 obtain ⟨n, hn⟩ : ∃ q, l.length = q + 1 := ⟨l.length - 1, by omega⟩
 rw [hn, rtN_step h hf]
 exact rtN_eq hv _ _ _ hz (by omega) (by omega)
theorem Vd.ind {l : List Rec} (hv : Vd l) {P : Rec → Prop} (h0 : ∀ x ∈ l, isRoot x → P x) (h1 : ∀ x ∈ l, ∀ y ∈ l, ¬ isRoot x → findK l x.tgt = some y → ltB y x → P y → P x) : ∀ x ∈ l, P x := by
  suffices H : ∀ n x, x ∈ l → dep l x ≤ n → P x from fun x hx => H _ x hx (Nat.le_refl _)
  intro n
  induction n with
  | zero =>
    intro x hx hd
    by_cases hr : isRoot x
    · exact h0 x hx hr
    · obtain ⟨y, hf, hy, hl⟩ := hv.tgt hx hr
      have := dep_lt hy hl; omega
  | succ n ih =>
    intro x hx hd
    by_cases hr : isRoot x
    · exact h0 x hx hr
    · obtain ⟨y, hf, hy, hl⟩ := hv.tgt hx hr
      have := dep_lt hy hl
      exact h1 x hx y hy hr hf hl (ih y hy (by omega))
theorem rt_is {l : List Rec} (hv : Vd l) : ∀ x ∈ l, rt l x ∈ l ∧ isRoot (rt l x) ∧ (rt l x = x ∨ ltB (rt l x) x) :=
 hv.ind (fun x hx hr => by rw [rt_root hr]; exact ⟨hx, hr, .inl rfl⟩) fun x hx y hy hr hf hl ih => by
  rw [rt_step hv hx hr hf]
  exact ⟨ih.1, ih.2.1, .inr (by rcases ih.2.2 with e | e; rw [e]; exact hl; exact ltB_trans e hl)⟩
def insB (x : Rec) : List Rec → List Rec
 | [] => [x]
 | y :: l => if ltB x y then x :: y :: l else y :: insB x l
def sortB : List Rec → List Rec
 | [] => []
 | x :: l => insB x (sortB l)
theorem insB_mem {x z : Rec} : ∀ {l : List Rec}, z ∈ insB x l ↔ z = x ∨ z ∈ l
  | [] => by simp [insB]
  | y :: l => by
    unfold insB
    split
    · simp
    · rw [List.mem_cons, insB_mem, List.mem_cons]; constructor
      · rintro (h | h | h)
        · exact .inr (.inl h)
        · exact .inl h
        · exact .inr (.inr h)
      · rintro (h | h | h)
        · exact .inr (.inl h)
        · exact .inl h
        · exact .inr (.inr h)
theorem insB_sorted {x : Rec} : ∀ {l : List Rec}, l.Pairwise ltB → (∀ z ∈ l, z.key ≠ x.key) → (insB x l).Pairwise ltB
  | [], _, _ => by simp [insB]
  | y :: l, h, hk => by
    rw [List.pairwise_cons] at h
    unfold insB
    split
    · rename_i hl
      rw [List.pairwise_cons]
      refine ⟨fun z hz => ?_, List.pairwise_cons.2 h⟩
      rcases List.mem_cons.1 hz with rfl | hz
      · exact hl
      · exact ltB_trans hl (h.1 z hz)
    · rename_i hl
      rw [List.pairwise_cons]
      refine ⟨fun z hz => ?_, insB_sorted h.2 fun z hz => hk z (List.mem_cons_of_mem _ hz)⟩
      rcases insB_mem.1 hz with rfl | hz
      · rcases ltB_tri y z with q | q | q
        · exact q
        · exact absurd q (hk y (List.mem_cons_self ..))
        · exact absurd q hl
      · exact h.1 z hz
theorem sortB_mem {z : Rec} : ∀ {l : List Rec}, z ∈ sortB l ↔ z ∈ l
 | [] => Iff.rfl
 | x :: l => by unfold sortB; rw [insB_mem, sortB_mem, List.mem_cons]
theorem sortB_sorted : ∀ {l : List Rec}, keysD l → (sortB l).Pairwise ltB
 | [], _ => .nil
 | x :: l, h => by
  unfold keysD at h
  rw [List.pairwise_cons] at h
  exact insB_sorted (sortB_sorted h.2) fun z hz => (h.1 z (sortB_mem.1 hz)).symm
def famK (l : List Rec) (k : Int × Int) : List Rec := (sortB l).filter fun x => decide ((rt l x).key = k)
theorem fam_mem {l : List Rec} {k : Int × Int} {x : Rec} : x ∈ famK l k ↔ x ∈ l ∧ (rt l x).key = k := by
 unfold famK; rw [List.mem_filter, sortB_mem, decide_eq_true_iff]
theorem fam_sorted {l : List Rec} (hd : keysD l) (k : Int × Int) : (famK l k).Pairwise ltB := (sortB_sorted hd).filter _
def rootsF (l : List Rec) : List Rec := (sortB l).filter fun x => decide (isRoot x)
theorem roots_mem {l : List Rec} {x : Rec} : x ∈ rootsF l ↔ x ∈ l ∧ isRoot x := by
 unfold rootsF; rw [List.mem_filter, sortB_mem, decide_eq_true_iff]
theorem roots_sorted {l : List Rec} (hd : keysD l) : (rootsF l).Pairwise ltB := (sortB_sorted hd).filter _
def lastR (l : List Rec) : Rec := recN l (l.length - 1)
def empty : ByteArray := ⟨#[]⟩
def foldF (l : List Rec) : List Rec := ((rootsF l).map fun r => lastR (famK l r.key)).filter fun x => decide (¬ x.x = empty)
theorem fam_head {l : List Rec} (hv : Vd l) {r : Rec} (hr : r ∈ l) (hq : isRoot r) : 0 < (famK l r.key).length ∧ recN (famK l r.key) 0 = r := by
  have hm : r ∈ famK l r.key := fam_mem.2 ⟨hr, by rw [rt_root hq]⟩
  have h0 : 0 < (famK l r.key).length := List.length_pos_of_mem hm
  refine ⟨h0, ?_⟩
  obtain ⟨i, hi, e⟩ := mem_recN hm
  rcases Nat.eq_zero_or_pos i with q | q
  · rw [q] at e; exact e.symm
  · exfalso
    have hs := List.pairwise_iff_getElem.1 (fam_sorted hv.keys r.key) 0 i h0 hi q
    rw [← recN_get h0, ← recN_get hi, ← e] at hs
    have hx := fam_mem.1 (recN_mem h0)
    obtain ⟨g1, g2, g3⟩ := rt_is hv _ hx.1
    have e2 : rt l (recN (famK l r.key) 0) = r := hv.keys.inj g1 hr hx.2
    rw [e2] at g3
    rcases g3 with g3 | g3
    · rw [← g3] at hs; exact ltB_irrefl _ hs
    · exact ltB_asymm hs g3
theorem fam_none {l : List Rec} (hv : Vd l) {k : Int × Int} (h : ∀ r ∈ l, isRoot r → r.key ≠ k) : famK l k = [] := by
 refine List.eq_nil_iff_forall_not_mem.2 fun x hx => ?_
 obtain ⟨h1, h2⟩ := fam_mem.1 hx
 obtain ⟨g1, g2, _⟩ := rt_is hv x h1
 exact h _ g1 g2 h2
theorem fams_uniq {l : List Rec} (hv : Vd l) {ls : List (List Rec)} (hs : ls.Pairwise fun a b => ltB (recN a 0) (recN b 0)) (hm : ∀ f, f ∈ ls ↔ ∃ r ∈ l, isRoot r ∧ f = famK l r.key) : ls = (rootsF l).map fun r => famK l r.key := by
  refine sort_uniqG (R := fun a b => ltB (recN a 0) (recN b 0)) (fun x => ltB_irrefl _) (fun _ _ => ltB_asymm) hs ?_ fun f => ?_
  · rw [List.pairwise_map]
    refine List.Pairwise.imp_of_mem (fun {a b} ha hb h => ?_) (roots_sorted hv.keys)
    rw [(fam_head hv (roots_mem.1 ha).1 (roots_mem.1 ha).2).2, (fam_head hv (roots_mem.1 hb).1 (roots_mem.1 hb).2).2]; exact h
  · rw [hm, List.mem_map]
    exact ⟨fun ⟨r, h1, h2, h3⟩ => ⟨r, roots_mem.2 ⟨h1, h2⟩, h3.symm⟩, fun ⟨r, h1, h2⟩ => ⟨r, (roots_mem.1 h1).1, (roots_mem.1 h1).2, h2.symm⟩⟩
def histF (l : List Rec) (k : Int × Int) : Option (List Rec) := (findK l k).map fun x => famK l (rt l x).key
end Rep
end Go.Proofs.YtfmoabgjaclkpaaGreatDoor

namespace Go.Proofs.YtfmoabgjaclkpaaGreatDoor
set_option maxRecDepth 1000000
set_option maxHeartbeats 4000000
set_option synthInstance.maxHeartbeats 0
set_option synthInstance.maxSize 9999
open Go.RowKit
def Tz35_0 : List Row := [(some 7, [1], []), (some 8, [2], []), (some 9, [8], [1]), (some 10, [7, 9], [0, 2]), (some 6, [10], [3]), (some 11, [6], [4]), (some 12, [6], [4]), (some 4, [], []), (none, [4, 11], [7, 5, 2, 0, 1, 2, 3, 4, 5, 7]), (some 5, [12], [6, 8, 0, 1, 2, 3, 4, 5, 6, 7, 8])]
theorem contrad1_c {w1 : World} {B : Nat} {mp : List ((Int × Int) × Rec)} {w2 : World} {B6 : Nat} (x : Rec) (w : World) (hM : MapS keyV Rec.val w1 B mp) (e1 : Ext w1 w) (cB : w2.cell? ⟨B6, 0, none⟩ = some (.map (some B))) (e2 : Ext w2 w) : Calls Tryz.prog 87 #[.agg #[iv x.c, iv x.n, iv x.t, iv x.o, iv x.w, iv x.k, .string x.x], pw B6 0] w fun e w' => e = .returned (.bool (Rep.contrB mp x)) ∧ Ext w w' := by
 replace hM := hM.ext e1;clear e1;have hBl := hM.lt;replace cB := e2.cell cB;clear e2;have Et := World.block_lt_of_cell? _ _ cB;refine calls_cw 19 [(1, pw B6 0), (0, .agg #[iv x.c, iv x.n, iv x.t, iv x.o, iv x.w, iv x.k, .string x.x])] Tryz.func87 rfl Tryz.ntmps87 (by kernel_rfl) (by kernel_rfl) (fun L => ?_);have hE := Ext.refl w;refine zc (zp (pS (sw 49 #[iv x.c, iv x.n, iv x.t, iv x.o, iv x.w, iv x.k, .string x.x] ?_)));intro O1 X2 F1 F0 hb hbx;have ⟨B3, B4, B7, B8, Ba, Bb, Bc⟩ := bq7 hbx;replace hE := hE.trans hb;have Dc := hb.size;have Ff := B3.lt;refine pT (.bool false) ?_;refine zn (cw_seq ?_);rcases hg : getM (x.c, x.n) mp with _ | y
 ·
  have B2 := Ext.refl X2;refine cw_join (fun ws' Y => ∃ Cv : Nat, ws' = [(2, pw O1 0), (4, pw Cv 0), (5, .bool false)] ∧ Ext w Y ∧ Ext X2 Y ∧ BoxAt Y Cv 0 (iv 0) ∧ BoxAt Y Cv 1 (iv 0) ∧ BoxAt Y Cv 2 (iv 0) ∧ BoxAt Y Cv 3 (iv 0) ∧ BoxAt Y Cv 4 (iv 0) ∧ BoxAt Y Cv 5 (iv 0) ∧ BoxAt Y Cv 6 (.string (⟨#[]⟩)) ∧ X2.heap.size ≤ Y.heap.size ∧ X2.heap.size ≤ Cv) (fun hJ => ?_) ?_
  ·
   refine dE Tz35_0 (fun w' => w'.cell? ⟨B6, 0, none⟩ = some (.map (some B)) ∧ w'.cell? ⟨O1, 0, none⟩ = some (iv x.c) ∧ w'.cell? ⟨O1, 1, none⟩ = some (iv x.n) ∧ w'.cell? ⟨O1, 2, none⟩ = some (iv x.t) ∧ w'.cell? ⟨O1, 3, none⟩ = some (iv x.o) ∧ w'.cell? ⟨O1, 4, none⟩ = some (iv x.w) ∧ w'.cell? ⟨O1, 5, none⟩ = some (iv x.k) ∧ w'.cell? ⟨O1, 6, none⟩ = some (.string x.x)) (⟨(hE.cell cB), B3.1, B4.1, B7.1, B8.1, Ba.1, Bb.1, Bc.1⟩) (fun ops Q X6 hb hL hR hK => ?_);refine mv2 hb hE B2 fun hE B2=>?_;have Cz := hb.size;have Eb := A8 (hE.cell cB) (B3.c B2) (B4.c B2) (B7.c B2) (B8.c B2) (Ba.c B2) (Bb.c B2) (Bc.c B2);refine wM 0 (.map (some B)) hR (fun w hS => ld79 (hS.1)) Eb ?_;refine wM 1 (.agg #[iv x.c, iv x.n, iv x.t, iv x.o, iv x.w, iv x.k, .string x.x]) hR (fun w hS => ld49 (hS.2.1) (hS.2.2.1) (hS.2.2.2.1) (hS.2.2.2.2.1) (hS.2.2.2.2.2.1) (hS.2.2.2.2.2.2.1) (hS.2.2.2.2.2.2.2)) Eb ?_;refine zw 2 7 hR ?_ ?_
   ·
    refine sc 68 #[.agg #[iv x.c, iv x.n, iv x.t, iv x.o, iv x.w, iv x.k, .string x.x]] ((keyOf_c x _).mono ?_);rintro e w9 ⟨rfl, hb⟩;refine mv2 hb hE B2 fun hE B2=>?_;have Cm := hb.size;have D0 := A8 (hE.cell cB) (B3.c B2) (B4.c B2) (B7.c B2) (B8.c B2) (Ba.c B2) (Bb.c B2) (Bc.c B2);refine ⟨_, rfl, D0, ?_⟩;refine zw 3 7 hR ?_ ?_
    ·
     refine sn_eff (v := .tuple #[.agg #[iv 0, iv 0, iv 0, iv 0, iv 0, iv 0, .string (⟨#[]⟩)], .bool false]) (w' := w9) (ex_lookup rfl (by kernel_rfl) (by kernel_rfl) (lookup_is2 (run_lookup2 Tryz.underlying79 (hM.ext hE) key_law (x.c, x.n) (zero_rec _)) hg)) ⟨D0, ?_⟩;refine wW 4 (.tuple #[.agg #[iv 0, iv 0, iv 0, iv 0, iv 0, iv 0, .string (⟨#[]⟩)], .bool false]) 5 (.agg #[iv 0, iv 0, iv 0, iv 0, iv 0, iv 0, .string (⟨#[]⟩)]) hR D0 ?_;refine wV 6 (.bool false) hR D0 ?_;refine wN 7 49 #[iv 0, iv 0, iv 0, iv 0, iv 0, iv 0, .string (⟨#[]⟩)] hR ?_;intro Cv Ek D6 Ec hb hbx;have ⟨Bf, C1, C2, C3, C4, C5, C6⟩ := bq7 hbx;refine mv2 hb hE B2 fun hE B2=>?_;have Du := hb.size;have F2 := Bf.lt;have Dp := A8 (hE.cell cB) (B3.c B2) (B4.c B2) (B7.c B2) (B8.c B2) (Ba.c B2) (Bb.c B2) (Bc.c B2);refine ⟨Dp, ?_⟩;refine wS 8 hR (sn_setK7 (O := Cv) (j := 0) (v0 := iv 0) (v1 := iv 0) (v2 := iv 0) (v3 := iv 0) (v4 := iv 0) (v5 := iv 0) (v6 := .string (⟨#[]⟩)) (ex_store (p := pw Cv 0) (v := .agg #[iv 0, iv 0, iv 0, iv 0, iv 0, iv 0, .string (⟨#[]⟩)]) rfl (by kernel_rfl) (by kernel_rfl) (st49 Bf.1 Bf.2 C1.1 C1.2 C2.1 C2.2 C3.1 C3.2 C4.1 C4.2 C5.1 C5.2 C6.1 C6.2)) Bf C1 C2 C3 C4 C5 C6 ?_);intro El ho Bf C1 C2 C3 C4 C5 C6 hk;replace hE := ho.ext hE (T (T Dc (T Cz Cm)) (Nat.le_of_eq D6));replace B2 := ho.ext B2 (T (T Cz Cm) (Nat.le_of_eq D6));have Dv := Nat.le_of_eq ho.size.symm;clear ho hk;have Dd := A8 (hE.cell cB) (B3.c B2) (B4.c B2) (B7.c B2) (B8.c B2) (Ba.c B2) (Bb.c B2) (Bc.c B2);refine ⟨Dd, ?_⟩;refine wV 9 (.bool false) hR Dd ?_;refine we hL hR hK ?_;exact zl hJ [2, 4, 5] ⟨Cv, rfl, hE, B2, Bf, C1, C2, C3, C4, C5, C6, (T Cz (T Cm (T Du Dv))), (T (T Cz Cm) (Nat.le_of_eq D6))⟩
    ·
     refine sw 49 #[iv 0, iv 0, iv 0, iv 0, iv 0, iv 0, .string (⟨#[]⟩)] ?_;intro Dk E8 D7 Ed hb hbx;have ⟨C7, C9, Ca, Cb, Cc, Cd, Ce⟩ := bq7 hbx;refine mv2 hb hE B2 fun hE B2=>?_;have Dw := hb.size;have F3 := C7.lt;have D1 := A8 (hE.cell cB) (B3.c B2) (B4.c B2) (B7.c B2) (B8.c B2) (Ba.c B2) (Bb.c B2) (Bc.c B2);refine ⟨D1, ?_⟩;refine wS 3 hR (sn_eff (v := .tuple #[.agg #[iv 0, iv 0, iv 0, iv 0, iv 0, iv 0, .string (⟨#[]⟩)], .bool false]) (w' := E8) (ex_lookup rfl (by kernel_rfl) (by kernel_rfl) (lookup_is2 (run_lookup2 Tryz.underlying79 (hM.ext hE) key_law (x.c, x.n) (zero_rec _)) hg)) ⟨D1, ?_⟩);refine wW 4 (.tuple #[.agg #[iv 0, iv 0, iv 0, iv 0, iv 0, iv 0, .string (⟨#[]⟩)], .bool false]) 5 (.agg #[iv 0, iv 0, iv 0, iv 0, iv 0, iv 0, .string (⟨#[]⟩)]) hR D1 ?_;refine wV 6 (.bool false) hR D1 ?_;refine wS 8 hR (sn_setK7 (O := Dk) (j := 0) (v0 := iv 0) (v1 := iv 0) (v2 := iv 0) (v3 := iv 0) (v4 := iv 0) (v5 := iv 0) (v6 := .string (⟨#[]⟩)) (ex_store (p := pw Dk 0) (v := .agg #[iv 0, iv 0, iv 0, iv 0, iv 0, iv 0, .string (⟨#[]⟩)]) rfl (by kernel_rfl) (by kernel_rfl) (st49 C7.1 C7.2 C9.1 C9.2 Ca.1 Ca.2 Cb.1 Cb.2 Cc.1 Cc.2 Cd.1 Cd.2 Ce.1 Ce.2)) C7 C9 Ca Cb Cc Cd Ce ?_);intro Em ho C7 C9 Ca Cb Cc Cd Ce hk;replace hE := ho.ext hE (T (T Dc (T Cz Cm)) (Nat.le_of_eq D7));replace B2 := ho.ext B2 (T (T Cz Cm) (Nat.le_of_eq D7));have Dx := Nat.le_of_eq ho.size.symm;clear ho hk;have De := A8 (hE.cell cB) (B3.c B2) (B4.c B2) (B7.c B2) (B8.c B2) (Ba.c B2) (Bb.c B2) (Bc.c B2);refine ⟨De, ?_⟩;refine wV 9 (.bool false) hR De ?_;refine we hL hR hK ?_;exact zl hJ [2, 4, 5] ⟨Dk, rfl, hE, B2, C7, C9, Ca, Cb, Cc, Cd, Ce, (T Cz (T Cm (T Dw Dx))), (T (T Cz Cm) (Nat.le_of_eq D7))⟩
   ·
    refine sw 49 #[iv 0, iv 0, iv 0, iv 0, iv 0, iv 0, .string (⟨#[]⟩)] ?_;intro Dl Fc D8 Ee hb hbx;have ⟨Bg, Bp, Bq, Br, Bs, Bt, Bu⟩ := bq7 hbx;refine mv2 hb hE B2 fun hE B2=>?_;have Dy := hb.size;have F4 := Bg.lt;have Dq := A8 (hE.cell cB) (B3.c B2) (B4.c B2) (B7.c B2) (B8.c B2) (Ba.c B2) (Bb.c B2) (Bc.c B2);refine ⟨Dq, ?_⟩;refine wC 2 68 #[.agg #[iv x.c, iv x.n, iv x.t, iv x.o, iv x.w, iv x.k, .string x.x]] hR ((keyOf_c x _).mono ?_);rintro e Ei ⟨rfl, hb⟩;refine mv9 hb hE B2 Bg Bp Bq Br Bs Bt Bu fun hE B2 Bg Bp Bq Br Bs Bt Bu=>?_;have Dz := hb.size;have D2 := A8 (hE.cell cB) (B3.c B2) (B4.c B2) (B7.c B2) (B8.c B2) (Ba.c B2) (Bb.c B2) (Bc.c B2);refine ⟨_, rfl, D2, ?_⟩;refine wS 3 hR (sn_eff (v := .tuple #[.agg #[iv 0, iv 0, iv 0, iv 0, iv 0, iv 0, .string (⟨#[]⟩)], .bool false]) (w' := Ei) (ex_lookup rfl (by kernel_rfl) (by kernel_rfl) (lookup_is2 (run_lookup2 Tryz.underlying79 (hM.ext hE) key_law (x.c, x.n) (zero_rec _)) hg)) ⟨D2, ?_⟩);refine wW 4 (.tuple #[.agg #[iv 0, iv 0, iv 0, iv 0, iv 0, iv 0, .string (⟨#[]⟩)], .bool false]) 5 (.agg #[iv 0, iv 0, iv 0, iv 0, iv 0, iv 0, .string (⟨#[]⟩)]) hR D2 ?_;refine wV 6 (.bool false) hR D2 ?_;refine wS 8 hR (sn_setK7 (O := Dl) (j := 0) (v0 := iv 0) (v1 := iv 0) (v2 := iv 0) (v3 := iv 0) (v4 := iv 0) (v5 := iv 0) (v6 := .string (⟨#[]⟩)) (ex_store (p := pw Dl 0) (v := .agg #[iv 0, iv 0, iv 0, iv 0, iv 0, iv 0, .string (⟨#[]⟩)]) rfl (by kernel_rfl) (by kernel_rfl) (st49 Bg.1 Bg.2 Bp.1 Bp.2 Bq.1 Bq.2 Br.1 Br.2 Bs.1 Bs.2 Bt.1 Bt.2 Bu.1 Bu.2)) Bg Bp Bq Br Bs Bt Bu ?_);intro En ho Bg Bp Bq Br Bs Bt Bu hk;replace hE := ho.ext hE (T (T Dc Cz) (Nat.le_of_eq D8));replace B2 := ho.ext B2 (T Cz (Nat.le_of_eq D8));have E0 := Nat.le_of_eq ho.size.symm;clear ho hk;have Df := A8 (hE.cell cB) (B3.c B2) (B4.c B2) (B7.c B2) (B8.c B2) (Ba.c B2) (Bb.c B2) (Bc.c B2);refine ⟨Df, ?_⟩;refine wV 9 (.bool false) hR Df ?_;refine we hL hR hK ?_;exact zl hJ [2, 4, 5] ⟨Dl, rfl, hE, B2, Bg, Bp, Bq, Br, Bs, Bt, Bu, (T Cz (T Dy (T Dz E0))), (T Cz (Nat.le_of_eq D8))⟩
  ·
   clear hE B2;rintro L ws Ea ⟨Cv, rfl, hE, B2, Bf, C1, C2, C3, C4, C5, C6, Ev, Ew⟩;have F5 := Bf.lt;refine qw_then ?_;refine cw_seq ?_;have Eu := Ext.refl Ea;refine zp (pD (.bool false) (.bool false) ?_);refine pK ?_;refine pK ?_;refine pK ?_;refine pD (.bool false) (.bool false) ?_;refine zn (cw_ret (qw_ret [.bool false] rfl ⟨(by kernel_rfl), trivial⟩ ?_));exact ⟨rb (show Rep.contrB mp x = false by unfold Rep.contrB; show (match getM (x.c, x.n) mp with | some x9 => _ | none => _) = _; rw [hg]; first | done | simp []).symm, hE⟩
 ·
  have B0 := Ext.refl X2;refine cw_join (fun ws' Y => ∃ Cw : Nat, ws' = [(2, pw O1 0), (4, pw Cw 0), (5, .bool true)] ∧ Ext w Y ∧ Ext X2 Y ∧ BoxAt Y Cw 0 (iv y.c) ∧ BoxAt Y Cw 1 (iv y.n) ∧ BoxAt Y Cw 2 (iv y.t) ∧ BoxAt Y Cw 3 (iv y.o) ∧ BoxAt Y Cw 4 (iv y.w) ∧ BoxAt Y Cw 5 (iv y.k) ∧ BoxAt Y Cw 6 (.string y.x) ∧ X2.heap.size ≤ Y.heap.size ∧ X2.heap.size ≤ Cw) (fun hJ => ?_) ?_
  ·
   refine dE Tz35_0 (fun w' => w'.cell? ⟨B6, 0, none⟩ = some (.map (some B)) ∧ w'.cell? ⟨O1, 0, none⟩ = some (iv x.c) ∧ w'.cell? ⟨O1, 1, none⟩ = some (iv x.n) ∧ w'.cell? ⟨O1, 2, none⟩ = some (iv x.t) ∧ w'.cell? ⟨O1, 3, none⟩ = some (iv x.o) ∧ w'.cell? ⟨O1, 4, none⟩ = some (iv x.w) ∧ w'.cell? ⟨O1, 5, none⟩ = some (iv x.k) ∧ w'.cell? ⟨O1, 6, none⟩ = some (.string x.x)) (⟨(hE.cell cB), B3.1, B4.1, B7.1, B8.1, Ba.1, Bb.1, Bc.1⟩) (fun ops Q Fd hb hL hR hK => ?_);refine mv2 hb hE B0 fun hE B0=>?_;have Cl := hb.size;have Dg := A8 (hE.cell cB) (B3.c B0) (B4.c B0) (B7.c B0) (B8.c B0) (Ba.c B0) (Bb.c B0) (Bc.c B0);refine wM 0 (.map (some B)) hR (fun w hS => ld79 (hS.1)) Dg ?_;refine wM 1 (.agg #[iv x.c, iv x.n, iv x.t, iv x.o, iv x.w, iv x.k, .string x.x]) hR (fun w hS => ld49 (hS.2.1) (hS.2.2.1) (hS.2.2.2.1) (hS.2.2.2.2.1) (hS.2.2.2.2.2.1) (hS.2.2.2.2.2.2.1) (hS.2.2.2.2.2.2.2)) Dg ?_;refine zw 2 7 hR ?_ ?_
   ·
    refine sc 68 #[.agg #[iv x.c, iv x.n, iv x.t, iv x.o, iv x.w, iv x.k, .string x.x]] ((keyOf_c x _).mono ?_);rintro e Fb ⟨rfl, hb⟩;refine mv2 hb hE B0 fun hE B0=>?_;have Cn := hb.size;have D3 := A8 (hE.cell cB) (B3.c B0) (B4.c B0) (B7.c B0) (B8.c B0) (Ba.c B0) (Bb.c B0) (Bc.c B0);refine ⟨_, rfl, D3, ?_⟩;refine zw 3 7 hR ?_ ?_
    ·
     refine sn_eff (v := .tuple #[.agg #[iv y.c, iv y.n, iv y.t, iv y.o, iv y.w, iv y.k, .string y.x], .bool true]) (w' := Fb) (ex_lookup rfl (by kernel_rfl) (by kernel_rfl) (lookup_is2 (run_lookup2 Tryz.underlying79 (hM.ext hE) key_law (x.c, x.n) (zero_rec _)) hg)) ⟨D3, ?_⟩;refine wW 4 (.tuple #[.agg #[iv y.c, iv y.n, iv y.t, iv y.o, iv y.w, iv y.k, .string y.x], .bool true]) 5 (.agg #[iv y.c, iv y.n, iv y.t, iv y.o, iv y.w, iv y.k, .string y.x]) hR D3 ?_;refine wV 6 (.bool true) hR D3 ?_;refine wN 7 49 #[iv 0, iv 0, iv 0, iv 0, iv 0, iv 0, .string (⟨#[]⟩)] hR ?_;intro Cw Eo D9 Ef hb hbx;have ⟨Be, Bh, Bi, Bj, Bk, Bm, Bn⟩ := bq7 hbx;refine mv2 hb hE B0 fun hE B0=>?_;have E1 := hb.size;have F6 := Be.lt;have Dr := A8 (hE.cell cB) (B3.c B0) (B4.c B0) (B7.c B0) (B8.c B0) (Ba.c B0) (Bb.c B0) (Bc.c B0);refine ⟨Dr, ?_⟩;refine wS 8 hR (sn_setK7 (O := Cw) (j := 0) (v0 := iv y.c) (v1 := iv y.n) (v2 := iv y.t) (v3 := iv y.o) (v4 := iv y.w) (v5 := iv y.k) (v6 := .string y.x) (ex_store (p := pw Cw 0) (v := .agg #[iv y.c, iv y.n, iv y.t, iv y.o, iv y.w, iv y.k, .string y.x]) rfl (by kernel_rfl) (by kernel_rfl) (st49 Be.1 Be.2 Bh.1 Bh.2 Bi.1 Bi.2 Bj.1 Bj.2 Bk.1 Bk.2 Bm.1 Bm.2 Bn.1 Bn.2)) Be Bh Bi Bj Bk Bm Bn ?_);intro Ep ho Be Bh Bi Bj Bk Bm Bn hk;replace hE := ho.ext hE (T (T Dc (T Cl Cn)) (Nat.le_of_eq D9));replace B0 := ho.ext B0 (T (T Cl Cn) (Nat.le_of_eq D9));have E2 := Nat.le_of_eq ho.size.symm;clear ho hk;have Dh := A8 (hE.cell cB) (B3.c B0) (B4.c B0) (B7.c B0) (B8.c B0) (Ba.c B0) (Bb.c B0) (Bc.c B0);refine ⟨Dh, ?_⟩;refine wV 9 (.bool true) hR Dh ?_;refine we hL hR hK ?_;exact zl hJ [2, 4, 5] ⟨Cw, rfl, hE, B0, Be, Bh, Bi, Bj, Bk, Bm, Bn, (T Cl (T Cn (T E1 E2))), (T (T Cl Cn) (Nat.le_of_eq D9))⟩
    ·
     refine sw 49 #[iv 0, iv 0, iv 0, iv 0, iv 0, iv 0, .string (⟨#[]⟩)] ?_;intro Dm E9 Da Eg hb hbx;have ⟨C8, Cf, Cg, Ch, Ci, Cj, Ck⟩ := bq7 hbx;refine mv2 hb hE B0 fun hE B0=>?_;have E3 := hb.size;have F7 := C8.lt;have D4 := A8 (hE.cell cB) (B3.c B0) (B4.c B0) (B7.c B0) (B8.c B0) (Ba.c B0) (Bb.c B0) (Bc.c B0);refine ⟨D4, ?_⟩;refine wS 3 hR (sn_eff (v := .tuple #[.agg #[iv y.c, iv y.n, iv y.t, iv y.o, iv y.w, iv y.k, .string y.x], .bool true]) (w' := E9) (ex_lookup rfl (by kernel_rfl) (by kernel_rfl) (lookup_is2 (run_lookup2 Tryz.underlying79 (hM.ext hE) key_law (x.c, x.n) (zero_rec _)) hg)) ⟨D4, ?_⟩);refine wW 4 (.tuple #[.agg #[iv y.c, iv y.n, iv y.t, iv y.o, iv y.w, iv y.k, .string y.x], .bool true]) 5 (.agg #[iv y.c, iv y.n, iv y.t, iv y.o, iv y.w, iv y.k, .string y.x]) hR D4 ?_;refine wV 6 (.bool true) hR D4 ?_;refine wS 8 hR (sn_setK7 (O := Dm) (j := 0) (v0 := iv y.c) (v1 := iv y.n) (v2 := iv y.t) (v3 := iv y.o) (v4 := iv y.w) (v5 := iv y.k) (v6 := .string y.x) (ex_store (p := pw Dm 0) (v := .agg #[iv y.c, iv y.n, iv y.t, iv y.o, iv y.w, iv y.k, .string y.x]) rfl (by kernel_rfl) (by kernel_rfl) (st49 C8.1 C8.2 Cf.1 Cf.2 Cg.1 Cg.2 Ch.1 Ch.2 Ci.1 Ci.2 Cj.1 Cj.2 Ck.1 Ck.2)) C8 Cf Cg Ch Ci Cj Ck ?_);intro Er ho C8 Cf Cg Ch Ci Cj Ck hk;replace hE := ho.ext hE (T (T Dc (T Cl Cn)) (Nat.le_of_eq Da));replace B0 := ho.ext B0 (T (T Cl Cn) (Nat.le_of_eq Da));have E4 := Nat.le_of_eq ho.size.symm;clear ho hk;have Di := A8 (hE.cell cB) (B3.c B0) (B4.c B0) (B7.c B0) (B8.c B0) (Ba.c B0) (Bb.c B0) (Bc.c B0);refine ⟨Di, ?_⟩;refine wV 9 (.bool true) hR Di ?_;refine we hL hR hK ?_;exact zl hJ [2, 4, 5] ⟨Dm, rfl, hE, B0, C8, Cf, Cg, Ch, Ci, Cj, Ck, (T Cl (T Cn (T E3 E4))), (T (T Cl Cn) (Nat.le_of_eq Da))⟩
   ·
    refine sw 49 #[iv 0, iv 0, iv 0, iv 0, iv 0, iv 0, .string (⟨#[]⟩)] ?_;intro Dn Fe Db Eh hb hbx;have ⟨Bo, Bv, Bw, Bx, By, Bz, C0⟩ := bq7 hbx;refine mv2 hb hE B0 fun hE B0=>?_;have E5 := hb.size;have F8 := Bo.lt;have Dt := A8 (hE.cell cB) (B3.c B0) (B4.c B0) (B7.c B0) (B8.c B0) (Ba.c B0) (Bb.c B0) (Bc.c B0);refine ⟨Dt, ?_⟩;refine wC 2 68 #[.agg #[iv x.c, iv x.n, iv x.t, iv x.o, iv x.w, iv x.k, .string x.x]] hR ((keyOf_c x _).mono ?_);rintro e Ej ⟨rfl, hb⟩;refine mv9 hb hE B0 Bo Bv Bw Bx By Bz C0 fun hE B0 Bo Bv Bw Bx By Bz C0=>?_;have E6 := hb.size;have D5 := A8 (hE.cell cB) (B3.c B0) (B4.c B0) (B7.c B0) (B8.c B0) (Ba.c B0) (Bb.c B0) (Bc.c B0);refine ⟨_, rfl, D5, ?_⟩;refine wS 3 hR (sn_eff (v := .tuple #[.agg #[iv y.c, iv y.n, iv y.t, iv y.o, iv y.w, iv y.k, .string y.x], .bool true]) (w' := Ej) (ex_lookup rfl (by kernel_rfl) (by kernel_rfl) (lookup_is2 (run_lookup2 Tryz.underlying79 (hM.ext hE) key_law (x.c, x.n) (zero_rec _)) hg)) ⟨D5, ?_⟩);refine wW 4 (.tuple #[.agg #[iv y.c, iv y.n, iv y.t, iv y.o, iv y.w, iv y.k, .string y.x], .bool true]) 5 (.agg #[iv y.c, iv y.n, iv y.t, iv y.o, iv y.w, iv y.k, .string y.x]) hR D5 ?_;refine wV 6 (.bool true) hR D5 ?_;refine wS 8 hR (sn_setK7 (O := Dn) (j := 0) (v0 := iv y.c) (v1 := iv y.n) (v2 := iv y.t) (v3 := iv y.o) (v4 := iv y.w) (v5 := iv y.k) (v6 := .string y.x) (ex_store (p := pw Dn 0) (v := .agg #[iv y.c, iv y.n, iv y.t, iv y.o, iv y.w, iv y.k, .string y.x]) rfl (by kernel_rfl) (by kernel_rfl) (st49 Bo.1 Bo.2 Bv.1 Bv.2 Bw.1 Bw.2 Bx.1 Bx.2 By.1 By.2 Bz.1 Bz.2 C0.1 C0.2)) Bo Bv Bw Bx By Bz C0 ?_);intro Es ho Bo Bv Bw Bx By Bz C0 hk;replace hE := ho.ext hE (T (T Dc Cl) (Nat.le_of_eq Db));replace B0 := ho.ext B0 (T Cl (Nat.le_of_eq Db));have E7 := Nat.le_of_eq ho.size.symm;clear ho hk;have Dj := A8 (hE.cell cB) (B3.c B0) (B4.c B0) (B7.c B0) (B8.c B0) (Ba.c B0) (Bb.c B0) (Bc.c B0);refine ⟨Dj, ?_⟩;refine wV 9 (.bool true) hR Dj ?_;refine we hL hR hK ?_;exact zl hJ [2, 4, 5] ⟨Dn, rfl, hE, B0, Bo, Bv, Bw, Bx, By, Bz, C0, (T Cl (T E5 (T E6 E7))), (T Cl (Nat.le_of_eq Db))⟩
  ·
   clear hE B0;rintro L ws Do ⟨Cw, rfl, hE, B0, Be, Bh, Bi, Bj, Bk, Bm, Bn, Ey, Ez⟩;have Fa := Be.lt;refine zq (cw_seq ?_)
   by_cases hB : y = x
   ·
    have Cx := Ext.refl Do;refine zp (pD (.bool true) (.bool true) ?_);refine pU (.agg #[iv y.c, iv y.n, iv y.t, iv y.o, iv y.w, iv y.k, .string y.x]) (xl (ld49 (Be.1) (Bh.1) (Bi.1) (Bj.1) (Bk.1) (Bm.1) (Bn.1))) ?_;refine pU (.agg #[iv x.c, iv x.n, iv x.t, iv x.o, iv x.w, iv x.k, .string x.x]) (xl (ld49 (B3.c (B0.trans Cx)) (B4.c (B0.trans Cx)) (B7.c (B0.trans Cx)) (B8.c (B0.trans Cx)) (Ba.c (B0.trans Cx)) (Bb.c (B0.trans Cx)) (Bc.c (B0.trans Cx)))) ?_;refine pU (.bool false) (ex_binV (a := .agg #[iv y.c, iv y.n, iv y.t, iv y.o, iv y.w, iv y.k, .string y.x]) (b := .agg #[iv x.c, iv x.n, iv x.t, iv x.o, iv x.w, iv x.k, .string x.x]) rfl (by kernel_rfl) (by kernel_rfl) (eqG_agg (by kernel_rfl)) (bin_nqv_t (rec_eq _ y x) hB)) ?_;refine pD (.bool false) (.bool false) ?_;refine zn (cw_ret (qw_ret [.bool false] rfl ⟨(by kernel_rfl), trivial⟩ ?_));exact ⟨rb (show Rep.contrB mp x = false by unfold Rep.contrB; show (match getM (x.c, x.n) mp with | some x9 => _ | none => _) = _; rw [hg]; first | done | simp [hB]).symm, hE⟩
   ·
    have Cy := Ext.refl Do;refine zp (pD (.bool true) (.bool true) ?_);refine pU (.agg #[iv y.c, iv y.n, iv y.t, iv y.o, iv y.w, iv y.k, .string y.x]) (xl (ld49 (Be.1) (Bh.1) (Bi.1) (Bj.1) (Bk.1) (Bm.1) (Bn.1))) ?_;refine pU (.agg #[iv x.c, iv x.n, iv x.t, iv x.o, iv x.w, iv x.k, .string x.x]) (xl (ld49 (B3.c (B0.trans Cy)) (B4.c (B0.trans Cy)) (B7.c (B0.trans Cy)) (B8.c (B0.trans Cy)) (Ba.c (B0.trans Cy)) (Bb.c (B0.trans Cy)) (Bc.c (B0.trans Cy)))) ?_;refine pU (.bool true) (ex_binV (a := .agg #[iv y.c, iv y.n, iv y.t, iv y.o, iv y.w, iv y.k, .string y.x]) (b := .agg #[iv x.c, iv x.n, iv x.t, iv x.o, iv x.w, iv x.k, .string x.x]) rfl (by kernel_rfl) (by kernel_rfl) (eqG_agg (by kernel_rfl)) (bin_nqv_f (rec_eq _ y x) hB)) ?_;refine pD (.bool true) (.bool true) ?_;refine zn (cw_ret (qw_ret [.bool true] rfl ⟨(by kernel_rfl), trivial⟩ ?_));exact ⟨rb (show Rep.contrB mp x = true by unfold Rep.contrB; show (match getM (x.c, x.n) mp with | some x9 => _ | none => _) = _; rw [hg]; first | done | simp [hB]).symm, hE⟩
theorem contrad1_r {w1 : World} {B : Nat} {mp : List ((Int × Int) × Rec)} {w2 : World} {B6 : Nat} (x : Rec) {r : Bool} (w : World) (hM : MapS keyV Rec.val w1 B mp) (e1 : Ext w1 w) (cB : w2.cell? ⟨B6, 0, none⟩ = some (.map (some B))) (e2 : Ext w2 w) (hr : (Rep.contrB mp x) = r) : Calls Tryz.prog 87 #[.agg #[.int .i64 x.c, .int .i64 x.n, .int .i64 x.t, .int .i64 x.o, .int .i64 x.w, .int .i64 x.k, .string x.x], .pointer (some ⟨B6, 0, none⟩)] w fun e w' => e = .returned (.bool r) ∧ Ext w w' := hr ▸ contrad1_c x w hM e1 cB e2
theorem IndexC_c {w1 : World} {B : Nat} {mp : List ((Int × Int) × Rec)} {w2 : World} {B6 : Nat} {w0 : World} {a : Option Addr} {n : Nat} {l : List Rec} (c : Nat) (w : World) (H : RecsAt w0 a n l) (e0 : Ext w0 w) (hM : MapS keyV Rec.val w1 B mp) (e1 : Ext w1 w) (cB : w2.cell? ⟨B6, 0, none⟩ = some (.map (some B))) (e2 : Ext w2 w) : Calls Tryz.prog 86 #[.slice a n c, .func (.func 87) #[] #[pw B6 0]] w fun e w' => e = .returned (iv (Rep.ixF ((Rep.contrB mp)) l)) ∧ Ext w w' := by
 replace H := H.ext e0;clear e0;obtain ⟨b, o, ha, hbr, hx⟩ := H.parts;have hln := H.len;have hmx := H.max;refine calls_cw 19 [(1, .func (.func 87) #[] #[pw B6 0]), (0, .slice a n c)] Tryz.func86 rfl Tryz.ntmps86 (by kernel_rfl) (by kernel_rfl) (fun L => ?_);have hE := Ext.refl w;refine zc (zp (pT (iv 0) ?_));refine zn (zc (zc (zp (pD (.slice a n c) (iv n) ?_))));refine pT (iv 0) ?_;refine zn (cw_block ?_);refine cw_loop [0, 1, 7, 8] (fun ws' wr m => ∃ i : Nat, ws' = [(0, .slice a n c), (1, .func (.func 87) #[] #[pw B6 0]), (7, iv n), (8, iv i)] ∧ m = n - i ∧ w.heap.size ≤ wr.heap.size ∧ Ext w wr ∧ i ≤ n ∧ (∀ j, j < i → (Rep.contrB mp) (recN l j) = false)) (ws0 := [(0, .slice a n c), (1, .func (.func 87) #[] #[pw B6 0]), (7, iv n), (8, iv 0)]) (by kernel_rfl) _ ⟨0, rfl, rfl, Nat.le_refl _, hE, Nat.zero_le _, (fun j hj => absurd hj (Nat.not_lt_zero j))⟩ ?_;clear hE;rintro m3 L ws w2 ⟨i, rfl, rfl, B0, hE, hi, hno⟩
 by_cases hlt : i < n
 ·
  obtain rfl := ha (by omega);have hbl := hbr (by omega);refine zc (zp (pU (.bool true) (ed (((i : Nat) : Int) < ((n : Nat) : Int)) (by omega)) ?_));refine zn (zc (zt ?_));refine cw_skip (zq (zc (cw_block ?_)));refine zc (zp (pD (iv i) (iv i) ?_));refine zn (cw_seq ?_)
  cases hq : (Rep.contrB mp) (recN l i)
  ·
   refine zp (pD (.func (.func 87) #[] #[pw B6 0]) (sv b o n c) ?_);refine pT (iv i) ?_;refine pU (pw b (o + i * 7)) (xi (sv b o n c) (iv i) (ix23 (k := i) (by omega))) ?_;refine pU (.agg #[iv ((recN l i).c : Int), iv ((recN l i).n : Int), iv ((recN l i).t : Int), iv ((recN l i).o : Int), iv ((recN l i).w : Int), iv ((recN l i).k : Int), .string ((recN l i).x)]) (xl (ld49 ((hx.ext hE).c0 (i := i) (by omega)) ((hx.ext hE).c1 (i := i) (by omega)) ((hx.ext hE).c2 (i := i) (by omega)) ((hx.ext hE).c3 (i := i) (by omega)) ((hx.ext hE).c4 (i := i) (by omega)) ((hx.ext hE).c5 (i := i) (by omega)) ((hx.ext hE).c6 (i := i) (by omega)))) ?_;refine pS (sc 87 #[.agg #[iv ((recN l i).c : Int), iv ((recN l i).n : Int), iv ((recN l i).t : Int), iv ((recN l i).o : Int), iv ((recN l i).w : Int), iv ((recN l i).k : Int), .string ((recN l i).x)], pw B6 0] ((contrad1_r (recN l i) (r := false) _ hM (e1.trans hE) cB (e2.trans hE) hq).mono ?_));rintro e w4 ⟨rfl, hb⟩;replace hE := hE.trans hb;have B2 := hb.size;refine ⟨_, rfl, ?_⟩;refine zn (zf ?_);refine cw_skip (qw_block (zq (zp (pU (iv ((i + 1 : Nat) : Int)) (ew (by omega) (by omega)) ?_))));refine pT (iv ((i + 1 : Nat) : Int)) ?_;refine pl_nil (zr [0, 1, 7, 8] _ ?_ ⟨(i + 1), rfl, rfl, (T B0 B2), hE, by omega, (fun j hj => by rcases Nat.lt_succ_iff_lt_or_eq.1 hj with h | h; exact hno j h; rw [h]; exact hq)⟩);omega
  ·
   refine zp (pD (.func (.func 87) #[] #[pw B6 0]) (sv b o n c) ?_);refine pT (iv i) ?_;refine pU (pw b (o + i * 7)) (xi (sv b o n c) (iv i) (ix23 (k := i) (by omega))) ?_;refine pU (.agg #[iv ((recN l i).c : Int), iv ((recN l i).n : Int), iv ((recN l i).t : Int), iv ((recN l i).o : Int), iv ((recN l i).w : Int), iv ((recN l i).k : Int), .string ((recN l i).x)]) (xl (ld49 ((hx.ext hE).c0 (i := i) (by omega)) ((hx.ext hE).c1 (i := i) (by omega)) ((hx.ext hE).c2 (i := i) (by omega)) ((hx.ext hE).c3 (i := i) (by omega)) ((hx.ext hE).c4 (i := i) (by omega)) ((hx.ext hE).c5 (i := i) (by omega)) ((hx.ext hE).c6 (i := i) (by omega)))) ?_;refine pS (sc 87 #[.agg #[iv ((recN l i).c : Int), iv ((recN l i).n : Int), iv ((recN l i).t : Int), iv ((recN l i).o : Int), iv ((recN l i).w : Int), iv ((recN l i).k : Int), .string ((recN l i).x)], pw B6 0] ((contrad1_r (recN l i) (r := true) _ hM (e1.trans hE) cB (e2.trans hE) hq).mono ?_));rintro e w6 ⟨rfl, hb⟩;replace hE := hE.trans hb;have B3 := hb.size;refine ⟨_, rfl, ?_⟩;refine zn (zt ?_);refine zc (zp (pD (iv i) (iv i) ?_));refine zn (cK [4] (fun L => ?_));refine cw_ret (qw_block_ret (qw_then_ret (qw_then_ret (qw_block_ret (qw_then_ret (qw_ret [iv i] rfl ⟨(by kernel_rfl), trivial⟩ ?_))))));exact ⟨congrArg (fun z => Ending.returned (Value.int .i64 z)) (Rep.ix_found (by omega) hno hq).symm, hE⟩
 ·
  refine zc (zp (pU (.bool false) (en (((i : Nat) : Int) < ((n : Nat) : Int)) (by omega)) ?_));refine zn (zc (zf ?_));refine cw_exit (qw_then_exit (qw_then_exit (qw_block_out (zq (zc (zp (pT (iv (-1 : Int)) ?_)))))));refine zn (cw_ret (qw_ret [iv (-1 : Int)] rfl ⟨(by kernel_rfl), trivial⟩ ?_));exact ⟨congrArg (fun z => Ending.returned (Value.int .i64 z)) (Rep.ix_none fun j hj => hno j (by omega)).symm, hE⟩
theorem ContainsC_c {w1 : World} {B : Nat} {mp : List ((Int × Int) × Rec)} {w2 : World} {B6 : Nat} {w0 : World} {a : Option Addr} {n : Nat} {l : List Rec} (c : Nat) (w : World) (H : RecsAt w0 a n l) (e0 : Ext w0 w) (hM : MapS keyV Rec.val w1 B mp) (e1 : Ext w1 w) (cB : w2.cell? ⟨B6, 0, none⟩ = some (.map (some B))) (e2 : Ext w2 w) : Calls Tryz.prog 54 #[.slice a n c, .func (.func 87) #[] #[pw B6 0]] w fun e w' => e = .returned (.bool (l.any (Rep.contrB mp))) ∧ Ext w w' := by
 refine calls_cw 9 [(1, .func (.func 87) #[] #[pw B6 0]), (0, .slice a n c)] Tryz.func54 rfl Tryz.ntmps54 (by kernel_rfl) (by kernel_rfl) (fun L => ?_);have hE := Ext.refl w;refine zc (zp (pT (.bool false) ?_));refine zn (zc (zp (pD (.slice a n c) (.func (.func 87) #[] #[pw B6 0]) ?_)));refine pS (sc 86 #[.slice a n c, .func (.func 87) #[] #[pw B6 0]] ((IndexC_c _ _ H e0 hM e1 cB e2).mono ?_));rintro e w1 ⟨rfl, hb⟩;replace hE := hE.trans hb;have hs2 := hb.size;refine ⟨_, rfl, pU (.bool (l.any (Rep.contrB mp))) (ev_bool (show _ = Result.ok (Next.value (Value.bool (decide ((Rep.ixF (Rep.contrB mp) l : Int) ≥ (0 : Int))))) _ from by kernel_rfl) (Rep.ix_any _ _)) ?_⟩;refine pT (.bool (l.any (Rep.contrB mp))) ?_;refine zn (cw_ret (qw_ret [.bool (l.any (Rep.contrB mp))] rfl ⟨(by kernel_rfl), trivial⟩ ?_));exact ⟨rfl, hE⟩
theorem contradict_c {w1 w2 : World} {a1 a2 : Option Addr} {n1 n2 : Nat} {l1 l2 : List Rec} (c1 c2 : Nat) (w : World) (H1 : RecsAt w1 a1 n1 l1) (e1 : Ext w1 w) (H2 : RecsAt w2 a2 n2 l2) (e2 : Ext w2 w) : Calls Tryz.prog 61 #[.slice a1 n1 c1, .slice a2 n2 c2] w fun e w' => e = .returned (.bool (l2.any (Rep.contrB (Rep.bookL l1)))) ∧ Ext w w' := by
 refine calls_cw 11 [(1, .slice a2 n2 c2), (0, .slice a1 n1 c1)] Tryz.func61 rfl Tryz.ntmps61 (by kernel_rfl) (by kernel_rfl) (fun L => ?_);have hE := Ext.refl w;refine zc (zp (pT (.bool false) ?_));refine zn (zc (zp (pT (.slice a1 n1 c1) ?_)));refine pS (sc 52 #[.slice a1 n1 c1] ((booked_c _ _ H1 (e1.trans (Ext.refl _))).mono ?_));rintro e w4 ⟨B1, rfl, hn2, hM3, hb⟩;replace hE := hE.trans hb;have hs5 := hb.size;have lt6 := hM3.lt;refine ⟨_, rfl, pS (sw 79 #[.map none] ?_)⟩;intro O7 X8 hzO7 hyO7 hb hbx;have bO7_0 := bq1 hbx;refine mv2 hb hE hM3 fun hE hM3=>?_;have hs9 := hb.size;have lt10 := bO7_0.lt;refine pP (zE O7 0 (.map (some B1)) (st79 bO7_0.1 bO7_0.2) bO7_0 ?_);intro X11 ho bO7_0 hk;replace hE := ho.ext hE (T hs5 (Nat.le_of_eq hzO7));replace hM3 := hM3.block (ho.heap' _ (by omega));have hs12 := Nat.le_of_eq ho.size.symm;clear ho hk;refine zn (zc (zp (pD (.slice a2 n2 c2) (.func (.func 87) #[] #[pw O7 0]) ?_)));have hx13 := bO7_0.1;refine pS (sc 54 #[.slice a2 n2 c2, .func (.func 87) #[] #[pw O7 0]] ((ContainsC_c _ _ H2 (e2.trans hE) hM3 (Ext.refl _) hx13 (Ext.refl _)).mono ?_));rintro e w14 ⟨rfl, hb⟩;replace hE := hE.trans hb;have hs15 := hb.size;refine ⟨_, rfl, pT (.bool (l2.any (Rep.contrB (Rep.bookL l1)))) ?_⟩;refine zn (cw_ret (qw_ret [.bool (l2.any (Rep.contrB (Rep.bookL l1)))] rfl ⟨(by kernel_rfl), trivial⟩ ?_));exact ⟨rfl, hE⟩
theorem contradict_r {w1 w2 : World} {a1 a2 : Option Addr} {n1 n2 : Nat} {l1 l2 : List Rec} {r : Bool} (c1 c2 : Nat) (w : World) (H1 : RecsAt w1 a1 n1 l1) (e1 : Ext w1 w) (H2 : RecsAt w2 a2 n2 l2) (e2 : Ext w2 w) (hr : l2.any (Rep.contrB (Rep.bookL l1)) = r) : Calls Tryz.prog 61 #[.slice a1 n1 c1, .slice a2 n2 c2] w fun e w' => e = .returned (.bool r) ∧ Ext w w' := hr ▸ contradict_c c1 c2 w H1 e1 H2 e2
end Go.Proofs.YtfmoabgjaclkpaaGreatDoor

namespace Go.Proofs.YtfmoabgjaclkpaaGreatDoor
set_option maxRecDepth 1000000
set_option maxHeartbeats 4000000
set_option synthInstance.maxHeartbeats 0
set_option synthInstance.maxSize 9999
open Go.RowKit
def Tz36_0 : List Row := [(some 7, [1], []), (some 8, [2], []), (some 9, [8], [1]), (some 10, [7, 9], [0, 2]), (some 6, [10], [3]), (some 11, [6], [4]), (some 12, [6], [4]), (some 4, [], []), (none, [4, 11], [7, 5, 2, 0, 1, 2, 3, 4, 5, 7]), (some 5, [12], [6, 8, 0, 1, 2, 3, 4, 5, 6, 7, 8])]
namespace Rep
def knownB (mp : List ((Int × Int) × Rec)) (r : Rec) : Bool := (getM r.key mp).isSome
theorem ix_cases (p : Rec → Bool) (l : List Rec) : (ixF p l = -1 ∧ ∀ j, j < l.length → p (recN l j) = false) ∨ ∃ i : Nat, ixF p l = (i : Int) ∧ i < l.length ∧ (∀ j, j < i → p (recN l j) = false) ∧ p (recN l i) = true := by
 unfold ixF
 cases h : l.findIdx? p with
 | none =>
  refine .inl ⟨rfl, fun j hj => ?_⟩
  rw [recN_get hj]; exact List.findIdx?_eq_none_iff.1 h _ (List.getElem_mem hj)
 | some i =>
  obtain ⟨hi, hp, hno⟩ := List.findIdx?_eq_some_iff_getElem.1 h
  exact .inr ⟨i, rfl, hi, fun j hj => by rw [recN_get (by omega)]; exact Bool.eq_false_iff.2 (hno j hj), by rw [recN_get hi]; exact hp⟩
theorem del_snoc {p : Rec → Bool} {l : List Rec} {j : Nat} (hj : j < l.length) : (l.take (j + 1)).filter (fun x => !p x) = (l.take j).filter (fun x => !p x) ++ if p (recN l j) = true then [] else [recN l j] := by
 rw [recN_take hj, List.filter_append]
 cases h : p (recN l j) <;> simp [h]
theorem del_all {p : Rec → Bool} {l : List Rec} (h : ∀ j, j < l.length → p (recN l j) = false) : l.filter (fun x => !p x) = l := List.filter_eq_self.2 fun x hx => by
 obtain ⟨i, hi, rfl⟩ := List.getElem_of_mem hx
 rw [← recN_get hi, h i hi]; rfl
theorem del_start {p : Rec → Bool} {l : List Rec} {i : Nat} (hi : i < l.length) (h : ∀ j, j < i → p (recN l j) = false) (hp : p (recN l i) = true) : l.take i = (l.take (i + 1)).filter fun x => !p x := by
 rw [del_snoc hi, if_pos hp, List.append_nil]
 exact (del_all fun j hj => by rw [List.length_take] at hj; rw [recN_get (by rw [List.length_take]; omega), List.getElem_take, ← recN_get (by omega)]; exact h j (by omega)).symm
theorem known_more {l1 l2 : List Rec} (h : keysD l1) : l2.filter (fun x => !knownB (bookL l1) x) = more l1 l2 := by
 unfold more knownB hasK
 congr 1
 funext x
 rw [book_get h]
end Rep
theorem Behind1_c {w1 : World} {B : Nat} {mp : List ((Int × Int) × Rec)} {w2 : World} {B6 : Nat} (x : Rec) (w : World) (hM : MapS keyV Rec.val w1 B mp) (e1 : Ext w1 w) (cB : w2.cell? ⟨B6, 0, none⟩ = some (.map (some B))) (e2 : Ext w2 w) : Calls Tryz.prog 67 #[.agg #[iv x.c, iv x.n, iv x.t, iv x.o, iv x.w, iv x.k, .string x.x], pw B6 0] w fun e w' => e = .returned (.bool (Rep.knownB mp x)) ∧ Ext w w' := by
 replace hM := hM.ext e1;clear e1;have hBl := hM.lt;replace cB := e2.cell cB;clear e2;have Er := World.block_lt_of_cell? _ _ cB;refine calls_cw 14 [(1, pw B6 0), (0, .agg #[iv x.c, iv x.n, iv x.t, iv x.o, iv x.w, iv x.k, .string x.x])] Tryz.func67 rfl Tryz.ntmps67 (by kernel_rfl) (by kernel_rfl) (fun L => ?_);have hE := Ext.refl w;refine zc (zp (pS (sw 49 #[iv x.c, iv x.n, iv x.t, iv x.o, iv x.w, iv x.k, .string x.x] ?_)));intro O1 X2 F0 Ez hb hbx;have ⟨B3, B4, B7, B8, Ba, Bb, Bc⟩ := bq7 hbx;replace hE := hE.trans hb;have Da := hb.size;have Fe := B3.lt;refine pT (.bool false) ?_;refine zn (cw_seq ?_);rcases hg : getM (x.c, x.n) mp with _ | y
 ·
  have B2 := Ext.refl X2;refine cw_join (fun ws' Y => ∃ Cv : Nat, ws' = [(5, .bool false)] ∧ Ext w Y ∧ Ext X2 Y ∧ BoxAt Y Cv 0 (iv 0) ∧ BoxAt Y Cv 1 (iv 0) ∧ BoxAt Y Cv 2 (iv 0) ∧ BoxAt Y Cv 3 (iv 0) ∧ BoxAt Y Cv 4 (iv 0) ∧ BoxAt Y Cv 5 (iv 0) ∧ BoxAt Y Cv 6 (.string (⟨#[]⟩)) ∧ X2.heap.size ≤ Y.heap.size ∧ X2.heap.size ≤ Cv) (fun hJ => ?_) ?_
  ·
   refine dE Tz36_0 (fun w' => w'.cell? ⟨B6, 0, none⟩ = some (.map (some B)) ∧ w'.cell? ⟨O1, 0, none⟩ = some (iv x.c) ∧ w'.cell? ⟨O1, 1, none⟩ = some (iv x.n) ∧ w'.cell? ⟨O1, 2, none⟩ = some (iv x.t) ∧ w'.cell? ⟨O1, 3, none⟩ = some (iv x.o) ∧ w'.cell? ⟨O1, 4, none⟩ = some (iv x.w) ∧ w'.cell? ⟨O1, 5, none⟩ = some (iv x.k) ∧ w'.cell? ⟨O1, 6, none⟩ = some (.string x.x)) (⟨(hE.cell cB), B3.1, B4.1, B7.1, B8.1, Ba.1, Bb.1, Bc.1⟩) (fun ops Q X6 hb hL hR hK => ?_);refine mv2 hb hE B2 fun hE B2=>?_;have Cx := hb.size;have E9 := A8 (hE.cell cB) (B3.c B2) (B4.c B2) (B7.c B2) (B8.c B2) (Ba.c B2) (Bb.c B2) (Bc.c B2);refine wM 0 (.map (some B)) hR (fun w hS => ld79 (hS.1)) E9 ?_;refine wM 1 (.agg #[iv x.c, iv x.n, iv x.t, iv x.o, iv x.w, iv x.k, .string x.x]) hR (fun w hS => ld49 (hS.2.1) (hS.2.2.1) (hS.2.2.2.1) (hS.2.2.2.2.1) (hS.2.2.2.2.2.1) (hS.2.2.2.2.2.2.1) (hS.2.2.2.2.2.2.2)) E9 ?_;refine zw 2 7 hR ?_ ?_
   ·
    refine sc 68 #[.agg #[iv x.c, iv x.n, iv x.t, iv x.o, iv x.w, iv x.k, .string x.x]] ((keyOf_c x _).mono ?_);rintro e w9 ⟨rfl, hb⟩;refine mv2 hb hE B2 fun hE B2=>?_;have Cm := hb.size;have Cy := A8 (hE.cell cB) (B3.c B2) (B4.c B2) (B7.c B2) (B8.c B2) (Ba.c B2) (Bb.c B2) (Bc.c B2);refine ⟨_, rfl, Cy, ?_⟩;refine zw 3 7 hR ?_ ?_
    ·
     refine sn_eff (v := .tuple #[.agg #[iv 0, iv 0, iv 0, iv 0, iv 0, iv 0, .string (⟨#[]⟩)], .bool false]) (w' := w9) (ex_lookup rfl (by kernel_rfl) (by kernel_rfl) (lookup_is2 (run_lookup2 Tryz.underlying79 (hM.ext hE) key_law (x.c, x.n) (zero_rec _)) hg)) ⟨Cy, ?_⟩;refine wW 4 (.tuple #[.agg #[iv 0, iv 0, iv 0, iv 0, iv 0, iv 0, .string (⟨#[]⟩)], .bool false]) 5 (.agg #[iv 0, iv 0, iv 0, iv 0, iv 0, iv 0, .string (⟨#[]⟩)]) hR Cy ?_;refine wV 6 (.bool false) hR Cy ?_;refine wN 7 49 #[iv 0, iv 0, iv 0, iv 0, iv 0, iv 0, .string (⟨#[]⟩)] hR ?_;intro Cv Ei D4 Ea hb hbx;have ⟨Be, Bv, Bw, Bx, By, Bz, C0⟩ := bq7 hbx;refine mv2 hb hE B2 fun hE B2=>?_;have Dq := hb.size;have F1 := Be.lt;have Dm := A8 (hE.cell cB) (B3.c B2) (B4.c B2) (B7.c B2) (B8.c B2) (Ba.c B2) (Bb.c B2) (Bc.c B2);refine ⟨Dm, ?_⟩;refine wS 8 hR (sn_setK7 (O := Cv) (j := 0) (v0 := iv 0) (v1 := iv 0) (v2 := iv 0) (v3 := iv 0) (v4 := iv 0) (v5 := iv 0) (v6 := .string (⟨#[]⟩)) (ex_store (p := pw Cv 0) (v := .agg #[iv 0, iv 0, iv 0, iv 0, iv 0, iv 0, .string (⟨#[]⟩)]) rfl (by kernel_rfl) (by kernel_rfl) (st49 Be.1 Be.2 Bv.1 Bv.2 Bw.1 Bw.2 Bx.1 Bx.2 By.1 By.2 Bz.1 Bz.2 C0.1 C0.2)) Be Bv Bw Bx By Bz C0 ?_);intro Ej ho Be Bv Bw Bx By Bz C0 hk;replace hE := ho.ext hE (T (T Da (T Cx Cm)) (Nat.le_of_eq D4));replace B2 := ho.ext B2 (T (T Cx Cm) (Nat.le_of_eq D4));have Dr := Nat.le_of_eq ho.size.symm;clear ho hk;have Db := A8 (hE.cell cB) (B3.c B2) (B4.c B2) (B7.c B2) (B8.c B2) (Ba.c B2) (Bb.c B2) (Bc.c B2);refine ⟨Db, ?_⟩;refine wV 9 (.bool false) hR Db ?_;refine we hL hR hK ?_;exact zl hJ [5] ⟨Cv, rfl, hE, B2, Be, Bv, Bw, Bx, By, Bz, C0, (T Cx (T Cm (T Dq Dr))), (T (T Cx Cm) (Nat.le_of_eq D4))⟩
    ·
     refine sw 49 #[iv 0, iv 0, iv 0, iv 0, iv 0, iv 0, .string (⟨#[]⟩)] ?_;intro Di E5 D5 Eb hb hbx;have ⟨C1, C9, Ca, Cb, Cc, Cd, Ce⟩ := bq7 hbx;refine mv2 hb hE B2 fun hE B2=>?_;have Dt := hb.size;have F2 := C1.lt;have Cz := A8 (hE.cell cB) (B3.c B2) (B4.c B2) (B7.c B2) (B8.c B2) (Ba.c B2) (Bb.c B2) (Bc.c B2);refine ⟨Cz, ?_⟩;refine wS 3 hR (sn_eff (v := .tuple #[.agg #[iv 0, iv 0, iv 0, iv 0, iv 0, iv 0, .string (⟨#[]⟩)], .bool false]) (w' := E5) (ex_lookup rfl (by kernel_rfl) (by kernel_rfl) (lookup_is2 (run_lookup2 Tryz.underlying79 (hM.ext hE) key_law (x.c, x.n) (zero_rec _)) hg)) ⟨Cz, ?_⟩);refine wW 4 (.tuple #[.agg #[iv 0, iv 0, iv 0, iv 0, iv 0, iv 0, .string (⟨#[]⟩)], .bool false]) 5 (.agg #[iv 0, iv 0, iv 0, iv 0, iv 0, iv 0, .string (⟨#[]⟩)]) hR Cz ?_;refine wV 6 (.bool false) hR Cz ?_;refine wS 8 hR (sn_setK7 (O := Di) (j := 0) (v0 := iv 0) (v1 := iv 0) (v2 := iv 0) (v3 := iv 0) (v4 := iv 0) (v5 := iv 0) (v6 := .string (⟨#[]⟩)) (ex_store (p := pw Di 0) (v := .agg #[iv 0, iv 0, iv 0, iv 0, iv 0, iv 0, .string (⟨#[]⟩)]) rfl (by kernel_rfl) (by kernel_rfl) (st49 C1.1 C1.2 C9.1 C9.2 Ca.1 Ca.2 Cb.1 Cb.2 Cc.1 Cc.2 Cd.1 Cd.2 Ce.1 Ce.2)) C1 C9 Ca Cb Cc Cd Ce ?_);intro Ek ho C1 C9 Ca Cb Cc Cd Ce hk;replace hE := ho.ext hE (T (T Da (T Cx Cm)) (Nat.le_of_eq D5));replace B2 := ho.ext B2 (T (T Cx Cm) (Nat.le_of_eq D5));have Du := Nat.le_of_eq ho.size.symm;clear ho hk;have Dc := A8 (hE.cell cB) (B3.c B2) (B4.c B2) (B7.c B2) (B8.c B2) (Ba.c B2) (Bb.c B2) (Bc.c B2);refine ⟨Dc, ?_⟩;refine wV 9 (.bool false) hR Dc ?_;refine we hL hR hK ?_;exact zl hJ [5] ⟨Di, rfl, hE, B2, C1, C9, Ca, Cb, Cc, Cd, Ce, (T Cx (T Cm (T Dt Du))), (T (T Cx Cm) (Nat.le_of_eq D5))⟩
   ·
    refine sw 49 #[iv 0, iv 0, iv 0, iv 0, iv 0, iv 0, .string (⟨#[]⟩)] ?_;intro Dj Fb D6 Ec hb hbx;have ⟨Bf, Bi, Bj, Bk, Bm, Bn, Bo⟩ := bq7 hbx;refine mv2 hb hE B2 fun hE B2=>?_;have Dv := hb.size;have F3 := Bf.lt;have Dn := A8 (hE.cell cB) (B3.c B2) (B4.c B2) (B7.c B2) (B8.c B2) (Ba.c B2) (Bb.c B2) (Bc.c B2);refine ⟨Dn, ?_⟩;refine wC 2 68 #[.agg #[iv x.c, iv x.n, iv x.t, iv x.o, iv x.w, iv x.k, .string x.x]] hR ((keyOf_c x _).mono ?_);rintro e Eg ⟨rfl, hb⟩;refine mv9 hb hE B2 Bf Bi Bj Bk Bm Bn Bo fun hE B2 Bf Bi Bj Bk Bm Bn Bo=>?_;have Dw := hb.size;have D0 := A8 (hE.cell cB) (B3.c B2) (B4.c B2) (B7.c B2) (B8.c B2) (Ba.c B2) (Bb.c B2) (Bc.c B2);refine ⟨_, rfl, D0, ?_⟩;refine wS 3 hR (sn_eff (v := .tuple #[.agg #[iv 0, iv 0, iv 0, iv 0, iv 0, iv 0, .string (⟨#[]⟩)], .bool false]) (w' := Eg) (ex_lookup rfl (by kernel_rfl) (by kernel_rfl) (lookup_is2 (run_lookup2 Tryz.underlying79 (hM.ext hE) key_law (x.c, x.n) (zero_rec _)) hg)) ⟨D0, ?_⟩);refine wW 4 (.tuple #[.agg #[iv 0, iv 0, iv 0, iv 0, iv 0, iv 0, .string (⟨#[]⟩)], .bool false]) 5 (.agg #[iv 0, iv 0, iv 0, iv 0, iv 0, iv 0, .string (⟨#[]⟩)]) hR D0 ?_;refine wV 6 (.bool false) hR D0 ?_;refine wS 8 hR (sn_setK7 (O := Dj) (j := 0) (v0 := iv 0) (v1 := iv 0) (v2 := iv 0) (v3 := iv 0) (v4 := iv 0) (v5 := iv 0) (v6 := .string (⟨#[]⟩)) (ex_store (p := pw Dj 0) (v := .agg #[iv 0, iv 0, iv 0, iv 0, iv 0, iv 0, .string (⟨#[]⟩)]) rfl (by kernel_rfl) (by kernel_rfl) (st49 Bf.1 Bf.2 Bi.1 Bi.2 Bj.1 Bj.2 Bk.1 Bk.2 Bm.1 Bm.2 Bn.1 Bn.2 Bo.1 Bo.2)) Bf Bi Bj Bk Bm Bn Bo ?_);intro El ho Bf Bi Bj Bk Bm Bn Bo hk;replace hE := ho.ext hE (T (T Da Cx) (Nat.le_of_eq D6));replace B2 := ho.ext B2 (T Cx (Nat.le_of_eq D6));have Dx := Nat.le_of_eq ho.size.symm;clear ho hk;have Dd := A8 (hE.cell cB) (B3.c B2) (B4.c B2) (B7.c B2) (B8.c B2) (Ba.c B2) (Bb.c B2) (Bc.c B2);refine ⟨Dd, ?_⟩;refine wV 9 (.bool false) hR Dd ?_;refine we hL hR hK ?_;exact zl hJ [5] ⟨Dj, rfl, hE, B2, Bf, Bi, Bj, Bk, Bm, Bn, Bo, (T Cx (T Dv (T Dw Dx))), (T Cx (Nat.le_of_eq D6))⟩
  ·
   clear hE B2;rintro L ws E7 ⟨Cv, rfl, hE, B2, Be, Bv, Bw, Bx, By, Bz, C0, Eu, Ev⟩;have F4 := Be.lt;refine qw_then ?_;refine cw_seq ?_;have Es := Ext.refl E7;refine zp (pD (.bool false) (.bool false) ?_);refine zn (cw_ret (qw_ret [.bool false] rfl ⟨(by kernel_rfl), trivial⟩ ?_));exact ⟨rb (show Rep.knownB mp x = false by unfold Rep.knownB; show (getM (x.c, x.n) mp).isSome = _; rw [hg]; first | done | simp []).symm, hE⟩
 ·
  have B0 := Ext.refl X2;refine cw_join (fun ws' Y => ∃ Cw : Nat, ws' = [(5, .bool true)] ∧ Ext w Y ∧ Ext X2 Y ∧ BoxAt Y Cw 0 (iv y.c) ∧ BoxAt Y Cw 1 (iv y.n) ∧ BoxAt Y Cw 2 (iv y.t) ∧ BoxAt Y Cw 3 (iv y.o) ∧ BoxAt Y Cw 4 (iv y.w) ∧ BoxAt Y Cw 5 (iv y.k) ∧ BoxAt Y Cw 6 (.string y.x) ∧ X2.heap.size ≤ Y.heap.size ∧ X2.heap.size ≤ Cw) (fun hJ => ?_) ?_
  ·
   refine dE Tz36_0 (fun w' => w'.cell? ⟨B6, 0, none⟩ = some (.map (some B)) ∧ w'.cell? ⟨O1, 0, none⟩ = some (iv x.c) ∧ w'.cell? ⟨O1, 1, none⟩ = some (iv x.n) ∧ w'.cell? ⟨O1, 2, none⟩ = some (iv x.t) ∧ w'.cell? ⟨O1, 3, none⟩ = some (iv x.o) ∧ w'.cell? ⟨O1, 4, none⟩ = some (iv x.w) ∧ w'.cell? ⟨O1, 5, none⟩ = some (iv x.k) ∧ w'.cell? ⟨O1, 6, none⟩ = some (.string x.x)) (⟨(hE.cell cB), B3.1, B4.1, B7.1, B8.1, Ba.1, Bb.1, Bc.1⟩) (fun ops Q Fc hb hL hR hK => ?_);refine mv2 hb hE B0 fun hE B0=>?_;have Cl := hb.size;have De := A8 (hE.cell cB) (B3.c B0) (B4.c B0) (B7.c B0) (B8.c B0) (Ba.c B0) (Bb.c B0) (Bc.c B0);refine wM 0 (.map (some B)) hR (fun w hS => ld79 (hS.1)) De ?_;refine wM 1 (.agg #[iv x.c, iv x.n, iv x.t, iv x.o, iv x.w, iv x.k, .string x.x]) hR (fun w hS => ld49 (hS.2.1) (hS.2.2.1) (hS.2.2.2.1) (hS.2.2.2.2.1) (hS.2.2.2.2.2.1) (hS.2.2.2.2.2.2.1) (hS.2.2.2.2.2.2.2)) De ?_;refine zw 2 7 hR ?_ ?_
   ·
    refine sc 68 #[.agg #[iv x.c, iv x.n, iv x.t, iv x.o, iv x.w, iv x.k, .string x.x]] ((keyOf_c x _).mono ?_);rintro e Fa ⟨rfl, hb⟩;refine mv2 hb hE B0 fun hE B0=>?_;have Cn := hb.size;have D1 := A8 (hE.cell cB) (B3.c B0) (B4.c B0) (B7.c B0) (B8.c B0) (Ba.c B0) (Bb.c B0) (Bc.c B0);refine ⟨_, rfl, D1, ?_⟩;refine zw 3 7 hR ?_ ?_
    ·
     refine sn_eff (v := .tuple #[.agg #[iv y.c, iv y.n, iv y.t, iv y.o, iv y.w, iv y.k, .string y.x], .bool true]) (w' := Fa) (ex_lookup rfl (by kernel_rfl) (by kernel_rfl) (lookup_is2 (run_lookup2 Tryz.underlying79 (hM.ext hE) key_law (x.c, x.n) (zero_rec _)) hg)) ⟨D1, ?_⟩;refine wW 4 (.tuple #[.agg #[iv y.c, iv y.n, iv y.t, iv y.o, iv y.w, iv y.k, .string y.x], .bool true]) 5 (.agg #[iv y.c, iv y.n, iv y.t, iv y.o, iv y.w, iv y.k, .string y.x]) hR D1 ?_;refine wV 6 (.bool true) hR D1 ?_;refine wN 7 49 #[iv 0, iv 0, iv 0, iv 0, iv 0, iv 0, .string (⟨#[]⟩)] hR ?_;intro Cw Em D7 Ed hb hbx;have ⟨Bg, C2, C3, C4, C5, C6, C7⟩ := bq7 hbx;refine mv2 hb hE B0 fun hE B0=>?_;have Dy := hb.size;have F5 := Bg.lt;have Do := A8 (hE.cell cB) (B3.c B0) (B4.c B0) (B7.c B0) (B8.c B0) (Ba.c B0) (Bb.c B0) (Bc.c B0);refine ⟨Do, ?_⟩;refine wS 8 hR (sn_setK7 (O := Cw) (j := 0) (v0 := iv y.c) (v1 := iv y.n) (v2 := iv y.t) (v3 := iv y.o) (v4 := iv y.w) (v5 := iv y.k) (v6 := .string y.x) (ex_store (p := pw Cw 0) (v := .agg #[iv y.c, iv y.n, iv y.t, iv y.o, iv y.w, iv y.k, .string y.x]) rfl (by kernel_rfl) (by kernel_rfl) (st49 Bg.1 Bg.2 C2.1 C2.2 C3.1 C3.2 C4.1 C4.2 C5.1 C5.2 C6.1 C6.2 C7.1 C7.2)) Bg C2 C3 C4 C5 C6 C7 ?_);intro En ho Bg C2 C3 C4 C5 C6 C7 hk;replace hE := ho.ext hE (T (T Da (T Cl Cn)) (Nat.le_of_eq D7));replace B0 := ho.ext B0 (T (T Cl Cn) (Nat.le_of_eq D7));have Dz := Nat.le_of_eq ho.size.symm;clear ho hk;have Df := A8 (hE.cell cB) (B3.c B0) (B4.c B0) (B7.c B0) (B8.c B0) (Ba.c B0) (Bb.c B0) (Bc.c B0);refine ⟨Df, ?_⟩;refine wV 9 (.bool true) hR Df ?_;refine we hL hR hK ?_;exact zl hJ [5] ⟨Cw, rfl, hE, B0, Bg, C2, C3, C4, C5, C6, C7, (T Cl (T Cn (T Dy Dz))), (T (T Cl Cn) (Nat.le_of_eq D7))⟩
    ·
     refine sw 49 #[iv 0, iv 0, iv 0, iv 0, iv 0, iv 0, .string (⟨#[]⟩)] ?_;intro Dk E6 D8 Ee hb hbx;have ⟨C8, Cf, Cg, Ch, Ci, Cj, Ck⟩ := bq7 hbx;refine mv2 hb hE B0 fun hE B0=>?_;have E0 := hb.size;have F6 := C8.lt;have D2 := A8 (hE.cell cB) (B3.c B0) (B4.c B0) (B7.c B0) (B8.c B0) (Ba.c B0) (Bb.c B0) (Bc.c B0);refine ⟨D2, ?_⟩;refine wS 3 hR (sn_eff (v := .tuple #[.agg #[iv y.c, iv y.n, iv y.t, iv y.o, iv y.w, iv y.k, .string y.x], .bool true]) (w' := E6) (ex_lookup rfl (by kernel_rfl) (by kernel_rfl) (lookup_is2 (run_lookup2 Tryz.underlying79 (hM.ext hE) key_law (x.c, x.n) (zero_rec _)) hg)) ⟨D2, ?_⟩);refine wW 4 (.tuple #[.agg #[iv y.c, iv y.n, iv y.t, iv y.o, iv y.w, iv y.k, .string y.x], .bool true]) 5 (.agg #[iv y.c, iv y.n, iv y.t, iv y.o, iv y.w, iv y.k, .string y.x]) hR D2 ?_;refine wV 6 (.bool true) hR D2 ?_;refine wS 8 hR (sn_setK7 (O := Dk) (j := 0) (v0 := iv y.c) (v1 := iv y.n) (v2 := iv y.t) (v3 := iv y.o) (v4 := iv y.w) (v5 := iv y.k) (v6 := .string y.x) (ex_store (p := pw Dk 0) (v := .agg #[iv y.c, iv y.n, iv y.t, iv y.o, iv y.w, iv y.k, .string y.x]) rfl (by kernel_rfl) (by kernel_rfl) (st49 C8.1 C8.2 Cf.1 Cf.2 Cg.1 Cg.2 Ch.1 Ch.2 Ci.1 Ci.2 Cj.1 Cj.2 Ck.1 Ck.2)) C8 Cf Cg Ch Ci Cj Ck ?_);intro Eo ho C8 Cf Cg Ch Ci Cj Ck hk;replace hE := ho.ext hE (T (T Da (T Cl Cn)) (Nat.le_of_eq D8));replace B0 := ho.ext B0 (T (T Cl Cn) (Nat.le_of_eq D8));have E1 := Nat.le_of_eq ho.size.symm;clear ho hk;have Dg := A8 (hE.cell cB) (B3.c B0) (B4.c B0) (B7.c B0) (B8.c B0) (Ba.c B0) (Bb.c B0) (Bc.c B0);refine ⟨Dg, ?_⟩;refine wV 9 (.bool true) hR Dg ?_;refine we hL hR hK ?_;exact zl hJ [5] ⟨Dk, rfl, hE, B0, C8, Cf, Cg, Ch, Ci, Cj, Ck, (T Cl (T Cn (T E0 E1))), (T (T Cl Cn) (Nat.le_of_eq D8))⟩
   ·
    refine sw 49 #[iv 0, iv 0, iv 0, iv 0, iv 0, iv 0, .string (⟨#[]⟩)] ?_;intro Dl Fd D9 Ef hb hbx;have ⟨Bh, Bp, Bq, Br, Bs, Bt, Bu⟩ := bq7 hbx;refine mv2 hb hE B0 fun hE B0=>?_;have E2 := hb.size;have F7 := Bh.lt;have Dp := A8 (hE.cell cB) (B3.c B0) (B4.c B0) (B7.c B0) (B8.c B0) (Ba.c B0) (Bb.c B0) (Bc.c B0);refine ⟨Dp, ?_⟩;refine wC 2 68 #[.agg #[iv x.c, iv x.n, iv x.t, iv x.o, iv x.w, iv x.k, .string x.x]] hR ((keyOf_c x _).mono ?_);rintro e Eh ⟨rfl, hb⟩;refine mv9 hb hE B0 Bh Bp Bq Br Bs Bt Bu fun hE B0 Bh Bp Bq Br Bs Bt Bu=>?_;have E3 := hb.size;have D3 := A8 (hE.cell cB) (B3.c B0) (B4.c B0) (B7.c B0) (B8.c B0) (Ba.c B0) (Bb.c B0) (Bc.c B0);refine ⟨_, rfl, D3, ?_⟩;refine wS 3 hR (sn_eff (v := .tuple #[.agg #[iv y.c, iv y.n, iv y.t, iv y.o, iv y.w, iv y.k, .string y.x], .bool true]) (w' := Eh) (ex_lookup rfl (by kernel_rfl) (by kernel_rfl) (lookup_is2 (run_lookup2 Tryz.underlying79 (hM.ext hE) key_law (x.c, x.n) (zero_rec _)) hg)) ⟨D3, ?_⟩);refine wW 4 (.tuple #[.agg #[iv y.c, iv y.n, iv y.t, iv y.o, iv y.w, iv y.k, .string y.x], .bool true]) 5 (.agg #[iv y.c, iv y.n, iv y.t, iv y.o, iv y.w, iv y.k, .string y.x]) hR D3 ?_;refine wV 6 (.bool true) hR D3 ?_;refine wS 8 hR (sn_setK7 (O := Dl) (j := 0) (v0 := iv y.c) (v1 := iv y.n) (v2 := iv y.t) (v3 := iv y.o) (v4 := iv y.w) (v5 := iv y.k) (v6 := .string y.x) (ex_store (p := pw Dl 0) (v := .agg #[iv y.c, iv y.n, iv y.t, iv y.o, iv y.w, iv y.k, .string y.x]) rfl (by kernel_rfl) (by kernel_rfl) (st49 Bh.1 Bh.2 Bp.1 Bp.2 Bq.1 Bq.2 Br.1 Br.2 Bs.1 Bs.2 Bt.1 Bt.2 Bu.1 Bu.2)) Bh Bp Bq Br Bs Bt Bu ?_);intro Ep ho Bh Bp Bq Br Bs Bt Bu hk;replace hE := ho.ext hE (T (T Da Cl) (Nat.le_of_eq D9));replace B0 := ho.ext B0 (T Cl (Nat.le_of_eq D9));have E4 := Nat.le_of_eq ho.size.symm;clear ho hk;have Dh := A8 (hE.cell cB) (B3.c B0) (B4.c B0) (B7.c B0) (B8.c B0) (Ba.c B0) (Bb.c B0) (Bc.c B0);refine ⟨Dh, ?_⟩;refine wV 9 (.bool true) hR Dh ?_;refine we hL hR hK ?_;exact zl hJ [5] ⟨Dl, rfl, hE, B0, Bh, Bp, Bq, Br, Bs, Bt, Bu, (T Cl (T E2 (T E3 E4))), (T Cl (Nat.le_of_eq D9))⟩
  ·
   clear hE B0;rintro L ws E8 ⟨Cw, rfl, hE, B0, Bg, C2, C3, C4, C5, C6, C7, Ew, Ey⟩;have F8 := Bg.lt;refine qw_then ?_;refine cw_seq ?_;have Et := Ext.refl E8;refine zp (pD (.bool true) (.bool true) ?_);refine zn (cw_ret (qw_ret [.bool true] rfl ⟨(by kernel_rfl), trivial⟩ ?_));exact ⟨rb (show Rep.knownB mp x = true by unfold Rep.knownB; show (getM (x.c, x.n) mp).isSome = _; rw [hg]; first | done | simp []).symm, hE⟩
theorem Behind1_r {w1 : World} {B : Nat} {mp : List ((Int × Int) × Rec)} {w2 : World} {B6 : Nat} (x : Rec) {r : Bool} (w : World) (hM : MapS keyV Rec.val w1 B mp) (e1 : Ext w1 w) (cB : w2.cell? ⟨B6, 0, none⟩ = some (.map (some B))) (e2 : Ext w2 w) (hr : (Rep.knownB mp x) = r) : Calls Tryz.prog 67 #[.agg #[.int .i64 x.c, .int .i64 x.n, .int .i64 x.t, .int .i64 x.o, .int .i64 x.w, .int .i64 x.k, .string x.x], .pointer (some ⟨B6, 0, none⟩)] w fun e w' => e = .returned (.bool r) ∧ Ext w w' := hr ▸ Behind1_c x w hM e1 cB e2
theorem IndexB_c {w1 : World} {B : Nat} {mp : List ((Int × Int) × Rec)} {w2 : World} {B6 : Nat} {w0 : World} {a : Option Addr} {n : Nat} {l : List Rec} (c : Nat) (w : World) (H : RecsAt w0 a n l) (e0 : Ext w0 w) (hM : MapS keyV Rec.val w1 B mp) (e1 : Ext w1 w) (cB : w2.cell? ⟨B6, 0, none⟩ = some (.map (some B))) (e2 : Ext w2 w) : Calls Tryz.prog 86 #[.slice a n c, .func (.func 67) #[] #[pw B6 0]] w fun e w' => e = .returned (iv (Rep.ixF ((Rep.knownB mp)) l)) ∧ Ext w w' := by
 replace H := H.ext e0;clear e0;obtain ⟨b, o, ha, hbr, hx⟩ := H.parts;have hln := H.len;have hmx := H.max;refine calls_cw 19 [(1, .func (.func 67) #[] #[pw B6 0]), (0, .slice a n c)] Tryz.func86 rfl Tryz.ntmps86 (by kernel_rfl) (by kernel_rfl) (fun L => ?_);have hE := Ext.refl w;refine zc (zp (pT (iv 0) ?_));refine zn (zc (zc (zp (pD (.slice a n c) (iv n) ?_))));refine pT (iv 0) ?_;refine zn (cw_block ?_);refine cw_loop [0, 1, 7, 8] (fun ws' wr m => ∃ i : Nat, ws' = [(0, .slice a n c), (1, .func (.func 67) #[] #[pw B6 0]), (7, iv n), (8, iv i)] ∧ m = n - i ∧ w.heap.size ≤ wr.heap.size ∧ Ext w wr ∧ i ≤ n ∧ (∀ j, j < i → (Rep.knownB mp) (recN l j) = false)) (ws0 := [(0, .slice a n c), (1, .func (.func 67) #[] #[pw B6 0]), (7, iv n), (8, iv 0)]) (by kernel_rfl) _ ⟨0, rfl, rfl, Nat.le_refl _, hE, Nat.zero_le _, (fun j hj => absurd hj (Nat.not_lt_zero j))⟩ ?_;clear hE;rintro m3 L ws w2 ⟨i, rfl, rfl, B0, hE, hi, hno⟩
 by_cases hlt : i < n
 ·
  obtain rfl := ha (by omega);have hbl := hbr (by omega);refine zc (zp (pU (.bool true) (ed (((i : Nat) : Int) < ((n : Nat) : Int)) (by omega)) ?_));refine zn (zc (zt ?_));refine cw_skip (zq (zc (cw_block ?_)));refine zc (zp (pD (iv i) (iv i) ?_));refine zn (cw_seq ?_)
  cases hq : (Rep.knownB mp) (recN l i)
  ·
   refine zp (pD (.func (.func 67) #[] #[pw B6 0]) (sv b o n c) ?_);refine pT (iv i) ?_;refine pU (pw b (o + i * 7)) (xi (sv b o n c) (iv i) (ix23 (k := i) (by omega))) ?_;refine pU (.agg #[iv ((recN l i).c : Int), iv ((recN l i).n : Int), iv ((recN l i).t : Int), iv ((recN l i).o : Int), iv ((recN l i).w : Int), iv ((recN l i).k : Int), .string ((recN l i).x)]) (xl (ld49 ((hx.ext hE).c0 (i := i) (by omega)) ((hx.ext hE).c1 (i := i) (by omega)) ((hx.ext hE).c2 (i := i) (by omega)) ((hx.ext hE).c3 (i := i) (by omega)) ((hx.ext hE).c4 (i := i) (by omega)) ((hx.ext hE).c5 (i := i) (by omega)) ((hx.ext hE).c6 (i := i) (by omega)))) ?_;refine pS (sc 67 #[.agg #[iv ((recN l i).c : Int), iv ((recN l i).n : Int), iv ((recN l i).t : Int), iv ((recN l i).o : Int), iv ((recN l i).w : Int), iv ((recN l i).k : Int), .string ((recN l i).x)], pw B6 0] ((Behind1_r (recN l i) (r := false) _ hM (e1.trans hE) cB (e2.trans hE) hq).mono ?_));rintro e w4 ⟨rfl, hb⟩;replace hE := hE.trans hb;have B2 := hb.size;refine ⟨_, rfl, ?_⟩;refine zn (zf ?_);refine cw_skip (qw_block (zq (zp (pU (iv ((i + 1 : Nat) : Int)) (ew (by omega) (by omega)) ?_))));refine pT (iv ((i + 1 : Nat) : Int)) ?_;refine pl_nil (zr [0, 1, 7, 8] _ ?_ ⟨(i + 1), rfl, rfl, (T B0 B2), hE, by omega, (fun j hj => by rcases Nat.lt_succ_iff_lt_or_eq.1 hj with h | h; exact hno j h; rw [h]; exact hq)⟩);omega
  ·
   refine zp (pD (.func (.func 67) #[] #[pw B6 0]) (sv b o n c) ?_);refine pT (iv i) ?_;refine pU (pw b (o + i * 7)) (xi (sv b o n c) (iv i) (ix23 (k := i) (by omega))) ?_;refine pU (.agg #[iv ((recN l i).c : Int), iv ((recN l i).n : Int), iv ((recN l i).t : Int), iv ((recN l i).o : Int), iv ((recN l i).w : Int), iv ((recN l i).k : Int), .string ((recN l i).x)]) (xl (ld49 ((hx.ext hE).c0 (i := i) (by omega)) ((hx.ext hE).c1 (i := i) (by omega)) ((hx.ext hE).c2 (i := i) (by omega)) ((hx.ext hE).c3 (i := i) (by omega)) ((hx.ext hE).c4 (i := i) (by omega)) ((hx.ext hE).c5 (i := i) (by omega)) ((hx.ext hE).c6 (i := i) (by omega)))) ?_;refine pS (sc 67 #[.agg #[iv ((recN l i).c : Int), iv ((recN l i).n : Int), iv ((recN l i).t : Int), iv ((recN l i).o : Int), iv ((recN l i).w : Int), iv ((recN l i).k : Int), .string ((recN l i).x)], pw B6 0] ((Behind1_r (recN l i) (r := true) _ hM (e1.trans hE) cB (e2.trans hE) hq).mono ?_));rintro e w6 ⟨rfl, hb⟩;replace hE := hE.trans hb;have B3 := hb.size;refine ⟨_, rfl, ?_⟩;refine zn (zt ?_);refine zc (zp (pD (iv i) (iv i) ?_));refine zn (cK [4] (fun L => ?_));refine cw_ret (qw_block_ret (qw_then_ret (qw_then_ret (qw_block_ret (qw_then_ret (qw_ret [iv i] rfl ⟨(by kernel_rfl), trivial⟩ ?_))))));exact ⟨congrArg (fun z => Ending.returned (Value.int .i64 z)) (Rep.ix_found (by omega) hno hq).symm, hE⟩
 ·
  refine zc (zp (pU (.bool false) (en (((i : Nat) : Int) < ((n : Nat) : Int)) (by omega)) ?_));refine zn (zc (zf ?_));refine cw_exit (qw_then_exit (qw_then_exit (qw_block_out (zq (zc (zp (pT (iv (-1 : Int)) ?_)))))));refine zn (cw_ret (qw_ret [iv (-1 : Int)] rfl ⟨(by kernel_rfl), trivial⟩ ?_));exact ⟨congrArg (fun z => Ending.returned (Value.int .i64 z)) (Rep.ix_none fun j hj => hno j (by omega)).symm, hE⟩
theorem IndexB_x {w1 : World} {B : Nat} {mp : List ((Int × Int) × Rec)} {w2 : World} {B6 : Nat} {w0 : World} {a : Option Addr} {n : Nat} {l : List Rec} (c : Nat) (w : World) (H : RecsAt w0 a n l) (e0 : Ext w0 w) (hM : MapS keyV Rec.val w1 B mp) (e1 : Ext w1 w) (cB : w2.cell? ⟨B6, 0, none⟩ = some (.map (some B))) (e2 : Ext w2 w) : Calls Tryz.prog 86 #[.slice a n c, .func (.func 67) #[] #[.pointer (some ⟨B6, 0, none⟩)]] w fun e w' => ∃ z, e = .returned (.int .i64 z) ∧ ((z = -1 ∧ ∀ j, j < n → Rep.knownB mp (recN l j) = false) ∨ ∃ i : Nat, z = (i : Int) ∧ i < n ∧ (∀ j, j < i → Rep.knownB mp (recN l j) = false) ∧ Rep.knownB mp (recN l i) = true) ∧ Ext w w' :=
 (IndexB_c c w H e0 hM e1 cB e2).mono fun _ _ ⟨h1, h2⟩ => ⟨_, h1, by have := Rep.ix_cases (Rep.knownB mp) l; rwa [H.len] at this, h2⟩
theorem Delete_c {B : Nat} {mp : List ((Int × Int) × Rec)} {B6 : Nat} {g n c : Nat} {l : List Rec} (w : World) (hRc : RecsW w g l) (hl : l.length = n) (hg : g < w.heap.size) (hnc : n ≤ c) (hn : n ≤ 1000) (hM : MapS keyV Rec.val w B mp) (cB : w.cell? ⟨B6, 0, none⟩ = some (.map (some B))) (hB1 : B < g) (hB2 : B6 < g) : Calls Tryz.prog 65 #[sv g 0 n c, .func (.func 67) #[] #[pw B6 0]] w fun e w' => ∃ k, e = .returned (sv g 0 k c) ∧ RecsW w' g (l.filter (fun x => !Rep.knownB mp x)) ∧ (l.filter (fun x => !Rep.knownB mp x)).length = k ∧ k ≤ c ∧ Wrote (fun k => k = g) w w' := by
 have Bc : Wrote (fun k => k = g) w w := Wrote.refl _ _;have hgB : Hid (g ≠ B) := Lib.hid (by omega);have Bu : Hid (g ≠ B6) := Lib.hid (by omega);have hBl := hM.lt;have C6 := World.block_lt_of_cell? _ _ cB;refine calls_cw 42 [(1, .func (.func 67) #[] #[pw B6 0]), (0, sv g 0 n c)] Tryz.func65 rfl Tryz.ntmps65 (by kernel_rfl) (by kernel_rfl) (fun L => ?_);have hE := Ext.refl w;refine zc (zp (pT (.slice none 0 0) ?_));refine zn (zc (zp (pD (sv g 0 n c) (.func (.func 67) #[] #[pw B6 0]) ?_)));refine pS (sc 86 #[sv g 0 n c, .func (.func 67) #[] #[pw B6 0]] ((IndexB_x _ _ (hRc.at hl (by omega)) (Ext.refl _) hM (Ext.refl _) cB (Ext.refl _)).mono ?_));rintro e w3 ⟨z1, rfl, Cl, hb⟩;replace hE := hE.trans hb;replace Bc := Bc.step hb;refine mv2 hb hRc hM fun hRc hM=>?_;replace cB := hb.cell cB;have C5 := hb.size;refine ⟨_, rfl, pT (iv z1) ?_⟩;refine zn (zc (cw_seq ?_));rcases Cl with ⟨rfl, hno⟩ | ⟨i0, rfl, Co, hno, hyes⟩
 ·
  refine zp (pD (iv (-1 : Int)) (.bool true) ?_);refine zn (zt ?_);refine zc (zp (pD (sv g 0 n c) (sv g 0 n c) ?_));refine zn (cw_ret (qw_then_ret (qw_ret [sv g 0 n c] rfl ⟨(by kernel_rfl), trivial⟩ ?_)));have Cc := Rep.del_all (p := Rep.knownB mp) (l := l) (fun j hj => hno j (by omega));exact ⟨n, rfl, by rw [Cc]; exact hRc, by rw [Cc]; exact hl, by omega, Bc⟩
 ·
  refine zp (pT (iv i0) ?_);refine pU (.bool false) (eN ((i0 : Nat) : Int) (-1 : Int) (by omega)) ?_;refine zn (zf ?_);refine cw_skip (zq (zc (zc (zp (pT (iv i0) ?_)))));refine pU (iv ((i0 + 1 : Nat) : Int)) (ew (by omega) (by omega)) ?_;refine pT (iv ((i0 + 1 : Nat) : Int)) ?_;refine zn (cw_block ?_);refine cw_loop [0, 1, 5, 6] (fun ws' wr m => ∃ i j : Nat, ∃ l2 : List Rec, ws' = [(0, sv g 0 n c), (1, .func (.func 67) #[] #[pw B6 0]), (5, iv i), (6, iv j)] ∧ m = n - j ∧ w3.heap.size ≤ wr.heap.size ∧ Wrote (fun k => k = g) w wr ∧ MapS keyV Rec.val wr B mp ∧ wr.cell? ⟨B6, 0, none⟩ = some (.map (some B)) ∧ RecsW wr g l2 ∧ i < j ∧ j ≤ n ∧ l2.length = n ∧ l2.take i = (l.take j).filter (fun x => !Rep.knownB mp x) ∧ (∀ q, j ≤ q → recN l2 q = recN l q)) (ws0 := [(0, sv g 0 n c), (1, .func (.func 67) #[] #[pw B6 0]), (5, iv i0), (6, iv ((i0 + 1 : Nat) : Int))]) (by kernel_rfl) _ ⟨i0, (i0 + 1), l, rfl, rfl, Nat.le_refl _, Bc, hM, cB, hRc, by omega, by omega, hl, (Rep.del_start (by omega) hno hyes), (fun q _ => rfl)⟩ ?_;clear Bc hRc hM cB;rintro m7 L ws w6 ⟨i, j, l2, rfl, rfl, Bs, Bc, hM, cB, Bg, hij, Ci, C8, htk, hkeep⟩;have Bh := Ext.refl w6
  by_cases hlt : j < n
  ·
   refine zc (zc (zp (pD (iv j) (sv g 0 n c) ?_)));refine pT (iv n) ?_;refine pU (.bool true) (ed (((j : Nat) : Int) < ((n : Nat) : Int)) (by omega)) ?_;refine zn (zt ?_);refine cw_skip (zq (zc (cw_block ?_)));refine zc (zp (pD (sv g 0 n c) (iv j) ?_));refine pU (pw g (j * 7)) (xi (sv g 0 n c) (iv j) (ix23z (k := j) (by omega))) ?_;refine pU (.agg #[iv ((recN l2 j).c : Int), iv ((recN l2 j).n : Int), iv ((recN l2 j).t : Int), iv ((recN l2 j).o : Int), iv ((recN l2 j).w : Int), iv ((recN l2 j).k : Int), .string ((recN l2 j).x)]) (xl (ld49 ((Bg.w0 (i := j) (by omega)).1) ((Bg.w1 (i := j) (by omega)).1) ((Bg.w2 (i := j) (by omega)).1) ((Bg.w3 (i := j) (by omega)).1) ((Bg.w4 (i := j) (by omega)).1) ((Bg.w5 (i := j) (by omega)).1) ((Bg.w6 (i := j) (by omega)).1))) ?_;refine pS (sw 49 #[iv 0, iv 0, iv 0, iv 0, iv 0, iv 0, .string (⟨#[]⟩)] ?_);intro O9 Ce Bf Ck hb hbx;have ⟨B0, B2, B3, B4, B7, B8, Ba⟩ := bq7 hbx;replace Bh := Bh.trans hb;replace Bc := Bc.step hb;replace hM := hM.ext hb;replace cB := hb.cell cB;have Bw := hb.size;have Cm := B0.lt;refine pP (sn_setK7 (O := O9) (j := 0) (v0 := iv ((recN l2 j).c : Int)) (v1 := iv ((recN l2 j).n : Int)) (v2 := iv ((recN l2 j).t : Int)) (v3 := iv ((recN l2 j).o : Int)) (v4 := iv ((recN l2 j).w : Int)) (v5 := iv ((recN l2 j).k : Int)) (v6 := .string ((recN l2 j).x)) (xt (pw O9 0) (.agg #[iv ((recN l2 j).c : Int), iv ((recN l2 j).n : Int), iv ((recN l2 j).t : Int), iv ((recN l2 j).o : Int), iv ((recN l2 j).w : Int), iv ((recN l2 j).k : Int), .string ((recN l2 j).x)]) (st49 B0.1 B0.2 B2.1 B2.2 B3.1 B3.2 B4.1 B4.2 B7.1 B7.2 B8.1 B8.2 Ba.1 Ba.2)) B0 B2 B3 B4 B7 B8 Ba ?_);intro Cf ho B0 B2 B3 B4 B7 B8 Ba hk;replace Bh := ho.ext Bh (Nat.le_of_eq Bf);replace Bc := Bc.turn ho (.inr (T (T C5 Bs) (Nat.le_of_eq Bf)));replace hM := hM.block (ho.heap' _ (by omega));replace cB := ho.cell (by omega) cB;have Bx := Nat.le_of_eq ho.size.symm;clear ho hk;refine zn (cw_seq ?_)
   cases hq : Rep.knownB mp (recN l2 j)
   ·
    refine zp (pT (.func (.func 67) #[] #[pw B6 0]) ?_);refine pU (.agg #[iv ((recN l2 j).c : Int), iv ((recN l2 j).n : Int), iv ((recN l2 j).t : Int), iv ((recN l2 j).o : Int), iv ((recN l2 j).w : Int), iv ((recN l2 j).k : Int), .string ((recN l2 j).x)]) (xl (ld49 (B0.1) (B2.1) (B3.1) (B4.1) (B7.1) (B8.1) (Ba.1))) ?_;refine pS (sc 67 #[.agg #[iv ((recN l2 j).c : Int), iv ((recN l2 j).n : Int), iv ((recN l2 j).t : Int), iv ((recN l2 j).o : Int), iv ((recN l2 j).w : Int), iv ((recN l2 j).k : Int), .string ((recN l2 j).x)], pw B6 0] ((Behind1_r (recN l2 j) (r := false) _ hM (Ext.refl _) cB (Ext.refl _) hq).mono ?_));rintro e Cn ⟨rfl, hb⟩;replace Bh := Bh.trans hb;replace Bc := Bc.step hb;replace hM := hM.ext hb;replace cB := hb.cell cB;refine mv7 hb B0 B2 B3 B4 B7 B8 Ba fun B0 B2 B3 B4 B7 B8 Ba=>?_;have C9 := hb.size;refine ⟨_, rfl, pT (.bool true) ?_⟩;refine zn (cK [0,1,5,6,7,29] (fun L => ?_));refine zt ?_;refine zc (zp (pD (sv g 0 n c) (iv i) ?_));refine pU (.agg #[iv ((recN l2 j).c : Int), iv ((recN l2 j).n : Int), iv ((recN l2 j).t : Int), iv ((recN l2 j).o : Int), iv ((recN l2 j).w : Int), iv ((recN l2 j).k : Int), .string ((recN l2 j).x)]) (xl (ld49 (B0.1) (B2.1) (B3.1) (B4.1) (B7.1) (B8.1) (Ba.1))) ?_;refine pU (pw g (i * 7)) (xi (sv g 0 n c) (iv i) (ix23z (k := i) (by omega))) ?_;have Bb := (Bg.ext Bh);have Br : i < l2.length := by omega
    have Bi := Bb.w0 Br;have Bj := Bb.w1 Br;have Bk := Bb.w2 Br;have Bm := Bb.w3 Br;have Bn := Bb.w4 Br;have Bo := Bb.w5 Br;have Bp := Bb.w6 Br;refine pP (sn_setK7 (O := g) (j := i * 7) (v0 := iv ((recN l2 j).c : Int)) (v1 := iv ((recN l2 j).n : Int)) (v2 := iv ((recN l2 j).t : Int)) (v3 := iv ((recN l2 j).o : Int)) (v4 := iv ((recN l2 j).w : Int)) (v5 := iv ((recN l2 j).k : Int)) (v6 := .string ((recN l2 j).x)) (xt (pw g (i * 7)) (.agg #[iv ((recN l2 j).c : Int), iv ((recN l2 j).n : Int), iv ((recN l2 j).t : Int), iv ((recN l2 j).o : Int), iv ((recN l2 j).w : Int), iv ((recN l2 j).k : Int), .string ((recN l2 j).x)]) (st49 Bi.1 Bi.2 Bj.1 Bj.2 Bk.1 Bk.2 Bm.1 Bm.2 Bn.1 Bn.2 Bo.1 Bo.2 Bp.1 Bp.2)) Bi Bj Bk Bm Bn Bo Bp ?_);intro Cg ho By Bz C0 C1 C2 C3 C4 hk;have Bt := RecsW.set (i := i) (x := (recN l2 j)) Bb ⟨By, Bz, C0, C1, C2, C3, C4⟩ hk;obtain ⟨Cd, Be⟩ : ∃ q, q = l2.set i (recN l2 j) := ⟨_, rfl⟩;rw [← Be] at Bt;have Bv : Cd.length = n := by rw [Be, List.length_set];exact C8
    replace Bc := Bc.turn ho (.inl (rfl));replace hM := hM.block (ho.heap' _ (Ne.symm hgB.out));replace cB := ho.cell Bu.out cB;have q9 := ho.bx O9 (by omega);replace B0 := q9 B0;replace B2 := q9 B2;replace B3 := q9 B3;replace B4 := q9 B4;replace B7 := q9 B7;replace B8 := q9 B8;replace Ba := q9 Ba;clear q9;have Ca := Nat.le_of_eq ho.size.symm;clear ho hk Br By Bz C0 C1 C2 C3 C4 Bi Bj Bk Bm Bn Bo Bp;refine zn (zp (pT (iv i) ?_));refine pU (iv ((i + 1 : Nat) : Int)) (ew (by omega) (by omega)) ?_;refine pT (iv ((i + 1 : Nat) : Int)) ?_;refine pl_nil (qw_block (zq (zp (pT (iv j) ?_))));refine pU (iv ((j + 1 : Nat) : Int)) (ew (by omega) (by omega)) ?_;refine pT (iv ((j + 1 : Nat) : Int)) ?_;refine pl_nil (qw_round [0, 1, 5, 6] (ws' := [(0, sv g 0 n c), (1, .func (.func 67) #[] #[pw B6 0]), (5, iv ((i + 1 : Nat) : Int)), (6, iv ((j + 1 : Nat) : Int))]) (by kernel_rfl) _ ?_ ⟨(i + 1), (j + 1), Cd, rfl, rfl, (T Bs (T Bw (T Bx (T C9 Ca)))), Bc, hM, cB, Bt, by omega, by omega, Bv, (by rw [Be, take_set_snoc (by omega), htk, Rep.del_snoc (by omega), ← hkeep j (Nat.le_refl _), if_neg (by rw [hq]; exact Bool.false_ne_true)]), (fun q hq => by rw [Be, recN_set, if_neg (by omega)]; exact hkeep q (by omega))⟩);omega
   ·
    refine zp (pT (.func (.func 67) #[] #[pw B6 0]) ?_);refine pU (.agg #[iv ((recN l2 j).c : Int), iv ((recN l2 j).n : Int), iv ((recN l2 j).t : Int), iv ((recN l2 j).o : Int), iv ((recN l2 j).w : Int), iv ((recN l2 j).k : Int), .string ((recN l2 j).x)]) (xl (ld49 (B0.1) (B2.1) (B3.1) (B4.1) (B7.1) (B8.1) (Ba.1))) ?_;refine pS (sc 67 #[.agg #[iv ((recN l2 j).c : Int), iv ((recN l2 j).n : Int), iv ((recN l2 j).t : Int), iv ((recN l2 j).o : Int), iv ((recN l2 j).w : Int), iv ((recN l2 j).k : Int), .string ((recN l2 j).x)], pw B6 0] ((Behind1_r (recN l2 j) (r := true) _ hM (Ext.refl _) cB (Ext.refl _) hq).mono ?_));rintro e Cp ⟨rfl, hb⟩;replace Bh := Bh.trans hb;replace Bc := Bc.step hb;replace hM := hM.ext hb;replace cB := hb.cell cB;have Cb := hb.size;refine ⟨_, rfl, pT (.bool false) ?_⟩;refine zn (cK [0,1,5,6,7,29] (fun L => ?_));refine zf ?_;refine cw_skip (qw_block (zq (zp (pT (iv j) ?_))));refine pU (iv ((j + 1 : Nat) : Int)) (ew (by omega) (by omega)) ?_;refine pT (iv ((j + 1 : Nat) : Int)) ?_;refine pl_nil (qw_round [0, 1, 5, 6] (ws' := [(0, sv g 0 n c), (1, .func (.func 67) #[] #[pw B6 0]), (5, iv i), (6, iv ((j + 1 : Nat) : Int))]) (by kernel_rfl) _ ?_ ⟨i, (j + 1), l2, rfl, rfl, (T Bs (T Bw (T Bx Cb))), Bc, hM, cB, (Bg.ext Bh), by omega, by omega, C8, (by rw [Rep.del_snoc (by omega), htk, ← hkeep j (Nat.le_refl _), if_pos hq, List.append_nil]), (fun q hq => hkeep q (by omega))⟩);omega
  ·
   have hjn : j = n := by omega
   refine zc (zc (zp (pD (iv j) (sv g 0 n c) ?_)));refine pT (iv n) ?_;refine pU (.bool false) (en (((j : Nat) : Int) < ((n : Nat) : Int)) (by omega)) ?_;refine zn (zf ?_);refine cw_exit (qw_then_exit (qw_then_exit (qw_block_out (zq (zc (zp (pD (sv g 0 n c) (iv i) ?_)))))));refine pU (sv g (i * 7) (n - i) (c - i)) (ex_slice (p := sv g 0 n c) rfl (by kernel_rfl) (by kernel_rfl) (by kernel_rfl) (by kernel_rfl) (slRz (k := i) (by omega) (by omega) (by omega))) ?_;have Bq := Bg;refine pP (sn_clear (ex_clear (s := sv g (i * 7) (n - i) (c - i)) rfl (by kernel_rfl) (recs_clear Bq C8 (by omega))) ?_);intro Ch ho hk;have C7 := RecsW.cut (k := i) Bq hk;replace Bc := Bc.turn ho (.inl (rfl));have Cj := Nat.le_of_eq ho.size.symm;clear ho hk;refine zn (zc (zp (pD (sv g 0 n c) (iv i) ?_)));refine pU (sv g 0 i c) (ex_slice (p := sv g 0 n c) rfl (by kernel_rfl) (by kernel_rfl) (by kernel_rfl) (by kernel_rfl) (sl23_010 (m := i) (by omega) (by omega))) ?_;refine pT (sv g 0 i c) ?_;refine zn (cK [4] (fun L => ?_));refine cw_ret (qw_ret [sv g 0 i c] rfl ⟨(by kernel_rfl), trivial⟩ ?_);subst hjn;rw [show l.take j = l from List.take_of_length_le (by omega)] at htk;exact ⟨i, rfl, by rw [← htk]; exact C7, by rw [← htk, List.length_take]; omega, by omega, Bc⟩
theorem Delete_0 {w1 : World} {B : Nat} {mp : List ((Int × Int) × Rec)} {w2 : World} {B6 : Nat} {a : Option Addr} {c : Nat} (w : World) (H : RecsAt w a 0 []) (hM : MapS keyV Rec.val w1 B mp) (e1 : Ext w1 w) (cB : w2.cell? ⟨B6, 0, none⟩ = some (.map (some B))) (e2 : Ext w2 w) : Calls Tryz.prog 65 #[.slice a 0 c, .func (.func 67) #[] #[pw B6 0]] w fun e w' => e = .returned (.slice a 0 c) ∧ Ext w w' := by
 refine calls_cw 42 [(1, .func (.func 67) #[] #[pw B6 0]), (0, .slice a 0 c)] Tryz.func65 rfl Tryz.ntmps65 (by kernel_rfl) (by kernel_rfl) (fun L => ?_);have hE := Ext.refl w;refine zc (zp (pT (.slice none 0 0) ?_));refine zn (zc (zp (pD (.slice a 0 c) (.func (.func 67) #[] #[pw B6 0]) ?_)));refine pS (sc 86 #[.slice a 0 c, .func (.func 67) #[] #[pw B6 0]] ((IndexB_x (l := []) _ _ H ((Ext.refl _)) hM e1 cB e2).mono ?_));rintro e w3 ⟨z1, rfl, hz2, hb⟩;replace hE := hE.trans hb;have hs4 := hb.size;refine ⟨_, rfl, pT (iv z1) ?_⟩;refine zn (zc (cw_seq ?_));rcases hz2 with ⟨rfl, hno⟩ | ⟨i0, rfl, hi0, hno, hyes⟩
 rotate_left
 · omega
 refine zp (pD (iv (-1 : Int)) (.bool true) ?_);refine zn (zt ?_);refine zc (zp (pD (.slice a 0 c) (.slice a 0 c) ?_));refine zn (cw_ret (qw_then_ret (qw_ret [.slice a 0 c] rfl ⟨(by kernel_rfl), trivial⟩ ?_)));exact ⟨rfl, hE⟩
end Go.Proofs.YtfmoabgjaclkpaaGreatDoor

namespace Go.Proofs.YtfmoabgjaclkpaaGreatDoor
set_option maxRecDepth 1000000
set_option maxHeartbeats 4000000
set_option synthInstance.maxHeartbeats 0
set_option synthInstance.maxSize 9999
open Go.RowKit
def Tz37_0 : List Row := [(some 22, [2], []), (some 23, [22], [0]), (some 24, [2], []), (some 25, [24], [2]), (some 26, [3], []), (some 27, [26], [4]), (some 28, [25, 27], [3, 5]), (some 29, [23, 28], [1, 6]), (some 30, [29], [7, 6]), (some 31, [30], [8]), (some 32, [30], [8]), (none, [4, 31], [9, 8, 0, 1, 2, 3, 4, 5, 6, 7, 8, 9, 10]), (some 5, [32], [10, 11, 0, 1, 2, 3, 4, 5, 6, 7, 8, 9, 10, 11])]
def MergeP (c1 : Int) (l1 : List Rec) (c2 : Int) (l2 : List Rec) (n : Nat) (l' : List Rec) : Prop := (Rep.validB c1 l1 = true ∧ Rep.validB c2 l2 = true ∧ l2.any (Rep.contrB (Rep.bookL l1)) = false) ∧ Rep.Mrg l1 l2 n l'
def OptR (lo : Nat) (w' : World) (c : Int) (o : Option (List Rec)) (c' : Int) (a' : Option Addr) (n' k' : Nat) (er : Int) : Prop :=
 (∃ l, o = some l ∧ er = 0 ∧ c' = c ∧ RecsAt w' a' n' l ∧ n' ≤ k' ∧ ∀ ad, a' = some ad → lo ≤ ad.block) ∨ (o = none ∧ er = 350 ∧ c' = 0 ∧ a' = none ∧ n' = 0 ∧ k' = 0)
theorem ResR.opt {lo : Nat} {w' : World} {c : Int} {P : List Rec → Prop} {bad : Prop} {o : Option (List Rec)} {c' : Int} {a' : Option Addr} {n' k' : Nat} {er : Int} (h : ResR lo w' c P bad c' a' n' k' er) (hP : ∀ l, P l → o = if Rep.validB c l = true then some l else none) (hb : bad → o = none) : OptR lo w' c o c' a' n' k' er := by
  rcases h with ⟨h1, h2, l, h3, h4, h5, h6, h7⟩ | ⟨h1, h2, h3, h4, h5, h6⟩
  · exact .inl ⟨l, by rw [hP l h3, if_pos h4], h1, h2, h5, h6, h7⟩
  · refine .inr ⟨?_, h1, h2, h3, h4, h5⟩
    rcases h6 with h6 | ⟨l, h6, h7⟩
    · exact hb h6
    · rw [hP l h6, if_neg (by rw [h7]; exact Bool.false_ne_true)]
theorem putP_opt {c : Int} {l : List Rec} {x : Rec} {n : Nat} (hn : l.length = n) : ∀ l', PutP c l x n l' → Rep.addF c l x = if Rep.validB c l' = true then some l' else none := fun l' ⟨h1, h2⟩ => by
 have hv := Rep.valid_vd h1
 have e := h2.eq (by rw [hn]; rfl) hv.keys (Rep.keysD_one _) (Rep.own_cons hv c x)
 rw [e]; unfold Rep.addF
 by_cases q : Rep.validB c (Rep.unionF l [Rep.own c l x]) = true
 · rw [if_pos ⟨h1, q⟩, if_pos q]
 · rw [if_neg (fun z => q z.2), if_neg q]
theorem addF_bad {c : Int} {l : List Rec} {x : Rec} (h : Rep.validB c l = false) : Rep.addF c l x = none := by
 unfold Rep.addF; rw [if_neg (fun z => by rw [h] at z; cases z.1)]
theorem mergeP_opt {c1 c2 : Int} {l1 l2 : List Rec} {n : Nat} (hn : n = l1.length + l2.length) : ∀ l', MergeP c1 l1 c2 l2 n l' → Rep.mergeF c1 l1 c2 l2 = if Rep.validB c1 l' = true then some l' else none := fun l' ⟨⟨h1, h2, h3⟩, h4⟩ => by
 have v1 := (Rep.valid_vd h1).keys; have v2 := (Rep.valid_vd h2).keys
 rw [h4.eq hn v1 v2 ((Rep.contr_iff v1).1 h3)]; unfold Rep.mergeF
 by_cases q : Rep.validB c1 (Rep.unionF l1 l2) = true
 · rw [if_pos ⟨h1, h2, h3, q⟩, if_pos q]
 · rw [if_neg (fun z => q z.2.2.2), if_neg q]
theorem mergeF_bad {c1 c2 : Int} {l1 l2 : List Rec} (h : ¬ (Rep.validB c1 l1 = true ∧ Rep.validB c2 l2 = true ∧ l2.any (Rep.contrB (Rep.bookL l1)) = false)) : Rep.mergeF c1 l1 c2 l2 = none := by
 unfold Rep.mergeF; rw [if_neg (fun z => h ⟨z.1, z.2.1, z.2.2.1⟩)]
theorem OptR.y {lo : Nat} {w' : World} {c : Int} {l : List Rec} {c' : Int} {a' : Option Addr} {n' k' : Nat} {er : Int} (h : OptR lo w' c (some l) c' a' n' k' er) : er = 0 ∧ c' = c ∧ RecsAt w' a' n' l ∧ n' ≤ k' ∧ ∀ ad, a' = some ad → lo ≤ ad.block := by
 rcases h with ⟨l', h1, h2⟩ | ⟨h, _⟩
 · cases h1; exact h2
 · cases h
theorem OptR.n {lo : Nat} {w' : World} {c : Int} {c' : Int} {a' : Option Addr} {n' k' : Nat} {er : Int} (h : OptR lo w' c none c' a' n' k' er) : er = 350 ∧ c' = 0 ∧ a' = none ∧ n' = 0 ∧ k' = 0 := by
 rcases h with ⟨l', h1, h2⟩ | ⟨_, h⟩
 · cases h1
 · exact h
theorem Merge_c {w1 w2 : World} {c1 c2 : Int} {a1 a2 : Option Addr} {n1 n2 : Nat} {l1 l2 : List Rec} (k1 k2 : Nat) (w : World) (H1 : RecsAt w1 a1 n1 l1) (e1 : Ext w1 w) (H2 : RecsAt w2 a2 n2 l2) (e2 : Ext w2 w) (hRl : RootAt w) : Calls Tryz.prog 26 #[.agg #[iv c1, .slice a1 n1 k1], .agg #[iv c2, .slice a2 n2 k2]] w fun e w' => ∃ c' a' n' k' er, e = .returned (.tuple #[.agg #[iv c', .slice a' n' k'], iv er]) ∧ ResR w.heap.size w' c1 (MergeP c1 l1 c2 l2 (n1 + n2)) (¬ (Rep.validB c1 l1 = true ∧ Rep.validB c2 l2 = true ∧ l2.any (Rep.contrB (Rep.bookL l1)) = false)) c' a' n' k' er ∧ Ext w w' := by
 replace H1 := H1.ext e1;clear e1;replace H2 := H2.ext e2;clear e2;refine calls_cw 33 [(1, .agg #[iv c2, .slice a2 n2 k2]), (0, .agg #[iv c1, .slice a1 n1 k1])] Tryz.func26 rfl Tryz.ntmps26 (by kernel_rfl) (by kernel_rfl) (fun L => ?_);have hE := Ext.refl w;refine zc (zp (pS (sw 25 #[iv c1, .slice a1 n1 k1] ?_)));intro O1 X2 Cq Cn hb hbx;have ⟨B4, B2⟩ := bq2 hbx;replace hE := hE.trans hb;have Br := hb.size;have Bx := B4.lt;refine pS (sw 25 #[iv c2, .slice a2 n2 k2] ?_);intro O5 X6 Cr Co hb hbx;have ⟨B8, B7⟩ := bq2 hbx;refine mv3 hb hE B4 B2 fun hE B4 B2=>?_;have Bf := hb.size;have By := B8.lt;refine pS (sw 25 #[iv 0, .slice none 0 0] ?_);intro O9 Cw Ba Cp hb hbx;have ⟨B0, B3⟩ := bq2 hbx;refine mv5 hb hE B4 B2 B8 B7 fun hE B4 B2 B8 B7=>?_;have C1 := hb.size;have C2 := B0.lt;refine pT (iv 0) ?_;refine zn (zc (cw_seq ?_));obtain ⟨q9, Bb⟩ : ∃ q, Rep.validB c1 l1 = q := ⟨_, rfl⟩
 cases q9
 ·
  refine zp (pU (.agg #[iv c1, .slice a1 n1 k1]) (xl (ld25 (B4.1) (B2.1))) ?_);refine pS (sc 16 #[.agg #[iv c1, .slice a1 n1 k1]] ((Valid_r (r := false) _ _ H1 hE (hRl.ext hE) Bb).mono ?_));rintro e Cs ⟨rfl, hb⟩;refine mv7 hb hE B4 B2 B8 B7 B0 B3 fun hE B4 B2 B8 B7 B0 B3=>?_;have Cb := hb.size;refine ⟨_, rfl, pD (.bool true) (.bool true) ?_⟩;refine pK ?_;refine pK ?_;refine pK ?_;refine pD (.bool true) (.bool true) ?_;refine pK ?_;refine pK ?_;refine pK ?_;refine pK ?_;refine pK ?_;refine pT (.bool true) ?_;refine zn (cK [2,3,4,20] (fun L => ?_));refine zt ?_;refine zc (zp (pT (.agg #[iv 0, .slice none 0 0]) ?_));refine pP (sn_set2 (O := O9) (j := 0) (v := iv 0) (v' := .slice none 0 0) (xt (pw O9 0) (.agg #[iv 0, .slice none 0 0]) (st25 B0.1 B0.2 B3.1 B3.2)) B0 B3 ?_);intro C7 ho B0 B3 hk;replace hE := ho.ext hE (T (T Br Bf) (Nat.le_of_eq Ba));have q9 := ho.bx O1 (by omega);replace B4 := q9 B4;replace B2 := q9 B2;clear q9;have q9 := ho.bx O5 (by omega);replace B8 := q9 B8;replace B7 := q9 B7;clear q9;have Cc := Nat.le_of_eq ho.size.symm;clear ho hk;refine pT (iv 350) ?_;refine zn (cw_ret (qw_then_ret (qw_ret [.agg #[iv 0, .slice none 0 0], iv 350] rfl ⟨⟨_, by kernel_rfl, res_ld (ld25 (B0.1) (B3.1))⟩, (by kernel_rfl), trivial⟩ ?_)));exact ⟨_, _, _, _, _, rfl, ResR.bad (fun q => by rw [Bb] at q; cases q.1), hE⟩
 ·
  obtain ⟨q9, Bj⟩ : ∃ q, Rep.validB c2 l2 = q := ⟨_, rfl⟩
  cases q9
  ·
   refine zp (pU (.agg #[iv c1, .slice a1 n1 k1]) (xl (ld25 (B4.1) (B2.1))) ?_);refine pS (sc 16 #[.agg #[iv c1, .slice a1 n1 k1]] ((Valid_r (r := true) _ _ H1 hE (hRl.ext hE) Bb).mono ?_));rintro e D3 ⟨rfl, hb⟩;refine mv7 hb hE B4 B2 B8 B7 B0 B3 fun hE B4 B2 B8 B7 B0 B3=>?_;have Cd := hb.size;refine ⟨_, rfl, pD (.bool false) (.bool false) ?_⟩;refine pU (.agg #[iv c2, .slice a2 n2 k2]) (xl (ld25 (B8.1) (B7.1))) ?_;refine pS (sc 16 #[.agg #[iv c2, .slice a2 n2 k2]] ((Valid_r (r := false) _ _ H2 hE (hRl.ext hE) Bj).mono ?_));rintro e Ct ⟨rfl, hb⟩;refine mv7 hb hE B4 B2 B8 B7 B0 B3 fun hE B4 B2 B8 B7 B0 B3=>?_;have Ce := hb.size;refine ⟨_, rfl, pD (.bool true) (.bool true) ?_⟩;refine pT (.bool true) ?_;refine pK ?_;refine pK ?_;refine pK ?_;refine pK ?_;refine pK ?_;refine pT (.bool true) ?_;refine zn (cK [2,3,4,20] (fun L => ?_));refine zt ?_;refine zc (zp (pT (.agg #[iv 0, .slice none 0 0]) ?_));refine pP (sn_set2 (O := O9) (j := 0) (v := iv 0) (v' := .slice none 0 0) (xt (pw O9 0) (.agg #[iv 0, .slice none 0 0]) (st25 B0.1 B0.2 B3.1 B3.2)) B0 B3 ?_);intro C8 ho B0 B3 hk;replace hE := ho.ext hE (T (T Br Bf) (Nat.le_of_eq Ba));have q9 := ho.bx O1 (by omega);replace B4 := q9 B4;replace B2 := q9 B2;clear q9;have q9 := ho.bx O5 (by omega);replace B8 := q9 B8;replace B7 := q9 B7;clear q9;have Cf := Nat.le_of_eq ho.size.symm;clear ho hk;refine pT (iv 350) ?_;refine zn (cw_ret (qw_then_ret (qw_ret [.agg #[iv 0, .slice none 0 0], iv 350] rfl ⟨⟨_, by kernel_rfl, res_ld (ld25 (B0.1) (B3.1))⟩, (by kernel_rfl), trivial⟩ ?_)));exact ⟨_, _, _, _, _, rfl, ResR.bad (fun q => by rw [Bj] at q; cases q.2.1), hE⟩
  ·
   obtain ⟨q9, Bv⟩ : ∃ q, l2.any (Rep.contrB (Rep.bookL l1)) = q := ⟨_, rfl⟩
   cases q9
   ·
    refine zp (pU (.agg #[iv c1, .slice a1 n1 k1]) (xl (ld25 (B4.1) (B2.1))) ?_);refine pS (sc 16 #[.agg #[iv c1, .slice a1 n1 k1]] ((Valid_r (r := true) _ _ H1 hE (hRl.ext hE) Bb).mono ?_));rintro e D4 ⟨rfl, hb⟩;refine mv7 hb hE B4 B2 B8 B7 B0 B3 fun hE B4 B2 B8 B7 B0 B3=>?_;have Bo := hb.size;refine ⟨_, rfl, pD (.bool false) (.bool false) ?_⟩;refine pU (.agg #[iv c2, .slice a2 n2 k2]) (xl (ld25 (B8.1) (B7.1))) ?_;refine pS (sc 16 #[.agg #[iv c2, .slice a2 n2 k2]] ((Valid_r (r := true) _ _ H2 hE (hRl.ext hE) Bj).mono ?_));rintro e D5 ⟨rfl, hb⟩;refine mv7 hb hE B4 B2 B8 B7 B0 B3 fun hE B4 B2 B8 B7 B0 B3=>?_;have Bp := hb.size;refine ⟨_, rfl, pD (.bool false) (.bool false) ?_⟩;refine pD (.bool false) (pw O1 1) ?_;refine pU (.slice a1 n1 k1) (xl (ld23 (B2.1))) ?_;refine pT (pw O5 1) ?_;refine pU (.slice a2 n2 k2) (xl (ld23 (B7.1))) ?_;refine pS (sc 61 #[.slice a1 n1 k1, .slice a2 n2 k2] ((contradict_r (r := false) _ _ _ H1 hE H2 hE Bv).mono ?_));rintro e D6 ⟨rfl, hb⟩;refine mv7 hb hE B4 B2 B8 B7 B0 B3 fun hE B4 B2 B8 B7 B0 B3=>?_;have Bq := hb.size;refine ⟨_, rfl, pT (.bool false) ?_⟩;refine zn (cK [2,3,4,20] (fun L => ?_));refine zf ?_;refine cw_skip (zq (cw_seq ?_));have Cy := Rep.valid_len Bb;have Cz := Rep.valid_len Bj;have D0 := H1.len;have D1 := H2.len;refine dE Tz37_0 (fun w' => w'.cell? ⟨O1, 0, none⟩ = some (iv c1) ∧ w'.cell? ⟨O1, 1, none⟩ = some (.slice a1 n1 k1) ∧ w'.cell? ⟨O5, 1, none⟩ = some (.slice a2 n2 k2)) (⟨B4.1, B2.1, B7.1⟩) (fun ops Q Cx hb hL hR hK => ?_);refine mv7 hb hE B4 B2 B8 B7 B0 B3 fun hE B4 B2 B8 B7 B0 B3=>?_;have Bs := hb.size;have hS := A3 B4.1 B2.1 B7.1;refine wV 0 (pw O1 0) hR hS ?_;refine wM 1 (iv c1) hR (fun w hS => ld3 (hS.1)) hS ?_;refine wV 2 (pw O1 1) hR hS ?_;refine wM 3 (.slice a1 n1 k1) hR (fun w hS => ld23 (hS.2.1)) hS ?_;refine wV 4 (pw O5 1) hR hS ?_;refine wM 5 (.slice a2 n2 k2) hR (fun w hS => ld23 (hS.2.2)) hS ?_;refine wC 6 63 #[.slice a1 n1 k1, .slice a2 n2 k2, .func (.func 51) #[] #[]] hR ((merged_c _ H1 H2 hE hE (by omega)).mono ?_);rintro e C6 ⟨C3, C5, C4, D2, rfl, Bk, C0, Bn, Bg, hb⟩;refine mv7 hb hE B4 B2 B8 B7 B0 B3 fun hE B4 B2 B8 B7 B0 B3=>?_;have Cg := hb.size;have Bi := Ext.refl C6;have hS := A3 B4.1 B2.1 B7.1;refine ⟨_, rfl, hS, ?_⟩;refine wV 7 (.agg #[iv c1, .slice C3 C5 C4]) hR hS ?_;refine wC 8 62 #[.agg #[iv c1, .slice C3 C5 C4]] hR ((checked_c _ _ Bk (Ext.refl _) (hRl.ext hE)).mono ?_);rintro e Cu ⟨Bu, Bt, Bz, Bw, Bh, rfl, Bm, hb⟩;refine mv7 hb hE Bi B4 B2 B8 B7 B0 fun hE Bi B4 B2 B8 B7 B0=>?_;replace B3 := B3.x hb;have Ch := hb.size;have hS := A3 B4.1 B2.1 B7.1;refine ⟨_, rfl, hS, ?_⟩;refine wW 9 (.agg #[iv Bu, .slice Bt Bz Bw]) 10 (iv Bh) hR hS ?_;have Bc := (Bk.ext Bi);refine wS 11 hR (sn_set2 (O := O9) (j := 0) (v := iv Bu) (v' := .slice Bt Bz Bw) (ex_store (p := pw O9 0) (v := .agg #[iv Bu, .slice Bt Bz Bw]) rfl (by kernel_rfl) (by kernel_rfl) (st25 B0.1 B0.2 B3.1 B3.2)) B0 B3 ?_);intro C9 ho B0 B3 hk;replace hE := ho.ext hE (T (T Br Bf) (Nat.le_of_eq Ba));have q9 := ho.bx O1 (by omega);replace B4 := q9 B4;replace B2 := q9 B2;clear q9;have q9 := ho.bx O5 (by omega);replace B8 := q9 B8;replace B7 := q9 B7;clear q9;replace Bc := Bc.turn ho (fun ad e => Nat.ne_of_gt (Nat.lt_of_lt_of_le (by omega) (Bg ad e)));have Ci := Nat.le_of_eq ho.size.symm;clear ho hk;refine ⟨⟨B4.1, B2.1, B7.1⟩, ?_⟩;refine wV 12 (iv Bh) hR (⟨B4.1, B2.1, B7.1⟩) ?_;refine we hL hR hK ?_;refine zq (cK [4,5] (fun L => ?_));refine cw_ret (qw_ret [.agg #[iv Bu, .slice Bt Bz Bw], iv Bh] rfl ⟨⟨_, by kernel_rfl, res_ld (ld25 (B0.1) (B3.1))⟩, (by kernel_rfl), trivial⟩ ?_);exact ⟨_, _, _, _, _, rfl, ResR.of Bm ⟨⟨Bb, Bj, Bv⟩, C0⟩ Bc Bn (fun ad e => T (by omega) (Bg ad e)), hE⟩
   ·
    refine zp (pU (.agg #[iv c1, .slice a1 n1 k1]) (xl (ld25 (B4.1) (B2.1))) ?_);refine pS (sc 16 #[.agg #[iv c1, .slice a1 n1 k1]] ((Valid_r (r := true) _ _ H1 hE (hRl.ext hE) Bb).mono ?_));rintro e D7 ⟨rfl, hb⟩;refine mv6 hb hE B2 B8 B7 B0 B3 fun hE B2 B8 B7 B0 B3=>?_;have Cj := hb.size;refine ⟨_, rfl, pD (.bool false) (.bool false) ?_⟩;refine pU (.agg #[iv c2, .slice a2 n2 k2]) (xl (ld25 (B8.1) (B7.1))) ?_;refine pS (sc 16 #[.agg #[iv c2, .slice a2 n2 k2]] ((Valid_r (r := true) _ _ H2 hE (hRl.ext hE) Bj).mono ?_));rintro e D8 ⟨rfl, hb⟩;refine mv5 hb hE B2 B7 B0 B3 fun hE B2 B7 B0 B3=>?_;have Ck := hb.size;refine ⟨_, rfl, pD (.bool false) (.bool false) ?_⟩;refine pD (.bool false) (pw O1 1) ?_;refine pU (.slice a1 n1 k1) (xl (ld23 (B2.1))) ?_;refine pT (pw O5 1) ?_;refine pU (.slice a2 n2 k2) (xl (ld23 (B7.1))) ?_;refine pS (sc 61 #[.slice a1 n1 k1, .slice a2 n2 k2] ((contradict_r (r := true) _ _ _ H1 hE H2 hE Bv).mono ?_));rintro e Cv ⟨rfl, hb⟩;refine mv3 hb hE B0 B3 fun hE B0 B3=>?_;have Cl := hb.size;refine ⟨_, rfl, pT (.bool true) ?_⟩;refine zn (cK [2,3,4,20] (fun L => ?_));refine zt ?_;refine zc (zp (pT (.agg #[iv 0, .slice none 0 0]) ?_));refine pP (sn_set2 (O := O9) (j := 0) (v := iv 0) (v' := .slice none 0 0) (xt (pw O9 0) (.agg #[iv 0, .slice none 0 0]) (st25 B0.1 B0.2 B3.1 B3.2)) B0 B3 ?_);intro Ca ho B0 B3 hk;replace hE := ho.ext hE (T (T Br Bf) (Nat.le_of_eq Ba));have q9 := ho.bx O1 (by omega);clear q9;have q9 := ho.bx O5 (by omega);clear q9;have Cm := Nat.le_of_eq ho.size.symm;clear ho hk;refine pT (iv 350) ?_;refine zn (cw_ret (qw_then_ret (qw_ret [.agg #[iv 0, .slice none 0 0], iv 350] rfl ⟨⟨_, by kernel_rfl, res_ld (ld25 (B0.1) (B3.1))⟩, (by kernel_rfl), trivial⟩ ?_)));exact ⟨_, _, _, _, _, rfl, ResR.bad (fun q => by rw [Bv] at q; cases q.2.2), hE⟩
theorem Merge_o {w1 w2 : World} {c1 c2 : Int} {a1 a2 : Option Addr} {n1 n2 : Nat} {l1 l2 : List Rec} (k1 k2 : Nat) (w : World) (H1 : RecsAt w1 a1 n1 l1) (e1 : Ext w1 w) (H2 : RecsAt w2 a2 n2 l2) (e2 : Ext w2 w) (hRl : RootAt w) : Calls Tryz.prog 26 #[.agg #[.int .i64 c1, .slice a1 n1 k1], .agg #[.int .i64 c2, .slice a2 n2 k2]] w fun e w' => ∃ c' a' n' k' er, e = .returned (.tuple #[.agg #[.int .i64 c', .slice a' n' k'], .int .i64 er]) ∧ OptR w.heap.size w' c1 (Rep.mergeF c1 l1 c2 l2) c' a' n' k' er ∧ Ext w w' :=
 (Merge_c k1 k2 w H1 e1 H2 e2 hRl).mono fun _ _ ⟨c', a', n', k', er, he, hR, hE⟩ => ⟨c', a', n', k', er, he, hR.opt (mergeP_opt (by rw [H1.len, H2.len])) mergeF_bad, hE⟩
theorem Merge_y {w1 w2 : World} {c1 c2 : Int} {a1 a2 : Option Addr} {n1 n2 : Nat} {l1 l2 : List Rec} {l' : List Rec} (k1 k2 : Nat) (w : World) (H1 : RecsAt w1 a1 n1 l1) (e1 : Ext w1 w) (H2 : RecsAt w2 a2 n2 l2) (e2 : Ext w2 w) (hRl : RootAt w) (ho : Rep.mergeF c1 l1 c2 l2 = some l') : Calls Tryz.prog 26 #[.agg #[.int .i64 c1, .slice a1 n1 k1], .agg #[.int .i64 c2, .slice a2 n2 k2]] w fun e w' => ∃ a' n' k', e = .returned (.tuple #[.agg #[.int .i64 c1, .slice a' n' k'], .int .i64 0]) ∧ RecsAt w' a' n' l' ∧ n' ≤ k' ∧ (∀ ad, a' = some ad → w.heap.size ≤ ad.block) ∧ Ext w w' :=
 (Merge_o k1 k2 w H1 e1 H2 e2 hRl).mono fun _ _ ⟨c', a', n', k', er, he, hO, hE⟩ => by
  rw [ho] at hO
  obtain ⟨rfl, rfl, h1, h2, h3⟩ := hO.y
  exact ⟨a', n', k', he, h1, h2, h3, hE⟩
theorem Merge_n {w1 w2 : World} {c1 c2 : Int} {a1 a2 : Option Addr} {n1 n2 : Nat} {l1 l2 : List Rec} (k1 k2 : Nat) (w : World) (H1 : RecsAt w1 a1 n1 l1) (e1 : Ext w1 w) (H2 : RecsAt w2 a2 n2 l2) (e2 : Ext w2 w) (hRl : RootAt w) (ho : Rep.mergeF c1 l1 c2 l2 = none) : Calls Tryz.prog 26 #[.agg #[.int .i64 c1, .slice a1 n1 k1], .agg #[.int .i64 c2, .slice a2 n2 k2]] w fun e w' => e = .returned (.tuple #[.agg #[.int .i64 0, .slice none 0 0], .int .i64 350]) ∧ Ext w w' :=
 (Merge_o k1 k2 w H1 e1 H2 e2 hRl).mono fun _ _ ⟨c', a', n', k', er, he, hO, hE⟩ => by
  rw [ho] at hO
  obtain ⟨rfl, rfl, rfl, rfl, rfl⟩ := hO.n
  exact ⟨he, hE⟩
theorem Add_o {w0 : World} {c : Int} {a : Option Addr} {n : Nat} {l : List Rec} (k : Nat) (tt kk : Int) (xx : ByteArray) (w : World) (H : RecsAt w0 a n l) (e0 : Ext w0 w) (hRl : RootAt w) : Calls Tryz.prog 18 #[.agg #[.int .i64 c, .slice a n k], .int .i64 tt, .int .i64 kk, .string xx] w fun e w' => ∃ c' a' n' k' er, e = .returned (.tuple #[.agg #[.int .i64 c', .slice a' n' k'], .int .i64 er]) ∧ OptR w.heap.size w' c (Rep.addF c l (⟨0, 0, tt, -1, 0, kk, xx⟩ : Rec)) c' a' n' k' er ∧ Ext w w' :=
 (Add_c k tt kk xx w H e0 hRl).mono fun _ _ ⟨c', a', n', k', er, he, hR, hE⟩ => ⟨c', a', n', k', er, he, hR.opt (putP_opt H.len) addF_bad, hE⟩
theorem Add_y {w0 : World} {c : Int} {a : Option Addr} {n : Nat} {l : List Rec} {l' : List Rec} (k : Nat) (tt kk : Int) (xx : ByteArray) (w : World) (H : RecsAt w0 a n l) (e0 : Ext w0 w) (hRl : RootAt w) (ho : Rep.addF c l (⟨0, 0, tt, -1, 0, kk, xx⟩ : Rec) = some l') : Calls Tryz.prog 18 #[.agg #[.int .i64 c, .slice a n k], .int .i64 tt, .int .i64 kk, .string xx] w fun e w' => ∃ a' n' k', e = .returned (.tuple #[.agg #[.int .i64 c, .slice a' n' k'], .int .i64 0]) ∧ RecsAt w' a' n' l' ∧ n' ≤ k' ∧ (∀ ad, a' = some ad → w.heap.size ≤ ad.block) ∧ Ext w w' :=
 (Add_o k tt kk xx w H e0 hRl).mono fun _ _ ⟨c', a', n', k', er, he, hO, hE⟩ => by
  rw [ho] at hO
  obtain ⟨rfl, rfl, h1, h2, h3⟩ := hO.y
  exact ⟨a', n', k', he, h1, h2, h3, hE⟩
theorem corr_opt {c : Int} {l : List Rec} {lo n : Nat} {w' : World} {tt cc nn kk : Int} {xx : ByteArray} {c' : Int} {a' : Option Addr} {n' k' : Nat} {er : Int} (hn : l.length = n) (h : ResR lo w' c (PutP c l (⟨0, 0, tt, cc, nn, kk, xx⟩ : Rec) n) ((cc = -1 ∧ nn = 0) ∨ Rep.validB c l = false) c' a' n' k' er) (hz : (cc = -1 ∧ nn = 0) → er = 350) : OptR lo w' c (Rep.corrF c l (⟨0, 0, tt, cc, nn, kk, xx⟩ : Rec)) c' a' n' k' er := by
  by_cases hA : cc = -1 ∧ nn = 0
  · have e9 := hz hA
    have hnone : Rep.corrF c l (⟨0, 0, tt, cc, nn, kk, xx⟩ : Rec) = none := if_pos hA
    rcases h with ⟨h1, _⟩ | ⟨h1, h2, h3, h4, h5, _⟩
    · omega
    · exact .inr ⟨hnone, h1, h2, h3, h4, h5⟩
  · rw [show Rep.corrF c l (⟨0, 0, tt, cc, nn, kk, xx⟩ : Rec) = Rep.addF c l (⟨0, 0, tt, cc, nn, kk, xx⟩ : Rec) from if_neg hA]
    exact h.opt (putP_opt hn) fun q => q.elim (fun z => absurd z hA) addF_bad
theorem Correct_o {w0 : World} {c : Int} {a : Option Addr} {n : Nat} {l : List Rec} (k : Nat) (tt cc nn kk : Int) (xx : ByteArray) (w : World) (H : RecsAt w0 a n l) (e0 : Ext w0 w) (hRl : RootAt w) : Calls Tryz.prog 22 #[.agg #[.int .i64 c, .slice a n k], .int .i64 tt, .int .i64 cc, .int .i64 nn, .int .i64 kk, .string xx] w fun e w' => ∃ c' a' n' k' er, e = .returned (.tuple #[.agg #[.int .i64 c', .slice a' n' k'], .int .i64 er]) ∧ OptR w.heap.size w' c (Rep.corrF c l (⟨0, 0, tt, cc, nn, kk, xx⟩ : Rec)) c' a' n' k' er ∧ Ext w w' :=
 (Correct_c k tt cc nn kk xx w H e0 hRl).mono fun _ _ ⟨c', a', n', k', er, he, hR, hz, hE⟩ => ⟨c', a', n', k', er, he, corr_opt H.len hR hz, hE⟩
theorem Correct_y {w0 : World} {c : Int} {a : Option Addr} {n : Nat} {l : List Rec} {l' : List Rec} (k : Nat) (tt cc nn kk : Int) (xx : ByteArray) (w : World) (H : RecsAt w0 a n l) (e0 : Ext w0 w) (hRl : RootAt w) (ho : Rep.corrF c l (⟨0, 0, tt, cc, nn, kk, xx⟩ : Rec) = some l') : Calls Tryz.prog 22 #[.agg #[.int .i64 c, .slice a n k], .int .i64 tt, .int .i64 cc, .int .i64 nn, .int .i64 kk, .string xx] w fun e w' => ∃ a' n' k', e = .returned (.tuple #[.agg #[.int .i64 c, .slice a' n' k'], .int .i64 0]) ∧ RecsAt w' a' n' l' ∧ n' ≤ k' ∧ (∀ ad, a' = some ad → w.heap.size ≤ ad.block) ∧ Ext w w' :=
 (Correct_o k tt cc nn kk xx w H e0 hRl).mono fun _ _ ⟨c', a', n', k', er, he, hO, hE⟩ => by
  rw [ho] at hO
  obtain ⟨rfl, rfl, h1, h2, h3⟩ := hO.y
  exact ⟨a', n', k', he, h1, h2, h3, hE⟩
theorem New_y {c : Int} (w : World) (hc : 0 ≤ c ∧ c ≤ 15) (hRl : RootAt w) : Calls Tryz.prog 33 #[.int .i64 c] w fun e w' => e = .returned (.tuple #[.agg #[.int .i64 c, .slice none 0 0], .int .i64 0]) ∧ Ext w w' :=
 (New_c c w hRl).mono fun _ _ ⟨c', a', n', k', er, he, hR, hE⟩ => by
  rcases hR with ⟨_, rfl, rfl, rfl, rfl, rfl⟩ | ⟨h, _⟩
  · exact ⟨he, hE⟩
  · rw [Rep.valid_iff.2 ⟨hc, Nat.zero_le _, Rep.Vd.nil⟩] at h; cases h
theorem New_n {c : Int} (w : World) (hc : ¬ (0 ≤ c ∧ c ≤ 15)) (hRl : RootAt w) : Calls Tryz.prog 33 #[.int .i64 c] w fun e w' => e = .returned (.tuple #[.agg #[.int .i64 0, .slice none 0 0], .int .i64 350]) ∧ Ext w w' :=
 (New_c c w hRl).mono fun _ _ ⟨c', a', n', k', er, he, hR, hE⟩ => by
  rcases hR with ⟨h, _⟩ | ⟨_, rfl, rfl, rfl, rfl, rfl⟩
  · exact absurd (Rep.valid_iff.1 h).1 hc
  · exact ⟨he, hE⟩
end Go.Proofs.YtfmoabgjaclkpaaGreatDoor

namespace Go.Proofs.YtfmoabgjaclkpaaGreatDoor
open Go.RowKit
theorem own_app1h {α : Type} {R : Rep α} {P : Program} {t ty e : TypeId} {z : Value} {size bytes : Nat} (E : ElemT P t e z size bytes) {n₀ : Nat} {v : Value} {w : World} {l : List α} (h : OwnL R n₀ e size v w l) (hn : n₀ ≤ w.heap.size) {k : Nat} (hl : l.length = k)
    {O c : Nat} {x : α} {d : List Value} {F : List Nat} (hsz : d.length = size) (hcell : ∀ j u, d[j]? = some u → w.cell? ⟨O, j, none⟩ = some u) (h1 : ∀ u ∈ d, u.oneCell' = true)
    (hR : R.rel w d x F) (hF : ∀ b ∈ F, v.ownBlock ≠ some b) (hb : (k + 1) * bytes ≤ 140737488355328) (hmax : k + 1 ≤ 9223372036854775807) :
    ∃ g cap w', (Builtin.append_ #[t, t] ty #[v, .slice (some ⟨O, 0, none⟩) 1 c]).run P w = .ok (.slice (some ⟨g, 0, none⟩) (k + 1) cap) w' ∧ OwnL R n₀ e size (.slice (some ⟨g, 0, none⟩) (k + 1) cap) w' (l ++ [x]) ∧ Grew n₀ w w' ∧ w.grownBy w' v.ownBlock ∧ (v.ownBlock = some g ∨ w.heap.size ≤ g) := by
  subst hl
  obtain ⟨cs, h2, h3, h4, h5⟩ := h
  obtain ⟨i, hi, hz0, hz1, hz2⟩ := info_parts E.info
  obtain ⟨v', w', hrun, hown, hg, hiff, hat⟩ := run_append_own_at (P := P) w n₀ t ty e i z size bytes E.under hi hz0 hz1 hz2 E.zs E.pos v l.length cs.flatten h4 ⟨O, 0, none⟩ 1 c d (by rw [hsz, Nat.one_mul]) (fun j u hj => by
    rw [Addr.add_mid, Nat.zero_add]; exact hcell j u hj) h1 (by unfold maxLen; exact hmax) hb hn
  have hnb : ∀ F : List Nat, (∀ b ∈ F, v.ownBlock ≠ some b) → (∀ b ∈ F, b < w.heap.size) → (∀ b ∈ F, v'.ownBlock ≠ some b) ∧ ∀ b ∈ F, ∀ o u, w.cell? ⟨b, o, none⟩ = some u → w'.cell? ⟨b, o, none⟩ = some u := by
    intro F hF hFl
    refine ⟨fun b hbF hv' => ?_, fun b hbF o u hu => hg.cell hu (fun e => hF b hbF e.symm)⟩
    rcases hat with e1 | e1
    · exact hF b hbF (by rw [← e1]; exact hv')
    · rw [e1] at hv'; cases hv'; have := hFl _ hbF; omega
  have hO : OwnL R n₀ e size v' w' (l ++ [x]) := ⟨cs ++ [d], by simp [h2], by
      intro y hy
      rcases List.mem_append.1 hy with hy | hy
      · exact h3 y hy
      · rw [List.mem_singleton.1 hy]; exact hsz, by rw [List.flatten_append, List.length_append]; simpa using hown, by
      intro j y c hx hc
      rcases Nat.lt_or_ge j l.length with hj | hj
      · rw [List.getElem?_append_left hj] at hx
        rw [List.getElem?_append_left (by rw [h2]; exact hj)] at hc
        obtain ⟨F, q1, q2⟩ := h5 j y c hx hc
        obtain ⟨k1, k2⟩ := hnb F q2 (R.lt q1)
        exact ⟨F, R.keep q1 k2, k1⟩
      · rw [List.getElem?_append_right hj] at hx
        rw [List.getElem?_append_right (by rw [h2]; exact hj), h2] at hc
        match hj' : j - l.length, hx, hc with
        | 0, hx, hc =>
          simp at hx hc; subst hx hc
          obtain ⟨k1, k2⟩ := hnb F hF (R.lt hR)
          exact ⟨F, R.keep hR k2, k1⟩
        | _ + 1, hx, _ => simp at hx⟩
  rcases hown.2 with ⟨q, _⟩ | ⟨g, cap, cur, q, _, _, q3, _⟩
  · have := (hiff.1 q).2; omega
  · subst q
    exact ⟨g, cap, w', hrun, hO, ⟨hg.size, fun U hU hUn => Ext.own' hU h4 hUn hg⟩, hg, by
      rcases hat with e1 | e1
      · exact .inl e1.symm
      · exact .inr (Nat.le_of_eq (Option.some.inj e1).symm)⟩
theorem OwnL.grown {α : Type} {R : Rep α} {n₀ : Nat} {e : TypeId} {size : Nat} {v : Value} {w w' : World} {l : List α} {r : Option Nat} (h : OwnL R n₀ e size v w l) (hg : w.grownBy w' r) (ha : (v.ownBlock = none ∨ v.ownBlock ≠ r) ∧ ∀ w c x F, R.rel w c x F → F = []) : OwnL R n₀ e size v w' l := by
 obtain ⟨cs, q1, q2, q3, q4⟩ := h
 exact ⟨cs, q1, q2, q3.kept hg ha.1, fun j x c hx hc => by
  obtain ⟨F, k1, k2⟩ := q4 j x c hx hc
  have := ha.2 _ _ _ _ k1
  subst this
  exact ⟨[], R.keep k1 (fun b hb => by cases hb), fun b hb => by cases hb⟩⟩
abbrev Slc := Option Addr × Nat × Nat
def slV (p : Slc) : Value := .slice p.1 p.2.1 p.2.2
theorem zero_slc (w : World) : (zeroValue 23).run Tryz.prog w = .ok (slV (none, 0, 0)) w := by kernel_rfl
structure Chg (lo B : Nat) (w X : World) : Prop where
 os : X.os = w.os
 tape : X.tape = w.tape
 output : X.output = w.output
 size : w.heap.size ≤ X.heap.size
 heap : ∀ k, k < lo → k ≠ B → k < w.heap.size → X.heap[k]? = w.heap[k]?
theorem Chg.ext {lo B : Nat} {U w X : World} (h : Chg lo B w X) (e : Ext U w) (h1 : U.heap.size ≤ lo) (h2 : U.heap.size ≤ B) : Ext U X :=
 ⟨h.os.trans e.os, h.tape.trans e.tape, h.output.trans e.output, T e.size h.size, fun k hk => (h.heap k (by omega) (by omega) (Nat.lt_of_lt_of_le hk e.size)).trans (e.block k hk)⟩
theorem Chg.cell {lo B b o : Nat} {w X : World} (h : Chg lo B w X) (h1 : b < lo) (h2 : b ≠ B) {v : Value} (hv : w.cell? ⟨b, o, none⟩ = some v) : X.cell? ⟨b, o, none⟩ = some v :=
 (World.cell?_of_block (h.heap b h1 h2 (World.block_lt_of_cell? _ _ hv))).trans hv
theorem Chg.box {lo B b o : Nat} {w X : World} (h : Chg lo B w X) (h1 : b < lo) (h2 : b ≠ B) {v : Value} (hv : BoxAt w b o v) : BoxAt X b o v :=
 ⟨h.cell h1 h2 hv.1, (World.frozen?_of_block (h.heap b h1 h2 hv.lt)).trans hv.2⟩
theorem Chg.recsW {lo B b : Nat} {w X : World} {l : List Rec} (h : Chg lo B w X) (h1 : b < lo) (h2 : b ≠ B) (hv : RecsW w b l) : RecsW X b l := hv.map fun _ _ q => h.box h1 h2 q
theorem Chg.map {κ β : Type} {kv : κ → Value} {vv : β → Value} {l : List (κ × β)} {lo B b : Nat} {w X : World} (h : Chg lo B w X) (h1 : b < lo) (h2 : b ≠ B) (hv : MapS kv vv w b l) : MapS kv vv X b l := hv.block (h.heap b h1 h2 hv.lt)
theorem Rep.recR_noF : ∀ w c x F, recR.rel w c x F → F = [] := fun _ _ _ _ h => h.2
structure FamsS (w : World) (lo B : Nat) (F : Int × Int → List Rec) : Prop where
 out : ∃ L : List ((Int × Int) × Slc), MapS keyV slV w B L ∧ (L.map Prod.fst).Nodup ∧
  (∀ p ∈ L, OwnL recR lo 49 7 (slV p.2) w (F p.1) ∧ (F p.1).length = p.2.2.1 ∧ 0 < p.2.2.1 ∧ p.2.2.1 ≤ p.2.2.2) ∧
  (∀ p ∈ L, ∀ q ∈ L, p.1 ≠ q.1 → ∀ b, (slV p.2).ownBlock = some b → (slV q.2).ownBlock ≠ some b) ∧ ∀ k, k ∉ L.map Prod.fst → F k = []
theorem FamsS.lt {w : World} {lo B : Nat} {F : Int × Int → List Rec} (h : FamsS w lo B F) : B < w.heap.size := by
 obtain ⟨L, h1, _⟩ := h.out; exact h1.lt
theorem FamsS.ext {w X : World} {lo B : Nat} {F : Int × Int → List Rec} (h : FamsS w lo B F) (e : Ext w X) : FamsS X lo B F := by
 obtain ⟨L, h1, h2, h3, h4, h5⟩ := h.out
 exact ⟨L, h1.ext e, h2, fun p hp => ⟨(h3 p hp).1.ext e, (h3 p hp).2⟩, h4, h5⟩
theorem FamsS.congr {w : World} {lo B : Nat} {F G : Int × Int → List Rec} (h : FamsS w lo B F) (e : ∀ k, F k = G k) : FamsS w lo B G := (funext e : F = G) ▸ h
theorem FamsS.nil {w : World} {lo B : Nat} (h : MapS keyV slV w B []) : FamsS w lo B fun _ => [] := ⟨[], h, by simp, (fun p hp => by cases hp), (fun p hp => by cases hp), fun _ _ => rfl⟩
theorem getM_none' {κ β : Type} [DecidableEq κ] {L : List (κ × β)} (hn : (L.map Prod.fst).Nodup) {x : κ} (h : getM x L = none) : x ∉ L.map Prod.fst := fun hx => by
 obtain ⟨⟨y, u⟩, hp, rfl⟩ := List.mem_map.1 hx
 rw [getM_of_mem hn hp] at h; cases h
theorem turnsM_chg {lo B : Nat} {w X : World} (h : TurnsM B w X) : Chg lo B w X := ⟨h.os, h.tape, h.output, Nat.le_of_eq h.size.symm, fun k _ hk _ => h.heap' k hk⟩
theorem Chg.trans {lo B : Nat} {w X Y : World} (h : Chg lo B w X) (k : Chg lo B X Y) : Chg lo B w Y :=
 ⟨k.os.trans h.os, k.tape.trans h.tape, k.output.trans h.output, T h.size k.size, fun i hi hB hl => (k.heap i hi hB (Nat.lt_of_lt_of_le hl h.size)).trans (h.heap i hi hB hl)⟩
theorem cellsR7 {w : World} {O : Nat} {x : Rec} (h : RecB w O 0 [x]) : ∀ j u, x.enc[j]? = some u → w.cell? ⟨O, j, none⟩ = some u := fun j u hj => by
 obtain ⟨h0, h1, h2, h3, h4, h5, h6⟩ := h.at_ 0 x rfl
 match j, hj with
 | 0, hj => simp [Rec.enc] at hj; subst hj; exact h0
 | 1, hj => simp [Rec.enc] at hj; subst hj; exact h1
 | 2, hj => simp [Rec.enc] at hj; subst hj; exact h2
 | 3, hj => simp [Rec.enc] at hj; subst hj; exact h3
 | 4, hj => simp [Rec.enc] at hj; subst hj; exact h4
 | 5, hj => simp [Rec.enc] at hj; subst hj; exact h5
 | 6, hj => simp [Rec.enc] at hj; subst hj; exact h6
 | _ + 7, hj => simp [Rec.enc] at hj
theorem cells7 {w : World} {O : Nat} {u0 u1 u2 u3 u4 u5 u6 : Value} (h0 : w.cell? ⟨O, 0, none⟩ = some u0) (h1 : w.cell? ⟨O, 1, none⟩ = some u1) (h2 : w.cell? ⟨O, 2, none⟩ = some u2) (h3 : w.cell? ⟨O, 3, none⟩ = some u3) (h4 : w.cell? ⟨O, 4, none⟩ = some u4) (h5 : w.cell? ⟨O, 5, none⟩ = some u5) (h6 : w.cell? ⟨O, 6, none⟩ = some u6) : ∀ j u, [u0, u1, u2, u3, u4, u5, u6][j]? = some u → w.cell? ⟨O, j, none⟩ = some u
 | 0, u, hj => by simp at hj; subst hj; exact h0
 | 1, u, hj => by simp at hj; subst hj; exact h1
 | 2, u, hj => by simp at hj; subst hj; exact h2
 | 3, u, hj => by simp at hj; subst hj; exact h3
 | 4, u, hj => by simp at hj; subst hj; exact h4
 | 5, u, hj => by simp at hj; subst hj; exact h5
 | 6, u, hj => by simp at hj; subst hj; exact h6
 | _ + 7, u, hj => by simp at hj
theorem fam_step {w : World} {lo B O : Nat} {F : Int × Int → List Rec} (h : FamsS w lo B F) (hB : B < lo) (hlo : lo ≤ w.heap.size) (k : Int × Int) (x : Rec) (hx : RecB w O 0 [x]) (hn : (F k).length ≤ 1000) :
    ∃ (X1 : World) (st : Nat) (s0 : Slc), (Instr.mapEntry 67 (.map (some B)) (keyV k)).run Tryz.prog w = .ok (.tuple #[slV s0, goInt st]) X1 ∧
    ∃ (X2 : World) (s1 : Slc), (Builtin.append_ #[23, 23] 23 #[slV s0, .slice (some ⟨O, 0, none⟩) 1 1]).run Tryz.prog X1 = .ok (slV s1) X2 ∧
    ∃ X3, (Instr.entryStore 67 (.map (some B)) (goInt st) (slV s1)).run Tryz.prog X2 = .ok () X3 ∧ FamsS X3 lo B (fun q => if k = q then F q ++ [x] else F q) ∧ Chg lo B w X3 := by
  obtain ⟨L, hM, hnd, hown, hdis, hno⟩ := h.out
  obtain ⟨X1, j, st, l', Ba, B3, Bb, ⟨u, hu⟩, hset⟩ := run_entryM (P := Tryz.prog) Tryz.underlying67 hM key_law k (z := (none, 0, 0)) (zero_slc w)
  have B0 := Bb.mv0
  have Bj : RecB X1 O 0 [x] := ⟨fun i y hy => by
    obtain ⟨h0, h1, h2, h3, h4, h5, h6⟩ := hx.at_ i y hy
    exact ⟨B0.cell h0, B0.cell h1, B0.cell h2, B0.cell h3, B0.cell h4, B0.cell h5, B0.cell h6⟩⟩
  -- what was there
  have Bi : ∃ n c a, (getM k L).getD (none, 0, 0) = (a, n, c) ∧ OwnL recR lo 49 7 (.slice a n c) X1 (F k) ∧ (F k).length = n ∧ n ≤ c ∧ (∀ p ∈ L, p.1 ≠ k → ∀ b, (slV p.2).ownBlock = some b → (Value.slice a n c).ownBlock ≠ some b) := by
    cases hg : getM k L with
    | none =>
      refine ⟨0, 0, none, rfl, ?_, by rw [hno k (getM_none' hnd hg)]; rfl, Nat.le_refl _, fun p _ _ b _ e => by cases e⟩
      rw [hno k (getM_none' hnd hg)]; exact OwnL.nil _ _ _ _ _
    | some s =>
      have hp := getM_mem hg
      obtain ⟨k1, k2, k3, k4⟩ := hown _ hp
      exact ⟨s.2.1, s.2.2, s.1, rfl, B0.own k1, k2, k4, fun p hp' hne b hb => hdis p hp' (k, s) hp hne b hb⟩
  obtain ⟨n, c, a, e0, B7, hln, hnc, hdk⟩ := Bi
  rw [e0] at Ba
  have B2 : lo ≤ X1.heap.size := T hlo B0.size
  obtain ⟨g, cap, X2, Bg, B8, Bk, hgb, hsame⟩ := own_app1h (P := Tryz.prog) (ty := 23) recT B7 B2 (k := n) hln (O := O) (c := 1) (x := x) (d := x.enc) (F := []) rfl (cellsR7 Bj) (rec_one x) ⟨rfl, rfl⟩ (fun b hb => by cases hb) (by omega) (by omega)
  have hab : ∀ b, (Value.slice a n c).ownBlock = some b → lo ≤ b := by obtain ⟨_, _, _, hr, _⟩ := B7; exact fun b hb => (hr.lt b hb).1
  have hBr : some B ≠ (Value.slice a n c).ownBlock := fun e => by have := hab B e.symm; omega
  have Be : MapE keyV slV X2 B l' j st := B3.block (hgb.block B B3.lt hBr)
  obtain ⟨X3, Bh, Bf, Bc⟩ := run_entryS (P := Tryz.prog) (t := 67) Be k (some ⟨g, 0, none⟩, n + 1, cap) hu rfl
  have B4 := Bc.mv0
  have hcap : n + 1 ≤ cap := by
    obtain ⟨_, _, _, hr, _⟩ := B8
    rcases hr.2 with ⟨q, _⟩ | ⟨g', cap', cur, q, _, _, hc, _⟩
    · cases q
    · injection q with q1 q2 q3; subst q3; have : (F k ++ [x]).length = n + 1 := by rw [List.length_append, hln]; rfl
      omega
  refine ⟨X1, st, (a, n, c), Ba, X2, (some ⟨g, 0, none⟩, n + 1, cap), Bg, X3, Bh, ⟨updM k (some ⟨g, 0, none⟩, n + 1, cap) L, by rw [← hset]; exact Bf, nodup_updM hnd, ?_, ?_, fun q hq => ?_⟩, ?_⟩
  · intro p hp
    have hg := getM_of_mem (nodup_updM hnd) hp
    rw [getM_updM] at hg
    by_cases e : k = p.1
    · rw [if_pos e] at hg; injection hg with hg
      rw [← hg, ← e]
      show OwnL recR lo 49 7 (.slice (some ⟨g, 0, none⟩) (n + 1) cap) X3 (if k = k then F k ++ [x] else F k) ∧ (if k = k then F k ++ [x] else F k).length = n + 1 ∧ 0 < n + 1 ∧ n + 1 ≤ cap
      rw [if_pos rfl]
      exact ⟨B4.own B8, by rw [List.length_append, hln]; rfl, by omega, hcap⟩
    · rw [if_neg e] at hg
      have hp' := getM_mem hg
      show OwnL recR lo 49 7 (slV p.2) X3 (if k = p.1 then F p.1 ++ [x] else F p.1) ∧ (if k = p.1 then F p.1 ++ [x] else F p.1).length = p.2.2.1 ∧ _
      rw [if_neg e]
      obtain ⟨k1, k2⟩ := hown p hp'
      exact ⟨B4.own ((B0.own k1).grown hgb ⟨.inr fun q => by
        cases hb : (slV p.2).ownBlock with
        | none =>
          have : p.2.2.1 = 0 := by
            obtain ⟨_, _, _, hr, _⟩ := k1
            rcases hr.2 with ⟨z, _⟩ | ⟨g', cap', cur, z, _⟩
            · unfold slV at z; injection z
            · rw [z] at hb; cases hb
          omega
        | some b => exact hdk p hp' (fun z => e z.symm) b hb (by rw [← q]; exact hb), Rep.recR_noF⟩), k2⟩
  · have hnew : ∀ p ∈ L, p.1 ≠ k → ∀ b, (slV p.2).ownBlock = some b → b ≠ g := fun p hp hne b hb e => by
      subst e
      rcases hsame with q | q
      · exact hdk p hp hne b hb q
      · have := (B0.own (hown p hp).1).lt b hb; omega
    have hin : ∀ p ∈ updM k (some ⟨g, 0, none⟩, n + 1, cap) L, p = (k, (some ⟨g, 0, none⟩, n + 1, cap)) ∨ p ∈ L ∧ p.1 ≠ k := fun p hp => by
      have hg := getM_of_mem (nodup_updM hnd) hp
      rw [getM_updM] at hg
      by_cases e : k = p.1
      · rw [if_pos e] at hg; injection hg with hg; exact .inl (Prod.ext e.symm hg.symm)
      · rw [if_neg e] at hg; exact .inr ⟨getM_mem hg, fun z => e z.symm⟩
    intro p hp q hq hne b hb e
    rcases hin p hp with rfl | ⟨p1, p2⟩ <;> rcases hin q hq with rfl | ⟨q1, q2⟩
    · exact hne rfl
    · have hb' : some g = some b := hb
      injection hb' with hb'; exact hnew q q1 q2 b e hb'.symm
    · have e' : some g = some b := e
      injection e' with e'; exact hnew p p1 p2 b hb e'.symm
    · exact hdis p p1 q q1 hne b hb e
  · have hk : k ≠ q ∧ q ∉ L.map Prod.fst := ⟨fun e => hq (keys_updM.2 (.inl e.symm)), fun e => hq (keys_updM.2 (.inr e))⟩
    show (if k = q then F q ++ [x] else F q) = []
    rw [if_neg hk.1]; exact hno q hk.2
  · refine (turnsM_chg Bb).trans (Chg.trans ⟨hgb.os, hgb.tape, hgb.output, hgb.size, fun i hi _ hl => hgb.block i hl fun e => ?_⟩ (turnsM_chg Bc))
    have := hab i e.symm; omega
end Go.Proofs.YtfmoabgjaclkpaaGreatDoor

namespace Go.Proofs.YtfmoabgjaclkpaaGreatDoor
set_option maxRecDepth 1000000
set_option maxHeartbeats 4000000
set_option synthInstance.maxHeartbeats 0
set_option synthInstance.maxSize 9999
open Go.RowKit
def Tz39_0 : List Row := [(some 5, [3], []), (some 6, [5], [0]), (some 7, [], []), (some 8, [6, 7], [1, 2])]
namespace Rep
theorem sortB_eq {l l' : List Rec} (hd : keysD l) (hp : l'.Perm l) (hs : l'.Pairwise fun x y => ¬ ltB y x) : l' = sortB l := by
 refine uniqB ?_ (sortB_sorted hd) fun x => by rw [hp.mem_iff, sortB_mem]
 have hn : l'.Nodup := hp.nodup_iff.2 (hd.imp fun {x y} h e => h (by rw [e]))
 refine List.Pairwise.imp_of_mem (fun {x y} hx hy h => ?_) (hs.and hn)
 rcases ltB_tri x y with q | q | q
 · exact q
 · exact absurd (hd.inj (hp.mem_iff.1 hx) (hp.mem_iff.1 hy) q) h.2
 · exact absurd q h.1
theorem sortB_len {l : List Rec} (hd : keysD l) : (sortB l).length = l.length := by
 have h1 : (sortB l).Nodup := nodup_of ltB_irrefl (sortB_sorted hd)
 have h2 : l.Nodup := hd.imp fun {x y} h e => h (by rw [e])
 exact ((List.perm_ext_iff_of_nodup h1 h2).2 fun x => sortB_mem).length_eq
def famP (l : List Rec) (i : Nat) (k : Int × Int) : List Rec := ((sortB l).take i).filter fun x => decide ((rt l x).key = k)
theorem famP_zero (l : List Rec) (k : Int × Int) : famP l 0 k = [] := by unfold famP; rw [List.take_zero]; rfl
theorem famP_succ {l : List Rec} {i : Nat} (hi : i < (sortB l).length) (k : Int × Int) : famP l (i + 1) k = if (rt l (recN (sortB l) i)).key = k then famP l i k ++ [recN (sortB l) i] else famP l i k := by
 unfold famP
 rw [recN_take hi, List.filter_append]
 by_cases h : (rt l (recN (sortB l) i)).key = k
 · rw [if_pos h]; simp [h]
 · rw [if_neg h]; simp [h]
theorem famP_all {l : List Rec} {i : Nat} (hi : (sortB l).length ≤ i) (k : Int × Int) : famP l i k = famK l k := by unfold famP; rw [List.take_of_length_le hi]; rfl
theorem famP_len {l : List Rec} {i : Nat} (hl : i ≤ 1000) (k : Int × Int) : (famP l i k).length ≤ 1000 := by
 have h1 := List.length_filter_le (fun x => decide ((rt l x).key = k)) ((sortB l).take i)
 have h2 := List.length_take_le i (sortB l)
 exact T h1 (T h2 hl)
end Rep
theorem SortB_c {g n cap : Nat} {l : List Rec} (w : World) (hRc : RecsW w g l) (hl : l.length = n) (h0 : 0 < n) (hn : n ≤ 1000) (hd : Rep.keysD l) :
  Calls Tryz.prog 79 #[.slice (some ⟨g, 0, none⟩) n cap, .func (.func 46) #[] #[]] w fun e w' => e = .returned (.tuple #[]) ∧ RecsW w' g (Rep.sortB l) ∧ Wrote (fun k => k = g) w w' :=
 (SortBefore_c w hRc hl h0 hn).mono fun _ _ ⟨he, _l', h1, h2, h3, h4⟩ => ⟨he, Rep.sortB_eq hd h2 h3 ▸ h1, h4⟩
theorem Clone_p {w0 : World} {a : Option Addr} {n : Nat} {l : List Rec} (c : Nat) (w : World) (h : RecsAt w0 a n l) (e0 : Ext w0 w) (hn : n ≤ 1000000) (hp : 0 < n) :
  Calls Tryz.prog 66 #[.slice a n c] w fun e w' => ∃ g c', e = .returned (.slice (some ⟨g, 0, none⟩) n c') ∧ w.heap.size ≤ g ∧ RecsW w' g l ∧ n ≤ c' ∧ Ext w w' :=
 (Clone_c c w h e0 hn).mono fun _ _ ⟨a', c', he, h1, _, hk, hE⟩ => by
  obtain ⟨g, rfl, h2, h3⟩ := h1 hp
  exact ⟨g, c', he, h2, h3, hk, hE⟩
theorem Clone_0 {w0 : World} {a : Option Addr} {l : List Rec} (c : Nat) (w : World) (h : RecsAt w0 a 0 l) (e0 : Ext w0 w) :
  Calls Tryz.prog 66 #[.slice a 0 c] w fun e w' => ∃ a' c', e = .returned (.slice a' 0 c') ∧ (a' = none ∨ ∃ g, a' = some ⟨g, 0, none⟩) ∧ Ext w w' :=
 (Clone_c c w h e0 (Nat.zero_le _)).mono fun _ _ ⟨a', c', he, _, h1, _, hE⟩ => ⟨a', c', he, h1, hE⟩
theorem RecB.one {w : World} {O : Nat} {y : Rec} (h0 : w.cell? ⟨O, 0, none⟩ = some (.int .i64 y.c)) (h1 : w.cell? ⟨O, 1, none⟩ = some (.int .i64 y.n)) (h2 : w.cell? ⟨O, 2, none⟩ = some (.int .i64 y.t)) (h3 : w.cell? ⟨O, 3, none⟩ = some (.int .i64 y.o)) (h4 : w.cell? ⟨O, 4, none⟩ = some (.int .i64 y.w)) (h5 : w.cell? ⟨O, 5, none⟩ = some (.int .i64 y.k)) (h6 : w.cell? ⟨O, 6, none⟩ = some (.string y.x)) : RecB w O 0 [y] :=
 ⟨fun i x hx => by
  match i, hx with
  | 0, hx => simp at hx; subst hx; exact ⟨h0, h1, h2, h3, h4, h5, h6⟩
  | _ + 1, hx => simp at hx⟩
theorem root_c {w1 : World} {B : Nat} {l : List Rec} (x : Rec) (w : World) (hM : MapS keyV Rec.val w1 B (Rep.bookL l)) (e1 : Ext w1 w) (hv : Rep.Vd l) (hx : x ∈ l) (hRl : RootAt w) : Calls Tryz.prog 59 #[.map (some B), .agg #[iv x.c, iv x.n, iv x.t, iv x.o, iv x.w, iv x.k, .string x.x]] w fun e w' => e = .returned (.agg #[iv (Rep.rt l x).c, iv (Rep.rt l x).n]) ∧ Ext w w' := by
 replace hM := hM.ext e1;clear e1;have hBl := hM.lt;refine calls_cw 15 [(1, .agg #[iv x.c, iv x.n, iv x.t, iv x.o, iv x.w, iv x.k, .string x.x]), (0, .map (some B))] Tryz.func59 rfl Tryz.ntmps59 (by kernel_rfl) (by kernel_rfl) (fun L => ?_);have hE := Ext.refl w;refine zc (zp (pS (sw 49 #[iv x.c, iv x.n, iv x.t, iv x.o, iv x.w, iv x.k, .string x.x] ?_)));intro O1 X2 Bu C8 hb hbx;have ⟨Bf, Bg, Bh, Bi, Bj, Bk, Bm⟩ := bq7 hbx;replace hE := hE.trans hb;have C6 := hb.size;have Bn := Bf.lt;refine pS (sw 70 #[iv 0, iv 0] ?_);intro O5 X6 Be C9 hb hbx;have ⟨B0, B2⟩ := bq2 hbx;refine mv7 hb hE Bf Bg Bh Bi Bj Bk fun hE Bf Bg Bh Bi Bj Bk=>?_;replace Bm := Bm.x hb;have Ce := hb.size;have Cf := B0.lt;refine zn (zc (cw_block ?_));refine cw_loop [0, 3, 4] (fun ws' wr m => ∃ cur : Rec, ws' = [(0, .map (some B)), (3, pw O1 0), (4, pw O5 0)] ∧ m = Rep.dep l cur ∧ X6.heap.size ≤ wr.heap.size ∧ Ext w wr ∧ BoxAt wr O5 0 (iv 0) ∧ BoxAt wr O5 1 (iv 0) ∧ BoxAt wr O1 0 (iv cur.c) ∧ BoxAt wr O1 1 (iv cur.n) ∧ BoxAt wr O1 2 (iv cur.t) ∧ BoxAt wr O1 3 (iv cur.o) ∧ BoxAt wr O1 4 (iv cur.w) ∧ BoxAt wr O1 5 (iv cur.k) ∧ BoxAt wr O1 6 (.string cur.x) ∧ cur ∈ l ∧ Rep.rt l cur = Rep.rt l x) (ws0 := [(0, .map (some B)), (3, pw O1 0), (4, pw O5 0)]) (by kernel_rfl) _ ⟨x, rfl, rfl, Nat.le_refl _, hE, B0, B2, Bf, Bg, Bh, Bi, Bj, Bk, Bm, hx, rfl⟩ ?_;clear Bf Bg Bh Bi Bj Bk Bm B0 B2 hE;rintro Cg L ws Ch ⟨cur, rfl, rfl, C7, hE, B0, B2, B3, B4, B7, B8, Ba, Bb, Bc, hcm, hrt⟩
 by_cases hr : cur.o = -1 ∧ cur.w = 0
 ·
  refine zc (zc (dE Tz39_0 (fun w' => w'.cell? ⟨O1, 0, none⟩ = some (iv cur.c) ∧ w'.cell? ⟨O1, 1, none⟩ = some (iv cur.n) ∧ w'.cell? ⟨O1, 2, none⟩ = some (iv cur.t) ∧ w'.cell? ⟨O1, 3, none⟩ = some (iv cur.o) ∧ w'.cell? ⟨O1, 4, none⟩ = some (iv cur.w) ∧ w'.cell? ⟨O1, 5, none⟩ = some (iv cur.k) ∧ w'.cell? ⟨O1, 6, none⟩ = some (.string cur.x) ∧ w'.cell? ⟨0, 0, none⟩ = some (iv (-1 : Int)) ∧ w'.cell? ⟨0, 1, none⟩ = some (iv 0)) (⟨B3.1, B4.1, B7.1, B8.1, Ba.1, Bb.1, Bc.1, (hE.cell hRl.c0), (hE.cell hRl.c1)⟩) (fun ops Q Cc hb hL hR hK => ?_)));refine mv9 hb hE B0 B2 B3 B4 B7 B8 Ba Bb fun hE B0 B2 B3 B4 B7 B8 Ba Bb=>?_;replace Bc := Bc.x hb;have C2 := hb.size;have hS := A9 B3.1 B4.1 B7.1 B8.1 Ba.1 Bb.1 Bc.1 (hE.cell hRl.c0) (hE.cell hRl.c1);refine wM 0 (.agg #[iv cur.c, iv cur.n, iv cur.t, iv cur.o, iv cur.w, iv cur.k, .string cur.x]) hR (fun w hS => ld49 (hS.1) (hS.2.1) (hS.2.2.1) (hS.2.2.2.1) (hS.2.2.2.2.1) (hS.2.2.2.2.2.1) (hS.2.2.2.2.2.2.1)) hS ?_;refine wM 2 (.agg #[iv (-1 : Int), iv 0]) hR (fun w hS => ld70 (hS.2.2.2.2.2.2.2.1) (hS.2.2.2.2.2.2.2.2)) hS ?_;refine wC 1 85 #[.agg #[iv cur.c, iv cur.n, iv cur.t, iv cur.o, iv cur.w, iv cur.k, .string cur.x]] hR ((target_c cur _).mono ?_);rintro e Ci ⟨rfl, hb⟩;refine mv9 hb hE B0 B2 B3 B4 B7 B8 Ba Bb fun hE B0 B2 B3 B4 B7 B8 Ba Bb=>?_;replace Bc := Bc.x hb;have C3 := hb.size;have hS := A9 B3.1 B4.1 B7.1 B8.1 Ba.1 Bb.1 Bc.1 (hE.cell hRl.c0) (hE.cell hRl.c1);refine ⟨_, rfl, hS, ?_⟩;refine wL 3 (.bool false) hR (fun w _ => ex_binV (a := .agg #[iv cur.o, iv cur.w]) (b := .agg #[iv (-1 : Int), iv 0]) rfl (by kernel_rfl) (by kernel_rfl) (eqG_agg (by kernel_rfl)) (bin_nqv_t (key_eq _ _ _ _ _) hr)) hS ?_;refine we hL hR hK ?_;refine zq (zf ?_);refine cw_exit (qw_then_exit (qw_then_exit (qw_block_out (zq (zc (zp (pU (.agg #[iv cur.c, iv cur.n, iv cur.t, iv cur.o, iv cur.w, iv cur.k, .string cur.x]) (xl (ld49 (B3.1) (B4.1) (B7.1) (B8.1) (Ba.1) (Bb.1) (Bc.1))) ?_)))))));refine pS (sc 68 #[.agg #[iv cur.c, iv cur.n, iv cur.t, iv cur.o, iv cur.w, iv cur.k, .string cur.x]] ((keyOf_c cur _).mono ?_));rintro e Ca ⟨rfl, hb⟩;refine mv9 hb hE B0 B2 B3 B4 B7 B8 Ba Bb fun hE B0 B2 B3 B4 B7 B8 Ba Bb=>?_;replace Bc := Bc.x hb;have C4 := hb.size;refine ⟨_, rfl, pP (sn_set2 (O := O5) (j := 0) (v := iv cur.c) (v' := iv cur.n) (xt (pw O5 0) (.agg #[iv cur.c, iv cur.n]) (st70 B0.1 B0.2 B2.1 B2.2)) B0 B2 ?_)⟩;intro C0 ho B0 B2 hk;replace hE := ho.ext hE (T C6 (Nat.le_of_eq Be));replace B3 := ho.box (by omega) B3;replace B4 := ho.box (by omega) B4;replace B7 := ho.box (by omega) B7;replace B8 := ho.box (by omega) B8;replace Ba := ho.box (by omega) Ba;replace Bb := ho.box (by omega) Bb;replace Bc := ho.box (by omega) Bc;have C5 := Nat.le_of_eq ho.size.symm;clear ho hk;refine zn (cw_ret (qw_ret [.agg #[iv cur.c, iv cur.n]] rfl ⟨⟨_, by kernel_rfl, res_ld (ld70 (B0.1) (B2.1))⟩, trivial⟩ ?_));have h9 : Rep.rt l x = cur := hrt.symm.trans (Rep.rt_root hr);rw [h9];exact ⟨rfl, hE⟩
 ·
  obtain ⟨y, hf, hy, hlt⟩ := hv.tgt hcm hr;have hg : getM (cur.o, cur.w) (Rep.bookL l) = some y := (Rep.book_get hv.keys _).trans hf;have hdp := Rep.dep_lt hy hlt;refine zc (zc (dE Tz39_0 (fun w' => w'.cell? ⟨O1, 0, none⟩ = some (iv cur.c) ∧ w'.cell? ⟨O1, 1, none⟩ = some (iv cur.n) ∧ w'.cell? ⟨O1, 2, none⟩ = some (iv cur.t) ∧ w'.cell? ⟨O1, 3, none⟩ = some (iv cur.o) ∧ w'.cell? ⟨O1, 4, none⟩ = some (iv cur.w) ∧ w'.cell? ⟨O1, 5, none⟩ = some (iv cur.k) ∧ w'.cell? ⟨O1, 6, none⟩ = some (.string cur.x) ∧ w'.cell? ⟨0, 0, none⟩ = some (iv (-1 : Int)) ∧ w'.cell? ⟨0, 1, none⟩ = some (iv 0)) (⟨B3.1, B4.1, B7.1, B8.1, Ba.1, Bb.1, Bc.1, (hE.cell hRl.c0), (hE.cell hRl.c1)⟩) (fun ops Q Cd hb hL hR hK => ?_)));refine mv9 hb hE B0 B2 B3 B4 B7 B8 Ba Bb fun hE B0 B2 B3 B4 B7 B8 Ba Bb=>?_;replace Bc := Bc.x hb;have Bq := hb.size;have hS := A9 B3.1 B4.1 B7.1 B8.1 Ba.1 Bb.1 Bc.1 (hE.cell hRl.c0) (hE.cell hRl.c1);refine wM 0 (.agg #[iv cur.c, iv cur.n, iv cur.t, iv cur.o, iv cur.w, iv cur.k, .string cur.x]) hR (fun w hS => ld49 (hS.1) (hS.2.1) (hS.2.2.1) (hS.2.2.2.1) (hS.2.2.2.2.1) (hS.2.2.2.2.2.1) (hS.2.2.2.2.2.2.1)) hS ?_;refine wM 2 (.agg #[iv (-1 : Int), iv 0]) hR (fun w hS => ld70 (hS.2.2.2.2.2.2.2.1) (hS.2.2.2.2.2.2.2.2)) hS ?_;refine wC 1 85 #[.agg #[iv cur.c, iv cur.n, iv cur.t, iv cur.o, iv cur.w, iv cur.k, .string cur.x]] hR ((target_c cur _).mono ?_);rintro e Cj ⟨rfl, hb⟩;refine mv9 hb hE B0 B2 B3 B4 B7 B8 Ba Bb fun hE B0 B2 B3 B4 B7 B8 Ba Bb=>?_;replace Bc := Bc.x hb;have Br := hb.size;have hS := A9 B3.1 B4.1 B7.1 B8.1 Ba.1 Bb.1 Bc.1 (hE.cell hRl.c0) (hE.cell hRl.c1);refine ⟨_, rfl, hS, ?_⟩;refine wL 3 (.bool true) hR (fun w _ => ex_binV (a := .agg #[iv cur.o, iv cur.w]) (b := .agg #[iv (-1 : Int), iv 0]) rfl (by kernel_rfl) (by kernel_rfl) (eqG_agg (by kernel_rfl)) (bin_nqv_f (key_eq _ _ _ _ _) hr)) hS ?_;refine we hL hR hK ?_;refine zq (zt ?_);refine cw_skip (zq (cw_block ?_));refine zp (pT (.map (some B)) ?_);refine pU (.agg #[iv cur.c, iv cur.n, iv cur.t, iv cur.o, iv cur.w, iv cur.k, .string cur.x]) (xl (ld49 (B3.1) (B4.1) (B7.1) (B8.1) (Ba.1) (Bb.1) (Bc.1))) ?_;refine pS (sc 85 #[.agg #[iv cur.c, iv cur.n, iv cur.t, iv cur.o, iv cur.w, iv cur.k, .string cur.x]] ((target_c cur _).mono ?_));rintro e Cb ⟨rfl, hb⟩;refine mv9 hb hE B0 B2 B3 B4 B7 B8 Ba Bb fun hE B0 B2 B3 B4 B7 B8 Ba Bb=>?_;replace Bc := Bc.x hb;have Bs := hb.size;refine ⟨_, rfl, pU (.agg #[iv y.c, iv y.n, iv y.t, iv y.o, iv y.w, iv y.k, .string y.x]) (ex_lookup rfl (by kernel_rfl) (by kernel_rfl) (lookup_is1 (run_lookup1 Tryz.underlying79 (hM.ext hE) key_law (cur.o, cur.w) (zero_rec _)) hg)) ?_⟩;refine pP (sn_setK7 (O := O1) (j := 0) (v0 := iv y.c) (v1 := iv y.n) (v2 := iv y.t) (v3 := iv y.o) (v4 := iv y.w) (v5 := iv y.k) (v6 := .string y.x) (xt (pw O1 0) (.agg #[iv y.c, iv y.n, iv y.t, iv y.o, iv y.w, iv y.k, .string y.x]) (st49 B3.1 B3.2 B4.1 B4.2 B7.1 B7.2 B8.1 B8.2 Ba.1 Ba.2 Bb.1 Bb.2 Bc.1 Bc.2)) B3 B4 B7 B8 Ba Bb Bc ?_);intro C1 ho B3 B4 B7 B8 Ba Bb Bc hk;replace hE := ho.ext hE (Nat.le_of_eq Bu);have q9 := ho.bx O5 (by omega);replace B0 := q9 B0;replace B2 := q9 B2;clear q9;have Bt := Nat.le_of_eq ho.size.symm;clear ho hk;refine pl_nil (qw_block (zr [0, 3, 4] _ ?_ ⟨y, rfl, rfl, (T C7 (T Bq (T Br (T Bs Bt)))), hE, B0, B2, B3, B4, B7, B8, Ba, Bb, Bc, hy, ((Rep.rt_step hv hcm hr hf).symm.trans hrt)⟩));omega
theorem families_0 {w0 : World} {c : Int} {a : Option Addr} {l : List Rec} (k : Nat) (w : World) (H : RecsAt w0 a 0 l) (e0 : Ext w0 w) : Calls Tryz.prog 43 #[.agg #[iv c, .slice a 0 k]] w fun e w' => ∃ B lo, e = .returned (.map (some B)) ∧ w.heap.size ≤ B ∧ 0 ≤ lo ∧ FamsS w' lo B (fun _ => []) ∧ Ext w w' := by
 replace H := H.ext e0;clear e0;have hln := H.len;refine calls_cw 37 [(0, .agg #[iv c, .slice a 0 k])] Tryz.func43 rfl Tryz.ntmps43 (by kernel_rfl) (by kernel_rfl) (fun L => ?_);have hE := Ext.refl w;refine zc (zp (pS (sw 25 #[iv c, .slice a 0 k] ?_)));intro O1 X2 Bj Bi hb hbx;have ⟨B2, B0⟩ := bq2 hbx;replace hE := hE.trans hb;have Bg := hb.size;have Br := B2.lt;refine pT (.map none) ?_;refine zn (zc (zp (pT (pw O1 1) ?_)));refine pU (.slice a 0 k) (xl (ld23 (B0.1))) ?_;refine pS (sc 52 #[.slice a 0 k] ((booked_c _ _ H hE).mono ?_));rintro e w8 ⟨B5, rfl, Bq, B4, hb⟩;refine mv3 hb hE B2 B0 fun hE B2 B0=>?_;have Bh := hb.size;have Bk := B4.lt;refine ⟨_, rfl, pT (.map (some B5)) ?_⟩;refine zn (zc (zp (pS (sn_map keyV slV (by kernel_rfl) ?_))));intro B7 Bo hO hOs hb B3;have B8 := hO;have Ba := hOs;clear hO hOs;refine mv4 hb hE B2 B0 B4 fun hE B2 B0 B4=>?_;have Bb := hb.size;have Bm := B3.lt;refine pT (.map (some B7)) ?_;refine zn (zc (zp (pT (pw O1 1) ?_)));refine pU (.slice a 0 k) (xl (ld23 (B0.1))) ?_;refine pS (sc 66 #[.slice a 0 k] ((Clone_0 _ _ H hE).mono ?_));rintro e Bt ⟨a9, c9, rfl, Bp, hb⟩;refine mv5 hb hE B2 B0 B4 B3 fun hE B2 B0 B4 B3=>?_;have Bc := hb.size;refine ⟨_, rfl, pT (.slice a9 0 c9) ?_⟩;refine zn (zc (zp (pT (.slice a9 0 c9) ?_)));refine pS (sc 79 #[.slice a9 0 c9, .func (.func 46) #[] #[]] ((SortBefore_0 _).mono ?_));rintro e Bn ⟨rfl, hb⟩;refine mv5 hb hE B2 B0 B4 B3 fun hE B2 B0 B4 B3=>?_;have Be := hb.size;refine ⟨_, rfl, ?_⟩;refine zn (cK [3,4,5] (fun L => ?_));refine zc (zc (zp (pD (.slice a9 0 c9) (iv 0) ?_)));refine pT (iv 0) ?_;refine zn (cw_block ?_);refine cw_loop [3, 4, 18, 19, 20] (fun ws' wr m => ws' = [(3, .map (some B5)), (4, .map (some B7)), (18, .slice a9 0 c9), (19, iv 0), (20, iv 0)] ∧ m = 0 ∧ Bn.heap.size ≤ wr.heap.size ∧ Ext w wr ∧ BoxAt wr O1 0 (iv c) ∧ BoxAt wr O1 1 (.slice a 0 k) ∧ MapS keyV Rec.val wr B5 (Rep.bookL l) ∧ MapS keyV slV wr B7 ([])) (ws0 := [(3, .map (some B5)), (4, .map (some B7)), (18, .slice a9 0 c9), (19, iv 0), (20, iv 0)]) (by kernel_rfl) _ ⟨rfl, rfl, Nat.le_refl _, hE, B2, B0, B4, B3⟩ ?_;clear B2 B0 B4 B3 hE;rintro Bs L ws Bu ⟨rfl, rfl, Bf, hE, B2, B0, B4, B3⟩;refine zc (zp (pT (.bool false) ?_));refine zn (zc (zf ?_));refine cw_exit (qw_then_exit (qw_then_exit (qw_block_out (zq (zc (zp (pD (.map (some B7)) (.map (some B7)) ?_)))))));refine zn (cw_ret (qw_ret [.map (some B7)] rfl ⟨(by kernel_rfl), trivial⟩ ?_));obtain rfl := List.eq_nil_of_length_eq_zero hln;exact ⟨_, 0, rfl, (T (T Bg Bh) (Nat.le_of_eq B8)), Nat.zero_le _, FamsS.nil B3, hE⟩
theorem families_p {w0 : World} {c : Int} {a : Option Addr} {n : Nat} {l : List Rec} (k : Nat) (w : World) (H : RecsAt w0 a n l) (e0 : Ext w0 w) (hRl : RootAt w) (hv : Rep.Vd l) (hp : 0 < n) (hn : n ≤ 100) : Calls Tryz.prog 43 #[.agg #[iv c, .slice a n k]] w fun e w' => ∃ B lo, e = .returned (.map (some B)) ∧ w.heap.size ≤ B ∧ w.heap.size ≤ lo ∧ FamsS w' lo B (Rep.famK l) ∧ Ext w w' := by
 replace H := H.ext e0;clear e0;have hln := H.len;refine calls_cw 37 [(0, .agg #[iv c, .slice a n k])] Tryz.func43 rfl Tryz.ntmps43 (by kernel_rfl) (by kernel_rfl) (fun L => ?_);have hE := Ext.refl w;refine zc (zp (pS (sw 25 #[iv c, .slice a n k] ?_)));intro O1 X2 De Dd hb hbx;have ⟨B2, B0⟩ := bq2 hbx;replace hE := hE.trans hb;have Ca := hb.size;have Ci := B2.lt;refine pT (.map none) ?_;refine zn (zc (zp (pT (pw O1 1) ?_)));refine pU (.slice a n k) (xl (ld23 (B0.1))) ?_;refine pS (sc 52 #[.slice a n k] ((booked_c _ _ H hE).mono ?_));rintro e w8 ⟨B5, rfl, Di, Bi, hb⟩;refine mv3 hb hE B2 B0 fun hE B2 B0=>?_;have Bw := hb.size;have Bz := Bi.lt;refine ⟨_, rfl, pT (.map (some B5)) ?_⟩;refine zn (zc (zp (pS (sn_map keyV slV (by kernel_rfl) ?_))));intro C0 Dh hO hOs hb Bp;have Bv := hO;have Cu := hOs;clear hO hOs;refine mv4 hb hE B2 B0 Bi fun hE B2 B0 Bi=>?_;have Bk := hb.size;have Cb := Bp.lt;refine pT (.map (some C0)) ?_;refine zn (zc (zp (pT (pw O1 1) ?_)));refine pU (.slice a n k) (xl (ld23 (B0.1))) ?_;refine pS (sc 66 #[.slice a n k] ((Clone_p _ _ H hE (by omega) hp).mono ?_));rintro e Dk ⟨Bu, C1, rfl, By, Cc, _, hb⟩;refine mv5 hb hE B2 B0 Bi Bp fun hE B2 B0 Bi Bp=>?_;have Bm := hb.size;have C9 := Cc.lt (i := 0) (by omega);refine ⟨_, rfl, pT (sv Bu 0 n C1) ?_⟩;refine zn (zc (zp (pT (sv Bu 0 n C1) ?_)));refine pS (sc 79 #[sv Bu 0 n C1, .func (.func 46) #[] #[]] ((SortB_c _ Cc hln hp (by omega) hv.keys).mono ?_));rintro e D0 ⟨rfl, Be, hw⟩;replace hE := hw.ext hE (fun k hk => (show k = Bu from hk) ▸ (T (T Ca (T Bw Bk)) By));have q9 := fun ⦃j : Nat⦄ ⦃v : Value⦄ (h : BoxAt _ O1 j v) => hw.box (fun hx => absurd (show O1 = Bu from hx) (by omega)) h
 replace B2 := q9 B2;replace B0 := q9 B0;clear q9;replace Bi := Bi.block (hw.same _ Bi.lt (fun hx => absurd (show B5 = Bu from hx) (by omega)));replace Bp := Bp.block (hw.same _ Bp.lt (fun hx => absurd (show C0 = Bu from hx) (by omega)));have Bh := hw.size;have Co : (Rep.sortB l).length = n := (Rep.sortB_len hv.keys).trans hln;refine ⟨_, rfl, ?_⟩;refine zn (cK [3,4,5] (fun L => ?_));refine zc (zc (zp (pD (sv Bu 0 n C1) (iv n) ?_)));refine pT (iv 0) ?_;refine zn (cw_block ?_);refine cw_loop [3, 4, 18, 19, 20] (fun ws' wr m => ∃ i : Nat, ws' = [(3, .map (some B5)), (4, .map (some C0)), (18, sv Bu 0 n C1), (19, iv n), (20, iv i)] ∧ m = n - i ∧ D0.heap.size ≤ wr.heap.size ∧ Ext w wr ∧ BoxAt wr O1 0 (iv c) ∧ BoxAt wr O1 1 (.slice a n k) ∧ MapS keyV Rec.val wr B5 (Rep.bookL l) ∧ RecsW wr Bu ((Rep.sortB l)) ∧ FamsS wr D0.heap.size C0 (Rep.famP l i) ∧ i ≤ n) (ws0 := [(3, .map (some B5)), (4, .map (some C0)), (18, sv Bu 0 n C1), (19, iv n), (20, iv 0)]) (by kernel_rfl) _ ⟨0, rfl, rfl, Nat.le_refl _, hE, B2, B0, Bi, Be, ((FamsS.nil Bp).congr fun k => (Rep.famP_zero l k).symm), Nat.zero_le _⟩ ?_;clear B2 B0 Bi Bp Be hE;rintro Dj L ws D1 ⟨i, rfl, rfl, Bn, hE, B2, B0, Bi, Be, hF, hi⟩;have Bj := Ext.refl D1
 by_cases hlt : i < n
 ·
  refine zc (zp (pU (.bool true) (ed (((i : Nat) : Int) < ((n : Nat) : Int)) (by omega)) ?_));refine zn (zc (zt ?_));refine cw_skip (zq (zc (cw_block ?_)));refine zc (zp (pU (pw Bu (i * 7)) (xi (sv Bu 0 n C1) (iv i) (ix23z (k := i) (by omega))) ?_));refine pU (.agg #[iv ((recN ((Rep.sortB l)) i).c : Int), iv ((recN ((Rep.sortB l)) i).n : Int), iv ((recN ((Rep.sortB l)) i).t : Int), iv ((recN ((Rep.sortB l)) i).o : Int), iv ((recN ((Rep.sortB l)) i).w : Int), iv ((recN ((Rep.sortB l)) i).k : Int), .string ((recN ((Rep.sortB l)) i).x)]) (xl (ld49 ((Be.w0 (i := i) (by omega)).1) ((Be.w1 (i := i) (by omega)).1) ((Be.w2 (i := i) (by omega)).1) ((Be.w3 (i := i) (by omega)).1) ((Be.w4 (i := i) (by omega)).1) ((Be.w5 (i := i) (by omega)).1) ((Be.w6 (i := i) (by omega)).1))) ?_;refine pS (sw 49 #[iv 0, iv 0, iv 0, iv 0, iv 0, iv 0, .string (⟨#[]⟩)] ?_);intro Cj D3 Bs Cv hb hbx;have ⟨B3, B4, B7, B8, Ba, Bb, Bc⟩ := bq7 hbx;refine mv6 hb hE Bj B2 B0 Bi Be fun hE Bj B2 B0 Bi Be=>?_;have Bt := hb.size;have Cl := B3.lt;refine pP (sn_setK7 (O := Cj) (j := 0) (v0 := iv ((recN ((Rep.sortB l)) i).c : Int)) (v1 := iv ((recN ((Rep.sortB l)) i).n : Int)) (v2 := iv ((recN ((Rep.sortB l)) i).t : Int)) (v3 := iv ((recN ((Rep.sortB l)) i).o : Int)) (v4 := iv ((recN ((Rep.sortB l)) i).w : Int)) (v5 := iv ((recN ((Rep.sortB l)) i).k : Int)) (v6 := .string ((recN ((Rep.sortB l)) i).x)) (xt (pw Cj 0) (.agg #[iv ((recN ((Rep.sortB l)) i).c : Int), iv ((recN ((Rep.sortB l)) i).n : Int), iv ((recN ((Rep.sortB l)) i).t : Int), iv ((recN ((Rep.sortB l)) i).o : Int), iv ((recN ((Rep.sortB l)) i).w : Int), iv ((recN ((Rep.sortB l)) i).k : Int), .string ((recN ((Rep.sortB l)) i).x)]) (st49 B3.1 B3.2 B4.1 B4.2 B7.1 B7.2 B8.1 B8.2 Ba.1 Ba.2 Bb.1 Bb.2 Bc.1 Bc.2)) B3 B4 B7 B8 Ba Bb Bc ?_);intro D4 ho B3 B4 B7 B8 Ba Bb Bc hk;replace hE := ho.ext hE (by omega);replace Bj := ho.ext Bj (Nat.le_of_eq Bs);have q9 := ho.bx O1 (by omega);replace B2 := q9 B2;replace B0 := q9 B0;clear q9;replace Bi := Bi.block (ho.heap' _ (by omega));replace Be := Be.turn ho (by omega);have Bq := Nat.le_of_eq ho.size.symm;clear ho hk;refine zn (zc (zp (pT (.map (some B5)) ?_)));refine pU (.agg #[iv ((recN ((Rep.sortB l)) i).c : Int), iv ((recN ((Rep.sortB l)) i).n : Int), iv ((recN ((Rep.sortB l)) i).t : Int), iv ((recN ((Rep.sortB l)) i).o : Int), iv ((recN ((Rep.sortB l)) i).w : Int), iv ((recN ((Rep.sortB l)) i).k : Int), .string ((recN ((Rep.sortB l)) i).x)]) (xl (ld49 (B3.1) (B4.1) (B7.1) (B8.1) (Ba.1) (Bb.1) (Bc.1))) ?_;refine pS (sc 59 #[.map (some B5), .agg #[iv ((recN ((Rep.sortB l)) i).c : Int), iv ((recN ((Rep.sortB l)) i).n : Int), iv ((recN ((Rep.sortB l)) i).t : Int), iv ((recN ((Rep.sortB l)) i).o : Int), iv ((recN ((Rep.sortB l)) i).w : Int), iv ((recN ((Rep.sortB l)) i).k : Int), .string ((recN ((Rep.sortB l)) i).x)]] ((root_c ((recN ((Rep.sortB l)) i)) _ Bi (Ext.refl _) hv (Rep.sortB_mem.1 (recN_mem (by omega))) (hRl.ext hE)).mono ?_));rintro e Dl ⟨rfl, hb⟩;refine mv12 hb hE Bj B2 B0 Bi Be B3 B4 B7 B8 Ba Bb fun hE Bj B2 B0 Bi Be B3 B4 B7 B8 Ba Bb=>?_;replace Bc := Bc.x hb;have Br := hb.size;refine ⟨_, rfl, pS (sw 70 #[iv 0, iv 0] ?_)⟩;intro Cm D5 Bo Cw hb hbx;have ⟨Bf, Bg⟩ := bq2 hbx;refine mv12 hb hE Bj B2 B0 Bi Be B3 B4 B7 B8 Ba Bb fun hE Bj B2 B0 Bi Be B3 B4 B7 B8 Ba Bb=>?_;replace Bc := Bc.x hb;have Cd := hb.size;have Df := Bf.lt;refine pP (sn_set2 (O := Cm) (j := 0) (v := iv ((Rep.rt l ((recN ((Rep.sortB l)) i))).c : Int)) (v' := iv ((Rep.rt l ((recN ((Rep.sortB l)) i))).n : Int)) (xt (pw Cm 0) (.agg #[iv ((Rep.rt l ((recN ((Rep.sortB l)) i))).c : Int), iv ((Rep.rt l ((recN ((Rep.sortB l)) i))).n : Int)]) (st70 Bf.1 Bf.2 Bg.1 Bg.2)) Bf Bg ?_);intro D6 ho Bf Bg hk;replace hE := ho.ext hE (by omega);replace Bj := ho.ext Bj (T (T Bt (T Bq Br)) (Nat.le_of_eq Bo));have q9 := ho.bx O1 (by omega);replace B2 := q9 B2;replace B0 := q9 B0;clear q9;replace Bi := Bi.block (ho.heap' _ (by omega));replace Be := Be.turn ho (by omega);have q9 := ho.bx Cj (by omega);replace B3 := q9 B3;replace B4 := q9 B4;replace B7 := q9 B7;replace B8 := q9 B8;replace Ba := q9 Ba;replace Bb := q9 Bb;replace Bc := q9 Bc;clear q9;have Ce := Nat.le_of_eq ho.size.symm;clear ho hk;refine zn (zp (pT (.map (some C0)) ?_));refine pU (.agg #[iv ((Rep.rt l ((recN ((Rep.sortB l)) i))).c : Int), iv ((Rep.rt l ((recN ((Rep.sortB l)) i))).n : Int)]) (xl (ld70 (Bf.1) (Bg.1))) ?_;refine pU (.agg #[iv ((recN ((Rep.sortB l)) i).c : Int), iv ((recN ((Rep.sortB l)) i).n : Int), iv ((recN ((Rep.sortB l)) i).t : Int), iv ((recN ((Rep.sortB l)) i).o : Int), iv ((recN ((Rep.sortB l)) i).w : Int), iv ((recN ((Rep.sortB l)) i).k : Int), .string ((recN ((Rep.sortB l)) i).x)]) (xl (ld49 (B3.1) (B4.1) (B7.1) (B8.1) (Ba.1) (Bb.1) (Bc.1))) ?_
  refine pS (sn_newS (us := #[iv ((recN ((Rep.sortB l)) i).c : Int), iv ((recN ((Rep.sortB l)) i).n : Int), iv ((recN ((Rep.sortB l)) i).t : Int), iv ((recN ((Rep.sortB l)) i).o : Int), iv ((recN ((Rep.sortB l)) i).w : Int), iv ((recN ((Rep.sortB l)) i).k : Int), .string ((recN ((Rep.sortB l)) i).x)]) (t := 49) (k := 1) (c := 1) (by kernel_rfl) ?_);intro D2 D7 Cy Cx hb hbx;have ⟨Bx, C3, C4, C5, C6, C7, C8⟩ := bq7 hbx;refine mv6 hb hE Bj B2 B0 Bi Be fun hE Bj B2 B0 Bi Be=>?_;have Cf := hb.size;have Dg := Bx.lt;have C2 := (hF.ext Bj);have Dc : RecB D7 D2 0 [(recN (Rep.sortB l) i)] := RecB.one (Bx.1) (C3.1) (C4.1) (C5.1) (C6.1) (C7.1) (C8.1);obtain ⟨X1, Cz, s0, D9, X2, s1, Da, X3, Db, Cn, hch⟩ := fam_step C2 (Nat.lt_of_lt_of_le Cb (T Bm Bh)) (by omega) (Rep.rt l (recN (Rep.sortB l) i)).key (recN (Rep.sortB l) i) Dc (Rep.famP_len (by omega) _);refine pS (sn_eff (v := .tuple #[slV s0, goInt Cz]) (w' := X1) (ex_mapE (kx := keyV (Rep.rt l (recN (Rep.sortB l) i)).key) rfl (by kernel_rfl) (by kernel_rfl) D9) ?_);refine pT (slV s0) ?_;refine pS (sn_eff (v := slV s1) (w' := X2) (ex_append rfl (by kernel_rfl) (by kernel_rfl) Da) ?_);refine pT (goInt Cz) ?_;refine pP (sn_skp (ex_entS rfl (by kernel_rfl) (by kernel_rfl) (by kernel_rfl) Db) ?_);replace hE := hch.ext hE (T Ca (T Bw (T Bk (T Bm Bh)))) (T (T Ca Bw) (Nat.le_of_eq Bv));have q9 := fun ⦃j : Nat⦄ ⦃v : Value⦄ (h : BoxAt _ O1 j v) => hch.box (by omega) (by omega) h
  replace B2 := q9 B2;replace B0 := q9 B0;clear q9;replace Bi := hch.map (by omega) (by omega) Bi;replace Be := hch.recsW (Nat.lt_of_lt_of_le C9 Bh) (by omega) Be;have Ck := hch.size;have D8 := Cn.congr fun k => (Rep.famP_succ (by omega) k).symm
  clear Cn hch C2;refine pl_nil (qw_block (zq (cK [3,4,18,19,20] (fun L => ?_))));refine zp (pU (iv ((i + 1 : Nat) : Int)) (ew (by omega) (by omega)) ?_);refine pT (iv ((i + 1 : Nat) : Int)) ?_;refine pl_nil (zr [3, 4, 18, 19, 20] _ ?_ ⟨(i + 1), rfl, rfl, (by omega), hE, B2, B0, Bi, Be, D8, by omega⟩);omega
 ·
  have hin : i = n := by omega
  refine zc (zp (pU (.bool false) (en (((i : Nat) : Int) < ((n : Nat) : Int)) (by omega)) ?_));refine zn (zc (zf ?_));refine cw_exit (qw_then_exit (qw_then_exit (qw_block_out (zq (zc (zp (pD (.map (some C0)) (.map (some C0)) ?_)))))));refine zn (cw_ret (qw_ret [.map (some C0)] rfl ⟨(by kernel_rfl), trivial⟩ ?_));subst hin;exact ⟨_, _, rfl, (T (T Ca Bw) (Nat.le_of_eq Bv)), (T Ca (T Bw (T Bk (T Bm Bh)))), (hF).congr (Rep.famP_all (by omega)), hE⟩
end Go.Proofs.YtfmoabgjaclkpaaGreatDoor

namespace Go.Proofs.YtfmoabgjaclkpaaGreatDoor
set_option maxRecDepth 1000000
set_option maxHeartbeats 4000000
set_option synthInstance.maxHeartbeats 0
set_option synthInstance.maxSize 9999
open Go.RowKit
def slcR : Rep Slc where
 rel _ c x F := c = [slV x] ∧ F = []
 keep := fun h _ => h
 lt := by rintro w c x F ⟨_, rfl⟩ b hb; cases hb
theorem slcT : ElemT Tryz.prog 66 23 (.slice none 0 0) 1 24 := ⟨Tryz.underlying66, by kernel_rfl, rfl, by decide⟩
theorem RecAt.inj {w : World} {b o : Nat} {x y : Rec} (h : RecAt w b o x) (k : RecAt w b o y) : x = y := by
 obtain ⟨h0, h1, h2, h3, h4, h5, h6⟩ := h
 obtain ⟨k0, k1, k2, k3, k4, k5, k6⟩ := k
 rw [h0] at k0; rw [h1] at k1; rw [h2] at k2; rw [h3] at k3; rw [h4] at k4; rw [h5] at k5; rw [h6] at k6
 cases x; cases y
 simp only [Option.some.injEq, Value.int.injEq, Value.string.injEq, true_and] at k0 k1 k2 k3 k4 k5 k6
 subst k0 k1 k2 k3 k4 k5 k6; rfl
open Classical in
noncomputable def rdR (w : World) (s : Slc) : Rec := if h : ∃ x b o, s.1 = some ⟨b, o, none⟩ ∧ RecAt w b o x then h.choose else default
theorem rdR_eq {w : World} {s : Slc} {b o : Nat} {x : Rec} (ha : s.1 = some ⟨b, o, none⟩) (h : RecAt w b o x) : rdR w s = x := by
 have hx : ∃ x b o, s.1 = some ⟨b, o, none⟩ ∧ RecAt w b o x := ⟨x, b, o, ha, h⟩
 unfold rdR; rw [dif_pos hx]
 obtain ⟨b', o', q1, q2⟩ := hx.choose_spec
 rw [ha] at q1; cases q1
 exact q2.inj h
structure IsFam (w : World) (s : Slc) : Prop where
 pos : 0 < s.2.1
 at_ : ∃ b o, s.1 = some ⟨b, o, none⟩ ∧ RecAt w b o (rdR w s)
theorem Fold1_g {b1 o1 n1 c1 b2 o2 n2 c2 : Nat} {x y : Rec} (w : World) (h1 : RecAt w b1 o1 x) (h2 : RecAt w b2 o2 y) (p1 : 0 < n1) (p2 : 0 < n2) : Calls Tryz.prog 45 #[sv b1 o1 n1 c1, sv b2 o2 n2 c2] w fun e w' => e = .returned (iv (Rep.befC x y)) ∧ Gro w w' := by
 have hG : Gro w w := Gro.refl w;obtain ⟨B0, B2, B3, B4, B7, B8, Ba⟩ := h1;obtain ⟨Bb, Bc, Be, Bf, Bg, Bh, Bi⟩ := h2;refine calls_cw 12 [(1, sv b2 o2 n2 c2), (0, sv b1 o1 n1 c1)] Tryz.func45 rfl Tryz.ntmps45 (by kernel_rfl) (by kernel_rfl) (fun L => ?_);have hE := Ext.refl w;refine zc (zp (pT (iv 0) ?_));refine zn (zc (cw_drawG [(some 5, [0], []), (some 6, [5], [0]), (some 7, [6], [1]), (some 8, [1], []), (some 9, [8], [3]), (some 10, [9], [4]), (some 11, [7, 10], [2, 5]), (some 4, [11], [6, 6, 0, 1, 2, 3, 4, 5, 6])] (fun w' => w'.cell? ⟨b1, o1, none⟩ = some (iv x.c) ∧ w'.cell? ⟨b1, o1 + 1, none⟩ = some (iv x.n) ∧ w'.cell? ⟨b1, o1 + 2, none⟩ = some (iv x.t) ∧ w'.cell? ⟨b1, o1 + 3, none⟩ = some (iv x.o) ∧ w'.cell? ⟨b1, o1 + 4, none⟩ = some (iv x.w) ∧ w'.cell? ⟨b1, o1 + 5, none⟩ = some (iv x.k) ∧ w'.cell? ⟨b1, o1 + 6, none⟩ = some (.string x.x) ∧ w'.cell? ⟨b2, o2, none⟩ = some (iv y.c) ∧ w'.cell? ⟨b2, o2 + 1, none⟩ = some (iv y.n) ∧ w'.cell? ⟨b2, o2 + 2, none⟩ = some (iv y.t) ∧ w'.cell? ⟨b2, o2 + 3, none⟩ = some (iv y.o) ∧ w'.cell? ⟨b2, o2 + 4, none⟩ = some (iv y.w) ∧ w'.cell? ⟨b2, o2 + 5, none⟩ = some (iv y.k) ∧ w'.cell? ⟨b2, o2 + 6, none⟩ = some (.string y.x)) (by kernel_rfl) (by kernel_rfl) (by kernel_rfl) (by kernel_rfl) ((calm_then calm_body)) (⟨B0, B2, B3, B4, B7, B8, Ba, Bb, Bc, Be, Bf, Bg, Bh, Bi⟩) (fun ops Q X1 hgx hb hL hR hK => ?_)));replace hG := hG.trans hgx;clear hgx;replace hE := hE.trans hb;have Bj := hb.size;have hS := A14 (hE.cell B0) (hE.cell B2) (hE.cell B3) (hE.cell B4) (hE.cell B7) (hE.cell B8) (hE.cell Ba) (hE.cell Bb) (hE.cell Bc) (hE.cell Be) (hE.cell Bf) (hE.cell Bg) (hE.cell Bh) (hE.cell Bi);refine wV 0 (sv b1 o1 n1 c1) hR hS ?_;refine wL 1 (pw b1 o1) hR (fun w _ => ex_index (p := sv b1 o1 n1 c1) (i := iv ((0 : Nat) : Int)) rfl (by kernel_rfl) (by kernel_rfl) (ix23 (k := 0) (by omega))) hS ?_;refine wM 2 (.agg #[iv x.c, iv x.n, iv x.t, iv x.o, iv x.w, iv x.k, .string x.x]) hR (fun w hS => ld49 (hS.1) (hS.2.1) (hS.2.2.1) (hS.2.2.2.1) (hS.2.2.2.2.1) (hS.2.2.2.2.2.1) (hS.2.2.2.2.2.2.1)) hS ?_;refine wV 3 (sv b2 o2 n2 c2) hR hS ?_;refine wL 4 (pw b2 o2) hR (fun w _ => ex_index (p := sv b2 o2 n2 c2) (i := iv ((0 : Nat) : Int)) rfl (by kernel_rfl) (by kernel_rfl) (ix23 (k := 0) (by omega))) hS ?_;refine wM 5 (.agg #[iv y.c, iv y.n, iv y.t, iv y.o, iv y.w, iv y.k, .string y.x]) hR (fun w hS => ld49 (hS.2.2.2.2.2.2.2.1) (hS.2.2.2.2.2.2.2.2.1) (hS.2.2.2.2.2.2.2.2.2.1) (hS.2.2.2.2.2.2.2.2.2.2.1) (hS.2.2.2.2.2.2.2.2.2.2.2.1) (hS.2.2.2.2.2.2.2.2.2.2.2.2.1) (hS.2.2.2.2.2.2.2.2.2.2.2.2.2)) hS ?_;refine wC 6 46 #[.agg #[iv x.c, iv x.n, iv x.t, iv x.o, iv x.w, iv x.k, .string x.x], .agg #[iv y.c, iv y.n, iv y.t, iv y.o, iv y.w, iv y.k, .string y.x]] hR ((before_g x y _).mono ?_);rintro e w3 ⟨rfl, hb⟩;have hgx := hb;replace hb := hgx.ext;replace hG := hG.trans hgx;clear hgx;replace hE := hE.trans hb;have Bk := hb.size;have hS := A14 (hE.cell B0) (hE.cell B2) (hE.cell B3) (hE.cell B4) (hE.cell B7) (hE.cell B8) (hE.cell Ba) (hE.cell Bb) (hE.cell Bc) (hE.cell Be) (hE.cell Bf) (hE.cell Bg) (hE.cell Bh) (hE.cell Bi);refine ⟨_, rfl, hS, ?_⟩;refine wV 7 (iv (Rep.befC x y : Int)) hR hS ?_;refine we hL hR hK ?_;refine zq (cw_ret (qw_ret [iv (Rep.befC x y : Int)] rfl ⟨(by kernel_rfl), trivial⟩ ?_));exact ⟨rfl, hG⟩
structure SlcsAt (w : World) (a : Option Addr) (m : Nat) (A : List Slc) : Prop where
 len : A.length = m
 at_ : m = 0 ∨ ∃ b, a = some ⟨b, 0, none⟩ ∧ b < w.heap.size ∧ ∀ (i : Nat) s, A[i]? = some s → w.cell? ⟨b, i, none⟩ = some (slV s)
theorem SortFams_c {w w0 : World} {n₀ m c : Nat} {a : Option Addr} {A : List Slc} (h : OwnL slcR n₀ 23 1 (.slice a m c) w A) (hl : A.length = m) (hm : m ≤ 1000) (e0 : Ext w0 w) (hn : w0.heap.size ≤ n₀) (hf : ∀ s ∈ A, IsFam w0 s) :
    Calls Tryz.prog 44 #[.slice a m c, .func (.func 45) #[] #[]] w fun e w' => e = .returned (.tuple #[]) ∧ ∃ A', A'.Perm A ∧ (A'.Pairwise fun s t => ¬ Rep.ltB (rdR w0 t) (rdR w0 s)) ∧ SlcsAt w' a m A' ∧ (∀ U, Ext U w → U.heap.size ≤ n₀ → Ext U w') ∧ w.heap.size ≤ w'.heap.size := by
  rcases A with _ | ⟨s0, A0⟩
  · subst hl
    exact (Go.Proofs.AnyF.slices_SortFunc_none Tryz.sortL a c _ w).mono fun e w' ⟨he, hw⟩ => ⟨he, [], .refl _, .nil, ⟨rfl, .inl rfl⟩, fun U hU _ => hw ▸ hU, by rw [hw]; exact Nat.le_refl _⟩
  · have hlt := h.lt
    obtain ⟨cs, h1, h2, h3, h4⟩ := h
    rcases h3.2 with ⟨q, _⟩ | ⟨g, cap, cur, q, hgn, _⟩
    · injection q with q1 q2 q3; rw [← hl] at q2; simp at q2
    injection q with q1 q2 q3; subst q1 q3
    have hgl := hlt g rfl
    have h3' := h3; rw [hl] at h3'
    let β := {s : Slc // IsFam w0 s}
    let b0 : β := ⟨s0, hf s0 (List.mem_cons_self ..)⟩
    haveI : Inhabited β := ⟨b0⟩
    let enc : β → Value := fun s => slV s.1
    let cf : β → β → Int := fun s t => Rep.befC (rdR w0 s.1) (rdR w0 t.1)
    obtain ⟨D, hD⟩ : ∃ D : List β, D.map Subtype.val = s0 :: A0 := ⟨(s0 :: A0).attach.map fun s => ⟨s.1, hf s.1 s.2⟩, by rw [List.map_map]; exact (s0 :: A0).attach_map_subtype_val⟩
    have hDl : D.length = m := by rw [← hl, ← hD, List.length_map]
    have hO : Go.Sort.SWO (Go.Proofs.ltOf cf) := ⟨fun x => swo_bef.irrefl (rdR w0 x.1), fun x y z => swo_bef.trans (rdR w0 x.1) (rdR w0 y.1) (rdR w0 z.1), fun x y z => swo_bef.ntrans (rdR w0 x.1) (rdR w0 y.1) (rdR w0 z.1)⟩
    have hH : Go.Sort.Holds enc w g 0 D.toArray := by
      intro j hj
      have hj' : j < D.length := by simpa using hj
      have hx : (s0 :: A0)[j]? = some D[j].1 := by rw [← hD, List.getElem?_map, List.getElem?_eq_getElem hj']; rfl
      have hc := List.getElem?_eq_getElem (l := cs) (i := j) (by rw [h1, hl]; omega)
      obtain ⟨F, ⟨e1, _⟩, _⟩ := h4 j _ _ hx hc
      have f := flatten_get h2 j hc 0 (by omega)
      rw [e1] at f
      have hz := h3'.cellAt j (by omega)
      refine ⟨?_, h3'.frozenAt _⟩
      rw [Nat.zero_add, hz, show j = j * 1 + 0 by omega, f, getElem!_pos D.toArray _ (by simpa using hj)]
      simp only [Nat.mul_one, Nat.add_zero]; rfl
    have hcmp : Go.Proofs.CmpLays1 Tryz.prog 45 #[] enc cf g 0 D.toArray.size w := fun k os dk _ x y => by
      obtain ⟨p1, b1, o1, B0, r1⟩ := x.2
      obtain ⟨p2, b2, o2, B2, r2⟩ := y.2
      have key : ∀ {b o : Nat} {z : Rec}, RecAt w0 b o z → RecAt (Go.Proofs.sortWorld enc w g 0 k dk os) b o z := fun {b o z} r => by
        have hb : b < w0.heap.size := World.block_lt_of_cell? _ _ r.1
        have hc : ∀ {q : Nat} {v : Value}, w0.cell? ⟨b, q, none⟩ = some v → (Go.Proofs.sortWorld enc w g 0 k dk os).cell? ⟨b, q, none⟩ = some v := fun {q v} hv => by
          unfold Go.Proofs.sortWorld
          rw [Go.Sort.cell?_grow _ _ _ (by rw [Go.Sort.size_putRow]; exact Nat.lt_of_lt_of_le hb e0.size), Go.Sort.cell?_putRow_other enc _ _ _ dk _ (Or.inl (show b ≠ g by omega))]
          exact e0.cell hv
        obtain ⟨c0, c1, c2, c3, c4, c5, c6⟩ := r
        exact ⟨hc c0, hc c1, hc c2, hc c3, hc c4, hc c5, hc c6⟩
      have e1 : x.1 = (some ⟨b1, o1, none⟩, x.1.2.1, x.1.2.2) := by rw [← B0]
      have e2 : y.1 = (some ⟨b2, o2, none⟩, y.1.2.1, y.1.2.2) := by rw [← B2]
      show Calls Tryz.prog _ #[slV x.1, slV y.1] _ _
      have hcon := Fold1_g (n1 := x.1.2.1) (c1 := x.1.2.2) (n2 := y.1.2.1) (c2 := y.1.2.2) (Go.Proofs.sortWorld enc w g 0 k dk os) (key r1) (key r2) p1 p2
      rw [show slV x.1 = .slice (some ⟨b1, o1, none⟩) x.1.2.1 x.1.2.2 by rw [e1]; rfl, show slV y.1 = .slice (some ⟨b2, o2, none⟩) y.1.2.1 y.1.2.2 by rw [e2]; rfl]
      exact hcon
    have hsz : D.toArray.size = m := by simpa using hDl
    have L : Go.Proofs.SlLaysF.n6 Tryz.prog Tryz.sortL_ren := { Tryz.sortL with a24 := Tryz.isAgg23, z24 := Tryz.sizeOf23 }
    have hcon := Go.Proofs.Any.slices_SortFunc L enc (fun _ => rfl) cf hO 45 #[] g 0 c D.toArray w (Go.Proofs.enters_of Tryz.func45 (by kernel_rfl) rfl) hcmp hH hgl (by rw [hsz]; omega)
    rw [hsz] at hcon
    refine hcon.mono fun e w' ⟨he, d', q, os, ⟨hs, _, hp⟩, hso, hw⟩ => ⟨he, d'.toList.map Subtype.val, ?_, ?_, ⟨?_, ?_⟩, ?_, ?_⟩
    · have e1 : d'.extract 0 m = d' := by rw [← hsz, ← hs]; simp
      have e2 : D.toArray.extract 0 m = D.toArray := by rw [← hsz]; simp
      rw [e1, e2] at hp
      rw [← hD]; exact List.Perm.map _ (by simpa using hp)
    · rw [List.pairwise_map, List.pairwise_iff_getElem]
      intro i j hi hj hij
      have h0 := hso i j (Nat.zero_le _) hij (by rw [← hsz, ← hs]; simpa using hj)
      have h9 : ¬ Go.Proofs.ltOf cf d'[j]! d'[i]! = true := by rw [h0]; exact Bool.false_ne_true
      intro q9
      refine h9 ?_
      unfold Go.Proofs.ltOf
      rw [decide_eq_true_iff]
      have hi' : i < d'.size := by simpa using hi
      have hj' : j < d'.size := by simpa using hj
      rw [getElem!_pos d' j hj', getElem!_pos d' i hi']
      exact Rep.befC_neg.2 (by simpa using q9)
    · rw [List.length_map]; have := hs; rw [hsz] at this; simpa using this
    · refine .inr ⟨g, rfl, ?_, fun i s hx => ?_⟩
      · rw [hw]; unfold Go.Proofs.sortWorld; rw [Go.Sort.size_grow, Go.Sort.size_putRow]; exact Nat.lt_of_lt_of_le hgl (Nat.le_add_right _ _)
      · have hH' : Go.Sort.Holds enc w' g 0 d' := by
          rw [hw]
          refine Go.Sort.holds_grow enc _ _ _ _ _ ?_ ?_
          · rw [Go.Sort.size_putRow]; exact hgl
          · exact Go.Sort.holds_putRow enc _ _ _ D.toArray _ (Go.Sort.holds_ahead enc _ _ _ _ _ hH) hs
        rw [List.getElem?_map] at hx
        obtain ⟨y, hy, rfl⟩ := Option.map_eq_some_iff.1 hx
        obtain ⟨hi, rfl⟩ := List.getElem?_eq_some_iff.1 hy
        have hi' : i < d'.size := by simpa using hi
        have := (hH' i hi').1
        rw [Nat.zero_add, getElem!_pos d' i hi'] at this
        simpa using this
    · intro U hU hUn
      rw [hw]
      refine ⟨hU.os, hU.tape, hU.output, ?_, fun k hk => ?_⟩
      · unfold Go.Proofs.sortWorld; rw [Go.Sort.size_grow, Go.Sort.size_putRow]; exact T hU.size (Nat.le_add_right _ _)
      · show ((w.heap.modify g _) ++ os)[k]? = _
        rw [Array.getElem?_append_left (by simpa using Nat.lt_of_lt_of_le hk hU.size), Array.getElem?_modify, if_neg (by omega)]; exact hU.block k hk
    · rw [hw]; unfold Go.Proofs.sortWorld; rw [Go.Sort.size_grow, Go.Sort.size_putRow]; exact Nat.le_add_right _ _
end Go.Proofs.YtfmoabgjaclkpaaGreatDoor

namespace Go.Proofs.YtfmoabgjaclkpaaGreatDoor
set_option maxRecDepth 1000000
set_option maxHeartbeats 4000000
set_option synthInstance.maxHeartbeats 0
set_option synthInstance.maxSize 9999
open Go.RowKit
def Tz41_0 : List Row := [(some 27, [3], []), (some 28, [27], [0]), (some 29, [8], []), (some 30, [9], []), (some 31, [29, 30], [2, 3, 1]), (some 32, [28, 31], [1, 4]), (some 6, [32], [5, 4, 0, 1, 2, 3, 4, 5]), (some 7, [], [6, 0, 1, 2, 3, 4, 5, 6])]
theorem nodup_len {κ : Type} [DecidableEq κ] : ∀ {L M : List κ}, L.Nodup → (∀ x ∈ L, x ∈ M) → L.length ≤ M.length
 | [], _, _, _ => Nat.zero_le _
 | x :: L, M, hn, h => by
  rw [List.nodup_cons] at hn
  have hx := h x (List.mem_cons_self ..)
  have ih := nodup_len (M := M.erase x) hn.2 fun y hy => (List.mem_erase_of_ne (by rintro rfl; exact hn.1 hy)).2 (h y (List.mem_cons_of_mem _ hy))
  rw [List.length_erase_of_mem hx] at ih
  have := List.length_pos_of_mem hx
  rw [List.length_cons]; omega
theorem perm_map {α β : Type} (f : α → β) {A B : List β} (h : A.Perm B) : ∀ {L : List α}, L.map f = B → ∃ L' : List α, L'.Perm L ∧ L'.map f = A := by
 induction h with
 | nil => intro L hL; exact ⟨L, .refl _, hL⟩
 | cons x _ ih =>
  intro L hL
  cases L with
  | nil => cases hL
  | cons y L =>
   injection hL with h1 h2
   obtain ⟨L', q1, q2⟩ := ih h2
   exact ⟨y :: L', q1.cons y, by rw [List.map_cons, h1, q2]⟩
 | swap x y r =>
  intro L hL
  match L, hL with
  | p :: q :: L, hL =>
   injection hL with h1 h2
   injection h2 with h2 h3
   exact ⟨q :: p :: L, .swap p q L, by rw [List.map_cons, List.map_cons, h1, h2, h3]⟩
 | trans _ _ i1 i2 =>
  intro L hL
  obtain ⟨L1, q1, q2⟩ := i2 hL
  obtain ⟨L2, q3, q4⟩ := i1 q2
  exact ⟨L2, q3.trans q1, q4⟩
theorem erase_perm {α : Type} : ∀ {l : List α} {i : Nat} (h : i < l.length), (l[i] :: l.eraseIdx i).Perm l
 | _x :: _l, 0, _ => .refl _
 | x :: l, i + 1, h => (List.Perm.swap x (l[i]'(Nat.lt_of_succ_lt_succ h)) _).trans (.cons x (erase_perm (Nat.lt_of_succ_lt_succ h)))
theorem perm_next {A LL : List Slc} {left : List ((Int × Int) × Slc)} {i : Nat} {p : (Int × Int) × Slc} (h : (A ++ left.map Prod.snd).Perm LL) (hp : left[i]? = some p) : ((A ++ [p.2]) ++ (left.eraseIdx i).map Prod.snd).Perm LL := by
 refine List.Perm.trans ?_ h
 rw [List.append_assoc]
 refine List.Perm.append_left A ?_
 obtain ⟨hi, rfl⟩ := List.getElem?_eq_some_iff.1 hp
 exact ((erase_perm hi).map Prod.snd)
theorem len_erase {left : List ((Int × Int) × Slc)} {i : Nat} {p : (Int × Int) × Slc} (hp : left[i]? = some p) : (left.eraseIdx i).length + 1 = left.length := by
 have hi := (List.getElem?_eq_some_iff.1 hp).1
 rw [List.length_eraseIdx, if_pos hi]; omega
theorem fam_len {l : List Rec} (hv : Rep.Vd l) (k : Int × Int) : (Rep.famK l k).length ≤ l.length := by
 unfold Rep.famK
 exact T (List.length_filter_le _ _) (Nat.le_of_eq (Rep.sortB_len hv.keys))
theorem FamsS.get {w : World} {lo B : Nat} {F : Int × Int → List Rec} (h : FamsS w lo B F) {k : Int × Int} (hk : F k ≠ []) (hb : (F k).length ≤ 1000) : ∃ L, MapS keyV slV w B L ∧ ∃ a n c, getM k L = some (a, n, c) ∧ RecsAt w a n (F k) ∧ n ≤ c := by
 obtain ⟨L, hM, hnd, hown, hdis, hno⟩ := h.out
 refine ⟨L, hM, ?_⟩
 cases hg : getM k L with
 | none => exact absurd (hno k (getM_none' hnd hg)) hk
 | some s =>
  obtain ⟨k1, k2, k3, k4⟩ := hown _ (getM_mem hg)
  have k2' : (F k).length = s.2.1 := k2
  exact ⟨s.1, s.2.1, s.2.2, rfl, own_recs k1 k2 (by show s.2.1 ≤ _; omega), k4⟩
theorem own_capR {α : Type} {R : Rep α} {n₀ : Nat} {e : TypeId} {size g n cap : Nat} {w : World} {l : List α} (h : OwnL R n₀ e size (.slice (some ⟨g, 0, none⟩) n cap) w l) (hl : l.length = n) : n ≤ cap := by
 subst hl
 obtain ⟨cs, h1, h2, h3, h4⟩ := h
 rcases h3.2 with ⟨q, _⟩ | ⟨g', cap', cur, q, _, _, h5, h6, _⟩
 · cases q
 · injection q with q1 q2 q3; subst q3; exact h5
structure ListsAt (w : World) (a : Option Addr) (m : Nat) (G : List (List Rec)) : Prop where
 len : G.length = m
 at_ : ∀ i, i < m → ∃ b g n c F, a = some ⟨b, 0, none⟩ ∧ b < w.heap.size ∧ G[i]? = some F ∧ w.cell? ⟨b, i, none⟩ = some (.slice (some ⟨g, 0, none⟩) n c) ∧ RecB w g 0 F ∧ F.length = n ∧ 0 < n ∧ g < w.heap.size ∧ n ≤ 140737488355328
theorem fam_first {w : World} {lo : Nat} {l : List Rec} {L : List ((Int × Int) × Slc)} (hv : Rep.Vd l) (hl80 : l.length ≤ 80) (hown : ∀ p ∈ L, OwnL recR lo 49 7 (slV p.2) w (Rep.famK l p.1) ∧ (Rep.famK l p.1).length = p.2.2.1 ∧ 0 < p.2.2.1 ∧ p.2.2.1 ≤ p.2.2.2) (p : (Int × Int) × Slc) (hp : p ∈ L) :
    IsFam w p.2 ∧ rdR w p.2 = recN (Rep.famK l p.1) 0 ∧ (rdR w p.2).key = p.1 ∧ rdR w p.2 ∈ l ∧ Rep.isRoot (rdR w p.2) ∧ ∃ g, p.2.1 = some ⟨g, 0, none⟩ ∧ RecB w g 0 (Rep.famK l p.1) ∧ g < w.heap.size ∧ p.2.2.1 ≤ 140737488355328 := by
  obtain ⟨k1, k2, k3, k4⟩ := hown p hp
  have hfl := fam_len hv p.1
  have hmx : p.2.2.1 ≤ 140737488355328 := by omega
  have ⟨g, hg⟩ : ∃ g, p.2.1 = some ⟨g, 0, none⟩ := by
    obtain ⟨_, _, _, hr, _⟩ := k1
    rcases hr.2 with ⟨q, z⟩ | ⟨g, cap, cur, q, _⟩
    · unfold slV at q; injection q with q1 q2 q3; omega
    · unfold slV at q; injection q with q1 q2 q3; exact ⟨g, q1⟩
  have hW : RecsW w g (Rep.famK l p.1) := own_recW (n := p.2.2.1) (cap := p.2.2.2) (by have e : slV p.2 = .slice (some ⟨g, 0, none⟩) p.2.2.1 p.2.2.2 := by unfold slV; rw [hg]
                                                                                       rw [← e]; exact k1) k2
  have h0 : 0 < (Rep.famK l p.1).length := by omega
  have hr := hW.recB.r0 h0
  rw [Nat.zero_mul] at hr
  have e := rdR_eq hg hr
  obtain ⟨r, hr1, hr2, hr3⟩ : ∃ r ∈ l, Rep.isRoot r ∧ r.key = p.1 := Classical.byContradiction fun q => by
    have := Rep.fam_none hv (k := p.1) fun r h1 h2 h3 => q ⟨r, h1, h2, h3⟩
    rw [this] at h0; exact absurd h0 (Nat.lt_irrefl _)
  have hh := (Rep.fam_head hv hr1 hr2).2
  rw [hr3] at hh
  refine ⟨⟨k3, g, 0, hg, by rw [e]; exact hr⟩, e, by rw [e, hh]; exact hr3, by rw [e, hh]; exact hr1, by rw [e, hh]; exact hr2, g, hg, hW.recB, hW.lt h0, hmx⟩
theorem lists_of {w w' : World} {lo m : Nat} {a : Option Addr} {l : List Rec} {L : List ((Int × Int) × Slc)} {A A' : List Slc} (hv : Rep.Vd l) (hl80 : l.length ≤ 80) (hnd : (L.map Prod.fst).Nodup)
    (hown : ∀ p ∈ L, OwnL recR lo 49 7 (slV p.2) w (Rep.famK l p.1) ∧ (Rep.famK l p.1).length = p.2.2.1 ∧ 0 < p.2.2.1 ∧ p.2.2.1 ≤ p.2.2.2) (hno : ∀ k, k ∉ L.map Prod.fst → Rep.famK l k = [])
    (hA : A.Perm (L.map Prod.snd)) (hA' : A'.Perm A) (hs : A'.Pairwise fun s t => ¬ Rep.ltB (rdR w t) (rdR w s)) (hS : SlcsAt w' a m A') (hE : Ext w w') : ListsAt w' a m ((Rep.rootsF l).map fun r => Rep.famK l r.key) := by
  obtain ⟨L', hp, rfl⟩ := perm_map Prod.snd (hA'.trans hA) rfl
  have hf := fun p hp' => fam_first hv hl80 hown p (hp.mem_iff.1 hp')
  have hnd' : (L'.map Prod.fst).Nodup := (hp.map _).nodup_iff.2 hnd
  have he : L'.map (fun p => Rep.famK l p.1) = (Rep.rootsF l).map fun r => Rep.famK l r.key := by
    refine Rep.fams_uniq hv ?_ fun f => ?_
    · rw [List.pairwise_map] at hs ⊢
      have hn2 : L'.Pairwise fun p q => p.1 ≠ q.1 := by have := hnd'; unfold List.Nodup at this; rw [List.pairwise_map] at this; exact this
      refine List.Pairwise.imp_of_mem (fun {p q} h1 h2 h => ?_) (hs.and hn2)
      obtain ⟨_, e1, k1, _⟩ := hf p h1
      obtain ⟨_, e2, k2, _⟩ := hf q h2
      rw [← e1, ← e2]
      rcases Rep.ltB_tri (rdR w p.2) (rdR w q.2) with z | z | z
      · exact z
      · exact absurd (k1.symm.trans (z.trans k2)) h.2
      · exact absurd z h.1
    · rw [List.mem_map]
      constructor
      · rintro ⟨p, h1, rfl⟩
        obtain ⟨_, _, k1, k2, k3, _⟩ := hf p h1
        exact ⟨_, k2, k3, by rw [k1]⟩
      · rintro ⟨r, h1, h2, rfl⟩
        have h0 := (Rep.fam_head hv h1 h2).1
        have : r.key ∈ L.map Prod.fst := Classical.byContradiction fun q => by rw [hno _ q] at h0; exact absurd h0 (Nat.lt_irrefl _)
        obtain ⟨p, q1, q2⟩ := List.mem_map.1 this
        exact ⟨p, hp.mem_iff.2 q1, by rw [q2]⟩
  rw [← he]
  refine ⟨by rw [List.length_map]; have := hS.len; rwa [List.length_map] at this, fun i hi => ?_⟩
  have hl : i < L'.length := by have := hS.len; rw [List.length_map] at this; omega
  have hx : L'[i]? = some L'[i] := List.getElem?_eq_getElem hl
  rcases hS.at_ with q | ⟨b, ha, hb, hc⟩
  · omega
  · obtain ⟨_, _, _, _, _, g, hg, hR, hgl, hmx⟩ := hf _ (List.getElem_mem hl)
    obtain ⟨_, k2, k3, _⟩ := hown _ (hp.mem_iff.1 (List.getElem_mem hl))
    refine ⟨b, g, L'[i].2.2.1, L'[i].2.2.2, _, ha, hb, by rw [List.getElem?_map, hx]; rfl, ?_, hR.ext hE, k2, k3, Nat.lt_of_lt_of_le hgl hE.size, hmx⟩
    have := hc i L'[i].2 (by rw [List.getElem?_map, hx]; rfl)
    rw [this]; unfold slV; rw [hg]
theorem keys_few {w : World} {lo : Nat} {l : List Rec} {L : List ((Int × Int) × Slc)} (hv : Rep.Vd l) (hl80 : l.length ≤ 80) (hnd : (L.map Prod.fst).Nodup) (hown : ∀ p ∈ L, OwnL recR lo 49 7 (slV p.2) w (Rep.famK l p.1) ∧ (Rep.famK l p.1).length = p.2.2.1 ∧ 0 < p.2.2.1 ∧ p.2.2.1 ≤ p.2.2.2) : L.length ≤ l.length := by
 have := nodup_len (M := l.map Rec.key) hnd fun k hk => by
  obtain ⟨p, hp, rfl⟩ := List.mem_map.1 hk
  obtain ⟨_, _, k1, k2, _⟩ := fam_first hv hl80 hown p hp
  exact List.mem_map.2 ⟨_, k2, k1⟩
 rwa [List.length_map, List.length_map] at this
theorem families_c {w0 : World} {c : Int} {a : Option Addr} {n : Nat} {l : List Rec} (k : Nat) (w : World) (H : RecsAt w0 a n l) (e0 : Ext w0 w) (hRl : RootAt w) (hv : Rep.Vd l) (hn : n ≤ 100) : Calls Tryz.prog 43 #[.agg #[.int .i64 c, .slice a n k]] w fun e w' => ∃ B lo, e = .returned (.map (some B)) ∧ FamsS w' lo B (Rep.famK l) ∧ Ext w w' := by
  rcases Nat.eq_zero_or_pos n with h0 | h0
  · subst h0
    obtain rfl := List.eq_nil_of_length_eq_zero H.len
    exact (families_0 k w H e0).mono fun _ _ ⟨B, lo, he, _, _, h, hE⟩ => ⟨B, lo, he, h.congr fun k => rfl, hE⟩
  · exact (families_p k w H e0 hRl hv h0 hn).mono fun _ _ ⟨B, lo, he, _, _, h, hE⟩ => ⟨B, lo, he, h, hE⟩
def OptL (w' : World) (o : Option (List Rec)) (a : Option Addr) (n k : Nat) (er : Int) : Prop :=
 (∃ l, o = some l ∧ er = 0 ∧ RecsAt w' a n l ∧ n ≤ k) ∨ (o = none ∧ er = 350 ∧ a = none ∧ n = 0 ∧ k = 0)
namespace Rep
def foldO (c : Int) (l : List Rec) : Option (List Rec) := if validB c l = true then some (foldF l) else none
def histO (c : Int) (l : List Rec) (k : Int × Int) : Option (List Rec) := if validB c l = true then histF l k else none
def foldG (G : List (List Rec)) : List Rec := (G.map lastR).filter fun x => decide (¬ x.x = empty)
theorem foldG_snoc {G : List (List Rec)} {i : Nat} {F : List Rec} (h : G[i]? = some F) : foldG (G.take (i + 1)) = foldG (G.take i) ++ if (lastR F).x = empty then [] else [lastR F] := by
 unfold foldG
 rw [List.take_add_one, h, List.map_append, List.filter_append]
 by_cases q : (lastR F).x = empty <;> simp [q]
theorem foldG_all {l : List Rec} {m i : Nat} (hm : ((rootsF l).map fun r => famK l r.key).length = m) (hi : m ≤ i) : foldG (((rootsF l).map fun r => famK l r.key).take i) = foldF l := by
 rw [List.take_of_length_le (by omega)]; unfold foldG foldF; rw [List.map_map]; rfl
theorem foldG_len {G : List (List Rec)} {i : Nat} (h : i ≤ 1000) : (foldG (G.take i)).length ≤ 1000 := by
 unfold foldG
 refine T (List.length_filter_le _ _) ?_
 rw [List.length_map]; exact T (List.length_take_le _ _) h
end Rep
theorem Fold_c {w0 : World} {c : Int} {a : Option Addr} {n : Nat} {l : List Rec} (k : Nat) (w : World) (H : RecsAt w0 a n l) (e0 : Ext w0 w) (hRl : RootAt w) : Calls Tryz.prog 13 #[.agg #[iv c, .slice a n k]] w fun e w' => ∃ a' n' k' er, e = .returned (.tuple #[.slice a' n' k', iv er]) ∧ OptL w' (Rep.foldO c l) a' n' k' er ∧ Ext w w' := by
 replace H := H.ext e0;clear e0;have hln := H.len;refine calls_cw 48 [(0, .agg #[iv c, .slice a n k])] Tryz.func13 rfl Tryz.ntmps13 (by kernel_rfl) (by kernel_rfl) (fun L => ?_);have hE := Ext.refl w;refine zc (zp (pS (sw 25 #[iv c, .slice a n k] ?_)));intro O1 X2 Et Er hb hbx;have ⟨B0, B2⟩ := bq2 hbx;replace hE := hE.trans hb;have Cx := hb.size;have Dl := B0.lt;refine pD (.slice none 0 0) (iv 0) ?_;refine zn (zc (cw_seq ?_));obtain ⟨q9, Ch⟩ : ∃ q, Rep.validB c l = q := ⟨_, rfl⟩
 cases q9
 ·
  refine zp (pU (.agg #[iv c, .slice a n k]) (xl (ld25 (B0.1) (B2.1))) ?_);refine pS (sc 16 #[.agg #[iv c, .slice a n k]] ((Valid_r (r := false) _ _ H hE (hRl.ext hE) Ch).mono ?_));rintro e w5 ⟨rfl, hb⟩;refine mv3 hb hE B0 B2 fun hE B0 B2=>?_;have F8 := hb.size;refine ⟨_, rfl, pT (.bool true) ?_⟩;refine zn (zt ?_);refine zc (zp (pD (.slice none 0 0) (iv 350) ?_));refine zn (cw_ret (qw_then_ret (qw_ret [.slice none 0 0, iv 350] rfl ⟨(by kernel_rfl), (by kernel_rfl), trivial⟩ ?_)));exact ⟨_, _, _, _, rfl, .inr ⟨if_neg (by rw [Ch]; exact Bool.false_ne_true), rfl, rfl, rfl, rfl⟩, hE⟩
 ·
  have hv := Rep.valid_vd Ch;have Cu := Rep.valid_len Ch;refine zp (pU (.agg #[iv c, .slice a n k]) (xl (ld25 (B0.1) (B2.1))) ?_);refine pS (sc 16 #[.agg #[iv c, .slice a n k]] ((Valid_r (r := true) _ _ H hE (hRl.ext hE) Ch).mono ?_));rintro e w7 ⟨rfl, hb⟩;refine mv3 hb hE B0 B2 fun hE B0 B2=>?_;have Cm := hb.size;refine ⟨_, rfl, pT (.bool false) ?_⟩;refine zn (zf ?_);refine cw_skip (zq (zc (zp (pT (.slice none 0 0) ?_))));refine zn (zc (zc (zp (pU (.agg #[iv c, .slice a n k]) (xl (ld25 (B0.1) (B2.1))) ?_))));refine pS (sc 43 #[.agg #[iv c, .slice a n k]] ((families_c _ _ H hE (hRl.ext hE) hv (by omega)).mono ?_));rintro e Cz ⟨B9, Eu, rfl, Dp, hb⟩;refine mv3 hb hE B0 B2 fun hE B0 B2=>?_;have Bt := hb.size;obtain ⟨LM, E1, hnd, hown, hdis, hno⟩ := Dp.out;clear hdis;have hfw := keys_few hv Cu hnd hown;have B3 := Ext.refl Cz;have Dy := E1.lt;refine ⟨_, rfl, ?_⟩;obtain ⟨Do, D6, D1, hb, Es⟩ := run_rangeS Tryz.underlying67 E1;obtain ⟨Cy, Cp⟩ : ∃ r, r = Cz.heap.size := ⟨_, rfl⟩;rw [← Cp] at D6 D1;refine pS (sn_eff (v := pw Cy 0) (ex_range rfl (by kernel_rfl) D6) ?_);refine mv4 hb hE B3 B0 B2 fun hE B3 B0 B2=>?_;have Bj := hb.size;have Ct : Cy < Do.heap.size := by omega
  refine zn (cw_block ?_);refine cw_loop [4, 16] (fun ws' wr m => ∃ aa : Option Addr, ∃ mm cc : Nat, ∃ A : List Slc, ∃ left : List ((Int × Int) × Slc), ws' = [(4, .slice aa mm cc), (16, pw Cy 0)] ∧ m = left.length ∧ Do.heap.size ≤ wr.heap.size ∧ Ext w wr ∧ Ext Cz wr ∧ BoxAt wr O1 0 (iv c) ∧ BoxAt wr O1 1 (.slice a n k) ∧ OwnL slcR Do.heap.size 23 1 (.slice aa mm cc) wr A ∧ RangeS keyV slV wr B9 Cy LM left ∧ A.length = mm ∧ (A ++ left.map Prod.snd).Perm (LM.map Prod.snd) ∧ mm + left.length = LM.length) (ws0 := [(4, .slice none 0 0), (16, pw Cy 0)]) (by kernel_rfl) _ ⟨none, 0, 0, [], LM, rfl, rfl, Nat.le_refl _, hE, B3, B0, B2, OwnL.nil _ _ _ _ _, D1, rfl, List.Perm.refl _, Nat.zero_add _⟩ ?_;clear B0 B2 hE B3;rintro Fb L ws Dz ⟨aa, mm, cc, A, left, rfl, rfl, By, hE, B3, B0, B2, ow, hRg, hAl, hPm, hmL⟩;have Eh := Ext.refl Dz;refine zc (cw_plain ?_);rcases run_nextS (P := Tryz.prog) hRg 0 with ⟨E0, Cq⟩ | ⟨E9, Cl, Ec, D5, Cq, C5, Cg, D4⟩
  ·
   refine pS (sn_eff (v := .tuple #[.bool false]) (ex_next rfl (by kernel_rfl) Cq) ?_);rw [E0, List.map_nil, List.append_nil] at hPm;rw [E0, List.length_nil] at hmL;refine pT (.bool false) ?_;refine zn (zc (zf ?_));refine cw_exit (qw_then_exit (qw_then_exit (qw_block_out (zq (zc (zp (pT (.slice aa mm cc) ?_)))))))
   have Dq : ∀ s ∈ A, IsFam Cz s := fun s hs9 => by
    obtain ⟨p9, q9, rfl⟩ := List.mem_map.1 (hPm.mem_iff.1 hs9);exact (fam_first hv Cu hown p9 q9).1
   refine pS (sc 44 #[.slice aa mm cc, .func (.func 45) #[] #[]] ((SortFams_c ow hAl (by omega) B3 Bj Dq).mono ?_));rintro e Di ⟨rfl, F2, D0, Da, D2, Cn, Db⟩;replace B0 := old_box Cn B0 (by omega);replace B2 := old_box Cn B2 (by omega);replace hE := Cn _ hE (T Cx (T Cm (T Bt Bj)));replace B3 := Cn _ B3 Bj;have Cf := Db;have hLs := lists_of hv Cu hnd hown hno hPm D0 Da D2 B3;obtain ⟨G, hG⟩ : ∃ q, q = (Rep.rootsF l).map fun r => Rep.famK l r.key := ⟨_, rfl⟩
   rw [← hG] at hLs;have B4 := Ext.refl Di;refine ⟨_, rfl, ?_⟩;refine zn (zc (zp (pT (.slice none 0 0) ?_)));refine zn (zc (zc (zp (pD (.slice aa mm cc) (iv mm) ?_))));refine pT (iv 0) ?_;refine zn (cw_block ?_);refine cw_loop [7, 27, 28, 29] (fun ws' wr m => ∃ i : Nat, ∃ ao : Option Addr, ∃ mo co : Nat, ws' = [(7, .slice ao mo co), (27, .slice aa mm cc), (28, iv mm), (29, iv i)] ∧ m = mm - i ∧ Di.heap.size ≤ wr.heap.size ∧ Ext w wr ∧ Ext Cz wr ∧ Ext Di wr ∧ OwnL recR Di.heap.size 49 7 (.slice ao mo co) wr (Rep.foldG (G.take i)) ∧ i ≤ mm ∧ (Rep.foldG (G.take i)).length = mo ∧ mo ≤ co) (ws0 := [(7, .slice none 0 0), (27, .slice aa mm cc), (28, iv mm), (29, iv 0)]) (by kernel_rfl) _ ⟨0, none, 0, 0, rfl, rfl, Nat.le_refl _, hE, B3, B4, OwnL.nil _ _ _ _ _, Nat.zero_le _, rfl, Nat.le_refl _⟩ ?_;clear hE B3 B4;rintro Fc L ws Fd ⟨i, ao, mo, co, rfl, rfl, Bv, hE, B3, B4, C6, hi, hol, Co⟩;have Bi := C6.lt
   by_cases hlt : i < mm
   ·
    obtain ⟨b9, g9, n9, c9, F9, Ei, F6, Dj, E3, Cc, Dk, F5, F7, Fa⟩ := hLs.at_ i (by omega);subst Ei;have Ek : n9 - 1 < F9.length := by omega
    by_cases hq : (recN F9 (n9 - 1)).x = Rep.empty
    ·
     refine zc (zp (pU (.bool true) (ed (((i : Nat) : Int) < ((mm : Nat) : Int)) (by omega)) ?_));refine zn (zc (zt ?_));refine cw_skip (zq (zc (cw_block ?_)));refine zc (zp (pU (pw b9 i) (xi (sv b9 0 mm cc) (iv i) (ix66z (k := i) (by omega))) ?_));refine pU (sv g9 0 n9 c9) (xl (ld23 ((B4.cell E3)))) ?_;refine pT (sv g9 0 n9 c9) ?_;refine zn (zc (zp (pD (sv g9 0 n9 c9) (sv g9 0 n9 c9) ?_)));refine pT (iv n9) ?_;refine pU (iv ((n9 - 1 : Nat) : Int)) (ev_wrapN (a := ((n9 : Nat) : Int) - ((1 : Nat) : Int)) (k := n9 - 1) (by kernel_rfl) (by omega) (by omega)) ?_;refine pU (pw g9 ((n9 - 1) * 7)) (xi (sv g9 0 n9 c9) (iv ((n9 - 1 : Nat) : Int)) (ix23z (k := n9 - 1) (by omega))) ?_;refine pU (.agg #[iv ((recN F9 (n9 - 1)).c : Int), iv ((recN F9 (n9 - 1)).n : Int), iv ((recN F9 (n9 - 1)).t : Int), iv ((recN F9 (n9 - 1)).o : Int), iv ((recN F9 (n9 - 1)).w : Int), iv ((recN F9 (n9 - 1)).k : Int), .string ((recN F9 (n9 - 1)).x)]) (xl (ld49 ((Cc.ext B4).d0 (i := n9 - 1) (by omega)) ((Cc.ext B4).d1 (i := n9 - 1) (by omega)) ((Cc.ext B4).d2 (i := n9 - 1) (by omega)) ((Cc.ext B4).d3 (i := n9 - 1) (by omega)) ((Cc.ext B4).d4 (i := n9 - 1) (by omega)) ((Cc.ext B4).d5 (i := n9 - 1) (by omega)) ((Cc.ext B4).d6 (i := n9 - 1) (by omega)))) ?_;refine pS (sw 49 #[iv 0, iv 0, iv 0, iv 0, iv 0, iv 0, .string (⟨#[]⟩)] ?_);intro Dm Ed Cd E4 hb hbx;have ⟨Bk, Bn, Bo, Bp, Bq, Br, Bm⟩ := bq7 hbx;refine mv4 hb hE B3 B4 C6 fun hE B3 B4 C6=>?_;have Du := hb.size;have Ev := Bk.lt;refine pP (sn_setK7 (O := Dm) (j := 0) (v0 := iv ((recN F9 (n9 - 1)).c : Int)) (v1 := iv ((recN F9 (n9 - 1)).n : Int)) (v2 := iv ((recN F9 (n9 - 1)).t : Int)) (v3 := iv ((recN F9 (n9 - 1)).o : Int)) (v4 := iv ((recN F9 (n9 - 1)).w : Int)) (v5 := iv ((recN F9 (n9 - 1)).k : Int)) (v6 := .string ((recN F9 (n9 - 1)).x)) (xt (pw Dm 0) (.agg #[iv ((recN F9 (n9 - 1)).c : Int), iv ((recN F9 (n9 - 1)).n : Int), iv ((recN F9 (n9 - 1)).t : Int), iv ((recN F9 (n9 - 1)).o : Int), iv ((recN F9 (n9 - 1)).w : Int), iv ((recN F9 (n9 - 1)).k : Int), .string ((recN F9 (n9 - 1)).x)]) (st49 Bk.1 Bk.2 Bn.1 Bn.2 Bo.1 Bo.2 Bp.1 Bp.2 Bq.1 Bq.2 Br.1 Br.2 Bm.1 Bm.2)) Bk Bn Bo Bp Bq Br Bm ?_);intro Ee ho Bk Bn Bo Bp Bq Br Bm hk;replace hE := ho.ext hE (by omega);replace B3 := ho.ext B3 (by omega);replace B4 := ho.ext B4 (T Bv (Nat.le_of_eq Cd));replace C6 := C6.turn ho (own_not2 Bi (Nat.le_of_eq Cd)) (fun _ _ _ h => by rw [h.2]; exact fun b hb => by cases hb);have Dv := Nat.le_of_eq ho.size.symm;clear ho hk;refine zn (cK [7,10,27,28,29] (fun L => ?_));refine zc (zp (pT (pw Dm 6) ?_));refine pU (.string ((recN F9 (n9 - 1)).x)) (xl (ld9 (Bm.1))) ?_;refine pU (.bool false) (ex_binV (a := .string ((recN F9 (n9 - 1)).x)) (b := .string (⟨#[]⟩)) rfl (by kernel_rfl) (by kernel_rfl) eqG_str (bin_nqs_t hq)) ?_;refine zn (zf ?_);refine cw_skip (qw_block (zq (zp (pU (iv ((i + 1 : Nat) : Int)) (ew (by omega) (by omega)) ?_))));refine pT (iv ((i + 1 : Nat) : Int)) ?_;refine pl_nil (qw_round [7, 27, 28, 29] (ws' := [(7, .slice ao mo co), (27, sv b9 0 mm cc), (28, iv mm), (29, iv ((i + 1 : Nat) : Int))]) (by kernel_rfl) _ ?_ ⟨(i + 1), ao, mo, co, rfl, rfl, (T Bv (T Du Dv)), hE, B3, B4, (by rw [Rep.foldG_snoc Dj, show Rep.lastR F9 = recN F9 (n9 - 1) by unfold Rep.lastR; rw [Dk], if_pos hq, List.append_nil]; exact C6), by omega, (by rw [Rep.foldG_snoc Dj, show Rep.lastR F9 = recN F9 (n9 - 1) by unfold Rep.lastR; rw [Dk], if_pos hq, List.append_nil]; exact hol), Co⟩);omega
    ·
     refine zc (zp (pU (.bool true) (ed (((i : Nat) : Int) < ((mm : Nat) : Int)) (by omega)) ?_));refine zn (zc (zt ?_));refine cw_skip (zq (zc (cw_block ?_)));refine zc (zp (pU (pw b9 i) (xi (sv b9 0 mm cc) (iv i) (ix66z (k := i) (by omega))) ?_));refine pU (sv g9 0 n9 c9) (xl (ld23 ((B4.cell E3)))) ?_;refine pT (sv g9 0 n9 c9) ?_;refine zn (zc (zp (pD (sv g9 0 n9 c9) (sv g9 0 n9 c9) ?_)));refine pT (iv n9) ?_;refine pU (iv ((n9 - 1 : Nat) : Int)) (ev_wrapN (a := ((n9 : Nat) : Int) - ((1 : Nat) : Int)) (k := n9 - 1) (by kernel_rfl) (by omega) (by omega)) ?_;refine pU (pw g9 ((n9 - 1) * 7)) (xi (sv g9 0 n9 c9) (iv ((n9 - 1 : Nat) : Int)) (ix23z (k := n9 - 1) (by omega))) ?_;refine pU (.agg #[iv ((recN F9 (n9 - 1)).c : Int), iv ((recN F9 (n9 - 1)).n : Int), iv ((recN F9 (n9 - 1)).t : Int), iv ((recN F9 (n9 - 1)).o : Int), iv ((recN F9 (n9 - 1)).w : Int), iv ((recN F9 (n9 - 1)).k : Int), .string ((recN F9 (n9 - 1)).x)]) (xl (ld49 ((Cc.ext B4).d0 (i := n9 - 1) (by omega)) ((Cc.ext B4).d1 (i := n9 - 1) (by omega)) ((Cc.ext B4).d2 (i := n9 - 1) (by omega)) ((Cc.ext B4).d3 (i := n9 - 1) (by omega)) ((Cc.ext B4).d4 (i := n9 - 1) (by omega)) ((Cc.ext B4).d5 (i := n9 - 1) (by omega)) ((Cc.ext B4).d6 (i := n9 - 1) (by omega)))) ?_;refine pS (sw 49 #[iv 0, iv 0, iv 0, iv 0, iv 0, iv 0, .string (⟨#[]⟩)] ?_);intro Dn Ef Bh E5 hb hbx;have ⟨B7, Bb, Bc, Be, Bf, Bg, B8⟩ := bq7 hbx;refine mv4 hb hE B3 B4 C6 fun hE B3 B4 C6=>?_;have Bw := hb.size;have Ew := B7.lt;refine pP (sn_setK7 (O := Dn) (j := 0) (v0 := iv ((recN F9 (n9 - 1)).c : Int)) (v1 := iv ((recN F9 (n9 - 1)).n : Int)) (v2 := iv ((recN F9 (n9 - 1)).t : Int)) (v3 := iv ((recN F9 (n9 - 1)).o : Int)) (v4 := iv ((recN F9 (n9 - 1)).w : Int)) (v5 := iv ((recN F9 (n9 - 1)).k : Int)) (v6 := .string ((recN F9 (n9 - 1)).x)) (xt (pw Dn 0) (.agg #[iv ((recN F9 (n9 - 1)).c : Int), iv ((recN F9 (n9 - 1)).n : Int), iv ((recN F9 (n9 - 1)).t : Int), iv ((recN F9 (n9 - 1)).o : Int), iv ((recN F9 (n9 - 1)).w : Int), iv ((recN F9 (n9 - 1)).k : Int), .string ((recN F9 (n9 - 1)).x)]) (st49 B7.1 B7.2 Bb.1 Bb.2 Bc.1 Bc.2 Be.1 Be.2 Bf.1 Bf.2 Bg.1 Bg.2 B8.1 B8.2)) B7 Bb Bc Be Bf Bg B8 ?_);intro Eg ho B7 Bb Bc Be Bf Bg B8 hk;replace hE := ho.ext hE (by omega);replace B3 := ho.ext B3 (by omega);replace B4 := ho.ext B4 (T Bv (Nat.le_of_eq Bh));replace C6 := C6.turn ho (own_not2 Bi (Nat.le_of_eq Bh)) (fun _ _ _ h => by rw [h.2]; exact fun b hb => by cases hb);have Bx := Nat.le_of_eq ho.size.symm;clear ho hk;refine zn (cK [7,10,27,28,29] (fun L => ?_));refine zc (zp (pT (pw Dn 6) ?_));refine pU (.string ((recN F9 (n9 - 1)).x)) (xl (ld9 (B8.1))) ?_;refine pU (.bool true) (ex_binV (a := .string ((recN F9 (n9 - 1)).x)) (b := .string (⟨#[]⟩)) rfl (by kernel_rfl) (by kernel_rfl) eqG_str (bin_nqs_f hq)) ?_;refine zn (zt ?_);refine zp (pT (.slice ao mo co) ?_);refine pU (.agg #[iv ((recN F9 (n9 - 1)).c : Int), iv ((recN F9 (n9 - 1)).n : Int), iv ((recN F9 (n9 - 1)).t : Int), iv ((recN F9 (n9 - 1)).o : Int), iv ((recN F9 (n9 - 1)).w : Int), iv ((recN F9 (n9 - 1)).k : Int), .string ((recN F9 (n9 - 1)).x)]) (xl (ld49 (B7.1) (Bb.1) (Bc.1) (Be.1) (Bf.1) (Bg.1) (B8.1))) ?_;refine pS (sn_newS (us := #[iv ((recN F9 (n9 - 1)).c : Int), iv ((recN F9 (n9 - 1)).n : Int), iv ((recN F9 (n9 - 1)).t : Int), iv ((recN F9 (n9 - 1)).o : Int), iv ((recN F9 (n9 - 1)).w : Int), iv ((recN F9 (n9 - 1)).k : Int), .string ((recN F9 (n9 - 1)).x)]) (t := 49) (k := 1) (c := 1) (by kernel_rfl) ?_);intro Ea F3 Bs E6 hb hbx;have ⟨Bu, Bz, C0, C1, C2, C3, C4⟩ := bq7 hbx;refine mv4 hb hE B3 B4 C6 fun hE B3 B4 C6=>?_;have D7 := hb.size;have Ey := Bu.lt;have Dr := Rep.foldG_len (G := G) (show i ≤ 1000 by omega);have E2 := C6.base;obtain ⟨Cv, C7, F0, Cr, Ce, Cb, Ba⟩ := own_app1k (P := Tryz.prog) (ty := 23) recT (C6) (T Bv (T Bw (T Bx D7))) (k := mo) hol (O := Ea) (c := 1) (x := (recN F9 (n9 - 1))) (d := [iv ((recN F9 (n9 - 1)).c : Int), iv ((recN F9 (n9 - 1)).n : Int), iv ((recN F9 (n9 - 1)).t : Int), iv ((recN F9 (n9 - 1)).o : Int), iv ((recN F9 (n9 - 1)).w : Int), iv ((recN F9 (n9 - 1)).k : Int), .string ((recN F9 (n9 - 1)).x)]) (F := []) rfl (cells7 (Bu.1) (Bz.1) (C0.1) (C1.1) (C2.1) (C3.1) (C4.1)) (by simp [Value.oneCell']) (⟨rfl, rfl⟩) (fun b hb => by cases hb) (by omega) (by omega);refine pS (sn_eff (v := sv Cv 0 (mo + 1) C7) (w' := F0) (ex_append rfl (by kernel_rfl) (by kernel_rfl) Cr) ?_);replace hE := Cb.ext _ hE (T Cx (T Cm (T Bt (T Bj (T By Cf)))));replace B3 := Cb.ext _ B3 (T Bj (T By Cf));replace B4 := Cb.ext _ B4 (Nat.le_refl _);have Dw := Cb.size;have En := Ce.base Cv rfl;have El := Ce.lt Cv rfl;have D3 := (own_capR Ce (by rw [List.length_append, hol]; rfl));refine pT (sv Cv 0 (mo + 1) C7) ?_;refine pl_nil (qw_block (zq (zp (pU (iv ((i + 1 : Nat) : Int)) (ew (by omega) (by omega)) ?_))));refine pT (iv ((i + 1 : Nat) : Int)) ?_;refine pl_nil (qw_round [7, 27, 28, 29] (ws' := [(7, sv Cv 0 (mo + 1) C7), (27, sv b9 0 mm cc), (28, iv mm), (29, iv ((i + 1 : Nat) : Int))]) (by kernel_rfl) _ ?_ ⟨(i + 1), (some ⟨Cv, 0, none⟩), (mo + 1), C7, rfl, rfl, (T Bv (T Bw (T Bx (T D7 Dw)))), hE, B3, B4, (by rw [Rep.foldG_snoc Dj, show Rep.lastR F9 = recN F9 (n9 - 1) by unfold Rep.lastR; rw [Dk], if_neg hq]; exact Ce), by omega, (by rw [Rep.foldG_snoc Dj, show Rep.lastR F9 = recN F9 (n9 - 1) by unfold Rep.lastR; rw [Dk], if_neg hq, List.length_append, hol]; rfl), D3⟩);omega
   ·
    refine zc (zp (pU (.bool false) (en (((i : Nat) : Int) < ((mm : Nat) : Int)) (by omega)) ?_));refine zn (zc (zf ?_));refine cw_exit (qw_then_exit (qw_then_exit (qw_block_out (zq (zc (zp (pD (.slice ao mo co) (.slice ao mo co) ?_)))))));refine pT (iv 0) ?_;refine zn (cw_ret (qw_ret [.slice ao mo co, iv 0] rfl ⟨(by kernel_rfl), (by kernel_rfl), trivial⟩ ?_));have Dr := Rep.foldG_len (G := G) (show i ≤ 1000 by omega);have Ej : Rep.foldG (G.take i) = Rep.foldF l := by rw [hG];exact Rep.foldG_all (m := mm) (by rw [← hG]; exact hLs.len) (by omega)
    exact ⟨_, _, _, _, rfl, .inl ⟨Rep.foldF l, if_pos Ch, rfl, by rw [← Ej]; exact own_recs C6 hol (by omega), Co⟩, hE⟩
  ·
   refine pS (sn_eff (v := .tuple #[.bool true, keyV Cl.1, slV Cl.2]) (ex_next rfl (by kernel_rfl) Cq) ?_);replace hE := Cg.ext hE (T (T Cx (T Cm Bt)) (Nat.le_of_eq Cp.symm));replace B3 := Cg.ext B3 (Nat.le_of_eq Cp.symm);replace B0 := (Cg.mv0).box B0;replace B2 := (Cg.mv0).box B2;replace ow := (Cg.mv0).own ow;have D8 : Dz.heap.size ≤ Ec.heap.size := Nat.le_of_eq Cg.size.symm;have Ep := len_erase D5;have Dt : mm + 1 + (left.eraseIdx E9).length = LM.length := by omega
   refine pT (.bool true) ?_;refine zn (zc (zt ?_));refine cw_skip (zq (cw_block ?_));refine zc (zp (pU (.tuple #[keyV Cl.1, slV Cl.2]) (ex_entry rfl (by kernel_rfl) D4) ?_));refine pD (slV Cl.2) (slV Cl.2) ?_;refine zn (zp (pD (.slice aa mm cc) (slV Cl.2) ?_));refine pS (sn_newS (us := #[slV Cl.2]) (t := 23) (k := 1) (c := 1) (by kernel_rfl) ?_);intro Eb F4 E8 E7 hb hbx;have Ci := bq1 hbx;refine mv6 hb hE B3 B0 B2 ow C5 fun hE B3 B0 B2 ow C5=>?_;have D9 := hb.size;have Ez := Ci.lt;have C9 := ow.base;obtain ⟨Cw, C8, F1, Cs, Ck, Cj, Ca⟩ := own_app1k (P := Tryz.prog) (ty := 66) slcT (ow) (T By (T D8 D9)) (k := mm) hAl (O := Eb) (c := 1) (x := Cl.2) (d := [slV Cl.2]) (F := []) rfl (cells1 (Ci.1)) (by simp [Value.oneCell', slV]) (⟨rfl, rfl⟩) (fun b hb => by cases hb) (by omega) (by omega);refine pS (sn_eff (v := sv Cw 0 (mm + 1) C8) (w' := F1) (ex_append rfl (by kernel_rfl) (by kernel_rfl) Cs) ?_);replace B0 := BoxAt.grownR B0 Ca (own_not C9 (by omega));replace B2 := BoxAt.grownR B2 Ca (own_not C9 (by omega));replace C5 := C5.blocks (Ca.block _ C5.map.lt (fun e => own_not C9 (Nat.lt_of_lt_of_le Dy Bj) e.symm)) (Ca.block _ C5.lt (fun e => own_not C9 (Nat.lt_of_lt_of_le Ct (Nat.le_refl _)) e.symm));replace hE := Cj.ext _ hE (T Cx (T Cm (T Bt Bj)));replace B3 := Cj.ext _ B3 Bj;have Dx := Cj.size;have Eo := Ck.base Cw rfl;have Em := Ck.lt Cw rfl;refine pT (sv Cw 0 (mm + 1) C8) ?_;refine pl_nil (qw_block (qw_round [4, 16] (ws' := [(4, sv Cw 0 (mm + 1) C8), (16, pw Cy 0)]) (by kernel_rfl) _ ?_ ⟨(some ⟨Cw, 0, none⟩), (mm + 1), C8, (A ++ [Cl.2]), (left.eraseIdx E9), rfl, rfl, (T By (T D8 (T D9 Dx))), hE, B3, B0, B2, Ck, C5, (by rw [List.length_append, hAl]; rfl), (perm_next hPm D5), Dt⟩));omega
theorem History_c {w0 : World} {c : Int} {a : Option Addr} {n : Nat} {l : List Rec} (k : Nat) (cc nn : Int) (w : World) (H : RecsAt w0 a n l) (e0 : Ext w0 w) (hRl : RootAt w) : Calls Tryz.prog 24 #[.agg #[iv c, .slice a n k], iv cc, iv nn] w fun e w' => ∃ a' n' k' er, e = .returned (.tuple #[.slice a' n' k', iv er]) ∧ OptL w' (Rep.histO c l (cc, nn)) a' n' k' er ∧ Ext w w' := by
 replace H := H.ext e0;clear e0;have hln := H.len;refine calls_cw 33 [(2, iv nn), (1, iv cc), (0, .agg #[iv c, .slice a n k])] Tryz.func24 rfl Tryz.ntmps24 (by kernel_rfl) (by kernel_rfl) (fun L => ?_);have hE := Ext.refl w;refine zc (zp (pS (sw 25 #[iv c, .slice a n k] ?_)));intro O1 X2 Cu Cs hb hbx;have ⟨B0, B2⟩ := bq2 hbx;replace hE := hE.trans hb;have C7 := hb.size;have Cb := B0.lt;refine pD (.slice none 0 0) (iv 0) ?_;refine zn (zc (cw_seq ?_));obtain ⟨q9, Bn⟩ : ∃ q, Rep.validB c l = q := ⟨_, rfl⟩
 cases q9
 ·
  refine zp (pU (.agg #[iv c, .slice a n k]) (xl (ld25 (B0.1) (B2.1))) ?_);refine pS (sc 16 #[.agg #[iv c, .slice a n k]] ((Valid_r (r := false) _ _ H hE (hRl.ext hE) Bn).mono ?_));rintro e w5 ⟨rfl, hb⟩;refine mv3 hb hE B0 B2 fun hE B0 B2=>?_;have D2 := hb.size;refine ⟨_, rfl, pT (.bool true) ?_⟩;refine zn (zt ?_);refine zc (zp (pD (.slice none 0 0) (iv 350) ?_));refine zn (cw_ret (qw_then_ret (qw_ret [.slice none 0 0, iv 350] rfl ⟨(by kernel_rfl), (by kernel_rfl), trivial⟩ ?_)));exact ⟨_, _, _, _, rfl, .inr ⟨if_neg (by rw [Bn]; exact Bool.false_ne_true), rfl, rfl, rfl, rfl⟩, hE⟩
 ·
  have hv := Rep.valid_vd Bn;have Ct := Rep.valid_len Bn;refine zp (pU (.agg #[iv c, .slice a n k]) (xl (ld25 (B0.1) (B2.1))) ?_);refine pS (sc 16 #[.agg #[iv c, .slice a n k]] ((Valid_r (r := true) _ _ H hE (hRl.ext hE) Bn).mono ?_));rintro e w7 ⟨rfl, hb⟩;refine mv3 hb hE B0 B2 fun hE B0 B2=>?_;have C0 := hb.size;refine ⟨_, rfl, pT (.bool false) ?_⟩;refine zn (zf ?_);refine cw_skip (zq (zc (zp (pT (pw O1 1) ?_))));refine pU (.slice a n k) (xl (ld23 (B2.1))) ?_;refine pS (sc 52 #[.slice a n k] ((booked_c _ _ H hE).mono ?_));rintro e D3 ⟨B9, rfl, Cj, Be, hb⟩;refine mv3 hb hE B0 B2 fun hE B0 B2=>?_;have Bs := hb.size;have Bz := Be.lt;refine ⟨_, rfl, pT (.map (some B9)) ?_⟩;refine zn (cw_seq ?_);rcases hf9 : Rep.findK l (cc, nn) with _ | x9
  ·
   have hg : getM (cc, nn) (Rep.bookL l) = none := (Rep.book_get hv.keys _).trans hf9;refine zp (pD (.map (some B9)) (iv cc) ?_);refine pD (iv nn) (.agg #[iv cc, iv nn]) ?_;refine pU (.tuple #[.agg #[iv 0, iv 0, iv 0, iv 0, iv 0, iv 0, .string (⟨#[]⟩)], .bool false]) (ex_lookup rfl (by kernel_rfl) (by kernel_rfl) (lookup_is2 (run_lookup2 Tryz.underlying79 Be key_law (cc, nn) (zero_rec _)) hg)) ?_;refine pD (.tuple #[.agg #[iv 0, iv 0, iv 0, iv 0, iv 0, iv 0, .string (⟨#[]⟩)], .bool false]) (.agg #[iv 0, iv 0, iv 0, iv 0, iv 0, iv 0, .string (⟨#[]⟩)]) ?_;refine pT (.bool false) ?_;refine pS (sw 49 #[iv 0, iv 0, iv 0, iv 0, iv 0, iv 0, .string (⟨#[]⟩)] ?_);intro C5 Cd Bo C9 hb hbx;have ⟨Bf, Bg, Bh, Bi, Bj, Bk, Bm⟩ := bq7 hbx;refine mv4 hb hE B0 B2 Be fun hE B0 B2 Be=>?_;have Cl := hb.size;have Cw := Bf.lt;refine pP (sn_setK7 (O := C5) (j := 0) (v0 := iv 0) (v1 := iv 0) (v2 := iv 0) (v3 := iv 0) (v4 := iv 0) (v5 := iv 0) (v6 := .string (⟨#[]⟩)) (xt (pw C5 0) (.agg #[iv 0, iv 0, iv 0, iv 0, iv 0, iv 0, .string (⟨#[]⟩)]) (st49 Bf.1 Bf.2 Bg.1 Bg.2 Bh.1 Bh.2 Bi.1 Bi.2 Bj.1 Bj.2 Bk.1 Bk.2 Bm.1 Bm.2)) Bf Bg Bh Bi Bj Bk Bm ?_);intro Ce ho Bf Bg Bh Bi Bj Bk Bm hk;replace hE := ho.ext hE (T (T C7 (T C0 Bs)) (Nat.le_of_eq Bo));have q9 := ho.bx O1 (by omega);replace B0 := q9 B0;replace B2 := q9 B2;clear q9;replace Be := Be.block (ho.heap' _ (by omega));have Cm := Nat.le_of_eq ho.size.symm;clear ho hk;refine pT (.bool false) ?_;refine zn (cK [3,8,9,10] (fun L => ?_));refine zc (zc (zp (pD (.bool false) (.bool true) ?_)));refine zn (zt ?_);refine zc (zp (pD (.slice none 0 0) (iv 350) ?_));refine zn (cw_ret (qw_then_ret (qw_ret [.slice none 0 0, iv 350] rfl ⟨(by kernel_rfl), (by kernel_rfl), trivial⟩ ?_)));exact ⟨_, _, _, _, rfl, .inr ⟨(by unfold Rep.histO Rep.histF; rw [if_pos Bn, hf9]; rfl), rfl, rfl, rfl, rfl⟩, hE⟩
  ·
   have hg : getM (cc, nn) (Rep.bookL l) = some x9 := (Rep.book_get hv.keys _).trans hf9;have C8 := (Rep.findK_some hf9).1;obtain ⟨C3, C4, _⟩ := Rep.rt_is hv x9 C8;have C2 : Rep.famK l (Rep.rt l x9).key ≠ [] := List.ne_nil_of_length_pos (Rep.fam_head hv C3 C4).1;refine zp (pD (.map (some B9)) (iv cc) ?_);refine pD (iv nn) (.agg #[iv cc, iv nn]) ?_;refine pU (.tuple #[.agg #[iv x9.c, iv x9.n, iv x9.t, iv x9.o, iv x9.w, iv x9.k, .string x9.x], .bool true]) (ex_lookup rfl (by kernel_rfl) (by kernel_rfl) (lookup_is2 (run_lookup2 Tryz.underlying79 Be key_law (cc, nn) (zero_rec _)) hg)) ?_;refine pD (.tuple #[.agg #[iv x9.c, iv x9.n, iv x9.t, iv x9.o, iv x9.w, iv x9.k, .string x9.x], .bool true]) (.agg #[iv x9.c, iv x9.n, iv x9.t, iv x9.o, iv x9.w, iv x9.k, .string x9.x]) ?_;refine pT (.bool true) ?_;refine pS (sw 49 #[iv 0, iv 0, iv 0, iv 0, iv 0, iv 0, .string (⟨#[]⟩)] ?_);intro Bq Cf Bp Ca hb hbx;have ⟨B3, B4, B7, B8, Ba, Bb, Bc⟩ := bq7 hbx;refine mv4 hb hE B0 B2 Be fun hE B0 B2 Be=>?_;have Cn := hb.size;have Cx := B3.lt;refine pP (sn_setK7 (O := Bq) (j := 0) (v0 := iv x9.c) (v1 := iv x9.n) (v2 := iv x9.t) (v3 := iv x9.o) (v4 := iv x9.w) (v5 := iv x9.k) (v6 := .string x9.x) (xt (pw Bq 0) (.agg #[iv x9.c, iv x9.n, iv x9.t, iv x9.o, iv x9.w, iv x9.k, .string x9.x]) (st49 B3.1 B3.2 B4.1 B4.2 B7.1 B7.2 B8.1 B8.2 Ba.1 Ba.2 Bb.1 Bb.2 Bc.1 Bc.2)) B3 B4 B7 B8 Ba Bb Bc ?_);intro Cg ho B3 B4 B7 B8 Ba Bb Bc hk;replace hE := ho.ext hE (T (T C7 (T C0 Bs)) (Nat.le_of_eq Bp));have q9 := ho.bx O1 (by omega);replace B0 := q9 B0;replace B2 := q9 B2;clear q9;replace Be := Be.block (ho.heap' _ (by omega));have Co := Nat.le_of_eq ho.size.symm;clear ho hk;refine pT (.bool true) ?_;refine zn (cK [3,8,9,10] (fun L => ?_));refine zc (zc (zp (pD (.bool true) (.bool false) ?_)));refine zn (zf ?_);refine cw_skip (zq (zc (dE Tz41_0 (fun w' => w'.cell? ⟨O1, 0, none⟩ = some (iv c) ∧ w'.cell? ⟨O1, 1, none⟩ = some (.slice a n k) ∧ w'.cell? ⟨Bq, 0, none⟩ = some (iv x9.c) ∧ w'.cell? ⟨Bq, 1, none⟩ = some (iv x9.n) ∧ w'.cell? ⟨Bq, 2, none⟩ = some (iv x9.t) ∧ w'.cell? ⟨Bq, 3, none⟩ = some (iv x9.o) ∧ w'.cell? ⟨Bq, 4, none⟩ = some (iv x9.w) ∧ w'.cell? ⟨Bq, 5, none⟩ = some (iv x9.k) ∧ w'.cell? ⟨Bq, 6, none⟩ = some (.string x9.x)) (⟨B0.1, B2.1, B3.1, B4.1, B7.1, B8.1, Ba.1, Bb.1, Bc.1⟩) (fun ops Q D1 hb hL hR hK => ?_))));refine mv9 hb hE B0 B2 Be B3 B4 B7 B8 Ba fun hE B0 B2 Be B3 B4 B7 B8 Ba=>?_;refine mv2 hb Bb Bc fun Bb Bc=>?_;have Cp := hb.size;have hS := A9 B0.1 B2.1 B3.1 B4.1 B7.1 B8.1 Ba.1 Bb.1 Bc.1;refine wM 0 (.agg #[iv c, .slice a n k]) hR (fun w hS => ld25 (hS.1) (hS.2.1)) hS ?_;refine wV 2 (.map (some B9)) hR hS ?_;refine wM 3 (.agg #[iv x9.c, iv x9.n, iv x9.t, iv x9.o, iv x9.w, iv x9.k, .string x9.x]) hR (fun w hS => ld49 (hS.2.2.1) (hS.2.2.2.1) (hS.2.2.2.2.1) (hS.2.2.2.2.2.1) (hS.2.2.2.2.2.2.1) (hS.2.2.2.2.2.2.2.1) (hS.2.2.2.2.2.2.2.2)) hS ?_;refine wC 1 43 #[.agg #[iv c, .slice a n k]] hR ((families_c _ _ H hE (hRl.ext hE) hv (by omega)).mono ?_);rintro e Cc ⟨D0, Cv, rfl, C1, hb⟩;refine mv9 hb hE B0 B2 Be B3 B4 B7 B8 Ba fun hE B0 B2 Be B3 B4 B7 B8 Ba=>?_;refine mv2 hb Bb Bc fun Bb Bc=>?_;have Cq := hb.size;obtain ⟨L, C6, a9, n9, c9, Ch, Ck, Ci⟩ := C1.get C2 (by have := fam_len hv (Rep.rt l x9).key; omega);have Br := Ext.refl Cc;have Cy := C6.lt;refine ⟨_, rfl, ⟨B0.1, B2.1, B3.1, B4.1, B7.1, B8.1, Ba.1, Bb.1, Bc.1⟩, ?_⟩;refine wC 4 59 #[.map (some B9), .agg #[iv x9.c, iv x9.n, iv x9.t, iv x9.o, iv x9.w, iv x9.k, .string x9.x]] hR ((root_c x9 _ Be (Ext.refl _) hv C8 (hRl.ext hE)).mono ?_);rintro e Cz ⟨rfl, hb⟩;refine mv9 hb hE Br B0 B2 B3 B4 B7 B8 Ba fun hE Br B0 B2 B3 B4 B7 B8 Ba=>?_;refine mv2 hb Bb Bc fun Bb Bc=>?_;have Cr := hb.size;refine ⟨_, rfl, ⟨B0.1, B2.1, B3.1, B4.1, B7.1, B8.1, Ba.1, Bb.1, Bc.1⟩, ?_⟩;refine wS 5 hR (sn_eff (v := .slice a9 n9 c9) (w' := Cz) (ex_lookup rfl (by kernel_rfl) (by kernel_rfl) (lookup_is1 (run_lookup1 Tryz.underlying67 (C6.ext Br) key_law ((Rep.rt l x9).c, (Rep.rt l x9).n) (zero_slc _)) Ch)) ⟨⟨B0.1, B2.1, B3.1, B4.1, B7.1, B8.1, Ba.1, Bb.1, Bc.1⟩, ?_⟩);have hS := A9 B0.1 B2.1 B3.1 B4.1 B7.1 B8.1 Ba.1 Bb.1 Bc.1;refine wW 6 (.slice a9 n9 c9) 7 (iv 0) hR hS ?_;refine we hL hR hK ?_;refine zq (cw_ret (qw_ret [.slice a9 n9 c9, iv 0] rfl ⟨(by kernel_rfl), (by kernel_rfl), trivial⟩ ?_));exact ⟨_, _, _, _, rfl, .inl ⟨_, (by unfold Rep.histO Rep.histF; rw [if_pos Bn, hf9]; rfl), rfl, Ck.ext Br, Ci⟩, hE⟩
end Go.Proofs.YtfmoabgjaclkpaaGreatDoor
