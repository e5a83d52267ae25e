/- Part 2 of what the proof of MachineLeast stands on. -/
import Derived.Test.YtpfajhcdfgpgmaaDoorV1MachineLeast
import Derived.ChangeKeysEq
import Derived.Deep.MidRow
import Derived.MapKept
namespace Go.Proofs.YtpfajhcdfgpgmaaDoor
namespace Bdd
inductive D where
 | leaf (b : Bool)
 | nd (e : Nat) (no yes : D)
deriving DecidableEq
def sem : D → (Nat → Bool) → Bool
 | .leaf b, _ => b
 | .nd e a b, s => if s e then sem b s else sem a s
def OK : Nat → Nat → D → Prop
 | _, _, .leaf _ => True
 | k, n, .nd e a b => k ≤ e ∧ e < n ∧ a ≠ b ∧ OK (e + 1) n a ∧ OK (e + 1) n b
theorem OK.mono : ∀ {t : D} {j k n : Nat}, OK k n t → j ≤ k → OK j n t
 | .leaf _, _, _, _, _, _ => trivial
 | .nd _ _ _, _, _, _, ⟨h1, h2⟩, h => ⟨Tq h h1, h2⟩
theorem OK.congr : ∀ {t : D} {k n : Nat}, OK k n t → ∀ {s s' : Nat → Bool}, (∀ i, k ≤ i → i < n → s i = s' i) → sem t s = sem t s'
 | .leaf _, _, _, _, _, _, _ => rfl
 | .nd e a b, k, n, ⟨h1, h2, h3, h4, h5⟩, s, s', h => by
  have ha := OK.congr h4 (s := s) (s' := s') fun i hi => h i (by omega)
  have hb := OK.congr h5 (s := s) (s' := s') fun i hi => h i (by omega)
  simp only [sem, h e h1 h2, ha, hb]
def upd (s : Nat → Bool) (e : Nat) (b : Bool) : Nat → Bool := fun i => if i = e then b else s i
theorem sem_no {e : Nat} {a b : D} {n : Nat} (h : OK (e + 1) n a) (s : Nat → Bool) : sem (.nd e a b) (upd s e false) = sem a s := by
 simp only [sem, upd, if_true]
 exact h.congr fun i hi _ => if_neg (by omega)
theorem sem_yes {e : Nat} {a b : D} {n : Nat} (h : OK (e + 1) n b) (s : Nat → Bool) : sem (.nd e a b) (upd s e true) = sem b s := by
 simp only [sem, upd, if_true]
 exact h.congr fun i hi _ => if_neg (by omega)
theorem sem_old {e : Nat} {t : D} {n : Nat} {v : Bool} (h : OK (e + 1) n t) (s : Nat → Bool) : sem t (upd s e v) = sem t s := h.congr fun i hi _ => if_neg (by omega)
def sz : D → Nat
 | .leaf _ => 0
 | .nd _ a b => sz a + sz b + 1
theorem uniq_aux : ∀ (m : Nat) {a b : D} {k n : Nat}, sz a + sz b ≤ m → OK k n a → OK k n b → (∀ s, sem a s = sem b s) → a = b
  | _, .leaf x, .leaf y, _, _, _, _, _, h => by rw [show x = y from h fun _ => false]
  | 0, .leaf _, .nd _ _ _, _, _, hm, _, _, _ => by simp [sz] at hm
  | 0, .nd _ _ _, _, _, _, hm, _, _, _ => by simp [sz] at hm
  | m + 1, .leaf x, .nd e a b, k, n, hm, _, ⟨h1, h2, h3, h4, h5⟩, h => by
    simp only [sz] at hm
    have ea : D.leaf x = a := uniq_aux m (k := e + 1) (n := n) (by simp only [sz]; omega) trivial h4 fun s => (h (upd s e false)).trans (sem_no h4 s)
    have eb : D.leaf x = b := uniq_aux m (k := e + 1) (n := n) (by simp only [sz]; omega) trivial h5 fun s => (h (upd s e true)).trans (sem_yes h5 s)
    exact absurd (ea.symm.trans eb) h3
  | m + 1, .nd e a b, .leaf x, k, n, hm, ⟨h1, h2, h3, h4, h5⟩, _, h => by
    simp only [sz] at hm
    have ea : a = D.leaf x := uniq_aux m (k := e + 1) (n := n) (by simp only [sz]; omega) h4 trivial fun s => (sem_no h4 s).symm.trans (h (upd s e false))
    have eb : b = D.leaf x := uniq_aux m (k := e + 1) (n := n) (by simp only [sz]; omega) h5 trivial fun s => (sem_yes h5 s).symm.trans (h (upd s e true))
    exact absurd (ea.trans eb.symm) h3
  | m + 1, .nd e a b, .nd f c d, k, n, hm, ⟨h1, h2, h3, h4, h5⟩, ⟨g1, g2, g3, g4, g5⟩, h => by
    simp only [sz] at hm
    rcases Nat.lt_trichotomy e f with q | q | q
    · have hd : OK (e + 1) n (.nd f c d) := ⟨q, g2, g3, g4, g5⟩
      have ea : a = .nd f c d := uniq_aux m (k := e + 1) (n := n) (by simp only [sz]; omega) h4 hd fun s => by rw [← sem_no (b := b) h4 s, h, sem_old hd]
      have eb : b = .nd f c d := uniq_aux m (k := e + 1) (n := n) (by simp only [sz]; omega) h5 hd fun s => by rw [← sem_yes (a := a) h5 s, h, sem_old hd]
      exact absurd (ea.trans eb.symm) h3
    · subst q
      have ea : a = c := uniq_aux m (k := e + 1) (n := n) (by omega) h4 g4 fun s => by rw [← sem_no (b := b) h4 s, h, sem_no g4]
      have eb : b = d := uniq_aux m (k := e + 1) (n := n) (by omega) h5 g5 fun s => by rw [← sem_yes (a := a) h5 s, h, sem_yes g5]
      rw [ea, eb]
    · have hd : OK (f + 1) n (.nd e a b) := ⟨q, h2, h3, h4, h5⟩
      have ea : .nd e a b = c := uniq_aux m (k := f + 1) (n := n) (by simp only [sz]; omega) hd g4 fun s => by rw [← sem_no (b := d) g4 s, ← h, sem_old hd]
      have eb : .nd e a b = d := uniq_aux m (k := f + 1) (n := n) (by simp only [sz]; omega) hd g5 fun s => by rw [← sem_yes (a := c) g5 s, ← h, sem_old hd]
      exact absurd (ea.symm.trans eb) g3
theorem uniq {a b : D} {k n : Nat} (ha : OK k n a) (hb : OK k n b) (h : ∀ s, sem a s = sem b s) : a = b := uniq_aux _ (Nat.le_refl _) ha hb h
def mk (e : Nat) (a b : D) : D := if a = b then a else .nd e a b
theorem sem_mk {e : Nat} {a b : D} (s : Nat → Bool) : sem (mk e a b) s = if s e then sem b s else sem a s := by
 unfold mk
 split
 · rename_i q; subst q; split <;> rfl
 · rfl
theorem OK.mk {e n : Nat} {a b : D} (he : e < n) (ha : OK (e + 1) n a) (hb : OK (e + 1) n b) : OK e n (Bdd.mk e a b) := by
 unfold Bdd.mk
 split
 · exact ha.mono (Nat.le_succ e)
 · rename_i q; exact ⟨Nat.le_refl _, he, q, ha, hb⟩
def canon (f : (Nat → Bool) → Bool) (n : Nat) : Nat → Nat → (Nat → Bool) → D
 | 0, _, s => .leaf (f s)
 | d + 1, k, s => mk k (canon f n d (k + 1) (upd s k false)) (canon f n d (k + 1) (upd s k true))
theorem canon_ok {f : (Nat → Bool) → Bool} {n : Nat} : ∀ {d k : Nat} {s : Nat → Bool}, k + d = n → OK k n (canon f n d k s)
 | 0, _, _, _ => trivial
 | _ + 1, _, _, h => OK.mk (by omega) (canon_ok (by omega)) (canon_ok (by omega))
def mix (k : Nat) (s t : Nat → Bool) : Nat → Bool := fun i => if i < k then s i else t i
theorem canon_sem {f : (Nat → Bool) → Bool} {n : Nat} (hf : ∀ s s', (∀ i, i < n → s i = s' i) → f s = f s') : ∀ {d k : Nat} {s : Nat → Bool}, k + d = n → ∀ t, sem (canon f n d k s) t = f (mix k s t)
 | 0, k, s, h, t => hf _ _ fun i hi => (if_pos (by omega)).symm
 | d + 1, k, s, h, t => by
  rw [canon, sem_mk, canon_sem hf (by omega), canon_sem hf (by omega)]
  have e : ∀ v, t k = v → mix (k + 1) (upd s k v) t = mix k s t := fun v hv => by
   funext i
   unfold mix upd
   rcases Nat.lt_trichotomy i k with q | q | q
   · rw [if_pos (by omega), if_neg (by omega), if_pos q]
   · subst q; rw [if_pos (by omega), if_pos rfl, if_neg (by omega), hv]
   · rw [if_neg (by omega), if_neg (by omega)]
  cases hk : t k
  · simp [e _ hk]
  · simp [e _ hk]
end Bdd
namespace Bdd
theorem nodup_len {κ : Type} [DecidableEq κ] : ∀ {L M : List κ}, L.Nodup → (∀ x ∈ L, x ∈ M) → L.length ≤ M.length
 | [], _, _, _ => Nat.zero_le _
 | x :: L, M, hn, h => by
  rw [List.nodup_cons] at hn
  have hx := h x (List.mem_cons_self ..)
  have ih := nodup_len (M := M.erase x) hn.2 fun y hy => (List.mem_erase_of_ne (by rintro rfl; exact hn.1 hy)).2 (h y (List.mem_cons_of_mem _ hy))
  rw [List.length_erase_of_mem hx] at ih
  have := List.length_pos_of_mem hx
  rw [List.length_cons]; omega
def subs : D → List D
 | .leaf _ => []
 | .nd e a b => .nd e a b :: (subs a ++ subs b)
theorem subs_len : ∀ {t : D} {k n : Nat}, OK k n t → (subs t).length + 1 ≤ 2 ^ (n - k)
 | .leaf _, k, n, _ => by have : 0 < 2 ^ (n - k) := Nat.pow_pos (by decide); simp only [subs, List.length_nil]; omega
 | .nd e a b, k, n, ⟨h1, h2, _, h4, h5⟩ => by
  have ha := subs_len h4
  have hb := subs_len h5
  have e1 : 2 ^ (n - (e + 1)) * 2 = 2 ^ (n - e) := by rw [← Nat.pow_succ]; congr 1; omega
  have e2 : 2 ^ (n - e) ≤ 2 ^ (n - k) := Nat.pow_le_pow_right (by decide) (by omega)
  simp only [subs, List.length_cons, List.length_append]
  omega
theorem subs_sz : ∀ {t x : D}, x ∈ subs t → sz x ≤ sz t
 | .leaf _, _, h => by cases h
 | .nd e a b, x, h => by
  simp only [subs, List.mem_cons, List.mem_append] at h
  rcases h with rfl | h | h
  · exact Nat.le_refl _
  · have := subs_sz h; simp only [sz]; omega
  · have := subs_sz h; simp only [sz]; omega
def Mem (T : List D) : D → Prop
 | .leaf _ => True
 | .nd e a b => .nd e a b ∈ T
instance {T : List D} : {t : D} → Decidable (Mem T t)
 | .leaf _ => .isTrue trivial
 | .nd e a b => inferInstanceAs (Decidable (D.nd e a b ∈ T))
theorem Mem.mono {T S : List D} : ∀ {t : D}, Mem T t → (∀ x ∈ T, x ∈ S) → Mem S t
 | .leaf _, _, _ => trivial
 | .nd _ _ _, h, hs => hs _ h
theorem Mem.of {T : List D} : ∀ {t : D}, t ∈ T → Mem T t
 | .leaf _, _ => trivial
 | .nd _ _ _, h => h
theorem Mem.app {T : List D} {t : D} (h : Mem T t) (S : List D) : Mem (T ++ S) t := h.mono fun _ => List.mem_append_left _
structure Cl (n : Nat) (T : List D) : Prop where
 nd : T.Nodup
 at_ : ∀ i t, T[i]? = some t → ∃ e a b, t = .nd e a b ∧ OK 0 n t ∧ Mem (T.take i) a ∧ Mem (T.take i) b
theorem Cl.nil (n : Nat) : Cl n [] := ⟨List.nodup_nil, fun i t h => by simp at h⟩
theorem Cl.mem {n : Nat} {T : List D} (h : Cl n T) {t : D} (ht : t ∈ T) : ∃ e a b, t = .nd e a b ∧ OK 0 n t ∧ Mem T a ∧ Mem T b := by
 obtain ⟨i, hi⟩ := List.getElem?_of_mem ht
 obtain ⟨e, a, b, h1, h2, h3, h4⟩ := h.at_ i t hi
 exact ⟨e, a, b, h1, h2, h3.mono fun _ => List.mem_of_mem_take, h4.mono fun _ => List.mem_of_mem_take⟩
theorem Cl.ok {n : Nat} {T : List D} (h : Cl n T) : ∀ {t : D}, Mem T t → OK 0 n t
 | .leaf _, _ => trivial
 | .nd _ _ _, ht => by obtain ⟨_, _, _, _, h2, _⟩ := h.mem ht; exact h2
theorem Cl.kids {n : Nat} {T : List D} (h : Cl n T) {e : Nat} {a b : D} (ht : Mem T (.nd e a b)) : Mem T a ∧ Mem T b := by
 obtain ⟨_, _, _, h1, _, h3, h4⟩ := h.mem ht
 cases h1; exact ⟨h3, h4⟩
theorem Cl.snoc {n : Nat} {T : List D} (h : Cl n T) {e : Nat} {a b : D} (ho : OK 0 n (.nd e a b)) (ha : Mem T a) (hb : Mem T b) (hn : .nd e a b ∉ T) : Cl n (T ++ [.nd e a b]) := by
  refine ⟨List.nodup_append.2 ⟨h.nd, by simp, fun x hx y hy e => hn ?_⟩, fun i t hi => ?_⟩
  · rw [List.mem_singleton] at hy; rw [← hy, ← e]; exact hx
  · rcases Nat.lt_trichotomy i T.length with q | q | q
    · rw [List.getElem?_append_left q] at hi
      obtain ⟨e', a', b', h1, h2, h3, h4⟩ := h.at_ i t hi
      rw [List.take_append_of_le_length (by omega)]
      exact ⟨e', a', b', h1, h2, h3, h4⟩
    · subst q
      rw [List.getElem?_append_right (Nat.le_refl _), Nat.sub_self] at hi
      cases hi
      rw [List.take_append_of_le_length (Nat.le_refl _), List.take_length]
      exact ⟨e, a, b, rfl, ho, ha, hb⟩
    · rw [List.getElem?_eq_none (by simp; omega)] at hi; cases hi
def ix (T : List D) : D → Int
 | .leaf b => if b then -2 else -1
 | .nd e a b => ((T.idxOf (D.nd e a b) : Nat) : Int)
theorem ix_at {T : List D} (hT : T.Nodup) {i : Nat} {e : Nat} {a b : D} (h : T[i]? = some (.nd e a b)) : ix T (.nd e a b) = (i : Int) := by
 obtain ⟨hi, he⟩ := List.getElem?_eq_some_iff.1 h
 show ((T.idxOf _ : Nat) : Int) = _
 rw [← he, hT.idxOf_getElem]
theorem ix_nd {T : List D} {e : Nat} {a b : D} (h : Mem T (.nd e a b)) : ∃ i : Nat, ix T (.nd e a b) = (i : Int) ∧ i < T.length ∧ T[i]? = some (.nd e a b) := by
 have hm : D.nd e a b ∈ T := h
 have hl := List.idxOf_lt_length_of_mem hm
 exact ⟨_, rfl, hl, by rw [List.getElem?_eq_getElem hl, List.getElem_idxOf]⟩
theorem ix_app {T S : List D} : ∀ {t : D}, Mem T t → ix (T ++ S) t = ix T t
 | .leaf _, _ => rfl
 | .nd e a b, h => by
  have hm : D.nd e a b ∈ T := h
  show ((List.idxOf _ _ : Nat) : Int) = ((List.idxOf _ _ : Nat) : Int)
  rw [List.idxOf_append, if_pos hm]
theorem ix_rng {T : List D} {t : D} (h : Mem T t) : -2 ≤ ix T t ∧ ix T t < T.length := by
 match t, h with
 | .leaf true, _ => exact ⟨by show (-2 : Int) ≤ -2; decide, by show (-2 : Int) < _; omega⟩
 | .leaf false, _ => exact ⟨by show (-2 : Int) ≤ -1; decide, by show (-1 : Int) < _; omega⟩
 | .nd e a b, h => obtain ⟨i, h1, h2, _⟩ := ix_nd h; rw [h1]; omega
theorem ix_inj {T : List D} {t u : D} (ht : Mem T t) (hu : Mem T u) (h : ix T t = ix T u) : t = u := by
 match t, u, ht, hu with
 | .leaf x, .leaf y, _, _ => cases x <;> cases y <;> first | rfl | (simp [ix] at h)
 | .leaf x, .nd e a b, _, hu => obtain ⟨i, h1, _⟩ := ix_nd hu; rw [h1] at h; cases x <;> simp [ix] at h <;> omega
 | .nd e a b, .leaf x, ht, _ => obtain ⟨i, h1, _⟩ := ix_nd ht; rw [h1] at h; cases x <;> simp [ix] at h <;> omega
 | .nd e a b, .nd f c d, ht, hu =>
  obtain ⟨i, h1, _, h2⟩ := ix_nd ht
  obtain ⟨j, g1, _, g2⟩ := ix_nd hu
  have : i = j := by omega
  subst this
  rw [h2] at g2
  exact Option.some.inj g2
def row (T : List D) : D → Int × Int × Int
 | .leaf _ => (0, 0, 0)
 | .nd e a b => ((e : Int), ix T a, ix T b)
def rows (T : List D) : List (Int × Int × Int) := T.map (row T)
theorem rows_len (T : List D) : (rows T).length = T.length := List.length_map _
theorem rows_app {n : Nat} {T S : List D} (h : Cl n T) : rows (T ++ S) = rows T ++ S.map (row (T ++ S)) := by
 unfold rows
 rw [List.map_append]
 congr 1
 refine List.map_congr_left fun t ht => ?_
 obtain ⟨e, a, b, rfl, _, ha, hb⟩ := h.mem ht
 show (_, _, _) = (_, _, _)
 rw [ix_app ha, ix_app hb]
theorem rows_snoc {n : Nat} {T : List D} (h : Cl n T) {e : Nat} {a b : D} (ha : Mem T a) (hb : Mem T b) : rows (T ++ [.nd e a b]) = rows T ++ [((e : Int), ix T a, ix T b)] := by
 rw [rows_app h]
 show _ ++ [(_, _, _)] = _
 rw [ix_app ha, ix_app hb]
theorem row_inj {n : Nat} {T : List D} (h : Cl n T) {t u : D} (ht : t ∈ T) {e : Nat} {a b : D} (hu : u = .nd e a b) (ha : Mem T a) (hb : Mem T b) (hr : row T t = row T u) : t = u := by
 obtain ⟨f, c, d, rfl, _, hc, hd⟩ := h.mem ht
 subst hu
 simp only [row, Prod.mk.injEq] at hr
 have h1 : f = e := by omega
 rw [h1, ix_inj hc ha hr.2.1, ix_inj hd hb hr.2.2]
def add (T : List D) (t : D) : List D := if Mem T t then T else T ++ [t]
theorem add_of {T : List D} {t : D} (h : Mem T t) : add T t = T := if_pos h
theorem add_pre (T : List D) (t : D) : ∃ S, add T t = T ++ S := by
 unfold add
 split
 · exact ⟨[], (List.append_nil _).symm⟩
 · exact ⟨[t], rfl⟩
theorem add_mem (T : List D) : ∀ t, Mem (add T t) t
 | .leaf _ => trivial
 | .nd e a b => by
  unfold add
  split
  · assumption
  · exact List.mem_append_right _ (List.mem_singleton.2 rfl)
theorem add_sub {T : List D} : ∀ {t x : D}, x ∈ add T t → x ∈ T ∨ x ∈ subs t
  | .leaf b, x, h => .inl (by rwa [add_of (t := .leaf b) trivial] at h)
  | .nd e a b, x, h => by
    unfold add at h
    split at h
    · exact .inl h
    · rcases List.mem_append.1 h with h | h
      · exact .inl h
      · rw [List.mem_singleton] at h; subst h; exact .inr (List.mem_cons_self ..)
theorem Cl.add {n : Nat} {T : List D} (h : Cl n T) {e : Nat} {a b : D} (he : e < n) (ha : OK (e + 1) n a) (hb : OK (e + 1) n b) (ma : Mem T a) (mb : Mem T b) : Cl n (Bdd.add T (Bdd.mk e a b)) := by
  by_cases q1 : a = b
  · subst q1
    rw [show Bdd.mk e a a = a from if_pos rfl, add_of ma]; exact h
  · rw [show Bdd.mk e a b = .nd e a b from if_neg q1]
    unfold Bdd.add
    split
    · exact h
    · rename_i q2
      exact h.snoc ⟨Nat.zero_le _, he, q1, ha, hb⟩ ma mb q2
def post (T : List D) : D → List D
 | .leaf _ => T
 | .nd e a b => if .nd e a b ∈ T then T else post (post T a) b ++ [.nd e a b]
theorem post_pre : ∀ (T : List D) (t : D), ∃ S, post T t = T ++ S ∧ ∀ x ∈ S, x ∈ subs t
  | T, .leaf _ => ⟨[], by simp [post], fun x h => by cases h⟩
  | T, .nd e a b => by
    unfold post
    split
    · exact ⟨[], by simp, fun x h => by cases h⟩
    · obtain ⟨S1, h1, k1⟩ := post_pre T a
      obtain ⟨S2, h2, k2⟩ := post_pre (post T a) b
      refine ⟨S1 ++ S2 ++ [.nd e a b], by rw [h2, h1]; simp [List.append_assoc], fun x hx => ?_⟩
      simp only [List.mem_append, List.mem_singleton] at hx
      rcases hx with (hx | hx) | hx
      · exact List.mem_cons_of_mem _ (List.mem_append_left _ (k1 x hx))
      · exact List.mem_cons_of_mem _ (List.mem_append_right _ (k2 x hx))
      · subst hx; exact List.mem_cons_self ..
theorem post_old (T : List D) (t : D) : ∀ x ∈ T, x ∈ post T t := fun x hx => by
 obtain ⟨S, h, _⟩ := post_pre T t
 rw [h]; exact List.mem_append_left _ hx
theorem post_mem : ∀ (T : List D) (t : D), Mem (post T t) t
 | _, .leaf _ => trivial
 | T, .nd e a b => by
  unfold post
  split
  · assumption
  · exact List.mem_append_right _ (List.mem_singleton.2 rfl)
theorem post_of {T : List D} : ∀ {t : D}, Mem T t → post T t = T
 | .leaf _, _ => rfl
 | .nd _ _ _, h => if_pos h
theorem nd_new {T : List D} {e : Nat} {a b : D} (h : D.nd e a b ∉ T) : D.nd e a b ∉ post (post T a) b := fun q => by
 obtain ⟨S1, h1, k1⟩ := post_pre T a
 obtain ⟨S2, h2, k2⟩ := post_pre (post T a) b
 rw [h2, h1] at q
 simp only [List.mem_append] at q
 rcases q with (q | q) | q
 · exact h q
 · have := subs_sz (k1 _ q); simp only [sz] at this; omega
 · have := subs_sz (k2 _ q); simp only [sz] at this; omega
theorem Cl.post {n : Nat} : ∀ {t : D} {T : List D} {k : Nat}, Cl n T → OK k n t → Cl n (Bdd.post T t)
  | .leaf _, _, _, h, _ => h
  | .nd e a b, T, k, h, ho => by
    unfold Bdd.post
    split
    · exact h
    · rename_i q
      obtain ⟨h1, h2, h3, h4, h5⟩ := ho
      have c1 := Cl.post h h4
      have c2 := Cl.post c1 h5
      exact c2.snoc ⟨Nat.zero_le _, h2, h3, h4.mono (by omega) |>.mono (Nat.le_refl _), h5⟩ ((post_mem T a).mono (post_old _ _)) (post_mem _ _) (nd_new q)
theorem post_mk {n : Nat} {T : List D} (h : Cl n T) {e : Nat} {a b : D} : post T (mk e a b) = add (post (post T a) b) (mk e a b) := by
  unfold mk
  split
  · rename_i q; subst q
    rw [post_of (post_mem T a), add_of (post_mem T a)]
  · rename_i q
    by_cases hm : D.nd e a b ∈ T
    · have hk := h.kids (T := T) (e := e) (a := a) (b := b) hm
      rw [post_of (t := .nd e a b) hm, post_of hk.1, post_of hk.2, add_of (t := .nd e a b) hm]
    · have hn := nd_new hm
      rw [post, if_neg hm, add, if_neg (show ¬ Mem _ (D.nd e a b) from hn)]
theorem post_len {n : Nat} {T : List D} {t : D} (hc : Cl n (post T t)) {k : Nat} (ho : OK k n t) : (post T t).length + 1 ≤ T.length + 2 ^ (n - k) := by
 obtain ⟨S, h1, h2⟩ := post_pre T t
 have hs := subs_len ho
 have : S.length ≤ (subs t).length := by
  have hn : S.Nodup := by have := hc.nd; rw [h1] at this; exact (List.nodup_append.1 this).2.1
  exact nodup_len hn h2
 rw [h1, List.length_append]; omega
theorem sub_len {T S : List D} {k n : Nat} {t : D} (hn : S.Nodup) (ho : OK k n t) (h : ∀ x ∈ S, x ∈ T ∨ x ∈ subs t) : S.length + 1 ≤ T.length + 2 ^ (n - k) := by
 have hs := subs_len ho
 have : S.length ≤ (T ++ subs t).length := nodup_len hn fun x hx => List.mem_append.2 (h x hx)
 rw [List.length_append] at this; omega
def start (t : D) : Int := ix (post [] t) t
def nodes (t : D) : List (Int × Int × Int) := rows (post [] t)
end Bdd
end Go.Proofs.YtpfajhcdfgpgmaaDoor

namespace Go.Proofs.YtpfajhcdfgpgmaaDoor
open Go.RowKit
structure Wr (X : Nat → Prop) (A B : World) : Prop where
 os : B.os = A.os
 tape : B.tape = A.tape
 output : B.output = A.output
 size : A.heap.size ≤ B.heap.size
 same : ∀ (k : Nat), k < A.heap.size → ¬ X k → B.heap[k]? = A.heap[k]?
theorem Wr.refl (X : Nat → Prop) (A : World) : Wr X A A := ⟨rfl, rfl, rfl, Nat.le_refl _, fun _ _ _ => rfl⟩
theorem Wr.wr {X Y : Nat → Prop} {A B C : World} (h : Wr X A B) (k : Wr Y B C) (hY : ∀ i, Y i → X i ∨ A.heap.size ≤ i) : Wr X A C :=
 ⟨k.os.trans h.os, k.tape.trans h.tape, k.output.trans h.output, Tq h.size k.size, fun i hi hx => (k.same i (Nat.lt_of_lt_of_le hi h.size) fun q => (hY i q).elim hx fun z => absurd hi (Nat.not_lt_of_le z)).trans (h.same i hi hx)⟩
theorem Wr.of_ext {X : Nat → Prop} {A B : World} (e : Ext A B) : Wr X A B := ⟨e.os, e.tape, e.output, e.size, fun k hk _ => e.block k hk⟩
theorem Wr.of_turns {A B : World} {O : Nat} (t : Turns O A B) : Wr (fun k => k = O) A B := by
 have h := Wrote.of_turns (X := fun k => k = O) t rfl
 exact ⟨h.os, h.tape, h.output, h.size, h.same⟩
theorem Wr.of_turnsM {A B : World} {O : Nat} (t : TurnsM O A B) : Wr (fun k => k = O) A B := ⟨t.os, t.tape, t.output, Nat.le_of_eq t.size.symm, fun k _ hk => t.heap' k hk⟩
theorem Wr.of_grown {A B : World} {r : Option Nat} (g : A.grownBy B r) : Wr (fun k => r = some k) A B := ⟨g.os, g.tape, g.output, g.size, fun k hk hx => g.block k hk fun e => hx e.symm⟩
theorem Wr.step {X : Nat → Prop} {A B C : World} (h : Wr X A B) (e : Ext B C) : Wr X A C := h.wr (Y := fun _ => False) (Wr.of_ext e) fun _ q => q.elim
theorem Wr.turn {X : Nat → Prop} {A B C : World} (h : Wr X A B) {O : Nat} (t : Turns O B C) (hO : X O ∨ A.heap.size ≤ O) : Wr X A C := h.wr (Wr.of_turns t) fun i q => (show i = O from q) ▸ hO
theorem Wr.turnM {X : Nat → Prop} {A B C : World} (h : Wr X A B) {O : Nat} (t : TurnsM O B C) (hO : X O ∨ A.heap.size ≤ O) : Wr X A C := h.wr (Wr.of_turnsM t) fun i q => (show i = O from q) ▸ hO
theorem Wr.app {X : Nat → Prop} {A B C : World} (h : Wr X A B) {r : Option Nat} (g : B.grownBy C r) (hr : ∀ k, r = some k → X k ∨ A.heap.size ≤ k) : Wr X A C := h.wr (Wr.of_grown g) hr
theorem Wr.mono {X Y : Nat → Prop} {A B : World} (h : Wr X A B) (hY : ∀ k, X k → Y k) : Wr Y A B := ⟨h.os, h.tape, h.output, h.size, fun k hk hx => h.same k hk fun q => hx (hY k q)⟩
theorem Wr.ext {X : Nat → Prop} {A B U : World} (h : Wr X A B) (hU : Ext U A) (hx : ∀ k, X k → U.heap.size ≤ k) : Ext U B :=
 ⟨h.os.trans hU.os, h.tape.trans hU.tape, h.output.trans hU.output, Tq hU.size h.size, fun k hk => (h.same k (Nat.lt_of_lt_of_le hk hU.size) fun q => absurd hk (Nat.not_lt_of_le (hx k q))).trans (hU.block k hk)⟩
theorem Wr.ext0 {X : Nat → Prop} {A B : World} (h : Wr X A B) (hx : ∀ k, X k → A.heap.size ≤ k) : Ext A B := h.ext (Ext.refl _) hx
theorem Wr.cell {X : Nat → Prop} {A B : World} (h : Wr X A B) {b o : Nat} {v : Value} (hb : ¬ X b) (hv : A.cell? ⟨b, o, none⟩ = some v) : B.cell? ⟨b, o, none⟩ = some v :=
 (World.cell?_of_block (h.same b (World.block_lt_of_cell? _ _ hv) hb)).trans hv
theorem Wr.box {X : Nat → Prop} {A B : World} (h : Wr X A B) {b o : Nat} {v : Value} (hb : ¬ X b) (hv : BoxAt A b o v) : BoxAt B b o v :=
 ⟨h.cell hb hv.1, (World.frozen?_of_block (h.same b (World.block_lt_of_cell? _ _ hv.1) hb)).trans hv.2⟩
theorem Wr.map {X : Nat → Prop} {A B : World} {κ β : Type} {kv : κ → Value} {vv : β → Value} {b : Nat} {l : List (κ × β)} (h : Wr X A B) (hb : ¬ X b) (hm : MapS kv vv A b l) : MapS kv vv B b l := hm.block (h.same b hm.lt hb)
theorem Wr.own {X : Nat → Prop} {A B : World} {α : Type} {R : Rep α} {n₀ : Nat} {e : TypeId} {size : Nat} {v : Value} {l : List α} (h : Wr X A B) (hv : ∀ b, v.ownBlock = some b → ¬ X b) (hF : ∀ c x F, R.rel A c x F → ∀ b ∈ F, ¬ X b) (ho : OwnL R n₀ e size v A l) : OwnL R n₀ e size v B l := by
  obtain ⟨cs, q1, q2, q3, q4⟩ := ho
  refine ⟨cs, q1, q2, ⟨q3.1, ?_⟩, fun j x c hx hc => ?_⟩
  · rcases q3.2 with q | ⟨g, cap, cur, rfl, hb, hcur, rest⟩
    · exact .inl q
    · exact .inr ⟨g, cap, cur, rfl, hb, (h.same g (Array.getElem?_eq_some_iff.1 hcur).1 (hv g rfl)).trans hcur, rest⟩
  · obtain ⟨F, k1, k2⟩ := q4 j x c hx hc
    exact ⟨F, R.keep k1 (fun b hb o u hu => h.cell (hF _ _ _ k1 b hb) hu), k2⟩
abbrev Nod := Int × Int × Int
def Nod.cells (x : Nod) : List Value := [.int .i64 x.1, .int .i64 x.2.1, .int .i64 x.2.2]
def Nod.val (x : Nod) : Value := .agg #[.int .i64 x.1, .int .i64 x.2.1, .int .i64 x.2.2]
def intV (x : Int) : Value := .int .i64 x
def nodR : Rep Nod where
 rel _ c x F := c = x.cells ∧ F = []
 keep := fun h _ => h
 lt := by rintro w c x F ⟨_, rfl⟩ b hb; cases hb
theorem nodT : ElemT Tryd.prog 24 61 (.agg #[.int .i64 0, .int .i64 0, .int .i64 0]) 3 24 := ⟨Tryd.underlying24, by kernel_rfl, rfl, by decide⟩
def BX (B K : Nat) (v : Value) : Nat → Prop := fun k => k = B ∨ k = K ∨ v.ownBlock = some k
def Known (L : List (Nod × Int)) (R : List Nod) : Prop := ∀ x i, getM x L = some i ↔ ∃ k : Nat, R[k]? = some x ∧ i = (k : Int)
theorem Known.nil : Known [] [] := fun x i => ⟨(fun h => by cases h), (fun ⟨k, h, _⟩ => by simp at h)⟩
theorem Known.snoc {L : List (Nod × Int)} {R : List Nod} (h : Known L R) {x : Nod} (hx : x ∉ R) : Known (updM x ((R.length : Nat) : Int) L) (R ++ [x]) := fun y i => by
  rw [getM_updM]
  by_cases e : x = y
  · subst e
    rw [if_pos rfl]
    refine ⟨fun q => ⟨R.length, by rw [List.getElem?_append_right (Nat.le_refl _), Nat.sub_self]; rfl, (Option.some.inj q).symm⟩, fun ⟨k, h1, h2⟩ => ?_⟩
    rw [h2]
    rcases Nat.lt_trichotomy k R.length with q | q | q
    · rw [List.getElem?_append_left q] at h1; exact absurd (List.mem_of_getElem? h1) hx
    · rw [q]
    · rw [List.getElem?_eq_none (by simp; omega)] at h1; cases h1
  · rw [if_neg e, h y i]
    refine ⟨fun ⟨k, h1, h2⟩ => ⟨k, by rw [List.getElem?_append_left (List.getElem?_eq_some_iff.1 h1).1]; exact h1, h2⟩, fun ⟨k, h1, h2⟩ => ⟨k, ?_, h2⟩⟩
    rcases Nat.lt_trichotomy k R.length with q | q | q
    · rwa [List.getElem?_append_left q] at h1
    · subst q; rw [List.getElem?_append_right (Nat.le_refl _), Nat.sub_self] at h1; exact absurd (Option.some.inj h1) e
    · rw [List.getElem?_eq_none (by simp; omega)] at h1; cases h1
structure Bld (w : World) (n₀ B K n : Nat) (v : Value) (T : List Bdd.D) : Prop where
 b0 : BoxAt w B 0 (.int .i64 ((n : Nat) : Int))
 b1 : BoxAt w B 1 v
 b2 : BoxAt w B 2 (.map (some K))
 own : OwnL nodR n₀ 61 3 v w (Bdd.rows T)
 map : ∃ L, MapS Nod.val intV w K L ∧ Known L (Bdd.rows T)
 cl : Bdd.Cl n T
 nv : v.ownBlock ≠ some B
 lb : n₀ ≤ B
 lk : n₀ ≤ K
theorem Bld.wr {X : Nat → Prop} {w w' : World} {n₀ B K n : Nat} {v : Value} {T : List Bdd.D} (h : Bld w n₀ B K n v T) (hw : Wr X w w') (hx : ∀ k, BX B K v k → ¬ X k) : Bld w' n₀ B K n v T :=
 ⟨hw.box (hx _ (.inl rfl)) h.b0, hw.box (hx _ (.inl rfl)) h.b1, hw.box (hx _ (.inl rfl)) h.b2, hw.own (fun b hb => hx _ (.inr (.inr hb))) (fun _ _ _ q b hb => by rw [q.2] at hb; cases hb) h.own, by
  obtain ⟨L, h1, h2⟩ := h.map
  exact ⟨L, hw.map (hx _ (.inr (.inl rfl))) h1, h2⟩, h.cl, h.nv, h.lb, h.lk⟩
theorem Bld.ext {w w' : World} {n₀ B K n : Nat} {v : Value} {T : List Bdd.D} (h : Bld w n₀ B K n v T) (e : Ext w w') : Bld w' n₀ B K n v T := h.wr (X := fun _ => False) (Wr.of_ext e) fun _ _ q => q
theorem Bld.turn {O : Nat} {w w' : World} {n₀ B K n : Nat} {v : Value} {T : List Bdd.D} (h : Bld w n₀ B K n v T) (t : Turns O w w') (hO : ¬ BX B K v O) : Bld w' n₀ B K n v T := h.wr (Wr.of_turns t) fun k hk q => hO ((show k = O from q) ▸ hk)
theorem Bld.turnM {O : Nat} {w w' : World} {n₀ B K n : Nat} {v : Value} {T : List Bdd.D} (h : Bld w n₀ B K n v T) (t : TurnsM O w w') (hO : ¬ BX B K v O) : Bld w' n₀ B K n v T := h.wr (Wr.of_turnsM t) fun k hk q => hO ((show k = O from q) ▸ hk)
theorem Bld.grown {r : Option Nat} {w w' : World} {n₀ B K n : Nat} {v : Value} {T : List Bdd.D} (h : Bld w n₀ B K n v T) (g : w.grownBy w' r) (hr : ∀ k, r = some k → ¬ BX B K v k) : Bld w' n₀ B K n v T := h.wr (Wr.of_grown g) fun k hk q => hr k q hk
theorem Bld.lt {w : World} {n₀ B K n : Nat} {v : Value} {T : List Bdd.D} (h : Bld w n₀ B K n v T) : ∀ k, BX B K v k → k < w.heap.size := fun k hk => by
 rcases hk with rfl | rfl | hk
 · exact h.b0.lt
 · obtain ⟨L, h1, _⟩ := h.map; exact h1.lt
 · exact h.own.lt k hk
theorem Bld.ge {w : World} {n₀ B K n : Nat} {v : Value} {T : List Bdd.D} (h : Bld w n₀ B K n v T) : ∀ k, BX B K v k → n₀ ≤ k := fun k hk => by
 rcases hk with rfl | rfl | hk
 · exact h.lb
 · exact h.lk
 · exact h.own.base k hk
theorem bx_new {B K : Nat} {v v' : Value} {m : Nat} (h : ∀ k, v'.ownBlock = some k → v.ownBlock = some k ∨ m ≤ k) : ∀ k, BX B K v' k → BX B K v k ∨ m ≤ k := fun k hk => by
 rcases hk with q | q | q
 · exact .inl (.inl q)
 · exact .inl (.inr (.inl q))
 · exact (h k q).imp (fun z => .inr (.inr z)) id
theorem bx_step {B K : Nat} {v v' : Value} {m b : Nat} (h : ∀ k, v'.ownBlock = some k → v.ownBlock = some k ∨ m ≤ k) (hb : ¬ BX B K v b) (hl : b < m) : ¬ BX B K v' b := fun q => (bx_new h b q).elim hb fun z => by omega
end Go.Proofs.YtpfajhcdfgpgmaaDoor

namespace Go.Proofs.YtpfajhcdfgpgmaaDoor
open Go.RowKit
def intVals (l : List Int) : List Value := l.map (Value.int .i64)
theorem intVals_at {l : List Int} {i : Nat} (h : i < l.length) : (intVals l).toArray[i]? = some (.int .i64 (Globe.nth l i)) := by
 simp [intVals, Globe.nth, h]
theorem eqItems_ints {P : Program} (d : Nat) (e : TypeId) (hp : P.plainKey e = true) (hc : P.cellsOf e = 1) (hu : P.underlying e = some (.int .i64)) (xs ys : List Int) (w : World) :
  ∀ is : List Nat, (∀ i ∈ is, i < xs.length ∧ i < ys.length) → (Op.eqItems (d + 1) e (P.cellsOf e) (intVals xs).toArray (intVals ys).toArray is).run P w = .ok (is.all fun i => Globe.nth xs i == Globe.nth ys i) w
 | [], _ => by simp [Op.eqItems]
 | i :: is, h => by
  obtain ⟨h1, h2⟩ := h i (by simp)
  have ih := eqItems_ints d e hp hc hu xs ys w is (fun j hj => h j (by simp [hj]))
  have p1 : (part e (intVals xs).toArray (i * P.cellsOf e)).run P w = .ok (.int .i64 (Globe.nth xs i)) w := run_part_plain w hp (by rw [hc, Nat.mul_one]; exact intVals_at h1)
  have p2 : (part e (intVals ys).toArray (i * P.cellsOf e)).run P w = .ok (.int .i64 (Globe.nth ys i)) w := run_part_plain w hp (by rw [hc, Nat.mul_one]; exact intVals_at h2)
  simp only [Op.eqItems, Sem.run_bind, p1, p2, Result.andThen_ok, run_equalIn_int w d e .i64 .i64 _ _ hu, List.all_cons]
  cases hq : (Globe.nth xs i == Globe.nth ys i)
  · simp
  · simpa using ih
theorem equalIn_rows {P : Program} (t e : TypeId) (hu : P.underlying t = some (.array 24 e)) (hs : (P.info? e).isSome = true) (hp : P.plainKey e = true) (hc : P.cellsOf e = 1) (hue : P.underlying e = some (.int .i64)) (L : List Int) (hL : L.length = 24) (w : World) :
    (Op.equalIn 10000 t (.agg (intVals L).toArray) (.agg (intVals Globe.zeroL).toArray)).run P w = .ok (decide (L = Globe.zeroL)) w := by
  obtain ⟨i, hi⟩ := Option.isSome_iff_exists.1 hs
  rw [run_equalIn_array w 9999 _ _ hu hi, eqItems_ints 9998 e hp hc hue L Globe.zeroL w (List.range 24) (fun j hj => by have := List.mem_range.1 hj; simp [Globe.zeroL]; omega)]
  congr 1
  rw [Bool.eq_iff_iff, decide_eq_true_eq, List.all_eq_true]
  constructor
  · intro h
    exact Globe.ext_nth (by rw [hL]; rfl) fun j hj => by simpa using h j (List.mem_range.2 (by omega))
  · rintro rfl j _
    simp
theorem wpList_load_g {P : Program} {ops : Array Oper} {rest : List Oper} {op : Oper} {a : Act} {w : World} {Q : Exit → Act → World → Prop} (hw : Region.wanted op (yielded ops a.tmps) = true) (ty : TypeId) (x : Operand) (ho : op.op = .load ty x)
  (b o : Nat) (hx : a.eval x = .pointer (some ⟨b, o, none⟩)) (cs : List Value) (d : TypeDesc) (hc : w.rangeAt b o cs)
  (hu : P.underlying ty = some d) (hd : d.isRow = true) (hi : (P.info? ty).map (·.size) = some cs.length)
  (h : wpList P ops Q rest (a.put op.dst (.agg cs.toArray)) w) : wpList P ops Q (op :: rest) a w :=
 wpList_step fun _ hK => by
  rw [if_pos hw]
  exact wp_load_mid ty x ho b o hx cs d hc hu hd hi (hK _ _ h)
theorem RowsAt.range {w : World} {B : Nat} {L : List Int} (h : RowsAt w B L) : w.rangeAt B 0 (intVals L) := by
 intro j v hv
 have hj : j < L.length := by
  rw [← List.length_map (f := Value.int .i64)]
  exact (List.getElem?_eq_some_iff.1 hv).1
 have : v = .int .i64 (Globe.nth L j) := by
  have e := intVals_at hj
  rw [List.getElem?_toArray] at e
  rw [e] at hv; cases hv; rfl
 rw [this, Nat.zero_add]
 exact h.cell (by rw [← h.len]; exact hj)
end Go.Proofs.YtpfajhcdfgpgmaaDoor

namespace Go.Proofs.YtpfajhcdfgpgmaaDoor
open Go.RowKit
theorem nod_inj {a b : Nod} (h : a.val = b.val) : a = b := by
 obtain ⟨a1, a2, a3⟩ := a
 obtain ⟨b1, b2, b3⟩ := b
 simp [Nod.val] at h
 obtain ⟨h1, h2, h3⟩ := h
 rw [h1, h2, h3]
theorem int_check (w : World) (em : Bool) (n : Nat) (x : Int) : (Instr.checkKey em (n + 1) 3 (.int .i64 x)).run Tryd.prog w = .ok () w := by
 rw [Instr.checkKey]
 go_simp
theorem nod_check (w : World) (em : Bool) (a : Nod) : (Instr.checkKey em 10000 61 a.val).run Tryd.prog w = .ok () w := by
 show (Instr.checkKey em (9998 + 1 + 1) 61 _).run _ _ = _
 unfold Nod.val
 have k : ∀ n (x : Int), (Instr.checkKey em (n + 1) 3 (.int .i64 x)).run Tryd.prog w = .ok () w := fun n x => int_check w em n x
 rw [Instr.checkKey]
 go_simp
theorem nod_eq (w : World) (x y : Nod) : (Op.equal 61 x.val y.val).run Tryd.prog w = .ok (decide (x = y)) w := by
  obtain ⟨a1, a2, a3⟩ := x
  obtain ⟨b1, b2, b3⟩ := y
  have e : decide (((a1, a2, a3) : Nod) = (b1, b2, b3)) = decide (a1 = b1 ∧ a2 = b2 ∧ a3 = b3) := decide_eq_decide.2 (by rw [Prod.mk.injEq, Prod.mk.injEq])
  rw [e]
  unfold Nod.val Op.equal Op.maxDepth
  simp only []
  by_cases h1 : a1 = b1
  · subst h1
    by_cases h2 : a2 = b2
    · subst h2
      by_cases h3 : a3 = b3
      · subst h3
        go_simp
      · go_simp
    · go_simp
  · go_simp
theorem nod_law : KLaw Tryd.prog 61 Nod.val := klaw_of Tryd.underlying61 (fun _ _ => rfl) nod_inj nod_check nod_eq (fun a => by simp [Nod.val, Instr.sameBits])
def prV (p : Int × Int) : Value := .agg #[.int .i64 p.1, .int .i64 p.2]
theorem pr_inj {a b : Int × Int} (h : prV a = prV b) : a = b := by
 obtain ⟨a1, a2⟩ := a
 obtain ⟨b1, b2⟩ := b
 simp [prV] at h
 obtain ⟨h1, h2⟩ := h
 rw [h1, h2]
theorem pr_check (w : World) (em : Bool) (a : Int × Int) : (Instr.checkKey em 10000 83 (prV a)).run Tryd.prog w = .ok () w := by
 show (Instr.checkKey em (9998 + 1 + 1) 83 (.agg #[.int .i64 a.1, .int .i64 a.2])).run _ _ = _
 kernel_rfl
theorem pr_eq (w : World) (x y : Int × Int) : (Op.equal 83 (prV x) (prV y)).run Tryd.prog w = .ok (decide (x = y)) w := by
 obtain ⟨a1, a2⟩ := x
 obtain ⟨b1, b2⟩ := y
 have e : decide (((a1, a2) : Int × Int) = (b1, b2)) = ((List.range 2).all fun i => Globe.nth [a1, a2] i == Globe.nth [b1, b2] i) := by
  rw [show ((List.range 2).all fun i => Globe.nth [a1, a2] i == Globe.nth [b1, b2] i) = ((a1 == b1) && ((a2 == b2) && true)) from rfl, Bool.and_true, Bool.eq_iff_iff]
  simp
 rw [e]
 have hs : (Tryd.prog.info? 3).isSome = true := by kernel_rfl
 obtain ⟨i, hi⟩ := Option.isSome_iff_exists.1 hs
 show (Op.equalIn (9999 + 1) 83 (.agg (intVals [a1, a2]).toArray) (.agg (intVals [b1, b2]).toArray)).run _ _ = _
 rw [run_equalIn_array w 9999 _ _ Tryd.underlying83 hi]
 exact eqItems_ints 9998 3 (by kernel_rfl) (by kernel_rfl) Tryd.underlying3 [a1, a2] [b1, b2] w (List.range 2) fun j hj => by have := List.mem_range.1 hj; simp; omega
theorem pr_law : KLaw Tryd.prog 83 prV := klaw_of Tryd.underlying83 (fun _ _ => rfl) pr_inj pr_check pr_eq (fun a => by simp [prV, Instr.sameBits])
theorem findNow_int (x : Int) : ∀ (ks : List Int) (es : List MapEntry) (i : Nat), es.map (·.key) = ks.map intV →
    (Instr.findNow (.int .i64) (intV x) es i = some none ∧ x ∉ ks) ∨ ∃ j e, Instr.findNow (.int .i64) (intV x) es i = some (some (i + j, e.val)) ∧ es[j]? = some e ∧ ks[j]? = some x ∧ ∀ q, q < j → ks[q]? ≠ some x
  | [], [], i, _ => .inl ⟨rfl, by simp⟩
  | [], _ :: _, _, h => by simp at h
  | _ :: _, [], _, h => by simp at h
  | y :: ks, e :: es, i, h => by
    simp only [List.map_cons, List.cons.injEq] at h
    have hs : Instr.sameNow (.int .i64) (intV x) e.key = some (x == y) := by rw [h.1]; rfl
    by_cases hxy : x = y
    · subst hxy
      exact .inr ⟨0, e, by simp [Instr.findNow, hs], rfl, rfl, fun q hq => by omega⟩
    · have hr : Instr.findNow (.int .i64) (intV x) (e :: es) i = Instr.findNow (.int .i64) (intV x) es (i + 1) := by
        have : (x == y) = false := by simp [hxy]
        rw [Instr.findNow, hs, this]
      rcases findNow_int x ks es (i + 1) h.2 with ⟨h1, h2⟩ | ⟨j, e', h1, h2, h3, h4⟩
      · exact .inl ⟨hr.trans h1, by simp [hxy, h2]⟩
      · refine .inr ⟨j + 1, e', by rw [hr, h1, show i + 1 + j = i + (j + 1) by omega], by simpa using h2, by simpa using h3, fun q hq => ?_⟩
        cases q with
        | zero => simpa using fun e : y = x => hxy e.symm
        | succ q => simpa using h4 q (by omega)
theorem int_law : KLaw Tryd.prog 3 intV where
 inj h := by simpa [intV] using h
 check w em a := int_check w em 9999 a
 stays w a := by simp [Instr.keyThatStays, intV, Instr.sameBits]
 find w x ks es h := by
  have hu := Tryd.underlying3
  rcases findNow_int x ks es 0 h with ⟨h1, h2⟩ | ⟨j, e, h1, h2⟩
  · exact .inl ⟨by simp [Instr.findKey, run_underlying hu, h1, Result.andThen], h2⟩
  · exact .inr ⟨j, e, by simp [Instr.findKey, run_underlying hu, h1, Result.andThen], h2⟩
def bolV (b : Bool) : Value := .bool b
theorem zero_int (w : World) : (zeroValue 3).run Tryd.prog w = .ok (intV 0) w := by kernel_rfl
theorem zero_bool (w : World) : (zeroValue 4).run Tryd.prog w = .ok (bolV false) w := by kernel_rfl
theorem lookup_is1 {P : Program} {w : World} {κ β : Type} [DecidableEq κ] {t : TypeId} {m k z : Value} {vv : β → Value} {x : κ} {l : List (κ × β)} {o : Option β} (h : (Instr.lookup t m k false).run P w = .ok (((getM x l).map vv).getD z) w) (hg : getM x l = o) : (Instr.lookup t m k false).run P w = .ok ((o.map vv).getD z) w := hg ▸ h
theorem lookup_is2 {P : Program} {w : World} {κ β : Type} [DecidableEq κ] {t : TypeId} {m k z : Value} {vv : β → Value} {x : κ} {l : List (κ × β)} {o : Option β} (h : (Instr.lookup t m k true).run P w = .ok (.tuple #[((getM x l).map vv).getD z, .bool (getM x l).isSome]) w) (hg : getM x l = o) : (Instr.lookup t m k true).run P w = .ok (.tuple #[(o.map vv).getD z, .bool o.isSome]) w := hg ▸ h
theorem MapS.grownM {κ β : Type} {kv : κ → Value} {vv : β → Value} {w w' : World} {b : Nat} {l : List (κ × β)} {r : Option Nat} (h : MapS kv vv w b l) (hg : w.grownBy w' r) (hn : some b ≠ r) : MapS kv vv w' b l := h.block (hg.block b h.lt hn)
theorem own_app1h {α : Type} {R : Rep α} {P : Program} {t ty e : TypeId} {z : Value} {size bytes : Nat} (E : ElemT P t e z size bytes) {n₀ : Nat} {v : Value} {w : World} {l : List α} (h : OwnL R n₀ e size v w l) (hn : n₀ ≤ w.heap.size) {k : Nat} (hl : l.length = k)
    {O c : Nat} {x : α} {d : List Value} {F : List Nat} (hsz : d.length = size) (hcell : ∀ j u, d[j]? = some u → w.cell? ⟨O, j, none⟩ = some u) (h1 : ∀ u ∈ d, u.oneCell' = true)
    (hR : R.rel w d x F) (hF : ∀ b ∈ F, v.ownBlock ≠ some b) (hb : (k + 1) * bytes ≤ 140737488355328) (hmax : k + 1 ≤ 9223372036854775807) :
    ∃ g cap w', (Builtin.append_ #[t, t] ty #[v, .slice (some ⟨O, 0, none⟩) 1 c]).run P w = .ok (.slice (some ⟨g, 0, none⟩) (k + 1) cap) w' ∧ OwnL R n₀ e size (.slice (some ⟨g, 0, none⟩) (k + 1) cap) w' (l ++ [x]) ∧ Grew n₀ w w' ∧ w.grownBy w' v.ownBlock ∧ (v.ownBlock = some g ∨ w.heap.size ≤ g) := by
  subst hl
  obtain ⟨cs, h2, h3, h4, h5⟩ := h
  obtain ⟨i, hi, hz0, hz1, hz2⟩ := info_parts E.info
  obtain ⟨v', w', hrun, hown, hg, hiff, hat⟩ := run_append_own_at (P := P) w n₀ t ty e i z size bytes E.under hi hz0 hz1 hz2 E.zs E.pos v l.length cs.flatten h4 ⟨O, 0, none⟩ 1 c d (by rw [hsz, Nat.one_mul]) (fun j u hj => by
    rw [Addr.add_mid, Nat.zero_add]; exact hcell j u hj) h1 (by unfold maxLen; exact hmax) hb hn
  have hnb : ∀ F : List Nat, (∀ b ∈ F, v.ownBlock ≠ some b) → (∀ b ∈ F, b < w.heap.size) → (∀ b ∈ F, v'.ownBlock ≠ some b) ∧ ∀ b ∈ F, ∀ o u, w.cell? ⟨b, o, none⟩ = some u → w'.cell? ⟨b, o, none⟩ = some u := by
    intro F hF hFl
    refine ⟨fun b hbF hv' => ?_, fun b hbF o u hu => hg.cell hu (fun e => hF b hbF e.symm)⟩
    rcases hat with e1 | e1
    · exact hF b hbF (by rw [← e1]; exact hv')
    · rw [e1] at hv'; cases hv'; have := hFl _ hbF; omega
  have hO : OwnL R n₀ e size v' w' (l ++ [x]) := ⟨cs ++ [d], by simp [h2], by
      intro y hy
      rcases List.mem_append.1 hy with hy | hy
      · exact h3 y hy
      · rw [List.mem_singleton.1 hy]; exact hsz, by rw [List.flatten_append, List.length_append]; simpa using hown, by
      intro j y c hx hc
      rcases Nat.lt_or_ge j l.length with hj | hj
      · rw [List.getElem?_append_left hj] at hx
        rw [List.getElem?_append_left (by rw [h2]; exact hj)] at hc
        obtain ⟨F, q1, q2⟩ := h5 j y c hx hc
        obtain ⟨k1, k2⟩ := hnb F q2 (R.lt q1)
        exact ⟨F, R.keep q1 k2, k1⟩
      · rw [List.getElem?_append_right hj] at hx
        rw [List.getElem?_append_right (by rw [h2]; exact hj), h2] at hc
        match hj' : j - l.length, hx, hc with
        | 0, hx, hc =>
          simp at hx hc; subst hx hc
          obtain ⟨k1, k2⟩ := hnb F hF (R.lt hR)
          exact ⟨F, R.keep hR k2, k1⟩
        | _ + 1, hx, _ => simp at hx⟩
  rcases hown.2 with ⟨q, _⟩ | ⟨g, cap, cur, q, _, _, q3, _⟩
  · have := (hiff.1 q).2; omega
  · subst q
    exact ⟨g, cap, w', hrun, hO, ⟨hg.size, fun U hU hUn => Ext.own' hU h4 hUn hg⟩, hg, by
      rcases hat with e1 | e1
      · exact .inl e1.symm
      · exact .inr (Nat.le_of_eq (Option.some.inj e1).symm)⟩
theorem cells3 {w : World} {O : Nat} {x y z : Value} (h : w.cell? ⟨O, 0, none⟩ = some x) (h2 : w.cell? ⟨O, 1, none⟩ = some y) (h3 : w.cell? ⟨O, 2, none⟩ = some z) : ∀ j u, [x, y, z][j]? = some u → w.cell? ⟨O, j, none⟩ = some u
 | 0, u, hu => by simp at hu; subst hu; exact h
 | 1, u, hu => by simp at hu; subst hu; exact h2
 | 2, u, hu => by simp at hu; subst hu; exact h3
 | _ + 3, u, hu => by simp at hu
theorem app1_blk {v : Value} {g m : Nat} {k c : Nat} (h : v.ownBlock = some g ∨ m ≤ g) : ∀ b, (Value.slice (some ⟨g, 0, none⟩) k c).ownBlock = some b → v.ownBlock = some b ∨ m ≤ b := fun b e => by cases e; exact h
end Go.Proofs.YtpfajhcdfgpgmaaDoor

namespace Go.Proofs.YtpfajhcdfgpgmaaDoor
open Go.RowKit
theorem ex_binV {P : Program} {ev : Operand → Value} {o : Oper} {w : World} {op : BinOp} {t t2 : TypeId} {x y : Operand} {a b v : Value} (hop : o.op = .binOp op t x y t2) (hx : ev x = a) (hy : ev y = b) (hg : (eqGuard op t x y a b).run P w = .ok () w)
  (h : (binOp op t a b).run P w = .ok v w) : (execOp ev o).run P w = .ok (.value v) w := by
 simp [execOp, hop, hx, hy, hg, h, Result.andThen]
theorem eqG_agg {P : Program} {w : World} {op : BinOp} {t : TypeId} {x y : Operand} {xs ys : Array Value} (h : P.eqGuardType P.depth t = false) : (eqGuard op t x y (.agg xs) (.agg ys)).run P w = .ok () w := by
 cases op <;> simp [eqGuard, h]
section
variable {P : Program} {w : World} {t : TypeId}
theorem bin_eqv_t {xs ys : Array Value} {p : Prop} [Decidable p] (h : (Op.equal t (.agg xs) (.agg ys)).run P w = .ok (decide p) w) (hp : p) : (binOp .eql t (.agg xs) (.agg ys)).run P w = .ok (.bool true) w := by
 rw [decide_eq_true hp] at h
 simp [binOp, h]
theorem bin_eqv_f {xs ys : Array Value} {p : Prop} [Decidable p] (h : (Op.equal t (.agg xs) (.agg ys)).run P w = .ok (decide p) w) (hp : ¬ p) : (binOp .eql t (.agg xs) (.agg ys)).run P w = .ok (.bool false) w := by
 rw [decide_eq_false hp] at h
 simp [binOp, h]
theorem bin_nqv_t {xs ys : Array Value} {p : Prop} [Decidable p] (h : (Op.equal t (.agg xs) (.agg ys)).run P w = .ok (decide p) w) (hp : p) : (binOp .neq t (.agg xs) (.agg ys)).run P w = .ok (.bool false) w := by
 rw [decide_eq_true hp] at h
 simp [binOp, h]
theorem bin_nqv_f {xs ys : Array Value} {p : Prop} [Decidable p] (h : (Op.equal t (.agg xs) (.agg ys)).run P w = .ok (decide p) w) (hp : ¬ p) : (binOp .neq t (.agg xs) (.agg ys)).run P w = .ok (.bool true) w := by
 rw [decide_eq_false hp] at h
 simp [binOp, h]
end
end Go.Proofs.YtpfajhcdfgpgmaaDoor

namespace Go.Proofs.YtpfajhcdfgpgmaaDoor
open Go.RowKit
theorem ix24 {w : World} {b o n c k : Nat} (hk : k < n) : (Instr.indexAt 24 (.slice (some ⟨b, o, none⟩) n c) (.int .i64 k)).run Tryd.prog w = .ok (.pointer (some ⟨b, o + k * 3, none⟩)) w := by
 have : (0 : Int) ≤ (k : Int) := by omega
 have : (k : Int) < (n : Int) := by omega
 go_simp
theorem ix24z {w : World} {b n c k : Nat} (hk : k < n) : (Instr.indexAt 24 (.slice (some ⟨b, 0, none⟩) n c) (.int .i64 k)).run Tryd.prog w = .ok (.pointer (some ⟨b, k * 3, none⟩)) w := by
 have h := ix24 (w := w) (b := b) (o := 0) (c := c) hk
 rwa [Nat.zero_add] at h
theorem ix35 {w : World} {b o n c k : Nat} (hk : k < n) : (Instr.indexAt 35 (.slice (some ⟨b, o, none⟩) n c) (.int .i64 k)).run Tryd.prog w = .ok (.pointer (some ⟨b, o + k, none⟩)) w := by
 have : (0 : Int) ≤ (k : Int) := by omega
 have : (k : Int) < (n : Int) := by omega
 go_simp
theorem ix35z {w : World} {b n c k : Nat} (hk : k < n) : (Instr.indexAt 35 (.slice (some ⟨b, 0, none⟩) n c) (.int .i64 k)).run Tryd.prog w = .ok (.pointer (some ⟨b, k, none⟩)) w := by
 have h := ix35 (w := w) (b := b) (o := 0) (c := c) hk
 rwa [Nat.zero_add] at h
theorem ix53 {w : World} {b o n c k : Nat} (hk : k < n) : (Instr.indexAt 53 (.slice (some ⟨b, o, none⟩) n c) (.int .i64 k)).run Tryd.prog w = .ok (.pointer (some ⟨b, o + k * 12, none⟩)) w := by
 have : (0 : Int) ≤ (k : Int) := by omega
 have : (k : Int) < (n : Int) := by omega
 go_simp
theorem ix56 {w : World} {b o n c k : Nat} (hk : k < n) : (Instr.indexAt 56 (.slice (some ⟨b, o, none⟩) n c) (.int .i64 k)).run Tryd.prog w = .ok (.pointer (some ⟨b, o + k * 7, none⟩)) w := by
 have : (0 : Int) ≤ (k : Int) := by omega
 have : (k : Int) < (n : Int) := by omega
 go_simp
theorem ix65 {w : World} {b o n c k : Nat} (hk : k < n) : (Instr.indexAt 65 (.slice (some ⟨b, o, none⟩) n c) (.int .i64 k)).run Tryd.prog w = .ok (.pointer (some ⟨b, o + k, none⟩)) w := by
 have : (0 : Int) ≤ (k : Int) := by omega
 have : (k : Int) < (n : Int) := by omega
 go_simp
theorem ix75 {w : World} {b o n c k : Nat} (hk : k < n) : (Instr.indexAt 75 (.slice (some ⟨b, o, none⟩) n c) (.int .i64 k)).run Tryd.prog w = .ok (.pointer (some ⟨b, o + k * 3, none⟩)) w := by
 have : (0 : Int) ≤ (k : Int) := by omega
 have : (k : Int) < (n : Int) := by omega
 go_simp
theorem ix75z {w : World} {b n c k : Nat} (hk : k < n) : (Instr.indexAt 75 (.slice (some ⟨b, 0, none⟩) n c) (.int .i64 k)).run Tryd.prog w = .ok (.pointer (some ⟨b, k * 3, none⟩)) w := by
 have h := ix75 (w := w) (b := b) (o := 0) (c := c) hk
 rwa [Nat.zero_add] at h
theorem ld105 {w : World} {b o : Nat} {x0 : Value} (h0 : w.cell? ⟨b, o, none⟩ = some x0) : (Instr.loadAt 105 (.pointer (some ⟨b, o, none⟩))).run Tryd.prog w = .ok (x0) w := by go_simp
theorem ld108 {w : World} {b o : Nat} {x0 : Value} (h0 : w.cell? ⟨b, o, none⟩ = some x0) : (Instr.loadAt 108 (.pointer (some ⟨b, o, none⟩))).run Tryd.prog w = .ok (x0) w := by go_simp
theorem ld117 {w : World} {b o : Nat} {x0 : Value} (h0 : w.cell? ⟨b, o, none⟩ = some x0) : (Instr.loadAt 117 (.pointer (some ⟨b, o, none⟩))).run Tryd.prog w = .ok (x0) w := by go_simp
theorem ld22 {w : World} {b o : Nat} {x0 x1 x2 : Value} (h0 : w.cell? ⟨b, o, none⟩ = some x0) (h1 : w.cell? ⟨b, o + 1, none⟩ = some x1) (h2 : w.cell? ⟨b, o + 2, none⟩ = some x2) : (Instr.loadAt 22 (.pointer (some ⟨b, o, none⟩))).run Tryd.prog w = .ok (.agg #[x0, x1, x2]) w := by go_simp
theorem ld24 {w : World} {b o : Nat} {x0 : Value} (h0 : w.cell? ⟨b, o, none⟩ = some x0) : (Instr.loadAt 24 (.pointer (some ⟨b, o, none⟩))).run Tryd.prog w = .ok (x0) w := by go_simp
theorem ld26 {w : World} {b o : Nat} {x0 x1 x2 : Value} (h0 : w.cell? ⟨b, o, none⟩ = some x0) (h1 : w.cell? ⟨b, o + 1, none⟩ = some x1) (h2 : w.cell? ⟨b, o + 2, none⟩ = some x2) : (Instr.loadAt 26 (.pointer (some ⟨b, o, none⟩))).run Tryd.prog w = .ok (.agg #[x0, x1, x2]) w := by go_simp
theorem ld28 {w : World} {b o : Nat} {x0 : Value} (h0 : w.cell? ⟨b, o, none⟩ = some x0) : (Instr.loadAt 28 (.pointer (some ⟨b, o, none⟩))).run Tryd.prog w = .ok (x0) w := by go_simp
theorem ld3 {w : World} {b o : Nat} {x0 : Value} (h0 : w.cell? ⟨b, o, none⟩ = some x0) : (Instr.loadAt 3 (.pointer (some ⟨b, o, none⟩))).run Tryd.prog w = .ok (x0) w := by go_simp
theorem ld35 {w : World} {b o : Nat} {x0 : Value} (h0 : w.cell? ⟨b, o, none⟩ = some x0) : (Instr.loadAt 35 (.pointer (some ⟨b, o, none⟩))).run Tryd.prog w = .ok (x0) w := by go_simp
theorem ld4 {w : World} {b o : Nat} {x0 : Value} (h0 : w.cell? ⟨b, o, none⟩ = some x0) : (Instr.loadAt 4 (.pointer (some ⟨b, o, none⟩))).run Tryd.prog w = .ok (x0) w := by go_simp
theorem ld50 {w : World} {b o : Nat} {x0 : Value} (h0 : w.cell? ⟨b, o, none⟩ = some x0) : (Instr.loadAt 50 (.pointer (some ⟨b, o, none⟩))).run Tryd.prog w = .ok (.agg #[x0]) w := by go_simp
theorem ld52 {w : World} {b o : Nat} {x0 x1 : Value} (h0 : w.cell? ⟨b, o, none⟩ = some x0) (h1 : w.cell? ⟨b, o + 1, none⟩ = some x1) : (Instr.loadAt 52 (.pointer (some ⟨b, o, none⟩))).run Tryd.prog w = .ok (.agg #[x0, x1]) w := by go_simp
theorem ld53 {w : World} {b o : Nat} {x0 : Value} (h0 : w.cell? ⟨b, o, none⟩ = some x0) : (Instr.loadAt 53 (.pointer (some ⟨b, o, none⟩))).run Tryd.prog w = .ok (x0) w := by go_simp
theorem ld55 {w : World} {b o : Nat} {x0 x1 x2 x3 x4 x5 x6 x7 x8 x9 x10 x11 : Value} (h0 : w.cell? ⟨b, o, none⟩ = some x0) (h1 : w.cell? ⟨b, o + 1, none⟩ = some x1) (h2 : w.cell? ⟨b, o + 2, none⟩ = some x2) (h3 : w.cell? ⟨b, o + 3, none⟩ = some x3) (h4 : w.cell? ⟨b, o + 4, none⟩ = some x4) (h5 : w.cell? ⟨b, o + 5, none⟩ = some x5) (h6 : w.cell? ⟨b, o + 6, none⟩ = some x6) (h7 : w.cell? ⟨b, o + 7, none⟩ = some x7) (h8 : w.cell? ⟨b, o + 8, none⟩ = some x8) (h9 : w.cell? ⟨b, o + 9, none⟩ = some x9) (h10 : w.cell? ⟨b, o + 10, none⟩ = some x10) (h11 : w.cell? ⟨b, o + 11, none⟩ = some x11) : (Instr.loadAt 55 (.pointer (some ⟨b, o, none⟩))).run Tryd.prog w = .ok (.agg #[x0, x1, x2, x3, x4, x5, x6, x7, x8, x9, x10, x11]) w := by go_simp
theorem ld56 {w : World} {b o : Nat} {x0 : Value} (h0 : w.cell? ⟨b, o, none⟩ = some x0) : (Instr.loadAt 56 (.pointer (some ⟨b, o, none⟩))).run Tryd.prog w = .ok (x0) w := by go_simp
theorem ld61 {w : World} {b o : Nat} {x0 x1 x2 : Value} (h0 : w.cell? ⟨b, o, none⟩ = some x0) (h1 : w.cell? ⟨b, o + 1, none⟩ = some x1) (h2 : w.cell? ⟨b, o + 2, none⟩ = some x2) : (Instr.loadAt 61 (.pointer (some ⟨b, o, none⟩))).run Tryd.prog w = .ok (.agg #[x0, x1, x2]) w := by go_simp
theorem ld64 {w : World} {b o : Nat} {x0 x1 x2 x3 x4 x5 x6 : Value} (h0 : w.cell? ⟨b, o, none⟩ = some x0) (h1 : w.cell? ⟨b, o + 1, none⟩ = some x1) (h2 : w.cell? ⟨b, o + 2, none⟩ = some x2) (h3 : w.cell? ⟨b, o + 3, none⟩ = some x3) (h4 : w.cell? ⟨b, o + 4, none⟩ = some x4) (h5 : w.cell? ⟨b, o + 5, none⟩ = some x5) (h6 : w.cell? ⟨b, o + 6, none⟩ = some x6) : (Instr.loadAt 64 (.pointer (some ⟨b, o, none⟩))).run Tryd.prog w = .ok (.agg #[x0, x1, x2, x3, x4, x5, x6]) w := by go_simp
theorem ld73 {w : World} {b o : Nat} {x0 x1 x2 : Value} (h0 : w.cell? ⟨b, o, none⟩ = some x0) (h1 : w.cell? ⟨b, o + 1, none⟩ = some x1) (h2 : w.cell? ⟨b, o + 2, none⟩ = some x2) : (Instr.loadAt 73 (.pointer (some ⟨b, o, none⟩))).run Tryd.prog w = .ok (.agg #[x0, x1, x2]) w := by go_simp
theorem ld75 {w : World} {b o : Nat} {x0 : Value} (h0 : w.cell? ⟨b, o, none⟩ = some x0) : (Instr.loadAt 75 (.pointer (some ⟨b, o, none⟩))).run Tryd.prog w = .ok (x0) w := by go_simp
theorem ld79 {w : World} {b o : Nat} {x0 : Value} (h0 : w.cell? ⟨b, o, none⟩ = some x0) : (Instr.loadAt 79 (.pointer (some ⟨b, o, none⟩))).run Tryd.prog w = .ok (x0) w := by go_simp
theorem ld83 {w : World} {b o : Nat} {x0 x1 : Value} (h0 : w.cell? ⟨b, o, none⟩ = some x0) (h1 : w.cell? ⟨b, o + 1, none⟩ = some x1) : (Instr.loadAt 83 (.pointer (some ⟨b, o, none⟩))).run Tryd.prog w = .ok (.agg #[x0, x1]) w := by go_simp
theorem ld84 {w : World} {b o : Nat} {x0 : Value} (h0 : w.cell? ⟨b, o, none⟩ = some x0) : (Instr.loadAt 84 (.pointer (some ⟨b, o, none⟩))).run Tryd.prog w = .ok (x0) w := by go_simp
theorem ld93 {w : World} {b o : Nat} {x0 : Value} (h0 : w.cell? ⟨b, o, none⟩ = some x0) : (Instr.loadAt 93 (.pointer (some ⟨b, o, none⟩))).run Tryd.prog w = .ok (x0) w := by go_simp
theorem sn_setK12 {ev : Operand → Value} {oi : Oper} {w : World} {N : Value → World → Prop} {O j : Nat} {u0 v0 u1 v1 u2 v2 u3 v3 u4 v4 u5 v5 u6 v6 u7 v7 u8 v8 u9 v9 u10 v10 u11 v11 : Value} (h1 : (execOp ev oi).run Tryd.prog w = .ok .skip ((((((((((((w.setCell ⟨O, j, none⟩ v0).setCell ⟨O, j + 1, none⟩ v1).setCell ⟨O, j + 2, none⟩ v2).setCell ⟨O, j + 3, none⟩ v3).setCell ⟨O, j + 4, none⟩ v4).setCell ⟨O, j + 5, none⟩ v5).setCell ⟨O, j + 6, none⟩ v6).setCell ⟨O, j + 7, none⟩ v7).setCell ⟨O, j + 8, none⟩ v8).setCell ⟨O, j + 9, none⟩ v9).setCell ⟨O, j + 10, none⟩ v10).setCell ⟨O, j + 11, none⟩ v11)) (b0 : BoxAt w O j u0) (b1 : BoxAt w O (j + 1) u1) (b2 : BoxAt w O (j + 2) u2) (b3 : BoxAt w O (j + 3) u3) (b4 : BoxAt w O (j + 4) u4) (b5 : BoxAt w O (j + 5) u5) (b6 : BoxAt w O (j + 6) u6) (b7 : BoxAt w O (j + 7) u7) (b8 : BoxAt w O (j + 8) u8) (b9 : BoxAt w O (j + 9) u9) (b10 : BoxAt w O (j + 10) u10) (b11 : BoxAt w O (j + 11) u11)
  (h : ∀ X, Turns O w X → BoxAt X O j v0 → BoxAt X O (j + 1) v1 → BoxAt X O (j + 2) v2 → BoxAt X O (j + 3) v3 → BoxAt X O (j + 4) v4 → BoxAt X O (j + 5) v5 → BoxAt X O (j + 6) v6 → BoxAt X O (j + 7) v7 → BoxAt X O (j + 8) v8 → BoxAt X O (j + 9) v9 → BoxAt X O (j + 10) v10 → BoxAt X O (j + 11) v11 → (∀ i x, i ≠ j → i ≠ (j + 1) → i ≠ (j + 2) → i ≠ (j + 3) → i ≠ (j + 4) → i ≠ (j + 5) → i ≠ (j + 6) → i ≠ (j + 7) → i ≠ (j + 8) → i ≠ (j + 9) → i ≠ (j + 10) → i ≠ (j + 11) → BoxAt w O i x → BoxAt X O i x) → N undef X) : StepN Tryd.prog ev oi w N := by
 have k : ∀ (W : World) (j : Nat) (u v : Value), BoxAt W O j u → BoxAt (W.setCell ⟨O, j, none⟩ v) O j v := fun W j u v hO => ⟨by have := hO.1; simp [go_sem, this], by have := hO.2; simpa [go_sem] using this⟩
 have k2 : ∀ (W : World) (j i : Nat) (x v : Value), i ≠ j → BoxAt W O i x → BoxAt (W.setCell ⟨O, j, none⟩ v) O i x := fun W j i x v hi hx => ⟨by rw [World.cell?_setCell_other W _ _ _ (fun e => hi (congrArg Addr.off e).symm)]; exact hx.1, by simp [go_sem, hx.2]⟩
 exact sn_skp h1 (h _ ((((((((((((turns_set _ _ _ _).trans (turns_set _ _ _ _)).trans (turns_set _ _ _ _)).trans (turns_set _ _ _ _)).trans (turns_set _ _ _ _)).trans (turns_set _ _ _ _)).trans (turns_set _ _ _ _)).trans (turns_set _ _ _ _)).trans (turns_set _ _ _ _)).trans (turns_set _ _ _ _)).trans (turns_set _ _ _ _)).trans (turns_set _ _ _ _)) (k2 _ _ _ _ _ (by omega) (k2 _ _ _ _ _ (by omega) (k2 _ _ _ _ _ (by omega) (k2 _ _ _ _ _ (by omega) (k2 _ _ _ _ _ (by omega) (k2 _ _ _ _ _ (by omega) (k2 _ _ _ _ _ (by omega) (k2 _ _ _ _ _ (by omega) (k2 _ _ _ _ _ (by omega) (k2 _ _ _ _ _ (by omega) (k2 _ _ _ _ _ (by omega) (k _ _ _ _ b0)))))))))))) (k2 _ _ _ _ _ (by omega) (k2 _ _ _ _ _ (by omega) (k2 _ _ _ _ _ (by omega) (k2 _ _ _ _ _ (by omega) (k2 _ _ _ _ _ (by omega) (k2 _ _ _ _ _ (by omega) (k2 _ _ _ _ _ (by omega) (k2 _ _ _ _ _ (by omega) (k2 _ _ _ _ _ (by omega) (k2 _ _ _ _ _ (by omega) (k _ _ _ _ (k2 _ _ _ _ _ (by omega) b1)))))))))))) (k2 _ _ _ _ _ (by omega) (k2 _ _ _ _ _ (by omega) (k2 _ _ _ _ _ (by omega) (k2 _ _ _ _ _ (by omega) (k2 _ _ _ _ _ (by omega) (k2 _ _ _ _ _ (by omega) (k2 _ _ _ _ _ (by omega) (k2 _ _ _ _ _ (by omega) (k2 _ _ _ _ _ (by omega) (k _ _ _ _ (k2 _ _ _ _ _ (by omega) (k2 _ _ _ _ _ (by omega) b2)))))))))))) (k2 _ _ _ _ _ (by omega) (k2 _ _ _ _ _ (by omega) (k2 _ _ _ _ _ (by omega) (k2 _ _ _ _ _ (by omega) (k2 _ _ _ _ _ (by omega) (k2 _ _ _ _ _ (by omega) (k2 _ _ _ _ _ (by omega) (k2 _ _ _ _ _ (by omega) (k _ _ _ _ (k2 _ _ _ _ _ (by omega) (k2 _ _ _ _ _ (by omega) (k2 _ _ _ _ _ (by omega) b3)))))))))))) (k2 _ _ _ _ _ (by omega) (k2 _ _ _ _ _ (by omega) (k2 _ _ _ _ _ (by omega) (k2 _ _ _ _ _ (by omega) (k2 _ _ _ _ _ (by omega) (k2 _ _ _ _ _ (by omega) (k2 _ _ _ _ _ (by omega) (k _ _ _ _ (k2 _ _ _ _ _ (by omega) (k2 _ _ _ _ _ (by omega) (k2 _ _ _ _ _ (by omega) (k2 _ _ _ _ _ (by omega) b4)))))))))))) (k2 _ _ _ _ _ (by omega) (k2 _ _ _ _ _ (by omega) (k2 _ _ _ _ _ (by omega) (k2 _ _ _ _ _ (by omega) (k2 _ _ _ _ _ (by omega) (k2 _ _ _ _ _ (by omega) (k _ _ _ _ (k2 _ _ _ _ _ (by omega) (k2 _ _ _ _ _ (by omega) (k2 _ _ _ _ _ (by omega) (k2 _ _ _ _ _ (by omega) (k2 _ _ _ _ _ (by omega) b5)))))))))))) (k2 _ _ _ _ _ (by omega) (k2 _ _ _ _ _ (by omega) (k2 _ _ _ _ _ (by omega) (k2 _ _ _ _ _ (by omega) (k2 _ _ _ _ _ (by omega) (k _ _ _ _ (k2 _ _ _ _ _ (by omega) (k2 _ _ _ _ _ (by omega) (k2 _ _ _ _ _ (by omega) (k2 _ _ _ _ _ (by omega) (k2 _ _ _ _ _ (by omega) (k2 _ _ _ _ _ (by omega) b6)))))))))))) (k2 _ _ _ _ _ (by omega) (k2 _ _ _ _ _ (by omega) (k2 _ _ _ _ _ (by omega) (k2 _ _ _ _ _ (by omega) (k _ _ _ _ (k2 _ _ _ _ _ (by omega) (k2 _ _ _ _ _ (by omega) (k2 _ _ _ _ _ (by omega) (k2 _ _ _ _ _ (by omega) (k2 _ _ _ _ _ (by omega) (k2 _ _ _ _ _ (by omega) (k2 _ _ _ _ _ (by omega) b7)))))))))))) (k2 _ _ _ _ _ (by omega) (k2 _ _ _ _ _ (by omega) (k2 _ _ _ _ _ (by omega) (k _ _ _ _ (k2 _ _ _ _ _ (by omega) (k2 _ _ _ _ _ (by omega) (k2 _ _ _ _ _ (by omega) (k2 _ _ _ _ _ (by omega) (k2 _ _ _ _ _ (by omega) (k2 _ _ _ _ _ (by omega) (k2 _ _ _ _ _ (by omega) (k2 _ _ _ _ _ (by omega) b8)))))))))))) (k2 _ _ _ _ _ (by omega) (k2 _ _ _ _ _ (by omega) (k _ _ _ _ (k2 _ _ _ _ _ (by omega) (k2 _ _ _ _ _ (by omega) (k2 _ _ _ _ _ (by omega) (k2 _ _ _ _ _ (by omega) (k2 _ _ _ _ _ (by omega) (k2 _ _ _ _ _ (by omega) (k2 _ _ _ _ _ (by omega) (k2 _ _ _ _ _ (by omega) (k2 _ _ _ _ _ (by omega) b9)))))))))))) (k2 _ _ _ _ _ (by omega) (k _ _ _ _ (k2 _ _ _ _ _ (by omega) (k2 _ _ _ _ _ (by omega) (k2 _ _ _ _ _ (by omega) (k2 _ _ _ _ _ (by omega) (k2 _ _ _ _ _ (by omega) (k2 _ _ _ _ _ (by omega) (k2 _ _ _ _ _ (by omega) (k2 _ _ _ _ _ (by omega) (k2 _ _ _ _ _ (by omega) (k2 _ _ _ _ _ (by omega) b10)))))))))))) (k _ _ _ _ (k2 _ _ _ _ _ (by omega) (k2 _ _ _ _ _ (by omega) (k2 _ _ _ _ _ (by omega) (k2 _ _ _ _ _ (by omega) (k2 _ _ _ _ _ (by omega) (k2 _ _ _ _ _ (by omega) (k2 _ _ _ _ _ (by omega) (k2 _ _ _ _ _ (by omega) (k2 _ _ _ _ _ (by omega) (k2 _ _ _ _ _ (by omega) (k2 _ _ _ _ _ (by omega) b11)))))))))))) fun i x h0 h1 h2 h3 h4 h5 h6 h7 h8 h9 h10 h11 hx => (k2 _ _ _ _ _ h11 (k2 _ _ _ _ _ h10 (k2 _ _ _ _ _ h9 (k2 _ _ _ _ _ h8 (k2 _ _ _ _ _ h7 (k2 _ _ _ _ _ h6 (k2 _ _ _ _ _ h5 (k2 _ _ _ _ _ h4 (k2 _ _ _ _ _ h3 (k2 _ _ _ _ _ h2 (k2 _ _ _ _ _ h1 (k2 _ _ _ _ _ h0 hx)))))))))))))
theorem sn_setK3 {ev : Operand → Value} {oi : Oper} {w : World} {N : Value → World → Prop} {O j : Nat} {u0 v0 u1 v1 u2 v2 : Value} (h1 : (execOp ev oi).run Tryd.prog w = .ok .skip (((w.setCell ⟨O, j, none⟩ v0).setCell ⟨O, j + 1, none⟩ v1).setCell ⟨O, j + 2, none⟩ v2)) (b0 : BoxAt w O j u0) (b1 : BoxAt w O (j + 1) u1) (b2 : BoxAt w O (j + 2) u2)
  (h : ∀ X, Turns O w X → BoxAt X O j v0 → BoxAt X O (j + 1) v1 → BoxAt X O (j + 2) v2 → (∀ i x, i ≠ j → i ≠ (j + 1) → i ≠ (j + 2) → BoxAt w O i x → BoxAt X O i x) → N undef X) : StepN Tryd.prog ev oi w N := by
 have k : ∀ (W : World) (j : Nat) (u v : Value), BoxAt W O j u → BoxAt (W.setCell ⟨O, j, none⟩ v) O j v := fun W j u v hO => ⟨by have := hO.1; simp [go_sem, this], by have := hO.2; simpa [go_sem] using this⟩
 have k2 : ∀ (W : World) (j i : Nat) (x v : Value), i ≠ j → BoxAt W O i x → BoxAt (W.setCell ⟨O, j, none⟩ v) O i x := fun W j i x v hi hx => ⟨by rw [World.cell?_setCell_other W _ _ _ (fun e => hi (congrArg Addr.off e).symm)]; exact hx.1, by simp [go_sem, hx.2]⟩
 exact sn_skp h1 (h _ (((turns_set _ _ _ _).trans (turns_set _ _ _ _)).trans (turns_set _ _ _ _)) (k2 _ _ _ _ _ (by omega) (k2 _ _ _ _ _ (by omega) (k _ _ _ _ b0))) (k2 _ _ _ _ _ (by omega) (k _ _ _ _ (k2 _ _ _ _ _ (by omega) b1))) (k _ _ _ _ (k2 _ _ _ _ _ (by omega) (k2 _ _ _ _ _ (by omega) b2))) fun i x h0 h1 h2 hx => (k2 _ _ _ _ _ h2 (k2 _ _ _ _ _ h1 (k2 _ _ _ _ _ h0 hx))))
theorem sn_setK7 {ev : Operand → Value} {oi : Oper} {w : World} {N : Value → World → Prop} {O j : Nat} {u0 v0 u1 v1 u2 v2 u3 v3 u4 v4 u5 v5 u6 v6 : Value} (h1 : (execOp ev oi).run Tryd.prog w = .ok .skip (((((((w.setCell ⟨O, j, none⟩ v0).setCell ⟨O, j + 1, none⟩ v1).setCell ⟨O, j + 2, none⟩ v2).setCell ⟨O, j + 3, none⟩ v3).setCell ⟨O, j + 4, none⟩ v4).setCell ⟨O, j + 5, none⟩ v5).setCell ⟨O, j + 6, none⟩ v6)) (b0 : BoxAt w O j u0) (b1 : BoxAt w O (j + 1) u1) (b2 : BoxAt w O (j + 2) u2) (b3 : BoxAt w O (j + 3) u3) (b4 : BoxAt w O (j + 4) u4) (b5 : BoxAt w O (j + 5) u5) (b6 : BoxAt w O (j + 6) u6)
  (h : ∀ X, Turns O w X → BoxAt X O j v0 → BoxAt X O (j + 1) v1 → BoxAt X O (j + 2) v2 → BoxAt X O (j + 3) v3 → BoxAt X O (j + 4) v4 → BoxAt X O (j + 5) v5 → BoxAt X O (j + 6) v6 → (∀ i x, i ≠ j → i ≠ (j + 1) → i ≠ (j + 2) → i ≠ (j + 3) → i ≠ (j + 4) → i ≠ (j + 5) → i ≠ (j + 6) → BoxAt w O i x → BoxAt X O i x) → N undef X) : StepN Tryd.prog ev oi w N := by
 have k : ∀ (W : World) (j : Nat) (u v : Value), BoxAt W O j u → BoxAt (W.setCell ⟨O, j, none⟩ v) O j v := fun W j u v hO => ⟨by have := hO.1; simp [go_sem, this], by have := hO.2; simpa [go_sem] using this⟩
 have k2 : ∀ (W : World) (j i : Nat) (x v : Value), i ≠ j → BoxAt W O i x → BoxAt (W.setCell ⟨O, j, none⟩ v) O i x := fun W j i x v hi hx => ⟨by rw [World.cell?_setCell_other W _ _ _ (fun e => hi (congrArg Addr.off e).symm)]; exact hx.1, by simp [go_sem, hx.2]⟩
 exact sn_skp h1 (h _ (((((((turns_set _ _ _ _).trans (turns_set _ _ _ _)).trans (turns_set _ _ _ _)).trans (turns_set _ _ _ _)).trans (turns_set _ _ _ _)).trans (turns_set _ _ _ _)).trans (turns_set _ _ _ _)) (k2 _ _ _ _ _ (by omega) (k2 _ _ _ _ _ (by omega) (k2 _ _ _ _ _ (by omega) (k2 _ _ _ _ _ (by omega) (k2 _ _ _ _ _ (by omega) (k2 _ _ _ _ _ (by omega) (k _ _ _ _ b0))))))) (k2 _ _ _ _ _ (by omega) (k2 _ _ _ _ _ (by omega) (k2 _ _ _ _ _ (by omega) (k2 _ _ _ _ _ (by omega) (k2 _ _ _ _ _ (by omega) (k _ _ _ _ (k2 _ _ _ _ _ (by omega) b1))))))) (k2 _ _ _ _ _ (by omega) (k2 _ _ _ _ _ (by omega) (k2 _ _ _ _ _ (by omega) (k2 _ _ _ _ _ (by omega) (k _ _ _ _ (k2 _ _ _ _ _ (by omega) (k2 _ _ _ _ _ (by omega) b2))))))) (k2 _ _ _ _ _ (by omega) (k2 _ _ _ _ _ (by omega) (k2 _ _ _ _ _ (by omega) (k _ _ _ _ (k2 _ _ _ _ _ (by omega) (k2 _ _ _ _ _ (by omega) (k2 _ _ _ _ _ (by omega) b3))))))) (k2 _ _ _ _ _ (by omega) (k2 _ _ _ _ _ (by omega) (k _ _ _ _ (k2 _ _ _ _ _ (by omega) (k2 _ _ _ _ _ (by omega) (k2 _ _ _ _ _ (by omega) (k2 _ _ _ _ _ (by omega) b4))))))) (k2 _ _ _ _ _ (by omega) (k _ _ _ _ (k2 _ _ _ _ _ (by omega) (k2 _ _ _ _ _ (by omega) (k2 _ _ _ _ _ (by omega) (k2 _ _ _ _ _ (by omega) (k2 _ _ _ _ _ (by omega) b5))))))) (k _ _ _ _ (k2 _ _ _ _ _ (by omega) (k2 _ _ _ _ _ (by omega) (k2 _ _ _ _ _ (by omega) (k2 _ _ _ _ _ (by omega) (k2 _ _ _ _ _ (by omega) (k2 _ _ _ _ _ (by omega) b6))))))) fun i x h0 h1 h2 h3 h4 h5 h6 hx => (k2 _ _ _ _ _ h6 (k2 _ _ _ _ _ h5 (k2 _ _ _ _ _ h4 (k2 _ _ _ _ _ h3 (k2 _ _ _ _ _ h2 (k2 _ _ _ _ _ h1 (k2 _ _ _ _ _ h0 hx))))))))
theorem st108 {w : World} {b o : Nat} {u0 : Value} {x0 : Option Nat} (h0 : w.cell? ⟨b, o, none⟩ = some u0) (f0 : w.frozen? ⟨b, o, none⟩ = false) : (Instr.storeAt 108 (.pointer (some ⟨b, o, none⟩)) ((.map x0))).run Tryd.prog w = .ok () (w.setCell ⟨b, o, none⟩ (.map x0)) := by go_simp
theorem st117 {w : World} {b o : Nat} {u0 : Value} {x0 : Option Nat} (h0 : w.cell? ⟨b, o, none⟩ = some u0) (f0 : w.frozen? ⟨b, o, none⟩ = false) : (Instr.storeAt 117 (.pointer (some ⟨b, o, none⟩)) ((.map x0))).run Tryd.prog w = .ok () (w.setCell ⟨b, o, none⟩ (.map x0)) := by go_simp
theorem st24 {w : World} {b o : Nat} {u0 : Value} {a0 : Option Addr} {n0 c0 : Nat} (h0 : w.cell? ⟨b, o, none⟩ = some u0) (f0 : w.frozen? ⟨b, o, none⟩ = false) : (Instr.storeAt 24 (.pointer (some ⟨b, o, none⟩)) ((.slice a0 n0 c0))).run Tryd.prog w = .ok () (w.setCell ⟨b, o, none⟩ (.slice a0 n0 c0)) := by go_simp
theorem st26 {w : World} {b o : Nat} {u0 u1 u2 : Value} {x0 : Int} {x1 : Int} {a2 : Option Addr} {n2 c2 : Nat} (h0 : w.cell? ⟨b, o, none⟩ = some u0) (f0 : w.frozen? ⟨b, o, none⟩ = false) (h1 : w.cell? ⟨b, o + 1, none⟩ = some u1) (f1 : w.frozen? ⟨b, o + 1, none⟩ = false) (h2 : w.cell? ⟨b, o + 2, none⟩ = some u2) (f2 : w.frozen? ⟨b, o + 2, none⟩ = false) : (Instr.storeAt 26 (.pointer (some ⟨b, o, none⟩)) (.agg #[(.int .i64 x0), (.int .i64 x1), (.slice a2 n2 c2)])).run Tryd.prog w = .ok () (((w.setCell ⟨b, o, none⟩ (.int .i64 x0)).setCell ⟨b, o + 1, none⟩ (.int .i64 x1)).setCell ⟨b, o + 2, none⟩ (.slice a2 n2 c2)) := by go_simp
theorem st28 {w : World} {b o : Nat} {u0 : Value} {q0 : Fn} {x0 y0 : Array Value} (h0 : w.cell? ⟨b, o, none⟩ = some u0) (f0 : w.frozen? ⟨b, o, none⟩ = false) : (Instr.storeAt 28 (.pointer (some ⟨b, o, none⟩)) ((.func q0 x0 y0))).run Tryd.prog w = .ok () (w.setCell ⟨b, o, none⟩ (.func q0 x0 y0)) := by go_simp
theorem st3 {w : World} {b o : Nat} {u0 : Value} {x0 : Int} (h0 : w.cell? ⟨b, o, none⟩ = some u0) (f0 : w.frozen? ⟨b, o, none⟩ = false) : (Instr.storeAt 3 (.pointer (some ⟨b, o, none⟩)) ((.int .i64 x0))).run Tryd.prog w = .ok () (w.setCell ⟨b, o, none⟩ (.int .i64 x0)) := by go_simp
theorem st35 {w : World} {b o : Nat} {u0 : Value} {a0 : Option Addr} {n0 c0 : Nat} (h0 : w.cell? ⟨b, o, none⟩ = some u0) (f0 : w.frozen? ⟨b, o, none⟩ = false) : (Instr.storeAt 35 (.pointer (some ⟨b, o, none⟩)) ((.slice a0 n0 c0))).run Tryd.prog w = .ok () (w.setCell ⟨b, o, none⟩ (.slice a0 n0 c0)) := by go_simp
theorem st4 {w : World} {b o : Nat} {u0 : Value} {x0 : Bool} (h0 : w.cell? ⟨b, o, none⟩ = some u0) (f0 : w.frozen? ⟨b, o, none⟩ = false) : (Instr.storeAt 4 (.pointer (some ⟨b, o, none⟩)) ((.bool x0))).run Tryd.prog w = .ok () (w.setCell ⟨b, o, none⟩ (.bool x0)) := by go_simp
theorem st50 {w : World} {b o : Nat} {u0 : Value} {a0 : Option Addr} {n0 c0 : Nat} (h0 : w.cell? ⟨b, o, none⟩ = some u0) (f0 : w.frozen? ⟨b, o, none⟩ = false) : (Instr.storeAt 50 (.pointer (some ⟨b, o, none⟩)) (.agg #[(.slice a0 n0 c0)])).run Tryd.prog w = .ok () (w.setCell ⟨b, o, none⟩ (.slice a0 n0 c0)) := by go_simp
theorem st52 {w : World} {b o : Nat} {u0 u1 : Value} {x0 : Int} {x1 : Int} (h0 : w.cell? ⟨b, o, none⟩ = some u0) (f0 : w.frozen? ⟨b, o, none⟩ = false) (h1 : w.cell? ⟨b, o + 1, none⟩ = some u1) (f1 : w.frozen? ⟨b, o + 1, none⟩ = false) : (Instr.storeAt 52 (.pointer (some ⟨b, o, none⟩)) (.agg #[(.int .i64 x0), (.int .i64 x1)])).run Tryd.prog w = .ok () ((w.setCell ⟨b, o, none⟩ (.int .i64 x0)).setCell ⟨b, o + 1, none⟩ (.int .i64 x1)) := by go_simp
theorem st55 {w : World} {b o : Nat} {u0 u1 u2 u3 u4 u5 u6 u7 u8 u9 u10 u11 : Value} {x0 : Int} {a1 : Option Addr} {n1 c1 : Nat} {x2 : Int} {x3 : Int} {x4 : Int} {x5 : Int} {x6 : Bool} {x7 : Int} {x8 : Int} {x9 : Int} {a10 : Option Addr} {n10 c10 : Nat} {a11 : Option Addr} {n11 c11 : Nat} (h0 : w.cell? ⟨b, o, none⟩ = some u0) (f0 : w.frozen? ⟨b, o, none⟩ = false) (h1 : w.cell? ⟨b, o + 1, none⟩ = some u1) (f1 : w.frozen? ⟨b, o + 1, none⟩ = false) (h2 : w.cell? ⟨b, o + 2, none⟩ = some u2) (f2 : w.frozen? ⟨b, o + 2, none⟩ = false) (h3 : w.cell? ⟨b, o + 3, none⟩ = some u3) (f3 : w.frozen? ⟨b, o + 3, none⟩ = false) (h4 : w.cell? ⟨b, o + 4, none⟩ = some u4) (f4 : w.frozen? ⟨b, o + 4, none⟩ = false) (h5 : w.cell? ⟨b, o + 5, none⟩ = some u5) (f5 : w.frozen? ⟨b, o + 5, none⟩ = false) (h6 : w.cell? ⟨b, o + 6, none⟩ = some u6) (f6 : w.frozen? ⟨b, o + 6, none⟩ = false) (h7 : w.cell? ⟨b, o + 7, none⟩ = some u7) (f7 : w.frozen? ⟨b, o + 7, none⟩ = false) (h8 : w.cell? ⟨b, o + 8, none⟩ = some u8) (f8 : w.frozen? ⟨b, o + 8, none⟩ = false) (h9 : w.cell? ⟨b, o + 9, none⟩ = some u9) (f9 : w.frozen? ⟨b, o + 9, none⟩ = false) (h10 : w.cell? ⟨b, o + 10, none⟩ = some u10) (f10 : w.frozen? ⟨b, o + 10, none⟩ = false) (h11 : w.cell? ⟨b, o + 11, none⟩ = some u11) (f11 : w.frozen? ⟨b, o + 11, none⟩ = false) : (Instr.storeAt 55 (.pointer (some ⟨b, o, none⟩)) (.agg #[(.int .i64 x0), (.slice a1 n1 c1), (.int .i64 x2), (.int .i64 x3), (.int .i64 x4), (.int .i64 x5), (.bool x6), (.int .i64 x7), (.int .i64 x8), (.int .i64 x9), (.slice a10 n10 c10), (.slice a11 n11 c11)])).run Tryd.prog w = .ok () ((((((((((((w.setCell ⟨b, o, none⟩ (.int .i64 x0)).setCell ⟨b, o + 1, none⟩ (.slice a1 n1 c1)).setCell ⟨b, o + 2, none⟩ (.int .i64 x2)).setCell ⟨b, o + 3, none⟩ (.int .i64 x3)).setCell ⟨b, o + 4, none⟩ (.int .i64 x4)).setCell ⟨b, o + 5, none⟩ (.int .i64 x5)).setCell ⟨b, o + 6, none⟩ (.bool x6)).setCell ⟨b, o + 7, none⟩ (.int .i64 x7)).setCell ⟨b, o + 8, none⟩ (.int .i64 x8)).setCell ⟨b, o + 9, none⟩ (.int .i64 x9)).setCell ⟨b, o + 10, none⟩ (.slice a10 n10 c10)).setCell ⟨b, o + 11, none⟩ (.slice a11 n11 c11)) := by go_simp
theorem st61 {w : World} {b o : Nat} {u0 u1 u2 : Value} {x0 : Int} {x1 : Int} {x2 : Int} (h0 : w.cell? ⟨b, o, none⟩ = some u0) (f0 : w.frozen? ⟨b, o, none⟩ = false) (h1 : w.cell? ⟨b, o + 1, none⟩ = some u1) (f1 : w.frozen? ⟨b, o + 1, none⟩ = false) (h2 : w.cell? ⟨b, o + 2, none⟩ = some u2) (f2 : w.frozen? ⟨b, o + 2, none⟩ = false) : (Instr.storeAt 61 (.pointer (some ⟨b, o, none⟩)) (.agg #[(.int .i64 x0), (.int .i64 x1), (.int .i64 x2)])).run Tryd.prog w = .ok () (((w.setCell ⟨b, o, none⟩ (.int .i64 x0)).setCell ⟨b, o + 1, none⟩ (.int .i64 x1)).setCell ⟨b, o + 2, none⟩ (.int .i64 x2)) := by go_simp
theorem st64 {w : World} {b o : Nat} {u0 u1 u2 u3 u4 u5 u6 : Value} {x0 : Int} {x1 : Int} {x2 : Int} {a3 : Option Addr} {n3 c3 : Nat} {x4 : Int} {x5 : Int} {x6 : Bool} (h0 : w.cell? ⟨b, o, none⟩ = some u0) (f0 : w.frozen? ⟨b, o, none⟩ = false) (h1 : w.cell? ⟨b, o + 1, none⟩ = some u1) (f1 : w.frozen? ⟨b, o + 1, none⟩ = false) (h2 : w.cell? ⟨b, o + 2, none⟩ = some u2) (f2 : w.frozen? ⟨b, o + 2, none⟩ = false) (h3 : w.cell? ⟨b, o + 3, none⟩ = some u3) (f3 : w.frozen? ⟨b, o + 3, none⟩ = false) (h4 : w.cell? ⟨b, o + 4, none⟩ = some u4) (f4 : w.frozen? ⟨b, o + 4, none⟩ = false) (h5 : w.cell? ⟨b, o + 5, none⟩ = some u5) (f5 : w.frozen? ⟨b, o + 5, none⟩ = false) (h6 : w.cell? ⟨b, o + 6, none⟩ = some u6) (f6 : w.frozen? ⟨b, o + 6, none⟩ = false) : (Instr.storeAt 64 (.pointer (some ⟨b, o, none⟩)) (.agg #[(.int .i64 x0), (.int .i64 x1), (.int .i64 x2), (.slice a3 n3 c3), (.int .i64 x4), (.int .i64 x5), (.bool x6)])).run Tryd.prog w = .ok () (((((((w.setCell ⟨b, o, none⟩ (.int .i64 x0)).setCell ⟨b, o + 1, none⟩ (.int .i64 x1)).setCell ⟨b, o + 2, none⟩ (.int .i64 x2)).setCell ⟨b, o + 3, none⟩ (.slice a3 n3 c3)).setCell ⟨b, o + 4, none⟩ (.int .i64 x4)).setCell ⟨b, o + 5, none⟩ (.int .i64 x5)).setCell ⟨b, o + 6, none⟩ (.bool x6)) := by go_simp
theorem st73 {w : World} {b o : Nat} {u0 u1 u2 : Value} {x0 : Bool} {x1 : Int} {x2 : Int} (h0 : w.cell? ⟨b, o, none⟩ = some u0) (f0 : w.frozen? ⟨b, o, none⟩ = false) (h1 : w.cell? ⟨b, o + 1, none⟩ = some u1) (f1 : w.frozen? ⟨b, o + 1, none⟩ = false) (h2 : w.cell? ⟨b, o + 2, none⟩ = some u2) (f2 : w.frozen? ⟨b, o + 2, none⟩ = false) : (Instr.storeAt 73 (.pointer (some ⟨b, o, none⟩)) (.agg #[(.bool x0), (.int .i64 x1), (.int .i64 x2)])).run Tryd.prog w = .ok () (((w.setCell ⟨b, o, none⟩ (.bool x0)).setCell ⟨b, o + 1, none⟩ (.int .i64 x1)).setCell ⟨b, o + 2, none⟩ (.int .i64 x2)) := by go_simp
theorem st75 {w : World} {b o : Nat} {u0 : Value} {a0 : Option Addr} {n0 c0 : Nat} (h0 : w.cell? ⟨b, o, none⟩ = some u0) (f0 : w.frozen? ⟨b, o, none⟩ = false) : (Instr.storeAt 75 (.pointer (some ⟨b, o, none⟩)) ((.slice a0 n0 c0))).run Tryd.prog w = .ok () (w.setCell ⟨b, o, none⟩ (.slice a0 n0 c0)) := by go_simp
theorem st79 {w : World} {b o : Nat} {u0 : Value} {q0 : Fn} {x0 y0 : Array Value} (h0 : w.cell? ⟨b, o, none⟩ = some u0) (f0 : w.frozen? ⟨b, o, none⟩ = false) : (Instr.storeAt 79 (.pointer (some ⟨b, o, none⟩)) ((.func q0 x0 y0))).run Tryd.prog w = .ok () (w.setCell ⟨b, o, none⟩ (.func q0 x0 y0)) := by go_simp
theorem st83 {w : World} {b o : Nat} {u0 u1 : Value} {x0 : Int} {x1 : Int} (h0 : w.cell? ⟨b, o, none⟩ = some u0) (f0 : w.frozen? ⟨b, o, none⟩ = false) (h1 : w.cell? ⟨b, o + 1, none⟩ = some u1) (f1 : w.frozen? ⟨b, o + 1, none⟩ = false) : (Instr.storeAt 83 (.pointer (some ⟨b, o, none⟩)) (.agg #[(.int .i64 x0), (.int .i64 x1)])).run Tryd.prog w = .ok () ((w.setCell ⟨b, o, none⟩ (.int .i64 x0)).setCell ⟨b, o + 1, none⟩ (.int .i64 x1)) := by go_simp
end Go.Proofs.YtpfajhcdfgpgmaaDoor

namespace Go.Proofs.YtpfajhcdfgpgmaaDoor
set_option maxRecDepth 1000000
set_option maxHeartbeats 4000000
set_option synthInstance.maxHeartbeats 0
set_option synthInstance.maxSize 9999
open Go.RowKit
def Tz26_0 : List Row := [(some 11, [1], []), (some 12, [11], [0]), (some 13, [1], []), (some 14, [13], [2]), (some 15, [1], []), (some 16, [15], [4]), (some 17, [1], []), (some 18, [17], [6]), (some 19, [3], [0, 1]), (none, [19, 12], [8, 1, 0, 1]), (some 20, [3], [0, 1, 2, 3, 8, 9]), (none, [20, 14], [10, 3, 9, 0, 1, 2, 3, 8, 9]), (some 21, [3], [0, 1, 2, 3, 4, 5, 8, 9, 10, 11]), (none, [21, 16], [12, 5, 11, 0, 1, 2, 3, 4, 5, 8, 9, 10, 11]), (some 22, [3], [0, 1, 2, 3, 4, 5, 6, 7, 8, 9, 10, 11, 12, 13]), (none, [22, 18], [14, 7, 13, 0, 1, 2, 3, 4, 5, 6, 7, 8, 9, 10, 11, 12, 13])]
def Tz26_1 : List Row := [(some 25, [1], []), (some 26, [25], [0]), (some 27, [1], []), (some 28, [27], [2]), (some 29, [3], [0, 1]), (none, [29, 26], [4, 1, 0, 1]), (some 30, [3], [0, 1, 2, 3, 4, 5]), (none, [30, 28], [6, 3, 5, 0, 1, 2, 3, 4, 5])]
def Tz26_2 : List Row := [(some 33, [1], []), (some 34, [33], [0]), (some 35, [1], []), (some 36, [35], [2]), (some 37, [1], []), (some 38, [37], [4]), (some 39, [1], []), (some 40, [39], [6]), (some 41, [40], [7]), (some 42, [3], [0, 1]), (none, [42, 34], [9, 1, 0, 1]), (some 43, [3], [0, 1, 2, 3, 9, 10]), (none, [43, 36], [11, 3, 10, 0, 1, 2, 3, 9, 10]), (some 44, [3], [0, 1, 2, 3, 4, 5, 9, 10, 11, 12]), (none, [44, 38], [13, 5, 12, 0, 1, 2, 3, 4, 5, 9, 10, 11, 12]), (some 45, [3], [0, 1, 2, 3, 4, 5, 6, 7, 8, 9, 10, 11, 12, 13, 14]), (some 46, [45], [15, 0, 1, 2, 3, 4, 5, 6, 7, 8, 9, 10, 11, 12, 13, 14]), (none, [46, 41], [16, 8, 14, 0, 1, 2, 3, 4, 5, 6, 7, 8, 9, 10, 11, 12, 13, 14])]
theorem eqG_bol {P : Program} {w : World} {op : BinOp} {t : TypeId} {x y : Operand} {a b : Bool} : (eqGuard op t x y (.bool a) (.bool b)).run P w = .ok () w := by
 cases op <;> simp [eqGuard]
theorem bin_eqb_t {w : World} {a b : Bool} (h : a = b) : (binOp .eql 4 (.bool a) (.bool b)).run Tryd.prog w = .ok (.bool true) w := by
 subst h
 cases a <;> kernel_rfl
theorem bin_eqb_f {w : World} {a b : Bool} (h : ¬ a = b) : (binOp .eql 4 (.bool a) (.bool b)).run Tryd.prog w = .ok (.bool false) w := by
 cases a <;> cases b <;> first | exact absurd rfl h | (clear h; kernel_rfl)
theorem spell_eq (w : World) (a b c d : Int) : (Op.equal 52 (.agg #[.int .i64 a, .int .i64 b]) (.agg #[.int .i64 c, .int .i64 d])).run Tryd.prog w = .ok (decide (a = c ∧ b = d)) w := by
  unfold Op.equal Op.maxDepth
  by_cases h1 : a = c
  · by_cases h2 : b = d
    · subst h1; subst h2
      go_simp
    · go_simp
  · go_simp
theorem order_in_c (n lo hi : Int) (w : World) : Calls Tryd.prog 78 #[iv n, iv lo, iv hi] w fun e w' => e = .returned (.bool (Globe.inB n lo hi)) ∧ Ext w w' := by
 refine calls_cw 15 [(2, iv hi), (1, iv lo), (0, iv n)] Tryd.func78 rfl Tryd.ntmps78 (by kernel_rfl) (by kernel_rfl) (fun L => ?_);have hE := Ext.refl w;refine zc (zp (pT (.bool false) ?_));refine zn (zc (zp (pD (iv n) (iv lo) ?_)))
 by_cases hc1 : (n : Int) ≥ (lo : Int)
 ·
  refine pU (.bool true) (ed ((n : Int) ≥ (lo : Int)) (hc1)) ?_;refine pD (.bool true) (iv n) ?_;refine pT (iv hi) ?_
  by_cases hc2 : (n : Int) ≤ (hi : Int)
  ·
   refine pU (.bool true) (ed ((n : Int) ≤ (hi : Int)) (hc2)) ?_;refine pD (.bool true) (.bool true) ?_;refine zn (cw_ret (qw_ret [.bool true] rfl ⟨(by kernel_rfl), trivial⟩ ?_));exact ⟨rb (by first | exact (decide_eq_true (by omega)).symm | exact (decide_eq_false (by omega)).symm), hE⟩
  ·
   refine pU (.bool false) (en ((n : Int) ≤ (hi : Int)) (hc2)) ?_;refine pD (.bool false) (.bool false) ?_;refine zn (cw_ret (qw_ret [.bool false] rfl ⟨(by kernel_rfl), trivial⟩ ?_));exact ⟨rb (by first | exact (decide_eq_true (by omega)).symm | exact (decide_eq_false (by omega)).symm), hE⟩
 ·
  refine pU (.bool false) (en ((n : Int) ≥ (lo : Int)) (hc1)) ?_;refine pT (.bool false) ?_;refine pK ?_;refine pK ?_;refine pK ?_;refine pD (.bool false) (.bool false) ?_;refine zn (cw_ret (qw_ret [.bool false] rfl ⟨(by kernel_rfl), trivial⟩ ?_));exact ⟨rb (by first | exact (decide_eq_true (by omega)).symm | exact (decide_eq_false (by omega)).symm), hE⟩
theorem order_in_r (n lo hi : Int) {r : Bool} (w : World) (hr : Globe.inB n lo hi = r) : Calls Tryd.prog 78 #[.int .i64 n, .int .i64 lo, .int .i64 hi] w fun e w' => e = .returned (.bool r) ∧ Ext w w' := hr ▸ order_in_c n lo hi w
theorem CountP_c {w0 : World} {a : Option Addr} {l : List Int} {n : Nat} {v : Bool} (c : Nat) (w : World) (h : AA w0 a l n v) (e : Ext w0 w) (hv : v = true) (hT : Tab w0) : Calls Tryd.prog 85 #[.agg #[.slice a n c]] w fun e w' => e = .returned (.int .i64 (Gol.cntI l)) ∧ Ext w w' := by
 subst hv
 obtain ⟨b, o, rfl, rfl, hva⟩ := (h.ext e).va
 have hl := (Globe.validL_t.1 hva.2).1
 have hq := Count_yes b o c l w (fun i hi => hva.1 i (by omega)) hva.2 (hT.ext e)
 rw [hl] at hq
 exact hq
theorem last_c (k : Int) (w : World) : Calls Tryd.prog 88 #[iv k] w fun e w' => e = .returned (iv (Gol.lastK k)) ∧ Ext w w' := by
 refine calls_cw 9 [(0, iv k)] Tryd.func88 rfl Tryd.ntmps88 (by kernel_rfl) (by kernel_rfl) (fun L => ?_);have hE := Ext.refl w;refine zc (zp (pT (iv 0) ?_));refine zn (zc (zc (zp (pT (iv k) ?_))));refine zn (cw_block ?_);refine zc (zc (cw_plain ?_))
 by_cases hc1 : (k : Int) = (2 : Int)
 ·
  refine pU (.bool true) (eE (k : Int) (2 : Int) (hc1)) ?_;refine pT (.bool true) ?_;refine zn (zt ?_);refine cw_skip (zq (zt ?_));refine zc (zp (pT (iv 1) ?_));refine zn (cw_ret (qw_block_ret (qw_then_ret (qw_ret [iv 1] rfl ⟨(by kernel_rfl), trivial⟩ ?_))));exact ⟨congrArg (fun z => Ending.returned (Value.int .i64 z)) (show (1 : Int) = Gol.lastK k by unfold Gol.lastK; simp [hc1]), hE⟩
 ·
  refine pU (.bool false) (eN (k : Int) (2 : Int) (hc1)) ?_;refine pT (.bool false) ?_;refine zn (zf ?_);refine cw_plain ?_
  by_cases hc2 : (k : Int) = (3 : Int)
  ·
   refine pU (.bool true) (eE (k : Int) (3 : Int) (hc2)) ?_;refine pT (.bool true) ?_;refine zn (zt ?_);refine zc (zp (pT (iv 1) ?_));refine zn (cw_ret (qw_block_ret (qw_then_ret (qw_ret [iv 1] rfl ⟨(by kernel_rfl), trivial⟩ ?_))));exact ⟨congrArg (fun z => Ending.returned (Value.int .i64 z)) (show (1 : Int) = Gol.lastK k by unfold Gol.lastK; simp [hc2]), hE⟩
  ·
   refine pU (.bool false) (eN (k : Int) (3 : Int) (hc2)) ?_;refine pT (.bool false) ?_;refine zn (zf ?_);refine zc (cw_plain ?_)
   by_cases hc3 : (k : Int) = (4 : Int)
   ·
    refine pU (.bool true) (eE (k : Int) (4 : Int) (hc3)) ?_;refine pT (.bool true) ?_;refine zn (zt ?_);refine zc (zp (pT (iv 3) ?_));refine zn (cw_ret (qw_block_ret (qw_then_ret (qw_ret [iv 3] rfl ⟨(by kernel_rfl), trivial⟩ ?_))));exact ⟨congrArg (fun z => Ending.returned (Value.int .i64 z)) (show (3 : Int) = Gol.lastK k by unfold Gol.lastK; simp [hc3]), hE⟩
   ·
    refine pU (.bool false) (eN (k : Int) (4 : Int) (hc3)) ?_;refine pT (.bool false) ?_;refine zn (zf ?_);refine cw_skip (qw_block (zq (zc (zp (pT (iv 6) ?_)))));refine zn (cw_ret (qw_ret [iv 6] rfl ⟨(by kernel_rfl), trivial⟩ ?_));exact ⟨congrArg (fun z => Ending.returned (Value.int .i64 z)) (show (6 : Int) = Gol.lastK k by unfold Gol.lastK; simp [hc1, hc2, hc3]), hE⟩
theorem rest_c (f : GF) (x : GC) (w : World) : Calls Tryd.prog 80 #[.agg #[iv f.k, .slice x.ar x.nr x.cr, iv f.sf, iv f.st, iv f.lo, iv f.hi, .bool f.cl, iv f.dy, iv f.tm, iv f.wi, .slice x.ac x.nc x.cc, .slice x.ak x.nk x.ck]] w fun e w' => e = .returned (.agg #[iv f.k, .slice none 0 0, iv (Gol.restF f).sf, iv (Gol.restF f).st, iv (Gol.restF f).lo, iv (Gol.restF f).hi, .bool (Gol.restF f).cl, iv (Gol.restF f).dy, iv (Gol.restF f).tm, iv (Gol.restF f).wi, .slice none 0 0, .slice none 0 0]) ∧ Ext w w' := by
 refine calls_cw 53 [(0, .agg #[iv f.k, .slice x.ar x.nr x.cr, iv f.sf, iv f.st, iv f.lo, iv f.hi, .bool f.cl, iv f.dy, iv f.tm, iv f.wi, .slice x.ac x.nc x.cc, .slice x.ak x.nk x.ck])] Tryd.func80 rfl Tryd.ntmps80 (by kernel_rfl) (by kernel_rfl) (fun L => ?_);have hE := Ext.refl w;refine zc (zp (pS (sw 55 #[iv f.k, .slice x.ar x.nr x.cr, iv f.sf, iv f.st, iv f.lo, iv f.hi, .bool f.cl, iv f.dy, iv f.tm, iv f.wi, .slice x.ac x.nc x.cc, .slice x.ak x.nk x.ck] ?_)));intro O1 X2 Ec E9 hb hbx;have ⟨C3, C4, B5, Bq, Bl, Br, Bs, Bt, Bu, Bk, Bi, Bj⟩ := bq12 hbx;replace hE := hE.trans hb;have Cg := hb.size;have Cq := C3.lt;refine pS (sw 55 #[iv 0, .slice none 0 0, iv 0, iv 0, iv 0, iv 0, .bool false, iv 0, iv 0, iv 0, .slice none 0 0, .slice none 0 0] ?_);intro O5 X6 Ce Ea hb hbx;have ⟨B4, B6, B7, B8, Ba, Bc, Be, Bf, Bg, Bh, B0, B1⟩ := bq12 hbx;refine mv9 hb hE C3 B5 Bq Bl Br Bs Bt Bu fun hE C3 B5 Bq Bl Br Bs Bt Bu=>?_;replace Bk := Bk.x hb;have Cd := hb.size;have Cr := B4.lt;refine zn (zc (zp (pT (pw O1 0) ?_)));refine pU (iv f.k) (xl (ld3 (C3.1))) ?_;refine pT (.agg #[iv f.k, .slice none 0 0, iv 0, iv 0, iv 0, iv 0, .bool false, iv 0, iv 0, iv 0, .slice none 0 0, .slice none 0 0]) ?_;refine pS (sw 55 #[iv 0, .slice none 0 0, iv 0, iv 0, iv 0, iv 0, .bool false, iv 0, iv 0, iv 0, .slice none 0 0, .slice none 0 0] ?_);intro O9 Dc C6 Eb hb hbx;have ⟨C1, C2, Bo, Bv, Bp, Bw, Bx, Bz, C0, Bm, B2, B3⟩ := bq12 hbx;refine mv16 hb hE C3 B5 Bq Bl Br Bs Bt Bu Bk B4 B6 B7 B8 Ba Bc fun hE C3 B5 Bq Bl Br Bs Bt Bu Bk B4 B6 B7 B8 Ba Bc=>?_;refine mv6 hb Be Bf Bg Bh B0 B1 fun Be Bf Bg Bh B0 B1=>?_;have Dl := hb.size;have Ed := C1.lt;refine pP (sn_setK12 (O := O9) (j := 0) (v0 := iv f.k) (v1 := .slice none 0 0) (v2 := iv 0) (v3 := iv 0) (v4 := iv 0) (v5 := iv 0) (v6 := .bool false) (v7 := iv 0) (v8 := iv 0) (v9 := iv 0) (v10 := .slice none 0 0) (v11 := .slice none 0 0) (xt (pw O9 0) (.agg #[iv f.k, .slice none 0 0, iv 0, iv 0, iv 0, iv 0, .bool false, iv 0, iv 0, iv 0, .slice none 0 0, .slice none 0 0]) (st55 C1.1 C1.2 C2.1 C2.2 Bo.1 Bo.2 Bv.1 Bv.2 Bp.1 Bp.2 Bw.1 Bw.2 Bx.1 Bx.2 Bz.1 Bz.2 C0.1 C0.2 Bm.1 Bm.2 B2.1 B2.2 B3.1 B3.2)) C1 C2 Bo Bv Bp Bw Bx Bz C0 Bm B2 B3 ?_);intro D0 ho C1 C2 Bo Bv Bp Bw Bx Bz C0 Bm B2 B3 hk;replace hE := ho.ext hE (Tq (Tq Cg Cd) (Nat.le_of_eq C6));have q9 := ho.bx O1 (by omega);replace C3 := q9 C3;replace B5 := q9 B5;replace Bq := q9 Bq;replace Bl := q9 Bl;replace Br := q9 Br;replace Bs := q9 Bs;replace Bt := q9 Bt;replace Bu := q9 Bu;replace Bk := q9 Bk;clear q9;have q9 := ho.bx O5 (by omega);replace B4 := q9 B4;replace B6 := q9 B6;replace B7 := q9 B7;replace B8 := q9 B8;replace Ba := q9 Ba;replace Bc := q9 Bc;replace Be := q9 Be;replace Bf := q9 Bf;replace Bg := q9 Bg;replace Bh := q9 Bh;replace B0 := q9 B0;replace B1 := q9 B1;clear q9;have Dm := Nat.le_of_eq ho.size.symm;clear ho hk;refine zn (zc (zc (zp (pT (pw O1 0) ?_))));refine pU (iv f.k) (xl (ld3 (C3.1))) ?_;refine zn (cw_block ?_);refine zc (cw_plain ?_)
 by_cases C5 : (f.k : Int) = (1 : Int)
 ·
  refine pU (.bool true) (eE (f.k : Int) (1 : Int) (C5)) ?_;refine pT (.bool true) ?_;refine zn (zt ?_);refine dE Tz26_0 (fun w' => w'.cell? ⟨O1, 2, none⟩ = some (iv f.sf) ∧ w'.cell? ⟨O1, 3, none⟩ = some (iv f.st) ∧ w'.cell? ⟨O1, 4, none⟩ = some (iv f.lo) ∧ w'.cell? ⟨O1, 5, none⟩ = some (iv f.hi) ∧ w'.cell? ⟨O1, 6, none⟩ = some (.bool f.cl)) (⟨B5.1, Bq.1, Bl.1, Br.1, Bs.1⟩) (fun ops Q Dd hb hL hR hK => ?_);refine mv16 hb hE B5 Bq Bl Br Bs Bt Bu Bk B4 B6 B7 B8 Ba Bc Be fun hE B5 Bq Bl Br Bs Bt Bu Bk B4 B6 B7 B8 Ba Bc Be=>?_;refine mv16 hb Bf Bg Bh B0 B1 C1 C2 Bo Bv Bp Bw Bx Bz C0 Bm B2 fun Bf Bg Bh B0 B1 C1 C2 Bo Bv Bp Bw Bx Bz C0 Bm B2=>?_;replace B3 := B3.x hb;have Dn := hb.size;have hS := A5 B5.1 Bq.1 Bl.1 Br.1 Bs.1;refine wV 0 (pw O1 2) hR hS ?_;refine wM 1 (.agg #[iv f.sf, iv f.st]) hR (fun w hS => ld52 (hS.1) (hS.2.1)) hS ?_;refine wV 2 (pw O1 4) hR hS ?_;refine wM 3 (iv f.lo) hR (fun w hS => ld3 (hS.2.2.1)) hS ?_;refine wV 4 (pw O1 5) hR hS ?_;refine wM 5 (iv f.hi) hR (fun w hS => ld3 (hS.2.2.2.1)) hS ?_;refine wV 6 (pw O1 6) hR hS ?_;refine wM 7 (.bool f.cl) hR (fun w hS => ld4 (hS.2.2.2.2)) hS ?_;refine wV 8 (pw O9 2) hR hS ?_;refine wS 9 hR (sn_set2 (O := O9) (j := 2) (v := iv f.sf) (v' := iv f.st) (ex_store (p := pw O9 2) (v := .agg #[iv f.sf, iv f.st]) rfl (by kernel_rfl) (by kernel_rfl) (st52 Bo.1 Bo.2 Bv.1 Bv.2)) Bo Bv ?_);intro D1 ho Bo Bv hk;replace hE := ho.ext hE (Tq (Tq Cg Cd) (Nat.le_of_eq C6));have q9 := ho.bx O1 (by omega);replace B5 := q9 B5;replace Bq := q9 Bq;replace Bl := q9 Bl;replace Br := q9 Br;replace Bs := q9 Bs;replace Bt := q9 Bt;replace Bu := q9 Bu;replace Bk := q9 Bk;clear q9;have q9 := ho.bx O5 (by omega);replace B4 := q9 B4;replace B6 := q9 B6;replace B7 := q9 B7;replace B8 := q9 B8;replace Ba := q9 Ba;replace Bc := q9 Bc;replace Be := q9 Be;replace Bf := q9 Bf;replace Bg := q9 Bg;replace Bh := q9 Bh;replace B0 := q9 B0;replace B1 := q9 B1;clear q9;replace C1 := hk 0 _ (by omega) (by omega) C1;replace C2 := hk 1 _ (by omega) (by omega) C2;replace Bp := hk 4 _ (by omega) (by omega) Bp;replace Bw := hk 5 _ (by omega) (by omega) Bw;replace Bx := hk 6 _ (by omega) (by omega) Bx;replace Bz := hk 7 _ (by omega) (by omega) Bz;replace C0 := hk 8 _ (by omega) (by omega) C0;replace Bm := hk 9 _ (by omega) (by omega) Bm;replace B2 := hk 10 _ (by omega) (by omega) B2;replace B3 := hk 11 _ (by omega) (by omega) B3;have Do := Nat.le_of_eq ho.size.symm;clear ho hk;refine ⟨⟨B5.1, Bq.1, Bl.1, Br.1, Bs.1⟩, ?_⟩;refine wV 10 (pw O9 4) hR (⟨B5.1, Bq.1, Bl.1, Br.1, Bs.1⟩) ?_;refine wS 11 hR (sn_set (O := O9) (j := 4) (v := iv f.lo) (ex_store (p := pw O9 4) (v := iv f.lo) rfl (by kernel_rfl) (by kernel_rfl) (st3 Bp.1 Bp.2)) Bp ?_);intro D2 ho Bp hk;replace hE := ho.ext hE (Tq (Tq Cg Cd) (Nat.le_of_eq C6));have q9 := ho.bx O1 (by omega);replace B5 := q9 B5;replace Bq := q9 Bq;replace Bl := q9 Bl;replace Br := q9 Br;replace Bs := q9 Bs;replace Bt := q9 Bt;replace Bu := q9 Bu;replace Bk := q9 Bk;clear q9;have q9 := ho.bx O5 (by omega);replace B4 := q9 B4;replace B6 := q9 B6;replace B7 := q9 B7;replace B8 := q9 B8;replace Ba := q9 Ba;replace Bc := q9 Bc;replace Be := q9 Be;replace Bf := q9 Bf;replace Bg := q9 Bg;replace Bh := q9 Bh;replace B0 := q9 B0;replace B1 := q9 B1;clear q9;replace C1 := hk 0 _ (by omega) C1;replace C2 := hk 1 _ (by omega) C2;replace Bw := hk 5 _ (by omega) Bw;replace Bx := hk 6 _ (by omega) Bx;replace Bz := hk 7 _ (by omega) Bz;replace C0 := hk 8 _ (by omega) C0;replace Bm := hk 9 _ (by omega) Bm;replace B2 := hk 10 _ (by omega) B2;replace B3 := hk 11 _ (by omega) B3;replace Bo := hk 2 _ (by omega) Bo;replace Bv := hk 3 _ (by omega) Bv;have Dp := Nat.le_of_eq ho.size.symm;clear ho hk;refine ⟨⟨B5.1, Bq.1, Bl.1, Br.1, Bs.1⟩, ?_⟩;refine wV 12 (pw O9 5) hR (⟨B5.1, Bq.1, Bl.1, Br.1, Bs.1⟩) ?_;refine wS 13 hR (sn_set (O := O9) (j := 5) (v := iv f.hi) (ex_store (p := pw O9 5) (v := iv f.hi) rfl (by kernel_rfl) (by kernel_rfl) (st3 Bw.1 Bw.2)) Bw ?_);intro D3 ho Bw hk;replace hE := ho.ext hE (Tq (Tq Cg Cd) (Nat.le_of_eq C6));have q9 := ho.bx O1 (by omega);replace B5 := q9 B5;replace Bq := q9 Bq;replace Bl := q9 Bl;replace Br := q9 Br;replace Bs := q9 Bs;replace Bt := q9 Bt;replace Bu := q9 Bu;replace Bk := q9 Bk;clear q9;have q9 := ho.bx O5 (by omega);replace B4 := q9 B4;replace B6 := q9 B6;replace B7 := q9 B7;replace B8 := q9 B8;replace Ba := q9 Ba;replace Bc := q9 Bc;replace Be := q9 Be;replace Bf := q9 Bf;replace Bg := q9 Bg;replace Bh := q9 Bh;replace B0 := q9 B0;replace B1 := q9 B1;clear q9;replace C1 := hk 0 _ (by omega) C1;replace C2 := hk 1 _ (by omega) C2;replace Bx := hk 6 _ (by omega) Bx;replace Bz := hk 7 _ (by omega) Bz;replace C0 := hk 8 _ (by omega) C0;replace Bm := hk 9 _ (by omega) Bm;replace B2 := hk 10 _ (by omega) B2;replace B3 := hk 11 _ (by omega) B3;replace Bo := hk 2 _ (by omega) Bo;replace Bv := hk 3 _ (by omega) Bv;replace Bp := hk 4 _ (by omega) Bp;have Dq := Nat.le_of_eq ho.size.symm;clear ho hk;refine ⟨⟨B5.1, Bq.1, Bl.1, Br.1, Bs.1⟩, ?_⟩;refine wV 14 (pw O9 6) hR (⟨B5.1, Bq.1, Bl.1, Br.1, Bs.1⟩) ?_;refine wS 15 hR (sn_set (O := O9) (j := 6) (v := .bool f.cl) (ex_store (p := pw O9 6) (v := .bool f.cl) rfl (by kernel_rfl) (by kernel_rfl) (st4 Bx.1 Bx.2)) Bx ?_)
  intro D4 ho Bx hk;replace hE := ho.ext hE (Tq (Tq Cg Cd) (Nat.le_of_eq C6));have q9 := ho.bx O1 (by omega);replace B5 := q9 B5;replace Bq := q9 Bq;replace Bl := q9 Bl;replace Br := q9 Br;replace Bs := q9 Bs;replace Bt := q9 Bt;replace Bu := q9 Bu;replace Bk := q9 Bk;clear q9;have q9 := ho.bx O5 (by omega);replace B4 := q9 B4;replace B6 := q9 B6;replace B7 := q9 B7;replace B8 := q9 B8;replace Ba := q9 Ba;replace Bc := q9 Bc;replace Be := q9 Be;replace Bf := q9 Bf;replace Bg := q9 Bg;replace Bh := q9 Bh;replace B0 := q9 B0;replace B1 := q9 B1;clear q9;replace C1 := hk 0 _ (by omega) C1;replace C2 := hk 1 _ (by omega) C2;replace Bz := hk 7 _ (by omega) Bz;replace C0 := hk 8 _ (by omega) C0;replace Bm := hk 9 _ (by omega) Bm;replace B2 := hk 10 _ (by omega) B2;replace B3 := hk 11 _ (by omega) B3;replace Bo := hk 2 _ (by omega) Bo;replace Bv := hk 3 _ (by omega) Bv;replace Bp := hk 4 _ (by omega) Bp;replace Bw := hk 5 _ (by omega) Bw;have Dr := Nat.le_of_eq ho.size.symm;clear ho hk;refine ⟨⟨B5.1, Bq.1, Bl.1, Br.1, Bs.1⟩, ?_⟩;refine we hL hR hK ?_;refine qw_block (zq (cK [2,3] (fun L => ?_)));refine zc (zp (pU (.agg #[iv f.k, .slice none 0 0, iv f.sf, iv f.st, iv f.lo, iv f.hi, .bool f.cl, iv 0, iv 0, iv 0, .slice none 0 0, .slice none 0 0]) (xl (ld55 (C1.1) (C2.1) (Bo.1) (Bv.1) (Bp.1) (Bw.1) (Bx.1) (Bz.1) (C0.1) (Bm.1) (B2.1) (B3.1))) ?_));refine pP (sn_setK12 (O := O5) (j := 0) (v0 := iv f.k) (v1 := .slice none 0 0) (v2 := iv f.sf) (v3 := iv f.st) (v4 := iv f.lo) (v5 := iv f.hi) (v6 := .bool f.cl) (v7 := iv 0) (v8 := iv 0) (v9 := iv 0) (v10 := .slice none 0 0) (v11 := .slice none 0 0) (xt (pw O5 0) (.agg #[iv f.k, .slice none 0 0, iv f.sf, iv f.st, iv f.lo, iv f.hi, .bool f.cl, iv 0, iv 0, iv 0, .slice none 0 0, .slice none 0 0]) (st55 B4.1 B4.2 B6.1 B6.2 B7.1 B7.2 B8.1 B8.2 Ba.1 Ba.2 Bc.1 Bc.2 Be.1 Be.2 Bf.1 Bf.2 Bg.1 Bg.2 Bh.1 Bh.2 B0.1 B0.2 B1.1 B1.2)) B4 B6 B7 B8 Ba Bc Be Bf Bg Bh B0 B1 ?_);intro De ho B4 B6 B7 B8 Ba Bc Be Bf Bg Bh B0 B1 hk;replace hE := ho.ext hE (Tq Cg (Nat.le_of_eq Ce));have q9 := ho.bx O1 (by omega);replace B5 := q9 B5;replace Bl := q9 Bl;replace Bt := q9 Bt;replace Bu := q9 Bu;replace Bk := q9 Bk;clear q9;have q9 := ho.bx O9 (by omega);replace C1 := q9 C1;replace C2 := q9 C2;replace Bz := q9 Bz;replace C0 := q9 C0;replace Bm := q9 Bm;replace B2 := q9 B2;replace B3 := q9 B3;replace Bo := q9 Bo;replace Bv := q9 Bv;replace Bp := q9 Bp;replace Bw := q9 Bw;replace Bx := q9 Bx;clear q9;have Dt := Nat.le_of_eq ho.size.symm;clear ho hk;refine zn (cw_ret (qw_ret [.agg #[iv f.k, .slice none 0 0, iv f.sf, iv f.st, iv f.lo, iv f.hi, .bool f.cl, iv 0, iv 0, iv 0, .slice none 0 0, .slice none 0 0]] rfl ⟨⟨_, by kernel_rfl, res_ld (ld55 (B4.1) (B6.1) (B7.1) (B8.1) (Ba.1) (Bc.1) (Be.1) (Bf.1) (Bg.1) (Bh.1) (B0.1) (B1.1))⟩, trivial⟩ ?_));have Cs : (f.sf : Int) = (Gol.restF f).sf := by simp [Gol.restF, C5]
  have Ct : (f.st : Int) = (Gol.restF f).st := by simp [Gol.restF, C5]
  have Cu : (f.lo : Int) = (Gol.restF f).lo := by simp [Gol.restF, C5]
  have Cv : (f.hi : Int) = (Gol.restF f).hi := by simp [Gol.restF, C5]
  have Cw : f.cl = (Gol.restF f).cl := by simp [Gol.restF, C5]
  have Cx : (0 : Int) = (Gol.restF f).dy := by simp [Gol.restF, C5]
  have Cy : (0 : Int) = (Gol.restF f).tm := by simp [Gol.restF, C5]
  have Cz : (0 : Int) = (Gol.restF f).wi := by simp [Gol.restF, C5]
  rw [← Cs, ← Ct, ← Cu, ← Cv, ← Cw, ← Cx, ← Cy, ← Cz];exact ⟨rfl, hE⟩
 ·
  refine pU (.bool false) (eN (f.k : Int) (1 : Int) (C5)) ?_;refine pT (.bool false) ?_;refine zn (zf ?_);refine zc (cw_plain ?_)
  by_cases C7 : (f.k : Int) = (2 : Int)
  ·
   refine pU (.bool true) (eE (f.k : Int) (2 : Int) (C7)) ?_;refine pT (.bool true) ?_;refine zn (zt ?_);refine dE Tz26_1 (fun w' => w'.cell? ⟨O1, 4, none⟩ = some (iv f.lo) ∧ w'.cell? ⟨O1, 9, none⟩ = some (iv f.wi)) (⟨Bl.1, Bk.1⟩) (fun ops Q Df hb hL hR hK => ?_);refine mv16 hb hE B5 Bl Bt Bu Bk B4 B6 B7 B8 Ba Bc Be Bf Bg Bh fun hE B5 Bl Bt Bu Bk B4 B6 B7 B8 Ba Bc Be Bf Bg Bh=>?_;refine mv12 hb B0 B1 C1 C2 Bo Bv Bp Bw Bx Bz C0 Bm fun B0 B1 C1 C2 Bo Bv Bp Bw Bx Bz C0 Bm=>?_;refine mv2 hb B2 B3 fun B2 B3=>?_;have Du := hb.size;have hS := A2 Bl.1 Bk.1;refine wV 0 (pw O1 4) hR hS ?_;refine wM 1 (iv f.lo) hR (fun w hS => ld3 (hS.1)) hS ?_;refine wV 2 (pw O1 9) hR hS ?_;refine wM 3 (iv f.wi) hR (fun w hS => ld3 (hS.2)) hS ?_;refine wV 4 (pw O9 4) hR hS ?_;refine wS 5 hR (sn_set (O := O9) (j := 4) (v := iv f.lo) (ex_store (p := pw O9 4) (v := iv f.lo) rfl (by kernel_rfl) (by kernel_rfl) (st3 Bp.1 Bp.2)) Bp ?_);intro D5 ho Bp hk;replace hE := ho.ext hE (Tq (Tq Cg Cd) (Nat.le_of_eq C6));have q9 := ho.bx O1 (by omega);replace B5 := q9 B5;replace Bl := q9 Bl;replace Bt := q9 Bt;replace Bu := q9 Bu;replace Bk := q9 Bk;clear q9;have q9 := ho.bx O5 (by omega);replace B4 := q9 B4;replace B6 := q9 B6;replace B7 := q9 B7;replace B8 := q9 B8;replace Ba := q9 Ba;replace Bc := q9 Bc;replace Be := q9 Be;replace Bf := q9 Bf;replace Bg := q9 Bg;replace Bh := q9 Bh;replace B0 := q9 B0;replace B1 := q9 B1;clear q9;replace C1 := hk 0 _ (by omega) C1;replace C2 := hk 1 _ (by omega) C2;replace Bo := hk 2 _ (by omega) Bo;replace Bv := hk 3 _ (by omega) Bv;replace Bw := hk 5 _ (by omega) Bw;replace Bx := hk 6 _ (by omega) Bx;replace Bz := hk 7 _ (by omega) Bz;replace C0 := hk 8 _ (by omega) C0;replace Bm := hk 9 _ (by omega) Bm;replace B2 := hk 10 _ (by omega) B2;replace B3 := hk 11 _ (by omega) B3;have Dv := Nat.le_of_eq ho.size.symm;clear ho hk;refine ⟨⟨Bl.1, Bk.1⟩, ?_⟩;refine wV 6 (pw O9 9) hR (⟨Bl.1, Bk.1⟩) ?_;refine wS 7 hR (sn_set (O := O9) (j := 9) (v := iv f.wi) (ex_store (p := pw O9 9) (v := iv f.wi) rfl (by kernel_rfl) (by kernel_rfl) (st3 Bm.1 Bm.2)) Bm ?_);intro D6 ho Bm hk;replace hE := ho.ext hE (Tq (Tq Cg Cd) (Nat.le_of_eq C6));have q9 := ho.bx O1 (by omega);replace B5 := q9 B5;replace Bl := q9 Bl;replace Bt := q9 Bt;replace Bu := q9 Bu;replace Bk := q9 Bk;clear q9;have q9 := ho.bx O5 (by omega);replace B4 := q9 B4;replace B6 := q9 B6;replace B7 := q9 B7;replace B8 := q9 B8;replace Ba := q9 Ba;replace Bc := q9 Bc;replace Be := q9 Be;replace Bf := q9 Bf;replace Bg := q9 Bg;replace Bh := q9 Bh;replace B0 := q9 B0;replace B1 := q9 B1;clear q9;replace C1 := hk 0 _ (by omega) C1;replace C2 := hk 1 _ (by omega) C2;replace Bo := hk 2 _ (by omega) Bo;replace Bv := hk 3 _ (by omega) Bv;replace Bw := hk 5 _ (by omega) Bw;replace Bx := hk 6 _ (by omega) Bx;replace Bz := hk 7 _ (by omega) Bz;replace C0 := hk 8 _ (by omega) C0;replace B2 := hk 10 _ (by omega) B2;replace B3 := hk 11 _ (by omega) B3;replace Bp := hk 4 _ (by omega) Bp;have Dw := Nat.le_of_eq ho.size.symm;clear ho hk;refine ⟨⟨Bl.1, Bk.1⟩, ?_⟩;refine we hL hR hK ?_;refine qw_block (zq (cK [2,3] (fun L => ?_)));refine zc (zp (pU (.agg #[iv f.k, .slice none 0 0, iv 0, iv 0, iv f.lo, iv 0, .bool false, iv 0, iv 0, iv f.wi, .slice none 0 0, .slice none 0 0]) (xl (ld55 (C1.1) (C2.1) (Bo.1) (Bv.1) (Bp.1) (Bw.1) (Bx.1) (Bz.1) (C0.1) (Bm.1) (B2.1) (B3.1))) ?_));refine pP (sn_setK12 (O := O5) (j := 0) (v0 := iv f.k) (v1 := .slice none 0 0) (v2 := iv 0) (v3 := iv 0) (v4 := iv f.lo) (v5 := iv 0) (v6 := .bool false) (v7 := iv 0) (v8 := iv 0) (v9 := iv f.wi) (v10 := .slice none 0 0) (v11 := .slice none 0 0) (xt (pw O5 0) (.agg #[iv f.k, .slice none 0 0, iv 0, iv 0, iv f.lo, iv 0, .bool false, iv 0, iv 0, iv f.wi, .slice none 0 0, .slice none 0 0]) (st55 B4.1 B4.2 B6.1 B6.2 B7.1 B7.2 B8.1 B8.2 Ba.1 Ba.2 Bc.1 Bc.2 Be.1 Be.2 Bf.1 Bf.2 Bg.1 Bg.2 Bh.1 Bh.2 B0.1 B0.2 B1.1 B1.2)) B4 B6 B7 B8 Ba Bc Be Bf Bg Bh B0 B1 ?_);intro Dg ho B4 B6 B7 B8 Ba Bc Be Bf Bg Bh B0 B1 hk;replace hE := ho.ext hE (Tq Cg (Nat.le_of_eq Ce));have q9 := ho.bx O1 (by omega);replace B5 := q9 B5;replace Bt := q9 Bt;replace Bu := q9 Bu;replace Bk := q9 Bk;clear q9;have q9 := ho.bx O9 (by omega);replace C1 := q9 C1;replace C2 := q9 C2;replace Bo := q9 Bo;replace Bv := q9 Bv;replace Bw := q9 Bw;replace Bx := q9 Bx;replace Bz := q9 Bz;replace C0 := q9 C0;replace B2 := q9 B2;replace B3 := q9 B3;replace Bp := q9 Bp;replace Bm := q9 Bm;clear q9;have Dx := Nat.le_of_eq ho.size.symm;clear ho hk;refine zn (cw_ret (qw_ret [.agg #[iv f.k, .slice none 0 0, iv 0, iv 0, iv f.lo, iv 0, .bool false, iv 0, iv 0, iv f.wi, .slice none 0 0, .slice none 0 0]] rfl ⟨⟨_, by kernel_rfl, res_ld (ld55 (B4.1) (B6.1) (B7.1) (B8.1) (Ba.1) (Bc.1) (Be.1) (Bf.1) (Bg.1) (Bh.1) (B0.1) (B1.1))⟩, trivial⟩ ?_));have Cs : (0 : Int) = (Gol.restF f).sf := by simp [Gol.restF, C7]
   have Ct : (0 : Int) = (Gol.restF f).st := by simp [Gol.restF, C7]
   have Cu : (f.lo : Int) = (Gol.restF f).lo := by simp [Gol.restF, C7]
   have Cv : (0 : Int) = (Gol.restF f).hi := by simp [Gol.restF, C7]
   have Cw : false = (Gol.restF f).cl := by simp [Gol.restF, C7]
   have Cx : (0 : Int) = (Gol.restF f).dy := by simp [Gol.restF, C7]
   have Cy : (0 : Int) = (Gol.restF f).tm := by simp [Gol.restF, C7]
   have Cz : (f.wi : Int) = (Gol.restF f).wi := by simp [Gol.restF, C7]
   rw [← Cs, ← Ct, ← Cu, ← Cv, ← Cw, ← Cx, ← Cy, ← Cz];exact ⟨rfl, hE⟩
  ·
   refine pU (.bool false) (eN (f.k : Int) (2 : Int) (C7)) ?_;refine pT (.bool false) ?_;refine zn (zf ?_);refine zc (cw_plain ?_)
   by_cases C8 : (f.k : Int) = (3 : Int)
   ·
    refine pU (.bool true) (eE (f.k : Int) (3 : Int) (C8)) ?_;refine pT (.bool true) ?_;refine zn (cK [1,2,3,8,31] (fun L => ?_));refine zt ?_;refine dE Tz26_2 (fun w' => w'.cell? ⟨O1, 7, none⟩ = some (iv f.dy) ∧ w'.cell? ⟨O1, 8, none⟩ = some (iv f.tm) ∧ w'.cell? ⟨O1, 9, none⟩ = some (iv f.wi) ∧ w'.cell? ⟨O1, 2, none⟩ = some (iv f.sf)) (⟨Bt.1, Bu.1, Bk.1, B5.1⟩) (fun ops Q Dh hb hL hR hK => ?_);refine mv16 hb hE B5 Bt Bu Bk B4 B6 B7 B8 Ba Bc Be Bf Bg Bh B0 fun hE B5 Bt Bu Bk B4 B6 B7 B8 Ba Bc Be Bf Bg Bh B0=>?_;refine mv12 hb B1 C1 C2 Bo Bv Bp Bw Bx Bz C0 Bm B2 fun B1 C1 C2 Bo Bv Bp Bw Bx Bz C0 Bm B2=>?_;replace B3 := B3.x hb;have Dy := hb.size;have hS := A4 Bt.1 Bu.1 Bk.1 B5.1;refine wV 0 (pw O1 7) hR hS ?_;refine wM 1 (iv f.dy) hR (fun w hS => ld3 (hS.1)) hS ?_;refine wV 2 (pw O1 8) hR hS ?_;refine wM 3 (iv f.tm) hR (fun w hS => ld3 (hS.2.1)) hS ?_;refine wV 4 (pw O1 9) hR hS ?_;refine wM 5 (iv f.wi) hR (fun w hS => ld3 (hS.2.2.1)) hS ?_;refine wW 6 (pw O1 2) 7 (pw O1 2) hR hS ?_;refine wM 8 (iv f.sf) hR (fun w hS => ld3 (hS.2.2.2)) hS ?_;refine wV 9 (pw O9 7) hR hS ?_;refine wS 10 hR (sn_set (O := O9) (j := 7) (v := iv f.dy) (ex_store (p := pw O9 7) (v := iv f.dy) rfl (by kernel_rfl) (by kernel_rfl) (st3 Bz.1 Bz.2)) Bz ?_);intro D7 ho Bz hk;replace hE := ho.ext hE (Tq (Tq Cg Cd) (Nat.le_of_eq C6));have q9 := ho.bx O1 (by omega);replace B5 := q9 B5;replace Bt := q9 Bt;replace Bu := q9 Bu;replace Bk := q9 Bk;clear q9;have q9 := ho.bx O5 (by omega);replace B4 := q9 B4;replace B6 := q9 B6;replace B7 := q9 B7;replace B8 := q9 B8;replace Ba := q9 Ba;replace Bc := q9 Bc;replace Be := q9 Be;replace Bf := q9 Bf;replace Bg := q9 Bg;replace Bh := q9 Bh;replace B0 := q9 B0;replace B1 := q9 B1;clear q9;replace C1 := hk 0 _ (by omega) C1;replace C2 := hk 1 _ (by omega) C2;replace Bo := hk 2 _ (by omega) Bo;replace Bv := hk 3 _ (by omega) Bv;replace Bp := hk 4 _ (by omega) Bp;replace Bw := hk 5 _ (by omega) Bw;replace Bx := hk 6 _ (by omega) Bx;replace C0 := hk 8 _ (by omega) C0;replace Bm := hk 9 _ (by omega) Bm;replace B2 := hk 10 _ (by omega) B2;replace B3 := hk 11 _ (by omega) B3;have Dz := Nat.le_of_eq ho.size.symm;clear ho hk;refine ⟨⟨Bt.1, Bu.1, Bk.1, B5.1⟩, ?_⟩;refine wV 11 (pw O9 8) hR (⟨Bt.1, Bu.1, Bk.1, B5.1⟩) ?_;refine wS 12 hR (sn_set (O := O9) (j := 8) (v := iv f.tm) (ex_store (p := pw O9 8) (v := iv f.tm) rfl (by kernel_rfl) (by kernel_rfl) (st3 C0.1 C0.2)) C0 ?_);intro D8 ho C0 hk;replace hE := ho.ext hE (Tq (Tq Cg Cd) (Nat.le_of_eq C6));have q9 := ho.bx O1 (by omega);replace B5 := q9 B5;replace Bt := q9 Bt;replace Bu := q9 Bu;replace Bk := q9 Bk;clear q9;have q9 := ho.bx O5 (by omega);replace B4 := q9 B4;replace B6 := q9 B6;replace B7 := q9 B7;replace B8 := q9 B8;replace Ba := q9 Ba;replace Bc := q9 Bc;replace Be := q9 Be;replace Bf := q9 Bf;replace Bg := q9 Bg;replace Bh := q9 Bh;replace B0 := q9 B0;replace B1 := q9 B1;clear q9;replace C1 := hk 0 _ (by omega) C1;replace C2 := hk 1 _ (by omega) C2;replace Bo := hk 2 _ (by omega) Bo;replace Bv := hk 3 _ (by omega) Bv;replace Bp := hk 4 _ (by omega) Bp;replace Bw := hk 5 _ (by omega) Bw;replace Bx := hk 6 _ (by omega) Bx;replace Bm := hk 9 _ (by omega) Bm;replace B2 := hk 10 _ (by omega) B2;replace B3 := hk 11 _ (by omega) B3;replace Bz := hk 7 _ (by omega) Bz;have E0 := Nat.le_of_eq ho.size.symm;clear ho hk;refine ⟨⟨Bt.1, Bu.1, Bk.1, B5.1⟩, ?_⟩;refine wV 13 (pw O9 9) hR (⟨Bt.1, Bu.1, Bk.1, B5.1⟩) ?_;refine wS 14 hR (sn_set (O := O9) (j := 9) (v := iv f.wi) (ex_store (p := pw O9 9) (v := iv f.wi) rfl (by kernel_rfl) (by kernel_rfl) (st3 Bm.1 Bm.2)) Bm ?_);intro D9 ho Bm hk;replace hE := ho.ext hE (Tq (Tq Cg Cd) (Nat.le_of_eq C6));have q9 := ho.bx O1 (by omega);replace B5 := q9 B5;replace Bt := q9 Bt;replace Bu := q9 Bu;replace Bk := q9 Bk;clear q9;have q9 := ho.bx O5 (by omega);replace B4 := q9 B4;replace B6 := q9 B6;replace B7 := q9 B7;replace B8 := q9 B8;replace Ba := q9 Ba;replace Bc := q9 Bc;replace Be := q9 Be;replace Bf := q9 Bf;replace Bg := q9 Bg;replace Bh := q9 Bh;replace B0 := q9 B0;replace B1 := q9 B1;clear q9;replace C1 := hk 0 _ (by omega) C1;replace C2 := hk 1 _ (by omega) C2;replace Bo := hk 2 _ (by omega) Bo;replace Bv := hk 3 _ (by omega) Bv;replace Bp := hk 4 _ (by omega) Bp;replace Bw := hk 5 _ (by omega) Bw;replace Bx := hk 6 _ (by omega) Bx;replace B2 := hk 10 _ (by omega) B2;replace B3 := hk 11 _ (by omega) B3;replace Bz := hk 7 _ (by omega) Bz;replace C0 := hk 8 _ (by omega) C0;have E3 := Nat.le_of_eq ho.size.symm;clear ho hk;refine ⟨⟨Bt.1, Bu.1, Bk.1, B5.1⟩, ?_⟩;have hS := A4 Bt.1 Bu.1 Bk.1 B5.1;refine wW 15 (pw O9 2) 16 (pw O9 2) hR hS ?_;refine wS 17 hR (sn_set (O := O9) (j := 2) (v := iv f.sf) (ex_store (p := pw O9 2) (v := iv f.sf) rfl (by kernel_rfl) (by kernel_rfl) (st3 Bo.1 Bo.2)) Bo ?_);intro Da ho Bo hk;replace hE := ho.ext hE (Tq (Tq Cg Cd) (Nat.le_of_eq C6));have q9 := ho.bx O1 (by omega);replace B5 := q9 B5;replace Bt := q9 Bt;replace Bu := q9 Bu;replace Bk := q9 Bk;clear q9;have q9 := ho.bx O5 (by omega);replace B4 := q9 B4;replace B6 := q9 B6;replace B7 := q9 B7;replace B8 := q9 B8;replace Ba := q9 Ba;replace Bc := q9 Bc;replace Be := q9 Be;replace Bf := q9 Bf;replace Bg := q9 Bg;replace Bh := q9 Bh;replace B0 := q9 B0;replace B1 := q9 B1;clear q9;replace C1 := hk 0 _ (by omega) C1;replace C2 := hk 1 _ (by omega) C2;replace Bv := hk 3 _ (by omega) Bv;replace Bp := hk 4 _ (by omega) Bp;replace Bw := hk 5 _ (by omega) Bw;replace Bx := hk 6 _ (by omega) Bx;replace B2 := hk 10 _ (by omega) B2;replace B3 := hk 11 _ (by omega) B3;replace Bz := hk 7 _ (by omega) Bz;replace C0 := hk 8 _ (by omega) C0;replace Bm := hk 9 _ (by omega) Bm;have E4 := Nat.le_of_eq ho.size.symm;clear ho hk
    refine ⟨⟨Bt.1, Bu.1, Bk.1, B5.1⟩, ?_⟩;refine we hL hR hK ?_;refine qw_block (zq (cK [2,3] (fun L => ?_)));refine zc (zp (pU (.agg #[iv f.k, .slice none 0 0, iv f.sf, iv 0, iv 0, iv 0, .bool false, iv f.dy, iv f.tm, iv f.wi, .slice none 0 0, .slice none 0 0]) (xl (ld55 (C1.1) (C2.1) (Bo.1) (Bv.1) (Bp.1) (Bw.1) (Bx.1) (Bz.1) (C0.1) (Bm.1) (B2.1) (B3.1))) ?_));refine pP (sn_setK12 (O := O5) (j := 0) (v0 := iv f.k) (v1 := .slice none 0 0) (v2 := iv f.sf) (v3 := iv 0) (v4 := iv 0) (v5 := iv 0) (v6 := .bool false) (v7 := iv f.dy) (v8 := iv f.tm) (v9 := iv f.wi) (v10 := .slice none 0 0) (v11 := .slice none 0 0) (xt (pw O5 0) (.agg #[iv f.k, .slice none 0 0, iv f.sf, iv 0, iv 0, iv 0, .bool false, iv f.dy, iv f.tm, iv f.wi, .slice none 0 0, .slice none 0 0]) (st55 B4.1 B4.2 B6.1 B6.2 B7.1 B7.2 B8.1 B8.2 Ba.1 Ba.2 Bc.1 Bc.2 Be.1 Be.2 Bf.1 Bf.2 Bg.1 Bg.2 Bh.1 Bh.2 B0.1 B0.2 B1.1 B1.2)) B4 B6 B7 B8 Ba Bc Be Bf Bg Bh B0 B1 ?_);intro Di ho B4 B6 B7 B8 Ba Bc Be Bf Bg Bh B0 B1 hk;replace hE := ho.ext hE (Tq Cg (Nat.le_of_eq Ce));have q9 := ho.bx O1 (by omega);replace Bk := q9 Bk;clear q9;have q9 := ho.bx O9 (by omega);replace C1 := q9 C1;replace C2 := q9 C2;replace Bv := q9 Bv;replace Bp := q9 Bp;replace Bw := q9 Bw;replace Bx := q9 Bx;replace B2 := q9 B2;replace B3 := q9 B3;replace Bz := q9 Bz;replace C0 := q9 C0;replace Bm := q9 Bm;replace Bo := q9 Bo;clear q9;have E5 := Nat.le_of_eq ho.size.symm;clear ho hk;refine zn (cw_ret (qw_ret [.agg #[iv f.k, .slice none 0 0, iv f.sf, iv 0, iv 0, iv 0, .bool false, iv f.dy, iv f.tm, iv f.wi, .slice none 0 0, .slice none 0 0]] rfl ⟨⟨_, by kernel_rfl, res_ld (ld55 (B4.1) (B6.1) (B7.1) (B8.1) (Ba.1) (Bc.1) (Be.1) (Bf.1) (Bg.1) (Bh.1) (B0.1) (B1.1))⟩, trivial⟩ ?_));have Cs : (f.sf : Int) = (Gol.restF f).sf := by simp [Gol.restF, C8]
    have Ct : (0 : Int) = (Gol.restF f).st := by simp [Gol.restF, C8]
    have Cu : (0 : Int) = (Gol.restF f).lo := by simp [Gol.restF, C8]
    have Cv : (0 : Int) = (Gol.restF f).hi := by simp [Gol.restF, C8]
    have Cw : false = (Gol.restF f).cl := by simp [Gol.restF, C8]
    have Cx : (f.dy : Int) = (Gol.restF f).dy := by simp [Gol.restF, C8]
    have Cy : (f.tm : Int) = (Gol.restF f).tm := by simp [Gol.restF, C8]
    have Cz : (f.wi : Int) = (Gol.restF f).wi := by simp [Gol.restF, C8]
    rw [← Cs, ← Ct, ← Cu, ← Cv, ← Cw, ← Cx, ← Cy, ← Cz];exact ⟨rfl, hE⟩
   ·
    refine pU (.bool false) (eN (f.k : Int) (3 : Int) (C8)) ?_;refine pT (.bool false) ?_;refine zn (cK [1,2,3,8,31] (fun L => ?_));refine zf ?_;refine zc (cw_plain ?_)
    by_cases Ca : (f.k : Int) = (4 : Int)
    ·
     refine pU (.bool true) (eE (f.k : Int) (4 : Int) (Ca)) ?_;refine pT (.bool true) ?_;refine zn (zt ?_);refine zp (pT (pw O1 9) ?_);refine pU (iv f.wi) (xl (ld3 (Bk.1))) ?_;refine pT (pw O9 9) ?_;refine pP (zE O9 9 (iv f.wi) (st3 Bm.1 Bm.2) Bm ?_);intro Db ho Bm hk;replace hE := ho.ext hE (Tq (Tq Cg Cd) (Nat.le_of_eq C6));have q9 := ho.bx O1 (by omega);clear q9;have q9 := ho.bx O5 (by omega);replace B4 := q9 B4;replace B6 := q9 B6;replace B7 := q9 B7;replace B8 := q9 B8;replace Ba := q9 Ba;replace Bc := q9 Bc;replace Be := q9 Be;replace Bf := q9 Bf;replace Bg := q9 Bg;replace Bh := q9 Bh;replace B0 := q9 B0;replace B1 := q9 B1;clear q9;replace C1 := hk 0 _ (by omega) C1;replace C2 := hk 1 _ (by omega) C2;replace Bo := hk 2 _ (by omega) Bo;replace Bv := hk 3 _ (by omega) Bv;replace Bp := hk 4 _ (by omega) Bp;replace Bw := hk 5 _ (by omega) Bw;replace Bx := hk 6 _ (by omega) Bx;replace Bz := hk 7 _ (by omega) Bz;replace C0 := hk 8 _ (by omega) C0;replace B2 := hk 10 _ (by omega) B2;replace B3 := hk 11 _ (by omega) B3;have E6 := Nat.le_of_eq ho.size.symm;clear ho hk;refine pl_nil (qw_block (zq (zc (zp (pU (.agg #[iv f.k, .slice none 0 0, iv 0, iv 0, iv 0, iv 0, .bool false, iv 0, iv 0, iv f.wi, .slice none 0 0, .slice none 0 0]) (xl (ld55 (C1.1) (C2.1) (Bo.1) (Bv.1) (Bp.1) (Bw.1) (Bx.1) (Bz.1) (C0.1) (Bm.1) (B2.1) (B3.1))) ?_)))));refine pP (sn_setK12 (O := O5) (j := 0) (v0 := iv f.k) (v1 := .slice none 0 0) (v2 := iv 0) (v3 := iv 0) (v4 := iv 0) (v5 := iv 0) (v6 := .bool false) (v7 := iv 0) (v8 := iv 0) (v9 := iv f.wi) (v10 := .slice none 0 0) (v11 := .slice none 0 0) (xt (pw O5 0) (.agg #[iv f.k, .slice none 0 0, iv 0, iv 0, iv 0, iv 0, .bool false, iv 0, iv 0, iv f.wi, .slice none 0 0, .slice none 0 0]) (st55 B4.1 B4.2 B6.1 B6.2 B7.1 B7.2 B8.1 B8.2 Ba.1 Ba.2 Bc.1 Bc.2 Be.1 Be.2 Bf.1 Bf.2 Bg.1 Bg.2 Bh.1 Bh.2 B0.1 B0.2 B1.1 B1.2)) B4 B6 B7 B8 Ba Bc Be Bf Bg Bh B0 B1 ?_);intro Dj ho B4 B6 B7 B8 Ba Bc Be Bf Bg Bh B0 B1 hk;replace hE := ho.ext hE (Tq Cg (Nat.le_of_eq Ce));have q9 := ho.bx O1 (by omega);clear q9;have q9 := ho.bx O9 (by omega);replace C1 := q9 C1;replace C2 := q9 C2;replace Bo := q9 Bo;replace Bv := q9 Bv;replace Bp := q9 Bp;replace Bw := q9 Bw;replace Bx := q9 Bx;replace Bz := q9 Bz;replace C0 := q9 C0;replace B2 := q9 B2;replace B3 := q9 B3;replace Bm := q9 Bm;clear q9;have E7 := Nat.le_of_eq ho.size.symm;clear ho hk;refine zn (cw_ret (qw_ret [.agg #[iv f.k, .slice none 0 0, iv 0, iv 0, iv 0, iv 0, .bool false, iv 0, iv 0, iv f.wi, .slice none 0 0, .slice none 0 0]] rfl ⟨⟨_, by kernel_rfl, res_ld (ld55 (B4.1) (B6.1) (B7.1) (B8.1) (Ba.1) (Bc.1) (Be.1) (Bf.1) (Bg.1) (Bh.1) (B0.1) (B1.1))⟩, trivial⟩ ?_));have Cs : (0 : Int) = (Gol.restF f).sf := by simp [Gol.restF, Ca]
     have Ct : (0 : Int) = (Gol.restF f).st := by simp [Gol.restF, Ca]
     have Cu : (0 : Int) = (Gol.restF f).lo := by simp [Gol.restF, Ca]
     have Cv : (0 : Int) = (Gol.restF f).hi := by simp [Gol.restF, Ca]
     have Cw : false = (Gol.restF f).cl := by simp [Gol.restF, Ca]
     have Cx : (0 : Int) = (Gol.restF f).dy := by simp [Gol.restF, Ca]
     have Cy : (0 : Int) = (Gol.restF f).tm := by simp [Gol.restF, Ca]
     have Cz : (f.wi : Int) = (Gol.restF f).wi := by simp [Gol.restF, Ca]
     rw [← Cs, ← Ct, ← Cu, ← Cv, ← Cw, ← Cx, ← Cy, ← Cz];exact ⟨rfl, hE⟩
    ·
     refine pU (.bool false) (eN (f.k : Int) (4 : Int) (Ca)) ?_;refine pT (.bool false) ?_;refine zn (zf ?_);refine cw_skip (qw_block (zq (zc (zp (pU (.agg #[iv f.k, .slice none 0 0, iv 0, iv 0, iv 0, iv 0, .bool false, iv 0, iv 0, iv 0, .slice none 0 0, .slice none 0 0]) (xl (ld55 (C1.1) (C2.1) (Bo.1) (Bv.1) (Bp.1) (Bw.1) (Bx.1) (Bz.1) (C0.1) (Bm.1) (B2.1) (B3.1))) ?_)))));refine pP (sn_setK12 (O := O5) (j := 0) (v0 := iv f.k) (v1 := .slice none 0 0) (v2 := iv 0) (v3 := iv 0) (v4 := iv 0) (v5 := iv 0) (v6 := .bool false) (v7 := iv 0) (v8 := iv 0) (v9 := iv 0) (v10 := .slice none 0 0) (v11 := .slice none 0 0) (xt (pw O5 0) (.agg #[iv f.k, .slice none 0 0, iv 0, iv 0, iv 0, iv 0, .bool false, iv 0, iv 0, iv 0, .slice none 0 0, .slice none 0 0]) (st55 B4.1 B4.2 B6.1 B6.2 B7.1 B7.2 B8.1 B8.2 Ba.1 Ba.2 Bc.1 Bc.2 Be.1 Be.2 Bf.1 Bf.2 Bg.1 Bg.2 Bh.1 Bh.2 B0.1 B0.2 B1.1 B1.2)) B4 B6 B7 B8 Ba Bc Be Bf Bg Bh B0 B1 ?_);intro Dk ho B4 B6 B7 B8 Ba Bc Be Bf Bg Bh B0 B1 hk;replace hE := ho.ext hE (Tq Cg (Nat.le_of_eq Ce));have q9 := ho.bx O1 (by omega);clear q9;have q9 := ho.bx O9 (by omega);clear q9;have E8 := Nat.le_of_eq ho.size.symm;clear ho hk;refine zn (cw_ret (qw_ret [.agg #[iv f.k, .slice none 0 0, iv 0, iv 0, iv 0, iv 0, .bool false, iv 0, iv 0, iv 0, .slice none 0 0, .slice none 0 0]] rfl ⟨⟨_, by kernel_rfl, res_ld (ld55 (B4.1) (B6.1) (B7.1) (B8.1) (Ba.1) (Bc.1) (Be.1) (Bf.1) (Bg.1) (Bh.1) (B0.1) (B1.1))⟩, trivial⟩ ?_));have Cs : (0 : Int) = (Gol.restF f).sf := by simp [Gol.restF, C5, C7, C8, Ca]
     have Ct : (0 : Int) = (Gol.restF f).st := by simp [Gol.restF, C5, C7, C8, Ca]
     have Cu : (0 : Int) = (Gol.restF f).lo := by simp [Gol.restF, C5, C7, C8, Ca]
     have Cv : (0 : Int) = (Gol.restF f).hi := by simp [Gol.restF, C5, C7, C8, Ca]
     have Cw : false = (Gol.restF f).cl := by simp [Gol.restF, C5, C7, C8, Ca]
     have Cx : (0 : Int) = (Gol.restF f).dy := by simp [Gol.restF, C5, C7, C8, Ca]
     have Cy : (0 : Int) = (Gol.restF f).tm := by simp [Gol.restF, C5, C7, C8, Ca]
     have Cz : (0 : Int) = (Gol.restF f).wi := by simp [Gol.restF, C5, C7, C8, Ca]
     rw [← Cs, ← Ct, ← Cu, ← Cv, ← Cw, ← Cx, ← Cy, ← Cz];exact ⟨rfl, hE⟩
theorem plain_c (f g : GF) (x y : GC) (w : World) : Calls Tryd.prog 79 #[.agg #[iv f.k, .slice x.ar x.nr x.cr, iv f.sf, iv f.st, iv f.lo, iv f.hi, .bool f.cl, iv f.dy, iv f.tm, iv f.wi, .slice x.ac x.nc x.cc, .slice x.ak x.nk x.ck], .agg #[iv g.k, .slice y.ar y.nr y.cr, iv g.sf, iv g.st, iv g.lo, iv g.hi, .bool g.cl, iv g.dy, iv g.tm, iv g.wi, .slice y.ac y.nc y.cc, .slice y.ak y.nk y.ck]] w fun e w' => e = .returned (.bool (Gol.plB f g)) ∧ Ext w w' := by
 refine calls_cw 59 [(1, .agg #[iv g.k, .slice y.ar y.nr y.cr, iv g.sf, iv g.st, iv g.lo, iv g.hi, .bool g.cl, iv g.dy, iv g.tm, iv g.wi, .slice y.ac y.nc y.cc, .slice y.ak y.nk y.ck]), (0, .agg #[iv f.k, .slice x.ar x.nr x.cr, iv f.sf, iv f.st, iv f.lo, iv f.hi, .bool f.cl, iv f.dy, iv f.tm, iv f.wi, .slice x.ac x.nc x.cc, .slice x.ak x.nk x.ck])] Tryd.func79 rfl Tryd.ntmps79 (by kernel_rfl) (by kernel_rfl) (fun L => ?_);have hE := Ext.refl w;refine zc (zp (pS (sw 55 #[iv f.k, .slice x.ar x.nr x.cr, iv f.sf, iv f.st, iv f.lo, iv f.hi, .bool f.cl, iv f.dy, iv f.tm, iv f.wi, .slice x.ac x.nc x.cc, .slice x.ak x.nk x.ck] ?_)));intro O1 X2 C3 C1 hb hbx;have ⟨B5, Bm, Ba, Bc, Be, Bf, Bg, Bh, Bi, Bj, B7, B8⟩ := bq12 hbx;replace hE := hE.trans hb;have C6 := hb.size;have C8 := B5.lt;refine pS (sw 55 #[iv g.k, .slice y.ar y.nr y.cr, iv g.sf, iv g.st, iv g.lo, iv g.hi, .bool g.cl, iv g.dy, iv g.tm, iv g.wi, .slice y.ac y.nc y.cc, .slice y.ak y.nk y.ck] ?_);intro O5 X6 C4 C2 hb hbx;have ⟨Bo, C0, Bp, Bq, Br, Bs, Bt, Bu, Bv, Bw, Bx, Bz⟩ := bq12 hbx;refine mv9 hb hE B5 Ba Bc Be Bf Bg Bh Bi fun hE B5 Ba Bc Be Bf Bg Bh Bi=>?_;replace Bj := Bj.x hb;have C7 := hb.size;have C9 := Bo.lt;refine pT (.bool false) ?_;refine pl_nil (qw_then ?_);refine cw_seq ?_;have C5 := Ext.refl X6;refine zp (pT (pw O1 0) ?_);refine pU (iv f.k) (xl (ld3 (B5.1))) ?_;refine pT (pw O5 0) ?_;refine pU (iv g.k) (xl (ld3 (Bo.1))) ?_
 by_cases B0 : (f.k : Int) = (g.k : Int)
 ·
  refine pU (.bool true) (eE (f.k : Int) (g.k : Int) (B0)) ?_;refine pD (.bool true) (pw O1 2) ?_;refine pU (.agg #[iv f.sf, iv f.st]) (xl (ld52 (Ba.1) (Bc.1))) ?_;refine pT (pw O5 2) ?_;refine pU (.agg #[iv g.sf, iv g.st]) (xl (ld52 (Bp.1) (Bq.1))) ?_
  by_cases B1 : f.sf = g.sf ∧ f.st = g.st
  ·
   refine pU (.bool true) (ex_binV (a := .agg #[iv f.sf, iv f.st]) (b := .agg #[iv g.sf, iv g.st]) rfl (by kernel_rfl) (by kernel_rfl) (eqG_agg (by kernel_rfl)) (bin_eqv_t (spell_eq _ _ _ _ _) B1)) ?_;refine pD (.bool true) (.bool true) ?_;refine pT (pw O1 4) ?_;refine pU (iv f.lo) (xl (ld3 (Be.1))) ?_;refine pT (pw O5 4) ?_;refine pU (iv g.lo) (xl (ld3 (Br.1))) ?_
   by_cases B2 : (f.lo : Int) = (g.lo : Int)
   ·
    refine pU (.bool true) (eE (f.lo : Int) (g.lo : Int) (B2)) ?_;refine pD (.bool true) (.bool true) ?_;refine pT (pw O1 5) ?_;refine pU (iv f.hi) (xl (ld3 (Bf.1))) ?_;refine pT (pw O5 5) ?_;refine pU (iv g.hi) (xl (ld3 (Bs.1))) ?_
    by_cases B3 : (f.hi : Int) = (g.hi : Int)
    ·
     refine pU (.bool true) (eE (f.hi : Int) (g.hi : Int) (B3)) ?_;refine pD (.bool true) (.bool true) ?_;refine pT (pw O1 6) ?_;refine pU (.bool f.cl) (xl (ld4 (Bg.1))) ?_;refine pT (pw O5 6) ?_;refine pU (.bool g.cl) (xl (ld4 (Bt.1))) ?_
     by_cases B4 : f.cl = g.cl
     ·
      refine pU (.bool true) (ex_binV (a := .bool f.cl) (b := .bool g.cl) rfl (by kernel_rfl) (by kernel_rfl) eqG_bol (bin_eqb_t B4)) ?_;refine pD (.bool true) (.bool true) ?_;refine pT (pw O1 7) ?_;refine pU (iv f.dy) (xl (ld3 (Bh.1))) ?_;refine pT (pw O5 7) ?_;refine pU (iv g.dy) (xl (ld3 (Bu.1))) ?_
      by_cases B6 : (f.dy : Int) = (g.dy : Int)
      ·
       refine pU (.bool true) (eE (f.dy : Int) (g.dy : Int) (B6)) ?_;refine pD (.bool true) (.bool true) ?_;refine pT (pw O1 8) ?_;refine pU (iv f.tm) (xl (ld3 (Bi.1))) ?_;refine pT (pw O5 8) ?_;refine pU (iv g.tm) (xl (ld3 (Bv.1))) ?_
       by_cases Bk : (f.tm : Int) = (g.tm : Int)
       ·
        refine pU (.bool true) (eE (f.tm : Int) (g.tm : Int) (Bk)) ?_;refine pD (.bool true) (.bool true) ?_;refine pT (pw O1 9) ?_;refine pU (iv f.wi) (xl (ld3 (Bj.1))) ?_;refine pT (pw O5 9) ?_;refine pU (iv g.wi) (xl (ld3 (Bw.1))) ?_
        by_cases Bl : (f.wi : Int) = (g.wi : Int)
        ·
         refine pU (.bool true) (eE (f.wi : Int) (g.wi : Int) (Bl)) ?_;refine pD (.bool true) (.bool true) ?_;refine zn (cK [4] (fun L => ?_));refine cw_ret (qw_ret [.bool true] rfl ⟨(by kernel_rfl), trivial⟩ ?_);exact ⟨rb (show Gol.plB f g = true by simp [Gol.plB, B0, B1, B2, B3, B4, B6, Bk, Bl]).symm, hE⟩
        ·
         refine pU (.bool false) (eN (f.wi : Int) (g.wi : Int) (Bl)) ?_;refine pD (.bool false) (.bool false) ?_;refine zn (cK [4] (fun L => ?_));refine cw_ret (qw_ret [.bool false] rfl ⟨(by kernel_rfl), trivial⟩ ?_);exact ⟨rb (show Gol.plB f g = false by simp [Gol.plB, B0, B1, B2, B3, B4, B6, Bk, Bl]).symm, hE⟩
       ·
        refine pU (.bool false) (eN (f.tm : Int) (g.tm : Int) (Bk)) ?_;refine pD (.bool false) (.bool false) ?_;refine pK ?_;refine pK ?_;refine pK ?_;refine pK ?_;refine pK ?_;refine pD (.bool false) (.bool false) ?_;refine zn (cK [4] (fun L => ?_));refine cw_ret (qw_ret [.bool false] rfl ⟨(by kernel_rfl), trivial⟩ ?_);exact ⟨rb (show Gol.plB f g = false by simp [Gol.plB, B0, B1, B2, B3, B4, B6, Bk]).symm, hE⟩
      ·
       refine pU (.bool false) (eN (f.dy : Int) (g.dy : Int) (B6)) ?_;refine pD (.bool false) (.bool false) ?_;refine pK ?_;refine pK ?_;refine pK ?_;refine pK ?_;refine pK ?_;refine pD (.bool false) (.bool false) ?_;refine pK ?_;refine pK ?_;refine pK ?_;refine pK ?_;refine pK ?_;refine pD (.bool false) (.bool false) ?_;refine zn (cK [4] (fun L => ?_));refine cw_ret (qw_ret [.bool false] rfl ⟨(by kernel_rfl), trivial⟩ ?_);exact ⟨rb (show Gol.plB f g = false by simp [Gol.plB, B0, B1, B2, B3, B4, B6]).symm, hE⟩
     ·
      refine pU (.bool false) (ex_binV (a := .bool f.cl) (b := .bool g.cl) rfl (by kernel_rfl) (by kernel_rfl) eqG_bol (bin_eqb_f B4)) ?_;refine pD (.bool false) (.bool false) ?_;refine pK ?_;refine pK ?_;refine pK ?_;refine pK ?_;refine pK ?_;refine pD (.bool false) (.bool false) ?_;refine pK ?_;refine pK ?_;refine pK ?_;refine pK ?_;refine pK ?_;refine pD (.bool false) (.bool false) ?_;refine pK ?_;refine pK ?_;refine pK ?_;refine pK ?_;refine pK ?_;refine pD (.bool false) (.bool false) ?_;refine zn (cK [4] (fun L => ?_));refine cw_ret (qw_ret [.bool false] rfl ⟨(by kernel_rfl), trivial⟩ ?_);exact ⟨rb (show Gol.plB f g = false by simp [Gol.plB, B0, B1, B2, B3, B4]).symm, hE⟩
    ·
     refine pU (.bool false) (eN (f.hi : Int) (g.hi : Int) (B3)) ?_;refine pD (.bool false) (.bool false) ?_;refine pK ?_;refine pK ?_;refine pK ?_;refine pK ?_;refine pK ?_;refine pD (.bool false) (.bool false) ?_;refine pK ?_;refine pK ?_;refine pK ?_;refine pK ?_;refine pK ?_;refine pD (.bool false) (.bool false) ?_;refine pK ?_;refine pK ?_;refine pK ?_;refine pK ?_;refine pK ?_;refine pD (.bool false) (.bool false) ?_;refine pK ?_;refine pK ?_;refine pK ?_;refine pK ?_;refine pK ?_;refine pD (.bool false) (.bool false) ?_;refine zn (cK [4] (fun L => ?_));refine cw_ret (qw_ret [.bool false] rfl ⟨(by kernel_rfl), trivial⟩ ?_);exact ⟨rb (show Gol.plB f g = false by simp [Gol.plB, B0, B1, B2, B3]).symm, hE⟩
   ·
    refine pU (.bool false) (eN (f.lo : Int) (g.lo : Int) (B2)) ?_;refine pD (.bool false) (.bool false) ?_;refine pK ?_;refine pK ?_;refine pK ?_;refine pK ?_;refine pK ?_;refine pD (.bool false) (.bool false) ?_;refine pK ?_;refine pK ?_;refine pK ?_;refine pK ?_;refine pK ?_;refine pD (.bool false) (.bool false) ?_;refine pK ?_;refine pK ?_;refine pK ?_;refine pK ?_;refine pK ?_;refine pD (.bool false) (.bool false) ?_;refine pK ?_;refine pK ?_;refine pK ?_;refine pK ?_;refine pK ?_;refine pD (.bool false) (.bool false) ?_;refine pK ?_;refine pK ?_;refine pK ?_;refine pK ?_;refine pK ?_;refine pD (.bool false) (.bool false) ?_;refine zn (cK [4] (fun L => ?_));refine cw_ret (qw_ret [.bool false] rfl ⟨(by kernel_rfl), trivial⟩ ?_);exact ⟨rb (show Gol.plB f g = false by simp [Gol.plB, B0, B1, B2]).symm, hE⟩
  ·
   refine pU (.bool false) (ex_binV (a := .agg #[iv f.sf, iv f.st]) (b := .agg #[iv g.sf, iv g.st]) rfl (by kernel_rfl) (by kernel_rfl) (eqG_agg (by kernel_rfl)) (bin_eqv_f (spell_eq _ _ _ _ _) B1)) ?_;refine pD (.bool false) (.bool false) ?_;refine pK ?_;refine pK ?_;refine pK ?_;refine pK ?_;refine pK ?_;refine pD (.bool false) (.bool false) ?_;refine pK ?_;refine pK ?_;refine pK ?_;refine pK ?_;refine pK ?_;refine pD (.bool false) (.bool false) ?_;refine pK ?_;refine pK ?_;refine pK ?_;refine pK ?_;refine pK ?_;refine pD (.bool false) (.bool false) ?_;refine pK ?_;refine pK ?_;refine pK ?_;refine pK ?_;refine pK ?_;refine pD (.bool false) (.bool false) ?_;refine pK ?_;refine pK ?_;refine pK ?_;refine pK ?_;refine pK ?_;refine pD (.bool false) (.bool false) ?_;refine pK ?_;refine pK ?_;refine pK ?_;refine pK ?_;refine pK ?_;refine pD (.bool false) (.bool false) ?_;refine zn (cK [4] (fun L => ?_));refine cw_ret (qw_ret [.bool false] rfl ⟨(by kernel_rfl), trivial⟩ ?_);exact ⟨rb (show Gol.plB f g = false by simp [Gol.plB, B0, B1]).symm, hE⟩
 ·
  refine pU (.bool false) (eN (f.k : Int) (g.k : Int) (B0)) ?_;refine pT (.bool false) ?_;refine pK ?_;refine pK ?_;refine pK ?_;refine pK ?_;refine pK ?_;refine pD (.bool false) (.bool false) ?_;refine pK ?_;refine pK ?_;refine pK ?_;refine pK ?_;refine pK ?_;refine pD (.bool false) (.bool false) ?_;refine pK ?_;refine pK ?_;refine pK ?_;refine pK ?_;refine pK ?_;refine pD (.bool false) (.bool false) ?_;refine pK ?_;refine pK ?_;refine pK ?_;refine pK ?_;refine pK ?_;refine pD (.bool false) (.bool false) ?_;refine pK ?_;refine pK ?_;refine pK ?_;refine pK ?_;refine pK ?_;refine pD (.bool false) (.bool false) ?_;refine pK ?_;refine pK ?_;refine pK ?_;refine pK ?_;refine pK ?_;refine pD (.bool false) (.bool false) ?_;refine pK ?_;refine pK ?_;refine pK ?_;refine pK ?_;refine pK ?_;refine pD (.bool false) (.bool false) ?_;refine zn (cK [4] (fun L => ?_));refine cw_ret (qw_ret [.bool false] rfl ⟨(by kernel_rfl), trivial⟩ ?_);exact ⟨rb (show Gol.plB f g = false by simp [Gol.plB, B0]).symm, hE⟩
theorem limits_c {w0 : World} (f : GF) (x : GC) (w : World) (HA : AA w0 x.ar f.rows x.nr (Globe.validL f.rows)) (hT : Tab w0) (e0 : Ext w0 w) : Calls Tryd.prog 81 #[.agg #[iv f.k, .slice x.ar x.nr x.cr, iv f.sf, iv f.st, iv f.lo, iv f.hi, .bool f.cl, iv f.dy, iv f.tm, iv f.wi, .slice x.ac x.nc x.cc, .slice x.ak x.nk x.ck]] w fun e w' => e = .returned (.bool (Gol.limB f)) ∧ Ext w w' := by
 have D1 := e0.size;refine calls_cw 85 [(0, .agg #[iv f.k, .slice x.ar x.nr x.cr, iv f.sf, iv f.st, iv f.lo, iv f.hi, .bool f.cl, iv f.dy, iv f.tm, iv f.wi, .slice x.ac x.nc x.cc, .slice x.ak x.nk x.ck])] Tryd.func81 rfl Tryd.ntmps81 (by kernel_rfl) (by kernel_rfl) (fun L => ?_);have hE := Ext.refl w;refine zc (zp (pS (sw 55 #[iv f.k, .slice x.ar x.nr x.cr, iv f.sf, iv f.st, iv f.lo, iv f.hi, .bool f.cl, iv f.dy, iv f.tm, iv f.wi, .slice x.ac x.nc x.cc, .slice x.ak x.nk x.ck] ?_)));intro O1 X2 D0 Cz hb hbx;have ⟨Bp, Bq, Bj, Bs, Bk, Bt, Bx, Br, Bu, Bl, Bv, Bw⟩ := bq12 hbx;refine mv2 hb e0 hE fun e0 hE=>?_;have D2 := hb.size;have D4 := Bp.lt;refine pT (.bool false) ?_;refine zn (cw_seq ?_);refine cw_seq ?_;have B0 := Ext.refl X2;refine zp (pT (pw O1 0) ?_);refine pU (iv f.k) (xl (ld3 (Bp.1))) ?_;refine zn (cw_block ?_);refine zc (cw_plain ?_)
 by_cases B3 : (f.k : Int) = (1 : Int)
 ·
  refine pU (.bool true) (eE (f.k : Int) (1 : Int) (B3)) ?_;refine pT (.bool true) ?_;refine zn (zt ?_);refine zc (zp (pT (pw O1 1) ?_));refine pU (.agg #[.slice x.ar x.nr x.cr]) (xl (ld50 (Bq.1))) ?_;rcases Bool.eq_false_or_eq_true (Globe.validL f.rows) with Bm | Bm
  ·
   refine pS (sc 48 #[.agg #[.slice x.ar x.nr x.cr]] ((Valid_v (v := true) _ _ _ _ _ (HA.1.ext e0) HA.2.1 HA.2.2.1 (Bm)).mono ?_));rintro e w8 ⟨rfl, hb⟩;refine mv3 hb e0 hE B0 fun e0 hE B0=>?_;have D3 := hb.size;refine ⟨_, rfl, pD (.bool true) (pw O1 1) ?_⟩;refine pU (.agg #[.slice x.ar x.nr x.cr]) (xl (ld50 (Bq.c B0))) ?_;refine pS (sc 85 #[.agg #[.slice x.ar x.nr x.cr]] ((CountP_c _ _ HA e0 Bm hT).mono ?_));rintro e D5 ⟨rfl, hb⟩;refine mv3 hb e0 hE B0 fun e0 hE B0=>?_;have Ca := hb.size;refine ⟨_, rfl, ?_⟩
   by_cases B8 : (Gol.cntI f.rows : Int) > (0 : Int)
   ·
    refine pU (.bool true) (ed ((Gol.cntI f.rows : Int) > (0 : Int)) (B8)) ?_;refine pD (.bool true) (.bool true) ?_;refine zn (cK [1,3] (fun L => ?_));refine zc (zp (pD (.bool true) (.bool true) ?_));refine pD (pw O1 2) (pw O1 2) ?_;refine pU (iv f.sf) (xl (ld3 (Bj.c B0))) ?_;rcases Bool.eq_false_or_eq_true (Globe.inB f.sf 0 1000000) with B4 | B4
    ·
     have Bz := Globe.inB_t.1 B4;refine pS (sc 78 #[iv f.sf, iv 0, iv 1000000] ((order_in_r (r := true) f.sf 0 1000000 _ (B4)).mono ?_));rintro e D6 ⟨rfl, hb⟩;refine mv3 hb e0 hE B0 fun e0 hE B0=>?_;have Cb := hb.size;refine ⟨_, rfl, pD (.bool true) (.bool true) ?_⟩;refine pD (pw O1 2) (pw O1 3) ?_;refine pU (iv f.st) (xl (ld3 (Bs.c B0))) ?_;refine pD (pw O1 2) (pw O1 2) ?_;refine pU (iv f.sf) (xl (ld3 (Bj.c B0))) ?_;refine pU (iv (f.sf + 1 : Int)) (ew (by omega) (by omega)) ?_;rcases Bool.eq_false_or_eq_true (Globe.inB f.st (f.sf + 1) 1000000) with B6 | B6
     ·
      have C0 := Globe.inB_t.1 B6;refine pS (sc 78 #[iv f.st, iv (f.sf + 1 : Int), iv 1000000] ((order_in_r (r := true) f.st (f.sf + 1) 1000000 _ (B6)).mono ?_));rintro e D7 ⟨rfl, hb⟩;refine mv3 hb e0 hE B0 fun e0 hE B0=>?_;have Cc := hb.size;refine ⟨_, rfl, pD (.bool true) (.bool true) ?_⟩;refine pT (pw O1 4) ?_;refine pU (iv f.lo) (xl (ld3 (Bk.c B0))) ?_;rcases Bool.eq_false_or_eq_true (Globe.inB f.lo 0 90) with Ba | Ba
      ·
       have C1 := Globe.inB_t.1 Ba;refine pS (sc 78 #[iv f.lo, iv 0, iv 90] ((order_in_r (r := true) f.lo 0 90 _ (Ba)).mono ?_));rintro e D8 ⟨rfl, hb⟩;refine mv3 hb e0 hE B0 fun e0 hE B0=>?_;have Cd := hb.size;refine ⟨_, rfl, pD (.bool true) (.bool true) ?_⟩;refine pT (pw O1 5) ?_;refine pU (iv f.hi) (xl (ld3 (Bt.c B0))) ?_;refine pT (pw O1 4) ?_;refine pU (iv f.lo) (xl (ld3 (Bk.c B0))) ?_;rcases Bool.eq_false_or_eq_true (Globe.inB f.hi f.lo 90) with Bf | Bf
       ·
        have C2 := Globe.inB_t.1 Bf;refine pS (sc 78 #[iv f.hi, iv f.lo, iv 90] ((order_in_r (r := true) f.hi f.lo 90 _ (Bf)).mono ?_));rintro e D9 ⟨rfl, hb⟩;refine mv3 hb e0 hE B0 fun e0 hE B0=>?_;have Ce := hb.size;refine ⟨_, rfl, pD (.bool true) (.bool true) ?_⟩;refine zn (cK [2] (fun L => ?_));refine cw_ret (qw_block_ret (qw_then_ret (qw_ret [.bool true] rfl ⟨(by kernel_rfl), trivial⟩ ?_)));exact ⟨rb (show Gol.limB f = true by simp [Gol.limB, Gol.areaB, Bm, B4, B6, Ba, Bf, B3, B8]).symm, hE⟩
       ·
        refine pS (sc 78 #[iv f.hi, iv f.lo, iv 90] ((order_in_r (r := false) f.hi f.lo 90 _ (Bf)).mono ?_));rintro e Da ⟨rfl, hb⟩;refine mv3 hb e0 hE B0 fun e0 hE B0=>?_;have Cf := hb.size;refine ⟨_, rfl, pD (.bool false) (.bool false) ?_⟩;refine zn (cK [2] (fun L => ?_));refine cw_ret (qw_block_ret (qw_then_ret (qw_ret [.bool false] rfl ⟨(by kernel_rfl), trivial⟩ ?_)));exact ⟨rb (show Gol.limB f = false by simp [Gol.limB, Gol.areaB, Bm, B4, B6, Ba, Bf, B3, B8]).symm, hE⟩
      ·
       refine pS (sc 78 #[iv f.lo, iv 0, iv 90] ((order_in_r (r := false) f.lo 0 90 _ (Ba)).mono ?_));rintro e Db ⟨rfl, hb⟩;refine mv3 hb e0 hE B0 fun e0 hE B0=>?_;have Cg := hb.size;refine ⟨_, rfl, pD (.bool false) (.bool false) ?_⟩;refine pK ?_;refine pK ?_;refine pK ?_;refine pK ?_;refine pK ?_;refine pD (.bool false) (.bool false) ?_;refine zn (cK [2] (fun L => ?_));refine cw_ret (qw_block_ret (qw_then_ret (qw_ret [.bool false] rfl ⟨(by kernel_rfl), trivial⟩ ?_)));exact ⟨rb (show Gol.limB f = false by simp [Gol.limB, Gol.areaB, Bm, B4, B6, Ba, B3, B8]).symm, hE⟩
     ·
      refine pS (sc 78 #[iv f.st, iv (f.sf + 1 : Int), iv 1000000] ((order_in_r (r := false) f.st (f.sf + 1) 1000000 _ (B6)).mono ?_));rintro e Dc ⟨rfl, hb⟩;refine mv3 hb e0 hE B0 fun e0 hE B0=>?_;have Ch := hb.size;refine ⟨_, rfl, pD (.bool false) (.bool false) ?_⟩;refine pK ?_;refine pK ?_;refine pK ?_;refine pD (.bool false) (.bool false) ?_;refine pK ?_;refine pK ?_;refine pK ?_;refine pK ?_;refine pK ?_;refine pD (.bool false) (.bool false) ?_;refine zn (cK [2] (fun L => ?_));refine cw_ret (qw_block_ret (qw_then_ret (qw_ret [.bool false] rfl ⟨(by kernel_rfl), trivial⟩ ?_)));exact ⟨rb (show Gol.limB f = false by simp [Gol.limB, Gol.areaB, Bm, B4, B6, B3, B8]).symm, hE⟩
    ·
     refine pS (sc 78 #[iv f.sf, iv 0, iv 1000000] ((order_in_r (r := false) f.sf 0 1000000 _ (B4)).mono ?_));rintro e Dd ⟨rfl, hb⟩;refine mv3 hb e0 hE B0 fun e0 hE B0=>?_;have Ci := hb.size;refine ⟨_, rfl, pD (.bool false) (.bool false) ?_⟩;refine pK ?_;refine pK ?_;refine pK ?_;refine pK ?_;refine pK ?_;refine pK ?_;refine pK ?_;refine pK ?_;refine pD (.bool false) (.bool false) ?_;refine pK ?_;refine pK ?_;refine pK ?_;refine pD (.bool false) (.bool false) ?_;refine pK ?_;refine pK ?_;refine pK ?_;refine pK ?_;refine pK ?_;refine pD (.bool false) (.bool false) ?_;refine zn (cK [2] (fun L => ?_));refine cw_ret (qw_block_ret (qw_then_ret (qw_ret [.bool false] rfl ⟨(by kernel_rfl), trivial⟩ ?_)));exact ⟨rb (show Gol.limB f = false by simp [Gol.limB, Gol.areaB, Bm, B4, B3, B8]).symm, hE⟩
   ·
    refine pU (.bool false) (en ((Gol.cntI f.rows : Int) > (0 : Int)) (B8)) ?_;refine pD (.bool false) (.bool false) ?_;refine zn (cK [1,3] (fun L => ?_));refine zc (zp (pD (.bool false) (.bool false) ?_));refine pK ?_;refine pK ?_;refine pK ?_;refine pK ?_;refine pD (.bool false) (.bool false) ?_;refine pK ?_;refine pK ?_;refine pK ?_;refine pK ?_;refine pK ?_;refine pK ?_;refine pK ?_;refine pK ?_;refine pD (.bool false) (.bool false) ?_;refine pK ?_;refine pK ?_;refine pK ?_;refine pD (.bool false) (.bool false) ?_;refine pK ?_;refine pK ?_;refine pK ?_;refine pK ?_;refine pK ?_;refine pD (.bool false) (.bool false) ?_;refine zn (cK [2] (fun L => ?_));refine cw_ret (qw_block_ret (qw_then_ret (qw_ret [.bool false] rfl ⟨(by kernel_rfl), trivial⟩ ?_)));exact ⟨rb (show Gol.limB f = false by simp [Gol.limB, Gol.areaB, Bm, B3, B8]).symm, hE⟩
  ·
   refine pS (sc 48 #[.agg #[.slice x.ar x.nr x.cr]] ((Valid_v (v := false) _ _ _ _ _ (HA.1.ext e0) HA.2.1 HA.2.2.1 (Bm)).mono ?_));rintro e De ⟨rfl, hb⟩;refine mv2 hb hE B0 fun hE B0=>?_;have Cj := hb.size;refine ⟨_, rfl, pT (.bool false) ?_⟩;refine pK ?_;refine pK ?_;refine pK ?_;refine pK ?_;refine pD (.bool false) (.bool false) ?_;refine zn (cK [1,3] (fun L => ?_));refine zc (zp (pD (.bool false) (.bool false) ?_));refine pK ?_;refine pK ?_;refine pK ?_;refine pK ?_;refine pD (.bool false) (.bool false) ?_;refine pK ?_;refine pK ?_;refine pK ?_;refine pK ?_;refine pK ?_;refine pK ?_;refine pK ?_;refine pK ?_;refine pD (.bool false) (.bool false) ?_;refine pK ?_;refine pK ?_;refine pK ?_;refine pD (.bool false) (.bool false) ?_;refine pK ?_;refine pK ?_;refine pK ?_;refine pK ?_;refine pK ?_;refine pD (.bool false) (.bool false) ?_;refine zn (cK [2] (fun L => ?_));refine cw_ret (qw_block_ret (qw_then_ret (qw_ret [.bool false] rfl ⟨(by kernel_rfl), trivial⟩ ?_)));exact ⟨rb (show Gol.limB f = false by simp [Gol.limB, Gol.areaB, Bm, B3]).symm, hE⟩
 ·
  refine pU (.bool false) (eN (f.k : Int) (1 : Int) (B3)) ?_;refine pT (.bool false) ?_;refine zn (zf ?_);refine zc (cw_plain ?_)
  by_cases B1 : (f.k : Int) = (2 : Int)
  ·
   refine pU (.bool true) (eE (f.k : Int) (2 : Int) (B1)) ?_;refine pT (.bool true) ?_;refine zn (zt ?_);refine zc (zp (pT (pw O1 4) ?_));refine pU (iv f.lo) (xl (ld3 (Bk.1))) ?_;rcases Bool.eq_false_or_eq_true (Globe.inB f.lo 1 8) with Bc | Bc
   ·
    have C3 := Globe.inB_t.1 Bc;refine pS (sc 78 #[iv f.lo, iv 1, iv 8] ((order_in_r (r := true) f.lo 1 8 _ (Bc)).mono ?_));rintro e Df ⟨rfl, hb⟩;refine mv2 hb hE B0 fun hE B0=>?_;have Ck := hb.size;refine ⟨_, rfl, pD (.bool true) (pw O1 9) ?_⟩;refine pU (iv f.wi) (xl (ld3 (Bl.c B0))) ?_;rcases Bool.eq_false_or_eq_true (Globe.inB f.wi 1 1000000) with Bg | Bg
    ·
     have C4 := Globe.inB_t.1 Bg;refine pS (sc 78 #[iv f.wi, iv 1, iv 1000000] ((order_in_r (r := true) f.wi 1 1000000 _ (Bg)).mono ?_));rintro e Dg ⟨rfl, hb⟩;refine mv2 hb hE B0 fun hE B0=>?_;have Cm := hb.size;refine ⟨_, rfl, pD (.bool true) (.bool true) ?_⟩;refine zn (cK [2] (fun L => ?_));refine cw_ret (qw_block_ret (qw_then_ret (qw_ret [.bool true] rfl ⟨(by kernel_rfl), trivial⟩ ?_)));exact ⟨rb (show Gol.limB f = true by simp [Gol.limB, Bc, Bg, B1]).symm, hE⟩
    ·
     refine pS (sc 78 #[iv f.wi, iv 1, iv 1000000] ((order_in_r (r := false) f.wi 1 1000000 _ (Bg)).mono ?_));rintro e Dh ⟨rfl, hb⟩;refine mv2 hb hE B0 fun hE B0=>?_;have Cn := hb.size;refine ⟨_, rfl, pD (.bool false) (.bool false) ?_⟩;refine zn (cK [2] (fun L => ?_));refine cw_ret (qw_block_ret (qw_then_ret (qw_ret [.bool false] rfl ⟨(by kernel_rfl), trivial⟩ ?_)));exact ⟨rb (show Gol.limB f = false by simp [Gol.limB, Bc, Bg, B1]).symm, hE⟩
   ·
    refine pS (sc 78 #[iv f.lo, iv 1, iv 8] ((order_in_r (r := false) f.lo 1 8 _ (Bc)).mono ?_));rintro e Di ⟨rfl, hb⟩;refine mv2 hb hE B0 fun hE B0=>?_;have Co := hb.size;refine ⟨_, rfl, pT (.bool false) ?_⟩;refine pK ?_;refine pK ?_;refine pK ?_;refine pD (.bool false) (.bool false) ?_;refine zn (cK [2] (fun L => ?_));refine cw_ret (qw_block_ret (qw_then_ret (qw_ret [.bool false] rfl ⟨(by kernel_rfl), trivial⟩ ?_)));exact ⟨rb (show Gol.limB f = false by simp [Gol.limB, Bc, B1]).symm, hE⟩
  ·
   refine pU (.bool false) (eN (f.k : Int) (2 : Int) (B1)) ?_;refine pT (.bool false) ?_;refine zn (zf ?_);refine zc (cw_plain ?_)
   by_cases B2 : (f.k : Int) = (3 : Int)
   ·
    refine pU (.bool true) (eE (f.k : Int) (3 : Int) (B2)) ?_;refine pT (.bool true) ?_;refine zn (zt ?_);refine zc (zp (pT (pw O1 7) ?_));refine pU (iv f.dy) (xl (ld3 (Br.1))) ?_;rcases Bool.eq_false_or_eq_true (Globe.inB f.dy 1 60) with B5 | B5
    ·
     have C5 := Globe.inB_t.1 B5;refine pS (sc 78 #[iv f.dy, iv 1, iv 60] ((order_in_r (r := true) f.dy 1 60 _ (B5)).mono ?_));rintro e Dj ⟨rfl, hb⟩;refine mv2 hb hE B0 fun hE B0=>?_;have Cp := hb.size;refine ⟨_, rfl, pD (.bool true) (pw O1 8) ?_⟩;refine pU (iv f.tm) (xl (ld3 (Bu.c B0))) ?_;rcases Bool.eq_false_or_eq_true (Globe.inB f.tm 1 6) with B7 | B7
     ·
      have C6 := Globe.inB_t.1 B7;refine pS (sc 78 #[iv f.tm, iv 1, iv 6] ((order_in_r (r := true) f.tm 1 6 _ (B7)).mono ?_));rintro e Dk ⟨rfl, hb⟩;refine mv2 hb hE B0 fun hE B0=>?_;have Cq := hb.size;refine ⟨_, rfl, pD (.bool true) (.bool true) ?_⟩;refine pT (pw O1 9) ?_;refine pU (iv f.wi) (xl (ld3 (Bl.c B0))) ?_;refine pT (pw O1 7) ?_;refine pU (iv f.dy) (xl (ld3 (Br.c B0))) ?_;refine pU (iv (1440 * f.dy : Int)) (ew (by omega) (by omega)) ?_;rcases Bool.eq_false_or_eq_true (Globe.inB f.wi 0 (1440 * f.dy)) with Be | Be
      ·
       have C7 := Globe.inB_t.1 Be;refine pS (sc 78 #[iv f.wi, iv 0, iv (1440 * f.dy : Int)] ((order_in_r (r := true) f.wi 0 (1440 * f.dy) _ (Be)).mono ?_));rintro e Dl ⟨rfl, hb⟩;refine mv2 hb hE B0 fun hE B0=>?_;have Cr := hb.size;refine ⟨_, rfl, pD (.bool true) (.bool true) ?_⟩;refine pD (pw O1 2) (pw O1 2) ?_;refine pU (iv f.sf) (xl (ld3 (Bj.c B0))) ?_;rcases Bool.eq_false_or_eq_true (Globe.inB f.sf 0 1000000) with Bh | Bh
       ·
        have C8 := Globe.inB_t.1 Bh;refine pS (sc 78 #[iv f.sf, iv 0, iv 1000000] ((order_in_r (r := true) f.sf 0 1000000 _ (Bh)).mono ?_));rintro e Dm ⟨rfl, hb⟩;replace hE := hE.trans hb;have Cs := hb.size;refine ⟨_, rfl, pD (.bool true) (.bool true) ?_⟩;refine zn (cK [2] (fun L => ?_));refine cw_ret (qw_block_ret (qw_then_ret (qw_ret [.bool true] rfl ⟨(by kernel_rfl), trivial⟩ ?_)));exact ⟨rb (show Gol.limB f = true by simp [Gol.limB, B5, B7, Be, Bh, B2]).symm, hE⟩
       ·
        refine pS (sc 78 #[iv f.sf, iv 0, iv 1000000] ((order_in_r (r := false) f.sf 0 1000000 _ (Bh)).mono ?_));rintro e Dn ⟨rfl, hb⟩;replace hE := hE.trans hb;have Ct := hb.size;refine ⟨_, rfl, pD (.bool false) (.bool false) ?_⟩;refine zn (cK [2] (fun L => ?_));refine cw_ret (qw_block_ret (qw_then_ret (qw_ret [.bool false] rfl ⟨(by kernel_rfl), trivial⟩ ?_)));exact ⟨rb (show Gol.limB f = false by simp [Gol.limB, B5, B7, Be, Bh, B2]).symm, hE⟩
      ·
       refine pS (sc 78 #[iv f.wi, iv 0, iv (1440 * f.dy : Int)] ((order_in_r (r := false) f.wi 0 (1440 * f.dy) _ (Be)).mono ?_));rintro e Do ⟨rfl, hb⟩;replace hE := hE.trans hb;have Cu := hb.size;refine ⟨_, rfl, pD (.bool false) (.bool false) ?_⟩;refine pK ?_;refine pK ?_;refine pK ?_;refine pK ?_;refine pD (.bool false) (.bool false) ?_;refine zn (cK [2] (fun L => ?_));refine cw_ret (qw_block_ret (qw_then_ret (qw_ret [.bool false] rfl ⟨(by kernel_rfl), trivial⟩ ?_)));exact ⟨rb (show Gol.limB f = false by simp [Gol.limB, B5, B7, Be, B2]).symm, hE⟩
     ·
      refine pS (sc 78 #[iv f.tm, iv 1, iv 6] ((order_in_r (r := false) f.tm 1 6 _ (B7)).mono ?_));rintro e Dp ⟨rfl, hb⟩;replace hE := hE.trans hb;have Cv := hb.size;refine ⟨_, rfl, pD (.bool false) (.bool false) ?_⟩;refine pK ?_;refine pK ?_;refine pK ?_;refine pK ?_;refine pK ?_;refine pK ?_;refine pD (.bool false) (.bool false) ?_;refine pK ?_;refine pK ?_;refine pK ?_;refine pK ?_;refine pD (.bool false) (.bool false) ?_;refine zn (cK [2] (fun L => ?_));refine cw_ret (qw_block_ret (qw_then_ret (qw_ret [.bool false] rfl ⟨(by kernel_rfl), trivial⟩ ?_)));exact ⟨rb (show Gol.limB f = false by simp [Gol.limB, B5, B7, B2]).symm, hE⟩
    ·
     refine pS (sc 78 #[iv f.dy, iv 1, iv 60] ((order_in_r (r := false) f.dy 1 60 _ (B5)).mono ?_));rintro e Dq ⟨rfl, hb⟩;replace hE := hE.trans hb;have Cw := hb.size;refine ⟨_, rfl, pT (.bool false) ?_⟩;refine pK ?_;refine pK ?_;refine pK ?_;refine pD (.bool false) (.bool false) ?_;refine pK ?_;refine pK ?_;refine pK ?_;refine pK ?_;refine pK ?_;refine pK ?_;refine pD (.bool false) (.bool false) ?_;refine pK ?_;refine pK ?_;refine pK ?_;refine pK ?_;refine pD (.bool false) (.bool false) ?_;refine zn (cK [2] (fun L => ?_));refine cw_ret (qw_block_ret (qw_then_ret (qw_ret [.bool false] rfl ⟨(by kernel_rfl), trivial⟩ ?_)));exact ⟨rb (show Gol.limB f = false by simp [Gol.limB, B5, B2]).symm, hE⟩
   ·
    refine pU (.bool false) (eN (f.k : Int) (3 : Int) (B2)) ?_;refine pT (.bool false) ?_;refine zn (zf ?_);refine zc (cw_plain ?_)
    by_cases Bo : (f.k : Int) = (4 : Int)
    ·
     refine pU (.bool true) (eE (f.k : Int) (4 : Int) (Bo)) ?_;refine pT (.bool true) ?_;refine zn (zt ?_);refine zc (zp (pT (pw O1 9) ?_));refine pU (iv f.wi) (xl (ld3 (Bl.1))) ?_;rcases Bool.eq_false_or_eq_true (Globe.inB f.wi 0 1000000) with Bi | Bi
     ·
      have C9 := Globe.inB_t.1 Bi;refine pS (sc 78 #[iv f.wi, iv 0, iv 1000000] ((order_in_r (r := true) f.wi 0 1000000 _ (Bi)).mono ?_));rintro e Dr ⟨rfl, hb⟩;replace hE := hE.trans hb;have Cx := hb.size;refine ⟨_, rfl, pT (.bool true) ?_⟩;refine zn (cK [2] (fun L => ?_));refine cw_ret (qw_block_ret (qw_then_ret (qw_ret [.bool true] rfl ⟨(by kernel_rfl), trivial⟩ ?_)));exact ⟨rb (show Gol.limB f = true by simp [Gol.limB, Bi, Bo]).symm, hE⟩
     ·
      refine pS (sc 78 #[iv f.wi, iv 0, iv 1000000] ((order_in_r (r := false) f.wi 0 1000000 _ (Bi)).mono ?_));rintro e Dt ⟨rfl, hb⟩;replace hE := hE.trans hb;have Cy := hb.size;refine ⟨_, rfl, pT (.bool false) ?_⟩;refine zn (cK [2] (fun L => ?_));refine cw_ret (qw_block_ret (qw_then_ret (qw_ret [.bool false] rfl ⟨(by kernel_rfl), trivial⟩ ?_)));exact ⟨rb (show Gol.limB f = false by simp [Gol.limB, Bi, Bo]).symm, hE⟩
    ·
     refine pU (.bool false) (eN (f.k : Int) (4 : Int) (Bo)) ?_;refine pT (.bool false) ?_;refine zn (zf ?_);refine cw_skip (qw_block (zq (zc (zp (pT (.bool true) ?_)))));refine zn (cw_ret (qw_ret [.bool true] rfl ⟨(by kernel_rfl), trivial⟩ ?_));exact ⟨rb (show Gol.limB f = true by simp [Gol.limB, B3, B1, B2, Bo]).symm, hE⟩
end Go.Proofs.YtpfajhcdfgpgmaaDoor

namespace Go.Proofs.YtpfajhcdfgpgmaaDoor
set_option maxRecDepth 1000000
set_option maxHeartbeats 4000000
set_option synthInstance.maxHeartbeats 0
set_option synthInstance.maxSize 9999
open Go.RowKit
structure BS (Y : Nat → Prop) (B K : Nat) (v : Value) (w : World) (v' : Value) (w' : World) : Prop where
 wr : Wr (fun k => BX B K v k ∨ Y k) w w'
 nw : ∀ k, v'.ownBlock = some k → v.ownBlock = some k ∨ w.heap.size ≤ k
abbrev No : Nat → Prop := fun _ => False
section
variable {Y : Nat → Prop} {B K : Nat} {v v' v'' : Value} {w w' w'' w0 X : World}
theorem BS.refl (Y : Nat → Prop) (B K : Nat) (v : Value) (w : World) : BS Y B K v w v w := ⟨Wr.refl _ _, fun _ h => .inl h⟩
theorem BS.trans (h : BS Y B K v w v' w') (k : BS Y B K v' w' v'' w'') : BS Y B K v w v'' w'' :=
 ⟨h.wr.wr k.wr fun i q => q.elim (fun q => (bx_new h.nw i q).imp .inl id) fun q => .inl (.inr q), fun i hi => (k.nw i hi).elim (h.nw i) fun z => .inr (Tq h.wr.size z)⟩
theorem BS.ext (h : BS Y B K v w v' w') (e : Ext w' w'') : BS Y B K v w v' w'' := ⟨h.wr.step e, h.nw⟩
theorem BS.of_ext (e : Ext w w') : BS Y B K v w v w' := (BS.refl Y B K v w).ext e
theorem BS.pre (e : Ext w0 w) (h : BS Y B K v w v' w') : BS Y B K v w0 v' w' := (BS.of_ext e).trans h
theorem BS.mono {Z : Nat → Prop} (h : BS Y B K v w v' w') (hy : ∀ k, Y k → Z k ∨ w.heap.size ≤ k) : BS Z B K v w v' w' := ⟨(Wr.refl _ _).wr h.wr fun k q => q.elim (fun q => .inl (.inl q)) fun q => (hy k q).imp .inr id, h.nw⟩
theorem BS.no (h : BS No B K v w v' w') : BS Y B K v w v' w' := h.mono fun _ q => q.elim
theorem BS.turn {O : Nat} (h : BS Y B K v w v' w') (t : Turns O w' X) (hO : Y O ∨ w.heap.size ≤ O) : BS Y B K v w v' X := ⟨h.wr.turn t (hO.imp .inr id), h.nw⟩
theorem BS.turnM {O : Nat} (h : BS Y B K v w v' w') (t : TurnsM O w' X) (hO : Y O ∨ w.heap.size ≤ O) : BS Y B K v w v' X := ⟨h.wr.turnM t (hO.imp .inr id), h.nw⟩
theorem BS.app {r : Option Nat} (h : BS Y B K v w v' w') (g : w'.grownBy X r) (hr : ∀ k, r = some k → Y k ∨ w.heap.size ≤ k) : BS Y B K v w v' X := ⟨h.wr.app g fun k q => (hr k q).imp .inr id, h.nw⟩
theorem BS.nx {b : Nat} (h : BS Y B K v w v' w') (hb : ¬ BX B K v b) (hl : b < w.heap.size) : ¬ BX B K v' b := bx_step h.nw hb hl
end
theorem Bld.own_B {w : World} {n₀ B K n : Nat} {v : Value} {T : List Bdd.D} (h : Bld w n₀ B K n v T) : B ≠ K := fun e => by
 subst e
 obtain ⟨L, ⟨es, c, q⟩, _⟩ := h.map
 obtain ⟨o, ho, hc⟩ := cells_of_cell h.b0.1
 rw [q.at_] at ho
 cases ho
 cases hc
theorem Bld.own_K {w : World} {n₀ B K n : Nat} {v : Value} {T : List Bdd.D} (h : Bld w n₀ B K n v T) : v.ownBlock ≠ some K := fun e => by
  obtain ⟨L, ⟨es, c, q⟩, _⟩ := h.map
  obtain ⟨cs, h1, h2, h3, h4⟩ := h.own
  rcases h3.2 with ⟨rfl, _⟩ | ⟨g, cap, cur, rfl, hb, hcur, _⟩
  · cases e
  · cases e
    have := q.at_
    rw [hcur] at this
    cases this
theorem misIn_c (n lo hi : Int) (w : World) : Calls Tryd.prog 27 #[iv n, iv lo, iv hi] w fun e w' => e = .returned (.bool (Globe.inB n lo hi)) ∧ Ext w w' := by
 refine calls_cw 15 [(2, iv hi), (1, iv lo), (0, iv n)] Tryd.func27 rfl Tryd.ntmps27 (by kernel_rfl) (by kernel_rfl) (fun L => ?_);have hE := Ext.refl w;refine zc (zp (pT (.bool false) ?_));refine zn (zc (zp (pD (iv lo) (iv n) ?_)))
 by_cases hc1 : (lo : Int) ≤ (n : Int)
 ·
  refine pU (.bool true) (ed ((lo : Int) ≤ (n : Int)) (hc1)) ?_;refine pD (.bool true) (iv n) ?_;refine pT (iv hi) ?_
  by_cases hc2 : (n : Int) ≤ (hi : Int)
  ·
   refine pU (.bool true) (ed ((n : Int) ≤ (hi : Int)) (hc2)) ?_;refine pD (.bool true) (.bool true) ?_;refine zn (cw_ret (qw_ret [.bool true] rfl ⟨(by kernel_rfl), trivial⟩ ?_));exact ⟨rb (show Globe.inB n lo hi = true by unfold Globe.inB; simp [hc1, hc2]).symm, hE⟩
  ·
   refine pU (.bool false) (en ((n : Int) ≤ (hi : Int)) (hc2)) ?_;refine pD (.bool false) (.bool false) ?_;refine zn (cw_ret (qw_ret [.bool false] rfl ⟨(by kernel_rfl), trivial⟩ ?_));exact ⟨rb (show Globe.inB n lo hi = false by unfold Globe.inB; simp [hc1, hc2]).symm, hE⟩
 ·
  refine pU (.bool false) (en ((lo : Int) ≤ (n : Int)) (hc1)) ?_;refine pT (.bool false) ?_;refine pK ?_;refine pK ?_;refine pK ?_;refine pD (.bool false) (.bool false) ?_;refine zn (cw_ret (qw_ret [.bool false] rfl ⟨(by kernel_rfl), trivial⟩ ?_));exact ⟨rb (show Globe.inB n lo hi = false by unfold Globe.inB; simp [hc1]).symm, hE⟩
theorem misIn_r (n lo hi : Int) {r : Bool} (w : World) (hr : Globe.inB n lo hi = r) : Calls Tryd.prog 27 #[.int .i64 n, .int .i64 lo, .int .i64 hi] w fun e w' => e = .returned (.bool r) ∧ Ext w w' := hr ▸ misIn_c n lo hi w
theorem begin_c (n : Nat) (w : World) : Calls Tryd.prog 37 #[iv n] w fun e w' => ∃ B K, e = .returned (pw B 0) ∧ Bld w' w.heap.size B K n (.slice none 0 0) [] ∧ Ext w w' := by
 refine calls_cw 7 [(0, iv n)] Tryd.func37 rfl Tryd.ntmps37 (by kernel_rfl) (by kernel_rfl) (fun L => ?_);have hE := Ext.refl w;refine zc (zp (pT (.pointer none) ?_));refine zn (zc (zp (pT (iv n) ?_)));refine pS (sn_map Nod.val intV (by kernel_rfl) ?_);intro O1 X2 hO hOs hb hm3;have hzO1 := hO;have hyO1 := hOs;clear hO hOs;replace hE := hE.trans hb;have hs4 := hb.size;have lt5 := hm3.lt;refine pT (.agg #[iv n, .slice none 0 0, .map (some O1)]) ?_;refine pS (sw 107 #[iv n, .slice none 0 0, .map (some O1)] ?_);intro O6 X7 hzO6 hyO6 hb hbx;have ⟨bO6_0, bO6_1, bO6_2⟩ := bq3 hbx;refine mv2 hb hE hm3 fun hE hm3=>?_;have hs8 := hb.size;have lt9 := bO6_0.lt;refine pT (pw O6 0) ?_;refine zn (cw_ret (qw_ret [pw O6 0] rfl ⟨(by kernel_rfl), trivial⟩ ?_));exact ⟨O6, O1, rfl, ⟨bO6_0, bO6_1, bO6_2, OwnL.nil _ _ _ _ _, ⟨[], hm3, Known.nil⟩, Bdd.Cl.nil n, (fun h => by cases h), (Tq hs4 (Nat.le_of_eq hzO6)), (Nat.le_of_eq hzO1)⟩, hE⟩
instance {w w' : World} {n₀ B K n : Nat} {v : Value} {T : List Bdd.D} : MvC w w' (Bld w n₀ B K n v T) (Bld w' n₀ B K n v T) := ⟨fun e h => h.ext e⟩
instance {Y : Nat → Prop} {B K : Nat} {v v' : Value} {U w w' : World} : MvC w w' (BS Y B K v U v' w) (BS Y B K v U v' w') := ⟨fun e h => h.ext e⟩
end Go.Proofs.YtpfajhcdfgpgmaaDoor

namespace Go.Proofs.YtpfajhcdfgpgmaaDoor
set_option maxRecDepth 1000000
set_option maxHeartbeats 4000000
set_option synthInstance.maxHeartbeats 0
set_option synthInstance.maxSize 9999
open Go.RowKit
def Tz28_0 : List Row := [(some 21, [0], []), (some 22, [21], [0]), (some 23, [22], [1]), (some 24, [23], [2]), (some 25, [9], []), (some 26, [24, 25], [3, 4]), (some 20, [26], [5]), (some 27, [20], [6]), (some 28, [20], [6]), (some 10, [27], [7, 0, 1, 2, 3, 4, 5, 6, 7]), (some 11, [28], [8, 9, 0, 1, 2, 3, 4, 5, 6, 7, 8, 9])]
def Tz28_1 : List Row := [(some 36, [0], []), (some 37, [0], []), (some 38, [37], [1]), (some 39, [38], [2]), (some 40, [39], [3]), (some 41, [9], []), (some 42, [41], [5]), (some 43, [40, 42], [4, 6]), (some 44, [36], [0, 0, 1, 2, 3, 4, 5, 6, 7]), (some 45, [44], [8, 0, 1, 2, 3, 4, 5, 6, 7]), (none, [45, 43], [9, 7, 7, 0, 1, 2, 3, 4, 5, 6, 7])]
def Tz28_2 : List Row := [(some 46, [0], []), (some 47, [46], [0]), (some 48, [47], [1]), (some 49, [48], [2]), (some 50, [9], []), (some 51, [10], []), (none, [49, 50, 51], [3, 4, 5, 0, 1, 2, 3, 4, 5])]
theorem Bld.sl {w : World} {n₀ B K n : Nat} {v : Value} {T : List Bdd.D} (h : Bld w n₀ B K n v T) : ∃ a c, v = .slice a T.length c ∧ T.length ≤ c ∧ (0 < T.length → ∃ g, a = some ⟨g, 0, none⟩ ∧ ∀ i x, (Bdd.rows T)[i]? = some x → w.cell? ⟨g, i * 3, none⟩ = some (.int .i64 x.1) ∧ w.cell? ⟨g, i * 3 + 1, none⟩ = some (.int .i64 x.2.1) ∧ w.cell? ⟨g, i * 3 + 2, none⟩ = some (.int .i64 x.2.2)) := by
  obtain ⟨cs, h1, h2, h3, h4⟩ := h.own
  have hl := Bdd.rows_len T
  rcases h3.2 with ⟨q, q2⟩ | ⟨g, cap, cur, q, hb, hcur, hc, rest⟩
  · refine ⟨none, 0, by rw [q]; congr 1; omega, by omega, fun h0 => by omega⟩
  · refine ⟨_, cap, by rw [q]; congr 1, by omega, fun h0 => ⟨g, rfl, fun i x hx => ?_⟩⟩
    have hi := (List.getElem?_eq_some_iff.1 hx).1
    have hc2 := List.getElem?_eq_getElem (l := cs) (i := i) (by omega)
    obtain ⟨F, ⟨e1, _⟩, _⟩ := h4 i _ _ hx hc2
    subst q
    have f0 := flatten_get h2 i hc2 0 (by omega); have f1 := flatten_get h2 i hc2 1 (by omega); have f2 := flatten_get h2 i hc2 2 (by omega)
    rw [e1] at f0 f1 f2
    have z0 := h3.cellAt (i * 3) (by omega); have z1 := h3.cellAt (i * 3 + 1) (by omega); have z2 := h3.cellAt (i * 3 + 2) (by omega)
    exact ⟨by rw [z0]; exact f0, by rw [z1]; exact f1, by rw [z2]; exact f2⟩
theorem Bdd.mk_self {e : Nat} {a : Bdd.D} : Bdd.mk e a a = a := if_pos rfl
theorem Bdd.mk_nd {e : Nat} {a b : Bdd.D} (h : a ≠ b) : Bdd.mk e a b = .nd e a b := if_neg h
theorem Bdd.row_mem {n : Nat} {T : List Bdd.D} (h : Bdd.Cl n T) {e : Nat} {a b : Bdd.D} (ma : Bdd.Mem T a) (mb : Bdd.Mem T b) : (((e : Nat) : Int), Bdd.ix T a, Bdd.ix T b) ∈ Bdd.rows T ↔ Bdd.D.nd e a b ∈ T := by
  constructor
  · intro q
    obtain ⟨t, ht, e1⟩ := List.mem_map.1 q
    exact Bdd.row_inj h ht rfl ma mb e1 ▸ ht
  · intro q; exact List.mem_map.2 ⟨_, q, rfl⟩
theorem Bdd.known_yes {_n : Nat} {T : List Bdd.D} {L : List (Nod × Int)} (hk : Known L (Bdd.rows T)) {e : Nat} {a b : Bdd.D} (hm : Bdd.D.nd e a b ∈ T) : getM (((e : Nat) : Int), Bdd.ix T a, Bdd.ix T b) L = some (Bdd.ix T (.nd e a b)) := by
 obtain ⟨i, h1, h2, h3⟩ := Bdd.ix_nd (T := T) (e := e) (a := a) (b := b) hm
 exact (hk _ _).2 ⟨i, by unfold Bdd.rows; rw [List.getElem?_map, h3]; rfl, h1⟩
theorem Bdd.known_no {n : Nat} {T : List Bdd.D} (h : Bdd.Cl n T) {L : List (Nod × Int)} (hk : Known L (Bdd.rows T)) {e : Nat} {a b : Bdd.D} (ma : Bdd.Mem T a) (mb : Bdd.Mem T b) (hm : ¬ Bdd.D.nd e a b ∈ T) : getM (((e : Nat) : Int), Bdd.ix T a, Bdd.ix T b) L = none := by
 cases q : getM (((e : Nat) : Int), Bdd.ix T a, Bdd.ix T b) L with
 | none => rfl
 | some i =>
  obtain ⟨k, h1, _⟩ := (hk _ _).1 q
  exact absurd ((Bdd.row_mem h ma mb).1 (List.mem_of_getElem? h1)) hm
theorem Bdd.ix_new {T : List Bdd.D} {e : Nat} {a b : Bdd.D} (h : ¬ Bdd.D.nd e a b ∈ T) : Bdd.ix (T ++ [.nd e a b]) (.nd e a b) = ((T.length : Nat) : Int) := by
 show ((List.idxOf _ _ : Nat) : Int) = _
 rw [List.idxOf_append, if_neg h]; simp
theorem node_c {n0 B K n : Nat} {v : Value} {T : List Bdd.D} {e : Nat} {a b : Bdd.D} (w : World) (hB : Bld w n0 B K n v T) (he : e < n) (ha : Bdd.OK (e + 1) n a) (hb : Bdd.OK (e + 1) n b) (ma : Bdd.Mem T a) (mb : Bdd.Mem T b) (hT : T.length ≤ 1000000000000) (_hn : n ≤ 16) : Calls Tryd.prog 59 #[pw B 0, iv e, iv (Bdd.ix T a), iv (Bdd.ix T b)] w fun r w' => ∃ v', r = .returned (iv (Bdd.ix (Bdd.add T (Bdd.mk e a b)) (Bdd.mk e a b))) ∧ BS No B K v w v' w' ∧ Bld w' n0 B K n v' (Bdd.add T (Bdd.mk e a b)) := by
 obtain ⟨sa, sc, rfl, hsc, _⟩ := hB.sl;obtain ⟨Lm, hM, hLm⟩ := hB.map;have hBK := hB.own_B;have hBl := hB.b0.lt;have hKl := hM.lt;have hix := Bdd.ix_rng ma;have hiy := Bdd.ix_rng mb;have Bf : Wr (BX B K (.slice sa T.length sc)) w w := Wr.refl _ _;have Bg := hB.b0;have B7 := hB.b1;have B6 := hB.b2;have hO := hB.own;have hOk := hO.lt;refine calls_cw 53 [(3, iv (Bdd.ix T b : Int)), (2, iv (Bdd.ix T a : Int)), (1, iv e), (0, pw B 0)] Tryd.func59 rfl Tryd.ntmps59 (by kernel_rfl) (by kernel_rfl) (fun L => ?_);have hE := Ext.refl w;refine zc (zp (pT (iv 0) ?_));refine zn (zc (zp (pD (iv e) (iv (Bdd.ix T a : Int)) ?_)));refine pD (iv (Bdd.ix T b : Int)) (.agg #[iv e, iv (Bdd.ix T a : Int), iv (Bdd.ix T b : Int)]) ?_;refine pS (sw 61 #[iv 0, iv 0, iv 0] ?_);intro O1 X2 Bj Dd hb hbx;have ⟨B0, B1, B2⟩ := bq3 hbx;clear hbx;replace Bf := Bf.step hb;refine mv5 hb Bg B7 B6 hM hO fun Bg B7 B6 hM hO=>?_;have Bw := hb.size;clear hb;have Dk := B0.lt;refine pP (sn_setK3 (O := O1) (j := 0) (v0 := iv e) (v1 := iv (Bdd.ix T a : Int)) (v2 := iv (Bdd.ix T b : Int)) (xt (pw O1 0) (.agg #[iv e, iv (Bdd.ix T a : Int), iv (Bdd.ix T b : Int)]) (st61 B0.1 B0.2 B1.1 B1.2 B2.1 B2.2)) B0 B1 B2 ?_);intro X5 ho B0 B1 B2 hk;replace Bf := Bf.turn ho (.inr (Nat.le_of_eq Bj));replace Bg := ho.box (by omega) Bg;replace B7 := ho.box (by omega) B7;replace B6 := ho.box (by omega) B6;replace hM := hM.block (ho.heap' _ (by omega));replace hO := hO.turn ho (own_not2 hOk (Nat.le_of_eq Bj)) (fun _ _ _ h => by rw [h.2]; exact fun b hb => by cases hb);have Bx := Nat.le_of_eq ho.size.symm;clear ho hk;refine zn (zc (zc (zp (pD (iv (Bdd.ix T a : Int)) (iv (Bdd.ix T b : Int)) ?_))))
 by_cases Ce : (Bdd.ix T a : Int) = (Bdd.ix T b : Int)
 ·
  refine pU (.bool true) (eE (Bdd.ix T a : Int) (Bdd.ix T b : Int) (Ce)) ?_;refine zn (zt ?_);refine zc (zp (pD (iv (Bdd.ix T a : Int)) (iv (Bdd.ix T a : Int)) ?_));refine zn (cw_ret (qw_then_ret (qw_ret [iv (Bdd.ix T a : Int)] rfl ⟨(by kernel_rfl), trivial⟩ ?_)));obtain rfl := Bdd.ix_inj ma mb Ce;rw [Bdd.mk_self, Bdd.add_of ma];exact ⟨_, rfl, ⟨Bf.mono fun _ q => .inl q, fun k q => .inl q⟩, ⟨Bg, B7, B6, hO, ⟨Lm, hM, hLm⟩, hB.cl, hB.nv, hB.lb, hB.lk⟩⟩
 ·
  refine pU (.bool false) (eN (Bdd.ix T a : Int) (Bdd.ix T b : Int) (Ce)) ?_;refine zn (zf ?_);refine cw_skip (zq (cw_seq ?_));have hab : a ≠ b := fun q => by subst q;exact Ce rfl
  by_cases hm : Bdd.D.nd e a b ∈ T
  ·
   refine dE Tz28_0 (fun w' => w'.cell? ⟨B, 2, none⟩ = some (.map (some K)) ∧ w'.cell? ⟨O1, 0, none⟩ = some (iv e) ∧ w'.cell? ⟨O1, 1, none⟩ = some (iv (Bdd.ix T a : Int)) ∧ w'.cell? ⟨O1, 2, none⟩ = some (iv (Bdd.ix T b : Int))) (⟨B6.1, B0.1, B1.1, B2.1⟩) (fun ops Q X8 hb hL hR hK => ?_);replace Bf := Bf.step hb;refine mv7 hb Bg B7 B6 hM hO B0 B1 fun Bg B7 B6 hM hO B0 B1=>?_;replace B2 := B2.x hb;have Dj := hb.size;clear hb;have hS := A4 B6.1 B0.1 B1.1 B2.1;refine wW 0 (pw B 0) 1 (pw B 0) hR hS ?_;refine wV 2 (pw B 2) hR hS ?_;refine wM 3 (.map (some K)) hR (fun w hS => ld105 (hS.1)) hS ?_;refine wM 4 (.agg #[iv e, iv (Bdd.ix T a : Int), iv (Bdd.ix T b : Int)]) hR (fun w hS => ld61 (hS.2.1) (hS.2.2.1) (hS.2.2.2)) hS ?_;refine wS 5 hR (sn_eff (v := .tuple #[iv (Bdd.ix T (.nd e a b) : Int), .bool true]) (w' := X8) (ex_lookup rfl (by kernel_rfl) (by kernel_rfl) (lookup_is2 (run_lookup2 Tryd.underlying105 hM nod_law (((e : Nat) : Int), Bdd.ix T a, Bdd.ix T b) (zero_int _)) (Bdd.known_yes (_n := n) hLm hm))) ⟨⟨B6.1, B0.1, B1.1, B2.1⟩, ?_⟩);have hS := A4 B6.1 B0.1 B1.1 B2.1;refine wW 6 (.tuple #[iv (Bdd.ix T (.nd e a b) : Int), .bool true]) 7 (iv (Bdd.ix T (.nd e a b) : Int)) hR hS ?_;refine wW 8 (.bool true) 9 (iv (Bdd.ix T (.nd e a b) : Int)) hR hS ?_;refine wV 10 (.bool true) hR hS ?_;refine we hL hR hK ?_;refine zq (cK [0,9,10,11] (fun L => ?_));refine zc (zc (zp (pD (.bool true) (.bool false) ?_)));refine zn (zf ?_);refine cw_skip (zq (zc (zp (pD (iv (Bdd.ix T (.nd e a b) : Int)) (iv (Bdd.ix T (.nd e a b) : Int)) ?_))));refine zn (cw_ret (qw_ret [iv (Bdd.ix T (.nd e a b) : Int)] rfl ⟨(by kernel_rfl), trivial⟩ ?_));rw [Bdd.mk_nd hab, Bdd.add_of (t := .nd e a b) hm];exact ⟨_, rfl, ⟨Bf.mono fun _ q => .inl q, fun k q => .inl q⟩, ⟨Bg, B7, B6, hO, ⟨Lm, hM, hLm⟩, hB.cl, hB.nv, hB.lb, hB.lk⟩⟩
  ·
   refine dE Tz28_0 (fun w' => w'.cell? ⟨B, 2, none⟩ = some (.map (some K)) ∧ w'.cell? ⟨O1, 0, none⟩ = some (iv e) ∧ w'.cell? ⟨O1, 1, none⟩ = some (iv (Bdd.ix T a : Int)) ∧ w'.cell? ⟨O1, 2, none⟩ = some (iv (Bdd.ix T b : Int))) (⟨B6.1, B0.1, B1.1, B2.1⟩) (fun ops Q Cg hb hL hR hK => ?_);replace Bf := Bf.step hb;refine mv7 hb Bg B7 B6 hM hO B0 B1 fun Bg B7 B6 hM hO B0 B1=>?_;replace B2 := B2.x hb;have Bm := hb.size;clear hb;have hS := A4 B6.1 B0.1 B1.1 B2.1;refine wW 0 (pw B 0) 1 (pw B 0) hR hS ?_;refine wV 2 (pw B 2) hR hS ?_;refine wM 3 (.map (some K)) hR (fun w hS => ld105 (hS.1)) hS ?_;refine wM 4 (.agg #[iv e, iv (Bdd.ix T a : Int), iv (Bdd.ix T b : Int)]) hR (fun w hS => ld61 (hS.2.1) (hS.2.2.1) (hS.2.2.2)) hS ?_;refine wS 5 hR (sn_eff (v := .tuple #[iv 0, .bool false]) (w' := Cg) (ex_lookup rfl (by kernel_rfl) (by kernel_rfl) (lookup_is2 (run_lookup2 Tryd.underlying105 hM nod_law (((e : Nat) : Int), Bdd.ix T a, Bdd.ix T b) (zero_int _)) (Bdd.known_no hB.cl hLm ma mb hm))) ⟨⟨B6.1, B0.1, B1.1, B2.1⟩, ?_⟩);have hS := A4 B6.1 B0.1 B1.1 B2.1;refine wW 6 (.tuple #[iv 0, .bool false]) 7 (iv 0) hR hS ?_;refine wW 8 (.bool false) 9 (iv 0) hR hS ?_;refine wV 10 (.bool false) hR hS ?_;refine we hL hR hK ?_;refine zq (cK [0,9,10,11] (fun L => ?_));refine zc (zc (zp (pD (.bool false) (.bool true) ?_)));refine zn (zt ?_);refine zc (zp (pD (pw B 0) (pw B 0) ?_));refine pT (pw B 1) ?_;refine pU (.slice sa T.length sc) (xl (ld24 (B7.1))) ?_;refine pD (iv ((T.length : Nat) : Int)) (iv ((T.length : Nat) : Int)) ?_;refine zn (zc (cw_join (fun ws' Y => ∃ Bz Bv B8 : Nat, ws' = [(0, pw B 0), (9, pw O1 0), (10, iv ((T.length : Nat) : Int))] ∧ Wr (BX B K (.slice sa T.length sc)) w Y ∧ BoxAt Y B 0 (iv n) ∧ BoxAt Y B 2 (.map (some K)) ∧ MapS Nod.val intV Y K Lm ∧ BoxAt Y O1 0 (iv e) ∧ BoxAt Y O1 1 (iv (Bdd.ix T a : Int)) ∧ BoxAt Y O1 2 (iv (Bdd.ix T b : Int)) ∧ BoxAt Y Bz 0 (iv e) ∧ BoxAt Y Bz 1 (iv (Bdd.ix T a : Int)) ∧ BoxAt Y Bz 2 (iv (Bdd.ix T b : Int)) ∧ OwnL nodR n0 61 3 (sv Bv 0 (T.length + 1) B8) Y ((Bdd.rows T) ++ [(((e : Nat) : Int), Bdd.ix T a, Bdd.ix T b)]) ∧ (∀ k, (Value.slice (some ⟨Bv, 0, none⟩) (T.length + 1) B8).ownBlock = some k → (Value.slice sa T.length sc).ownBlock = some k ∨ w.heap.size ≤ k) ∧ (Value.slice (some ⟨Bv, 0, none⟩) (T.length + 1) B8).ownBlock ≠ some B ∧ BoxAt Y B 1 (sv Bv 0 (T.length + 1) B8) ∧ Cg.heap.size ≤ Y.heap.size ∧ Cg.heap.size ≤ Bz) (fun hJ => ?_) ?_))
   ·
    refine dE Tz28_1 (fun w' => w'.cell? ⟨O1, 0, none⟩ = some (iv e) ∧ w'.cell? ⟨O1, 1, none⟩ = some (iv (Bdd.ix T a : Int)) ∧ w'.cell? ⟨O1, 2, none⟩ = some (iv (Bdd.ix T b : Int))) (⟨B0.1, B1.1, B2.1⟩) (fun ops Q Cz hb hL hR hK => ?_);replace Bf := Bf.step hb;refine mv7 hb Bg B7 B6 hM hO B0 B1 fun Bg B7 B6 hM hO B0 B1=>?_;replace B2 := B2.x hb;have Bh := hb.size;clear hb;have hS := A3 B0.1 B1.1 B2.1;refine wW 0 (pw B 0) 1 (pw B 0) hR hS ?_;refine wW 2 (pw B 0) 3 (pw B 1) hR hS ?_;refine wM 5 (.agg #[iv e, iv (Bdd.ix T a : Int), iv (Bdd.ix T b : Int)]) hR (fun w hS => ld61 (hS.1) (hS.2.1) (hS.2.2)) hS ?_;refine zw 4 6 hR ?_ ?_
    ·
     refine sn_eff (v := .slice sa T.length sc) (w' := Cz) (xl (ld24 (B7.1))) ⟨⟨B0.1, B1.1, B2.1⟩, ?_⟩;refine wS 6 hR (sn_newS (us := #[iv e, iv (Bdd.ix T a : Int), iv (Bdd.ix T b : Int)]) (t := 61) (k := 1) (c := 1) (by kernel_rfl) ?_);intro Bz Di Br Cv hb hbx;have ⟨B3, B4, B5⟩ := bq3 hbx;clear hbx;replace Bf := Bf.step hb;refine mv7 hb Bg B7 B6 hM hO B0 B1 fun Bg B7 B6 hM hO B0 B1=>?_;replace B2 := B2.x hb;have C7 := hb.size;clear hb;have De := B3.lt;refine ⟨⟨B0.1, B1.1, B2.1⟩, ?_⟩;have Cr := hO.base;obtain ⟨Bv, B8, Cx, C5, Ba, C9, Bc, Cc⟩ := own_app1h (P := Tryd.prog) (ty := 24) nodT (hO) (Tq (Tq hB.lb (Nat.le_of_lt hBl)) (Tq Bw (Tq Bx (Tq Bm (Tq Bh C7))))) (k := T.length) (Bdd.rows_len T) (O := Bz) (c := 1) (x := (((e : Nat) : Int), Bdd.ix T a, Bdd.ix T b)) (d := [iv e, iv (Bdd.ix T a : Int), iv (Bdd.ix T b : Int)]) (F := []) rfl (cells3 (B3.1) (B4.1) (B5.1)) (by simp [Value.oneCell']) ⟨rfl, rfl⟩ (fun b hb => by cases hb) (by omega) (by omega);refine wS 7 hR (sn_eff (v := sv Bv 0 (T.length + 1) B8) (w' := Cx) (ex_append rfl (by kernel_rfl) (by kernel_rfl) C5) ?_);replace Bf := Bf.app Bc (fun k hk => .inl (.inr (.inr hk)));replace Bg := BoxAt.grownR Bg Bc hB.nv;replace B7 := BoxAt.grownR B7 Bc hB.nv;replace B6 := BoxAt.grownR B6 Bc hB.nv;replace hM := hM.grownM Bc (fun e => hB.own_K e.symm);replace B0 := BoxAt.grownR B0 Bc (own_not2 hOk (Nat.le_of_eq Bj));replace B1 := BoxAt.grownR B1 Bc (own_not2 hOk (Nat.le_of_eq Bj));replace B2 := BoxAt.grownR B2 Bc (own_not2 hOk (Nat.le_of_eq Bj));replace B3 := BoxAt.grownR B3 Bc (own_not2 hOk (by omega));replace B4 := BoxAt.grownR B4 Bc (own_not2 hOk (by omega));replace B5 := BoxAt.grownR B5 Bc (own_not2 hOk (by omega));have Ci := C9.size;refine ⟨⟨B0.1, B1.1, B2.1⟩, ?_⟩;have D7 := Ba.base Bv rfl;have D5 := Ba.lt Bv rfl;have Cp := Ba.lt;have hnw := app1_blk (v := .slice sa T.length sc) (k := T.length + 1) (c := B8) Cc;have Bu := fun k q => (hnw k q).imp id (Tq (Tq Bw (Tq Bx (Tq Bm (Tq Bh C7)))))
     have Bt : (Value.slice (some ⟨Bv, 0, none⟩) (T.length + 1) B8).ownBlock ≠ some B := fun q => (Bu B q).elim hB.nv fun z => absurd hBl (Nat.not_lt_of_le z)
     have hS := A3 B0.1 B1.1 B2.1;refine wW 8 (pw B 0) 9 (pw B 1) hR hS ?_;refine wS 10 hR (sn_set (O := B) (j := 1) (v := sv Bv 0 (T.length + 1) B8) (ex_store (p := pw B 1) (v := sv Bv 0 (T.length + 1) B8) rfl (by kernel_rfl) (by kernel_rfl) (st24 B7.1 B7.2)) B7 ?_);intro D0 ho B7 hk;replace Bf := Bf.turn ho (.inl (.inl rfl));replace Bg := hk 0 _ (by omega) Bg;replace B6 := hk 2 _ (by omega) B6;replace hM := hM.block (ho.heap' _ (by show K ≠ B; omega));have q9 := ho.bx O1 (by omega);replace B0 := q9 B0;replace B1 := q9 B1;replace B2 := q9 B2;clear q9;have q9 := ho.bx Bz (by omega);replace B3 := q9 B3;replace B4 := q9 B4;replace B5 := q9 B5;clear q9;replace Ba := Ba.turn ho Bt (fun _ _ _ h => by rw [h.2]; exact fun b hb => by cases hb);have Cj := Nat.le_of_eq ho.size.symm;clear ho hk;refine ⟨⟨B0.1, B1.1, B2.1⟩, ?_⟩;refine we hL hR hK ?_;exact zl hJ [0, 9, 10] ⟨Bz, Bv, B8, rfl, Bf, Bg, B6, hM, B0, B1, B2, B3, B4, B5, Ba, Bu, Bt, B7, (Tq Bh (Tq C7 (Tq Ci Cj))), (Tq Bh (Nat.le_of_eq Br))⟩
    ·
     refine sn_newS (us := #[iv e, iv (Bdd.ix T a : Int), iv (Bdd.ix T b : Int)]) (t := 61) (k := 1) (c := 1) (by kernel_rfl) ?_;intro Cf D1 Bs Cw hb hbx;have ⟨Bi, Bk, Bl⟩ := bq3 hbx;clear hbx;replace Bf := Bf.step hb;refine mv7 hb Bg B7 B6 hM hO B0 B1 fun Bg B7 B6 hM hO B0 B1=>?_;replace B2 := B2.x hb;have C8 := hb.size;clear hb;have Df := Bi.lt;refine ⟨⟨B0.1, B1.1, B2.1⟩, ?_⟩;refine wS 4 hR (sn_eff (v := .slice sa T.length sc) (w' := D1) (ex_load rfl (by kernel_rfl) (ld24 (B7.1))) ⟨⟨B0.1, B1.1, B2.1⟩, ?_⟩);have Cs := hO.base;obtain ⟨C4, Bp, Cy, C6, Bq, Ca, Be, Cd⟩ := own_app1h (P := Tryd.prog) (ty := 24) nodT (hO) (Tq (Tq hB.lb (Nat.le_of_lt hBl)) (Tq Bw (Tq Bx (Tq Bm (Tq Bh C8))))) (k := T.length) (Bdd.rows_len T) (O := Cf) (c := 1) (x := (((e : Nat) : Int), Bdd.ix T a, Bdd.ix T b)) (d := [iv e, iv (Bdd.ix T a : Int), iv (Bdd.ix T b : Int)]) (F := []) rfl (cells3 (Bi.1) (Bk.1) (Bl.1)) (by simp [Value.oneCell']) ⟨rfl, rfl⟩ (fun b hb => by cases hb) (by omega) (by omega);refine wS 7 hR (sn_eff (v := sv C4 0 (T.length + 1) Bp) (w' := Cy) (ex_append rfl (by kernel_rfl) (by kernel_rfl) C6) ?_);replace Bf := Bf.app Be (fun k hk => .inl (.inr (.inr hk)));replace Bg := BoxAt.grownR Bg Be hB.nv;replace B7 := BoxAt.grownR B7 Be hB.nv;replace B6 := BoxAt.grownR B6 Be hB.nv;replace hM := hM.grownM Be (fun e => hB.own_K e.symm);replace B0 := BoxAt.grownR B0 Be (own_not2 hOk (Nat.le_of_eq Bj));replace B1 := BoxAt.grownR B1 Be (own_not2 hOk (Nat.le_of_eq Bj));replace B2 := BoxAt.grownR B2 Be (own_not2 hOk (Nat.le_of_eq Bj));replace Bi := BoxAt.grownR Bi Be (own_not2 hOk (by omega));replace Bk := BoxAt.grownR Bk Be (own_not2 hOk (by omega));replace Bl := BoxAt.grownR Bl Be (own_not2 hOk (by omega));have Ck := Ca.size;refine ⟨⟨B0.1, B1.1, B2.1⟩, ?_⟩;have D8 := Bq.base C4 rfl;have D6 := Bq.lt C4 rfl;have Cq := Bq.lt;have hnw := app1_blk (v := .slice sa T.length sc) (k := T.length + 1) (c := Bp) Cd;have C2 := fun k q => (hnw k q).imp id (Tq (Tq Bw (Tq Bx (Tq Bm (Tq Bh C8)))))
     have C1 : (Value.slice (some ⟨C4, 0, none⟩) (T.length + 1) Bp).ownBlock ≠ some B := fun q => (C2 B q).elim hB.nv fun z => absurd hBl (Nat.not_lt_of_le z)
     have hS := A3 B0.1 B1.1 B2.1;refine wW 8 (pw B 0) 9 (pw B 1) hR hS ?_;refine wS 10 hR (sn_set (O := B) (j := 1) (v := sv C4 0 (T.length + 1) Bp) (ex_store (p := pw B 1) (v := sv C4 0 (T.length + 1) Bp) rfl (by kernel_rfl) (by kernel_rfl) (st24 B7.1 B7.2)) B7 ?_);intro D2 ho B7 hk;replace Bf := Bf.turn ho (.inl (.inl rfl));replace Bg := hk 0 _ (by omega) Bg;replace B6 := hk 2 _ (by omega) B6;replace hM := hM.block (ho.heap' _ (by show K ≠ B; omega));have q9 := ho.bx O1 (by omega);replace B0 := q9 B0;replace B1 := q9 B1;replace B2 := q9 B2;clear q9;have q9 := ho.bx Cf (by omega);replace Bi := q9 Bi;replace Bk := q9 Bk;replace Bl := q9 Bl;clear q9;replace Bq := Bq.turn ho C1 (fun _ _ _ h => by rw [h.2]; exact fun b hb => by cases hb);have Cm := Nat.le_of_eq ho.size.symm;clear ho hk;refine ⟨⟨B0.1, B1.1, B2.1⟩, ?_⟩;refine we hL hR hK ?_;exact zl hJ [0, 9, 10] ⟨Cf, C4, Bp, rfl, Bf, Bg, B6, hM, B0, B1, B2, Bi, Bk, Bl, Bq, C2, C1, B7, (Tq Bh (Tq C8 (Tq Ck Cm))), (Tq Bh (Nat.le_of_eq Bs))⟩
   ·
    clear Bf Bg B7 B6 hM hO B0 B1 B2;rintro L ws Cn ⟨Bz, Bv, B8, rfl, Bf, Bg, B6, hM, B0, B1, B2, B3, B4, B5, Ba, Bu, Bt, B7, D9, Da⟩;have C0 := Ext.refl Cn;have Dg := B3.lt;refine zq (dE Tz28_2 (fun w' => w'.cell? ⟨B, 2, none⟩ = some (.map (some K)) ∧ w'.cell? ⟨O1, 0, none⟩ = some (iv e) ∧ w'.cell? ⟨O1, 1, none⟩ = some (iv (Bdd.ix T a : Int)) ∧ w'.cell? ⟨O1, 2, none⟩ = some (iv (Bdd.ix T b : Int))) (⟨B6.1, B0.1, B1.1, B2.1⟩) (fun ops Q D3 hb hL hR hK => ?_));replace C0 := C0.trans hb;replace Bf := Bf.step hb;refine mv9 hb Bg B6 B0 B1 B2 B3 B4 B5 Ba fun Bg B6 B0 B1 B2 B3 B4 B5 Ba=>?_;replace B7 := B7.x hb;have Db := hb.size;clear hb;have hS := A4 B6.1 B0.1 B1.1 B2.1;refine wW 0 (pw B 0) 1 (pw B 0) hR hS ?_;refine wV 2 (pw B 2) hR hS ?_;refine wM 3 (.map (some K)) hR (fun w hS => ld105 (hS.1)) hS ?_;refine wM 4 (.agg #[iv e, iv (Bdd.ix T a : Int), iv (Bdd.ix T b : Int)]) hR (fun w hS => ld61 (hS.2.1) (hS.2.2.1) (hS.2.2.2)) hS ?_;refine wV 5 (iv ((T.length : Nat) : Int)) hR hS ?_;obtain ⟨D4, Ch, Cb, Bo⟩ := run_update Tryd.underlying105 (hM.ext C0) nod_law (((e : Nat) : Int), Bdd.ix T a, Bdd.ix T b) ((T.length : Nat) : Int);refine wS 6 hR (sn_skp (ex_mapU rfl (by kernel_rfl) (by kernel_rfl) (by kernel_rfl) Ch) ?_);have Co := (hM.ext C0);replace Bf := Bf.turnM Bo (.inl (.inr (.inl rfl)));replace Bg := (Bo.mv0).box Bg;replace B6 := (Bo.mv0).box B6;replace B0 := (Bo.mv0).box B0;replace B1 := (Bo.mv0).box B1;replace B2 := (Bo.mv0).box B2;replace B3 := (Bo.mv0).box B3;replace B4 := (Bo.mv0).box B4;replace B5 := (Bo.mv0).box B5;replace Ba := (Bo.mv0).own Ba;replace B7 := (Bo.mv0).box B7;have Dc : D3.heap.size ≤ D4.heap.size := Nat.le_of_eq Bo.size.symm;have Dh := Cb.lt;refine ⟨⟨B6.1, B0.1, B1.1, B2.1⟩, ?_⟩;refine we hL hR hK ?_;refine zq (zc (zp (pD (iv ((T.length : Nat) : Int)) (iv ((T.length : Nat) : Int)) ?_)));refine zn (cw_ret (qw_ret [iv ((T.length : Nat) : Int)] rfl ⟨(by kernel_rfl), trivial⟩ ?_));have hrs := Bdd.rows_snoc hB.cl (e := e) ma mb;have hln : (T ++ [Bdd.D.nd e a b]).length = T.length + 1 := by simp
    rw [Bdd.mk_nd hab, show Bdd.add T (.nd e a b) = T ++ [.nd e a b] from if_neg hm, Bdd.ix_new hm];refine ⟨_, rfl, ⟨Bf.mono fun _ q => .inl q, Bu⟩, ?_⟩;exact ⟨Bg, B7, B6, (hrs ▸ Ba), ⟨_, Cb, (by have hz := hLm.snoc (x := (((e : Nat) : Int), Bdd.ix T a, Bdd.ix T b)) (fun q => hm ((Bdd.row_mem hB.cl ma mb).1 q)); rw [Bdd.rows_len] at hz; rw [hrs]; exact hz)⟩, (hB.cl.snoc ⟨Nat.zero_le _, he, hab, ha, hb⟩ ma mb hm), Bt, hB.lb, hB.lk⟩
end Go.Proofs.YtpfajhcdfgpgmaaDoor

namespace Go.Proofs.YtpfajhcdfgpgmaaDoor
namespace Bdd
def op (st x y : Bool) : Bool := if st then x || y else x && y
def ap (st : Bool) (n : Nat) (a b : D) : D := canon (fun s => op st (sem a s) (sem b s)) n n 0 fun _ => false
theorem mix0 (s t : Nat → Bool) : mix 0 s t = t := by funext i; simp [mix]
theorem ap_ok0 {st : Bool} {n : Nat} {a b : D} : OK 0 n (ap st n a b) := canon_ok (by omega)
theorem ap_sem {st : Bool} {n : Nat} {a b : D} (ha : OK 0 n a) (hb : OK 0 n b) (s : Nat → Bool) : sem (ap st n a b) s = op st (sem a s) (sem b s) := by
 unfold ap
 rw [canon_sem (fun s s' h => by rw [ha.congr fun i _ hi => h i hi, hb.congr fun i _ hi => h i hi]) (by omega), mix0]
theorem ap_is {st : Bool} {n k : Nat} {a b r : D} (ha : OK k n a) (hb : OK k n b) (hr : OK k n r) (h : ∀ s, sem r s = op st (sem a s) (sem b s)) : ap st n a b = r :=
 uniq ap_ok0 (hr.mono (Nat.zero_le _)) fun s => by rw [ap_sem (ha.mono (Nat.zero_le _)) (hb.mono (Nat.zero_le _)), h]
theorem ap_ok {st : Bool} {n k : Nat} {a b : D} (hk : k ≤ n) (ha : OK k n a) (hb : OK k n b) : OK k n (ap st n a b) := by
 have hc : OK k n (canon (fun s => op st (sem a s) (sem b s)) n (n - k) k fun _ => false) := canon_ok (by omega)
 rw [ap_is ha hb hc fun s => ?_]
 · exact hc
 · rw [canon_sem (fun s s' h => by rw [ha.congr fun i _ hi => h i hi, hb.congr fun i _ hi => h i hi]) (by omega), ha.congr (s := mix k (fun _ => false) s) (s' := s) fun i hi _ => if_neg (by omega), hb.congr (s := mix k (fun _ => false) s) (s' := s) fun i hi _ => if_neg (by omega)]
theorem ap_comm {st : Bool} {n : Nat} {a b : D} (ha : OK 0 n a) (hb : OK 0 n b) : ap st n a b = ap st n b a := ap_is ha hb ap_ok0 fun s => by
 rw [ap_sem hb ha]; cases st <;> simp [op, Bool.or_comm, Bool.and_comm]
theorem ap_self {st : Bool} {n : Nat} {a : D} (ha : OK 0 n a) : ap st n a a = a := ap_is ha ha ha fun s => by cases st <;> simp [op]
theorem ap_strong {st : Bool} {n : Nat} {b : D} (hb : OK 0 n b) : ap st n (.leaf st) b = .leaf st := ap_is (k := 0) trivial hb trivial fun s => by cases st <;> simp [op, sem]
theorem ap_weak {st : Bool} {n : Nat} {b : D} (hb : OK 0 n b) : ap st n (.leaf (!st)) b = b := ap_is (k := 0) trivial hb hb fun s => by cases st <;> simp [op, sem]
theorem ap_strong2 {st : Bool} {n : Nat} {b : D} (hb : OK 0 n b) : ap st n b (.leaf st) = .leaf st := (ap_comm (b := .leaf st) hb trivial).trans (ap_strong hb)
theorem ap_weak2 {st : Bool} {n : Nat} {b : D} (hb : OK 0 n b) : ap st n b (.leaf (!st)) = b := (ap_comm (b := .leaf (!st)) hb trivial).trans (ap_weak hb)
def ev (n : Nat) : D → Nat
 | .leaf _ => n
 | .nd e _ _ => e
def noD : D → D
 | .leaf b => .leaf b
 | .nd _ a _ => a
def yesD : D → D
 | .leaf b => .leaf b
 | .nd _ _ b => b
theorem ev_le {n k : Nat} : ∀ {a : D}, OK k n a → ev n a ≤ n
 | .leaf _, _ => Nat.le_refl _
 | .nd _ _ _, ⟨_, h, _⟩ => Nat.le_of_lt h
theorem ev_ge {n k : Nat} (hk : k ≤ n) : ∀ {a : D}, OK k n a → k ≤ ev n a
 | .leaf _, _ => hk
 | .nd _ _ _, ⟨h, _⟩ => h
theorem ev_ok {n k : Nat} : ∀ {a : D}, OK k n a → OK (ev n a) n a
 | .leaf _, _ => trivial
 | .nd _ _ _, ⟨_, h⟩ => ⟨Nat.le_refl _, h⟩
theorem noD_mem {T : List D} {n : Nat} (h : Cl n T) : ∀ {a : D}, Mem T a → Mem T (noD a)
 | .leaf _, _ => trivial
 | .nd _ _ _, q => (h.kids q).1
theorem yesD_mem {T : List D} {n : Nat} (h : Cl n T) : ∀ {a : D}, Mem T a → Mem T (yesD a)
 | .leaf _, _ => trivial
 | .nd _ _ _, q => (h.kids q).2
structure Cof (n e : Nat) (T : List D) (a a0 a1 : D) : Prop where
 k0 : OK (e + 1) n a0
 k1 : OK (e + 1) n a1
 m0 : Mem T a0
 m1 : Mem T a1
 sm : ∀ s, sem a s = if s e then sem a1 s else sem a0 s
theorem Cof.same {n k e : Nat} {T : List D} {a : D} (ha : OK k n a) (ma : Mem T a) (he : e < ev n a) : Cof n e T a a a :=
 ⟨(ev_ok ha).mono he, (ev_ok ha).mono he, ma, ma, fun s => by split <;> rfl⟩
theorem Cof.here {n k e : Nat} {T : List D} (hT : Cl n T) {a : D} (ha : OK k n a) (ma : Mem T a) (he : e = ev n a) (hn : e < n) : Cof n e T a (noD a) (yesD a) := by
 match a, ha, ma with
 | .leaf b, _, _ => simp only [ev] at he; omega
 | .nd f c d, ha, ma =>
  obtain ⟨h1, h2, h3, h4, h5⟩ := ha
  simp only [ev] at he
  subst he
  exact ⟨h4, h5, noD_mem hT ma, yesD_mem hT ma, fun s => rfl⟩
theorem Cof.app {n e : Nat} {T : List D} {a a0 a1 : D} (h : Cof n e T a a0 a1) (S : List D) : Cof n e (T ++ S) a a0 a1 := ⟨h.k0, h.k1, h.m0.app S, h.m1.app S, h.sm⟩
theorem ap_step {st : Bool} {n k e : Nat} {T : List D} {a b a0 a1 b0 b1 : D} (hk : k ≤ e) (he : e < n) (ha : OK k n a) (hb : OK k n b) (ca : Cof n e T a a0 a1) (cb : Cof n e T b b0 b1) : ap st n a b = mk e (ap st n a0 b0) (ap st n a1 b1) := by
 refine ap_is ha hb ((OK.mk he (ap_ok he ca.k0 cb.k0) (ap_ok he ca.k1 cb.k1)).mono hk) fun s => ?_
 rw [sem_mk, ca.sm, cb.sm, ap_sem (ca.k0.mono (Nat.zero_le _)) (cb.k0.mono (Nat.zero_le _)), ap_sem (ca.k1.mono (Nat.zero_le _)) (cb.k1.mono (Nat.zero_le _))]
 split <;> rfl
theorem subs_mk {e : Nat} {a b x : D} : x ∈ subs a ∨ x ∈ subs b → x ∈ subs (mk e a b) := fun h => by
 unfold mk
 split
 · rename_i q; subst q; exact h.elim id id
 · exact List.mem_cons_of_mem _ (List.mem_append.2 h)
def Sound (st : Bool) (n : Nat) (T : List D) (g : Int × Int → Option Int) : Prop := ∀ p q r, g (p, q) = some r → ∃ a b, Mem T a ∧ Mem T b ∧ p = ix T a ∧ q = ix T b ∧ Mem T (ap st n a b) ∧ r = ix T (ap st n a b)
theorem Sound.app {st : Bool} {n : Nat} {T : List D} {g : Int × Int → Option Int} (h : Sound st n T g) (S : List D) : Sound st n (T ++ S) g := fun p q r hg => by
 obtain ⟨a, b, h1, h2, h3, h4, h5, h6⟩ := h p q r hg
 exact ⟨a, b, h1.app S, h2.app S, by rw [ix_app h1, h3], by rw [ix_app h2, h4], h5.app S, by rw [ix_app h5, h6]⟩
theorem Sound.find {st : Bool} {n : Nat} {T : List D} {g : Int × Int → Option Int} (h : Sound st n T g) (hT : Cl n T) {a b : D} (ma : Mem T a) (mb : Mem T b) {r : Int} (hg : g (min (ix T a) (ix T b), max (ix T a) (ix T b)) = some r) : Mem T (ap st n a b) ∧ r = ix T (ap st n a b) := by
  obtain ⟨x, y, h1, h2, h3, h4, h5, h6⟩ := h _ _ _ hg
  rcases Int.le_total (ix T a) (ix T b) with q | q
  · rw [Int.min_eq_left q] at h3; rw [Int.max_eq_right q] at h4
    obtain rfl := ix_inj ma h1 h3
    obtain rfl := ix_inj mb h2 h4
    exact ⟨h5, h6⟩
  · rw [Int.min_eq_right q] at h3; rw [Int.max_eq_left q] at h4
    obtain rfl := ix_inj mb h1 h3
    obtain rfl := ix_inj ma h2 h4
    rw [ap_comm (hT.ok ma) (hT.ok mb)]
    exact ⟨h5, h6⟩
theorem Sound.put {st : Bool} {n : Nat} {T : List D} {g g' : Int × Int → Option Int} (h : Sound st n T g) (hT : Cl n T) {a b : D} (ma : Mem T a) (mb : Mem T b) (mr : Mem T (ap st n a b)) (hg : ∀ x, g' x = if (min (ix T a) (ix T b), max (ix T a) (ix T b)) = x then some (ix T (ap st n a b)) else g x) : Sound st n T g' := fun p q r hr => by
  rw [hg] at hr
  split at hr
  · rename_i e
    cases e; cases hr
    rcases Int.le_total (ix T a) (ix T b) with q | q
    · exact ⟨a, b, ma, mb, Int.min_eq_left q, Int.max_eq_right q, mr, rfl⟩
    · exact ⟨b, a, mb, ma, Int.min_eq_right q, Int.max_eq_left q, by rw [ap_comm (hT.ok mb) (hT.ok ma)]; exact mr, by rw [ap_comm (hT.ok mb) (hT.ok ma)]⟩
  · exact h p q r hr
end Bdd
end Go.Proofs.YtpfajhcdfgpgmaaDoor

namespace Go.Proofs.YtpfajhcdfgpgmaaDoor
set_option maxRecDepth 1000000
set_option maxHeartbeats 4000000
set_option synthInstance.maxHeartbeats 0
set_option synthInstance.maxSize 9999
open Go.RowKit
theorem look_leaf {n0 B K n : Nat} {v : Value} {T : List Bdd.D} {b : Bool} (w : World) (hB : Bld w n0 B K n v T) : Calls Tryd.prog 77 #[pw B 0, iv (Bdd.ix T (.leaf b))] w fun e w' => e = .returned (.agg #[iv ((Bdd.ev n (.leaf b) : Nat) : Int), iv (Bdd.ix T (Bdd.noD (.leaf b))), iv (Bdd.ix T (Bdd.yesD (.leaf b)))]) ∧ Ext w w' := by
 have hlf : Bdd.ix T (.leaf b) < 0 := by
  cases b
  · exact (show (-1 : Int) < 0 by decide)
  · exact (show (-2 : Int) < 0 by decide)
 refine calls_cw 21 [(1, iv (Bdd.ix T (.leaf b) : Int)), (0, pw B 0)] Tryd.func77 rfl Tryd.ntmps77 (by kernel_rfl) (by kernel_rfl) (fun L => ?_);have hE := Ext.refl w;refine zc (zp (pS (sw 61 #[iv 0, iv 0, iv 0] ?_)));intro O1 X2 hzO1 hyO1 hb hbx;have ⟨bO1_0, bO1_1, bO1_2⟩ := bq3 hbx;replace hE := hE.trans hb;have hs3 := hb.size;have lt4 := bO1_0.lt;refine zn (zc (zc (zp (pT (iv (Bdd.ix T (.leaf b) : Int)) ?_))));refine pU (.bool true) (ed ((Bdd.ix T (.leaf b) : Int) < (0 : Int)) (by omega)) ?_;refine zn (zt ?_);refine zc (zp (pD (pw B 0) (pw B 0) ?_));refine pT (pw B 0) ?_;refine pU (iv n) (xl (ld3 ((BoxAt.ext hE hB.b0).1))) ?_;refine pD (iv (Bdd.ix T (.leaf b) : Int)) (iv (Bdd.ix T (.leaf b) : Int)) ?_;refine pT (.agg #[iv n, iv (Bdd.ix T (.leaf b) : Int), iv (Bdd.ix T (.leaf b) : Int)]) ?_;refine pP (sn_setK3 (O := O1) (j := 0) (v0 := iv n) (v1 := iv (Bdd.ix T (.leaf b) : Int)) (v2 := iv (Bdd.ix T (.leaf b) : Int)) (xt (pw O1 0) (.agg #[iv n, iv (Bdd.ix T (.leaf b) : Int), iv (Bdd.ix T (.leaf b) : Int)]) (st61 bO1_0.1 bO1_0.2 bO1_1.1 bO1_1.2 bO1_2.1 bO1_2.2)) bO1_0 bO1_1 bO1_2 ?_);intro X5 ho bO1_0 bO1_1 bO1_2 hk;replace hE := ho.ext hE (Nat.le_of_eq hzO1);have hs6 := Nat.le_of_eq ho.size.symm;clear ho hk;refine zn (cw_ret (qw_then_ret (qw_ret [.agg #[iv n, iv (Bdd.ix T (.leaf b) : Int), iv (Bdd.ix T (.leaf b) : Int)]] rfl ⟨⟨_, by kernel_rfl, res_ld (ld61 (bO1_0.1) (bO1_1.1) (bO1_2.1))⟩, trivial⟩ ?_)));exact ⟨rfl, hE⟩
theorem look_nd {n0 B K n : Nat} {v : Value} {T : List Bdd.D} {i e : Nat} {a b : Bdd.D} (w : World) (hB : Bld w n0 B K n v T) (hg : T[i]? = some (.nd e a b)) (hT : T.length ≤ 2000000000000) : Calls Tryd.prog 77 #[pw B 0, iv i] w fun r w' => r = .returned (.agg #[iv ((Bdd.ev n (.nd e a b) : Nat) : Int), iv (Bdd.ix T (Bdd.noD (.nd e a b))), iv (Bdd.ix T (Bdd.yesD (.nd e a b)))]) ∧ Ext w w' := by
 obtain ⟨sa, sc, rfl, hsc, hc⟩ := hB.sl;have hi := (List.getElem?_eq_some_iff.1 hg).1;obtain ⟨g, rfl, hc2⟩ := hc (by omega);obtain ⟨h0, h1, h2⟩ := hc2 i (Bdd.row T (.nd e a b)) (by unfold Bdd.rows; rw [List.getElem?_map, hg]; rfl);have hgl := World.block_lt_of_cell? _ _ h0;refine calls_cw 21 [(1, iv i), (0, pw B 0)] Tryd.func77 rfl Tryd.ntmps77 (by kernel_rfl) (by kernel_rfl) (fun L => ?_);have hE := Ext.refl w;refine zc (zp (pS (sw 61 #[iv 0, iv 0, iv 0] ?_)));intro O1 X2 hzO1 hyO1 hb hbx;have ⟨bO1_0, bO1_1, bO1_2⟩ := bq3 hbx;replace hE := hE.trans hb;have hs3 := hb.size;have lt4 := bO1_0.lt;refine zn (zc (zc (zp (pT (iv i) ?_))));refine pU (.bool false) (en (((i : Nat) : Int) < (0 : Int)) (by omega)) ?_;refine zn (zf ?_);refine cw_skip (zq (zc (zp (pD (pw B 0) (pw B 0) ?_))));refine pT (pw B 1) ?_;refine pU (sv g 0 T.length sc) (xl (ld24 ((BoxAt.ext hE hB.b1).1))) ?_;refine pT (iv i) ?_;refine pU (pw g (i * 3)) (xi (sv g 0 T.length sc) (iv i) (ix24z (k := i) (by omega))) ?_;refine pU (.agg #[iv e, iv (Bdd.ix T a : Int), iv (Bdd.ix T b : Int)]) (xl (ld61 ((hE.cell h0)) ((hE.cell h1)) ((hE.cell h2)))) ?_;refine pP (sn_setK3 (O := O1) (j := 0) (v0 := iv e) (v1 := iv (Bdd.ix T a : Int)) (v2 := iv (Bdd.ix T b : Int)) (xt (pw O1 0) (.agg #[iv e, iv (Bdd.ix T a : Int), iv (Bdd.ix T b : Int)]) (st61 bO1_0.1 bO1_0.2 bO1_1.1 bO1_1.2 bO1_2.1 bO1_2.2)) bO1_0 bO1_1 bO1_2 ?_);intro X5 ho bO1_0 bO1_1 bO1_2 hk;replace hE := ho.ext hE (Nat.le_of_eq hzO1);have hs6 := Nat.le_of_eq ho.size.symm;clear ho hk;refine zn (cw_ret (qw_ret [.agg #[iv e, iv (Bdd.ix T a : Int), iv (Bdd.ix T b : Int)]] rfl ⟨⟨_, by kernel_rfl, res_ld (ld61 (bO1_0.1) (bO1_1.1) (bO1_2.1))⟩, trivial⟩ ?_));exact ⟨rfl, hE⟩
theorem look_c {n0 B K n : Nat} {v : Value} {T : List Bdd.D} {t : Bdd.D} (w : World) (hB : Bld w n0 B K n v T) (ht : Bdd.Mem T t) (hT : T.length ≤ 2000000000000) : Calls Tryd.prog 77 #[.pointer (some ⟨B, 0, none⟩), .int .i64 (Bdd.ix T t)] w fun e w' => e = .returned (.agg #[.int .i64 ((Bdd.ev n t : Nat) : Int), .int .i64 (Bdd.ix T (Bdd.noD t)), .int .i64 (Bdd.ix T (Bdd.yesD t))]) ∧ Ext w w' := by
 cases t with
 | leaf b => exact look_leaf w hB
 | nd e a b =>
  obtain ⟨i, h1, h2, h3⟩ := Bdd.ix_nd ht
  rw [h1]
  exact look_nd w hB h3 hT
end Go.Proofs.YtpfajhcdfgpgmaaDoor

namespace Go.Proofs.YtpfajhcdfgpgmaaDoor
open Go.RowKit
def sameD (a b : List Nat) : Bool := a.all (fun i => b.contains i) && b.all (fun i => a.contains i)
theorem sameD_c {a b : List Nat} (h : sameD a b = true) (i : Nat) : a.contains i = b.contains i := by
 unfold sameD at h
 rw [Bool.and_eq_true, List.all_eq_true, List.all_eq_true] at h
 rw [Bool.eq_iff_iff]
 constructor
 · intro q; exact h.1 i (by simpa using q)
 · intro q; exact h.2 i (by simpa using q)
theorem lset_same {n : Nat} {a b : List Nat} (h : sameD a b = true) : lset n a = lset n b := by
 refine Array.ext (by rw [lset_size, lset_size]) fun i h1 h2 => ?_
 have e1 := lset_get n true a i
 have e2 := lset_get n true b i
 rw [sameD_c h] at e1
 have e := e1.trans e2.symm
 rw [Array.getD_eq_getD_getElem?, Array.getD_eq_getD_getElem?, Array.getElem?_eq_getElem h1, Array.getElem?_eq_getElem h2] at e
 exact e
theorem pick_keys : ∀ {ks : List Nat} {ws ws' : List (Nat × Value)}, pickW ws ks = some ws' → ∀ t, t ∈ ks → lookO ws' t = lookO ws t
  | [], _, _, _, t, ht => by cases ht
  | k :: ks, ws, ws', h, t, ht => by
    rw [pickW] at h
    cases e1 : lookO ws k with
    | none => rw [e1] at h; cases h
    | some u =>
      cases e2 : pickW ws ks with
      | none => rw [e1, e2] at h; cases h
      | some r =>
        rw [e1, e2] at h; cases h
        rw [lookO]
        by_cases e : t = k
        · rw [if_pos e, e, e1]
        · rw [if_neg e]
          exact pick_keys e2 t ((List.mem_cons.1 ht).resolve_left e)
theorem pick_all {L : List Value} {ks : List Nat} {ws ws' : List (Nat × Value)} (hp : pickW ws ks = some ws') (ha : ws.all (fun p => ks.contains p.1) = true) : setAll L ws = setAll L ws' := by
  refine List.ext_getElem? fun t => ?_
  rw [setAll_get?, setAll_get?]
  split
  · congr 1
    by_cases h : t ∈ ks
    · exact (pick_keys hp t h).symm
    · have n1 : lookO ws t = none := by
        cases q : lookO ws t with
        | none => rfl
        | some v => exact absurd (by simpa using List.all_eq_true.1 ha _ (look_mem q)) h
      cases q : lookO ws' t with
      | none => exact n1
      | some v => rw [pick_look hp t v q] at n1; cases n1
  · rfl
section
variable {P : Program} {ops ops0 : Array Oper} {Q Q' : Exit → Act → World → Prop} {S : World → Prop} {L : List Value} {fuel : Nat} {done done' : List Nat} {ws ws' : List (Nat × Value)} {w : World} {T : List Row} {ds : List Deferred} {n : Nat}
theorem wd_same (ks : List Nat) (hd : sameD done done' = true) (hp : pickW ws ks = some ws') (ha : ws.all (fun p => ks.contains p.1) = true) (h : WD P ops Q S L fuel done' ws' w) : WD P ops Q S L fuel done ws w := ⟨fun hb => by
 have h2 := h.out (fun p hp' => by
  obtain ⟨v, hv⟩ := mem_look hp'
  exact hb (p.1, v) (look_mem (pick_look hp _ _ hv)))
 rwa [← lset_same hd, ← pick_all hp ha] at h2⟩
end
theorem wX {P : Program} {ops : Array Oper} {Q : Exit → Act → World → Prop} {S : World → Prop} {L : List Value} {fuel : Nat} {done done' : List Nat} {ws ws' : List (Nat × Value)} {w : World} (h : WD P ops Q S L fuel done' ws' w) (hd : sameD done done' = true := by kernel_rfl) (hp : pickW ws (ws'.map Prod.fst) = some ws' := by kernel_rfl) (ha : ws.all (fun p => (ws'.map Prod.fst).contains p.1) = true := by kernel_rfl) : WD P ops Q S L fuel done ws w := wd_same _ hd hp ha h
end Go.Proofs.YtpfajhcdfgpgmaaDoor
