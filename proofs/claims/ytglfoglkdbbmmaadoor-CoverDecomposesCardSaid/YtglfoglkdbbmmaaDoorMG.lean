/- The plain mathematics of the globe: cells, rows. No program in sight. -/
namespace Go.Proofs.YtglfoglkdbbmmaaDoor
namespace Globe

def vcB (x y : Int) : Bool := decide (0 ≤ x ∧ x ≤ 47 ∧ 0 ≤ y ∧ y ≤ 23)
theorem vcB_t {x y : Int} : vcB x y = true ↔ 0 ≤ x ∧ x ≤ 47 ∧ 0 ≤ y ∧ y ≤ 23 := by simp [vcB]
theorem vcB_f {x y : Int} : vcB x y = false ↔ x < 0 ∨ 47 < x ∨ y < 0 ∨ 23 < y := by simp [vcB]; omega

def inB (n lo hi : Int) : Bool := decide (lo ≤ n ∧ n ≤ hi)
theorem inB_t {n lo hi : Int} : inB n lo hi = true ↔ lo ≤ n ∧ n ≤ hi := by simp [inB]
theorem inB_f {n lo hi : Int} : inB n lo hi = false ↔ n < lo ∨ hi < n := by simp [inB]; omega
theorem vcB_in (x y : Int) : vcB x y = (inB x 0 47 && inB y 0 23) := by
  rw [Bool.eq_iff_iff, Bool.and_eq_true, vcB_t, inB_t, inB_t]; omega

/-- The element with an index; 0 behind the end. (Not reducible: the walk takes it as it stands.) -/
def nth (l : List Int) (i : Nat) : Int := l[i]?.getD 0
theorem nth_lt {l : List Int} {i : Nat} (h : i < l.length) : nth l i = l[i] := by rw [nth, List.getElem?_eq_getElem h]; rfl
theorem nth_ge {l : List Int} {i : Nat} (h : l.length ≤ i) : nth l i = 0 := by rw [nth, List.getElem?_eq_none h]; rfl
theorem nth_mem {l : List Int} {i : Nat} (h : i < l.length) : nth l i ∈ l := by rw [nth_lt h]; exact List.getElem_mem h
theorem mem_nth {l : List Int} {x : Int} (h : x ∈ l) : ∃ i, i < l.length ∧ nth l i = x := by
  obtain ⟨i, hi, rfl⟩ := List.getElem_of_mem h
  exact ⟨i, hi, nth_lt hi⟩
theorem ext_nth {a b : List Int} (hl : a.length = b.length) (h : ∀ i, i < a.length → nth a i = nth b i) : a = b :=
  List.ext_getElem hl fun i h1 h2 => by rw [← nth_lt h1, ← nth_lt h2]; exact h i h1

/-- A row of an area: its cells as bits. -/
def rowOk (r : Int) : Bool := decide (0 ≤ r ∧ r ≤ 281474976710655)
theorem rowOk_t {r : Int} : rowOk r = true ↔ 0 ≤ r ∧ r ≤ 281474976710655 := by simp [rowOk]
theorem rowOk_f {r : Int} : rowOk r = false ↔ r < 0 ∨ 281474976710655 < r := by simp [rowOk]; omega
/-- A valid area. -/
def validL (l : List Int) : Bool := l.length == 24 && l.all rowOk
theorem validL_t {l : List Int} : validL l = true ↔ l.length = 24 ∧ ∀ r ∈ l, 0 ≤ r ∧ r ≤ 281474976710655 := by
  simp only [validL, Bool.and_eq_true, beq_iff_eq, List.all_eq_true, rowOk_t]
/-- The index of the first row that is not one; -1: none. -/
def badAt : List Int → Int
  | [] => -1
  | r :: l => if rowOk r then (if badAt l < 0 then -1 else badAt l + 1) else 0
theorem badAt_all : ∀ {l : List Int}, l.all rowOk = true → badAt l = -1
  | [], _ => rfl
  | r :: l, h => by
    simp only [List.all_cons, Bool.and_eq_true] at h
    rw [badAt, if_pos h.1, badAt_all h.2]; rfl
theorem badAt_no : ∀ {l : List Int}, l.all rowOk = false → 0 ≤ badAt l
  | [], h => by simp at h
  | r :: l, h => by
    cases hr : rowOk r with
    | false => rw [badAt, if_neg (by rw [hr]; decide)]; decide
    | true =>
      have ih := badAt_no (l := l) (by simpa [List.all_cons, hr] using h)
      rw [badAt, if_pos hr, if_neg (by omega)]; omega
theorem badAt_first : ∀ {l : List Int} {k : Nat}, k < l.length → (∀ j, j < k → rowOk (nth l j) = true) → rowOk (nth l k) = false → badAt l = (k : Int)
  | r :: l, 0, _, _, hk => by simp [nth] at hk; rw [badAt, if_neg (by rw [hk]; decide)]; rfl
  | r :: l, k + 1, h, hp, hk => by
    have ih := badAt_first (l := l) (k := k) (by simpa using h) (fun j hj => by simpa [nth] using hp (j + 1) (by omega)) (by simpa [nth] using hk)
    have h0 : rowOk r = true := by simpa [nth] using hp 0 (by omega)
    rw [badAt, if_pos h0, ih, if_neg (by omega)]; omega

end Globe
end Go.Proofs.YtglfoglkdbbmmaaDoor
