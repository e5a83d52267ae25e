/- The bounds of the heights over an area and a spell: reached, never passed, and wider with more. Plain mathematics. -/
import Derived.Test.YtknlnmalaidaiaaDoorM7
import Derived.Test.YtknlnmalaidaiaaDoorMA
namespace Go.Proofs.YtknlnmalaidaiaaDoor
namespace Sun

theorem foldl_min_le : ∀ (hs : List Int) (b : Int), hs.foldl min b ≤ b ∧ ∀ h ∈ hs, hs.foldl min b ≤ h
  | [], b => ⟨Int.le_refl _, fun _ h => by cases h⟩
  | x :: hs, b => by
    obtain ⟨h1, h2⟩ := foldl_min_le hs (min b x)
    rw [List.foldl_cons]
    refine ⟨by omega, fun h hh => ?_⟩
    rcases List.mem_cons.1 hh with rfl | hh
    · omega
    · exact h2 h hh
theorem foldl_min_mem : ∀ (hs : List Int) (b : Int), hs.foldl min b = b ∨ hs.foldl min b ∈ hs
  | [], b => .inl rfl
  | x :: hs, b => by
    rw [List.foldl_cons]
    rcases foldl_min_mem hs (min b x) with h | h
    · by_cases c : b ≤ x
      · left; omega
      · right; rw [h]; exact List.mem_cons.2 (.inl (by omega))
    · exact .inr (List.mem_cons.2 (.inr h))
theorem foldl_max_ge : ∀ (hs : List Int) (b : Int), b ≤ hs.foldl max b ∧ ∀ h ∈ hs, h ≤ hs.foldl max b
  | [], b => ⟨Int.le_refl _, fun _ h => by cases h⟩
  | x :: hs, b => by
    obtain ⟨h1, h2⟩ := foldl_max_ge hs (max b x)
    rw [List.foldl_cons]
    refine ⟨by omega, fun h hh => ?_⟩
    rcases List.mem_cons.1 hh with rfl | hh
    · omega
    · exact h2 h hh
theorem foldl_max_mem : ∀ (hs : List Int) (b : Int), hs.foldl max b = b ∨ hs.foldl max b ∈ hs
  | [], b => .inl rfl
  | x :: hs, b => by
    rw [List.foldl_cons]
    rcases foldl_max_mem hs (max b x) with h | h
    · by_cases c : x ≤ b
      · left; omega
      · right; rw [h]; exact List.mem_cons.2 (.inl (by omega))
    · exact .inr (List.mem_cons.2 (.inr h))
theorem minL_le {hs : List Int} {h : Int} (hh : h ∈ hs) : minL hs ≤ h := (foldl_min_le hs 90).2 h hh
theorem maxL_ge {hs : List Int} {h : Int} (hh : h ∈ hs) : h ≤ maxL hs := (foldl_max_ge hs (-90)).2 h hh
theorem minL_mem {hs : List Int} (hne : hs ≠ []) (hb : ∀ h ∈ hs, -90 ≤ h ∧ h ≤ 90) : minL hs ∈ hs := by
  rcases foldl_min_mem hs 90 with h | h
  · obtain ⟨x, hx⟩ := List.exists_mem_of_ne_nil hs hne
    have h1 := (foldl_min_le hs 90).2 x hx
    have h2 := (hb x hx).2
    have : x = minL hs := by unfold minL; omega
    rw [← this]; exact hx
  · exact h
theorem maxL_mem {hs : List Int} (hne : hs ≠ []) (hb : ∀ h ∈ hs, -90 ≤ h ∧ h ≤ 90) : maxL hs ∈ hs := by
  rcases foldl_max_mem hs (-90) with h | h
  · obtain ⟨x, hx⟩ := List.exists_mem_of_ne_nil hs hne
    have h1 := (foldl_max_ge hs (-90)).2 x hx
    have h2 := (hb x hx).1
    have : x = maxL hs := by unfold maxL; omega
    rw [← this]; exact hx
  · exact h
theorem mem_hts {f t : Int} {ps : List (Nat × Nat)} {h : Int} : h ∈ hts f t ps ↔ ∃ p ∈ ps, ∃ k : Nat, k < (t - f).toNat ∧ h = height p.1 p.2 (f + k) := by
  simp only [hts, htsT, List.mem_flatMap, List.mem_map, List.mem_range]
  constructor
  · rintro ⟨p, hp, k, hk, rfl⟩; exact ⟨p, hp, k, hk, rfl⟩
  · rintro ⟨p, hp, k, hk, rfl⟩; exact ⟨p, hp, k, hk, rfl⟩
theorem hts_bd {l : List Int} {f t : Int} (hf : 0 ≤ f) {h : Int} (hh : h ∈ hts f t (Globe.cellsTo l 24)) : -90 ≤ h ∧ h ≤ 90 := by
  obtain ⟨p, hp, k, hk, rfl⟩ := mem_hts.1 hh
  obtain ⟨h1, h2, _⟩ := Globe.mem_cells.1 hp
  exact height_bd (by omega) (by omega) (by omega) (by omega) (by omega)
theorem hts_ne {l : List Int} {f t : Int} (h : f < t) {x y : Nat} (hx : x < 48) (hy : y < 24) (hh : Globe.hasL l x y = true) : hts f t (Globe.cellsTo l 24) ≠ [] := by
  intro e
  have : height x y (f + (0 : Nat)) ∈ hts f t (Globe.cellsTo l 24) := mem_hts.2 ⟨(x, y), Globe.mem_cells.2 ⟨hy, hx, hh⟩, 0, by omega, rfl⟩
  rw [e] at this; cases this
/-- More cells and a longer spell. -/
theorem hts_more {l m : List Int} {f t u : Int} (htu : t ≤ u) (hm : ∀ x y, x < 48 → y < 24 → Globe.hasL l x y = true → Globe.hasL m x y = true) {h : Int} (hh : h ∈ hts f t (Globe.cellsTo l 24)) : h ∈ hts f u (Globe.cellsTo m 24) := by
  obtain ⟨p, hp, k, hk, rfl⟩ := mem_hts.1 hh
  obtain ⟨h1, h2, h3⟩ := Globe.mem_cells.1 hp
  exact mem_hts.2 ⟨p, Globe.mem_cells.2 ⟨h1, h2, hm _ _ h2 h1 h3⟩, k, by omega, rfl⟩

/-- What has been reached: 1: the least, 2: the greatest. -/
def rch (lo hi : Int) (hs : List Int) : Nat := (if lo ∈ hs then 1 else 0) ||| (if hi ∈ hs then 2 else 0)
theorem rch_lt (lo hi : Int) (hs : List Int) : rch lo hi hs < 4 := by unfold rch; split <;> split <;> decide
theorem rch_nil (lo hi : Int) : rch lo hi [] = 0 := by simp [rch]
theorem rch_all {lo hi : Int} {hs : List Int} (h1 : lo ∈ hs) (h2 : hi ∈ hs) : rch lo hi hs = 3 := by unfold rch; rw [if_pos h1, if_pos h2]; rfl
theorem rch_no {lo hi h : Int} {hs : List Int} (h1 : h ≠ lo) (h2 : h ≠ hi) : rch lo hi (hs ++ [h]) = rch lo hi hs := by
  unfold rch; simp [Ne.symm h1, Ne.symm h2]
theorem rch_lo {lo hi h : Int} {hs : List Int} (h1 : h = lo) (h2 : h ≠ hi) : rch lo hi (hs ++ [h]) = rch lo hi hs ||| 1 := by
  unfold rch; subst h1; simp [Ne.symm h2]; split <;> split <;> rfl
theorem rch_hi {lo hi h : Int} {hs : List Int} (h1 : h ≠ lo) (h2 : h = hi) : rch lo hi (hs ++ [h]) = rch lo hi hs ||| 2 := by
  unfold rch; subst h2; simp [Ne.symm h1]; split <;> split <;> rfl
theorem rch_both {lo hi h : Int} {hs : List Int} (h1 : h = lo) (h2 : h = hi) : rch lo hi (hs ++ [h]) = rch lo hi hs ||| 1 ||| 2 := by
  unfold rch; rw [if_pos (by simp [h1]), if_pos (by simp [h2])]; split <;> split <;> rfl

end Sun
end Go.Proofs.YtknlnmalaidaiaaDoor
