/- Contracts of package sun and of its reference, for all arguments. -/
import Derived.Test.YtknlnmalaidaiaaDoorS7
import Derived.Test.YtknlnmalaidaiaaDoorS6
import Derived.Test.YtknlnmalaidaiaaDoorS5
import Derived.Test.YtknlnmalaidaiaaDoorRB
namespace Go.Proofs.YtknlnmalaidaiaaDoor
open Go.RowKit
namespace Sun
def orZ (b : Bool) (n : Int) : Int := if b then n else 0
def er6 (b : Bool) : Int := if b then 0 else 60
def okB (x y t : Int) : Bool := minB t && Globe.vcB x y
/-- Whether Range answers. -/
def rgB (f t : Int) (l : List Int) : Bool := spB f t && decide (t - f ≤ 60) && Globe.validL l && decide (0 < (Globe.cellsTo l 24).length)
end Sun
open Sun
theorem Noon_t (t : Int) (w : World) : Calls Tryd.prog 14 #[.int .i64 t] w fun e w' => e = .returned (.tuple #[.int .i64 (orZ (minB t) (noon t)), .int .i64 (er6 (minB t))]) ∧ Ext w w' := by
  cases h : minB t
  · exact (Noon_no t w h).mono fun _ _ ⟨h1, h2⟩ => ⟨h1, by subst h2; exact Ext.refl _⟩
  · exact (Noon_yes t w h).mono fun _ _ ⟨h1, h2⟩ => ⟨h1, by subst h2; exact Ext.refl _⟩
theorem rNoon_t (t : Int) (w : World) : Calls Tryd.prog 15 #[.int .i64 t] w fun e w' => e = .returned (.tuple #[.int .i64 (orZ (minB t) (noon t)), .int .i64 (er6 (minB t))]) ∧ Ext w w' := by
  cases h : minB t
  · exact (rNoon_no t w h).mono fun _ _ ⟨h1, h2⟩ => ⟨h1, by subst h2; exact Ext.refl _⟩
  · exact (rNoon_yes t w h).mono fun _ _ ⟨h1, h2⟩ => ⟨h1, by subst h2; exact Ext.refl _⟩
theorem Season_t (t : Int) (w : World) : Calls Tryd.prog 16 #[.int .i64 t] w fun e w' => e = .returned (.tuple #[.int .i64 (orZ (minB t) (season t)), .int .i64 (er6 (minB t))]) ∧ Ext w w' := by
  cases h : minB t
  · exact Season_no t w h
  · exact Season_yes t w h
theorem rSeason_t (t : Int) (w : World) : Calls Tryd.prog 17 #[.int .i64 t] w fun e w' => e = .returned (.tuple #[.int .i64 (orZ (minB t) (season t)), .int .i64 (er6 (minB t))]) ∧ Ext w w' := by
  cases h : minB t
  · exact (rSeason_no t w h).mono fun _ _ ⟨h1, h2⟩ => ⟨h1, by subst h2; exact Ext.refl _⟩
  · exact (rSeason_yes t w h).mono fun _ _ ⟨h1, h2⟩ => ⟨h1, by subst h2; exact Ext.refl _⟩
theorem Height_t (x y t : Int) (w : World) : Calls Tryd.prog 18 #[.agg #[.int .i64 x, .int .i64 y], .int .i64 t] w fun e w' => e = .returned (.tuple #[.int .i64 (orZ (okB x y t) (height x y t)), .int .i64 (er6 (okB x y t))]) ∧ Ext w w' := by
  cases h : okB x y t
  · exact Height_no x y t w h
  · obtain ⟨h1, h2⟩ := Bool.and_eq_true_iff.1 h
    exact Height_yes x y t w h1 h2
theorem rHeight_t (x y t : Int) (w : World) : Calls Tryd.prog 19 #[.agg #[.int .i64 x, .int .i64 y], .int .i64 t] w fun e w' => e = .returned (.tuple #[.int .i64 (orZ (okB x y t) (height x y t)), .int .i64 (er6 (okB x y t))]) ∧ Ext w w' := by
  cases h : okB x y t
  · exact rHeight_no x y t w h
  · obtain ⟨h1, h2⟩ := Bool.and_eq_true_iff.1 h
    exact rHeight_yes x y t w h1 h2
theorem Next_t (x y t : Int) (lit : Bool) (w : World) : Calls Tryd.prog 20 #[.agg #[.int .i64 x, .int .i64 y], .int .i64 t, .bool lit] w fun e w' => e = .returned (.tuple #[.int .i64 (orZ (okB x y t) (next x y t lit)), .int .i64 (er6 (okB x y t))]) ∧ Ext w w' := by
  cases h : okB x y t
  · exact Next_no x y t lit w h
  · obtain ⟨h1, h2⟩ := Bool.and_eq_true_iff.1 h
    exact Next_yes x y t lit w h1 h2
theorem rNext_t (x y t : Int) (lit : Bool) (w : World) : Calls Tryd.prog 21 #[.agg #[.int .i64 x, .int .i64 y], .int .i64 t, .bool lit] w fun e w' => e = .returned (.tuple #[.int .i64 (orZ (okB x y t) (next x y t lit)), .int .i64 (er6 (okB x y t))]) ∧ Ext w w' := by
  cases h : okB x y t
  · exact rNext_no x y t lit w h
  · obtain ⟨h1, h2⟩ := Bool.and_eq_true_iff.1 h
    exact rNext_yes x y t lit w h1 h2

theorem Valid_a {w0 : World} {a : Option Addr} {l : List Int} {n : Nat} (c : Nat) {v : Bool} (w : World) (h : AA w0 a l n v) (hE : Ext w0 w) :
    Calls Tryd.prog 43 #[.agg #[.slice a n c]] w fun e w' => e = .returned (.bool v) ∧ Ext w w' := by
  obtain ⟨h1, rfl, hl, rfl⟩ := h.ext hE
  exact Valid_c a l c w h1 hl
/-- How many cells. -/
theorem Count_a {w0 : World} {a : Option Addr} {l : List Int} {n : Nat} (c : Nat) {v : Bool} (w : World) (h : AA w0 a l n v) (hE : Ext w0 w) (hT : Tab w) :
    Calls Tryd.prog 44 #[.agg #[.slice a n c]] w fun e w' => e = .returned (.int .i64 (Globe.countL l : Nat)) ∧ Ext w w' := by
  replace h := h.ext hE
  obtain ⟨h1, rfl, h3, h4⟩ := h
  unfold Globe.countL Globe.cellsL
  rw [h4]
  cases v
  · exact Count_no a l c w h1 h3 h4
  · obtain ⟨b, o, rfl, hr⟩ := h1.rows (Globe.len_of_valid h4)
    have := Globe.len_of_valid h4
    exact Count_yes b o c l w (fun i hi => hr i (by omega)) h4 hT

theorem count_ok {l : List Int} (h : Globe.validL l = true) : Globe.countL l = (Globe.cellsTo l 24).length := by unfold Globe.countL Globe.cellsL; rw [h]; rfl

set_option maxHeartbeats 2000000 in
theorem Range_no {w0 : World} {a : Option Addr} {l : List Int} {n : Nat} (c : Nat) {v : Bool} (f t : Int) (w : World) (h : AA w0 a l n v) (hE : Ext w0 w) (hT : Tab w) (hB : rgB f t l = false) :
    Calls Tryd.prog 28 #[.agg #[.slice a n c], .agg #[.int .i64 f, .int .i64 t]] w fun e w' => e = .returned (.tuple #[.int .i64 0, .int .i64 0, .int .i64 60]) ∧ Ext w w' := by
  have hv := h.2.2.2
  have H := Lib.hid (h.ext hE); clear h hE
  have HT := Lib.hid hT; clear hT
  by_cases h1 : f < 0
  · clear hv hB
    go_enter Tryd.func28, Tryd.ntmps28
    go_wp2_with fail
    go_ret3
    exact ⟨rfl, by (repeat' (first | (with_reducible assumption) | (with_reducible exact Ext.refl _) | (with_reducible refine Ext.alloc ?_ _) | (with_reducible refine Ext.drew ?_) | (with_reducible refine Ext.drewN ?_ _) | (with_reducible refine Ext.setCell ?_ ?_ _) | (with_reducible refine Ext.trans ?_ (by assumption)) | go_size))⟩
  have h1' : 0 ≤ f := by omega
  clear h1
  by_cases h2 : t ≤ f
  · have h2' : ¬ f < t := by omega
    clear hv hB
    go_enter Tryd.func28, Tryd.ntmps28
    go_wp2_with fail
    go_ret3
    exact ⟨rfl, by (repeat' (first | (with_reducible assumption) | (with_reducible exact Ext.refl _) | (with_reducible refine Ext.alloc ?_ _) | (with_reducible refine Ext.drew ?_) | (with_reducible refine Ext.drewN ?_ _) | (with_reducible refine Ext.setCell ?_ ?_ _) | (with_reducible refine Ext.trans ?_ (by assumption)) | go_size))⟩
  have h2' : f < t := by omega
  clear h2
  by_cases h3 : 1000001 < t
  · have h3' : ¬ t ≤ 1000001 := by omega
    clear hv hB
    go_enter Tryd.func28, Tryd.ntmps28
    go_wp2_with fail
    go_ret3
    exact ⟨rfl, by (repeat' (first | (with_reducible assumption) | (with_reducible exact Ext.refl _) | (with_reducible refine Ext.alloc ?_ _) | (with_reducible refine Ext.drew ?_) | (with_reducible refine Ext.drewN ?_ _) | (with_reducible refine Ext.setCell ?_ ?_ _) | (with_reducible refine Ext.trans ?_ (by assumption)) | go_size))⟩
  have h3' : t ≤ 1000001 := by omega
  clear h3
  by_cases h4 : 60 < t - f
  · clear hv hB
    go_enter Tryd.func28, Tryd.ntmps28
    go_wp2_with fail
    go_ret3
    exact ⟨rfl, by (repeat' (first | (with_reducible assumption) | (with_reducible exact Ext.refl _) | (with_reducible refine Ext.alloc ?_ _) | (with_reducible refine Ext.drew ?_) | (with_reducible refine Ext.drewN ?_ _) | (with_reducible refine Ext.setCell ?_ ?_ _) | (with_reducible refine Ext.trans ?_ (by assumption)) | go_size))⟩
  have h4' : t - f ≤ 60 := by omega
  cases v
  · clear hB
    go_enter Tryd.func28, Tryd.ntmps28
    go_wp2_with (go_at_call 43; refine (Valid_a _ _ H.out (by (repeat' (first | (with_reducible assumption) | (with_reducible exact Ext.refl _) | (with_reducible refine Ext.alloc ?_ _) | (with_reducible refine Ext.drew ?_) | (with_reducible refine Ext.drewN ?_ _) | (with_reducible refine Ext.setCell ?_ ?_ _) | (with_reducible refine Ext.trans ?_ (by assumption)) | go_size)))).mono ?_; rintro e w1 ⟨rfl, hb⟩; have hc := hb.cellE; have hf := hb.frozenE; have hz := hb.size; have ha := alloc_keeps w1; (try simp only [World.size_alloc] at hc hf hz); (try simp only [World.size_setCell] at hc hf hz); (try simp only [World.size_drew] at hc hf hz))
    go_ret3
    exact ⟨rfl, by (repeat' (first | (with_reducible assumption) | (with_reducible exact Ext.refl _) | (with_reducible refine Ext.alloc ?_ _) | (with_reducible refine Ext.drew ?_) | (with_reducible refine Ext.drewN ?_ _) | (with_reducible refine Ext.setCell ?_ ?_ _) | (with_reducible refine Ext.trans ?_ (by assumption)) | go_size))⟩
  · have hc : Globe.countL l = 0 := by
      rw [count_ok hv]
      unfold rgB at hB
      rw [hv, Sun.spB_t.2 ⟨h1', h2', h3'⟩] at hB
      simp [h4'] at hB
      rw [hB]; rfl
    have HC := Lib.hid hc
    clear hB hc hv
    go_enter Tryd.func28, Tryd.ntmps28
    go_wp2_with (first | (go_at_call 43; refine (Valid_a _ _ H.out (by (repeat' (first | (with_reducible assumption) | (with_reducible exact Ext.refl _) | (with_reducible refine Ext.alloc ?_ _) | (with_reducible refine Ext.drew ?_) | (with_reducible refine Ext.drewN ?_ _) | (with_reducible refine Ext.setCell ?_ ?_ _) | (with_reducible refine Ext.trans ?_ (by assumption)) | go_size)))).mono ?_; rintro e w1 ⟨rfl, hb⟩; have hc := hb.cellE; have hf := hb.frozenE; have hz := hb.size; have ha := alloc_keeps w1; (try simp only [World.size_alloc] at hc hf hz); (try simp only [World.size_setCell] at hc hf hz); (try simp only [World.size_drew] at hc hf hz)) | (go_at_call 44; refine (Count_a _ _ H.out (by (repeat' (first | (with_reducible assumption) | (with_reducible exact Ext.refl _) | (with_reducible refine Ext.alloc ?_ _) | (with_reducible refine Ext.drew ?_) | (with_reducible refine Ext.drewN ?_ _) | (with_reducible refine Ext.setCell ?_ ?_ _) | (with_reducible refine Ext.trans ?_ (by assumption)) | go_size))) (HT.out.ext (by (repeat' (first | (with_reducible assumption) | (with_reducible exact Ext.refl _) | (with_reducible refine Ext.alloc ?_ _) | (with_reducible refine Ext.drew ?_) | (with_reducible refine Ext.drewN ?_ _) | (with_reducible refine Ext.setCell ?_ ?_ _) | (with_reducible refine Ext.trans ?_ (by assumption)) | go_size))))).mono ?_; rintro e w2 ⟨rfl, hb2⟩; rw [HC.out]))
    go_ret3
    exact ⟨rfl, by (repeat' (first | (with_reducible assumption) | (with_reducible exact Ext.refl _) | (with_reducible refine Ext.alloc ?_ _) | (with_reducible refine Ext.drew ?_) | (with_reducible refine Ext.drewN ?_ _) | (with_reducible refine Ext.setCell ?_ ?_ _) | (with_reducible refine Ext.trans ?_ (by assumption)) | go_size))⟩

theorem rgB_t {f t : Int} {l : List Int} (h : rgB f t l = true) : 0 ≤ f ∧ f < t ∧ t ≤ 1000001 ∧ t - f ≤ 60 ∧ Globe.validL l = true ∧ 0 < (Globe.cellsTo l 24).length := by
  unfold rgB at h
  simp only [Bool.and_eq_true, decide_eq_true_eq, spB_t] at h
  exact ⟨h.1.1.1.1, h.1.1.1.2.1, h.1.1.1.2.2, h.1.1.2, h.1.2, h.2⟩
theorem Range_t {w0 : World} {a : Option Addr} {l : List Int} {n : Nat} (c : Nat) {v : Bool} (f t : Int) (w : World) (h : AA w0 a l n v) (hE : Ext w0 w) (hT : Tab w) :
    Calls Tryd.prog 28 #[.agg #[.slice a n c], .agg #[.int .i64 f, .int .i64 t]] w fun e w' => e = .returned (.tuple #[.int .i64 (orZ (rgB f t l) (minL (hts f t (Globe.cellsTo l 24)))), .int .i64 (orZ (rgB f t l) (maxL (hts f t (Globe.cellsTo l 24)))), .int .i64 (er6 (rgB f t l))]) ∧ Ext w w' := by
  cases hB : rgB f t l
  · exact Range_no c f t w h hE hT hB
  · obtain ⟨h1, h2, h3, h4, h5, h6⟩ := rgB_t hB
    obtain ⟨i1, rfl, i3, i4⟩ := h.ext hE
    obtain ⟨b, o, rfl, hr⟩ := i1.rows (Globe.len_of_valid h5)
    have hl := Globe.len_of_valid h5
    exact Range_yes b o c l f t w (fun i hi => hr i (by omega)) h5 hT (spB_t.2 ⟨h1, h2, h3⟩) h4 (by omega)

set_option maxHeartbeats 2000000 in
theorem rRange_no {w0 : World} {a : Option Addr} {l : List Int} {n : Nat} (c : Nat) {v : Bool} (f t : Int) (w : World) (h : AA w0 a l n v) (hE : Ext w0 w) (hB : rgB f t l = false) :
    Calls Tryd.prog 29 #[.agg #[.slice a n c], .agg #[.int .i64 f, .int .i64 t]] w fun e w' => e = .returned (.tuple #[.int .i64 0, .int .i64 0, .int .i64 60]) ∧ Ext w w' := by
  have hv := h.2.2.2
  have H := Lib.hid (h.ext hE); clear h hE
  cases v
  · clear hB
    go_enter Tryd.func29, Tryd.ntmps29
    go_wp2_with (go_at_call 45; refine (rValid_c _ _ H.out (by (repeat' (first | (with_reducible assumption) | (with_reducible exact Ext.refl _) | (with_reducible refine Ext.alloc ?_ _) | (with_reducible refine Ext.drew ?_) | (with_reducible refine Ext.drewN ?_ _) | (with_reducible refine Ext.setCell ?_ ?_ _) | (with_reducible refine Ext.trans ?_ (by assumption)) | go_size)))).mono ?_; rintro e w1 ⟨rfl, hb⟩; have hc := hb.cellE; have hf := hb.frozenE; have hz := hb.size; have ha := alloc_keeps w1; (try simp only [World.size_alloc] at hc hf hz); (try simp only [World.size_setCell] at hc hf hz); (try simp only [World.size_drew] at hc hf hz))
    go_ret3
    exact ⟨rfl, by (repeat' (first | (with_reducible assumption) | (with_reducible exact Ext.refl _) | (with_reducible refine Ext.alloc ?_ _) | (with_reducible refine Ext.drew ?_) | (with_reducible refine Ext.drewN ?_ _) | (with_reducible refine Ext.setCell ?_ ?_ _) | (with_reducible refine Ext.trans ?_ (by assumption)) | go_size))⟩
  · have hn := count_ok hv
    obtain ⟨m, hm⟩ : ∃ m, Globe.countL l = m := ⟨_, rfl⟩
    rw [hm] at hn
    have HM := Lib.hid hm
    unfold rgB at hB
    rw [hv, ← hn] at hB
    clear hm hn hv
    by_cases h0 : m = 0
    · clear hB
      subst h0
      go_enter Tryd.func29, Tryd.ntmps29
      go_wp2_with (first | (go_at_call 45; refine (rValid_c _ _ H.out (by (repeat' (first | (with_reducible assumption) | (with_reducible exact Ext.refl _) | (with_reducible refine Ext.alloc ?_ _) | (with_reducible refine Ext.drew ?_) | (with_reducible refine Ext.drewN ?_ _) | (with_reducible refine Ext.setCell ?_ ?_ _) | (with_reducible refine Ext.trans ?_ (by assumption)) | go_size)))).mono ?_; rintro e w1 ⟨rfl, hb⟩; have hc := hb.cellE; have hf := hb.frozenE; have hz := hb.size; have ha := alloc_keeps w1; (try simp only [World.size_alloc] at hc hf hz); (try simp only [World.size_setCell] at hc hf hz); (try simp only [World.size_drew] at hc hf hz)) | (go_at_call 46; refine (rCount_c _ _ H.out (by (repeat' (first | (with_reducible assumption) | (with_reducible exact Ext.refl _) | (with_reducible refine Ext.alloc ?_ _) | (with_reducible refine Ext.drew ?_) | (with_reducible refine Ext.drewN ?_ _) | (with_reducible refine Ext.setCell ?_ ?_ _) | (with_reducible refine Ext.trans ?_ (by assumption)) | go_size)))).mono ?_; rintro e w2 ⟨rfl, hb2⟩; rw [HM.out]; have hc2 := hb2.cellE; have hf2 := hb2.frozenE; have hz2 := hb2.size; have ha2 := alloc_keeps w2; (try simp only [World.size_alloc] at hc2 hf2 hz2); (try simp only [World.size_setCell] at hc2 hf2 hz2); (try simp only [World.size_drew] at hc2 hf2 hz2)))
      go_ret3
      exact ⟨rfl, by (repeat' (first | (with_reducible assumption) | (with_reducible exact Ext.refl _) | (with_reducible refine Ext.alloc ?_ _) | (with_reducible refine Ext.drew ?_) | (with_reducible refine Ext.drewN ?_ _) | (with_reducible refine Ext.setCell ?_ ?_ _) | (with_reducible refine Ext.trans ?_ (by assumption)) | go_size))⟩
    · have m1 : ((m : Int) == 0) = false := by simp; omega
      have m2 : (m == 0) = false := by simp; omega
      have h0' : 0 < m := by omega
      have hB' : f < 0 ∨ t ≤ f ∨ 1000001 < t ∨ 60 < t - f := by
        by_cases q1 : spB f t = true
        · rw [q1] at hB
          simp [h0'] at hB
          omega
        · have := spB_f.1 (Bool.eq_false_iff.2 q1)
          omega
      clear hB
      by_cases h1 : f < 0
      · clear hB'
        go_enter Tryd.func29, Tryd.ntmps29
        go_wp2_with (first | (go_at_call 45; refine (rValid_c _ _ H.out (by (repeat' (first | (with_reducible assumption) | (with_reducible exact Ext.refl _) | (with_reducible refine Ext.alloc ?_ _) | (with_reducible refine Ext.drew ?_) | (with_reducible refine Ext.drewN ?_ _) | (with_reducible refine Ext.setCell ?_ ?_ _) | (with_reducible refine Ext.trans ?_ (by assumption)) | go_size)))).mono ?_; rintro e w1 ⟨rfl, hb⟩; have hc := hb.cellE; have hf := hb.frozenE; have hz := hb.size; have ha := alloc_keeps w1; (try simp only [World.size_alloc] at hc hf hz); (try simp only [World.size_setCell] at hc hf hz); (try simp only [World.size_drew] at hc hf hz)) | (go_at_call 46; refine (rCount_c _ _ H.out (by (repeat' (first | (with_reducible assumption) | (with_reducible exact Ext.refl _) | (with_reducible refine Ext.alloc ?_ _) | (with_reducible refine Ext.drew ?_) | (with_reducible refine Ext.drewN ?_ _) | (with_reducible refine Ext.setCell ?_ ?_ _) | (with_reducible refine Ext.trans ?_ (by assumption)) | go_size)))).mono ?_; rintro e w2 ⟨rfl, hb2⟩; rw [HM.out]; have hc2 := hb2.cellE; have hf2 := hb2.frozenE; have hz2 := hb2.size; have ha2 := alloc_keeps w2; (try simp only [World.size_alloc] at hc2 hf2 hz2); (try simp only [World.size_setCell] at hc2 hf2 hz2); (try simp only [World.size_drew] at hc2 hf2 hz2)))
        go_ret3
        exact ⟨rfl, by (repeat' (first | (with_reducible assumption) | (with_reducible exact Ext.refl _) | (with_reducible refine Ext.alloc ?_ _) | (with_reducible refine Ext.drew ?_) | (with_reducible refine Ext.drewN ?_ _) | (with_reducible refine Ext.setCell ?_ ?_ _) | (with_reducible refine Ext.trans ?_ (by assumption)) | go_size))⟩
      by_cases h2 : t ≤ f
      · clear hB'
        go_enter Tryd.func29, Tryd.ntmps29
        go_wp2_with (first | (go_at_call 45; refine (rValid_c _ _ H.out (by (repeat' (first | (with_reducible assumption) | (with_reducible exact Ext.refl _) | (with_reducible refine Ext.alloc ?_ _) | (with_reducible refine Ext.drew ?_) | (with_reducible refine Ext.drewN ?_ _) | (with_reducible refine Ext.setCell ?_ ?_ _) | (with_reducible refine Ext.trans ?_ (by assumption)) | go_size)))).mono ?_; rintro e w1 ⟨rfl, hb⟩; have hc := hb.cellE; have hf := hb.frozenE; have hz := hb.size; have ha := alloc_keeps w1; (try simp only [World.size_alloc] at hc hf hz); (try simp only [World.size_setCell] at hc hf hz); (try simp only [World.size_drew] at hc hf hz)) | (go_at_call 46; refine (rCount_c _ _ H.out (by (repeat' (first | (with_reducible assumption) | (with_reducible exact Ext.refl _) | (with_reducible refine Ext.alloc ?_ _) | (with_reducible refine Ext.drew ?_) | (with_reducible refine Ext.drewN ?_ _) | (with_reducible refine Ext.setCell ?_ ?_ _) | (with_reducible refine Ext.trans ?_ (by assumption)) | go_size)))).mono ?_; rintro e w2 ⟨rfl, hb2⟩; rw [HM.out]; have hc2 := hb2.cellE; have hf2 := hb2.frozenE; have hz2 := hb2.size; have ha2 := alloc_keeps w2; (try simp only [World.size_alloc] at hc2 hf2 hz2); (try simp only [World.size_setCell] at hc2 hf2 hz2); (try simp only [World.size_drew] at hc2 hf2 hz2)))
        go_ret3
        exact ⟨rfl, by (repeat' (first | (with_reducible assumption) | (with_reducible exact Ext.refl _) | (with_reducible refine Ext.alloc ?_ _) | (with_reducible refine Ext.drew ?_) | (with_reducible refine Ext.drewN ?_ _) | (with_reducible refine Ext.setCell ?_ ?_ _) | (with_reducible refine Ext.trans ?_ (by assumption)) | go_size))⟩
      by_cases h3 : 1000001 < t
      · clear hB'
        go_enter Tryd.func29, Tryd.ntmps29
        go_wp2_with (first | (go_at_call 45; refine (rValid_c _ _ H.out (by (repeat' (first | (with_reducible assumption) | (with_reducible exact Ext.refl _) | (with_reducible refine Ext.alloc ?_ _) | (with_reducible refine Ext.drew ?_) | (with_reducible refine Ext.drewN ?_ _) | (with_reducible refine Ext.setCell ?_ ?_ _) | (with_reducible refine Ext.trans ?_ (by assumption)) | go_size)))).mono ?_; rintro e w1 ⟨rfl, hb⟩; have hc := hb.cellE; have hf := hb.frozenE; have hz := hb.size; have ha := alloc_keeps w1; (try simp only [World.size_alloc] at hc hf hz); (try simp only [World.size_setCell] at hc hf hz); (try simp only [World.size_drew] at hc hf hz)) | (go_at_call 46; refine (rCount_c _ _ H.out (by (repeat' (first | (with_reducible assumption) | (with_reducible exact Ext.refl _) | (with_reducible refine Ext.alloc ?_ _) | (with_reducible refine Ext.drew ?_) | (with_reducible refine Ext.drewN ?_ _) | (with_reducible refine Ext.setCell ?_ ?_ _) | (with_reducible refine Ext.trans ?_ (by assumption)) | go_size)))).mono ?_; rintro e w2 ⟨rfl, hb2⟩; rw [HM.out]; have hc2 := hb2.cellE; have hf2 := hb2.frozenE; have hz2 := hb2.size; have ha2 := alloc_keeps w2; (try simp only [World.size_alloc] at hc2 hf2 hz2); (try simp only [World.size_setCell] at hc2 hf2 hz2); (try simp only [World.size_drew] at hc2 hf2 hz2)))
        go_ret3
        exact ⟨rfl, by (repeat' (first | (with_reducible assumption) | (with_reducible exact Ext.refl _) | (with_reducible refine Ext.alloc ?_ _) | (with_reducible refine Ext.drew ?_) | (with_reducible refine Ext.drewN ?_ _) | (with_reducible refine Ext.setCell ?_ ?_ _) | (with_reducible refine Ext.trans ?_ (by assumption)) | go_size))⟩
      have h4 : 60 < t - f := by omega
      have k1 : 0 ≤ f := by omega
      have k2 : f < t := by omega
      have k3 : t ≤ 1000001 := by omega
      clear hB'
      go_enter Tryd.func29, Tryd.ntmps29
      go_wp2_with (first | (go_at_call 45; refine (rValid_c _ _ H.out (by (repeat' (first | (with_reducible assumption) | (with_reducible exact Ext.refl _) | (with_reducible refine Ext.alloc ?_ _) | (with_reducible refine Ext.drew ?_) | (with_reducible refine Ext.drewN ?_ _) | (with_reducible refine Ext.setCell ?_ ?_ _) | (with_reducible refine Ext.trans ?_ (by assumption)) | go_size)))).mono ?_; rintro e w1 ⟨rfl, hb⟩; have hc := hb.cellE; have hf := hb.frozenE; have hz := hb.size; have ha := alloc_keeps w1; (try simp only [World.size_alloc] at hc hf hz); (try simp only [World.size_setCell] at hc hf hz); (try simp only [World.size_drew] at hc hf hz)) | (go_at_call 46; refine (rCount_c _ _ H.out (by (repeat' (first | (with_reducible assumption) | (with_reducible exact Ext.refl _) | (with_reducible refine Ext.alloc ?_ _) | (with_reducible refine Ext.drew ?_) | (with_reducible refine Ext.drewN ?_ _) | (with_reducible refine Ext.setCell ?_ ?_ _) | (with_reducible refine Ext.trans ?_ (by assumption)) | go_size)))).mono ?_; rintro e w2 ⟨rfl, hb2⟩; rw [HM.out]; have hc2 := hb2.cellE; have hf2 := hb2.frozenE; have hz2 := hb2.size; have ha2 := alloc_keeps w2; (try simp only [World.size_alloc] at hc2 hf2 hz2); (try simp only [World.size_setCell] at hc2 hf2 hz2); (try simp only [World.size_drew] at hc2 hf2 hz2)))
      go_ret3
      exact ⟨rfl, by (repeat' (first | (with_reducible assumption) | (with_reducible exact Ext.refl _) | (with_reducible refine Ext.alloc ?_ _) | (with_reducible refine Ext.drew ?_) | (with_reducible refine Ext.drewN ?_ _) | (with_reducible refine Ext.setCell ?_ ?_ _) | (with_reducible refine Ext.trans ?_ (by assumption)) | go_size))⟩

end Go.Proofs.YtknlnmalaidaiaaDoor
