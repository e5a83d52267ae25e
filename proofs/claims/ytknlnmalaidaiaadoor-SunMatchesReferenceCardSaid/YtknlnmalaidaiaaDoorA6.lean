/- Contract of the sun's reference: Area. -/
import Derived.Test.YtknlnmalaidaiaaDoorWM
import Derived.Test.YtknlnmalaidaiaaDoorWR
import Derived.Test.YtknlnmalaidaiaaDoorP6
namespace Go.Proofs.YtknlnmalaidaiaaDoor
open Go.RowKit

/-- The slice at a (n elements) reads as pairs of ints. -/
def PsAt (w : World) (a : Option Addr) (n : Nat) (q : Nat → Nat → Int) : Prop :=
  n = 0 ∨ ∃ b off, a = some ⟨b, off, none⟩ ∧ ∀ i, i < n → ∀ j, j < 2 → w.cell? ⟨b, off + i * 2 + j, none⟩ = some (.int .i64 (q i j)) ∧ IsI (q i j)
theorem PsAt.ext {w w' : World} {a : Option Addr} {n : Nat} {q : Nat → Nat → Int} (h : PsAt w a n q) (hE : Ext w w') : PsAt w' a n q :=
  h.imp id fun ⟨b, off, ha, hc⟩ => ⟨b, off, ha, fun i hi j hj => ⟨hE.cell (hc i hi j hj).1, (hc i hi j hj).2⟩⟩

/-- In the midst: the area has a cell. -/
def Mk6 (w : World) (O B : Nat) (wr : World) : Prop :=
  (∃ L, Globe.validL L = true ∧ Globe.hasL L 0 12 = true ∧ RowsAt wr B L) ∧ wr.cell? ⟨O, 0, none⟩ = some (.slice (some ⟨B, 0, none⟩) 24 24) ∧ BoxAt wr w.heap.size 0 (.slice none 0 0) ∧ Ext w wr
def RetM6 (w : World) (e : Ending) (w' : World) : Prop :=
  ∃ (B : Nat) (L : List Int), e = .returned (.agg #[.slice (some ⟨B, 0, none⟩) 24 24]) ∧ w.heap.size ≤ B ∧ Globe.validL L = true ∧ Globe.hasL L 0 12 = true ∧ RowsAt w' B L ∧ VA w' B 0 L ∧ Ext w w'

def oneL : List Int := [0, 0, 0, 0, 0, 0, 0, 0, 0, 0, 0, 0, 1, 0, 0, 0, 0, 0, 0, 0, 0, 0, 0, 0]
theorem oneL_v : Globe.validL oneL = true := by decide +kernel
theorem oneL_h : Globe.hasL oneL 0 12 = true := by decide +kernel

set_option maxHeartbeats 4000000 in
theorem Area_c {w0 : World} {a : Option Addr} {n : Nat} (c : Nat) {q : Nat → Nat → Int} (w : World) (h : PsAt w0 a n q) (hE0 : Ext w0 w) (hn : n ≤ 9223372036854775807) :
    Calls Tryd.prog 26 #[.slice a n c] w (RetM6 w) := by
  have H := Lib.hid (h.ext hE0); clear h hE0
  have hmk := make24
  go_enter Tryd.func26, Tryd.ntmps26
  go_wp2_with fail
  refine wp_name (fun V => Mk6 w (w.heap.size + 1 + 1) (w.heap.size + 1) V) ⟨⟨oneL, oneL_v, oneL_h, ?_⟩, by simp [go_sem], ⟨by simp [go_sem], by simp [go_sem]⟩, by (repeat' (first | (with_reducible assumption) | (with_reducible exact Ext.refl _) | (with_reducible refine Ext.alloc ?_ _) | (with_reducible refine Ext.drew ?_) | (with_reducible refine Ext.drewN ?_ _) | (with_reducible refine Ext.setCell ?_ ?_ _) | (with_reducible refine Ext.trans ?_ (by assumption)) | go_size))⟩ ?_
  · have := (RowsAt.new (w.alloc (.cells #[.slice none 0 0] 27)) oneL 3 rfl).ext (Ext.alloc (Ext.refl _) (.cells #[.slice (some ⟨w.heap.size + 1, 0, none⟩) 24 24] 27))
    rwa [World.size_alloc] at this
  intro V hF
  obtain ⟨B, hB⟩ : ∃ B, B = w.heap.size + 1 := ⟨_, rfl⟩
  rw [← hB] at hF ⊢
  have hwB : w.heap.size < B := by omega
  clear hB hmk
  go_loopw [4] (fun p wr => ∃ i : Nat, i ≤ n ∧ p = .int .i64 i ∧ Mk6 w (B + 1) B wr) (fun p _ => n - (intOf p).toNat)
  case atStart => exact ⟨0, by omega, rfl, hF⟩
  case round =>
    clear hF
    obtain ⟨i, hi, rfl, hF⟩ := hrel
    by_cases hlt : i < n
    · by_cases hl8 : i < 12
      · obtain ⟨b, off, rfl, hq⟩ : ∃ b off, a = some ⟨b, off, none⟩ ∧ ∀ i, i < n → ∀ j, j < 2 → w.cell? ⟨b, off + i * 2 + j, none⟩ = some (.int .i64 (q i j)) ∧ IsI (q i j) := H.out.resolve_left (by omega)
        have q0 : w.cell? ⟨b, off + i * 2, none⟩ = some (.int .i64 (q i 0)) := (hq i hlt 0 (by omega)).1
        have q1 := (hq i hlt 1 (by omega)).1
        have I0 := Lib.hid (hq i hlt 0 (by omega)).2
        have I1 := Lib.hid (hq i hlt 1 (by omega)).2
        clear hq
        have i0 : (0 : Int) ≤ (i : Int) := by omega
        have i1 : (i : Int) < (n : Int) := by omega
        obtain ⟨⟨L, hv, hh, hr⟩, cO, b2, hE⟩ := hF
        replace q0 := hE.cell q0
        replace q1 := hE.cell q1
        have lO := World.block_lt_of_cell? wr _ cO
        obtain ⟨X, hX⟩ : ∃ X : Nat, pickF (q i 0) 48 = (X : Int) := ⟨(pickF (q i 0) 48).toNat, by have := @pickF_bd (q i 0) 48 (by omega); omega⟩
        obtain ⟨Y, hY⟩ : ∃ Y : Nat, pickF (q i 1) 24 = (Y : Int) := ⟨(pickF (q i 1) 24).toNat, by have := @pickF_bd (q i 1) 24 (by omega); omega⟩
        have hX48 : X < 48 := by have := @pickF_bd (q i 0) 48 (by omega); omega
        have hY24 : Y < 24 := by have := @pickF_bd (q i 1) 24 (by omega); omega
        have HX := Lib.hid hX; have HY := Lib.hid hY; clear hX hY
        go_wp2_with (go_at_call 12; refine (rCell_c _ _ _ I0.out I1.out).mono ?_; rintro e w1 ⟨rfl, hb⟩; rw [HX.out, HY.out]; have hc := hb.cellE; have hf := hb.frozenE; have hz := hb.size; have ha := alloc_keeps w1; (try simp only [World.size_alloc] at hc hf hz); (try simp only [World.size_setCell] at hc hf hz); (try simp only [World.size_drew] at hc hf hz))
        obtain ⟨O5, hO5⟩ : ∃ O, O = w1.heap.size := ⟨_, rfl⟩
        rw [← hO5]
        have hO5B : B + 1 < O5 := by omega
        refine wp_name (fun V => V.cell? ⟨O5, 0, none⟩ = some (.int .i64 (X : Int)) ∧ V.cell? ⟨O5, 1, none⟩ = some (.int .i64 (Y : Int)) ∧ RowsAt V B L ∧ V.cell? ⟨B + 1, 0, none⟩ = some (.slice (some ⟨B, 0, none⟩) 24 24) ∧ BoxAt V w.heap.size 0 (.slice none 0 0) ∧ Ext w V) ⟨by rw [hO5]; simp [go_sem], by rw [hO5]; simp [go_sem], hr.ext (by first | exact hb | exact Ext.alloc hb _ | exact Ext.alloc (Ext.alloc hb _) _), Ext.cell (by first | exact hb | exact Ext.alloc hb _ | exact Ext.alloc (Ext.alloc hb _) _) cO, BoxAt.ext (by first | exact hb | exact Ext.alloc hb _ | exact Ext.alloc (Ext.alloc hb _) _) b2, hE.trans (by first | exact hb | exact Ext.alloc hb _ | exact Ext.alloc (Ext.alloc hb _) _)⟩ ?_
        clear hc hf hz ha hb hr cO b2 hE q0 q1
        rintro V ⟨x5, y5, hr, cO, b2, hE⟩
        clear hO5 lO
        have lB := hr.lt
        have d3 : V.cell? ⟨B, Y, none⟩ = some (.int .i64 (Globe.rowN L Y : Nat)) := by rw [← Globe.rowN_cast hv]; exact hr.cell hY24
        have d4 := hr.free hY24
        have hR := Globe.rowN_lt hv Y
        obtain ⟨s0, s1, s2⟩ := p2_shl (n := X) (by omega)
        have s3 : bits .or .i64 (Globe.rowN L Y : Nat) (p2 X : Nat) = ((Globe.rowN L Y ||| p2 X : Nat) : Int) := or_i64 _ _ (by omega) (by omega)
        have y0 : (0 : Int) ≤ (Y : Int) := by omega
        have y1 : (Y : Int) < 24 := by omega
        have hput : L.set Y ((Globe.rowN L Y ||| p2 X : Nat) : Int) = Globe.putL L X Y := rfl
        have hpv : Globe.validL (Globe.putL L X Y) = true := Globe.valid_put hv hX48
        have hph : Globe.hasL (Globe.putL L X Y) 0 12 = true := by rw [Globe.has_put (by rw [Globe.len_of_valid hv]; exact hY24), hh]; rfl
        have Hput := Lib.hid hput; have Hpv := Lib.hid (And.intro hpv hph)
        clear s1 s2 hput hpv hph hv hh
        generalize Globe.rowN L Y ||| p2 X = RO at *
        have Hr := Lib.hid hr; clear hr
        go_wp2_with fail
        -- <<area
        refine wp_region_held_drew (S := fun w' => w'.cell? ⟨B + 1, 0, none⟩ = some (.slice (some ⟨B, 0, none⟩) 24 24) ∧ w'.cell? ⟨O5, 0, none⟩ = some (.int .i64 (X : Int)) ∧ w'.cell? ⟨O5, 1, none⟩ = some (.int .i64 (Y : Int))) (by kernel_rfl) ⟨cO, x5, y5⟩ (fun hHeld => ?_)
        (refine rg_take 0 (v := ?_) rfl (by kernel_rfl) (by kernel_rfl) (by kernel_rfl) (fun _ _ _ h => h) (by kernel_rfl) ?_ (by with_reducible assumption) ?_; rotate_left; (focus (intro w hSw; (try dsimp only at hSw); go_simp; (try with_reducible rfl))); (try simp only [Act.put, List.setIfInBounds_toArray, List.set_cons_zero, List.set_cons_succ]))
        (refine rg_take 1 (v := ?_) rfl (by kernel_rfl) (by kernel_rfl) (by kernel_rfl) (fun _ _ _ h => h) (by kernel_rfl) ?_ (by with_reducible assumption) ?_; rotate_left; (focus (intro w hSw; (try dsimp only at hSw); go_simp; (try with_reducible rfl))); (try simp only [Act.put, List.setIfInBounds_toArray, List.set_cons_zero, List.set_cons_succ]))
        (refine rg_take 2 (v := ?_) rfl (by kernel_rfl) (by kernel_rfl) (by kernel_rfl) (fun _ _ _ h => h) (by kernel_rfl) ?_ (by with_reducible assumption) ?_; rotate_left; (focus (intro w hSw; (try dsimp only at hSw); go_simp; (try with_reducible rfl))); (try simp only [Act.put, List.setIfInBounds_toArray, List.set_cons_zero, List.set_cons_succ]))
        (refine rg_take 3 (v := ?_) rfl (by kernel_rfl) (by kernel_rfl) (by kernel_rfl) (fun _ _ _ h => h) (by kernel_rfl) ?_ (by with_reducible assumption) ?_; rotate_left; (focus (intro w hSw; (try dsimp only at hSw); go_simp; (try with_reducible rfl))); (try simp only [Act.put, List.setIfInBounds_toArray, List.set_cons_zero, List.set_cons_succ]))
        (refine rg_take 4 (v := ?_) rfl (by kernel_rfl) (by kernel_rfl) (by kernel_rfl) (fun _ _ _ h => h) (by kernel_rfl) ?_ (by with_reducible assumption) ?_; rotate_left; (focus (intro w hSw; (try dsimp only at hSw); go_simp; (try with_reducible rfl))); (try simp only [Act.put, List.setIfInBounds_toArray, List.set_cons_zero, List.set_cons_succ]))
        (refine rg_take 5 (v := ?_) rfl (by kernel_rfl) (by kernel_rfl) (by kernel_rfl) (fun _ _ _ h => h) (by kernel_rfl) ?_ (by with_reducible assumption) ?_; rotate_left; (focus (intro w hSw; (try dsimp only at hSw); go_simp; (try with_reducible rfl))); (try simp only [Act.put, List.setIfInBounds_toArray, List.set_cons_zero, List.set_cons_succ]))
        (refine rg_take 6 (v := ?_) rfl (by kernel_rfl) (by kernel_rfl) (by kernel_rfl) (fun _ _ _ h => h) (by kernel_rfl) ?_ (by with_reducible assumption) ?_; rotate_left; (focus (intro w hSw; (try dsimp only at hSw); go_simp; (try with_reducible rfl))); (try simp only [Act.put, List.setIfInBounds_toArray, List.set_cons_zero, List.set_cons_succ]))
        (refine rg_take 7 (v := ?_) rfl (by kernel_rfl) (by kernel_rfl) (by kernel_rfl) (fun _ _ _ h => h) (by kernel_rfl) ?_ (by with_reducible assumption) ?_; rotate_left; (focus (intro w hSw; (try dsimp only at hSw); go_simp; (try with_reducible rfl))); (try simp only [Act.put, List.setIfInBounds_toArray, List.set_cons_zero, List.set_cons_succ]))
        (refine rg_take 8 (v := ?_) rfl (by kernel_rfl) (by kernel_rfl) (by kernel_rfl) (fun _ _ _ h => h) (by kernel_rfl) ?_ (by with_reducible assumption) ?_; rotate_left; (focus (intro w hSw; (try dsimp only at hSw); go_simp; (try with_reducible rfl))); (try simp only [Act.put, List.setIfInBounds_toArray, List.set_cons_zero, List.set_cons_succ]))
        (refine rg_take 10 (v := ?_) rfl (by kernel_rfl) (by kernel_rfl) (by kernel_rfl) (fun _ _ _ h => h) (by kernel_rfl) ?_ (by with_reducible assumption) ?_; rotate_left; (focus (intro w hSw; (try dsimp only at hSw); go_simp; (try with_reducible rfl))); (try simp only [Act.put, List.setIfInBounds_toArray, List.set_cons_zero, List.set_cons_succ]))
        (refine rg_take 11 (v := ?_) rfl (by kernel_rfl) (by kernel_rfl) (by kernel_rfl) (fun _ _ _ h => h) (by kernel_rfl) ?_ (by with_reducible assumption) ?_; rotate_left; (focus (intro w hSw; (try dsimp only at hSw); go_simp; (try with_reducible rfl))); (try simp only [Act.put, List.setIfInBounds_toArray, List.set_cons_zero, List.set_cons_succ]))
        (refine rg_take 12 (v := ?_) rfl (by kernel_rfl) (by kernel_rfl) (by kernel_rfl) (fun _ _ _ h => h) (by kernel_rfl) ?_ (by with_reducible assumption) ?_; rotate_left; (focus (intro w hSw; (try dsimp only at hSw); go_simp; (try with_reducible rfl))); (try simp only [Act.put, List.setIfInBounds_toArray, List.set_cons_zero, List.set_cons_succ]))
        refine rg_step 9 rfl (by kernel_rfl) (by kernel_rfl) (fun K hK => ?_)
        (go_simp; skip; refine hK.out _ _ (hHeld) (fun hHeld => ?_); clear hK K; (try simp only [Act.put, List.setIfInBounds_toArray, List.set_cons_zero, List.set_cons_succ]))
        (refine rg_take 13 (v := ?_) rfl (by kernel_rfl) (by kernel_rfl) (by kernel_rfl) (fun _ _ _ h => h) (by kernel_rfl) ?_ (by with_reducible assumption) ?_; rotate_left; (focus (intro w hSw; (try dsimp only at hSw); go_simp; (try with_reducible rfl))); (try simp only [Act.put, List.setIfInBounds_toArray, List.set_cons_zero, List.set_cons_succ]))
        (refine rg_take 14 (v := ?_) rfl (by kernel_rfl) (by kernel_rfl) (by kernel_rfl) (fun _ _ _ h => h) (by kernel_rfl) ?_ (by with_reducible assumption) ?_; rotate_left; (focus (intro w hSw; (try dsimp only at hSw); go_simp; (try with_reducible rfl))); (try simp only [Act.put, List.setIfInBounds_toArray, List.set_cons_zero, List.set_cons_succ]))
        refine rg_step 15 rfl (by kernel_rfl) (by kernel_rfl) (fun K hK => ?_)
        (go_simp; skip; refine hK.out _ _ (⟨by simp [go_sem, cO], by simp [go_sem, x5], by simp [go_sem, y5]⟩) (fun hHeld => ?_); clear hK K; (try simp only [Act.put, List.setIfInBounds_toArray, List.set_cons_zero, List.set_cons_succ]))
        refine wpAnyH_done (by kernel_rfl) ?_ _
        go_wp2
        go_roundw
        case rel =>
          refine ⟨i + 1, by omega, by go_num, ⟨_, Hpv.out.1, Hpv.out.2, ?_⟩, hHeld.1, (b2.drew).other (p := ⟨B, Y, none⟩) (by show B ≠ _; omega) _, by (repeat' (first | (with_reducible assumption) | (with_reducible exact Ext.refl _) | (with_reducible refine Ext.alloc ?_ _) | (with_reducible refine Ext.drew ?_) | (with_reducible refine Ext.drewN ?_ _) | (with_reducible refine Ext.setCell ?_ ?_ _) | (with_reducible refine Ext.trans ?_ (by assumption)) | go_size))⟩
          rw [← Hput.out]
          exact (Hr.out.drew).set hY24 _
        case measure => simp [intOf]; omega
        -- >>
      · obtain ⟨⟨L, hv, hh, hr⟩, cO, ⟨c2, f2⟩, hE⟩ := hF
        go_wp2_with fail
        have hr3 := hr.other (p := ⟨w.heap.size, 0, none⟩) (by show w.heap.size ≠ B; omega) (.slice (some ⟨B, 0, none⟩) 24 24)
        exact bodyPost_ret (v := .agg #[.slice (some ⟨B, 0, none⟩) 24 24]) (by simp [results, Tryd.results26, go_sem, c2]) rfl ⟨B, L, rfl, by omega, hv, hh, hr3, hr3.va hv, by (repeat' (first | (with_reducible assumption) | (with_reducible exact Ext.refl _) | (with_reducible refine Ext.alloc ?_ _) | (with_reducible refine Ext.drew ?_) | (with_reducible refine Ext.drewN ?_ _) | (with_reducible refine Ext.setCell ?_ ?_ _) | (with_reducible refine Ext.trans ?_ (by assumption)) | go_size))⟩
    · obtain rfl : i = n := by omega
      obtain ⟨⟨L, hv, hh, hr⟩, cO, ⟨c2, f2⟩, hE⟩ := hF
      go_wp2_with fail
      have hr3 := hr.other (p := ⟨w.heap.size, 0, none⟩) (by show w.heap.size ≠ B; omega) (.slice (some ⟨B, 0, none⟩) 24 24)
      exact bodyPost_ret (v := .agg #[.slice (some ⟨B, 0, none⟩) 24 24]) (by simp [results, Tryd.results26, go_sem, c2]) rfl ⟨B, L, rfl, by omega, hv, hh, hr3, hr3.va hv, by (repeat' (first | (with_reducible assumption) | (with_reducible exact Ext.refl _) | (with_reducible refine Ext.alloc ?_ _) | (with_reducible refine Ext.drew ?_) | (with_reducible refine Ext.drewN ?_ _) | (with_reducible refine Ext.setCell ?_ ?_ _) | (with_reducible refine Ext.trans ?_ (by assumption)) | go_size))⟩

end Go.Proofs.YtknlnmalaidaiaaDoor
