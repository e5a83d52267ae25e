/- The walk of the law SunMatchesReference. -/
import Derived.Test.YtknlnmalaidaiaaDoorS8
import Derived.Test.YtknlnmalaidaiaaDoorSB
import Derived.Test.YtknlnmalaidaiaaDoorLP
import Derived.Test.YtknlnmalaidaiaaDoorLS
namespace Go.Proofs.YtknlnmalaidaiaaDoor
open Go.RowKit
open Sun

theorem exit_name (P : World → Prop) {K : Act → World → Prop} {Q : Exit → Act → World → Prop} {e : Exit} {st : Act} {w : World} (h : P w) (hn : ∀ V, P V → Exit.then K Q e st V) : Exit.then K Q e st w := hn w h

set_option maxRecDepth 100000 in
set_option maxHeartbeats 8000000 in
theorem SunMatchesReference_walk (w : World) (v0 : Value) (o0 : Pair v0) (t : Int) (i1 : IsI t) (lit : Bool) (v3 : Value) (o3 : Pairs w v3) (v4 : Value) (o4 : AnArea w v4) (v5 : Value) (o5 : Pair v5) (hT : Tab w) :
    Calls Tryd.prog 3 #[v0, .int .i64 t, .bool lit, v3, v4, v5] w fun e w' => e = .returned (.bool true) ∧ Ext w w' := by
  obtain ⟨cx, cy, rfl, c1, c2⟩ := o0
  obtain ⟨a3, n3, k3, q3, rfl, hn3, Q3⟩ := o3
  obtain ⟨a4, n4, k4, l4, rfl, A1, A2, A3, A4, A5, A6⟩ := o4
  obtain ⟨sF, sT, rfl, f1, f2⟩ := o5
  have HT := Lib.hid hT; clear hT
  have HA := Lib.hid (And.intro A1 (And.intro A2 (And.intro A3 (And.intro A4 (And.intro A5 A6))))); clear A1 A2 A3 A4 A5 A6
  obtain ⟨A, hA⟩ : ∃ A, pickF t 1000001 = A := ⟨_, rfl⟩
  have bA := @pickF_bd t 1000001 (by omega)
  rw [hA] at bA
  obtain ⟨B, hB⟩ : ∃ B, pickF sT 12 = B := ⟨_, rfl⟩
  have bB := @pickF_bd sT 12 (by omega)
  rw [hB] at bB
  obtain ⟨X, hX⟩ : ∃ X, pickF cx 48 = X := ⟨_, rfl⟩
  obtain ⟨Y, hY⟩ : ∃ Y, pickF cy 24 = Y := ⟨_, rfl⟩
  have HPA := Lib.hid hA; have HPB := Lib.hid hB; have HXY := Lib.hid (And.intro hX hY); clear hA hB hX hY
  have HC := Lib.hid (And.intro c1 c2); have HF := Lib.hid (And.intro f1 f2); have H1 := Lib.hid i1; clear c1 c2 f1 f2 i1
  obtain ⟨bA0, bA1⟩ := bA
  obtain ⟨bB0, bB1⟩ := bB
  go_enter Tryd.func3, Tryd.ntmps3
  go_wp2_with fail
  refine calls_name (fun V => Ext w V ∧ V.cell? ⟨w.heap.size, 0, none⟩ = some (.int .i64 cx) ∧ V.cell? ⟨w.heap.size, 1, none⟩ = some (.int .i64 cy) ∧ V.cell? ⟨w.heap.size + 1, 0, none⟩ = some (.slice a4 n4 k4) ∧ V.cell? ⟨w.heap.size + 1 + 1, 0, none⟩ = some (.int .i64 sF) ∧ V.cell? ⟨w.heap.size + 1 + 1, 1, none⟩ = some (.int .i64 sT)) ⟨by (repeat' (first | (with_reducible assumption) | (with_reducible exact Ext.refl _) | (with_reducible refine Ext.alloc ?_ _) | (with_reducible refine Ext.drew ?_) | (with_reducible refine Ext.drewN ?_ _) | (with_reducible refine Ext.setCell ?_ ?_ _) | (with_reducible refine Ext.trans ?_ (by assumption)) | go_size)), by simp [go_sem], by simp [go_sem], by simp [go_sem], by simp [go_sem], by simp [go_sem]⟩ ?_
  rintro V ⟨hE, cCx, cCy, cA, cSF, cST⟩
  have lcCx : w.heap.size < V.heap.size := World.block_lt_of_cell? V _ cCx
  have lcCy : w.heap.size < V.heap.size := World.block_lt_of_cell? V _ cCy
  have lcA : w.heap.size + 1 < V.heap.size := World.block_lt_of_cell? V _ cA
  have lcSF : w.heap.size + 1 + 1 < V.heap.size := World.block_lt_of_cell? V _ cSF
  have lcST : w.heap.size + 1 + 1 < V.heap.size := World.block_lt_of_cell? V _ cST
  refine (sane_c _ (HT.out.ext hE)).mono ?_
  rintro e w1 ⟨rfl, hb⟩
  have hc := hb.cellE; have hf := hb.frozenE; have hz := hb.size; have ha := alloc_keeps w1; (try simp only [World.size_alloc] at hc hf hz); (try simp only [World.size_setCell] at hc hf hz); (try simp only [World.size_drew] at hc hf hz)
  go_wp2_with fail
  refine calls_name (fun V => Ext w V ∧ V.cell? ⟨w.heap.size, 0, none⟩ = some (.int .i64 cx) ∧ V.cell? ⟨w.heap.size, 1, none⟩ = some (.int .i64 cy) ∧ V.cell? ⟨w.heap.size + 1, 0, none⟩ = some (.slice a4 n4 k4) ∧ V.cell? ⟨w.heap.size + 1 + 1, 0, none⟩ = some (.int .i64 sF) ∧ V.cell? ⟨w.heap.size + 1 + 1, 1, none⟩ = some (.int .i64 sT)) ⟨hE.trans (by first | exact hb | exact Ext.alloc hb _ | exact Ext.alloc (Ext.alloc hb _) _), Ext.cell (by first | exact hb | exact Ext.alloc hb _ | exact Ext.alloc (Ext.alloc hb _) _) cCx, Ext.cell (by first | exact hb | exact Ext.alloc hb _ | exact Ext.alloc (Ext.alloc hb _) _) cCy, Ext.cell (by first | exact hb | exact Ext.alloc hb _ | exact Ext.alloc (Ext.alloc hb _) _) cA, Ext.cell (by first | exact hb | exact Ext.alloc hb _ | exact Ext.alloc (Ext.alloc hb _) _) cSF, Ext.cell (by first | exact hb | exact Ext.alloc hb _ | exact Ext.alloc (Ext.alloc hb _) _) cST⟩ ?_
  clear hE cCx cCy cA cSF cST lcCx lcCy lcA lcSF lcST hb hc hf hz ha
  rintro V ⟨hE, cCx, cCy, cA, cSF, cST⟩
  have lcCx : w.heap.size < V.heap.size := World.block_lt_of_cell? V _ cCx
  have lcCy : w.heap.size < V.heap.size := World.block_lt_of_cell? V _ cCy
  have lcA : w.heap.size + 1 < V.heap.size := World.block_lt_of_cell? V _ cA
  have lcSF : w.heap.size + 1 + 1 < V.heap.size := World.block_lt_of_cell? V _ cSF
  have lcST : w.heap.size + 1 + 1 < V.heap.size := World.block_lt_of_cell? V _ cST
  refine (rCell_c cx cy _ HC.out.1 HC.out.2).mono ?_
  rintro e w1 ⟨rfl, hb⟩
  have hc := hb.cellE; have hf := hb.frozenE; have hz := hb.size; have ha := alloc_keeps w1; (try simp only [World.size_alloc] at hc hf hz); (try simp only [World.size_setCell] at hc hf hz); (try simp only [World.size_drew] at hc hf hz)
  rw [HXY.out.1, HXY.out.2]
  go_wp2_with fail
  obtain ⟨Oc, hO⟩ : ∃ O, O = w1.heap.size := ⟨_, rfl⟩
  rw [← hO]
  refine calls_name (fun V => Ext w V ∧ V.cell? ⟨w.heap.size, 0, none⟩ = some (.int .i64 cx) ∧ V.cell? ⟨w.heap.size, 1, none⟩ = some (.int .i64 cy) ∧ V.cell? ⟨w.heap.size + 1, 0, none⟩ = some (.slice a4 n4 k4) ∧ V.cell? ⟨w.heap.size + 1 + 1, 0, none⟩ = some (.int .i64 sF) ∧ V.cell? ⟨w.heap.size + 1 + 1, 1, none⟩ = some (.int .i64 sT) ∧ V.cell? ⟨Oc, 0, none⟩ = some (.int .i64 X) ∧ V.cell? ⟨Oc, 1, none⟩ = some (.int .i64 Y)) ⟨hE.trans (by first | exact hb | exact Ext.alloc hb _ | exact Ext.alloc (Ext.alloc hb _) _), Ext.cell (by first | exact hb | exact Ext.alloc hb _ | exact Ext.alloc (Ext.alloc hb _) _) cCx, Ext.cell (by first | exact hb | exact Ext.alloc hb _ | exact Ext.alloc (Ext.alloc hb _) _) cCy, Ext.cell (by first | exact hb | exact Ext.alloc hb _ | exact Ext.alloc (Ext.alloc hb _) _) cA, Ext.cell (by first | exact hb | exact Ext.alloc hb _ | exact Ext.alloc (Ext.alloc hb _) _) cSF, Ext.cell (by first | exact hb | exact Ext.alloc hb _ | exact Ext.alloc (Ext.alloc hb _) _) cST, by rw [hO]; simp [go_sem], by rw [hO]; simp [go_sem]⟩ ?_
  clear hE cCx cCy cA cSF cST lcCx lcCy lcA lcSF lcST hb hc hf hz ha hO
  rintro V ⟨hE, cCx, cCy, cA, cSF, cST, cOcx, cOcy⟩
  have lcCx : w.heap.size < V.heap.size := World.block_lt_of_cell? V _ cCx
  have lcCy : w.heap.size < V.heap.size := World.block_lt_of_cell? V _ cCy
  have lcA : w.heap.size + 1 < V.heap.size := World.block_lt_of_cell? V _ cA
  have lcSF : w.heap.size + 1 + 1 < V.heap.size := World.block_lt_of_cell? V _ cSF
  have lcST : w.heap.size + 1 + 1 < V.heap.size := World.block_lt_of_cell? V _ cST
  have lcOcx : Oc < V.heap.size := World.block_lt_of_cell? V _ cOcx
  have lcOcy : Oc < V.heap.size := World.block_lt_of_cell? V _ cOcy
  refine (pick_c t 1000001 _ H1.out (by omega) (by omega)).mono ?_
  rintro e w' ⟨rfl, rfl⟩
  rw [HPA.out]
  go_wp2_with fail
  obtain ⟨Bt, hO⟩ : ∃ O, O = V.heap.size := ⟨_, rfl⟩
  rw [← hO]
  refine wp_name (fun V => Ext w V ∧ V.cell? ⟨w.heap.size, 0, none⟩ = some (.int .i64 cx) ∧ V.cell? ⟨w.heap.size, 1, none⟩ = some (.int .i64 cy) ∧ V.cell? ⟨w.heap.size + 1, 0, none⟩ = some (.slice a4 n4 k4) ∧ V.cell? ⟨w.heap.size + 1 + 1, 0, none⟩ = some (.int .i64 sF) ∧ V.cell? ⟨w.heap.size + 1 + 1, 1, none⟩ = some (.int .i64 sT) ∧ V.cell? ⟨Oc, 0, none⟩ = some (.int .i64 X) ∧ V.cell? ⟨Oc, 1, none⟩ = some (.int .i64 Y) ∧ V.cell? ⟨Bt, 0, none⟩ = some (.int .i64 t) ∧ V.cell? ⟨Bt, 1, none⟩ = some (.int .i64 A)) ⟨Ext.alloc hE _, Ext.cell (Ext.alloc (Ext.refl _) _) cCx, Ext.cell (Ext.alloc (Ext.refl _) _) cCy, Ext.cell (Ext.alloc (Ext.refl _) _) cA, Ext.cell (Ext.alloc (Ext.refl _) _) cSF, Ext.cell (Ext.alloc (Ext.refl _) _) cST, Ext.cell (Ext.alloc (Ext.refl _) _) cOcx, Ext.cell (Ext.alloc (Ext.refl _) _) cOcy, by rw [hO]; simp [go_sem], by rw [hO]; simp [go_sem]⟩ ?_
  clear hE hO cCx cCy cA cSF cST cOcx cOcy lcCx lcCy lcA lcSF lcST lcOcx lcOcy
  rintro V ⟨hE, cCx, cCy, cA, cSF, cST, cOcx, cOcy, cT0, cT1⟩
  have lcCx : w.heap.size < V.heap.size := World.block_lt_of_cell? V _ cCx
  have lcCy : w.heap.size < V.heap.size := World.block_lt_of_cell? V _ cCy
  have lcA : w.heap.size + 1 < V.heap.size := World.block_lt_of_cell? V _ cA
  have lcSF : w.heap.size + 1 + 1 < V.heap.size := World.block_lt_of_cell? V _ cSF
  have lcST : w.heap.size + 1 + 1 < V.heap.size := World.block_lt_of_cell? V _ cST
  have lcOcx : Oc < V.heap.size := World.block_lt_of_cell? V _ cOcx
  have lcOcy : Oc < V.heap.size := World.block_lt_of_cell? V _ cOcy
  have lcT0 : Bt < V.heap.size := World.block_lt_of_cell? V _ cT0
  have lcT1 : Bt < V.heap.size := World.block_lt_of_cell? V _ cT1
  obtain ⟨V1, hV1⟩ : ∃ V1, V1 = V := ⟨_, rfl⟩
  subst hV1
  go_loopw [51] (fun p wr => ∃ i : Nat, i ≤ 2 ∧ p = .int .i64 i ∧ Ext V1 wr) (fun p _ => 2 - (intOf p).toNat)
  case atStart => exact ⟨0, by omega, rfl, Ext.refl _⟩
  case round =>
    obtain ⟨i, hi, rfl, e6⟩ := hrel
    obtain ⟨V, rfl⟩ : ∃ V, V = wr := ⟨_, rfl⟩
    replace cCx := e6.cell cCx
    replace cCy := e6.cell cCy
    replace cA := e6.cell cA
    replace cSF := e6.cell cSF
    replace cST := e6.cell cST
    replace cOcx := e6.cell cOcx
    replace cOcy := e6.cell cOcy
    replace cT0 := e6.cell cT0
    replace cT1 := e6.cell cT1
    clear lcCx lcCy lcA lcSF lcST lcOcx lcOcy lcT0 lcT1
    by_cases hlt : i < 2
    · obtain ⟨tm, cK⟩ : ∃ tm, V.cell? ⟨Bt, i, none⟩ = some (.int .i64 tm) := by
        rcases i with _ | _ | i
        · exact ⟨_, cT0⟩
        · exact ⟨_, cT1⟩
        · omega
      have i0 : (0 : Int) ≤ (i : Int) := by omega
      have i1 : (i : Int) < 2 := by omega
      have hw := hE
      have hE := e6; clear e6
      clear cA cSF cST cT0 cT1
      have lcCx : w.heap.size < V.heap.size := World.block_lt_of_cell? V _ cCx
      have lcCy : w.heap.size < V.heap.size := World.block_lt_of_cell? V _ cCy
      have lcOcx : Oc < V.heap.size := World.block_lt_of_cell? V _ cOcx
      have lcOcy : Oc < V.heap.size := World.block_lt_of_cell? V _ cOcy
      go_wp2_with fail
      refine (Noon_t tm _).mono ?_
      rintro e w1 ⟨rfl, hb⟩
      have hc := hb.cellE; have hf := hb.frozenE; have hz := hb.size; have ha := alloc_keeps w1; (try simp only [World.size_alloc] at hc hf hz); (try simp only [World.size_setCell] at hc hf hz); (try simp only [World.size_drew] at hc hf hz)
      clear cK
      go_wp2_with fail
      refine calls_name (fun V => Ext V1 V ∧ V.cell? ⟨w.heap.size, 0, none⟩ = some (.int .i64 cx) ∧ V.cell? ⟨w.heap.size, 1, none⟩ = some (.int .i64 cy) ∧ V.cell? ⟨Oc, 0, none⟩ = some (.int .i64 X) ∧ V.cell? ⟨Oc, 1, none⟩ = some (.int .i64 Y)) ⟨hE.trans (by first | exact hb | exact Ext.alloc hb _ | exact Ext.alloc (Ext.alloc hb _) _), Ext.cell (by first | exact hb | exact Ext.alloc hb _ | exact Ext.alloc (Ext.alloc hb _) _) cCx, Ext.cell (by first | exact hb | exact Ext.alloc hb _ | exact Ext.alloc (Ext.alloc hb _) _) cCy, Ext.cell (by first | exact hb | exact Ext.alloc hb _ | exact Ext.alloc (Ext.alloc hb _) _) cOcx, Ext.cell (by first | exact hb | exact Ext.alloc hb _ | exact Ext.alloc (Ext.alloc hb _) _) cOcy⟩ ?_
      clear hE cCx cCy cOcx cOcy lcCx lcCy lcOcx lcOcy hb hc hf hz ha
      rintro V ⟨hE, cCx, cCy, cOcx, cOcy⟩
      have lcCx : w.heap.size < V.heap.size := World.block_lt_of_cell? V _ cCx
      have lcCy : w.heap.size < V.heap.size := World.block_lt_of_cell? V _ cCy
      have lcOcx : Oc < V.heap.size := World.block_lt_of_cell? V _ cOcx
      have lcOcy : Oc < V.heap.size := World.block_lt_of_cell? V _ cOcy
      refine (rNoon_t tm _).mono ?_
      rintro e w1 ⟨rfl, hb⟩
      have hc := hb.cellE; have hf := hb.frozenE; have hz := hb.size; have ha := alloc_keeps w1; (try simp only [World.size_alloc] at hc hf hz); (try simp only [World.size_setCell] at hc hf hz); (try simp only [World.size_drew] at hc hf hz)
      go_wp2_with fail
      refine calls_name (fun V => Ext V1 V ∧ V.cell? ⟨w.heap.size, 0, none⟩ = some (.int .i64 cx) ∧ V.cell? ⟨w.heap.size, 1, none⟩ = some (.int .i64 cy) ∧ V.cell? ⟨Oc, 0, none⟩ = some (.int .i64 X) ∧ V.cell? ⟨Oc, 1, none⟩ = some (.int .i64 Y)) ⟨hE.trans (by first | exact hb | exact Ext.alloc hb _ | exact Ext.alloc (Ext.alloc hb _) _), Ext.cell (by first | exact hb | exact Ext.alloc hb _ | exact Ext.alloc (Ext.alloc hb _) _) cCx, Ext.cell (by first | exact hb | exact Ext.alloc hb _ | exact Ext.alloc (Ext.alloc hb _) _) cCy, Ext.cell (by first | exact hb | exact Ext.alloc hb _ | exact Ext.alloc (Ext.alloc hb _) _) cOcx, Ext.cell (by first | exact hb | exact Ext.alloc hb _ | exact Ext.alloc (Ext.alloc hb _) _) cOcy⟩ ?_
      clear hE cCx cCy cOcx cOcy lcCx lcCy lcOcx lcOcy hb hc hf hz ha
      rintro V ⟨hE, cCx, cCy, cOcx, cOcy⟩
      have lcCx : w.heap.size < V.heap.size := World.block_lt_of_cell? V _ cCx
      have lcCy : w.heap.size < V.heap.size := World.block_lt_of_cell? V _ cCy
      have lcOcx : Oc < V.heap.size := World.block_lt_of_cell? V _ cOcx
      have lcOcy : Oc < V.heap.size := World.block_lt_of_cell? V _ cOcy
      refine (Season_t tm _).mono ?_
      rintro e w1 ⟨rfl, hb⟩
      have hc := hb.cellE; have hf := hb.frozenE; have hz := hb.size; have ha := alloc_keeps w1; (try simp only [World.size_alloc] at hc hf hz); (try simp only [World.size_setCell] at hc hf hz); (try simp only [World.size_drew] at hc hf hz)
      go_wp2_with fail
      refine calls_name (fun V => Ext V1 V ∧ V.cell? ⟨w.heap.size, 0, none⟩ = some (.int .i64 cx) ∧ V.cell? ⟨w.heap.size, 1, none⟩ = some (.int .i64 cy) ∧ V.cell? ⟨Oc, 0, none⟩ = some (.int .i64 X) ∧ V.cell? ⟨Oc, 1, none⟩ = some (.int .i64 Y)) ⟨hE.trans (by first | exact hb | exact Ext.alloc hb _ | exact Ext.alloc (Ext.alloc hb _) _), Ext.cell (by first | exact hb | exact Ext.alloc hb _ | exact Ext.alloc (Ext.alloc hb _) _) cCx, Ext.cell (by first | exact hb | exact Ext.alloc hb _ | exact Ext.alloc (Ext.alloc hb _) _) cCy, Ext.cell (by first | exact hb | exact Ext.alloc hb _ | exact Ext.alloc (Ext.alloc hb _) _) cOcx, Ext.cell (by first | exact hb | exact Ext.alloc hb _ | exact Ext.alloc (Ext.alloc hb _) _) cOcy⟩ ?_
      clear hE cCx cCy cOcx cOcy lcCx lcCy lcOcx lcOcy hb hc hf hz ha
      rintro V ⟨hE, cCx, cCy, cOcx, cOcy⟩
      have lcCx : w.heap.size < V.heap.size := World.block_lt_of_cell? V _ cCx
      have lcCy : w.heap.size < V.heap.size := World.block_lt_of_cell? V _ cCy
      have lcOcx : Oc < V.heap.size := World.block_lt_of_cell? V _ cOcx
      have lcOcy : Oc < V.heap.size := World.block_lt_of_cell? V _ cOcy
      refine (rSeason_t tm _).mono ?_
      rintro e w1 ⟨rfl, hb⟩
      have hc := hb.cellE; have hf := hb.frozenE; have hz := hb.size; have ha := alloc_keeps w1; (try simp only [World.size_alloc] at hc hf hz); (try simp only [World.size_setCell] at hc hf hz); (try simp only [World.size_drew] at hc hf hz)
      replace hE := hE.trans hb
      replace cCx := hb.cell cCx; replace cCy := hb.cell cCy; replace cOcx := hb.cell cOcx; replace cOcy := hb.cell cOcy
      clear hc hf hz ha hb lcCx lcCy lcOcx lcOcy
      obtain ⟨V, rfl⟩ : ∃ V, V = w1 := ⟨_, rfl⟩
      have lcCx : w.heap.size < V.heap.size := World.block_lt_of_cell? V _ cCx
      have lcCy : w.heap.size < V.heap.size := World.block_lt_of_cell? V _ cCy
      have lcOcx : Oc < V.heap.size := World.block_lt_of_cell? V _ cOcx
      have lcOcy : Oc < V.heap.size := World.block_lt_of_cell? V _ cOcy
      go_wp2_with fail
      obtain ⟨Bc, hO⟩ : ∃ O, O = V.heap.size := ⟨_, rfl⟩
      rw [← hO]
      refine wp_name (fun V => Ext V1 V ∧ V.cell? ⟨Bc, 0, none⟩ = some (.int .i64 cx) ∧ V.cell? ⟨Bc, 1, none⟩ = some (.int .i64 cy) ∧ V.cell? ⟨Bc, 2, none⟩ = some (.int .i64 X) ∧ V.cell? ⟨Bc, 3, none⟩ = some (.int .i64 Y)) ⟨Ext.alloc hE _, by rw [hO]; simp [go_sem], by rw [hO]; simp [go_sem], by rw [hO]; simp [go_sem], by rw [hO]; simp [go_sem]⟩ ?_
      clear hE hO cCx cCy cOcx cOcy lcCx lcCy lcOcx lcOcy
      rintro V ⟨hE, cB0, cB1, cB2, cB3⟩
      have lcB0 : Bc < V.heap.size := World.block_lt_of_cell? V _ cB0
      have lcB1 : Bc < V.heap.size := World.block_lt_of_cell? V _ cB1
      have lcB2 : Bc < V.heap.size := World.block_lt_of_cell? V _ cB2
      have lcB3 : Bc < V.heap.size := World.block_lt_of_cell? V _ cB3
      obtain ⟨V2, hV2⟩ : ∃ V2, V2 = V := ⟨_, rfl⟩
      subst hV2
      go_loopw [97] (fun p wr => ∃ i : Nat, i ≤ 2 ∧ p = .int .i64 i ∧ Ext V2 wr) (fun p _ => 2 - (intOf p).toNat)
      case atStart => exact ⟨0, by omega, rfl, Ext.refl _⟩
      case round =>
        obtain ⟨j, hj, rfl, e6⟩ := hrel
        obtain ⟨V, rfl⟩ : ∃ V, V = wr := ⟨_, rfl⟩
        have hE1 := hE
        have hE := e6; clear e6
        by_cases hlj : j < 2
        · obtain ⟨x, y, cx1, cy1⟩ : ∃ x y, V.cell? ⟨Bc, j * 2, none⟩ = some (.int .i64 x) ∧ V.cell? ⟨Bc, j * 2 + 1, none⟩ = some (.int .i64 y) := by
            rcases j with _ | _ | j
            · exact ⟨_, _, hE.cell cB0, hE.cell cB1⟩
            · exact ⟨_, _, hE.cell cB2, hE.cell cB3⟩
            · omega
          have j0 : (0 : Int) ≤ (j : Int) := by omega
          have j1 : (j : Int) < 2 := by omega
          clear cB0 cB1 cB2 cB3 lcB0 lcB1 lcB2 lcB3
          go_wp2_with fail
          obtain ⟨Oy, hO⟩ : ∃ O, O = V.heap.size := ⟨_, rfl⟩
          rw [← hO]
          refine calls_name (fun V => Ext V2 V ∧ V.cell? ⟨Oy, 0, none⟩ = some (.int .i64 x) ∧ V.cell? ⟨Oy, 1, none⟩ = some (.int .i64 y)) ⟨Ext.alloc hE _, by rw [hO]; simp [go_sem], by rw [hO]; simp [go_sem]⟩ ?_
          clear hE hO cx1 cy1
          rintro V ⟨hE, cOyx, cOyy⟩
          have lcOyx : Oy < V.heap.size := World.block_lt_of_cell? V _ cOyx
          have lcOyy : Oy < V.heap.size := World.block_lt_of_cell? V _ cOyy
          refine (Height_t x y tm _).mono ?_
          rintro e w1 ⟨rfl, hb⟩
          have hc := hb.cellE; have hf := hb.frozenE; have hz := hb.size; have ha := alloc_keeps w1; (try simp only [World.size_alloc] at hc hf hz); (try simp only [World.size_setCell] at hc hf hz); (try simp only [World.size_drew] at hc hf hz)
          go_wp2_with fail
          refine calls_name (fun V => Ext V2 V ∧ V.cell? ⟨Oy, 0, none⟩ = some (.int .i64 x) ∧ V.cell? ⟨Oy, 1, none⟩ = some (.int .i64 y)) ⟨hE.trans (by first | exact hb | exact Ext.alloc hb _ | exact Ext.alloc (Ext.alloc hb _) _), Ext.cell (by first | exact hb | exact Ext.alloc hb _ | exact Ext.alloc (Ext.alloc hb _) _) cOyx, Ext.cell (by first | exact hb | exact Ext.alloc hb _ | exact Ext.alloc (Ext.alloc hb _) _) cOyy⟩ ?_
          clear hE cOyx cOyy lcOyx lcOyy hb hc hf hz ha
          rintro V ⟨hE, cOyx, cOyy⟩
          have lcOyx : Oy < V.heap.size := World.block_lt_of_cell? V _ cOyx
          have lcOyy : Oy < V.heap.size := World.block_lt_of_cell? V _ cOyy
          refine (rHeight_t x y tm _).mono ?_
          rintro e w1 ⟨rfl, hb⟩
          have hc := hb.cellE; have hf := hb.frozenE; have hz := hb.size; have ha := alloc_keeps w1; (try simp only [World.size_alloc] at hc hf hz); (try simp only [World.size_setCell] at hc hf hz); (try simp only [World.size_drew] at hc hf hz)
          go_wp2_with fail
          refine calls_name (fun V => Ext V2 V ∧ V.cell? ⟨Oy, 0, none⟩ = some (.int .i64 x) ∧ V.cell? ⟨Oy, 1, none⟩ = some (.int .i64 y)) ⟨hE.trans (by first | exact hb | exact Ext.alloc hb _ | exact Ext.alloc (Ext.alloc hb _) _), Ext.cell (by first | exact hb | exact Ext.alloc hb _ | exact Ext.alloc (Ext.alloc hb _) _) cOyx, Ext.cell (by first | exact hb | exact Ext.alloc hb _ | exact Ext.alloc (Ext.alloc hb _) _) cOyy⟩ ?_
          clear hE cOyx cOyy lcOyx lcOyy hb hc hf hz ha
          rintro V ⟨hE, cOyx, cOyy⟩
          have lcOyx : Oy < V.heap.size := World.block_lt_of_cell? V _ cOyx
          have lcOyy : Oy < V.heap.size := World.block_lt_of_cell? V _ cOyy
          refine (Next_t x y tm lit _).mono ?_
          rintro e w1 ⟨rfl, hb⟩
          have hc := hb.cellE; have hf := hb.frozenE; have hz := hb.size; have ha := alloc_keeps w1; (try simp only [World.size_alloc] at hc hf hz); (try simp only [World.size_setCell] at hc hf hz); (try simp only [World.size_drew] at hc hf hz)
          go_wp2_with fail
          refine calls_name (fun V => Ext V2 V ∧ V.cell? ⟨Oy, 0, none⟩ = some (.int .i64 x) ∧ V.cell? ⟨Oy, 1, none⟩ = some (.int .i64 y)) ⟨hE.trans (by first | exact hb | exact Ext.alloc hb _ | exact Ext.alloc (Ext.alloc hb _) _), Ext.cell (by first | exact hb | exact Ext.alloc hb _ | exact Ext.alloc (Ext.alloc hb _) _) cOyx, Ext.cell (by first | exact hb | exact Ext.alloc hb _ | exact Ext.alloc (Ext.alloc hb _) _) cOyy⟩ ?_
          clear hE cOyx cOyy lcOyx lcOyy hb hc hf hz ha
          rintro V ⟨hE, cOyx, cOyy⟩
          have lcOyx : Oy < V.heap.size := World.block_lt_of_cell? V _ cOyx
          have lcOyy : Oy < V.heap.size := World.block_lt_of_cell? V _ cOyy
          refine (rNext_t x y tm lit _).mono ?_
          rintro e w1 ⟨rfl, hb⟩
          have hc := hb.cellE; have hf := hb.frozenE; have hz := hb.size; have ha := alloc_keeps w1; (try simp only [World.size_alloc] at hc hf hz); (try simp only [World.size_setCell] at hc hf hz); (try simp only [World.size_drew] at hc hf hz)
          replace hE := hE.trans hb
          replace cOyx := hb.cell cOyx; replace cOyy := hb.cell cOyy
          clear hc hf hz ha hb lcOyx lcOyy
          obtain ⟨V, rfl⟩ : ∃ V, V = w1 := ⟨_, rfl⟩
          have lcOyx : Oy < V.heap.size := World.block_lt_of_cell? V _ cOyx
          have lcOyy : Oy < V.heap.size := World.block_lt_of_cell? V _ cOyy
          go_wp2_with fail
          refine wp_region_held_drew (S := fun w' => Ext V w' ∧ w'.cell? ⟨Oy, 0, none⟩ = some (.int .i64 x) ∧ w'.cell? ⟨Oy, 1, none⟩ = some (.int .i64 y)) (by kernel_rfl) ⟨Ext.drew (Ext.refl _), cOyx, cOyy⟩ (fun hHeld => ?_)
          (refine rg_take 0 (v := ?_) rfl (by kernel_rfl) (by kernel_rfl) (by kernel_rfl) (fun _ _ _ h => h) (by kernel_rfl) ?_ (by with_reducible assumption) ?_; rotate_left; (focus (intro w hSw; (try dsimp only at hSw); go_simp; (try with_reducible rfl))); (try simp only [Act.put, List.setIfInBounds_toArray, List.set_cons_zero, List.set_cons_succ]))
          (refine rg_take 1 (v := ?_) rfl (by kernel_rfl) (by kernel_rfl) (by kernel_rfl) (fun _ _ _ h => h) (by kernel_rfl) ?_ (by with_reducible assumption) ?_; rotate_left; (focus (intro w hSw; (try dsimp only at hSw); go_simp; (try with_reducible rfl))); (try simp only [Act.put, List.setIfInBounds_toArray, List.set_cons_zero, List.set_cons_succ]))
          (refine rg_take 2 (v := ?_) rfl (by kernel_rfl) (by kernel_rfl) (by kernel_rfl) (fun _ _ _ h => h) (by kernel_rfl) ?_ (by with_reducible assumption) ?_; rotate_left; (focus (intro w hSw; (try dsimp only at hSw); go_simp; (try with_reducible rfl))); (try simp only [Act.put, List.setIfInBounds_toArray, List.set_cons_zero, List.set_cons_succ]))
          (refine rg_take 3 (v := ?_) rfl (by kernel_rfl) (by kernel_rfl) (by kernel_rfl) (fun _ _ _ h => h) (by kernel_rfl) ?_ (by with_reducible assumption) ?_; rotate_left; (focus (intro w hSw; (try dsimp only at hSw); go_simp; (try with_reducible rfl))); (try simp only [Act.put, List.setIfInBounds_toArray, List.set_cons_zero, List.set_cons_succ]))
          (refine rg_take 4 (v := ?_) rfl (by kernel_rfl) (by kernel_rfl) (by kernel_rfl) (fun _ _ _ h => h) (by kernel_rfl) ?_ (by with_reducible assumption) ?_; rotate_left; (focus (intro w hSw; (try dsimp only at hSw); go_simp; (try with_reducible rfl))); (try simp only [Act.put, List.setIfInBounds_toArray, List.set_cons_zero, List.set_cons_succ]))
          (refine rg_take 5 (v := ?_) rfl (by kernel_rfl) (by kernel_rfl) (by kernel_rfl) (fun _ _ _ h => h) (by kernel_rfl) ?_ (by with_reducible assumption) ?_; rotate_left; (focus (intro w hSw; (try dsimp only at hSw); go_simp; (try with_reducible rfl))); (try simp only [Act.put, List.setIfInBounds_toArray, List.set_cons_zero, List.set_cons_succ]))
          (refine rg_take 6 (v := ?_) rfl (by kernel_rfl) (by kernel_rfl) (by kernel_rfl) (fun _ _ _ h => h) (by kernel_rfl) ?_ (by with_reducible assumption) ?_; rotate_left; (focus (intro w hSw; (try dsimp only at hSw); go_simp; (try with_reducible rfl))); (try simp only [Act.put, List.setIfInBounds_toArray, List.set_cons_zero, List.set_cons_succ]))
          (refine rg_take 7 (v := ?_) rfl (by kernel_rfl) (by kernel_rfl) (by kernel_rfl) (fun _ _ _ h => h) (by kernel_rfl) ?_ (by with_reducible assumption) ?_; rotate_left; (focus (intro w hSw; (try dsimp only at hSw); go_simp; (try with_reducible rfl))); (try simp only [Act.put, List.setIfInBounds_toArray, List.set_cons_zero, List.set_cons_succ]))
          (refine rg_take 8 (v := ?_) rfl (by kernel_rfl) (by kernel_rfl) (by kernel_rfl) (fun _ _ _ h => h) (by kernel_rfl) ?_ (by with_reducible assumption) ?_; rotate_left; (focus (intro w hSw; (try dsimp only at hSw); go_simp; (try with_reducible rfl))); (try simp only [Act.put, List.setIfInBounds_toArray, List.set_cons_zero, List.set_cons_succ]))
          (refine rg_take 9 (v := ?_) rfl (by kernel_rfl) (by kernel_rfl) (by kernel_rfl) (fun _ _ _ h => h) (by kernel_rfl) ?_ (by with_reducible assumption) ?_; rotate_left; (focus (intro w hSw; (try dsimp only at hSw); go_simp; (try with_reducible rfl))); (try simp only [Act.put, List.setIfInBounds_toArray, List.set_cons_zero, List.set_cons_succ]))
          (refine rg_take 10 (v := ?_) rfl (by kernel_rfl) (by kernel_rfl) (by kernel_rfl) (fun _ _ _ h => h) (by kernel_rfl) ?_ (by with_reducible assumption) ?_; rotate_left; (focus (intro w hSw; (try dsimp only at hSw); go_simp; (try with_reducible rfl))); (try simp only [Act.put, List.setIfInBounds_toArray, List.set_cons_zero, List.set_cons_succ]))
          (refine rg_take 11 (v := ?_) rfl (by kernel_rfl) (by kernel_rfl) (by kernel_rfl) (fun _ _ _ h => h) (by kernel_rfl) ?_ (by with_reducible assumption) ?_; rotate_left; (focus (intro w hSw; (try dsimp only at hSw); go_simp; (try with_reducible rfl))); (try simp only [Act.put, List.setIfInBounds_toArray, List.set_cons_zero, List.set_cons_succ]))
          (refine rg_take 12 (v := ?_) rfl (by kernel_rfl) (by kernel_rfl) (by kernel_rfl) (fun _ _ _ h => h) (by kernel_rfl) ?_ (by with_reducible assumption) ?_; rotate_left; (focus (intro w hSw; (try dsimp only at hSw); go_simp; (try with_reducible rfl))); (try simp only [Act.put, List.setIfInBounds_toArray, List.set_cons_zero, List.set_cons_succ]))
          (refine rg_take 13 (v := ?_) rfl (by kernel_rfl) (by kernel_rfl) (by kernel_rfl) (fun _ _ _ h => h) (by kernel_rfl) ?_ (by with_reducible assumption) ?_; rotate_left; (focus (intro w hSw; (try dsimp only at hSw); go_simp; (try with_reducible rfl))); (try simp only [Act.put, List.setIfInBounds_toArray, List.set_cons_zero, List.set_cons_succ]))
          (refine rg_take 14 (v := ?_) rfl (by kernel_rfl) (by kernel_rfl) (by kernel_rfl) (fun _ _ _ h => h) (by kernel_rfl) ?_ (by with_reducible assumption) ?_; rotate_left; (focus (intro w hSw; (try dsimp only at hSw); go_simp; (try with_reducible rfl))); (try simp only [Act.put, List.setIfInBounds_toArray, List.set_cons_zero, List.set_cons_succ]))
          (refine rg_take 15 (v := ?_) rfl (by kernel_rfl) (by kernel_rfl) (by kernel_rfl) (fun _ _ _ h => h) (by kernel_rfl) ?_ (by with_reducible assumption) ?_; rotate_left; (focus (intro w hSw; (try dsimp only at hSw); go_simp; (try with_reducible rfl))); (try simp only [Act.put, List.setIfInBounds_toArray, List.set_cons_zero, List.set_cons_succ]))
          (refine rg_take 16 (v := ?_) rfl (by kernel_rfl) (by kernel_rfl) (by kernel_rfl) (fun _ _ _ h => h) (by kernel_rfl) ?_ (by with_reducible assumption) ?_; rotate_left; (focus (intro w hSw; (try dsimp only at hSw); go_simp; (try with_reducible rfl))); (try simp only [Act.put, List.setIfInBounds_toArray, List.set_cons_zero, List.set_cons_succ]))
          (refine rg_take 17 (v := ?_) rfl (by kernel_rfl) (by kernel_rfl) (by kernel_rfl) (fun _ _ _ h => h) (by kernel_rfl) ?_ (by with_reducible assumption) ?_; rotate_left; (focus (intro w hSw; (try dsimp only at hSw); go_simp; (try with_reducible rfl))); (try simp only [Act.put, List.setIfInBounds_toArray, List.set_cons_zero, List.set_cons_succ]))
          (refine rg_take 18 (v := ?_) rfl (by kernel_rfl) (by kernel_rfl) (by kernel_rfl) (fun _ _ _ h => h) (by kernel_rfl) ?_ (by with_reducible assumption) ?_; rotate_left; (focus (intro w hSw; (try dsimp only at hSw); go_simp; (try with_reducible rfl))); (try simp only [Act.put, List.setIfInBounds_toArray, List.set_cons_zero, List.set_cons_succ]))
          (refine rg_take 19 (v := ?_) rfl (by kernel_rfl) (by kernel_rfl) (by kernel_rfl) (fun _ _ _ h => h) (by kernel_rfl) ?_ (by with_reducible assumption) ?_; rotate_left; (focus (intro w hSw; (try dsimp only at hSw); go_simp; (try with_reducible rfl))); (try simp only [Act.put, List.setIfInBounds_toArray, List.set_cons_zero, List.set_cons_succ]))
          (refine rg_take 20 (v := ?_) rfl (by kernel_rfl) (by kernel_rfl) (by kernel_rfl) (fun _ _ _ h => h) (by kernel_rfl) ?_ (by with_reducible assumption) ?_; rotate_left; (focus (intro w hSw; (try dsimp only at hSw); go_simp; (try with_reducible rfl))); (try simp only [Act.put, List.setIfInBounds_toArray, List.set_cons_zero, List.set_cons_succ]))
          (refine rg_take 22 (v := ?_) rfl (by kernel_rfl) (by kernel_rfl) (by kernel_rfl) (fun _ _ _ h => h) (by kernel_rfl) ?_ (by with_reducible assumption) ?_; rotate_left; (focus (intro w hSw; (try dsimp only at hSw); go_simp; (try with_reducible rfl))); (try simp only [Act.put, List.setIfInBounds_toArray, List.set_cons_zero, List.set_cons_succ]))
          (refine rg_take 23 (v := ?_) rfl (by kernel_rfl) (by kernel_rfl) (by kernel_rfl) (fun _ _ _ h => h) (by kernel_rfl) ?_ (by with_reducible assumption) ?_; rotate_left; (focus (intro w hSw; (try dsimp only at hSw); go_simp; (try with_reducible rfl))); (try simp only [Act.put, List.setIfInBounds_toArray, List.set_cons_zero, List.set_cons_succ]))
          (refine rg_step 21 rfl (by kernel_rfl) (by kernel_rfl) (fun K hK => ?_); go_simp; (go_at_call 22; refine (Lit_c x y tm _).mono ?_; rintro e w1 ⟨rfl, hb⟩); refine hK.out _ _ (⟨hHeld.1.trans hb, hb.cell hHeld.2.1, hb.cell hHeld.2.2⟩) (fun hHeld => ?_); clear hK K; (try simp only [Act.put, List.setIfInBounds_toArray, List.set_cons_zero, List.set_cons_succ]))
          (refine rg_step 24 rfl (by kernel_rfl) (by kernel_rfl) (fun K hK => ?_); go_simp; (go_at_call 23; refine (rLit_c x y tm _).mono ?_; rintro e w1 ⟨rfl, hb⟩); refine hK.out _ _ (⟨hHeld.1.trans hb, hb.cell hHeld.2.1, hb.cell hHeld.2.2⟩) (fun hHeld => ?_); clear hK K; (try simp only [Act.put, List.setIfInBounds_toArray, List.set_cons_zero, List.set_cons_succ]))
          (refine rg_take 25 (v := ?_) rfl (by kernel_rfl) (by kernel_rfl) (by kernel_rfl) (fun _ _ _ h => h) (by kernel_rfl) ?_ (by with_reducible assumption) ?_; rotate_left; (focus (intro w hSw; (try dsimp only at hSw); go_simp; (try with_reducible rfl))); (try simp only [Act.put, List.setIfInBounds_toArray, List.set_cons_zero, List.set_cons_succ]))
          (refine rg_take 26 (v := ?_) rfl (by kernel_rfl) (by kernel_rfl) (by kernel_rfl) (fun _ _ _ h => h) (by kernel_rfl) ?_ (by with_reducible assumption) ?_; rotate_left; (focus (intro w hSw; (try dsimp only at hSw); go_simp; (try with_reducible rfl))); (try simp only [Act.put, List.setIfInBounds_toArray, List.set_cons_zero, List.set_cons_succ]))
          (refine rg_take 27 (v := ?_) rfl (by kernel_rfl) (by kernel_rfl) (by kernel_rfl) (fun _ _ _ h => h) (by kernel_rfl) ?_ (by with_reducible assumption) ?_; rotate_left; (focus (intro w hSw; (try dsimp only at hSw); go_simp; (try with_reducible rfl))); (try simp only [Act.put, List.setIfInBounds_toArray, List.set_cons_zero, List.set_cons_succ]))
          (refine rg_take 28 (v := ?_) rfl (by kernel_rfl) (by kernel_rfl) (by kernel_rfl) (fun _ _ _ h => h) (by kernel_rfl) ?_ (by with_reducible assumption) ?_; rotate_left; (focus (intro w hSw; (try dsimp only at hSw); go_simp; (try with_reducible rfl))); (try simp only [Act.put, List.setIfInBounds_toArray, List.set_cons_zero, List.set_cons_succ]))
          (refine rg_take 29 (v := ?_) rfl (by kernel_rfl) (by kernel_rfl) (by kernel_rfl) (fun _ _ _ h => h) (by kernel_rfl) ?_ (by with_reducible assumption) ?_; rotate_left; (focus (intro w hSw; (try dsimp only at hSw); go_simp; (try with_reducible rfl))); (try simp only [Act.put, List.setIfInBounds_toArray, List.set_cons_zero, List.set_cons_succ]))
          (refine rg_take 31 (v := ?_) rfl (by kernel_rfl) (by kernel_rfl) (by kernel_rfl) (fun _ _ _ h => h) (by kernel_rfl) ?_ (by with_reducible assumption) ?_; rotate_left; (focus (intro w hSw; (try dsimp only at hSw); go_simp; (try with_reducible rfl))); (try simp only [Act.put, List.setIfInBounds_toArray, List.set_cons_zero, List.set_cons_succ]))
          (refine rg_take 32 (v := ?_) rfl (by kernel_rfl) (by kernel_rfl) (by kernel_rfl) (fun _ _ _ h => h) (by kernel_rfl) ?_ (by with_reducible assumption) ?_; rotate_left; (focus (intro w hSw; (try dsimp only at hSw); go_simp; (try with_reducible rfl))); (try simp only [Act.put, List.setIfInBounds_toArray, List.set_cons_zero, List.set_cons_succ]))
          (refine rg_step 30 rfl (by kernel_rfl) (by kernel_rfl) (fun K hK => ?_); go_simp; (go_at_call 24; refine (Dark_c x y tm _).mono ?_; rintro e w1 ⟨rfl, hb⟩); refine hK.out _ _ (⟨hHeld.1.trans hb, hb.cell hHeld.2.1, hb.cell hHeld.2.2⟩) (fun hHeld => ?_); clear hK K; (try simp only [Act.put, List.setIfInBounds_toArray, List.set_cons_zero, List.set_cons_succ]))
          (refine rg_step 33 rfl (by kernel_rfl) (by kernel_rfl) (fun K hK => ?_); go_simp; (go_at_call 25; refine (rDark_c x y tm _).mono ?_; rintro e w1 ⟨rfl, hb⟩); refine hK.out _ _ (⟨hHeld.1.trans hb, hb.cell hHeld.2.1, hb.cell hHeld.2.2⟩) (fun hHeld => ?_); clear hK K; (try simp only [Act.put, List.setIfInBounds_toArray, List.set_cons_zero, List.set_cons_succ]))
          (refine rg_take 34 (v := ?_) rfl (by kernel_rfl) (by kernel_rfl) (by kernel_rfl) (fun _ _ _ h => h) (by kernel_rfl) ?_ (by with_reducible assumption) ?_; rotate_left; (focus (intro w hSw; (try dsimp only at hSw); go_simp; (try with_reducible rfl))); (try simp only [Act.put, List.setIfInBounds_toArray, List.set_cons_zero, List.set_cons_succ]))
          (refine rg_take 35 (v := ?_) rfl (by kernel_rfl) (by kernel_rfl) (by kernel_rfl) (fun _ _ _ h => h) (by kernel_rfl) ?_ (by with_reducible assumption) ?_; rotate_left; (focus (intro w hSw; (try dsimp only at hSw); go_simp; (try with_reducible rfl))); (try simp only [Act.put, List.setIfInBounds_toArray, List.set_cons_zero, List.set_cons_succ]))
          refine wpAnyH_done (by kernel_rfl) ?_ _
          have hb := hHeld.1
          clear hHeld
          go_wp2_with fail
          go_roundw
          case rel => exact ⟨j + 1, by omega, by go_num, hE.trans hb⟩
          case measure => simp [intOf]; omega
        · obtain rfl : j = 2 := by omega
          go_wp2_with fail
          go_roundw
          case rel => exact ⟨i + 1, by omega, by go_num, hE1.trans hE⟩
          case measure => simp [intOf]; omega
    · obtain rfl : i = 2 := by omega
      replace hE := hE.trans e6
      clear e6 cCx cCy cOcx cOcy cT0 cT1
      have HM := Lib.hid (show ∀ w', Ext V w' → Ext V w' ∧ w'.cell? ⟨w.heap.size + 1, 0, none⟩ = some (.slice a4 n4 k4) from fun w' h => ⟨h, h.cell cA⟩)
      go_wp2_with fail
      have hFA : AA w a4 (few25 l4) (min n4 25) (Globe.validL (few25 l4)) := by have := few_at HA.out.1; rwa [HA.out.2.1] at this
      have HFA := Lib.hid (hFA.ext hE); clear hFA
      refine wp_region_held_drew (S := fun w' => Ext V w' ∧ w'.cell? ⟨w.heap.size + 1, 0, none⟩ = some (.slice a4 n4 k4)) (by kernel_rfl) (HM.out _ (Ext.drew (Ext.refl _))) (fun hHeld => ?_)
      (refine rg_take 0 (v := ?_) rfl (by kernel_rfl) (by kernel_rfl) (by kernel_rfl) (fun _ _ _ h => h) (by kernel_rfl) ?_ (by with_reducible assumption) ?_; rotate_left; (focus (intro w hSw; (try dsimp only at hSw); go_simp; (try with_reducible rfl))); (try simp only [Act.put, List.setIfInBounds_toArray, List.set_cons_zero, List.set_cons_succ]))
      (refine rg_take 2 (v := ?_) rfl (by kernel_rfl) (by kernel_rfl) (by kernel_rfl) (fun _ _ _ h => h) (by kernel_rfl) ?_ (by with_reducible assumption) ?_; rotate_left; (focus (intro w hSw; (try dsimp only at hSw); go_simp; (try with_reducible rfl))); (try simp only [Act.put, List.setIfInBounds_toArray, List.set_cons_zero, List.set_cons_succ]))
      (refine rg_take 6 (v := ?_) rfl (by kernel_rfl) (by kernel_rfl) (by kernel_rfl) (fun _ _ _ h => h) (by kernel_rfl) ?_ (by with_reducible assumption) ?_; rotate_left; (focus (intro w hSw; (try dsimp only at hSw); go_simp; (try with_reducible rfl))); (try simp only [Act.put, List.setIfInBounds_toArray, List.set_cons_zero, List.set_cons_succ]))
      refine rg_step 1 rfl (by kernel_rfl) (by kernel_rfl) (fun K hK => ?_)
      (go_simp; (go_at_call 26; refine (Area_c k3 _ Q3 (hE.trans hHeld.1) hn3).mono ?_; rintro e w1 ⟨Ba, La, rfl, hBa, hva, -, -, vB, hb⟩); refine hK.out _ _ (HM.out _ (hHeld.1.trans hb)) (fun hHeld => ?_); clear hK K; (try simp only [Act.put, List.setIfInBounds_toArray, List.set_cons_zero, List.set_cons_succ]))
      refine rg_step 3 rfl (by kernel_rfl) (by kernel_rfl) (fun K hK => ?_)
      (go_simp; (go_at_call 27; refine (few_c a4 n4 k4 _ HA.out.2.2.2.2.1 HA.out.2.2.1 HA.out.2.2.2.1 HA.out.2.2.2.2.2).mono ?_; rintro e w2 ⟨rfl, hb⟩); refine hK.out _ _ (HM.out _ (hHeld.1.trans hb)) (fun hHeld => ?_); clear hK K; (try simp only [Act.put, List.setIfInBounds_toArray, List.set_cons_zero, List.set_cons_succ]))
      refine rg_step 4 rfl (by kernel_rfl) (by kernel_rfl) (fun K hK => ?_)
      (go_simp; skip; refine hK.out _ _ (HM.out _ (Ext.alloc hHeld.1 _)) (fun hHeld => ?_); clear hK K; (try simp only [Act.put, List.setIfInBounds_toArray, List.set_cons_zero, List.set_cons_succ]))
      (refine rg_take 5 (v := ?_) rfl (by kernel_rfl) (by kernel_rfl) (by kernel_rfl) (fun _ _ _ h => h) (by kernel_rfl) ?_ (by with_reducible assumption) ?_; rotate_left; (focus (intro w hSw; (try dsimp only at hSw); go_simp; (try with_reducible rfl))); (try simp only [Act.put, List.setIfInBounds_toArray, List.set_cons_zero, List.set_cons_succ]))
      refine wpAnyH_done (by kernel_rfl) ?_ _
      have hE5 := hHeld.1
      clear hHeld
      obtain ⟨Bz, hO⟩ : ∃ O, O = w2.heap.size := ⟨_, rfl⟩
      rw [← hO]
      refine exit_name (fun V => Ext w V ∧ V.cell? ⟨w.heap.size + 1 + 1, 0, none⟩ = some (.int .i64 sF) ∧ V.cell? ⟨w.heap.size + 1 + 1, 1, none⟩ = some (.int .i64 sT) ∧ V.cell? ⟨Bz, 0, none⟩ = some (.slice (some ⟨Ba, 0, none⟩) 24 24) ∧ V.cell? ⟨Bz, 1, none⟩ = some (.slice a4 (min n4 25) k4) ∧ VA V Ba 0 La ∧ AA V a4 (few25 l4) (min n4 25) (Globe.validL (few25 l4))) ⟨hE.trans hE5, hE5.cell cSF, hE5.cell cST, by rw [hO]; simp [go_sem], by rw [hO]; simp [go_sem], vB.ext (Ext.alloc hb _), HFA.out.ext hE5⟩ ?_
      clear hE hE5 hO hb vB cA cSF cST hva hBa HM HFA
      generalize Globe.validL (few25 l4) = vf
      generalize few25 l4 = lf
      generalize min n4 25 = nf
      rintro V ⟨hE, cSF, cST, z0, z1, vB, kf⟩
      go_wp2_with fail
      obtain ⟨V3, hV3⟩ : ∃ V3, V3 = V := ⟨_, rfl⟩
      subst hV3
      have k1 : IntKind.i64.wrap (A + 1) = A + 1 := by rw [IntKind.wrap_i64]; omega
      have k2 : IntKind.i64.wrap (A + 1 + B) = A + 1 + B := by rw [IntKind.wrap_i64]; omega
      have K1 := Lib.hid k1; have K2 := Lib.hid k2; clear k1 k2
      go_loopw [171] (fun p wr => ∃ i : Nat, i ≤ 2 ∧ p = .int .i64 i ∧ Ext V3 wr) (fun p _ => 2 - (intOf p).toNat)
      case atStart => exact ⟨0, by omega, rfl, Ext.refl _⟩
      case round =>
        obtain ⟨i, hi, rfl, e6⟩ := hrel
        obtain ⟨V, rfl⟩ : ∃ V, V = wr := ⟨_, rfl⟩
        by_cases hlt : i < 2
        · obtain ⟨a, n, c, l, v, za, kAA⟩ : ∃ (a : Option Addr) (n c : Nat) (l : List Int) (v : Bool), V.cell? ⟨Bz, i, none⟩ = some (.slice a n c) ∧ AA V a l n v := by
            rcases i with _ | _ | i
            · exact ⟨_, _, _, _, _, e6.cell z0, (vB.ext e6).aa⟩
            · exact ⟨_, _, _, _, _, e6.cell z1, kf.ext e6⟩
            · omega
          have i0 : (0 : Int) ≤ (i : Int) := by omega
          have i1 : (i : Int) < 2 := by omega
          replace cSF := e6.cell cSF; replace cST := e6.cell cST
          have hw := hE
          have hE := e6; clear e6 z0 z1 vB kf
          go_wp2_with fail
          obtain ⟨Oz, hO⟩ : ∃ O, O = V.heap.size := ⟨_, rfl⟩
          rw [← hO]
          refine wp_name (fun V => Ext V3 V ∧ V.cell? ⟨w.heap.size + 1 + 1, 0, none⟩ = some (.int .i64 sF) ∧ V.cell? ⟨w.heap.size + 1 + 1, 1, none⟩ = some (.int .i64 sT) ∧ AA V a l n v ∧ V.cell? ⟨Oz, 0, none⟩ = some (.slice a n c)) ⟨Ext.alloc hE _, Ext.cell (Ext.alloc (Ext.refl _) _) cSF, Ext.cell (Ext.alloc (Ext.refl _) _) cST, kAA.ext (Ext.alloc (Ext.refl _) _), by rw [hO]; simp [go_sem]⟩ ?_
          clear hE hO cSF cST kAA
          rintro V ⟨hE, cSF, cST, kAA, cOz⟩
          have lcSF : w.heap.size + 1 + 1 < V.heap.size := World.block_lt_of_cell? V _ cSF
          have lcST : w.heap.size + 1 + 1 < V.heap.size := World.block_lt_of_cell? V _ cST
          have lcOz : Oz < V.heap.size := World.block_lt_of_cell? V _ cOz
          clear za
          have HM := Lib.hid (show ∀ w', Ext V w' → Ext V w' ∧ w'.cell? ⟨w.heap.size + 1 + 1, 0, none⟩ = some (.int .i64 sF) ∧ w'.cell? ⟨w.heap.size + 1 + 1, 1, none⟩ = some (.int .i64 sT) from fun w' h => ⟨h, h.cell cSF, h.cell cST⟩)
          refine wp_region_held_drew (S := fun w' => Ext V w' ∧ w'.cell? ⟨w.heap.size + 1 + 1, 0, none⟩ = some (.int .i64 sF) ∧ w'.cell? ⟨w.heap.size + 1 + 1, 1, none⟩ = some (.int .i64 sT)) (by kernel_rfl) (HM.out _ (Ext.drew (Ext.refl _))) (fun hHeld => ?_)
          (refine rg_take 0 (v := ?_) rfl (by kernel_rfl) (by kernel_rfl) (by kernel_rfl) (fun _ _ _ h => h) (by kernel_rfl) ?_ (by with_reducible assumption) ?_; rotate_left; (focus (intro w hSw; (try dsimp only at hSw); go_simp; (try with_reducible rfl))); (try simp only [Act.put, List.setIfInBounds_toArray, List.set_cons_zero, List.set_cons_succ]))
          (refine rg_take 1 (v := ?_) rfl (by kernel_rfl) (by kernel_rfl) (by kernel_rfl) (fun _ _ _ h => h) (by kernel_rfl) ?_ (by with_reducible assumption) ?_; rotate_left; (focus (intro w hSw; (try dsimp only at hSw); go_simp; (try with_reducible rfl))); (try simp only [Act.put, List.setIfInBounds_toArray, List.set_cons_zero, List.set_cons_succ]))
          (refine rg_take 2 (v := ?_) rfl (by kernel_rfl) (by kernel_rfl) (by kernel_rfl) (fun _ _ _ h => h) (by kernel_rfl) ?_ (by with_reducible assumption) ?_; rotate_left; (focus (intro w hSw; (try dsimp only at hSw); go_simp; (try with_reducible rfl))); (try simp only [Act.put, List.setIfInBounds_toArray, List.set_cons_zero, List.set_cons_succ]))
          (refine rg_take 3 (v := ?_) rfl (by kernel_rfl) (by kernel_rfl) (by kernel_rfl) (fun _ _ _ h => h) (by kernel_rfl) ?_ (by with_reducible assumption) ?_; rotate_left; (focus (intro w hSw; (try dsimp only at hSw); have k0 := K1.out; go_simp; (try with_reducible rfl))); (try simp only [Act.put, List.setIfInBounds_toArray, List.set_cons_zero, List.set_cons_succ]))
          (refine rg_take 4 (v := ?_) rfl (by kernel_rfl) (by kernel_rfl) (by kernel_rfl) (fun _ _ _ h => h) (by kernel_rfl) ?_ (by with_reducible assumption) ?_; rotate_left; (focus (intro w hSw; (try dsimp only at hSw); go_simp; (try with_reducible rfl))); (try simp only [Act.put, List.setIfInBounds_toArray, List.set_cons_zero, List.set_cons_succ]))
          (refine rg_take 5 (v := ?_) rfl (by kernel_rfl) (by kernel_rfl) (by kernel_rfl) (fun _ _ _ h => h) (by kernel_rfl) ?_ (by with_reducible assumption) ?_; rotate_left; (focus (intro w hSw; (try dsimp only at hSw); go_simp; (try with_reducible rfl))); (try simp only [Act.put, List.setIfInBounds_toArray, List.set_cons_zero, List.set_cons_succ]))
          (refine rg_take 11 (v := ?_) rfl (by kernel_rfl) (by kernel_rfl) (by kernel_rfl) (fun _ _ _ h => h) (by kernel_rfl) ?_ (by with_reducible assumption) ?_; rotate_left; (focus (intro w hSw; (try dsimp only at hSw); go_simp; (try with_reducible rfl))); (try simp only [Act.put, List.setIfInBounds_toArray, List.set_cons_zero, List.set_cons_succ]))
          refine rg_step 6 rfl (by kernel_rfl) (by kernel_rfl) (fun K hK => ?_)
          (go_simp; (go_at_call 13; refine (pick_c sT 12 _ HF.out.2 (by omega) (by omega)).mono ?_; rintro e w' ⟨rfl, rfl⟩; rw [HPB.out]); refine hK.out _ _ (hHeld) (fun hHeld => ?_); clear hK K; (try simp only [Act.put, List.setIfInBounds_toArray, List.set_cons_zero, List.set_cons_succ]))
          (refine rg_take 7 (v := ?_) rfl (by kernel_rfl) (by kernel_rfl) (by kernel_rfl) (fun _ _ _ h => h) (by kernel_rfl) ?_ (by with_reducible assumption) ?_; rotate_left; (focus (intro w hSw; (try dsimp only at hSw); have k0 := K2.out; go_simp; (try with_reducible rfl))); (try simp only [Act.put, List.setIfInBounds_toArray, List.set_cons_zero, List.set_cons_succ]))
          (refine rg_take 8 (v := ?_) rfl (by kernel_rfl) (by kernel_rfl) (by kernel_rfl) (fun _ _ _ h => h) (by kernel_rfl) ?_ (by with_reducible assumption) ?_; rotate_left; (focus (intro w hSw; (try dsimp only at hSw); go_simp; (try with_reducible rfl))); (try simp only [Act.put, List.setIfInBounds_toArray, List.set_cons_zero, List.set_cons_succ]))
          refine rg_step 9 rfl (by kernel_rfl) (by kernel_rfl) (fun K hK => ?_)
          (go_simp; skip; refine hK.out _ _ (HM.out _ (Ext.alloc hHeld.1 _)) (fun hHeld => ?_); clear hK K; (try simp only [Act.put, List.setIfInBounds_toArray, List.set_cons_zero, List.set_cons_succ]))
          (refine rg_take 10 (v := ?_) rfl (by kernel_rfl) (by kernel_rfl) (by kernel_rfl) (fun _ _ _ h => h) (by kernel_rfl) ?_ (by with_reducible assumption) ?_; rotate_left; (focus (intro w hSw; (try dsimp only at hSw); go_simp; (try with_reducible rfl))); (try simp only [Act.put, List.setIfInBounds_toArray, List.set_cons_zero, List.set_cons_succ]))
          refine wpAnyH_done (by kernel_rfl) ?_ _
          have hE5 := hHeld.1
          clear hHeld
          obtain ⟨Bs, hO⟩ : ∃ O, O = V.heap.size := ⟨_, rfl⟩
          rw [← hO]
          refine exit_name (fun V => Ext V3 V ∧ V.cell? ⟨Oz, 0, none⟩ = some (.slice a n c) ∧ AA V a l n v ∧ V.cell? ⟨Bs, 0, none⟩ = some (.int .i64 sF) ∧ V.cell? ⟨Bs, 1, none⟩ = some (.int .i64 sT) ∧ V.cell? ⟨Bs, 2, none⟩ = some (.int .i64 A) ∧ V.cell? ⟨Bs, 3, none⟩ = some (.int .i64 (A + 1 + B))) ⟨hE.trans hE5, hE5.cell cOz, kAA.ext hE5, by rw [hO]; simp [go_sem], by rw [hO]; simp [go_sem], by rw [hO]; simp [go_sem], by rw [hO]; simp [go_sem]⟩ ?_
          clear hE hE5 hO cOz kAA cSF cST HM lcSF lcST lcOz
          rintro V ⟨hE, cOz, kAA, z0, z1, z2, z3⟩
          go_wp2_with fail
          obtain ⟨V4, hV4⟩ : ∃ V4, V4 = V := ⟨_, rfl⟩
          subst hV4
          go_loopw [186] (fun p wr => ∃ i : Nat, i ≤ 2 ∧ p = .int .i64 i ∧ Ext V4 wr) (fun p _ => 2 - (intOf p).toNat)
          case atStart => exact ⟨0, by omega, rfl, Ext.refl _⟩
          case round =>
            obtain ⟨j, hj, rfl, e6⟩ := hrel
            obtain ⟨V, rfl⟩ : ∃ V, V = wr := ⟨_, rfl⟩
            have hE1 := hE
            have hE := e6; clear e6
            by_cases hlj : j < 2
            · obtain ⟨f, g, cf, cg⟩ : ∃ x y, V.cell? ⟨Bs, j * 2, none⟩ = some (.int .i64 x) ∧ V.cell? ⟨Bs, j * 2 + 1, none⟩ = some (.int .i64 y) := by
                rcases j with _ | _ | j
                · exact ⟨_, _, hE.cell z0, hE.cell z1⟩
                · exact ⟨_, _, hE.cell z2, hE.cell z3⟩
                · omega
              have j0 : (0 : Int) ≤ (j : Int) := by omega
              have j1 : (j : Int) < 2 := by omega
              replace cOz := hE.cell cOz; replace kAA := kAA.ext hE
              have lz : Oz < V.heap.size := World.block_lt_of_cell? V _ cOz
              clear z0 z1 z2 z3
              go_wp2_with fail
              obtain ⟨Op, hO⟩ : ∃ O, O = V.heap.size := ⟨_, rfl⟩
              rw [← hO]
              refine calls_name (fun V => Ext V4 V ∧ V.cell? ⟨Oz, 0, none⟩ = some (.slice a n c) ∧ AA V a l n v ∧ V.cell? ⟨Op, 0, none⟩ = some (.int .i64 f) ∧ V.cell? ⟨Op, 1, none⟩ = some (.int .i64 g)) ⟨Ext.alloc hE _, Ext.cell (Ext.alloc (Ext.refl _) _) cOz, kAA.ext (Ext.alloc (Ext.refl _) _), by rw [hO]; simp [go_sem], by rw [hO]; simp [go_sem]⟩ ?_
              clear hE hO cOz kAA cf cg lz
              rintro V ⟨hE, cOz, kAA, cOpf, cOpg⟩
              have lcOz : Oz < V.heap.size := World.block_lt_of_cell? V _ cOz
              have lcOpf : Op < V.heap.size := World.block_lt_of_cell? V _ cOpf
              have lcOpg : Op < V.heap.size := World.block_lt_of_cell? V _ cOpg
              refine (Range_t c f g _ kAA (Ext.refl _) (HT.out.ext (hw.trans (hE1.trans hE)))).mono ?_
              rintro e w1 ⟨rfl, hb⟩
              have hc := hb.cellE; have hf := hb.frozenE; have hz := hb.size; have ha := alloc_keeps w1; (try simp only [World.size_alloc] at hc hf hz); (try simp only [World.size_setCell] at hc hf hz); (try simp only [World.size_drew] at hc hf hz)
              go_wp2_with fail
              refine calls_name (fun V => Ext V4 V ∧ V.cell? ⟨Oz, 0, none⟩ = some (.slice a n c) ∧ AA V a l n v ∧ V.cell? ⟨Op, 0, none⟩ = some (.int .i64 f) ∧ V.cell? ⟨Op, 1, none⟩ = some (.int .i64 g)) ⟨hE.trans (by first | exact hb | exact Ext.alloc hb _ | exact Ext.alloc (Ext.alloc hb _) _), Ext.cell (by first | exact hb | exact Ext.alloc hb _ | exact Ext.alloc (Ext.alloc hb _) _) cOz, kAA.ext (by first | exact hb | exact Ext.alloc hb _ | exact Ext.alloc (Ext.alloc hb _) _), Ext.cell (by first | exact hb | exact Ext.alloc hb _ | exact Ext.alloc (Ext.alloc hb _) _) cOpf, Ext.cell (by first | exact hb | exact Ext.alloc hb _ | exact Ext.alloc (Ext.alloc hb _) _) cOpg⟩ ?_
              clear hE cOz kAA cOpf cOpg lcOz lcOpf lcOpg hb hc hf hz ha
              rintro V ⟨hE, cOz, kAA, cOpf, cOpg⟩
              have lcOz : Oz < V.heap.size := World.block_lt_of_cell? V _ cOz
              have lcOpf : Op < V.heap.size := World.block_lt_of_cell? V _ cOpf
              have lcOpg : Op < V.heap.size := World.block_lt_of_cell? V _ cOpg
              refine (rRange_t c f g _ kAA (Ext.refl _)).mono ?_
              rintro e w1 ⟨rfl, hb⟩
              have hc := hb.cellE; have hf := hb.frozenE; have hz := hb.size; have ha := alloc_keeps w1; (try simp only [World.size_alloc] at hc hf hz); (try simp only [World.size_setCell] at hc hf hz); (try simp only [World.size_drew] at hc hf hz)
              go_wp2_with fail
              go_roundw
              case rel => exact ⟨j + 1, by omega, by go_num, hE.trans hb⟩
              case measure => simp [intOf]; omega
            · obtain rfl : j = 2 := by omega
              go_wp2_with fail
              go_roundw
              case rel => exact ⟨i + 1, by omega, by go_num, hE1.trans hE⟩
              case measure => simp [intOf]; omega
        · obtain rfl : i = 2 := by omega
          go_wp2_with fail
          go_ret
          exact ⟨rfl, hE.trans e6⟩

end Go.Proofs.YtknlnmalaidaiaaDoor
