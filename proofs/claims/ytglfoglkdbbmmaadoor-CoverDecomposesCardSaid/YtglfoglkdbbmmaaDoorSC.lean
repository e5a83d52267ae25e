/- The laws' own check of the chapter's examples. -/
import Derived.Test.YtglfoglkdbbmmaaDoorCM
namespace Go.Proofs.YtglfoglkdbbmmaaDoor
open Go.RowKit Go.Shelf

theorem ex_can : Globe.leftL (rowL 14) [rowL 14] = rowL 0 := by decide +kernel
theorem ex_sure : Globe.leftL (rowL 14) [rowL 6] = rowL 8 := by decide +kernel
theorem ex_pieces : Globe.piecesL (rowL 14) [rowL 6, rowL 4, rowL 12] = [rowL 6, rowL 0, rowL 8] := by decide +kernel
theorem ex_rest : Globe.leftL (rowL 14) [rowL 6, rowL 4, rowL 12] = rowL 0 := by decide +kernel
theorem ex_few : Globe.fewestL (Globe.enough (rowL 14) [rowL 6, rowL 4, rowL 12]) 3 = some [0, 2] := by decide +kernel
theorem ex_none : Globe.fewestL (Globe.enough (rowL 14) [rowL 6, rowL 4]) 2 = none := by decide +kernel
theorem ex_ok : Globe.stripsOk [(rowL 6, rowL 14), (rowL 4, rowL 4), (rowL 12, rowL 12)] = true := by decide +kernel
theorem ex_ok1 : Globe.stripsOk [(rowL 6, rowL 14)] = true := by decide +kernel
theorem ex_ok2 : Globe.stripsOk [(rowL 6, rowL 14), (rowL 4, rowL 4)] = true := by decide +kernel
theorem ex_check : checkB (rowL 14) [(rowL 6, rowL 14), (rowL 4, rowL 4), (rowL 12, rowL 12)] [rowL 6, rowL 0, rowL 8] = true := by decide +kernel
theorem ex_check2 : checkB (rowL 14) [(rowL 6, rowL 14), (rowL 4, rowL 4)] [rowL 6, rowL 0] = false := by decide +kernel
theorem ex_bad : Globe.stripsOk [([], [])] = false := by decide +kernel
theorem ex_bad0 : Globe.validL [] = false := by decide +kernel
/-- The first strips of a slice of strips. -/
theorem StripsAt.take {w : World} {a : Option Addr} {n : Nat} {ss : List (List Int × List Int)} (h : StripsAt w a n ss) (m : Nat) (hm : m ≤ n) : StripsAt w a m (ss.take m) :=
  ⟨by rw [List.length_take, h.1]; omega, by have := h.2.1; omega, by
    rcases h.2.2 with h0 | ⟨b, off, ha, hc⟩
    · exact .inl (by omega)
    · exact .inr ⟨b, off, ha, fun i s hs => by
        rcases Nat.lt_or_ge i m with hi | hi
        · rw [List.getElem?_take_of_lt hi] at hs; exact hc i s hs
        · rw [List.getElem?_eq_none (by rw [List.length_take]; omega)] at hs; cases hs⟩⟩
theorem AreasAt.take {w : World} {a : Option Addr} {n : Nat} {ls : List (List Int)} (h : AreasAt w a n ls) (m : Nat) (hm : m ≤ n) : AreasAt w a m (ls.take m) :=
  ⟨by rw [List.length_take, h.1]; omega, by have := h.2.1; omega, by
    rcases h.2.2 with h0 | ⟨b, off, ha, hc⟩
    · exact .inl (by omega)
    · exact .inr ⟨b, off, ha, fun i s hs => by
        rcases Nat.lt_or_ge i m with hi | hi
        · rw [List.getElem?_take_of_lt hi] at hs; exact hc i s hs
        · rw [List.getElem?_eq_none (by rw [List.length_take]; omega)] at hs; cases hs⟩⟩

theorem areas3 (w : World) {B1 B2 B3 k1 k2 k3 : Nat} {L1 L2 L3 : List Int} {t : TypeId} (h1 : VA w B1 0 L1) (h2 : VA w B2 0 L2) (h3 : VA w B3 0 L3) :
    AreasAt (w.alloc (.cells #[.slice (some ⟨B1, 0, none⟩) 24 k1, .slice (some ⟨B2, 0, none⟩) 24 k2, .slice (some ⟨B3, 0, none⟩) 24 k3] t)) (some ⟨w.heap.size, 0, none⟩) 3 [L1, L2, L3] := by
  refine ⟨rfl, by omega, .inr ⟨w.heap.size, 0, rfl, fun i l hl => ?_⟩⟩
  match i, hl with
  | 0, hl => cases hl; exact ⟨some ⟨B1, 0, none⟩, 24, k1, _, by simp [go_sem], (h1.ext (Ext.alloc (Ext.refl _) _)).aa⟩
  | 1, hl => cases hl; exact ⟨some ⟨B2, 0, none⟩, 24, k2, _, by simp [go_sem], (h2.ext (Ext.alloc (Ext.refl _) _)).aa⟩
  | 2, hl => cases hl; exact ⟨some ⟨B3, 0, none⟩, 24, k3, _, by simp [go_sem], (h3.ext (Ext.alloc (Ext.refl _) _)).aa⟩
  | _ + 3, hl => simp at hl
theorem ints2 (w : World) (a b : Nat) {x y : Int} {t : TypeId} (hx : x = (a : Int)) (hy : y = (b : Int)) : IntsAt (w.alloc (.cells #[.int .i64 x, .int .i64 y] t)) (some ⟨w.heap.size, 0, none⟩) (intsN [a, b]) := by
  subst hx hy
  refine .inr ⟨w.heap.size, 0, rfl, fun i hi => ?_⟩
  match i, hi with
  | 0, _ => simp [go_sem, Globe.nth, intsN]
  | 1, _ => simp [go_sem, Globe.nth, intsN]
  | _ + 2, hi => simp [intsN] at hi; omega
theorem strips1 (w : World) {t : TypeId} : StripsAt (w.alloc (.cells #[.slice none 0 0, .slice none 0 0] t)) (some ⟨w.heap.size, 0, none⟩) 1 [([], [])] := by
  refine ⟨rfl, by omega, .inr ⟨w.heap.size, 0, rfl, fun i s hs => ?_⟩⟩
  match i, hs with
  | 0, hs => cases hs; exact ⟨none, 0, 0, _, none, 0, 0, _, by simp [go_sem], ⟨.inl rfl, rfl, by omega, rfl⟩, by simp [go_sem], ⟨.inl rfl, rfl, by omega, rfl⟩⟩
  | _ + 1, hs => simp at hs
/-- The frame behind the first call of Uncovered. -/
def FrSane (Oa Ob O1 O2 : Nat) (u : Nat → Value) : Array Value := #[u 0, .pointer (some ⟨Oa, 0, none⟩), .slice (some ⟨Ob, 0, none⟩) 3 3, .pointer (some ⟨O1, 0, none⟩), .pointer (some ⟨O2, 0, none⟩), .int .i64 0, u 6, u 7, u 8, u 9, u 10, u 11, u 12, u 13, u 14, u 15, u 16, u 17, u 18, u 19, u 20, u 21, u 22, u 23, u 24, u 25, u 26, u 27, u 28, u 29, u 30, u 31, u 32, u 33, u 34, u 35, u 36, u 37, u 38, u 39, u 40, u 41, u 42, u 43, u 44, u 45, u 46, u 47, u 48, u 49, u 50, u 51, u 52, u 53, u 54, u 55, u 56, u 57, u 58, u 59, u 60, u 61, u 62, u 63, u 64, u 65, u 66, u 67, u 68, u 69, u 70, u 71, u 72, u 73, u 74, u 75, u 76, u 77, u 78, u 79, u 80, u 81, u 82, u 83, u 84, u 85, u 86, u 87, u 88, u 89, u 90, u 91, u 92, u 93, u 94, u 95, u 96, u 97, u 98, u 99, u 100, u 101, u 102, u 103, u 104, u 105, u 106, u 107, u 108, u 109, u 110, u 111, u 112, u 113, u 114, u 115, u 116, u 117, u 118, u 119, u 120, u 121, u 122, u 123, u 124, u 125, u 126, u 127, u 128, u 129, u 130, u 131, u 132, u 133, u 134, u 135, u 136, u 137, u 138, u 139, u 140, u 141, u 142, u 143, u 144, u 145, u 146, u 147, u 148]
theorem frSane_lit {Oa Ob O1 O2 : Nat} (X : Array Value) (h : X = FrSane Oa Ob O1 O2 (fun j => X.getD j undef)) : ∃ u, X = FrSane Oa Ob O1 O2 u := ⟨_, h⟩
def SaneJ (V : World) (Oa Ob : Nat) (e : Exit) (A : Act) (w' : World) : Prop :=
  e = .normal ∧ ∃ O1 O2 P1 p1 q1 P2 p2 q2 : Nat, (∃ u, A.tmps = FrSane Oa Ob O1 O2 u) ∧ A.defers = [] ∧ w'.cell? ⟨O1, 0, none⟩ = some (.slice (some ⟨P1, p1, none⟩) 24 q1) ∧ w'.cell? ⟨O2, 0, none⟩ = some (.slice (some ⟨P2, p2, none⟩) 24 q2) ∧ VA w' P1 p1 (rowL 0) ∧ VA w' P2 p2 (rowL 8) ∧ Ext V w'
theorem SaneJ.mk {V : World} {Oa Ob : Nat} {w' : World} (X : Array Value) {O1 O2 P1 p1 q1 P2 p2 q2 : Nat} (hX : X = FrSane Oa Ob O1 O2 (fun j => X.getD j undef)) (h1 : w'.cell? ⟨O1, 0, none⟩ = some (.slice (some ⟨P1, p1, none⟩) 24 q1)) (h2 : w'.cell? ⟨O2, 0, none⟩ = some (.slice (some ⟨P2, p2, none⟩) 24 q2)) (h3 : VA w' P1 p1 (rowL 0)) (h4 : VA w' P2 p2 (rowL 8)) (h5 : Ext V w') : SaneJ V Oa Ob .normal ⟨X, []⟩ w' :=
  ⟨rfl, O1, O2, P1, p1, q1, P2, p2, q2, frSane_lit X hX, rfl, h1, h2, h3, h4, h5⟩

set_option maxRecDepth 1000000 in
set_option maxHeartbeats 16000000 in
theorem sane_c (w : World) (hT : Tab w) : Calls Tryd.prog 10 #[] w fun e w' => e = .returned (.bool true) ∧ Ext w w' := by
  have HT := Lib.hid hT; clear hT
  go_enter Tryd.func10, Tryd.ntmps10
  go_wp2_with fail
  refine calls_name (fun V => Ext w V) (by (repeat' (first | (with_reducible assumption) | (with_reducible exact Ext.refl _) | (with_reducible refine Ext.alloc ?_ _) | (with_reducible refine Ext.drew ?_) | (with_reducible refine Ext.drewN ?_ _) | (with_reducible refine Ext.setCell ?_ ?_ _) | (with_reducible refine Ext.trans ?_ (by assumption)) | go_size))) ?_
  intro V hE
  refine (row_c 14 _ (by decide)).mono ?_
  rintro e w1 ⟨B0, k0, rfl, hB, hv, hb⟩
  have hc := hb.cellE; have hf := hb.frozenE; have hz := hb.size; have ha := alloc_keeps w1; (try simp only [World.size_alloc] at hc hf hz); (try simp only [World.size_setCell] at hc hf hz); (try simp only [World.size_drew] at hc hf hz)
  go_wp2_with fail
  obtain ⟨Oa, hO⟩ : ∃ O, O = w1.heap.size := ⟨_, rfl⟩
  rw [← hO]
  refine calls_name (fun V => Ext w V ∧ VA V B0 0 (rowL 14) ∧ V.cell? ⟨Oa, 0, none⟩ = some (.slice (some ⟨B0, 0, none⟩) 24 k0)) ⟨hE.trans (by first | exact hb | exact Ext.alloc hb _ | exact Ext.alloc (Ext.alloc hb _) _), hv.ext (by first | exact Ext.refl _ | exact Ext.alloc (Ext.refl _) _ | exact Ext.alloc (Ext.alloc (Ext.refl _) _) _), by rw [hO]; simp [go_sem]⟩ ?_
  clear hE  hb hc hf hz ha hO
  rintro V ⟨hE, vA, cA⟩
  have lvA := vA.lt
  have lcA : Oa < V.heap.size := World.block_lt_of_cell? V _ cA
  refine (row_c 6 _ (by decide)).mono ?_
  rintro e w1 ⟨B1, k1, rfl, hB, hv, hb⟩
  have hc := hb.cellE; have hf := hb.frozenE; have hz := hb.size; have ha := alloc_keeps w1; (try simp only [World.size_alloc] at hc hf hz); (try simp only [World.size_setCell] at hc hf hz); (try simp only [World.size_drew] at hc hf hz)
  go_wp2_with fail
  refine calls_name (fun V => Ext w V ∧ VA V B0 0 (rowL 14) ∧ V.cell? ⟨Oa, 0, none⟩ = some (.slice (some ⟨B0, 0, none⟩) 24 k0) ∧ VA V B1 0 (rowL 6)) ⟨hE.trans (by first | exact hb | exact Ext.alloc hb _ | exact Ext.alloc (Ext.alloc hb _) _), vA.ext (by first | exact hb | exact Ext.alloc hb _ | exact Ext.alloc (Ext.alloc hb _) _), Ext.cell (by first | exact hb | exact Ext.alloc hb _ | exact Ext.alloc (Ext.alloc hb _) _) cA, hv.ext (by first | exact Ext.refl _ | exact Ext.alloc (Ext.refl _) _ | exact Ext.alloc (Ext.alloc (Ext.refl _) _) _)⟩ ?_
  clear hE vA cA lvA lcA hb hc hf hz ha
  rintro V ⟨hE, vA, cA, v1⟩
  have lvA := vA.lt
  have lcA : Oa < V.heap.size := World.block_lt_of_cell? V _ cA
  have lv1 := v1.lt
  refine (row_c 14 _ (by decide)).mono ?_
  rintro e w1 ⟨B2, k2, rfl, hB, hv, hb⟩
  have hc := hb.cellE; have hf := hb.frozenE; have hz := hb.size; have ha := alloc_keeps w1; (try simp only [World.size_alloc] at hc hf hz); (try simp only [World.size_setCell] at hc hf hz); (try simp only [World.size_drew] at hc hf hz)
  go_wp2_with fail
  refine calls_name (fun V => Ext w V ∧ VA V B0 0 (rowL 14) ∧ V.cell? ⟨Oa, 0, none⟩ = some (.slice (some ⟨B0, 0, none⟩) 24 k0) ∧ VA V B1 0 (rowL 6) ∧ VA V B2 0 (rowL 14)) ⟨hE.trans (by first | exact hb | exact Ext.alloc hb _ | exact Ext.alloc (Ext.alloc hb _) _), vA.ext (by first | exact hb | exact Ext.alloc hb _ | exact Ext.alloc (Ext.alloc hb _) _), Ext.cell (by first | exact hb | exact Ext.alloc hb _ | exact Ext.alloc (Ext.alloc hb _) _) cA, v1.ext (by first | exact hb | exact Ext.alloc hb _ | exact Ext.alloc (Ext.alloc hb _) _), hv.ext (by first | exact Ext.refl _ | exact Ext.alloc (Ext.refl _) _ | exact Ext.alloc (Ext.alloc (Ext.refl _) _) _)⟩ ?_
  clear hE vA cA v1 lvA lcA lv1 hb hc hf hz ha
  rintro V ⟨hE, vA, cA, v1, v2⟩
  have lvA := vA.lt
  have lcA : Oa < V.heap.size := World.block_lt_of_cell? V _ cA
  have lv1 := v1.lt
  have lv2 := v2.lt
  refine (row_c 4 _ (by decide)).mono ?_
  rintro e w1 ⟨B3, k3, rfl, hB, hv, hb⟩
  have hc := hb.cellE; have hf := hb.frozenE; have hz := hb.size; have ha := alloc_keeps w1; (try simp only [World.size_alloc] at hc hf hz); (try simp only [World.size_setCell] at hc hf hz); (try simp only [World.size_drew] at hc hf hz)
  go_wp2_with fail
  refine calls_name (fun V => Ext w V ∧ VA V B0 0 (rowL 14) ∧ V.cell? ⟨Oa, 0, none⟩ = some (.slice (some ⟨B0, 0, none⟩) 24 k0) ∧ VA V B1 0 (rowL 6) ∧ VA V B2 0 (rowL 14) ∧ VA V B3 0 (rowL 4)) ⟨hE.trans (by first | exact hb | exact Ext.alloc hb _ | exact Ext.alloc (Ext.alloc hb _) _), vA.ext (by first | exact hb | exact Ext.alloc hb _ | exact Ext.alloc (Ext.alloc hb _) _), Ext.cell (by first | exact hb | exact Ext.alloc hb _ | exact Ext.alloc (Ext.alloc hb _) _) cA, v1.ext (by first | exact hb | exact Ext.alloc hb _ | exact Ext.alloc (Ext.alloc hb _) _), v2.ext (by first | exact hb | exact Ext.alloc hb _ | exact Ext.alloc (Ext.alloc hb _) _), hv.ext (by first | exact Ext.refl _ | exact Ext.alloc (Ext.refl _) _ | exact Ext.alloc (Ext.alloc (Ext.refl _) _) _)⟩ ?_
  clear hE vA cA v1 v2 lvA lcA lv1 lv2 hb hc hf hz ha
  rintro V ⟨hE, vA, cA, v1, v2, v3⟩
  have lvA := vA.lt
  have lcA : Oa < V.heap.size := World.block_lt_of_cell? V _ cA
  have lv1 := v1.lt
  have lv2 := v2.lt
  have lv3 := v3.lt
  refine (row_c 4 _ (by decide)).mono ?_
  rintro e w1 ⟨B4, k4, rfl, hB, hv, hb⟩
  have hc := hb.cellE; have hf := hb.frozenE; have hz := hb.size; have ha := alloc_keeps w1; (try simp only [World.size_alloc] at hc hf hz); (try simp only [World.size_setCell] at hc hf hz); (try simp only [World.size_drew] at hc hf hz)
  go_wp2_with fail
  refine calls_name (fun V => Ext w V ∧ VA V B0 0 (rowL 14) ∧ V.cell? ⟨Oa, 0, none⟩ = some (.slice (some ⟨B0, 0, none⟩) 24 k0) ∧ VA V B1 0 (rowL 6) ∧ VA V B2 0 (rowL 14) ∧ VA V B3 0 (rowL 4) ∧ VA V B4 0 (rowL 4)) ⟨hE.trans (by first | exact hb | exact Ext.alloc hb _ | exact Ext.alloc (Ext.alloc hb _) _), vA.ext (by first | exact hb | exact Ext.alloc hb _ | exact Ext.alloc (Ext.alloc hb _) _), Ext.cell (by first | exact hb | exact Ext.alloc hb _ | exact Ext.alloc (Ext.alloc hb _) _) cA, v1.ext (by first | exact hb | exact Ext.alloc hb _ | exact Ext.alloc (Ext.alloc hb _) _), v2.ext (by first | exact hb | exact Ext.alloc hb _ | exact Ext.alloc (Ext.alloc hb _) _), v3.ext (by first | exact hb | exact Ext.alloc hb _ | exact Ext.alloc (Ext.alloc hb _) _), hv.ext (by first | exact Ext.refl _ | exact Ext.alloc (Ext.refl _) _ | exact Ext.alloc (Ext.alloc (Ext.refl _) _) _)⟩ ?_
  clear hE vA cA v1 v2 v3 lvA lcA lv1 lv2 lv3 hb hc hf hz ha
  rintro V ⟨hE, vA, cA, v1, v2, v3, v4⟩
  have lvA := vA.lt
  have lcA : Oa < V.heap.size := World.block_lt_of_cell? V _ cA
  have lv1 := v1.lt
  have lv2 := v2.lt
  have lv3 := v3.lt
  have lv4 := v4.lt
  refine (row_c 12 _ (by decide)).mono ?_
  rintro e w1 ⟨B5, k5, rfl, hB, hv, hb⟩
  have hc := hb.cellE; have hf := hb.frozenE; have hz := hb.size; have ha := alloc_keeps w1; (try simp only [World.size_alloc] at hc hf hz); (try simp only [World.size_setCell] at hc hf hz); (try simp only [World.size_drew] at hc hf hz)
  go_wp2_with fail
  refine calls_name (fun V => Ext w V ∧ VA V B0 0 (rowL 14) ∧ V.cell? ⟨Oa, 0, none⟩ = some (.slice (some ⟨B0, 0, none⟩) 24 k0) ∧ VA V B1 0 (rowL 6) ∧ VA V B2 0 (rowL 14) ∧ VA V B3 0 (rowL 4) ∧ VA V B4 0 (rowL 4) ∧ VA V B5 0 (rowL 12)) ⟨hE.trans (by first | exact hb | exact Ext.alloc hb _ | exact Ext.alloc (Ext.alloc hb _) _), vA.ext (by first | exact hb | exact Ext.alloc hb _ | exact Ext.alloc (Ext.alloc hb _) _), Ext.cell (by first | exact hb | exact Ext.alloc hb _ | exact Ext.alloc (Ext.alloc hb _) _) cA, v1.ext (by first | exact hb | exact Ext.alloc hb _ | exact Ext.alloc (Ext.alloc hb _) _), v2.ext (by first | exact hb | exact Ext.alloc hb _ | exact Ext.alloc (Ext.alloc hb _) _), v3.ext (by first | exact hb | exact Ext.alloc hb _ | exact Ext.alloc (Ext.alloc hb _) _), v4.ext (by first | exact hb | exact Ext.alloc hb _ | exact Ext.alloc (Ext.alloc hb _) _), hv.ext (by first | exact Ext.refl _ | exact Ext.alloc (Ext.refl _) _ | exact Ext.alloc (Ext.alloc (Ext.refl _) _) _)⟩ ?_
  clear hE vA cA v1 v2 v3 v4 lvA lcA lv1 lv2 lv3 lv4 hb hc hf hz ha
  rintro V ⟨hE, vA, cA, v1, v2, v3, v4, v5⟩
  have lvA := vA.lt
  have lcA : Oa < V.heap.size := World.block_lt_of_cell? V _ cA
  have lv1 := v1.lt
  have lv2 := v2.lt
  have lv3 := v3.lt
  have lv4 := v4.lt
  have lv5 := v5.lt
  refine (row_c 12 _ (by decide)).mono ?_
  rintro e w1 ⟨B6, k6, rfl, hB, hv, hb⟩
  have hc := hb.cellE; have hf := hb.frozenE; have hz := hb.size; have ha := alloc_keeps w1; (try simp only [World.size_alloc] at hc hf hz); (try simp only [World.size_setCell] at hc hf hz); (try simp only [World.size_drew] at hc hf hz)
  go_wp2_with fail
  obtain ⟨Ob, hO⟩ : ∃ O, O = w1.heap.size := ⟨_, rfl⟩
  rw [← hO]
  refine wp_name (fun V => Ext w V ∧ VA V B0 0 (rowL 14) ∧ V.cell? ⟨Oa, 0, none⟩ = some (.slice (some ⟨B0, 0, none⟩) 24 k0) ∧ VA V B1 0 (rowL 6) ∧ VA V B2 0 (rowL 14) ∧ VA V B3 0 (rowL 4) ∧ VA V B4 0 (rowL 4) ∧ VA V B5 0 (rowL 12) ∧ VA V B6 0 (rowL 12) ∧ V.cell? ⟨Ob, 0, none⟩ = some (.slice (some ⟨B1, 0, none⟩) 24 k1) ∧ V.cell? ⟨Ob, 1, none⟩ = some (.slice (some ⟨B2, 0, none⟩) 24 k2) ∧ V.cell? ⟨Ob, 2, none⟩ = some (.slice (some ⟨B3, 0, none⟩) 24 k3) ∧ V.cell? ⟨Ob, 3, none⟩ = some (.slice (some ⟨B4, 0, none⟩) 24 k4) ∧ V.cell? ⟨Ob, 4, none⟩ = some (.slice (some ⟨B5, 0, none⟩) 24 k5) ∧ V.cell? ⟨Ob, 5, none⟩ = some (.slice (some ⟨B6, 0, none⟩) 24 k6)) ⟨hE.trans (by first | exact hb | exact Ext.alloc hb _ | exact Ext.alloc (Ext.alloc hb _) _), vA.ext (by first | exact hb | exact Ext.alloc hb _ | exact Ext.alloc (Ext.alloc hb _) _), Ext.cell (by first | exact hb | exact Ext.alloc hb _ | exact Ext.alloc (Ext.alloc hb _) _) cA, v1.ext (by first | exact hb | exact Ext.alloc hb _ | exact Ext.alloc (Ext.alloc hb _) _), v2.ext (by first | exact hb | exact Ext.alloc hb _ | exact Ext.alloc (Ext.alloc hb _) _), v3.ext (by first | exact hb | exact Ext.alloc hb _ | exact Ext.alloc (Ext.alloc hb _) _), v4.ext (by first | exact hb | exact Ext.alloc hb _ | exact Ext.alloc (Ext.alloc hb _) _), v5.ext (by first | exact hb | exact Ext.alloc hb _ | exact Ext.alloc (Ext.alloc hb _) _), hv.ext (by first | exact Ext.refl _ | exact Ext.alloc (Ext.refl _) _ | exact Ext.alloc (Ext.alloc (Ext.refl _) _) _), by rw [hO]; simp [go_sem], by rw [hO]; simp [go_sem], by rw [hO]; simp [go_sem], by rw [hO]; simp [go_sem], by rw [hO]; simp [go_sem], by rw [hO]; simp [go_sem]⟩ ?_
  clear hE vA cA v1 v2 v3 v4 v5 lvA lcA lv1 lv2 lv3 lv4 lv5 hb hc hf hz ha hO
  rintro V ⟨hE, vA, cA, v1, v2, v3, v4, v5, v6, z0, z1, z2, z3, z4, z5⟩
  have lvA := vA.lt
  have lcA : Oa < V.heap.size := World.block_lt_of_cell? V _ cA
  have lv1 := v1.lt
  have lv2 := v2.lt
  have lv3 := v3.lt
  have lv4 := v4.lt
  have lv5 := v5.lt
  have lv6 := v6.lt
  have HS := Lib.hid (show StripsAt V (some ⟨Ob, 0, none⟩) 3 [(rowL 6, rowL 14), (rowL 4, rowL 4), (rowL 12, rowL 12)] from ⟨rfl, by omega, .inr ⟨Ob, 0, rfl, fun i s hs => by
    match i, hs with
    | 0, hs => cases hs; exact ⟨_, _, _, _, _, _, _, _, z0, v1.aa, z1, v2.aa⟩
    | 1, hs => cases hs; exact ⟨_, _, _, _, _, _, _, _, z2, v3.aa, z3, v4.aa⟩
    | 2, hs => cases hs; exact ⟨_, _, _, _, _, _, _, _, z4, v5.aa, z5, v6.aa⟩
    | _ + 3, hs => simp at hs⟩⟩)
  clear z0 z1 z2 z3 z4 z5 v1 v2 v3 v4 v5 v6 lv1 lv2 lv3 lv4 lv5 lv6
  refine wp_mono (show Code.wp _ _ (SaneJ V Oa Ob) _ _ from ?_) ?_
  · have HM := Lib.hid (show ∀ w', Ext V w' → Ext V w' ∧ w'.cell? ⟨Oa, 0, none⟩ = some (.slice (some ⟨B0, 0, none⟩) 24 k0) from fun w' h => ⟨h, h.cell cA⟩)
    refine wg_begin [(some 31, [1], []), (some 32, [2], []), (some 33, [32], [1]), (some 34, [31, 33], [0, 2]), (some 30, [34], [3]), (some 35, [30], [4]), (some 36, [30], [4]), (some 37, [30], [4]), (some 3, [], []), (some 4, [], []), (none, [3, 35], [8, 5, 3, 0, 1, 2, 3, 4, 5, 8, 9]), (none, [4, 36], [9, 6, 10, 0, 1, 2, 3, 4, 5, 6, 8, 9, 10]), (some 5, [37], [7, 11, 0, 1, 2, 3, 4, 5, 6, 7, 8, 9, 10, 11])] (fun w' => Ext V w' ∧ w'.cell? ⟨Oa, 0, none⟩ = some (.slice (some ⟨B0, 0, none⟩) 24 k0)) (by kernel_rfl) (by kernel_rfl) (by kernel_rfl) (by kernel_rfl) (by intro c d v a w h; cases d <;> first | exact h | (exact nomatch h.1) | (dsimp +zetaDelta only [Exit.then, Exit.inBlock] at h ⊢; exact h)) ((HM.out _ (Ext.drew (Ext.refl _)))) (fun ops Q L hL hR hK hHeld => ?_); replace hL := Lib.hid hL; have hW1 := @evalW_tmp; have hW2 := @evalW_const; have hW3 := @evalW_func; have hW4 := @look_cons; have hW5 := @look_nil
    have r1 := wg_read hL.out 1 rfl
    have r2 := wg_read hL.out 2 rfl
    (refine wg_take 0 (v := ?_) hR rfl (by kernel_rfl) (by kernel_rfl) ?_ (by with_reducible assumption) ?_; rotate_left; (focus (intro w hSw; (try dsimp only at hSw); go_simp; (try with_reducible rfl))); (dsimp only [putW]))
    (refine wg_take 1 (v := ?_) hR rfl (by kernel_rfl) (by kernel_rfl) ?_ (by with_reducible assumption) ?_; rotate_left; (focus (intro w hSw; (try dsimp only at hSw); go_simp; (try with_reducible rfl))); (dsimp only [putW]))
    (refine wg_take 2 (v := ?_) hR rfl (by kernel_rfl) (by kernel_rfl) ?_ (by with_reducible assumption) ?_; rotate_left; (focus (intro w hSw; (try dsimp only at hSw); go_simp; (try with_reducible rfl))); (dsimp only [putW]))
    refine wg_three 3 8 9 hR rfl rfl rfl (by kernel_rfl) (by kernel_rfl) (by kernel_rfl) (by kernel_rfl) (by kernel_rfl) ?_ ?_ ?_
    · (refine wg_call (f := 15) (args := ?_) ?_ ?_; rotate_left; (focus (go_simp; first | done | (with_reducible rfl) | (refine ⟨?_, ?_⟩ <;> with_reducible rfl))); (go_at_call 15; refine (Uncovered_v 3 k0 _ vA hHeld.1 (StripsAt.take HS.out 1 (by omega)) hHeld.1 ex_ok1).mono ?_; rintro e wU ⟨P1, p1, q1, P2, p2, q2, rfl, hu1, hu2, hu3, hu4, hb⟩; have hVU : Ext V wU := hHeld.1.trans hb; have hc := hb.cellE; have hf := hb.frozenE; have hz := hb.size; have ha := alloc_keeps wU; (try simp only [World.size_alloc] at hc hf hz); (try simp only [World.size_setCell] at hc hf hz); (try simp only [World.size_drew] at hc hf hz); (try simp only [World.size_alloc, World.size_drew] at hc hf hz hu3 hu4); replace hu1 : VA wU P1 p1 (rowL 0) := (by rw [← ex_can]; exact hu1); replace hu2 : VA wU P2 p2 (rowL 8) := (by rw [← ex_sure]; exact hu2); have lu1 := hu1.lt; have lu2 := hu2.lt); refine ⟨_, rfl, HM.out _ (hHeld.1.trans hb), fun hHeld => ?_⟩; (dsimp only [putW]))
      (refine wg_take 4 (v := ?_) hR rfl (by kernel_rfl) (by kernel_rfl) ?_ (by with_reducible assumption) ?_; rotate_left; (focus (intro w hSw; (try dsimp only at hSw); go_simp; (try with_reducible rfl))); (dsimp only [putW]))
      (refine wg_take 5 (v := ?_) hR rfl (by kernel_rfl) (by kernel_rfl) ?_ (by with_reducible assumption) ?_; rotate_left; (focus (intro w hSw; (try dsimp only at hSw); go_simp; (try with_reducible rfl))); (dsimp only [putW]))
      (refine wg_take 6 (v := ?_) hR rfl (by kernel_rfl) (by kernel_rfl) ?_ (by with_reducible assumption) ?_; rotate_left; (focus (intro w hSw; (try dsimp only at hSw); go_simp; (try with_reducible rfl))); (dsimp only [putW]))
      (refine wg_take 7 (v := ?_) hR rfl (by kernel_rfl) (by kernel_rfl) ?_ (by with_reducible assumption) ?_; rotate_left; (focus (intro w hSw; (try dsimp only at hSw); go_simp; (try with_reducible rfl))); (dsimp only [putW]))
      refine wg_two 8 9 hR rfl rfl (by kernel_rfl) (by kernel_rfl) (by kernel_rfl) (by kernel_rfl) ?_ ?_
      · (refine wg_eff (v := ?_) (w' := ?_) ?_ ?_ ?_; rotate_left; rotate_left; (focus (go_simp; first | done | (with_reducible rfl) | (refine ⟨?_, ?_⟩ <;> with_reducible rfl))); (focus (exact HM.out _ (by (repeat' (first | (with_reducible assumption) | (with_reducible exact Ext.refl _) | (with_reducible refine Ext.alloc ?_ _) | (with_reducible refine Ext.drew ?_) | (with_reducible refine Ext.drewN ?_ _) | (with_reducible refine Ext.setCell ?_ ?_ _) | (with_reducible refine Ext.trans ?_ (by assumption)) | go_size))))); intro hHeld; (dsimp only [putW]))
        (refine wg_step 9 hR rfl (by kernel_rfl) (by kernel_rfl) ?_ (by kernel_rfl); refine wg_eff (v := ?_) (w' := ?_) ?_ ?_ ?_; rotate_left; rotate_left; (focus (go_simp; first | done | (with_reducible rfl) | (refine ⟨?_, ?_⟩ <;> with_reducible rfl))); (focus (exact HM.out _ (by (repeat' (first | (with_reducible assumption) | (with_reducible exact Ext.refl _) | (with_reducible refine Ext.alloc ?_ _) | (with_reducible refine Ext.drew ?_) | (with_reducible refine Ext.drewN ?_ _) | (with_reducible refine Ext.setCell ?_ ?_ _) | (with_reducible refine Ext.trans ?_ (by assumption)) | go_size))))); intro hHeld; (dsimp only [putW]))
        (refine wg_step 10 hR rfl (by kernel_rfl) (by kernel_rfl) ?_ (by kernel_rfl); refine wg_skp (w' := ?_) ?_ ?_ ?_; rotate_left; (focus (go_simp; first | done | (with_reducible rfl))); (focus (exact HM.out _ (by (repeat' (first | (with_reducible assumption) | (with_reducible exact Ext.refl _) | (with_reducible refine Ext.alloc ?_ _) | (with_reducible refine Ext.drew ?_) | (with_reducible refine Ext.drewN ?_ _) | (with_reducible refine Ext.setCell ?_ ?_ _) | (with_reducible refine Ext.trans ?_ (by assumption)) | go_size))))); intro hHeld; (dsimp only [putW]))
        (refine wg_step 11 hR rfl (by kernel_rfl) (by kernel_rfl) ?_ (by kernel_rfl); refine wg_skp (w' := ?_) ?_ ?_ ?_; rotate_left; (focus (go_simp; first | done | (with_reducible rfl))); (focus (exact HM.out _ (by (repeat' (first | (with_reducible assumption) | (with_reducible exact Ext.refl _) | (with_reducible refine Ext.alloc ?_ _) | (with_reducible refine Ext.drew ?_) | (with_reducible refine Ext.drewN ?_ _) | (with_reducible refine Ext.setCell ?_ ?_ _) | (with_reducible refine Ext.trans ?_ (by assumption)) | go_size))))); intro hHeld; (dsimp only [putW]))
        (refine wg_take 12 (v := ?_) hR rfl (by kernel_rfl) (by kernel_rfl) ?_ (by with_reducible assumption) ?_; rotate_left; (focus (intro w hSw; (try dsimp only at hSw); go_simp; (try with_reducible rfl))); (dsimp only [putW]))
        refine wg_fin hR hK [(3, 2), (0, 1), (0, 0), (24, 6), (0, 10), (0, 9), (0, 8), (0, 7), (0, 5), (0, 4), (0, 3)] (by kernel_rfl) (by kernel_rfl) (by dsimp only [mg, gsOf, valAt]) ?_; clear hW1 hW2 hW3 hW4 hW5 hR hK hL
        clear r1
        clear r2
        refine SaneJ.mk (P1 := P1) (p1 := p1) (q1 := q1) (P2 := P2) (p2 := p2) (q2 := q2) _ rfl (by first | (simp [go_sem]; done) | (simp [go_sem, hc, hf, ha, hz]; done)) (by first | (simp [go_sem]; done) | (simp [go_sem, hc, hf, ha, hz]; done)) ?_ ?_ ?_
        · repeat (first | exact hu1 | (refine VA.ext ?_ (Ext.alloc (Ext.refl _) _)) | (refine VA.other ?_ (by dsimp only; omega) _))
        · repeat (first | exact hu2 | (refine VA.ext ?_ (Ext.alloc (Ext.refl _) _)) | (refine VA.other ?_ (by dsimp only; omega) _))
        · (repeat' (first | (with_reducible assumption) | (with_reducible exact Ext.refl _) | (with_reducible refine Ext.alloc ?_ _) | (with_reducible refine Ext.drew ?_) | (with_reducible refine Ext.drewN ?_ _) | (with_reducible refine Ext.setCell ?_ ?_ _) | (with_reducible refine Ext.trans ?_ (by assumption)) | go_size))
      · (refine wg_eff (v := ?_) (w' := ?_) ?_ ?_ ?_; rotate_left; rotate_left; (focus (go_simp; first | done | (with_reducible rfl) | (refine ⟨?_, ?_⟩ <;> with_reducible rfl))); (focus (exact HM.out _ (by (repeat' (first | (with_reducible assumption) | (with_reducible exact Ext.refl _) | (with_reducible refine Ext.alloc ?_ _) | (with_reducible refine Ext.drew ?_) | (with_reducible refine Ext.drewN ?_ _) | (with_reducible refine Ext.setCell ?_ ?_ _) | (with_reducible refine Ext.trans ?_ (by assumption)) | go_size))))); intro hHeld; (dsimp only [putW]))
        (refine wg_step 8 hR rfl (by kernel_rfl) (by kernel_rfl) ?_ (by kernel_rfl); refine wg_eff (v := ?_) (w' := ?_) ?_ ?_ ?_; rotate_left; rotate_left; (focus (go_simp; first | done | (with_reducible rfl) | (refine ⟨?_, ?_⟩ <;> with_reducible rfl))); (focus (exact HM.out _ (by (repeat' (first | (with_reducible assumption) | (with_reducible exact Ext.refl _) | (with_reducible refine Ext.alloc ?_ _) | (with_reducible refine Ext.drew ?_) | (with_reducible refine Ext.drewN ?_ _) | (with_reducible refine Ext.setCell ?_ ?_ _) | (with_reducible refine Ext.trans ?_ (by assumption)) | go_size))))); intro hHeld; (dsimp only [putW]))
        (refine wg_step 10 hR rfl (by kernel_rfl) (by kernel_rfl) ?_ (by kernel_rfl); refine wg_skp (w' := ?_) ?_ ?_ ?_; rotate_left; (focus (go_simp; first | done | (with_reducible rfl))); (focus (exact HM.out _ (by (repeat' (first | (with_reducible assumption) | (with_reducible exact Ext.refl _) | (with_reducible refine Ext.alloc ?_ _) | (with_reducible refine Ext.drew ?_) | (with_reducible refine Ext.drewN ?_ _) | (with_reducible refine Ext.setCell ?_ ?_ _) | (with_reducible refine Ext.trans ?_ (by assumption)) | go_size))))); intro hHeld; (dsimp only [putW]))
        (refine wg_step 11 hR rfl (by kernel_rfl) (by kernel_rfl) ?_ (by kernel_rfl); refine wg_skp (w' := ?_) ?_ ?_ ?_; rotate_left; (focus (go_simp; first | done | (with_reducible rfl))); (focus (exact HM.out _ (by (repeat' (first | (with_reducible assumption) | (with_reducible exact Ext.refl _) | (with_reducible refine Ext.alloc ?_ _) | (with_reducible refine Ext.drew ?_) | (with_reducible refine Ext.drewN ?_ _) | (with_reducible refine Ext.setCell ?_ ?_ _) | (with_reducible refine Ext.trans ?_ (by assumption)) | go_size))))); intro hHeld; (dsimp only [putW]))
        (refine wg_take 12 (v := ?_) hR rfl (by kernel_rfl) (by kernel_rfl) ?_ (by with_reducible assumption) ?_; rotate_left; (focus (intro w hSw; (try dsimp only at hSw); go_simp; (try with_reducible rfl))); (dsimp only [putW]))
        refine wg_fin hR hK [(3, 1), (0, 2), (0, 0), (24, 6), (0, 10), (0, 9), (0, 8), (0, 7), (0, 5), (0, 4), (0, 3)] (by kernel_rfl) (by kernel_rfl) (by dsimp only [mg, gsOf, valAt]) ?_; clear hW1 hW2 hW3 hW4 hW5 hR hK hL
        clear r1
        clear r2
        refine SaneJ.mk (P1 := P1) (p1 := p1) (q1 := q1) (P2 := P2) (p2 := p2) (q2 := q2) _ rfl (by first | (simp [go_sem]; done) | (simp [go_sem, hc, hf, ha, hz]; done)) (by first | (simp [go_sem]; done) | (simp [go_sem, hc, hf, ha, hz]; done)) ?_ ?_ ?_
        · repeat (first | exact hu1 | (refine VA.ext ?_ (Ext.alloc (Ext.refl _) _)) | (refine VA.other ?_ (by dsimp only; omega) _))
        · repeat (first | exact hu2 | (refine VA.ext ?_ (Ext.alloc (Ext.refl _) _)) | (refine VA.other ?_ (by dsimp only; omega) _))
        · (repeat' (first | (with_reducible assumption) | (with_reducible exact Ext.refl _) | (with_reducible refine Ext.alloc ?_ _) | (with_reducible refine Ext.drew ?_) | (with_reducible refine Ext.drewN ?_ _) | (with_reducible refine Ext.setCell ?_ ?_ _) | (with_reducible refine Ext.trans ?_ (by assumption)) | go_size))
    · (refine wg_eff (v := ?_) (w' := ?_) ?_ ?_ ?_; rotate_left; rotate_left; (focus (go_simp; first | done | (with_reducible rfl) | (refine ⟨?_, ?_⟩ <;> with_reducible rfl))); (focus (exact HM.out _ (by (repeat' (first | (with_reducible assumption) | (with_reducible exact Ext.refl _) | (with_reducible refine Ext.alloc ?_ _) | (with_reducible refine Ext.drew ?_) | (with_reducible refine Ext.drewN ?_ _) | (with_reducible refine Ext.setCell ?_ ?_ _) | (with_reducible refine Ext.trans ?_ (by assumption)) | go_size))))); intro hHeld; (dsimp only [putW]))
      refine wg_two 3 9 hR rfl rfl (by kernel_rfl) (by kernel_rfl) (by kernel_rfl) (by kernel_rfl) ?_ ?_
      · (refine wg_call (f := 15) (args := ?_) ?_ ?_; rotate_left; (focus (go_simp; first | done | (with_reducible rfl) | (refine ⟨?_, ?_⟩ <;> with_reducible rfl))); (go_at_call 15; refine (Uncovered_v 3 k0 _ vA hHeld.1 (StripsAt.take HS.out 1 (by omega)) hHeld.1 ex_ok1).mono ?_; rintro e wU ⟨P1, p1, q1, P2, p2, q2, rfl, hu1, hu2, hu3, hu4, hb⟩; have hVU : Ext V wU := hHeld.1.trans hb; have hc := hb.cellE; have hf := hb.frozenE; have hz := hb.size; have ha := alloc_keeps wU; (try simp only [World.size_alloc] at hc hf hz); (try simp only [World.size_setCell] at hc hf hz); (try simp only [World.size_drew] at hc hf hz); (try simp only [World.size_alloc, World.size_drew] at hc hf hz hu3 hu4); replace hu1 : VA wU P1 p1 (rowL 0) := (by rw [← ex_can]; exact hu1); replace hu2 : VA wU P2 p2 (rowL 8) := (by rw [← ex_sure]; exact hu2); have lu1 := hu1.lt; have lu2 := hu2.lt); refine ⟨_, rfl, HM.out _ (hHeld.1.trans hb), fun hHeld => ?_⟩; (dsimp only [putW]))
        (refine wg_take 4 (v := ?_) hR rfl (by kernel_rfl) (by kernel_rfl) ?_ (by with_reducible assumption) ?_; rotate_left; (focus (intro w hSw; (try dsimp only at hSw); go_simp; (try with_reducible rfl))); (dsimp only [putW]))
        (refine wg_take 5 (v := ?_) hR rfl (by kernel_rfl) (by kernel_rfl) ?_ (by with_reducible assumption) ?_; rotate_left; (focus (intro w hSw; (try dsimp only at hSw); go_simp; (try with_reducible rfl))); (dsimp only [putW]))
        (refine wg_take 6 (v := ?_) hR rfl (by kernel_rfl) (by kernel_rfl) ?_ (by with_reducible assumption) ?_; rotate_left; (focus (intro w hSw; (try dsimp only at hSw); go_simp; (try with_reducible rfl))); (dsimp only [putW]))
        (refine wg_take 7 (v := ?_) hR rfl (by kernel_rfl) (by kernel_rfl) ?_ (by with_reducible assumption) ?_; rotate_left; (focus (intro w hSw; (try dsimp only at hSw); go_simp; (try with_reducible rfl))); (dsimp only [putW]))
        (refine wg_step 9 hR rfl (by kernel_rfl) (by kernel_rfl) ?_ (by kernel_rfl); refine wg_eff (v := ?_) (w' := ?_) ?_ ?_ ?_; rotate_left; rotate_left; (focus (go_simp; first | done | (with_reducible rfl) | (refine ⟨?_, ?_⟩ <;> with_reducible rfl))); (focus (exact HM.out _ (by (repeat' (first | (with_reducible assumption) | (with_reducible exact Ext.refl _) | (with_reducible refine Ext.alloc ?_ _) | (with_reducible refine Ext.drew ?_) | (with_reducible refine Ext.drewN ?_ _) | (with_reducible refine Ext.setCell ?_ ?_ _) | (with_reducible refine Ext.trans ?_ (by assumption)) | go_size))))); intro hHeld; (dsimp only [putW]))
        (refine wg_step 10 hR rfl (by kernel_rfl) (by kernel_rfl) ?_ (by kernel_rfl); refine wg_skp (w' := ?_) ?_ ?_ ?_; rotate_left; (focus (go_simp; first | done | (with_reducible rfl))); (focus (exact HM.out _ (by (repeat' (first | (with_reducible assumption) | (with_reducible exact Ext.refl _) | (with_reducible refine Ext.alloc ?_ _) | (with_reducible refine Ext.drew ?_) | (with_reducible refine Ext.drewN ?_ _) | (with_reducible refine Ext.setCell ?_ ?_ _) | (with_reducible refine Ext.trans ?_ (by assumption)) | go_size))))); intro hHeld; (dsimp only [putW]))
        (refine wg_step 11 hR rfl (by kernel_rfl) (by kernel_rfl) ?_ (by kernel_rfl); refine wg_skp (w' := ?_) ?_ ?_ ?_; rotate_left; (focus (go_simp; first | done | (with_reducible rfl))); (focus (exact HM.out _ (by (repeat' (first | (with_reducible assumption) | (with_reducible exact Ext.refl _) | (with_reducible refine Ext.alloc ?_ _) | (with_reducible refine Ext.drew ?_) | (with_reducible refine Ext.drewN ?_ _) | (with_reducible refine Ext.setCell ?_ ?_ _) | (with_reducible refine Ext.trans ?_ (by assumption)) | go_size))))); intro hHeld; (dsimp only [putW]))
        (refine wg_take 12 (v := ?_) hR rfl (by kernel_rfl) (by kernel_rfl) ?_ (by with_reducible assumption) ?_; rotate_left; (focus (intro w hSw; (try dsimp only at hSw); go_simp; (try with_reducible rfl))); (dsimp only [putW]))
        refine wg_fin hR hK [(3, 7), (0, 1), (0, 0), (24, 5), (0, 10), (0, 9), (0, 8), (0, 6), (0, 4), (0, 3), (0, 2)] (by kernel_rfl) (by kernel_rfl) (by dsimp only [mg, gsOf, valAt]) ?_; clear hW1 hW2 hW3 hW4 hW5 hR hK hL
        clear r1
        clear r2
        refine SaneJ.mk (P1 := P1) (p1 := p1) (q1 := q1) (P2 := P2) (p2 := p2) (q2 := q2) _ rfl (by first | (simp [go_sem]; done) | (simp [go_sem, hc, hf, ha, hz]; done)) (by first | (simp [go_sem]; done) | (simp [go_sem, hc, hf, ha, hz]; done)) ?_ ?_ ?_
        · repeat (first | exact hu1 | (refine VA.ext ?_ (Ext.alloc (Ext.refl _) _)) | (refine VA.other ?_ (by dsimp only; omega) _))
        · repeat (first | exact hu2 | (refine VA.ext ?_ (Ext.alloc (Ext.refl _) _)) | (refine VA.other ?_ (by dsimp only; omega) _))
        · (repeat' (first | (with_reducible assumption) | (with_reducible exact Ext.refl _) | (with_reducible refine Ext.alloc ?_ _) | (with_reducible refine Ext.drew ?_) | (with_reducible refine Ext.drewN ?_ _) | (with_reducible refine Ext.setCell ?_ ?_ _) | (with_reducible refine Ext.trans ?_ (by assumption)) | go_size))
      · (refine wg_eff (v := ?_) (w' := ?_) ?_ ?_ ?_; rotate_left; rotate_left; (focus (go_simp; first | done | (with_reducible rfl) | (refine ⟨?_, ?_⟩ <;> with_reducible rfl))); (focus (exact HM.out _ (by (repeat' (first | (with_reducible assumption) | (with_reducible exact Ext.refl _) | (with_reducible refine Ext.alloc ?_ _) | (with_reducible refine Ext.drew ?_) | (with_reducible refine Ext.drewN ?_ _) | (with_reducible refine Ext.setCell ?_ ?_ _) | (with_reducible refine Ext.trans ?_ (by assumption)) | go_size))))); intro hHeld; (dsimp only [putW]))
        (refine wg_step 3 hR rfl (by kernel_rfl) (by kernel_rfl) ?_ (by kernel_rfl); refine wg_call (f := 15) (args := ?_) ?_ ?_; rotate_left; (focus (go_simp; first | done | (with_reducible rfl) | (refine ⟨?_, ?_⟩ <;> with_reducible rfl))); (go_at_call 15; refine (Uncovered_v 3 k0 _ vA hHeld.1 (StripsAt.take HS.out 1 (by omega)) hHeld.1 ex_ok1).mono ?_; rintro e wU ⟨P1, p1, q1, P2, p2, q2, rfl, hu1, hu2, hu3, hu4, hb⟩; have hVU : Ext V wU := hHeld.1.trans hb; have hc := hb.cellE; have hf := hb.frozenE; have hz := hb.size; have ha := alloc_keeps wU; (try simp only [World.size_alloc] at hc hf hz); (try simp only [World.size_setCell] at hc hf hz); (try simp only [World.size_drew] at hc hf hz); (try simp only [World.size_alloc, World.size_drew] at hc hf hz hu3 hu4); replace hu1 : VA wU P1 p1 (rowL 0) := (by rw [← ex_can]; exact hu1); replace hu2 : VA wU P2 p2 (rowL 8) := (by rw [← ex_sure]; exact hu2); have lu1 := hu1.lt; have lu2 := hu2.lt); refine ⟨_, rfl, HM.out _ (hHeld.1.trans hb), fun hHeld => ?_⟩; (dsimp only [putW]))
        (refine wg_take 4 (v := ?_) hR rfl (by kernel_rfl) (by kernel_rfl) ?_ (by with_reducible assumption) ?_; rotate_left; (focus (intro w hSw; (try dsimp only at hSw); go_simp; (try with_reducible rfl))); (dsimp only [putW]))
        (refine wg_take 5 (v := ?_) hR rfl (by kernel_rfl) (by kernel_rfl) ?_ (by with_reducible assumption) ?_; rotate_left; (focus (intro w hSw; (try dsimp only at hSw); go_simp; (try with_reducible rfl))); (dsimp only [putW]))
        (refine wg_take 6 (v := ?_) hR rfl (by kernel_rfl) (by kernel_rfl) ?_ (by with_reducible assumption) ?_; rotate_left; (focus (intro w hSw; (try dsimp only at hSw); go_simp; (try with_reducible rfl))); (dsimp only [putW]))
        (refine wg_take 7 (v := ?_) hR rfl (by kernel_rfl) (by kernel_rfl) ?_ (by with_reducible assumption) ?_; rotate_left; (focus (intro w hSw; (try dsimp only at hSw); go_simp; (try with_reducible rfl))); (dsimp only [putW]))
        (refine wg_step 10 hR rfl (by kernel_rfl) (by kernel_rfl) ?_ (by kernel_rfl); refine wg_skp (w' := ?_) ?_ ?_ ?_; rotate_left; (focus (go_simp; first | done | (with_reducible rfl))); (focus (exact HM.out _ (by (repeat' (first | (with_reducible assumption) | (with_reducible exact Ext.refl _) | (with_reducible refine Ext.alloc ?_ _) | (with_reducible refine Ext.drew ?_) | (with_reducible refine Ext.drewN ?_ _) | (with_reducible refine Ext.setCell ?_ ?_ _) | (with_reducible refine Ext.trans ?_ (by assumption)) | go_size))))); intro hHeld; (dsimp only [putW]))
        (refine wg_step 11 hR rfl (by kernel_rfl) (by kernel_rfl) ?_ (by kernel_rfl); refine wg_skp (w' := ?_) ?_ ?_ ?_; rotate_left; (focus (go_simp; first | done | (with_reducible rfl))); (focus (exact HM.out _ (by (repeat' (first | (with_reducible assumption) | (with_reducible exact Ext.refl _) | (with_reducible refine Ext.alloc ?_ _) | (with_reducible refine Ext.drew ?_) | (with_reducible refine Ext.drewN ?_ _) | (with_reducible refine Ext.setCell ?_ ?_ _) | (with_reducible refine Ext.trans ?_ (by assumption)) | go_size))))); intro hHeld; (dsimp only [putW]))
        (refine wg_take 12 (v := ?_) hR rfl (by kernel_rfl) (by kernel_rfl) ?_ (by with_reducible assumption) ?_; rotate_left; (focus (intro w hSw; (try dsimp only at hSw); go_simp; (try with_reducible rfl))); (dsimp only [putW]))
        refine wg_fin hR hK [(3, 7), (0, 6), (0, 0), (24, 4), (0, 10), (0, 9), (0, 8), (0, 5), (0, 3), (0, 2), (0, 1)] (by kernel_rfl) (by kernel_rfl) (by dsimp only [mg, gsOf, valAt]) ?_; clear hW1 hW2 hW3 hW4 hW5 hR hK hL
        clear r1
        clear r2
        refine SaneJ.mk (P1 := P1) (p1 := p1) (q1 := q1) (P2 := P2) (p2 := p2) (q2 := q2) _ rfl (by first | (simp [go_sem]; done) | (simp [go_sem, hc, hf, ha, hz]; done)) (by first | (simp [go_sem]; done) | (simp [go_sem, hc, hf, ha, hz]; done)) ?_ ?_ ?_
        · repeat (first | exact hu1 | (refine VA.ext ?_ (Ext.alloc (Ext.refl _) _)) | (refine VA.other ?_ (by dsimp only; omega) _))
        · repeat (first | exact hu2 | (refine VA.ext ?_ (Ext.alloc (Ext.refl _) _)) | (refine VA.other ?_ (by dsimp only; omega) _))
        · (repeat' (first | (with_reducible assumption) | (with_reducible exact Ext.refl _) | (with_reducible refine Ext.alloc ?_ _) | (with_reducible refine Ext.drew ?_) | (with_reducible refine Ext.drewN ?_ _) | (with_reducible refine Ext.setCell ?_ ?_ _) | (with_reducible refine Ext.trans ?_ (by assumption)) | go_size))
    · (refine wg_eff (v := ?_) (w' := ?_) ?_ ?_ ?_; rotate_left; rotate_left; (focus (go_simp; first | done | (with_reducible rfl) | (refine ⟨?_, ?_⟩ <;> with_reducible rfl))); (focus (exact HM.out _ (by (repeat' (first | (with_reducible assumption) | (with_reducible exact Ext.refl _) | (with_reducible refine Ext.alloc ?_ _) | (with_reducible refine Ext.drew ?_) | (with_reducible refine Ext.drewN ?_ _) | (with_reducible refine Ext.setCell ?_ ?_ _) | (with_reducible refine Ext.trans ?_ (by assumption)) | go_size))))); intro hHeld; (dsimp only [putW]))
      refine wg_two 3 8 hR rfl rfl (by kernel_rfl) (by kernel_rfl) (by kernel_rfl) (by kernel_rfl) ?_ ?_
      · (refine wg_call (f := 15) (args := ?_) ?_ ?_; rotate_left; (focus (go_simp; first | done | (with_reducible rfl) | (refine ⟨?_, ?_⟩ <;> with_reducible rfl))); (go_at_call 15; refine (Uncovered_v 3 k0 _ vA hHeld.1 (StripsAt.take HS.out 1 (by omega)) hHeld.1 ex_ok1).mono ?_; rintro e wU ⟨P1, p1, q1, P2, p2, q2, rfl, hu1, hu2, hu3, hu4, hb⟩; have hVU : Ext V wU := hHeld.1.trans hb; have hc := hb.cellE; have hf := hb.frozenE; have hz := hb.size; have ha := alloc_keeps wU; (try simp only [World.size_alloc] at hc hf hz); (try simp only [World.size_setCell] at hc hf hz); (try simp only [World.size_drew] at hc hf hz); (try simp only [World.size_alloc, World.size_drew] at hc hf hz hu3 hu4); replace hu1 : VA wU P1 p1 (rowL 0) := (by rw [← ex_can]; exact hu1); replace hu2 : VA wU P2 p2 (rowL 8) := (by rw [← ex_sure]; exact hu2); have lu1 := hu1.lt; have lu2 := hu2.lt); refine ⟨_, rfl, HM.out _ (hHeld.1.trans hb), fun hHeld => ?_⟩; (dsimp only [putW]))
        (refine wg_take 4 (v := ?_) hR rfl (by kernel_rfl) (by kernel_rfl) ?_ (by with_reducible assumption) ?_; rotate_left; (focus (intro w hSw; (try dsimp only at hSw); go_simp; (try with_reducible rfl))); (dsimp only [putW]))
        (refine wg_take 5 (v := ?_) hR rfl (by kernel_rfl) (by kernel_rfl) ?_ (by with_reducible assumption) ?_; rotate_left; (focus (intro w hSw; (try dsimp only at hSw); go_simp; (try with_reducible rfl))); (dsimp only [putW]))
        (refine wg_take 6 (v := ?_) hR rfl (by kernel_rfl) (by kernel_rfl) ?_ (by with_reducible assumption) ?_; rotate_left; (focus (intro w hSw; (try dsimp only at hSw); go_simp; (try with_reducible rfl))); (dsimp only [putW]))
        (refine wg_take 7 (v := ?_) hR rfl (by kernel_rfl) (by kernel_rfl) ?_ (by with_reducible assumption) ?_; rotate_left; (focus (intro w hSw; (try dsimp only at hSw); go_simp; (try with_reducible rfl))); (dsimp only [putW]))
        (refine wg_step 8 hR rfl (by kernel_rfl) (by kernel_rfl) ?_ (by kernel_rfl); refine wg_eff (v := ?_) (w' := ?_) ?_ ?_ ?_; rotate_left; rotate_left; (focus (go_simp; first | done | (with_reducible rfl) | (refine ⟨?_, ?_⟩ <;> with_reducible rfl))); (focus (exact HM.out _ (by (repeat' (first | (with_reducible assumption) | (with_reducible exact Ext.refl _) | (with_reducible refine Ext.alloc ?_ _) | (with_reducible refine Ext.drew ?_) | (with_reducible refine Ext.drewN ?_ _) | (with_reducible refine Ext.setCell ?_ ?_ _) | (with_reducible refine Ext.trans ?_ (by assumption)) | go_size))))); intro hHeld; (dsimp only [putW]))
        (refine wg_step 10 hR rfl (by kernel_rfl) (by kernel_rfl) ?_ (by kernel_rfl); refine wg_skp (w' := ?_) ?_ ?_ ?_; rotate_left; (focus (go_simp; first | done | (with_reducible rfl))); (focus (exact HM.out _ (by (repeat' (first | (with_reducible assumption) | (with_reducible exact Ext.refl _) | (with_reducible refine Ext.alloc ?_ _) | (with_reducible refine Ext.drew ?_) | (with_reducible refine Ext.drewN ?_ _) | (with_reducible refine Ext.setCell ?_ ?_ _) | (with_reducible refine Ext.trans ?_ (by assumption)) | go_size))))); intro hHeld; (dsimp only [putW]))
        (refine wg_step 11 hR rfl (by kernel_rfl) (by kernel_rfl) ?_ (by kernel_rfl); refine wg_skp (w' := ?_) ?_ ?_ ?_; rotate_left; (focus (go_simp; first | done | (with_reducible rfl))); (focus (exact HM.out _ (by (repeat' (first | (with_reducible assumption) | (with_reducible exact Ext.refl _) | (with_reducible refine Ext.alloc ?_ _) | (with_reducible refine Ext.drew ?_) | (with_reducible refine Ext.drewN ?_ _) | (with_reducible refine Ext.setCell ?_ ?_ _) | (with_reducible refine Ext.trans ?_ (by assumption)) | go_size))))); intro hHeld; (dsimp only [putW]))
        (refine wg_take 12 (v := ?_) hR rfl (by kernel_rfl) (by kernel_rfl) ?_ (by with_reducible assumption) ?_; rotate_left; (focus (intro w hSw; (try dsimp only at hSw); go_simp; (try with_reducible rfl))); (dsimp only [putW]))
        refine wg_fin hR hK [(3, 1), (0, 7), (0, 0), (24, 5), (0, 10), (0, 9), (0, 8), (0, 6), (0, 4), (0, 3), (0, 2)] (by kernel_rfl) (by kernel_rfl) (by dsimp only [mg, gsOf, valAt]) ?_; clear hW1 hW2 hW3 hW4 hW5 hR hK hL
        clear r1
        clear r2
        refine SaneJ.mk (P1 := P1) (p1 := p1) (q1 := q1) (P2 := P2) (p2 := p2) (q2 := q2) _ rfl (by first | (simp [go_sem]; done) | (simp [go_sem, hc, hf, ha, hz]; done)) (by first | (simp [go_sem]; done) | (simp [go_sem, hc, hf, ha, hz]; done)) ?_ ?_ ?_
        · repeat (first | exact hu1 | (refine VA.ext ?_ (Ext.alloc (Ext.refl _) _)) | (refine VA.other ?_ (by dsimp only; omega) _))
        · repeat (first | exact hu2 | (refine VA.ext ?_ (Ext.alloc (Ext.refl _) _)) | (refine VA.other ?_ (by dsimp only; omega) _))
        · (repeat' (first | (with_reducible assumption) | (with_reducible exact Ext.refl _) | (with_reducible refine Ext.alloc ?_ _) | (with_reducible refine Ext.drew ?_) | (with_reducible refine Ext.drewN ?_ _) | (with_reducible refine Ext.setCell ?_ ?_ _) | (with_reducible refine Ext.trans ?_ (by assumption)) | go_size))
      · (refine wg_eff (v := ?_) (w' := ?_) ?_ ?_ ?_; rotate_left; rotate_left; (focus (go_simp; first | done | (with_reducible rfl) | (refine ⟨?_, ?_⟩ <;> with_reducible rfl))); (focus (exact HM.out _ (by (repeat' (first | (with_reducible assumption) | (with_reducible exact Ext.refl _) | (with_reducible refine Ext.alloc ?_ _) | (with_reducible refine Ext.drew ?_) | (with_reducible refine Ext.drewN ?_ _) | (with_reducible refine Ext.setCell ?_ ?_ _) | (with_reducible refine Ext.trans ?_ (by assumption)) | go_size))))); intro hHeld; (dsimp only [putW]))
        (refine wg_step 3 hR rfl (by kernel_rfl) (by kernel_rfl) ?_ (by kernel_rfl); refine wg_call (f := 15) (args := ?_) ?_ ?_; rotate_left; (focus (go_simp; first | done | (with_reducible rfl) | (refine ⟨?_, ?_⟩ <;> with_reducible rfl))); (go_at_call 15; refine (Uncovered_v 3 k0 _ vA hHeld.1 (StripsAt.take HS.out 1 (by omega)) hHeld.1 ex_ok1).mono ?_; rintro e wU ⟨P1, p1, q1, P2, p2, q2, rfl, hu1, hu2, hu3, hu4, hb⟩; have hVU : Ext V wU := hHeld.1.trans hb; have hc := hb.cellE; have hf := hb.frozenE; have hz := hb.size; have ha := alloc_keeps wU; (try simp only [World.size_alloc] at hc hf hz); (try simp only [World.size_setCell] at hc hf hz); (try simp only [World.size_drew] at hc hf hz); (try simp only [World.size_alloc, World.size_drew] at hc hf hz hu3 hu4); replace hu1 : VA wU P1 p1 (rowL 0) := (by rw [← ex_can]; exact hu1); replace hu2 : VA wU P2 p2 (rowL 8) := (by rw [← ex_sure]; exact hu2); have lu1 := hu1.lt; have lu2 := hu2.lt); refine ⟨_, rfl, HM.out _ (hHeld.1.trans hb), fun hHeld => ?_⟩; (dsimp only [putW]))
        (refine wg_take 4 (v := ?_) hR rfl (by kernel_rfl) (by kernel_rfl) ?_ (by with_reducible assumption) ?_; rotate_left; (focus (intro w hSw; (try dsimp only at hSw); go_simp; (try with_reducible rfl))); (dsimp only [putW]))
        (refine wg_take 5 (v := ?_) hR rfl (by kernel_rfl) (by kernel_rfl) ?_ (by with_reducible assumption) ?_; rotate_left; (focus (intro w hSw; (try dsimp only at hSw); go_simp; (try with_reducible rfl))); (dsimp only [putW]))
        (refine wg_take 6 (v := ?_) hR rfl (by kernel_rfl) (by kernel_rfl) ?_ (by with_reducible assumption) ?_; rotate_left; (focus (intro w hSw; (try dsimp only at hSw); go_simp; (try with_reducible rfl))); (dsimp only [putW]))
        (refine wg_take 7 (v := ?_) hR rfl (by kernel_rfl) (by kernel_rfl) ?_ (by with_reducible assumption) ?_; rotate_left; (focus (intro w hSw; (try dsimp only at hSw); go_simp; (try with_reducible rfl))); (dsimp only [putW]))
        (refine wg_step 10 hR rfl (by kernel_rfl) (by kernel_rfl) ?_ (by kernel_rfl); refine wg_skp (w' := ?_) ?_ ?_ ?_; rotate_left; (focus (go_simp; first | done | (with_reducible rfl))); (focus (exact HM.out _ (by (repeat' (first | (with_reducible assumption) | (with_reducible exact Ext.refl _) | (with_reducible refine Ext.alloc ?_ _) | (with_reducible refine Ext.drew ?_) | (with_reducible refine Ext.drewN ?_ _) | (with_reducible refine Ext.setCell ?_ ?_ _) | (with_reducible refine Ext.trans ?_ (by assumption)) | go_size))))); intro hHeld; (dsimp only [putW]))
        (refine wg_step 11 hR rfl (by kernel_rfl) (by kernel_rfl) ?_ (by kernel_rfl); refine wg_skp (w' := ?_) ?_ ?_ ?_; rotate_left; (focus (go_simp; first | done | (with_reducible rfl))); (focus (exact HM.out _ (by (repeat' (first | (with_reducible assumption) | (with_reducible exact Ext.refl _) | (with_reducible refine Ext.alloc ?_ _) | (with_reducible refine Ext.drew ?_) | (with_reducible refine Ext.drewN ?_ _) | (with_reducible refine Ext.setCell ?_ ?_ _) | (with_reducible refine Ext.trans ?_ (by assumption)) | go_size))))); intro hHeld; (dsimp only [putW]))
        (refine wg_take 12 (v := ?_) hR rfl (by kernel_rfl) (by kernel_rfl) ?_ (by with_reducible assumption) ?_; rotate_left; (focus (intro w hSw; (try dsimp only at hSw); go_simp; (try with_reducible rfl))); (dsimp only [putW]))
        refine wg_fin hR hK [(3, 6), (0, 7), (0, 0), (24, 4), (0, 10), (0, 9), (0, 8), (0, 5), (0, 3), (0, 2), (0, 1)] (by kernel_rfl) (by kernel_rfl) (by dsimp only [mg, gsOf, valAt]) ?_; clear hW1 hW2 hW3 hW4 hW5 hR hK hL
        clear r1
        clear r2
        refine SaneJ.mk (P1 := P1) (p1 := p1) (q1 := q1) (P2 := P2) (p2 := p2) (q2 := q2) _ rfl (by first | (simp [go_sem]; done) | (simp [go_sem, hc, hf, ha, hz]; done)) (by first | (simp [go_sem]; done) | (simp [go_sem, hc, hf, ha, hz]; done)) ?_ ?_ ?_
        · repeat (first | exact hu1 | (refine VA.ext ?_ (Ext.alloc (Ext.refl _) _)) | (refine VA.other ?_ (by dsimp only; omega) _))
        · repeat (first | exact hu2 | (refine VA.ext ?_ (Ext.alloc (Ext.refl _) _)) | (refine VA.other ?_ (by dsimp only; omega) _))
        · (repeat' (first | (with_reducible assumption) | (with_reducible exact Ext.refl _) | (with_reducible refine Ext.alloc ?_ _) | (with_reducible refine Ext.drew ?_) | (with_reducible refine Ext.drewN ?_ _) | (with_reducible refine Ext.setCell ?_ ?_ _) | (with_reducible refine Ext.trans ?_ (by assumption)) | go_size))
  · rintro e ⟨X, ds⟩ W ⟨rfl, O1, O2, P1, p1, q1, P2, p2, q2, ⟨u, hu⟩, hds, c3, c4, vC, vS, hE3⟩
    dsimp only at hu hds
    subst hu hds
    unfold FrSane
    replace vA := vA.ext hE3
    replace cA := hE3.cell cA
    replace HS := Lib.hid (HS.out.ext hE3)
    replace hE := hE.trans hE3
    clear hE3 lvA lcA
    obtain ⟨V, rfl⟩ : ∃ V, V = W := ⟨_, rfl⟩
    have lvA := vA.lt
    have lcA : Oa < V.heap.size := World.block_lt_of_cell? V _ cA
    have lc3 : O1 < V.heap.size := World.block_lt_of_cell? V _ c3
    have lc4 : O2 < V.heap.size := World.block_lt_of_cell? V _ c4
    have lvC := vC.lt
    have lvS := vS.lt
    go_wp2_with fail
    have sS := HS.out; clear HS
    refine (Decompose_v 3 k0 _ vA (Ext.refl _) sS (Ext.refl _) ex_ok).mono ?_
    rintro e w1 ⟨pa, pc, Br, ro, kr, rfl, hpc, hP, hv, hb⟩
    have hpc2 : (2 : Int) ≤ (pc : Int) := by simp at hpc; omega
    clear hpc
    rw [show (([(rowL 6, rowL 14), (rowL 4, rowL 4), (rowL 12, rowL 12)] : List (List Int × List Int)).map fun s => s.1) = [rowL 6, rowL 4, rowL 12] from rfl] at hP hv ⊢
    rw [ex_pieces] at hP; rw [ex_rest] at hv
    have hc := hb.cellE; have hf := hb.frozenE; have hz := hb.size; have ha := alloc_keeps w1; (try simp only [World.size_alloc] at hc hf hz); (try simp only [World.size_setCell] at hc hf hz); (try simp only [World.size_drew] at hc hf hz)
    go_wp2_with fail
    obtain ⟨O7, hO⟩ : ∃ O, O = w1.heap.size := ⟨_, rfl⟩
    rw [← hO]
    refine calls_name (fun V => Ext w V ∧ VA V B0 0 (rowL 14) ∧ V.cell? ⟨Oa, 0, none⟩ = some (.slice (some ⟨B0, 0, none⟩) 24 k0) ∧ V.cell? ⟨O1, 0, none⟩ = some (.slice (some ⟨P1, p1, none⟩) 24 q1) ∧ V.cell? ⟨O2, 0, none⟩ = some (.slice (some ⟨P2, p2, none⟩) 24 q2) ∧ VA V P1 p1 (rowL 0) ∧ VA V P2 p2 (rowL 8) ∧ StripsAt V (some ⟨Ob, 0, none⟩) 3 [(rowL 6, rowL 14), (rowL 4, rowL 4), (rowL 12, rowL 12)] ∧ AreasAt V pa 3 [rowL 6, rowL 0, rowL 8] ∧ VA V Br ro (rowL 0) ∧ V.cell? ⟨O7, 0, none⟩ = some (.slice (some ⟨Br, ro, none⟩) 24 kr)) ⟨hE.trans (by first | exact hb | exact Ext.alloc hb _ | exact Ext.alloc (Ext.alloc hb _) _), vA.ext (by first | exact hb | exact Ext.alloc hb _ | exact Ext.alloc (Ext.alloc hb _) _), Ext.cell (by first | exact hb | exact Ext.alloc hb _ | exact Ext.alloc (Ext.alloc hb _) _) cA, Ext.cell (by first | exact hb | exact Ext.alloc hb _ | exact Ext.alloc (Ext.alloc hb _) _) c3, Ext.cell (by first | exact hb | exact Ext.alloc hb _ | exact Ext.alloc (Ext.alloc hb _) _) c4, vC.ext (by first | exact hb | exact Ext.alloc hb _ | exact Ext.alloc (Ext.alloc hb _) _), vS.ext (by first | exact hb | exact Ext.alloc hb _ | exact Ext.alloc (Ext.alloc hb _) _), sS.ext (by first | exact hb | exact Ext.alloc hb _ | exact Ext.alloc (Ext.alloc hb _) _), hP.ext (by first | exact Ext.refl _ | exact Ext.alloc (Ext.refl _) _ | exact Ext.alloc (Ext.alloc (Ext.refl _) _) _), hv.ext (by first | exact Ext.refl _ | exact Ext.alloc (Ext.refl _) _ | exact Ext.alloc (Ext.alloc (Ext.refl _) _) _), by rw [hO]; simp [go_sem]⟩ ?_
    clear hE vA cA c3 c4 vC vS sS lvA lcA lc3 lc4 lvC lvS hb hc hf hz ha hO
    rintro V ⟨hE, vA, cA, c3, c4, vC, vS, sS, pP, vR, cR⟩
    have lvA := vA.lt
    have lcA : Oa < V.heap.size := World.block_lt_of_cell? V _ cA
    have lc3 : O1 < V.heap.size := World.block_lt_of_cell? V _ c3
    have lc4 : O2 < V.heap.size := World.block_lt_of_cell? V _ c4
    have lvC := vC.lt
    have lvS := vS.lt
    have lvR := vR.lt
    have lcR : O7 < V.heap.size := World.block_lt_of_cell? V _ cR
    refine (Fewest_r 3 k0 _ vA (Ext.refl _) sS (Ext.refl _) ex_ok (by omega) (HT.out.ext hE) ex_few).mono ?_
    rintro e w1 ⟨fa, fc, rfl, hi, hb⟩
    have hc := hb.cellE; have hf := hb.frozenE; have hz := hb.size; have ha := alloc_keeps w1; (try simp only [World.size_alloc] at hc hf hz); (try simp only [World.size_setCell] at hc hf hz); (try simp only [World.size_drew] at hc hf hz)
    go_wp2_with fail
    refine wp_name (fun V => Ext w V ∧ VA V B0 0 (rowL 14) ∧ V.cell? ⟨Oa, 0, none⟩ = some (.slice (some ⟨B0, 0, none⟩) 24 k0) ∧ V.cell? ⟨O1, 0, none⟩ = some (.slice (some ⟨P1, p1, none⟩) 24 q1) ∧ V.cell? ⟨O2, 0, none⟩ = some (.slice (some ⟨P2, p2, none⟩) 24 q2) ∧ VA V P1 p1 (rowL 0) ∧ VA V P2 p2 (rowL 8) ∧ StripsAt V (some ⟨Ob, 0, none⟩) 3 [(rowL 6, rowL 14), (rowL 4, rowL 4), (rowL 12, rowL 12)] ∧ AreasAt V pa 3 [rowL 6, rowL 0, rowL 8] ∧ VA V Br ro (rowL 0) ∧ V.cell? ⟨O7, 0, none⟩ = some (.slice (some ⟨Br, ro, none⟩) 24 kr) ∧ IntsAt V fa (intsN [0, 2])) ⟨hE.trans (by first | exact hb | exact Ext.alloc hb _ | exact Ext.alloc (Ext.alloc hb _) _), vA.ext (by first | exact hb | exact Ext.alloc hb _ | exact Ext.alloc (Ext.alloc hb _) _), Ext.cell (by first | exact hb | exact Ext.alloc hb _ | exact Ext.alloc (Ext.alloc hb _) _) cA, Ext.cell (by first | exact hb | exact Ext.alloc hb _ | exact Ext.alloc (Ext.alloc hb _) _) c3, Ext.cell (by first | exact hb | exact Ext.alloc hb _ | exact Ext.alloc (Ext.alloc hb _) _) c4, vC.ext (by first | exact hb | exact Ext.alloc hb _ | exact Ext.alloc (Ext.alloc hb _) _), vS.ext (by first | exact hb | exact Ext.alloc hb _ | exact Ext.alloc (Ext.alloc hb _) _), sS.ext (by first | exact hb | exact Ext.alloc hb _ | exact Ext.alloc (Ext.alloc hb _) _), pP.ext (by first | exact hb | exact Ext.alloc hb _ | exact Ext.alloc (Ext.alloc hb _) _), vR.ext (by first | exact hb | exact Ext.alloc hb _ | exact Ext.alloc (Ext.alloc hb _) _), Ext.cell (by first | exact hb | exact Ext.alloc hb _ | exact Ext.alloc (Ext.alloc hb _) _) cR, hi.ext (by first | exact Ext.refl _ | exact Ext.alloc (Ext.refl _) _ | exact Ext.alloc (Ext.alloc (Ext.refl _) _) _)⟩ ?_
    clear hE vA cA c3 c4 vC vS sS pP vR cR lvA lcA lc3 lc4 lvC lvS lvR lcR hb hc hf hz ha
    rintro V ⟨hE, vA, cA, c3, c4, vC, vS, sS, pP, vR, cR, fF⟩
    have lvA := vA.lt
    have lcA : Oa < V.heap.size := World.block_lt_of_cell? V _ cA
    have lc3 : O1 < V.heap.size := World.block_lt_of_cell? V _ c3
    have lc4 : O2 < V.heap.size := World.block_lt_of_cell? V _ c4
    have lvC := vC.lt
    have lvS := vS.lt
    have lvR := vR.lt
    have lcR : O7 < V.heap.size := World.block_lt_of_cell? V _ cR
    have HM := Lib.hid (show ∀ w', Ext V w' → Ext V w' ∧ w'.cell? ⟨Oa, 0, none⟩ = some (.slice (some ⟨B0, 0, none⟩) 24 k0) from fun w' h => ⟨h, h.cell cA⟩)
    refine wg_begin [(some 53, [1], []), (some 54, [2], []), (some 55, [54], [1]), (some 56, [53, 55], [0, 2]), (some 52, [56], [3]), (some 57, [52], [4]), (some 58, [52], [4]), (some 59, [52], [4]), (some 12, [57], [5, 3, 0, 1, 2, 3, 4, 5]), (some 13, [58], [6, 8, 0, 1, 2, 3, 4, 5, 6, 8]), (some 14, [59], [7, 9, 0, 1, 2, 3, 4, 5, 6, 7, 8, 9])] (fun w' => Ext V w' ∧ w'.cell? ⟨Oa, 0, none⟩ = some (.slice (some ⟨B0, 0, none⟩) 24 k0)) (by kernel_rfl) (by kernel_rfl) (by kernel_rfl) (by kernel_rfl) (by intro c d v a w h; cases d <;> first | exact h | (exact nomatch h.1) | (dsimp +zetaDelta only [Exit.then, Exit.inBlock] at h ⊢; exact h)) ((HM.out _ (Ext.drew (Ext.refl _)))) (fun ops Q L hL hR hK hHeld => ?_); replace hL := Lib.hid hL; have hW1 := @evalW_tmp; have hW2 := @evalW_const; have hW3 := @evalW_func; have hW4 := @look_cons; have hW5 := @look_nil
    have r1 := wg_read hL.out 1 rfl
    have r2 := wg_read hL.out 2 rfl
    (refine wg_take 0 (v := ?_) hR rfl (by kernel_rfl) (by kernel_rfl) ?_ (by with_reducible assumption) ?_; rotate_left; (focus (intro w hSw; (try dsimp only at hSw); go_simp; (try with_reducible rfl))); (dsimp only [putW]))
    (refine wg_take 1 (v := ?_) hR rfl (by kernel_rfl) (by kernel_rfl) ?_ (by with_reducible assumption) ?_; rotate_left; (focus (intro w hSw; (try dsimp only at hSw); go_simp; (try with_reducible rfl))); (dsimp only [putW]))
    (refine wg_take 2 (v := ?_) hR rfl (by kernel_rfl) (by kernel_rfl) ?_ (by with_reducible assumption) ?_; rotate_left; (focus (intro w hSw; (try dsimp only at hSw); go_simp; (try with_reducible rfl))); (dsimp only [putW]))
    (refine wg_step 3 hR rfl (by kernel_rfl) (by kernel_rfl) ?_ (by kernel_rfl); refine wg_call (f := 25) (args := ?_) ?_ ?_; rotate_left; (focus (go_simp; first | done | (with_reducible rfl) | (refine ⟨?_, ?_⟩ <;> with_reducible rfl))); (go_at_call 25; refine (Fewest_r 3 k0 _ vA hHeld.1 (sS.take 2 (by omega)) hHeld.1 ex_ok2 (by omega) (HT.out.ext (hE.trans hHeld.1)) ex_none).mono ?_; rintro e w1 ⟨ga, gc, rfl, -, hb⟩); refine ⟨_, rfl, HM.out _ (hHeld.1.trans hb), fun hHeld => ?_⟩; (dsimp only [putW]))
    (refine wg_take 4 (v := ?_) hR rfl (by kernel_rfl) (by kernel_rfl) ?_ (by with_reducible assumption) ?_; rotate_left; (focus (intro w hSw; (try dsimp only at hSw); go_simp; (try with_reducible rfl))); (dsimp only [putW]))
    (refine wg_take 5 (v := ?_) hR rfl (by kernel_rfl) (by kernel_rfl) ?_ (by with_reducible assumption) ?_; rotate_left; (focus (intro w hSw; (try dsimp only at hSw); go_simp; (try with_reducible rfl))); (dsimp only [putW]))
    (refine wg_take 6 (v := ?_) hR rfl (by kernel_rfl) (by kernel_rfl) ?_ (by with_reducible assumption) ?_; rotate_left; (focus (intro w hSw; (try dsimp only at hSw); go_simp; (try with_reducible rfl))); (dsimp only [putW]))
    (refine wg_take 7 (v := ?_) hR rfl (by kernel_rfl) (by kernel_rfl) ?_ (by with_reducible assumption) ?_; rotate_left; (focus (intro w hSw; (try dsimp only at hSw); go_simp; (try with_reducible rfl))); (dsimp only [putW]))
    (refine wg_take 8 (v := ?_) hR rfl (by kernel_rfl) (by kernel_rfl) ?_ (by with_reducible assumption) ?_; rotate_left; (focus (intro w hSw; (try dsimp only at hSw); go_simp; (try with_reducible rfl))); (dsimp only [putW]))
    (refine wg_take 9 (v := ?_) hR rfl (by kernel_rfl) (by kernel_rfl) ?_ (by with_reducible assumption) ?_; rotate_left; (focus (intro w hSw; (try dsimp only at hSw); go_simp; (try with_reducible rfl))); (dsimp only [putW]))
    (refine wg_take 10 (v := ?_) hR rfl (by kernel_rfl) (by kernel_rfl) ?_ (by with_reducible assumption) ?_; rotate_left; (focus (intro w hSw; (try dsimp only at hSw); go_simp; (try with_reducible rfl))); (dsimp only [putW]))
    refine wg_fin hR hK [(12, 2), (0, 1), (0, 0), (37, 6), (0, 10), (0, 9), (0, 8), (0, 7), (0, 5), (0, 4), (0, 3)] (by kernel_rfl) (by kernel_rfl) (by dsimp only [mg, gsOf, valAt]) ?_; clear hW1 hW2 hW3 hW4 hW5 hR hK hL
    clear r1
    clear r2
    have hb := hHeld.1
    clear hHeld HM
    refine exit_at (fun V => Ext w V ∧ VA V B0 0 (rowL 14) ∧ V.cell? ⟨Oa, 0, none⟩ = some (.slice (some ⟨B0, 0, none⟩) 24 k0) ∧ V.cell? ⟨O1, 0, none⟩ = some (.slice (some ⟨P1, p1, none⟩) 24 q1) ∧ V.cell? ⟨O2, 0, none⟩ = some (.slice (some ⟨P2, p2, none⟩) 24 q2) ∧ VA V P1 p1 (rowL 0) ∧ VA V P2 p2 (rowL 8) ∧ StripsAt V (some ⟨Ob, 0, none⟩) 3 [(rowL 6, rowL 14), (rowL 4, rowL 4), (rowL 12, rowL 12)] ∧ AreasAt V pa 3 [rowL 6, rowL 0, rowL 8] ∧ VA V Br ro (rowL 0) ∧ V.cell? ⟨O7, 0, none⟩ = some (.slice (some ⟨Br, ro, none⟩) 24 kr) ∧ IntsAt V fa (intsN [0, 2])) ⟨hE.trans (by first | exact hb | exact Ext.alloc hb _ | exact Ext.alloc (Ext.alloc hb _) _), vA.ext (by first | exact hb | exact Ext.alloc hb _ | exact Ext.alloc (Ext.alloc hb _) _), Ext.cell (by first | exact hb | exact Ext.alloc hb _ | exact Ext.alloc (Ext.alloc hb _) _) cA, Ext.cell (by first | exact hb | exact Ext.alloc hb _ | exact Ext.alloc (Ext.alloc hb _) _) c3, Ext.cell (by first | exact hb | exact Ext.alloc hb _ | exact Ext.alloc (Ext.alloc hb _) _) c4, vC.ext (by first | exact hb | exact Ext.alloc hb _ | exact Ext.alloc (Ext.alloc hb _) _), vS.ext (by first | exact hb | exact Ext.alloc hb _ | exact Ext.alloc (Ext.alloc hb _) _), sS.ext (by first | exact hb | exact Ext.alloc hb _ | exact Ext.alloc (Ext.alloc hb _) _), pP.ext (by first | exact hb | exact Ext.alloc hb _ | exact Ext.alloc (Ext.alloc hb _) _), vR.ext (by first | exact hb | exact Ext.alloc hb _ | exact Ext.alloc (Ext.alloc hb _) _), Ext.cell (by first | exact hb | exact Ext.alloc hb _ | exact Ext.alloc (Ext.alloc hb _) _) cR, fF.ext (by first | exact hb | exact Ext.alloc hb _ | exact Ext.alloc (Ext.alloc hb _) _)⟩ ?_
    clear hE vA cA c3 c4 vC vS sS pP vR cR fF lvA lcA lc3 lc4 lvC lvS lvR lcR hb
    rintro V ⟨hE, vA, cA, c3, c4, vC, vS, sS, pP, vR, cR, fF⟩
    have lvA := vA.lt
    have lcA : Oa < V.heap.size := World.block_lt_of_cell? V _ cA
    have lc3 : O1 < V.heap.size := World.block_lt_of_cell? V _ c3
    have lc4 : O2 < V.heap.size := World.block_lt_of_cell? V _ c4
    have lvC := vC.lt
    have lvS := vS.lt
    have lvR := vR.lt
    have lcR : O7 < V.heap.size := World.block_lt_of_cell? V _ cR
    go_wp2_with fail
    refine (Uncovered_n (v := false) 3 0 _ (show AA V none [] 0 false from ⟨.inl rfl, rfl, by omega, ex_bad0⟩) (Ext.refl _) sS (Ext.refl _) rfl).mono ?_
    rintro e w1 ⟨rfl, hb⟩
    have hc := hb.cellE; have hf := hb.frozenE; have hz := hb.size; have ha := alloc_keeps w1; (try simp only [World.size_alloc] at hc hf hz); (try simp only [World.size_setCell] at hc hf hz); (try simp only [World.size_drew] at hc hf hz)
    go_wp2_with fail
    refine wp_name (fun V => Ext w V ∧ VA V B0 0 (rowL 14) ∧ V.cell? ⟨Oa, 0, none⟩ = some (.slice (some ⟨B0, 0, none⟩) 24 k0) ∧ V.cell? ⟨O1, 0, none⟩ = some (.slice (some ⟨P1, p1, none⟩) 24 q1) ∧ V.cell? ⟨O2, 0, none⟩ = some (.slice (some ⟨P2, p2, none⟩) 24 q2) ∧ VA V P1 p1 (rowL 0) ∧ VA V P2 p2 (rowL 8) ∧ StripsAt V (some ⟨Ob, 0, none⟩) 3 [(rowL 6, rowL 14), (rowL 4, rowL 4), (rowL 12, rowL 12)] ∧ AreasAt V pa 3 [rowL 6, rowL 0, rowL 8] ∧ VA V Br ro (rowL 0) ∧ V.cell? ⟨O7, 0, none⟩ = some (.slice (some ⟨Br, ro, none⟩) 24 kr) ∧ IntsAt V fa (intsN [0, 2])) ⟨hE.trans (by first | exact hb | exact Ext.alloc hb _ | exact Ext.alloc (Ext.alloc hb _) _), vA.ext (by first | exact hb | exact Ext.alloc hb _ | exact Ext.alloc (Ext.alloc hb _) _), Ext.cell (by first | exact hb | exact Ext.alloc hb _ | exact Ext.alloc (Ext.alloc hb _) _) cA, Ext.cell (by first | exact hb | exact Ext.alloc hb _ | exact Ext.alloc (Ext.alloc hb _) _) c3, Ext.cell (by first | exact hb | exact Ext.alloc hb _ | exact Ext.alloc (Ext.alloc hb _) _) c4, vC.ext (by first | exact hb | exact Ext.alloc hb _ | exact Ext.alloc (Ext.alloc hb _) _), vS.ext (by first | exact hb | exact Ext.alloc hb _ | exact Ext.alloc (Ext.alloc hb _) _), sS.ext (by first | exact hb | exact Ext.alloc hb _ | exact Ext.alloc (Ext.alloc hb _) _), pP.ext (by first | exact hb | exact Ext.alloc hb _ | exact Ext.alloc (Ext.alloc hb _) _), vR.ext (by first | exact hb | exact Ext.alloc hb _ | exact Ext.alloc (Ext.alloc hb _) _), Ext.cell (by first | exact hb | exact Ext.alloc hb _ | exact Ext.alloc (Ext.alloc hb _) _) cR, fF.ext (by first | exact hb | exact Ext.alloc hb _ | exact Ext.alloc (Ext.alloc hb _) _)⟩ ?_
    clear hE vA cA c3 c4 vC vS sS pP vR cR fF lvA lcA lc3 lc4 lvC lvS lvR lcR hb hc hf hz ha
    rintro V ⟨hE, vA, cA, c3, c4, vC, vS, sS, pP, vR, cR, fF⟩
    have lvA := vA.lt
    have lcA : Oa < V.heap.size := World.block_lt_of_cell? V _ cA
    have lc3 : O1 < V.heap.size := World.block_lt_of_cell? V _ c3
    have lc4 : O2 < V.heap.size := World.block_lt_of_cell? V _ c4
    have lvC := vC.lt
    have lvS := vS.lt
    have lvR := vR.lt
    have lcR : O7 < V.heap.size := World.block_lt_of_cell? V _ cR
    have HM := Lib.hid (show ∀ w', Ext V w' → Ext V w' ∧ w'.cell? ⟨O1, 0, none⟩ = some (.slice (some ⟨P1, p1, none⟩) 24 q1) ∧ w'.cell? ⟨O2, 0, none⟩ = some (.slice (some ⟨P2, p2, none⟩) 24 q2) ∧ w'.cell? ⟨O7, 0, none⟩ = some (.slice (some ⟨Br, ro, none⟩) 24 kr) from fun w' h => ⟨h, h.cell c3, h.cell c4, h.cell cR⟩)
    refine wg_begin [(some 90, [3], []), (some 91, [], []), (some 92, [90, 91], [0, 1, 1]), (some 93, [92], [2, 2]), (some 94, [4, 93], [3]), (some 95, [93], [3, 3]), (some 96, [94, 95, 93], [4, 5, 5, 3]), (some 97, [93, 96], [3, 6]), (some 98, [97], [7, 6]), (some 99, [6, 98], [8]), (some 100, [98], [8, 8]), (some 101, [98], [10, 8]), (some 102, [98], [11, 8]), (some 103, [100, 101, 102, 98], [10, 11, 12, 8]), (some 104, [99, 103, 98], [9, 13, 12, 8]), (some 105, [98, 104], [8, 14]), (some 106, [105], [15, 14]), (some 107, [7, 106], [16]), (some 108, [106], [16, 16]), (some 109, [107, 108, 106], [17, 18, 18, 16]), (some 110, [106, 109], [16, 19]), (some 18, [110], [20, 19, 0, 1, 2, 3, 4, 5, 6, 7, 8, 9, 10, 11, 12, 13, 14, 15, 16, 17, 18, 19, 20])] (fun w' => Ext V w' ∧ w'.cell? ⟨O1, 0, none⟩ = some (.slice (some ⟨P1, p1, none⟩) 24 q1) ∧ w'.cell? ⟨O2, 0, none⟩ = some (.slice (some ⟨P2, p2, none⟩) 24 q2) ∧ w'.cell? ⟨O7, 0, none⟩ = some (.slice (some ⟨Br, ro, none⟩) 24 kr)) (by kernel_rfl) (by kernel_rfl) (by kernel_rfl) (by kernel_rfl) (by intro c d v a w h; cases d <;> first | exact h | (exact nomatch h.1) | (dsimp +zetaDelta only [Exit.then, Exit.inBlock] at h ⊢; exact h)) ((HM.out _ (Ext.drew (Ext.refl _)))) (fun ops Q L hL hR hK hHeld => ?_); replace hL := Lib.hid hL; have hW1 := @evalW_tmp; have hW2 := @evalW_const; have hW3 := @evalW_func; have hW4 := @look_cons; have hW5 := @look_nil
    have r3 := wg_read hL.out 3 rfl
    have r4 := wg_read hL.out 4 rfl
    have r6 := wg_read hL.out 6 rfl
    have r7 := wg_read hL.out 7 rfl
    (refine wg_take 0 (v := ?_) hR rfl (by kernel_rfl) (by kernel_rfl) ?_ (by with_reducible assumption) ?_; rotate_left; (focus (intro w hSw; (try dsimp only at hSw); go_simp; (try with_reducible rfl))); (dsimp only [putW]))
    (refine wg_step 1 hR rfl (by kernel_rfl) (by kernel_rfl) ?_ (by kernel_rfl); refine wg_call (f := 35) (args := ?_) ?_ ?_; rotate_left; (focus (go_simp; first | done | (with_reducible rfl) | (refine ⟨?_, ?_⟩ <;> with_reducible rfl))); (go_at_call 35; refine (row_c 0 _ (by decide)).mono ?_; rintro e w1 ⟨R1, r1, rfl, -, hv1, hb⟩); refine ⟨_, rfl, HM.out _ (hHeld.1.trans hb), fun hHeld => ?_⟩; (dsimp only [putW]))
    (refine wg_step 2 hR rfl (by kernel_rfl) (by kernel_rfl) ?_ (by kernel_rfl); refine wg_call (f := 21) (args := ?_) ?_ ?_; rotate_left; (focus (go_simp; first | done | (with_reducible rfl) | (refine ⟨?_, ?_⟩ <;> with_reducible rfl))); (go_at_call 21; refine (rSame_c _ _ _ vC.aa hHeld.1 hv1.aa (Ext.refl _)).mono ?_; rintro e wS1 ⟨rfl, hb⟩; rw [decide_eq_true rfl]); refine ⟨_, rfl, HM.out _ (hHeld.1.trans hb), fun hHeld => ?_⟩; (dsimp only [putW]))
    (refine wg_take 3 (v := ?_) hR rfl (by kernel_rfl) (by kernel_rfl) ?_ (by with_reducible assumption) ?_; rotate_left; (focus (intro w hSw; (try dsimp only at hSw); go_simp; (try with_reducible rfl))); (dsimp only [putW]))
    (refine wg_take 4 (v := ?_) hR rfl (by kernel_rfl) (by kernel_rfl) ?_ (by with_reducible assumption) ?_; rotate_left; (focus (intro w hSw; (try dsimp only at hSw); go_simp; (try with_reducible rfl))); (dsimp only [putW]))
    (refine wg_step 5 hR rfl (by kernel_rfl) (by kernel_rfl) ?_ (by kernel_rfl); refine wg_call (f := 35) (args := ?_) ?_ ?_; rotate_left; (focus (go_simp; first | done | (with_reducible rfl) | (refine ⟨?_, ?_⟩ <;> with_reducible rfl))); (go_at_call 35; refine (row_c 8 _ (by decide)).mono ?_; rintro e w5 ⟨R5, r5, rfl, -, hv5, hb⟩); refine ⟨_, rfl, HM.out _ (hHeld.1.trans hb), fun hHeld => ?_⟩; (dsimp only [putW]))
    (refine wg_step 6 hR rfl (by kernel_rfl) (by kernel_rfl) ?_ (by kernel_rfl); refine wg_call (f := 21) (args := ?_) ?_ ?_; rotate_left; (focus (go_simp; first | done | (with_reducible rfl) | (refine ⟨?_, ?_⟩ <;> with_reducible rfl))); (go_at_call 21; refine (rSame_c _ _ _ vS.aa hHeld.1 hv5.aa (Ext.refl _)).mono ?_; rintro e wS5 ⟨rfl, hb⟩; rw [decide_eq_true rfl]); refine ⟨_, rfl, HM.out _ (hHeld.1.trans hb), fun hHeld => ?_⟩; (dsimp only [putW]))
    (refine wg_take 7 (v := ?_) hR rfl (by kernel_rfl) (by kernel_rfl) ?_ (by with_reducible assumption) ?_; rotate_left; (focus (intro w hSw; (try dsimp only at hSw); go_simp; (try with_reducible rfl))); (dsimp only [putW]))
    (refine wg_take 8 (v := ?_) hR rfl (by kernel_rfl) (by kernel_rfl) ?_ (by with_reducible assumption) ?_; rotate_left; (focus (intro w hSw; (try dsimp only at hSw); go_simp; (try with_reducible rfl))); (dsimp only [putW]))
    (refine wg_take 9 (v := ?_) hR rfl (by kernel_rfl) (by kernel_rfl) ?_ (by with_reducible assumption) ?_; rotate_left; (focus (intro w hSw; (try dsimp only at hSw); go_simp; (try with_reducible rfl))); (dsimp only [putW]))
    (refine wg_step 10 hR rfl (by kernel_rfl) (by kernel_rfl) ?_ (by kernel_rfl); refine wg_call (f := 35) (args := ?_) ?_ ?_; rotate_left; (focus (go_simp; first | done | (with_reducible rfl) | (refine ⟨?_, ?_⟩ <;> with_reducible rfl))); (go_at_call 35; refine (row_c 6 _ (by decide)).mono ?_; rintro e w10 ⟨R10, r10, rfl, -, hv10, hb⟩); refine ⟨_, rfl, HM.out _ (hHeld.1.trans hb), fun hHeld => ?_⟩; (dsimp only [putW]))
    (refine wg_step 11 hR rfl (by kernel_rfl) (by kernel_rfl) ?_ (by kernel_rfl); refine wg_call (f := 35) (args := ?_) ?_ ?_; rotate_left; (focus (go_simp; first | done | (with_reducible rfl) | (refine ⟨?_, ?_⟩ <;> with_reducible rfl))); (go_at_call 35; refine (row_c 0 _ (by decide)).mono ?_; rintro e w11 ⟨R11, r11, rfl, -, hv11, hb⟩; replace hv10 := hv10.ext hb); refine ⟨_, rfl, HM.out _ (hHeld.1.trans hb), fun hHeld => ?_⟩; (dsimp only [putW]))
    (refine wg_step 12 hR rfl (by kernel_rfl) (by kernel_rfl) ?_ (by kernel_rfl); refine wg_call (f := 35) (args := ?_) ?_ ?_; rotate_left; (focus (go_simp; first | done | (with_reducible rfl) | (refine ⟨?_, ?_⟩ <;> with_reducible rfl))); (go_at_call 35; refine (row_c 8 _ (by decide)).mono ?_; rintro e w12 ⟨R12, r12, rfl, -, hv12, hb⟩; replace hv10 := hv10.ext hb; replace hv11 := hv11.ext hb); refine ⟨_, rfl, HM.out _ (hHeld.1.trans hb), fun hHeld => ?_⟩; (dsimp only [putW]))
    (refine wg_step 13 hR rfl (by kernel_rfl) (by kernel_rfl) ?_ (by kernel_rfl); refine wg_eff (v := ?_) (w' := ?_) ?_ ?_ ?_; rotate_left; rotate_left; (focus (go_simp; first | done | (with_reducible rfl) | (refine ⟨?_, ?_⟩ <;> with_reducible rfl))); (focus (exact HM.out _ (Ext.alloc hHeld.1 _))); intro hHeld; (dsimp only [putW]))
    (refine wg_step 14 hR rfl (by kernel_rfl) (by kernel_rfl) ?_ (by kernel_rfl); refine wg_call (f := 22) (args := ?_) ?_ ?_; rotate_left; (focus (go_simp; first | done | (with_reducible rfl) | (refine ⟨?_, ?_⟩ <;> with_reducible rfl))); (go_at_call 22; refine (rSameAreas_t pc 3 _ pP hHeld.1 (areas3 _ hv10 hv11 hv12) (Ext.refl _)).mono ?_; rintro e wA ⟨rfl, hb⟩); refine ⟨_, rfl, HM.out _ (hHeld.1.trans hb), fun hHeld => ?_⟩; (dsimp only [putW]))
    (refine wg_take 15 (v := ?_) hR rfl (by kernel_rfl) (by kernel_rfl) ?_ (by with_reducible assumption) ?_; rotate_left; (focus (intro w hSw; (try dsimp only at hSw); go_simp; (try with_reducible rfl))); (dsimp only [putW]))
    (refine wg_take 16 (v := ?_) hR rfl (by kernel_rfl) (by kernel_rfl) ?_ (by with_reducible assumption) ?_; rotate_left; (focus (intro w hSw; (try dsimp only at hSw); go_simp; (try with_reducible rfl))); (dsimp only [putW]))
    (refine wg_take 17 (v := ?_) hR rfl (by kernel_rfl) (by kernel_rfl) ?_ (by with_reducible assumption) ?_; rotate_left; (focus (intro w hSw; (try dsimp only at hSw); go_simp; (try with_reducible rfl))); (dsimp only [putW]))
    (refine wg_step 18 hR rfl (by kernel_rfl) (by kernel_rfl) ?_ (by kernel_rfl); refine wg_call (f := 35) (args := ?_) ?_ ?_; rotate_left; (focus (go_simp; first | done | (with_reducible rfl) | (refine ⟨?_, ?_⟩ <;> with_reducible rfl))); (go_at_call 35; refine (row_c 0 _ (by decide)).mono ?_; rintro e w18 ⟨R18, r18, rfl, -, hv18, hb⟩); refine ⟨_, rfl, HM.out _ (hHeld.1.trans hb), fun hHeld => ?_⟩; (dsimp only [putW]))
    (refine wg_step 19 hR rfl (by kernel_rfl) (by kernel_rfl) ?_ (by kernel_rfl); refine wg_call (f := 21) (args := ?_) ?_ ?_; rotate_left; (focus (go_simp; first | done | (with_reducible rfl) | (refine ⟨?_, ?_⟩ <;> with_reducible rfl))); (go_at_call 21; refine (rSame_c _ _ _ vR.aa hHeld.1 hv18.aa (Ext.refl _)).mono ?_; rintro e wS18 ⟨rfl, hb⟩; rw [decide_eq_true rfl]); refine ⟨_, rfl, HM.out _ (hHeld.1.trans hb), fun hHeld => ?_⟩; (dsimp only [putW]))
    (refine wg_take 20 (v := ?_) hR rfl (by kernel_rfl) (by kernel_rfl) ?_ (by with_reducible assumption) ?_; rotate_left; (focus (intro w hSw; (try dsimp only at hSw); go_simp; (try with_reducible rfl))); (dsimp only [putW]))
    (refine wg_take 21 (v := ?_) hR rfl (by kernel_rfl) (by kernel_rfl) ?_ (by with_reducible assumption) ?_; rotate_left; (focus (intro w hSw; (try dsimp only at hSw); go_simp; (try with_reducible rfl))); (dsimp only [putW]))
    refine wg_fin hR hK [(18, 0), (71, 21), (0, 20), (0, 19), (0, 18), (0, 17), (0, 16), (0, 15), (0, 14), (0, 13), (0, 12), (0, 11), (0, 10), (0, 9), (0, 8), (0, 7), (0, 6), (0, 5), (0, 4), (0, 3), (0, 2), (0, 1)] (by kernel_rfl) (by kernel_rfl) (by dsimp only [mg, gsOf, valAt]) ?_; clear hW1 hW2 hW3 hW4 hW5 hR hK hL
    clear r3
    clear r4
    clear r6
    clear r7
    have hb := hHeld.1
    clear hHeld HM
    refine exit_at (fun V => Ext w V ∧ VA V B0 0 (rowL 14) ∧ V.cell? ⟨Oa, 0, none⟩ = some (.slice (some ⟨B0, 0, none⟩) 24 k0) ∧ V.cell? ⟨O1, 0, none⟩ = some (.slice (some ⟨P1, p1, none⟩) 24 q1) ∧ V.cell? ⟨O2, 0, none⟩ = some (.slice (some ⟨P2, p2, none⟩) 24 q2) ∧ VA V P1 p1 (rowL 0) ∧ VA V P2 p2 (rowL 8) ∧ StripsAt V (some ⟨Ob, 0, none⟩) 3 [(rowL 6, rowL 14), (rowL 4, rowL 4), (rowL 12, rowL 12)] ∧ AreasAt V pa 3 [rowL 6, rowL 0, rowL 8] ∧ VA V Br ro (rowL 0) ∧ V.cell? ⟨O7, 0, none⟩ = some (.slice (some ⟨Br, ro, none⟩) 24 kr) ∧ IntsAt V fa (intsN [0, 2])) ⟨hE.trans (by first | exact hb | exact Ext.alloc hb _ | exact Ext.alloc (Ext.alloc hb _) _), vA.ext (by first | exact hb | exact Ext.alloc hb _ | exact Ext.alloc (Ext.alloc hb _) _), Ext.cell (by first | exact hb | exact Ext.alloc hb _ | exact Ext.alloc (Ext.alloc hb _) _) cA, Ext.cell (by first | exact hb | exact Ext.alloc hb _ | exact Ext.alloc (Ext.alloc hb _) _) c3, Ext.cell (by first | exact hb | exact Ext.alloc hb _ | exact Ext.alloc (Ext.alloc hb _) _) c4, vC.ext (by first | exact hb | exact Ext.alloc hb _ | exact Ext.alloc (Ext.alloc hb _) _), vS.ext (by first | exact hb | exact Ext.alloc hb _ | exact Ext.alloc (Ext.alloc hb _) _), sS.ext (by first | exact hb | exact Ext.alloc hb _ | exact Ext.alloc (Ext.alloc hb _) _), pP.ext (by first | exact hb | exact Ext.alloc hb _ | exact Ext.alloc (Ext.alloc hb _) _), vR.ext (by first | exact hb | exact Ext.alloc hb _ | exact Ext.alloc (Ext.alloc hb _) _), Ext.cell (by first | exact hb | exact Ext.alloc hb _ | exact Ext.alloc (Ext.alloc hb _) _) cR, fF.ext (by first | exact hb | exact Ext.alloc hb _ | exact Ext.alloc (Ext.alloc hb _) _)⟩ ?_
    clear hE vA cA c3 c4 vC vS sS pP vR cR fF lvA lcA lc3 lc4 lvC lvS lvR lcR hb
    rintro V ⟨hE, vA, cA, c3, c4, vC, vS, sS, pP, vR, cR, fF⟩
    have lvA := vA.lt
    have lcA : Oa < V.heap.size := World.block_lt_of_cell? V _ cA
    have lc3 : O1 < V.heap.size := World.block_lt_of_cell? V _ c3
    have lc4 : O2 < V.heap.size := World.block_lt_of_cell? V _ c4
    have lvC := vC.lt
    have lvS := vS.lt
    have lvR := vR.lt
    have lcR : O7 < V.heap.size := World.block_lt_of_cell? V _ cR
    go_wp2_with fail
    have HM := Lib.hid (show ∀ w', Ext V w' → Ext V w' ∧ w'.cell? ⟨Oa, 0, none⟩ = some (.slice (some ⟨B0, 0, none⟩) 24 k0) from fun w' h => ⟨h, h.cell cA⟩)
    refine wg_begin [(some 111, [18], []), (some 112, [111], [0]), (some 113, [10, 112], [1]), (some 114, [112, 113], [1, 2]), (some 115, [114], [3, 1]), (some 116, [13, 115], [4]), (some 117, [116, 115], [5, 4]), (some 118, [115, 117], [4, 6]), (some 119, [118], [7, 4]), (some 120, [9, 119], [8]), (some 121, [119], [8]), (some 122, [120, 121, 119], [9, 10, 8, 8]), (some 123, [119, 122], [8, 11]), (some 124, [123], [12, 11]), (some 125, [1, 124], [13]), (some 126, [2, 124], [13]), (some 127, [6, 124], [13]), (some 128, [125, 126, 127, 124], [14, 15, 16, 13, 13]), (some 129, [124, 128], [13, 17]), (some 130, [129], [18, 17]), (some 131, [1, 130], [19]), (some 132, [2, 130], [19]), (some 133, [132, 130], [21, 19]), (some 134, [6, 130], [19]), (some 135, [134, 130], [23, 19]), (some 136, [131, 133, 135, 130], [20, 22, 24, 19, 19]), (some 137, [136, 130], [25, 19]), (some 138, [130, 137], [19, 26]), (some 139, [138], [27, 25]), (some 140, [2, 139], [28]), (some 141, [140, 139], [29, 28, 28]), (some 142, [139, 141], [28, 30]), (some 143, [142], [31, 30]), (some 144, [143], [32]), (some 145, [144, 143], [33, 32]), (some 146, [145, 143], [34, 32, 32]), (some 147, [146, 143], [35, 32]), (some 148, [143, 147], [32, 36]), (some 0, [148], [37, 35, 0, 1, 2, 3, 4, 5, 6, 7, 8, 9, 10, 11, 12, 13, 14, 15, 16, 17, 18, 19, 20, 21, 22, 23, 24, 25, 26, 27, 28, 29, 30, 31, 32, 33, 34, 35, 36, 37])] (fun w' => Ext V w' ∧ w'.cell? ⟨Oa, 0, none⟩ = some (.slice (some ⟨B0, 0, none⟩) 24 k0)) (by kernel_rfl) (by kernel_rfl) (by kernel_rfl) (by kernel_rfl) (by intro c d v a w h; cases d <;> first | exact h | (exact nomatch h.1) | (dsimp +zetaDelta only [Exit.then, Exit.inBlock] at h ⊢; exact h)) ((HM.out _ (Ext.drew (Ext.refl _)))) (fun ops Q L hL hR hK hHeld => ?_); replace hL := Lib.hid hL; have hW1 := @evalW_tmp; have hW2 := @evalW_const; have hW3 := @evalW_func; have hW4 := @look_cons; have hW5 := @look_nil
    have r18 := wg_read hL.out 18 rfl
    have r10 := wg_read hL.out 10 rfl
    have r13 := wg_read hL.out 13 rfl
    have r9 := wg_read hL.out 9 rfl
    have r1 := wg_read hL.out 1 rfl
    have r2 := wg_read hL.out 2 rfl
    have r6 := wg_read hL.out 6 rfl
    (refine wg_take 0 (v := ?_) hR rfl (by kernel_rfl) (by kernel_rfl) ?_ (by with_reducible assumption) ?_; rotate_left; (focus (intro w hSw; (try dsimp only at hSw); go_simp; (try with_reducible rfl))); (dsimp only [putW]))
    (refine wg_take 1 (v := ?_) hR rfl (by kernel_rfl) (by kernel_rfl) ?_ (by with_reducible assumption) ?_; rotate_left; (focus (intro w hSw; (try dsimp only at hSw); go_simp; (try with_reducible rfl))); (dsimp only [putW]))
    (refine wg_take 2 (v := ?_) hR rfl (by kernel_rfl) (by kernel_rfl) ?_ (by with_reducible assumption) ?_; rotate_left; (focus (intro w hSw; (try dsimp only at hSw); go_simp; (try with_reducible rfl))); (dsimp only [putW]))
    (refine wg_take 3 (v := ?_) hR rfl (by kernel_rfl) (by kernel_rfl) ?_ (by with_reducible assumption) ?_; rotate_left; (focus (intro w hSw; (try dsimp only at hSw); go_simp; (try with_reducible rfl))); (dsimp only [putW]))
    (refine wg_take 4 (v := ?_) hR rfl (by kernel_rfl) (by kernel_rfl) ?_ (by with_reducible assumption) ?_; rotate_left; (focus (intro w hSw; (try dsimp only at hSw); go_simp; (try with_reducible rfl))); (dsimp only [putW]))
    (refine wg_take 5 (v := ?_) hR rfl (by kernel_rfl) (by kernel_rfl) ?_ (by with_reducible assumption) ?_; rotate_left; (focus (intro w hSw; (try dsimp only at hSw); go_simp; (try with_reducible rfl))); (dsimp only [putW]))
    (refine wg_take 6 (v := ?_) hR rfl (by kernel_rfl) (by kernel_rfl) ?_ (by with_reducible assumption) ?_; rotate_left; (focus (intro w hSw; (try dsimp only at hSw); go_simp; (try with_reducible rfl))); (dsimp only [putW]))
    (refine wg_take 7 (v := ?_) hR rfl (by kernel_rfl) (by kernel_rfl) ?_ (by with_reducible assumption) ?_; rotate_left; (focus (intro w hSw; (try dsimp only at hSw); go_simp; (try with_reducible rfl))); (dsimp only [putW]))
    (refine wg_take 8 (v := ?_) hR rfl (by kernel_rfl) (by kernel_rfl) ?_ (by with_reducible assumption) ?_; rotate_left; (focus (intro w hSw; (try dsimp only at hSw); go_simp; (try with_reducible rfl))); (dsimp only [putW]))
    (refine wg_take 9 (v := ?_) hR rfl (by kernel_rfl) (by kernel_rfl) ?_ (by with_reducible assumption) ?_; rotate_left; (focus (intro w hSw; (try dsimp only at hSw); go_simp; (try with_reducible rfl))); (dsimp only [putW]))
    (refine wg_step 10 hR rfl (by kernel_rfl) (by kernel_rfl) ?_ (by kernel_rfl); refine wg_eff (v := ?_) (w' := ?_) ?_ ?_ ?_; rotate_left; rotate_left; (focus (go_simp; first | done | (with_reducible rfl) | (refine ⟨?_, ?_⟩ <;> with_reducible rfl))); (focus (exact HM.out _ (Ext.alloc hHeld.1 _))); intro hHeld; (dsimp only [putW]))
    (refine wg_step 11 hR rfl (by kernel_rfl) (by kernel_rfl) ?_ (by kernel_rfl); refine wg_call (f := 27) (args := ?_) ?_ ?_; rotate_left; (focus (go_simp; first | done | (with_reducible rfl) | (refine ⟨?_, ?_⟩ <;> with_reducible rfl))); (go_at_call 27; refine (rInts_t fc 2 _ fF hHeld.1 (ints2 V 0 2 (x := 0) (y := 2) (t := 3) rfl rfl) (by (repeat' (first | (with_reducible assumption) | (with_reducible exact Ext.refl _) | (with_reducible refine Ext.alloc ?_ _) | (with_reducible refine Ext.drew ?_) | (with_reducible refine Ext.drewN ?_ _) | (with_reducible refine Ext.setCell ?_ ?_ _) | (with_reducible refine Ext.trans ?_ (by assumption)) | go_size))) rfl (by decide)).mono ?_; rintro e wI ⟨rfl, hb⟩); refine ⟨_, rfl, HM.out _ (hHeld.1.trans hb), fun hHeld => ?_⟩; (dsimp only [putW]))
    (refine wg_take 12 (v := ?_) hR rfl (by kernel_rfl) (by kernel_rfl) ?_ (by with_reducible assumption) ?_; rotate_left; (focus (intro w hSw; (try dsimp only at hSw); go_simp; (try with_reducible rfl))); (dsimp only [putW]))
    (refine wg_take 13 (v := ?_) hR rfl (by kernel_rfl) (by kernel_rfl) ?_ (by with_reducible assumption) ?_; rotate_left; (focus (intro w hSw; (try dsimp only at hSw); go_simp; (try with_reducible rfl))); (dsimp only [putW]))
    (refine wg_take 14 (v := ?_) hR rfl (by kernel_rfl) (by kernel_rfl) ?_ (by with_reducible assumption) ?_; rotate_left; (focus (intro w hSw; (try dsimp only at hSw); go_simp; (try with_reducible rfl))); (dsimp only [putW]))
    (refine wg_take 15 (v := ?_) hR rfl (by kernel_rfl) (by kernel_rfl) ?_ (by with_reducible assumption) ?_; rotate_left; (focus (intro w hSw; (try dsimp only at hSw); go_simp; (try with_reducible rfl))); (dsimp only [putW]))
    (refine wg_take 16 (v := ?_) hR rfl (by kernel_rfl) (by kernel_rfl) ?_ (by with_reducible assumption) ?_; rotate_left; (focus (intro w hSw; (try dsimp only at hSw); go_simp; (try with_reducible rfl))); (dsimp only [putW]))
    (refine wg_step 17 hR rfl (by kernel_rfl) (by kernel_rfl) ?_ (by kernel_rfl); refine wg_call (f := 23) (args := ?_) ?_ ?_; rotate_left; (focus (go_simp; first | done | (with_reducible rfl) | (refine ⟨?_, ?_⟩ <;> with_reducible rfl))); (go_at_call 23; refine (Check_r 3 k0 pc _ vA.aa hHeld.1 sS hHeld.1 pP hHeld.1 (HT.out.ext (hE.trans hHeld.1)) ex_check).mono ?_; rintro e wC ⟨rfl, hb⟩); refine ⟨_, rfl, HM.out _ (hHeld.1.trans hb), fun hHeld => ?_⟩; (dsimp only [putW]))
    (refine wg_take 18 (v := ?_) hR rfl (by kernel_rfl) (by kernel_rfl) ?_ (by with_reducible assumption) ?_; rotate_left; (focus (intro w hSw; (try dsimp only at hSw); go_simp; (try with_reducible rfl))); (dsimp only [putW]))
    (refine wg_take 19 (v := ?_) hR rfl (by kernel_rfl) (by kernel_rfl) ?_ (by with_reducible assumption) ?_; rotate_left; (focus (intro w hSw; (try dsimp only at hSw); go_simp; (try with_reducible rfl))); (dsimp only [putW]))
    (refine wg_take 20 (v := ?_) hR rfl (by kernel_rfl) (by kernel_rfl) ?_ (by with_reducible assumption) ?_; rotate_left; (focus (intro w hSw; (try dsimp only at hSw); go_simp; (try with_reducible rfl))); (dsimp only [putW]))
    (refine wg_take 21 (v := ?_) hR rfl (by kernel_rfl) (by kernel_rfl) ?_ (by with_reducible assumption) ?_; rotate_left; (focus (intro w hSw; (try dsimp only at hSw); go_simp; (try with_reducible rfl))); (dsimp only [putW]))
    (refine wg_take 22 (v := ?_) hR rfl (by kernel_rfl) (by kernel_rfl) ?_ (by with_reducible assumption) ?_; rotate_left; (focus (intro w hSw; (try dsimp only at hSw); go_simp; (try with_reducible rfl))); (dsimp only [putW]))
    (refine wg_take 23 (v := ?_) hR rfl (by kernel_rfl) (by kernel_rfl) ?_ (by with_reducible assumption) ?_; rotate_left; (focus (intro w hSw; (try dsimp only at hSw); go_simp; (try with_reducible rfl))); (dsimp only [putW]))
    (refine wg_take 24 (v := ?_) hR rfl (by kernel_rfl) (by kernel_rfl) ?_ (by with_reducible assumption) ?_; rotate_left; (focus (intro w hSw; (try dsimp only at hSw); go_simp; (try with_reducible rfl))); (dsimp only [putW]))
    (refine wg_step 25 hR rfl (by kernel_rfl) (by kernel_rfl) ?_ (by kernel_rfl); refine wg_call (f := 23) (args := ?_) ?_ ?_; rotate_left; (focus (go_simp; first | done | (with_reducible rfl) | (refine ⟨?_, ?_⟩ <;> with_reducible rfl))); (go_at_call 23; refine (Check_r 3 k0 pc _ vA.aa hHeld.1 (sS.take 2 (by omega)) hHeld.1 (pP.take 2 (by omega)) hHeld.1 (HT.out.ext (hE.trans hHeld.1)) ex_check2).mono ?_; rintro e wD ⟨rfl, hb⟩); refine ⟨_, rfl, HM.out _ (hHeld.1.trans hb), fun hHeld => ?_⟩; (dsimp only [putW]))
    (refine wg_take 26 (v := ?_) hR rfl (by kernel_rfl) (by kernel_rfl) ?_ (by with_reducible assumption) ?_; rotate_left; (focus (intro w hSw; (try dsimp only at hSw); go_simp; (try with_reducible rfl))); (dsimp only [putW]))
    (refine wg_take 27 (v := ?_) hR rfl (by kernel_rfl) (by kernel_rfl) ?_ (by with_reducible assumption) ?_; rotate_left; (focus (intro w hSw; (try dsimp only at hSw); go_simp; (try with_reducible rfl))); (dsimp only [putW]))
    (refine wg_take 28 (v := ?_) hR rfl (by kernel_rfl) (by kernel_rfl) ?_ (by with_reducible assumption) ?_; rotate_left; (focus (intro w hSw; (try dsimp only at hSw); go_simp; (try with_reducible rfl))); (dsimp only [putW]))
    (refine wg_take 29 (v := ?_) hR rfl (by kernel_rfl) (by kernel_rfl) ?_ (by with_reducible assumption) ?_; rotate_left; (focus (intro w hSw; (try dsimp only at hSw); go_simp; (try with_reducible rfl))); (dsimp only [putW]))
    (refine wg_step 30 hR rfl (by kernel_rfl) (by kernel_rfl) ?_ (by kernel_rfl); refine wg_call (f := 19) (args := ?_) ?_ ?_; rotate_left; (focus (go_simp; first | done | (with_reducible rfl) | (refine ⟨?_, ?_⟩ <;> with_reducible rfl))); (go_at_call 19; refine (ValidS_r 3 _ sS hHeld.1 ex_ok).mono ?_; rintro e wV ⟨rfl, hb⟩); refine ⟨_, rfl, HM.out _ (hHeld.1.trans hb), fun hHeld => ?_⟩; (dsimp only [putW]))
    (refine wg_take 31 (v := ?_) hR rfl (by kernel_rfl) (by kernel_rfl) ?_ (by with_reducible assumption) ?_; rotate_left; (focus (intro w hSw; (try dsimp only at hSw); go_simp; (try with_reducible rfl))); (dsimp only [putW]))
    (refine wg_take 32 (v := ?_) hR rfl (by kernel_rfl) (by kernel_rfl) ?_ (by with_reducible assumption) ?_; rotate_left; (focus (intro w hSw; (try dsimp only at hSw); go_simp; (try with_reducible rfl))); (dsimp only [putW]))
    (refine wg_take 33 (v := ?_) hR rfl (by kernel_rfl) (by kernel_rfl) ?_ (by with_reducible assumption) ?_; rotate_left; (focus (intro w hSw; (try dsimp only at hSw); go_simp; (try with_reducible rfl))); (dsimp only [putW]))
    (refine wg_step 34 hR rfl (by kernel_rfl) (by kernel_rfl) ?_ (by kernel_rfl); refine wg_eff (v := ?_) (w' := ?_) ?_ ?_ ?_; rotate_left; rotate_left; (focus (go_simp; first | done | (with_reducible rfl) | (refine ⟨?_, ?_⟩ <;> with_reducible rfl))); (focus (exact HM.out _ (Ext.alloc hHeld.1 _))); intro hHeld; (dsimp only [putW]))
    (refine wg_step 35 hR rfl (by kernel_rfl) (by kernel_rfl) ?_ (by kernel_rfl); refine wg_call (f := 19) (args := ?_) ?_ ?_; rotate_left; (focus (go_simp; first | done | (with_reducible rfl) | (refine ⟨?_, ?_⟩ <;> with_reducible rfl))); (go_at_call 19; refine (ValidS_r 1 _ (strips1 _) (Ext.refl _) ex_bad).mono ?_; rintro e wW ⟨rfl, hb⟩); refine ⟨_, rfl, HM.out _ (hHeld.1.trans hb), fun hHeld => ?_⟩; (dsimp only [putW]))
    (refine wg_take 36 (v := ?_) hR rfl (by kernel_rfl) (by kernel_rfl) ?_ (by with_reducible assumption) ?_; rotate_left; (focus (intro w hSw; (try dsimp only at hSw); go_simp; (try with_reducible rfl))); (dsimp only [putW]))
    (refine wg_take 37 (v := ?_) hR rfl (by kernel_rfl) (by kernel_rfl) ?_ (by with_reducible assumption) ?_; rotate_left; (focus (intro w hSw; (try dsimp only at hSw); go_simp; (try with_reducible rfl))); (dsimp only [putW]))
    (refine wg_take 38 (v := ?_) hR rfl (by kernel_rfl) (by kernel_rfl) ?_ (by with_reducible assumption) ?_; rotate_left; (focus (intro w hSw; (try dsimp only at hSw); go_simp; (try with_reducible rfl))); (dsimp only [putW]))
    refine wg_fin hR hK [(0, 0), (110, 38), (0, 37), (0, 36), (0, 35), (0, 34), (0, 33), (0, 32), (0, 31), (0, 30), (0, 29), (0, 28), (0, 27), (0, 26), (0, 25), (0, 24), (0, 23), (0, 22), (0, 21), (0, 20), (0, 19), (0, 18), (0, 17), (0, 16), (0, 15), (0, 14), (0, 13), (0, 12), (0, 11), (0, 10), (0, 9), (0, 8), (0, 7), (0, 6), (0, 5), (0, 4), (0, 3), (0, 2), (0, 1)] (by kernel_rfl) (by kernel_rfl) (by dsimp only [mg, gsOf, valAt]) ?_; clear hW1 hW2 hW3 hW4 hW5 hR hK hL
    clear r18
    clear r10
    clear r13
    clear r9
    clear r1
    clear r2
    clear r6
    have hb := hHeld.1
    clear hHeld HM
    go_wp2_with fail
    go_ret
    exact ⟨rfl, hE.trans hb⟩

end Go.Proofs.YtglfoglkdbbmmaaDoor
