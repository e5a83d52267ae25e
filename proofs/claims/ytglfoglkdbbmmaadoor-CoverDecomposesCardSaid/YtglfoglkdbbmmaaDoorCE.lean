/- Contracts of package cover: Decompose; Uncovered and Decompose of what is not valid. -/
import Derived.Test.YtglfoglkdbbmmaaDoorCD
namespace Go.Proofs.YtglfoglkdbbmmaaDoor
open Go.RowKit

/-- A slice of areas. -/
def AreasAt (w : World) (a : Option Addr) (n : Nat) (ls : List (List Int)) : Prop :=
  ls.length = n ∧ n ≤ 140737488355328 ∧ (n = 0 ∨ ∃ b off, a = some ⟨b, off, none⟩ ∧ ∀ (i : Nat) l, ls[i]? = some l → ∃ (a1 : Option Addr) (n1 c1 : Nat) (v1 : Bool), w.cell? ⟨b, off + i, none⟩ = some (.slice a1 n1 c1) ∧ AA w a1 l n1 v1)
theorem AreasAt.ext {w w' : World} {a : Option Addr} {n : Nat} {ls : List (List Int)} (h : AreasAt w a n ls) (hE : Ext w w') : AreasAt w' a n ls :=
  ⟨h.1, h.2.1, h.2.2.imp id fun ⟨b, off, ha, hc⟩ => ⟨b, off, ha, fun i l hl => by obtain ⟨a1, n1, c1, v1, q1, q2⟩ := hc i l hl; exact ⟨a1, n1, c1, v1, hE.cell q1, q2.ext hE⟩⟩⟩
theorem AreasAt.at {w : World} {a : Option Addr} {n : Nat} {ls : List (List Int)} (h : AreasAt w a n ls) {i : Nat} (hi : i < n) :
    ∃ b off l a1 n1 c1 v1, a = some ⟨b, off, none⟩ ∧ ls[i]? = some l ∧ w.cell? ⟨b, off + i, none⟩ = some (.slice a1 n1 c1) ∧ AA w a1 l n1 v1 := by
  obtain ⟨b, off, rfl, hc⟩ := h.2.2.resolve_left (by omega)
  have hs : ls[i]? = some (ls[i]'(by rw [h.1]; exact hi)) := List.getElem?_eq_getElem _
  obtain ⟨a1, n1, c1, v1, q1, q2⟩ := hc i _ hs
  exact ⟨b, off, _, a1, n1, c1, v1, rfl, hs, q1, q2⟩
theorem Out.areas {n₀ O : Nat} {v : Value} {w : World} {Ps : List (List Int)} (h : Out n₀ O v w Ps) (hl : Ps.length ≤ 140737488355328) : ∃ a c, v = .slice a Ps.length c ∧ Ps.length ≤ c ∧ AreasAt w a Ps.length Ps := by
  obtain ⟨-, vals, h2, h3⟩ := h
  rcases h2.2 with ⟨q, q0⟩ | ⟨g, cap, cur, rfl, _, _, hcap, _⟩
  · exact ⟨none, 0, by rw [q, q0], by omega, rfl, hl, .inl q0⟩
  · refine ⟨some ⟨g, 0, none⟩, cap, rfl, hcap, rfl, hl, .inr ⟨g, 0, rfl, fun i l hi => ?_⟩⟩
    obtain ⟨B, k, q1, q2⟩ := h3 i l hi
    exact ⟨_, _, _, _, by rw [Nat.zero_add, h2.cellAt i (by have := (List.getElem?_eq_some_iff.1 hi).1; omega)]; exact q1, q2.aa⟩
def DecRes (w : World) (L : List Int) (Ss : List (List Int)) (e : Ending) (w' : World) : Prop :=
  ∃ (a : Option Addr) (c B o k : Nat), e = .returned (.tuple #[.slice a Ss.length c, .agg #[.slice (some ⟨B, o, none⟩) 24 k], .int .i64 0]) ∧ Ss.length ≤ c ∧ AreasAt w' a Ss.length (Globe.piecesL L Ss) ∧ VA w' B o (Globe.leftL L Ss) ∧ Ext w w'
def DecErr (w : World) (e : Ending) (w' : World) : Prop := e = .returned (.tuple #[.slice none 0 0, .agg #[.slice none 0 0], .int .i64 160]) ∧ Ext w w'

set_option maxHeartbeats 4000000 in
theorem Decompose_v {w1 w2 : World} {a : Option Addr} {n : Nat} {ss : List (List Int × List Int)} {b o : Nat} (c k : Nat) {l : List Int} (w : World) (hl : VA w1 b o l) (e1 : Ext w1 w) (h : StripsAt w2 a n ss) (e2 : Ext w2 w) (hok : Globe.stripsOk ss = true) :
    Calls Tryd.prog 17 #[.agg #[.slice (some ⟨b, o, none⟩) 24 k], .slice a n c] w (DecRes w l (ss.map fun s => s.1)) := by
  have H := Lib.hid (h.ext e2)
  have HL := Lib.hid (hl.ext e1)
  have hbl := HL.out.lt
  clear h hl e1 e2
  have h24 : ss.length ≤ 24 := (Globe.stripsOk_t.1 hok).1
  have Hok := Lib.hid hok; clear hok
  have hpl : (Globe.piecesL l (ss.map fun s => s.1)).length = (ss.map fun s => s.1).length := Globe.pieces_len _ _
  have Hpl := Lib.hid hpl; clear hpl
  go_enter Tryd.func17, Tryd.ntmps17
  go_wp2_with fail
  refine (Valid_e k _ HL.out.aa (by (repeat' (first | (with_reducible assumption) | (with_reducible exact Ext.refl _) | (with_reducible refine Ext.alloc ?_ _) | (with_reducible refine Ext.drew ?_) | (with_reducible refine Ext.drewN ?_ _) | (with_reducible refine Ext.setCell ?_ ?_ _) | (with_reducible refine Ext.trans ?_ (by assumption)) | go_size)))).mono ?_
  rintro e w1 ⟨rfl, hb⟩
  have hc := hb.cellE; have hf := hb.frozenE; have hz := hb.size; have ha := alloc_keeps w1; (try simp only [World.size_alloc] at hc hf hz); (try simp only [World.size_setCell] at hc hf hz); (try simp only [World.size_drew] at hc hf hz)
  go_wp2_with fail
  refine (ValidS_r c _ H.out (by (repeat' (first | (with_reducible assumption) | (with_reducible exact Ext.refl _) | (with_reducible refine Ext.alloc ?_ _) | (with_reducible refine Ext.drew ?_) | (with_reducible refine Ext.drewN ?_ _) | (with_reducible refine Ext.setCell ?_ ?_ _) | (with_reducible refine Ext.trans ?_ (by assumption)) | go_size))) Hok.out).mono ?_
  rintro e w2 ⟨rfl, hb⟩
  have hc := hb.cellE; have hf := hb.frozenE; have hz := hb.size; have ha := alloc_keeps w2; (try simp only [World.size_alloc] at hc hf hz); (try simp only [World.size_setCell] at hc hf hz); (try simp only [World.size_drew] at hc hf hz)
  have hE2 : Ext w w2 := by (repeat' (first | (with_reducible assumption) | (with_reducible exact Ext.refl _) | (with_reducible refine Ext.alloc ?_ _) | (with_reducible refine Ext.drew ?_) | (with_reducible refine Ext.drewN ?_ _) | (with_reducible refine Ext.setCell ?_ ?_ _) | (with_reducible refine Ext.trans ?_ (by assumption)) | go_size))
  have b5 := BoxAt.ext (b := w.heap.size + 1) (o := 0) (v := .slice none 0 0) (show Ext _ w1 by with_reducible assumption) ⟨by simp [go_sem], by simp [go_sem]⟩
  have b52 := BoxAt.ext hb b5
  have l52 := b52.lt
  clear b5
  go_wp2_with fail
  refine (copied_v k _ HL.out (by (repeat' (first | (with_reducible assumption) | (with_reducible exact Ext.refl _) | (with_reducible refine Ext.alloc ?_ _) | (with_reducible refine Ext.drew ?_) | (with_reducible refine Ext.drewN ?_ _) | (with_reducible refine Ext.setCell ?_ ?_ _) | (with_reducible refine Ext.trans ?_ (by assumption)) | go_size)))).mono ?_
  rintro e w3 ⟨B3, k3, rfl, hB3, hv3, hb⟩
  have hE3 : Ext w2 w3 := by (repeat' (first | (with_reducible assumption) | (with_reducible exact Ext.refl _) | (with_reducible refine Ext.alloc ?_ _) | (with_reducible refine Ext.drew ?_) | (with_reducible refine Ext.drewN ?_ _) | (with_reducible refine Ext.setCell ?_ ?_ _) | (with_reducible refine Ext.trans ?_ (by assumption)) | go_size))
  have bO := BoxAt.ext (b := w2.heap.size) (o := 0) (v := .slice none 0 0) hb ⟨by simp [go_sem], by simp [go_sem]⟩
  simp only [World.size_alloc] at hB3
  have hc := hb.cellE; have hf := hb.frozenE; have hz := hb.size; have ha := alloc_keeps w3; (try simp only [World.size_alloc] at hc hf hz); (try simp only [World.size_setCell] at hc hf hz); (try simp only [World.size_drew] at hc hf hz)
  go_wp2_with fail
  refine (foldD_v c k3 _ (H.out.ext hE2) Hok.out hE3 (Nat.le_refl _) bO hv3 (by omega)).mono ?_
  rintro e w4 ⟨B4, o4, k4, n₀, v, rfl, hv4, hO4, hBO4, hn0, hB4, hE4⟩
  have c5 := BoxAt.ext hE4 b52
  have hs4 := hE4.size
  have hs3 := hE3.size
  have HO4 := Lib.hid hO4; have HV4 := Lib.hid hv4
  clear hO4 hv4 bO hv3 b52 hb hc hf hz ha
  iterate 2 clear hb hc hf hz ha
  have ha4 := alloc_keeps w4
  have cO4 := HO4.out.1.1
  have lO4 := World.block_lt_of_cell? w4 _ cO4
  go_wp2_with fail
  refine wp_name (fun V => Ext w V ∧ V.cell? ⟨w2.heap.size, 0, none⟩ = some v ∧ V.cell? ⟨w4.heap.size, 0, none⟩ = some (.slice (some ⟨B4, o4, none⟩) 24 k4) ∧ BoxAt V (w.heap.size + 1) 0 (.slice none 0 0) ∧ Out n₀ w2.heap.size v V (Globe.piecesL l (ss.map fun s => s.1)) ∧ VA V B4 o4 (Globe.leftL l (ss.map fun s => s.1)))
    ⟨hE2.trans (Ext.alloc hE4 _), Ext.cell (Ext.alloc (Ext.refl _) _) cO4, by simp [go_sem], BoxAt.ext (Ext.alloc (Ext.refl _) _) c5, HO4.out.ext (Ext.alloc (Ext.refl _) _), HV4.out.ext (Ext.alloc (Ext.refl _) _)⟩ ?_
  clear HO4 HV4 cO4 c5 ha4
  rintro V ⟨hE, cO, c8, ⟨c5, f5⟩, hO, hv⟩
  have l5 := World.block_lt_of_cell? V _ c5
  have lO := World.block_lt_of_cell? V _ cO
  have l8 := World.block_lt_of_cell? V _ c8
  have hX : ∀ v1, Ext w ((V.drew).setCell ⟨w.heap.size + 1, 0, none⟩ v1) := fun v1 => Ext.setCell (Ext.drew hE) (p := ⟨w.heap.size + 1, 0, none⟩) (by show _ ≤ w.heap.size + 1; omega) _
  have HX := Lib.hid hX; clear hX hE
  have hY : ∀ v1, VA ((V.drew).setCell ⟨w.heap.size + 1, 0, none⟩ v1) B4 o4 (Globe.leftL l (ss.map fun s => s.1)) := fun v1 => VA.other (hv.ext (Ext.drew (Ext.refl _))) (p := ⟨w.heap.size + 1, 0, none⟩) (by show w.heap.size + 1 ≠ B4; omega) _
  have HY := Lib.hid hY; clear hY hv
  have hZ : ∀ v1, Out n₀ w2.heap.size v ((V.drew).setCell ⟨w.heap.size + 1, 0, none⟩ v1) (Globe.piecesL l (ss.map fun s => s.1)) := fun v1 => Out.set (hO.ext (Ext.drew (Ext.refl _))) (by omega) (by omega) c5 _
  have HZ := Lib.hid hZ; clear hZ hO
  -- <<dec
  refine wg_begin [(some 23, [7], []), (some 24, [8], []), (some 4, [23], [0, 0]), (none, [5, 24], [1, 2, 0, 1, 2]), (some 6, [], [3, 0, 1, 2, 3])] (fun w' => w'.cell? ⟨w2.heap.size, 0, none⟩ = some v ∧ w'.cell? ⟨w4.heap.size, 0, none⟩ = some (.slice (some ⟨B4, o4, none⟩) 24 k4)) (by kernel_rfl) (by kernel_rfl) (by kernel_rfl) (by kernel_rfl) (by intro c d v a w h; cases d <;> first | exact h | (exact nomatch h.1) | (dsimp +zetaDelta only [Exit.then, Exit.inBlock] at h ⊢; exact h)) (⟨cO, c8⟩) (fun ops Q L hL hR hK hHeld => ?_); replace hL := Lib.hid hL; have hW1 := @evalW_tmp; have hW2 := @evalW_const; have hW3 := @evalW_func; have hW4 := @look_cons; have hW5 := @look_nil
  have r7 := wg_read hL.out 7 rfl
  have r8 := wg_read hL.out 8 rfl
  have r5 := wg_read hL.out 5 rfl
  (refine wg_take 0 (v := ?_) hR rfl (by kernel_rfl) (by kernel_rfl) ?_ (by with_reducible assumption) ?_; rotate_left; (focus (intro w hSw; (try dsimp only at hSw); go_simp; (try with_reducible rfl))); (dsimp only [putW]))
  (refine wg_take 1 (v := ?_) hR rfl (by kernel_rfl) (by kernel_rfl) ?_ (by with_reducible assumption) ?_; rotate_left; (focus (intro w hSw; (try dsimp only at hSw); go_simp; (try with_reducible rfl))); (dsimp only [putW]))
  (refine wg_take 2 (v := ?_) hR rfl (by kernel_rfl) (by kernel_rfl) ?_ (by with_reducible assumption) ?_; rotate_left; (focus (intro w hSw; (try dsimp only at hSw); go_simp; (try with_reducible rfl))); (dsimp only [putW]))
  (refine wg_step 3 hR rfl (by kernel_rfl) (by kernel_rfl) ?_ (by kernel_rfl); refine wg_skp (w' := ?_) ?_ ?_ ?_; rotate_left; (focus (go_simp; first | done | (with_reducible rfl))); (focus (exact ⟨by simp [go_sem, cO], by simp [go_sem, c8]⟩)); intro hHeld; (dsimp only [putW]))
  (refine wg_take 4 (v := ?_) hR rfl (by kernel_rfl) (by kernel_rfl) ?_ (by with_reducible assumption) ?_; rotate_left; (focus (intro w hSw; (try dsimp only at hSw); go_simp; (try with_reducible rfl))); (dsimp only [putW]))
  refine wg_fin hR hK [(4, 1), (1, 0), (16, 3), (0, 2)] (by kernel_rfl) (by kernel_rfl) (by dsimp only [mg, gsOf, valAt]) ?_; clear hW1 hW2 hW3 hW4 hW5 hR hK hL
  clear r7
  clear r8
  clear r5
  -- >>
  go_wp2_with fail
  obtain ⟨aa, ca, rfl, hcap, hA⟩ := (HZ.out (.slice (some ⟨B4, o4, none⟩) 24 k4)).areas (by rw [Hpl.out, List.length_map]; omega)
  rw [Hpl.out] at hA hcap ⊢
  refine bodyPost_ret (v := .tuple #[.slice aa (ss.map fun s => s.1).length ca, .agg #[.slice (some ⟨B4, o4, none⟩) 24 k4], .int .i64 0]) (by simp [results, Tryd.results17, go_sem, c5]) rfl ⟨aa, ca, B4, o4, k4, rfl, hcap, hA, HY.out _, HX.out _⟩

set_option maxHeartbeats 1000000 in
theorem Uncovered_n {w1 w2 : World} {a : Option Addr} {n : Nat} {ss : List (List Int × List Int)} {a1 : Option Addr} {n1 : Nat} {l : List Int} {v : Bool} (c k : Nat) (w : World) (hl : AA w1 a1 l n1 v) (e1 : Ext w1 w) (h : StripsAt w2 a n ss) (e2 : Ext w2 w) (hno : (v && Globe.stripsOk ss) = false) :
    Calls Tryd.prog 15 #[.agg #[.slice a1 n1 k], .slice a n c] w (UncErr w) := by
  have H := Lib.hid (h.ext e2)
  replace hl := hl.ext e1
  clear h e1 e2
  cases v
  · go_enter Tryd.func15, Tryd.ntmps15
    go_wp2_with fail
    refine (Valid_e k _ hl (by (repeat' (first | (with_reducible assumption) | (with_reducible exact Ext.refl _) | (with_reducible refine Ext.alloc ?_ _) | (with_reducible refine Ext.drew ?_) | (with_reducible refine Ext.drewN ?_ _) | (with_reducible refine Ext.setCell ?_ ?_ _) | (with_reducible refine Ext.trans ?_ (by assumption)) | go_size)))).mono ?_
    rintro e w1 ⟨rfl, hb⟩
    have hc := hb.cellE; have hf := hb.frozenE; have hz := hb.size; have ha := alloc_keeps w1; (try simp only [World.size_alloc] at hc hf hz); (try simp only [World.size_setCell] at hc hf hz); (try simp only [World.size_drew] at hc hf hz)
    go_wp2_with fail
    exact bodyPost_ret (v := .tuple #[.agg #[.slice none 0 0], .agg #[.slice none 0 0], .int .i64 160]) (by simp [results, Tryd.results15, go_sem, hc]) rfl ⟨rfl, by (repeat' (first | (with_reducible assumption) | (with_reducible exact Ext.refl _) | (with_reducible refine Ext.alloc ?_ _) | (with_reducible refine Ext.drew ?_) | (with_reducible refine Ext.drewN ?_ _) | (with_reducible refine Ext.setCell ?_ ?_ _) | (with_reducible refine Ext.trans ?_ (by assumption)) | go_size))⟩
  · have hq : Globe.stripsOk ss = false := by simpa using hno
    have Hq := Lib.hid hq; clear hq hno
    go_enter Tryd.func15, Tryd.ntmps15
    go_wp2_with fail
    refine (Valid_e k _ hl (by (repeat' (first | (with_reducible assumption) | (with_reducible exact Ext.refl _) | (with_reducible refine Ext.alloc ?_ _) | (with_reducible refine Ext.drew ?_) | (with_reducible refine Ext.drewN ?_ _) | (with_reducible refine Ext.setCell ?_ ?_ _) | (with_reducible refine Ext.trans ?_ (by assumption)) | go_size)))).mono ?_
    rintro e w1 ⟨rfl, hb⟩
    have hc := hb.cellE; have hf := hb.frozenE; have hz := hb.size; have ha := alloc_keeps w1; (try simp only [World.size_alloc] at hc hf hz); (try simp only [World.size_setCell] at hc hf hz); (try simp only [World.size_drew] at hc hf hz)
    go_wp2_with fail
    refine (ValidS_r c _ H.out (by (repeat' (first | (with_reducible assumption) | (with_reducible exact Ext.refl _) | (with_reducible refine Ext.alloc ?_ _) | (with_reducible refine Ext.drew ?_) | (with_reducible refine Ext.drewN ?_ _) | (with_reducible refine Ext.setCell ?_ ?_ _) | (with_reducible refine Ext.trans ?_ (by assumption)) | go_size))) Hq.out).mono ?_
    rintro e w2 ⟨rfl, hb⟩
    have hc := hb.cellE; have hf := hb.frozenE; have hz := hb.size; have ha := alloc_keeps w2; (try simp only [World.size_alloc] at hc hf hz); (try simp only [World.size_setCell] at hc hf hz); (try simp only [World.size_drew] at hc hf hz)
    go_wp2_with fail
    exact bodyPost_ret (v := .tuple #[.agg #[.slice none 0 0], .agg #[.slice none 0 0], .int .i64 160]) (by simp [results, Tryd.results15, go_sem, *]) rfl ⟨rfl, by (repeat' (first | (with_reducible assumption) | (with_reducible exact Ext.refl _) | (with_reducible refine Ext.alloc ?_ _) | (with_reducible refine Ext.drew ?_) | (with_reducible refine Ext.drewN ?_ _) | (with_reducible refine Ext.setCell ?_ ?_ _) | (with_reducible refine Ext.trans ?_ (by assumption)) | go_size))⟩
set_option maxHeartbeats 1000000 in
theorem Decompose_n {w1 w2 : World} {a : Option Addr} {n : Nat} {ss : List (List Int × List Int)} {a1 : Option Addr} {n1 : Nat} {l : List Int} {v : Bool} (c k : Nat) (w : World) (hl : AA w1 a1 l n1 v) (e1 : Ext w1 w) (h : StripsAt w2 a n ss) (e2 : Ext w2 w) (hno : (v && Globe.stripsOk ss) = false) :
    Calls Tryd.prog 17 #[.agg #[.slice a1 n1 k], .slice a n c] w (DecErr w) := by
  have H := Lib.hid (h.ext e2)
  replace hl := hl.ext e1
  clear h e1 e2
  cases v
  · go_enter Tryd.func17, Tryd.ntmps17
    go_wp2_with fail
    refine (Valid_e k _ hl (by (repeat' (first | (with_reducible assumption) | (with_reducible exact Ext.refl _) | (with_reducible refine Ext.alloc ?_ _) | (with_reducible refine Ext.drew ?_) | (with_reducible refine Ext.drewN ?_ _) | (with_reducible refine Ext.setCell ?_ ?_ _) | (with_reducible refine Ext.trans ?_ (by assumption)) | go_size)))).mono ?_
    rintro e w1 ⟨rfl, hb⟩
    have hc := hb.cellE; have hf := hb.frozenE; have hz := hb.size; have ha := alloc_keeps w1; (try simp only [World.size_alloc] at hc hf hz); (try simp only [World.size_setCell] at hc hf hz); (try simp only [World.size_drew] at hc hf hz)
    go_wp2_with fail
    exact bodyPost_ret (v := .tuple #[.slice none 0 0, .agg #[.slice none 0 0], .int .i64 160]) (by simp [results, Tryd.results17, go_sem, hc]) rfl ⟨rfl, by (repeat' (first | (with_reducible assumption) | (with_reducible exact Ext.refl _) | (with_reducible refine Ext.alloc ?_ _) | (with_reducible refine Ext.drew ?_) | (with_reducible refine Ext.drewN ?_ _) | (with_reducible refine Ext.setCell ?_ ?_ _) | (with_reducible refine Ext.trans ?_ (by assumption)) | go_size))⟩
  · have hq : Globe.stripsOk ss = false := by simpa using hno
    have Hq := Lib.hid hq; clear hq hno
    go_enter Tryd.func17, Tryd.ntmps17
    go_wp2_with fail
    refine (Valid_e k _ hl (by (repeat' (first | (with_reducible assumption) | (with_reducible exact Ext.refl _) | (with_reducible refine Ext.alloc ?_ _) | (with_reducible refine Ext.drew ?_) | (with_reducible refine Ext.drewN ?_ _) | (with_reducible refine Ext.setCell ?_ ?_ _) | (with_reducible refine Ext.trans ?_ (by assumption)) | go_size)))).mono ?_
    rintro e w1 ⟨rfl, hb⟩
    have hc := hb.cellE; have hf := hb.frozenE; have hz := hb.size; have ha := alloc_keeps w1; (try simp only [World.size_alloc] at hc hf hz); (try simp only [World.size_setCell] at hc hf hz); (try simp only [World.size_drew] at hc hf hz)
    go_wp2_with fail
    refine (ValidS_r c _ H.out (by (repeat' (first | (with_reducible assumption) | (with_reducible exact Ext.refl _) | (with_reducible refine Ext.alloc ?_ _) | (with_reducible refine Ext.drew ?_) | (with_reducible refine Ext.drewN ?_ _) | (with_reducible refine Ext.setCell ?_ ?_ _) | (with_reducible refine Ext.trans ?_ (by assumption)) | go_size))) Hq.out).mono ?_
    rintro e w2 ⟨rfl, hb⟩
    have hc := hb.cellE; have hf := hb.frozenE; have hz := hb.size; have ha := alloc_keeps w2; (try simp only [World.size_alloc] at hc hf hz); (try simp only [World.size_setCell] at hc hf hz); (try simp only [World.size_drew] at hc hf hz)
    go_wp2_with fail
    exact bodyPost_ret (v := .tuple #[.slice none 0 0, .agg #[.slice none 0 0], .int .i64 160]) (by simp [results, Tryd.results17, go_sem, *]) rfl ⟨rfl, by (repeat' (first | (with_reducible assumption) | (with_reducible exact Ext.refl _) | (with_reducible refine Ext.alloc ?_ _) | (with_reducible refine Ext.drew ?_) | (with_reducible refine Ext.drewN ?_ _) | (with_reducible refine Ext.setCell ?_ ?_ _) | (with_reducible refine Ext.trans ?_ (by assumption)) | go_size))⟩

end Go.Proofs.YtglfoglkdbbmmaaDoor
