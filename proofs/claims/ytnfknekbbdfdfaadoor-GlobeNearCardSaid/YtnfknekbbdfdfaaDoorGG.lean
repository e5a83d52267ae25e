/- Contracts of package globe: Grown. -/
import Derived.Test.YtnfknekbbdfdfaaDoorG7
import Derived.Test.YtnfknekbbdfdfaaDoorWA
import Derived.Test.YtnfknekbbdfdfaaDoorWR
import Derived.OwnWalk
import Derived.Deep.CutRange
import Derived.Deep.LoopGhost
namespace Go.Proofs.YtnfknekbbdfdfaaDoor
open Go.RowKit

/-- What a slice of its own, of 24 ints, owns: rows. -/
theorem rows_of_own {w : World} {base : Nat} {v : Value} {L : List Int} (hL : L.length = 24) (h : w.ownsRow base 3 1 v 24 (intVals L)) : ∃ g k, v = .slice (some ⟨g, 0, none⟩) 24 k ∧ base ≤ g ∧ RowsAt w g L := by
  rcases h.2 with ⟨_, h0⟩ | ⟨g, cap, cur, rfl, hb, _, _⟩
  · omega
  · refine ⟨g, cap, rfl, hb, hL, fun i hi => ?_, fun i hi => h.frozenAt i⟩
    rw [h.cellAt i (by omega)]
    simp [intVals, Globe.nth, show i < L.length by omega]

set_option maxHeartbeats 1000000 in
theorem Clone_v {w0 : World} {b o : Nat} (c : Nat) {l : List Int} (w : World) (h : VA w0 b o l) (hE : Ext w0 w) :
    Calls Tryd.prog 59 #[.slice (some ⟨b, o, none⟩) 24 c] w fun e w' => ∃ B k, e = .returned (.slice (some ⟨B, 0, none⟩) 24 k) ∧ w.heap.size ≤ B ∧ RowsAt w' B l ∧ Ext w w' := by
  replace h := h.ext hE
  clear hE
  obtain ⟨i0, hi, hz0, hz1, hz2⟩ := info_parts (P := Tryd.prog) (e := 3) (z := .int .i64 0) (size := 1) (bytes := 8) (by kernel_rfl)
  have hn : ∀ w, (binOp .eql 23 (.slice (some ⟨b, o, none⟩) 24 c) (.slice none 0 0)).run Tryd.prog w = .ok (.bool false) w := fun _ => by kernel_rfl
  have hx : ∀ j u, (intVals l)[j]? = some u → w.cell? ((⟨b, o, none⟩ : Addr).add j) = some u := fun j u hj => by
    have hl : j < l.length := by rw [← List.length_map (f := Value.int .i64)]; exact (List.getElem?_eq_some_iff.1 hj).1
    have e := intVals_at hl
    rw [List.getElem?_toArray, hj] at e
    cases e
    rw [Addr.add_mid]; exact h.1 j (by rw [← h.len]; exact hl)
  have Hx := Lib.hid hx; clear hx
  have hl24 := h.len
  have Hl := Lib.hid hl24; clear hl24
  go_enter Tryd.func59, Tryd.ntmps59
  go_wp2_with (at_builtin; refine wpList_append_own _ rfl _ _ 23 rfl w.heap.size 3 i0 (.int .i64 0) 1 8 Tryd.underlying23 hi hz0 hz1 hz2 rfl (by decide) _ 0 [] rfl (World.ownsRow_made w #[] 0 (Nat.le_refl _) (by unfold maxLen; omega) rfl) ⟨b, o, none⟩ 24 c (intVals l) rfl (by simp [intVals, Hl.out]) (fun j u hj => Ext.cell (by (repeat' (first | (with_reducible assumption) | (with_reducible exact Ext.refl _) | (with_reducible refine Ext.alloc ?_ _) | (with_reducible refine Ext.drew ?_) | (with_reducible refine Ext.drewN ?_ _) | (with_reducible refine Ext.setCell ?_ ?_ _) | (with_reducible refine Ext.trans ?_ (by assumption)) | go_size))) (Hx.out j u hj)) (by simp [intVals, Value.oneCell']) (by unfold maxLen; omega) (by omega) (by simp) ?_; intro v' w3 hown' hg3 hnil3; go_frame)
  have hE : Ext w w3 := ((Below.refl _ w).alloc (Nat.le_refl _) _).grown hg3 (by simp) (fun j e => by simp [Act.eval, Value.ownBlock] at e; omega)
  obtain ⟨g, k, rfl, hg, hr⟩ := rows_of_own Hl.out (by simpa using hown')
  go_ret
  exact ⟨g, k, rfl, hg, hr, hE⟩

/-- The first y rows of M, then those of L. -/
def mixTo (L M : List Int) (y : Nat) : List Int := M.take y ++ L.drop y
theorem mixTo_zero (L M : List Int) : mixTo L M 0 = L := by simp [mixTo]
theorem mixTo_all {L M : List Int} (hl : L.length = 24) (hm : M.length = 24) : mixTo L M 24 = M := by
  unfold mixTo; rw [← hm, List.take_length, hm, ← hl, List.drop_length, List.append_nil]
theorem mixTo_len {L M : List Int} (hl : L.length = 24) (hm : M.length = 24) {y : Nat} (hy : y ≤ 24) : (mixTo L M y).length = 24 := by
  unfold mixTo; rw [List.length_append, List.length_take, List.length_drop]; omega
theorem nth_mixTo {L M : List Int} (_hl : L.length = 24) (hm : M.length = 24) {y j : Nat} (hy : y ≤ 24) : Globe.nth (mixTo L M y) j = if j < y then Globe.nth M j else Globe.nth L j := by
  unfold Globe.nth mixTo
  rw [List.getElem?_append, List.length_take, hm, Nat.min_eq_left hy]
  by_cases e : j < y
  · rw [if_pos e, if_pos e, List.getElem?_take_of_lt e]
  · rw [if_neg e, if_neg e, List.getElem?_drop]; congr 2; omega
theorem mixTo_set {L M : List Int} (hl : L.length = 24) (hm : M.length = 24) {y : Nat} (hy : y < 24) : (mixTo L M y).set y (Globe.nth M y) = mixTo L M (y + 1) := by
  refine Globe.ext_nth (by rw [List.length_set, mixTo_len hl hm (by omega), mixTo_len hl hm (by omega)]) fun j hj => ?_
  rw [Globe.nth_set _ (by rw [mixTo_len hl hm (by omega)]; exact hy), nth_mixTo hl hm (by omega), nth_mixTo hl hm (by omega)]
  by_cases e : y = j
  · subst e; rw [if_pos rfl, if_pos (by omega)]
  · rw [if_neg e]
    by_cases e2 : j < y
    · rw [if_pos e2, if_pos (by omega)]
    · rw [if_neg e2, if_neg (by omega)]
theorem set_same {l : List Int} {y : Nat} (h : y < l.length) : l.set y (Globe.nth l y) = l := by
  refine Globe.ext_nth (by simp) fun j _ => ?_
  rw [Globe.nth_set _ h]; split
  · rename_i e; rw [e]
  · rfl
theorem set_set' (l : List Int) (y : Nat) (a b : Int) : (l.set y a).set y b = l.set y b := by simp

/-- In the midst of Grown: the area's own block G (its box O), the block H of the rows as they were. -/
def Gr (w : World) (O G k : Nat) (R : List Int) (wr : World) : Prop :=
  RowsAt wr G R ∧ wr.cell? ⟨O, 0, none⟩ = some (.slice (some ⟨G, 0, none⟩) 24 k) ∧ BoxAt wr (w.heap.size + 1) 0 (.slice none 0 0) ∧ Ext w wr
theorem Gr.ext {w w1 w2 : World} {O G k : Nat} {R : List Int} (h : Gr w O G k R w1) (hE : Ext w1 w2) : Gr w O G k R w2 :=
  ⟨h.1.ext hE, hE.cell h.2.1, BoxAt.ext hE h.2.2.1, h.2.2.2.trans hE⟩
theorem Gr.drewN {w w1 : World} {O G k : Nat} {R : List Int} (h : Gr w O G k R w1) (n : Nat) : Gr w O G k R (w1.drewN n) := h.ext (Ext.drewN (Ext.refl _) n)
theorem Gr.set {w w1 : World} {O G k : Nat} {R : List Int} (h : Gr w O G k R w1) (hG : w.heap.size + 1 < G) (hO : G < O) {y : Nat} (hy : y < 24) (v : Int) : Gr w O G k (R.set y v) (w1.setCell ⟨G, y, none⟩ (.int .i64 v)) :=
  ⟨h.1.set hy v, by rw [World.cell?_setCell_other _ _ _ _ (fun e => absurd (congrArg Addr.block e) (by show G ≠ O; omega))]; exact h.2.1, h.2.2.1.other (by show G ≠ _; omega) _, h.2.2.2.setCell (p := ⟨G, y, none⟩) (by show _ ≤ G; omega) _⟩

theorem Gr.set2 {w w1 : World} {O G k : Nat} {R : List Int} {y : Nat} {u : Int} (h : Gr w O G k (R.set y u) w1) (hG : w.heap.size + 1 < G) (hO : G < O) (hy : y < 24) (v : Int) : Gr w O G k (R.set y v) (w1.setCell ⟨G, y, none⟩ (.int .i64 v)) := by
  have := h.set hG hO hy v
  rwa [set_set'] at this
theorem or_eq (a b : Nat) (ha : a < 281474976710656) (hb : b < 281474976710656) : bits .or .i64 (a : Int) (b : Int) = ((a ||| b : Nat) : Int) := or_i64 a b (by omega) (by omega)

theorem turned_1 (R : Nat) (w : World) (hR : R < 281474976710656) :
    Calls Tryd.prog 51 #[.int .i64 (R : Int), .int .i64 1] w fun e w' => e = .returned (.int .i64 (Globe.rotN R 1 : Nat)) ∧ ∃ n, w' = w.drewN n := turned_c R 1 w hR (by decide)
theorem turned_47 (R : Nat) (w : World) (hR : R < 281474976710656) :
    Calls Tryd.prog 51 #[.int .i64 (R : Int), .int .i64 47] w fun e w' => e = .returned (.int .i64 (Globe.rotN R 47 : Nat)) ∧ ∃ n, w' = w.drewN n := turned_c R 47 w hR (by decide)

set_option maxHeartbeats 4000000 in
theorem Grown_y (b o c : Nat) (l : List Int) (n : Nat) (w : World) (h : VA w b o l) (hn : n ≤ 24) :
    Calls Tryd.prog 35 #[.agg #[.slice (some ⟨b, o, none⟩) 24 c], .int .i64 (n : Int)] w (RetV w (Globe.growL l n)) := by
  have hi1 : Globe.inB (n : Int) 0 24 = true := Globe.inB_t.2 (by omega)
  have hvl := h.2
  have Hvl := Lib.hid hvl; clear hvl
  go_enter Tryd.func35, Tryd.ntmps35
  go_wp2_with (first | (go_at_call 22; refine (Valid_e _ _ h.aa (by (repeat' (first | (with_reducible assumption) | (with_reducible exact Ext.refl _) | (with_reducible refine Ext.alloc ?_ _) | (with_reducible refine Ext.drew ?_) | (with_reducible refine Ext.drewN ?_ _) | (with_reducible refine Ext.setCell ?_ ?_ _) | (with_reducible refine Ext.trans ?_ (by assumption)) | go_size)))).mono ?_; rintro e w1 ⟨rfl, hb⟩; have hc := hb.cellE; have hf := hb.frozenE; have hz := hb.size; have ha := alloc_keeps w1; (try simp only [World.size_alloc] at hc hf hz); (try simp only [World.size_setCell] at hc hf hz); (try simp only [World.size_drew] at hc hf hz)) | (go_at_call 50; refine (isIn_c _ _ _ _).mono ?_; rintro e w' ⟨rfl, rfl⟩) | (go_at_call 59; refine (Clone_v _ _ h (by (repeat' (first | (with_reducible assumption) | (with_reducible exact Ext.refl _) | (with_reducible refine Ext.alloc ?_ _) | (with_reducible refine Ext.drew ?_) | (with_reducible refine Ext.drewN ?_ _) | (with_reducible refine Ext.setCell ?_ ?_ _) | (with_reducible refine Ext.trans ?_ (by assumption)) | go_size)))).mono ?_; rintro e w2 ⟨G, k, rfl, hG, hr, hb2⟩))
  obtain ⟨O, hO⟩ : ∃ O, O = w2.heap.size := ⟨_, rfl⟩
  have hGO : G < O := by have := hr.lt; omega
  have hwG : w.heap.size + 1 < G := by omega
  clear hi1
  refine wp_name (fun V => Gr w O G k (Globe.growL l 0) V) ⟨?_, ?_, ?_, ?_⟩ ?_
  · exact hr.ext (by (repeat' (first | (with_reducible assumption) | (with_reducible exact Ext.refl _) | (with_reducible refine Ext.alloc ?_ _) | (with_reducible refine Ext.drew ?_) | (with_reducible refine Ext.drewN ?_ _) | (with_reducible refine Ext.setCell ?_ ?_ _) | (with_reducible refine Ext.trans ?_ (by assumption)) | go_size)))
  · rw [hO]; simp [go_sem]
  · (repeat' (first | (with_reducible assumption) | (exact ⟨by simp [go_sem], by simp [go_sem]⟩) | (with_reducible refine BoxAt.ext (Ext.alloc (Ext.refl _) _) ?_) | (with_reducible refine BoxAt.ext (by with_reducible assumption) ?_)))
  · (repeat' (first | (with_reducible assumption) | (with_reducible exact Ext.refl _) | (with_reducible refine Ext.alloc ?_ _) | (with_reducible refine Ext.drew ?_) | (with_reducible refine Ext.drewN ?_ _) | (with_reducible refine Ext.setCell ?_ ?_ _) | (with_reducible refine Ext.trans ?_ (by assumption)) | go_size))
  intro V hF
  rw [← hO]
  clear hO hr hb2 hG
  clear hc hf hz ha hb
  go_loopw [24] (fun p wr => ∃ i : Nat, i ≤ n ∧ p = .int .i64 i ∧ Gr w O G k (Globe.growL l i) wr) (fun p _ => n - (intOf p).toNat)
  case atStart => exact ⟨0, by omega, rfl, hF⟩
  case round =>
    clear hF
    obtain ⟨i, hi, rfl, hF⟩ := hrel
    by_cases hlt : i < n
    · have hvi := Globe.growL_valid Hvl.out i
      have hva := hF.1.va hvi
      have cO := hF.2.1
      have hOl := World.block_lt_of_cell? wr _ cO
      go_wp2_with (go_at_call 59; refine (Clone_v _ _ hva (by (repeat' (first | (with_reducible assumption) | (with_reducible exact Ext.refl _) | (with_reducible refine Ext.alloc ?_ _) | (with_reducible refine Ext.drew ?_) | (with_reducible refine Ext.drewN ?_ _) | (with_reducible refine Ext.setCell ?_ ?_ _) | (with_reducible refine Ext.trans ?_ (by assumption)) | go_size)))).mono ?_; rintro e w2 ⟨H, k2, rfl, hH, hr2, hb2⟩)
      have hF2 := hF.ext hb2
      obtain ⟨wo, rfl⟩ : ∃ wo : World, wo = wr := ⟨_, rfl⟩
      have hOH : O < H := by omega
      have hM : (Globe.grow1 (Globe.growL l i)).length = 24 := Globe.rowsF_len _
      have hL := Globe.len_of_valid hvi
      have hsucc : Globe.growL l (i + 1) = Globe.grow1 (Globe.growL l i) := rfl
      have Hsucc := Lib.hid hsucc; clear hsucc
      clear hF hb2 hva cO hOl
      generalize Globe.growL l i = L at *
      have Hvi := Lib.hid hvi; clear hvi
      have HM := Lib.hid hM; clear hM
      have HL := Lib.hid hL; clear hL
      rw [← mixTo_zero L (Globe.grow1 L)] at hF2
      go_loopg [31] 24 (fun g p wr => ∃ y : Nat, y ≤ 24 ∧ g = 24 - y ∧ p = .int .i64 y ∧ Gr w O G k (mixTo L (Globe.grow1 L) y) wr ∧ RowsAt wr H L)
      case atStart => exact ⟨0, by omega, rfl, rfl, hF2, hr2⟩
      case round =>
        clear hF2 hr2
        obtain ⟨y, hy, rfl, rfl, hF2, hr2⟩ := hrel
        by_cases hly : y < 24
        · have y0 : (0 : Int) ≤ (y : Int) := by omega
          have y1 : (y : Int) < 24 := by omega
          obtain ⟨z0, hz0⟩ : ∃ z0, z0 = y - 1 := ⟨_, rfl⟩
          obtain ⟨z1, hz1⟩ : ∃ z1, z1 = min (y + 1) 23 := ⟨_, rfl⟩
          have hset : (mixTo L (Globe.grow1 L) y).set y ((Globe.rowN L y ||| Globe.orN L z0 0 : Nat) : Int) = mixTo L (Globe.grow1 L) y := by
            have e : ((Globe.rowN L y ||| Globe.orN L z0 0 : Nat) : Int) = Globe.nth (mixTo L (Globe.grow1 L) y) y := by
              rw [nth_mixTo HL.out HM.out (by omega), if_neg (by omega), Globe.rowN_cast Hvi.out, Globe.orN, Nat.or_zero]
            rw [e, set_same (by rw [mixTo_len HL.out HM.out (by omega)]; exact hly)]
          have hend : (mixTo L (Globe.grow1 L) y).set y ((Globe.rowN L y ||| Globe.orN L z0 (z1 + 1 - z0) : Nat) : Int) = mixTo L (Globe.grow1 L) (y + 1) := by
            rw [← mixTo_set HL.out HM.out hly]
            congr 1
            unfold Globe.grow1
            rw [Globe.nth_rowsF _ hly, hz0, hz1]
          rw [← hset] at hF2
          have Hend := Lib.hid hend; clear hend hset
          have hz0' : max 0 ((y : Int) - 1) = (z0 : Int) := by omega
          have Hz0 := Lib.hid hz0'; clear hz0'
          have hz01 : z0 ≤ z1 + 1 := by omega
          have hz1a : z1 ≤ y + 1 := by omega
          have hz1b : z1 ≤ 23 := by omega
          have Hz1 : Hid (z1 = y + 1 ∨ z1 = 23) := by show _ ∨ _; omega
          clear hz0 hz1
          go_upto_region 10 with fail
          go_cut [9] from 34 to 36 (fun s w' => s = .int .i64 (z0 : Int) ∧ w' = wr)
          case first =>
            go_wp2_with fail
            all_goals go_meet
            all_goals exact ⟨by rw [← Hz0.out]; first | rfl | exact congrArg _ (by omega), rfl⟩
          case rest =>
          obtain ⟨rfl, rfl⟩ := hcut
          go_wp2_with fail
          obtain ⟨wo2, rfl⟩ : ∃ wo2 : World, wo2 = wc := ⟨_, rfl⟩
          go_loopg [9] (z1 + 1 - z0) (fun g p wr => ∃ z : Nat, z0 ≤ z ∧ z ≤ z1 + 1 ∧ g = z1 + 1 - z ∧ p = .int .i64 z ∧ Gr w O G k ((mixTo L (Globe.grow1 L) y).set y ((Globe.rowN L y ||| Globe.orN L z0 (z - z0) : Nat) : Int)) wr ∧ RowsAt wr H L)
          case atStart => exact ⟨z0, by omega, by omega, rfl, rfl, by rw [Nat.sub_self]; exact hF2, hr2⟩
          case round =>
              clear hF2 hr2
              obtain ⟨z, hza, hzb, rfl, rfl, hF2, hr2⟩ := hrel
              by_cases hzz : z ≤ z1
              · have q0 : (0 : Int) ≤ (z : Int) := by omega
                have q1 : (z : Int) < 24 := by omega
                have cO := hF2.2.1
                have hR := Globe.rowN_lt Hvi.out z
                have d1 : wr.cell? ⟨H, z, none⟩ = some (.int .i64 (Globe.rowN L z : Nat)) := by rw [← Globe.rowN_cast Hvi.out]; exact hr2.cell (by omega)
                obtain ⟨X, hX⟩ : ∃ X, X = (Globe.rowN L y ||| Globe.orN L z0 (z - z0)) := ⟨_, rfl⟩
                rw [← hX] at hF2
                have hXl : X < 281474976710656 := by rw [hX]; exact Nat.or_lt_two_pow (n := 48) (Globe.rowN_lt Hvi.out y) (Globe.orN_lt Hvi.out _ _)
                have d2 : wr.cell? ⟨G, y, none⟩ = some (.int .i64 (X : Int)) := by
                  have := hF2.1.cell hly
                  rwa [Globe.nth_set _ (by rw [mixTo_len HL.out HM.out (by omega)]; exact hly), if_pos rfl] at this
                have d3 := hF2.1.free hly
                have Hsv : Hid ((X ||| Globe.wideN (Globe.rowN L z)) = (Globe.rowN L y ||| Globe.orN L z0 (z + 1 - z0))) := by
                  show _ = _
                  rw [hX, show z + 1 - z0 = (z - z0) + 1 by omega, Globe.orN, show z0 + (z - z0) = z by omega, Nat.or_assoc]
                clear hX
                have e1 : bits .or .i64 ((Globe.rowN L z : Nat) : Int) ((Globe.rotN (Globe.rowN L z) 1 : Nat) : Int) = ((Globe.rowN L z ||| Globe.rotN (Globe.rowN L z) 1 : Nat) : Int) := or_eq _ _ hR (Globe.rotN_lt _ _)
                have e2 : bits .or .i64 ((Globe.rowN L z ||| Globe.rotN (Globe.rowN L z) 1 : Nat) : Int) ((Globe.rotN (Globe.rowN L z) 47 : Nat) : Int) = ((Globe.wideN (Globe.rowN L z) : Nat) : Int) := or_eq _ _ (Nat.or_lt_two_pow (n := 48) hR (Globe.rotN_lt _ _)) (Globe.rotN_lt _ _)
                have e3 : bits .or .i64 (X : Int) ((Globe.wideN (Globe.rowN L z) : Nat) : Int) = ((X ||| Globe.wideN (Globe.rowN L z) : Nat) : Int) := or_eq _ _ hXl (Globe.wideN_lt hR)
                generalize hwz : Globe.wideN (Globe.rowN L z) = Wz at *
                generalize hr1 : Globe.rotN (Globe.rowN L z) 1 = R1 at *
                generalize hr47 : Globe.rotN (Globe.rowN L z) 47 = R47 at *
                generalize hRz : Globe.rowN L z = Rz at *
                generalize hRo : Rz ||| R1 = Ro at *
                generalize hXW : X ||| Wz = XW at *
                have Hr1 := Lib.hid hr1; clear hr1
                have Hr47 := Lib.hid hr47; clear hr47
                clear hwz hRz hRo hXW
                go_upto_region 11 with fail
                go_cut [41] from 37 to 41 (fun s w' => s = .bool true ∧ w' = wr)
                case first =>
                  go_wp2_with fail
                  all_goals go_meet
                  all_goals exact ⟨by first | rfl | (rcases Hz1.out with h | h <;> exact congrArg _ (by simp; omega)), rfl⟩
                case rest =>
                obtain ⟨rfl, rfl⟩ := hcut
                go_wp2_with fail
                -- <<grown
                refine wp_region_held_drew (S := fun w' => w'.cell? ⟨O, 0, none⟩ = some (.slice (some ⟨G, 0, none⟩) 24 k) ∧ w'.cell? ⟨H, z, none⟩ = some (.int .i64 (Rz : Int))) (by kernel_rfl) ⟨cO, d1⟩ (fun hHeld => ?_)
                (refine rg_take 0 (v := ?_) rfl (by kernel_rfl) (by kernel_rfl) (by kernel_rfl) (fun _ _ _ h => h) (by kernel_rfl) ?_ (by with_reducible assumption) ?_; rotate_left; (focus (intro w hSw; (try dsimp only at hSw); go_simp; (try with_reducible rfl))); (try simp only [Act.put, List.setIfInBounds_toArray, List.set_cons_zero, List.set_cons_succ]))
                (refine rg_take 1 (v := ?_) rfl (by kernel_rfl) (by kernel_rfl) (by kernel_rfl) (fun _ _ _ h => h) (by kernel_rfl) ?_ (by with_reducible assumption) ?_; rotate_left; (focus (intro w hSw; (try dsimp only at hSw); go_simp; (try with_reducible rfl))); (try simp only [Act.put, List.setIfInBounds_toArray, List.set_cons_zero, List.set_cons_succ]))
                (refine rg_take 2 (v := ?_) rfl (by kernel_rfl) (by kernel_rfl) (by kernel_rfl) (fun _ _ _ h => h) (by kernel_rfl) ?_ (by with_reducible assumption) ?_; rotate_left; (focus (intro w hSw; (try dsimp only at hSw); go_simp; (try with_reducible rfl))); (try simp only [Act.put, List.setIfInBounds_toArray, List.set_cons_zero, List.set_cons_succ]))
                (refine rg_take 3 (v := ?_) rfl (by kernel_rfl) (by kernel_rfl) (by kernel_rfl) (fun _ _ _ h => h) (by kernel_rfl) ?_ (by with_reducible assumption) ?_; rotate_left; (focus (intro w hSw; (try dsimp only at hSw); go_simp; (try with_reducible rfl))); (try simp only [Act.put, List.setIfInBounds_toArray, List.set_cons_zero, List.set_cons_succ]))
                (refine rg_take 5 (v := ?_) rfl (by kernel_rfl) (by kernel_rfl) (by kernel_rfl) (fun _ _ _ h => h) (by kernel_rfl) ?_ (by with_reducible assumption) ?_; rotate_left; (focus (intro w hSw; (try dsimp only at hSw); go_simp; (try with_reducible rfl))); (try simp only [Act.put, List.setIfInBounds_toArray, List.set_cons_zero, List.set_cons_succ]))
                (refine rg_take 6 (v := ?_) rfl (by kernel_rfl) (by kernel_rfl) (by kernel_rfl) (fun _ _ _ h => h) (by kernel_rfl) ?_ (by with_reducible assumption) ?_; rotate_left; (focus (intro w hSw; (try dsimp only at hSw); go_simp; (try with_reducible rfl))); (try simp only [Act.put, List.setIfInBounds_toArray, List.set_cons_zero, List.set_cons_succ]))
                (refine rg_take 7 (v := ?_) rfl (by kernel_rfl) (by kernel_rfl) (by kernel_rfl) (fun _ _ _ h => h) (by kernel_rfl) ?_ (by with_reducible assumption) ?_; rotate_left; (focus (intro w hSw; (try dsimp only at hSw); go_simp; (try with_reducible rfl))); (try simp only [Act.put, List.setIfInBounds_toArray, List.set_cons_zero, List.set_cons_succ]))
                (refine rg_take 8 (v := ?_) rfl (by kernel_rfl) (by kernel_rfl) (by kernel_rfl) (fun _ _ _ h => h) (by kernel_rfl) ?_ (by with_reducible assumption) ?_; rotate_left; (focus (intro w hSw; (try dsimp only at hSw); go_simp; (try with_reducible rfl))); (try simp only [Act.put, List.setIfInBounds_toArray, List.set_cons_zero, List.set_cons_succ]))
                (refine rg_take 9 (v := ?_) rfl (by kernel_rfl) (by kernel_rfl) (by kernel_rfl) (fun _ _ _ h => h) (by kernel_rfl) ?_ (by with_reducible assumption) ?_; rotate_left; (focus (intro w hSw; (try dsimp only at hSw); go_simp; (try with_reducible rfl))); (try simp only [Act.put, List.setIfInBounds_toArray, List.set_cons_zero, List.set_cons_succ]))
                (refine rg_take 10 (v := ?_) rfl (by kernel_rfl) (by kernel_rfl) (by kernel_rfl) (fun _ _ _ h => h) (by kernel_rfl) ?_ (by with_reducible assumption) ?_; rotate_left; (focus (intro w hSw; (try dsimp only at hSw); go_simp; (try with_reducible rfl))); (try simp only [Act.put, List.setIfInBounds_toArray, List.set_cons_zero, List.set_cons_succ]))
                (refine rg_take 11 (v := ?_) rfl (by kernel_rfl) (by kernel_rfl) (by kernel_rfl) (fun _ _ _ h => h) (by kernel_rfl) ?_ (by with_reducible assumption) ?_; rotate_left; (focus (intro w hSw; (try dsimp only at hSw); go_simp; (try with_reducible rfl))); (try simp only [Act.put, List.setIfInBounds_toArray, List.set_cons_zero, List.set_cons_succ]))
                (refine rg_take 12 (v := ?_) rfl (by kernel_rfl) (by kernel_rfl) (by kernel_rfl) (fun _ _ _ h => h) (by kernel_rfl) ?_ (by with_reducible assumption) ?_; rotate_left; (focus (intro w hSw; (try dsimp only at hSw); go_simp; (try with_reducible rfl))); (try simp only [Act.put, List.setIfInBounds_toArray, List.set_cons_zero, List.set_cons_succ]))
                (refine rg_take 15 (v := ?_) rfl (by kernel_rfl) (by kernel_rfl) (by kernel_rfl) (fun _ _ _ h => h) (by kernel_rfl) ?_ (by with_reducible assumption) ?_; rotate_left; (focus (intro w hSw; (try dsimp only at hSw); go_simp; (try with_reducible rfl))); (try simp only [Act.put, List.setIfInBounds_toArray, List.set_cons_zero, List.set_cons_succ]))
                (refine rg_take 16 (v := ?_) rfl (by kernel_rfl) (by kernel_rfl) (by kernel_rfl) (fun _ _ _ h => h) (by kernel_rfl) ?_ (by with_reducible assumption) ?_; rotate_left; (focus (intro w hSw; (try dsimp only at hSw); go_simp; (try with_reducible rfl))); (try simp only [Act.put, List.setIfInBounds_toArray, List.set_cons_zero, List.set_cons_succ]))
                (refine rg_take 17 (v := ?_) rfl (by kernel_rfl) (by kernel_rfl) (by kernel_rfl) (fun _ _ _ h => h) (by kernel_rfl) ?_ (by with_reducible assumption) ?_; rotate_left; (focus (intro w hSw; (try dsimp only at hSw); go_simp; (try with_reducible rfl))); (try simp only [Act.put, List.setIfInBounds_toArray, List.set_cons_zero, List.set_cons_succ]))
                (refine rg_take 18 (v := ?_) rfl (by kernel_rfl) (by kernel_rfl) (by kernel_rfl) (fun _ _ _ h => h) (by kernel_rfl) ?_ (by with_reducible assumption) ?_; rotate_left; (focus (intro w hSw; (try dsimp only at hSw); go_simp; (try with_reducible rfl))); (try simp only [Act.put, List.setIfInBounds_toArray, List.set_cons_zero, List.set_cons_succ]))
                refine rg_two 4 13 rfl rfl (by kernel_rfl) (by kernel_rfl) (by kernel_rfl) (fun K hK => ?_) (fun K hK => ?_)
                · (go_simp; skip; refine hK.out _ _ (hHeld) (fun hHeld => ?_); clear hK K; (try simp only [Act.put, List.setIfInBounds_toArray, List.set_cons_zero, List.set_cons_succ]))
                  refine rg_step 13 rfl (by kernel_rfl) (by kernel_rfl) (fun K hK => ?_)
                  (go_simp; (go_at_call 51; refine (turned_1 Rz _ hR).mono ?_; rintro e w' ⟨rfl, n, rfl⟩; rw [Hr1.out]); refine hK.out _ _ (hHeld) (fun hHeld => ?_); clear hK K; (try simp only [Act.put, List.setIfInBounds_toArray, List.set_cons_zero, List.set_cons_succ]))
                  (refine rg_take 14 (v := ?_) rfl (by kernel_rfl) (by kernel_rfl) (by kernel_rfl) (fun _ _ _ h => h) (by kernel_rfl) ?_ (by with_reducible assumption) ?_; rotate_left; (focus (intro w hSw; (try dsimp only at hSw); go_simp; (try with_reducible rfl))); (try simp only [Act.put, List.setIfInBounds_toArray, List.set_cons_zero, List.set_cons_succ]))
                  refine rg_step 19 rfl (by kernel_rfl) (by kernel_rfl) (fun K hK => ?_)
                  (go_simp; (go_at_call 51; refine (turned_47 Rz _ hR).mono ?_; rintro e w' ⟨rfl, n, rfl⟩; rw [Hr47.out]); refine hK.out _ _ (hHeld) (fun hHeld => ?_); clear hK K; (try simp only [Act.put, List.setIfInBounds_toArray, List.set_cons_zero, List.set_cons_succ]))
                  (refine rg_take 20 (v := ?_) rfl (by kernel_rfl) (by kernel_rfl) (by kernel_rfl) (fun _ _ _ h => h) (by kernel_rfl) ?_ (by with_reducible assumption) ?_; rotate_left; (focus (intro w hSw; (try dsimp only at hSw); go_simp; (try with_reducible rfl))); (try simp only [Act.put, List.setIfInBounds_toArray, List.set_cons_zero, List.set_cons_succ]))
                  (refine rg_take 21 (v := ?_) rfl (by kernel_rfl) (by kernel_rfl) (by kernel_rfl) (fun _ _ _ h => h) (by kernel_rfl) ?_ (by with_reducible assumption) ?_; rotate_left; (focus (intro w hSw; (try dsimp only at hSw); go_simp; (try with_reducible rfl))); (try simp only [Act.put, List.setIfInBounds_toArray, List.set_cons_zero, List.set_cons_succ]))
                  (refine rg_take 22 (v := ?_) rfl (by kernel_rfl) (by kernel_rfl) (by kernel_rfl) (fun _ _ _ h => h) (by kernel_rfl) ?_ (by with_reducible assumption) ?_; rotate_left; (focus (intro w hSw; (try dsimp only at hSw); go_simp; (try with_reducible rfl))); (try simp only [Act.put, List.setIfInBounds_toArray, List.set_cons_zero, List.set_cons_succ]))
                  refine rg_step 23 rfl (by kernel_rfl) (by kernel_rfl) (fun K hK => ?_)
                  (go_simp; skip; refine hK.out _ _ (⟨by simp [go_sem, cO], by simp [go_sem, d1]⟩) (fun hHeld => ?_); clear hK K; (try simp only [Act.put, List.setIfInBounds_toArray, List.set_cons_zero, List.set_cons_succ]))
                  refine wpAnyH_done (by kernel_rfl) ?_ _
                  go_wp2_with fail
                  go_roundg (z1 + 1 - (z + 1))
                  case rel =>
                    refine ⟨z + 1, by omega, by omega, rfl, by go_num, ?_, (hr2.drewN _).other (p := ⟨G, y, none⟩) (by show G ≠ H; omega) _⟩
                    rw [← Hsv.out]
                    exact (hF2.drewN _).set2 hwG hGO hly _
                  case measure => omega
                · (go_simp; (go_at_call 51; refine (turned_1 Rz _ hR).mono ?_; rintro e w' ⟨rfl, n, rfl⟩; rw [Hr1.out]); refine hK.out _ _ (hHeld) (fun hHeld => ?_); clear hK K; (try simp only [Act.put, List.setIfInBounds_toArray, List.set_cons_zero, List.set_cons_succ]))
                  (refine rg_take 14 (v := ?_) rfl (by kernel_rfl) (by kernel_rfl) (by kernel_rfl) (fun _ _ _ h => h) (by kernel_rfl) ?_ (by with_reducible assumption) ?_; rotate_left; (focus (intro w hSw; (try dsimp only at hSw); go_simp; (try with_reducible rfl))); (try simp only [Act.put, List.setIfInBounds_toArray, List.set_cons_zero, List.set_cons_succ]))
                  refine rg_two 4 19 rfl rfl (by kernel_rfl) (by kernel_rfl) (by kernel_rfl) (fun K hK => ?_) (fun K hK => ?_)
                  · (go_simp; skip; refine hK.out _ _ (hHeld) (fun hHeld => ?_); clear hK K; (try simp only [Act.put, List.setIfInBounds_toArray, List.set_cons_zero, List.set_cons_succ]))
                    refine rg_step 19 rfl (by kernel_rfl) (by kernel_rfl) (fun K hK => ?_)
                    (go_simp; (go_at_call 51; refine (turned_47 Rz _ hR).mono ?_; rintro e w' ⟨rfl, n, rfl⟩; rw [Hr47.out]); refine hK.out _ _ (hHeld) (fun hHeld => ?_); clear hK K; (try simp only [Act.put, List.setIfInBounds_toArray, List.set_cons_zero, List.set_cons_succ]))
                    (refine rg_take 20 (v := ?_) rfl (by kernel_rfl) (by kernel_rfl) (by kernel_rfl) (fun _ _ _ h => h) (by kernel_rfl) ?_ (by with_reducible assumption) ?_; rotate_left; (focus (intro w hSw; (try dsimp only at hSw); go_simp; (try with_reducible rfl))); (try simp only [Act.put, List.setIfInBounds_toArray, List.set_cons_zero, List.set_cons_succ]))
                    (refine rg_take 21 (v := ?_) rfl (by kernel_rfl) (by kernel_rfl) (by kernel_rfl) (fun _ _ _ h => h) (by kernel_rfl) ?_ (by with_reducible assumption) ?_; rotate_left; (focus (intro w hSw; (try dsimp only at hSw); go_simp; (try with_reducible rfl))); (try simp only [Act.put, List.setIfInBounds_toArray, List.set_cons_zero, List.set_cons_succ]))
                    (refine rg_take 22 (v := ?_) rfl (by kernel_rfl) (by kernel_rfl) (by kernel_rfl) (fun _ _ _ h => h) (by kernel_rfl) ?_ (by with_reducible assumption) ?_; rotate_left; (focus (intro w hSw; (try dsimp only at hSw); go_simp; (try with_reducible rfl))); (try simp only [Act.put, List.setIfInBounds_toArray, List.set_cons_zero, List.set_cons_succ]))
                    refine rg_step 23 rfl (by kernel_rfl) (by kernel_rfl) (fun K hK => ?_)
                    (go_simp; skip; refine hK.out _ _ (⟨by simp [go_sem, cO], by simp [go_sem, d1]⟩) (fun hHeld => ?_); clear hK K; (try simp only [Act.put, List.setIfInBounds_toArray, List.set_cons_zero, List.set_cons_succ]))
                    refine wpAnyH_done (by kernel_rfl) ?_ _
                    go_wp2_with fail
                    go_roundg (z1 + 1 - (z + 1))
                    case rel =>
                      refine ⟨z + 1, by omega, by omega, rfl, by go_num, ?_, (hr2.drewN _).other (p := ⟨G, y, none⟩) (by show G ≠ H; omega) _⟩
                      rw [← Hsv.out]
                      exact (hF2.drewN _).set2 hwG hGO hly _
                    case measure => omega
                  · (go_simp; (go_at_call 51; refine (turned_47 Rz _ hR).mono ?_; rintro e w' ⟨rfl, n, rfl⟩; rw [Hr47.out]); refine hK.out _ _ (hHeld) (fun hHeld => ?_); clear hK K; (try simp only [Act.put, List.setIfInBounds_toArray, List.set_cons_zero, List.set_cons_succ]))
                    (refine rg_take 20 (v := ?_) rfl (by kernel_rfl) (by kernel_rfl) (by kernel_rfl) (fun _ _ _ h => h) (by kernel_rfl) ?_ (by with_reducible assumption) ?_; rotate_left; (focus (intro w hSw; (try dsimp only at hSw); go_simp; (try with_reducible rfl))); (try simp only [Act.put, List.setIfInBounds_toArray, List.set_cons_zero, List.set_cons_succ]))
                    refine rg_step 4 rfl (by kernel_rfl) (by kernel_rfl) (fun K hK => ?_)
                    (go_simp; skip; refine hK.out _ _ (hHeld) (fun hHeld => ?_); clear hK K; (try simp only [Act.put, List.setIfInBounds_toArray, List.set_cons_zero, List.set_cons_succ]))
                    (refine rg_take 21 (v := ?_) rfl (by kernel_rfl) (by kernel_rfl) (by kernel_rfl) (fun _ _ _ h => h) (by kernel_rfl) ?_ (by with_reducible assumption) ?_; rotate_left; (focus (intro w hSw; (try dsimp only at hSw); go_simp; (try with_reducible rfl))); (try simp only [Act.put, List.setIfInBounds_toArray, List.set_cons_zero, List.set_cons_succ]))
                    (refine rg_take 22 (v := ?_) rfl (by kernel_rfl) (by kernel_rfl) (by kernel_rfl) (fun _ _ _ h => h) (by kernel_rfl) ?_ (by with_reducible assumption) ?_; rotate_left; (focus (intro w hSw; (try dsimp only at hSw); go_simp; (try with_reducible rfl))); (try simp only [Act.put, List.setIfInBounds_toArray, List.set_cons_zero, List.set_cons_succ]))
                    refine rg_step 23 rfl (by kernel_rfl) (by kernel_rfl) (fun K hK => ?_)
                    (go_simp; skip; refine hK.out _ _ (⟨by simp [go_sem, cO], by simp [go_sem, d1]⟩) (fun hHeld => ?_); clear hK K; (try simp only [Act.put, List.setIfInBounds_toArray, List.set_cons_zero, List.set_cons_succ]))
                    refine wpAnyH_done (by kernel_rfl) ?_ _
                    go_wp2_with fail
                    go_roundg (z1 + 1 - (z + 1))
                    case rel =>
                      refine ⟨z + 1, by omega, by omega, rfl, by go_num, ?_, (hr2.drewN _).other (p := ⟨G, y, none⟩) (by show G ≠ H; omega) _⟩
                      rw [← Hsv.out]
                      exact (hF2.drewN _).set2 hwG hGO hly _
                    case measure => omega
                -- >>
              · have hze : z = z1 + 1 := by omega
                have hza' : z1 + 1 ≤ z := by omega
                rw [hze, Hend.out] at hF2
                clear hze
                go_upto_region 11 with fail
                go_cut [41] from 37 to 41 (fun s w' => s = .bool false ∧ w' = wr)
                case first =>
                  go_wp2_with fail
                  all_goals go_meet
                  all_goals exact ⟨by first | rfl | (rcases Hz1.out with h | h <;> exact congrArg _ (by simp; omega)), rfl⟩
                case rest =>
                obtain ⟨rfl, rfl⟩ := hcut
                go_wp2_with fail
                go_roundg (24 - (y + 1))
                case rel => exact ⟨y + 1, by omega, rfl, by go_num, hF2, hr2⟩
                case measure => omega
        · obtain rfl : y = 24 := by omega
          rw [mixTo_all HL.out HM.out] at hF2
          go_wp2_with fail
          go_roundw
          case rel => exact ⟨i + 1, by omega, by go_num, by rw [Hsucc.out]; exact hF2⟩
          case measure => simp [intOf]; omega
    · obtain rfl : i = n := by omega
      obtain ⟨hr, cO, ⟨c6, f6⟩, hE⟩ := hF
      go_wp2_with fail
      have hr3 := hr.other (p := ⟨w.heap.size + 1, 0, none⟩) (by show w.heap.size + 1 ≠ G; omega) (.slice (some ⟨G, 0, none⟩) 24 k)
      refine bodyPost_ret (v := .tuple #[.agg #[.slice (some ⟨G, 0, none⟩) 24 k], .int .i64 0]) (by simp [results, Tryd.results35, go_sem, c6]) rfl ⟨G, k, rfl, by omega, hr3, hr3.va (Globe.growL_valid Hvl.out _), by (repeat' (first | (with_reducible assumption) | (with_reducible exact Ext.refl _) | (with_reducible refine Ext.alloc ?_ _) | (with_reducible refine Ext.drew ?_) | (with_reducible refine Ext.drewN ?_ _) | (with_reducible refine Ext.setCell ?_ ?_ _) | (with_reducible refine Ext.trans ?_ (by assumption)) | go_size))⟩
theorem Grown_v {w0 : World} {b o : Nat} (c : Nat) {l : List Int} (n : Int) (w : World) (h : VA w0 b o l) (hE : Ext w0 w) (hn : Globe.inB n 0 24 = true) :
    Calls Tryd.prog 35 #[.agg #[.slice (some ⟨b, o, none⟩) 24 c], .int .i64 n] w (RetV w (Globe.growL l n.toNat)) := by
  obtain ⟨h0, h1⟩ := Globe.inB_t.1 hn
  have := Grown_y b o c l n.toNat w (h.ext hE) (by omega)
  rwa [Int.toNat_of_nonneg h0] at this
set_option maxHeartbeats 1000000 in
theorem Grown_n (a : Option Addr) (l : List Int) (n c : Nat) (v : Bool) (k : Int) (w : World) (h : AA w a l n v) (hv : (v && Globe.inB k 0 24) = false) :
    Calls Tryd.prog 35 #[.agg #[.slice a n c], .int .i64 k] w (RetErr w 50) := by
  cases v
  · clear hv
    go_enter Tryd.func35, Tryd.ntmps35
    go_wp2_with (first | (go_at_call 22; refine (Valid_e _ _ h (by (repeat' (first | (with_reducible assumption) | (with_reducible exact Ext.refl _) | (with_reducible refine Ext.alloc ?_ _) | (with_reducible refine Ext.drew ?_) | (with_reducible refine Ext.drewN ?_ _) | (with_reducible refine Ext.setCell ?_ ?_ _) | (with_reducible refine Ext.trans ?_ (by assumption)) | go_size)))).mono ?_; rintro e w1 ⟨rfl, hb⟩; have hc := hb.cellE; have hf := hb.frozenE; have hz := hb.size; have ha := alloc_keeps w1; (try simp only [World.size_alloc] at hc hf hz); (try simp only [World.size_setCell] at hc hf hz); (try simp only [World.size_drew] at hc hf hz)) | (go_at_call 50; refine (isIn_c _ _ _ _).mono ?_; rintro e w' ⟨rfl, rfl⟩))
    ((try simp only [Exit.inBlock, Exit.then]); refine bodyPost_ret (v := .tuple #[.agg #[.slice none 0 0], .int .i64 50]) (by simp [results, Tryd.results35, go_sem, *]) rfl ?_)
    exact ⟨rfl, by (repeat' (first | (with_reducible assumption) | (with_reducible exact Ext.refl _) | (with_reducible refine Ext.alloc ?_ _) | (with_reducible refine Ext.drew ?_) | (with_reducible refine Ext.drewN ?_ _) | (with_reducible refine Ext.setCell ?_ ?_ _) | (with_reducible refine Ext.trans ?_ (by assumption)) | go_size))⟩
  · have hq : Globe.inB k 0 24 = false := by simpa using hv
    clear hv
    go_enter Tryd.func35, Tryd.ntmps35
    go_wp2_with (first | (go_at_call 22; refine (Valid_e _ _ h (by (repeat' (first | (with_reducible assumption) | (with_reducible exact Ext.refl _) | (with_reducible refine Ext.alloc ?_ _) | (with_reducible refine Ext.drew ?_) | (with_reducible refine Ext.drewN ?_ _) | (with_reducible refine Ext.setCell ?_ ?_ _) | (with_reducible refine Ext.trans ?_ (by assumption)) | go_size)))).mono ?_; rintro e w1 ⟨rfl, hb⟩; have hc := hb.cellE; have hf := hb.frozenE; have hz := hb.size; have ha := alloc_keeps w1; (try simp only [World.size_alloc] at hc hf hz); (try simp only [World.size_setCell] at hc hf hz); (try simp only [World.size_drew] at hc hf hz)) | (go_at_call 50; refine (isIn_c _ _ _ _).mono ?_; rintro e w' ⟨rfl, rfl⟩))
    ((try simp only [Exit.inBlock, Exit.then]); refine bodyPost_ret (v := .tuple #[.agg #[.slice none 0 0], .int .i64 50]) (by simp [results, Tryd.results35, go_sem, *]) rfl ?_)
    exact ⟨rfl, by (repeat' (first | (with_reducible assumption) | (with_reducible exact Ext.refl _) | (with_reducible refine Ext.alloc ?_ _) | (with_reducible refine Ext.drew ?_) | (with_reducible refine Ext.drewN ?_ _) | (with_reducible refine Ext.setCell ?_ ?_ _) | (with_reducible refine Ext.trans ?_ (by assumption)) | go_size))⟩
theorem Grown_c {w0 : World} {a : Option Addr} {l : List Int} {n : Nat} (c : Nat) {v : Bool} (k : Int) (w : World) (h : AA w0 a l n v) (hE : Ext w0 w) :
    Calls Tryd.prog 35 #[.agg #[.slice a n c], .int .i64 k] w (RetAny w (v && Globe.inB k 0 24) (Globe.growL l k.toNat) 50) := by
  replace h := h.ext hE
  cases hq : (v && Globe.inB k 0 24)
  · exact (Grown_n a l n c v k w h hq).mono fun _ _ h => RetAny.no h
  · obtain ⟨rfl, hk⟩ := Bool.and_eq_true_iff.1 hq
    obtain ⟨b1, o1, rfl, rfl, r1⟩ := h.va
    exact (Grown_v c k w r1 (Ext.refl _) hk).mono fun _ _ h => h.any

end Go.Proofs.YtnfknekbbdfdfaaDoor
