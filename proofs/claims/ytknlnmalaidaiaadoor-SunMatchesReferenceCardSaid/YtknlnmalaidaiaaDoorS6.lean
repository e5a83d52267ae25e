/- Contracts: the reference's Next; day; across. -/
import Derived.Test.YtknlnmalaidaiaaDoorS3
import Derived.Test.YtknlnmalaidaiaaDoorP6
namespace Go.Proofs.YtknlnmalaidaiaaDoor
open Go.RowKit

theorem rNext_no (x y t : Int) (lit : Bool) (w : World) (h : (Sun.minB t && Globe.vcB x y) = false) :
    Calls Tryd.prog 21 #[.agg #[.int .i64 x, .int .i64 y], .int .i64 t, .bool lit] w fun e w' => e = .returned (.tuple #[.int .i64 0, .int .i64 60]) ∧ Ext w w' := by
  rcases Bool.and_eq_false_iff.1 h with h1 | h1
  all_goals
    clear h
    go_enter Tryd.func21, Tryd.ntmps21
    go_wp2_with (first | (go_at_call 35; refine (rminute_c _ _).mono ?_; rintro e w' ⟨rfl, rfl⟩) | (go_at_call 40; refine (rValidCell_c _ _ _).mono ?_; rintro e w1 ⟨rfl, hb⟩; have hc := hb.cellE; have hf := hb.frozenE; have hz := hb.size; have ha := alloc_keeps w1; (try simp only [World.size_alloc] at hc hf hz); (try simp only [World.size_setCell] at hc hf hz); (try simp only [World.size_drew] at hc hf hz)))
    all_goals
      go_ret2
      exact ⟨rfl, by (repeat' (first | (with_reducible assumption) | (with_reducible exact Ext.refl _) | (with_reducible refine Ext.alloc ?_ _) | (with_reducible refine Ext.drew ?_) | (with_reducible refine Ext.drewN ?_ _) | (with_reducible refine Ext.setCell ?_ ?_ _) | (with_reducible refine Ext.trans ?_ (by assumption)) | go_size))⟩

theorem rNext_yes (x y t : Int) (lit : Bool) (w : World) (h : Sun.minB t = true) (hv : Globe.vcB x y = true) :
    Calls Tryd.prog 21 #[.agg #[.int .i64 x, .int .i64 y], .int .i64 t, .bool lit] w fun e w' => e = .returned (.tuple #[.int .i64 (Sun.next x y t lit), .int .i64 0]) ∧ Ext w w' := by
  obtain ⟨h0, h1⟩ := Sun.minB_t.1 h
  have hN := Sun.nmin_spec h0 h1
  generalize hNe : Sun.nmin t = N at *
  have HNe := Lib.hid hNe; clear hNe
  go_enter Tryd.func21, Tryd.ntmps21
  go_wp2_with (first | (go_at_call 35; refine (rminute_c _ _).mono ?_; rintro e w' ⟨rfl, rfl⟩) | (go_at_call 40; refine (rValidCell_c _ _ _).mono ?_; rintro e w1 ⟨rfl, hb⟩; have hc := hb.cellE; have hf := hb.frozenE; have hz := hb.size; have ha := alloc_keeps w1; (try simp only [World.size_alloc] at hc hf hz); (try simp only [World.size_setCell] at hc hf hz); (try simp only [World.size_drew] at hc hf hz)))
  have c0 : w1.cell? ⟨w.heap.size, 0, none⟩ = some (.int .i64 x) := hb.cell (by simp [go_sem])
  have c1 : w1.cell? ⟨w.heap.size, 1, none⟩ = some (.int .i64 y) := hb.cell (by simp [go_sem])
  have hE0 : Ext w w1 := by (repeat' (first | (with_reducible assumption) | (with_reducible exact Ext.refl _) | (with_reducible refine Ext.alloc ?_ _) | (with_reducible refine Ext.drew ?_) | (with_reducible refine Ext.drewN ?_ _) | (with_reducible refine Ext.setCell ?_ ?_ _) | (with_reducible refine Ext.trans ?_ (by assumption)) | go_size))
  clear hc hf hb
  obtain ⟨V, rfl⟩ : ∃ V : World, V = w1 := ⟨_, rfl⟩
  go_loopw [8] (fun p wr => ∃ k : Nat, k ≤ N ∧ p = .int .i64 k ∧ Hid (∀ j ∈ Sun.upto t k, (Sun.litB x y j == lit) = false) ∧ Ext V wr) (fun p _ => N - (intOf p).toNat)
  case atStart => exact ⟨0, by omega, rfl, fun j hj => by simp [Sun.upto] at hj, Ext.refl _⟩
  case round =>
    obtain ⟨k, hk, rfl, Hp, hE⟩ := hrel
    replace c0 := hE.cell c0
    replace c1 := hE.cell c1
    have hzE := hE.size
    by_cases hlt : k < N
    · cases hq : (Sun.litB x y (t + k) == lit)
      all_goals
        go_wp2_with (go_at_call 23; refine (rLit_c _ _ _ _).mono ?_; rintro e w1 ⟨rfl, hb⟩; have hc := hb.cellE; have hf := hb.frozenE; have hz := hb.size; have ha := alloc_keeps w1; (try simp only [World.size_alloc] at hc hf hz); (try simp only [World.size_setCell] at hc hf hz); (try simp only [World.size_drew] at hc hf hz))
      · go_roundw
        case rel => exact ⟨k + 1, by omega, by go_num, fun j hj => by rw [Sun.upto_succ] at hj; exact (List.mem_append.1 hj).elim (Hp.out j) (fun e => by rw [List.mem_singleton.1 e]; exact hq), by (repeat' (first | (with_reducible assumption) | (with_reducible exact Ext.refl _) | (with_reducible refine Ext.alloc ?_ _) | (with_reducible refine Ext.drew ?_) | (with_reducible refine Ext.drewN ?_ _) | (with_reducible refine Ext.setCell ?_ ?_ _) | (with_reducible refine Ext.trans ?_ (by assumption)) | go_size))⟩
        case measure => simp [intOf]; omega
      · go_ret2
        exact ⟨ret2_int (by rw [Sun.next_some (p := Sun.upto t k) (by rw [← Sun.upto_succ, HNe.out]; exact Sun.upto_pre t (by omega)) Hp.out hq]), by (repeat' (first | (with_reducible assumption) | (with_reducible exact Ext.refl _) | (with_reducible refine Ext.alloc ?_ _) | (with_reducible refine Ext.drew ?_) | (with_reducible refine Ext.drewN ?_ _) | (with_reducible refine Ext.setCell ?_ ?_ _) | (with_reducible refine Ext.trans ?_ (by assumption)) | go_size))⟩
    · obtain rfl : k = N := by omega
      go_wp2_with fail
      all_goals
        go_ret2
        exact ⟨ret2_int (by rw [Sun.next_none (by rw [HNe.out]; exact Hp.out)]), by (repeat' (first | (with_reducible assumption) | (with_reducible exact Ext.refl _) | (with_reducible refine Ext.alloc ?_ _) | (with_reducible refine Ext.drew ?_) | (with_reducible refine Ext.drewN ?_ _) | (with_reducible refine Ext.setCell ?_ ?_ _) | (with_reducible refine Ext.trans ?_ (by assumption)) | go_size))⟩

theorem day_c (n : Int) (w : World) (hn : IsI n) : Calls Tryd.prog 30 #[.int .i64 n] w fun e w' => e = .returned (.int .i64 (1440 * pickF n 690)) ∧ w = w' := by
  have hb := @pickF_bd n 690 (by omega)
  go_enter Tryd.func30, Tryd.ntmps30
  go_wp2_with (go_at_call 13; refine (pick_c _ _ _ hn (by omega) (by omega)).mono ?_; rintro e w' ⟨rfl, rfl⟩)
  go_ret
  exact ⟨rfl, rfl⟩

theorem across_c (x t : Int) (w : World) (h : Sun.minB t = true) (hx : 0 ≤ x) (hx' : x ≤ 47) : Calls Tryd.prog 31 #[.int .i64 x, .int .i64 t] w fun e w' => e = .returned (.tuple #[.int .i64 (Sun.ac x t), .bool true]) ∧ w = w' := by
  obtain ⟨h0, h1⟩ := Sun.minB_t.1 h
  have hn := Sun.noon_bd h0
  go_enter Tryd.func31, Tryd.ntmps31
  go_wp2_with (go_at_call 14; refine (Noon_yes _ _ h).mono ?_; rintro e w' ⟨rfl, rfl⟩)
  all_goals (go_ret2; exact ⟨ret2_int (by unfold Sun.ac Sun.away; omega), rfl⟩)

end Go.Proofs.YtknlnmalaidaiaaDoor
