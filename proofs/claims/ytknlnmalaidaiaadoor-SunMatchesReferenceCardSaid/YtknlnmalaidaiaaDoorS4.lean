/- Contracts of package sun: minutes, Next. -/
import Derived.Test.YtknlnmalaidaiaaDoorRF
import Derived.Test.YtknlnmalaidaiaaDoorS2
namespace Go.Proofs.YtknlnmalaidaiaaDoor
open Go.RowKit Go.Shelf

attribute [local go_sem] Oper.semAt_some

theorem minutes_c (t : Int) (w : World) : Calls Tryd.prog 42 #[.int .i64 t] w fun e w' => e = .returned (.func (.func 51) #[] #[.pointer (some ⟨w.heap.size, 0, none⟩)]) ∧ w.alloc (.cells #[.int .i64 t] 3) = w' := by
  go_enter Tryd.func42, Tryd.ntmps42
  go_wp2
  go_ret
  exact ⟨rfl, rfl⟩

set_option maxHeartbeats 1000000 in
theorem minutes_stops (n : Nat) (Bn n₀ : Nat) (t : Int) (w : World) (h0 : 0 ≤ t) (h1 : t ≤ 1000000) (hB : Bn < n₀) (hn : n₀ ≤ w.heap.size) (hc : w.cell? ⟨Bn, 0, none⟩ = some (.int .i64 t)) :
    SeqStopsK Fence.wide n Tryd.prog 51 #[.pointer (some ⟨Bn, 0, none⟩)] (fun x : Int => #[.int .i64 x]) (Below n₀) (fun xs => xs = Sun.upto t (Sun.nmin t)) (fun pre => pre <+: Sun.upto t (Sun.nmin t)) (Sun.nmin t) w := by
  intro l J Jx W hW hJ hJx hY hJ0
  have hN := Sun.nmin_spec h0 h1
  generalize Sun.nmin t = N at *
  refine callsIn_of_wp Tryd.func51 rfl trivial ?_ rfl
  simp only [Tryd.ntmps51, List.size_toArray, List.length_cons, List.length_nil, Nat.reduceAdd, Nat.reduceSub, Array.replicate_succ, Array.replicate_zero, List.push_toArray, List.append_toArray, List.nil_append, List.cons_append]
  have hcW : W.cell? ⟨Bn, 0, none⟩ = some (.int .i64 t) := (hW.cell (p := ⟨Bn, 0, none⟩) (by show Bn < _; omega)).trans hc
  have Hc := Lib.hid hc; clear hc
  gi_wp2
  gi_loopw [3] (fun p wr => ∃ k : Nat, k ≤ N ∧ p = .int .i64 (t + k) ∧ J (Sun.upto t k) wr ∧ Below n₀ W wr) (fun p _ => (t + N - intOf p).toNat)
  case atStart =>
    exact ⟨0, by omega, by simp, hJ0, Below.refl _ _⟩
  case round =>
    obtain ⟨k, hk, rfl, hJk, hb⟩ := hrel
    have hcr : wr.cell? ⟨Bn, 0, none⟩ = some (.int .i64 t) := (hb.cell (p := ⟨Bn, 0, none⟩) hB).trans hcW
    clear hJ0 hcW
    by_cases hlt : k < N
    · obtain ⟨fn, tmps, assign, body, hy, hR⟩ := hY (Sun.upto t k) (t + k) wr hJk (by rw [Sun.upto_len]; exact hlt)
      gi_wp2
      all_goals
        refine ⟨wide_depth, hR.mono ?_⟩
        rintro e W3 (⟨rfl, hJ3, hk3⟩ | ⟨rfl, hJx3⟩)
        · gi_wp2
          go_roundw
          case rel => exact ⟨k + 1, by omega, by go_num, by rw [Sun.upto_succ]; exact hJ3, hb.trans hk3⟩
          case measure => simp [intOf]; omega
        · gi_wp2
          refine bodyPost_ret (results_none rfl _ _ _) rfl ?_
          exact ⟨⟨_, rfl⟩, .inr ⟨Sun.upto t (k + 1), Sun.upto_pre t (by omega), by rw [Sun.upto_succ]; exact hJx3⟩⟩
    · obtain rfl : k = N := by omega
      gi_wp2
      all_goals
        go_end0
        exact ⟨⟨_, rfl⟩, by first | exact .inl hJk | exact .inl ⟨_, rfl, hJk⟩⟩

end Go.Proofs.YtknlnmalaidaiaaDoor
