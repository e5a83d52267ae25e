/- The statement ReplicaHistories: for every input that the row lists, the law returns true, and every argument reads as it read before. -/
import Derived.Test.YtfmoabgjaclkpaaGreatDoorV6ReplicaHistories
import Derived.Test.YtfmoabgjaclkpaaGreatDoorTie
import Derived.Test.YtfmoabgjaclkpaaGreatDoorCards
import Derived.ProofKit
import Derived.OpenShut
import Derived.ChangeOld
import Derived.LaidMore
import Derived.Stop.Joined
import Derived.Stop.LaidErr
import Derived.Lib.LaidTab
import Derived.SevenTiedAt
import Derived.Deep.Slices
import Derived.ChangeMaps5
namespace Go.Proofs.YtfmoabgjaclkpaaGreatDoor
open Go.ChangeShapes Go.WideShapes Go.ChangeAt Go.RowKit
theorem own : ownKnob Tryz.prog.godebug = none := by kernel_rfl
theorem laidOut : laidOutB Tryz.prog = true := by kernel_rfl
def laidTabs : List (String × DataW Unit) := [("nadir/replica.rootless", Rows.laid_nadir_replica_rootless)]
theorem gTab : Tryz.prog.globalNamed "nadir/replica.rootless" = some 0 := by kernel_rfl
theorem tTab : (Tryz.prog.globals[0]?).map (·.type) = some 70 := by kernel_rfl
theorem door_met (os : Os) (args : Array Value) : laidMetH Tryz.prog laidTabs ((World.doorLaid Tryz.prog 19 os).forCall (fun _ _ => 0) ⟨#[], args, []⟩).memory :=
 laidMetH_of_parts3 (fuel := 8) (laidMet_of_run' 8 (by kernel_rfl) (by kernel_rfl)) (by kernel_rfl) (by kernel_rfl)
set_option maxRecDepth 100000 in
theorem lit_two {t : TypeId} {f0 f1 : Field} {W : World} {fuel : Nat} {cs : Array Value} {z0 z1 : Int} {q : List MemPlace} (hu : Tryz.prog.underlying t = some (.struct #[f0, f1])) (h0 : f0.offset = 0) (h1 : f1.offset = 1) (t0 : f0.type = 3) (t1 : f1.type = 3) (h2 : Tryz.prog.cellsOf t = 2)
  (hf : DataW.trod (fun _ => ()) Tryz.prog W 0 (fun _ => true) false fuel t cs.toList = some (.agg [.lit (.int .i64 z0), .lit (.int .i64 z1)], q)) : cs = #[.int .i64 z0, .int .i64 z1] := by
 obtain ⟨xs, m, rfl, hx, hlen, hxl, hg⟩ := DataW.trod_struct hu hf
 have hone : Tryz.prog.cellsOf 3 = 1 := by kernel_rfl
 have g0 := hg 0 f0 rfl
 have g1 := hg 1 f1 rfl
 rw [h0, t0, hone] at g0
 rw [h1, t1, hone] at g1
 have hl : cs.toList.length = 2 := by rw [hlen, h2]
 obtain ⟨l⟩ := cs
 match l, hl, xs, hxl with
 | [x0, x1], _, [y0, y1], _ =>
  have hx1 := congrArg Prod.fst hx
  simp at hx1
  obtain ⟨n0, hn0, hv0, w0⟩ := DataW.trod_int Tryz.underlying3 (show _ = some y0 from g0)
  obtain ⟨n1, hn1, hv1, w1⟩ := DataW.trod_int Tryz.underlying3 (show _ = some y1 from g1)
  simp at hn0 hn1
  subst hv0; subst hv1; subst hn0; subst hn1
  simp at hx1
  obtain ⟨rfl, rfl⟩ := hx1
  rfl
theorem tab_of_laid {W : World} (h : laidMetH Tryz.prog laidTabs W) : RootAt W := by
 rw [MakeChecks.laidMetH_plain _ _ _ (by kernel_rfl)] at h
 obtain ⟨ps, ⟨g', t', cs, fuel, p, q, hg', ht', hvar, hd, _, _⟩, _⟩ := h
 obtain rfl := Option.some.inj (gTab.symm.trans hg')
 obtain rfl := Option.some.inj (tTab.symm.trans ht')
 obtain rfl := lit_two Tryz.underlying70 rfl rfl rfl rfl (by kernel_rfl) hd
 have h0 := World.var?_cell gTab hvar 0
 have h1 := World.var?_cell gTab hvar 1
 exact ⟨h0, h1, World.block_lt_of_cell? W _ h0⟩
theorem isI_of_wf {n : Int} (h : (Lit.int .i64 n).wf = true) : IsI n := by
 simp [Lit.wf, IntKind.min, IntKind.max, IntKind.signed, IntKind.bits] at h
 exact ⟨by omega, by omega⟩
end Go.Proofs.YtfmoabgjaclkpaaGreatDoor

namespace Go.Proofs.YtfmoabgjaclkpaaGreatDoor
open Go.ChangeShapes Go.WideShapes Go.ChangeAt Go.RowKit Go.Deep
section
variable {H : Type} {enc : TypeId × Value → H} {W : World}
theorem ints_of_array {spare : Nat → Bool} {held : Bool} {t : TypeId} {k fuel : Nat} {cs : List Value} {x : DataW H × List MemPlace} (ht : Tryz.prog.underlying t = some (.array k 3)) (h : DataW.trod enc Tryz.prog W 0 spare held fuel t cs = some x) (hc : cs.length = k) :
  ∃ q : Nat → Int, ∀ j, j < k → cs[j]? = some (.int .i64 (q j)) ∧ IsI (q j) := by
 obtain ⟨xs, m, rfl, hx, hlen, hxl, hg⟩ := DataW.trod_array ht h
 have hone : Tryz.prog.cellsOf 3 = 1 := by kernel_rfl
 have each : ∀ j, j < k → ∃ n : Int, cs[j]? = some (.int .i64 n) ∧ IsI n := fun j hj => by
  have h1 := hg j hj
  rw [hone, Nat.mul_one] at h1
  have hx : xs[j]? = some (xs[j]'(by omega)) := List.getElem?_eq_getElem (by omega)
  rw [hx] at h1
  obtain ⟨n, hn, _, hw⟩ := DataW.trod_int Tryz.underlying3 h1
  have hcj : cs[j]? = some (.int .i64 n) := by
   have e : ((cs.drop j).take 1)[0]? = some (.int .i64 n) := by rw [hn]; rfl
   rw [List.getElem?_take_of_lt (by omega), List.getElem?_drop, Nat.add_zero] at e
   exact e
  exact ⟨n, hcj, isI_of_wf hw⟩
 obtain ⟨q, hq⟩ := choose_lt each
 exact ⟨q, hq⟩
end
def Quads (w : World) (v : Value) : Prop := ∃ (a : Option Addr) (n c : Nat) (q : Nat → Nat → Int), v = .slice a n c ∧ n ≤ c ∧ c ≤ 9223372036854775807 ∧ (a = none → c = 0) ∧ QAt w a n q
section
variable {H : Type} {enc : TypeId × Value → H} {W : World}
set_option maxRecDepth 100000 in
theorem open_quads {b0 : Nat} {v : Value} {d : DataW H} {p : List MemPlace} (hval : Value.okWide Tryz.prog W .any b0 22 v) (h : DataW.Trod enc Tryz.prog W 0 (fun _ => true) true 22 v d p) : Quads W v := by
  obtain ⟨a, n, c, rfl⟩ := okWide_slice Tryz.underlying22 hval
  obtain ⟨fuel, hf⟩ := h
  rcases open_slice Tryz.underlying22 hf with ⟨hcs, _⟩ | ⟨a', len, cap, m, k, D, Pl, hcs, hb, hl, hm, hmm, _, hx⟩
  · simp [Value.cells] at hcs
    obtain ⟨rfl, rfl, rfl⟩ := hcs
    exact ⟨none, 0, 0, fun _ _ => 0, rfl, by omega, by omega, fun _ => rfl, .inl rfl⟩
  · simp [Value.cells] at hcs
    obtain ⟨rfl, rfl, rfl⟩ := hcs
    unfold maxLen at hm
    rcases Nat.eq_zero_or_pos n with h0 | h0
    · exact ⟨_, _, _, fun _ _ => 0, rfl, by omega, by omega, (fun e => by cases e), .inl h0⟩
    · have h4 : Tryz.prog.cellsOf 26 = 4 := by kernel_rfl
      rw [h4] at hx
      simp only [if_true] at hmm
      subst hmm
      have each : ∀ i, i < n → ∃ q : Nat → Int, ∀ j, j < 4 → W.cell? (a'.add (i * 4 + j)) = some (.int .i64 (q j)) ∧ IsI (q j) := fun i hi => by
        obtain ⟨cs', hc1, hc2⟩ := hx i (by omega)
        obtain ⟨_, hcl, hat⟩ := World.cells?_some hc1
        obtain ⟨q, hq⟩ := ints_of_array Tryz.underlying26 hc2 hcl
        refine ⟨q, fun j hj => ⟨?_, (hq j hj).2⟩⟩
        rw [← Go.Deep.add_add, hat j hj]
        exact (hq j hj).1
      obtain ⟨q, hq⟩ := choose_lt each
      obtain ⟨b, off, spot⟩ := a'
      have hspot : spot = none := by have := World.cell?_spot (hq 0 h0 0 (by omega)).1; simpa [Addr.add] using this
      subst hspot
      refine ⟨_, _, _, q, rfl, by omega, by omega, (fun e => by cases e), .inr ⟨b, off, rfl, fun i hi j hj => ?_⟩⟩
      have := hq i hi j hj
      rw [add_plain, ← Nat.add_assoc] at this
      exact this
end
section
variable {H : Type} {enc : TypeId × Value → H} {W : World}
end
end Go.Proofs.YtfmoabgjaclkpaaGreatDoor

namespace Go.Proofs.YtfmoabgjaclkpaaGreatDoor
set_option maxRecDepth 1000000
set_option maxHeartbeats 4000000
set_option synthInstance.maxHeartbeats 0
set_option synthInstance.maxSize 9999
open Go.RowKit
namespace Rep
end Rep
end Go.Proofs.YtfmoabgjaclkpaaGreatDoor

namespace Go.Proofs.YtfmoabgjaclkpaaGreatDoor
namespace Rep
theorem more_miss {l1 l2 : List Rec} {x : Rec} (h : x ∈ more l1 l2) : findK l1 (x.c, x.n) = none := by
 unfold more at h
 rw [List.mem_filter, Bool.not_eq_true', Bool.eq_false_iff, Ne, hasK_iff] at h
 cases hf : findK l1 (x.c, x.n) with
 | none => rfl
 | some y => exact absurd ⟨y, (findK_some hf).1, (findK_some hf).2⟩ h.2
theorem more_sub {l1 l2 : List Rec} : ∀ x ∈ more l1 l2, x ∈ l2 := fun _x h => (List.mem_filter.1 h).1
structure Keep2 (a b : List Rec) (c d : Int) : Prop where
 m : mergeF c a d b = some (unionF a b)
 bh : behindF c a d b = some (more a b)
 z : behindF c (unionF a b) d b = some []
 k1 : keepsB (unionF a b) a = true
 k2 : keepsB (unionF a b) b = true
 k3 : keepsB b (more a b) = true
 len : (unionF a b).length = a.length + (more a b).length
 mi : ∀ x ∈ more a b, findK a (x.c, x.n) = none
 kd : keysD (unionF a b)
 kb : keysD b
theorem keep_merge {U a b : List Rec} (hU : keysD U) (h : In U a) (k : In U b) {c d : Int} (hc : 0 ≤ c ∧ c ≤ 15) (hd : 0 ≤ d ∧ d ≤ 15) (hn : U.length ≤ 80) : Keep2 a b c d := by
 have u := h.union hU k
 refine ⟨h.merge hU k hc hd hn, h.behind hU k hc hd hn, ?_, keeps_t fun x hx => (h.mem hU k).2 (.inl hx), keeps_t fun x hx => (h.mem hU k).2 (.inr hx), keeps_t more_sub, (h.uni hU k).len h.vd.srt k.vd.srt (h.cons hU k), fun x hx => more_miss hx, u.vd.keys, k.vd.keys⟩
 rw [u.behind hU k hc hd hn]
 congr 1
 refine List.eq_nil_iff_forall_not_mem.2 fun x hx => ?_
 obtain ⟨h1, h2⟩ := (mem_more (u.cons hU k)).1 hx
 exact h2 ((h.mem hU k).2 (.inr h1))
theorem Tri.keep {L : Nat → List Rec} (h : Tri 24 L) {i k : Nat} (hi : i < 3) (hk : k < 3) : Keep2 (L i) (L k) i k := by
 obtain ⟨U, hU, hUl, hUp, hIn⟩ := h.ex
 exact keep_merge hU (hIn i hi) (hIn k hk) (by omega) (by omega) (by omega)
end Rep
end Go.Proofs.YtfmoabgjaclkpaaGreatDoor

namespace Go.Proofs.YtfmoabgjaclkpaaGreatDoor
set_option maxRecDepth 1000000
set_option maxHeartbeats 4000000
set_option synthInstance.maxHeartbeats 0
set_option synthInstance.maxSize 9999
open Go.RowKit
end Go.Proofs.YtfmoabgjaclkpaaGreatDoor

namespace Go.Proofs.YtfmoabgjaclkpaaGreatDoor
namespace Rep
theorem insB_perm {x : Rec} : ∀ {l : List Rec}, (insB x l).Perm (x :: l)
 | [] => List.Perm.refl _
 | y :: l => by
  unfold insB
  split
  · exact List.Perm.refl _
  · exact (List.Perm.cons y insB_perm).trans (List.Perm.swap ..)
theorem sortB_perm : ∀ {l : List Rec}, (sortB l).Perm l
 | [] => List.Perm.refl _
 | x :: l => by unfold sortB; exact insB_perm.trans (List.Perm.cons x sortB_perm)
theorem countP_or {α : Type} {A B : α → Bool} : ∀ {X : List α}, (∀ x ∈ X, A x = true → B x = false) → X.countP (fun x => A x || B x) = X.countP A + X.countP B
 | [], _ => rfl
 | x :: X, h => by
  have ih := countP_or (A := A) (B := B) (X := X) fun y hy => h y (List.mem_cons_of_mem _ hy)
  have hx := h x (List.mem_cons_self ..)
  rw [List.countP_cons, List.countP_cons, List.countP_cons, ih]
  cases ha : A x
  · cases hb : B x <;> simp <;> omega
  · rw [hx ha]; simp; omega
def famSum (l : List Rec) : List Rec → Nat
 | [] => 0
 | x :: t => (if isRoot x then (famK l x.key).length else 0) + famSum l t
theorem famSum_app {l : List Rec} {x : Rec} : ∀ {m : List Rec}, famSum l (m ++ [x]) = famSum l m + if isRoot x then (famK l x.key).length else 0
 | [] => by simp [famSum]
 | y :: m => by show _ + famSum l (m ++ [x]) = _ + famSum l m + _; rw [famSum_app]; omega
theorem famSum_is {l : List Rec} : ∀ {m : List Rec}, keysD m → famSum l m = (sortB l).countP fun x => decide (∃ r ∈ m, isRoot r ∧ (rt l x).key = r.key)
  | [], _ => by
    refine (List.countP_eq_zero.2 fun x _ => ?_).symm
    simp
  | r :: m, h => by
    unfold keysD at h
    rw [List.pairwise_cons] at h
    have ih := famSum_is (l := l) h.2
    show _ + famSum l m = _
    rw [ih]
    by_cases hr : isRoot r
    · rw [if_pos hr]
      have e : (famK l r.key).length = (sortB l).countP fun x => decide ((rt l x).key = r.key) := by unfold famK; rw [List.countP_eq_length_filter]
      rw [e, ← countP_or]
      · refine List.countP_congr fun x _ => ?_
        rw [Bool.or_eq_true, decide_eq_true_iff, decide_eq_true_iff, decide_eq_true_iff]
        constructor
        · rintro (q | ⟨z, hz, q⟩)
          · exact ⟨r, List.mem_cons_self .., hr, q⟩
          · exact ⟨z, List.mem_cons_of_mem _ hz, q⟩
        · rintro ⟨z, hz, q1, q2⟩
          rcases List.mem_cons.1 hz with rfl | hz
          · exact .inl q2
          · exact .inr ⟨z, hz, q1, q2⟩
      · intro x _ hx
        refine decide_eq_false ?_
        rintro ⟨z, hz, _, q⟩
        exact h.1 z hz ((of_decide_eq_true hx).symm.trans q)
    · rw [if_neg hr, Nat.zero_add]
      refine List.countP_congr fun x _ => ?_
      rw [decide_eq_true_iff, decide_eq_true_iff]
      constructor
      · rintro ⟨z, hz, q⟩; exact ⟨z, List.mem_cons_of_mem _ hz, q⟩
      · rintro ⟨z, hz, q1, q2⟩
        rcases List.mem_cons.1 hz with rfl | hz
        · exact absurd q1 hr
        · exact ⟨z, hz, q1, q2⟩
theorem famSum_all {l : List Rec} (hv : Vd l) : famSum l l = l.length := by
 rw [famSum_is hv.keys, ← sortB_perm.length_eq (l₁ := sortB l), List.countP_eq_length]
 intro x hx
 have h := rt_is hv x (sortB_mem.1 hx)
 exact decide_eq_true ⟨_, h.1, h.2.1, rfl⟩
def holdN (l : List Rec) : List Rec → Nat
 | [] => 0
 | x :: t => (if isRoot x ∧ ¬ (lastR (famK l x.key)).x = empty then 1 else 0) + holdN l t
theorem holdN_app {l : List Rec} {x : Rec} : ∀ {m : List Rec}, holdN l (m ++ [x]) = holdN l m + if isRoot x ∧ ¬ (lastR (famK l x.key)).x = empty then 1 else 0
 | [] => by simp [holdN]
 | y :: m => by show _ + holdN l (m ++ [x]) = _ + holdN l m + _; rw [holdN_app]; omega
theorem holdN_is {l : List Rec} : ∀ {m : List Rec}, holdN l m = m.countP fun x => decide (isRoot x ∧ ¬ (lastR (famK l x.key)).x = empty)
 | [] => rfl
 | x :: m => by
  show _ + holdN l m = _
  rw [holdN_is, List.countP_cons, Nat.add_comm]
  congr 1
  by_cases h : isRoot x ∧ ¬ (lastR (famK l x.key)).x = empty <;> simp [h]
theorem holdN_all {l : List Rec} : holdN l l = (foldF l).length := by
 rw [holdN_is, ← sortB_perm.countP_eq (l₁ := sortB l)]
 unfold foldF rootsF
 rw [List.filter_map, List.length_map, ← List.countP_eq_length_filter, List.countP_filter]
 refine List.countP_congr fun x _ => ?_
 simp only [Function.comp, decide_eq_true_iff, Bool.and_eq_true]
 exact and_comm
structure HistOf (l : List Rec) (x : Rec) (F : List Rec) : Prop where
 h : ∀ c, validB c l = true → histO c l (x.c, x.n) = some F
 mem : x ∈ F
 sub : ∀ y ∈ F, y ∈ l
 kd : keysD F
 pos : 0 < F.length
 root : (recN F 0).o = -1
 more : ∀ k, 1 ≤ k → k < F.length → ¬ (recN F k).o < 0 ∧ ¬ ltB (recN F k) (recN F (k - 1)) ∧ ∃ z, findK F ((recN F k).o, (recN F k).w) = some z ∧ z ∈ F.take k
theorem fam_keys {l : List Rec} (hv : Vd l) (k : Int × Int) : keysD (famK l k) :=
 List.Pairwise.imp_of_mem (fun {x y} hx hy h e => by
  have := hv.keys.inj (fam_mem.1 hx).1 (fam_mem.1 hy).1 e
  subst this; exact ltB_irrefl _ h) (fam_sorted hv.keys k)
theorem fam_lt {l : List Rec} (hv : Vd l) {k : Int × Int} {i j : Nat} (hi : i < (famK l k).length) (hj : j < (famK l k).length) (h : ltB (recN (famK l k) i) (recN (famK l k) j)) : i < j := by
  have hs := List.pairwise_iff_getElem.1 (fam_sorted hv.keys k)
  rcases Nat.lt_trichotomy i j with q | q | q
  · exact q
  · subst q; exact absurd h (ltB_irrefl _)
  · have := hs j i hj hi q
    rw [← recN_get hj, ← recN_get hi] at this
    exact absurd h (ltB_asymm this)
theorem root_o {l : List Rec} (hv : Vd l) {x : Rec} (hx : x ∈ l) : x.o < 0 ↔ isRoot x := by
  have h := okR_is (hv.ok x hx)
  unfold isRoot
  constructor
  · intro q
    rcases h.1 with q2 | q2
    · exact q2
    · omega
  · rintro ⟨q, _⟩; omega
theorem hist_of {l : List Rec} (hv : Vd l) {x : Rec} (hx : x ∈ l) : HistOf l x (famK l (rt l x).key) := by
  have hr := rt_is hv x hx
  have hh := fam_head hv hr.1 hr.2.1
  refine ⟨fun c hc => ?_, fam_mem.2 ⟨hx, rfl⟩, fun y hy => (fam_mem.1 hy).1, fam_keys hv _, hh.1, ?_, fun k hk hkl => ?_⟩
  · unfold histO histF
    rw [if_pos hc, show findK l (x.c, x.n) = some x from findK_mem hv.keys hx]; rfl
  · rw [hh.2]; exact hr.2.1.1
  · obtain ⟨F, hF⟩ : ∃ F, F = famK l (rt l x).key := ⟨_, rfl⟩
    have hy := fam_mem.1 (recN_mem hkl)
    have hs := List.pairwise_iff_getElem.1 (fam_sorted hv.keys (rt l x).key)
    have h0k : ltB (recN (famK l (rt l x).key) 0) (recN (famK l (rt l x).key) k) := by
      rw [recN_get hh.1, recN_get hkl]; exact hs 0 k hh.1 hkl (by omega)
    have hnr : ¬ isRoot (recN (famK l (rt l x).key) k) := fun q => by
      have e := hy.2
      rw [rt_root q] at e
      have := hv.keys.inj hy.1 hr.1 e
      rw [this, hh.2] at h0k
      exact ltB_irrefl _ h0k
    refine ⟨fun q => hnr ((root_o hv hy.1).1 q), fun q => ?_, ?_⟩
    · have h1 := hs (k - 1) k (by omega) hkl (by omega)
      rw [← recN_get (show k - 1 < _ by omega), ← recN_get hkl] at h1
      exact ltB_asymm h1 q
    · obtain ⟨z, hz, hzl, hlt⟩ := hv.tgt hy.1 hnr
      have hzF : z ∈ famK l (rt l x).key := fam_mem.2 ⟨hzl, by rw [← rt_step hv hy.1 hnr hz]; exact hy.2⟩
      have hzk : z.key = (recN (famK l (rt l x).key) k).tgt := (findK_some hz).2
      refine ⟨z, ?_, ?_⟩
      · rw [show ((recN (famK l (rt l x).key) k).o, (recN (famK l (rt l x).key) k).w) = z.key from hzk.symm]
        exact findK_mem (fam_keys hv _) hzF
      · obtain ⟨i, hi, e⟩ := mem_recN hzF
        have hik := fam_lt hv hi hkl (by rw [← e]; exact hlt)
        rw [e, recN_get hi]
        exact List.mem_take_iff_getElem.2 ⟨i, by omega, rfl⟩
theorem fold_keys {l : List Rec} (hv : Vd l) : keysD (foldF l) := by
 unfold foldF
 refine List.Pairwise.filter _ ?_
 rw [List.pairwise_map]
 refine List.Pairwise.imp_of_mem (fun {a b} ha hb h e => ?_) (roots_sorted hv.keys)
 obtain ⟨a1, a2⟩ := roots_mem.1 ha
 obtain ⟨b1, b2⟩ := roots_mem.1 hb
 have la := fam_mem.1 (recN_mem (show (famK l a.key).length - 1 < (famK l a.key).length by have := (fam_head hv a1 a2).1; omega))
 have lb := fam_mem.1 (recN_mem (show (famK l b.key).length - 1 < (famK l b.key).length by have := (fam_head hv b1 b2).1; omega))
 have hab : lastR (famK l a.key) = lastR (famK l b.key) := hv.keys.inj la.1 lb.1 e
 have h1 : (rt l (lastR (famK l a.key))).key = a.key := la.2
 have h2 : (rt l (lastR (famK l b.key))).key = b.key := lb.2
 rw [hab] at h1
 have := hv.keys.inj a1 b1 (h1.symm.trans h2)
 subst this; exact ltB_irrefl _ h
theorem fold_has {l : List Rec} {x : Rec} (hx : x ∈ l) (hr : isRoot x) : lastR (famK l x.key) ∈ foldF l ↔ ¬ (lastR (famK l x.key)).x = empty := by
 unfold foldF
 rw [List.mem_filter, decide_eq_true_iff]
 exact ⟨And.right, fun h => ⟨List.mem_map.2 ⟨x, roots_mem.2 ⟨hx, hr⟩, rfl⟩, h⟩⟩
theorem famSum_take {l : List Rec} {i : Nat} (h : i < l.length) : famSum l (l.take (i + 1)) = famSum l (l.take i) + if isRoot (recN l i) then (famK l (recN l i).key).length else 0 := by rw [recN_take h, famSum_app]
theorem holdN_take {l : List Rec} {i : Nat} (h : i < l.length) : holdN l (l.take (i + 1)) = holdN l (l.take i) + if isRoot (recN l i) ∧ ¬ (lastR (famK l (recN l i).key)).x = empty then 1 else 0 := by rw [recN_take h, holdN_app]
theorem famSum_le {l : List Rec} (hl : l.length ≤ 80) : ∀ m : List Rec, famSum l m ≤ 80 * m.length
 | [] => Nat.zero_le _
 | x :: m => by
  have ih := famSum_le hl m
  have : (famK l x.key).length ≤ l.length := by unfold famK; exact T (List.length_filter_le _ _) (Nat.le_of_eq sortB_perm.length_eq)
  show (if isRoot x then (famK l x.key).length else 0) + famSum l m ≤ _
  rw [List.length_cons]
  split <;> omega
theorem holdN_le {l : List Rec} : ∀ m : List Rec, holdN l m ≤ m.length
 | [] => Nat.zero_le _
 | x :: m => by
  have ih := holdN_le (l := l) m
  show (if isRoot x ∧ ¬ (lastR (famK l x.key)).x = empty then 1 else 0) + holdN l m ≤ _
  rw [List.length_cons]
  split <;> omega
end Rep
end Go.Proofs.YtfmoabgjaclkpaaGreatDoor

namespace Go.Proofs.YtfmoabgjaclkpaaGreatDoor
set_option maxRecDepth 1000000
set_option maxHeartbeats 4000000
set_option synthInstance.maxHeartbeats 0
set_option synthInstance.maxSize 9999
open Go.RowKit
def Tz70_0 : List Row := [(some 23, [4], []), (some 24, [23], [0]), (some 25, [24], [1]), (some 26, [4], []), (some 27, [26], [3]), (some 28, [27], [4]), (some 29, [25, 28], [2, 5]), (some 22, [29], [6]), (some 30, [22], [7]), (some 31, [22], [7]), (some 5, [], []), (none, [5, 30], [10, 8, 6, 0, 1, 2, 3, 4, 5, 6, 7, 8, 10]), (some 6, [31], [9, 11, 0, 1, 2, 3, 4, 5, 6, 7, 8, 9, 10, 11])]
def Tz70_1 : List Row := [(some 102, [13], []), (some 103, [15], []), (some 104, [102, 103], [0, 1]), (some 105, [104], [2]), (some 106, [105], [3]), (some 107, [106], [4]), (some 108, [107], [5]), (some 109, [13, 108], [6]), (some 110, [15, 108], [6]), (some 111, [109, 110, 108], [7, 8, 6]), (some 112, [111, 108], [9, 6]), (some 113, [13, 108], [6]), (some 114, [15, 108], [6]), (some 115, [114, 108], [12, 6]), (some 116, [113, 115, 108], [11, 13, 6]), (some 117, [116, 108], [14, 6]), (some 118, [112, 117, 108], [10, 15, 6, 6]), (some 119, [108, 118], [6, 16]), (some 120, [119], [17, 16]), (some 121, [13, 120], [18]), (some 122, [15, 120], [18]), (some 123, [121, 122, 120], [19, 20, 18]), (some 124, [13, 120], [18]), (some 125, [13, 120], [18]), (some 126, [15, 120], [18]), (some 127, [125, 126, 120], [23, 24, 18]), (some 128, [127, 120], [25, 18]), (some 129, [124, 128, 120], [22, 26, 18, 18]), (some 130, [129, 120], [27, 18]), (some 131, [123, 130, 120], [21, 28, 27, 18]), (some 132, [131, 120], [29, 18]), (some 133, [120, 132], [18, 30])]
def Tz70_2 : List Row := [(some 147, [16], []), (some 148, [147], [0]), (some 149, [148], [1]), (some 150, [7], []), (some 151, [13], []), (some 152, [13], []), (some 153, [152], [5]), (some 154, [153], [6]), (some 155, [151, 154], [4, 7]), (some 156, [150, 155], [3, 8]), (some 157, [149, 156], [2, 9])]
theorem RecsAt.oneAt {w : World} {b o n i m : Nat} {l : List Rec} (h : RecsAt w (some ⟨b, o, none⟩) n l) (hi : i < n) (hm : m = 1) : RecsAt w (some ⟨b, o + i * 7, none⟩) m [recN l i] := by
 subst hm
 have h2 := (h.dropS (k := i) (by omega)).take (k := 1) (by omega)
 rwa [show (l.drop i).take 1 = [recN l i] by rw [List.drop_eq_getElem_cons (show i < l.length by rw [h.len]; exact hi), List.take_succ_cons, List.take_zero, recN_get (by rw [h.len]; exact hi)]] at h2
theorem RecsAt.lit {w : World} {O : Nat} {x : Rec} (h0 : BoxAt w O 0 (.int .i64 x.c)) (h1 : BoxAt w O 1 (.int .i64 x.n)) (h2 : BoxAt w O 2 (.int .i64 x.t)) (h3 : BoxAt w O 3 (.int .i64 x.o)) (h4 : BoxAt w O 4 (.int .i64 x.w)) (h5 : BoxAt w O 5 (.int .i64 x.k)) (h6 : BoxAt w O 6 (.string x.x)) : RecsAt w (some ⟨O, 0, none⟩) 1 [x] :=
 RecsW.at ⟨fun i y hy => by
  match i, hy with
  | 0, hy => cases hy; exact ⟨h0, h1, h2, h3, h4, h5, h6⟩
  | i + 1, hy => simp at hy⟩ rfl (by decide)
namespace Rep
theorem Tri.both {L : Nat → List Rec} (h : Tri 24 L) : ∃ l, mergeF 0 (L 0) 1 (L 1) = some l ∧ validB 0 l = true ∧ l.length ≤ 24 ∧ Vd l := by
 obtain ⟨U, hU, hUl, hUp, hIn⟩ := h.ex
 have u := (hIn 0 (by decide)).union hU (hIn 1 (by decide))
 exact ⟨_, (hIn 0 (by decide)).merge hU (hIn 1 (by decide)) (by omega) (by omega) (by omega), u.valid (by omega) (by omega), T u.len hUl, u.vd⟩
theorem keeps_1 {l : List Rec} {x : Rec} (h : x ∈ l) : keepsB l [x] = true := keeps_one.trans (decide_eq_true h)
theorem keeps_0 {l : List Rec} {x : Rec} (h : ¬ x ∈ l) : keepsB l [x] = false := keeps_one.trans (decide_eq_false h)
theorem keysD.take {l : List Rec} (h : keysD l) (k : Nat) : keysD (l.take k) := List.Pairwise.sublist (List.take_sublist _ _) h
end Rep
theorem ReplicaHistories_walk (w : World) (v0 : Value) (o0 : Quads w v0) (hRl : RootAt w) : Calls Tryz.prog 7 #[v0] w fun e w' => e = .returned (.bool true) ∧ Ext w w' := by
 obtain ⟨ax, nx, cx, q, rfl, Fw, Fx, _, hQ⟩ := o0;refine calls_cw 177 [(0, .slice ax nx cx)] Tryz.func7 rfl Tryz.ntmps7 (by kernel_rfl) (by kernel_rfl) (fun L => ?_);have hE := Ext.refl w;refine zc (zp (pT (.bool false) ?_));refine zn (zc (zp (pS (sc 10 #[] ((sane_c _ (hRl.ext (Ext.refl _))).mono ?_)))));rintro e w1 ⟨rfl, hb⟩;replace hE := hE.trans hb;have Dm := hb.size;refine ⟨_, rfl, pT (.bool true) ?_⟩;refine zn (zc (zc (zp (pD (.bool true) (.bool false) ?_))));refine zn (zf ?_);refine cw_skip (zq (zc (zp (pT (.slice ax nx cx) ?_))));refine pS (sc 11 #[.slice ax nx cx] ((Made_c cx _ hQ hE (by omega)).mono ?_));rintro e w3 ⟨B, LL, rfl, hB, hT, hTri, hb⟩;replace hE := hE.trans hb;have Dn := hb.size;have B7 := Ext.refl w3;refine ⟨_, rfl, pT (sv B 0 3 3) ?_⟩;refine zn (cw_seq ?_);obtain ⟨a0, n0, c0, Br, Bs, H0, Fs, F1⟩ := hT 0 (by omega);replace Br : BoxAt w3 B 0 (iv 0) := Br;replace Bs : BoxAt w3 B 1 (.slice a0 n0 c0) := Bs;obtain ⟨a1, n1, c1, Bt, Bu, H1, Ft, F2⟩ := hT 1 (by omega);replace Bt : BoxAt w3 B 2 (iv 1) := Bt;replace Bu : BoxAt w3 B 3 (.slice a1 n1 c1) := Bu;obtain ⟨lr, hmr, hvB, F4, hvd⟩ := hTri.both;refine cw_join (fun ws' Y => ∃ a8 : Option Addr, ∃ n9 Bw Bv : Nat, ws' = [(3, .bool true), (5, pw Bv 0), (6, iv 0)] ∧ Ext w Y ∧ Ext w3 Y ∧ RecsAt Y a8 n9 lr ∧ n9 ≤ Bw ∧ BoxAt Y Bv 0 (iv 0) ∧ BoxAt Y Bv 1 (.slice a8 n9 Bw) ∧ w3.heap.size ≤ Y.heap.size ∧ w3.heap.size ≤ Bv) (fun hJ => ?_) ?_
 ·
  refine dE Tz70_0 (fun w' => w'.cell? ⟨B, 0, none⟩ = some (iv 0) ∧ w'.cell? ⟨B, 1, none⟩ = some (.slice a0 n0 c0) ∧ w'.cell? ⟨B, 2, none⟩ = some (iv 1) ∧ w'.cell? ⟨B, 3, none⟩ = some (.slice a1 n1 c1)) (⟨Br.1, Bs.1, Bt.1, Bu.1⟩) (fun ops Q X6 hb hL hR hK => ?_);refine mv2 hb hE B7 fun hE B7=>?_;have D1 := hb.size;have hS := A4 (Br.c B7) (Bs.c B7) (Bt.c B7) (Bu.c B7);refine wV 0 (sv B 0 3 3) hR hS ?_;refine wL 1 (pw B 0) hR (fun w _ => ex_index (p := sv B 0 3 3) (i := iv ((0 : Nat) : Int)) rfl (by kernel_rfl) (by kernel_rfl) (ix28z (k := 0) (by omega))) hS ?_;refine wM 2 (.agg #[iv 0, .slice a0 n0 c0]) hR (fun w hS => ld25 (hS.1) (hS.2.1)) hS ?_;refine wV 3 (sv B 0 3 3) hR hS ?_;refine wL 4 (pw B 2) hR (fun w _ => ex_index (p := sv B 0 3 3) (i := iv ((1 : Nat) : Int)) rfl (by kernel_rfl) (by kernel_rfl) (ix28z (k := 1) (by omega))) hS ?_;refine wM 5 (.agg #[iv 1, .slice a1 n1 c1]) hR (fun w hS => ld25 (hS.2.2.1) (hS.2.2.2)) hS ?_;refine zw 6 10 hR ?_ ?_
  ·
   refine sc 26 #[.agg #[iv 0, .slice a0 n0 c0], .agg #[iv 1, .slice a1 n1 c1]] ((Merge_y _ _ _ ((H0.ext B7)) (Ext.refl _) ((H1.ext B7)) (Ext.refl _) (hRl.ext hE) hmr).mono ?_);rintro e El ⟨a8, n9, Bw, rfl, Ci, D0, Ee, hb⟩;refine mv2 hb hE B7 fun hE B7=>?_;have Cy := hb.size;have Cs := Ext.refl El;have hS := A4 (Br.c B7) (Bs.c B7) (Bt.c B7) (Bu.c B7);refine ⟨_, rfl, hS, ?_⟩;refine wW 7 (.tuple #[.agg #[iv 0, .slice a8 n9 Bw], iv 0]) 8 (.agg #[iv 0, .slice a8 n9 Bw]) hR hS ?_;refine wV 9 (iv 0) hR hS ?_;refine wN 10 25 #[iv 0, .slice none 0 0] hR ?_;intro Bv Eo Co Ef hb hbx;have ⟨Be, Ba⟩ := bq2 hbx;refine mv3 hb hE B7 Cs fun hE B7 Cs=>?_;have Dx := hb.size;have Fe := Be.lt;refine ⟨⟨(Br.c B7), (Bs.c B7), (Bt.c B7), (Bu.c B7)⟩, ?_⟩;refine wS 11 hR (sn_set2 (O := Bv) (j := 0) (v := iv 0) (v' := .slice a8 n9 Bw) (ex_store (p := pw Bv 0) (v := .agg #[iv 0, .slice a8 n9 Bw]) rfl (by kernel_rfl) (by kernel_rfl) (st25 Be.1 Be.2 Ba.1 Ba.2)) Be Ba ?_);intro Ep ho Be Ba hk;replace hE := ho.ext hE (by omega);replace B7 := ho.ext B7 (T (T D1 Cy) (Nat.le_of_eq Co));replace Cs := ho.ext Cs (Nat.le_of_eq Co);have Dy := Nat.le_of_eq ho.size.symm;clear ho hk;refine ⟨⟨(Br.c B7), (Bs.c B7), (Bt.c B7), (Bu.c B7)⟩, ?_⟩;refine wV 12 (iv 0) hR (⟨(Br.c B7), (Bs.c B7), (Bt.c B7), (Bu.c B7)⟩) ?_;refine we hL hR hK ?_;exact zl hJ [3, 5, 6] ⟨a8, n9, Bw, Bv, rfl, hE, B7, (Ci.ext Cs), D0, Be, Ba, (T D1 (T Cy (T Dx Dy))), (T (T D1 Cy) (Nat.le_of_eq Co))⟩
  ·
   refine sw 25 #[iv 0, .slice none 0 0] ?_;intro Dk Fk Cv Eg hb hbx;have ⟨Bg, Bj⟩ := bq2 hbx;refine mv2 hb hE B7 fun hE B7=>?_;have Dz := hb.size;have E9 := Bg.lt;refine ⟨⟨(Br.c B7), (Bs.c B7), (Bt.c B7), (Bu.c B7)⟩, ?_⟩;refine wC 6 26 #[.agg #[iv 0, .slice a0 n0 c0], .agg #[iv 1, .slice a1 n1 c1]] hR ((Merge_y _ _ _ ((H0.ext B7)) (Ext.refl _) ((H1.ext B7)) (Ext.refl _) (hRl.ext hE) hmr).mono ?_);rintro e Ea ⟨D5, Di, Dh, rfl, Dt, D6, D7, hb⟩;refine mv4 hb hE B7 Bg Bj fun hE B7 Bg Bj=>?_;have E0 := hb.size;have Ev := Ext.refl Ea;have hS := A4 (Br.c B7) (Bs.c B7) (Bt.c B7) (Bu.c B7);refine ⟨_, rfl, hS, ?_⟩;refine wW 7 (.tuple #[.agg #[iv 0, .slice D5 Di Dh], iv 0]) 8 (.agg #[iv 0, .slice D5 Di Dh]) hR hS ?_;refine wV 9 (iv 0) hR hS ?_;have Cr := Dt;refine wS 11 hR (sn_set2 (O := Dk) (j := 0) (v := iv 0) (v' := .slice D5 Di Dh) (ex_store (p := pw Dk 0) (v := .agg #[iv 0, .slice D5 Di Dh]) rfl (by kernel_rfl) (by kernel_rfl) (st25 Bg.1 Bg.2 Bj.1 Bj.2)) Bg Bj ?_);intro Er ho Bg Bj hk;replace hE := ho.ext hE (T (T Dm (T Dn D1)) (Nat.le_of_eq Cv));replace B7 := ho.ext B7 (T D1 (Nat.le_of_eq Cv));replace Cr := Cr.turn ho (fun ad e => Nat.ne_of_gt (Nat.lt_of_lt_of_le (Nat.lt_of_lt_of_le E9 (Nat.le_refl _)) (D7 ad e)));have E1 := Nat.le_of_eq ho.size.symm;clear ho hk;refine ⟨⟨(Br.c B7), (Bs.c B7), (Bt.c B7), (Bu.c B7)⟩, ?_⟩;refine wV 12 (iv 0) hR (⟨(Br.c B7), (Bs.c B7), (Bt.c B7), (Bu.c B7)⟩) ?_;refine we hL hR hK ?_;exact zl hJ [3, 5, 6] ⟨D5, Di, Dh, Dk, rfl, hE, B7, Cr, D6, Bg, Bj, (T D1 (T Dz (T E0 E1))), (T D1 (Nat.le_of_eq Cv))⟩
 ·
  clear hE B7;rintro L ws Dl ⟨a8, n9, Bw, Bv, rfl, hE, B7, Ci, D0, Be, Ba, Cx, Fd⟩;have B3 := Ext.refl Dl;have Ff := Be.lt;refine zq (zc (zp (pU (.agg #[iv 0, .slice a8 n9 Bw]) (xl (ld25 (Be.1) (Ba.1))) ?_)));refine pS (sc 13 #[.agg #[iv 0, .slice a8 n9 Bw]] ((Fold_y _ _ (Ci) (Ext.refl _) (hRl.ext hE) (if_pos hvB : Rep.foldO 0 lr = some (Rep.foldF lr))).mono ?_));rintro e Dj ⟨Ca, C7, Cb, rfl, D2, Ec, hb⟩;refine mv3 hb hE B7 B3 fun hE B7 B3=>?_;have Cq := hb.size;have B4 := Ext.refl Dj;refine ⟨_, rfl, pD (.tuple #[.slice Ca C7 Cb, iv 0]) (.slice Ca C7 Cb) ?_⟩;refine pD (iv 0) (.slice Ca C7 Cb) ?_;refine pT (iv 0) ?_;refine zn (zc (zc (zp (pD (iv 0) (.bool false) ?_))));refine pD (.bool false) (iv 0) ?_;refine pD (.bool false) (.bool false) ?_;refine zn (cK [3,5,7,42] (fun L => ?_));refine zf ?_;refine cw_skip (zq (zc (zp (pT (iv 0) ?_))));refine zn (zc (zp (pT (iv 0) ?_)));refine zn (zc (zc (zp (pT (iv 0) ?_))));refine zn (cw_block ?_);have Dr := (Ci.ext B3);obtain ⟨b9, o9, Ey, Dv, D3⟩ := Dr.parts;have F5 := Dr.len;have Fc := Dr.max;have hfdl := ((D2)).len;refine cw_loop [3, 5, 7, 9, 10, 11] (fun ws' wr m => ∃ i m9 h9 : Nat, ws' = [(3, .bool true), (5, pw Bv 0), (7, .slice Ca C7 Cb), (9, iv m9), (10, iv h9), (11, iv i)] ∧ m = n9 - i ∧ Dj.heap.size ≤ wr.heap.size ∧ Ext w wr ∧ Ext w3 wr ∧ Ext Dl wr ∧ Ext Dj wr ∧ i ≤ n9 ∧ m9 = Rep.famSum lr (lr.take i) ∧ h9 = Rep.holdN lr (lr.take i)) (ws0 := [(3, .bool true), (5, pw Bv 0), (7, .slice Ca C7 Cb), (9, iv 0), (10, iv 0), (11, iv 0)]) (by kernel_rfl) _ ⟨0, 0, 0, rfl, rfl, Nat.le_refl _, hE, B7, B3, B4, Nat.zero_le _, rfl, rfl⟩ ?_;clear hE B7 B3 B4;rintro G0 L ws G2 ⟨i, m9, h9, rfl, rfl, C3, hE, B7, B3, B4, hi, Fa, F3⟩
  by_cases hlt : i < n9
  ·
   have F0 := Dv (by omega);obtain rfl := Ey (by omega);refine zc (zc (zp (pD (iv i) (pw Bv 1) ?_)));refine pU (sv b9 o9 n9 Bw) (xl (ld23 (Ba.c B3))) ?_;refine pT (iv n9) ?_;refine pU (.bool true) (ed (((i : Nat) : Int) < ((n9 : Nat) : Int)) (by omega)) ?_;refine zn (zt ?_);refine cw_skip (zq (zc (cw_block ?_)));refine zc (zp (pT (pw Bv 1) ?_));refine pU (sv b9 o9 n9 Bw) (xl (ld23 (Ba.c B3))) ?_;refine pT (iv i) ?_;refine pU (pw b9 (o9 + i * 7)) (xi (sv b9 o9 n9 Bw) (iv i) (ix23 (k := i) (by omega))) ?_;refine pU (.agg #[iv ((recN lr i).c : Int), iv ((recN lr i).n : Int), iv ((recN lr i).t : Int), iv ((recN lr i).o : Int), iv ((recN lr i).w : Int), iv ((recN lr i).k : Int), .string ((recN lr i).x)]) (xl (ld49 ((D3.ext B4).c0 (i := i) (by omega)) ((D3.ext B4).c1 (i := i) (by omega)) ((D3.ext B4).c2 (i := i) (by omega)) ((D3.ext B4).c3 (i := i) (by omega)) ((D3.ext B4).c4 (i := i) (by omega)) ((D3.ext B4).c5 (i := i) (by omega)) ((D3.ext B4).c6 (i := i) (by omega)))) ?_;refine pS (sw 49 #[iv 0, iv 0, iv 0, iv 0, iv 0, iv 0, .string (⟨#[]⟩)] ?_);intro Cw Es Cp Eh hb hbx;have ⟨Bh, Bk, Bm, Bi, Bn, Bo, Bp⟩ := bq7 hbx;refine mv4 hb hE B7 B3 B4 fun hE B7 B3 B4=>?_;have Cl := hb.size;have Fg := Bh.lt;refine pP (sn_setK7 (O := Cw) (j := 0) (v0 := iv ((recN lr i).c : Int)) (v1 := iv ((recN lr i).n : Int)) (v2 := iv ((recN lr i).t : Int)) (v3 := iv ((recN lr i).o : Int)) (v4 := iv ((recN lr i).w : Int)) (v5 := iv ((recN lr i).k : Int)) (v6 := .string ((recN lr i).x)) (xt (pw Cw 0) (.agg #[iv ((recN lr i).c : Int), iv ((recN lr i).n : Int), iv ((recN lr i).t : Int), iv ((recN lr i).o : Int), iv ((recN lr i).w : Int), iv ((recN lr i).k : Int), .string ((recN lr i).x)]) (st49 Bh.1 Bh.2 Bk.1 Bk.2 Bm.1 Bm.2 Bi.1 Bi.2 Bn.1 Bn.2 Bo.1 Bo.2 Bp.1 Bp.2)) Bh Bk Bm Bi Bn Bo Bp ?_);intro Et ho Bh Bk Bm Bi Bn Bo Bp hk;replace hE := ho.ext hE (by omega);replace B7 := ho.ext B7 (T (T Cx (T Cq C3)) (Nat.le_of_eq Cp));replace B3 := ho.ext B3 (T (T Cq C3) (Nat.le_of_eq Cp));replace B4 := ho.ext B4 (T C3 (Nat.le_of_eq Cp));have Cm := Nat.le_of_eq ho.size.symm;clear ho hk;refine zn (cK [3,5,7,9,10,11,12] (fun L => ?_));refine cw_seq ?_;obtain ⟨F, hFd, hH⟩ : ∃ F, F = Rep.famK lr (Rep.rt lr (recN lr i)).key ∧ Rep.HistOf lr (recN lr i) F := ⟨_, rfl, Rep.hist_of hvd (recN_mem (by omega))⟩;refine zp (pU (.agg #[iv 0, sv b9 o9 n9 Bw]) (xl (ld25 (Be.c B3) (Ba.c B3))) ?_);refine pT (pw Cw 0) ?_;refine pU (iv ((recN lr i).c : Int)) (xl (ld3 (Bh.1))) ?_;refine pT (pw Cw 1) ?_;refine pU (iv ((recN lr i).n : Int)) (xl (ld3 (Bk.1))) ?_;refine pS (sc 24 #[.agg #[iv 0, sv b9 o9 n9 Bw], iv ((recN lr i).c : Int), iv ((recN lr i).n : Int)] ((History_y _ _ ((Ci.ext B3)) (Ext.refl _) (hRl.ext hE) (hH.h 0 hvB)).mono ?_));rintro e Eb ⟨Dp, B2, Bf, rfl, Cj, Ed, hb⟩;refine mv5 hb hE B7 B3 B4 Bi fun hE B7 B3 B4 Bi=>?_;have Cn := hb.size;have B0 := Ext.refl Eb;refine ⟨_, rfl, pD (.tuple #[.slice Dp B2 Bf, iv 0]) (.slice Dp B2 Bf) ?_⟩;refine pD (iv 0) (.slice Dp B2 Bf) ?_;refine pT (iv 0) ?_;refine zn (cK [3,5,7,9,10,11,12,13,14] (fun L => ?_));refine zc (cw_seq ?_);have Dq := Cj;obtain ⟨b4, o4, Ew, Du, B8⟩ := Dq.parts;have Dw := Dq.len;have Fb := Dq.max;have hFl := Dw;have hFp := hH.pos;have hFb : F.length ≤ lr.length := by rw [hFd];exact fam_len hvd _
   have Ez := Du (by omega);obtain rfl := Ew (by omega);refine zp (pD (iv 0) (.bool false) ?_);refine pD (.bool false) (sv b4 o4 B2 Bf) ?_;refine pT (iv B2) ?_;refine pU (.bool false) (eN ((B2 : Nat) : Int) (0 : Int) (by omega)) ?_;refine pD (.bool false) (.bool false) ?_;refine pD (sv b4 o4 B2 Bf) (pw Bv 1) ?_;refine pU (sv b9 o9 n9 Bw) (xl (ld23 (Ba.c B3))) ?_;refine pD (iv i) (iv i) ?_;refine pU (iv ((i + 1 : Nat) : Int)) (ew (by omega) (by omega)) ?_;refine pU (sv b9 (o9 + i * 7) ((i + 1) - i) (Bw - i)) (ex_slice (p := sv b9 o9 n9 Bw) rfl (by kernel_rfl) (by kernel_rfl) (by kernel_rfl) (by kernel_rfl) (sl23_110 (k := i) (m := i + 1) (by omega) (by omega) (by omega))) ?_;refine pS (sc 37 #[sv b4 o4 B2 Bf, sv b9 (o9 + i * 7) ((i + 1) - i) (Bw - i)] ((keeps_r (r := true) _ _ _ (Cj) (Ext.refl _) (RecsAt.oneAt (i := i) ((Ci.ext B3)) (by omega) (by omega)) (Ext.refl _) hH.kd (Rep.keeps_1 hH.mem)).mono ?_));rintro e G3 ⟨rfl, hb⟩;refine mv5 hb hE B7 B3 B4 B0 fun hE B7 B3 B4 B0=>?_;have C8 := hb.size;refine ⟨_, rfl, pD (.bool false) (.bool false) ?_⟩;refine pD (.bool false) (pw Bv 1) ?_;refine pU (sv b9 o9 n9 Bw) (xl (ld23 (Ba.c B3))) ?_;refine pT (sv b4 o4 B2 Bf) ?_;refine pS (sc 37 #[sv b9 o9 n9 Bw, sv b4 o4 B2 Bf] ((keeps_r (r := true) _ _ _ ((Ci.ext B3)) (Ext.refl _) ((Cj.ext B0)) (Ext.refl _) hvd.keys (Rep.keeps_t hH.sub)).mono ?_));rintro e Do ⟨rfl, hb⟩;refine mv5 hb hE B7 B3 B4 B0 fun hE B7 B3 B4 B0=>?_;have C9 := hb.size;refine ⟨_, rfl, pD (.bool false) (.bool false) ?_⟩;refine pD (.bool false) (sv b4 o4 B2 Bf) ?_;refine pU (pw b4 o4) (xi (sv b4 o4 B2 Bf) (iv ((0 : Nat) : Int)) (ix23 (k := 0) (by omega))) ?_;refine pT (pw b4 (o4 + 3)) ?_;refine pU (iv ((recN F 0).o : Int)) (xl (ld3 ((B8.ext B0).c3 (i := 0) (by omega)))) ?_;refine pU (.bool false) (ev_nne (show _ = Result.ok (Next.value (Value.bool (((recN F 0).o : Int) != (-1 : Int)))) _ from by kernel_rfl) (hH.root)) ?_;refine pT (.bool false) ?_;refine zn (cK [3,5,7,9,10,11,12,13,95] (fun L => ?_));refine zf ?_;refine cw_skip (zq (zc (zc (zp (pT (iv 1) ?_)))));refine zn (cw_block ?_);have Bc := Ext.refl Do;refine cw_loop [3, 5, 7, 9, 10, 11, 12, 13, 15] (fun ws' wr m => ∃ k : Nat, ws' = [(3, .bool true), (5, pw Bv 0), (7, .slice Ca C7 Cb), (9, iv m9), (10, iv h9), (11, iv i), (12, pw Cw 0), (13, sv b4 o4 B2 Bf), (15, iv k)] ∧ m = B2 - k ∧ Do.heap.size ≤ wr.heap.size ∧ Ext w wr ∧ Ext w3 wr ∧ Ext Dl wr ∧ Ext Dj wr ∧ Ext Eb wr ∧ Ext Do wr ∧ 1 ≤ k ∧ k ≤ B2) (ws0 := [(3, .bool true), (5, pw Bv 0), (7, .slice Ca C7 Cb), (9, iv m9), (10, iv h9), (11, iv i), (12, pw Cw 0), (13, sv b4 o4 B2 Bf), (15, iv 1)]) (by kernel_rfl) _ ⟨1, rfl, rfl, Nat.le_refl _, hE, B7, B3, B4, B0, Bc, Nat.le_refl _, by omega⟩ ?_;clear hE B7 B3 B4 B0 Bc;rintro G1 L ws G4 ⟨k, rfl, rfl, C4, hE, B7, B3, B4, B0, Bc, Fu, hk⟩
   by_cases hlt : k < B2
   ·
    obtain ⟨Fv, F6, z, F7, F8⟩ := hH.more k (by omega) (by omega);refine zc (zc (zp (pD (iv k) (sv b4 o4 B2 Bf) ?_)));refine pT (iv B2) ?_;refine pU (.bool true) (ed (((k : Nat) : Int) < ((B2 : Nat) : Int)) (by omega)) ?_;refine zn (zt ?_);refine cw_skip (zq (zc (cw_block ?_)));refine zc (dE Tz70_1 (fun w' => w'.cell? ⟨b4, o4 + k * 7 + 3, none⟩ = some (iv ((recN F k).o : Int)) ∧ w'.cell? ⟨b4, o4 + k * 7, none⟩ = some (iv ((recN F k).c : Int)) ∧ w'.cell? ⟨b4, o4 + k * 7 + 1, none⟩ = some (iv ((recN F k).n : Int)) ∧ w'.cell? ⟨b4, o4 + k * 7 + 2, none⟩ = some (iv ((recN F k).t : Int)) ∧ w'.cell? ⟨b4, o4 + k * 7 + 4, none⟩ = some (iv ((recN F k).w : Int)) ∧ w'.cell? ⟨b4, o4 + k * 7 + 5, none⟩ = some (iv ((recN F k).k : Int)) ∧ w'.cell? ⟨b4, o4 + k * 7 + 6, none⟩ = some (.string ((recN F k).x)) ∧ w'.cell? ⟨b4, o4 + (k - 1) * 7, none⟩ = some (iv ((recN F (k - 1)).c : Int)) ∧ w'.cell? ⟨b4, o4 + (k - 1) * 7 + 1, none⟩ = some (iv ((recN F (k - 1)).n : Int)) ∧ w'.cell? ⟨b4, o4 + (k - 1) * 7 + 2, none⟩ = some (iv ((recN F (k - 1)).t : Int)) ∧ w'.cell? ⟨b4, o4 + (k - 1) * 7 + 3, none⟩ = some (iv ((recN F (k - 1)).o : Int)) ∧ w'.cell? ⟨b4, o4 + (k - 1) * 7 + 4, none⟩ = some (iv ((recN F (k - 1)).w : Int)) ∧ w'.cell? ⟨b4, o4 + (k - 1) * 7 + 5, none⟩ = some (iv ((recN F (k - 1)).k : Int)) ∧ w'.cell? ⟨b4, o4 + (k - 1) * 7 + 6, none⟩ = some (.string ((recN F (k - 1)).x))) (⟨(B8.ext B0).c3 (i := k) (by omega), (B8.ext B0).c0 (i := k) (by omega), (B8.ext B0).c1 (i := k) (by omega), (B8.ext B0).c2 (i := k) (by omega), (B8.ext B0).c4 (i := k) (by omega), (B8.ext B0).c5 (i := k) (by omega), (B8.ext B0).c6 (i := k) (by omega), (B8.ext B0).c0 (i := k - 1) (by omega), (B8.ext B0).c1 (i := k - 1) (by omega), (B8.ext B0).c2 (i := k - 1) (by omega), (B8.ext B0).c3 (i := k - 1) (by omega), (B8.ext B0).c4 (i := k - 1) (by omega), (B8.ext B0).c5 (i := k - 1) (by omega), (B8.ext B0).c6 (i := k - 1) (by omega)⟩) (fun ops Q Fl hb hL hR hK => ?_));refine mv6 hb hE B7 B3 B4 B0 Bc fun hE B7 B3 B4 B0 Bc=>?_;have E2 := hb.size;have hS := A14 ((B8.ext B0).c3 (i := k) (by omega)) ((B8.ext B0).c0 (i := k) (by omega)) ((B8.ext B0).c1 (i := k) (by omega)) ((B8.ext B0).c2 (i := k) (by omega)) ((B8.ext B0).c4 (i := k) (by omega)) ((B8.ext B0).c5 (i := k) (by omega)) ((B8.ext B0).c6 (i := k) (by omega)) ((B8.ext B0).c0 (i := k - 1) (by omega)) ((B8.ext B0).c1 (i := k - 1) (by omega)) ((B8.ext B0).c2 (i := k - 1) (by omega)) ((B8.ext B0).c3 (i := k - 1) (by omega)) ((B8.ext B0).c4 (i := k - 1) (by omega)) ((B8.ext B0).c5 (i := k - 1) (by omega)) ((B8.ext B0).c6 (i := k - 1) (by omega));refine wW 0 (sv b4 o4 B2 Bf) 1 (iv k) hR hS ?_;refine wL 2 (pw b4 (o4 + k * 7)) hR (fun w _ => ex_index (p := sv b4 o4 B2 Bf) (i := iv k) rfl (by kernel_rfl) (by kernel_rfl) (ix23 (k := k) (by omega))) hS ?_;refine wV 3 (pw b4 (o4 + k * 7 + 3)) hR hS ?_;refine wM 4 (iv ((recN F k).o : Int)) hR (fun w hS => ld3 (hS.1)) hS ?_;refine wL 5 (.bool false) hR (fun w _ => ev_ndec (show _ = Result.ok (Next.value (Value.bool (decide (((recN F k).o : Int) < (0 : Int))))) _ from by kernel_rfl) (by omega)) hS ?_;refine wW 6 (.bool false) 7 (sv b4 o4 B2 Bf) hR hS ?_;refine wV 8 (iv k) hR hS ?_;refine wL 9 (pw b4 (o4 + k * 7)) hR (fun w _ => ex_index (p := sv b4 o4 B2 Bf) (i := iv k) rfl (by kernel_rfl) (by kernel_rfl) (ix23 (k := k) (by omega))) hS ?_;refine wM 10 (.agg #[iv ((recN F k).c : Int), iv ((recN F k).n : Int), iv ((recN F k).t : Int), iv ((recN F k).o : Int), iv ((recN F k).w : Int), iv ((recN F k).k : Int), .string ((recN F k).x)]) hR (fun w hS => ld49 (hS.2.1) (hS.2.2.1) (hS.2.2.2.1) (hS.1) (hS.2.2.2.2.1) (hS.2.2.2.2.2.1) (hS.2.2.2.2.2.2.1)) hS ?_;refine wW 11 (sv b4 o4 B2 Bf) 12 (iv k) hR hS ?_;refine wL 13 (iv ((k - 1 : Nat) : Int)) hR (fun w _ => ev_int (ev_wrapI (a := ((k : Nat) : Int) - 1) (by kernel_rfl) (by omega) (by omega)) (by omega)) hS ?_;refine wL 14 (pw b4 (o4 + (k - 1) * 7)) hR (fun w _ => ex_index (p := sv b4 o4 B2 Bf) (i := iv ((k - 1 : Nat) : Int)) rfl (by kernel_rfl) (by kernel_rfl) (ix23 (k := k - 1) (by omega))) hS ?_;refine wM 15 (.agg #[iv ((recN F (k - 1)).c : Int), iv ((recN F (k - 1)).n : Int), iv ((recN F (k - 1)).t : Int), iv ((recN F (k - 1)).o : Int), iv ((recN F (k - 1)).w : Int), iv ((recN F (k - 1)).k : Int), .string ((recN F (k - 1)).x)]) hR (fun w hS => ld49 (hS.2.2.2.2.2.2.2.1) (hS.2.2.2.2.2.2.2.2.1) (hS.2.2.2.2.2.2.2.2.2.1) (hS.2.2.2.2.2.2.2.2.2.2.1) (hS.2.2.2.2.2.2.2.2.2.2.2.1) (hS.2.2.2.2.2.2.2.2.2.2.2.2.1) (hS.2.2.2.2.2.2.2.2.2.2.2.2.2)) hS ?_;refine wC 16 39 #[.agg #[iv ((recN F k).c : Int), iv ((recN F k).n : Int), iv ((recN F k).t : Int), iv ((recN F k).o : Int), iv ((recN F k).w : Int), iv ((recN F k).k : Int), .string ((recN F k).x)], .agg #[iv ((recN F (k - 1)).c : Int), iv ((recN F (k - 1)).n : Int), iv ((recN F (k - 1)).t : Int), iv ((recN F (k - 1)).o : Int), iv ((recN F (k - 1)).w : Int), iv ((recN F (k - 1)).k : Int), .string ((recN F (k - 1)).x)]] hR ((rBefore_r (recN F k) (recN F (k - 1)) (r := false) _ (decide_eq_false F6)).mono ?_);rintro e G5 ⟨rfl, hb⟩;refine mv6 hb hE B7 B3 B4 B0 Bc fun hE B7 B3 B4 B0 Bc=>?_;have E3 := hb.size;have hS := A14 ((B8.ext B0).c3 (i := k) (by omega)) ((B8.ext B0).c0 (i := k) (by omega)) ((B8.ext B0).c1 (i := k) (by omega)) ((B8.ext B0).c2 (i := k) (by omega)) ((B8.ext B0).c4 (i := k) (by omega)) ((B8.ext B0).c5 (i := k) (by omega)) ((B8.ext B0).c6 (i := k) (by omega)) ((B8.ext B0).c0 (i := k - 1) (by omega)) ((B8.ext B0).c1 (i := k - 1) (by omega)) ((B8.ext B0).c2 (i := k - 1) (by omega)) ((B8.ext B0).c3 (i := k - 1) (by omega)) ((B8.ext B0).c4 (i := k - 1) (by omega)) ((B8.ext B0).c5 (i := k - 1) (by omega)) ((B8.ext B0).c6 (i := k - 1) (by omega));refine ⟨_, rfl, hS, ?_⟩;refine wV 17 (.bool false) hR hS ?_
    refine wW 18 (.bool false) 19 (sv b4 o4 B2 Bf) hR hS ?_;refine wV 20 (iv k) hR hS ?_;refine wL 21 (sv b4 o4 k Bf) hR (fun w _ => ex_slice (p := sv b4 o4 B2 Bf) rfl (by kernel_rfl) (by kernel_rfl) (by kernel_rfl) (by kernel_rfl) (sl23_010 (m := k) (by omega) (by omega))) hS ?_;refine wW 22 (sv b4 o4 B2 Bf) 23 (sv b4 o4 B2 Bf) hR hS ?_;refine wV 24 (iv k) hR hS ?_;refine wL 25 (pw b4 (o4 + k * 7)) hR (fun w _ => ex_index (p := sv b4 o4 B2 Bf) (i := iv k) rfl (by kernel_rfl) (by kernel_rfl) (ix23 (k := k) (by omega))) hS ?_;refine wM 26 (.agg #[iv ((recN F k).c : Int), iv ((recN F k).n : Int), iv ((recN F k).t : Int), iv ((recN F k).o : Int), iv ((recN F k).w : Int), iv ((recN F k).k : Int), .string ((recN F k).x)]) hR (fun w hS => ld49 (hS.2.1) (hS.2.2.1) (hS.2.2.2.1) (hS.1) (hS.2.2.2.2.1) (hS.2.2.2.2.2.1) (hS.2.2.2.2.2.2.1)) hS ?_;refine wC 27 40 #[sv b4 o4 B2 Bf, .agg #[iv ((recN F k).c : Int), iv ((recN F k).n : Int), iv ((recN F k).t : Int), iv ((recN F k).o : Int), iv ((recN F k).w : Int), iv ((recN F k).k : Int), .string ((recN F k).x)]] hR ((of_c (x := recN F k) (y := z) _ _ ((Cj.ext B0)) (Ext.refl _) F7).mono ?_);rintro e G6 ⟨rfl, hb⟩;refine mv6 hb hE B7 B3 B4 B0 Bc fun hE B7 B3 B4 B0 Bc=>?_;have E4 := hb.size;refine ⟨_, rfl, ⟨(B8.ext B0).c3 (i := k) (by omega), (B8.ext B0).c0 (i := k) (by omega), (B8.ext B0).c1 (i := k) (by omega), (B8.ext B0).c2 (i := k) (by omega), (B8.ext B0).c4 (i := k) (by omega), (B8.ext B0).c5 (i := k) (by omega), (B8.ext B0).c6 (i := k) (by omega), (B8.ext B0).c0 (i := k - 1) (by omega), (B8.ext B0).c1 (i := k - 1) (by omega), (B8.ext B0).c2 (i := k - 1) (by omega), (B8.ext B0).c3 (i := k - 1) (by omega), (B8.ext B0).c4 (i := k - 1) (by omega), (B8.ext B0).c5 (i := k - 1) (by omega), (B8.ext B0).c6 (i := k - 1) (by omega)⟩, ?_⟩;refine wS 28 hR (sn_newS (us := #[iv z.c, iv z.n, iv z.t, iv z.o, iv z.w, iv z.k, .string z.x]) (t := 49) (k := 1) (c := 1) (by kernel_rfl) ?_);intro Em Fm Ek Ei hb hbx;have ⟨C6, Cc, Cd, Ce, Cf, Cg, Ch⟩ := bq7 hbx;refine mv6 hb hE B7 B3 B4 B0 Bc fun hE B7 B3 B4 B0 Bc=>?_;have E5 := hb.size;have Fh := C6.lt;refine ⟨⟨(B8.ext B0).c3 (i := k) (by omega), (B8.ext B0).c0 (i := k) (by omega), (B8.ext B0).c1 (i := k) (by omega), (B8.ext B0).c2 (i := k) (by omega), (B8.ext B0).c4 (i := k) (by omega), (B8.ext B0).c5 (i := k) (by omega), (B8.ext B0).c6 (i := k) (by omega), (B8.ext B0).c0 (i := k - 1) (by omega), (B8.ext B0).c1 (i := k - 1) (by omega), (B8.ext B0).c2 (i := k - 1) (by omega), (B8.ext B0).c3 (i := k - 1) (by omega), (B8.ext B0).c4 (i := k - 1) (by omega), (B8.ext B0).c5 (i := k - 1) (by omega), (B8.ext B0).c6 (i := k - 1) (by omega)⟩, ?_⟩;refine wC 29 37 #[sv b4 o4 k Bf, sv Em 0 1 1] hR ((keeps_r (r := true) _ _ _ (((Cj.ext B0)).take (k := k) (by omega)) (Ext.refl _) (RecsAt.lit C6 Cc Cd Ce Cf Cg Ch) (Ext.refl _) (hH.kd.take _) (Rep.keeps_1 F8)).mono ?_);rintro e G7 ⟨rfl, hb⟩;refine mv6 hb hE B7 B3 B4 B0 Bc fun hE B7 B3 B4 B0 Bc=>?_;have E6 := hb.size;have hS := A14 ((B8.ext B0).c3 (i := k) (by omega)) ((B8.ext B0).c0 (i := k) (by omega)) ((B8.ext B0).c1 (i := k) (by omega)) ((B8.ext B0).c2 (i := k) (by omega)) ((B8.ext B0).c4 (i := k) (by omega)) ((B8.ext B0).c5 (i := k) (by omega)) ((B8.ext B0).c6 (i := k) (by omega)) ((B8.ext B0).c0 (i := k - 1) (by omega)) ((B8.ext B0).c1 (i := k - 1) (by omega)) ((B8.ext B0).c2 (i := k - 1) (by omega)) ((B8.ext B0).c3 (i := k - 1) (by omega)) ((B8.ext B0).c4 (i := k - 1) (by omega)) ((B8.ext B0).c5 (i := k - 1) (by omega)) ((B8.ext B0).c6 (i := k - 1) (by omega));refine ⟨_, rfl, hS, ?_⟩;refine wW 30 (.bool false) 31 (.bool false) hR hS ?_;refine we hL hR hK ?_;refine zq (cK [3,5,7,9,10,11,12,13,15,133] (fun L => ?_));refine zf ?_;refine cw_skip (qw_block (zq (zp (pT (iv k) ?_))));refine pU (iv ((k + 1 : Nat) : Int)) (ew (by omega) (by omega)) ?_;refine pT (iv ((k + 1 : Nat) : Int)) ?_;refine pl_nil (zr [3, 5, 7, 9, 10, 11, 12, 13, 15] _ ?_ ⟨(k + 1), rfl, rfl, (T C4 (T E2 (T E3 (T E4 (T E5 E6))))), hE, B7, B3, B4, B0, Bc, by omega, by omega⟩);omega
   ·
    refine zc (zc (zp (pD (iv k) (sv b4 o4 B2 Bf) ?_)));refine pT (iv B2) ?_;refine pU (.bool false) (en (((k : Nat) : Int) < ((B2 : Nat) : Int)) (by omega)) ?_;refine zn (zf ?_);refine cw_exit (qw_then_exit (qw_then_exit (qw_block_out (zq (zc (cw_seq ?_))))));have hoo := Rep.root_o hvd (recN_mem (l := lr) (i := i) (by omega))
    by_cases hro : Rep.isRoot (recN lr i)
    ·
     have hol := hoo.2 hro;have hFx : F = Rep.famK lr (recN lr i).key := by rw [hFd, Rep.rt_root hro]
     have hlst : recN F (B2 - 1) = Rep.lastR (Rep.famK lr (recN lr i).key) := by rw [← hFx];unfold Rep.lastR;rw [hFl]
     have hfh := Rep.fold_has (l := lr) (recN_mem (i := i) (by omega)) hro;rw [← hlst] at hfh;have Fp := Rep.famSum_le (l := lr) (by omega) (lr.take i);have Fq := Rep.holdN_le (l := lr) (lr.take i);have Fr := List.length_take_le i lr;refine zp (pT (pw Cw 3) ?_);refine pU (iv ((recN lr i).o : Int)) (xl (ld3 (Bi.c B0))) ?_;refine pU (.bool false) (en (((recN lr i).o : Int) ≥ (0 : Int)) (by omega)) ?_;refine zn (cK [3,5,7,9,10,11,13,136] (fun L => ?_));refine zf ?_;refine cw_skip (zq (zc (zp (pD (iv m9) (sv b4 o4 B2 Bf) ?_))));refine pT (iv B2) ?_;refine pU (iv ((m9 + B2 : Nat) : Int)) (ew (by omega) (by omega)) ?_;refine pT (iv ((m9 + B2 : Nat) : Int)) ?_;refine zn (zc (zp (pD (sv b4 o4 B2 Bf) (sv b4 o4 B2 Bf) ?_)));refine pT (iv B2) ?_;refine pU (iv ((B2 - 1 : Nat) : Int)) (ev_int (ev_wrapI (a := ((B2 : Nat) : Int) - 1) (by kernel_rfl) (by omega) (by omega)) (by omega)) ?_;refine pU (pw b4 (o4 + (B2 - 1) * 7)) (xi (sv b4 o4 B2 Bf) (iv ((B2 - 1 : Nat) : Int)) (ix23 (k := B2 - 1) (by omega))) ?_;refine pU (.agg #[iv ((recN F (B2 - 1)).c : Int), iv ((recN F (B2 - 1)).n : Int), iv ((recN F (B2 - 1)).t : Int), iv ((recN F (B2 - 1)).o : Int), iv ((recN F (B2 - 1)).w : Int), iv ((recN F (B2 - 1)).k : Int), .string ((recN F (B2 - 1)).x)]) (xl (ld49 ((B8.ext B0).c0 (i := B2 - 1) (by omega)) ((B8.ext B0).c1 (i := B2 - 1) (by omega)) ((B8.ext B0).c2 (i := B2 - 1) (by omega)) ((B8.ext B0).c3 (i := B2 - 1) (by omega)) ((B8.ext B0).c4 (i := B2 - 1) (by omega)) ((B8.ext B0).c5 (i := B2 - 1) (by omega)) ((B8.ext B0).c6 (i := B2 - 1) (by omega)))) ?_;refine pS (sw 49 #[iv 0, iv 0, iv 0, iv 0, iv 0, iv 0, .string (⟨#[]⟩)] ?_);intro Cz Eu C5 Ej hb hbx;have ⟨Bq, Bx, By, Bz, C0, C1, Bb⟩ := bq7 hbx;refine mv5 hb hE B7 B3 B4 B0 fun hE B7 B3 B4 B0=>?_;have Da := hb.size;have Fi := Bq.lt;refine pP (sn_setK7 (O := Cz) (j := 0) (v0 := iv ((recN F (B2 - 1)).c : Int)) (v1 := iv ((recN F (B2 - 1)).n : Int)) (v2 := iv ((recN F (B2 - 1)).t : Int)) (v3 := iv ((recN F (B2 - 1)).o : Int)) (v4 := iv ((recN F (B2 - 1)).w : Int)) (v5 := iv ((recN F (B2 - 1)).k : Int)) (v6 := .string ((recN F (B2 - 1)).x)) (xt (pw Cz 0) (.agg #[iv ((recN F (B2 - 1)).c : Int), iv ((recN F (B2 - 1)).n : Int), iv ((recN F (B2 - 1)).t : Int), iv ((recN F (B2 - 1)).o : Int), iv ((recN F (B2 - 1)).w : Int), iv ((recN F (B2 - 1)).k : Int), .string ((recN F (B2 - 1)).x)]) (st49 Bq.1 Bq.2 Bx.1 Bx.2 By.1 By.2 Bz.1 Bz.2 C0.1 C0.2 C1.1 C1.2 Bb.1 Bb.2)) Bq Bx By Bz C0 C1 Bb ?_);intro D4 ho Bq Bx By Bz C0 C1 Bb hk;replace hE := ho.ext hE (by omega);replace B7 := ho.ext B7 (by omega);replace B3 := ho.ext B3 (by omega);replace B4 := ho.ext B4 (by omega);replace B0 := ho.ext B0 (T (T C8 (T C9 C4)) (Nat.le_of_eq C5));have Db := Nat.le_of_eq ho.size.symm;clear ho hk;refine zn (cK [3,5,7,9,10,11,13,16] (fun L => ?_));refine zc (cw_seq ?_)
     by_cases hte : (recN F (B2 - 1)).x = ⟨#[]⟩
     ·
      have Ck := Ext.refl D4;refine dE Tz70_2 (fun w' => w'.cell? ⟨Cz, 6, none⟩ = some (.string ((recN F (B2 - 1)).x))) (Bb.1) (fun ops Q Fo hb hL hR hK => ?_);refine mv6 hb hE B7 B3 B4 B0 Ck fun hE B7 B3 B4 B0 Ck=>?_;have E7 := hb.size;have hS := (Bb.c Ck);refine wV 0 (pw Cz 6) hR hS ?_;refine wM 1 (.string ((recN F (B2 - 1)).x)) hR (fun w hS => ld9 (hS)) hS ?_;refine wL 2 (.bool false) hR (fun w _ => ex_binV (a := .string ((recN F (B2 - 1)).x)) (b := .string (⟨#[]⟩)) rfl (by kernel_rfl) (by kernel_rfl) eqG_str (bin_nqs_t hte)) hS ?_;refine wW 3 (.slice Ca C7 Cb) 4 (sv b4 o4 B2 Bf) hR hS ?_;refine wW 5 (sv b4 o4 B2 Bf) 6 (iv B2) hR hS ?_;refine wL 7 (iv ((B2 - 1 : Nat) : Int)) hR (fun w _ => ev_int (ev_wrapI (a := ((B2 : Nat) : Int) - 1) (by kernel_rfl) (by omega) (by omega)) (by omega)) hS ?_;refine wL 8 (sv b4 (o4 + (B2 - 1) * 7) (B2 - (B2 - 1)) (Bf - (B2 - 1))) hR (fun w _ => ex_slice (p := sv b4 o4 B2 Bf) rfl (by kernel_rfl) (by kernel_rfl) (by kernel_rfl) (by kernel_rfl) (sl23_100 (k := B2 - 1) (by omega) (by omega) (by omega))) hS ?_;refine wC 9 37 #[.slice Ca C7 Cb, sv b4 (o4 + (B2 - 1) * 7) (B2 - (B2 - 1)) (Bf - (B2 - 1))] hR ((keeps_r (r := false) _ _ _ ((D2.ext B4)) (Ext.refl _) (RecsAt.oneAt (i := B2 - 1) ((Cj.ext B0)) (by omega) (by omega)) (Ext.refl _) (Rep.fold_keys hvd) (Rep.keeps_0 (fun q => hfh.1 q hte))).mono ?_);rintro e G8 ⟨rfl, hb⟩;refine mv6 hb hE B7 B3 B4 B0 Ck fun hE B7 B3 B4 B0 Ck=>?_;have E8 := hb.size;have hS := (Bb.c Ck);refine ⟨_, rfl, hS, ?_⟩;refine wV 10 (.bool false) hR hS ?_;refine we hL hR hK ?_;refine zq (cK [3,5,7,9,10,11,16,157] (fun L => ?_));refine zf ?_;refine cw_skip (zq (zc (zp (pT (pw Cz 6) ?_))));refine pU (.string ((recN F (B2 - 1)).x)) (xl (ld9 (Bb.c Ck))) ?_;refine pU (.bool false) (ex_binV (a := .string ((recN F (B2 - 1)).x)) (b := .string (⟨#[]⟩)) rfl (by kernel_rfl) (by kernel_rfl) eqG_str (bin_nqs_t hte)) ?_;refine zn (zf ?_);refine cw_skip (qw_block (zq (zp (pT (iv i) ?_))));refine pU (iv ((i + 1 : Nat) : Int)) (ew (by omega) (by omega)) ?_;refine pT (iv ((i + 1 : Nat) : Int)) ?_;refine pl_nil (zr [3, 5, 7, 9, 10, 11] _ ?_ ⟨(i + 1), (m9 + B2), h9, rfl, rfl, (by omega), hE, B7, B3, B4, by omega, (by have := Rep.famSum_take (l := lr) (i := i) (by omega); rw [if_pos hro, ← hFx, hFl] at this; omega), (by have := Rep.holdN_take (l := lr) (i := i) (by omega); rw [← hlst, if_neg (fun q => q.2 hte)] at this; omega)⟩);omega
     ·
      have C2 := Ext.refl D4;refine dE Tz70_2 (fun w' => w'.cell? ⟨Cz, 6, none⟩ = some (.string ((recN F (B2 - 1)).x))) (Bb.1) (fun ops Q En hb hL hR hK => ?_);refine mv6 hb hE B7 B3 B4 B0 C2 fun hE B7 B3 B4 B0 C2=>?_;have D8 := hb.size;have hS := (Bb.c C2);refine wV 0 (pw Cz 6) hR hS ?_;refine wM 1 (.string ((recN F (B2 - 1)).x)) hR (fun w hS => ld9 (hS)) hS ?_;refine wL 2 (.bool true) hR (fun w _ => ex_binV (a := .string ((recN F (B2 - 1)).x)) (b := .string (⟨#[]⟩)) rfl (by kernel_rfl) (by kernel_rfl) eqG_str (bin_nqs_f hte)) hS ?_;refine wW 3 (.slice Ca C7 Cb) 4 (sv b4 o4 B2 Bf) hR hS ?_;refine wW 5 (sv b4 o4 B2 Bf) 6 (iv B2) hR hS ?_;refine wL 7 (iv ((B2 - 1 : Nat) : Int)) hR (fun w _ => ev_int (ev_wrapI (a := ((B2 : Nat) : Int) - 1) (by kernel_rfl) (by omega) (by omega)) (by omega)) hS ?_;refine wL 8 (sv b4 (o4 + (B2 - 1) * 7) (B2 - (B2 - 1)) (Bf - (B2 - 1))) hR (fun w _ => ex_slice (p := sv b4 o4 B2 Bf) rfl (by kernel_rfl) (by kernel_rfl) (by kernel_rfl) (by kernel_rfl) (sl23_100 (k := B2 - 1) (by omega) (by omega) (by omega))) hS ?_;refine wC 9 37 #[.slice Ca C7 Cb, sv b4 (o4 + (B2 - 1) * 7) (B2 - (B2 - 1)) (Bf - (B2 - 1))] hR ((keeps_r (r := true) _ _ _ ((D2.ext B4)) (Ext.refl _) (RecsAt.oneAt (i := B2 - 1) ((Cj.ext B0)) (by omega) (by omega)) (Ext.refl _) (Rep.fold_keys hvd) (Rep.keeps_1 (hfh.2 hte))).mono ?_);rintro e Fj ⟨rfl, hb⟩;refine mv6 hb hE B7 B3 B4 B0 C2 fun hE B7 B3 B4 B0 C2=>?_;have D9 := hb.size;have hS := (Bb.c C2);refine ⟨_, rfl, hS, ?_⟩;refine wV 10 (.bool false) hR hS ?_;refine we hL hR hK ?_;refine zq (cK [3,5,7,9,10,11,16,157] (fun L => ?_));refine zf ?_;refine cw_skip (zq (zc (zp (pT (pw Cz 6) ?_))));refine pU (.string ((recN F (B2 - 1)).x)) (xl (ld9 (Bb.c C2))) ?_;refine pU (.bool true) (ex_binV (a := .string ((recN F (B2 - 1)).x)) (b := .string (⟨#[]⟩)) rfl (by kernel_rfl) (by kernel_rfl) eqG_str (bin_nqs_f hte)) ?_;refine zn (zt ?_);refine zp (pT (iv h9) ?_);refine pU (iv ((h9 + 1 : Nat) : Int)) (ew (by omega) (by omega)) ?_;refine pT (iv ((h9 + 1 : Nat) : Int)) ?_;refine pl_nil (qw_block (zq (zp (pT (iv i) ?_))));refine pU (iv ((i + 1 : Nat) : Int)) (ew (by omega) (by omega)) ?_;refine pT (iv ((i + 1 : Nat) : Int)) ?_;refine pl_nil (zr [3, 5, 7, 9, 10, 11] _ ?_ ⟨(i + 1), (m9 + B2), (h9 + 1), rfl, rfl, (by omega), hE, B7, B3, B4, by omega, (by have := Rep.famSum_take (l := lr) (i := i) (by omega); rw [if_pos hro, ← hFx, hFl] at this; omega), (by have := Rep.holdN_take (l := lr) (i := i) (by omega); rw [← hlst, if_pos ⟨hro, hte⟩] at this; omega)⟩);omega
    ·
     have hol : ¬ (recN lr i).o < 0 := fun q => hro (hoo.1 q)
     refine zp (pT (pw Cw 3) ?_);refine pU (iv ((recN lr i).o : Int)) (xl (ld3 (Bi.c B0))) ?_;refine pU (.bool true) (ed (((recN lr i).o : Int) ≥ (0 : Int)) (by omega)) ?_;refine zn (cK [3,5,7,9,10,11,13,136] (fun L => ?_));refine zt ?_;refine cw_exit (qw_then_exit (qw_block_out (zq (zp (pT (iv i) ?_)))));refine pU (iv ((i + 1 : Nat) : Int)) (ew (by omega) (by omega)) ?_;refine pT (iv ((i + 1 : Nat) : Int)) ?_;refine pl_nil (zr [3, 5, 7, 9, 10, 11] _ ?_ ⟨(i + 1), m9, h9, rfl, rfl, (by omega), hE, B7, B3, B4, by omega, (by have := Rep.famSum_take (l := lr) (i := i) (by omega); rw [if_neg hro] at this; omega), (by have := Rep.holdN_take (l := lr) (i := i) (by omega); rw [if_neg (fun q => hro q.1)] at this; omega)⟩);omega
  ·
   have hin : i = n9 := by omega
   rw [show lr.take i = lr from List.take_of_length_le (by omega)] at Fa F3;have Fy := Rep.famSum_all hvd;have Fz := Rep.holdN_all (l := lr);refine zc (zc (zp (pD (iv i) (pw Bv 1) ?_)));refine pU (.slice a8 n9 Bw) (xl (ld23 (Ba.c B3))) ?_;refine pT (iv n9) ?_;refine pU (.bool false) (en (((i : Nat) : Int) < ((n9 : Nat) : Int)) (by omega)) ?_;refine zn (zf ?_);refine cw_exit (qw_then_exit (qw_then_exit (qw_block_out (zq (zc (zp (pD (.bool true) (.bool true) ?_)))))));refine pD (iv m9) (pw Bv 1) ?_;refine pU (.slice a8 n9 Bw) (xl (ld23 (Ba.c B3))) ?_;refine pT (iv n9) ?_;refine pU (.bool true) (eE ((m9 : Nat) : Int) ((n9 : Nat) : Int) (by omega)) ?_;refine pD (.bool true) (.bool true) ?_;refine pD (iv h9) (.slice Ca C7 Cb) ?_;refine pT (iv C7) ?_;refine pU (.bool true) (eE ((h9 : Nat) : Int) ((C7 : Nat) : Int) (by omega)) ?_;refine pD (.bool true) (.bool true) ?_;refine zn (cK [2] (fun L => ?_));refine cw_ret (qw_ret [.bool true] rfl ⟨(by kernel_rfl), trivial⟩ ?_);exact ⟨rfl, hE⟩
end Go.Proofs.YtfmoabgjaclkpaaGreatDoor

namespace Go.Proofs.YtfmoabgjaclkpaaGreatDoor
open Go.ChangeShapes Go.WideShapes Go.ChangeAt Go.RowKit
set_option maxRecDepth 100000 in
theorem ReplicaHistories_lifted (os : Os) (started : os.Started) (H : Type) (enc : TypeId × Value → H) :
  ReturnsInHanded {} Tryz.checked os 7 .any (fun w args => (Rows.replicaHistoriesSpec.pre enc Tryz.prog Tryz.f7 [] false w args ∧ laidMetH Tryz.prog laidTabs w) ∧ sizedMet enc Tryz.prog Tryz.f7 (OpenSpec.ofChange Rows.replicaHistoriesSpec) false w args)
   (Rows.replicaHistoriesSpec.post enc Tryz.prog Tryz.f7 false true false false) := by
 refine returnsInHanded_of_change_and (C := Tryz.checked) (X := fun w _ => laidMetH Tryz.prog laidTabs w) (fun _ _ _ hh h => h.of_heap hh) own started (by kernel_rfl) Tryz.func7
  (ChangeSpec.witness_shaped (enc := enc) (C := Tryz.checked) (os := os) (X := fun w _ => laidMetH Tryz.prog laidTabs w) false (World.doorLaid Tryz.prog 19 os) #[.slice none 0 0] 8 rfl (World.shaped_of_RefB (by kernel_rfl) (by kernel_rfl)) (by kernel_rfl) (by kernel_rfl) (by kernel_rfl) (door_met os _)) ?_
 intro W base args ds gs before hval0 hW _ hsz hL _
 have hval : ∀ (j : Nat) t v, Tryz.f7.params[j]? = some t → args[j]? = some v → Value.okWide Tryz.prog W .any base t v := hval0
 have hW' := hW
 obtain ⟨p, q, hA0, hV, rfl, hfz, hnd⟩ := hW
 have hA : DataW.TrodAll enc Tryz.prog W 0 (fun _ => true) true Tryz.f7.params.toList args.toList ds p := hA0
 rw [Tryz.params7] at hA hval
 obtain ⟨v0, vs0, d0, ds0, p0, q0, hargs, rfl, rfl, h0, r0⟩ := trodAll_cons hA
 obtain ⟨rfl, rfl, rfl⟩ := trodAll_nil r0
 obtain rfl : args = #[v0] := by cases args; simp_all
 obtain ⟨rfl, rfl⟩ := trodVars_none hV
 have k0 := h0
 have lt0 : ∀ x ∈ p0, x.block < W.heap.size := by obtain ⟨m, hm⟩ := k0; exact DataW.trod_lt m _ _ _ hm
 have op0 := open_quads (hval 0 _ v0 rfl rfl) h0
 clear hA0 hval0
 refine (ReplicaHistories_walk W v0 op0 (tab_of_laid hL)).mono fun e W' ⟨he, hE⟩ => ?_
 subst he
 have bel : Below W.heap.size W W' := hE
 exact ⟨_, rfl, _, _, _, [], _, [], hW', trodAll_mk1 (shut_bool Tryz.underlying4 _), (trodAll_cons_mk (Below.trod laidOut (by kernel_rfl) (of_decide_eq_true (by kernel_rfl)) k0 bel lt0) trodAll_mk0), rfl, bel.frame _, fun h => by cases h⟩
theorem ReplicaHistories_over : Rows.ReplicaHistoriesSaid :=
 OpenClaim.holds_of_wide 7 Tryz.f7 rfl rfl rfl rfl rfl rfl rfl ⟨rfl, rfl, rfl, rfl, rfl⟩ rfl rfl rfl rfl rfl (by kernel_rfl) Tryz.func7 (by kernel_rfl)
  (of_decide_eq_true (by kernel_rfl)) (by unfold Func.isWrapper; first | (rw [if_pos (by decide +kernel)]; kernel_rfl) | (rw [if_neg (by decide +kernel)]; exact ⟨rfl, rfl⟩))
  (fun os started H enc _ => ReplicaHistories_lifted os started H enc)
theorem ReplicaHistories_holds : Rows.ReplicaHistoriesCardSaid :=
 Claim7.holds_tied_plain_at .later [] [.data] true (true, "f9bd7bf2428558407907bdf4a3d03e3e627b39690f181bd9906d008ddbe31a7e") false
  ReplicaHistories_over (fun _ h => by cases h) (by kernel_rfl) (fun _ h => by cases h) replicaHistories_row_tie rfl ⟨rfl, rfl⟩ (by kernel_rfl) rfl
  (fun f fn hf hfn => by
   obtain rfl : f = 7 := Option.some.inj ((show Tryz.prog.funcNamed "nadir/nadirlaw35.ReplicaHistories" = some 7 by kernel_rfl).symm.trans hf) |>.symm
   obtain rfl : fn = Tryz.f7 := (Option.some.inj (Tryz.func7.symm.trans hfn)).symm
   exact ⟨by kernel_rfl, fun j t ht => by
    rw [Tryz.params7] at ht
    have hm : t ∈ [22] := by simpa using Array.mem_of_getElem? ht
    have hall : ([22].all fun u => !Tryz.prog.wantsStandIn u) = true := by kernel_rfl
    exact (show Tryz.prog.wantsStandIn t = false by simpa using List.all_eq_true.1 hall t hm)⟩)
  (by kernel_rfl)
#print axioms ReplicaHistories_holds
end Go.Proofs.YtfmoabgjaclkpaaGreatDoor
