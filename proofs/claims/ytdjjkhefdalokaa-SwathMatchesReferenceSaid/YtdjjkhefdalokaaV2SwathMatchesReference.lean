/- Part 2 of what the proof of SwathMatchesReference stands on. -/
import Derived.Test.YtdjjkhefdalokaaV1SwathMatchesReference
import Derived.RangeFuncNested
import Derived.RangeFuncBound
import Derived.RangeFuncCalls
import Derived.RangeFuncLeaves
import Derived.RangeFuncBox
import Derived.Shelf.Abstract
import Derived.Shelf.RegionOpen
import Derived.OwnWalkIn
import Derived.TacticsInMore
import Derived.LoopNIn
import Derived.LoopIn
import Derived.Deep.RegionHeld3
import Derived.OwnWalk
import Derived.Maps.AppendAt
import Derived.OrdersIn
import Derived.TacticsIn
import Derived.ChangeKeysEq
import Derived.Deep.MidRow
/- What an exposure shows. -/
namespace Go.Proofs.Ytdjjkhefdalokaa
namespace Globe
theorem ext24 {a b : List Int} (h1 : a.length = 24) (h2 : b.length = 24) (h : ∀ y, y < 24 → nth a y = nth b y) : a = b :=
 List.ext_getElem (by omega) fun y k1 k2 => by
  have := h y (by omega)
  rwa [nth_lt k1, nth_lt k2] at this
theorem rowsF_id {L : List Int} (h : validL L = true) : rowsF (fun y => rowN L y) = L :=
 ext24 (rowsF_len _) (len_of_valid h) fun y hy => by rw [nth_rowsF _ hy, ← rowN_cast h]
/-- Two areas, combined in the first i rows. -/
def mixL (f : Nat → Nat → Nat) (L M : List Int) (i : Nat) : List Int := rowsF fun y => if y < i then f (rowN L y) (rowN M y) else rowN L y
theorem mix_0 {f : Nat → Nat → Nat} {L M : List Int} (h : validL L = true) : mixL f L M 0 = L := by
 unfold mixL
 simp only [Nat.not_lt_zero, if_false]
 exact rowsF_id h
theorem mix_len (f : Nat → Nat → Nat) (L M : List Int) (i : Nat) : (mixL f L M i).length = 24 := rowsF_len _
theorem mix_nth (f : Nat → Nat → Nat) (L M : List Int) (i : Nat) {y : Nat} (hy : y < 24) : nth (mixL f L M i) y = (((if y < i then f (rowN L y) (rowN M y) else rowN L y) : Nat) : Int) := nth_rowsF _ hy
theorem mix_24 (f : Nat → Nat → Nat) (L M : List Int) : mixL f L M 24 = rowsF fun y => f (rowN L y) (rowN M y) :=
 ext24 (mix_len _ _ _ _) (rowsF_len _) fun y hy => by rw [mix_nth _ _ _ _ hy, nth_rowsF _ hy, if_pos hy]
theorem mix_row {f : Nat → Nat → Nat} {L M : List Int} {i : Nat} (hi : i < 24) : rowN (mixL f L M i) i = rowN L i := by
 show (nth (mixL f L M i) i).toNat = rowN L i
 rw [mix_nth _ _ _ _ hi, if_neg (Nat.lt_irrefl i), Int.toNat_natCast]
theorem mix_succ {f : Nat → Nat → Nat} {L M : List Int} {i : Nat} (hi : i < 24) : (mixL f L M i).set i ((f (rowN (mixL f L M i) i) (rowN M i) : Nat) : Int) = mixL f L M (i + 1) := by
  rw [mix_row hi]
  refine ext24 (by rw [List.length_set, mix_len]) (mix_len _ _ _ _) fun y hy => ?_
  rw [nth_set _ (by rw [mix_len]; exact hi), mix_nth _ _ _ _ hy]
  rw [mix_nth _ _ _ _ hy]
  by_cases e : i = y
  · subst e; rw [if_pos rfl, if_pos (by omega)]
  · rw [if_neg e]
    by_cases h : y < i
    · rw [if_pos h, if_pos (by omega)]
    · rw [if_neg h, if_neg (by omega)]
theorem mix_valid {f : Nat → Nat → Nat} (hf : ∀ p q, p < 281474976710656 → q < 281474976710656 → f p q < 281474976710656) {L M : List Int} (hL : validL L = true) (hM : validL M = true) (i : Nat) : validL (mixL f L M i) = true :=
 rowsF_valid fun y _ => by
  by_cases h : y < i
  · rw [if_pos h]; exact hf _ _ (rowN_lt hL y) (rowN_lt hM y)
  · rw [if_neg h]; exact rowN_lt hL y
def and8 (p q : Nat) : Nat := p &&& q
def or8 (p q : Nat) : Nat := p ||| q
theorem and8_lt (p q : Nat) (h : p < 281474976710656) (_ : q < 281474976710656) : and8 p q < 281474976710656 := Nat.lt_of_le_of_lt Nat.and_le_left h
theorem or8_lt (p q : Nat) (h : p < 281474976710656) (k : q < 281474976710656) : or8 p q < 281474976710656 := Nat.or_lt_two_pow (n := 48) h k
end Globe
namespace Swath
open Globe
def spB (s : Int × Int) (most : Int) : Bool := decide (0 ≤ s.1) && decide (s.1 < s.2) && decide (s.2 ≤ 1000001) && decide (s.2 - s.1 ≤ most)
theorem spB_t {s : Int × Int} {most : Int} : spB s most = true ↔ 0 ≤ s.1 ∧ s.1 < s.2 ∧ s.2 ≤ 1000001 ∧ s.2 - s.1 ≤ most := by
 unfold spB; simp [and_assoc]
/-- Is an exposure valid? -/
def shB (o : Orb) (s : Int × Int) (l : Int) : Bool := Orb.ok o && spB s 60 && inB l (-4) 4
theorem shB_t {o : Orb} {s : Int × Int} {l : Int} : shB o s l = true ↔ Orb.ok o = true ∧ (0 ≤ s.1 ∧ s.1 < s.2 ∧ s.2 ≤ 1000001 ∧ s.2 - s.1 ≤ 60) ∧ -4 ≤ l ∧ l ≤ 4 := by
 unfold shB; simp only [Bool.and_eq_true, spB_t, inB_t, and_assoc]
/-- The column that is shown. -/
def sx (o : Orb) (l u : Int) : Nat := (((Orb.cx o u : Int) + l + 48) % 48).toNat
theorem sx_lt (o : Orb) (l u : Int) : sx o l u < 48 := by unfold sx; omega
theorem sx_z (o : Orb) (l u : Int) : ((Orb.cx o u : Int) + l + 48) % 48 = (sx o l u : Int) := by unfold sx; omega
/-- What is shown from u on, for n minutes. -/
def showL (o : Orb) (l u : Int) : Nat → List Int
 | 0 => zeroL
 | n + 1 => putL (showL o l u n) (sx o l (u + n)) (Orb.cy o (u + n))
theorem show_valid {o : Orb} (h : Orb.ok o = true) (l u : Int) : ∀ n, validL (showL o l u n) = true
 | 0 => show validL zeroL = true by decide
 | n + 1 => valid_put (show_valid h l u n) (sx_lt _ _ _)
/-- What all of the first areas have; what one of them has. -/
def foldM (A : Nat → List Int) : Nat → List Int
 | 0 => zeroL
 | 1 => A 0
 | k + 2 => meetL (foldM A (k + 1)) (A (k + 1))
def foldU (A : Nat → List Int) : Nat → List Int
 | 0 => zeroL
 | 1 => A 0
 | k + 2 => unionL (foldU A (k + 1)) (A (k + 1))
theorem foldM_succ {A : Nat → List Int} {i : Nat} (h : 0 < i) : foldM A (i + 1) = meetL (foldM A i) (A i) := by
 obtain ⟨k, rfl⟩ : ∃ k, i = k + 1 := ⟨i - 1, by omega⟩
 rfl
theorem foldU_succ {A : Nat → List Int} {i : Nat} (h : 0 < i) : foldU A (i + 1) = unionL (foldU A i) (A i) := by
 obtain ⟨k, rfl⟩ : ∃ k, i = k + 1 := ⟨i - 1, by omega⟩
 rfl
theorem foldM_valid {A : Nat → List Int} (h : ∀ i, validL (A i) = true) : ∀ i, validL (foldM A i) = true
 | 0 => show validL zeroL = true by decide
 | 1 => h 0
 | k + 2 => meet_valid (foldM_valid h (k + 1))
theorem foldU_valid {A : Nat → List Int} (h : ∀ i, validL (A i) = true) : ∀ i, validL (foldU A i) = true
 | 0 => show validL zeroL = true by decide
 | 1 => h 0
 | k + 2 => union_valid (foldU_valid h (k + 1)) (h (k + 1))
/-- What is shown with the j-th delay. -/
def areaJ (o : Orb) (s : Int × Int) (lk : Int) (j : Nat) : List Int := showL o lk (s.1 - (-o.sl + ((j : Nat) : Int))) (s.2 - s.1).toNat
theorem areaJ_valid {o : Orb} (h : Orb.ok o = true) (s : Int × Int) (lk : Int) (j : Nat) : validL (areaJ o s lk j) = true := show_valid h _ _ _
def lates (o : Orb) : Nat := (2 * o.sl + 1).toNat
def sureL (o : Orb) (s : Int × Int) (lk : Int) : List Int := foldM (areaJ o s lk) (lates o)
def canL (o : Orb) (s : Int × Int) (lk : Int) : List Int := foldU (areaJ o s lk) (lates o)
theorem sure_valid {o : Orb} (h : Orb.ok o = true) (s : Int × Int) (lk : Int) : validL (sureL o s lk) = true := foldM_valid (areaJ_valid h s lk) _
theorem can_valid {o : Orb} (h : Orb.ok o = true) (s : Int × Int) (lk : Int) : validL (canL o s lk) = true := foldU_valid (areaJ_valid h s lk) _
def showsB (o : Orb) (s : Int × Int) (lk : Int) (l : List Int) : Bool := shB o s lk && containsB (sureL o s lk) l
end Swath
end Go.Proofs.Ytdjjkhefdalokaa

/- Contracts of package swath: isSpell, Valid, delays, shown. -/
namespace Go.Proofs.Ytdjjkhefdalokaa
open Go.RowKit

/-- What the iterator of shown cells has captured. -/
def ShownAt (w : World) (B1 B2 B3 B4 : Nat) (o : Orb) (s : Int × Int) (l d : Int) : Prop :=
 w.cell? ⟨B1, 0, none⟩ = some (.int .i64 s.1) ∧ w.cell? ⟨B1, 1, none⟩ = some (.int .i64 s.2) ∧ w.cell? ⟨B2, 0, none⟩ = some (.int .i64 o.p) ∧ w.cell? ⟨B2, 1, none⟩ = some (.int .i64 o.f) ∧ w.cell? ⟨B2, 2, none⟩ = some (.int .i64 o.lo) ∧ w.cell? ⟨B2, 3, none⟩ = some (.int .i64 o.hi) ∧
  w.cell? ⟨B2, 4, none⟩ = some (.int .i64 o.nd) ∧ w.cell? ⟨B2, 5, none⟩ = some (.int .i64 o.tn) ∧ w.cell? ⟨B2, 6, none⟩ = some (.int .i64 o.sl) ∧ w.cell? ⟨B3, 0, none⟩ = some (.int .i64 d) ∧ w.cell? ⟨B4, 0, none⟩ = some (.int .i64 l)
set_option maxRecDepth 1000000 in
set_option maxHeartbeats 4000000 in
theorem isSpell_c (s : Int × Int) (m : Int) (w : World) : Calls Try.prog 57 #[.agg #[.int .i64 s.1, .int .i64 s.2], .int .i64 m] w fun e w' => e = .returned (.bool (Swath.spB s m)) ∧ Ext w w' := by
 refine calls_cw 29 [(1, .int .i64 m), (0, .agg #[.int .i64 s.1, .int .i64 s.2])] Try.func57 rfl Try.ntmps57 (by kernel_rfl) (by kernel_rfl) (fun L => ?_)
 have hE : Ext w w := Ext.refl w
 refine cw_seq ?_; refine cw_plain ?_
 refine pS (sn_new (us := #[.int .i64 s.1, .int .i64 s.2]) (t := 26) (by kernel_rfl) ?_)
 intro O1 X2 hzO1 hyO1 hb hbx; have ⟨bO1_0, bO1_1⟩ := bx2 hbx; clear hbx
 replace hE := hE.trans hb; have hs3 := hb.size; clear hb; have lt4 := bO1_0.lt; refine pT (.bool false) ?_; refine pl_nil ?_; refine qw_then ?_; refine cw_seq ?_; refine cw_plain ?_; refine pT (.pointer (some ⟨O1, 0, none⟩)) ?_
 refine pU (.int .i64 s.1) (ex_load rfl (by kernel_rfl) (ld3 (bO1_0.1))) ?_
 by_cases hc5 : (0 : Int) ≤ (s.1 : Int)
 ·
  refine pU (.bool true) (ev_dec (show _ = Result.ok (Next.value (Value.bool (decide ((0 : Int) ≤ (s.1 : Int))))) _ from by kernel_rfl) (hc5)) ?_
  refine pT (.bool true) ?_; refine pT (.pointer (some ⟨O1, 0, none⟩)) ?_
  refine pU (.int .i64 s.1) (ex_load rfl (by kernel_rfl) (ld3 (bO1_0.1))) ?_
  refine pT (.pointer (some ⟨O1, 1, none⟩)) ?_
  refine pU (.int .i64 s.2) (ex_load rfl (by kernel_rfl) (ld3 (bO1_1.1))) ?_
  by_cases hc6 : (s.1 : Int) < (s.2 : Int)
  ·
   refine pU (.bool true) (ev_dec (show _ = Result.ok (Next.value (Value.bool (decide ((s.1 : Int) < (s.2 : Int))))) _ from by kernel_rfl) (hc6)) ?_
   refine pT (.bool true) ?_; refine pT (.bool true) ?_; refine pT (.pointer (some ⟨O1, 1, none⟩)) ?_
   refine pU (.int .i64 s.2) (ex_load rfl (by kernel_rfl) (ld3 (bO1_1.1))) ?_
   by_cases hc7 : (s.2 : Int) ≤ (1000001 : Int)
   ·
    refine pU (.bool true) (ev_dec (show _ = Result.ok (Next.value (Value.bool (decide ((s.2 : Int) ≤ (1000001 : Int))))) _ from by kernel_rfl) (hc7)) ?_
    refine pT (.bool true) ?_; refine pT (.bool true) ?_; refine pT (.pointer (some ⟨O1, 1, none⟩)) ?_
    refine pU (.int .i64 s.2) (ex_load rfl (by kernel_rfl) (ld3 (bO1_1.1))) ?_
    refine pT (.pointer (some ⟨O1, 0, none⟩)) ?_
    refine pU (.int .i64 s.1) (ex_load rfl (by kernel_rfl) (ld3 (bO1_0.1))) ?_
    refine pU (.int .i64 (s.2 - s.1 : Int)) (ev_wrap (by kernel_rfl) (by omega) (by omega)) ?_
    refine pT (.int .i64 m) ?_
    by_cases hc8 : (s.2 - s.1 : Int) ≤ (m : Int)
    ·
     refine pU (.bool true) (ev_dec (show _ = Result.ok (Next.value (Value.bool (decide ((s.2 - s.1 : Int) ≤ (m : Int))))) _ from by kernel_rfl) (hc8)) ?_
     refine pT (.bool true) ?_; refine pT (.bool true) ?_; refine pl_nil ?_; refine qw_then ?_; refine cC1 4 (fun L => ?_)
     refine cw_ret ?_
     refine qw_ret [.bool true] rfl ⟨(by kernel_rfl), trivial⟩ ?_
     exact ⟨congrArg (fun b => Ending.returned (Value.bool b)) (show Swath.spB s m = true by simp [Swath.spB, hc5, hc6, hc7, hc8]).symm, hE⟩
    ·
     refine pU (.bool false) (ev_ndec (show _ = Result.ok (Next.value (Value.bool (decide ((s.2 - s.1 : Int) ≤ (m : Int))))) _ from by kernel_rfl) (hc8)) ?_
     refine pT (.bool false) ?_; refine pT (.bool false) ?_; refine pl_nil ?_; refine qw_then ?_; refine cC1 4 (fun L => ?_)
     refine cw_ret ?_
     refine qw_ret [.bool false] rfl ⟨(by kernel_rfl), trivial⟩ ?_
     exact ⟨congrArg (fun b => Ending.returned (Value.bool b)) (show Swath.spB s m = false by simp [Swath.spB, hc5, hc6, hc7, hc8]).symm, hE⟩
   ·
    refine pU (.bool false) (ev_ndec (show _ = Result.ok (Next.value (Value.bool (decide ((s.2 : Int) ≤ (1000001 : Int))))) _ from by kernel_rfl) (hc7)) ?_
    refine pT (.bool false) ?_; refine pT (.bool false) ?_; refine pK ?_; refine pK ?_; refine pK ?_; refine pK ?_; refine pK ?_; refine pK ?_; refine pK ?_; refine pT (.bool false) ?_; refine pT (.bool false) ?_; refine pl_nil ?_; refine qw_then ?_; refine cC1 4 (fun L => ?_)
    refine cw_ret ?_
    refine qw_ret [.bool false] rfl ⟨(by kernel_rfl), trivial⟩ ?_
    exact ⟨congrArg (fun b => Ending.returned (Value.bool b)) (show Swath.spB s m = false by simp [Swath.spB, hc5, hc6, hc7]).symm, hE⟩
  ·
   refine pU (.bool false) (ev_ndec (show _ = Result.ok (Next.value (Value.bool (decide ((s.1 : Int) < (s.2 : Int))))) _ from by kernel_rfl) (hc6)) ?_
   refine pT (.bool false) ?_; refine pT (.bool false) ?_; refine pK ?_; refine pK ?_; refine pK ?_; refine pT (.bool false) ?_; refine pT (.bool false) ?_; refine pK ?_; refine pK ?_; refine pK ?_; refine pK ?_; refine pK ?_; refine pK ?_; refine pK ?_; refine pT (.bool false) ?_; refine pT (.bool false) ?_; refine pl_nil ?_; refine qw_then ?_; refine cC1 4 (fun L => ?_)
   refine cw_ret ?_
   refine qw_ret [.bool false] rfl ⟨(by kernel_rfl), trivial⟩ ?_
   exact ⟨congrArg (fun b => Ending.returned (Value.bool b)) (show Swath.spB s m = false by simp [Swath.spB, hc5, hc6]).symm, hE⟩
 ·
  refine pU (.bool false) (ev_ndec (show _ = Result.ok (Next.value (Value.bool (decide ((0 : Int) ≤ (s.1 : Int))))) _ from by kernel_rfl) (hc5)) ?_
  refine pT (.bool false) ?_; refine pK ?_; refine pK ?_; refine pK ?_; refine pK ?_; refine pK ?_; refine pT (.bool false) ?_; refine pT (.bool false) ?_; refine pK ?_; refine pK ?_; refine pK ?_; refine pT (.bool false) ?_; refine pT (.bool false) ?_; refine pK ?_; refine pK ?_; refine pK ?_; refine pK ?_; refine pK ?_; refine pK ?_; refine pK ?_; refine pT (.bool false) ?_; refine pT (.bool false) ?_; refine pl_nil ?_; refine qw_then ?_; refine cC1 4 (fun L => ?_)
  refine cw_ret ?_
  refine qw_ret [.bool false] rfl ⟨(by kernel_rfl), trivial⟩ ?_
  exact ⟨congrArg (fun b => Ending.returned (Value.bool b)) (show Swath.spB s m = false by simp [Swath.spB, hc5]).symm, hE⟩
theorem isSpell_r (s : Int × Int) (m : Int) {r : Bool} (w : World) (hr : Swath.spB s m = r) : Calls Try.prog 57 #[.agg #[.int .i64 s.1, .int .i64 s.2], .int .i64 m] w fun e w' => e = .returned (.bool r) ∧ Ext w w' := hr ▸ isSpell_c s m w
set_option maxRecDepth 1000000 in
set_option maxHeartbeats 4000000 in
theorem sValid_c (o : Orb) (s : Int × Int) (l : Int) (w : World) : Calls Try.prog 22 #[.agg #[.int .i64 o.p, .int .i64 o.f, .int .i64 o.lo, .int .i64 o.hi, .int .i64 o.nd, .int .i64 o.tn, .int .i64 o.sl], .agg #[.int .i64 s.1, .int .i64 s.2], .int .i64 l] w fun e w' => e = .returned (.bool (Swath.shB o s l)) ∧ Ext w w' := by
 refine calls_cw 17 [(2, .int .i64 l), (1, .agg #[.int .i64 s.1, .int .i64 s.2]), (0, .agg #[.int .i64 o.p, .int .i64 o.f, .int .i64 o.lo, .int .i64 o.hi, .int .i64 o.nd, .int .i64 o.tn, .int .i64 o.sl])] Try.func22 rfl Try.ntmps22 (by kernel_rfl) (by kernel_rfl) (fun L => ?_)
 have hE : Ext w w := Ext.refl w
 refine cw_seq ?_; refine cw_plain ?_
 refine pS (sn_new (us := #[.int .i64 o.p, .int .i64 o.f, .int .i64 o.lo, .int .i64 o.hi, .int .i64 o.nd, .int .i64 o.tn, .int .i64 o.sl]) (t := 24) (by kernel_rfl) ?_)
 intro O1 X2 hzO1 hyO1 hb hbx; have ⟨bO1_0, bO1_1, bO1_2, bO1_3, bO1_4, bO1_5, bO1_6⟩ := bx7 hbx; clear hbx
 replace hE := hE.trans hb; have hs3 := hb.size; clear hb; have lt4 := bO1_0.lt
 refine pS (sn_new (us := #[.int .i64 s.1, .int .i64 s.2]) (t := 26) (by kernel_rfl) ?_)
 intro O5 X6 hzO5 hyO5 hb hbx; have ⟨bO5_0, bO5_1⟩ := bx2 hbx; clear hbx
 replace hE := hE.trans hb; replace bO1_0 := BoxAt.ext hb bO1_0; replace bO1_1 := BoxAt.ext hb bO1_1; replace bO1_2 := BoxAt.ext hb bO1_2; replace bO1_3 := BoxAt.ext hb bO1_3; replace bO1_4 := BoxAt.ext hb bO1_4; replace bO1_5 := BoxAt.ext hb bO1_5; replace bO1_6 := BoxAt.ext hb bO1_6; have hs7 := hb.size; clear hb; have lt8 := bO5_0.lt; refine pT (.bool false) ?_; refine pl_nil ?_; refine qw_then ?_; refine cw_seq ?_; have hX9 : Ext X6 X6 := Ext.refl _; refine cw_plain ?_
 refine pU (.agg #[.int .i64 o.p, .int .i64 o.f, .int .i64 o.lo, .int .i64 o.hi, .int .i64 o.nd, .int .i64 o.tn, .int .i64 o.sl]) (ex_load rfl (by kernel_rfl) (ld24 (bO1_0.1) (bO1_1.1) (bO1_2.1) (bO1_3.1) (bO1_4.1) (bO1_5.1) (bO1_6.1))) ?_
 rcases Bool.eq_false_or_eq_true (Orb.ok o) with hb10 | hb10
 ·
  refine pS (sn_call (f := 56) (args := #[.agg #[.int .i64 o.p, .int .i64 o.f, .int .i64 o.lo, .int .i64 o.hi, .int .i64 o.nd, .int .i64 o.tn, .int .i64 o.sl]]) (by kernel_rfl) ((oValid_r (r := true) _ (hb10)).mono ?_))
  rintro e w11 ⟨rfl, hb⟩
  replace hE := hE.trans hb; replace hX9 := hX9.trans hb; have hs12 := hb.size; clear hb
  refine ⟨_, rfl, ?_⟩
  refine pT (.bool true) ?_
  refine pU (.agg #[.int .i64 s.1, .int .i64 s.2]) (ex_load rfl (by kernel_rfl) (ld26 ((BoxAt.ext hX9 bO5_0).1) ((BoxAt.ext hX9 bO5_1).1))) ?_
  rcases Bool.eq_false_or_eq_true (Swath.spB s 60) with hb13 | hb13
  ·
   refine pS (sn_call (f := 57) (args := #[.agg #[.int .i64 s.1, .int .i64 s.2], .int .i64 60]) (by kernel_rfl) ((isSpell_r (r := true) s 60 _ (hb13)).mono ?_))
   rintro e w14 ⟨rfl, hb⟩
   replace hE := hE.trans hb; replace hX9 := hX9.trans hb; have hs15 := hb.size; clear hb
   refine ⟨_, rfl, ?_⟩
   refine pT (.bool true) ?_; refine pT (.bool true) ?_; refine pT (.int .i64 l) ?_
   rcases Bool.eq_false_or_eq_true (Globe.inB l (-4) 4) with hb16 | hb16
   ·
    have hq17 := Globe.inB_t.1 hb16
    refine pS (sn_call (f := 43) (args := #[.int .i64 l, .int .i64 (-4 : Int), .int .i64 4]) (by kernel_rfl) ((swath_isIn_r (r := true) l (-4) 4 _ (hb16)).mono ?_))
    rintro e w18 ⟨rfl, hb⟩
    replace hE := hE.trans hb; replace hX9 := hX9.trans hb; have hs19 := hb.size; clear hb
    refine ⟨_, rfl, ?_⟩
    refine pT (.bool true) ?_; refine pT (.bool true) ?_; refine pl_nil ?_; refine qw_then ?_; refine cC1 6 (fun L => ?_)
    refine cw_ret ?_
    refine qw_ret [.bool true] rfl ⟨(by kernel_rfl), trivial⟩ ?_
    exact ⟨congrArg (fun b => Ending.returned (Value.bool b)) (show Swath.shB o s l = true by simp [Swath.shB, hb10, hb13, hb16]).symm, hE⟩
   ·
    refine pS (sn_call (f := 43) (args := #[.int .i64 l, .int .i64 (-4 : Int), .int .i64 4]) (by kernel_rfl) ((swath_isIn_r (r := false) l (-4) 4 _ (hb16)).mono ?_))
    rintro e w20 ⟨rfl, hb⟩
    replace hE := hE.trans hb; replace hX9 := hX9.trans hb; have hs21 := hb.size; clear hb
    refine ⟨_, rfl, ?_⟩
    refine pT (.bool false) ?_; refine pT (.bool false) ?_; refine pl_nil ?_; refine qw_then ?_; refine cC1 6 (fun L => ?_)
    refine cw_ret ?_
    refine qw_ret [.bool false] rfl ⟨(by kernel_rfl), trivial⟩ ?_
    exact ⟨congrArg (fun b => Ending.returned (Value.bool b)) (show Swath.shB o s l = false by simp [Swath.shB, hb10, hb13, hb16]).symm, hE⟩
  ·
   refine pS (sn_call (f := 57) (args := #[.agg #[.int .i64 s.1, .int .i64 s.2], .int .i64 60]) (by kernel_rfl) ((isSpell_r (r := false) s 60 _ (hb13)).mono ?_))
   rintro e w22 ⟨rfl, hb⟩
   replace hE := hE.trans hb; replace hX9 := hX9.trans hb; have hs23 := hb.size; clear hb
   refine ⟨_, rfl, ?_⟩
   refine pT (.bool false) ?_; refine pT (.bool false) ?_; refine pK ?_; refine pK ?_; refine pT (.bool false) ?_; refine pT (.bool false) ?_; refine pl_nil ?_; refine qw_then ?_; refine cC1 6 (fun L => ?_)
   refine cw_ret ?_
   refine qw_ret [.bool false] rfl ⟨(by kernel_rfl), trivial⟩ ?_
   exact ⟨congrArg (fun b => Ending.returned (Value.bool b)) (show Swath.shB o s l = false by simp [Swath.shB, hb10, hb13]).symm, hE⟩
 ·
  refine pS (sn_call (f := 56) (args := #[.agg #[.int .i64 o.p, .int .i64 o.f, .int .i64 o.lo, .int .i64 o.hi, .int .i64 o.nd, .int .i64 o.tn, .int .i64 o.sl]]) (by kernel_rfl) ((oValid_r (r := false) _ (hb10)).mono ?_))
  rintro e w24 ⟨rfl, hb⟩
  replace hE := hE.trans hb; replace hX9 := hX9.trans hb; have hs25 := hb.size; clear hb
  refine ⟨_, rfl, ?_⟩
  refine pT (.bool false) ?_; refine pK ?_; refine pK ?_; refine pT (.bool false) ?_; refine pT (.bool false) ?_; refine pK ?_; refine pK ?_; refine pT (.bool false) ?_; refine pT (.bool false) ?_; refine pl_nil ?_; refine qw_then ?_; refine cC1 6 (fun L => ?_)
  refine cw_ret ?_
  refine qw_ret [.bool false] rfl ⟨(by kernel_rfl), trivial⟩ ?_
  exact ⟨congrArg (fun b => Ending.returned (Value.bool b)) (show Swath.shB o s l = false by simp [Swath.shB, hb10]).symm, hE⟩
theorem sValid_r (o : Orb) (s : Int × Int) (l : Int) {r : Bool} (w : World) (hr : Swath.shB o s l = r) : Calls Try.prog 22 #[.agg #[.int .i64 o.p, .int .i64 o.f, .int .i64 o.lo, .int .i64 o.hi, .int .i64 o.nd, .int .i64 o.tn, .int .i64 o.sl], .agg #[.int .i64 s.1, .int .i64 s.2], .int .i64 l] w fun e w' => e = .returned (.bool r) ∧ Ext w w' := hr ▸ sValid_c o s l w
set_option maxRecDepth 1000000 in
set_option maxHeartbeats 4000000 in
theorem delays_c (o : Orb) (w : World) : Calls Try.prog 81 #[.agg #[.int .i64 o.p, .int .i64 o.f, .int .i64 o.lo, .int .i64 o.hi, .int .i64 o.nd, .int .i64 o.tn, .int .i64 o.sl]] w fun e w' => ∃ B, e = .returned (.func (.func 100) #[] #[.pointer (some ⟨B, 0, none⟩)]) ∧ w.heap.size ≤ B ∧ w'.cell? ⟨B, 6, none⟩ = some (.int .i64 o.sl) ∧ Ext w w' := by
 refine calls_cw 4 [(0, .agg #[.int .i64 o.p, .int .i64 o.f, .int .i64 o.lo, .int .i64 o.hi, .int .i64 o.nd, .int .i64 o.tn, .int .i64 o.sl])] Try.func81 rfl Try.ntmps81 (by kernel_rfl) (by kernel_rfl) (fun L => ?_)
 have hE : Ext w w := Ext.refl w
 refine cw_seq ?_; refine cw_plain ?_
 refine pS (sn_new (us := #[.int .i64 o.p, .int .i64 o.f, .int .i64 o.lo, .int .i64 o.hi, .int .i64 o.nd, .int .i64 o.tn, .int .i64 o.sl]) (t := 24) (by kernel_rfl) ?_)
 intro O1 X2 hzO1 hyO1 hb hbx; have ⟨bO1_0, bO1_1, bO1_2, bO1_3, bO1_4, bO1_5, bO1_6⟩ := bx7 hbx; clear hbx
 replace hE := hE.trans hb; have hs3 := hb.size; clear hb; have lt4 := bO1_0.lt; refine pT (Value.nilFunc) ?_; refine pl_nil ?_; refine qw_then ?_; refine cw_seq ?_; have hX5 : Ext X2 X2 := Ext.refl _; refine cw_plain ?_; refine pT (.func (.func 100) #[] #[.pointer (some ⟨O1, 0, none⟩)]) ?_; refine pT (.func (.func 100) #[] #[.pointer (some ⟨O1, 0, none⟩)]) ?_; refine pl_nil ?_; refine qw_then ?_
 refine cw_ret ?_
 refine qw_ret [.func (.func 100) #[] #[.pointer (some ⟨O1, 0, none⟩)]] rfl ⟨(by kernel_rfl), trivial⟩ ?_
 exact ⟨O1, rfl, (Nat.le_of_eq hzO1), bO1_6.1, hE⟩
set_option maxRecDepth 1000000 in
set_option maxHeartbeats 4000000 in
theorem shown_c (o : Orb) (s : Int × Int) (l d : Int) (w : World) : Calls Try.prog 51 #[.agg #[.int .i64 o.p, .int .i64 o.f, .int .i64 o.lo, .int .i64 o.hi, .int .i64 o.nd, .int .i64 o.tn, .int .i64 o.sl], .agg #[.int .i64 s.1, .int .i64 s.2], .int .i64 l, .int .i64 d] w fun e w' => ∃ B1 B2 B3 B4, e = .returned (.func (.func 82) #[] #[.pointer (some ⟨B1, 0, none⟩), .pointer (some ⟨B2, 0, none⟩), .pointer (some ⟨B3, 0, none⟩), .pointer (some ⟨B4, 0, none⟩)]) ∧ (w.heap.size ≤ B1 ∧ w.heap.size ≤ B2 ∧ w.heap.size ≤ B3 ∧ w.heap.size ≤ B4) ∧ ShownAt w' B1 B2 B3 B4 o s l d ∧ Ext w w' := by
 refine calls_cw 10 [(3, .int .i64 d), (2, .int .i64 l), (1, .agg #[.int .i64 s.1, .int .i64 s.2]), (0, .agg #[.int .i64 o.p, .int .i64 o.f, .int .i64 o.lo, .int .i64 o.hi, .int .i64 o.nd, .int .i64 o.tn, .int .i64 o.sl])] Try.func51 rfl Try.ntmps51 (by kernel_rfl) (by kernel_rfl) (fun L => ?_)
 have hE : Ext w w := Ext.refl w
 refine cw_seq ?_; refine cw_plain ?_
 refine pS (sn_new (us := #[.int .i64 o.p, .int .i64 o.f, .int .i64 o.lo, .int .i64 o.hi, .int .i64 o.nd, .int .i64 o.tn, .int .i64 o.sl]) (t := 24) (by kernel_rfl) ?_)
 intro O1 X2 hzO1 hyO1 hb hbx; have ⟨bO1_0, bO1_1, bO1_2, bO1_3, bO1_4, bO1_5, bO1_6⟩ := bx7 hbx; clear hbx
 replace hE := hE.trans hb; have hs3 := hb.size; clear hb; have lt4 := bO1_0.lt
 refine pS (sn_new (us := #[.int .i64 s.1, .int .i64 s.2]) (t := 26) (by kernel_rfl) ?_)
 intro O5 X6 hzO5 hyO5 hb hbx; have ⟨bO5_0, bO5_1⟩ := bx2 hbx; clear hbx
 replace hE := hE.trans hb; replace bO1_0 := BoxAt.ext hb bO1_0; replace bO1_1 := BoxAt.ext hb bO1_1; replace bO1_2 := BoxAt.ext hb bO1_2; replace bO1_3 := BoxAt.ext hb bO1_3; replace bO1_4 := BoxAt.ext hb bO1_4; replace bO1_5 := BoxAt.ext hb bO1_5; replace bO1_6 := BoxAt.ext hb bO1_6; have hs7 := hb.size; clear hb; have lt8 := bO5_0.lt
 refine pS (sn_new (us := #[.int .i64 l]) (t := 3) (by kernel_rfl) ?_)
 intro O9 X10 hzO9 hyO9 hb hbx; have bO9_0 := bx1 hbx; clear hbx
 replace hE := hE.trans hb; replace bO1_0 := BoxAt.ext hb bO1_0; replace bO1_1 := BoxAt.ext hb bO1_1; replace bO1_2 := BoxAt.ext hb bO1_2; replace bO1_3 := BoxAt.ext hb bO1_3; replace bO1_4 := BoxAt.ext hb bO1_4; replace bO1_5 := BoxAt.ext hb bO1_5; replace bO1_6 := BoxAt.ext hb bO1_6; replace bO5_0 := BoxAt.ext hb bO5_0; replace bO5_1 := BoxAt.ext hb bO5_1; have hs11 := hb.size; clear hb; have lt12 := bO9_0.lt
 refine pS (sn_new (us := #[.int .i64 d]) (t := 3) (by kernel_rfl) ?_)
 intro O13 X14 hzO13 hyO13 hb hbx; have bO13_0 := bx1 hbx; clear hbx
 replace hE := hE.trans hb; replace bO1_0 := BoxAt.ext hb bO1_0; replace bO1_1 := BoxAt.ext hb bO1_1; replace bO1_2 := BoxAt.ext hb bO1_2; replace bO1_3 := BoxAt.ext hb bO1_3; replace bO1_4 := BoxAt.ext hb bO1_4; replace bO1_5 := BoxAt.ext hb bO1_5; replace bO1_6 := BoxAt.ext hb bO1_6; replace bO5_0 := BoxAt.ext hb bO5_0; replace bO5_1 := BoxAt.ext hb bO5_1; replace bO9_0 := BoxAt.ext hb bO9_0; have hs15 := hb.size; clear hb; have lt16 := bO13_0.lt; refine pT (Value.nilFunc) ?_; refine pl_nil ?_; refine qw_then ?_; refine cw_seq ?_; have hX17 : Ext X14 X14 := Ext.refl _; refine cw_plain ?_; refine pT (.func (.func 82) #[] #[.pointer (some ⟨O5, 0, none⟩), .pointer (some ⟨O1, 0, none⟩), .pointer (some ⟨O13, 0, none⟩), .pointer (some ⟨O9, 0, none⟩)]) ?_; refine pT (.func (.func 82) #[] #[.pointer (some ⟨O5, 0, none⟩), .pointer (some ⟨O1, 0, none⟩), .pointer (some ⟨O13, 0, none⟩), .pointer (some ⟨O9, 0, none⟩)]) ?_; refine pl_nil ?_; refine qw_then ?_
 refine cw_ret ?_
 refine qw_ret [.func (.func 82) #[] #[.pointer (some ⟨O5, 0, none⟩), .pointer (some ⟨O1, 0, none⟩), .pointer (some ⟨O13, 0, none⟩), .pointer (some ⟨O9, 0, none⟩)]] rfl ⟨(by kernel_rfl), trivial⟩ ?_
 exact ⟨O5, O1, O13, O9, rfl, ⟨(T hs3 (Nat.le_of_eq hzO5)), (Nat.le_of_eq hzO1), (T (T hs3 (T hs7 hs11)) (Nat.le_of_eq hzO13)), (T (T hs3 hs7) (Nat.le_of_eq hzO9))⟩, ⟨bO5_0.1, bO5_1.1, bO1_0.1, bO1_1.1, bO1_2.1, bO1_3.1, bO1_4.1, bO1_5.1, bO1_6.1, bO13_0.1, bO9_0.1⟩, hE⟩

end Go.Proofs.Ytdjjkhefdalokaa

/- What a range over a function wants, in the form in which this seat uses it. -/
namespace Go.Proofs.Ytdjjkhefdalokaa
open Go.RowKit

theorem Ext.others {a b : World} (h : Ext a b) : KeepsOthers a b := ⟨h.size, fun k _ ho _ => (Below.block h k (Array.getElem?_eq_some_iff.1 ho).1).trans ho⟩

/-- What lies below n₀ lies as it lay, but for the blocks of X (which a round may write). -/
structure KeepX (n₀ : Nat) (X : Nat → Prop) (A B : World) : Prop where
 size : A.heap.size ≤ B.heap.size
 block : ∀ k, k < n₀ → ¬ X k → B.heap[k]? = A.heap[k]?
theorem KeepX.refl (n₀ : Nat) (X : Nat → Prop) (A : World) : KeepX n₀ X A A := ⟨Nat.le_refl _, fun _ _ _ => rfl⟩
theorem KeepX.trans {n₀ : Nat} {X : Nat → Prop} {A B C : World} (h : KeepX n₀ X A B) (k : KeepX n₀ X B C) : KeepX n₀ X A C :=
 ⟨T h.size k.size, fun i hi hx => (k.block i hi hx).trans (h.block i hi hx)⟩
theorem KeepX.of_below {n₀ : Nat} {X : Nat → Prop} {A B : World} (h : Below n₀ A B) : KeepX n₀ X A B := ⟨h.size, fun k hk _ => h.block k hk⟩
theorem KeepX.of_ext {n₀ : Nat} {X : Nat → Prop} {A B : World} (h : Ext A B) (hn : n₀ ≤ A.heap.size) : KeepX n₀ X A B := KeepX.of_below (Below.mono h hn)
theorem KeepX.cell {n₀ : Nat} {X : Nat → Prop} {A B : World} (h : KeepX n₀ X A B) {b o : Nat} (hb : b < n₀) (hx : ¬ X b) : B.cell? ⟨b, o, none⟩ = A.cell? ⟨b, o, none⟩ := World.cell?_of_block (w := A) (h.block b hb hx)
theorem KeepX.setCell {n₀ : Nat} {X : Nat → Prop} (A : World) {p : Addr} (hp : X p.block) (u : Value) : KeepX n₀ X A (A.setCell p u) :=
 ⟨by simp [World.setCell], fun k _ hx => Below.heap_setCell _ _ _ _ (fun e => hx (e ▸ hp))⟩
theorem KeepX.putObj {n₀ : Nat} {X : Nat → Prop} {w : World} (hn : n₀ ≤ w.heap.size) (W : World) (l : Nat) (o o' : Obj) (hl : w.heap.size ≤ l) (h : W.heap[l]? = some o) (hc : o.isCells = false) (hw : o.isWalk = false) : KeepX n₀ X W (W.putObj l o') :=
 KeepX.of_below (belowK_b hn W l o o' hl h hc hw)

end Go.Proofs.Ytdjjkhefdalokaa

/- Writing into a block of one's own; a valid area that is being made. -/
namespace Go.Proofs.Ytdjjkhefdalokaa
open Go.RowKit

/-- 2 to the n. -/
def p2 (n : Nat) : Nat := 2 ^ n
theorem p2_shl {n : Nat} (h : n ≤ 48) : IntKind.i64.wrap (2 ^ n) = (p2 n : Int) ∧ 1 ≤ p2 n ∧ p2 n ≤ 281474976710656 := by
 have h1 : 2 ^ n ≤ 2 ^ 48 := Nat.pow_le_pow_right (by decide) h
 have h0 := Nat.two_pow_pos n
 have e : ((2 : Int) ^ n) = ((2 ^ n : Nat) : Int) := by simp
 unfold p2
 refine ⟨?_, h0, h1⟩
 rw [e, IntKind.wrap_i64]
 omega
theorem grown_set {w w' : World} {p : Addr} {v : Value} {B : Nat} (hp : p.block = B) (h : Below (w.setCell p v).heap.size (w.setCell p v) w') : w.grownBy w' (some B) :=
 ⟨h.os, h.tape, h.output, T (by rw [World.size_setCell]; exact Nat.le_refl _) h.size, fun k hk hne => (h.block k (by rw [World.size_setCell]; exact hk)).trans (Below.heap_setCell _ _ _ k (fun e => hne (by rw [e, hp])))⟩
theorem grown_refl (w : World) (B : Nat) : w.grownBy w (some B) := ⟨rfl, rfl, rfl, Nat.le_refl _, fun _ _ _ => rfl⟩
theorem grown_trans {a b c : World} {r : Option Nat} (h : a.grownBy b r) (k : b.grownBy c r) : a.grownBy c r :=
 ⟨k.os.trans h.os, k.tape.trans h.tape, k.output.trans h.output, T h.size k.size, fun i hi hne => (k.block i (Nat.lt_of_lt_of_le hi h.size) hne).trans (h.block i hi hne)⟩
/-- What lay below the block that was written reads as it did. -/
theorem Ext.grown {w0 w w' : World} {B : Nat} (h : Ext w0 w) (hg : w.grownBy w' (some B)) (hB : w0.heap.size ≤ B) : Ext w0 w' := Below.grown h hg h.size (fun k e => by cases e; exact hB)
theorem grown_cell {w w' : World} {B : Nat} (hg : w.grownBy w' (some B)) {a : Addr} {v : Value} (h : w.cell? a = some v) (hne : a.block ≠ B) : w'.cell? a = some v := hg.cell h (fun e => hne (by simpa using e))
theorem grown_free {w w' : World} {B : Nat} (hg : w.grownBy w' (some B)) {a : Addr} {v : Value} (h : w.cell? a = some v) (hf : w.frozen? a = false) (hne : a.block ≠ B) : w'.frozen? a = false :=
 (World.frozen?_of_block (hg.block a.block (World.block_lt_of_cell? w a h) (fun e => hne (by simpa using e)))).trans hf
theorem BoxAt.grown {w w' : World} {B : Nat} (hg : w.grownBy w' (some B)) {b o : Nat} {v : Value} (h : BoxAt w b o v) (hne : b ≠ B) : BoxAt w' b o v := ⟨grown_cell hg h.1 hne, grown_free hg h.1 h.2 hne⟩
/-- A fresh valid area. -/
def RetM (w : World) (e : Ending) (w' : World) : Prop :=
 ∃ (B : Nat) (L : List Int), e = .returned (.agg #[.slice (some ⟨B, 0, none⟩) 24 24]) ∧ w.heap.size ≤ B ∧ Globe.validL L = true ∧ RowsAt w' B L ∧ VA w' B 0 L ∧ Ext w w'
/-- In the midst of Made: the area's own block B, its box O. -/
def Mk (w : World) (O B : Nat) (wr : World) : Prop :=
 (∃ L, Globe.validL L = true ∧ RowsAt wr B L) ∧ wr.cell? ⟨O, 0, none⟩ = some (.slice (some ⟨B, 0, none⟩) 24 24) ∧ BoxAt wr w.heap.size 0 (.slice none 0 0) ∧ Ext w wr
theorem Mk.ext {w w1 w2 : World} {O B : Nat} (h : Mk w O B w1) (hE : Ext w1 w2) : Mk w O B w2 :=
 ⟨by obtain ⟨L, hv, hr⟩ := h.1; exact ⟨L, hv, hr.ext hE⟩, hE.cell h.2.1, BoxAt.ext hE h.2.2.1, h.2.2.2.trans hE⟩

end Go.Proofs.Ytdjjkhefdalokaa

/- Rows of one's own (slices that are appended to), as worlds grow. -/
namespace Go.Proofs.Ytdjjkhefdalokaa
open Go.RowKit

theorem Ext.grownNone {w w' : World} (h : Ext w w') : w.grownBy w' none := ⟨h.os, h.tape, h.output, Below.size h, fun k hk _ => Below.block h k hk⟩
theorem own_ext {w w' : World} {base : Nat} {e : TypeId} {size : Nat} {v : Value} {n : Nat} {xs : List Value} (h : w.ownsRow base e size v n xs) (hE : Ext w w') : w'.ownsRow base e size v n xs :=
 h.kept hE.grownNone (by cases v.ownBlock <;> simp)
/-- What lies below a slice's own base is as it was. -/
theorem Ext.own {w0 w w' : World} {e : TypeId} {size : Nat} {v : Value} {n : Nat} {xs : List Value} (h : Ext w0 w) (hr : w.ownsRow w0.heap.size e size v n xs) (hg : w.grownBy w' v.ownBlock) : Ext w0 w' :=
 Below.grown h hg h.size (fun k e => (hr.lt k e).1)


theorem Ext.own' {w0 w w' : World} {base : Nat} {e : TypeId} {size : Nat} {v : Value} {n : Nat} {xs : List Value} (h : Ext w0 w) (hr : w.ownsRow base e size v n xs) (hb : w0.heap.size ≤ base) (hg : w.grownBy w' v.ownBlock) : Ext w0 w' :=
 Below.grown h hg h.size (fun k e => T hb (hr.lt k e).1)

end Go.Proofs.Ytdjjkhefdalokaa

/- A range over a function whose yields hand on memory: the round may lean on a fact Φ of what it is handed (a list that has just been laid, say). The iterator shows Φ at each of its calls of yield. -/
namespace Go.Proofs.Ytdjjkhefdalokaa
open Go.RowKit

/-- The loop's record. -/
def recOf (a : Act) (ps : Array Tmp) (assign body : Code) (fn : FuncId) (D : Nat) (st : LoopState) (pe : Option Code) : Loop := { state := st, pending := pe, fn, tmps := a.tmps, params := ps, assign, body, defers := D }

/-- Leaving with the marks of several such loops: each block for deferred calls is taken over, and is empty. -/
theorem leaves_marks {F : Fence} {n : Nat} {P : Program} {fn : Func} {tmps : Array Value} {R : Ending → World → Prop} (n₀ : Nat) (Pw : World → Prop)
  (hP : ∀ D W, n₀ ≤ D → Pw W → W.heap[D]? = some (.deferred (some [])) → Pw (W.putObj D (.deferred none))) (hend : ∀ W, Pw W → LeavesIn F n P fn tmps R [] .returning W) :
  ∀ (Ds : List Nat) (W : World), Ds.Nodup → (∀ D ∈ Ds, n₀ ≤ D ∧ W.heap[D]? = some (.deferred (some []))) → Pw W → LeavesInM F n P fn tmps R (Ds.map fun D => { target := .collected D, args := #[] }) .returning W
 | [], W, _, _, h => hend W h
 | D :: r, W, hn, hd, h => by
  obtain ⟨hD, hn'⟩ := List.nodup_cons.1 hn
  obtain ⟨h0, h1⟩ := hd D (by simp)
  refine ⟨by simp, .inl ⟨D, _, rfl, run_takeDeferred h1, ?_⟩⟩
  refine leaves_marks n₀ Pw hP hend r _ hn' (fun D' hD' => ?_) (hP D W h0 h h1)
  obtain ⟨q0, q1⟩ := hd D' (by simp [hD'])
  exact ⟨q0, (World.putObj_heap_other (fun e => hD (by rw [← e]; exact hD'))).trans q1⟩

end Go.Proofs.Ytdjjkhefdalokaa

/- Lists of elements in memory: lists of one's own that are appended to, and lists that came from anywhere, over any way to read an element's cells. -/
namespace Go.Proofs.Ytdjjkhefdalokaa
open Go.RowKit

/-- A way to read an element's cells: 'rel w c x F': in the world w the cells c read as x; F: the blocks that it looks into. -/
structure Rep (α : Type) where
 rel : World → List Value → α → List Nat → Prop
 keep : ∀ {w w' : World} {c : List Value} {x : α} {F : List Nat}, rel w c x F → (∀ b ∈ F, ∀ o u, w.cell? ⟨b, o, none⟩ = some u → w'.cell? ⟨b, o, none⟩ = some u) → rel w' c x F
 lt : ∀ {w : World} {c : List Value} {x : α} {F : List Nat}, rel w c x F → ∀ b ∈ F, b < w.heap.size
theorem Rep.ext {α : Type} (R : Rep α) {w w' : World} {c : List Value} {x : α} {F : List Nat} (h : R.rel w c x F) (hE : Ext w w') : R.rel w' c x F := R.keep h fun _ _ _ _ hu => hE.cell hu
/-- A list of one's own: it begins nowhere, or at the head of a row of one's own. -/
def OwnL {α : Type} (R : Rep α) (n₀ : Nat) (e : TypeId) (size : Nat) (v : Value) (w : World) (l : List α) : Prop :=
 ∃ cs : List (List Value), cs.length = l.length ∧ (∀ c ∈ cs, c.length = size) ∧ w.ownsRow n₀ e size v l.length cs.flatten ∧
  ∀ (j : Nat) x c, l[j]? = some x → cs[j]? = some c → ∃ F, R.rel w c x F ∧ ∀ b ∈ F, v.ownBlock ≠ some b
/-- Behind it what lies below n₀ is as it was. -/
structure Grew (n₀ : Nat) (w w' : World) : Prop where
 size : w.heap.size ≤ w'.heap.size
 ext : ∀ U, Ext U w → U.heap.size ≤ n₀ → Ext U w'
theorem OwnL.nil {α : Type} (R : Rep α) (n₀ : Nat) (e : TypeId) (size : Nat) (w : World) : OwnL R n₀ e size (.slice none 0 0) w [] := ⟨[], rfl, (fun c hc => by cases hc), World.ownsRow_nil w n₀ e size, (fun j x c hx => by simp at hx)⟩
theorem OwnL.ext {α : Type} {R : Rep α} {n₀ : Nat} {e : TypeId} {size : Nat} {v : Value} {w w' : World} {l : List α} (h : OwnL R n₀ e size v w l) (hE : Ext w w') : OwnL R n₀ e size v w' l := by
 obtain ⟨cs, h1, h2, h3, h4⟩ := h
 exact ⟨cs, h1, h2, own_ext h3 hE, fun j x c hx hc => by obtain ⟨F, q1, q2⟩ := h4 j x c hx hc; exact ⟨F, R.ext q1 hE, q2⟩⟩
theorem OwnL.lt {α : Type} {R : Rep α} {n₀ : Nat} {e : TypeId} {size : Nat} {v : Value} {w : World} {l : List α} (h : OwnL R n₀ e size v w l) : ∀ b, v.ownBlock = some b → b < w.heap.size := by
 obtain ⟨cs, h1, h2, h3, h4⟩ := h
 exact fun b hb => (h3.lt b hb).2
/-- What the program says of a slice type and its elements. -/
structure ElemT (P : Program) (t e : TypeId) (z : Value) (size bytes : Nat) : Prop where
 under : P.underlying t = some (.slice e)
 info : (P.info? e).map (fun i => (i.zero, i.size, i.bytes)) = some (some z, size, bytes)
 zs : z.cells.size = size
 pos : 0 < size
theorem OwnL.base {α : Type} {R : Rep α} {n₀ : Nat} {e : TypeId} {size : Nat} {v : Value} {w : World} {l : List α} (h : OwnL R n₀ e size v w l) : ∀ b, v.ownBlock = some b → n₀ ≤ b := by
 obtain ⟨cs, h1, h2, h3, h4⟩ := h
 exact fun b hb => (h3.lt b hb).1
/-- An empty slice with no room, in a block of its own. -/
theorem sn_newS0 {P : Program} {ev : Operand → Value} {oi : Oper} {w : World} {N : Value → World → Prop} {t : TypeId} (h1 : (execOp ev oi).run P w = .ok (.value (.slice (some ⟨w.heap.size, 0, none⟩) 0 0)) (w.alloc (.cells #[] t)))
  (h : ∀ O X, w.heap.size = O → X.heap.size = O + 1 → Ext w X → X.heap[O]? = some (.cells #[] t (0, 0)) → N (.slice (some ⟨O, 0, none⟩) 0 0) X) : StepN P ev oi w N :=
 sn_eff h1 (h _ _ rfl (by simp) (Ext.alloc (Ext.refl _) _) (heap_alloc_new w _))
theorem own_empty {w : World} {base O size : Nat} {e : TypeId} (h : w.heap[O]? = some (.cells #[] e (0, 0))) (hb : base ≤ O) : w.ownsRow base e size (.slice (some ⟨O, 0, none⟩) 0 0) 0 [] :=
 ⟨by simp, .inr ⟨O, 0, #[], rfl, hb, h, Nat.le_refl _, by unfold maxLen; omega, by simp, by simp⟩⟩
theorem OwnL.empty {α : Type} (R : Rep α) {n₀ O : Nat} {e : TypeId} {size : Nat} {w : World} (h : w.heap[O]? = some (.cells #[] e (0, 0))) (hb : n₀ ≤ O) : OwnL R n₀ e size (.slice (some ⟨O, 0, none⟩) 0 0) w [] :=
 ⟨[], rfl, (fun c hc => by cases hc), own_empty h hb, (fun j x c hx => by simp at hx)⟩
theorem ex_append {P : Program} {ev : Operand → Value} {o : Oper} {w : World} {x y : Operand} {t1 t2 : TypeId} {v s v' : Value} {w' : World} (hop : o.op = .call { callee := .builtin .append, args := #[x, y], argTypes := #[t1, t2] }) (hx : ev x = v) (hy : ev y = s)
  (h : (Builtin.append_ #[t1, t2] o.type #[v, s]).run P w = .ok v' w') : (execOp ev o).run P w = .ok (.value v') w' := by
 simp [execOp, hop, resolve, invoke, builtin, hx, hy, h, Result.andThen]

end Go.Proofs.Ytdjjkhefdalokaa

/- The walk over a list of what has been written, within the rounds of a range over a function, and in functions that hold such loops or that yield. -/
namespace Go.Proofs.Ytdjjkhefdalokaa
open Go.RowKit

/-- The fence of a function's activation (none), or of a round of the loop l. -/
def FR (r : Option Nat) : Fence := { Fence.wide with round := r }
def marks (Ds : List Nat) : List Deferred := Ds.map fun D => { target := .collected D, args := #[] }

section
variable {P : Program} {n : Nat} {L : List Value} {ws : List (Nat × Value)} {w : World} {Q : Exit → Act → World → Prop} {r : Option Nat} {m : Nat} {Ds : List Nat}

theorem calls_fr {f : FuncId} {args : Array Value} {R : Ending → World → Prop} (h : Calls P f args w R) : CallsIn (FR r) m P f args w R := (callsIn_wide (n := m)).2 h
theorem semAt_of {ev : Operand → Value} {o : Oper} {nx : Next} {w' : World} (h : (execOp ev o).run P w = .ok nx w') (hd : ∀ d, nx ≠ .defer d) : (o.semAt r ev).run P w = .ok nx w' := by
  rw [Oper.semAt_eq]
  · exact h
  · intro c hc
    simp only [execOp, hc, Sem.run_bind] at h
    cases e : (resolve ev c o.type).run P w with
    | ok d w1 => rw [e] at h; simp [Result.andThen] at h; exact hd _ h.1.symm
    | halt x w1 => rw [e] at h; simp [Result.andThen] at h
theorem StepN.wpI {ev : Operand → Value} {oi : Oper} {N : Value → World → Prop} {a : Act} {K : Act → World → Prop} (h : StepN P ev oi w N) (he : a.eval = ev) (hK : ∀ v w', N v w' → K (a.put oi.dst v) w') : Oper.wpIn (FR r) m P oi a w K Q := by
  refine ⟨fun _ _ => trivial, ?_⟩
  rw [he]
  show oi.uponIn (FR r) m P a K Q ((oi.semAt r ev).run P w)
  rcases h with ⟨v, w', h1, h3⟩ | ⟨w', h1, h3⟩ | ⟨f, args, h1, h2⟩
  · rw [semAt_of h1 (by simp), Oper.uponIn_value]; exact hK v w' h3
  · rw [semAt_of h1 (by simp), Oper.uponIn_skip]; exact hK undef w' h3
  · rw [semAt_of h1 (by simp), Oper.uponIn_enter]
    exact ⟨fun h => by simp [FR, Fence.wide] at h, calls_fr (h2.mono fun e w' ⟨v, he, hn⟩ => by subst he; exact hK v w' hn)⟩
/-- A call of yield. -/
def StepY (P : Program) (m : Nat) (ev : Operand → Value) (oi : Oper) (w : World) (N : Value → World → Prop) : Prop :=
 ∃ l fn tmps assign body, (execOp ev oi).run P w = .ok (.round l fn tmps assign body) w ∧ RoundIn Fence.wide (m - 1) P l fn tmps assign body w fun e w' => ∃ v, e = .returned v ∧ N v w'
theorem StepY.wpI {ev : Operand → Value} {oi : Oper} {N : Value → World → Prop} {a : Act} {K : Act → World → Prop} (h : StepY P m ev oi w N) (he : a.eval = ev) (hK : ∀ v w', N v w' → K (a.put oi.dst v) w') : Oper.wpIn (FR r) m P oi a w K Q := by
 refine ⟨fun _ _ => trivial, ?_⟩
 rw [he]
 show oi.uponIn (FR r) m P a K Q ((oi.semAt r ev).run P w)
 obtain ⟨l, fn, tmps, assign, body, h1, h2⟩ := h
 rw [semAt_of h1 (by simp), Oper.uponIn_round]
 exact ⟨fun h => by simp [FR, Fence.wide] at h, (RoundIn.mono h2 fun e w' ⟨v, he, hn⟩ => by subst he; exact hK v w' hn : RoundIn Fence.wide (m - 1) P l fn tmps assign body w _)⟩
theorem sy_yield {ev : Operand → Value} {oi : Oper} {x : Operand} {ys : Array Operand} {ts : Array TypeId} {l : Nat} {args : Array Value} {N : Value → World → Prop} (hop : oi.op = .call { callee := .value x, args := ys, argTypes := ts }) (hx : ev x = .func (.yield l) #[] #[]) (hy : ys.map ev = args)
  (h : YieldAt Fence.wide (m - 1) P l args w fun e w' => ∃ v, e = .returned v ∧ N v w') : StepY P m ev oi w N := by
 obtain ⟨fn, tmps, assign, body, h1, h2⟩ := h
 refine ⟨l, fn, tmps, assign, body, ?_, h2⟩
 simp only [execOp, hop, resolve, hx, hy, Sem.run_bind]
 simp [Result.andThen, invoke, h1, Deferred.ofValue]

structure ICW (P : Program) (r : Option Nat) (m : Nat) (Ds : List Nat) (c : Code) (Q : Exit → Act → World → Prop) (n : Nat) (L : List Value) (ws : List (Nat × Value)) (w : World) : Prop where
 out : Bd n L ws → c.wpIn (FR r) m P Q ⟨(setAll L ws).toArray, marks Ds⟩ w
structure IQW (Ds : List Nat) (Q : Exit → Act → World → Prop) (e : Exit) (n : Nat) (L : List Value) (ws : List (Nat × Value)) (w : World) : Prop where
 out : Bd n L ws → Q e ⟨(setAll L ws).toArray, marks Ds⟩ w
structure IPL (P : Program) (r : Option Nat) (m : Nat) (Ds : List Nat) (ops rest : List Oper) (Q : Exit → Act → World → Prop) (n : Nat) (L : List Value) (ws : List (Nat × Value)) (w : World) : Prop where
 out : Bd n L ws → wpListIn (FR r) m P ops.toArray Q rest ⟨(setAll L ws).toArray, marks Ds⟩ w

/-- A function's end, with the marks of its loops. -/
def IBody (m : Nat) (P : Program) (fn : Func) (R : Ending → World → Prop) : Exit → Act → World → Prop
 | .normal, a, w => bodyPostM Fence.wide m P fn R .normal a w
 | .ret, a, w => bodyPostM Fence.wide m P fn R .ret a w
 | _, _, _ => False
theorem icalls {f : FuncId} {fn : Func} {c : Code} {av : List Value} {R : Ending → World → Prop} (n : Nat) (ws : List (Nat × Value)) (hf : P.funcs[f]? = some fn) (hb : fn.body = some c) (hn : fn.ntmps = n)
  (he : av ++ List.replicate (n - av.length) undef = setAll (List.replicate n undef) ws) (hl : ws.all (fun p => Nat.blt p.1 n) = true)
  (h : ∀ L m, ICW P none m [] c (IBody m P fn R) n L ws w) : CallsIn Fence.wide m P f av.toArray w R := by
 refine callsIn_of_wp_marks hf hb trivial ?_ rfl
 have e : (av.toArray ++ Array.replicate (fn.ntmps - av.toArray.size) undef : Array Value) = (setAll (List.replicate n undef) ws).toArray := by
  rw [hn, ← he]; simp
 rw [e]
 refine Go.wpIn_mono ((h _ m).out ⟨List.length_replicate, fun p hp => Nat.blt_eq.mp (List.all_eq_true.1 hl p hp)⟩) fun e a' w' q => ?_
 cases e with
 | normal => exact q
 | ret => exact q
 | _ => exact q.elim
theorem icalls_cw {f : FuncId} {fn : Func} {c : Code} {av : List Value} {R : Ending → World → Prop} (n : Nat) (ws : List (Nat × Value)) (hf : P.funcs[f]? = some fn) (hb : fn.body = some c) (hn : fn.ntmps = n)
  (he : av ++ List.replicate (n - av.length) undef = setAll (List.replicate n undef) ws) (hl : ws.all (fun p => Nat.blt p.1 n) = true)
  (h : ∀ L m, ICW P none m [] c (IBody m P fn R) n L ws w) : Calls P f av.toArray w R := (callsIn_wide (n := 0)).1 (icalls n ws hf hb hn he hl h)

theorem icw_seq {x y : Code} (h : ICW P r m Ds x (Exit.then (y.wpIn (FR r) m P Q) Q) n L ws w) : ICW P r m Ds (.seq x y) Q n L ws w := ⟨fun b => wpIn_seq (h.out b)⟩
theorem icw_block {id : Nat} {c : Code} (h : ICW P r m Ds c (Exit.inBlock id Q) n L ws w) : ICW P r m Ds (.block id c) Q n L ws w := ⟨fun b => wpIn_block (h.out b)⟩
theorem icw_skip (h : IQW Ds Q .normal n L ws w) : ICW P r m Ds .skip Q n L ws w := ⟨fun b => wpIn_skip (h.out b)⟩
theorem icw_exit {id : Nat} (h : IQW Ds Q (.exit id) n L ws w) : ICW P r m Ds (.exit id) Q n L ws w := ⟨fun b => wpIn_exit (h.out b)⟩
theorem icw_ret (h : IQW Ds Q .ret n L ws w) : ICW P r m Ds .ret Q n L ws w := ⟨fun b => wpIn_ret (h.out b)⟩
theorem icw_plain {id : Nat} {l : List Oper} (h : IPL P r m Ds l l Q n L ws w) : ICW P r m Ds (.region id l.toArray false) Q n L ws w := ⟨fun b => wpIn_region_lit (h.out b)⟩
theorem icw_t {c : Operand} {x y : Code} (hc : evalW L ws c = .bool true) (h : ICW P r m Ds x Q n L ws w) : ICW P r m Ds (.cond c x y) Q n L ws w := ⟨fun b => wpIn_cond_true (by rw [eval_W b.lt]; exact hc) (h.out b)⟩
theorem icw_f {c : Operand} {x y : Code} (hc : evalW L ws c = .bool false) (h : ICW P r m Ds y Q n L ws w) : ICW P r m Ds (.cond c x y) Q n L ws w := ⟨fun b => wpIn_cond_false (by rw [eval_W b.lt]; exact hc) (h.out b)⟩

theorem iqw_then {y : Code} (h : ICW P r m Ds y Q n L ws w) : IQW Ds (Exit.then (y.wpIn (FR r) m P Q) Q) .normal n L ws w := ⟨h.out⟩
theorem iqw_then_ret {K : Act → World → Prop} (h : IQW Ds Q .ret n L ws w) : IQW Ds (Exit.then K Q) .ret n L ws w := ⟨h.out⟩
theorem iqw_then_exit {K : Act → World → Prop} {id : Nat} (h : IQW Ds Q (.exit id) n L ws w) : IQW Ds (Exit.then K Q) (.exit id) n L ws w := ⟨h.out⟩
theorem iqw_block {id : Nat} (h : IQW Ds Q .normal n L ws w) : IQW Ds (Exit.inBlock id Q) .normal n L ws w := ⟨h.out⟩
theorem iqw_block_ret {id : Nat} (h : IQW Ds Q .ret n L ws w) : IQW Ds (Exit.inBlock id Q) .ret n L ws w := ⟨h.out⟩
theorem iqw_block_out {id : Nat} (h : IQW Ds Q .normal n L ws w) : IQW Ds (Exit.inBlock id Q) (.exit id) n L ws w := ⟨fun b => by
 show (if id = id then _ else _)
 rw [if_pos rfl]; exact h.out b⟩
theorem ipl_nil {ops : List Oper} (h : IQW Ds Q .normal n L ws w) : IPL P r m Ds ops [] Q n L ws w := ⟨h.out⟩
theorem wantP_specD {ops : List Oper} {o : Oper} {b : Bool} (h : Bd n L ws) (hok : ∀ x ∈ ops, ∀ d, x.dst = some d → d < n) (hw : wantP ops L ws o.guard = b) :
  Region.wanted o (yielded ops.toArray (⟨(setAll L ws).toArray, marks Ds⟩ : Act).tmps) = b := wantP_spec h hok hw
theorem ipl_take {ops rest : List Oper} {o : Oper} {d : Nat} (v : Value) (hdst : o.dst = some d) (hok : dstOk n ops = true) (hd : Nat.blt d n = true) (hw : wantP ops L ws o.guard = true)
  (hr : (execOp (evalW L ws) o).run P w = .ok (.value v) w) (h : IPL P r m Ds ops rest Q n L ((d, v) :: ws) w) : IPL P r m Ds ops (o :: rest) Q n L ws w := ⟨fun b => by
 refine wpListIn_step fun K hK => ?_
 rw [if_pos (wantP_specD b (dstOk_spec hok) hw)]
 refine StepN.wpI (N := fun v' w' => v' = v ∧ w' = w) (.inl ⟨v, w, hr, rfl, rfl⟩) (eval_W b.lt _) fun v' w' ⟨e1, e2⟩ => hK _ _ ?_
 subst e1 e2
 rw [put_W, hdst]; exact h.out (b.put hd)⟩
theorem ipl_step {ops rest : List Oper} {o : Oper} {d : Nat} (hdst : o.dst = some d) (hok : dstOk n ops = true) (hd : Nat.blt d n = true) (hw : wantP ops L ws o.guard = true)
  (h : StepN P (evalW L ws) o w fun v w' => IPL P r m Ds ops rest Q n L ((d, v) :: ws) w') : IPL P r m Ds ops (o :: rest) Q n L ws w := ⟨fun b => by
 refine wpListIn_step fun K hK => ?_
 rw [if_pos (wantP_specD b (dstOk_spec hok) hw)]
 exact h.wpI (eval_W b.lt _) fun v w' hn => hK _ _ (by rw [put_W, hdst]; exact hn.out (b.put hd))⟩
theorem ipl_yield {ops rest : List Oper} {o : Oper} {d : Nat} (hdst : o.dst = some d) (hok : dstOk n ops = true) (hd : Nat.blt d n = true) (hw : wantP ops L ws o.guard = true)
  (h : StepY P m (evalW L ws) o w fun v w' => IPL P r m Ds ops rest Q n L ((d, v) :: ws) w') : IPL P r m Ds ops (o :: rest) Q n L ws w := ⟨fun b => by
 refine wpListIn_step fun K hK => ?_
 rw [if_pos (wantP_specD b (dstOk_spec hok) hw)]
 exact h.wpI (eval_W b.lt _) fun v w' hn => hK _ _ (by rw [put_W, hdst]; exact hn.out (b.put hd))⟩
theorem ipl_put {ops rest : List Oper} {o : Oper} (hdst : o.dst = none) (hok : dstOk n ops = true) (hw : wantP ops L ws o.guard = true)
  (h : StepN P (evalW L ws) o w fun _ w' => IPL P r m Ds ops rest Q n L ws w') : IPL P r m Ds ops (o :: rest) Q n L ws w := ⟨fun b => by
 refine wpListIn_step fun K hK => ?_
 rw [if_pos (wantP_specD b (dstOk_spec hok) hw)]
 exact h.wpI (eval_W b.lt _) fun v w' hn => hK _ _ (by rw [put_W, hdst]; exact hn.out b)⟩
theorem icw_clean {c : Code} (ks : List Nat) {ws' : List (Nat × Value)} (hp : pickW ws ks = some ws') (h : ∀ L', ICW P r m Ds c Q n L' ws' w) : ICW P r m Ds c Q n L ws w := ⟨fun b => by
 have := (h (setAll L ws)).out (pick_bd hp b)
 rwa [pick_set hp] at this⟩
def ILoopK (n : Nat) (Ds : List Nat) (Inv : List (Nat × Value) → World → Nat → Prop) (m : Nat) : Act → World → Prop := fun a w => ∃ L' ws' m', m' < m ∧ Bd n L' ws' ∧ a = ⟨(setAll L' ws').toArray, marks Ds⟩ ∧ Inv ws' w m'
open Classical in
theorem icw_loop {c : Code} (ks : List Nat) (Inv : List (Nat × Value) → World → Nat → Prop) {ws0 : List (Nat × Value)} (hp : pickW ws ks = some ws0) (m0 : Nat) (h0 : Inv ws0 w m0)
  (round : ∀ k L' ws' w', Inv ws' w' k → ICW P r m Ds c (Exit.then (ILoopK n Ds Inv k) Q) n L' ws' w') : ICW P r m Ds (.loop c) Q n L ws w := ⟨fun b => by
 let J : Nat → Act → World → Prop := fun k a w => ∃ L' ws', Bd n L' ws' ∧ a = ⟨(setAll L' ws').toArray, marks Ds⟩ ∧ Inv ws' w k
 let μ : Act → World → Nat := fun a w => if h : ∃ k, J k a w then Classical.choose (least h) else 0
 have hμ : ∀ a w (h : ∃ k, J k a w), J (μ a w) a w ∧ ∀ k, J k a w → μ a w ≤ k := fun a w h => by
  have e : μ a w = Classical.choose (least h) := dif_pos h
  rw [e]; exact Classical.choose_spec (least h)
 refine wpIn_loop (fun a w => ∃ k, J k a w) μ ⟨m0, setAll L ws, ws0, pick_bd hp b, by rw [pick_set hp], h0⟩ fun a w h => ?_
 obtain ⟨⟨L', ws', hb, ha, hI⟩, _⟩ := hμ a w h
 have := (round (μ a w) L' ws' w hI).out hb
 rw [← ha] at this
 refine Go.wpIn_mono this (fun e a' w' q => ?_)
 cases e with
 | normal =>
  obtain ⟨L2, ws2, m2, hlt, hb2, ha2, hI2⟩ := q
  have hJ : J m2 a' w' := ⟨L2, ws2, hb2, ha2, hI2⟩
  exact ⟨⟨m2, hJ⟩, Nat.lt_of_le_of_lt ((hμ a' w' ⟨m2, hJ⟩).2 m2 hJ) hlt⟩
 | _ => exact q⟩
theorem iqw_round {Inv : List (Nat × Value) → World → Nat → Prop} {k : Nat} (ks : List Nat) {ws' : List (Nat × Value)} (hp : pickW ws ks = some ws') (m' : Nat) (hlt : m' < k) (h : Inv ws' w m') : IQW Ds (Exit.then (ILoopK n Ds Inv k) Q) .normal n L ws w := ⟨fun b =>
 ⟨setAll L ws, ws', m', hlt, pick_bd hp b, by rw [pick_set hp], h⟩⟩
end

/-! The loops' own book-keeping turns objects that are no cells, at n₀ or behind it. -/
structure Mv (n₀ : Nat) (A B : World) : Prop where
 os : B.os = A.os
 tape : B.tape = A.tape
 output : B.output = A.output
 size : A.heap.size ≤ B.heap.size
 cells : ∀ (k : Nat) (o : Obj), A.heap[k]? = some o → o.isCells = true → B.heap[k]? = some o
 below : ∀ (k : Nat), k < n₀ → k < A.heap.size → B.heap[k]? = A.heap[k]?
theorem Mv.refl (n₀ : Nat) (A : World) : Mv n₀ A A := ⟨rfl, rfl, rfl, Nat.le_refl _, fun _ _ h _ => h, fun _ _ _ => rfl⟩
theorem Mv.trans {n₀ : Nat} {A B C : World} (h : Mv n₀ A B) (k : Mv n₀ B C) : Mv n₀ A C :=
 ⟨k.os.trans h.os, k.tape.trans h.tape, k.output.trans h.output, T h.size k.size, fun i o hi ho => k.cells i o (h.cells i o hi ho) ho, fun i hi hl => (k.below i hi (Nat.lt_of_lt_of_le hl h.size)).trans (h.below i hi hl)⟩
theorem Mv.of_ext {n₀ : Nat} {A B : World} (h : Ext A B) : Mv n₀ A B :=
 ⟨h.os, h.tape, h.output, h.size, fun k _ hk _ => (h.block k (Array.getElem?_eq_some_iff.1 hk).1).trans hk, fun k _ hk => h.block k hk⟩
theorem Mv.putObj {n₀ : Nat} {A : World} {k : Nat} {o : Obj} (o' : Obj) (hk : n₀ ≤ k) (ho : A.heap[k]? = some o) (hc : o.isCells = false) : Mv n₀ A (A.putObj k o') :=
 ⟨rfl, rfl, rfl, by simp, fun j u hj hu => (World.putObj_heap_other (fun e => by subst e; rw [ho] at hj; cases hj; rw [hc] at hu; cases hu)).trans hj, fun j hj _ => World.putObj_heap_other (by omega)⟩
theorem Mv.ext {n₀ : Nat} {A B U : World} (h : Mv n₀ A B) (hU : Ext U A) (hn : U.heap.size ≤ n₀) : Ext U B :=
 ⟨h.os.trans hU.os, h.tape.trans hU.tape, h.output.trans hU.output, T hU.size h.size, fun k hk => (h.below k (Nat.lt_of_lt_of_le hk hn) (Nat.lt_of_lt_of_le hk hU.size)).trans (hU.block k hk)⟩
theorem Mv.cell {n₀ : Nat} {A B : World} (h : Mv n₀ A B) {p : Addr} {v : Value} (hv : A.cell? p = some v) : B.cell? p = some v := by
 obtain ⟨o, ho, hc⟩ := cells_of_cell hv
 exact (World.cell?_of_block ((h.cells _ o ho hc).trans ho.symm)).trans hv
theorem Mv.froz {n₀ : Nat} {A B : World} (h : Mv n₀ A B) {p : Addr} {v : Value} (hv : A.cell? p = some v) : B.frozen? p = A.frozen? p := by
 obtain ⟨o, ho, hc⟩ := cells_of_cell hv
 exact World.frozen?_of_block ((h.cells _ o ho hc).trans ho.symm)
theorem Mv.box {n₀ : Nat} {A B : World} (h : Mv n₀ A B) {b o : Nat} {v : Value} (hv : BoxAt A b o v) : BoxAt B b o v := ⟨h.cell hv.1, by rw [h.froz hv.1]; exact hv.2⟩
theorem Mv.va {n₀ : Nat} {A B : World} (h : Mv n₀ A B) {b o : Nat} {l : List Int} (hv : VA A b o l) : VA B b o l := ⟨fun i hi => h.cell (hv.1 i hi), hv.2⟩
theorem Mv.rows {n₀ : Nat} {A B : World} (h : Mv n₀ A B) {b : Nat} {l : List Int} (hv : RowsAt A b l) : RowsAt B b l := ⟨hv.1, fun i hi => h.cell (hv.cell hi), fun i hi => by rw [h.froz (hv.cell hi)]; exact hv.free hi⟩
theorem Mv.ints {n₀ : Nat} {A B : World} (h : Mv n₀ A B) {a : Option Addr} {l : List Int} (hv : IntsAt A a l) : IntsAt B a l := by
 rcases hv with q | ⟨b, off, rfl, q⟩
 · exact .inl q
 · exact .inr ⟨b, off, rfl, fun i hi => h.cell (q i hi)⟩
theorem Mv.own {α : Type} {R : Rep α} {n₀ n₁ : Nat} {e : TypeId} {size : Nat} {v : Value} {A B : World} {l : List α} (h : Mv n₁ A B) (ho : OwnL R n₀ e size v A l) : OwnL R n₀ e size v B l := by
  obtain ⟨cs, h1, h2, h3, h4⟩ := ho
  refine ⟨cs, h1, h2, ⟨h3.1, ?_⟩, fun j x c hx hc => ?_⟩
  · rcases h3.2 with q | ⟨g, cap, cur, q, hb, hcur, rest⟩
    · exact .inl q
    · exact .inr ⟨g, cap, cur, q, hb, h.cells _ _ hcur rfl, rest⟩
  · obtain ⟨F, q1, q2⟩ := h4 j x c hx hc
    exact ⟨F, R.keep q1 (fun b _ o u hu => h.cell hu), q2⟩

/-! What a round keeps. -/
/-- Cells keep their content, but for the blocks of X. -/
structure KeptX (X : Nat → Prop) (A B : World) : Prop where
 size : A.heap.size ≤ B.heap.size
 cells : ∀ (k : Nat) (o : Obj), A.heap[k]? = some o → o.isCells = true → ¬ X k → B.heap[k]? = some o
theorem KeptX.trans {X : Nat → Prop} {A B C : World} (h : KeptX X A B) (k : KeptX X B C) : KeptX X A C := ⟨T h.size k.size, fun i o hi ho hx => k.cells i o (h.cells i o hi ho hx) ho hx⟩
theorem KeptX.of_mv {X : Nat → Prop} {n₀ : Nat} {A B : World} (h : Mv n₀ A B) : KeptX X A B := ⟨h.size, fun k o hk ho _ => h.cells k o hk ho⟩
theorem KeptX.cell {X : Nat → Prop} {A B : World} (h : KeptX X A B) {b o : Nat} {v : Value} (hx : ¬ X b) (hv : A.cell? ⟨b, o, none⟩ = some v) : B.cell? ⟨b, o, none⟩ = some v := by
 obtain ⟨u, hu, hc⟩ := cells_of_cell hv
 exact (World.cell?_of_block ((h.cells _ u hu hc hx).trans hu.symm)).trans hv
theorem KeptX.box {X : Nat → Prop} {A B : World} (h : KeptX X A B) {b o : Nat} {v : Value} (hx : ¬ X b) (hv : BoxAt A b o v) : BoxAt B b o v := by
 obtain ⟨u, hu, hc⟩ := cells_of_cell hv.1
 exact ⟨h.cell hx hv.1, (World.frozen?_of_block ((h.cells _ u hu hc hx).trans hu.symm)).trans hv.2⟩
structure RK (n₀ : Nat) (X : Nat → Prop) (A B : World) : Prop where
 kept : KeptX X A B
 oth : KeepsFrom n₀ A B
theorem RK.refl (n₀ : Nat) (X : Nat → Prop) (A : World) : RK n₀ X A A := ⟨⟨Nat.le_refl _, fun _ _ h _ _ => h⟩, KeepsFrom.refl _ _⟩
theorem RK.ext {n₀ : Nat} {X : Nat → Prop} {A B C : World} (h : RK n₀ X A B) (e : Ext B C) : RK n₀ X A C :=
 ⟨h.kept.trans (KeptX.of_mv (n₀ := 0) (Mv.of_ext e)), h.oth.trans (e.others.from _)⟩
theorem RK.turn {n₀ : Nat} {X : Nat → Prop} {A B C : World} (h : RK n₀ X A B) {O : Nat} (t : Turns O B C) (hO : X O ∨ A.heap.size ≤ O) : RK n₀ X A C := by
  refine ⟨⟨by rw [t.size]; exact h.kept.size, fun k o hk ho hx => ?_⟩, ⟨by rw [t.size]; exact h.oth.size, fun k o hk hi ho => ?_⟩⟩
  · have hne : k ≠ O := fun e => by
      subst e
      rcases hO with q | q
      · exact hx q
      · have := (Array.getElem?_eq_some_iff.1 hk).1; omega
    rw [t.heap' k hne]; exact h.kept.cells k o hk ho hx
  · have h2 := h.oth.same k o hk hi ho
    by_cases e : k = O
    · subst e; exact t.oth' o h2 ho
    · rw [t.heap' k e]; exact h2

/-! A range over a function that yields N times, in order. -/
def SeqN (P : Program) (g : Nat) (lb : Array Value) (N : Nat) (encs : Nat → List Value) (Φ : Nat → World → Prop) (X : Nat → Prop) (w : World) : Prop :=
 ∀ (l : Nat) (J Jx : Nat → World → Prop) (W : World), Ext w W → (∀ i A B, J i A → Ext A B → J i B) → (∀ i A B, Jx i A → Ext A B → Jx i B) →
  (∀ i W1 m, i < N → J i W1 → Φ i W1 → YieldAt Fence.wide m P l (encs i).toArray W1 fun e W' => (e = .returned (.bool true) ∧ J (i + 1) W' ∧ KeptX X W1 W') ∨ (e = .returned (.bool false) ∧ Jx i W' ∧ KeptX X W1 W')) →
  J 0 W → ∀ n, CallsIn Fence.wide n P g (#[.func (.yield l) #[] #[]] ++ lb) W fun e W' => (∃ v, e = .returned v) ∧ (J N W' ∨ ∃ i, i < N ∧ Jx i W')
/-- How a round may be left. -/
def RndQ (n₀ : Nat) (X : Nat → Prop) (Inv : Nat → World → Prop) (Ix : Code → Nat → World → Prop) (i : Nat) (W : World) : Exit → Act → World → Prop
 | .normal, _, W' => RK n₀ X W W' ∧ Inv (i + 1) W'
 | .ret, _, W' => RK n₀ X W W' ∧ Ix .ret i W'
 | .exit id, _, W' => RK n₀ X W W' ∧ Ix (.exit id) i W'
 | _, _, _ => False
/-- How the assignments to the loop's variables end. -/
def AsgQ (P : Program) (l k n₀ : Nat) (X : Nat → Prop) (body : Code) (Inv : Nat → World → Prop) (Ix : Code → Nat → World → Prop) (i : Nat) (W : World) : Exit → Act → World → Prop
 | .normal, a, w1 => RK n₀ X W w1 ∧ ∀ w2, Mv n₀ w1 w2 → body.wpIn (FR (some l)) k P (RndQ n₀ X Inv Ix i w2) a w2
 | _, _, _ => False
def zipW : List Nat → List Value → List (Nat × Value) → List (Nat × Value)
 | p :: ps, v :: vs, ws => zipW ps vs ((p, v) :: ws)
 | _, _, ws => ws
theorem zip_setL (L : List Value) : ∀ (ps : List Nat) (vs : List Value) (ws : List (Nat × Value)), (ps.zip vs).foldl (fun t (p, v) => t.setIfInBounds p v) (setAll L ws).toArray = (setAll L (zipW ps vs ws)).toArray
 | p :: ps, v :: vs, ws => by
  have ih := zip_setL L ps vs ((p, v) :: ws)
  rw [zipW, ← ih, List.zip_cons_cons, List.foldl_cons]
  simp [setAll]
 | [], vs, ws => by simp [zipW]
 | p :: ps, [], ws => by simp [zipW]
theorem zip_set (L : List Value) (ps : List Nat) (vs : List Value) (ws : List (Nat × Value)) : (ps.toArray.zip vs.toArray).foldl (fun t (p, v) => t.setIfInBounds p v) (setAll L ws).toArray = (setAll L (zipW ps vs ws)).toArray := by
 rw [← zip_setL, List.zip_toArray]
 exact List.foldl_toArray _ _ _
theorem zip_bd {n : Nat} {L : List Value} : ∀ {ps : List Nat} {vs : List Value} {ws : List (Nat × Value)}, Bd n L ws → ps.all (fun p => Nat.blt p n) = true → Bd n L (zipW ps vs ws)
 | p :: ps, v :: vs, ws, b, h => by
  simp only [List.all_cons, Bool.and_eq_true] at h
  exact zip_bd (ps := ps) (vs := vs) (b.put h.1) h.2
 | [], vs, ws, b, _ => b
 | p :: ps, [], ws, b, _ => b
section
variable {P : Program} {n : Nat} {L : List Value} {ws : List (Nat × Value)} {w : World} {Q : Exit → Act → World → Prop} {r : Option Nat} {m : Nat} {Ds : List Nat}
theorem icw_range {g : Operand} {ps : List Nat} {assign body : Code} {gf : Nat} {lb : Array Value} (hg : evalW L ws g = .func (.func gf) #[] lb) (eg : ∀ args w, (callFunc gf args).run P w = .ok (.enter gf args) w)
    {N : Nat} {encs : Nat → List Value} {Φ : Nat → World → Prop} {X : Nat → Prop} {w0 : World} (hseq : SeqN P gf lb N encs Φ X w0) (hb0 : Ext w0 w) (hps : ∀ i, (encs i).length = ps.length) (hpn : ps.all (fun p => Nat.blt p n) = true)
    (Inv : Nat → World → Prop) (Ix : Code → Nat → World → Prop) (hI : ∀ i A B, Inv i A → Mv w.heap.size A B → Inv i B) (hIx : ∀ c i A B, Ix c i A → Mv w.heap.size A B → Ix c i B) (h0 : Inv 0 w)
    (round : ∀ l k i W, i < N → Inv i W → Φ i W → ICW P (some l) k [] assign (AsgQ P l k w.heap.size X body Inv Ix i W) n L (zipW ps (encs i) ws) W)
    (done : ∀ D W, w.heap.size ≤ D → D < W.heap.size → Inv N W → W.heap[D]? = some (.deferred (some [])) → IQW (D :: Ds) Q .normal n L ws W)
    (stop : ∀ c D i W, w.heap.size ≤ D → D < W.heap.size → i < N → Ix c i W → W.heap[D]? = some (.deferred (some [])) → ICW P none m (D :: Ds) c Q n L ws W) :
    ICW P none m Ds (.rangeFunc g ps.toArray assign body) Q n L ws w := ⟨fun b => by
  have hgv : Act.eval ⟨(setAll L ws).toArray, marks Ds⟩ g = .func (.func gf) #[] lb := by rw [eval_W b.lt]; exact hg
  show (Code.rangeFunc g ps.toArray assign body).wpIn Fence.wide m P Q ⟨(setAll L ws).toArray, marks Ds⟩ w
  refine wpIn_rangeFunc fun fn hfn => ?_
  let R := recOf ⟨(setAll L ws).toArray, marks Ds⟩ ps.toArray assign body fn w.heap.size
  let W1 := (w.alloc (.deferred (some []))).alloc (.loop (R .ready none))
  have sz : W1.heap.size = w.heap.size + 2 := by simp [W1]
  have hL1 : W1.heap[w.heap.size + 1]? = some (.loop (R .ready none)) := by
    have := World.alloc_heap_new (w.alloc (.deferred (some []))) (.loop (R .ready none))
    rwa [World.size_alloc] at this
  have hK1 : W1.heap[w.heap.size]? = some (.deferred (some [])) := (Below.heap_alloc _ _ _ (by simp)).trans (World.alloc_heap_new w _)
  have hE1 : Ext w W1 := ((Ext.refl w).alloc _).alloc _
  refine ⟨w.heap.size + 1, [{ target := .collected w.heap.size, args := #[] }], W1, { target := .fn (.func gf) lb, args := #[.func (.yield (w.heap.size + 1)) #[] #[]] }, W1, gf, #[.func (.yield (w.heap.size + 1)) #[] #[]] ++ lb, W1,
    run_enterLoop_outer _ _ _ _ _, ?_, fun _ _ => trivial, by simp [invoke, go_sem, eg], fun h => by simp [Fence.wide] at h, ?_⟩
  · have hgv' : Act.eval ⟨(setAll L ws).toArray, marks Ds⟩ g = .func (.func gf) #[] lb := hgv
    simp only [resolve, hgv']; simp [go_sem]
  refine (hseq (w.heap.size + 1)
    (fun i W => Inv i W ∧ W.heap[w.heap.size + 1]? = some (.loop (R .ready none)) ∧ W.heap[w.heap.size]? = some (.deferred (some [])))
    (fun i W => ∃ c, Ix c i W ∧ W.heap[w.heap.size + 1]? = some (.loop (R .done (some c))) ∧ W.heap[w.heap.size]? = some (.deferred (some [])))
    W1 (hb0.trans hE1)
    (fun i A B hs e => ⟨hI i A B hs.1 (Mv.of_ext e), (e.block _ (Array.getElem?_eq_some_iff.1 hs.2.1).1).trans hs.2.1, (e.block _ (Array.getElem?_eq_some_iff.1 hs.2.2).1).trans hs.2.2⟩)
    (fun i A B ⟨c, h1, h2, h3⟩ e => ⟨c, hIx c i A B h1 (Mv.of_ext e), (e.block _ (Array.getElem?_eq_some_iff.1 h2).1).trans h2, (e.block _ (Array.getElem?_eq_some_iff.1 h3).1).trans h3⟩)
    ?_ ⟨hI 0 w W1 h0 (Mv.of_ext hE1), hL1, hK1⟩ _).mono ?_
  · rintro i W k hi ⟨hInv, hl, hk⟩ hx
    have hlt := (Array.getElem?_eq_some_iff.1 hl).1
    have hsz : (encs i).toArray.size = ps.toArray.size := by simp [hps i]
    refine ⟨fn, _, assign, body, run_yield (P := P) (args := (encs i).toArray) hl hsz, roundIn_of_wpIn (F := Fence.wide) hfn ?_⟩
    have hround := (round (w.heap.size + 1) k i W hi hInv hx).out (zip_bd b hpn)
    have e0 : (⟨(setAll L (zipW ps (encs i) ws)).toArray, marks []⟩ : Act) = { tmps := (ps.toArray.zip (encs i).toArray).foldl (fun t (p, v) => t.setIfInBounds p v) (setAll L ws).toArray, defers := [] } := by rw [zip_set]; rfl
    rw [e0] at hround
    refine Go.wpIn_mono hround fun e a1 w1 hp => ?_
    cases e with
    | normal =>
      obtain ⟨hk1, hbody⟩ := hp
      have hl1 := hk1.oth.same _ _ (by omega) hl rfl
      have hkk := hk1.oth.same _ _ (Nat.le_refl _) hk rfl
      have hlt1 := (Array.getElem?_eq_some_iff.1 hl1).1
      refine ⟨_, run_beginRound hl1 rfl, ?_⟩
      let W2 := w1.putObj (w.heap.size + 1) (.loop (R .busy none))
      have hm2 : Mv w.heap.size w1 W2 := Mv.putObj _ (by omega) hl1 rfl
      have hl2 : W2.heap[w.heap.size + 1]? = some (.loop (R .busy none)) := World.putObj_heap_same hlt1
      have hk2 : W2.heap[w.heap.size]? = some (.deferred (some [])) := (World.putObj_heap_other (by omega)).trans hkk
      have leave : ∀ (jump : Option Code) (W3 : World), RK w.heap.size X W2 W3 →
          W3.heap[w.heap.size + 1]? = some (.loop (R .busy none)) ∧
          (Instr.endRound (w.heap.size + 1) jump).run P W3 = .ok (.bool jump.isNone) (W3.putObj (w.heap.size + 1) (.loop (R (if jump.isNone then .ready else .done) jump))) ∧
          (W3.putObj (w.heap.size + 1) (.loop (R (if jump.isNone then .ready else .done) jump))).heap[w.heap.size + 1]? = some (.loop (R (if jump.isNone then .ready else .done) jump)) ∧
          (W3.putObj (w.heap.size + 1) (.loop (R (if jump.isNone then .ready else .done) jump))).heap[w.heap.size]? = some (.deferred (some [])) ∧
          Mv w.heap.size W3 (W3.putObj (w.heap.size + 1) (.loop (R (if jump.isNone then .ready else .done) jump))) ∧ KeptX X W (W3.putObj (w.heap.size + 1) (.loop (R (if jump.isNone then .ready else .done) jump))) := fun jump W3 h3 => by
        have hl3 := h3.oth.same _ _ (by omega) hl2 rfl
        have hm3 : Mv w.heap.size W3 (W3.putObj (w.heap.size + 1) (.loop (R (if jump.isNone then .ready else .done) jump))) := Mv.putObj _ (by omega) hl3 rfl
        exact ⟨hl3, run_endRound (P := P) jump hl3, World.putObj_heap_same (Array.getElem?_eq_some_iff.1 hl3).1, (World.putObj_heap_other (by omega)).trans (h3.oth.same _ _ (Nat.le_refl _) hk2 rfl), hm3, ((hk1.kept.trans (KeptX.of_mv hm2)).trans h3.kept).trans (KeptX.of_mv hm3)⟩
      refine Go.wpIn_mono (hbody W2 hm2) fun e a3 W3 hp => ?_
      cases e with
      | normal =>
        obtain ⟨h3, hi3⟩ := hp
        obtain ⟨hl3, hr, q1, q2, q3, q4⟩ := leave none W3 h3
        exact ⟨_, _, hr, .inl ⟨rfl, ⟨hI _ _ _ hi3 q3, q1, q2⟩, q4⟩⟩
      | ret =>
        obtain ⟨h3, hi3⟩ := hp
        obtain ⟨hl3, hr, q1, q2, q3, q4⟩ := leave (some .ret) W3 h3
        exact ⟨_, _, hr, .inr ⟨rfl, ⟨_, hIx _ _ _ _ hi3 q3, q1, q2⟩, q4⟩⟩
      | exit id =>
        obtain ⟨h3, hi3⟩ := hp
        obtain ⟨hl3, hr, q1, q2, q3, q4⟩ := leave (some (.exit id)) W3 h3
        exact ⟨_, _, hr, .inr ⟨rfl, ⟨_, hIx _ _ _ _ hi3 q3, q1, q2⟩, q4⟩⟩
      | goto _ => exact hp.elim
      | panic _ => exact hp.elim
      | outgrown => exact hp.elim
    | exit _ => exact hp.elim
    | ret => exact hp.elim
    | goto _ => exact hp.elim
    | panic _ => exact hp.elim
    | outgrown => exact hp.elim
  · rintro e W2 ⟨⟨v, rfl⟩, (⟨hi, hl, hk⟩ | ⟨i, hiN, c, hi, hl, hk⟩)⟩
    · exact ⟨none, _, run_endLoop (P := P) hl (by simp [R, recOf]), (done w.heap.size _ (Nat.le_refl _) (by have := (Array.getElem?_eq_some_iff.1 hk).1; simpa using this) (hI _ _ _ hi (Mv.putObj _ (by omega) hl rfl)) ((World.putObj_heap_other (by omega)).trans hk)).out b⟩
    · exact ⟨some c, _, run_endLoop (P := P) hl (by simp [R, recOf]), (stop c w.heap.size i _ (Nat.le_refl _) (by have := (Array.getElem?_eq_some_iff.1 hk).1; simpa using this) hiN (hIx _ _ _ _ hi (Mv.putObj _ (by omega) hl rfl)) ((World.putObj_heap_other (by omega)).trans hk)).out b⟩⟩
theorem iqw_asg {l k n₀ i : Nat} {X : Nat → Prop} {body : Code} {Inv : Nat → World → Prop} {Ix : Code → Nat → World → Prop} {W : World} (hk : RK n₀ X W w) (h : ∀ W2, Mv n₀ w W2 → ICW P (some l) k [] body (RndQ n₀ X Inv Ix i W2) n L ws W2) : IQW [] (AsgQ P l k n₀ X body Inv Ix i W) .normal n L ws w :=
 ⟨fun b => ⟨hk, fun w2 hm => (h w2 hm).out b⟩⟩
theorem iqw_next {n₀ i : Nat} {X : Nat → Prop} {Inv : Nat → World → Prop} {Ix : Code → Nat → World → Prop} {W : World} (hk : RK n₀ X W w) (h : Inv (i + 1) w) : IQW Ds (RndQ n₀ X Inv Ix i W) .normal n L ws w := ⟨fun _ => ⟨hk, h⟩⟩
theorem ileave {fn : Func} {R : Ending → World → Prop} {rs : List ResultVar} (n₀ : Nat) (vs : List Value) (hf : fn.results = rs.toArray) (b : Bd n L ws) (hD : ∀ D ∈ Ds, n₀ ≤ D ∧ w.heap[D]? = some (.deferred (some []))) (hn : Ds.Nodup)
  (h : ∀ W, Mv n₀ w W → ResV P (evalW L ws) W rs vs ∧ R (.returned (resOf vs)) W) : LeavesInM Fence.wide m P fn (setAll L ws).toArray R (marks Ds) .returning w := by
 refine leaves_marks n₀ (fun W => Mv n₀ w W) (fun D W hD hW hk => hW.trans (Mv.putObj _ hD hk rfl)) (fun W hW => ?_) Ds w hn hD (Mv.refl _ _)
 obtain ⟨h1, h2⟩ := h W hW
 exact ⟨_, res_run (a := ⟨(setAll L ws).toArray, marks Ds⟩) hf (by rw [eval_W b.lt]; exact h1), h2⟩
theorem iqw_ret {fn : Func} {R : Ending → World → Prop} {rs : List ResultVar} (n₀ : Nat) (vs : List Value) (hf : fn.results = rs.toArray) (hD : ∀ D ∈ Ds, n₀ ≤ D ∧ w.heap[D]? = some (.deferred (some []))) (hn : Ds.Nodup)
  (h : ∀ W, Mv n₀ w W → ResV P (evalW L ws) W rs vs ∧ R (.returned (resOf vs)) W) : IQW Ds (IBody m P fn R) .ret n L ws w := ⟨fun b => ileave n₀ vs hf b hD hn h⟩
end
/-! Regions that draw their order, within a round. -/
section
variable {P : Program} {ops : Array Oper} {Q : Exit → Act → World → Prop} {S : World → Prop} {r : Option Nat} {m : Nat}
def AnyJ (P : Program) (r : Option Nat) (m : Nat) (ops : Array Oper) (Q : Exit → Act → World → Prop) (S : World → Prop) : Nat → Array Bool → Act → World → Prop
 | 0, listed, a, w => Region.ready .any ops listed = [] ∧ Q .normal a w
 | fuel + 1, listed, a, w => (Region.ready .any ops listed = [] → Q .normal a w) ∧ ∀ i ∈ Region.ready .any ops listed, wpOpIn (FR r) m P ops Q i (fun a' w' => S w' ∧ AnyJ P r m ops Q S fuel (listed.setIfInBounds i true) a' w') a w
theorem anyJ_sound : ∀ (fuel : Nat) (listed : Array Bool) (a : Act) (w : World), AnyJ P r m ops Q S fuel listed a w → wpAnyIn (FR r) m P .any ops Q fuel listed a w
 | 0, _, _, _, h => h
 | fuel + 1, _, _, _, h => ⟨h.1, fun i hi => wpOpIn_mono (fun a w q => anyJ_sound fuel _ a w q.2) (h.2 i hi)⟩
/-- An operation that yields v wherever S holds, and writes nothing. -/
def PureH (P : Program) (ops : Array Oper) (S : World → Prop) (o : Oper) (v : Value) (a : Act) : Prop :=
 (Region.wanted o (yielded ops a.tmps) = true ∧ ∀ w, S w → (execOp a.eval o).run P w = .ok (.value v) w) ∨ (Region.wanted o (yielded ops a.tmps) = false ∧ v = undef)
theorem PureH.same {o : Oper} {v : Value} {a a' : Act} (h : PureH P ops S o v a) (he : execOp a'.eval o = execOp a.eval o) (hw : Region.wanted o (yielded ops a'.tmps) = Region.wanted o (yielded ops a.tmps)) : PureH P ops S o v a' := by
 unfold PureH at *
 rw [hw, he]; exact h
theorem PureH.op {i : Nat} {o : Oper} {v : Value} {a : Act} (hi : ops[i]? = some o) (h : PureH P ops S o v a) {K : Act → World → Prop} {w : World} (hS : S w) (hk : K (a.put o.dst v) w) : wpOpIn (FR r) m P ops Q i K a w := by
  unfold wpOpIn
  simp only [hi]
  rcases h with ⟨hw, hv⟩ | ⟨hw, rfl⟩
  · rw [if_pos hw]
    refine ⟨fun _ _ => trivial, ?_⟩
    show o.uponIn (FR r) m P a K Q ((o.semAt r a.eval).run P w)
    rw [semAt_of (hv w hS) (by simp), Oper.uponIn_value]; exact hk
  · rw [if_neg (by rw [hw]; simp)]
    exact ⟨fun _ _ => trivial, hk⟩
theorem opJ_put {j : Nat} {oi oj : Oper} {v : Value} (hj : ops[j]? = some oj) (hap : oi.apart ops oj = true) (hsi : ∀ cs b, oi.op ≠ .select cs b) (hsj : ∀ cs b, oj.op ≠ .select cs b) (hnd : ∀ c, oj.op ≠ .defer c)
    (hQ : ∀ c a w, Q (.panic c) (a.put oi.dst v) w → Q (.panic c) a w) {K : Act → World → Prop} {a : Act} {w : World} (hy : PureH P ops S oi v a) (h : wpOpIn (FR r) m P ops Q j K (a.put oi.dst v) w) :
    wpOpIn (FR r) m P ops Q j (fun a' w' => PureH P ops S oi v a' ∧ K (a'.put oi.dst v) w') a w := by
  obtain ⟨h1, h2, h3⟩ := Oper.apart_spec hap
  have keep : ∀ (a : Act) (u : Value), PureH P ops S oi v a → PureH P ops S oi v (a.put oj.dst u) := fun a u hy => hy.same (execOp_put oi hsi a oj.dst u h3) (wanted_put oi a oj.dst u h3)
  unfold wpOpIn at *
  simp only [hj] at *
  rw [wanted_put oj a oi.dst v h1] at h
  split
  · rename_i hw
    simp only [hw, if_true] at h
    refine ⟨fun _ _ => trivial, ?_⟩
    have h9 := h.2
    rw [Oper.semAt_eq _ _ _ hnd, execOp_put oj hsj a oi.dst v h1] at h9
    rw [Oper.semAt_eq _ _ _ hnd]
    generalize (execOp a.eval oj).run P w = res at *
    cases res with
    | ok x w' =>
      cases x <;> simp only [Oper.uponIn] at h9 ⊢
      case value u => exact ⟨keep a u hy, by rw [← Act.put_comm a v u h2]; exact h9⟩
      case skip => exact ⟨keep a _ hy, by rw [← Act.put_comm a v undef h2]; exact h9⟩
      case defer d =>
        refine ⟨keep _ _ (hy.same rfl rfl), ?_⟩
        rw [← Act.put_comm _ v undef h2, ← Act.put_defers]
        exact h9
      case enter f args =>
        refine ⟨h9.1, CallsIn.mono h9.2 fun e w'' he => ?_⟩
        cases e with
        | returned u => exact ⟨keep a u hy, by rw [← Act.put_comm a v u h2]; exact he⟩
        | panicked c => exact hQ _ _ _ he
        | outgrown => exact he
      case row row args => exact ⟨h9.1, RowsIn.mono h9.2 fun u w'' he => ⟨keep a u hy, by rw [← Act.put_comm a v u h2]; exact he⟩⟩
      case round l f tmps assign body =>
        refine ⟨h9.1, RoundIn.mono h9.2 fun e w'' he => ?_⟩
        cases e with
        | returned u => exact ⟨keep a u hy, by rw [← Act.put_comm a v u h2]; exact he⟩
        | panicked c => exact hQ _ _ _ he
        | outgrown => exact he
    | halt x w' =>
      cases x <;> simp only [Oper.uponIn] at h9 ⊢
      case panic u => exact hQ _ _ _ h9
  · rename_i hw
    simp only [hw] at h
    exact ⟨fun _ _ => trivial, keep a _ hy, by rw [← Act.put_comm a v undef h2]; exact h.2⟩
theorem anyJ_first {i : Nat} {oi : Oper} {v : Value} (hi : ops[i]? = some oi) (hsel : ∀ (j : Nat) (o : Oper) cs b, ops[j]? = some o → o.op ≠ .select cs b) (hnd : ∀ (j : Nat) (o : Oper) c, ops[j]? = some o → o.op ≠ .defer c)
    (hQ : ∀ c a w, Q (.panic c) (a.put oi.dst v) w → Q (.panic c) a w) :
    ∀ (fuel : Nat) (listed : Array Bool) (a : Act) (w : World),
      (∀ j oj, ops[j]? = some oj → j ≠ i → listed.getD j true = false → (∀ e ∈ oj.after, Region.binds .any e = true → e.on ≠ i) → oi.apart ops oj = true) →
      i ∈ Region.ready .any ops listed → PureH P ops S oi v a → S w →
      AnyJ P r m ops Q S fuel (listed.setIfInBounds i true) (a.put oi.dst v) w → AnyJ P r m ops Q S (fuel + 1) listed a w := by
  intro fuel
  induction fuel with
  | zero =>
    intro listed a w _ hr hy hS H
    refine ⟨fun h => (by rw [h] at hr; cases hr), fun j hj => ?_⟩
    by_cases hji : j = i
    · subst hji; exact hy.op hi hS ⟨hS, H⟩
    · have := ready_mono hj hji
      rw [H.1] at this
      cases this
  | succ fuel ih =>
    intro listed a w hfree hr hy hS H
    refine ⟨fun h => (by rw [h] at hr; cases hr), fun j hj => ?_⟩
    by_cases hji : j = i
    · subst hji; exact hy.op hi hS ⟨hS, H⟩
    · have h1 := H.2 j (ready_mono hj hji)
      obtain ⟨hjun, oj, hoj, hall⟩ := mem_ready.1 hj
      have hnot : ∀ e ∈ oj.after, Region.binds .any e = true → e.on ≠ i := fun e he hb heq => by
        have h1 := hall e he hb
        have h0 := (mem_ready.1 hr).1
        rw [heq] at h1
        rcases Nat.lt_or_ge i listed.size with h' | h'
        · simp [h'] at h0 h1; rw [h0] at h1; cases h1
        · simp [Array.getElem?_eq_none h'] at h1
      have h2 := opJ_put (S := S) hoj (hfree j oj hoj hji hjun hnot) (fun cs b => hsel i oi cs b hi) (fun cs b => hsel j oj cs b hoj) (fun c => hnd j oj c hoj) hQ hy h1
      have hfree' : ∀ k ok, ops[k]? = some ok → k ≠ i → (listed.setIfInBounds j true).getD k true = false →
          (∀ e ∈ ok.after, Region.binds .any e = true → e.on ≠ i) → oi.apart ops ok = true := fun k ok hk hki hun hno => by
        refine hfree k ok hk hki ?_ hno
        by_cases hjk : j = k
        · subst hjk; exact hjun
        · rw [getD_set_ne true hjk] at hun; exact hun
      refine wpOpIn_mono (fun a' w' h3 => ⟨h3.2.1, ih (listed.setIfInBounds j true) a' w' hfree' (ready_mono hr (Ne.symm hji)) h3.1 h3.2.1 ?_⟩) h2
      rw [Array.setIfInBounds_comm _ _ hji]
      exact h3.2.2
end
def noDefer (ops : Array Oper) : Bool := ops.toList.all fun o => match o.op with | .defer _ => false | _ => true
theorem noDefer_spec {ops : Array Oper} (h : noDefer ops = true) : ∀ (j : Nat) (o : Oper) c, ops[j]? = some o → o.op ≠ .defer c := fun j o c hj he => by
 have hm : o ∈ ops.toList := by rw [← Array.getElem?_toList] at hj; exact List.mem_of_getElem? hj
 have := List.all_eq_true.1 h o hm
 rw [he] at this; cases this
section
variable {P : Program} {ops ops0 : Array Oper} {Q Q' : Exit → Act → World → Prop} {S : World → Prop} {T : List Row} {L : List Value} {Ds : List Nat} {fuel n : Nat} {done : List Nat} {ws : List (Nat × Value)} {w : World} {r : Option Nat} {m : Nat}
structure IReg (P : Program) (ops0 ops : Array Oper) (Q : Exit → Act → World → Prop) (L : List Value) (T : List Row) : Prop extends Reg P ops0 ops Q L T where
 nodef : noDefer ops = true
structure IWD (P : Program) (r : Option Nat) (m : Nat) (Ds : List Nat) (ops : Array Oper) (Q : Exit → Act → World → Prop) (S : World → Prop) (L : List Value) (fuel : Nat) (done : List Nat) (ws : List (Nat × Value)) (w : World) : Prop where
 out : (∀ p ∈ ws, p.1 < L.length) → AnyJ P r m ops Q S fuel (lset ops.size done) ⟨(setAll L ws).toArray, marks Ds⟩ w
theorem icw_draw {id : Nat} {ops0 : Array Oper} (T : List Row) (S : World → Prop) (hm : P.follows .mixedOrders = true) (ht : tableR ops0 = T) (hg : goodT n ops0.size T = true) (hs : (Region.noSelect ops0 && noDefer ops0) = true) (hQ : Calm Q) (_hS : S w.drew)
  (h : ∀ (ops : Array Oper) (Q' : Exit → Act → World → Prop) (X : World), Ext w X → L.length = n → IReg P ops0 ops Q' L T → Shut (∀ ws w, IQW Ds Q .normal n L ws w → IQW Ds Q' .normal n L ws w) → IWD P r m Ds ops Q' S L ops0.size [] ws X) : ICW P r m Ds (.region id ops0 true) Q n L ws w := ⟨fun b => by
 obtain ⟨hs1, hs2⟩ := Bool.and_eq_true_iff.1 hs
 have h9 := (h ops0 Q _ (Ext.drew (Ext.refl _)) b.1 ⟨⟨rfl, ht, by rw [b.1]; exact hg, hs1, hQ⟩, hs2⟩ (fun _ _ h => h)).out b.lt
 exact wpIn_region_any hm (anyJ_sound _ _ _ _ h9)⟩
theorem iwd_end (hL : L.length = n) (hR : IReg P ops0 ops Q' L T) (hK : Shut (∀ ws w, IQW Ds Q .normal n L ws w → IQW Ds Q' .normal n L ws w)) (hd : upT done (numbered T 0) = []) (h : IQW Ds Q .normal n L ws w) : IWD P r m Ds ops Q' S L fuel done ws w := ⟨fun hb => by
 have hr : Region.ready .any ops (lset ops.size done) = [] := by
  rw [List.eq_nil_iff_forall_not_mem]
  intro j hj
  have := ready_up hR.toReg hj
  rw [hd] at this; cases this
 have hq := (hK _ _ h).out ⟨hL, fun p hp => by rw [← hL]; exact hb p hp⟩
 cases fuel with
 | zero => exact ⟨hr, hq⟩
 | succ k => exact ⟨fun _ => hq, by rw [hr]; simp⟩⟩
theorem iwd_take (i : Nat) {d : Nat} {oi : Oper} {rs : List Oper} (v : Value) (hR : IReg P ops0 ops Q' L T) (hi : ops0.toList.drop i = oi :: rs) (hr : readyT T done i = true) (hdst : oi.dst = some d)
  (hw : wantedW T L ws oi.guard = true) (hy : ∀ w, S w → (execOp (evalW L ws) oi).run P w = .ok (.value v) w) (hS : S w)
  (h : IWD P r m Ds ops Q' S L fuel (i :: done) ((d, v) :: ws) w) : IWD P r m Ds ops Q' S L (fuel + 1) done ws w := ⟨fun hb => by
 have ho := op_at hR.toReg hi
 refine anyJ_first (v := v) ho (Region.noSelect_spec hR.nosel) (noDefer_spec hR.nodef) (fun c a w => hR.calm c _ _ a w) fuel _ _ w (apart_of_good hR.tab hR.good ho hr) (readyT_mem hR.tab hR.good ho hr) ?_ hS ?_
 · exact .inl ⟨wanted_W (marks Ds) hR.tab hR.good hb hw, fun w hw => by rw [eval_W hb]; exact hy w hw⟩
 · rw [put_W, hdst]; exact h.out (putW_lt (d := some d) hb (fun k e => by cases e; exact dst_lt hR.toReg ho _ hdst))⟩
theorem iwd_step (i : Nat) {oi : Oper} {rs : List Oper} (hR : IReg P ops0 ops Q' L T) (hi : ops0.toList.drop i = oi :: rs) (hr : upT done (numbered T 0) = [i]) (hr2 : readyT T done i = true)
    (hw : wantedW T L ws oi.guard = true) (h : StepN P (evalW L ws) oi w fun v w' => S w' ∧ IWD P r m Ds ops Q' S L fuel (i :: done) (putW oi.dst v ws) w') : IWD P r m Ds ops Q' S L (fuel + 1) done ws w := ⟨fun hb => by
  have ho := op_at hR.toReg hi
  refine ⟨fun h0 => ?_, fun j hj => ?_⟩
  · have := readyT_mem hR.tab hR.good ho hr2
    rw [h0] at this; cases this
  · have := ready_up hR.toReg hj
    rw [hr] at this
    obtain rfl := List.mem_singleton.1 this
    unfold wpOpIn
    simp only [ho]
    rw [if_pos (wanted_W (marks Ds) hR.tab hR.good hb hw)]
    exact h.wpI (eval_W hb _) fun v w' hn => ⟨hn.1, by rw [put_W]; exact hn.2.out (putW_lt hb (dst_lt hR.toReg ho))⟩⟩
theorem calm_no (h : ∀ c a w, ¬ Q (.panic c) a w) : Calm Q := fun c _ _ _ w q => (h c _ w q).elim
theorem calm_rnd {n₀ i : Nat} {X : Nat → Prop} {Inv : Nat → World → Prop} {Ix : Code → Nat → World → Prop} {W : World} : Calm (RndQ n₀ X Inv Ix i W) := calm_no fun _ _ _ h => h
end
section
variable {P : Program} {n : Nat} {L : List Value} {ws : List (Nat × Value)} {w : World} {m : Nat}
theorem iqw_ret0 {fn : Func} {R : Ending → World → Prop} {rs : List ResultVar} (vs : List Value) (hf : fn.results = rs.toArray) (h : ResV P (evalW L ws) w rs vs) (hR : R (.returned (resOf vs)) w) : IQW [] (IBody m P fn R) .ret n L ws w := ⟨fun b => by
 show LeavesInM Fence.wide m P fn (setAll L ws).toArray R [] .returning w
 exact ⟨_, res_run (a := ⟨(setAll L ws).toArray, []⟩) hf (by rw [eval_W b.lt]; exact h), hR⟩⟩
theorem iqw_end0 {fn : Func} {R : Ending → World → Prop} {rs : List ResultVar} (vs : List Value) (hf : fn.results = rs.toArray) (h : ResV P (evalW L ws) w rs vs) (hR : R (.returned (resOf vs)) w) : IQW [] (IBody m P fn R) .normal n L ws w := ⟨fun b => by
 show LeavesInM Fence.wide m P fn (setAll L ws).toArray R [] .returning w
 exact ⟨_, res_run (a := ⟨(setAll L ws).toArray, []⟩) hf (by rw [eval_W b.lt]; exact h), hR⟩⟩
end
theorem yield_mono {F : Fence} {m : Nat} {P : Program} {l : Nat} {args : Array Value} {W : World} {R R' : Ending → World → Prop} (h : YieldAt F m P l args W R) (hr : ∀ e w', R e w' → R' e w') : YieldAt F m P l args W R' :=
 let ⟨fn, tmps, assign, body, h1, h2⟩ := h; ⟨fn, tmps, assign, body, h1, h2.mono hr⟩
theorem mk_turn {A B : World} {D O : Nat} {x : Option (List Deferred)} (h : A.heap[D]? = some (.deferred x)) (t : Turns O A B) : B.heap[D]? = some (.deferred x) := by
 by_cases e : D = O
 · subst e; exact t.oth' _ h rfl
 · rw [t.heap' D e]; exact h
theorem marksC {n₀ D : Nat} {w : World} {Ds : List Nat} (h : n₀ ≤ D) (hm : w.heap[D]? = some (.deferred (some []))) (hr : ∀ D' ∈ Ds, n₀ ≤ D' ∧ w.heap[D']? = some (.deferred (some []))) : ∀ D' ∈ D :: Ds, n₀ ≤ D' ∧ w.heap[D']? = some (.deferred (some [])) := fun D' hD => by
 rcases List.mem_cons.1 hD with rfl | hD
 · exact ⟨h, hm⟩
 · exact hr D' hD
/-! What a call may write: the blocks of X. -/
structure Wrote (X : Nat → Prop) (A B : World) : Prop where
 os : B.os = A.os
 tape : B.tape = A.tape
 output : B.output = A.output
 size : A.heap.size ≤ B.heap.size
 same : ∀ (k : Nat), k < A.heap.size → ¬ X k → B.heap[k]? = A.heap[k]?
 oth : ∀ (k : Nat) (o : Obj), A.heap[k]? = some o → o.isCells = false → B.heap[k]? = some o
theorem Wrote.refl (X : Nat → Prop) (A : World) : Wrote X A A := ⟨rfl, rfl, rfl, Nat.le_refl _, fun _ _ _ => rfl, fun _ _ h _ => h⟩
theorem Wrote.trans {X : Nat → Prop} {A B C : World} (h : Wrote X A B) (k : Wrote X B C) : Wrote X A C :=
 ⟨k.os.trans h.os, k.tape.trans h.tape, k.output.trans h.output, T h.size k.size, fun i hi hx => (k.same i (Nat.lt_of_lt_of_le hi h.size) hx).trans (h.same i hi hx), fun i o hi ho => k.oth i o (h.oth i o hi ho) ho⟩
theorem Wrote.of_ext {X : Nat → Prop} {A B : World} (e : Ext A B) : Wrote X A B :=
 ⟨e.os, e.tape, e.output, e.size, fun k hk _ => e.block k hk, fun k _o hk _ => (e.block k (Array.getElem?_eq_some_iff.1 hk).1).trans hk⟩
theorem Wrote.of_turns {X : Nat → Prop} {A B : World} {O : Nat} (t : Turns O A B) (hx : X O) : Wrote X A B := by
 have h0 : Ext { A with heap := #[] } A := ⟨rfl, rfl, rfl, Nat.zero_le _, fun k hk => absurd hk (Nat.not_lt_zero k)⟩
 have h1 := t.ext h0 (Nat.zero_le _)
 refine ⟨h1.os, h1.tape, h1.output, Nat.le_of_eq t.size.symm, fun k _ hk => t.heap' k (fun e => hk (e ▸ hx)), fun k o hk ho => ?_⟩
 by_cases e : k = O
 · subst e; exact t.oth' o hk ho
 · rw [t.heap' k e]; exact hk
theorem Wrote.step {X : Nat → Prop} {A B C : World} (h : Wrote X A B) (e : Ext B C) : Wrote X A C := h.trans (Wrote.of_ext e)
/-- A turn of a block that is new, or of X. -/
theorem Wrote.turn {X : Nat → Prop} {A B C : World} (h : Wrote X A B) {O : Nat} (t : Turns O B C) (hO : X O ∨ A.heap.size ≤ O) : Wrote X A C := by
  rcases hO with q | q
  · exact h.trans (Wrote.of_turns t q)
  · have k := Wrote.of_turns (X := fun k => k = O) t rfl
    exact ⟨k.os.trans h.os, k.tape.trans h.tape, k.output.trans h.output, T h.size k.size, fun i hi hx => (k.same i (Nat.lt_of_lt_of_le hi h.size) (fun e => by omega)).trans (h.same i hi hx), fun i o hi ho => k.oth i o (h.oth i o hi ho) ho⟩
theorem Wrote.ext {X : Nat → Prop} {A B U : World} (h : Wrote X A B) (hU : Ext U A) (hx : ∀ k, X k → U.heap.size ≤ k) : Ext U B :=
 ⟨h.os.trans hU.os, h.tape.trans hU.tape, h.output.trans hU.output, T hU.size h.size, fun k hk => (h.same k (Nat.lt_of_lt_of_le hk hU.size) (fun q => absurd hk (Nat.not_lt_of_le (hx k q)))).trans (hU.block k hk)⟩
theorem Wrote.kept {X Y : Nat → Prop} {A B : World} (h : Wrote X A B) (hx : ∀ k, X k → Y k) : KeptX Y A B :=
 ⟨h.size, fun k _o hk _ hy => (h.same k (Array.getElem?_eq_some_iff.1 hk).1 (fun q => hy (hx k q))).trans hk⟩
theorem Wrote.cell {X : Nat → Prop} {A B : World} (h : Wrote X A B) {b o : Nat} {v : Value} (hb : ¬ X b) (hv : A.cell? ⟨b, o, none⟩ = some v) : B.cell? ⟨b, o, none⟩ = some v := (h.kept (fun _ q => q)).cell hb hv
theorem Wrote.box {X : Nat → Prop} {A B : World} (h : Wrote X A B) {b o : Nat} {v : Value} (hb : ¬ X b) (hv : BoxAt A b o v) : BoxAt B b o v := (h.kept (fun _ q => q)).box hb hv
theorem Wrote.va {X : Nat → Prop} {A B : World} (h : Wrote X A B) {b o : Nat} {l : List Int} (hb : ¬ X b) (hv : VA A b o l) : VA B b o l := ⟨fun i hi => h.cell hb (hv.1 i hi), hv.2⟩
theorem Wrote.rows {X : Nat → Prop} {A B : World} (h : Wrote X A B) {b : Nat} {l : List Int} (hb : ¬ X b) (hv : RowsAt A b l) : RowsAt B b l :=
 ⟨hv.1, fun _i hi => h.cell hb (hv.cell hi), fun _i hi => (h.box hb ⟨hv.cell hi, hv.free hi⟩).2⟩
theorem RK.wrote {n₀ : Nat} {X Y : Nat → Prop} {A B C : World} (h : RK n₀ X A B) (t : Wrote Y B C) (hY : ∀ k, Y k → X k ∨ A.heap.size ≤ k) : RK n₀ X A C := by
 refine ⟨⟨T h.kept.size t.size, fun k o hk ho hx => ?_⟩, ⟨T h.oth.size t.size, fun k o hk hi ho => t.oth k o (h.oth.same k o hk hi ho) ho⟩⟩
 have h2 := h.kept.cells k o hk ho hx
 refine (t.same k (Array.getElem?_eq_some_iff.1 h2).1 (fun q => ?_)).trans h2
 rcases hY k q with q | q
 · exact hx q
 · have := (Array.getElem?_eq_some_iff.1 hk).1; omega
theorem Wrote.wrote {X Y : Nat → Prop} {A B C : World} (h : Wrote X A B) (t : Wrote Y B C) (hY : ∀ k, Y k → X k ∨ A.heap.size ≤ k) : Wrote X A C :=
 ⟨t.os.trans h.os, t.tape.trans h.tape, t.output.trans h.output, T h.size t.size, fun k hk hx => (t.same k (Nat.lt_of_lt_of_le hk h.size) (fun q => (hY k q).elim hx (fun z => absurd hk (Nat.not_lt_of_le z)))).trans (h.same k hk hx), fun k o hk ho => t.oth k o (h.oth k o hk ho) ho⟩

end Go.Proofs.Ytdjjkhefdalokaa

/- The iterators of package swath: delays, shown. -/
namespace Go.Proofs.Ytdjjkhefdalokaa
open Go.RowKit

set_option maxRecDepth 1000000 in
set_option maxHeartbeats 4000000 in
theorem delays_seq {o : Orb} {B : Nat} {X : Nat → Prop} {w0 : World} (hok : Orb.ok o = true) (hX : ¬ X B) (c6 : w0.cell? ⟨B, 6, none⟩ = some (.int .i64 o.sl)) :
  SeqN Try.prog 100 #[.pointer (some ⟨B, 0, none⟩)] (2 * o.sl + 1).toNat (fun i => [.int .i64 (-o.sl + ((i : Nat) : Int))]) (fun _ _ => True) X w0 := by
 intro l J Jx w hW hJst hJxst hY hJ0 n
 have hq0 := Orb.ok_t.1 hok
 replace c6 := hW.cell c6
 refine icalls 17 [(1, .pointer (some ⟨B, 0, none⟩)), (0, .func (.yield l) #[] #[])] Try.func100 rfl Try.ntmps100 (by kernel_rfl) (by kernel_rfl) (fun L mm => ?_)
 have hE : Ext w w := Ext.refl w
 refine icw_seq ?_
 refine icw_plain ?_
 refine ipl_take (.pointer (some ⟨B, 6, none⟩)) rfl (by kernel_rfl) (by kernel_rfl) (by kernel_rfl) (by kernel_rfl) ?_
 refine ipl_take (.int .i64 o.sl) rfl (by kernel_rfl) (by kernel_rfl) (by kernel_rfl) (ex_load rfl (by kernel_rfl) (ld3 (c6))) ?_
 refine ipl_take (.int .i64 (-o.sl + ((0 : Nat) : Int) : Int)) rfl (by kernel_rfl) (by kernel_rfl) (by kernel_rfl) (ev_int (ev_wrap (a := 0 - o.sl) (by kernel_rfl) (by omega) (by omega)) (by omega)) ?_
 refine ipl_take (.int .i64 (-o.sl + ((0 : Nat) : Int) : Int)) rfl (by kernel_rfl) (by kernel_rfl) (by kernel_rfl) (by kernel_rfl) ?_
 refine ipl_nil ?_
 refine iqw_then ?_
 refine icw_block ?_
 have hJs1 := hJst _ _ _ hJ0 (Ext.refl _)
 refine icw_loop [0, 1, 3] (fun ws' wr m => ∃ i : Nat, ws' = [(0, .func (.yield l) #[] #[]), (1, .pointer (some ⟨B, 0, none⟩)), (3, .int .i64 (-o.sl + ((i : Nat) : Int) : Int))] ∧ m = (2 * o.sl + 1).toNat - i ∧ w.heap.size ≤ wr.heap.size ∧ wr.cell? ⟨B, 6, none⟩ = some (.int .i64 o.sl) ∧ J i wr ∧ i ≤ (2 * o.sl + 1).toNat) (ws0 := [(0, .func (.yield l) #[] #[]), (1, .pointer (some ⟨B, 0, none⟩)), (3, .int .i64 (-o.sl + ((0 : Nat) : Int) : Int))]) (by kernel_rfl) _ ⟨0, rfl, rfl, Nat.le_refl _, c6, hJs1, by omega⟩ ?_
 clear c6
 rintro m4 L ws w3 ⟨i, rfl, rfl, hs2, c6, hJ9, hi⟩
 have hX5 : Ext w3 w3 := Ext.refl _
 by_cases hlt : i < (2 * o.sl + 1).toNat
 ·
  refine icw_seq ?_
  refine icw_seq ?_
  refine icw_plain ?_
  refine ipl_take (.int .i64 (-o.sl + ((i : Nat) : Int) : Int)) rfl (by kernel_rfl) (by kernel_rfl) (by kernel_rfl) (by kernel_rfl) ?_
  refine ipl_take (.pointer (some ⟨B, 6, none⟩)) rfl (by kernel_rfl) (by kernel_rfl) (by kernel_rfl) (by kernel_rfl) ?_
  refine ipl_take (.int .i64 o.sl) rfl (by kernel_rfl) (by kernel_rfl) (by kernel_rfl) (ex_load rfl (by kernel_rfl) (ld3 (c6))) ?_
  refine ipl_take (.bool true) rfl (by kernel_rfl) (by kernel_rfl) (by kernel_rfl) (ev_dec (show _ = Result.ok (Next.value (Value.bool (decide ((-o.sl + ((i : Nat) : Int) : Int) ≤ (o.sl : Int))))) _ from by kernel_rfl) (by omega)) ?_
  refine ipl_nil ?_
  refine iqw_then ?_
  refine icw_t (by kernel_rfl) ?_
  refine icw_skip ?_
  refine iqw_then ?_
  refine icw_seq ?_
  refine icw_block ?_
  refine icw_seq ?_
  refine icw_plain ?_
  refine ipl_take (.func (.yield l) #[] #[]) rfl (by kernel_rfl) (by kernel_rfl) (by kernel_rfl) (by kernel_rfl) ?_
  refine ipl_take (.int .i64 (-o.sl + ((i : Nat) : Int) : Int)) rfl (by kernel_rfl) (by kernel_rfl) (by kernel_rfl) (by kernel_rfl) ?_
  refine ipl_yield rfl (by kernel_rfl) (by kernel_rfl) (by kernel_rfl) (sy_yield (args := #[.int .i64 (-o.sl + ((i : Nat) : Int) : Int)]) rfl (by kernel_rfl) (by kernel_rfl) (yield_mono (hY i _ _ (by omega) (hJst _ _ _ hJ9 (Ext.refl _)) trivial) ?_))
  rintro e w6 (⟨rfl, hJ7, hk8⟩ | ⟨rfl, hJ7, hk8⟩)
  ·
   replace c6 := hk8.cell hX c6; have hs9 := hk8.size; have hX10 : Ext w6 w6 := Ext.refl _
   refine ⟨_, rfl, ?_⟩
   refine ipl_take (.bool false) rfl (by kernel_rfl) (by kernel_rfl) (by kernel_rfl) (by kernel_rfl) ?_
   refine ipl_nil ?_
   refine iqw_then ?_
   refine icw_f (by kernel_rfl) ?_
   refine icw_skip ?_
   refine iqw_block ?_
   refine iqw_then ?_
   refine icw_plain ?_
   refine ipl_take (.int .i64 (-o.sl + ((i : Nat) : Int) : Int)) rfl (by kernel_rfl) (by kernel_rfl) (by kernel_rfl) (by kernel_rfl) ?_
   refine ipl_take (.int .i64 (-o.sl + ((i + 1 : Nat) : Int) : Int)) rfl (by kernel_rfl) (by kernel_rfl) (by kernel_rfl) (ev_int (ev_wrap (a := -o.sl + ((i : Nat) : Int) + 1) (by kernel_rfl) (by omega) (by omega)) (by omega)) ?_
   refine ipl_take (.int .i64 (-o.sl + ((i + 1 : Nat) : Int) : Int)) rfl (by kernel_rfl) (by kernel_rfl) (by kernel_rfl) (by kernel_rfl) ?_
   refine ipl_nil ?_
   refine iqw_round [0, 1, 3] (ws' := [(0, .func (.yield l) #[] #[]), (1, .pointer (some ⟨B, 0, none⟩)), (3, .int .i64 (-o.sl + ((i + 1 : Nat) : Int) : Int))]) (by kernel_rfl) _ ?_ ⟨(i + 1), rfl, rfl, (T hs2 hs9), c6, (hJst _ _ _ hJ7 (Ext.refl _)), by omega⟩
   omega
  ·
   replace c6 := hk8.cell hX c6; have hs11 := hk8.size; have hX12 : Ext w6 w6 := Ext.refl _
   refine ⟨_, rfl, ?_⟩
   refine ipl_take (.bool true) rfl (by kernel_rfl) (by kernel_rfl) (by kernel_rfl) (by kernel_rfl) ?_
   refine ipl_nil ?_
   refine iqw_then ?_
   refine icw_t (by kernel_rfl) ?_
   refine icw_ret ?_
   refine iqw_block_ret ?_
   refine iqw_then_ret ?_
   refine iqw_then_ret ?_
   refine iqw_block_ret ?_
   refine iqw_ret0 [] rfl trivial ?_
   exact ⟨⟨_, rfl⟩, .inr ⟨i, by omega, hJxst _ _ _ hJ7 (Ext.refl _)⟩⟩
 ·
  have hin : i = (2 * o.sl + 1).toNat := by omega
  refine icw_seq ?_
  refine icw_seq ?_
  refine icw_plain ?_
  refine ipl_take (.int .i64 (-o.sl + ((i : Nat) : Int) : Int)) rfl (by kernel_rfl) (by kernel_rfl) (by kernel_rfl) (by kernel_rfl) ?_
  refine ipl_take (.pointer (some ⟨B, 6, none⟩)) rfl (by kernel_rfl) (by kernel_rfl) (by kernel_rfl) (by kernel_rfl) ?_
  refine ipl_take (.int .i64 o.sl) rfl (by kernel_rfl) (by kernel_rfl) (by kernel_rfl) (ex_load rfl (by kernel_rfl) (ld3 (c6))) ?_
  refine ipl_take (.bool false) rfl (by kernel_rfl) (by kernel_rfl) (by kernel_rfl) (ev_ndec (show _ = Result.ok (Next.value (Value.bool (decide ((-o.sl + ((i : Nat) : Int) : Int) ≤ (o.sl : Int))))) _ from by kernel_rfl) (by omega)) ?_
  refine ipl_nil ?_
  refine iqw_then ?_
  refine icw_f (by kernel_rfl) ?_
  refine icw_exit ?_
  refine iqw_then_exit ?_
  refine iqw_then_exit ?_
  refine iqw_block_out ?_
  refine iqw_end0 [] rfl trivial ?_
  exact ⟨⟨_, rfl⟩, .inl (hin ▸ hJst _ _ _ hJ9 (Ext.refl _))⟩
set_option maxRecDepth 1000000 in
set_option maxHeartbeats 4000000 in
theorem shown_seq {o : Orb} {s : Int × Int} {lk d : Int} {B1 B2 B3 B4 : Nat} {X : Nat → Prop} {w0 : World} (hv : Swath.shB o s lk = true) (hd9 : Globe.inB d (-o.sl) o.sl = true) (hX : ∀ b, b = B1 ∨ b = B2 ∨ b = B3 ∨ b = B4 → ¬ X b) (hXl : ∀ k, X k → k < w0.heap.size) (hS : ShownAt w0 B1 B2 B3 B4 o s lk d) :
  SeqN Try.prog 82 #[.pointer (some ⟨B1, 0, none⟩), .pointer (some ⟨B2, 0, none⟩), .pointer (some ⟨B3, 0, none⟩), .pointer (some ⟨B4, 0, none⟩)] (s.2 - s.1).toNat (fun i => [.agg #[.int .i64 ((Swath.sx o lk (s.1 + ((i : Nat) : Int) - d) : Nat) : Int), .int .i64 ((Orb.cy o (s.1 + ((i : Nat) : Int) - d) : Nat) : Int), .int .i64 (s.1 + ((i : Nat) : Int))]]) (fun _ _ => True) X w0 := by
 intro l J Jx w hW hJst hJxst hY hJ0 n
 obtain ⟨hok, ⟨sp0, sp1, sp2, sp3⟩, hl0, hl1⟩ := Swath.shB_t.1 hv
 have hq0 := Orb.ok_t.1 hok
 have hd := Globe.inB_t.1 hd9
 obtain ⟨a0, a1, o0, o1, o2, o3, o4, o5, o6, d0, l0⟩ := hS
 replace a0 := hW.cell a0; replace a1 := hW.cell a1; replace o0 := hW.cell o0; replace o1 := hW.cell o1; replace o2 := hW.cell o2; replace o3 := hW.cell o3; replace o4 := hW.cell o4; replace o5 := hW.cell o5; replace o6 := hW.cell o6; replace d0 := hW.cell d0; replace l0 := hW.cell l0
 have hbB1 : B1 < w.heap.size := World.block_lt_of_cell? _ _ a0
 have hbB2 : B2 < w.heap.size := World.block_lt_of_cell? _ _ o0
 have hbB3 : B3 < w.heap.size := World.block_lt_of_cell? _ _ d0
 have hbB4 : B4 < w.heap.size := World.block_lt_of_cell? _ _ l0
 refine icalls 39 [(4, .pointer (some ⟨B4, 0, none⟩)), (3, .pointer (some ⟨B3, 0, none⟩)), (2, .pointer (some ⟨B2, 0, none⟩)), (1, .pointer (some ⟨B1, 0, none⟩)), (0, .func (.yield l) #[] #[])] Try.func82 rfl Try.ntmps82 (by kernel_rfl) (by kernel_rfl) (fun L mm => ?_)
 have hE : Ext w w := Ext.refl w
 refine icw_seq ?_
 refine icw_plain ?_
 refine ipl_take (.pointer (some ⟨B1, 0, none⟩)) rfl (by kernel_rfl) (by kernel_rfl) (by kernel_rfl) (by kernel_rfl) ?_
 refine ipl_take (.int .i64 s.1) rfl (by kernel_rfl) (by kernel_rfl) (by kernel_rfl) (ex_load rfl (by kernel_rfl) (ld3 (a0))) ?_
 refine ipl_take (.int .i64 (s.1 + ((0 : Nat) : Int) : Int)) rfl (by kernel_rfl) (by kernel_rfl) (by kernel_rfl) (ev_int (show _ = Result.ok (Next.value (Value.int .i64 s.1)) _ from by kernel_rfl) (by omega)) ?_
 refine ipl_nil ?_
 refine iqw_then ?_
 refine icw_block ?_
 have hJs1 := hJst _ _ _ hJ0 (Ext.refl _)
 refine icw_loop [0, 1, 2, 3, 4, 6] (fun ws' wr m => ∃ i : Nat, ws' = [(0, .func (.yield l) #[] #[]), (1, .pointer (some ⟨B1, 0, none⟩)), (2, .pointer (some ⟨B2, 0, none⟩)), (3, .pointer (some ⟨B3, 0, none⟩)), (4, .pointer (some ⟨B4, 0, none⟩)), (6, .int .i64 (s.1 + ((i : Nat) : Int) : Int))] ∧ m = (s.2 - s.1).toNat - i ∧ w.heap.size ≤ wr.heap.size ∧ wr.cell? ⟨B1, 0, none⟩ = some (.int .i64 s.1) ∧ wr.cell? ⟨B1, 1, none⟩ = some (.int .i64 s.2) ∧ wr.cell? ⟨B2, 0, none⟩ = some (.int .i64 o.p) ∧ wr.cell? ⟨B2, 1, none⟩ = some (.int .i64 o.f) ∧ wr.cell? ⟨B2, 2, none⟩ = some (.int .i64 o.lo) ∧ wr.cell? ⟨B2, 3, none⟩ = some (.int .i64 o.hi) ∧ wr.cell? ⟨B2, 4, none⟩ = some (.int .i64 o.nd) ∧ wr.cell? ⟨B2, 5, none⟩ = some (.int .i64 o.tn) ∧ wr.cell? ⟨B2, 6, none⟩ = some (.int .i64 o.sl) ∧ wr.cell? ⟨B3, 0, none⟩ = some (.int .i64 d) ∧ wr.cell? ⟨B4, 0, none⟩ = some (.int .i64 lk) ∧ J i wr ∧ i ≤ (s.2 - s.1).toNat) (ws0 := [(0, .func (.yield l) #[] #[]), (1, .pointer (some ⟨B1, 0, none⟩)), (2, .pointer (some ⟨B2, 0, none⟩)), (3, .pointer (some ⟨B3, 0, none⟩)), (4, .pointer (some ⟨B4, 0, none⟩)), (6, .int .i64 (s.1 + ((0 : Nat) : Int) : Int))]) (by kernel_rfl) _ ⟨0, rfl, rfl, Nat.le_refl _, a0, a1, o0, o1, o2, o3, o4, o5, o6, d0, l0, hJs1, by omega⟩ ?_
 clear a0 a1 o0 o1 o2 o3 o4 o5 o6 d0 l0
 rintro m4 L ws w3 ⟨i, rfl, rfl, hs2, a0, a1, o0, o1, o2, o3, o4, o5, o6, d0, l0, hJ9, hi⟩
 have hX5 : Ext w3 w3 := Ext.refl _
 by_cases hlt : i < (s.2 - s.1).toNat
 ·
  have hat : Orb.atB o (s.1 + ((i : Nat) : Int)) d = true := by unfold Orb.atB; rw [Globe.inB_t.2 ⟨by omega, by omega⟩, Globe.inB_t.2 ⟨by omega, by omega⟩, hok]; rfl
  have hcx := Orb.cx_lt o (s.1 + ((i : Nat) : Int) - d)
  refine icw_seq ?_
  refine icw_seq ?_
  refine icw_plain ?_
  refine ipl_take (.int .i64 (s.1 + ((i : Nat) : Int) : Int)) rfl (by kernel_rfl) (by kernel_rfl) (by kernel_rfl) (by kernel_rfl) ?_
  refine ipl_take (.pointer (some ⟨B1, 1, none⟩)) rfl (by kernel_rfl) (by kernel_rfl) (by kernel_rfl) (by kernel_rfl) ?_
  refine ipl_take (.int .i64 s.2) rfl (by kernel_rfl) (by kernel_rfl) (by kernel_rfl) (ex_load rfl (by kernel_rfl) (ld3 (a1))) ?_
  refine ipl_take (.bool true) rfl (by kernel_rfl) (by kernel_rfl) (by kernel_rfl) (ev_dec (show _ = Result.ok (Next.value (Value.bool (decide ((s.1 + ((i : Nat) : Int) : Int) < (s.2 : Int))))) _ from by kernel_rfl) (by omega)) ?_
  refine ipl_nil ?_
  refine iqw_then ?_
  refine icw_t (by kernel_rfl) ?_
  refine icw_skip ?_
  refine iqw_then ?_
  refine icw_seq ?_
  refine icw_block ?_
  refine icw_seq ?_
  refine icw_plain ?_
  refine ipl_take (.agg #[.int .i64 o.p, .int .i64 o.f, .int .i64 o.lo, .int .i64 o.hi, .int .i64 o.nd, .int .i64 o.tn, .int .i64 o.sl]) rfl (by kernel_rfl) (by kernel_rfl) (by kernel_rfl) (ex_load rfl (by kernel_rfl) (ld24 (o0) (o1) (o2) (o3) (o4) (o5) (o6))) ?_
  refine ipl_take (.int .i64 (s.1 + ((i : Nat) : Int) : Int)) rfl (by kernel_rfl) (by kernel_rfl) (by kernel_rfl) (by kernel_rfl) ?_
  refine ipl_take (.int .i64 d) rfl (by kernel_rfl) (by kernel_rfl) (by kernel_rfl) (ex_load rfl (by kernel_rfl) (ld3 (d0))) ?_
  refine ipl_step rfl (by kernel_rfl) (by kernel_rfl) (by kernel_rfl) (sn_call (f := 28) (args := #[.agg #[.int .i64 o.p, .int .i64 o.f, .int .i64 o.lo, .int .i64 o.hi, .int .i64 o.nd, .int .i64 o.tn, .int .i64 o.sl], .int .i64 (s.1 + ((i : Nat) : Int) : Int), .int .i64 d]) (by kernel_rfl) ((At_y o (s.1 + ((i : Nat) : Int)) d _ (hat)).mono ?_))
  rintro e w6 ⟨rfl, hb⟩
  replace hX5 := hX5.trans hb; replace a0 := hb.cell a0; replace a1 := hb.cell a1; replace o0 := hb.cell o0; replace o1 := hb.cell o1; replace o2 := hb.cell o2; replace o3 := hb.cell o3; replace o4 := hb.cell o4; replace o5 := hb.cell o5; replace o6 := hb.cell o6; replace d0 := hb.cell d0; replace l0 := hb.cell l0; have hs7 := hb.size; clear hb
  refine ⟨_, rfl, ?_⟩
  refine ipl_take (.tuple #[.agg #[.int .i64 (((Orb.cx o ((s.1 + ((i : Nat) : Int)) - d) : Nat) : Int) : Int), .int .i64 (((Orb.cy o ((s.1 + ((i : Nat) : Int)) - d) : Nat) : Int) : Int)], .int .i64 0]) rfl (by kernel_rfl) (by kernel_rfl) (by kernel_rfl) (by kernel_rfl) ?_
  refine ipl_take (.agg #[.int .i64 (((Orb.cx o ((s.1 + ((i : Nat) : Int)) - d) : Nat) : Int) : Int), .int .i64 (((Orb.cy o ((s.1 + ((i : Nat) : Int)) - d) : Nat) : Int) : Int)]) rfl (by kernel_rfl) (by kernel_rfl) (by kernel_rfl) (by kernel_rfl) ?_
  refine ipl_take (.int .i64 0) rfl (by kernel_rfl) (by kernel_rfl) (by kernel_rfl) (by kernel_rfl) ?_
  refine ipl_step rfl (by kernel_rfl) (by kernel_rfl) (by kernel_rfl) (sn_new (us := #[.int .i64 0, .int .i64 0]) (t := 57) (by kernel_rfl) ?_)
  intro O8 X9 hzO8 hyO8 hb hbx; have ⟨bO8_0, bO8_1⟩ := bx2 hbx; clear hbx
  replace hX5 := hX5.trans hb; replace a0 := hb.cell a0; replace a1 := hb.cell a1; replace o0 := hb.cell o0; replace o1 := hb.cell o1; replace o2 := hb.cell o2; replace o3 := hb.cell o3; replace o4 := hb.cell o4; replace o5 := hb.cell o5; replace o6 := hb.cell o6; replace d0 := hb.cell d0; replace l0 := hb.cell l0; have hs10 := hb.size; clear hb; have lt11 := bO8_0.lt
  refine ipl_put rfl (by kernel_rfl) (by kernel_rfl) (sn_set2 (O := O8) (j := 0) (v := .int .i64 (((Orb.cx o ((s.1 + ((i : Nat) : Int)) - d) : Nat) : Int) : Int)) (v' := .int .i64 (((Orb.cy o ((s.1 + ((i : Nat) : Int)) - d) : Nat) : Int) : Int)) (ex_store (p := .pointer (some ⟨O8, 0, none⟩)) (v := .agg #[.int .i64 (((Orb.cx o ((s.1 + ((i : Nat) : Int)) - d) : Nat) : Int) : Int), .int .i64 (((Orb.cy o ((s.1 + ((i : Nat) : Int)) - d) : Nat) : Int) : Int)]) rfl (by kernel_rfl) (by kernel_rfl) (st57 bO8_0.1 bO8_0.2 bO8_1.1 bO8_1.2)) bO8_0 bO8_1 ?_)
  intro X12 ho hv0 hv1 hk; replace hX5 := ho.ext hX5 (T hs7 (Nat.le_of_eq hzO8)); replace a0 := ho.cell (Nat.ne_of_gt (Nat.lt_of_lt_of_le hbB1 (T (T hs2 hs7) (Nat.le_of_eq hzO8)))) a0; replace a1 := ho.cell (Nat.ne_of_gt (Nat.lt_of_lt_of_le hbB1 (T (T hs2 hs7) (Nat.le_of_eq hzO8)))) a1; replace o0 := ho.cell (Nat.ne_of_gt (Nat.lt_of_lt_of_le hbB2 (T (T hs2 hs7) (Nat.le_of_eq hzO8)))) o0; replace o1 := ho.cell (Nat.ne_of_gt (Nat.lt_of_lt_of_le hbB2 (T (T hs2 hs7) (Nat.le_of_eq hzO8)))) o1; replace o2 := ho.cell (Nat.ne_of_gt (Nat.lt_of_lt_of_le hbB2 (T (T hs2 hs7) (Nat.le_of_eq hzO8)))) o2; replace o3 := ho.cell (Nat.ne_of_gt (Nat.lt_of_lt_of_le hbB2 (T (T hs2 hs7) (Nat.le_of_eq hzO8)))) o3; replace o4 := ho.cell (Nat.ne_of_gt (Nat.lt_of_lt_of_le hbB2 (T (T hs2 hs7) (Nat.le_of_eq hzO8)))) o4; replace o5 := ho.cell (Nat.ne_of_gt (Nat.lt_of_lt_of_le hbB2 (T (T hs2 hs7) (Nat.le_of_eq hzO8)))) o5; replace o6 := ho.cell (Nat.ne_of_gt (Nat.lt_of_lt_of_le hbB2 (T (T hs2 hs7) (Nat.le_of_eq hzO8)))) o6; replace d0 := ho.cell (Nat.ne_of_gt (Nat.lt_of_lt_of_le hbB3 (T (T hs2 hs7) (Nat.le_of_eq hzO8)))) d0; replace l0 := ho.cell (Nat.ne_of_gt (Nat.lt_of_lt_of_le hbB4 (T (T hs2 hs7) (Nat.le_of_eq hzO8)))) l0; have hs13 : X9.heap.size ≤ X12.heap.size := Nat.le_of_eq ho.size.symm; clear ho hk bO8_0 bO8_1; have bO8_0 := hv0; clear hv0; have bO8_1 := hv1; clear hv1
  refine ipl_take (.int .i64 0) rfl (by kernel_rfl) (by kernel_rfl) (by kernel_rfl) (by kernel_rfl) ?_
  refine ipl_nil ?_
  refine iqw_then ?_
  refine icw_clean [0, 1, 2, 3, 4, 6, 7, 8] (ws' := [(0, .func (.yield l) #[] #[]), (1, .pointer (some ⟨B1, 0, none⟩)), (2, .pointer (some ⟨B2, 0, none⟩)), (3, .pointer (some ⟨B3, 0, none⟩)), (4, .pointer (some ⟨B4, 0, none⟩)), (6, .int .i64 (s.1 + ((i : Nat) : Int) : Int)), (7, .pointer (some ⟨O8, 0, none⟩)), (8, .int .i64 0)]) (by kernel_rfl) (fun L => ?_)
  refine icw_seq ?_
  refine icw_seq ?_
  refine icw_plain ?_
  refine ipl_take (.int .i64 0) rfl (by kernel_rfl) (by kernel_rfl) (by kernel_rfl) (by kernel_rfl) ?_
  refine ipl_take (.bool false) rfl (by kernel_rfl) (by kernel_rfl) (by kernel_rfl) (by kernel_rfl) ?_
  refine ipl_nil ?_
  refine iqw_then ?_
  refine icw_f (by kernel_rfl) ?_
  refine icw_skip ?_
  refine iqw_then ?_
  refine icw_seq ?_
  refine icw_plain ?_
  refine ipl_take (.pointer (some ⟨O8, 0, none⟩)) rfl (by kernel_rfl) (by kernel_rfl) (by kernel_rfl) (by kernel_rfl) ?_
  refine ipl_take (.int .i64 (((Orb.cx o ((s.1 + ((i : Nat) : Int)) - d) : Nat) : Int) : Int)) rfl (by kernel_rfl) (by kernel_rfl) (by kernel_rfl) (ex_load rfl (by kernel_rfl) (ld3 (bO8_0.1))) ?_
  refine ipl_take (.int .i64 lk) rfl (by kernel_rfl) (by kernel_rfl) (by kernel_rfl) (ex_load rfl (by kernel_rfl) (ld3 (l0))) ?_
  refine ipl_take (.int .i64 ((((Orb.cx o ((s.1 + ((i : Nat) : Int)) - d) : Nat) : Int)) + lk : Int)) rfl (by kernel_rfl) (by kernel_rfl) (by kernel_rfl) (ev_wrap (by kernel_rfl) (by omega) (by omega)) ?_
  refine ipl_take (.int .i64 (((((Orb.cx o ((s.1 + ((i : Nat) : Int)) - d) : Nat) : Int)) + lk) + 48 : Int)) rfl (by kernel_rfl) (by kernel_rfl) (by kernel_rfl) (ev_wrap (by kernel_rfl) (by omega) (by omega)) ?_
  refine ipl_take (.int .i64 (((Swath.sx o lk (s.1 + ((i : Nat) : Int) - d) : Nat) : Int) : Int)) rfl (by kernel_rfl) (by kernel_rfl) (by kernel_rfl) (ev_int (ex_bin (a := ((Orb.cx o (s.1 + ((i : Nat) : Int) - d) : Nat) : Int) + lk + 48) (b := 48) rfl (by kernel_rfl) (by kernel_rfl) (bin_tmod (by omega))) ((Int.tmod_eq_emod_of_nonneg (by omega)).trans (Swath.sx_z o lk _))) ?_
  refine ipl_take (.pointer (some ⟨O8, 0, none⟩)) rfl (by kernel_rfl) (by kernel_rfl) (by kernel_rfl) (by kernel_rfl) ?_
  refine ipl_put rfl (by kernel_rfl) (by kernel_rfl) (sn_set (O := O8) (j := 0) (v := .int .i64 (((Swath.sx o lk (s.1 + ((i : Nat) : Int) - d) : Nat) : Int) : Int)) (ex_store (p := .pointer (some ⟨O8, 0, none⟩)) (v := .int .i64 (((Swath.sx o lk (s.1 + ((i : Nat) : Int) - d) : Nat) : Int) : Int)) rfl (by kernel_rfl) (by kernel_rfl) (st3 bO8_0.1 bO8_0.2)) bO8_0 ?_)
  intro X14 ho hv0 hk; replace hX5 := ho.ext hX5 (T hs7 (Nat.le_of_eq hzO8)); replace a0 := ho.cell (Nat.ne_of_gt (Nat.lt_of_lt_of_le hbB1 (T (T hs2 hs7) (Nat.le_of_eq hzO8)))) a0; replace a1 := ho.cell (Nat.ne_of_gt (Nat.lt_of_lt_of_le hbB1 (T (T hs2 hs7) (Nat.le_of_eq hzO8)))) a1; replace o0 := ho.cell (Nat.ne_of_gt (Nat.lt_of_lt_of_le hbB2 (T (T hs2 hs7) (Nat.le_of_eq hzO8)))) o0; replace o1 := ho.cell (Nat.ne_of_gt (Nat.lt_of_lt_of_le hbB2 (T (T hs2 hs7) (Nat.le_of_eq hzO8)))) o1; replace o2 := ho.cell (Nat.ne_of_gt (Nat.lt_of_lt_of_le hbB2 (T (T hs2 hs7) (Nat.le_of_eq hzO8)))) o2; replace o3 := ho.cell (Nat.ne_of_gt (Nat.lt_of_lt_of_le hbB2 (T (T hs2 hs7) (Nat.le_of_eq hzO8)))) o3; replace o4 := ho.cell (Nat.ne_of_gt (Nat.lt_of_lt_of_le hbB2 (T (T hs2 hs7) (Nat.le_of_eq hzO8)))) o4; replace o5 := ho.cell (Nat.ne_of_gt (Nat.lt_of_lt_of_le hbB2 (T (T hs2 hs7) (Nat.le_of_eq hzO8)))) o5; replace o6 := ho.cell (Nat.ne_of_gt (Nat.lt_of_lt_of_le hbB2 (T (T hs2 hs7) (Nat.le_of_eq hzO8)))) o6; replace d0 := ho.cell (Nat.ne_of_gt (Nat.lt_of_lt_of_le hbB3 (T (T hs2 hs7) (Nat.le_of_eq hzO8)))) d0; replace l0 := ho.cell (Nat.ne_of_gt (Nat.lt_of_lt_of_le hbB4 (T (T hs2 hs7) (Nat.le_of_eq hzO8)))) l0; replace bO8_1 := hk 1 _ (by omega) bO8_1; have hs15 : X12.heap.size ≤ X14.heap.size := Nat.le_of_eq ho.size.symm; clear ho hk bO8_0; have bO8_0 := hv0; clear hv0
  refine ipl_nil ?_
  refine iqw_then ?_
  refine icw_clean [0, 1, 2, 3, 4, 6, 7] (ws' := [(0, .func (.yield l) #[] #[]), (1, .pointer (some ⟨B1, 0, none⟩)), (2, .pointer (some ⟨B2, 0, none⟩)), (3, .pointer (some ⟨B3, 0, none⟩)), (4, .pointer (some ⟨B4, 0, none⟩)), (6, .int .i64 (s.1 + ((i : Nat) : Int) : Int)), (7, .pointer (some ⟨O8, 0, none⟩))]) (by kernel_rfl) (fun L => ?_)
  refine icw_seq ?_
  refine icw_plain ?_
  refine ipl_take (.func (.yield l) #[] #[]) rfl (by kernel_rfl) (by kernel_rfl) (by kernel_rfl) (by kernel_rfl) ?_
  refine ipl_take (.agg #[.int .i64 (((Swath.sx o lk (s.1 + ((i : Nat) : Int) - d) : Nat) : Int) : Int), .int .i64 (((Orb.cy o ((s.1 + ((i : Nat) : Int)) - d) : Nat) : Int) : Int)]) rfl (by kernel_rfl) (by kernel_rfl) (by kernel_rfl) (ex_load rfl (by kernel_rfl) (ld57 (bO8_0.1) (bO8_1.1))) ?_
  refine ipl_take (.int .i64 (s.1 + ((i : Nat) : Int) : Int)) rfl (by kernel_rfl) (by kernel_rfl) (by kernel_rfl) (by kernel_rfl) ?_
  refine ipl_take (.agg #[.int .i64 (((Swath.sx o lk (s.1 + ((i : Nat) : Int) - d) : Nat) : Int) : Int), .int .i64 (((Orb.cy o ((s.1 + ((i : Nat) : Int)) - d) : Nat) : Int) : Int), .int .i64 (s.1 + ((i : Nat) : Int) : Int)]) rfl (by kernel_rfl) (by kernel_rfl) (by kernel_rfl) (by kernel_rfl) ?_
  refine ipl_yield rfl (by kernel_rfl) (by kernel_rfl) (by kernel_rfl) (sy_yield (args := #[.agg #[.int .i64 (((Swath.sx o lk (s.1 + ((i : Nat) : Int) - d) : Nat) : Int) : Int), .int .i64 (((Orb.cy o ((s.1 + ((i : Nat) : Int)) - d) : Nat) : Int) : Int), .int .i64 (s.1 + ((i : Nat) : Int) : Int)]]) rfl (by kernel_rfl) (by kernel_rfl) (yield_mono (hY i _ _ (by omega) (hJst _ _ _ hJ9 hX5) trivial) ?_))
  rintro e w16 (⟨rfl, hJ17, hk18⟩ | ⟨rfl, hJ17, hk18⟩)
  ·
   replace a0 := hk18.cell (hX B1 (.inl rfl)) a0; replace a1 := hk18.cell (hX B1 (.inl rfl)) a1; replace o0 := hk18.cell (hX B2 (.inr (.inl rfl))) o0; replace o1 := hk18.cell (hX B2 (.inr (.inl rfl))) o1; replace o2 := hk18.cell (hX B2 (.inr (.inl rfl))) o2; replace o3 := hk18.cell (hX B2 (.inr (.inl rfl))) o3; replace o4 := hk18.cell (hX B2 (.inr (.inl rfl))) o4; replace o5 := hk18.cell (hX B2 (.inr (.inl rfl))) o5; replace o6 := hk18.cell (hX B2 (.inr (.inl rfl))) o6; replace d0 := hk18.cell (hX B3 (.inr (.inr (.inl rfl)))) d0; replace l0 := hk18.cell (hX B4 (.inr (.inr (.inr rfl)))) l0
   have q9 := fun (j : Nat) (v : Value) (h : BoxAt _ O8 j v) => hk18.box (fun hx => absurd (hXl _ hx) (Nat.not_lt_of_le (T hW.size (T (T hs2 hs7) (Nat.le_of_eq hzO8))))) h
   replace bO8_1 := q9 _ _ bO8_1; replace bO8_0 := q9 _ _ bO8_0; clear q9; have hs19 := hk18.size; have hX20 : Ext w16 w16 := Ext.refl _
   refine ⟨_, rfl, ?_⟩
   refine ipl_take (.bool false) rfl (by kernel_rfl) (by kernel_rfl) (by kernel_rfl) (by kernel_rfl) ?_
   refine ipl_nil ?_
   refine iqw_then ?_
   refine icw_f (by kernel_rfl) ?_
   refine icw_skip ?_
   refine iqw_block ?_
   refine iqw_then ?_
   refine icw_plain ?_
   refine ipl_take (.int .i64 (s.1 + ((i : Nat) : Int) : Int)) rfl (by kernel_rfl) (by kernel_rfl) (by kernel_rfl) (by kernel_rfl) ?_
   refine ipl_take (.int .i64 (s.1 + ((i + 1 : Nat) : Int) : Int)) rfl (by kernel_rfl) (by kernel_rfl) (by kernel_rfl) (ev_int (ev_wrap (a := s.1 + ((i : Nat) : Int) + 1) (by kernel_rfl) (by omega) (by omega)) (by omega)) ?_
   refine ipl_take (.int .i64 (s.1 + ((i + 1 : Nat) : Int) : Int)) rfl (by kernel_rfl) (by kernel_rfl) (by kernel_rfl) (by kernel_rfl) ?_
   refine ipl_nil ?_
   refine iqw_round [0, 1, 2, 3, 4, 6] (ws' := [(0, .func (.yield l) #[] #[]), (1, .pointer (some ⟨B1, 0, none⟩)), (2, .pointer (some ⟨B2, 0, none⟩)), (3, .pointer (some ⟨B3, 0, none⟩)), (4, .pointer (some ⟨B4, 0, none⟩)), (6, .int .i64 (s.1 + ((i + 1 : Nat) : Int) : Int))]) (by kernel_rfl) _ ?_ ⟨(i + 1), rfl, rfl, (T hs2 (T hs7 (T hs10 (T hs13 (T hs15 hs19))))), a0, a1, o0, o1, o2, o3, o4, o5, o6, d0, l0, (hJst _ _ _ hJ17 (Ext.refl _)), by omega⟩
   omega
  ·
   replace a0 := hk18.cell (hX B1 (.inl rfl)) a0; replace a1 := hk18.cell (hX B1 (.inl rfl)) a1; replace o0 := hk18.cell (hX B2 (.inr (.inl rfl))) o0; replace o1 := hk18.cell (hX B2 (.inr (.inl rfl))) o1; replace o2 := hk18.cell (hX B2 (.inr (.inl rfl))) o2; replace o3 := hk18.cell (hX B2 (.inr (.inl rfl))) o3; replace o4 := hk18.cell (hX B2 (.inr (.inl rfl))) o4; replace o5 := hk18.cell (hX B2 (.inr (.inl rfl))) o5; replace o6 := hk18.cell (hX B2 (.inr (.inl rfl))) o6; replace d0 := hk18.cell (hX B3 (.inr (.inr (.inl rfl)))) d0; replace l0 := hk18.cell (hX B4 (.inr (.inr (.inr rfl)))) l0
   have q9 := fun (j : Nat) (v : Value) (h : BoxAt _ O8 j v) => hk18.box (fun hx => absurd (hXl _ hx) (Nat.not_lt_of_le (T hW.size (T (T hs2 hs7) (Nat.le_of_eq hzO8))))) h
   replace bO8_1 := q9 _ _ bO8_1; replace bO8_0 := q9 _ _ bO8_0; clear q9; have hs21 := hk18.size; have hX22 : Ext w16 w16 := Ext.refl _
   refine ⟨_, rfl, ?_⟩
   refine ipl_take (.bool true) rfl (by kernel_rfl) (by kernel_rfl) (by kernel_rfl) (by kernel_rfl) ?_
   refine ipl_nil ?_
   refine iqw_then ?_
   refine icw_t (by kernel_rfl) ?_
   refine icw_ret ?_
   refine iqw_block_ret ?_
   refine iqw_then_ret ?_
   refine iqw_then_ret ?_
   refine iqw_block_ret ?_
   refine iqw_ret0 [] rfl trivial ?_
   exact ⟨⟨_, rfl⟩, .inr ⟨i, by omega, hJxst _ _ _ hJ17 (Ext.refl _)⟩⟩
 ·
  have hin : i = (s.2 - s.1).toNat := by omega
  refine icw_seq ?_
  refine icw_seq ?_
  refine icw_plain ?_
  refine ipl_take (.int .i64 (s.1 + ((i : Nat) : Int) : Int)) rfl (by kernel_rfl) (by kernel_rfl) (by kernel_rfl) (by kernel_rfl) ?_
  refine ipl_take (.pointer (some ⟨B1, 1, none⟩)) rfl (by kernel_rfl) (by kernel_rfl) (by kernel_rfl) (by kernel_rfl) ?_
  refine ipl_take (.int .i64 s.2) rfl (by kernel_rfl) (by kernel_rfl) (by kernel_rfl) (ex_load rfl (by kernel_rfl) (ld3 (a1))) ?_
  refine ipl_take (.bool false) rfl (by kernel_rfl) (by kernel_rfl) (by kernel_rfl) (ev_ndec (show _ = Result.ok (Next.value (Value.bool (decide ((s.1 + ((i : Nat) : Int) : Int) < (s.2 : Int))))) _ from by kernel_rfl) (by omega)) ?_
  refine ipl_nil ?_
  refine iqw_then ?_
  refine icw_f (by kernel_rfl) ?_
  refine icw_exit ?_
  refine iqw_then_exit ?_
  refine iqw_then_exit ?_
  refine iqw_block_out ?_
  refine iqw_end0 [] rfl trivial ?_
  exact ⟨⟨_, rfl⟩, .inl (hin ▸ hJst _ _ _ hJ9 (Ext.refl _))⟩

end Go.Proofs.Ytdjjkhefdalokaa

/- Contracts of package globe: isIn, ValidCell. -/
namespace Go.Proofs.Ytdjjkhefdalokaa
open Go.RowKit

theorem isIn_c (n lo hi : Int) (w : World) : Calls Try.prog 77 #[.int .i64 n, .int .i64 lo, .int .i64 hi] w fun e w' => e = .returned (.bool (Globe.inB n lo hi)) ∧ w = w' := by
 go_enter Try.func77, Try.ntmps77
 go_wp2
 all_goals (go_ret; refine ⟨ret_bool ?_, rfl⟩; first | (rw [Globe.inB_f.2 (by omega)]; done) | (rw [Bool.eq_iff_iff, Globe.inB_t]; first | (simp; omega) | (simp; done)))

theorem ValidCell_c (x y : Int) (w : World) :
  Calls Try.prog 66 #[.agg #[.int .i64 x, .int .i64 y]] w fun e w' => e = .returned (.bool (Globe.vcB x y)) ∧ Ext w w' := by
 rw [Globe.vcB_in]
 go_enter Try.func66, Try.ntmps66
 go_wp2_with (go_at_call 77; refine (isIn_c _ _ _ _).mono ?_; rintro e w' ⟨rfl, rfl⟩)
 all_goals (go_ret; refine ⟨ret_bool ?_, by (repeat' (first | (with_reducible assumption) | (with_reducible exact Ext.refl _) | (with_reducible refine Ext.alloc ?_ _) | (with_reducible refine Ext.drew ?_) | (with_reducible refine Ext.drewN ?_ _) | (with_reducible refine Ext.setCell ?_ ?_ _) | (with_reducible refine Ext.trans ?_ (by assumption)) | go_size))⟩; first | rfl | (simp [*]; done))

end Go.Proofs.Ytdjjkhefdalokaa

/- Contracts of package globe: Valid. -/
namespace Go.Proofs.Ytdjjkhefdalokaa
open Go.RowKit

theorem Valid1_c (r : Int) (w : World) : Calls Try.prog 76 #[.int .i64 r] w fun e w' => e = .returned (.bool (!Globe.rowOk r)) ∧ w = w' := by
 rw [show Globe.rowOk r = Globe.inB r 0 281474976710655 from rfl]
 go_enter Try.func76, Try.ntmps76
 go_wp2_with (go_at_call 77; refine (isIn_c _ _ _ _).mono ?_; rintro e w' ⟨rfl, rfl⟩)
 go_ret
 exact ⟨rfl, rfl⟩

set_option maxHeartbeats 400000 in
theorem IndexFunc_c (a : Option Addr) (l : List Int) (c : Nat) (w : World) (h : IntsAt w a l) (hl : l.length ≤ 140737488355328) :
    Calls Try.prog 97 #[.slice a l.length c, .func (.func 76) #[] #[]] w fun e w' => e = .returned (.int .i64 (Globe.badAt l)) ∧ w = w' := by
  rcases h with rfl | ⟨b, off, rfl, hc⟩
  · go_enter Try.func97, Try.ntmps97
    go_wp2_with fail
    refine wp_loop_rounds 1 ?_
    rw [rounds_succ]
    go_wp2_with fail
    go_ret
    exact ⟨rfl, rfl⟩
  · go_enter Try.func97, Try.ntmps97
    go_wp2_with fail
    go_loop [5, 8] (fun _ i => ∃ k : Nat, k ≤ l.length ∧ i = .int .i64 k ∧ Hid (∀ j, j < k → Globe.rowOk (Globe.nth l j) = true)) (fun _ i => l.length - (intOf i).toNat)
    case atStart => exact ⟨0, by omega, rfl, fun j hj => by omega⟩
    case round =>
      obtain ⟨k, hk, rfl, Hp⟩ := hrel
      by_cases hlt : k < l.length
      · have h0 : (0 : Int) ≤ (k : Int) := by omega
        cases hq : Globe.rowOk (Globe.nth l k)
        all_goals
          go_wp2_with (go_at_call 76; refine (Valid1_c _ _).mono ?_; rintro e w' ⟨rfl, rfl⟩)
        · go_ret
          exact ⟨ret_int (Globe.badAt_first hlt Hp.out hq).symm, rfl⟩
        · go_round
          case rel => exact ⟨k + 1, by omega, by go_num, fun j hj => by
            rcases Nat.lt_or_ge j k with h | h
            · exact Hp.out j h
            · rw [show j = k by omega]; exact hq⟩
          case measure => simp [intOf]; omega
      · obtain rfl : k = l.length := by omega
        go_wp2_with fail
        go_ret
        exact ⟨ret_int (Globe.badAt_all (List.all_eq_true.2 fun r hr => by
          obtain ⟨j, hj, rfl⟩ := List.getElem_of_mem hr
          have := Hp.out j hj
          rwa [Globe.nth_lt hj] at this)).symm, rfl⟩

theorem ContainsFunc_c (a : Option Addr) (l : List Int) (c : Nat) (w : World) (h : IntsAt w a l) (hl : l.length ≤ 140737488355328) :
    Calls Try.prog 75 #[.slice a l.length c, .func (.func 76) #[] #[]] w fun e w' => e = .returned (.bool (!l.all Globe.rowOk)) ∧ w = w' := by
  cases hq : l.all Globe.rowOk
  · have h1 := Globe.badAt_no hq
    go_enter Try.func75, Try.ntmps75
    go_wp2_with (go_at_call 97; refine (IndexFunc_c _ _ _ _ h hl).mono ?_; rintro e w' ⟨rfl, rfl⟩)
    go_ret
    exact ⟨rfl, rfl⟩
  · have h1 := Globe.badAt_all hq
    go_enter Try.func75, Try.ntmps75
    go_wp2_with (go_at_call 97; refine (IndexFunc_c _ _ _ _ h hl).mono ?_; rintro e w' ⟨rfl, rfl⟩)
    go_ret
    exact ⟨rfl, rfl⟩

theorem Valid_c (a : Option Addr) (l : List Int) (c : Nat) (w : World) (h : IntsAt w a l) (hl : l.length ≤ 140737488355328) :
    Calls Try.prog 33 #[.agg #[.slice a l.length c]] w fun e w' => e = .returned (.bool (Globe.validL l)) ∧ Ext w w' := by
  have H := Lib.hid h; clear h
  cases h24 : ((l.length : Int) == 24)
  · have hv : Globe.validL l = false := by simp [Globe.validL]; intro h; simp [h] at h24
    go_enter Try.func33, Try.ntmps33
    go_wp2_with fail
    go_ret
    exact ⟨ret_bool (by rw [hv]), by (repeat' (first | (with_reducible assumption) | (with_reducible exact Ext.refl _) | (with_reducible refine Ext.alloc ?_ _) | (with_reducible refine Ext.drew ?_) | (with_reducible refine Ext.drewN ?_ _) | (with_reducible refine Ext.setCell ?_ ?_ _) | (with_reducible refine Ext.trans ?_ (by assumption)) | go_size))⟩
  · have hv : Globe.validL l = l.all Globe.rowOk := by
      have e : l.length = 24 := by simp at h24; omega
      rw [Globe.validL, e]; simp
    have Hv := Lib.hid hv; clear hv
    go_enter Try.func33, Try.ntmps33
    go_wp2_with (go_at_call 75; refine (ContainsFunc_c _ _ _ _ (H.out.ext (by (repeat' (first | (with_reducible assumption) | (with_reducible exact Ext.refl _) | (with_reducible refine Ext.alloc ?_ _) | (with_reducible refine Ext.drew ?_) | (with_reducible refine Ext.drewN ?_ _) | (with_reducible refine Ext.setCell ?_ ?_ _) | (with_reducible refine Ext.trans ?_ (by assumption)) | go_size)))) hl).mono ?_; rintro e w' ⟨rfl, rfl⟩)
    go_ret
    exact ⟨ret_bool (by rw [Hv.out]), by (repeat' (first | (with_reducible assumption) | (with_reducible exact Ext.refl _) | (with_reducible refine Ext.alloc ?_ _) | (with_reducible refine Ext.drew ?_) | (with_reducible refine Ext.drewN ?_ _) | (with_reducible refine Ext.setCell ?_ ?_ _) | (with_reducible refine Ext.trans ?_ (by assumption)) | go_size))⟩

end Go.Proofs.Ytdjjkhefdalokaa

/- Contracts of package globe: Empty, turned, and what combines two areas row by row. -/
namespace Go.Proofs.Ytdjjkhefdalokaa
open Go.RowKit

theorem Empty_c (w : World) : Calls Try.prog 34 #[] w (RetA w Globe.zeroL) := by
 have hmk := make24
 go_enter Try.func34, Try.ntmps34
 go_wp2
 refine bodyPost_ret (v := .agg #[.slice (some ⟨w.heap.size + 1, 0, none⟩) 24 24]) (by simp [results, Try.results34, go_sem]) rfl ⟨w.heap.size + 1, rfl, by omega, ?_, by (repeat' (first | (with_reducible assumption) | (with_reducible exact Ext.refl _) | (with_reducible refine Ext.alloc ?_ _) | (with_reducible refine Ext.drew ?_) | (with_reducible refine Ext.drewN ?_ _) | (with_reducible refine Ext.setCell ?_ ?_ _) | (with_reducible refine Ext.trans ?_ (by assumption)) | go_size))⟩
 have := RowsAt.new (w.alloc (.cells #[.slice (some ⟨w.heap.size + 1, 0, none⟩) 24 24] 31)) Globe.zeroL 3 rfl
 rwa [World.size_alloc] at this

theorem less_i64 (a b : Nat) (ha : a < 4611686018427387904) (_hb : b < 4611686018427387904) : bits .andNot .i64 (a : Int) (b : Int) = ((Globe.lessN a b : Nat) : Int) := by
  show IntKind.i64.wrap ((BitVec.ofInt 64 (a : Int) &&& ~~~BitVec.ofInt 64 (b : Int)).toNat : Int) = _
  have e : (BitVec.ofInt 64 (a : Int) &&& ~~~BitVec.ofInt 64 (b : Int)).toNat = Globe.lessN a b := by
    refine Nat.eq_of_testBit_eq fun x => ?_
    rw [Globe.lessN_bit, BitVec.testBit_toNat, BitVec.getLsbD_and, BitVec.getLsbD_not, BitVec.ofInt_natCast, BitVec.ofInt_natCast, BitVec.getLsbD_ofNat, BitVec.getLsbD_ofNat]
    by_cases h : x < 64
    · simp [h]
    · rw [Nat.testBit_lt_two_pow (x := a) (i := x) (Nat.lt_of_lt_of_le (show a < 2 ^ 64 by omega) (Nat.pow_le_pow_right (by decide) (by omega)))]
      simp [h]
  have h2 : Globe.lessN a b < 2 ^ 62 := Nat.xor_lt_two_pow ha (Nat.lt_of_le_of_lt Nat.and_le_left ha)
  rw [e, IntKind.wrap_i64]
  omega

theorem Less1_c (p q : Nat) (w : World) (hp : p < 281474976710656) (hq : q < 281474976710656) :
  Calls Try.prog 96 #[.int .i64 p, .int .i64 q] w fun e w' => e = .returned (.int .i64 ((Globe.lessN p q : Nat) : Int)) ∧ w = w' := by
 go_enter Try.func96, Try.ntmps96
 go_wp2
 go_ret
 exact ⟨ret_int (less_i64 _ _ (by omega) (by omega)), rfl⟩
end Go.Proofs.Ytdjjkhefdalokaa

/- Contract of package swath: area. -/
namespace Go.Proofs.Ytdjjkhefdalokaa
open Go.RowKit

theorem show_next {w : World} {B i : Nat} {o : Orb} {lk a d : Int} (h : RowsAt w B ((Swath.showL o lk (a - d) i).set (Orb.cy o (a + ((i : Nat) : Int) - d)) ((Globe.rowN (Swath.showL o lk (a - d) i) (Orb.cy o (a + ((i : Nat) : Int) - d)) ||| 2 ^ Swath.sx o lk (a + ((i : Nat) : Int) - d) : Nat) : Int))) : RowsAt w B (Swath.showL o lk (a - d) (i + 1)) := by
 have e : a - d + ((i : Nat) : Int) = a + ((i : Nat) : Int) - d := by omega
 show RowsAt w B (Globe.putL _ (Swath.sx o lk (a - d + ((i : Nat) : Int))) (Orb.cy o (a - d + ((i : Nat) : Int))))
 rw [e]; exact h
set_option maxRecDepth 1000000 in
set_option maxHeartbeats 4000000 in
theorem area_c (o : Orb) (s : Int × Int) (lk d : Int) (w : World) (hv : Swath.shB o s lk = true) (hd9 : Globe.inB d (-o.sl) o.sl = true) : Calls Try.prog 44 #[.agg #[.int .i64 o.p, .int .i64 o.f, .int .i64 o.lo, .int .i64 o.hi, .int .i64 o.nd, .int .i64 o.tn, .int .i64 o.sl], .agg #[.int .i64 s.1, .int .i64 s.2], .int .i64 lk, .int .i64 d] w (RetA w (Swath.showL o lk (s.1 - d) (s.2 - s.1).toNat)) := by
 obtain ⟨hok, ⟨sp0, sp1, sp2, sp3⟩, hl0, hl1⟩ := Swath.shB_t.1 hv
 have hd := Globe.inB_t.1 hd9
 refine icalls_cw 32 [(3, .int .i64 d), (2, .int .i64 lk), (1, .agg #[.int .i64 s.1, .int .i64 s.2]), (0, .agg #[.int .i64 o.p, .int .i64 o.f, .int .i64 o.lo, .int .i64 o.hi, .int .i64 o.nd, .int .i64 o.tn, .int .i64 o.sl])] Try.func44 rfl Try.ntmps44 (by kernel_rfl) (by kernel_rfl) (fun L mm => ?_)
 have hE : Ext w w := Ext.refl w
 refine icw_seq ?_
 refine icw_plain ?_
 refine ipl_step rfl (by kernel_rfl) (by kernel_rfl) (by kernel_rfl) (sn_new (us := #[.int .i64 o.p, .int .i64 o.f, .int .i64 o.lo, .int .i64 o.hi, .int .i64 o.nd, .int .i64 o.tn, .int .i64 o.sl]) (t := 24) (by kernel_rfl) ?_)
 intro O1 X2 hzO1 hyO1 hb hbx; have ⟨bO1_0, bO1_1, bO1_2, bO1_3, bO1_4, bO1_5, bO1_6⟩ := bx7 hbx; clear hbx
 replace hE := hE.trans hb; have hs3 := hb.size; clear hb; have lt4 := bO1_0.lt
 refine ipl_step rfl (by kernel_rfl) (by kernel_rfl) (by kernel_rfl) (sn_new (us := #[.int .i64 s.1, .int .i64 s.2]) (t := 26) (by kernel_rfl) ?_)
 intro O5 X6 hzO5 hyO5 hb hbx; have ⟨bO5_0, bO5_1⟩ := bx2 hbx; clear hbx
 replace hE := hE.trans hb; replace bO1_0 := BoxAt.ext hb bO1_0; replace bO1_1 := BoxAt.ext hb bO1_1; replace bO1_2 := BoxAt.ext hb bO1_2; replace bO1_3 := BoxAt.ext hb bO1_3; replace bO1_4 := BoxAt.ext hb bO1_4; replace bO1_5 := BoxAt.ext hb bO1_5; replace bO1_6 := BoxAt.ext hb bO1_6; have hs7 := hb.size; clear hb; have lt8 := bO5_0.lt
 refine ipl_step rfl (by kernel_rfl) (by kernel_rfl) (by kernel_rfl) (sn_new (us := #[.slice none 0 0]) (t := 31) (by kernel_rfl) ?_)
 intro O9 X10 hzO9 hyO9 hb hbx; have bO9_0 := bx1 hbx; clear hbx
 replace hE := hE.trans hb; replace bO1_0 := BoxAt.ext hb bO1_0; replace bO1_1 := BoxAt.ext hb bO1_1; replace bO1_2 := BoxAt.ext hb bO1_2; replace bO1_3 := BoxAt.ext hb bO1_3; replace bO1_4 := BoxAt.ext hb bO1_4; replace bO1_5 := BoxAt.ext hb bO1_5; replace bO1_6 := BoxAt.ext hb bO1_6; replace bO5_0 := BoxAt.ext hb bO5_0; replace bO5_1 := BoxAt.ext hb bO5_1; have hs11 := hb.size; clear hb; have lt12 := bO9_0.lt
 refine ipl_nil ?_
 refine iqw_then ?_
 refine icw_seq ?_
 refine icw_plain ?_
 refine ipl_step rfl (by kernel_rfl) (by kernel_rfl) (by kernel_rfl) (sn_call (f := 34) (args := #[]) (by kernel_rfl) ((Empty_c _).mono ?_))
 rintro e w16 ⟨B13, rfl, hn14, hr15, hb⟩
 replace hE := hE.trans hb; replace bO1_0 := BoxAt.ext hb bO1_0; replace bO1_1 := BoxAt.ext hb bO1_1; replace bO1_2 := BoxAt.ext hb bO1_2; replace bO1_3 := BoxAt.ext hb bO1_3; replace bO1_4 := BoxAt.ext hb bO1_4; replace bO1_5 := BoxAt.ext hb bO1_5; replace bO1_6 := BoxAt.ext hb bO1_6; replace bO5_0 := BoxAt.ext hb bO5_0; replace bO5_1 := BoxAt.ext hb bO5_1; replace bO9_0 := BoxAt.ext hb bO9_0; have hs17 := hb.size; clear hb; have lt18 := hr15.lt
 refine ⟨_, rfl, ?_⟩
 refine ipl_step rfl (by kernel_rfl) (by kernel_rfl) (by kernel_rfl) (sn_new (us := #[.slice none 0 0]) (t := 31) (by kernel_rfl) ?_)
 intro O19 X20 hzO19 hyO19 hb hbx; have bO19_0 := bx1 hbx; clear hbx
 replace hE := hE.trans hb; replace bO1_0 := BoxAt.ext hb bO1_0; replace bO1_1 := BoxAt.ext hb bO1_1; replace bO1_2 := BoxAt.ext hb bO1_2; replace bO1_3 := BoxAt.ext hb bO1_3; replace bO1_4 := BoxAt.ext hb bO1_4; replace bO1_5 := BoxAt.ext hb bO1_5; replace bO1_6 := BoxAt.ext hb bO1_6; replace bO5_0 := BoxAt.ext hb bO5_0; replace bO5_1 := BoxAt.ext hb bO5_1; replace bO9_0 := BoxAt.ext hb bO9_0; replace hr15 := hr15.ext hb; have hs21 := hb.size; clear hb; have lt22 := bO19_0.lt
 refine ipl_put rfl (by kernel_rfl) (by kernel_rfl) (sn_set (O := O19) (j := 0) (v := .slice (some ⟨B13, 0, none⟩) 24 24) (ex_store (p := .pointer (some ⟨O19, 0, none⟩)) (v := .agg #[.slice (some ⟨B13, 0, none⟩) 24 24]) rfl (by kernel_rfl) (by kernel_rfl) (st31 bO19_0.1 bO19_0.2)) bO19_0 ?_)
 intro X23 ho hv0 hk; replace hE := ho.ext hE (T (T hs3 (T hs7 (T hs11 hs17))) (Nat.le_of_eq hzO19))
 have q9 := fun (j : Nat) (v : Value) (h : BoxAt _ O1 j v) => ho.box (Nat.ne_of_gt (Nat.lt_of_lt_of_le lt4 (T (T hs7 (T hs11 hs17)) (Nat.le_of_eq hzO19)))) h
 replace bO1_0 := q9 _ _ bO1_0; replace bO1_1 := q9 _ _ bO1_1; replace bO1_2 := q9 _ _ bO1_2; replace bO1_3 := q9 _ _ bO1_3; replace bO1_4 := q9 _ _ bO1_4; replace bO1_5 := q9 _ _ bO1_5; replace bO1_6 := q9 _ _ bO1_6; clear q9
 have q9 := fun (j : Nat) (v : Value) (h : BoxAt _ O5 j v) => ho.box (Nat.ne_of_gt (Nat.lt_of_lt_of_le lt8 (T (T hs11 hs17) (Nat.le_of_eq hzO19)))) h
 replace bO5_0 := q9 _ _ bO5_0; replace bO5_1 := q9 _ _ bO5_1; clear q9; replace bO9_0 := ho.box (Nat.ne_of_gt (Nat.lt_of_lt_of_le lt12 (T hs17 (Nat.le_of_eq hzO19)))) bO9_0; replace hr15 := ho.rows (Nat.ne_of_gt (Nat.lt_of_lt_of_le lt18 (Nat.le_of_eq hzO19))) hr15; have hs24 : X20.heap.size ≤ X23.heap.size := Nat.le_of_eq ho.size.symm; clear ho hk bO19_0; have bO19_0 := hv0; clear hv0
 refine ipl_nil ?_
 refine iqw_then ?_
 refine icw_seq ?_
 refine icw_seq ?_
 refine icw_plain ?_
 refine ipl_take (.agg #[.int .i64 o.p, .int .i64 o.f, .int .i64 o.lo, .int .i64 o.hi, .int .i64 o.nd, .int .i64 o.tn, .int .i64 o.sl]) rfl (by kernel_rfl) (by kernel_rfl) (by kernel_rfl) (ex_load rfl (by kernel_rfl) (ld24 (bO1_0.1) (bO1_1.1) (bO1_2.1) (bO1_3.1) (bO1_4.1) (bO1_5.1) (bO1_6.1))) ?_
 refine ipl_take (.agg #[.int .i64 s.1, .int .i64 s.2]) rfl (by kernel_rfl) (by kernel_rfl) (by kernel_rfl) (ex_load rfl (by kernel_rfl) (ld26 (bO5_0.1) (bO5_1.1))) ?_
 refine ipl_take (.int .i64 lk) rfl (by kernel_rfl) (by kernel_rfl) (by kernel_rfl) (by kernel_rfl) ?_
 refine ipl_take (.int .i64 d) rfl (by kernel_rfl) (by kernel_rfl) (by kernel_rfl) (by kernel_rfl) ?_
 refine ipl_step rfl (by kernel_rfl) (by kernel_rfl) (by kernel_rfl) (sn_call (f := 51) (args := #[.agg #[.int .i64 o.p, .int .i64 o.f, .int .i64 o.lo, .int .i64 o.hi, .int .i64 o.nd, .int .i64 o.tn, .int .i64 o.sl], .agg #[.int .i64 s.1, .int .i64 s.2], .int .i64 lk, .int .i64 d]) (by kernel_rfl) ((shown_c o s lk d _).mono ?_))
 rintro e w34 ⟨B25, B26, B27, B28, rfl, ⟨hn29, hn30, hn31, hn32⟩, hS33, hb⟩
 replace hE := hE.trans hb; replace bO1_0 := BoxAt.ext hb bO1_0; replace bO1_1 := BoxAt.ext hb bO1_1; replace bO1_2 := BoxAt.ext hb bO1_2; replace bO1_3 := BoxAt.ext hb bO1_3; replace bO1_4 := BoxAt.ext hb bO1_4; replace bO1_5 := BoxAt.ext hb bO1_5; replace bO1_6 := BoxAt.ext hb bO1_6; replace bO5_0 := BoxAt.ext hb bO5_0; replace bO5_1 := BoxAt.ext hb bO5_1; replace bO9_0 := BoxAt.ext hb bO9_0; replace hr15 := hr15.ext hb; replace bO19_0 := BoxAt.ext hb bO19_0; have hs35 := hb.size; clear hb; have hX36 : Ext w34 w34 := Ext.refl _
 refine ⟨_, rfl, ?_⟩
 refine ipl_nil ?_
 refine iqw_then ?_
 refine icw_block ?_
 refine icw_range (ps := [17]) (by kernel_rfl) (enters_of Try.func82 (by kernel_rfl) rfl) (shown_seq hv hd9 (fun b hb hx => (fun h => h.elim (fun e => (Nat.ne_of_gt (Nat.lt_of_lt_of_le lt18 (T (T hs21 hs24) hn29))) (e.symm.trans hx)) (fun h => h.elim (fun e => (Nat.ne_of_gt (Nat.lt_of_lt_of_le lt18 (T (T hs21 hs24) hn30))) (e.symm.trans hx)) (fun h => h.elim (fun e => (Nat.ne_of_gt (Nat.lt_of_lt_of_le lt18 (T (T hs21 hs24) hn31))) (e.symm.trans hx)) (fun e => (Nat.ne_of_gt (Nat.lt_of_lt_of_le lt18 (T (T hs21 hs24) hn32))) (e.symm.trans hx))))) hb) (fun k hk => hk ▸ (Nat.lt_of_lt_of_le lt18 (T hs21 (T hs24 hs35)))) hS33) (Ext.refl _) (fun _ => rfl) (by kernel_rfl) (fun i W => w34.heap.size ≤ W.heap.size ∧ Ext w W ∧ BoxAt W O1 0 (.int .i64 o.p) ∧ BoxAt W O1 1 (.int .i64 o.f) ∧ BoxAt W O1 2 (.int .i64 o.lo) ∧ BoxAt W O1 3 (.int .i64 o.hi) ∧ BoxAt W O1 4 (.int .i64 o.nd) ∧ BoxAt W O1 5 (.int .i64 o.tn) ∧ BoxAt W O1 6 (.int .i64 o.sl) ∧ BoxAt W O5 0 (.int .i64 s.1) ∧ BoxAt W O5 1 (.int .i64 s.2) ∧ BoxAt W O9 0 (.slice none 0 0) ∧ BoxAt W O19 0 (.slice (some ⟨B13, 0, none⟩) 24 24) ∧ RowsAt W B13 (Swath.showL o lk (s.1 - d) i)) (fun _ _ _ => False) (fun i A B h hm => by obtain ⟨hsz, hE, bO1_0, bO1_1, bO1_2, bO1_3, bO1_4, bO1_5, bO1_6, bO5_0, bO5_1, bO9_0, bO19_0, hr9⟩ := h; exact ⟨T hsz hm.size, hm.ext hE (T hs3 (T hs7 (T hs11 (T hs17 (T hs21 (T hs24 hs35)))))), hm.box bO1_0, hm.box bO1_1, hm.box bO1_2, hm.box bO1_3, hm.box bO1_4, hm.box bO1_5, hm.box bO1_6, hm.box bO5_0, hm.box bO5_1, hm.box bO9_0, hm.box bO19_0, hm.rows hr9⟩) (fun _ _ _ _ h _ => h.elim) ⟨Nat.le_refl _, hE, bO1_0, bO1_1, bO1_2, bO1_3, bO1_4, bO1_5, bO1_6, bO5_0, bO5_1, bO9_0, bO19_0, hr15⟩ ?_ ?_ ?_
 ·
  clear bO1_0 bO1_1 bO1_2 bO1_3 bO1_4 bO1_5 bO1_6 bO5_0 bO5_1 bO9_0 hr15 bO19_0 hE
  intro l39 k40 i w37 hii h _
  obtain ⟨hs38, hE, bO1_0, bO1_1, bO1_2, bO1_3, bO1_4, bO1_5, bO1_6, bO5_0, bO5_1, bO9_0, bO19_0, hr9⟩ := h
  refine icw_clean [9, 17] (ws' := [(9, .pointer (some ⟨O19, 0, none⟩)), (17, .agg #[.int .i64 (((Swath.sx o lk (s.1 + ((i : Nat) : Int) - d) : Nat) : Int) : Int), .int .i64 (((Orb.cy o (s.1 + ((i : Nat) : Int) - d) : Nat) : Int) : Int), .int .i64 (s.1 + ((i : Nat) : Int) : Int)])]) (by kernel_rfl) (fun L => ?_)
  have hrk41 : RK w34.heap.size (fun k => k = B13) w37 w37 := RK.refl _ _ _
  refine icw_plain ?_
  refine ipl_step rfl (by kernel_rfl) (by kernel_rfl) (by kernel_rfl) (sn_new (us := #[.int .i64 0, .int .i64 0, .int .i64 0]) (t := 85) (by kernel_rfl) ?_)
  intro O42 X43 hzO42 hyO42 hb hbx; have ⟨bO42_0, bO42_1, bO42_2⟩ := bx3 hbx; clear hbx
  replace hE := hE.trans hb; replace bO1_0 := BoxAt.ext hb bO1_0; replace bO1_1 := BoxAt.ext hb bO1_1; replace bO1_2 := BoxAt.ext hb bO1_2; replace bO1_3 := BoxAt.ext hb bO1_3; replace bO1_4 := BoxAt.ext hb bO1_4; replace bO1_5 := BoxAt.ext hb bO1_5; replace bO1_6 := BoxAt.ext hb bO1_6; replace bO5_0 := BoxAt.ext hb bO5_0; replace bO5_1 := BoxAt.ext hb bO5_1; replace bO9_0 := BoxAt.ext hb bO9_0; replace bO19_0 := BoxAt.ext hb bO19_0; replace hr9 := hr9.ext hb; replace hrk41 := hrk41.ext hb; have hs44 := hb.size; clear hb; have lt45 := bO42_0.lt
  refine ipl_put rfl (by kernel_rfl) (by kernel_rfl) (sn_setK3 (O := O42) (j := 0) (v0 := .int .i64 (((Swath.sx o lk (s.1 + ((i : Nat) : Int) - d) : Nat) : Int) : Int)) (v1 := .int .i64 (((Orb.cy o (s.1 + ((i : Nat) : Int) - d) : Nat) : Int) : Int)) (v2 := .int .i64 (s.1 + ((i : Nat) : Int) : Int)) (ex_store (p := .pointer (some ⟨O42, 0, none⟩)) (v := .agg #[.int .i64 (((Swath.sx o lk (s.1 + ((i : Nat) : Int) - d) : Nat) : Int) : Int), .int .i64 (((Orb.cy o (s.1 + ((i : Nat) : Int) - d) : Nat) : Int) : Int), .int .i64 (s.1 + ((i : Nat) : Int) : Int)]) rfl (by kernel_rfl) (by kernel_rfl) (st85 bO42_0.1 bO42_0.2 bO42_1.1 bO42_1.2 bO42_2.1 bO42_2.2)) bO42_0 bO42_1 bO42_2 ?_)
  intro X46 ho hv0 hv1 hv2 hk; replace hE := ho.ext hE (T (T hs3 (T hs7 (T hs11 (T hs17 (T hs21 (T hs24 (T hs35 hs38))))))) (Nat.le_of_eq hzO42))
  have q9 := fun (j : Nat) (v : Value) (h : BoxAt _ O1 j v) => ho.box (Nat.ne_of_gt (Nat.lt_of_lt_of_le lt4 (T (T hs7 (T hs11 (T hs17 (T hs21 (T hs24 (T hs35 hs38)))))) (Nat.le_of_eq hzO42)))) h
  replace bO1_0 := q9 _ _ bO1_0; replace bO1_1 := q9 _ _ bO1_1; replace bO1_2 := q9 _ _ bO1_2; replace bO1_3 := q9 _ _ bO1_3; replace bO1_4 := q9 _ _ bO1_4; replace bO1_5 := q9 _ _ bO1_5; replace bO1_6 := q9 _ _ bO1_6; clear q9
  have q9 := fun (j : Nat) (v : Value) (h : BoxAt _ O5 j v) => ho.box (Nat.ne_of_gt (Nat.lt_of_lt_of_le lt8 (T (T hs11 (T hs17 (T hs21 (T hs24 (T hs35 hs38))))) (Nat.le_of_eq hzO42)))) h
  replace bO5_0 := q9 _ _ bO5_0; replace bO5_1 := q9 _ _ bO5_1; clear q9; replace bO9_0 := ho.box (Nat.ne_of_gt (Nat.lt_of_lt_of_le lt12 (T (T hs17 (T hs21 (T hs24 (T hs35 hs38)))) (Nat.le_of_eq hzO42)))) bO9_0; replace bO19_0 := ho.box (Nat.ne_of_gt (Nat.lt_of_lt_of_le lt22 (T (T hs24 (T hs35 hs38)) (Nat.le_of_eq hzO42)))) bO19_0; replace hr9 := ho.rows (Nat.ne_of_gt (Nat.lt_of_lt_of_le lt18 (T (T hs21 (T hs24 (T hs35 hs38))) (Nat.le_of_eq hzO42)))) hr9; replace hrk41 := hrk41.turn ho (.inr (Nat.le_of_eq hzO42)); have hs47 : X43.heap.size ≤ X46.heap.size := Nat.le_of_eq ho.size.symm; clear ho hk bO42_0 bO42_1 bO42_2; have bO42_0 := hv0; clear hv0; have bO42_1 := hv1; clear hv1; have bO42_2 := hv2; clear hv2
  refine ipl_nil ?_
  refine iqw_asg hrk41 (fun w49 hm48 => ?_)
  replace hE := hm48.ext hE (T hs3 (T hs7 (T hs11 (T hs17 (T hs21 (T hs24 hs35)))))); replace bO1_0 := hm48.box bO1_0; replace bO1_1 := hm48.box bO1_1; replace bO1_2 := hm48.box bO1_2; replace bO1_3 := hm48.box bO1_3; replace bO1_4 := hm48.box bO1_4; replace bO1_5 := hm48.box bO1_5; replace bO1_6 := hm48.box bO1_6; replace bO5_0 := hm48.box bO5_0; replace bO5_1 := hm48.box bO5_1; replace bO9_0 := hm48.box bO9_0; replace bO19_0 := hm48.box bO19_0; replace hr9 := hm48.rows hr9; replace bO42_0 := hm48.box bO42_0; replace bO42_1 := hm48.box bO42_1; replace bO42_2 := hm48.box bO42_2; have hs50 := hm48.size
  have hrk51 : RK w34.heap.size (fun k => k = B13) w49 w49 := RK.refl _ _ _
  refine icw_block ?_
  have hcy := Orb.cy_lt hok (s.1 + ((i : Nat) : Int) - d)
  have hcx := Swath.sx_lt o lk (s.1 + ((i : Nat) : Int) - d)
  have hvs := Swath.show_valid hok lk (s.1 - d) i
  have hv9 := hr9.va hvs
  have hrl := Globe.rowN_lt hvs (Orb.cy o (s.1 + ((i : Nat) : Int) - d))
  refine icw_draw [(some 18, [9], []), (some 19, [18], [0]), (some 20, [10], []), (some 21, [20], [2]), (some 22, [21], [3]), (some 23, [19, 22], [1, 4]), (some 24, [23], [5]), (some 25, [10], []), (some 26, [25], [7]), (some 27, [26], [8]), (some 28, [27], [9]), (some 29, [24, 28], [6, 10]), (some 30, [19, 22], [1, 4, 0, 1, 2, 3, 4, 5, 6, 7, 8, 9, 10, 11]), (none, [30, 29], [12, 11, 0, 1, 2, 3, 4, 5, 6, 7, 8, 9, 10, 11])] (fun w' => w'.cell? ⟨O19, 0, none⟩ = some (.slice (some ⟨B13, 0, none⟩) 24 24) ∧ w'.cell? ⟨O42, 1, none⟩ = some (.int .i64 (((Orb.cy o (s.1 + ((i : Nat) : Int) - d) : Nat) : Int) : Int)) ∧ w'.cell? ⟨O42, 0, none⟩ = some (.int .i64 (((Swath.sx o lk (s.1 + ((i : Nat) : Int) - d) : Nat) : Int) : Int))) (by kernel_rfl) (by kernel_rfl) (by kernel_rfl) (by kernel_rfl) ((calm_block calm_rnd)) (⟨bO19_0.1, bO42_1.1, bO42_0.1⟩) (fun ops Q X52 hb hL hR hK => ?_)
  replace hE := hE.trans hb; replace bO1_0 := BoxAt.ext hb bO1_0; replace bO1_1 := BoxAt.ext hb bO1_1; replace bO1_2 := BoxAt.ext hb bO1_2; replace bO1_3 := BoxAt.ext hb bO1_3; replace bO1_4 := BoxAt.ext hb bO1_4; replace bO1_5 := BoxAt.ext hb bO1_5; replace bO1_6 := BoxAt.ext hb bO1_6; replace bO5_0 := BoxAt.ext hb bO5_0; replace bO5_1 := BoxAt.ext hb bO5_1; replace bO9_0 := BoxAt.ext hb bO9_0; replace bO19_0 := BoxAt.ext hb bO19_0; replace hr9 := hr9.ext hb; replace bO42_0 := BoxAt.ext hb bO42_0; replace bO42_1 := BoxAt.ext hb bO42_1; replace bO42_2 := BoxAt.ext hb bO42_2; replace hrk51 := hrk51.ext hb; replace hv9 := hv9.ext hb; have hs53 := hb.size; clear hb
  refine iwd_take 0 (.pointer (some ⟨O19, 0, none⟩)) hR rfl (by kernel_rfl) rfl (by kernel_rfl) (fun w _ => by kernel_rfl) (⟨bO19_0.1, bO42_1.1, bO42_0.1⟩) ?_
  refine iwd_take 1 (.slice (some ⟨B13, 0, none⟩) 24 24) hR rfl (by kernel_rfl) rfl (by kernel_rfl) (fun w hS => ex_load rfl (by kernel_rfl) (ld29 (hS.1))) (⟨bO19_0.1, bO42_1.1, bO42_0.1⟩) ?_
  refine iwd_take 2 (.pointer (some ⟨O42, 0, none⟩)) hR rfl (by kernel_rfl) rfl (by kernel_rfl) (fun w _ => by kernel_rfl) (⟨bO19_0.1, bO42_1.1, bO42_0.1⟩) ?_
  refine iwd_take 3 (.pointer (some ⟨O42, 1, none⟩)) hR rfl (by kernel_rfl) rfl (by kernel_rfl) (fun w _ => by kernel_rfl) (⟨bO19_0.1, bO42_1.1, bO42_0.1⟩) ?_
  refine iwd_take 4 (.int .i64 (((Orb.cy o (s.1 + ((i : Nat) : Int) - d) : Nat) : Int) : Int)) hR rfl (by kernel_rfl) rfl (by kernel_rfl) (fun w hS => ex_load rfl (by kernel_rfl) (ld3 (hS.2.1))) (⟨bO19_0.1, bO42_1.1, bO42_0.1⟩) ?_
  refine iwd_take 5 (.pointer (some ⟨B13, Orb.cy o (s.1 + ((i : Nat) : Int) - d), none⟩)) hR rfl (by kernel_rfl) rfl (by kernel_rfl) (fun w _ => ex_index (p := .slice (some ⟨B13, 0, none⟩) 24 24) (i := .int .i64 ((Orb.cy o (s.1 + ((i : Nat) : Int) - d) : Nat) : Int)) rfl (by kernel_rfl) (by kernel_rfl) (ix29z (k := Orb.cy o (s.1 + ((i : Nat) : Int) - d)) (by omega))) (⟨bO19_0.1, bO42_1.1, bO42_0.1⟩) ?_
  refine iwd_take 7 (.pointer (some ⟨O42, 0, none⟩)) hR rfl (by kernel_rfl) rfl (by kernel_rfl) (fun w _ => by kernel_rfl) (⟨bO19_0.1, bO42_1.1, bO42_0.1⟩) ?_
  refine iwd_take 8 (.pointer (some ⟨O42, 0, none⟩)) hR rfl (by kernel_rfl) rfl (by kernel_rfl) (fun w _ => by kernel_rfl) (⟨bO19_0.1, bO42_1.1, bO42_0.1⟩) ?_
  refine iwd_take 9 (.int .i64 (((Swath.sx o lk (s.1 + ((i : Nat) : Int) - d) : Nat) : Int) : Int)) hR rfl (by kernel_rfl) rfl (by kernel_rfl) (fun w hS => ex_load rfl (by kernel_rfl) (ld3 (hS.2.2))) (⟨bO19_0.1, bO42_1.1, bO42_0.1⟩) ?_
  refine iwd_take 10 (.int .i64 (((2 ^ (Swath.sx o lk (s.1 + ((i : Nat) : Int) - d)) : Nat) : Int) : Int)) hR rfl (by kernel_rfl) rfl (by kernel_rfl) (fun w _ => ex_bin rfl (by kernel_rfl) (by kernel_rfl) (bin_shl1 (by omega))) (⟨bO19_0.1, bO42_1.1, bO42_0.1⟩) ?_
  refine iwd_step 6 hR rfl (by kernel_rfl) (by kernel_rfl) (by kernel_rfl) (sn_eff (v := .int .i64 (((Globe.rowN (Swath.showL o lk (s.1 - d) i) (Orb.cy o (s.1 + ((i : Nat) : Int) - d)) : Nat) : Int) : Int)) (w' := X52) (ex_load rfl (by kernel_rfl) (ld3 (hv9.cell0 (y := Orb.cy o (s.1 + ((i : Nat) : Int) - d)) (by omega)))) ⟨⟨bO19_0.1, bO42_1.1, bO42_0.1⟩, ?_⟩)
  refine iwd_take 11 (.int .i64 ((((Globe.rowN (Swath.showL o lk (s.1 - d) i) (Orb.cy o (s.1 + ((i : Nat) : Int) - d))) ||| (2 ^ Swath.sx o lk (s.1 + ((i : Nat) : Int) - d)) : Nat) : Int) : Int)) hR rfl (by kernel_rfl) rfl (by kernel_rfl) (fun w _ => ev_int (show _ = Result.ok (Next.value (Value.int .i64 (bits .or .i64 ((Globe.rowN (Swath.showL o lk (s.1 - d) i) (Orb.cy o (s.1 + ((i : Nat) : Int) - d)) : Nat) : Int) ((2 ^ Swath.sx o lk (s.1 + ((i : Nat) : Int) - d) : Nat) : Int)))) _ from by kernel_rfl) (or_i64 _ _ (by omega) (by have : 2 ^ Swath.sx o lk (s.1 + ((i : Nat) : Int) - d) < 2 ^ 48 := Nat.pow_lt_pow_right (by decide) hcx; omega))) (⟨bO19_0.1, bO42_1.1, bO42_0.1⟩) ?_
  refine iwd_take 12 (.pointer (some ⟨B13, Orb.cy o (s.1 + ((i : Nat) : Int) - d), none⟩)) hR rfl (by kernel_rfl) rfl (by kernel_rfl) (fun w _ => ex_index (p := .slice (some ⟨B13, 0, none⟩) 24 24) (i := .int .i64 ((Orb.cy o (s.1 + ((i : Nat) : Int) - d) : Nat) : Int)) rfl (by kernel_rfl) (by kernel_rfl) (ix29z (k := Orb.cy o (s.1 + ((i : Nat) : Int) - d)) (by omega))) (⟨bO19_0.1, bO42_1.1, bO42_0.1⟩) ?_
  refine iwd_step 13 hR rfl (by kernel_rfl) (by kernel_rfl) (by kernel_rfl) (sn_row (g := B13) (y := Orb.cy o (s.1 + ((i : Nat) : Int) - d)) (v := (((Globe.rowN (Swath.showL o lk (s.1 - d) i) (Orb.cy o (s.1 + ((i : Nat) : Int) - d))) ||| (2 ^ Swath.sx o lk (s.1 + ((i : Nat) : Int) - d)) : Nat) : Int)) (ex_store (p := .pointer (some ⟨B13, Orb.cy o (s.1 + ((i : Nat) : Int) - d), none⟩)) (v := .int .i64 ((((Globe.rowN (Swath.showL o lk (s.1 - d) i) (Orb.cy o (s.1 + ((i : Nat) : Int) - d))) ||| (2 ^ Swath.sx o lk (s.1 + ((i : Nat) : Int) - d)) : Nat) : Int) : Int)) rfl (by kernel_rfl) (by kernel_rfl) (st3 (hr9.cell (by omega)) (hr9.free (by omega)))) hr9 (by omega) ?_)
  intro X54 ho hv0; replace hE := ho.ext hE (T (T hs3 (T hs7 hs11)) hn14)
  have q9 := fun (j : Nat) (v : Value) (h : BoxAt _ O1 j v) => ho.box (Nat.ne_of_gt (Nat.lt_of_lt_of_le lt4 (T (T hs7 hs11) hn14))) h
  replace bO1_0 := q9 _ _ bO1_0; replace bO1_1 := q9 _ _ bO1_1; replace bO1_2 := q9 _ _ bO1_2; replace bO1_3 := q9 _ _ bO1_3; replace bO1_4 := q9 _ _ bO1_4; replace bO1_5 := q9 _ _ bO1_5; replace bO1_6 := q9 _ _ bO1_6; clear q9
  have q9 := fun (j : Nat) (v : Value) (h : BoxAt _ O5 j v) => ho.box (Nat.ne_of_gt (Nat.lt_of_lt_of_le lt8 (T hs11 hn14))) h
  replace bO5_0 := q9 _ _ bO5_0; replace bO5_1 := q9 _ _ bO5_1; clear q9; replace bO9_0 := ho.box (Nat.ne_of_gt (Nat.lt_of_lt_of_le lt12 hn14)) bO9_0; replace bO19_0 := ho.box (Nat.ne_of_lt (Nat.lt_of_lt_of_le lt18 (Nat.le_of_eq hzO19))) bO19_0
  have q9 := fun (j : Nat) (v : Value) (h : BoxAt _ O42 j v) => ho.box (Nat.ne_of_lt (Nat.lt_of_lt_of_le lt18 (T (T hs21 (T hs24 (T hs35 hs38))) (Nat.le_of_eq hzO42)))) h
  replace bO42_0 := q9 _ _ bO42_0; replace bO42_1 := q9 _ _ bO42_1; replace bO42_2 := q9 _ _ bO42_2; clear q9; replace hrk51 := hrk51.turn ho (.inl (rfl)); have hs55 : X52.heap.size ≤ X54.heap.size := Nat.le_of_eq ho.size.symm; clear ho hr9; have hr9 := hv0; clear hv0
  refine ⟨⟨bO19_0.1, bO42_1.1, bO42_0.1⟩, ?_⟩
  refine iwd_end hL hR hK (by kernel_rfl) ?_
  refine iqw_block ?_
  exact iqw_next hrk51 ⟨(T hs38 (T hs44 (T hs47 (T hs50 (T hs53 hs55))))), hE, bO1_0, bO1_1, bO1_2, bO1_3, bO1_4, bO1_5, bO1_6, bO5_0, bO5_1, bO9_0, bO19_0, (show_next hr9)⟩
 ·
  clear bO1_0 bO1_1 bO1_2 bO1_3 bO1_4 bO1_5 bO1_6 bO5_0 bO5_1 bO9_0 hr15 bO19_0 hE
  intro D56 w57 hD60 hDl61 h hmk59
  obtain ⟨hs58, hE, bO1_0, bO1_1, bO1_2, bO1_3, bO1_4, bO1_5, bO1_6, bO5_0, bO5_1, bO9_0, bO19_0, hr9⟩ := h
  refine iqw_block ?_
  refine iqw_then ?_
  refine icw_seq ?_
  refine icw_plain ?_
  refine ipl_take (.agg #[.slice (some ⟨B13, 0, none⟩) 24 24]) rfl (by kernel_rfl) (by kernel_rfl) (by kernel_rfl) (ex_load rfl (by kernel_rfl) (ld31 (bO19_0.1))) ?_
  refine ipl_put rfl (by kernel_rfl) (by kernel_rfl) (sn_set (O := O9) (j := 0) (v := .slice (some ⟨B13, 0, none⟩) 24 24) (ex_store (p := .pointer (some ⟨O9, 0, none⟩)) (v := .agg #[.slice (some ⟨B13, 0, none⟩) 24 24]) rfl (by kernel_rfl) (by kernel_rfl) (st31 bO9_0.1 bO9_0.2)) bO9_0 ?_)
  intro X62 ho hv0 hk; replace hE := ho.ext hE (T (T hs3 hs7) (Nat.le_of_eq hzO9))
  have q9 := fun (j : Nat) (v : Value) (h : BoxAt _ O1 j v) => ho.box (Nat.ne_of_gt (Nat.lt_of_lt_of_le lt4 (T hs7 (Nat.le_of_eq hzO9)))) h
  replace bO1_0 := q9 _ _ bO1_0; replace bO1_1 := q9 _ _ bO1_1; replace bO1_2 := q9 _ _ bO1_2; replace bO1_3 := q9 _ _ bO1_3; replace bO1_4 := q9 _ _ bO1_4; replace bO1_5 := q9 _ _ bO1_5; replace bO1_6 := q9 _ _ bO1_6; clear q9
  have q9 := fun (j : Nat) (v : Value) (h : BoxAt _ O5 j v) => ho.box (Nat.ne_of_gt (Nat.lt_of_lt_of_le lt8 (Nat.le_of_eq hzO9))) h
  replace bO5_0 := q9 _ _ bO5_0; replace bO5_1 := q9 _ _ bO5_1; clear q9; replace bO19_0 := ho.box (Nat.ne_of_lt (Nat.lt_of_lt_of_le lt12 (T hs17 (Nat.le_of_eq hzO19)))) bO19_0; replace hr9 := ho.rows (Nat.ne_of_lt (Nat.lt_of_lt_of_le lt12 hn14)) hr9; replace hmk59 := mk_turn hmk59 ho; have hs63 : w57.heap.size ≤ X62.heap.size := Nat.le_of_eq ho.size.symm; clear ho hk bO9_0; have bO9_0 := hv0; clear hv0
  refine ipl_nil ?_
  refine iqw_then ?_
  refine icw_clean [8] (ws' := [(8, .pointer (some ⟨O9, 0, none⟩))]) (by kernel_rfl) (fun L => ?_)
  refine icw_ret ?_
  refine iqw_ret w.heap.size [.agg #[.slice (some ⟨B13, 0, none⟩) 24 24]] rfl (marksC (T (T hs3 (T hs7 (T hs11 (T hs17 (T hs21 (T hs24 hs35)))))) hD60) hmk59 (fun _ h => by cases h)) (by simp) (fun W9 hm9 => ?_)
  replace hE := hm9.ext hE (Nat.le_refl _); replace bO1_0 := hm9.box bO1_0; replace bO1_1 := hm9.box bO1_1; replace bO1_2 := hm9.box bO1_2; replace bO1_3 := hm9.box bO1_3; replace bO1_4 := hm9.box bO1_4; replace bO1_5 := hm9.box bO1_5; replace bO1_6 := hm9.box bO1_6; replace bO5_0 := hm9.box bO5_0; replace bO5_1 := hm9.box bO5_1; replace bO19_0 := hm9.box bO19_0; replace hr9 := hm9.rows hr9; replace bO9_0 := hm9.box bO9_0; have hs64 := hm9.size
  refine ⟨⟨⟨_, by kernel_rfl, res_ld (ld31 (bO9_0.1))⟩, trivial⟩, ?_⟩
  exact ⟨B13, rfl, (T (T hs3 (T hs7 hs11)) hn14), hr9, hE⟩
 · intro _ _ _ _ _ _ _ h _; exact h.elim

end Go.Proofs.Ytdjjkhefdalokaa

/- Arrays of ints: reading one out of memory, comparing two. -/
namespace Go.Proofs.Ytdjjkhefdalokaa
open Go.RowKit

def intVals (l : List Int) : List Value := l.map (Value.int .i64)
theorem intVals_at {l : List Int} {i : Nat} (h : i < l.length) : (intVals l).toArray[i]? = some (.int .i64 (Globe.nth l i)) := by
 simp [intVals, Globe.nth, h]
theorem eqItems_ints {P : Program} (d : Nat) (e : TypeId) (hp : P.plainKey e = true) (hc : P.cellsOf e = 1) (hu : P.underlying e = some (.int .i64)) (xs ys : List Int) (w : World) :
  ∀ is : List Nat, (∀ i ∈ is, i < xs.length ∧ i < ys.length) → (Op.eqItems (d + 1) e (P.cellsOf e) (intVals xs).toArray (intVals ys).toArray is).run P w = .ok (is.all fun i => Globe.nth xs i == Globe.nth ys i) w
 | [], _ => by simp [Op.eqItems]
 | i :: is, h => by
  obtain ⟨h1, h2⟩ := h i (by simp)
  have ih := eqItems_ints d e hp hc hu xs ys w is (fun j hj => h j (by simp [hj]))
  have p1 : (part e (intVals xs).toArray (i * P.cellsOf e)).run P w = .ok (.int .i64 (Globe.nth xs i)) w := run_part_plain w hp (by rw [hc, Nat.mul_one]; exact intVals_at h1)
  have p2 : (part e (intVals ys).toArray (i * P.cellsOf e)).run P w = .ok (.int .i64 (Globe.nth ys i)) w := run_part_plain w hp (by rw [hc, Nat.mul_one]; exact intVals_at h2)
  simp only [Op.eqItems, Sem.run_bind, p1, p2, Result.andThen_ok, run_equalIn_int w d e .i64 .i64 _ _ hu, List.all_cons]
  cases hq : (Globe.nth xs i == Globe.nth ys i)
  · simp
  · simpa using ih
theorem equalIn_rows {P : Program} (t e : TypeId) (hu : P.underlying t = some (.array 24 e)) (hs : (P.info? e).isSome = true) (hp : P.plainKey e = true) (hc : P.cellsOf e = 1) (hue : P.underlying e = some (.int .i64)) (L : List Int) (hL : L.length = 24) (w : World) :
    (Op.equalIn 10000 t (.agg (intVals L).toArray) (.agg (intVals Globe.zeroL).toArray)).run P w = .ok (decide (L = Globe.zeroL)) w := by
  obtain ⟨i, hi⟩ := Option.isSome_iff_exists.1 hs
  rw [run_equalIn_array w 9999 _ _ hu hi, eqItems_ints 9998 e hp hc hue L Globe.zeroL w (List.range 24) (fun j hj => by have := List.mem_range.1 hj; simp [Globe.zeroL]; omega)]
  congr 1
  rw [Bool.eq_iff_iff, decide_eq_true_eq, List.all_eq_true]
  constructor
  · intro h
    exact Globe.ext_nth (by rw [hL]; rfl) fun j hj => by simpa using h j (List.mem_range.2 (by omega))
  · rintro rfl j _
    simp
/-- A load of a row of ints, guarded or not. -/
theorem wpList_load_g {P : Program} {ops : Array Oper} {rest : List Oper} {op : Oper} {a : Act} {w : World} {Q : Exit → Act → World → Prop} (hw : Region.wanted op (yielded ops a.tmps) = true) (ty : TypeId) (x : Operand) (ho : op.op = .load ty x)
  (b o : Nat) (hx : a.eval x = .pointer (some ⟨b, o, none⟩)) (cs : List Value) (d : TypeDesc) (hc : w.rangeAt b o cs)
  (hu : P.underlying ty = some d) (hd : d.isRow = true) (hi : (P.info? ty).map (·.size) = some cs.length)
  (h : wpList P ops Q rest (a.put op.dst (.agg cs.toArray)) w) : wpList P ops Q (op :: rest) a w :=
 wpList_step fun _ hK => by
  rw [if_pos hw]
  exact wp_load_mid ty x ho b o hx cs d hc hu hd hi (hK _ _ h)
theorem RowsAt.range {w : World} {B : Nat} {L : List Int} (h : RowsAt w B L) : w.rangeAt B 0 (intVals L) := by
 intro j v hv
 have hj : j < L.length := by
  rw [← List.length_map (f := Value.int .i64)]
  exact (List.getElem?_eq_some_iff.1 hv).1
 have : v = .int .i64 (Globe.nth L j) := by
  have e := intVals_at hj
  rw [List.getElem?_toArray] at e
  rw [e] at hv; cases hv; rfl
 rw [this, Nat.zero_add]
 exact h.cell (by rw [← h.len]; exact hj)

end Go.Proofs.Ytdjjkhefdalokaa

/- The rows of an area, appended to an empty slice. -/
namespace Go.Proofs.Ytdjjkhefdalokaa
open Go.RowKit

theorem intT9 : ElemT Try.prog 29 3 (.int .i64 0) 1 8 := ⟨Try.underlying29, by kernel_rfl, rfl, by decide⟩
/-- What a slice of its own, of 24 ints, owns: rows. -/
theorem rows_own9 {w : World} {base : Nat} {v : Value} {L : List Int} (hL : L.length = 24) (h : w.ownsRow base 3 1 v 24 (intVals L)) : ∃ g k, v = .slice (some ⟨g, 0, none⟩) 24 k ∧ base ≤ g ∧ RowsAt w g L := by
  rcases h.2 with ⟨_, h0⟩ | ⟨g, cap, cur, rfl, hb, _, _⟩
  · omega
  · refine ⟨g, cap, rfl, hb, hL, fun i hi => ?_, fun i hi => h.frozenAt i⟩
    rw [h.cellAt i (by omega)]
    simp [intVals, Globe.nth, show i < L.length by omega]

/-- The rows of an area, appended to an empty slice. -/
theorem app_rows9 {w : World} {O b o c : Nat} {ty : TypeId} {L : List Int} (hO : w.heap[O]? = some (.cells #[] 3 (0, 0))) (h : VA w b o L) :
  ∃ g cap w', (Builtin.append_ #[29, 29] ty #[.slice (some ⟨O, 0, none⟩) 0 0, .slice (some ⟨b, o, none⟩) 24 c]).run Try.prog w = .ok (.slice (some ⟨g, 0, none⟩) 24 cap) w' ∧ RowsAt w' g L ∧ O ≤ g ∧ Grew O w w' := by
 have hOl : O < w.heap.size := by
  rcases Nat.lt_or_ge O w.heap.size with q | q
  · exact q
  · rw [Array.getElem?_eq_none q] at hO; cases hO
 obtain ⟨i, hi, hz0, hz1, hz2⟩ := info_parts intT9.info
 have hl := h.len
 have hx : ∀ j u, (intVals L)[j]? = some u → w.cell? ((⟨b, o, none⟩ : Addr).add j) = some u := fun j u hj => by
  have hjl : j < L.length := by rw [← List.length_map (f := Value.int .i64)]; exact (List.getElem?_eq_some_iff.1 hj).1
  have e := intVals_at hjl
  rw [List.getElem?_toArray, hj] at e
  cases e
  rw [Addr.add_mid]; exact h.1 j (by omega)
 obtain ⟨v', w', hrun, hown, hg, _, _⟩ := run_append_own_at (P := Try.prog) w O 29 ty 3 i (.int .i64 0) 1 8 intT9.under hi hz0 hz1 hz2 rfl (by decide) (.slice (some ⟨O, 0, none⟩) 0 0) 0 [] (own_empty hO (Nat.le_refl _)) ⟨b, o, none⟩ 24 c (intVals L) (by simp [intVals, hl]) hx
  (by simp [intVals, Value.oneCell']) (by unfold maxLen; omega) (by omega) (by omega)
 have hown2 : w'.ownsRow O 3 1 v' 24 (intVals L) := by simpa using hown
 obtain ⟨g, k, rfl, hgO, hr⟩ := rows_own9 hl hown2
 exact ⟨g, k, w', hrun, hr, hgO, ⟨hg.size, fun U hU hUn => Ext.own' hU (own_empty (size := 1) hO (Nat.le_refl _)) hUn hg⟩⟩

end Go.Proofs.Ytdjjkhefdalokaa

/- Contracts of package swath: the closures of Strip. -/
namespace Go.Proofs.Ytdjjkhefdalokaa
open Go.RowKit

/-- A new strip of one's own. -/
def RetSt (w : World) (L1 L2 : List Int) (e : Ending) (w' : World) : Prop :=
 ∃ B g c1 c2 : Nat, e = .returned (.agg #[.slice (some ⟨B, 0, none⟩) 24 c1, .slice (some ⟨g, 0, none⟩) 24 c2]) ∧ w.heap.size ≤ B ∧ w.heap.size ≤ g ∧ B ≠ g ∧ RowsAt w' B L1 ∧ RowsAt w' g L2 ∧ Ext w w'
/-- What the closures of Strip and Suns have captured. -/
def StAt (w : World) (Bo Bs Bl : Nat) (o : Orb) (s : Int × Int) (lk : Int) : Prop :=
 (w.cell? ⟨Bo, 0, none⟩ = some (.int .i64 o.p) ∧ w.cell? ⟨Bo, 1, none⟩ = some (.int .i64 o.f) ∧ w.cell? ⟨Bo, 2, none⟩ = some (.int .i64 o.lo) ∧ w.cell? ⟨Bo, 3, none⟩ = some (.int .i64 o.hi) ∧ w.cell? ⟨Bo, 4, none⟩ = some (.int .i64 o.nd) ∧ w.cell? ⟨Bo, 5, none⟩ = some (.int .i64 o.tn) ∧ w.cell? ⟨Bo, 6, none⟩ = some (.int .i64 o.sl)) ∧
 w.cell? ⟨Bs, 0, none⟩ = some (.int .i64 s.1) ∧ w.cell? ⟨Bs, 1, none⟩ = some (.int .i64 s.2) ∧ w.cell? ⟨Bl, 0, none⟩ = some (.int .i64 lk)
set_option maxRecDepth 1000000 in
set_option maxHeartbeats 4000000 in
theorem value_c {w0 : World} {Bo Bs Bl : Nat} {o : Orb} {s : Int × Int} {lk : Int} (d : Int) (w : World) (hS : StAt w0 Bo Bs Bl o s lk) (e0 : Ext w0 w) (hv : Swath.shB o s lk = true) (hd9 : Globe.inB d (-o.sl) o.sl = true) : Calls Try.prog 46 #[.int .i64 d, .pointer (some ⟨Bo, 0, none⟩), .pointer (some ⟨Bs, 0, none⟩), .pointer (some ⟨Bl, 0, none⟩)] w (RetSt w (Swath.showL o lk (s.1 - d) (s.2 - s.1).toNat) (Swath.showL o lk (s.1 - d) (s.2 - s.1).toNat)) := by
 obtain ⟨⟨o0, o1, o2, o3, o4, o5, o6⟩, a0, a1, l0⟩ := hS
 replace o0 := e0.cell o0; replace o1 := e0.cell o1; replace o2 := e0.cell o2; replace o3 := e0.cell o3; replace o4 := e0.cell o4; replace o5 := e0.cell o5; replace o6 := e0.cell o6; replace a0 := e0.cell a0; replace a1 := e0.cell a1; replace l0 := e0.cell l0
 refine calls_cw 19 [(3, .pointer (some ⟨Bl, 0, none⟩)), (2, .pointer (some ⟨Bs, 0, none⟩)), (1, .pointer (some ⟨Bo, 0, none⟩)), (0, .int .i64 d)] Try.func46 rfl Try.ntmps46 (by kernel_rfl) (by kernel_rfl) (fun L => ?_)
 have hE : Ext w w := Ext.refl w
 refine cw_seq ?_; refine cw_plain ?_
 refine pS (sn_new (us := #[.slice none 0 0, .slice none 0 0]) (t := 44) (by kernel_rfl) ?_)
 intro O1 X2 hzO1 hyO1 hb hbx; have ⟨bO1_0, bO1_1⟩ := bx2 hbx; clear hbx
 replace hE := hE.trans hb; have hs3 := hb.size; clear hb; have lt4 := bO1_0.lt; refine pl_nil ?_; refine qw_then ?_; refine cw_seq ?_; refine cw_plain ?_
 refine pU (.agg #[.int .i64 o.p, .int .i64 o.f, .int .i64 o.lo, .int .i64 o.hi, .int .i64 o.nd, .int .i64 o.tn, .int .i64 o.sl]) (ex_load rfl (by kernel_rfl) (ld24 ((hE.cell o0)) ((hE.cell o1)) ((hE.cell o2)) ((hE.cell o3)) ((hE.cell o4)) ((hE.cell o5)) ((hE.cell o6)))) ?_
 refine pU (.agg #[.int .i64 s.1, .int .i64 s.2]) (ex_load rfl (by kernel_rfl) (ld26 ((hE.cell a0)) ((hE.cell a1)))) ?_
 refine pU (.int .i64 lk) (ex_load rfl (by kernel_rfl) (ld3 ((hE.cell l0)))) ?_
 refine pT (.int .i64 d) ?_
 refine pS (sn_call (f := 44) (args := #[.agg #[.int .i64 o.p, .int .i64 o.f, .int .i64 o.lo, .int .i64 o.hi, .int .i64 o.nd, .int .i64 o.tn, .int .i64 o.sl], .agg #[.int .i64 s.1, .int .i64 s.2], .int .i64 lk, .int .i64 d]) (by kernel_rfl) ((area_c o s lk d _ hv hd9).mono ?_))
 rintro e w8 ⟨B5, rfl, hn6, hr7, hb⟩
 replace hE := hE.trans hb; replace bO1_0 := BoxAt.ext hb bO1_0; replace bO1_1 := BoxAt.ext hb bO1_1; have hs9 := hb.size; clear hb; have lt10 := hr7.lt
 refine ⟨_, rfl, ?_⟩
 refine pS (sn_new (us := #[.slice none 0 0]) (t := 31) (by kernel_rfl) ?_)
 intro O11 X12 hzO11 hyO11 hb hbx; have bO11_0 := bx1 hbx; clear hbx
 replace hE := hE.trans hb; replace bO1_0 := BoxAt.ext hb bO1_0; replace bO1_1 := BoxAt.ext hb bO1_1; replace hr7 := hr7.ext hb; have hs13 := hb.size; clear hb; have lt14 := bO11_0.lt
 refine pP (sn_set (O := O11) (j := 0) (v := .slice (some ⟨B5, 0, none⟩) 24 24) (ex_store (p := .pointer (some ⟨O11, 0, none⟩)) (v := .agg #[.slice (some ⟨B5, 0, none⟩) 24 24]) rfl (by kernel_rfl) (by kernel_rfl) (st31 bO11_0.1 bO11_0.2)) bO11_0 ?_)
 intro X15 ho hv0 hk; replace hE := ho.ext hE (T (T hs3 hs9) (Nat.le_of_eq hzO11))
 have q9 := fun (j : Nat) (v : Value) (h : BoxAt _ O1 j v) => ho.box (Nat.ne_of_gt (Nat.lt_of_lt_of_le lt4 (T hs9 (Nat.le_of_eq hzO11)))) h
 replace bO1_0 := q9 _ _ bO1_0; replace bO1_1 := q9 _ _ bO1_1; clear q9; replace hr7 := ho.rows (Nat.ne_of_gt (Nat.lt_of_lt_of_le lt10 (Nat.le_of_eq hzO11))) hr7; have hs16 : X12.heap.size ≤ X15.heap.size := Nat.le_of_eq ho.size.symm; clear ho hk bO11_0; have bO11_0 := hv0; clear hv0; refine pl_nil ?_; refine qw_then ?_; refine cw_seq ?_
 have hva := hr7.va (Swath.show_valid (Swath.shB_t.1 hv).1 lk (s.1 - d) (s.2 - s.1).toNat)
 have hX17 : Ext X15 X15 := Ext.refl _
 refine cw_draw [(some 12, [6], []), (some 13, [], []), (some 14, [6], []), (some 15, [14], [2]), (some 16, [13, 15], [1, 3]), (some 17, [16], [4]), (some 18, [12, 17], [0, 5]), (none, [5, 18], [6, 4, 0, 1, 2, 3, 4, 5, 6])] (fun w' => w'.cell? ⟨O11, 0, none⟩ = some (.slice (some ⟨B5, 0, none⟩) 24 24)) (by kernel_rfl) (by kernel_rfl) (by kernel_rfl) (by kernel_rfl) ((calm_then calm_body)) (bO11_0.1) (fun ops Q X18 hb hL hR hK => ?_)
 replace hE := hE.trans hb; replace hX17 := hX17.trans hb; have hs19 := hb.size; clear hb
 have hS20 := (BoxAt.ext hX17 bO11_0).1
 refine wT 0 (.agg #[.slice (some ⟨B5, 0, none⟩) 24 24]) hR (fun w hS => ex_load rfl (by kernel_rfl) (ld31 (hS))) (hS20) ?_
 refine wT 2 (.pointer (some ⟨O11, 0, none⟩)) hR (fun w _ => by kernel_rfl) (hS20) ?_
 refine wT 3 (.slice (some ⟨B5, 0, none⟩) 24 24) hR (fun w hS => ex_load rfl (by kernel_rfl) (ld29 (hS))) (hS20) ?_
 refine wS 1 hR (sn_newS0 (t := 3) (by kernel_rfl) ?_)
 intro O21 X22 hO hOs hb hpO21
 have hzO21 := hO; have hyO21 : O21 < X22.heap.size := (by omega); clear hO hOs
 replace hE := hE.trans hb; replace hX17 := hX17.trans hb; have hs23 := hb.size; clear hb
 have hS24 := (BoxAt.ext hX17 bO11_0).1
 refine ⟨hS24, ?_⟩
 obtain ⟨g25, cap26, w27, hrun28, hrow29, hge30, hgr31⟩ := app_rows9 (ty := 29) (c := 24) hpO21 (hva.ext hX17)
 refine wS 4 hR (sn_eff (v := .slice (some ⟨g25, 0, none⟩) 24 cap26) (w' := w27) (ex_append rfl (by kernel_rfl) (by kernel_rfl) hrun28) ?_)
 replace hE := hgr31.ext _ hE (T (T hs3 (T hs9 (T hs13 (T hs16 hs19)))) (Nat.le_of_eq hzO21)); replace hX17 := hgr31.ext _ hX17 (T hs19 (Nat.le_of_eq hzO21)); have hs32 := hgr31.size; have lt33 := hrow29.lt
 have hS34 := (BoxAt.ext hX17 bO11_0).1
 refine ⟨hS34, ?_⟩
 refine wT 5 (.agg #[.slice (some ⟨g25, 0, none⟩) 24 cap26]) hR (fun w _ => by kernel_rfl) (hS34) ?_
 refine wT 6 (.agg #[.slice (some ⟨B5, 0, none⟩) 24 24, .slice (some ⟨g25, 0, none⟩) 24 cap26]) hR (fun w _ => by kernel_rfl) (hS34) ?_
 have bO1_t36 := (BoxAt.ext hX17 bO1_0)
 have bO1_t37 := (BoxAt.ext hX17 bO1_1)
 have hrt38 := (hr7.ext hX17)
 have bO11_t39 := (BoxAt.ext hX17 bO11_0)
 have hvat40 := (hva.ext hX17)
 refine wS 7 hR (sn_set2 (O := O1) (j := 0) (v := .slice (some ⟨B5, 0, none⟩) 24 24) (v' := .slice (some ⟨g25, 0, none⟩) 24 cap26) (ex_store (p := .pointer (some ⟨O1, 0, none⟩)) (v := .agg #[.slice (some ⟨B5, 0, none⟩) 24 24, .slice (some ⟨g25, 0, none⟩) 24 cap26]) rfl (by kernel_rfl) (by kernel_rfl) (st44 bO1_t36.1 bO1_t36.2 bO1_t37.1 bO1_t37.2)) bO1_t36 bO1_t37 ?_)
 intro X35 ho hv0 hv1 hk; replace hE := ho.ext hE (Nat.le_of_eq hzO1); replace hrt38 := ho.rows (Nat.ne_of_lt (Nat.lt_of_lt_of_le lt4 hn6)) hrt38; replace bO11_t39 := ho.box (Nat.ne_of_lt (Nat.lt_of_lt_of_le lt4 (T hs9 (Nat.le_of_eq hzO11)))) bO11_t39; replace hvat40 := ho.va (Nat.ne_of_lt (Nat.lt_of_lt_of_le lt4 hn6)) hvat40; replace hrow29 := ho.rows (Nat.ne_of_lt (Nat.lt_of_lt_of_le lt4 (T (T hs9 (T hs13 (T hs16 hs19))) (T (Nat.le_of_eq hzO21) hge30)))) hrow29; have hs41 : w27.heap.size ≤ X35.heap.size := Nat.le_of_eq ho.size.symm; clear ho hk bO1_t36 bO1_t37; have bO1_t36 := hv0; clear hv0; have bO1_t37 := hv1; clear hv1
 refine ⟨bO11_t39.1, ?_⟩
 refine wd_end hL hR hK (by kernel_rfl) ?_
 refine qw_then ?_; refine cC1 5 (fun L => ?_)
 refine cw_ret ?_
 refine qw_ret [.agg #[.slice (some ⟨B5, 0, none⟩) 24 24, .slice (some ⟨g25, 0, none⟩) 24 cap26]] rfl ⟨⟨_, by kernel_rfl, res_ld (ld44 (bO1_t36.1) (bO1_t37.1))⟩, trivial⟩ ?_
 exact ⟨B5, g25, _, _, rfl, (T hs3 hn6), (T (T hs3 (T hs9 (T hs13 (T hs16 hs19)))) (T (Nat.le_of_eq hzO21) hge30)), (Nat.ne_of_lt (Nat.lt_of_lt_of_le lt10 (T (T hs13 (T hs16 hs19)) (T (Nat.le_of_eq hzO21) hge30)))), hrt38, hrow29, hE⟩
set_option maxRecDepth 1000000 in
set_option maxHeartbeats 4000000 in
theorem first_c {A1 A2 k1 k2 : Nat} (w : World) : Calls Try.prog 49 #[.agg #[.slice (some ⟨A1, 0, none⟩) 24 k1, .slice (some ⟨A2, 0, none⟩) 24 k2]] w fun e w' => e = .returned (.agg #[.slice (some ⟨A1, 0, none⟩) 24 k1, .slice (some ⟨A2, 0, none⟩) 24 k2]) ∧ Ext w w' := by
 refine calls_cw 4 [(0, .agg #[.slice (some ⟨A1, 0, none⟩) 24 k1, .slice (some ⟨A2, 0, none⟩) 24 k2])] Try.func49 rfl Try.ntmps49 (by kernel_rfl) (by kernel_rfl) (fun L => ?_)
 have hE : Ext w w := Ext.refl w
 refine cw_seq ?_; refine cw_plain ?_
 refine pS (sn_new (us := #[.slice (some ⟨A1, 0, none⟩) 24 k1, .slice (some ⟨A2, 0, none⟩) 24 k2]) (t := 44) (by kernel_rfl) ?_)
 intro O1 X2 hzO1 hyO1 hb hbx; have ⟨bO1_0, bO1_1⟩ := bx2 hbx; clear hbx
 replace hE := hE.trans hb; have hs3 := hb.size; clear hb; have lt4 := bO1_0.lt
 refine pS (sn_new (us := #[.slice none 0 0, .slice none 0 0]) (t := 44) (by kernel_rfl) ?_)
 intro O5 X6 hzO5 hyO5 hb hbx; have ⟨bO5_0, bO5_1⟩ := bx2 hbx; clear hbx
 replace hE := hE.trans hb; replace bO1_0 := BoxAt.ext hb bO1_0; replace bO1_1 := BoxAt.ext hb bO1_1; have hs7 := hb.size; clear hb; have lt8 := bO5_0.lt; refine pl_nil ?_; refine qw_then ?_; refine cw_seq ?_; refine cw_plain ?_
 refine pU (.agg #[.slice (some ⟨A1, 0, none⟩) 24 k1, .slice (some ⟨A2, 0, none⟩) 24 k2]) (ex_load rfl (by kernel_rfl) (ld44 (bO1_0.1) (bO1_1.1))) ?_
 refine pP (sn_set2 (O := O5) (j := 0) (v := .slice (some ⟨A1, 0, none⟩) 24 k1) (v' := .slice (some ⟨A2, 0, none⟩) 24 k2) (ex_store (p := .pointer (some ⟨O5, 0, none⟩)) (v := .agg #[.slice (some ⟨A1, 0, none⟩) 24 k1, .slice (some ⟨A2, 0, none⟩) 24 k2]) rfl (by kernel_rfl) (by kernel_rfl) (st44 bO5_0.1 bO5_0.2 bO5_1.1 bO5_1.2)) bO5_0 bO5_1 ?_)
 intro X9 ho hv0 hv1 hk; replace hE := ho.ext hE (T hs3 (Nat.le_of_eq hzO5))
 have q9 := fun (j : Nat) (v : Value) (h : BoxAt _ O1 j v) => ho.box (Nat.ne_of_gt (Nat.lt_of_lt_of_le lt4 (Nat.le_of_eq hzO5))) h
 replace bO1_0 := q9 _ _ bO1_0; replace bO1_1 := q9 _ _ bO1_1; clear q9; have hs10 : X6.heap.size ≤ X9.heap.size := Nat.le_of_eq ho.size.symm; clear ho hk bO5_0 bO5_1; have bO5_0 := hv0; clear hv0; have bO5_1 := hv1; clear hv1; refine pl_nil ?_; refine qw_then ?_
 refine cw_ret ?_
 refine qw_ret [.agg #[.slice (some ⟨A1, 0, none⟩) 24 k1, .slice (some ⟨A2, 0, none⟩) 24 k2]] rfl ⟨⟨_, by kernel_rfl, res_ld (ld44 (bO5_0.1) (bO5_1.1))⟩, trivial⟩ ?_
 exact ⟨rfl, hE⟩
set_option maxRecDepth 1000000 in
set_option maxHeartbeats 4000000 in
theorem both_c {A1 A2 B1 B2 k1 k2 q1 q2 : Nat} {L1 L2 M1 M2 : List Int} (w : World) (hA1 : RowsAt w A1 L1) (v1 : Globe.validL L1 = true) (hA2 : RowsAt w A2 L2) (v2 : Globe.validL L2 = true) (hB1 : VA w B1 0 M1) (hB2 : VA w B2 0 M2) (n12 : A1 ≠ A2) (m11 : A1 ≠ B1) (m12 : A1 ≠ B2) (m21 : A2 ≠ B1) (m22 : A2 ≠ B2) :
  Calls Try.prog 47 #[.agg #[.slice (some ⟨A1, 0, none⟩) 24 k1, .slice (some ⟨A2, 0, none⟩) 24 k2], .agg #[.slice (some ⟨B1, 0, none⟩) 24 q1, .slice (some ⟨B2, 0, none⟩) 24 q2]] w fun e w' => e = .returned (.agg #[.slice (some ⟨A1, 0, none⟩) 24 k1, .slice (some ⟨A2, 0, none⟩) 24 k2]) ∧ RowsAt w' A1 (Globe.meetL L1 M1) ∧ RowsAt w' A2 (Globe.unionL L2 M2) ∧ Wrote (fun k => k = A1 ∨ k = A2) w w' := by
 have hw9 : Wrote (fun k => k = A1 ∨ k = A2) w w := Wrote.refl _ _
 have lA1 : A1 < w.heap.size := World.block_lt_of_cell? _ _ (hA1.cell (i := 0) (by decide))
 have lA2 : A2 < w.heap.size := World.block_lt_of_cell? _ _ (hA2.cell (i := 0) (by decide))
 have lB1 := hB1.lt
 have lB2 := hB2.lt
 have Hn12 := Lib.hid n12
 have Hm11 := Lib.hid m11
 have Hm12 := Lib.hid m12
 have Hm21 := Lib.hid m21
 have Hm22 := Lib.hid m22
 refine calls_cw 43 [(1, .agg #[.slice (some ⟨B1, 0, none⟩) 24 q1, .slice (some ⟨B2, 0, none⟩) 24 q2]), (0, .agg #[.slice (some ⟨A1, 0, none⟩) 24 k1, .slice (some ⟨A2, 0, none⟩) 24 k2])] Try.func47 rfl Try.ntmps47 (by kernel_rfl) (by kernel_rfl) (fun L => ?_)
 have hE : Ext w w := Ext.refl w
 refine cw_seq ?_; refine cw_plain ?_
 refine pS (sn_new (us := #[.slice (some ⟨A1, 0, none⟩) 24 k1, .slice (some ⟨A2, 0, none⟩) 24 k2]) (t := 44) (by kernel_rfl) ?_)
 intro O1 X2 hzO1 hyO1 hb hbx; have ⟨bO1_0, bO1_1⟩ := bx2 hbx; clear hbx
 replace hE := hE.trans hb; replace hA1 := hA1.ext hb; replace hA2 := hA2.ext hb; replace hB1 := hB1.ext hb; replace hB2 := hB2.ext hb; replace hw9 := hw9.step hb; have hs3 := hb.size; clear hb; have lt4 := bO1_0.lt
 refine pS (sn_new (us := #[.slice (some ⟨B1, 0, none⟩) 24 q1, .slice (some ⟨B2, 0, none⟩) 24 q2]) (t := 44) (by kernel_rfl) ?_)
 intro O5 X6 hzO5 hyO5 hb hbx; have ⟨bO5_0, bO5_1⟩ := bx2 hbx; clear hbx
 replace hE := hE.trans hb; replace hA1 := hA1.ext hb; replace hA2 := hA2.ext hb; replace hB1 := hB1.ext hb; replace hB2 := hB2.ext hb; replace hw9 := hw9.step hb; replace bO1_0 := BoxAt.ext hb bO1_0; replace bO1_1 := BoxAt.ext hb bO1_1; have hs7 := hb.size; clear hb; have lt8 := bO5_0.lt
 refine pS (sn_new (us := #[.slice none 0 0, .slice none 0 0]) (t := 44) (by kernel_rfl) ?_)
 intro O9 X10 hzO9 hyO9 hb hbx; have ⟨bO9_0, bO9_1⟩ := bx2 hbx; clear hbx
 replace hE := hE.trans hb; replace hA1 := hA1.ext hb; replace hA2 := hA2.ext hb; replace hB1 := hB1.ext hb; replace hB2 := hB2.ext hb; replace hw9 := hw9.step hb; replace bO1_0 := BoxAt.ext hb bO1_0; replace bO1_1 := BoxAt.ext hb bO1_1; replace bO5_0 := BoxAt.ext hb bO5_0; replace bO5_1 := BoxAt.ext hb bO5_1; have hs11 := hb.size; clear hb; have lt12 := bO9_0.lt; refine pl_nil ?_; refine qw_then ?_; refine cw_seq ?_; refine cw_seq ?_; refine cw_plain ?_; refine pT (.pointer (some ⟨O1, 0, none⟩)) ?_; refine pT (.pointer (some ⟨O1, 0, none⟩)) ?_
 refine pU (.slice (some ⟨A1, 0, none⟩) 24 k1) (ex_load rfl (by kernel_rfl) (ld29 (bO1_0.1))) ?_
 refine pT (.int .i64 24) ?_; refine pT (.int .i64 0) ?_; refine pl_nil ?_; refine qw_then ?_
 refine cw_block ?_
 refine cw_loop [2, 3, 4, 9, 10] (fun ws' wr m => ∃ i : Nat, ws' = [(2, .pointer (some ⟨O1, 0, none⟩)), (3, .pointer (some ⟨O5, 0, none⟩)), (4, .pointer (some ⟨O9, 0, none⟩)), (9, .int .i64 24), (10, .int .i64 (((i : Nat) : Int) : Int))] ∧ m = 24 - i ∧ X10.heap.size ≤ wr.heap.size ∧ VA wr B1 0 M1 ∧ VA wr B2 0 M2 ∧ Wrote (fun k => k = A1 ∨ k = A2) w wr ∧ BoxAt wr O1 0 (.slice (some ⟨A1, 0, none⟩) 24 k1) ∧ BoxAt wr O1 1 (.slice (some ⟨A2, 0, none⟩) 24 k2) ∧ BoxAt wr O5 0 (.slice (some ⟨B1, 0, none⟩) 24 q1) ∧ BoxAt wr O5 1 (.slice (some ⟨B2, 0, none⟩) 24 q2) ∧ BoxAt wr O9 0 (.slice none 0 0) ∧ BoxAt wr O9 1 (.slice none 0 0) ∧ RowsAt wr A1 (Globe.mixL Globe.and8 L1 M1 i) ∧ RowsAt wr A2 (Globe.mixL Globe.or8 L2 M2 i) ∧ i ≤ 24) (ws0 := [(2, .pointer (some ⟨O1, 0, none⟩)), (3, .pointer (some ⟨O5, 0, none⟩)), (4, .pointer (some ⟨O9, 0, none⟩)), (9, .int .i64 24), (10, .int .i64 0)]) (by kernel_rfl) _ ⟨0, rfl, rfl, Nat.le_refl _, hB1, hB2, hw9, bO1_0, bO1_1, bO5_0, bO5_1, bO9_0, bO9_1, (by rw [Globe.mix_0 v1]; exact hA1), (by rw [Globe.mix_0 v2]; exact hA2), by omega⟩ ?_
 clear hA1 hA2 hB1 hB2 hw9 bO1_0 bO1_1 bO5_0 bO5_1 bO9_0 bO9_1
 rintro m15 L ws w14 ⟨i, rfl, rfl, hs13, hB1, hB2, hw9, bO1_0, bO1_1, bO5_0, bO5_1, bO9_0, bO9_1, hr1, hr2, hi⟩
 by_cases hlt : i < 24
 ·
  have hv1 := hr1.va (Globe.mix_valid Globe.and8_lt v1 hB1.2 i)
  have hl1 := Globe.rowN_lt hv1.2 i
  have hm1 := Globe.rowN_lt hB1.2 i
  have hv2 := hr2.va (Globe.mix_valid Globe.or8_lt v2 hB2.2 i)
  have hl2 := Globe.rowN_lt hv2.2 i
  have hm2 := Globe.rowN_lt hB2.2 i
  refine cw_seq ?_; refine cw_plain ?_
  refine pU (.bool true) (ev_dec (show _ = Result.ok (Next.value (Value.bool (decide ((((i : Nat) : Int) : Int) < (24 : Int))))) _ from by kernel_rfl) (by omega)) ?_
  refine pl_nil ?_; refine qw_then ?_; refine cw_seq ?_
  refine cw_t (by kernel_rfl) ?_
  refine cw_skip ?_
  refine qw_then ?_; refine cw_seq ?_
  refine cw_block ?_
  refine cw_seq ?_; refine cw_plain ?_; refine pT (.int .i64 (((i : Nat) : Int) : Int)) ?_; refine pT (.int .i64 (((i : Nat) : Int) : Int)) ?_; refine pl_nil ?_; refine qw_then ?_; refine cw_seq ?_
  refine cw_draw [(some 13, [2], []), (some 14, [13], [0]), (some 15, [14], [1]), (some 16, [5], []), (some 17, [15, 16], [2, 3]), (some 18, [17], [4]), (some 19, [3], []), (some 20, [19], [6]), (some 21, [20], [7]), (some 22, [5], []), (some 23, [21, 22], [8, 9]), (some 24, [23], [10]), (some 25, [18, 24], [5, 11]), (some 26, [15, 16], [2, 3, 0, 1, 2, 3, 4, 5, 6, 7, 8, 9, 10, 11, 12]), (none, [26, 25], [13, 12, 0, 1, 2, 3, 4, 5, 6, 7, 8, 9, 10, 11, 12])] (fun w' => w'.cell? ⟨O1, 0, none⟩ = some (.slice (some ⟨A1, 0, none⟩) 24 k1) ∧ w'.cell? ⟨O5, 0, none⟩ = some (.slice (some ⟨B1, 0, none⟩) 24 q1) ∧ w'.cell? ⟨B1, i, none⟩ = some (.int .i64 (((Globe.rowN M1 i : Nat) : Int) : Int))) (by kernel_rfl) (by kernel_rfl) (by kernel_rfl) (by kernel_rfl) ((calm_then (calm_block (calm_then (calm_then (calm_block (calm_then calm_body))))))) (⟨bO1_0.1, bO5_0.1, hB1.cell0 (y := i) (by omega)⟩) (fun ops Q X16 hb hL hR hK => ?_)
  replace hB1 := hB1.ext hb; replace hB2 := hB2.ext hb; replace hw9 := hw9.step hb; replace bO1_0 := BoxAt.ext hb bO1_0; replace bO1_1 := BoxAt.ext hb bO1_1; replace bO5_0 := BoxAt.ext hb bO5_0; replace bO5_1 := BoxAt.ext hb bO5_1; replace bO9_0 := BoxAt.ext hb bO9_0; replace bO9_1 := BoxAt.ext hb bO9_1; replace hr1 := hr1.ext hb; replace hr2 := hr2.ext hb; replace hv1 := hv1.ext hb; replace hv2 := hv2.ext hb; have hs17 := hb.size; clear hb
  have hS18 := And.intro (bO1_0.1) (And.intro (bO5_0.1) (hB1.cell0 (y := i) (by omega)))
  refine wT 0 (.pointer (some ⟨O1, 0, none⟩)) hR (fun w _ => by kernel_rfl) (hS18) ?_
  refine wT 1 (.pointer (some ⟨O1, 0, none⟩)) hR (fun w _ => by kernel_rfl) (hS18) ?_
  refine wT 2 (.slice (some ⟨A1, 0, none⟩) 24 k1) hR (fun w hS => ex_load rfl (by kernel_rfl) (ld29 (hS.1))) (hS18) ?_
  refine wT 3 (.int .i64 (((i : Nat) : Int) : Int)) hR (fun w _ => by kernel_rfl) (hS18) ?_
  refine wT 4 (.pointer (some ⟨A1, i, none⟩)) hR (fun w _ => ex_index (p := .slice (some ⟨A1, 0, none⟩) 24 k1) (i := .int .i64 ((i : Nat) : Int)) rfl (by kernel_rfl) (by kernel_rfl) (ix29z (k := i) (by omega))) (hS18) ?_
  refine wT 6 (.pointer (some ⟨O5, 0, none⟩)) hR (fun w _ => by kernel_rfl) (hS18) ?_
  refine wT 7 (.pointer (some ⟨O5, 0, none⟩)) hR (fun w _ => by kernel_rfl) (hS18) ?_
  refine wT 8 (.slice (some ⟨B1, 0, none⟩) 24 q1) hR (fun w hS => ex_load rfl (by kernel_rfl) (ld29 (hS.2.1))) (hS18) ?_
  refine wT 9 (.int .i64 (((i : Nat) : Int) : Int)) hR (fun w _ => by kernel_rfl) (hS18) ?_
  refine wT 10 (.pointer (some ⟨B1, i, none⟩)) hR (fun w _ => ex_index (p := .slice (some ⟨B1, 0, none⟩) 24 q1) (i := .int .i64 ((i : Nat) : Int)) rfl (by kernel_rfl) (by kernel_rfl) (ix29z (k := i) (by omega))) (hS18) ?_
  refine wT 11 (.int .i64 (((Globe.rowN M1 i : Nat) : Int) : Int)) hR (fun w hS => ex_load rfl (by kernel_rfl) (ld3 (hS.2.2))) (hS18) ?_
  refine wS 5 hR (sn_eff (v := .int .i64 (((Globe.rowN (Globe.mixL Globe.and8 L1 M1 i) i : Nat) : Int) : Int)) (w' := X16) (ex_load rfl (by kernel_rfl) (ld3 (hv1.cell0 (y := i) (by omega)))) ⟨hS18, ?_⟩)
  refine wT 12 (.int .i64 ((((Globe.rowN (Globe.mixL Globe.and8 L1 M1 i) i) &&& (Globe.rowN M1 i) : Nat) : Int) : Int)) hR (fun w _ => ev_int (show _ = Result.ok (Next.value (Value.int .i64 (bits .and .i64 ((Globe.rowN (Globe.mixL Globe.and8 L1 M1 i) i : Nat) : Int) ((Globe.rowN M1 i : Nat) : Int)))) _ from by kernel_rfl) (and_i64 _ _ (by omega) (by omega))) (hS18) ?_
  refine wT 13 (.pointer (some ⟨A1, i, none⟩)) hR (fun w _ => ex_index (p := .slice (some ⟨A1, 0, none⟩) 24 k1) (i := .int .i64 ((i : Nat) : Int)) rfl (by kernel_rfl) (by kernel_rfl) (ix29z (k := i) (by omega))) (hS18) ?_
  refine wS 14 hR (sn_row (g := A1) (y := i) (v := (((Globe.rowN (Globe.mixL Globe.and8 L1 M1 i) i) &&& (Globe.rowN M1 i) : Nat) : Int)) (ex_store (p := .pointer (some ⟨A1, i, none⟩)) (v := .int .i64 ((((Globe.rowN (Globe.mixL Globe.and8 L1 M1 i) i) &&& (Globe.rowN M1 i) : Nat) : Int) : Int)) rfl (by kernel_rfl) (by kernel_rfl) (st3 (hr1.cell (by omega)) (hr1.free (by omega)))) hr1 (by omega) ?_)
  intro X19 ho hv0; replace hB1 := ho.va Hm11.out hB1; replace hB2 := ho.va Hm12.out hB2; replace hw9 := hw9.turn ho (.inl (.inl rfl))
  have q9 := fun (j : Nat) (v : Value) (h : BoxAt _ O1 j v) => ho.box (Nat.ne_of_lt (Nat.lt_of_lt_of_le lA1 (Nat.le_of_eq hzO1))) h
  replace bO1_0 := q9 _ _ bO1_0; replace bO1_1 := q9 _ _ bO1_1; clear q9
  have q9 := fun (j : Nat) (v : Value) (h : BoxAt _ O5 j v) => ho.box (Nat.ne_of_lt (Nat.lt_of_lt_of_le lA1 (T hs3 (Nat.le_of_eq hzO5)))) h
  replace bO5_0 := q9 _ _ bO5_0; replace bO5_1 := q9 _ _ bO5_1; clear q9
  have q9 := fun (j : Nat) (v : Value) (h : BoxAt _ O9 j v) => ho.box (Nat.ne_of_lt (Nat.lt_of_lt_of_le lA1 (T (T hs3 hs7) (Nat.le_of_eq hzO9)))) h
  replace bO9_0 := q9 _ _ bO9_0; replace bO9_1 := q9 _ _ bO9_1; clear q9; replace hr2 := ho.rows Hn12.out hr2; replace hv2 := ho.va Hn12.out hv2; have hs20 : X16.heap.size ≤ X19.heap.size := Nat.le_of_eq ho.size.symm; clear ho hr1; have hr1 := hv0; clear hv0
  have hS21 := And.intro (bO1_0.1) (And.intro (bO5_0.1) (hB1.cell0 (y := i) (by omega)))
  refine ⟨hS21, ?_⟩
  refine wd_end hL hR hK (by kernel_rfl) ?_
  refine qw_then ?_; refine cC6 2 3 4 5 9 10 (fun L => ?_)
  refine cw_draw [(some 27, [2], []), (some 28, [27], [0]), (some 29, [28], [1]), (some 30, [5], []), (some 31, [29, 30], [2, 3]), (some 32, [31], [4]), (some 33, [3], []), (some 34, [33], [6]), (some 35, [34], [7]), (some 36, [5], []), (some 37, [35, 36], [8, 9]), (some 38, [37], [10]), (some 39, [32, 38], [5, 11]), (some 40, [29, 30], [2, 3, 0, 1, 2, 3, 4, 5, 6, 7, 8, 9, 10, 11, 12]), (none, [40, 39], [13, 12, 0, 1, 2, 3, 4, 5, 6, 7, 8, 9, 10, 11, 12])] (fun w' => w'.cell? ⟨O1, 1, none⟩ = some (.slice (some ⟨A2, 0, none⟩) 24 k2) ∧ w'.cell? ⟨O5, 1, none⟩ = some (.slice (some ⟨B2, 0, none⟩) 24 q2) ∧ w'.cell? ⟨B2, i, none⟩ = some (.int .i64 (((Globe.rowN M2 i : Nat) : Int) : Int))) (by kernel_rfl) (by kernel_rfl) (by kernel_rfl) (by kernel_rfl) ((calm_block (calm_then (calm_then (calm_block (calm_then calm_body)))))) (⟨bO1_1.1, bO5_1.1, hB2.cell0 (y := i) (by omega)⟩) (fun ops Q X22 hb hL hR hK => ?_)
  replace hB1 := hB1.ext hb; replace hB2 := hB2.ext hb; replace hw9 := hw9.step hb; replace bO1_0 := BoxAt.ext hb bO1_0; replace bO1_1 := BoxAt.ext hb bO1_1; replace bO5_0 := BoxAt.ext hb bO5_0; replace bO5_1 := BoxAt.ext hb bO5_1; replace bO9_0 := BoxAt.ext hb bO9_0; replace bO9_1 := BoxAt.ext hb bO9_1; replace hr2 := hr2.ext hb; replace hv2 := hv2.ext hb; replace hr1 := hr1.ext hb; have hs23 := hb.size; clear hb
  have hS24 := And.intro (bO1_1.1) (And.intro (bO5_1.1) (hB2.cell0 (y := i) (by omega)))
  refine wT 0 (.pointer (some ⟨O1, 1, none⟩)) hR (fun w _ => by kernel_rfl) (hS24) ?_
  refine wT 1 (.pointer (some ⟨O1, 1, none⟩)) hR (fun w _ => by kernel_rfl) (hS24) ?_
  refine wT 2 (.slice (some ⟨A2, 0, none⟩) 24 k2) hR (fun w hS => ex_load rfl (by kernel_rfl) (ld29 (hS.1))) (hS24) ?_
  refine wT 3 (.int .i64 (((i : Nat) : Int) : Int)) hR (fun w _ => by kernel_rfl) (hS24) ?_
  refine wT 4 (.pointer (some ⟨A2, i, none⟩)) hR (fun w _ => ex_index (p := .slice (some ⟨A2, 0, none⟩) 24 k2) (i := .int .i64 ((i : Nat) : Int)) rfl (by kernel_rfl) (by kernel_rfl) (ix29z (k := i) (by omega))) (hS24) ?_
  refine wT 6 (.pointer (some ⟨O5, 1, none⟩)) hR (fun w _ => by kernel_rfl) (hS24) ?_
  refine wT 7 (.pointer (some ⟨O5, 1, none⟩)) hR (fun w _ => by kernel_rfl) (hS24) ?_
  refine wT 8 (.slice (some ⟨B2, 0, none⟩) 24 q2) hR (fun w hS => ex_load rfl (by kernel_rfl) (ld29 (hS.2.1))) (hS24) ?_
  refine wT 9 (.int .i64 (((i : Nat) : Int) : Int)) hR (fun w _ => by kernel_rfl) (hS24) ?_
  refine wT 10 (.pointer (some ⟨B2, i, none⟩)) hR (fun w _ => ex_index (p := .slice (some ⟨B2, 0, none⟩) 24 q2) (i := .int .i64 ((i : Nat) : Int)) rfl (by kernel_rfl) (by kernel_rfl) (ix29z (k := i) (by omega))) (hS24) ?_
  refine wT 11 (.int .i64 (((Globe.rowN M2 i : Nat) : Int) : Int)) hR (fun w hS => ex_load rfl (by kernel_rfl) (ld3 (hS.2.2))) (hS24) ?_
  refine wS 5 hR (sn_eff (v := .int .i64 (((Globe.rowN (Globe.mixL Globe.or8 L2 M2 i) i : Nat) : Int) : Int)) (w' := X22) (ex_load rfl (by kernel_rfl) (ld3 (hv2.cell0 (y := i) (by omega)))) ⟨hS24, ?_⟩)
  refine wT 12 (.int .i64 ((((Globe.rowN (Globe.mixL Globe.or8 L2 M2 i) i) ||| (Globe.rowN M2 i) : Nat) : Int) : Int)) hR (fun w _ => ev_int (show _ = Result.ok (Next.value (Value.int .i64 (bits .or .i64 ((Globe.rowN (Globe.mixL Globe.or8 L2 M2 i) i : Nat) : Int) ((Globe.rowN M2 i : Nat) : Int)))) _ from by kernel_rfl) (or_i64 _ _ (by omega) (by omega))) (hS24) ?_
  refine wT 13 (.pointer (some ⟨A2, i, none⟩)) hR (fun w _ => ex_index (p := .slice (some ⟨A2, 0, none⟩) 24 k2) (i := .int .i64 ((i : Nat) : Int)) rfl (by kernel_rfl) (by kernel_rfl) (ix29z (k := i) (by omega))) (hS24) ?_
  refine wS 14 hR (sn_row (g := A2) (y := i) (v := (((Globe.rowN (Globe.mixL Globe.or8 L2 M2 i) i) ||| (Globe.rowN M2 i) : Nat) : Int)) (ex_store (p := .pointer (some ⟨A2, i, none⟩)) (v := .int .i64 ((((Globe.rowN (Globe.mixL Globe.or8 L2 M2 i) i) ||| (Globe.rowN M2 i) : Nat) : Int) : Int)) rfl (by kernel_rfl) (by kernel_rfl) (st3 (hr2.cell (by omega)) (hr2.free (by omega)))) hr2 (by omega) ?_)
  intro X25 ho hv0; replace hB1 := ho.va Hm21.out hB1; replace hB2 := ho.va Hm22.out hB2; replace hw9 := hw9.turn ho (.inl (.inr rfl))
  have q9 := fun (j : Nat) (v : Value) (h : BoxAt _ O1 j v) => ho.box (Nat.ne_of_lt (Nat.lt_of_lt_of_le lA2 (Nat.le_of_eq hzO1))) h
  replace bO1_0 := q9 _ _ bO1_0; replace bO1_1 := q9 _ _ bO1_1; clear q9
  have q9 := fun (j : Nat) (v : Value) (h : BoxAt _ O5 j v) => ho.box (Nat.ne_of_lt (Nat.lt_of_lt_of_le lA2 (T hs3 (Nat.le_of_eq hzO5)))) h
  replace bO5_0 := q9 _ _ bO5_0; replace bO5_1 := q9 _ _ bO5_1; clear q9
  have q9 := fun (j : Nat) (v : Value) (h : BoxAt _ O9 j v) => ho.box (Nat.ne_of_lt (Nat.lt_of_lt_of_le lA2 (T (T hs3 hs7) (Nat.le_of_eq hzO9)))) h
  replace bO9_0 := q9 _ _ bO9_0; replace bO9_1 := q9 _ _ bO9_1; clear q9; replace hr1 := ho.rows (Ne.symm Hn12.out) hr1; have hs26 : X22.heap.size ≤ X25.heap.size := Nat.le_of_eq ho.size.symm; clear ho hr2; have hr2 := hv0; clear hv0
  have hS27 := And.intro (bO1_1.1) (And.intro (bO5_1.1) (hB2.cell0 (y := i) (by omega)))
  refine ⟨hS27, ?_⟩
  refine wd_end hL hR hK (by kernel_rfl) ?_
  refine qw_block ?_
  refine qw_then ?_; refine cC5 2 3 4 9 10 (fun L => ?_); refine cw_plain ?_
  refine pU (.int .i64 (((i + 1 : Nat) : Int) : Int)) (ev_wrap (by kernel_rfl) (by omega) (by omega)) ?_
  refine pT (.int .i64 (((i + 1 : Nat) : Int) : Int)) ?_; refine pl_nil ?_
  refine qw_round [2, 3, 4, 9, 10] (ws' := [(2, .pointer (some ⟨O1, 0, none⟩)), (3, .pointer (some ⟨O5, 0, none⟩)), (4, .pointer (some ⟨O9, 0, none⟩)), (9, .int .i64 24), (10, .int .i64 (((i + 1 : Nat) : Int) : Int))]) (by kernel_rfl) _ ?_ ⟨(i + 1), rfl, rfl, (T hs13 (T hs17 (T hs20 (T hs23 hs26)))), hB1, hB2, hw9, bO1_0, bO1_1, bO5_0, bO5_1, bO9_0, bO9_1, (by rw [← Globe.mix_succ hlt]; exact hr1), (by rw [← Globe.mix_succ hlt]; exact hr2), by omega⟩
  omega
 ·
  have hin : i = 24 := by omega
  refine cw_seq ?_; refine cw_plain ?_
  refine pU (.bool false) (ev_ndec (show _ = Result.ok (Next.value (Value.bool (decide ((((i : Nat) : Int) : Int) < (24 : Int))))) _ from by kernel_rfl) (by omega)) ?_
  refine pl_nil ?_; refine qw_then ?_; refine cw_seq ?_
  refine cw_f (by kernel_rfl) ?_
  refine cw_exit ?_
  refine qw_then_exit ?_
  refine qw_then_exit ?_
  refine qw_block_out ?_
  refine qw_then ?_; refine cw_seq ?_; refine cw_plain ?_
  refine pU (.agg #[.slice (some ⟨A1, 0, none⟩) 24 k1, .slice (some ⟨A2, 0, none⟩) 24 k2]) (ex_load rfl (by kernel_rfl) (ld44 (bO1_0.1) (bO1_1.1))) ?_
  refine pP (sn_set2 (O := O9) (j := 0) (v := .slice (some ⟨A1, 0, none⟩) 24 k1) (v' := .slice (some ⟨A2, 0, none⟩) 24 k2) (ex_store (p := .pointer (some ⟨O9, 0, none⟩)) (v := .agg #[.slice (some ⟨A1, 0, none⟩) 24 k1, .slice (some ⟨A2, 0, none⟩) 24 k2]) rfl (by kernel_rfl) (by kernel_rfl) (st44 bO9_0.1 bO9_0.2 bO9_1.1 bO9_1.2)) bO9_0 bO9_1 ?_)
  intro X28 ho hv0 hv1 hk; replace hB1 := ho.va (Nat.ne_of_gt (Nat.lt_of_lt_of_le lB1 (T (T hs3 hs7) (Nat.le_of_eq hzO9)))) hB1; replace hB2 := ho.va (Nat.ne_of_gt (Nat.lt_of_lt_of_le lB2 (T (T hs3 hs7) (Nat.le_of_eq hzO9)))) hB2; replace hw9 := hw9.turn ho (.inr (T (T hs3 hs7) (Nat.le_of_eq hzO9)))
  have q9 := fun (j : Nat) (v : Value) (h : BoxAt _ O1 j v) => ho.box (Nat.ne_of_gt (Nat.lt_of_lt_of_le lt4 (T hs7 (Nat.le_of_eq hzO9)))) h
  replace bO1_0 := q9 _ _ bO1_0; replace bO1_1 := q9 _ _ bO1_1; clear q9
  have q9 := fun (j : Nat) (v : Value) (h : BoxAt _ O5 j v) => ho.box (Nat.ne_of_gt (Nat.lt_of_lt_of_le lt8 (Nat.le_of_eq hzO9))) h
  replace bO5_0 := q9 _ _ bO5_0; replace bO5_1 := q9 _ _ bO5_1; clear q9; replace hr1 := ho.rows (Nat.ne_of_gt (Nat.lt_of_lt_of_le lA1 (T (T hs3 hs7) (Nat.le_of_eq hzO9)))) hr1; replace hr2 := ho.rows (Nat.ne_of_gt (Nat.lt_of_lt_of_le lA2 (T (T hs3 hs7) (Nat.le_of_eq hzO9)))) hr2; have hs29 : w14.heap.size ≤ X28.heap.size := Nat.le_of_eq ho.size.symm; clear ho hk bO9_0 bO9_1; have bO9_0 := hv0; clear hv0; have bO9_1 := hv1; clear hv1; refine pl_nil ?_; refine qw_then ?_
  refine cw_ret ?_
  refine qw_ret [.agg #[.slice (some ⟨A1, 0, none⟩) 24 k1, .slice (some ⟨A2, 0, none⟩) 24 k2]] rfl ⟨⟨_, by kernel_rfl, res_ld (ld44 (bO9_0.1) (bO9_1.1))⟩, trivial⟩ ?_
  exact ⟨rfl, by rw [hin, Globe.mix_24] at hr1; exact hr1, by rw [hin, Globe.mix_24] at hr2; exact hr2, hw9⟩

end Go.Proofs.Ytdjjkhefdalokaa

/- Contract of package swath: the fold of the strips of all delays. -/
namespace Go.Proofs.Ytdjjkhefdalokaa
open Go.RowKit

/-- The fold of the strips of the first i delays, in the box at O. -/
def FoldAt (O n₀ : Nat) (A : Nat → List Int) (i : Nat) (W : World) : Prop :=
 (i = 0 ∧ BoxAt W O 0 (.slice none 0 0) ∧ BoxAt W O 1 (.slice none 0 0)) ∨
 (0 < i ∧ ∃ A1 A2 c1 c2 : Nat, BoxAt W O 0 (.slice (some ⟨A1, 0, none⟩) 24 c1) ∧ BoxAt W O 1 (.slice (some ⟨A2, 0, none⟩) 24 c2) ∧ n₀ ≤ A1 ∧ n₀ ≤ A2 ∧ A1 ≠ A2 ∧ RowsAt W A1 (Swath.foldM A i) ∧ RowsAt W A2 (Swath.foldU A i))
theorem FoldAt.mv {O n₀ n₁ i : Nat} {A : Nat → List Int} {W V : World} (h : FoldAt O n₀ A i W) (m : Mv n₁ W V) : FoldAt O n₀ A i V := by
 rcases h with ⟨h0, b0, b1⟩ | ⟨h0, A1, A2, c1, c2, b0, b1, l1, l2, ne, r1, r2⟩
 · exact .inl ⟨h0, m.box b0, m.box b1⟩
 · exact .inr ⟨h0, A1, A2, c1, c2, m.box b0, m.box b1, l1, l2, ne, m.rows r1, m.rows r2⟩
theorem fold_first {O n₀ i B g c1 c2 : Nat} {A : Nat → List Int} {W : World} (h : i = 0) (b0 : BoxAt W O 0 (.slice (some ⟨B, 0, none⟩) 24 c1)) (b1 : BoxAt W O 1 (.slice (some ⟨g, 0, none⟩) 24 c2)) (l1 : n₀ ≤ B) (l2 : n₀ ≤ g) (ne : B ≠ g) (r1 : RowsAt W B (A i)) (r2 : RowsAt W g (A i)) : FoldAt O n₀ A (i + 1) W := by
 subst h
 exact .inr ⟨Nat.succ_pos _, B, g, c1, c2, b0, b1, l1, l2, ne, r1, r2⟩
theorem fold_next {O n₀ i A1 A2 c1 c2 : Nat} {A : Nat → List Int} {W : World} (h : 0 < i) (b0 : BoxAt W O 0 (.slice (some ⟨A1, 0, none⟩) 24 c1)) (b1 : BoxAt W O 1 (.slice (some ⟨A2, 0, none⟩) 24 c2)) (l1 : n₀ ≤ A1) (l2 : n₀ ≤ A2) (ne : A1 ≠ A2) (r1 : RowsAt W A1 (Globe.meetL (Swath.foldM A i) (A i))) (r2 : RowsAt W A2 (Globe.unionL (Swath.foldU A i) (A i))) : FoldAt O n₀ A (i + 1) W :=
 .inr ⟨Nat.succ_pos _, A1, A2, c1, c2, b0, b1, l1, l2, ne, by rw [Swath.foldM_succ h]; exact r1, by rw [Swath.foldU_succ h]; exact r2⟩
set_option maxRecDepth 1000000 in
set_option maxHeartbeats 4000000 in
theorem foldS_c {w0 : World} {Bo Bs Bl : Nat} {o : Orb} {s : Int × Int} {lk : Int} (w : World) (hS : StAt w0 Bo Bs Bl o s lk) (e0 : Ext w0 w) (hv : Swath.shB o s lk = true) :
  Calls Try.prog 48 #[.agg #[.int .i64 o.p, .int .i64 o.f, .int .i64 o.lo, .int .i64 o.hi, .int .i64 o.nd, .int .i64 o.tn, .int .i64 o.sl], .func (.func 46) #[] #[.pointer (some ⟨Bo, 0, none⟩), .pointer (some ⟨Bs, 0, none⟩), .pointer (some ⟨Bl, 0, none⟩)], .func (.func 49) #[] #[], .func (.func 47) #[] #[]] w (RetSt w (Swath.sureL o s lk) (Swath.canL o s lk)) := by
 obtain ⟨hok, ⟨sp0, sp1, sp2, sp3⟩, hl0, hl1⟩ := Swath.shB_t.1 hv
 have hq0 := Orb.ok_t.1 hok
 have hN : Swath.lates o = (2 * o.sl + 1).toNat := rfl
 refine icalls_cw 31 [(3, .func (.func 47) #[] #[]), (2, .func (.func 49) #[] #[]), (1, .func (.func 46) #[] #[.pointer (some ⟨Bo, 0, none⟩), .pointer (some ⟨Bs, 0, none⟩), .pointer (some ⟨Bl, 0, none⟩)]), (0, .agg #[.int .i64 o.p, .int .i64 o.f, .int .i64 o.lo, .int .i64 o.hi, .int .i64 o.nd, .int .i64 o.tn, .int .i64 o.sl])] Try.func48 rfl Try.ntmps48 (by kernel_rfl) (by kernel_rfl) (fun L mm => ?_)
 have hE : Ext w w := Ext.refl w
 refine icw_seq ?_
 refine icw_plain ?_
 refine ipl_step rfl (by kernel_rfl) (by kernel_rfl) (by kernel_rfl) (sn_new (us := #[.int .i64 o.p, .int .i64 o.f, .int .i64 o.lo, .int .i64 o.hi, .int .i64 o.nd, .int .i64 o.tn, .int .i64 o.sl]) (t := 24) (by kernel_rfl) ?_)
 intro O1 X2 hzO1 hyO1 hb hbx; have ⟨bO1_0, bO1_1, bO1_2, bO1_3, bO1_4, bO1_5, bO1_6⟩ := bx7 hbx; clear hbx
 replace hE := hE.trans hb; have hs3 := hb.size; clear hb; have lt4 := bO1_0.lt
 refine ipl_step rfl (by kernel_rfl) (by kernel_rfl) (by kernel_rfl) (sn_new (us := #[.func (.func 46) #[] #[.pointer (some ⟨Bo, 0, none⟩), .pointer (some ⟨Bs, 0, none⟩), .pointer (some ⟨Bl, 0, none⟩)]]) (t := 75) (by kernel_rfl) ?_)
 intro O5 X6 hzO5 hyO5 hb hbx; have bO5_0 := bx1 hbx; clear hbx
 replace hE := hE.trans hb; replace bO1_0 := BoxAt.ext hb bO1_0; replace bO1_1 := BoxAt.ext hb bO1_1; replace bO1_2 := BoxAt.ext hb bO1_2; replace bO1_3 := BoxAt.ext hb bO1_3; replace bO1_4 := BoxAt.ext hb bO1_4; replace bO1_5 := BoxAt.ext hb bO1_5; replace bO1_6 := BoxAt.ext hb bO1_6; have hs7 := hb.size; clear hb; have lt8 := bO5_0.lt
 refine ipl_step rfl (by kernel_rfl) (by kernel_rfl) (by kernel_rfl) (sn_new (us := #[.func (.func 49) #[] #[]]) (t := 78) (by kernel_rfl) ?_)
 intro O9 X10 hzO9 hyO9 hb hbx; have bO9_0 := bx1 hbx; clear hbx
 replace hE := hE.trans hb; replace bO1_0 := BoxAt.ext hb bO1_0; replace bO1_1 := BoxAt.ext hb bO1_1; replace bO1_2 := BoxAt.ext hb bO1_2; replace bO1_3 := BoxAt.ext hb bO1_3; replace bO1_4 := BoxAt.ext hb bO1_4; replace bO1_5 := BoxAt.ext hb bO1_5; replace bO1_6 := BoxAt.ext hb bO1_6; replace bO5_0 := BoxAt.ext hb bO5_0; have hs11 := hb.size; clear hb; have lt12 := bO9_0.lt
 refine ipl_step rfl (by kernel_rfl) (by kernel_rfl) (by kernel_rfl) (sn_new (us := #[.func (.func 47) #[] #[]]) (t := 76) (by kernel_rfl) ?_)
 intro O13 X14 hzO13 hyO13 hb hbx; have bO13_0 := bx1 hbx; clear hbx
 replace hE := hE.trans hb; replace bO1_0 := BoxAt.ext hb bO1_0; replace bO1_1 := BoxAt.ext hb bO1_1; replace bO1_2 := BoxAt.ext hb bO1_2; replace bO1_3 := BoxAt.ext hb bO1_3; replace bO1_4 := BoxAt.ext hb bO1_4; replace bO1_5 := BoxAt.ext hb bO1_5; replace bO1_6 := BoxAt.ext hb bO1_6; replace bO5_0 := BoxAt.ext hb bO5_0; replace bO9_0 := BoxAt.ext hb bO9_0; have hs15 := hb.size; clear hb; have lt16 := bO13_0.lt
 refine ipl_step rfl (by kernel_rfl) (by kernel_rfl) (by kernel_rfl) (sn_new (us := #[.slice none 0 0, .slice none 0 0]) (t := 44) (by kernel_rfl) ?_)
 intro O17 X18 hzO17 hyO17 hb hbx; have ⟨bO17_0, bO17_1⟩ := bx2 hbx; clear hbx
 replace hE := hE.trans hb; replace bO1_0 := BoxAt.ext hb bO1_0; replace bO1_1 := BoxAt.ext hb bO1_1; replace bO1_2 := BoxAt.ext hb bO1_2; replace bO1_3 := BoxAt.ext hb bO1_3; replace bO1_4 := BoxAt.ext hb bO1_4; replace bO1_5 := BoxAt.ext hb bO1_5; replace bO1_6 := BoxAt.ext hb bO1_6; replace bO5_0 := BoxAt.ext hb bO5_0; replace bO9_0 := BoxAt.ext hb bO9_0; replace bO13_0 := BoxAt.ext hb bO13_0; have hs19 := hb.size; clear hb; have lt20 := bO17_0.lt
 refine ipl_nil ?_
 refine iqw_then ?_
 refine icw_seq ?_
 refine icw_plain ?_
 refine ipl_step rfl (by kernel_rfl) (by kernel_rfl) (by kernel_rfl) (sn_new (us := #[.slice none 0 0, .slice none 0 0]) (t := 44) (by kernel_rfl) ?_)
 intro O21 X22 hzO21 hyO21 hb hbx; have ⟨bO21_0, bO21_1⟩ := bx2 hbx; clear hbx
 replace hE := hE.trans hb; replace bO1_0 := BoxAt.ext hb bO1_0; replace bO1_1 := BoxAt.ext hb bO1_1; replace bO1_2 := BoxAt.ext hb bO1_2; replace bO1_3 := BoxAt.ext hb bO1_3; replace bO1_4 := BoxAt.ext hb bO1_4; replace bO1_5 := BoxAt.ext hb bO1_5; replace bO1_6 := BoxAt.ext hb bO1_6; replace bO5_0 := BoxAt.ext hb bO5_0; replace bO9_0 := BoxAt.ext hb bO9_0; replace bO13_0 := BoxAt.ext hb bO13_0; replace bO17_0 := BoxAt.ext hb bO17_0; replace bO17_1 := BoxAt.ext hb bO17_1; have hs23 := hb.size; clear hb; have lt24 := bO21_0.lt
 refine ipl_nil ?_
 refine iqw_then ?_
 refine icw_seq ?_
 refine icw_seq ?_
 refine icw_plain ?_
 refine ipl_take (.agg #[.int .i64 o.p, .int .i64 o.f, .int .i64 o.lo, .int .i64 o.hi, .int .i64 o.nd, .int .i64 o.tn, .int .i64 o.sl]) rfl (by kernel_rfl) (by kernel_rfl) (by kernel_rfl) (ex_load rfl (by kernel_rfl) (ld24 (bO1_0.1) (bO1_1.1) (bO1_2.1) (bO1_3.1) (bO1_4.1) (bO1_5.1) (bO1_6.1))) ?_
 refine ipl_step rfl (by kernel_rfl) (by kernel_rfl) (by kernel_rfl) (sn_call (f := 81) (args := #[.agg #[.int .i64 o.p, .int .i64 o.f, .int .i64 o.lo, .int .i64 o.hi, .int .i64 o.nd, .int .i64 o.tn, .int .i64 o.sl]]) (by kernel_rfl) ((delays_c o _).mono ?_))
 rintro e w28 ⟨B25, rfl, hn26, hc27, hb⟩
 replace hE := hE.trans hb; replace bO1_0 := BoxAt.ext hb bO1_0; replace bO1_1 := BoxAt.ext hb bO1_1; replace bO1_2 := BoxAt.ext hb bO1_2; replace bO1_3 := BoxAt.ext hb bO1_3; replace bO1_4 := BoxAt.ext hb bO1_4; replace bO1_5 := BoxAt.ext hb bO1_5; replace bO1_6 := BoxAt.ext hb bO1_6; replace bO5_0 := BoxAt.ext hb bO5_0; replace bO9_0 := BoxAt.ext hb bO9_0; replace bO13_0 := BoxAt.ext hb bO13_0; replace bO17_0 := BoxAt.ext hb bO17_0; replace bO17_1 := BoxAt.ext hb bO17_1; replace bO21_0 := BoxAt.ext hb bO21_0; replace bO21_1 := BoxAt.ext hb bO21_1; have hs29 := hb.size; clear hb
 have lt30 := World.block_lt_of_cell? _ _ hc27
 refine ⟨_, rfl, ?_⟩
 refine ipl_nil ?_
 refine iqw_then ?_
 refine icw_block ?_
 refine icw_range (ps := [14]) (by kernel_rfl) (enters_of Try.func100 (by kernel_rfl) rfl) (delays_seq (X := fun k => k = O21 ∨ w28.heap.size ≤ k) hok (fun h => h.elim (Nat.ne_of_gt (Nat.lt_of_lt_of_le lt24 hn26)) (fun q => absurd (Nat.lt_of_lt_of_le lt30 (Nat.le_refl _)) (Nat.not_lt_of_le q))) hc27) (Ext.refl _) (fun _ => rfl) (by kernel_rfl) (fun i W => w28.heap.size ≤ W.heap.size ∧ Ext w W ∧ BoxAt W O1 0 (.int .i64 o.p) ∧ BoxAt W O1 1 (.int .i64 o.f) ∧ BoxAt W O1 2 (.int .i64 o.lo) ∧ BoxAt W O1 3 (.int .i64 o.hi) ∧ BoxAt W O1 4 (.int .i64 o.nd) ∧ BoxAt W O1 5 (.int .i64 o.tn) ∧ BoxAt W O1 6 (.int .i64 o.sl) ∧ BoxAt W O5 0 (.func (.func 46) #[] #[.pointer (some ⟨Bo, 0, none⟩), .pointer (some ⟨Bs, 0, none⟩), .pointer (some ⟨Bl, 0, none⟩)]) ∧ BoxAt W O9 0 (.func (.func 49) #[] #[]) ∧ BoxAt W O13 0 (.func (.func 47) #[] #[]) ∧ BoxAt W O17 0 (.slice none 0 0) ∧ BoxAt W O17 1 (.slice none 0 0) ∧ W.cell? ⟨B25, 6, none⟩ = some (.int .i64 o.sl) ∧ FoldAt O21 w28.heap.size (Swath.areaJ o s lk) i W) (fun _ _ _ => False) (fun i A B h hm => by obtain ⟨hsz, hE, bO1_0, bO1_1, bO1_2, bO1_3, bO1_4, bO1_5, bO1_6, bO5_0, bO9_0, bO13_0, bO17_0, bO17_1, hc27, hF⟩ := h; exact ⟨T hsz hm.size, hm.ext hE (T hs3 (T hs7 (T hs11 (T hs15 (T hs19 (T hs23 hs29)))))), hm.box bO1_0, hm.box bO1_1, hm.box bO1_2, hm.box bO1_3, hm.box bO1_4, hm.box bO1_5, hm.box bO1_6, hm.box bO5_0, hm.box bO9_0, hm.box bO13_0, hm.box bO17_0, hm.box bO17_1, hm.cell hc27, (hF).mv hm⟩) (fun _ _ _ _ h _ => h.elim) ⟨Nat.le_refl _, hE, bO1_0, bO1_1, bO1_2, bO1_3, bO1_4, bO1_5, bO1_6, bO5_0, bO9_0, bO13_0, bO17_0, bO17_1, hc27, (.inl ⟨rfl, bO21_0, bO21_1⟩)⟩ ?_ ?_ ?_
 ·
  clear bO1_0 bO1_1 bO1_2 bO1_3 bO1_4 bO1_5 bO1_6 bO5_0 bO9_0 bO13_0 bO17_0 bO17_1 bO21_0 bO21_1 hc27 hE
  intro l33 k34 i w31 hii h _
  obtain ⟨hs32, hE, bO1_0, bO1_1, bO1_2, bO1_3, bO1_4, bO1_5, bO1_6, bO5_0, bO9_0, bO13_0, bO17_0, bO17_1, hc27, hF⟩ := h
  refine icw_clean [4, 5, 6, 7, 9, 14] (ws' := [(4, .pointer (some ⟨O1, 0, none⟩)), (5, .pointer (some ⟨O5, 0, none⟩)), (6, .pointer (some ⟨O9, 0, none⟩)), (7, .pointer (some ⟨O13, 0, none⟩)), (9, .pointer (some ⟨O21, 0, none⟩)), (14, .int .i64 (-o.sl + ((i : Nat) : Int) : Int))]) (by kernel_rfl) (fun L => ?_)
  have hrk35 : RK w28.heap.size (fun k => k = O21 ∨ w28.heap.size ≤ k) w31 w31 := RK.refl _ _ _
  refine icw_plain ?_
  refine ipl_take (.int .i64 (-o.sl + ((i : Nat) : Int) : Int)) rfl (by kernel_rfl) (by kernel_rfl) (by kernel_rfl) (by kernel_rfl) ?_
  refine ipl_nil ?_
  refine iqw_asg hrk35 (fun w37 hm36 => ?_)
  replace hE := hm36.ext hE (T hs3 (T hs7 (T hs11 (T hs15 (T hs19 (T hs23 hs29)))))); replace bO1_0 := hm36.box bO1_0; replace bO1_1 := hm36.box bO1_1; replace bO1_2 := hm36.box bO1_2; replace bO1_3 := hm36.box bO1_3; replace bO1_4 := hm36.box bO1_4; replace bO1_5 := hm36.box bO1_5; replace bO1_6 := hm36.box bO1_6; replace bO5_0 := hm36.box bO5_0; replace bO9_0 := hm36.box bO9_0; replace bO13_0 := hm36.box bO13_0; replace bO17_0 := hm36.box bO17_0; replace bO17_1 := hm36.box bO17_1; replace hc27 := hm36.cell hc27; replace hF := (hF).mv hm36; have hs38 := hm36.size
  have hrk39 : RK w28.heap.size (fun k => k = O21 ∨ w28.heap.size ≤ k) w37 w37 := RK.refl _ _ _
  refine icw_block ?_
  refine icw_seq ?_
  have hd9 : Globe.inB (-o.sl + ((i : Nat) : Int)) (-o.sl) o.sl = true := Globe.inB_t.2 ⟨by omega, by omega⟩
  rcases hF with ⟨hi0, z0, z1⟩ | ⟨hi0, A1, A2, c1, c2, z0, z1, la1, la2, na, ra1, ra2⟩
  ·
   refine icw_plain ?_
   refine ipl_take (.func (.func 46) #[] #[.pointer (some ⟨Bo, 0, none⟩), .pointer (some ⟨Bs, 0, none⟩), .pointer (some ⟨Bl, 0, none⟩)]) rfl (by kernel_rfl) (by kernel_rfl) (by kernel_rfl) (ex_load rfl (by kernel_rfl) (ld75 (bO5_0.1))) ?_
   refine ipl_take (.int .i64 (-o.sl + ((i : Nat) : Int) : Int)) rfl (by kernel_rfl) (by kernel_rfl) (by kernel_rfl) (by kernel_rfl) ?_
   refine ipl_step rfl (by kernel_rfl) (by kernel_rfl) (by kernel_rfl) (sn_call (f := 46) (args := #[.int .i64 (-o.sl + ((i : Nat) : Int) : Int), .pointer (some ⟨Bo, 0, none⟩), .pointer (some ⟨Bs, 0, none⟩), .pointer (some ⟨Bl, 0, none⟩)]) (by kernel_rfl) ((value_c (-o.sl + ((i : Nat) : Int)) _ hS (e0.trans hE) hv hd9).mono ?_))
   rintro e w49 ⟨B40, g41, k42, k43, rfl, hn44, hn45, hne46, hr47, hr48, hb⟩
   replace hE := hE.trans hb; replace bO1_0 := BoxAt.ext hb bO1_0; replace bO1_1 := BoxAt.ext hb bO1_1; replace bO1_2 := BoxAt.ext hb bO1_2; replace bO1_3 := BoxAt.ext hb bO1_3; replace bO1_4 := BoxAt.ext hb bO1_4; replace bO1_5 := BoxAt.ext hb bO1_5; replace bO1_6 := BoxAt.ext hb bO1_6; replace bO5_0 := BoxAt.ext hb bO5_0; replace bO9_0 := BoxAt.ext hb bO9_0; replace bO13_0 := BoxAt.ext hb bO13_0; replace bO17_0 := BoxAt.ext hb bO17_0; replace bO17_1 := BoxAt.ext hb bO17_1; replace hc27 := hb.cell hc27; replace hrk39 := hrk39.ext hb; replace z0 := BoxAt.ext hb z0; replace z1 := BoxAt.ext hb z1; have hs50 := hb.size; clear hb; have lt51 := hr47.lt; have lt52 := hr48.lt
   have hne46h := Lib.hid hne46
   refine ⟨_, rfl, ?_⟩
   refine ipl_step rfl (by kernel_rfl) (by kernel_rfl) (by kernel_rfl) (sn_new (us := #[.slice none 0 0, .slice none 0 0]) (t := 44) (by kernel_rfl) ?_)
   intro O53 X54 hzO53 hyO53 hb hbx; have ⟨bO53_0, bO53_1⟩ := bx2 hbx; clear hbx
   replace hE := hE.trans hb; replace bO1_0 := BoxAt.ext hb bO1_0; replace bO1_1 := BoxAt.ext hb bO1_1; replace bO1_2 := BoxAt.ext hb bO1_2; replace bO1_3 := BoxAt.ext hb bO1_3; replace bO1_4 := BoxAt.ext hb bO1_4; replace bO1_5 := BoxAt.ext hb bO1_5; replace bO1_6 := BoxAt.ext hb bO1_6; replace bO5_0 := BoxAt.ext hb bO5_0; replace bO9_0 := BoxAt.ext hb bO9_0; replace bO13_0 := BoxAt.ext hb bO13_0; replace bO17_0 := BoxAt.ext hb bO17_0; replace bO17_1 := BoxAt.ext hb bO17_1; replace hc27 := hb.cell hc27; replace hrk39 := hrk39.ext hb; replace z0 := BoxAt.ext hb z0; replace z1 := BoxAt.ext hb z1; replace hr47 := hr47.ext hb; replace hr48 := hr48.ext hb; have hs55 := hb.size; clear hb; have lt56 := bO53_0.lt
   refine ipl_put rfl (by kernel_rfl) (by kernel_rfl) (sn_set2 (O := O53) (j := 0) (v := .slice (some ⟨B40, 0, none⟩) 24 k42) (v' := .slice (some ⟨g41, 0, none⟩) 24 k43) (ex_store (p := .pointer (some ⟨O53, 0, none⟩)) (v := .agg #[.slice (some ⟨B40, 0, none⟩) 24 k42, .slice (some ⟨g41, 0, none⟩) 24 k43]) rfl (by kernel_rfl) (by kernel_rfl) (st44 bO53_0.1 bO53_0.2 bO53_1.1 bO53_1.2)) bO53_0 bO53_1 ?_)
   intro X57 ho hv0 hv1 hk; replace hE := ho.ext hE (T (T hs3 (T hs7 (T hs11 (T hs15 (T hs19 (T hs23 (T hs29 (T hs32 (T hs38 hs50))))))))) (Nat.le_of_eq hzO53))
   have q9 := fun (j : Nat) (v : Value) (h : BoxAt _ O1 j v) => ho.box (Nat.ne_of_gt (Nat.lt_of_lt_of_le lt4 (T (T hs7 (T hs11 (T hs15 (T hs19 (T hs23 (T hs29 (T hs32 (T hs38 hs50)))))))) (Nat.le_of_eq hzO53)))) h
   replace bO1_0 := q9 _ _ bO1_0; replace bO1_1 := q9 _ _ bO1_1; replace bO1_2 := q9 _ _ bO1_2; replace bO1_3 := q9 _ _ bO1_3; replace bO1_4 := q9 _ _ bO1_4; replace bO1_5 := q9 _ _ bO1_5; replace bO1_6 := q9 _ _ bO1_6; clear q9; replace bO5_0 := ho.box (Nat.ne_of_gt (Nat.lt_of_lt_of_le lt8 (T (T hs11 (T hs15 (T hs19 (T hs23 (T hs29 (T hs32 (T hs38 hs50))))))) (Nat.le_of_eq hzO53)))) bO5_0; replace bO9_0 := ho.box (Nat.ne_of_gt (Nat.lt_of_lt_of_le lt12 (T (T hs15 (T hs19 (T hs23 (T hs29 (T hs32 (T hs38 hs50)))))) (Nat.le_of_eq hzO53)))) bO9_0; replace bO13_0 := ho.box (Nat.ne_of_gt (Nat.lt_of_lt_of_le lt16 (T (T hs19 (T hs23 (T hs29 (T hs32 (T hs38 hs50))))) (Nat.le_of_eq hzO53)))) bO13_0
   have q9 := fun (j : Nat) (v : Value) (h : BoxAt _ O17 j v) => ho.box (Nat.ne_of_gt (Nat.lt_of_lt_of_le lt20 (T (T hs23 (T hs29 (T hs32 (T hs38 hs50)))) (Nat.le_of_eq hzO53)))) h
   replace bO17_0 := q9 _ _ bO17_0; replace bO17_1 := q9 _ _ bO17_1; clear q9; replace hc27 := ho.cell (Nat.ne_of_gt (Nat.lt_of_lt_of_le lt30 (T (T hs32 (T hs38 hs50)) (Nat.le_of_eq hzO53)))) hc27; replace hrk39 := hrk39.turn ho (.inr (T hs50 (Nat.le_of_eq hzO53))); replace z0 := ho.box (Nat.ne_of_gt (Nat.lt_of_lt_of_le lt24 (T (T hs29 (T hs32 (T hs38 hs50))) (Nat.le_of_eq hzO53)))) z0; replace z1 := ho.box (Nat.ne_of_gt (Nat.lt_of_lt_of_le lt24 (T (T hs29 (T hs32 (T hs38 hs50))) (Nat.le_of_eq hzO53)))) z1; replace hr47 := ho.rows (Nat.ne_of_gt (Nat.lt_of_lt_of_le lt51 (Nat.le_of_eq hzO53))) hr47; replace hr48 := ho.rows (Nat.ne_of_gt (Nat.lt_of_lt_of_le lt52 (Nat.le_of_eq hzO53))) hr48; have hs58 : X54.heap.size ≤ X57.heap.size := Nat.le_of_eq ho.size.symm; clear ho hk bO53_0 bO53_1; have bO53_0 := hv0; clear hv0; have bO53_1 := hv1; clear hv1
   refine ipl_nil ?_
   refine iqw_then ?_
   refine icw_seq ?_
   refine icw_plain ?_
   refine ipl_take (.int .i64 (-o.sl + ((i : Nat) : Int) : Int)) rfl (by kernel_rfl) (by kernel_rfl) (by kernel_rfl) (by kernel_rfl) ?_
   refine ipl_take (.pointer (some ⟨O1, 6, none⟩)) rfl (by kernel_rfl) (by kernel_rfl) (by kernel_rfl) (by kernel_rfl) ?_
   refine ipl_take (.int .i64 o.sl) rfl (by kernel_rfl) (by kernel_rfl) (by kernel_rfl) (ex_load rfl (by kernel_rfl) (ld3 (bO1_6.1))) ?_
   refine ipl_take (.int .i64 (-o.sl : Int)) rfl (by kernel_rfl) (by kernel_rfl) (by kernel_rfl) (ev_int (ev_wrap (a := 0 - o.sl) (by kernel_rfl) (by omega) (by omega)) (by omega)) ?_
   refine ipl_take (.bool true) rfl (by kernel_rfl) (by kernel_rfl) (by kernel_rfl) (ev_eq (show _ = Result.ok (Next.value (Value.bool ((-o.sl + ((i : Nat) : Int) : Int) == (-o.sl : Int)))) _ from by kernel_rfl) (by omega)) ?_
   refine ipl_nil ?_
   refine iqw_then ?_
   refine icw_clean [6, 7, 9, 11, 22] (ws' := [(6, .pointer (some ⟨O9, 0, none⟩)), (7, .pointer (some ⟨O13, 0, none⟩)), (9, .pointer (some ⟨O21, 0, none⟩)), (11, .pointer (some ⟨O53, 0, none⟩)), (22, .bool true)]) (by kernel_rfl) (fun L => ?_)
   refine icw_t (by kernel_rfl) ?_
   refine icw_plain ?_
   refine ipl_take (.func (.func 49) #[] #[]) rfl (by kernel_rfl) (by kernel_rfl) (by kernel_rfl) (ex_load rfl (by kernel_rfl) (ld78 (bO9_0.1))) ?_
   refine ipl_take (.agg #[.slice (some ⟨B40, 0, none⟩) 24 k42, .slice (some ⟨g41, 0, none⟩) 24 k43]) rfl (by kernel_rfl) (by kernel_rfl) (by kernel_rfl) (ex_load rfl (by kernel_rfl) (ld44 (bO53_0.1) (bO53_1.1))) ?_
   refine ipl_step rfl (by kernel_rfl) (by kernel_rfl) (by kernel_rfl) (sn_call (f := 49) (args := #[.agg #[.slice (some ⟨B40, 0, none⟩) 24 k42, .slice (some ⟨g41, 0, none⟩) 24 k43]]) (by kernel_rfl) ((first_c _).mono ?_))
   rintro e w59 ⟨rfl, hb⟩
   replace hE := hE.trans hb; replace bO1_0 := BoxAt.ext hb bO1_0; replace bO1_1 := BoxAt.ext hb bO1_1; replace bO1_2 := BoxAt.ext hb bO1_2; replace bO1_3 := BoxAt.ext hb bO1_3; replace bO1_4 := BoxAt.ext hb bO1_4; replace bO1_5 := BoxAt.ext hb bO1_5; replace bO1_6 := BoxAt.ext hb bO1_6; replace bO5_0 := BoxAt.ext hb bO5_0; replace bO9_0 := BoxAt.ext hb bO9_0; replace bO13_0 := BoxAt.ext hb bO13_0; replace bO17_0 := BoxAt.ext hb bO17_0; replace bO17_1 := BoxAt.ext hb bO17_1; replace hc27 := hb.cell hc27; replace hrk39 := hrk39.ext hb; replace z0 := BoxAt.ext hb z0; replace z1 := BoxAt.ext hb z1; replace hr47 := hr47.ext hb; replace hr48 := hr48.ext hb; replace bO53_0 := BoxAt.ext hb bO53_0; replace bO53_1 := BoxAt.ext hb bO53_1; have hs60 := hb.size; clear hb
   refine ⟨_, rfl, ?_⟩
   refine ipl_put rfl (by kernel_rfl) (by kernel_rfl) (sn_set2 (O := O21) (j := 0) (v := .slice (some ⟨B40, 0, none⟩) 24 k42) (v' := .slice (some ⟨g41, 0, none⟩) 24 k43) (ex_store (p := .pointer (some ⟨O21, 0, none⟩)) (v := .agg #[.slice (some ⟨B40, 0, none⟩) 24 k42, .slice (some ⟨g41, 0, none⟩) 24 k43]) rfl (by kernel_rfl) (by kernel_rfl) (st44 z0.1 z0.2 z1.1 z1.2)) z0 z1 ?_)
   intro X61 ho hv0 hv1 hk; replace hE := ho.ext hE (T (T hs3 (T hs7 (T hs11 (T hs15 hs19)))) (Nat.le_of_eq hzO21))
   have q9 := fun (j : Nat) (v : Value) (h : BoxAt _ O1 j v) => ho.box (Nat.ne_of_gt (Nat.lt_of_lt_of_le lt4 (T (T hs7 (T hs11 (T hs15 hs19))) (Nat.le_of_eq hzO21)))) h
   replace bO1_0 := q9 _ _ bO1_0; replace bO1_1 := q9 _ _ bO1_1; replace bO1_2 := q9 _ _ bO1_2; replace bO1_3 := q9 _ _ bO1_3; replace bO1_4 := q9 _ _ bO1_4; replace bO1_5 := q9 _ _ bO1_5; replace bO1_6 := q9 _ _ bO1_6; clear q9; replace bO5_0 := ho.box (Nat.ne_of_gt (Nat.lt_of_lt_of_le lt8 (T (T hs11 (T hs15 hs19)) (Nat.le_of_eq hzO21)))) bO5_0; replace bO9_0 := ho.box (Nat.ne_of_gt (Nat.lt_of_lt_of_le lt12 (T (T hs15 hs19) (Nat.le_of_eq hzO21)))) bO9_0; replace bO13_0 := ho.box (Nat.ne_of_gt (Nat.lt_of_lt_of_le lt16 (T hs19 (Nat.le_of_eq hzO21)))) bO13_0
   have q9 := fun (j : Nat) (v : Value) (h : BoxAt _ O17 j v) => ho.box (Nat.ne_of_gt (Nat.lt_of_lt_of_le lt20 (Nat.le_of_eq hzO21))) h
   replace bO17_0 := q9 _ _ bO17_0; replace bO17_1 := q9 _ _ bO17_1; clear q9; replace hc27 := ho.cell (Nat.ne_of_lt (Nat.lt_of_lt_of_le lt24 hn26)) hc27; replace hrk39 := hrk39.turn ho (.inl (.inl rfl)); replace hr47 := ho.rows (Nat.ne_of_lt (Nat.lt_of_lt_of_le lt24 (T (T hs29 (T hs32 hs38)) hn44))) hr47; replace hr48 := ho.rows (Nat.ne_of_lt (Nat.lt_of_lt_of_le lt24 (T (T hs29 (T hs32 hs38)) hn45))) hr48
   have q9 := fun (j : Nat) (v : Value) (h : BoxAt _ O53 j v) => ho.box (Nat.ne_of_lt (Nat.lt_of_lt_of_le lt24 (T (T hs29 (T hs32 (T hs38 hs50))) (Nat.le_of_eq hzO53)))) h
   replace bO53_0 := q9 _ _ bO53_0; replace bO53_1 := q9 _ _ bO53_1; clear q9; have hs62 : w59.heap.size ≤ X61.heap.size := Nat.le_of_eq ho.size.symm; clear ho hk z0 z1; have z0 := hv0; clear hv0; have z1 := hv1; clear hv1
   refine ipl_nil ?_
   refine iqw_block ?_
   exact iqw_next hrk39 ⟨(T hs32 (T hs38 (T hs50 (T hs55 (T hs58 (T hs60 hs62)))))), hE, bO1_0, bO1_1, bO1_2, bO1_3, bO1_4, bO1_5, bO1_6, bO5_0, bO9_0, bO13_0, bO17_0, bO17_1, hc27, (fold_first hi0 z0 z1 (T (T hs32 hs38) hn44) (T (T hs32 hs38) hn45) hne46h.out hr47 hr48)⟩
  ·
   have na9 := Lib.hid na
   have lt63 := ra1.lt; have lt64 := ra2.lt
   refine icw_plain ?_
   refine ipl_take (.func (.func 46) #[] #[.pointer (some ⟨Bo, 0, none⟩), .pointer (some ⟨Bs, 0, none⟩), .pointer (some ⟨Bl, 0, none⟩)]) rfl (by kernel_rfl) (by kernel_rfl) (by kernel_rfl) (ex_load rfl (by kernel_rfl) (ld75 (bO5_0.1))) ?_
   refine ipl_take (.int .i64 (-o.sl + ((i : Nat) : Int) : Int)) rfl (by kernel_rfl) (by kernel_rfl) (by kernel_rfl) (by kernel_rfl) ?_
   refine ipl_step rfl (by kernel_rfl) (by kernel_rfl) (by kernel_rfl) (sn_call (f := 46) (args := #[.int .i64 (-o.sl + ((i : Nat) : Int) : Int), .pointer (some ⟨Bo, 0, none⟩), .pointer (some ⟨Bs, 0, none⟩), .pointer (some ⟨Bl, 0, none⟩)]) (by kernel_rfl) ((value_c (-o.sl + ((i : Nat) : Int)) _ hS (e0.trans hE) hv hd9).mono ?_))
   rintro e w74 ⟨B65, g66, k67, k68, rfl, hn69, hn70, hne71, hr72, hr73, hb⟩
   replace hE := hE.trans hb; replace bO1_0 := BoxAt.ext hb bO1_0; replace bO1_1 := BoxAt.ext hb bO1_1; replace bO1_2 := BoxAt.ext hb bO1_2; replace bO1_3 := BoxAt.ext hb bO1_3; replace bO1_4 := BoxAt.ext hb bO1_4; replace bO1_5 := BoxAt.ext hb bO1_5; replace bO1_6 := BoxAt.ext hb bO1_6; replace bO5_0 := BoxAt.ext hb bO5_0; replace bO9_0 := BoxAt.ext hb bO9_0; replace bO13_0 := BoxAt.ext hb bO13_0; replace bO17_0 := BoxAt.ext hb bO17_0; replace bO17_1 := BoxAt.ext hb bO17_1; replace hc27 := hb.cell hc27; replace hrk39 := hrk39.ext hb; replace z0 := BoxAt.ext hb z0; replace z1 := BoxAt.ext hb z1; replace ra1 := ra1.ext hb; replace ra2 := ra2.ext hb; have hs75 := hb.size; clear hb; have lt76 := hr72.lt; have lt77 := hr73.lt
   have hne71h := Lib.hid hne71
   refine ⟨_, rfl, ?_⟩
   refine ipl_step rfl (by kernel_rfl) (by kernel_rfl) (by kernel_rfl) (sn_new (us := #[.slice none 0 0, .slice none 0 0]) (t := 44) (by kernel_rfl) ?_)
   intro O78 X79 hzO78 hyO78 hb hbx; have ⟨bO78_0, bO78_1⟩ := bx2 hbx; clear hbx
   replace hE := hE.trans hb; replace bO1_0 := BoxAt.ext hb bO1_0; replace bO1_1 := BoxAt.ext hb bO1_1; replace bO1_2 := BoxAt.ext hb bO1_2; replace bO1_3 := BoxAt.ext hb bO1_3; replace bO1_4 := BoxAt.ext hb bO1_4; replace bO1_5 := BoxAt.ext hb bO1_5; replace bO1_6 := BoxAt.ext hb bO1_6; replace bO5_0 := BoxAt.ext hb bO5_0; replace bO9_0 := BoxAt.ext hb bO9_0; replace bO13_0 := BoxAt.ext hb bO13_0; replace bO17_0 := BoxAt.ext hb bO17_0; replace bO17_1 := BoxAt.ext hb bO17_1; replace hc27 := hb.cell hc27; replace hrk39 := hrk39.ext hb; replace z0 := BoxAt.ext hb z0; replace z1 := BoxAt.ext hb z1; replace ra1 := ra1.ext hb; replace ra2 := ra2.ext hb; replace hr72 := hr72.ext hb; replace hr73 := hr73.ext hb; have hs80 := hb.size; clear hb; have lt81 := bO78_0.lt
   refine ipl_put rfl (by kernel_rfl) (by kernel_rfl) (sn_set2 (O := O78) (j := 0) (v := .slice (some ⟨B65, 0, none⟩) 24 k67) (v' := .slice (some ⟨g66, 0, none⟩) 24 k68) (ex_store (p := .pointer (some ⟨O78, 0, none⟩)) (v := .agg #[.slice (some ⟨B65, 0, none⟩) 24 k67, .slice (some ⟨g66, 0, none⟩) 24 k68]) rfl (by kernel_rfl) (by kernel_rfl) (st44 bO78_0.1 bO78_0.2 bO78_1.1 bO78_1.2)) bO78_0 bO78_1 ?_)
   intro X82 ho hv0 hv1 hk; replace hE := ho.ext hE (T (T hs3 (T hs7 (T hs11 (T hs15 (T hs19 (T hs23 (T hs29 (T hs32 (T hs38 hs75))))))))) (Nat.le_of_eq hzO78))
   have q9 := fun (j : Nat) (v : Value) (h : BoxAt _ O1 j v) => ho.box (Nat.ne_of_gt (Nat.lt_of_lt_of_le lt4 (T (T hs7 (T hs11 (T hs15 (T hs19 (T hs23 (T hs29 (T hs32 (T hs38 hs75)))))))) (Nat.le_of_eq hzO78)))) h
   replace bO1_0 := q9 _ _ bO1_0; replace bO1_1 := q9 _ _ bO1_1; replace bO1_2 := q9 _ _ bO1_2; replace bO1_3 := q9 _ _ bO1_3; replace bO1_4 := q9 _ _ bO1_4; replace bO1_5 := q9 _ _ bO1_5; replace bO1_6 := q9 _ _ bO1_6; clear q9; replace bO5_0 := ho.box (Nat.ne_of_gt (Nat.lt_of_lt_of_le lt8 (T (T hs11 (T hs15 (T hs19 (T hs23 (T hs29 (T hs32 (T hs38 hs75))))))) (Nat.le_of_eq hzO78)))) bO5_0; replace bO9_0 := ho.box (Nat.ne_of_gt (Nat.lt_of_lt_of_le lt12 (T (T hs15 (T hs19 (T hs23 (T hs29 (T hs32 (T hs38 hs75)))))) (Nat.le_of_eq hzO78)))) bO9_0; replace bO13_0 := ho.box (Nat.ne_of_gt (Nat.lt_of_lt_of_le lt16 (T (T hs19 (T hs23 (T hs29 (T hs32 (T hs38 hs75))))) (Nat.le_of_eq hzO78)))) bO13_0
   have q9 := fun (j : Nat) (v : Value) (h : BoxAt _ O17 j v) => ho.box (Nat.ne_of_gt (Nat.lt_of_lt_of_le lt20 (T (T hs23 (T hs29 (T hs32 (T hs38 hs75)))) (Nat.le_of_eq hzO78)))) h
   replace bO17_0 := q9 _ _ bO17_0; replace bO17_1 := q9 _ _ bO17_1; clear q9; replace hc27 := ho.cell (Nat.ne_of_gt (Nat.lt_of_lt_of_le lt30 (T (T hs32 (T hs38 hs75)) (Nat.le_of_eq hzO78)))) hc27; replace hrk39 := hrk39.turn ho (.inr (T hs75 (Nat.le_of_eq hzO78))); replace z0 := ho.box (Nat.ne_of_gt (Nat.lt_of_lt_of_le lt24 (T (T hs29 (T hs32 (T hs38 hs75))) (Nat.le_of_eq hzO78)))) z0; replace z1 := ho.box (Nat.ne_of_gt (Nat.lt_of_lt_of_le lt24 (T (T hs29 (T hs32 (T hs38 hs75))) (Nat.le_of_eq hzO78)))) z1; replace ra1 := ho.rows (Nat.ne_of_gt (Nat.lt_of_lt_of_le lt63 (T hs75 (Nat.le_of_eq hzO78)))) ra1; replace ra2 := ho.rows (Nat.ne_of_gt (Nat.lt_of_lt_of_le lt64 (T hs75 (Nat.le_of_eq hzO78)))) ra2; replace hr72 := ho.rows (Nat.ne_of_gt (Nat.lt_of_lt_of_le lt76 (Nat.le_of_eq hzO78))) hr72; replace hr73 := ho.rows (Nat.ne_of_gt (Nat.lt_of_lt_of_le lt77 (Nat.le_of_eq hzO78))) hr73; have hs83 : X79.heap.size ≤ X82.heap.size := Nat.le_of_eq ho.size.symm; clear ho hk bO78_0 bO78_1; have bO78_0 := hv0; clear hv0; have bO78_1 := hv1; clear hv1
   refine ipl_nil ?_
   refine iqw_then ?_
   refine icw_seq ?_
   refine icw_plain ?_
   refine ipl_take (.int .i64 (-o.sl + ((i : Nat) : Int) : Int)) rfl (by kernel_rfl) (by kernel_rfl) (by kernel_rfl) (by kernel_rfl) ?_
   refine ipl_take (.pointer (some ⟨O1, 6, none⟩)) rfl (by kernel_rfl) (by kernel_rfl) (by kernel_rfl) (by kernel_rfl) ?_
   refine ipl_take (.int .i64 o.sl) rfl (by kernel_rfl) (by kernel_rfl) (by kernel_rfl) (ex_load rfl (by kernel_rfl) (ld3 (bO1_6.1))) ?_
   refine ipl_take (.int .i64 (-o.sl : Int)) rfl (by kernel_rfl) (by kernel_rfl) (by kernel_rfl) (ev_int (ev_wrap (a := 0 - o.sl) (by kernel_rfl) (by omega) (by omega)) (by omega)) ?_
   refine ipl_take (.bool false) rfl (by kernel_rfl) (by kernel_rfl) (by kernel_rfl) (ev_neq (show _ = Result.ok (Next.value (Value.bool ((-o.sl + ((i : Nat) : Int) : Int) == (-o.sl : Int)))) _ from by kernel_rfl) (by omega)) ?_
   refine ipl_nil ?_
   refine iqw_then ?_
   refine icw_clean [6, 7, 9, 11, 22] (ws' := [(6, .pointer (some ⟨O9, 0, none⟩)), (7, .pointer (some ⟨O13, 0, none⟩)), (9, .pointer (some ⟨O21, 0, none⟩)), (11, .pointer (some ⟨O78, 0, none⟩)), (22, .bool false)]) (by kernel_rfl) (fun L => ?_)
   refine icw_f (by kernel_rfl) ?_
   refine icw_plain ?_
   refine ipl_take (.func (.func 47) #[] #[]) rfl (by kernel_rfl) (by kernel_rfl) (by kernel_rfl) (ex_load rfl (by kernel_rfl) (ld76 (bO13_0.1))) ?_
   refine ipl_take (.agg #[.slice (some ⟨A1, 0, none⟩) 24 c1, .slice (some ⟨A2, 0, none⟩) 24 c2]) rfl (by kernel_rfl) (by kernel_rfl) (by kernel_rfl) (ex_load rfl (by kernel_rfl) (ld44 (z0.1) (z1.1))) ?_
   refine ipl_take (.agg #[.slice (some ⟨B65, 0, none⟩) 24 k67, .slice (some ⟨g66, 0, none⟩) 24 k68]) rfl (by kernel_rfl) (by kernel_rfl) (by kernel_rfl) (ex_load rfl (by kernel_rfl) (ld44 (bO78_0.1) (bO78_1.1))) ?_
   refine ipl_step rfl (by kernel_rfl) (by kernel_rfl) (by kernel_rfl) (sn_call (f := 47) (args := #[.agg #[.slice (some ⟨A1, 0, none⟩) 24 c1, .slice (some ⟨A2, 0, none⟩) 24 c2], .agg #[.slice (some ⟨B65, 0, none⟩) 24 k67, .slice (some ⟨g66, 0, none⟩) 24 k68]]) (by kernel_rfl) ((both_c _ ra1 (Swath.foldM_valid (Swath.areaJ_valid hok s lk) i) ra2 (Swath.foldU_valid (Swath.areaJ_valid hok s lk) i) (RowsAt.va (L := Swath.areaJ o s lk i) hr72 (Swath.areaJ_valid hok s lk i)) (RowsAt.va (L := Swath.areaJ o s lk i) hr73 (Swath.areaJ_valid hok s lk i)) na9.out (Nat.ne_of_lt (Nat.lt_of_lt_of_le lt63 hn69)) (Nat.ne_of_lt (Nat.lt_of_lt_of_le lt63 hn70)) (Nat.ne_of_lt (Nat.lt_of_lt_of_le lt64 hn69)) (Nat.ne_of_lt (Nat.lt_of_lt_of_le lt64 hn70))).mono ?_))
   rintro e w87 ⟨rfl, hr84, hr85, hw86⟩
   replace hE := hw86.ext hE (fun k hk => hk.elim (fun e => e ▸ (T (T hs3 (T hs7 (T hs11 (T hs15 (T hs19 (T hs23 hs29)))))) la1)) (fun e => e ▸ (T (T hs3 (T hs7 (T hs11 (T hs15 (T hs19 (T hs23 hs29)))))) la2)))
   have q9 := fun (j : Nat) (v : Value) (h : BoxAt _ O1 j v) => hw86.box (fun hx => hx.elim (Nat.ne_of_lt (Nat.lt_of_lt_of_le lt4 (T (T hs7 (T hs11 (T hs15 (T hs19 (T hs23 hs29))))) la1))) (Nat.ne_of_lt (Nat.lt_of_lt_of_le lt4 (T (T hs7 (T hs11 (T hs15 (T hs19 (T hs23 hs29))))) la2)))) h
   replace bO1_0 := q9 _ _ bO1_0; replace bO1_1 := q9 _ _ bO1_1; replace bO1_2 := q9 _ _ bO1_2; replace bO1_3 := q9 _ _ bO1_3; replace bO1_4 := q9 _ _ bO1_4; replace bO1_5 := q9 _ _ bO1_5; replace bO1_6 := q9 _ _ bO1_6; clear q9; replace bO5_0 := hw86.box (fun hx => hx.elim (Nat.ne_of_lt (Nat.lt_of_lt_of_le lt8 (T (T hs11 (T hs15 (T hs19 (T hs23 hs29)))) la1))) (Nat.ne_of_lt (Nat.lt_of_lt_of_le lt8 (T (T hs11 (T hs15 (T hs19 (T hs23 hs29)))) la2)))) bO5_0; replace bO9_0 := hw86.box (fun hx => hx.elim (Nat.ne_of_lt (Nat.lt_of_lt_of_le lt12 (T (T hs15 (T hs19 (T hs23 hs29))) la1))) (Nat.ne_of_lt (Nat.lt_of_lt_of_le lt12 (T (T hs15 (T hs19 (T hs23 hs29))) la2)))) bO9_0; replace bO13_0 := hw86.box (fun hx => hx.elim (Nat.ne_of_lt (Nat.lt_of_lt_of_le lt16 (T (T hs19 (T hs23 hs29)) la1))) (Nat.ne_of_lt (Nat.lt_of_lt_of_le lt16 (T (T hs19 (T hs23 hs29)) la2)))) bO13_0
   have q9 := fun (j : Nat) (v : Value) (h : BoxAt _ O17 j v) => hw86.box (fun hx => hx.elim (Nat.ne_of_lt (Nat.lt_of_lt_of_le lt20 (T (T hs23 hs29) la1))) (Nat.ne_of_lt (Nat.lt_of_lt_of_le lt20 (T (T hs23 hs29) la2)))) h
   replace bO17_0 := q9 _ _ bO17_0; replace bO17_1 := q9 _ _ bO17_1; clear q9; replace hc27 := hw86.cell (fun hx => hx.elim (Nat.ne_of_lt (Nat.lt_of_lt_of_le lt30 la1)) (Nat.ne_of_lt (Nat.lt_of_lt_of_le lt30 la2))) hc27; replace hrk39 := hrk39.wrote hw86 (fun k hk => hk.elim (fun e => e ▸ (.inl (.inr la1))) (fun e => e ▸ (.inl (.inr la2)))); replace z0 := hw86.box (fun hx => hx.elim (Nat.ne_of_lt (Nat.lt_of_lt_of_le lt24 (T hs29 la1))) (Nat.ne_of_lt (Nat.lt_of_lt_of_le lt24 (T hs29 la2)))) z0; replace z1 := hw86.box (fun hx => hx.elim (Nat.ne_of_lt (Nat.lt_of_lt_of_le lt24 (T hs29 la1))) (Nat.ne_of_lt (Nat.lt_of_lt_of_le lt24 (T hs29 la2)))) z1; replace hr72 := hw86.rows (fun hx => hx.elim (Nat.ne_of_gt (Nat.lt_of_lt_of_le lt63 hn69)) (Nat.ne_of_gt (Nat.lt_of_lt_of_le lt64 hn69))) hr72; replace hr73 := hw86.rows (fun hx => hx.elim (Nat.ne_of_gt (Nat.lt_of_lt_of_le lt63 hn70)) (Nat.ne_of_gt (Nat.lt_of_lt_of_le lt64 hn70))) hr73
   have q9 := fun (j : Nat) (v : Value) (h : BoxAt _ O78 j v) => hw86.box (fun hx => hx.elim (Nat.ne_of_gt (Nat.lt_of_lt_of_le lt63 (T hs75 (Nat.le_of_eq hzO78)))) (Nat.ne_of_gt (Nat.lt_of_lt_of_le lt64 (T hs75 (Nat.le_of_eq hzO78))))) h
   replace bO78_0 := q9 _ _ bO78_0; replace bO78_1 := q9 _ _ bO78_1; clear q9; have hs88 := hw86.size; have lt89 := hr84.lt; have lt90 := hr85.lt
   refine ⟨_, rfl, ?_⟩
   refine ipl_put rfl (by kernel_rfl) (by kernel_rfl) (sn_set2 (O := O21) (j := 0) (v := .slice (some ⟨A1, 0, none⟩) 24 c1) (v' := .slice (some ⟨A2, 0, none⟩) 24 c2) (ex_store (p := .pointer (some ⟨O21, 0, none⟩)) (v := .agg #[.slice (some ⟨A1, 0, none⟩) 24 c1, .slice (some ⟨A2, 0, none⟩) 24 c2]) rfl (by kernel_rfl) (by kernel_rfl) (st44 z0.1 z0.2 z1.1 z1.2)) z0 z1 ?_)
   intro X91 ho hv0 hv1 hk; replace hE := ho.ext hE (T (T hs3 (T hs7 (T hs11 (T hs15 hs19)))) (Nat.le_of_eq hzO21))
   have q9 := fun (j : Nat) (v : Value) (h : BoxAt _ O1 j v) => ho.box (Nat.ne_of_gt (Nat.lt_of_lt_of_le lt4 (T (T hs7 (T hs11 (T hs15 hs19))) (Nat.le_of_eq hzO21)))) h
   replace bO1_0 := q9 _ _ bO1_0; replace bO1_1 := q9 _ _ bO1_1; replace bO1_2 := q9 _ _ bO1_2; replace bO1_3 := q9 _ _ bO1_3; replace bO1_4 := q9 _ _ bO1_4; replace bO1_5 := q9 _ _ bO1_5; replace bO1_6 := q9 _ _ bO1_6; clear q9; replace bO5_0 := ho.box (Nat.ne_of_gt (Nat.lt_of_lt_of_le lt8 (T (T hs11 (T hs15 hs19)) (Nat.le_of_eq hzO21)))) bO5_0; replace bO9_0 := ho.box (Nat.ne_of_gt (Nat.lt_of_lt_of_le lt12 (T (T hs15 hs19) (Nat.le_of_eq hzO21)))) bO9_0; replace bO13_0 := ho.box (Nat.ne_of_gt (Nat.lt_of_lt_of_le lt16 (T hs19 (Nat.le_of_eq hzO21)))) bO13_0
   have q9 := fun (j : Nat) (v : Value) (h : BoxAt _ O17 j v) => ho.box (Nat.ne_of_gt (Nat.lt_of_lt_of_le lt20 (Nat.le_of_eq hzO21))) h
   replace bO17_0 := q9 _ _ bO17_0; replace bO17_1 := q9 _ _ bO17_1; clear q9; replace hc27 := ho.cell (Nat.ne_of_lt (Nat.lt_of_lt_of_le lt24 hn26)) hc27; replace hrk39 := hrk39.turn ho (.inl (.inl rfl)); replace hr72 := ho.rows (Nat.ne_of_lt (Nat.lt_of_lt_of_le lt24 (T (T hs29 (T hs32 hs38)) hn69))) hr72; replace hr73 := ho.rows (Nat.ne_of_lt (Nat.lt_of_lt_of_le lt24 (T (T hs29 (T hs32 hs38)) hn70))) hr73
   have q9 := fun (j : Nat) (v : Value) (h : BoxAt _ O78 j v) => ho.box (Nat.ne_of_lt (Nat.lt_of_lt_of_le lt24 (T (T hs29 (T hs32 (T hs38 hs75))) (Nat.le_of_eq hzO78)))) h
   replace bO78_0 := q9 _ _ bO78_0; replace bO78_1 := q9 _ _ bO78_1; clear q9; replace hr84 := ho.rows (Nat.ne_of_lt (Nat.lt_of_lt_of_le lt24 (T hs29 la1))) hr84; replace hr85 := ho.rows (Nat.ne_of_lt (Nat.lt_of_lt_of_le lt24 (T hs29 la2))) hr85; have hs92 : w87.heap.size ≤ X91.heap.size := Nat.le_of_eq ho.size.symm; clear ho hk z0 z1; have z0 := hv0; clear hv0; have z1 := hv1; clear hv1
   refine ipl_nil ?_
   refine iqw_block ?_
   exact iqw_next hrk39 ⟨(T hs32 (T hs38 (T hs75 (T hs80 (T hs83 (T hs88 hs92)))))), hE, bO1_0, bO1_1, bO1_2, bO1_3, bO1_4, bO1_5, bO1_6, bO5_0, bO9_0, bO13_0, bO17_0, bO17_1, hc27, (fold_next hi0 z0 z1 la1 la2 na9.out hr84 hr85)⟩
 ·
  clear bO1_0 bO1_1 bO1_2 bO1_3 bO1_4 bO1_5 bO1_6 bO5_0 bO9_0 bO13_0 bO17_0 bO17_1 bO21_0 bO21_1 hc27 hE
  intro D93 w94 hD97 hDl98 h hmk96
  obtain ⟨hs95, hE, bO1_0, bO1_1, bO1_2, bO1_3, bO1_4, bO1_5, bO1_6, bO5_0, bO9_0, bO13_0, bO17_0, bO17_1, hc27, hF⟩ := h
  obtain ⟨hi0, A1, A2, c1, c2, z0, z1, la1, la2, na, ra1, ra2⟩ := hF.resolve_left (fun h => by have := h.1; omega)
  have na9 := Lib.hid na
  refine iqw_block ?_
  refine iqw_then ?_
  refine icw_seq ?_
  refine icw_plain ?_
  refine ipl_take (.agg #[.slice (some ⟨A1, 0, none⟩) 24 c1, .slice (some ⟨A2, 0, none⟩) 24 c2]) rfl (by kernel_rfl) (by kernel_rfl) (by kernel_rfl) (ex_load rfl (by kernel_rfl) (ld44 (z0.1) (z1.1))) ?_
  refine ipl_put rfl (by kernel_rfl) (by kernel_rfl) (sn_set2 (O := O17) (j := 0) (v := .slice (some ⟨A1, 0, none⟩) 24 c1) (v' := .slice (some ⟨A2, 0, none⟩) 24 c2) (ex_store (p := .pointer (some ⟨O17, 0, none⟩)) (v := .agg #[.slice (some ⟨A1, 0, none⟩) 24 c1, .slice (some ⟨A2, 0, none⟩) 24 c2]) rfl (by kernel_rfl) (by kernel_rfl) (st44 bO17_0.1 bO17_0.2 bO17_1.1 bO17_1.2)) bO17_0 bO17_1 ?_)
  intro X99 ho hv0 hv1 hk; replace hE := ho.ext hE (T (T hs3 (T hs7 (T hs11 hs15))) (Nat.le_of_eq hzO17))
  have q9 := fun (j : Nat) (v : Value) (h : BoxAt _ O1 j v) => ho.box (Nat.ne_of_gt (Nat.lt_of_lt_of_le lt4 (T (T hs7 (T hs11 hs15)) (Nat.le_of_eq hzO17)))) h
  replace bO1_0 := q9 _ _ bO1_0; replace bO1_1 := q9 _ _ bO1_1; replace bO1_2 := q9 _ _ bO1_2; replace bO1_3 := q9 _ _ bO1_3; replace bO1_4 := q9 _ _ bO1_4; replace bO1_5 := q9 _ _ bO1_5; replace bO1_6 := q9 _ _ bO1_6; clear q9; replace bO5_0 := ho.box (Nat.ne_of_gt (Nat.lt_of_lt_of_le lt8 (T (T hs11 hs15) (Nat.le_of_eq hzO17)))) bO5_0; replace bO9_0 := ho.box (Nat.ne_of_gt (Nat.lt_of_lt_of_le lt12 (T hs15 (Nat.le_of_eq hzO17)))) bO9_0; replace bO13_0 := ho.box (Nat.ne_of_gt (Nat.lt_of_lt_of_le lt16 (Nat.le_of_eq hzO17))) bO13_0; replace hc27 := ho.cell (Nat.ne_of_lt (Nat.lt_of_lt_of_le lt20 (T hs23 hn26))) hc27; replace hmk96 := mk_turn hmk96 ho; replace z0 := ho.box (Nat.ne_of_lt (Nat.lt_of_lt_of_le lt20 (Nat.le_of_eq hzO21))) z0; replace z1 := ho.box (Nat.ne_of_lt (Nat.lt_of_lt_of_le lt20 (Nat.le_of_eq hzO21))) z1; replace ra1 := ho.rows (Nat.ne_of_lt (Nat.lt_of_lt_of_le lt20 (T (T hs23 hs29) la1))) ra1; replace ra2 := ho.rows (Nat.ne_of_lt (Nat.lt_of_lt_of_le lt20 (T (T hs23 hs29) la2))) ra2; have hs100 : w94.heap.size ≤ X99.heap.size := Nat.le_of_eq ho.size.symm; clear ho hk bO17_0 bO17_1; have bO17_0 := hv0; clear hv0; have bO17_1 := hv1; clear hv1
  refine ipl_nil ?_
  refine iqw_then ?_
  refine icw_ret ?_
  refine iqw_ret w.heap.size [.agg #[.slice (some ⟨A1, 0, none⟩) 24 c1, .slice (some ⟨A2, 0, none⟩) 24 c2]] rfl (marksC (T (T hs3 (T hs7 (T hs11 (T hs15 (T hs19 (T hs23 hs29)))))) hD97) hmk96 (fun _ h => by cases h)) (by simp) (fun W9 hm9 => ?_)
  replace hE := hm9.ext hE (Nat.le_refl _); replace bO1_0 := hm9.box bO1_0; replace bO1_1 := hm9.box bO1_1; replace bO1_2 := hm9.box bO1_2; replace bO1_3 := hm9.box bO1_3; replace bO1_4 := hm9.box bO1_4; replace bO1_5 := hm9.box bO1_5; replace bO1_6 := hm9.box bO1_6; replace bO5_0 := hm9.box bO5_0; replace bO9_0 := hm9.box bO9_0; replace bO13_0 := hm9.box bO13_0; replace hc27 := hm9.cell hc27; replace z0 := hm9.box z0; replace z1 := hm9.box z1; replace ra1 := hm9.rows ra1; replace ra2 := hm9.rows ra2; replace bO17_0 := hm9.box bO17_0; replace bO17_1 := hm9.box bO17_1; have hs101 := hm9.size
  refine ⟨⟨⟨_, by kernel_rfl, res_ld (ld44 (bO17_0.1) (bO17_1.1))⟩, trivial⟩, ?_⟩
  exact ⟨A1, A2, _, _, rfl, (T (T hs3 (T hs7 (T hs11 (T hs15 (T hs19 (T hs23 hs29)))))) la1), (T (T hs3 (T hs7 (T hs11 (T hs15 (T hs19 (T hs23 hs29)))))) la2), na9.out, ra1, ra2, hE⟩
 · intro _ _ _ _ _ _ _ h _; exact h.elim

end Go.Proofs.Ytdjjkhefdalokaa
