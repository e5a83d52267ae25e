/- Part 3 of what the proof of CoverMatchesReference stands on. -/
import Derived.Test.YtglfoglkdbbmmaaDoorV2CoverMatchesReference
import Derived.WalkMore
import Derived.Test.YtglfoglkdbbmmaaDoorTie
import Derived.Test.YtglfoglkdbbmmaaDoorCards
import Derived.ProofKit
import Derived.OpenShut
import Derived.ChangeOld
import Derived.LaidMore
import Derived.Stop.Joined
import Derived.Stop.LaidErr
import Derived.Lib.LaidTab
import Derived.SevenTiedAt
import Derived.Deep.Slices
import Derived.Scope
import Derived.Maps.AppendAt
/- Contract of package cover: Fewest. -/
namespace Go.Proofs.YtglfoglkdbbmmaaDoor
open Go.RowKit Go.Shelf

attribute [local go_sem] Oper.semAt_some

def FewRes (w : World) (r : Option (List Nat)) (e : Ending) (w' : World) : Prop :=
  ∃ (a : Option Addr) (c : Nat), e = .returned (.tuple #[.slice a (r.getD []).length c, .bool r.isSome, .int .i64 0]) ∧ IntsAt w' a (intsN (r.getD [])) ∧ Ext w w'

/-- The frame, but for what is not read again. -/
def FrF (s F n : Nat) (p : Value) (u : Nat → Value) : Array Value := #[u 0, u 1, .pointer (some ⟨s, 0, none⟩), .pointer (some ⟨s + 1, 0, none⟩), u 4, u 5, u 6, .pointer (some ⟨F, 0, none⟩), .pointer (some ⟨F + 1, 0, none⟩), u 9, u 10, u 11, u 12, u 13, u 14, u 15, u 16, u 17, u 18, u 19, u 20, u 21, u 22, u 23, u 24, u 25, u 26, .int .i64 ((n : Int) + 1), p, u 29, u 30, u 31, u 32, u 33, u 34, u 35, u 36, u 37, u 38, u 39, u 40, u 41, u 42, u 43, u 44, u 45, u 46]
def FrOk (s F n : Nat) (p : Value) (X : Array Value) : Prop := ∃ u, X = FrF s F n p u
theorem frOk_lit {s F n : Nat} {p : Value} (X : Array Value) (h : X = FrF s F n p (fun j => X.getD j undef)) : FrOk s F n p X := ⟨_, h⟩
def marks (Ds : List Nat) : List Deferred := Ds.map fun D => { target := .collected D, args := #[] }
/-- What the loop over the sizes keeps. -/
def FewI (w : World) (s F : Nat) (a : Option Addr) (n c : Nat) (b o k : Nat) (Ds : List Nat) (found : Value) (ok : Bool) (W : World) : Prop :=
  BoxAt W F 0 found ∧ BoxAt W (F + 1) 0 (.bool ok) ∧ W.cell? ⟨s, 0, none⟩ = some (.slice (some ⟨b, o, none⟩) 24 k) ∧ W.cell? ⟨s + 1, 0, none⟩ = some (.slice a n c) ∧ Ext w W ∧ Ds.Nodup ∧ ∀ D ∈ Ds, w.heap.size ≤ D ∧ W.heap[D]? = some (.deferred (some []))
def FewA (w : World) (s F : Nat) (a : Option Addr) (n c : Nat) (b o k : Nat) (q : List Nat → Bool) (A : Act) (W : World) : Prop :=
  ∃ (i : Nat) (Ds : List Nat), FrOk s F n (.int .i64 (i : Int)) A.tmps ∧ A.defers = marks Ds ∧ i ≤ n + 1 ∧ (∀ j, j < i → (Globe.combs n j [] 0).find? q = none) ∧ FewI w s F a n c b o k Ds (.slice none 0 0) false W
def FewOut (w : World) (s F : Nat) (a : Option Addr) (n c : Nat) (b o k : Nat) (q : List Nat → Bool) (e : Exit) (A : Act) (W : World) : Prop :=
  e = .exit 0 ∧ ∃ (p : Value) (Ds : List Nat) (fa : Option Addr) (fc : Nat), FrOk s F n p A.tmps ∧ A.defers = marks Ds ∧ FewI w s F a n c b o k Ds (.slice fa ((Globe.fewestL q n).getD []).length fc) (Globe.fewestL q n).isSome W ∧ IntsAt W fa (intsN ((Globe.fewestL q n).getD []))
/-- Between two rounds over the lists; and where a list was enough. -/
def FewJ (w : World) (s F : Nat) (a : Option Addr) (n c : Nat) (b o k : Nat) (Ds : List Nat) (q : List Nat → Bool) (pre : List YL) (W : World) : Prop :=
  FewI w s F a n c b o k Ds (.slice none 0 0) false W ∧ ∀ x ∈ pre, q x.2.2 = false
def FewX (w : World) (s F : Nat) (a : Option Addr) (n c : Nat) (b o k : Nat) (Ds : List Nat) (q : List Nat → Bool) (cd : Code) (pre : List YL) (W : World) : Prop :=
  cd = .exit 0 ∧ ∃ (ys : List YL) (x : YL), pre = ys ++ [x] ∧ (∀ y ∈ ys, q y.2.2 = false) ∧ q x.2.2 = true ∧ FewI w s F a n c b o k Ds (.slice x.1 x.2.2.length x.2.1) true W ∧ IntsAt W x.1 (intsN x.2.2)
theorem FewI.own {w : World} {s F : Nat} {a : Option Addr} {n c b o k : Nat} {Ds : List Nat} {f : Value} {ok : Bool} {B : Nat} (hB : w.heap.size ≤ B) (hD : ∀ D ∈ Ds, D < B) {W W' : World} {row : Option Nat} (h : FewI w s F a n c b o k Ds f ok W) (hg : W.grownBy W' row) (hr : ∀ r, row = some r → B ≤ r ∧ ∃ o : Obj, W.heap[r]? = some o ∧ o.isCells = false) : FewI w s F a n c b o k Ds f ok W' := by
  obtain ⟨⟨c1, f1⟩, ⟨c2, f2⟩, h3, h4, h5, h6, h7⟩ := h
  have hr' := fun r e => (hr r e).2
  refine ⟨⟨cell_kept c1 hg hr', (frozen_kept c1 hg hr').trans f1⟩, ⟨cell_kept c2 hg hr', (frozen_kept c2 hg hr').trans f2⟩, cell_kept h3 hg hr', cell_kept h4 hg hr', Below.grown h5 hg h5.size (fun j e => Nat.le_trans hB (hr j e).1), h6, fun D hDs => ⟨(h7 D hDs).1, ?_⟩⟩
  exact (hg.block D (Array.getElem?_eq_some_iff.1 (h7 D hDs).2).1 (fun e => by have := hD D hDs; have := (hr D e.symm).1; omega)).trans (h7 D hDs).2
theorem FewI.ext {w : World} {s F : Nat} {a : Option Addr} {n c b o k : Nat} {Ds : List Nat} {f : Value} {ok : Bool} {W W' : World} (h : FewI w s F a n c b o k Ds f ok W) (hE : Ext W W') : FewI w s F a n c b o k Ds f ok W' := by
  obtain ⟨h1, h2, h3, h4, h5, h6, h7⟩ := h
  exact ⟨BoxAt.ext hE h1, BoxAt.ext hE h2, hE.cell h3, hE.cell h4, h5.trans hE, h6, fun D hD => ⟨(h7 D hD).1, (Below.block hE D (Array.getElem?_eq_some_iff.1 (h7 D hD).2).1).trans (h7 D hD).2⟩⟩
theorem IntsAt.kept {W W' : World} {row : Option Nat} {a : Option Addr} {l : List Int} (h : IntsAt W a l) (hg : W.grownBy W' row) (hr : ∀ r, row = some r → ∃ o : Obj, W.heap[r]? = some o ∧ o.isCells = false) : IntsAt W' a l :=
  h.imp id fun ⟨b, off, ha, hc⟩ => ⟨b, off, ha, fun i hi => cell_kept (hc i hi) hg hr⟩
theorem PhiL.own {n B : Nat} (x : YL) : OwnFrom B (fun (_ : Unit) W => PhiL n x W) := fun _ W W' row h hg hr => by
  obtain ⟨h1, h2⟩ := h
  exact ⟨h1.imp id fun ⟨q1, q2, b, off, ha, hc⟩ => ⟨q1, q2, b, off, ha, fun i hi => cell_kept (hc i hi) hg (fun r e => (hr r e).2)⟩, h2⟩
theorem ne_of_mark {V : World} {D F : Nat} {v : Value} {ds : Option (List Deferred)} (hD : V.heap[D]? = some (.deferred ds)) (hc : V.cell? ⟨F, 0, none⟩ = some v) : D ≠ F := by
  rintro rfl
  obtain ⟨o, ho, hi⟩ := cells_of_cell hc
  rw [hD] at ho; cases ho; cases hi
theorem ints_other {w : World} {a : Option Addr} {l : List Int} (h : IntsAt w a l) {p : Addr} (hp : ∀ ad, a = some ad → l ≠ [] → ad.block ≠ p.block) (v : Value) : IntsAt (w.setCell p v) a l := by
  by_cases hl : l = []
  · exact .inl hl
  rcases h with h | ⟨b, off, rfl, h⟩
  · exact .inl h
  · exact .inr ⟨b, off, rfl, fun i hi => by rw [World.cell?_setCell_other w _ _ _ (fun e => hp _ rfl hl (by rw [e]))]; exact h i hi⟩
theorem ints_not {w : World} {a : Option Addr} {l : List Int} (h : IntsAt w a l) (h0 : ∀ b off, a = some ⟨b, off, none⟩ → off = 0) {ad : Addr} (e : a = some ad) (hl : l ≠ []) {v : Value} (hc : w.cell? ⟨ad.block, 0, none⟩ = some v) (hv : ∀ z, v ≠ .int .i64 z) : False := by
  rcases h with h | ⟨b, off, rfl, h⟩
  · exact hl h
  · cases e
    obtain rfl := h0 b off rfl
    have := h 0 (List.length_pos_iff.2 hl)
    rw [Nat.add_zero, hc] at this
    cases this; exact hv _ rfl
def muF (n : Nat) (A : Act) (_ : World) : Nat := n + 2 - (intOf (A.tmps.getD 28 undef)).toNat

set_option maxRecDepth 100000 in
set_option maxHeartbeats 4000000 in
theorem Fewest_r {r : Option (List Nat)} {w1 w2 : World} {a : Option Addr} {n : Nat} {ss : List (List Int × List Int)} {b o : Nat} (c k : Nat) {l : List Int} (w : World) (hl : VA w1 b o l) (e1 : Ext w1 w) (h : StripsAt w2 a n ss) (e2 : Ext w2 w) (hok : Globe.stripsOk ss = true) (h12 : n ≤ 12) (hT : Tab w) (hr : Globe.fewestL (Globe.enough l (ss.map fun s => s.1)) n = r) :
    Calls Tryd.prog 25 #[.agg #[.slice (some ⟨b, o, none⟩) 24 k], .slice a n c] w (FewRes w r) := by
  have Hr := Lib.hid hr; clear hr
  have H := Lib.hid (h.ext e2)
  have HL := Lib.hid (hl.ext e1)
  have hbl := HL.out.lt
  clear h hl e1 e2
  have Hok := Lib.hid hok; clear hok
  have HT := Lib.hid hT; clear hT
  have n0 : (n : Int) ≤ 12 := by omega
  refine (callsIn_wide (n := 3)).1 ?_
  refine callsIn_of_wp_marks Tryd.func25 rfl trivial ?_ rfl
  simp only [Tryd.ntmps25, List.size_toArray, List.length_cons, List.length_nil, Nat.reduceAdd, Nat.reduceSub, Array.replicate_succ, Array.replicate_zero, List.push_toArray, List.append_toArray, List.nil_append, List.cons_append]
  refine wpIn_wide.2 ?_
  go_wp2_with fail
  go_step3
  go_wp2_with fail
  refine (Valid_e k _ HL.out.aa (by (repeat' (first | (with_reducible assumption) | (with_reducible exact Ext.refl _) | (with_reducible refine Ext.alloc ?_ _) | (with_reducible refine Ext.drew ?_) | (with_reducible refine Ext.drewN ?_ _) | (with_reducible refine Ext.setCell ?_ ?_ _) | (with_reducible refine Ext.trans ?_ (by assumption)) | go_size)))).mono ?_
  rintro e w1 ⟨rfl, hb⟩
  have hc := hb.cellE; have hf := hb.frozenE; have hz := hb.size; have ha := alloc_keeps w1; (try simp only [World.size_alloc] at hc hf hz); (try simp only [World.size_setCell] at hc hf hz); (try simp only [World.size_drew] at hc hf hz)
  go_wp2_with fail
  refine (ValidS_r c _ H.out (by (repeat' (first | (with_reducible assumption) | (with_reducible exact Ext.refl _) | (with_reducible refine Ext.alloc ?_ _) | (with_reducible refine Ext.drew ?_) | (with_reducible refine Ext.drewN ?_ _) | (with_reducible refine Ext.setCell ?_ ?_ _) | (with_reducible refine Ext.trans ?_ (by assumption)) | go_size))) Hok.out).mono ?_
  rintro e w2 ⟨rfl, hb⟩
  have hc := hb.cellE; have hf := hb.frozenE; have hz := hb.size; have ha := alloc_keeps w2; (try simp only [World.size_alloc] at hc hf hz); (try simp only [World.size_setCell] at hc hf hz); (try simp only [World.size_drew] at hc hf hz)
  go_wp2_with fail
  go_step3
  go_wp2_with fail
  have bF : BoxAt ((w2.alloc (.cells #[.slice none 0 0] 23)).alloc (.cells #[.bool false] 4)) w2.heap.size 0 (.slice none 0 0) := ⟨by simp [go_sem], by simp [go_sem]⟩
  have bO : BoxAt ((w2.alloc (.cells #[.slice none 0 0] 23)).alloc (.cells #[.bool false] 4)) (w2.heap.size + 1) 0 (.bool false) := ⟨by simp [go_sem], by simp [go_sem]⟩
  have e2 : Ext w w2 := by (repeat' (first | (with_reducible assumption) | (with_reducible exact Ext.refl _) | (with_reducible refine Ext.alloc ?_ _) | (with_reducible refine Ext.drew ?_) | (with_reducible refine Ext.drewN ?_ _) | (with_reducible refine Ext.setCell ?_ ?_ _) | (with_reducible refine Ext.trans ?_ (by assumption)) | go_size))
  have cS : w1.cell? ⟨w.heap.size, 0, none⟩ = some (.slice (some ⟨b, o, none⟩) 24 k) := Ext.cell (by with_reducible assumption) (by simp [go_sem])
  have cT : w1.cell? ⟨w.heap.size + 1, 0, none⟩ = some (.slice a n c) := Ext.cell (by with_reducible assumption) (by simp [go_sem])
  have e12 : Ext w1 w2 := by (repeat' (first | (with_reducible assumption) | (with_reducible exact Ext.refl _) | (with_reducible refine Ext.alloc ?_ _) | (with_reducible refine Ext.drew ?_) | (with_reducible refine Ext.drewN ?_ _) | (with_reducible refine Ext.setCell ?_ ?_ _) | (with_reducible refine Ext.trans ?_ (by assumption)) | go_size))
  have cS2 := Ext.cell (Ext.alloc (Ext.alloc e12 (.cells #[.slice none 0 0] 23)) (.cells #[.bool false] 4)) cS
  have cT2 := Ext.cell (Ext.alloc (Ext.alloc e12 (.cells #[.slice none 0 0] 23)) (.cells #[.bool false] 4)) cT
  have eW := Ext.alloc (Ext.alloc e2 (.cells #[.slice none 0 0] 23)) (.cells #[.bool false] 4)
  have lS := World.block_lt_of_cell? _ _ (Ext.cell e12 cT)
  generalize (w2.alloc (.cells #[.slice none 0 0] 23)).alloc (.cells #[.bool false] 4) = W at *
  generalize hF : w2.heap.size = F at *
  clear cS cT e12 e2 hb hc hf hz ha
  clear hb hc hf hz ha
  refine wp_mono (show Code.wp _ _ (FewOut w w.heap.size F a n c b o k (Globe.enough l (ss.map fun s => s.1))) _ _ from ?_) ?_
  · refine wp_loop (FewA w w.heap.size F a n c b o k (Globe.enough l (ss.map fun s => s.1))) (muF n) ?_ ?_
    · exact ⟨0, [], frOk_lit _ rfl, rfl, by omega, fun j hj => by omega, bF, bO, cS2, cT2, eW, List.nodup_nil, fun D hD => by cases hD⟩
    · clear bF bO cS2 cT2 eW W
      rintro ⟨X, ds⟩ W ⟨i, Ds, ⟨u, hu⟩, hds, hi, hno, ⟨cF, fF⟩, ⟨cO, fO⟩, cS, cT, hE, hnd, hDs⟩
      dsimp only at hu hds
      subst hu hds
      unfold FrF
      have Hno := Lib.hid hno; clear hno
      have HDs := Lib.hid hDs; clear hDs
      have Hnd := Lib.hid hnd; clear hnd
      have i0 : (0 : Int) ≤ (i : Int) := by omega
      have i1 : (i : Int) ≤ (n : Int) + 1 := by omega
      by_cases hlt : i < n + 1
      · have i2 : (i : Int) < (n : Int) + 1 := by omega
        go_wp2_with (go_at_call 52; refine (lists_c _ _ _).mono ?_; rintro e w' ⟨rfl, rfl⟩)
        have hs3 : ((W.alloc (.cells #[.int .i64 (n : Int)] 3)).alloc (.cells #[.int .i64 (i : Int)] 3)).heap.size = W.heap.size + 2 := by simp
        have e3 : Ext W ((W.alloc (.cells #[.int .i64 (n : Int)] 3)).alloc (.cells #[.int .i64 (i : Int)] 3)) := Ext.alloc (Ext.alloc (Ext.refl _) _) _
        have cK : ((W.alloc (.cells #[.int .i64 (n : Int)] 3)).alloc (.cells #[.int .i64 (i : Int)] 3)).cell? ⟨W.heap.size + 1, 0, none⟩ = some (.int .i64 (i : Int)) := by simp [go_sem]
        have cN : ((W.alloc (.cells #[.int .i64 (n : Int)] 3)).alloc (.cells #[.int .i64 (i : Int)] 3)).cell? ⟨W.heap.size, 0, none⟩ = some (.int .i64 (n : Int)) := by simp [go_sem]
        have hI0 : FewI w w.heap.size F a n c b o k Ds (.slice none 0 0) false W := ⟨⟨cF, fF⟩, ⟨cO, fO⟩, cS, cT, hE, Hnd.out, HDs.out⟩
        have HI3 := Lib.hid (hI0.ext e3)
        have hF1 : F < W.heap.size := World.block_lt_of_cell? W _ cF
        have hO1 : F + 1 < W.heap.size := World.block_lt_of_cell? W _ cO
        have hT1 : w.heap.size + 1 < W.heap.size := World.block_lt_of_cell? W _ cT
        have HD2 := Lib.hid (show ∀ D ∈ Ds, D < W.heap.size from fun D hD => (Array.getElem?_eq_some_iff.1 (HDs.out D hD).2).1)
        have hEs := hE.size
        clear cF fF cO fO cS cT hE hI0
        generalize ((W.alloc (.cells #[.int .i64 (n : Int)] 3)).alloc (.cells #[.int .i64 (i : Int)] 3)) = W3 at *
        have HE3 := Lib.hid e3; clear e3
        refine wpIn_wide (n := 3).1 ?_
        refine rangeFunc_mem (gf := 71) (lb := #[.pointer (some ⟨W.heap.size + 1, 0, none⟩), .pointer (some ⟨W.heap.size, 0, none⟩)]) rfl (enters_of Tryd.func71 (by kernel_rfl) rfl)
          (lists1_seq (X := fun z => z = F ∨ z = F + 1) (n := n) (k := i) W3 (fun z hz => by rcases hz with rfl | rfl <;> omega) (by omega) (by omega) cK cN (fun h => by rcases h with h | h <;> omega) (fun h => by rcases h with h | h <;> omega)) (Below.refl _ _) (fun _ => rfl) (fun x => PhiL.own x) KeepC.trans (fun W l o o' _ h hc _ => KeepC.putObj W o' h hc)
          (FewJ w w.heap.size F a n c b o k Ds (Globe.enough l (ss.map fun s => s.1))) (FewX w w.heap.size F a n c b o k Ds (Globe.enough l (ss.map fun s => s.1)))
          (fun pre A B row h hg hr => ⟨h.1.own (by omega) (fun D hD => by have := HD2.out D hD; omega) hg hr, h.2⟩)
          (fun cd pre A B row h hg hr => by
            obtain ⟨h1, ys, x, h2, h3, h4, h5, h6⟩ := h
            exact ⟨h1, ys, x, h2, h3, h4, h5.own (by omega) (fun D hD => by have := HD2.out D hD; omega) hg hr, h6.kept hg (fun r e => (hr r e).2)⟩)
          ⟨HI3.out, fun x hx => by cases hx⟩
          (fun x => { tmps := #[u 0, u 1, .pointer (some ⟨w.heap.size, 0, none⟩), .pointer (some ⟨w.heap.size + 1, 0, none⟩), u 4, u 5, u 6, .pointer (some ⟨F, 0, none⟩), .pointer (some ⟨F + 1, 0, none⟩), .int .i64 (i : Int), .slice x.1 x.2.2.length x.2.1, u 11, u 12, u 13, u 14, u 15, u 16, u 17, u 18, u 19, u 20, u 21, u 22, u 23, u 24, u 25, u 26, .int .i64 ((n : Int) + 1), .int .i64 (i : Int), .bool true, .int .i64 (i : Int), .slice a n c, .int .i64 (n : Int), .int .i64 (i : Int), .func (.func 71) #[] #[.pointer (some ⟨W.heap.size + 1, 0, none⟩), .pointer (some ⟨W.heap.size, 0, none⟩)], .slice x.1 x.2.2.length x.2.1, u 36, u 37, u 38, u 39, u 40, u 41, u 42, u 43, u 44, u 45, u 46], defers := [] }) ?assign ?body ?done ?stop
        case assign =>
          intro l0 m0 x V K hK
          dsimp only [encL]
          gi_wp2
          exact hK
        case body =>
          rintro l0 m0 pre x V ⟨⟨⟨cF, fF⟩, ⟨cO, fO⟩, cS, cT, hE, -, hDV⟩, hpre⟩ ⟨hx1, hx2, hx3, hx4⟩
          dsimp only
          have hxi : IntsAt V x.1 (intsN x.2.2) := hx1.ints
          have lF := World.block_lt_of_cell? V _ cF
          have lO := World.block_lt_of_cell? V _ cO
          have lS := World.block_lt_of_cell? V _ cS
          have lT := World.block_lt_of_cell? V _ cT
          have HDV := Lib.hid hDV; clear hDV
          have Hpre := Lib.hid hpre; clear hpre
          have Hxi := Lib.hid hxi; clear hxi hx1
          have Hx4 := Lib.hid hx4; clear hx4
          have Hlt := Lib.hid (Globe.asc_lt hx3); clear hx3
          obtain ⟨N, hN⟩ : ∃ N, (Globe.cellsTo (Globe.leftL l (x.2.2.map (Globe.sureAt (ss.map fun s => s.1)))) 24).length = N := ⟨_, rfl⟩
          have HN := Lib.hid hN
          have hq : Globe.enough l (ss.map fun s => s.1) x.2.2 = decide (N = 0) := by unfold Globe.enough; rw [hN]
          have Hq := Lib.hid hq; clear hq hN
          have m1 : Fence.wide.depth.isSome = true → 1 ≤ m0 := wide_depth
          by_cases hz : N = 0
          · subst hz
            gi_wp2_with (first
              | (refine ⟨trivial, wide_depth, ?_⟩; gi_at_call 53; refine (CallsIn.inRound l0 (callsIn_wide.2 (foldN_v _ k c _ Hxi.out (Ext.refl _) Hlt.out hx2 HL.out hE H.out hE Hok.out cT))).mono ?_; rintro e w5 ⟨B5, o5, k5, rfl, hv5, hB5, hb5⟩; have hc5 := hb5.cellE; have hf5 := hb5.frozenE; have hz5 := hb5.size; have ha5 := alloc_keeps w5; (try simp only [World.size_alloc] at hc5 hf5 hz5); (try simp only [World.size_setCell] at hc5 hf5 hz5); (try simp only [World.size_drew] at hc5 hf5 hz5); have HV5 := Lib.hid hv5; clear hv5)
              | (refine ⟨trivial, wide_depth, ?_⟩; gi_at_call 29; refine (CallsIn.inRound l0 (callsIn_wide.2 (Count_r k5 _ HV5.out (by (repeat' (first | (with_reducible assumption) | (with_reducible exact Ext.refl _) | (with_reducible refine Ext.alloc ?_ _) | (with_reducible refine Ext.drew ?_) | (with_reducible refine Ext.drewN ?_ _) | (with_reducible refine Ext.setCell ?_ ?_ _) | (with_reducible refine Ext.trans ?_ (by assumption)) | go_size))) (HT.out.ext (by (repeat' (first | (with_reducible assumption) | (with_reducible exact Ext.refl _) | (with_reducible refine Ext.alloc ?_ _) | (with_reducible refine Ext.drew ?_) | (with_reducible refine Ext.drewN ?_ _) | (with_reducible refine Ext.setCell ?_ ?_ _) | (with_reducible refine Ext.trans ?_ (by assumption)) | go_size)))) HN.out))).mono ?_; rintro e w6 ⟨rfl, hb6⟩; have hc6 := hb6.cellE; have hf6 := hb6.frozenE; have hz6 := hb6.size; have ha6 := alloc_keeps w6; (try simp only [World.size_alloc] at hc6 hf6 hz6); (try simp only [World.size_setCell] at hc6 hf6 hz6); (try simp only [World.size_drew] at hc6 hf6 hz6)))
            have hE6 : Ext V w6 := by (repeat' (first | (with_reducible assumption) | (with_reducible exact Ext.refl _) | (with_reducible refine Ext.alloc ?_ _) | (with_reducible refine Ext.drew ?_) | (with_reducible refine Ext.drewN ?_ _) | (with_reducible refine Ext.setCell ?_ ?_ _) | (with_reducible refine Ext.trans ?_ (by assumption)) | go_size))
            have b1 := BoxAt.ext hE6 (show BoxAt V F 0 (.slice none 0 0) from ⟨cF, fF⟩)
            have b2 := BoxAt.ext hE6 (show BoxAt V (F + 1) 0 (.bool false) from ⟨cO, fO⟩)
            refine ⟨(KeepsOthers.trans (Ext.others hE6) ((KeepsOthers.setCell _ _ _).trans (KeepsOthers.setCell _ _ _))).from _, (KeepC.of_ext hE6).trans ((KeepC.setCell _ (p := ⟨F, 0, none⟩) (.inl rfl) _).trans (KeepC.setCell _ (p := ⟨F + 1, 0, none⟩) (.inr rfl) _)), rfl, pre, x, rfl, Hpre.out, by rw [Hq.out]; rfl, ⟨BoxAt.other (BoxAt.set b1 _) (by show F + 1 ≠ F; omega) _, BoxAt.set (BoxAt.other b2 (by show F ≠ F + 1; omega) _) _, ?_, ?_, ?_, Hnd.out, ?_⟩, ?_⟩
            · rw [World.cell?_setCell_other _ _ _ _ (fun e => by have := congrArg Addr.block e; simp at this; omega), World.cell?_setCell_other _ _ _ _ (fun e => by have := congrArg Addr.block e; simp at this; omega)]; exact hE6.cell cS
            · rw [World.cell?_setCell_other _ _ _ _ (fun e => by have := congrArg Addr.block e; simp at this; omega), World.cell?_setCell_other _ _ _ _ (fun e => by have := congrArg Addr.block e; simp at this; omega)]; exact hE6.cell cT
            · exact Ext.setCell (Ext.setCell (hE.trans hE6) (p := ⟨F, 0, none⟩) (by show _ ≤ F; omega) _) (p := ⟨F + 1, 0, none⟩) (by show _ ≤ F + 1; omega) _
            · intro D hD
              obtain ⟨q1, q2⟩ := HDV.out D hD
              refine ⟨q1, ?_⟩
              rw [Below.heap_setCell _ _ _ D (ne_of_mark q2 cO), Below.heap_setCell _ _ _ D (ne_of_mark q2 cF)]
              exact (Below.block hE6 D (Array.getElem?_eq_some_iff.1 q2).1).trans q2
            · exact ints_other (ints_other (Hxi.out.ext hE6) (p := ⟨F, 0, none⟩) (fun ad e hl hf => ints_not Hxi.out Hx4.out e hl (by rw [hf]; exact cF) (by intro z h; cases h)) _) (p := ⟨F + 1, 0, none⟩) (fun ad e hl hf => ints_not Hxi.out Hx4.out e hl (by rw [hf]; exact cO) (by intro z h; cases h)) _
          · have hzi : ¬ (N : Int) = 0 := by omega
            gi_wp2_with (first
              | (refine ⟨trivial, wide_depth, ?_⟩; gi_at_call 53; refine (CallsIn.inRound l0 (callsIn_wide.2 (foldN_v _ k c _ Hxi.out (Ext.refl _) Hlt.out hx2 HL.out hE H.out hE Hok.out cT))).mono ?_; rintro e w5 ⟨B5, o5, k5, rfl, hv5, hB5, hb5⟩; have hc5 := hb5.cellE; have hf5 := hb5.frozenE; have hz5 := hb5.size; have ha5 := alloc_keeps w5; (try simp only [World.size_alloc] at hc5 hf5 hz5); (try simp only [World.size_setCell] at hc5 hf5 hz5); (try simp only [World.size_drew] at hc5 hf5 hz5); have HV5 := Lib.hid hv5; clear hv5)
              | (refine ⟨trivial, wide_depth, ?_⟩; gi_at_call 29; refine (CallsIn.inRound l0 (callsIn_wide.2 (Count_r k5 _ HV5.out (by (repeat' (first | (with_reducible assumption) | (with_reducible exact Ext.refl _) | (with_reducible refine Ext.alloc ?_ _) | (with_reducible refine Ext.drew ?_) | (with_reducible refine Ext.drewN ?_ _) | (with_reducible refine Ext.setCell ?_ ?_ _) | (with_reducible refine Ext.trans ?_ (by assumption)) | go_size))) (HT.out.ext (by (repeat' (first | (with_reducible assumption) | (with_reducible exact Ext.refl _) | (with_reducible refine Ext.alloc ?_ _) | (with_reducible refine Ext.drew ?_) | (with_reducible refine Ext.drewN ?_ _) | (with_reducible refine Ext.setCell ?_ ?_ _) | (with_reducible refine Ext.trans ?_ (by assumption)) | go_size)))) HN.out))).mono ?_; rintro e w6 ⟨rfl, hb6⟩; have hc6 := hb6.cellE; have hf6 := hb6.frozenE; have hz6 := hb6.size; have ha6 := alloc_keeps w6; (try simp only [World.size_alloc] at hc6 hf6 hz6); (try simp only [World.size_setCell] at hc6 hf6 hz6); (try simp only [World.size_drew] at hc6 hf6 hz6)))
            have hE6 : Ext V w6 := by (repeat' (first | (with_reducible assumption) | (with_reducible exact Ext.refl _) | (with_reducible refine Ext.alloc ?_ _) | (with_reducible refine Ext.drew ?_) | (with_reducible refine Ext.drewN ?_ _) | (with_reducible refine Ext.setCell ?_ ?_ _) | (with_reducible refine Ext.trans ?_ (by assumption)) | go_size))
            refine ⟨(Ext.others hE6).from _, KeepC.of_ext hE6, FewI.ext ⟨⟨cF, fF⟩, ⟨cO, fO⟩, cS, cT, hE, Hnd.out, HDV.out⟩ hE6, fun y hy => ?_⟩
            rcases List.mem_append.1 hy with hy | hy
            · exact Hpre.out y hy
            · simp at hy; subst hy; rw [Hq.out]; simp [hz]
        case done =>
          rintro D xs V hD hS ⟨hI, hno⟩ hK
          have hDn : D ∉ Ds := fun h => by have := HD2.out D h; omega
          have HIV := Lib.hid hI; clear hI
          have Hno2 := Lib.hid (show (Globe.combs n i [] 0).find? (Globe.enough l (ss.map fun s => s.1)) = none from by
            rw [← hS, List.find?_eq_none]
            intro y hy
            rw [List.mem_map] at hy
            obtain ⟨x, hx, rfl⟩ := hy
            rw [hno x hx]; simp)
          clear hS hno
          have HKD := Lib.hid hK; clear hK
          have i3 : (i : Int) + 1 ≤ 100 := by omega
          dsimp only
          go_wp2_with fail
          obtain ⟨q1, q2, q3, q4, q5, q6, q7⟩ := HIV.out
          refine ⟨⟨i + 1, D :: Ds, frOk_lit _ rfl, rfl, by omega, fun j hj => ?_, q1, q2, q3, q4, q5, List.nodup_cons.2 ⟨hDn, q6⟩, fun D' hD' => ?_⟩, by simp [muF, intOf]; omega⟩
          · rcases Nat.lt_or_ge j i with h | h
            · exact Hno.out j h
            · rw [show j = i by omega]; exact Hno2.out
          · rcases List.mem_cons.1 hD' with rfl | h
            · exact ⟨by omega, HKD.out⟩
            · exact q7 D' h
        case stop =>
          rintro D cd pre V hD hSp ⟨rfl, ys, x, rfl, hys, hx, hI, hxs⟩ hK
          have hDn : D ∉ Ds := fun h => by have := HD2.out D h; omega
          refine wpIn_wide.2 ?_
          dsimp only
          go_wp2_with fail
          have hf : Globe.fewestL (Globe.enough l (ss.map fun s => s.1)) n = some x.2.2 := Globe.fewest_eq (i := i) (by omega) Hno.out (Globe.find_prefix (q := ys.map fun x => x.2.2) (by rw [List.map_append] at hSp; exact hSp) (fun y hy => by
            rw [List.mem_map] at hy
            obtain ⟨z, hz, rfl⟩ := hy
            exact hys z hz) hx)
          obtain ⟨q1, q2, q3, q4, q5, q6, q7⟩ := hI
          refine ⟨rfl, _, D :: Ds, x.1, x.2.1, frOk_lit _ rfl, rfl, ?_, ?_⟩
          · rw [hf]
            refine ⟨q1, q2, q3, q4, q5, List.nodup_cons.2 ⟨hDn, q6⟩, fun D' hD' => ?_⟩
            rcases List.mem_cons.1 hD' with rfl | h
            · exact ⟨by omega, hK⟩
            · exact q7 D' h
          · rw [hf]; exact hxs
      · have i2 : ¬ (i : Int) < (n : Int) + 1 := by omega
        go_wp2_with fail
        have hf : Globe.fewestL (Globe.enough l (ss.map fun s => s.1)) n = none := Globe.fewest_eq_none fun j hj => Hno.out j (by omega)
        refine ⟨rfl, _, Ds, none, 0, frOk_lit _ rfl, rfl, ?_, ?_⟩
        · rw [hf]; exact ⟨⟨cF, fF⟩, ⟨cO, fO⟩, cS, cT, hE, Hnd.out, HDs.out⟩
        · rw [hf]; exact .inl rfl
  · clear bF bO cS2 cT2 eW W
    rintro e ⟨X, ds⟩ W ⟨rfl, p, Ds, fa, fc, ⟨u, hu⟩, hds, ⟨⟨cF, fF⟩, ⟨cO, fO⟩, cS, cT, hE, hnd, hDs⟩, hints⟩
    dsimp only at hu hds
    subst hu hds
    rw [Hr.out] at cF cO hints
    rename_i K0 hK0
    show K0 _ _
    refine hK0 _ _ ?_
    clear hK0 K0
    unfold FrF
    have Hi := Lib.hid hints; clear hints
    have HD := Lib.hid hDs; clear hDs
    have Hnd := Lib.hid hnd; clear hnd
    go_wp2_with fail
    go_quiet (fail)
    go_wp2_with fail
    rw [Exit.noGoto_ret]
    refine leaves_marks w.heap.size (fun W' => IntsAt W' fa (intsN (r.getD [])) ∧ Ext w W') (fun D W' hD hP hk => ⟨hP.1.kept (grownBy_putObj' _ _ _) (fun z e => by cases e; exact ⟨_, hk, rfl⟩), Ext.shut hP.2 hD hk⟩) (fun W' hP => ?_) Ds _ Hnd.out (fun D hD => HD.out D hD) ⟨Hi.out.ext (Ext.drewN (Ext.refl _) _), Ext.drewN hE _⟩
    exact ⟨_, by simp [results, Tryd.results25, go_sem], fa, fc, rfl, hP⟩

end Go.Proofs.YtglfoglkdbbmmaaDoor

/- Contract of package cover: Check. -/
namespace Go.Proofs.YtglfoglkdbbmmaaDoor
open Go.RowKit

/-- Whether pieces are accepted. -/
def checkB (l : List Int) (ss : List (List Int × List Int)) (ps : List (List Int)) : Bool := decide (ps.length = ss.length) && (Globe.validL l && (Globe.stripsOk ss && Globe.checkL l (ss.map fun s => s.1) ps))
theorem check_step {rest s p : List Int} {Ss ps : List (List Int)} {i : Nat} (hs : Ss[i]? = some s) (hp : ps[i]? = some p) :
    Globe.checkL rest (Ss.drop i) (ps.drop i) = (Globe.containsB s p && Globe.containsB rest p && Globe.checkL (Globe.lessL rest p) (Ss.drop (i + 1)) (ps.drop (i + 1))) := by
  obtain ⟨h1, e1⟩ := List.getElem?_eq_some_iff.1 hs
  obtain ⟨h2, e2⟩ := List.getElem?_eq_some_iff.1 hp
  rw [List.drop_eq_getElem_cons h1, List.drop_eq_getElem_cons h2, e1, e2]
  rfl
theorem check_end {rest : List Int} {Ss ps : List (List Int)} {n : Nat} (hs : Ss.length = n) (hp : ps.length = n) : Globe.checkL rest (Ss.drop n) (ps.drop n) = decide ((Globe.cellsTo rest 24).length = 0) := by
  rw [← hs, List.drop_length, hs, ← hp, List.drop_length]; rfl

set_option maxHeartbeats 1000000 in
theorem Check_no {w1 w2 : World} {a a1 : Option Addr} {n n1 np : Nat} {ss : List (List Int × List Int)} {l : List Int} {v : Bool} (c k cp : Nat) (ap : Option Addr) (w : World) (hl : AA w1 a1 l n1 v) (e1 : Ext w1 w) (h : StripsAt w2 a n ss) (e2 : Ext w2 w) (_hnp : np ≤ 140737488355328) (hno : (decide (np = n) && (v && Globe.stripsOk ss)) = false) :
    Calls Tryd.prog 23 #[.agg #[.slice a1 n1 k], .slice a n c, .slice ap np cp] w fun e w' => e = .returned (.bool false) ∧ Ext w w' := by
  have hn := h.2.1
  have H := Lib.hid (h.ext e2)
  replace hl := hl.ext e1
  clear h e1 e2
  by_cases hq : np = n
  · have hd : (np : Int) = (n : Int) := by omega
    rw [decide_eq_true hq, Bool.true_and] at hno
    subst hq
    clear hd
    cases v
    · go_enter Tryd.func23, Tryd.ntmps23
      go_wp2_with (go_at_call 38; refine (Valid_e k _ hl (by (repeat' (first | (with_reducible assumption) | (with_reducible exact Ext.refl _) | (with_reducible refine Ext.alloc ?_ _) | (with_reducible refine Ext.drew ?_) | (with_reducible refine Ext.drewN ?_ _) | (with_reducible refine Ext.setCell ?_ ?_ _) | (with_reducible refine Ext.trans ?_ (by assumption)) | go_size)))).mono ?_; rintro e w1 ⟨rfl, hb⟩; have hc := hb.cellE; have hf := hb.frozenE; have hz := hb.size; have ha := alloc_keeps w1; (try simp only [World.size_alloc] at hc hf hz); (try simp only [World.size_setCell] at hc hf hz); (try simp only [World.size_drew] at hc hf hz))
      go_ret
      exact ⟨rfl, by (repeat' (first | (with_reducible assumption) | (with_reducible exact Ext.refl _) | (with_reducible refine Ext.alloc ?_ _) | (with_reducible refine Ext.drew ?_) | (with_reducible refine Ext.drewN ?_ _) | (with_reducible refine Ext.setCell ?_ ?_ _) | (with_reducible refine Ext.trans ?_ (by assumption)) | go_size))⟩
    · have hs : Globe.stripsOk ss = false := by simpa using hno
      have Hs := Lib.hid hs; clear hs hno
      go_enter Tryd.func23, Tryd.ntmps23
      go_wp2_with fail
      refine (Valid_e k _ hl (by (repeat' (first | (with_reducible assumption) | (with_reducible exact Ext.refl _) | (with_reducible refine Ext.alloc ?_ _) | (with_reducible refine Ext.drew ?_) | (with_reducible refine Ext.drewN ?_ _) | (with_reducible refine Ext.setCell ?_ ?_ _) | (with_reducible refine Ext.trans ?_ (by assumption)) | go_size)))).mono ?_
      rintro e w1 ⟨rfl, hb⟩
      have hc := hb.cellE; have hf := hb.frozenE; have hz := hb.size; have ha := alloc_keeps w1; (try simp only [World.size_alloc] at hc hf hz); (try simp only [World.size_setCell] at hc hf hz); (try simp only [World.size_drew] at hc hf hz)
      go_wp2_with fail
      refine (ValidS_r c _ H.out (by (repeat' (first | (with_reducible assumption) | (with_reducible exact Ext.refl _) | (with_reducible refine Ext.alloc ?_ _) | (with_reducible refine Ext.drew ?_) | (with_reducible refine Ext.drewN ?_ _) | (with_reducible refine Ext.setCell ?_ ?_ _) | (with_reducible refine Ext.trans ?_ (by assumption)) | go_size))) Hs.out).mono ?_
      rintro e w2 ⟨rfl, hb⟩
      go_wp2_with fail
      go_ret
      exact ⟨rfl, by (repeat' (first | (with_reducible assumption) | (with_reducible exact Ext.refl _) | (with_reducible refine Ext.alloc ?_ _) | (with_reducible refine Ext.drew ?_) | (with_reducible refine Ext.drewN ?_ _) | (with_reducible refine Ext.setCell ?_ ?_ _) | (with_reducible refine Ext.trans ?_ (by assumption)) | go_size))⟩
  · have hd : ¬ (np : Int) = (n : Int) := by omega
    clear hno hq
    go_enter Tryd.func23, Tryd.ntmps23
    go_wp2_with fail
    go_ret
    exact ⟨rfl, by (repeat' (first | (with_reducible assumption) | (with_reducible exact Ext.refl _) | (with_reducible refine Ext.alloc ?_ _) | (with_reducible refine Ext.drew ?_) | (with_reducible refine Ext.drewN ?_ _) | (with_reducible refine Ext.setCell ?_ ?_ _) | (with_reducible refine Ext.trans ?_ (by assumption)) | go_size))⟩

set_option maxRecDepth 100000 in
set_option maxHeartbeats 8000000 in
theorem Check_v {w1 w2 w3 : World} {a ap : Option Addr} {n : Nat} {ss : List (List Int × List Int)} {ps : List (List Int)} {b o : Nat} (c k cp : Nat) {l : List Int} (w : World) (hl : VA w1 b o l) (e1 : Ext w1 w) (h : StripsAt w2 a n ss) (e2 : Ext w2 w) (hok : Globe.stripsOk ss = true) (hp : AreasAt w3 ap n ps) (e3 : Ext w3 w) (hT : Tab w) :
    Calls Tryd.prog 23 #[.agg #[.slice (some ⟨b, o, none⟩) 24 k], .slice a n c, .slice ap n cp] w fun e w' => e = .returned (.bool (Globe.checkL l (ss.map fun s => s.1) ps)) ∧ Ext w w' := by
  have H := Lib.hid (h.ext e2)
  have HL := Lib.hid (hl.ext e1)
  have HP := Lib.hid (hp.ext e3)
  have HT := Lib.hid hT
  have hbl := HL.out.lt
  have hn := h.2.1
  clear h hl e1 e2 hp e3 hT
  have Hok := Lib.hid hok; clear hok
  go_enter Tryd.func23, Tryd.ntmps23
  go_wp2_with fail
  refine (Valid_e k _ HL.out.aa (by (repeat' (first | (with_reducible assumption) | (with_reducible exact Ext.refl _) | (with_reducible refine Ext.alloc ?_ _) | (with_reducible refine Ext.drew ?_) | (with_reducible refine Ext.drewN ?_ _) | (with_reducible refine Ext.setCell ?_ ?_ _) | (with_reducible refine Ext.trans ?_ (by assumption)) | go_size)))).mono ?_
  rintro e w1 ⟨rfl, hb⟩
  have hc := hb.cellE; have hf := hb.frozenE; have hz := hb.size; have ha := alloc_keeps w1; (try simp only [World.size_alloc] at hc hf hz); (try simp only [World.size_setCell] at hc hf hz); (try simp only [World.size_drew] at hc hf hz)
  go_wp2_with fail
  refine (ValidS_r c _ H.out (by (repeat' (first | (with_reducible assumption) | (with_reducible exact Ext.refl _) | (with_reducible refine Ext.alloc ?_ _) | (with_reducible refine Ext.drew ?_) | (with_reducible refine Ext.drewN ?_ _) | (with_reducible refine Ext.setCell ?_ ?_ _) | (with_reducible refine Ext.trans ?_ (by assumption)) | go_size))) Hok.out).mono ?_
  rintro e w2 ⟨rfl, hb⟩
  have hc := hb.cellE; have hf := hb.frozenE; have hz := hb.size; have ha := alloc_keeps w2; (try simp only [World.size_alloc] at hc hf hz); (try simp only [World.size_setCell] at hc hf hz); (try simp only [World.size_drew] at hc hf hz)
  have hE2 : Ext w w2 := by (repeat' (first | (with_reducible assumption) | (with_reducible exact Ext.refl _) | (with_reducible refine Ext.alloc ?_ _) | (with_reducible refine Ext.drew ?_) | (with_reducible refine Ext.drewN ?_ _) | (with_reducible refine Ext.setCell ?_ ?_ _) | (with_reducible refine Ext.trans ?_ (by assumption)) | go_size))
  go_wp2_with fail
  obtain ⟨R, hR⟩ : ∃ R, R = w2.heap.size := ⟨_, rfl⟩
  have hwR : w.heap.size ≤ R := by have := hE2.size; omega
  refine wp_name (fun V => Ext w V ∧ BoxAt V R 0 (.slice (some ⟨b, o, none⟩) 24 k)) ⟨hE2.trans (Ext.alloc (Ext.refl _) _), by rw [hR]; simp [go_sem], by rw [hR]; simp [go_sem]⟩ ?_
  rw [← hR]
  clear hR hb hc hf hz ha hE2
  clear hb hc hf hz ha
  rintro V ⟨hE, hBR⟩
  go_loopw [28] (fun p wr => ∃ i : Nat, i ≤ n ∧ p = .int .i64 i ∧ Ext w wr ∧ ∃ Br r kr rest, BoxAt wr R 0 (.slice (some ⟨Br, r, none⟩) 24 kr) ∧ Hid (VA wr Br r rest) ∧ Br ≠ R ∧ Hid (Globe.checkL l (ss.map fun s => s.1) ps = Globe.checkL rest ((ss.map fun s => s.1).drop i) (ps.drop i))) (fun p _ => n - (intOf p).toNat)
  case atStart => exact ⟨0, by omega, rfl, hE, b, o, k, l, hBR, HL.out.ext hE, by omega, rfl⟩
  case round =>
    clear hE hBR V
    obtain ⟨i, hi, rfl, hE, Br, r, kr, rest, ⟨cR, fR⟩, Hr, hBr, Hc⟩ := hrel
    have lR := World.block_lt_of_cell? wr _ cR
    by_cases hlt : i < n
    · obtain ⟨b3, off, s, rfl, hs, hst⟩ := H.out.at hlt
      obtain ⟨b4, off4, p, a2, n2, c2, v2, rfl, hp, d2, g2⟩ := HP.out.at hlt
      obtain ⟨q1, q2, q3⟩ := okS_at Hok.out hs
      obtain ⟨B1, o1, c1, B2, o2, cc2, d1, -, g1, -⟩ := hst.v q1 q2
      replace d1 := hE.cell d1; replace d2 := hE.cell d2
      have G1 := Lib.hid (g1.ext hE); have G2 := Lib.hid (g2.ext hE); clear g1 g2 hst q1 q2 q3
      have i0 : (0 : Int) ≤ (i : Int) := by omega
      have i1 : (i : Int) < (n : Int) := by omega
      have hcs := check_step (rest := rest) (Ss := ss.map fun s => s.1) (s := s.1) (by rw [List.getElem?_map, hs]; rfl) hp
      rw [← Hc.out] at hcs
      have Hcs := Lib.hid hcs; clear hcs hs hp Hc
      have ld1 := World.block_lt_of_cell? wr _ d1
      have ld2 := World.block_lt_of_cell? wr _ d2
      obtain ⟨V, rfl⟩ : ∃ V, V = wr := ⟨_, rfl⟩
      cases hq1 : Globe.containsB s.1 p
      · have Hq1 := Lib.hid hq1; clear hq1
        go_wp2_with fail
        obtain ⟨P9, hP9⟩ : ∃ P9, P9 = V.heap.size := ⟨_, rfl⟩
        refine wp_name (fun V1 => Ext V V1 ∧ V1.cell? ⟨P9, 0, none⟩ = some (.slice a2 n2 c2)) ⟨Ext.alloc (Ext.refl _) _, by rw [hP9]; simp [go_sem]⟩ ?_
        rw [← hP9]
        clear hP9
        rintro V1 ⟨hE1, c9⟩
        have d1' := hE1.cell d1
        have cR' := hE1.cell cR
        -- <<chk1
        refine wg_begin [(some 33, [1], []), (some 34, [8], []), (some 35, [33, 34], [0, 1]), (some 36, [35], [2]), (some 37, [36], [3]), (some 38, [9], []), (some 39, [37, 38], [4, 5]), (some 40, [39], [6]), (some 41, [40], [7, 6]), (some 42, [7, 41], [8]), (some 43, [9, 41], [8]), (some 44, [42, 43, 41], [9, 10, 8, 8]), (some 45, [44, 41], [11, 8]), (some 46, [41, 45], [8, 12])] (fun w' => Ext V1 w' ∧ w'.cell? ⟨b3, off + i * 2, none⟩ = some (.slice (some ⟨B1, o1, none⟩) 24 c1) ∧ w'.cell? ⟨P9, 0, none⟩ = some (.slice a2 n2 c2) ∧ w'.cell? ⟨R, 0, none⟩ = some (.slice (some ⟨Br, r, none⟩) 24 kr)) (by kernel_rfl) (by kernel_rfl) (by kernel_rfl) (by kernel_rfl) (by intro c d v a w h; cases d <;> first | exact h | (exact nomatch h.1) | (dsimp +zetaDelta only [Exit.then, Exit.inBlock] at h ⊢; exact h)) (⟨Ext.drew (Ext.refl _), d1', c9, cR'⟩) (fun ops Q L hL hR hK hHeld => ?_); replace hL := Lib.hid hL; have hW1 := @evalW_tmp; have hW2 := @evalW_const; have hW3 := @evalW_func; have hW4 := @look_cons; have hW5 := @look_nil
        have r1 := wg_read hL.out 1 rfl
        have r8 := wg_read hL.out 8 rfl
        have r9 := wg_read hL.out 9 rfl
        (refine wg_take 0 (v := ?_) hR rfl (by kernel_rfl) (by kernel_rfl) ?_ (by with_reducible assumption) ?_; rotate_left; (focus (intro w hSw; (try dsimp only at hSw); go_simp; (try with_reducible rfl))); (dsimp only [putW]))
        (refine wg_take 1 (v := ?_) hR rfl (by kernel_rfl) (by kernel_rfl) ?_ (by with_reducible assumption) ?_; rotate_left; (focus (intro w hSw; (try dsimp only at hSw); go_simp; (try with_reducible rfl))); (dsimp only [putW]))
        (refine wg_take 2 (v := ?_) hR rfl (by kernel_rfl) (by kernel_rfl) ?_ (by with_reducible assumption) ?_; rotate_left; (focus (intro w hSw; (try dsimp only at hSw); go_simp; (try with_reducible rfl))); (dsimp only [putW]))
        (refine wg_take 3 (v := ?_) hR rfl (by kernel_rfl) (by kernel_rfl) ?_ (by with_reducible assumption) ?_; rotate_left; (focus (intro w hSw; (try dsimp only at hSw); go_simp; (try with_reducible rfl))); (dsimp only [putW]))
        (refine wg_take 4 (v := ?_) hR rfl (by kernel_rfl) (by kernel_rfl) ?_ (by with_reducible assumption) ?_; rotate_left; (focus (intro w hSw; (try dsimp only at hSw); go_simp; (try with_reducible rfl))); (dsimp only [putW]))
        (refine wg_take 5 (v := ?_) hR rfl (by kernel_rfl) (by kernel_rfl) ?_ (by with_reducible assumption) ?_; rotate_left; (focus (intro w hSw; (try dsimp only at hSw); go_simp; (try with_reducible rfl))); (dsimp only [putW]))
        (refine wg_step 6 hR rfl (by kernel_rfl) (by kernel_rfl) ?_ (by kernel_rfl); refine wg_call (f := 32) (args := ?_) ?_ ?_; rotate_left; (focus (go_simp; first | done | (with_reducible rfl) | (refine ⟨?_, ?_⟩ <;> with_reducible rfl))); (go_at_call 32; refine (Contains_c c1 c2 _ G1.out.aa (hE1.trans hHeld.1) G2.out (hE1.trans hHeld.1)).mono ?_; rintro e w1 ⟨rfl, hb⟩; rw [Hq1.out]); refine ⟨_, rfl, ⟨hHeld.1.trans hb, hb.cell hHeld.2.1, hb.cell hHeld.2.2.1, hb.cell hHeld.2.2.2⟩, fun hHeld => ?_⟩; (dsimp only [putW]))
        (refine wg_take 7 (v := ?_) hR rfl (by kernel_rfl) (by kernel_rfl) ?_ (by with_reducible assumption) ?_; rotate_left; (focus (intro w hSw; (try dsimp only at hSw); go_simp; (try with_reducible rfl))); (dsimp only [putW]))
        (refine wg_take 8 (v := ?_) hR rfl (by kernel_rfl) (by kernel_rfl) ?_ (by with_reducible assumption) ?_; rotate_left; (focus (intro w hSw; (try dsimp only at hSw); go_simp; (try with_reducible rfl))); (dsimp only [putW]))
        (refine wg_skip 9 hR rfl (by kernel_rfl) (by kernel_rfl) (by with_reducible assumption) ?_; (dsimp only [putW]))
        (refine wg_skip 10 hR rfl (by kernel_rfl) (by kernel_rfl) (by with_reducible assumption) ?_; (dsimp only [putW]))
        (refine wg_skip 11 hR rfl (by kernel_rfl) (by kernel_rfl) (by with_reducible assumption) ?_; (dsimp only [putW]))
        (refine wg_skip 12 hR rfl (by kernel_rfl) (by kernel_rfl) (by with_reducible assumption) ?_; (dsimp only [putW]))
        (refine wg_take 13 (v := ?_) hR rfl (by kernel_rfl) (by kernel_rfl) ?_ (by with_reducible assumption) ?_; rotate_left; (focus (intro w hSw; (try dsimp only at hSw); go_simp; (try with_reducible rfl))); (dsimp only [putW]))
        refine wg_fin hR hK [(33, 13), (0, 12), (0, 11), (0, 10), (0, 9), (0, 8), (0, 7), (0, 6), (0, 5), (0, 4), (0, 3), (0, 2), (0, 1), (0, 0)] (by kernel_rfl) (by kernel_rfl) (by dsimp only [mg, gsOf, valAt]) ?_; clear hW1 hW2 hW3 hW4 hW5 hR hK hL
        clear r1
        clear r8
        clear r9
        -- >>
        have hb := hHeld.1
        clear hHeld
        go_wp2_with fail
        go_ret
        exact ⟨ret_bool (by rw [Hcs.out, Hq1.out]; rfl), hE.trans (hE1.trans hb)⟩
      · have Hq1 := Lib.hid hq1; clear hq1
        cases hq2 : Globe.containsB rest p
        · have Hq2 := Lib.hid hq2; clear hq2
          go_wp2_with fail
          obtain ⟨P9, hP9⟩ : ∃ P9, P9 = V.heap.size := ⟨_, rfl⟩
          refine wp_name (fun V1 => Ext V V1 ∧ V1.cell? ⟨P9, 0, none⟩ = some (.slice a2 n2 c2)) ⟨Ext.alloc (Ext.refl _) _, by rw [hP9]; simp [go_sem]⟩ ?_
          rw [← hP9]
          clear hP9
          rintro V1 ⟨hE1, c9⟩
          have d1' := hE1.cell d1
          have cR' := hE1.cell cR
          -- <<chk2
          refine wg_begin [(some 33, [1], []), (some 34, [8], []), (some 35, [33, 34], [0, 1]), (some 36, [35], [2]), (some 37, [36], [3]), (some 38, [9], []), (some 39, [37, 38], [4, 5]), (some 40, [39], [6]), (some 41, [40], [7, 6]), (some 42, [7, 41], [8]), (some 43, [9, 41], [8]), (some 44, [42, 43, 41], [9, 10, 8, 8]), (some 45, [44, 41], [11, 8]), (some 46, [41, 45], [8, 12])] (fun w' => Ext V1 w' ∧ w'.cell? ⟨b3, off + i * 2, none⟩ = some (.slice (some ⟨B1, o1, none⟩) 24 c1) ∧ w'.cell? ⟨P9, 0, none⟩ = some (.slice a2 n2 c2) ∧ w'.cell? ⟨R, 0, none⟩ = some (.slice (some ⟨Br, r, none⟩) 24 kr)) (by kernel_rfl) (by kernel_rfl) (by kernel_rfl) (by kernel_rfl) (by intro c d v a w h; cases d <;> first | exact h | (exact nomatch h.1) | (dsimp +zetaDelta only [Exit.then, Exit.inBlock] at h ⊢; exact h)) (⟨Ext.drew (Ext.refl _), d1', c9, cR'⟩) (fun ops Q L hL hR hK hHeld => ?_); replace hL := Lib.hid hL; have hW1 := @evalW_tmp; have hW2 := @evalW_const; have hW3 := @evalW_func; have hW4 := @look_cons; have hW5 := @look_nil
          have r1 := wg_read hL.out 1 rfl
          have r8 := wg_read hL.out 8 rfl
          have r9 := wg_read hL.out 9 rfl
          have r7 := wg_read hL.out 7 rfl
          (refine wg_take 0 (v := ?_) hR rfl (by kernel_rfl) (by kernel_rfl) ?_ (by with_reducible assumption) ?_; rotate_left; (focus (intro w hSw; (try dsimp only at hSw); go_simp; (try with_reducible rfl))); (dsimp only [putW]))
          (refine wg_take 1 (v := ?_) hR rfl (by kernel_rfl) (by kernel_rfl) ?_ (by with_reducible assumption) ?_; rotate_left; (focus (intro w hSw; (try dsimp only at hSw); go_simp; (try with_reducible rfl))); (dsimp only [putW]))
          (refine wg_take 2 (v := ?_) hR rfl (by kernel_rfl) (by kernel_rfl) ?_ (by with_reducible assumption) ?_; rotate_left; (focus (intro w hSw; (try dsimp only at hSw); go_simp; (try with_reducible rfl))); (dsimp only [putW]))
          (refine wg_take 3 (v := ?_) hR rfl (by kernel_rfl) (by kernel_rfl) ?_ (by with_reducible assumption) ?_; rotate_left; (focus (intro w hSw; (try dsimp only at hSw); go_simp; (try with_reducible rfl))); (dsimp only [putW]))
          (refine wg_take 4 (v := ?_) hR rfl (by kernel_rfl) (by kernel_rfl) ?_ (by with_reducible assumption) ?_; rotate_left; (focus (intro w hSw; (try dsimp only at hSw); go_simp; (try with_reducible rfl))); (dsimp only [putW]))
          (refine wg_take 5 (v := ?_) hR rfl (by kernel_rfl) (by kernel_rfl) ?_ (by with_reducible assumption) ?_; rotate_left; (focus (intro w hSw; (try dsimp only at hSw); go_simp; (try with_reducible rfl))); (dsimp only [putW]))
          (refine wg_step 6 hR rfl (by kernel_rfl) (by kernel_rfl) ?_ (by kernel_rfl); refine wg_call (f := 32) (args := ?_) ?_ ?_; rotate_left; (focus (go_simp; first | done | (with_reducible rfl) | (refine ⟨?_, ?_⟩ <;> with_reducible rfl))); (go_at_call 32; refine (Contains_c c1 c2 _ G1.out.aa (hE1.trans hHeld.1) G2.out (hE1.trans hHeld.1)).mono ?_; rintro e w1 ⟨rfl, hb⟩; rw [Hq1.out]); refine ⟨_, rfl, ⟨hHeld.1.trans hb, hb.cell hHeld.2.1, hb.cell hHeld.2.2.1, hb.cell hHeld.2.2.2⟩, fun hHeld => ?_⟩; (dsimp only [putW]))
          (refine wg_take 7 (v := ?_) hR rfl (by kernel_rfl) (by kernel_rfl) ?_ (by with_reducible assumption) ?_; rotate_left; (focus (intro w hSw; (try dsimp only at hSw); go_simp; (try with_reducible rfl))); (dsimp only [putW]))
          (refine wg_take 8 (v := ?_) hR rfl (by kernel_rfl) (by kernel_rfl) ?_ (by with_reducible assumption) ?_; rotate_left; (focus (intro w hSw; (try dsimp only at hSw); go_simp; (try with_reducible rfl))); (dsimp only [putW]))
          (refine wg_take 9 (v := ?_) hR rfl (by kernel_rfl) (by kernel_rfl) ?_ (by with_reducible assumption) ?_; rotate_left; (focus (intro w hSw; (try dsimp only at hSw); go_simp; (try with_reducible rfl))); (dsimp only [putW]))
          (refine wg_take 10 (v := ?_) hR rfl (by kernel_rfl) (by kernel_rfl) ?_ (by with_reducible assumption) ?_; rotate_left; (focus (intro w hSw; (try dsimp only at hSw); go_simp; (try with_reducible rfl))); (dsimp only [putW]))
          (refine wg_step 11 hR rfl (by kernel_rfl) (by kernel_rfl) ?_ (by kernel_rfl); refine wg_call (f := 32) (args := ?_) ?_ ?_; rotate_left; (focus (go_simp; first | done | (with_reducible rfl) | (refine ⟨?_, ?_⟩ <;> with_reducible rfl))); (go_at_call 32; refine (Contains_c kr c2 _ Hr.out.aa (hE1.trans hHeld.1) G2.out (hE1.trans hHeld.1)).mono ?_; rintro e w1 ⟨rfl, hb⟩; rw [Hq2.out]); refine ⟨_, rfl, ⟨hHeld.1.trans hb, hb.cell hHeld.2.1, hb.cell hHeld.2.2.1, hb.cell hHeld.2.2.2⟩, fun hHeld => ?_⟩; (dsimp only [putW]))
          (refine wg_take 12 (v := ?_) hR rfl (by kernel_rfl) (by kernel_rfl) ?_ (by with_reducible assumption) ?_; rotate_left; (focus (intro w hSw; (try dsimp only at hSw); go_simp; (try with_reducible rfl))); (dsimp only [putW]))
          (refine wg_take 13 (v := ?_) hR rfl (by kernel_rfl) (by kernel_rfl) ?_ (by with_reducible assumption) ?_; rotate_left; (focus (intro w hSw; (try dsimp only at hSw); go_simp; (try with_reducible rfl))); (dsimp only [putW]))
          refine wg_fin hR hK [(33, 13), (0, 12), (0, 11), (0, 10), (0, 9), (0, 8), (0, 7), (0, 6), (0, 5), (0, 4), (0, 3), (0, 2), (0, 1), (0, 0)] (by kernel_rfl) (by kernel_rfl) (by dsimp only [mg, gsOf, valAt]) ?_; clear hW1 hW2 hW3 hW4 hW5 hR hK hL
          clear r1
          clear r8
          clear r9
          clear r7
          -- >>
          have hb := hHeld.1
          clear hHeld
          go_wp2_with fail
          go_ret
          exact ⟨ret_bool (by rw [Hcs.out, Hq1.out, Hq2.out]; rfl), hE.trans (hE1.trans hb)⟩
        · have hvp := (Globe.contains_v hq2).2
          obtain rfl : v2 = true := G2.out.2.2.2.symm.trans hvp
          obtain ⟨B2', o2', rfl, rfl, g2'⟩ := G2.out.va
          have G3 := Lib.hid g2'; clear g2' hvp
          have Hq2 := Lib.hid hq2; clear hq2
          go_wp2_with fail
          obtain ⟨P9, hP9⟩ : ∃ P9, P9 = V.heap.size := ⟨_, rfl⟩
          refine wp_name (fun V1 => Ext V V1 ∧ V1.cell? ⟨P9, 0, none⟩ = some (.slice (some ⟨B2', o2', none⟩) 24 c2)) ⟨Ext.alloc (Ext.refl _) _, by rw [hP9]; simp [go_sem]⟩ ?_
          rw [← hP9]
          clear hP9
          rintro V1 ⟨hE1, c9⟩
          have d1' := hE1.cell d1
          have cR' := hE1.cell cR
          -- <<chk3
          refine wg_begin [(some 33, [1], []), (some 34, [8], []), (some 35, [33, 34], [0, 1]), (some 36, [35], [2]), (some 37, [36], [3]), (some 38, [9], []), (some 39, [37, 38], [4, 5]), (some 40, [39], [6]), (some 41, [40], [7, 6]), (some 42, [7, 41], [8]), (some 43, [9, 41], [8]), (some 44, [42, 43, 41], [9, 10, 8, 8]), (some 45, [44, 41], [11, 8]), (some 46, [41, 45], [8, 12])] (fun w' => Ext V1 w' ∧ w'.cell? ⟨b3, off + i * 2, none⟩ = some (.slice (some ⟨B1, o1, none⟩) 24 c1) ∧ w'.cell? ⟨P9, 0, none⟩ = some (.slice (some ⟨B2', o2', none⟩) 24 c2) ∧ w'.cell? ⟨R, 0, none⟩ = some (.slice (some ⟨Br, r, none⟩) 24 kr)) (by kernel_rfl) (by kernel_rfl) (by kernel_rfl) (by kernel_rfl) (by intro c d v a w h; cases d <;> first | exact h | (exact nomatch h.1) | (dsimp +zetaDelta only [Exit.then, Exit.inBlock] at h ⊢; exact h)) (⟨Ext.drew (Ext.refl _), d1', c9, cR'⟩) (fun ops Q L hL hR hK hHeld => ?_); replace hL := Lib.hid hL; have hW1 := @evalW_tmp; have hW2 := @evalW_const; have hW3 := @evalW_func; have hW4 := @look_cons; have hW5 := @look_nil
          have r1 := wg_read hL.out 1 rfl
          have r8 := wg_read hL.out 8 rfl
          have r9 := wg_read hL.out 9 rfl
          have r7 := wg_read hL.out 7 rfl
          (refine wg_take 0 (v := ?_) hR rfl (by kernel_rfl) (by kernel_rfl) ?_ (by with_reducible assumption) ?_; rotate_left; (focus (intro w hSw; (try dsimp only at hSw); go_simp; (try with_reducible rfl))); (dsimp only [putW]))
          (refine wg_take 1 (v := ?_) hR rfl (by kernel_rfl) (by kernel_rfl) ?_ (by with_reducible assumption) ?_; rotate_left; (focus (intro w hSw; (try dsimp only at hSw); go_simp; (try with_reducible rfl))); (dsimp only [putW]))
          (refine wg_take 2 (v := ?_) hR rfl (by kernel_rfl) (by kernel_rfl) ?_ (by with_reducible assumption) ?_; rotate_left; (focus (intro w hSw; (try dsimp only at hSw); go_simp; (try with_reducible rfl))); (dsimp only [putW]))
          (refine wg_take 3 (v := ?_) hR rfl (by kernel_rfl) (by kernel_rfl) ?_ (by with_reducible assumption) ?_; rotate_left; (focus (intro w hSw; (try dsimp only at hSw); go_simp; (try with_reducible rfl))); (dsimp only [putW]))
          (refine wg_take 4 (v := ?_) hR rfl (by kernel_rfl) (by kernel_rfl) ?_ (by with_reducible assumption) ?_; rotate_left; (focus (intro w hSw; (try dsimp only at hSw); go_simp; (try with_reducible rfl))); (dsimp only [putW]))
          (refine wg_take 5 (v := ?_) hR rfl (by kernel_rfl) (by kernel_rfl) ?_ (by with_reducible assumption) ?_; rotate_left; (focus (intro w hSw; (try dsimp only at hSw); go_simp; (try with_reducible rfl))); (dsimp only [putW]))
          (refine wg_step 6 hR rfl (by kernel_rfl) (by kernel_rfl) ?_ (by kernel_rfl); refine wg_call (f := 32) (args := ?_) ?_ ?_; rotate_left; (focus (go_simp; first | done | (with_reducible rfl) | (refine ⟨?_, ?_⟩ <;> with_reducible rfl))); (go_at_call 32; refine (Contains_c c1 c2 _ G1.out.aa (hE1.trans hHeld.1) G3.out.aa (hE1.trans hHeld.1)).mono ?_; rintro e w1 ⟨rfl, hb⟩; rw [Hq1.out]); refine ⟨_, rfl, ⟨hHeld.1.trans hb, hb.cell hHeld.2.1, hb.cell hHeld.2.2.1, hb.cell hHeld.2.2.2⟩, fun hHeld => ?_⟩; (dsimp only [putW]))
          (refine wg_take 7 (v := ?_) hR rfl (by kernel_rfl) (by kernel_rfl) ?_ (by with_reducible assumption) ?_; rotate_left; (focus (intro w hSw; (try dsimp only at hSw); go_simp; (try with_reducible rfl))); (dsimp only [putW]))
          (refine wg_take 8 (v := ?_) hR rfl (by kernel_rfl) (by kernel_rfl) ?_ (by with_reducible assumption) ?_; rotate_left; (focus (intro w hSw; (try dsimp only at hSw); go_simp; (try with_reducible rfl))); (dsimp only [putW]))
          (refine wg_take 9 (v := ?_) hR rfl (by kernel_rfl) (by kernel_rfl) ?_ (by with_reducible assumption) ?_; rotate_left; (focus (intro w hSw; (try dsimp only at hSw); go_simp; (try with_reducible rfl))); (dsimp only [putW]))
          (refine wg_take 10 (v := ?_) hR rfl (by kernel_rfl) (by kernel_rfl) ?_ (by with_reducible assumption) ?_; rotate_left; (focus (intro w hSw; (try dsimp only at hSw); go_simp; (try with_reducible rfl))); (dsimp only [putW]))
          (refine wg_step 11 hR rfl (by kernel_rfl) (by kernel_rfl) ?_ (by kernel_rfl); refine wg_call (f := 32) (args := ?_) ?_ ?_; rotate_left; (focus (go_simp; first | done | (with_reducible rfl) | (refine ⟨?_, ?_⟩ <;> with_reducible rfl))); (go_at_call 32; refine (Contains_c kr c2 _ Hr.out.aa (hE1.trans hHeld.1) G3.out.aa (hE1.trans hHeld.1)).mono ?_; rintro e w1 ⟨rfl, hb⟩; rw [Hq2.out]); refine ⟨_, rfl, ⟨hHeld.1.trans hb, hb.cell hHeld.2.1, hb.cell hHeld.2.2.1, hb.cell hHeld.2.2.2⟩, fun hHeld => ?_⟩; (dsimp only [putW]))
          (refine wg_take 12 (v := ?_) hR rfl (by kernel_rfl) (by kernel_rfl) ?_ (by with_reducible assumption) ?_; rotate_left; (focus (intro w hSw; (try dsimp only at hSw); go_simp; (try with_reducible rfl))); (dsimp only [putW]))
          (refine wg_take 13 (v := ?_) hR rfl (by kernel_rfl) (by kernel_rfl) ?_ (by with_reducible assumption) ?_; rotate_left; (focus (intro w hSw; (try dsimp only at hSw); go_simp; (try with_reducible rfl))); (dsimp only [putW]))
          refine wg_fin hR hK [(33, 13), (0, 12), (0, 11), (0, 10), (0, 9), (0, 8), (0, 7), (0, 6), (0, 5), (0, 4), (0, 3), (0, 2), (0, 1), (0, 0)] (by kernel_rfl) (by kernel_rfl) (by dsimp only [mg, gsOf, valAt]) ?_; clear hW1 hW2 hW3 hW4 hW5 hR hK hL
          clear r1
          clear r8
          clear r9
          clear r7
          -- >>
          refine exit_at (fun V2 => Ext V V2 ∧ V2.cell? ⟨P9, 0, none⟩ = some (.slice (some ⟨B2', o2', none⟩) 24 c2)) ⟨hE1.trans hHeld.1, hHeld.2.2.1⟩ ?_
          clear hHeld hE1 c9 d1' cR'
          rintro V2 ⟨hE2, c9⟩
          obtain ⟨cR2, fR2⟩ := BoxAt.ext hE2 ⟨cR, fR⟩
          have lR2 := World.block_lt_of_cell? V2 _ cR2
          have l9 := World.block_lt_of_cell? V2 _ c9
          go_wp2_with fail
          refine (less_v kr c2 _ (Hr.out.ext hE2) (Ext.refl _) (G3.out.ext hE2) (Ext.refl _)).mono ?_
          rintro e w5 ⟨B5, k5, rfl, hB5, hv5, hb⟩
          have hc := hb.cellE; have hf := hb.frozenE; have hz := hb.size; have ha := alloc_keeps w5; (try simp only [World.size_alloc] at hc hf hz); (try simp only [World.size_setCell] at hc hf hz); (try simp only [World.size_drew] at hc hf hz)
          have HV5 := Lib.hid hv5; clear hv5
          go_wp2_with fail
          go_roundw
          case rel =>
            refine ⟨i + 1, by omega, by go_num, Ext.setCell (hE.trans (hE2.trans hb)) (p := ⟨R, 0, none⟩) hwR _, B5, 0, k5, _, BoxAt.set (BoxAt.ext hb ⟨cR2, fR2⟩) _, VA.other HV5.out (p := ⟨R, 0, none⟩) (by show R ≠ B5; omega) _, by omega, ?_⟩
            show _ = _
            rw [Hcs.out, Hq1.out, Hq2.out]; rfl
          case measure => simp [intOf]; omega
    · obtain rfl : i = n := by omega
      have hce := check_end (rest := rest) (Ss := ss.map fun s => s.1) (ps := ps) (n := i) (by rw [List.length_map]; exact H.out.1) HP.out.1
      rw [← Hc.out] at hce
      have Hce := Lib.hid hce; clear hce Hc
      go_wp2_with fail
      refine (Count_v kr _ Hr.out (Ext.refl _) (HT.out.ext hE)).mono ?_
      rintro e w5 ⟨rfl, hb⟩
      go_wp2_with fail
      go_ret
      exact ⟨ret_bool (by rw [Hce.out, Bool.eq_iff_iff]; simp), hE.trans hb⟩

theorem Check_c {w1 w2 w3 : World} {a a1 ap : Option Addr} {n n1 np : Nat} {ss : List (List Int × List Int)} {ps : List (List Int)} {l : List Int} {v : Bool} (c k cp : Nat) (w : World) (hl : AA w1 a1 l n1 v) (e1 : Ext w1 w) (h : StripsAt w2 a n ss) (e2 : Ext w2 w) (hp : AreasAt w3 ap np ps) (e3 : Ext w3 w) (hT : Tab w) :
    Calls Tryd.prog 23 #[.agg #[.slice a1 n1 k], .slice a n c, .slice ap np cp] w fun e w' => e = .returned (.bool (checkB l ss ps)) ∧ Ext w w' := by
  have hv := hl.2.2.2
  have hlen := h.1
  have hlp := hp.1
  unfold checkB
  rw [hv, hlen, hlp]
  cases hq : (decide (np = n) && (v && Globe.stripsOk ss))
  · rw [← Bool.and_assoc v, ← Bool.and_assoc, hq, Bool.false_and]
    exact Check_no c k cp ap w hl e1 h e2 hp.2.1 hq
  · simp only [Bool.and_eq_true, decide_eq_true_eq] at hq
    obtain ⟨rfl, rfl, hok⟩ := hq
    obtain ⟨b, o, rfl, rfl, r⟩ := hl.va
    rw [hok, decide_eq_true rfl, Bool.true_and, Bool.true_and, Bool.true_and]
    exact Check_v c k cp w r e1 h e2 hok hp e3 hT
theorem Check_r {w1 w2 w3 : World} {a a1 ap : Option Addr} {n n1 np : Nat} {ss : List (List Int × List Int)} {ps : List (List Int)} {l : List Int} {v r : Bool} (c k cp : Nat) (w : World) (hl : AA w1 a1 l n1 v) (e1 : Ext w1 w) (h : StripsAt w2 a n ss) (e2 : Ext w2 w) (hp : AreasAt w3 ap np ps) (e3 : Ext w3 w) (hT : Tab w) (hr : checkB l ss ps = r) :
    Calls Tryd.prog 23 #[.agg #[.slice a1 n1 k], .slice a n c, .slice ap np cp] w fun e w' => e = .returned (.bool r) ∧ Ext w w' := hr ▸ Check_c c k cp w hl e1 h e2 hp e3 hT

end Go.Proofs.YtglfoglkdbbmmaaDoor

/- Contracts of chapter 16's laws and reference: row, SameAreas, Ints. -/
namespace Go.Proofs.YtglfoglkdbbmmaaDoor
open Go.RowKit

def rowL (r : Nat) : List Int := Globe.zeroL.set 0 (r : Int)
theorem rowL_valid {r : Nat} (h : r < 281474976710656) : Globe.validL (rowL r) = true := Globe.valid_set Globe.valid_zero (by omega) (by omega)

set_option maxHeartbeats 1000000 in
theorem row_c (r : Nat) (w : World) (h : r < 281474976710656) : Calls Tryd.prog 35 #[.int .i64 (r : Int)] w (RetF w (rowL r)) := by
  have hmk := make24
  go_enter Tryd.func35, Tryd.ntmps35
  go_wp2_with fail
  have hr := RowsAt.new (w.alloc (.cells #[.slice (some ⟨w.heap.size + 1, 0, none⟩) 24 24] 25)) (rowL r) 3 rfl
  have hv := ((RowsAt.va hr (rowL_valid h)).ext (Ext.alloc (Ext.refl _) (.cells #[.slice (some ⟨w.heap.size + 1, 0, none⟩) 24 24] 25)))
  rw [World.size_alloc] at hv
  refine bodyPost_ret (v := .agg #[.slice (some ⟨w.heap.size + 1, 0, none⟩) 24 24]) (by simp [results, Tryd.results35, go_sem]) rfl ⟨w.heap.size + 1, 24, rfl, by omega, hv, by (repeat' (first | (with_reducible assumption) | (with_reducible exact Ext.refl _) | (with_reducible refine Ext.alloc ?_ _) | (with_reducible refine Ext.drew ?_) | (with_reducible refine Ext.drewN ?_ _) | (with_reducible refine Ext.setCell ?_ ?_ _) | (with_reducible refine Ext.trans ?_ (by assumption)) | go_size))⟩

set_option maxHeartbeats 1000000 in
theorem rSameAreas_t {w1 w2 : World} {a1 a2 : Option Addr} {n : Nat} {ls : List (List Int)} (c1 c2 : Nat) (w : World) (h1 : AreasAt w1 a1 n ls) (e1 : Ext w1 w) (h2 : AreasAt w2 a2 n ls) (e2 : Ext w2 w) :
    Calls Tryd.prog 22 #[.slice a1 n c1, .slice a2 n c2] w fun e w' => e = .returned (.bool true) ∧ Ext w w' := by
  have H1 := Lib.hid (h1.ext e1); have H2 := Lib.hid (h2.ext e2)
  have hn := h1.2.1
  clear h1 h2 e1 e2
  go_enter Tryd.func22, Tryd.ntmps22
  go_wp2_with fail
  go_loopw [5] (fun p wr => ∃ i : Nat, i ≤ n ∧ p = .int .i64 i ∧ Ext w wr) (fun p _ => n - (intOf p).toNat)
  case atStart => exact ⟨0, by omega, rfl, Ext.refl _⟩
  case round =>
    obtain ⟨i, hi, rfl, hE⟩ := hrel
    by_cases hlt : i < n
    · obtain ⟨b1, o1, l1, x1, n1, k1, v1, rfl, hl1, d1, g1⟩ := H1.out.at hlt
      obtain ⟨b2, o2, l2, x2, n2, k2, v2, rfl, hl2, d2, g2⟩ := H2.out.at hlt
      rw [hl1] at hl2; cases hl2
      have q1 := hE.cell d1; have q2 := hE.cell d2
      have i0 : (0 : Int) ≤ (i : Int) := by omega
      have i1 : (i : Int) < (n : Int) := by omega
      clear hl1 d1 d2
      obtain ⟨V, rfl⟩ : ∃ V, V = wr := ⟨_, rfl⟩
      go_wp2_with fail
      -- <<same
      refine wg_begin [(some 17, [0], []), (some 18, [5], []), (some 19, [17, 18], [0, 1]), (some 20, [19], [2]), (some 21, [1], []), (some 22, [5], []), (some 23, [21, 22], [4, 5]), (some 24, [23], [6]), (some 25, [20, 24], [3, 7]), (some 26, [25], [8])] (fun w' => Ext V w' ∧ w'.cell? ⟨b1, o1 + i, none⟩ = some (.slice x1 n1 k1) ∧ w'.cell? ⟨b2, o2 + i, none⟩ = some (.slice x2 n2 k2)) (by kernel_rfl) (by kernel_rfl) (by kernel_rfl) (by kernel_rfl) (by intro c d v a w h; cases d <;> first | exact h | (exact nomatch h.1) | (dsimp +zetaDelta only [Exit.then, Exit.inBlock] at h ⊢; exact h)) (⟨Ext.drew (Ext.refl _), q1, q2⟩) (fun ops Q L hL hR hK hHeld => ?_); replace hL := Lib.hid hL; have hW1 := @evalW_tmp; have hW2 := @evalW_const; have hW3 := @evalW_func; have hW4 := @look_cons; have hW5 := @look_nil
      have r0 := wg_read hL.out 0 rfl
      have r5 := wg_read hL.out 5 rfl
      have r1 := wg_read hL.out 1 rfl
      (refine wg_take 0 (v := ?_) hR rfl (by kernel_rfl) (by kernel_rfl) ?_ (by with_reducible assumption) ?_; rotate_left; (focus (intro w hSw; (try dsimp only at hSw); go_simp; (try with_reducible rfl))); (dsimp only [putW]))
      (refine wg_take 1 (v := ?_) hR rfl (by kernel_rfl) (by kernel_rfl) ?_ (by with_reducible assumption) ?_; rotate_left; (focus (intro w hSw; (try dsimp only at hSw); go_simp; (try with_reducible rfl))); (dsimp only [putW]))
      (refine wg_take 2 (v := ?_) hR rfl (by kernel_rfl) (by kernel_rfl) ?_ (by with_reducible assumption) ?_; rotate_left; (focus (intro w hSw; (try dsimp only at hSw); go_simp; (try with_reducible rfl))); (dsimp only [putW]))
      (refine wg_take 3 (v := ?_) hR rfl (by kernel_rfl) (by kernel_rfl) ?_ (by with_reducible assumption) ?_; rotate_left; (focus (intro w hSw; (try dsimp only at hSw); go_simp; (try with_reducible rfl))); (dsimp only [putW]))
      (refine wg_take 4 (v := ?_) hR rfl (by kernel_rfl) (by kernel_rfl) ?_ (by with_reducible assumption) ?_; rotate_left; (focus (intro w hSw; (try dsimp only at hSw); go_simp; (try with_reducible rfl))); (dsimp only [putW]))
      (refine wg_take 5 (v := ?_) hR rfl (by kernel_rfl) (by kernel_rfl) ?_ (by with_reducible assumption) ?_; rotate_left; (focus (intro w hSw; (try dsimp only at hSw); go_simp; (try with_reducible rfl))); (dsimp only [putW]))
      (refine wg_take 6 (v := ?_) hR rfl (by kernel_rfl) (by kernel_rfl) ?_ (by with_reducible assumption) ?_; rotate_left; (focus (intro w hSw; (try dsimp only at hSw); go_simp; (try with_reducible rfl))); (dsimp only [putW]))
      (refine wg_take 7 (v := ?_) hR rfl (by kernel_rfl) (by kernel_rfl) ?_ (by with_reducible assumption) ?_; rotate_left; (focus (intro w hSw; (try dsimp only at hSw); go_simp; (try with_reducible rfl))); (dsimp only [putW]))
      (refine wg_step 8 hR rfl (by kernel_rfl) (by kernel_rfl) ?_ (by kernel_rfl); refine wg_call (f := 21) (args := ?_) ?_ ?_; rotate_left; (focus (go_simp; first | done | (with_reducible rfl) | (refine ⟨?_, ?_⟩ <;> with_reducible rfl))); (go_at_call 21; refine (rSame_c k1 k2 _ g1 (hE.trans hHeld.1) g2 (hE.trans hHeld.1)).mono ?_; rintro e w1 ⟨rfl, hb⟩; rw [decide_eq_true rfl]); refine ⟨_, rfl, ⟨hHeld.1.trans hb, hb.cell hHeld.2.1, hb.cell hHeld.2.2⟩, fun hHeld => ?_⟩; (dsimp only [putW]))
      (refine wg_take 9 (v := ?_) hR rfl (by kernel_rfl) (by kernel_rfl) ?_ (by with_reducible assumption) ?_; rotate_left; (focus (intro w hSw; (try dsimp only at hSw); go_simp; (try with_reducible rfl))); (dsimp only [putW]))
      refine wg_fin hR hK [(17, 9), (0, 8), (0, 7), (0, 6), (0, 5), (0, 4), (0, 3), (0, 2), (0, 1), (0, 0)] (by kernel_rfl) (by kernel_rfl) (by dsimp only [mg, gsOf, valAt]) ?_; clear hW1 hW2 hW3 hW4 hW5 hR hK hL
      clear r0
      clear r5
      clear r1
      -- >>
      have hb := hHeld.1
      clear hHeld
      go_wp2_with fail
      go_roundw
      case rel => exact ⟨i + 1, by omega, by go_num, hE.trans hb⟩
      case measure => simp [intOf]; omega
    · obtain rfl : i = n := by omega
      go_wp2_with fail
      go_ret
      exact ⟨rfl, hE⟩

set_option maxHeartbeats 1000000 in
theorem rInts_t {w1 w2 : World} {a1 a2 : Option Addr} {n : Nat} {l : List Int} (c1 c2 : Nat) (w : World) (h1 : IntsAt w1 a1 l) (e1 : Ext w1 w) (h2 : IntsAt w2 a2 l) (e2 : Ext w2 w) (hl : l.length = n) (hn : n ≤ 140737488355328) :
    Calls Tryd.prog 27 #[.slice a1 n c1, .slice a2 n c2] w fun e w' => e = .returned (.bool true) ∧ Ext w w' := by
  have H1 := Lib.hid (h1.ext e1); have H2 := Lib.hid (h2.ext e2)
  have Hl := Lib.hid hl
  clear h1 h2 e1 e2 hl
  go_enter Tryd.func27, Tryd.ntmps27
  go_wp2_with fail
  go_loopw [5] (fun p wr => ∃ i : Nat, i ≤ n ∧ p = .int .i64 i ∧ Ext w wr) (fun p _ => n - (intOf p).toNat)
  case atStart => exact ⟨0, by omega, rfl, Ext.refl _⟩
  case round =>
    obtain ⟨i, hi, rfl, hE⟩ := hrel
    by_cases hlt : i < n
    · obtain ⟨b1, o1, rfl, q1⟩ : ∃ b off, a1 = some ⟨b, off, none⟩ ∧ ∀ i, i < l.length → w.cell? ⟨b, off + i, none⟩ = some (.int .i64 (Globe.nth l i)) := H1.out.resolve_left (by intro e; have := Hl.out; rw [e] at this; simp at this; omega)
      obtain ⟨b2, o2, rfl, q2⟩ : ∃ b off, a2 = some ⟨b, off, none⟩ ∧ ∀ i, i < l.length → w.cell? ⟨b, off + i, none⟩ = some (.int .i64 (Globe.nth l i)) := H2.out.resolve_left (by intro e; have := Hl.out; rw [e] at this; simp at this; omega)
      have d1 := hE.cell (q1 i (by rw [Hl.out]; exact hlt))
      have d2 := hE.cell (q2 i (by rw [Hl.out]; exact hlt))
      clear q1 q2
      generalize Globe.nth l i = z at *
      have i0 : (0 : Int) ≤ (i : Int) := by omega
      have i1 : (i : Int) < (n : Int) := by omega
      go_wp2_with fail
      go_quiet (fail)
      go_wp2_with fail
      go_roundw
      case rel => exact ⟨i + 1, by omega, by go_num, Ext.drewN hE _⟩
      case measure => simp [intOf]; omega
    · obtain rfl : i = n := by omega
      go_wp2_with fail
      go_ret
      exact ⟨rfl, hE⟩

end Go.Proofs.YtglfoglkdbbmmaaDoor

/- The laws' own check of the chapter's examples. -/
namespace Go.Proofs.YtglfoglkdbbmmaaDoor
open Go.RowKit Go.Shelf

theorem ex_can : Globe.leftL (rowL 14) [rowL 14] = rowL 0 := by decide +kernel
theorem ex_sure : Globe.leftL (rowL 14) [rowL 6] = rowL 8 := by decide +kernel
theorem ex_pieces : Globe.piecesL (rowL 14) [rowL 6, rowL 4, rowL 12] = [rowL 6, rowL 0, rowL 8] := by decide +kernel
theorem ex_rest : Globe.leftL (rowL 14) [rowL 6, rowL 4, rowL 12] = rowL 0 := by decide +kernel
theorem ex_few : Globe.fewestL (Globe.enough (rowL 14) [rowL 6, rowL 4, rowL 12]) 3 = some [0, 2] := by decide +kernel
theorem ex_none : Globe.fewestL (Globe.enough (rowL 14) [rowL 6, rowL 4]) 2 = none := by decide +kernel
theorem ex_ok : Globe.stripsOk [(rowL 6, rowL 14), (rowL 4, rowL 4), (rowL 12, rowL 12)] = true := by decide +kernel
theorem ex_ok1 : Globe.stripsOk [(rowL 6, rowL 14)] = true := by decide +kernel
theorem ex_ok2 : Globe.stripsOk [(rowL 6, rowL 14), (rowL 4, rowL 4)] = true := by decide +kernel
theorem ex_check : checkB (rowL 14) [(rowL 6, rowL 14), (rowL 4, rowL 4), (rowL 12, rowL 12)] [rowL 6, rowL 0, rowL 8] = true := by decide +kernel
theorem ex_check2 : checkB (rowL 14) [(rowL 6, rowL 14), (rowL 4, rowL 4)] [rowL 6, rowL 0] = false := by decide +kernel
theorem ex_bad : Globe.stripsOk [([], [])] = false := by decide +kernel
theorem ex_bad0 : Globe.validL [] = false := by decide +kernel
/-- The first strips of a slice of strips. -/
theorem StripsAt.take {w : World} {a : Option Addr} {n : Nat} {ss : List (List Int × List Int)} (h : StripsAt w a n ss) (m : Nat) (hm : m ≤ n) : StripsAt w a m (ss.take m) :=
  ⟨by rw [List.length_take, h.1]; omega, by have := h.2.1; omega, by
    rcases h.2.2 with h0 | ⟨b, off, ha, hc⟩
    · exact .inl (by omega)
    · exact .inr ⟨b, off, ha, fun i s hs => by
        rcases Nat.lt_or_ge i m with hi | hi
        · rw [List.getElem?_take_of_lt hi] at hs; exact hc i s hs
        · rw [List.getElem?_eq_none (by rw [List.length_take]; omega)] at hs; cases hs⟩⟩
theorem AreasAt.take {w : World} {a : Option Addr} {n : Nat} {ls : List (List Int)} (h : AreasAt w a n ls) (m : Nat) (hm : m ≤ n) : AreasAt w a m (ls.take m) :=
  ⟨by rw [List.length_take, h.1]; omega, by have := h.2.1; omega, by
    rcases h.2.2 with h0 | ⟨b, off, ha, hc⟩
    · exact .inl (by omega)
    · exact .inr ⟨b, off, ha, fun i s hs => by
        rcases Nat.lt_or_ge i m with hi | hi
        · rw [List.getElem?_take_of_lt hi] at hs; exact hc i s hs
        · rw [List.getElem?_eq_none (by rw [List.length_take]; omega)] at hs; cases hs⟩⟩

theorem areas3 (w : World) {B1 B2 B3 k1 k2 k3 : Nat} {L1 L2 L3 : List Int} {t : TypeId} (h1 : VA w B1 0 L1) (h2 : VA w B2 0 L2) (h3 : VA w B3 0 L3) :
    AreasAt (w.alloc (.cells #[.slice (some ⟨B1, 0, none⟩) 24 k1, .slice (some ⟨B2, 0, none⟩) 24 k2, .slice (some ⟨B3, 0, none⟩) 24 k3] t)) (some ⟨w.heap.size, 0, none⟩) 3 [L1, L2, L3] := by
  refine ⟨rfl, by omega, .inr ⟨w.heap.size, 0, rfl, fun i l hl => ?_⟩⟩
  match i, hl with
  | 0, hl => cases hl; exact ⟨some ⟨B1, 0, none⟩, 24, k1, _, by simp [go_sem], (h1.ext (Ext.alloc (Ext.refl _) _)).aa⟩
  | 1, hl => cases hl; exact ⟨some ⟨B2, 0, none⟩, 24, k2, _, by simp [go_sem], (h2.ext (Ext.alloc (Ext.refl _) _)).aa⟩
  | 2, hl => cases hl; exact ⟨some ⟨B3, 0, none⟩, 24, k3, _, by simp [go_sem], (h3.ext (Ext.alloc (Ext.refl _) _)).aa⟩
  | _ + 3, hl => simp at hl
theorem ints2 (w : World) (a b : Nat) {x y : Int} {t : TypeId} (hx : x = (a : Int)) (hy : y = (b : Int)) : IntsAt (w.alloc (.cells #[.int .i64 x, .int .i64 y] t)) (some ⟨w.heap.size, 0, none⟩) (intsN [a, b]) := by
  subst hx hy
  refine .inr ⟨w.heap.size, 0, rfl, fun i hi => ?_⟩
  match i, hi with
  | 0, _ => simp [go_sem, Globe.nth, intsN]
  | 1, _ => simp [go_sem, Globe.nth, intsN]
  | _ + 2, hi => simp [intsN] at hi; omega
theorem strips1 (w : World) {t : TypeId} : StripsAt (w.alloc (.cells #[.slice none 0 0, .slice none 0 0] t)) (some ⟨w.heap.size, 0, none⟩) 1 [([], [])] := by
  refine ⟨rfl, by omega, .inr ⟨w.heap.size, 0, rfl, fun i s hs => ?_⟩⟩
  match i, hs with
  | 0, hs => cases hs; exact ⟨none, 0, 0, _, none, 0, 0, _, by simp [go_sem], ⟨.inl rfl, rfl, by omega, rfl⟩, by simp [go_sem], ⟨.inl rfl, rfl, by omega, rfl⟩⟩
  | _ + 1, hs => simp at hs
/-- The frame behind the first call of Uncovered. -/
def FrSane (Oa Ob O1 O2 : Nat) (u : Nat → Value) : Array Value := #[u 0, .pointer (some ⟨Oa, 0, none⟩), .slice (some ⟨Ob, 0, none⟩) 3 3, .pointer (some ⟨O1, 0, none⟩), .pointer (some ⟨O2, 0, none⟩), .int .i64 0, u 6, u 7, u 8, u 9, u 10, u 11, u 12, u 13, u 14, u 15, u 16, u 17, u 18, u 19, u 20, u 21, u 22, u 23, u 24, u 25, u 26, u 27, u 28, u 29, u 30, u 31, u 32, u 33, u 34, u 35, u 36, u 37, u 38, u 39, u 40, u 41, u 42, u 43, u 44, u 45, u 46, u 47, u 48, u 49, u 50, u 51, u 52, u 53, u 54, u 55, u 56, u 57, u 58, u 59, u 60, u 61, u 62, u 63, u 64, u 65, u 66, u 67, u 68, u 69, u 70, u 71, u 72, u 73, u 74, u 75, u 76, u 77, u 78, u 79, u 80, u 81, u 82, u 83, u 84, u 85, u 86, u 87, u 88, u 89, u 90, u 91, u 92, u 93, u 94, u 95, u 96, u 97, u 98, u 99, u 100, u 101, u 102, u 103, u 104, u 105, u 106, u 107, u 108, u 109, u 110, u 111, u 112, u 113, u 114, u 115, u 116, u 117, u 118, u 119, u 120, u 121, u 122, u 123, u 124, u 125, u 126, u 127, u 128, u 129, u 130, u 131, u 132, u 133, u 134, u 135, u 136, u 137, u 138, u 139, u 140, u 141, u 142, u 143, u 144, u 145, u 146, u 147, u 148]
theorem frSane_lit {Oa Ob O1 O2 : Nat} (X : Array Value) (h : X = FrSane Oa Ob O1 O2 (fun j => X.getD j undef)) : ∃ u, X = FrSane Oa Ob O1 O2 u := ⟨_, h⟩
def SaneJ (V : World) (Oa Ob : Nat) (e : Exit) (A : Act) (w' : World) : Prop :=
  e = .normal ∧ ∃ O1 O2 P1 p1 q1 P2 p2 q2 : Nat, (∃ u, A.tmps = FrSane Oa Ob O1 O2 u) ∧ A.defers = [] ∧ w'.cell? ⟨O1, 0, none⟩ = some (.slice (some ⟨P1, p1, none⟩) 24 q1) ∧ w'.cell? ⟨O2, 0, none⟩ = some (.slice (some ⟨P2, p2, none⟩) 24 q2) ∧ VA w' P1 p1 (rowL 0) ∧ VA w' P2 p2 (rowL 8) ∧ Ext V w'
theorem SaneJ.mk {V : World} {Oa Ob : Nat} {w' : World} (X : Array Value) {O1 O2 P1 p1 q1 P2 p2 q2 : Nat} (hX : X = FrSane Oa Ob O1 O2 (fun j => X.getD j undef)) (h1 : w'.cell? ⟨O1, 0, none⟩ = some (.slice (some ⟨P1, p1, none⟩) 24 q1)) (h2 : w'.cell? ⟨O2, 0, none⟩ = some (.slice (some ⟨P2, p2, none⟩) 24 q2)) (h3 : VA w' P1 p1 (rowL 0)) (h4 : VA w' P2 p2 (rowL 8)) (h5 : Ext V w') : SaneJ V Oa Ob .normal ⟨X, []⟩ w' :=
  ⟨rfl, O1, O2, P1, p1, q1, P2, p2, q2, frSane_lit X hX, rfl, h1, h2, h3, h4, h5⟩

set_option maxRecDepth 1000000 in
set_option maxHeartbeats 16000000 in
theorem sane_c (w : World) (hT : Tab w) : Calls Tryd.prog 10 #[] w fun e w' => e = .returned (.bool true) ∧ Ext w w' := by
  have HT := Lib.hid hT; clear hT
  go_enter Tryd.func10, Tryd.ntmps10
  go_wp2_with fail
  refine calls_name (fun V => Ext w V) (by (repeat' (first | (with_reducible assumption) | (with_reducible exact Ext.refl _) | (with_reducible refine Ext.alloc ?_ _) | (with_reducible refine Ext.drew ?_) | (with_reducible refine Ext.drewN ?_ _) | (with_reducible refine Ext.setCell ?_ ?_ _) | (with_reducible refine Ext.trans ?_ (by assumption)) | go_size))) ?_
  intro V hE
  refine (row_c 14 _ (by decide)).mono ?_
  rintro e w1 ⟨B0, k0, rfl, hB, hv, hb⟩
  have hc := hb.cellE; have hf := hb.frozenE; have hz := hb.size; have ha := alloc_keeps w1; (try simp only [World.size_alloc] at hc hf hz); (try simp only [World.size_setCell] at hc hf hz); (try simp only [World.size_drew] at hc hf hz)
  go_wp2_with fail
  obtain ⟨Oa, hO⟩ : ∃ O, O = w1.heap.size := ⟨_, rfl⟩
  rw [← hO]
  refine calls_name (fun V => Ext w V ∧ VA V B0 0 (rowL 14) ∧ V.cell? ⟨Oa, 0, none⟩ = some (.slice (some ⟨B0, 0, none⟩) 24 k0)) ⟨hE.trans (by first | exact hb | exact Ext.alloc hb _ | exact Ext.alloc (Ext.alloc hb _) _), hv.ext (by first | exact Ext.refl _ | exact Ext.alloc (Ext.refl _) _ | exact Ext.alloc (Ext.alloc (Ext.refl _) _) _), by rw [hO]; simp [go_sem]⟩ ?_
  clear hE  hb hc hf hz ha hO
  rintro V ⟨hE, vA, cA⟩
  have lvA := vA.lt
  have lcA : Oa < V.heap.size := World.block_lt_of_cell? V _ cA
  refine (row_c 6 _ (by decide)).mono ?_
  rintro e w1 ⟨B1, k1, rfl, hB, hv, hb⟩
  have hc := hb.cellE; have hf := hb.frozenE; have hz := hb.size; have ha := alloc_keeps w1; (try simp only [World.size_alloc] at hc hf hz); (try simp only [World.size_setCell] at hc hf hz); (try simp only [World.size_drew] at hc hf hz)
  go_wp2_with fail
  refine calls_name (fun V => Ext w V ∧ VA V B0 0 (rowL 14) ∧ V.cell? ⟨Oa, 0, none⟩ = some (.slice (some ⟨B0, 0, none⟩) 24 k0) ∧ VA V B1 0 (rowL 6)) ⟨hE.trans (by first | exact hb | exact Ext.alloc hb _ | exact Ext.alloc (Ext.alloc hb _) _), vA.ext (by first | exact hb | exact Ext.alloc hb _ | exact Ext.alloc (Ext.alloc hb _) _), Ext.cell (by first | exact hb | exact Ext.alloc hb _ | exact Ext.alloc (Ext.alloc hb _) _) cA, hv.ext (by first | exact Ext.refl _ | exact Ext.alloc (Ext.refl _) _ | exact Ext.alloc (Ext.alloc (Ext.refl _) _) _)⟩ ?_
  clear hE vA cA lvA lcA hb hc hf hz ha
  rintro V ⟨hE, vA, cA, v1⟩
  have lvA := vA.lt
  have lcA : Oa < V.heap.size := World.block_lt_of_cell? V _ cA
  have lv1 := v1.lt
  refine (row_c 14 _ (by decide)).mono ?_
  rintro e w1 ⟨B2, k2, rfl, hB, hv, hb⟩
  have hc := hb.cellE; have hf := hb.frozenE; have hz := hb.size; have ha := alloc_keeps w1; (try simp only [World.size_alloc] at hc hf hz); (try simp only [World.size_setCell] at hc hf hz); (try simp only [World.size_drew] at hc hf hz)
  go_wp2_with fail
  refine calls_name (fun V => Ext w V ∧ VA V B0 0 (rowL 14) ∧ V.cell? ⟨Oa, 0, none⟩ = some (.slice (some ⟨B0, 0, none⟩) 24 k0) ∧ VA V B1 0 (rowL 6) ∧ VA V B2 0 (rowL 14)) ⟨hE.trans (by first | exact hb | exact Ext.alloc hb _ | exact Ext.alloc (Ext.alloc hb _) _), vA.ext (by first | exact hb | exact Ext.alloc hb _ | exact Ext.alloc (Ext.alloc hb _) _), Ext.cell (by first | exact hb | exact Ext.alloc hb _ | exact Ext.alloc (Ext.alloc hb _) _) cA, v1.ext (by first | exact hb | exact Ext.alloc hb _ | exact Ext.alloc (Ext.alloc hb _) _), hv.ext (by first | exact Ext.refl _ | exact Ext.alloc (Ext.refl _) _ | exact Ext.alloc (Ext.alloc (Ext.refl _) _) _)⟩ ?_
  clear hE vA cA v1 lvA lcA lv1 hb hc hf hz ha
  rintro V ⟨hE, vA, cA, v1, v2⟩
  have lvA := vA.lt
  have lcA : Oa < V.heap.size := World.block_lt_of_cell? V _ cA
  have lv1 := v1.lt
  have lv2 := v2.lt
  refine (row_c 4 _ (by decide)).mono ?_
  rintro e w1 ⟨B3, k3, rfl, hB, hv, hb⟩
  have hc := hb.cellE; have hf := hb.frozenE; have hz := hb.size; have ha := alloc_keeps w1; (try simp only [World.size_alloc] at hc hf hz); (try simp only [World.size_setCell] at hc hf hz); (try simp only [World.size_drew] at hc hf hz)
  go_wp2_with fail
  refine calls_name (fun V => Ext w V ∧ VA V B0 0 (rowL 14) ∧ V.cell? ⟨Oa, 0, none⟩ = some (.slice (some ⟨B0, 0, none⟩) 24 k0) ∧ VA V B1 0 (rowL 6) ∧ VA V B2 0 (rowL 14) ∧ VA V B3 0 (rowL 4)) ⟨hE.trans (by first | exact hb | exact Ext.alloc hb _ | exact Ext.alloc (Ext.alloc hb _) _), vA.ext (by first | exact hb | exact Ext.alloc hb _ | exact Ext.alloc (Ext.alloc hb _) _), Ext.cell (by first | exact hb | exact Ext.alloc hb _ | exact Ext.alloc (Ext.alloc hb _) _) cA, v1.ext (by first | exact hb | exact Ext.alloc hb _ | exact Ext.alloc (Ext.alloc hb _) _), v2.ext (by first | exact hb | exact Ext.alloc hb _ | exact Ext.alloc (Ext.alloc hb _) _), hv.ext (by first | exact Ext.refl _ | exact Ext.alloc (Ext.refl _) _ | exact Ext.alloc (Ext.alloc (Ext.refl _) _) _)⟩ ?_
  clear hE vA cA v1 v2 lvA lcA lv1 lv2 hb hc hf hz ha
  rintro V ⟨hE, vA, cA, v1, v2, v3⟩
  have lvA := vA.lt
  have lcA : Oa < V.heap.size := World.block_lt_of_cell? V _ cA
  have lv1 := v1.lt
  have lv2 := v2.lt
  have lv3 := v3.lt
  refine (row_c 4 _ (by decide)).mono ?_
  rintro e w1 ⟨B4, k4, rfl, hB, hv, hb⟩
  have hc := hb.cellE; have hf := hb.frozenE; have hz := hb.size; have ha := alloc_keeps w1; (try simp only [World.size_alloc] at hc hf hz); (try simp only [World.size_setCell] at hc hf hz); (try simp only [World.size_drew] at hc hf hz)
  go_wp2_with fail
  refine calls_name (fun V => Ext w V ∧ VA V B0 0 (rowL 14) ∧ V.cell? ⟨Oa, 0, none⟩ = some (.slice (some ⟨B0, 0, none⟩) 24 k0) ∧ VA V B1 0 (rowL 6) ∧ VA V B2 0 (rowL 14) ∧ VA V B3 0 (rowL 4) ∧ VA V B4 0 (rowL 4)) ⟨hE.trans (by first | exact hb | exact Ext.alloc hb _ | exact Ext.alloc (Ext.alloc hb _) _), vA.ext (by first | exact hb | exact Ext.alloc hb _ | exact Ext.alloc (Ext.alloc hb _) _), Ext.cell (by first | exact hb | exact Ext.alloc hb _ | exact Ext.alloc (Ext.alloc hb _) _) cA, v1.ext (by first | exact hb | exact Ext.alloc hb _ | exact Ext.alloc (Ext.alloc hb _) _), v2.ext (by first | exact hb | exact Ext.alloc hb _ | exact Ext.alloc (Ext.alloc hb _) _), v3.ext (by first | exact hb | exact Ext.alloc hb _ | exact Ext.alloc (Ext.alloc hb _) _), hv.ext (by first | exact Ext.refl _ | exact Ext.alloc (Ext.refl _) _ | exact Ext.alloc (Ext.alloc (Ext.refl _) _) _)⟩ ?_
  clear hE vA cA v1 v2 v3 lvA lcA lv1 lv2 lv3 hb hc hf hz ha
  rintro V ⟨hE, vA, cA, v1, v2, v3, v4⟩
  have lvA := vA.lt
  have lcA : Oa < V.heap.size := World.block_lt_of_cell? V _ cA
  have lv1 := v1.lt
  have lv2 := v2.lt
  have lv3 := v3.lt
  have lv4 := v4.lt
  refine (row_c 12 _ (by decide)).mono ?_
  rintro e w1 ⟨B5, k5, rfl, hB, hv, hb⟩
  have hc := hb.cellE; have hf := hb.frozenE; have hz := hb.size; have ha := alloc_keeps w1; (try simp only [World.size_alloc] at hc hf hz); (try simp only [World.size_setCell] at hc hf hz); (try simp only [World.size_drew] at hc hf hz)
  go_wp2_with fail
  refine calls_name (fun V => Ext w V ∧ VA V B0 0 (rowL 14) ∧ V.cell? ⟨Oa, 0, none⟩ = some (.slice (some ⟨B0, 0, none⟩) 24 k0) ∧ VA V B1 0 (rowL 6) ∧ VA V B2 0 (rowL 14) ∧ VA V B3 0 (rowL 4) ∧ VA V B4 0 (rowL 4) ∧ VA V B5 0 (rowL 12)) ⟨hE.trans (by first | exact hb | exact Ext.alloc hb _ | exact Ext.alloc (Ext.alloc hb _) _), vA.ext (by first | exact hb | exact Ext.alloc hb _ | exact Ext.alloc (Ext.alloc hb _) _), Ext.cell (by first | exact hb | exact Ext.alloc hb _ | exact Ext.alloc (Ext.alloc hb _) _) cA, v1.ext (by first | exact hb | exact Ext.alloc hb _ | exact Ext.alloc (Ext.alloc hb _) _), v2.ext (by first | exact hb | exact Ext.alloc hb _ | exact Ext.alloc (Ext.alloc hb _) _), v3.ext (by first | exact hb | exact Ext.alloc hb _ | exact Ext.alloc (Ext.alloc hb _) _), v4.ext (by first | exact hb | exact Ext.alloc hb _ | exact Ext.alloc (Ext.alloc hb _) _), hv.ext (by first | exact Ext.refl _ | exact Ext.alloc (Ext.refl _) _ | exact Ext.alloc (Ext.alloc (Ext.refl _) _) _)⟩ ?_
  clear hE vA cA v1 v2 v3 v4 lvA lcA lv1 lv2 lv3 lv4 hb hc hf hz ha
  rintro V ⟨hE, vA, cA, v1, v2, v3, v4, v5⟩
  have lvA := vA.lt
  have lcA : Oa < V.heap.size := World.block_lt_of_cell? V _ cA
  have lv1 := v1.lt
  have lv2 := v2.lt
  have lv3 := v3.lt
  have lv4 := v4.lt
  have lv5 := v5.lt
  refine (row_c 12 _ (by decide)).mono ?_
  rintro e w1 ⟨B6, k6, rfl, hB, hv, hb⟩
  have hc := hb.cellE; have hf := hb.frozenE; have hz := hb.size; have ha := alloc_keeps w1; (try simp only [World.size_alloc] at hc hf hz); (try simp only [World.size_setCell] at hc hf hz); (try simp only [World.size_drew] at hc hf hz)
  go_wp2_with fail
  obtain ⟨Ob, hO⟩ : ∃ O, O = w1.heap.size := ⟨_, rfl⟩
  rw [← hO]
  refine wp_name (fun V => Ext w V ∧ VA V B0 0 (rowL 14) ∧ V.cell? ⟨Oa, 0, none⟩ = some (.slice (some ⟨B0, 0, none⟩) 24 k0) ∧ VA V B1 0 (rowL 6) ∧ VA V B2 0 (rowL 14) ∧ VA V B3 0 (rowL 4) ∧ VA V B4 0 (rowL 4) ∧ VA V B5 0 (rowL 12) ∧ VA V B6 0 (rowL 12) ∧ V.cell? ⟨Ob, 0, none⟩ = some (.slice (some ⟨B1, 0, none⟩) 24 k1) ∧ V.cell? ⟨Ob, 1, none⟩ = some (.slice (some ⟨B2, 0, none⟩) 24 k2) ∧ V.cell? ⟨Ob, 2, none⟩ = some (.slice (some ⟨B3, 0, none⟩) 24 k3) ∧ V.cell? ⟨Ob, 3, none⟩ = some (.slice (some ⟨B4, 0, none⟩) 24 k4) ∧ V.cell? ⟨Ob, 4, none⟩ = some (.slice (some ⟨B5, 0, none⟩) 24 k5) ∧ V.cell? ⟨Ob, 5, none⟩ = some (.slice (some ⟨B6, 0, none⟩) 24 k6)) ⟨hE.trans (by first | exact hb | exact Ext.alloc hb _ | exact Ext.alloc (Ext.alloc hb _) _), vA.ext (by first | exact hb | exact Ext.alloc hb _ | exact Ext.alloc (Ext.alloc hb _) _), Ext.cell (by first | exact hb | exact Ext.alloc hb _ | exact Ext.alloc (Ext.alloc hb _) _) cA, v1.ext (by first | exact hb | exact Ext.alloc hb _ | exact Ext.alloc (Ext.alloc hb _) _), v2.ext (by first | exact hb | exact Ext.alloc hb _ | exact Ext.alloc (Ext.alloc hb _) _), v3.ext (by first | exact hb | exact Ext.alloc hb _ | exact Ext.alloc (Ext.alloc hb _) _), v4.ext (by first | exact hb | exact Ext.alloc hb _ | exact Ext.alloc (Ext.alloc hb _) _), v5.ext (by first | exact hb | exact Ext.alloc hb _ | exact Ext.alloc (Ext.alloc hb _) _), hv.ext (by first | exact Ext.refl _ | exact Ext.alloc (Ext.refl _) _ | exact Ext.alloc (Ext.alloc (Ext.refl _) _) _), by rw [hO]; simp [go_sem], by rw [hO]; simp [go_sem], by rw [hO]; simp [go_sem], by rw [hO]; simp [go_sem], by rw [hO]; simp [go_sem], by rw [hO]; simp [go_sem]⟩ ?_
  clear hE vA cA v1 v2 v3 v4 v5 lvA lcA lv1 lv2 lv3 lv4 lv5 hb hc hf hz ha hO
  rintro V ⟨hE, vA, cA, v1, v2, v3, v4, v5, v6, z0, z1, z2, z3, z4, z5⟩
  have lvA := vA.lt
  have lcA : Oa < V.heap.size := World.block_lt_of_cell? V _ cA
  have lv1 := v1.lt
  have lv2 := v2.lt
  have lv3 := v3.lt
  have lv4 := v4.lt
  have lv5 := v5.lt
  have lv6 := v6.lt
  have HS := Lib.hid (show StripsAt V (some ⟨Ob, 0, none⟩) 3 [(rowL 6, rowL 14), (rowL 4, rowL 4), (rowL 12, rowL 12)] from ⟨rfl, by omega, .inr ⟨Ob, 0, rfl, fun i s hs => by
    match i, hs with
    | 0, hs => cases hs; exact ⟨_, _, _, _, _, _, _, _, z0, v1.aa, z1, v2.aa⟩
    | 1, hs => cases hs; exact ⟨_, _, _, _, _, _, _, _, z2, v3.aa, z3, v4.aa⟩
    | 2, hs => cases hs; exact ⟨_, _, _, _, _, _, _, _, z4, v5.aa, z5, v6.aa⟩
    | _ + 3, hs => simp at hs⟩⟩)
  clear z0 z1 z2 z3 z4 z5 v1 v2 v3 v4 v5 v6 lv1 lv2 lv3 lv4 lv5 lv6
  refine wp_mono (show Code.wp _ _ (SaneJ V Oa Ob) _ _ from ?_) ?_
  · have HM := Lib.hid (show ∀ w', Ext V w' → Ext V w' ∧ w'.cell? ⟨Oa, 0, none⟩ = some (.slice (some ⟨B0, 0, none⟩) 24 k0) from fun w' h => ⟨h, h.cell cA⟩)
    refine wg_begin [(some 31, [1], []), (some 32, [2], []), (some 33, [32], [1]), (some 34, [31, 33], [0, 2]), (some 30, [34], [3]), (some 35, [30], [4]), (some 36, [30], [4]), (some 37, [30], [4]), (some 3, [], []), (some 4, [], []), (none, [3, 35], [8, 5, 3, 0, 1, 2, 3, 4, 5, 8, 9]), (none, [4, 36], [9, 6, 10, 0, 1, 2, 3, 4, 5, 6, 8, 9, 10]), (some 5, [37], [7, 11, 0, 1, 2, 3, 4, 5, 6, 7, 8, 9, 10, 11])] (fun w' => Ext V w' ∧ w'.cell? ⟨Oa, 0, none⟩ = some (.slice (some ⟨B0, 0, none⟩) 24 k0)) (by kernel_rfl) (by kernel_rfl) (by kernel_rfl) (by kernel_rfl) (by intro c d v a w h; cases d <;> first | exact h | (exact nomatch h.1) | (dsimp +zetaDelta only [Exit.then, Exit.inBlock] at h ⊢; exact h)) ((HM.out _ (Ext.drew (Ext.refl _)))) (fun ops Q L hL hR hK hHeld => ?_); replace hL := Lib.hid hL; have hW1 := @evalW_tmp; have hW2 := @evalW_const; have hW3 := @evalW_func; have hW4 := @look_cons; have hW5 := @look_nil
    have r1 := wg_read hL.out 1 rfl
    have r2 := wg_read hL.out 2 rfl
    (refine wg_take 0 (v := ?_) hR rfl (by kernel_rfl) (by kernel_rfl) ?_ (by with_reducible assumption) ?_; rotate_left; (focus (intro w hSw; (try dsimp only at hSw); go_simp; (try with_reducible rfl))); (dsimp only [putW]))
    (refine wg_take 1 (v := ?_) hR rfl (by kernel_rfl) (by kernel_rfl) ?_ (by with_reducible assumption) ?_; rotate_left; (focus (intro w hSw; (try dsimp only at hSw); go_simp; (try with_reducible rfl))); (dsimp only [putW]))
    (refine wg_take 2 (v := ?_) hR rfl (by kernel_rfl) (by kernel_rfl) ?_ (by with_reducible assumption) ?_; rotate_left; (focus (intro w hSw; (try dsimp only at hSw); go_simp; (try with_reducible rfl))); (dsimp only [putW]))
    refine wg_three 3 8 9 hR rfl rfl rfl (by kernel_rfl) (by kernel_rfl) (by kernel_rfl) (by kernel_rfl) (by kernel_rfl) ?_ ?_ ?_
    · (refine wg_call (f := 15) (args := ?_) ?_ ?_; rotate_left; (focus (go_simp; first | done | (with_reducible rfl) | (refine ⟨?_, ?_⟩ <;> with_reducible rfl))); (go_at_call 15; refine (Uncovered_v 3 k0 _ vA hHeld.1 (StripsAt.take HS.out 1 (by omega)) hHeld.1 ex_ok1).mono ?_; rintro e wU ⟨P1, p1, q1, P2, p2, q2, rfl, hu1, hu2, hu3, hu4, hb⟩; have hVU : Ext V wU := hHeld.1.trans hb; have hc := hb.cellE; have hf := hb.frozenE; have hz := hb.size; have ha := alloc_keeps wU; (try simp only [World.size_alloc] at hc hf hz); (try simp only [World.size_setCell] at hc hf hz); (try simp only [World.size_drew] at hc hf hz); (try simp only [World.size_drew] at hc hf hz hu3 hu4); replace hu1 : VA wU P1 p1 (rowL 0) := (by rw [← ex_can]; exact hu1); replace hu2 : VA wU P2 p2 (rowL 8) := (by rw [← ex_sure]; exact hu2); have lu1 := hu1.lt; have lu2 := hu2.lt); refine ⟨_, rfl, HM.out _ (hHeld.1.trans hb), fun hHeld => ?_⟩; (dsimp only [putW]))
      (refine wg_take 4 (v := ?_) hR rfl (by kernel_rfl) (by kernel_rfl) ?_ (by with_reducible assumption) ?_; rotate_left; (focus (intro w hSw; (try dsimp only at hSw); go_simp; (try with_reducible rfl))); (dsimp only [putW]))
      (refine wg_take 5 (v := ?_) hR rfl (by kernel_rfl) (by kernel_rfl) ?_ (by with_reducible assumption) ?_; rotate_left; (focus (intro w hSw; (try dsimp only at hSw); go_simp; (try with_reducible rfl))); (dsimp only [putW]))
      (refine wg_take 6 (v := ?_) hR rfl (by kernel_rfl) (by kernel_rfl) ?_ (by with_reducible assumption) ?_; rotate_left; (focus (intro w hSw; (try dsimp only at hSw); go_simp; (try with_reducible rfl))); (dsimp only [putW]))
      (refine wg_take 7 (v := ?_) hR rfl (by kernel_rfl) (by kernel_rfl) ?_ (by with_reducible assumption) ?_; rotate_left; (focus (intro w hSw; (try dsimp only at hSw); go_simp; (try with_reducible rfl))); (dsimp only [putW]))
      refine wg_two 8 9 hR rfl rfl (by kernel_rfl) (by kernel_rfl) (by kernel_rfl) (by kernel_rfl) ?_ ?_
      · (refine wg_eff (v := ?_) (w' := ?_) ?_ ?_ ?_; rotate_left; rotate_left; (focus (go_simp; first | done | (with_reducible rfl) | (refine ⟨?_, ?_⟩ <;> with_reducible rfl))); (focus (exact HM.out _ (by (repeat' (first | (with_reducible assumption) | (with_reducible exact Ext.refl _) | (with_reducible refine Ext.alloc ?_ _) | (with_reducible refine Ext.drew ?_) | (with_reducible refine Ext.drewN ?_ _) | (with_reducible refine Ext.setCell ?_ ?_ _) | (with_reducible refine Ext.trans ?_ (by assumption)) | go_size))))); intro hHeld; (dsimp only [putW]))
        (refine wg_step 9 hR rfl (by kernel_rfl) (by kernel_rfl) ?_ (by kernel_rfl); refine wg_eff (v := ?_) (w' := ?_) ?_ ?_ ?_; rotate_left; rotate_left; (focus (go_simp; first | done | (with_reducible rfl) | (refine ⟨?_, ?_⟩ <;> with_reducible rfl))); (focus (exact HM.out _ (by (repeat' (first | (with_reducible assumption) | (with_reducible exact Ext.refl _) | (with_reducible refine Ext.alloc ?_ _) | (with_reducible refine Ext.drew ?_) | (with_reducible refine Ext.drewN ?_ _) | (with_reducible refine Ext.setCell ?_ ?_ _) | (with_reducible refine Ext.trans ?_ (by assumption)) | go_size))))); intro hHeld; (dsimp only [putW]))
        (refine wg_step 10 hR rfl (by kernel_rfl) (by kernel_rfl) ?_ (by kernel_rfl); refine wg_skp (w' := ?_) ?_ ?_ ?_; rotate_left; (focus (go_simp; first | done | (with_reducible rfl))); (focus (exact HM.out _ (by (repeat' (first | (with_reducible assumption) | (with_reducible exact Ext.refl _) | (with_reducible refine Ext.alloc ?_ _) | (with_reducible refine Ext.drew ?_) | (with_reducible refine Ext.drewN ?_ _) | (with_reducible refine Ext.setCell ?_ ?_ _) | (with_reducible refine Ext.trans ?_ (by assumption)) | go_size))))); intro hHeld; (dsimp only [putW]))
        (refine wg_step 11 hR rfl (by kernel_rfl) (by kernel_rfl) ?_ (by kernel_rfl); refine wg_skp (w' := ?_) ?_ ?_ ?_; rotate_left; (focus (go_simp; first | done | (with_reducible rfl))); (focus (exact HM.out _ (by (repeat' (first | (with_reducible assumption) | (with_reducible exact Ext.refl _) | (with_reducible refine Ext.alloc ?_ _) | (with_reducible refine Ext.drew ?_) | (with_reducible refine Ext.drewN ?_ _) | (with_reducible refine Ext.setCell ?_ ?_ _) | (with_reducible refine Ext.trans ?_ (by assumption)) | go_size))))); intro hHeld; (dsimp only [putW]))
        (refine wg_take 12 (v := ?_) hR rfl (by kernel_rfl) (by kernel_rfl) ?_ (by with_reducible assumption) ?_; rotate_left; (focus (intro w hSw; (try dsimp only at hSw); go_simp; (try with_reducible rfl))); (dsimp only [putW]))
        refine wg_fin hR hK [(3, 2), (0, 1), (0, 0), (24, 6), (0, 10), (0, 9), (0, 8), (0, 7), (0, 5), (0, 4), (0, 3)] (by kernel_rfl) (by kernel_rfl) (by dsimp only [mg, gsOf, valAt]) ?_; clear hW1 hW2 hW3 hW4 hW5 hR hK hL
        clear r1
        clear r2
        refine SaneJ.mk (P1 := P1) (p1 := p1) (q1 := q1) (P2 := P2) (p2 := p2) (q2 := q2) _ rfl (by first | (simp [go_sem]; done) | (simp [go_sem, hc]; done) | (simp [go_sem, hc, ha]; done)) (by first | (simp [go_sem]; done) | (simp [go_sem, hc]; done) | (simp [go_sem, hc, ha]; done)) ?_ ?_ ?_
        · repeat (first | exact hu1 | (refine VA.ext ?_ (Ext.alloc (Ext.refl _) _)) | (refine VA.other ?_ (by dsimp only; omega) _))
        · repeat (first | exact hu2 | (refine VA.ext ?_ (Ext.alloc (Ext.refl _) _)) | (refine VA.other ?_ (by dsimp only; omega) _))
        · (repeat' (first | (with_reducible assumption) | (with_reducible exact Ext.refl _) | (with_reducible refine Ext.alloc ?_ _) | (with_reducible refine Ext.drew ?_) | (with_reducible refine Ext.drewN ?_ _) | (with_reducible refine Ext.setCell ?_ ?_ _) | (with_reducible refine Ext.trans ?_ (by assumption)) | go_size))
      · (refine wg_eff (v := ?_) (w' := ?_) ?_ ?_ ?_; rotate_left; rotate_left; (focus (go_simp; first | done | (with_reducible rfl) | (refine ⟨?_, ?_⟩ <;> with_reducible rfl))); (focus (exact HM.out _ (by (repeat' (first | (with_reducible assumption) | (with_reducible exact Ext.refl _) | (with_reducible refine Ext.alloc ?_ _) | (with_reducible refine Ext.drew ?_) | (with_reducible refine Ext.drewN ?_ _) | (with_reducible refine Ext.setCell ?_ ?_ _) | (with_reducible refine Ext.trans ?_ (by assumption)) | go_size))))); intro hHeld; (dsimp only [putW]))
        (refine wg_step 8 hR rfl (by kernel_rfl) (by kernel_rfl) ?_ (by kernel_rfl); refine wg_eff (v := ?_) (w' := ?_) ?_ ?_ ?_; rotate_left; rotate_left; (focus (go_simp; first | done | (with_reducible rfl) | (refine ⟨?_, ?_⟩ <;> with_reducible rfl))); (focus (exact HM.out _ (by (repeat' (first | (with_reducible assumption) | (with_reducible exact Ext.refl _) | (with_reducible refine Ext.alloc ?_ _) | (with_reducible refine Ext.drew ?_) | (with_reducible refine Ext.drewN ?_ _) | (with_reducible refine Ext.setCell ?_ ?_ _) | (with_reducible refine Ext.trans ?_ (by assumption)) | go_size))))); intro hHeld; (dsimp only [putW]))
        (refine wg_step 10 hR rfl (by kernel_rfl) (by kernel_rfl) ?_ (by kernel_rfl); refine wg_skp (w' := ?_) ?_ ?_ ?_; rotate_left; (focus (go_simp; first | done | (with_reducible rfl))); (focus (exact HM.out _ (by (repeat' (first | (with_reducible assumption) | (with_reducible exact Ext.refl _) | (with_reducible refine Ext.alloc ?_ _) | (with_reducible refine Ext.drew ?_) | (with_reducible refine Ext.drewN ?_ _) | (with_reducible refine Ext.setCell ?_ ?_ _) | (with_reducible refine Ext.trans ?_ (by assumption)) | go_size))))); intro hHeld; (dsimp only [putW]))
        (refine wg_step 11 hR rfl (by kernel_rfl) (by kernel_rfl) ?_ (by kernel_rfl); refine wg_skp (w' := ?_) ?_ ?_ ?_; rotate_left; (focus (go_simp; first | done | (with_reducible rfl))); (focus (exact HM.out _ (by (repeat' (first | (with_reducible assumption) | (with_reducible exact Ext.refl _) | (with_reducible refine Ext.alloc ?_ _) | (with_reducible refine Ext.drew ?_) | (with_reducible refine Ext.drewN ?_ _) | (with_reducible refine Ext.setCell ?_ ?_ _) | (with_reducible refine Ext.trans ?_ (by assumption)) | go_size))))); intro hHeld; (dsimp only [putW]))
        (refine wg_take 12 (v := ?_) hR rfl (by kernel_rfl) (by kernel_rfl) ?_ (by with_reducible assumption) ?_; rotate_left; (focus (intro w hSw; (try dsimp only at hSw); go_simp; (try with_reducible rfl))); (dsimp only [putW]))
        refine wg_fin hR hK [(3, 1), (0, 2), (0, 0), (24, 6), (0, 10), (0, 9), (0, 8), (0, 7), (0, 5), (0, 4), (0, 3)] (by kernel_rfl) (by kernel_rfl) (by dsimp only [mg, gsOf, valAt]) ?_; clear hW1 hW2 hW3 hW4 hW5 hR hK hL
        clear r1
        clear r2
        refine SaneJ.mk (P1 := P1) (p1 := p1) (q1 := q1) (P2 := P2) (p2 := p2) (q2 := q2) _ rfl (by first | (simp [go_sem]; done) | (simp [go_sem, hc]; done) | (simp [go_sem, hc, ha]; done)) (by first | (simp [go_sem]; done) | (simp [go_sem, hc]; done) | (simp [go_sem, hc, ha]; done)) ?_ ?_ ?_
        · repeat (first | exact hu1 | (refine VA.ext ?_ (Ext.alloc (Ext.refl _) _)) | (refine VA.other ?_ (by dsimp only; omega) _))
        · repeat (first | exact hu2 | (refine VA.ext ?_ (Ext.alloc (Ext.refl _) _)) | (refine VA.other ?_ (by dsimp only; omega) _))
        · (repeat' (first | (with_reducible assumption) | (with_reducible exact Ext.refl _) | (with_reducible refine Ext.alloc ?_ _) | (with_reducible refine Ext.drew ?_) | (with_reducible refine Ext.drewN ?_ _) | (with_reducible refine Ext.setCell ?_ ?_ _) | (with_reducible refine Ext.trans ?_ (by assumption)) | go_size))
    · (refine wg_eff (v := ?_) (w' := ?_) ?_ ?_ ?_; rotate_left; rotate_left; (focus (go_simp; first | done | (with_reducible rfl) | (refine ⟨?_, ?_⟩ <;> with_reducible rfl))); (focus (exact HM.out _ (by (repeat' (first | (with_reducible assumption) | (with_reducible exact Ext.refl _) | (with_reducible refine Ext.alloc ?_ _) | (with_reducible refine Ext.drew ?_) | (with_reducible refine Ext.drewN ?_ _) | (with_reducible refine Ext.setCell ?_ ?_ _) | (with_reducible refine Ext.trans ?_ (by assumption)) | go_size))))); intro hHeld; (dsimp only [putW]))
      refine wg_two 3 9 hR rfl rfl (by kernel_rfl) (by kernel_rfl) (by kernel_rfl) (by kernel_rfl) ?_ ?_
      · (refine wg_call (f := 15) (args := ?_) ?_ ?_; rotate_left; (focus (go_simp; first | done | (with_reducible rfl) | (refine ⟨?_, ?_⟩ <;> with_reducible rfl))); (go_at_call 15; refine (Uncovered_v 3 k0 _ vA hHeld.1 (StripsAt.take HS.out 1 (by omega)) hHeld.1 ex_ok1).mono ?_; rintro e wU ⟨P1, p1, q1, P2, p2, q2, rfl, hu1, hu2, hu3, hu4, hb⟩; have hVU : Ext V wU := hHeld.1.trans hb; have hc := hb.cellE; have hf := hb.frozenE; have hz := hb.size; have ha := alloc_keeps wU; (try simp only [World.size_alloc] at hc hf hz); (try simp only [World.size_setCell] at hc hf hz); (try simp only [World.size_drew] at hc hf hz); (try simp only [World.size_alloc, World.size_drew] at hc hf hz hu3 hu4); replace hu1 : VA wU P1 p1 (rowL 0) := (by rw [← ex_can]; exact hu1); replace hu2 : VA wU P2 p2 (rowL 8) := (by rw [← ex_sure]; exact hu2); have lu1 := hu1.lt; have lu2 := hu2.lt); refine ⟨_, rfl, HM.out _ (hHeld.1.trans hb), fun hHeld => ?_⟩; (dsimp only [putW]))
        (refine wg_take 4 (v := ?_) hR rfl (by kernel_rfl) (by kernel_rfl) ?_ (by with_reducible assumption) ?_; rotate_left; (focus (intro w hSw; (try dsimp only at hSw); go_simp; (try with_reducible rfl))); (dsimp only [putW]))
        (refine wg_take 5 (v := ?_) hR rfl (by kernel_rfl) (by kernel_rfl) ?_ (by with_reducible assumption) ?_; rotate_left; (focus (intro w hSw; (try dsimp only at hSw); go_simp; (try with_reducible rfl))); (dsimp only [putW]))
        (refine wg_take 6 (v := ?_) hR rfl (by kernel_rfl) (by kernel_rfl) ?_ (by with_reducible assumption) ?_; rotate_left; (focus (intro w hSw; (try dsimp only at hSw); go_simp; (try with_reducible rfl))); (dsimp only [putW]))
        (refine wg_take 7 (v := ?_) hR rfl (by kernel_rfl) (by kernel_rfl) ?_ (by with_reducible assumption) ?_; rotate_left; (focus (intro w hSw; (try dsimp only at hSw); go_simp; (try with_reducible rfl))); (dsimp only [putW]))
        (refine wg_step 9 hR rfl (by kernel_rfl) (by kernel_rfl) ?_ (by kernel_rfl); refine wg_eff (v := ?_) (w' := ?_) ?_ ?_ ?_; rotate_left; rotate_left; (focus (go_simp; first | done | (with_reducible rfl) | (refine ⟨?_, ?_⟩ <;> with_reducible rfl))); (focus (exact HM.out _ (by (repeat' (first | (with_reducible assumption) | (with_reducible exact Ext.refl _) | (with_reducible refine Ext.alloc ?_ _) | (with_reducible refine Ext.drew ?_) | (with_reducible refine Ext.drewN ?_ _) | (with_reducible refine Ext.setCell ?_ ?_ _) | (with_reducible refine Ext.trans ?_ (by assumption)) | go_size))))); intro hHeld; (dsimp only [putW]))
        (refine wg_step 10 hR rfl (by kernel_rfl) (by kernel_rfl) ?_ (by kernel_rfl); refine wg_skp (w' := ?_) ?_ ?_ ?_; rotate_left; (focus (go_simp; first | done | (with_reducible rfl))); (focus (exact HM.out _ (by (repeat' (first | (with_reducible assumption) | (with_reducible exact Ext.refl _) | (with_reducible refine Ext.alloc ?_ _) | (with_reducible refine Ext.drew ?_) | (with_reducible refine Ext.drewN ?_ _) | (with_reducible refine Ext.setCell ?_ ?_ _) | (with_reducible refine Ext.trans ?_ (by assumption)) | go_size))))); intro hHeld; (dsimp only [putW]))
        (refine wg_step 11 hR rfl (by kernel_rfl) (by kernel_rfl) ?_ (by kernel_rfl); refine wg_skp (w' := ?_) ?_ ?_ ?_; rotate_left; (focus (go_simp; first | done | (with_reducible rfl))); (focus (exact HM.out _ (by (repeat' (first | (with_reducible assumption) | (with_reducible exact Ext.refl _) | (with_reducible refine Ext.alloc ?_ _) | (with_reducible refine Ext.drew ?_) | (with_reducible refine Ext.drewN ?_ _) | (with_reducible refine Ext.setCell ?_ ?_ _) | (with_reducible refine Ext.trans ?_ (by assumption)) | go_size))))); intro hHeld; (dsimp only [putW]))
        (refine wg_take 12 (v := ?_) hR rfl (by kernel_rfl) (by kernel_rfl) ?_ (by with_reducible assumption) ?_; rotate_left; (focus (intro w hSw; (try dsimp only at hSw); go_simp; (try with_reducible rfl))); (dsimp only [putW]))
        refine wg_fin hR hK [(3, 7), (0, 1), (0, 0), (24, 5), (0, 10), (0, 9), (0, 8), (0, 6), (0, 4), (0, 3), (0, 2)] (by kernel_rfl) (by kernel_rfl) (by dsimp only [mg, gsOf, valAt]) ?_; clear hW1 hW2 hW3 hW4 hW5 hR hK hL
        clear r1
        clear r2
        refine SaneJ.mk (P1 := P1) (p1 := p1) (q1 := q1) (P2 := P2) (p2 := p2) (q2 := q2) _ rfl (by first | (simp [go_sem]; done) | (simp [go_sem]; done) | (simp [go_sem, hc, ha]; done)) (by first | (simp [go_sem]; done) | (simp [go_sem, hc]; done) | (simp [go_sem, hc, ha]; done)) ?_ ?_ ?_
        · repeat (first | exact hu1 | (refine VA.ext ?_ (Ext.alloc (Ext.refl _) _)) | (refine VA.other ?_ (by dsimp only; omega) _))
        · repeat (first | exact hu2 | (refine VA.ext ?_ (Ext.alloc (Ext.refl _) _)) | (refine VA.other ?_ (by dsimp only; omega) _))
        · (repeat' (first | (with_reducible assumption) | (with_reducible exact Ext.refl _) | (with_reducible refine Ext.alloc ?_ _) | (with_reducible refine Ext.drew ?_) | (with_reducible refine Ext.drewN ?_ _) | (with_reducible refine Ext.setCell ?_ ?_ _) | (with_reducible refine Ext.trans ?_ (by assumption)) | go_size))
      · (refine wg_eff (v := ?_) (w' := ?_) ?_ ?_ ?_; rotate_left; rotate_left; (focus (go_simp; first | done | (with_reducible rfl) | (refine ⟨?_, ?_⟩ <;> with_reducible rfl))); (focus (exact HM.out _ (by (repeat' (first | (with_reducible assumption) | (with_reducible exact Ext.refl _) | (with_reducible refine Ext.alloc ?_ _) | (with_reducible refine Ext.drew ?_) | (with_reducible refine Ext.drewN ?_ _) | (with_reducible refine Ext.setCell ?_ ?_ _) | (with_reducible refine Ext.trans ?_ (by assumption)) | go_size))))); intro hHeld; (dsimp only [putW]))
        (refine wg_step 3 hR rfl (by kernel_rfl) (by kernel_rfl) ?_ (by kernel_rfl); refine wg_call (f := 15) (args := ?_) ?_ ?_; rotate_left; (focus (go_simp; first | done | (with_reducible rfl) | (refine ⟨?_, ?_⟩ <;> with_reducible rfl))); (go_at_call 15; refine (Uncovered_v 3 k0 _ vA hHeld.1 (StripsAt.take HS.out 1 (by omega)) hHeld.1 ex_ok1).mono ?_; rintro e wU ⟨P1, p1, q1, P2, p2, q2, rfl, hu1, hu2, hu3, hu4, hb⟩; have hVU : Ext V wU := hHeld.1.trans hb; have hc := hb.cellE; have hf := hb.frozenE; have hz := hb.size; have ha := alloc_keeps wU; (try simp only [World.size_alloc] at hc hf hz); (try simp only [World.size_setCell] at hc hf hz); (try simp only [World.size_drew] at hc hf hz); (try simp only [World.size_alloc, World.size_drew] at hc hf hz hu3 hu4); replace hu1 : VA wU P1 p1 (rowL 0) := (by rw [← ex_can]; exact hu1); replace hu2 : VA wU P2 p2 (rowL 8) := (by rw [← ex_sure]; exact hu2); have lu1 := hu1.lt; have lu2 := hu2.lt); refine ⟨_, rfl, HM.out _ (hHeld.1.trans hb), fun hHeld => ?_⟩; (dsimp only [putW]))
        (refine wg_take 4 (v := ?_) hR rfl (by kernel_rfl) (by kernel_rfl) ?_ (by with_reducible assumption) ?_; rotate_left; (focus (intro w hSw; (try dsimp only at hSw); go_simp; (try with_reducible rfl))); (dsimp only [putW]))
        (refine wg_take 5 (v := ?_) hR rfl (by kernel_rfl) (by kernel_rfl) ?_ (by with_reducible assumption) ?_; rotate_left; (focus (intro w hSw; (try dsimp only at hSw); go_simp; (try with_reducible rfl))); (dsimp only [putW]))
        (refine wg_take 6 (v := ?_) hR rfl (by kernel_rfl) (by kernel_rfl) ?_ (by with_reducible assumption) ?_; rotate_left; (focus (intro w hSw; (try dsimp only at hSw); go_simp; (try with_reducible rfl))); (dsimp only [putW]))
        (refine wg_take 7 (v := ?_) hR rfl (by kernel_rfl) (by kernel_rfl) ?_ (by with_reducible assumption) ?_; rotate_left; (focus (intro w hSw; (try dsimp only at hSw); go_simp; (try with_reducible rfl))); (dsimp only [putW]))
        (refine wg_step 10 hR rfl (by kernel_rfl) (by kernel_rfl) ?_ (by kernel_rfl); refine wg_skp (w' := ?_) ?_ ?_ ?_; rotate_left; (focus (go_simp; first | done | (with_reducible rfl))); (focus (exact HM.out _ (by (repeat' (first | (with_reducible assumption) | (with_reducible exact Ext.refl _) | (with_reducible refine Ext.alloc ?_ _) | (with_reducible refine Ext.drew ?_) | (with_reducible refine Ext.drewN ?_ _) | (with_reducible refine Ext.setCell ?_ ?_ _) | (with_reducible refine Ext.trans ?_ (by assumption)) | go_size))))); intro hHeld; (dsimp only [putW]))
        (refine wg_step 11 hR rfl (by kernel_rfl) (by kernel_rfl) ?_ (by kernel_rfl); refine wg_skp (w' := ?_) ?_ ?_ ?_; rotate_left; (focus (go_simp; first | done | (with_reducible rfl))); (focus (exact HM.out _ (by (repeat' (first | (with_reducible assumption) | (with_reducible exact Ext.refl _) | (with_reducible refine Ext.alloc ?_ _) | (with_reducible refine Ext.drew ?_) | (with_reducible refine Ext.drewN ?_ _) | (with_reducible refine Ext.setCell ?_ ?_ _) | (with_reducible refine Ext.trans ?_ (by assumption)) | go_size))))); intro hHeld; (dsimp only [putW]))
        (refine wg_take 12 (v := ?_) hR rfl (by kernel_rfl) (by kernel_rfl) ?_ (by with_reducible assumption) ?_; rotate_left; (focus (intro w hSw; (try dsimp only at hSw); go_simp; (try with_reducible rfl))); (dsimp only [putW]))
        refine wg_fin hR hK [(3, 7), (0, 6), (0, 0), (24, 4), (0, 10), (0, 9), (0, 8), (0, 5), (0, 3), (0, 2), (0, 1)] (by kernel_rfl) (by kernel_rfl) (by dsimp only [mg, gsOf, valAt]) ?_; clear hW1 hW2 hW3 hW4 hW5 hR hK hL
        clear r1
        clear r2
        refine SaneJ.mk (P1 := P1) (p1 := p1) (q1 := q1) (P2 := P2) (p2 := p2) (q2 := q2) _ rfl (by first | (simp [go_sem]; done) | (simp [go_sem, hc]; done) | (simp [go_sem, hc, ha]; done)) (by first | (simp [go_sem]; done) | (simp [go_sem, hc]; done) | (simp [go_sem, hc, ha]; done)) ?_ ?_ ?_
        · repeat (first | exact hu1 | (refine VA.ext ?_ (Ext.alloc (Ext.refl _) _)) | (refine VA.other ?_ (by dsimp only; omega) _))
        · repeat (first | exact hu2 | (refine VA.ext ?_ (Ext.alloc (Ext.refl _) _)) | (refine VA.other ?_ (by dsimp only; omega) _))
        · (repeat' (first | (with_reducible assumption) | (with_reducible exact Ext.refl _) | (with_reducible refine Ext.alloc ?_ _) | (with_reducible refine Ext.drew ?_) | (with_reducible refine Ext.drewN ?_ _) | (with_reducible refine Ext.setCell ?_ ?_ _) | (with_reducible refine Ext.trans ?_ (by assumption)) | go_size))
    · (refine wg_eff (v := ?_) (w' := ?_) ?_ ?_ ?_; rotate_left; rotate_left; (focus (go_simp; first | done | (with_reducible rfl) | (refine ⟨?_, ?_⟩ <;> with_reducible rfl))); (focus (exact HM.out _ (by (repeat' (first | (with_reducible assumption) | (with_reducible exact Ext.refl _) | (with_reducible refine Ext.alloc ?_ _) | (with_reducible refine Ext.drew ?_) | (with_reducible refine Ext.drewN ?_ _) | (with_reducible refine Ext.setCell ?_ ?_ _) | (with_reducible refine Ext.trans ?_ (by assumption)) | go_size))))); intro hHeld; (dsimp only [putW]))
      refine wg_two 3 8 hR rfl rfl (by kernel_rfl) (by kernel_rfl) (by kernel_rfl) (by kernel_rfl) ?_ ?_
      · (refine wg_call (f := 15) (args := ?_) ?_ ?_; rotate_left; (focus (go_simp; first | done | (with_reducible rfl) | (refine ⟨?_, ?_⟩ <;> with_reducible rfl))); (go_at_call 15; refine (Uncovered_v 3 k0 _ vA hHeld.1 (StripsAt.take HS.out 1 (by omega)) hHeld.1 ex_ok1).mono ?_; rintro e wU ⟨P1, p1, q1, P2, p2, q2, rfl, hu1, hu2, hu3, hu4, hb⟩; have hVU : Ext V wU := hHeld.1.trans hb; have hc := hb.cellE; have hf := hb.frozenE; have hz := hb.size; have ha := alloc_keeps wU; (try simp only [World.size_alloc] at hc hf hz); (try simp only [World.size_setCell] at hc hf hz); (try simp only [World.size_drew] at hc hf hz); (try simp only [World.size_alloc, World.size_drew] at hc hf hz hu3 hu4); replace hu1 : VA wU P1 p1 (rowL 0) := (by rw [← ex_can]; exact hu1); replace hu2 : VA wU P2 p2 (rowL 8) := (by rw [← ex_sure]; exact hu2); have lu1 := hu1.lt; have lu2 := hu2.lt); refine ⟨_, rfl, HM.out _ (hHeld.1.trans hb), fun hHeld => ?_⟩; (dsimp only [putW]))
        (refine wg_take 4 (v := ?_) hR rfl (by kernel_rfl) (by kernel_rfl) ?_ (by with_reducible assumption) ?_; rotate_left; (focus (intro w hSw; (try dsimp only at hSw); go_simp; (try with_reducible rfl))); (dsimp only [putW]))
        (refine wg_take 5 (v := ?_) hR rfl (by kernel_rfl) (by kernel_rfl) ?_ (by with_reducible assumption) ?_; rotate_left; (focus (intro w hSw; (try dsimp only at hSw); go_simp; (try with_reducible rfl))); (dsimp only [putW]))
        (refine wg_take 6 (v := ?_) hR rfl (by kernel_rfl) (by kernel_rfl) ?_ (by with_reducible assumption) ?_; rotate_left; (focus (intro w hSw; (try dsimp only at hSw); go_simp; (try with_reducible rfl))); (dsimp only [putW]))
        (refine wg_take 7 (v := ?_) hR rfl (by kernel_rfl) (by kernel_rfl) ?_ (by with_reducible assumption) ?_; rotate_left; (focus (intro w hSw; (try dsimp only at hSw); go_simp; (try with_reducible rfl))); (dsimp only [putW]))
        (refine wg_step 8 hR rfl (by kernel_rfl) (by kernel_rfl) ?_ (by kernel_rfl); refine wg_eff (v := ?_) (w' := ?_) ?_ ?_ ?_; rotate_left; rotate_left; (focus (go_simp; first | done | (with_reducible rfl) | (refine ⟨?_, ?_⟩ <;> with_reducible rfl))); (focus (exact HM.out _ (by (repeat' (first | (with_reducible assumption) | (with_reducible exact Ext.refl _) | (with_reducible refine Ext.alloc ?_ _) | (with_reducible refine Ext.drew ?_) | (with_reducible refine Ext.drewN ?_ _) | (with_reducible refine Ext.setCell ?_ ?_ _) | (with_reducible refine Ext.trans ?_ (by assumption)) | go_size))))); intro hHeld; (dsimp only [putW]))
        (refine wg_step 10 hR rfl (by kernel_rfl) (by kernel_rfl) ?_ (by kernel_rfl); refine wg_skp (w' := ?_) ?_ ?_ ?_; rotate_left; (focus (go_simp; first | done | (with_reducible rfl))); (focus (exact HM.out _ (by (repeat' (first | (with_reducible assumption) | (with_reducible exact Ext.refl _) | (with_reducible refine Ext.alloc ?_ _) | (with_reducible refine Ext.drew ?_) | (with_reducible refine Ext.drewN ?_ _) | (with_reducible refine Ext.setCell ?_ ?_ _) | (with_reducible refine Ext.trans ?_ (by assumption)) | go_size))))); intro hHeld; (dsimp only [putW]))
        (refine wg_step 11 hR rfl (by kernel_rfl) (by kernel_rfl) ?_ (by kernel_rfl); refine wg_skp (w' := ?_) ?_ ?_ ?_; rotate_left; (focus (go_simp; first | done | (with_reducible rfl))); (focus (exact HM.out _ (by (repeat' (first | (with_reducible assumption) | (with_reducible exact Ext.refl _) | (with_reducible refine Ext.alloc ?_ _) | (with_reducible refine Ext.drew ?_) | (with_reducible refine Ext.drewN ?_ _) | (with_reducible refine Ext.setCell ?_ ?_ _) | (with_reducible refine Ext.trans ?_ (by assumption)) | go_size))))); intro hHeld; (dsimp only [putW]))
        (refine wg_take 12 (v := ?_) hR rfl (by kernel_rfl) (by kernel_rfl) ?_ (by with_reducible assumption) ?_; rotate_left; (focus (intro w hSw; (try dsimp only at hSw); go_simp; (try with_reducible rfl))); (dsimp only [putW]))
        refine wg_fin hR hK [(3, 1), (0, 7), (0, 0), (24, 5), (0, 10), (0, 9), (0, 8), (0, 6), (0, 4), (0, 3), (0, 2)] (by kernel_rfl) (by kernel_rfl) (by dsimp only [mg, gsOf, valAt]) ?_; clear hW1 hW2 hW3 hW4 hW5 hR hK hL
        clear r1
        clear r2
        refine SaneJ.mk (P1 := P1) (p1 := p1) (q1 := q1) (P2 := P2) (p2 := p2) (q2 := q2) _ rfl (by first | (simp [go_sem]; done) | (simp [go_sem, hc]; done) | (simp [go_sem, hc, ha]; done)) (by first | (simp [go_sem]; done) | (simp [go_sem, hc]; done) | (simp [go_sem, hc, ha]; done)) ?_ ?_ ?_
        · repeat (first | exact hu1 | (refine VA.ext ?_ (Ext.alloc (Ext.refl _) _)) | (refine VA.other ?_ (by dsimp only; omega) _))
        · repeat (first | exact hu2 | (refine VA.ext ?_ (Ext.alloc (Ext.refl _) _)) | (refine VA.other ?_ (by dsimp only; omega) _))
        · (repeat' (first | (with_reducible assumption) | (with_reducible exact Ext.refl _) | (with_reducible refine Ext.alloc ?_ _) | (with_reducible refine Ext.drew ?_) | (with_reducible refine Ext.drewN ?_ _) | (with_reducible refine Ext.setCell ?_ ?_ _) | (with_reducible refine Ext.trans ?_ (by assumption)) | go_size))
      · (refine wg_eff (v := ?_) (w' := ?_) ?_ ?_ ?_; rotate_left; rotate_left; (focus (go_simp; first | done | (with_reducible rfl) | (refine ⟨?_, ?_⟩ <;> with_reducible rfl))); (focus (exact HM.out _ (by (repeat' (first | (with_reducible assumption) | (with_reducible exact Ext.refl _) | (with_reducible refine Ext.alloc ?_ _) | (with_reducible refine Ext.drew ?_) | (with_reducible refine Ext.drewN ?_ _) | (with_reducible refine Ext.setCell ?_ ?_ _) | (with_reducible refine Ext.trans ?_ (by assumption)) | go_size))))); intro hHeld; (dsimp only [putW]))
        (refine wg_step 3 hR rfl (by kernel_rfl) (by kernel_rfl) ?_ (by kernel_rfl); refine wg_call (f := 15) (args := ?_) ?_ ?_; rotate_left; (focus (go_simp; first | done | (with_reducible rfl) | (refine ⟨?_, ?_⟩ <;> with_reducible rfl))); (go_at_call 15; refine (Uncovered_v 3 k0 _ vA hHeld.1 (StripsAt.take HS.out 1 (by omega)) hHeld.1 ex_ok1).mono ?_; rintro e wU ⟨P1, p1, q1, P2, p2, q2, rfl, hu1, hu2, hu3, hu4, hb⟩; have hVU : Ext V wU := hHeld.1.trans hb; have hc := hb.cellE; have hf := hb.frozenE; have hz := hb.size; have ha := alloc_keeps wU; (try simp only [World.size_alloc] at hc hf hz); (try simp only [World.size_setCell] at hc hf hz); (try simp only [World.size_drew] at hc hf hz); (try simp only [World.size_alloc, World.size_drew] at hc hf hz hu3 hu4); replace hu1 : VA wU P1 p1 (rowL 0) := (by rw [← ex_can]; exact hu1); replace hu2 : VA wU P2 p2 (rowL 8) := (by rw [← ex_sure]; exact hu2); have lu1 := hu1.lt; have lu2 := hu2.lt); refine ⟨_, rfl, HM.out _ (hHeld.1.trans hb), fun hHeld => ?_⟩; (dsimp only [putW]))
        (refine wg_take 4 (v := ?_) hR rfl (by kernel_rfl) (by kernel_rfl) ?_ (by with_reducible assumption) ?_; rotate_left; (focus (intro w hSw; (try dsimp only at hSw); go_simp; (try with_reducible rfl))); (dsimp only [putW]))
        (refine wg_take 5 (v := ?_) hR rfl (by kernel_rfl) (by kernel_rfl) ?_ (by with_reducible assumption) ?_; rotate_left; (focus (intro w hSw; (try dsimp only at hSw); go_simp; (try with_reducible rfl))); (dsimp only [putW]))
        (refine wg_take 6 (v := ?_) hR rfl (by kernel_rfl) (by kernel_rfl) ?_ (by with_reducible assumption) ?_; rotate_left; (focus (intro w hSw; (try dsimp only at hSw); go_simp; (try with_reducible rfl))); (dsimp only [putW]))
        (refine wg_take 7 (v := ?_) hR rfl (by kernel_rfl) (by kernel_rfl) ?_ (by with_reducible assumption) ?_; rotate_left; (focus (intro w hSw; (try dsimp only at hSw); go_simp; (try with_reducible rfl))); (dsimp only [putW]))
        (refine wg_step 10 hR rfl (by kernel_rfl) (by kernel_rfl) ?_ (by kernel_rfl); refine wg_skp (w' := ?_) ?_ ?_ ?_; rotate_left; (focus (go_simp; first | done | (with_reducible rfl))); (focus (exact HM.out _ (by (repeat' (first | (with_reducible assumption) | (with_reducible exact Ext.refl _) | (with_reducible refine Ext.alloc ?_ _) | (with_reducible refine Ext.drew ?_) | (with_reducible refine Ext.drewN ?_ _) | (with_reducible refine Ext.setCell ?_ ?_ _) | (with_reducible refine Ext.trans ?_ (by assumption)) | go_size))))); intro hHeld; (dsimp only [putW]))
        (refine wg_step 11 hR rfl (by kernel_rfl) (by kernel_rfl) ?_ (by kernel_rfl); refine wg_skp (w' := ?_) ?_ ?_ ?_; rotate_left; (focus (go_simp; first | done | (with_reducible rfl))); (focus (exact HM.out _ (by (repeat' (first | (with_reducible assumption) | (with_reducible exact Ext.refl _) | (with_reducible refine Ext.alloc ?_ _) | (with_reducible refine Ext.drew ?_) | (with_reducible refine Ext.drewN ?_ _) | (with_reducible refine Ext.setCell ?_ ?_ _) | (with_reducible refine Ext.trans ?_ (by assumption)) | go_size))))); intro hHeld; (dsimp only [putW]))
        (refine wg_take 12 (v := ?_) hR rfl (by kernel_rfl) (by kernel_rfl) ?_ (by with_reducible assumption) ?_; rotate_left; (focus (intro w hSw; (try dsimp only at hSw); go_simp; (try with_reducible rfl))); (dsimp only [putW]))
        refine wg_fin hR hK [(3, 6), (0, 7), (0, 0), (24, 4), (0, 10), (0, 9), (0, 8), (0, 5), (0, 3), (0, 2), (0, 1)] (by kernel_rfl) (by kernel_rfl) (by dsimp only [mg, gsOf, valAt]) ?_; clear hW1 hW2 hW3 hW4 hW5 hR hK hL
        clear r1
        clear r2
        refine SaneJ.mk (P1 := P1) (p1 := p1) (q1 := q1) (P2 := P2) (p2 := p2) (q2 := q2) _ rfl (by first | (simp [go_sem]; done) | (simp [go_sem, hc]; done) | (simp [go_sem, hc, ha]; done)) (by first | (simp [go_sem]; done) | (simp [go_sem, hc]; done) | (simp [go_sem, hc, ha]; done)) ?_ ?_ ?_
        · repeat (first | exact hu1 | (refine VA.ext ?_ (Ext.alloc (Ext.refl _) _)) | (refine VA.other ?_ (by dsimp only; omega) _))
        · repeat (first | exact hu2 | (refine VA.ext ?_ (Ext.alloc (Ext.refl _) _)) | (refine VA.other ?_ (by dsimp only; omega) _))
        · (repeat' (first | (with_reducible assumption) | (with_reducible exact Ext.refl _) | (with_reducible refine Ext.alloc ?_ _) | (with_reducible refine Ext.drew ?_) | (with_reducible refine Ext.drewN ?_ _) | (with_reducible refine Ext.setCell ?_ ?_ _) | (with_reducible refine Ext.trans ?_ (by assumption)) | go_size))
  · rintro e ⟨X, ds⟩ W ⟨rfl, O1, O2, P1, p1, q1, P2, p2, q2, ⟨u, hu⟩, hds, c3, c4, vC, vS, hE3⟩
    dsimp only at hu hds
    subst hu hds
    unfold FrSane
    replace vA := vA.ext hE3
    replace cA := hE3.cell cA
    replace HS := Lib.hid (HS.out.ext hE3)
    replace hE := hE.trans hE3
    clear hE3 lvA lcA
    obtain ⟨V, rfl⟩ : ∃ V, V = W := ⟨_, rfl⟩
    have lvA := vA.lt
    have lcA : Oa < V.heap.size := World.block_lt_of_cell? V _ cA
    have lc3 : O1 < V.heap.size := World.block_lt_of_cell? V _ c3
    have lc4 : O2 < V.heap.size := World.block_lt_of_cell? V _ c4
    have lvC := vC.lt
    have lvS := vS.lt
    go_wp2_with fail
    have sS := HS.out; clear HS
    refine (Decompose_v 3 k0 _ vA (Ext.refl _) sS (Ext.refl _) ex_ok).mono ?_
    rintro e w1 ⟨pa, pc, Br, ro, kr, rfl, hpc, hP, hv, hb⟩
    have hpc2 : (2 : Int) ≤ (pc : Int) := by simp at hpc; omega
    clear hpc
    rw [show (([(rowL 6, rowL 14), (rowL 4, rowL 4), (rowL 12, rowL 12)] : List (List Int × List Int)).map fun s => s.1) = [rowL 6, rowL 4, rowL 12] from rfl] at hP hv ⊢
    rw [ex_pieces] at hP; rw [ex_rest] at hv
    have hc := hb.cellE; have hf := hb.frozenE; have hz := hb.size; have ha := alloc_keeps w1; (try simp only [World.size_alloc] at hc hf hz); (try simp only [World.size_setCell] at hc hf hz); (try simp only [World.size_drew] at hc hf hz)
    go_wp2_with fail
    obtain ⟨O7, hO⟩ : ∃ O, O = w1.heap.size := ⟨_, rfl⟩
    rw [← hO]
    refine calls_name (fun V => Ext w V ∧ VA V B0 0 (rowL 14) ∧ V.cell? ⟨Oa, 0, none⟩ = some (.slice (some ⟨B0, 0, none⟩) 24 k0) ∧ V.cell? ⟨O1, 0, none⟩ = some (.slice (some ⟨P1, p1, none⟩) 24 q1) ∧ V.cell? ⟨O2, 0, none⟩ = some (.slice (some ⟨P2, p2, none⟩) 24 q2) ∧ VA V P1 p1 (rowL 0) ∧ VA V P2 p2 (rowL 8) ∧ StripsAt V (some ⟨Ob, 0, none⟩) 3 [(rowL 6, rowL 14), (rowL 4, rowL 4), (rowL 12, rowL 12)] ∧ AreasAt V pa 3 [rowL 6, rowL 0, rowL 8] ∧ VA V Br ro (rowL 0) ∧ V.cell? ⟨O7, 0, none⟩ = some (.slice (some ⟨Br, ro, none⟩) 24 kr)) ⟨hE.trans (by first | exact hb | exact Ext.alloc hb _ | exact Ext.alloc (Ext.alloc hb _) _), vA.ext (by first | exact hb | exact Ext.alloc hb _ | exact Ext.alloc (Ext.alloc hb _) _), Ext.cell (by first | exact hb | exact Ext.alloc hb _ | exact Ext.alloc (Ext.alloc hb _) _) cA, Ext.cell (by first | exact hb | exact Ext.alloc hb _ | exact Ext.alloc (Ext.alloc hb _) _) c3, Ext.cell (by first | exact hb | exact Ext.alloc hb _ | exact Ext.alloc (Ext.alloc hb _) _) c4, vC.ext (by first | exact hb | exact Ext.alloc hb _ | exact Ext.alloc (Ext.alloc hb _) _), vS.ext (by first | exact hb | exact Ext.alloc hb _ | exact Ext.alloc (Ext.alloc hb _) _), sS.ext (by first | exact hb | exact Ext.alloc hb _ | exact Ext.alloc (Ext.alloc hb _) _), hP.ext (by first | exact Ext.refl _ | exact Ext.alloc (Ext.refl _) _ | exact Ext.alloc (Ext.alloc (Ext.refl _) _) _), hv.ext (by first | exact Ext.refl _ | exact Ext.alloc (Ext.refl _) _ | exact Ext.alloc (Ext.alloc (Ext.refl _) _) _), by rw [hO]; simp [go_sem]⟩ ?_
    clear hE vA cA c3 c4 vC vS sS lvA lcA lc3 lc4 lvC lvS hb hc hf hz ha hO
    rintro V ⟨hE, vA, cA, c3, c4, vC, vS, sS, pP, vR, cR⟩
    have lvA := vA.lt
    have lcA : Oa < V.heap.size := World.block_lt_of_cell? V _ cA
    have lc3 : O1 < V.heap.size := World.block_lt_of_cell? V _ c3
    have lc4 : O2 < V.heap.size := World.block_lt_of_cell? V _ c4
    have lvC := vC.lt
    have lvS := vS.lt
    have lvR := vR.lt
    have lcR : O7 < V.heap.size := World.block_lt_of_cell? V _ cR
    refine (Fewest_r 3 k0 _ vA (Ext.refl _) sS (Ext.refl _) ex_ok (by omega) (HT.out.ext hE) ex_few).mono ?_
    rintro e w1 ⟨fa, fc, rfl, hi, hb⟩
    have hc := hb.cellE; have hf := hb.frozenE; have hz := hb.size; have ha := alloc_keeps w1; (try simp only [World.size_alloc] at hc hf hz); (try simp only [World.size_setCell] at hc hf hz); (try simp only [World.size_drew] at hc hf hz)
    go_wp2_with fail
    refine wp_name (fun V => Ext w V ∧ VA V B0 0 (rowL 14) ∧ V.cell? ⟨Oa, 0, none⟩ = some (.slice (some ⟨B0, 0, none⟩) 24 k0) ∧ V.cell? ⟨O1, 0, none⟩ = some (.slice (some ⟨P1, p1, none⟩) 24 q1) ∧ V.cell? ⟨O2, 0, none⟩ = some (.slice (some ⟨P2, p2, none⟩) 24 q2) ∧ VA V P1 p1 (rowL 0) ∧ VA V P2 p2 (rowL 8) ∧ StripsAt V (some ⟨Ob, 0, none⟩) 3 [(rowL 6, rowL 14), (rowL 4, rowL 4), (rowL 12, rowL 12)] ∧ AreasAt V pa 3 [rowL 6, rowL 0, rowL 8] ∧ VA V Br ro (rowL 0) ∧ V.cell? ⟨O7, 0, none⟩ = some (.slice (some ⟨Br, ro, none⟩) 24 kr) ∧ IntsAt V fa (intsN [0, 2])) ⟨hE.trans (by first | exact hb | exact Ext.alloc hb _ | exact Ext.alloc (Ext.alloc hb _) _), vA.ext (by first | exact hb | exact Ext.alloc hb _ | exact Ext.alloc (Ext.alloc hb _) _), Ext.cell (by first | exact hb | exact Ext.alloc hb _ | exact Ext.alloc (Ext.alloc hb _) _) cA, Ext.cell (by first | exact hb | exact Ext.alloc hb _ | exact Ext.alloc (Ext.alloc hb _) _) c3, Ext.cell (by first | exact hb | exact Ext.alloc hb _ | exact Ext.alloc (Ext.alloc hb _) _) c4, vC.ext (by first | exact hb | exact Ext.alloc hb _ | exact Ext.alloc (Ext.alloc hb _) _), vS.ext (by first | exact hb | exact Ext.alloc hb _ | exact Ext.alloc (Ext.alloc hb _) _), sS.ext (by first | exact hb | exact Ext.alloc hb _ | exact Ext.alloc (Ext.alloc hb _) _), pP.ext (by first | exact hb | exact Ext.alloc hb _ | exact Ext.alloc (Ext.alloc hb _) _), vR.ext (by first | exact hb | exact Ext.alloc hb _ | exact Ext.alloc (Ext.alloc hb _) _), Ext.cell (by first | exact hb | exact Ext.alloc hb _ | exact Ext.alloc (Ext.alloc hb _) _) cR, hi.ext (by first | exact Ext.refl _ | exact Ext.alloc (Ext.refl _) _ | exact Ext.alloc (Ext.alloc (Ext.refl _) _) _)⟩ ?_
    clear hE vA cA c3 c4 vC vS sS pP vR cR lvA lcA lc3 lc4 lvC lvS lvR lcR hb hc hf hz ha
    rintro V ⟨hE, vA, cA, c3, c4, vC, vS, sS, pP, vR, cR, fF⟩
    have lvA := vA.lt
    have lcA : Oa < V.heap.size := World.block_lt_of_cell? V _ cA
    have lc3 : O1 < V.heap.size := World.block_lt_of_cell? V _ c3
    have lc4 : O2 < V.heap.size := World.block_lt_of_cell? V _ c4
    have lvC := vC.lt
    have lvS := vS.lt
    have lvR := vR.lt
    have lcR : O7 < V.heap.size := World.block_lt_of_cell? V _ cR
    have HM := Lib.hid (show ∀ w', Ext V w' → Ext V w' ∧ w'.cell? ⟨Oa, 0, none⟩ = some (.slice (some ⟨B0, 0, none⟩) 24 k0) from fun w' h => ⟨h, h.cell cA⟩)
    refine wg_begin [(some 53, [1], []), (some 54, [2], []), (some 55, [54], [1]), (some 56, [53, 55], [0, 2]), (some 52, [56], [3]), (some 57, [52], [4]), (some 58, [52], [4]), (some 59, [52], [4]), (some 12, [57], [5, 3, 0, 1, 2, 3, 4, 5]), (some 13, [58], [6, 8, 0, 1, 2, 3, 4, 5, 6, 8]), (some 14, [59], [7, 9, 0, 1, 2, 3, 4, 5, 6, 7, 8, 9])] (fun w' => Ext V w' ∧ w'.cell? ⟨Oa, 0, none⟩ = some (.slice (some ⟨B0, 0, none⟩) 24 k0)) (by kernel_rfl) (by kernel_rfl) (by kernel_rfl) (by kernel_rfl) (by intro c d v a w h; cases d <;> first | exact h | (exact nomatch h.1) | (dsimp +zetaDelta only [Exit.then, Exit.inBlock] at h ⊢; exact h)) ((HM.out _ (Ext.drew (Ext.refl _)))) (fun ops Q L hL hR hK hHeld => ?_); replace hL := Lib.hid hL; have hW1 := @evalW_tmp; have hW2 := @evalW_const; have hW3 := @evalW_func; have hW4 := @look_cons; have hW5 := @look_nil
    have r1 := wg_read hL.out 1 rfl
    have r2 := wg_read hL.out 2 rfl
    (refine wg_take 0 (v := ?_) hR rfl (by kernel_rfl) (by kernel_rfl) ?_ (by with_reducible assumption) ?_; rotate_left; (focus (intro w hSw; (try dsimp only at hSw); go_simp; (try with_reducible rfl))); (dsimp only [putW]))
    (refine wg_take 1 (v := ?_) hR rfl (by kernel_rfl) (by kernel_rfl) ?_ (by with_reducible assumption) ?_; rotate_left; (focus (intro w hSw; (try dsimp only at hSw); go_simp; (try with_reducible rfl))); (dsimp only [putW]))
    (refine wg_take 2 (v := ?_) hR rfl (by kernel_rfl) (by kernel_rfl) ?_ (by with_reducible assumption) ?_; rotate_left; (focus (intro w hSw; (try dsimp only at hSw); go_simp; (try with_reducible rfl))); (dsimp only [putW]))
    (refine wg_step 3 hR rfl (by kernel_rfl) (by kernel_rfl) ?_ (by kernel_rfl); refine wg_call (f := 25) (args := ?_) ?_ ?_; rotate_left; (focus (go_simp; first | done | (with_reducible rfl) | (refine ⟨?_, ?_⟩ <;> with_reducible rfl))); (go_at_call 25; refine (Fewest_r 3 k0 _ vA hHeld.1 (sS.take 2 (by omega)) hHeld.1 ex_ok2 (by omega) (HT.out.ext (hE.trans hHeld.1)) ex_none).mono ?_; rintro e w1 ⟨ga, gc, rfl, -, hb⟩); refine ⟨_, rfl, HM.out _ (hHeld.1.trans hb), fun hHeld => ?_⟩; (dsimp only [putW]))
    (refine wg_take 4 (v := ?_) hR rfl (by kernel_rfl) (by kernel_rfl) ?_ (by with_reducible assumption) ?_; rotate_left; (focus (intro w hSw; (try dsimp only at hSw); go_simp; (try with_reducible rfl))); (dsimp only [putW]))
    (refine wg_take 5 (v := ?_) hR rfl (by kernel_rfl) (by kernel_rfl) ?_ (by with_reducible assumption) ?_; rotate_left; (focus (intro w hSw; (try dsimp only at hSw); go_simp; (try with_reducible rfl))); (dsimp only [putW]))
    (refine wg_take 6 (v := ?_) hR rfl (by kernel_rfl) (by kernel_rfl) ?_ (by with_reducible assumption) ?_; rotate_left; (focus (intro w hSw; (try dsimp only at hSw); go_simp; (try with_reducible rfl))); (dsimp only [putW]))
    (refine wg_take 7 (v := ?_) hR rfl (by kernel_rfl) (by kernel_rfl) ?_ (by with_reducible assumption) ?_; rotate_left; (focus (intro w hSw; (try dsimp only at hSw); go_simp; (try with_reducible rfl))); (dsimp only [putW]))
    (refine wg_take 8 (v := ?_) hR rfl (by kernel_rfl) (by kernel_rfl) ?_ (by with_reducible assumption) ?_; rotate_left; (focus (intro w hSw; (try dsimp only at hSw); go_simp; (try with_reducible rfl))); (dsimp only [putW]))
    (refine wg_take 9 (v := ?_) hR rfl (by kernel_rfl) (by kernel_rfl) ?_ (by with_reducible assumption) ?_; rotate_left; (focus (intro w hSw; (try dsimp only at hSw); go_simp; (try with_reducible rfl))); (dsimp only [putW]))
    (refine wg_take 10 (v := ?_) hR rfl (by kernel_rfl) (by kernel_rfl) ?_ (by with_reducible assumption) ?_; rotate_left; (focus (intro w hSw; (try dsimp only at hSw); go_simp; (try with_reducible rfl))); (dsimp only [putW]))
    refine wg_fin hR hK [(12, 2), (0, 1), (0, 0), (37, 6), (0, 10), (0, 9), (0, 8), (0, 7), (0, 5), (0, 4), (0, 3)] (by kernel_rfl) (by kernel_rfl) (by dsimp only [mg, gsOf, valAt]) ?_; clear hW1 hW2 hW3 hW4 hW5 hR hK hL
    clear r1
    clear r2
    have hb := hHeld.1
    clear hHeld HM
    refine exit_at (fun V => Ext w V ∧ VA V B0 0 (rowL 14) ∧ V.cell? ⟨Oa, 0, none⟩ = some (.slice (some ⟨B0, 0, none⟩) 24 k0) ∧ V.cell? ⟨O1, 0, none⟩ = some (.slice (some ⟨P1, p1, none⟩) 24 q1) ∧ V.cell? ⟨O2, 0, none⟩ = some (.slice (some ⟨P2, p2, none⟩) 24 q2) ∧ VA V P1 p1 (rowL 0) ∧ VA V P2 p2 (rowL 8) ∧ StripsAt V (some ⟨Ob, 0, none⟩) 3 [(rowL 6, rowL 14), (rowL 4, rowL 4), (rowL 12, rowL 12)] ∧ AreasAt V pa 3 [rowL 6, rowL 0, rowL 8] ∧ VA V Br ro (rowL 0) ∧ V.cell? ⟨O7, 0, none⟩ = some (.slice (some ⟨Br, ro, none⟩) 24 kr) ∧ IntsAt V fa (intsN [0, 2])) ⟨hE.trans (by first | exact hb | exact Ext.alloc hb _ | exact Ext.alloc (Ext.alloc hb _) _), vA.ext (by first | exact hb | exact Ext.alloc hb _ | exact Ext.alloc (Ext.alloc hb _) _), Ext.cell (by first | exact hb | exact Ext.alloc hb _ | exact Ext.alloc (Ext.alloc hb _) _) cA, Ext.cell (by first | exact hb | exact Ext.alloc hb _ | exact Ext.alloc (Ext.alloc hb _) _) c3, Ext.cell (by first | exact hb | exact Ext.alloc hb _ | exact Ext.alloc (Ext.alloc hb _) _) c4, vC.ext (by first | exact hb | exact Ext.alloc hb _ | exact Ext.alloc (Ext.alloc hb _) _), vS.ext (by first | exact hb | exact Ext.alloc hb _ | exact Ext.alloc (Ext.alloc hb _) _), sS.ext (by first | exact hb | exact Ext.alloc hb _ | exact Ext.alloc (Ext.alloc hb _) _), pP.ext (by first | exact hb | exact Ext.alloc hb _ | exact Ext.alloc (Ext.alloc hb _) _), vR.ext (by first | exact hb | exact Ext.alloc hb _ | exact Ext.alloc (Ext.alloc hb _) _), Ext.cell (by first | exact hb | exact Ext.alloc hb _ | exact Ext.alloc (Ext.alloc hb _) _) cR, fF.ext (by first | exact hb | exact Ext.alloc hb _ | exact Ext.alloc (Ext.alloc hb _) _)⟩ ?_
    clear hE vA cA c3 c4 vC vS sS pP vR cR fF lvA lcA lc3 lc4 lvC lvS lvR lcR hb
    rintro V ⟨hE, vA, cA, c3, c4, vC, vS, sS, pP, vR, cR, fF⟩
    have lvA := vA.lt
    have lcA : Oa < V.heap.size := World.block_lt_of_cell? V _ cA
    have lc3 : O1 < V.heap.size := World.block_lt_of_cell? V _ c3
    have lc4 : O2 < V.heap.size := World.block_lt_of_cell? V _ c4
    have lvC := vC.lt
    have lvS := vS.lt
    have lvR := vR.lt
    have lcR : O7 < V.heap.size := World.block_lt_of_cell? V _ cR
    go_wp2_with fail
    refine (Uncovered_n (v := false) 3 0 _ (show AA V none [] 0 false from ⟨.inl rfl, rfl, by omega, ex_bad0⟩) (Ext.refl _) sS (Ext.refl _) rfl).mono ?_
    rintro e w1 ⟨rfl, hb⟩
    have hc := hb.cellE; have hf := hb.frozenE; have hz := hb.size; have ha := alloc_keeps w1; (try simp only [World.size_alloc] at hc hf hz); (try simp only [World.size_setCell] at hc hf hz); (try simp only [World.size_drew] at hc hf hz)
    go_wp2_with fail
    refine wp_name (fun V => Ext w V ∧ VA V B0 0 (rowL 14) ∧ V.cell? ⟨Oa, 0, none⟩ = some (.slice (some ⟨B0, 0, none⟩) 24 k0) ∧ V.cell? ⟨O1, 0, none⟩ = some (.slice (some ⟨P1, p1, none⟩) 24 q1) ∧ V.cell? ⟨O2, 0, none⟩ = some (.slice (some ⟨P2, p2, none⟩) 24 q2) ∧ VA V P1 p1 (rowL 0) ∧ VA V P2 p2 (rowL 8) ∧ StripsAt V (some ⟨Ob, 0, none⟩) 3 [(rowL 6, rowL 14), (rowL 4, rowL 4), (rowL 12, rowL 12)] ∧ AreasAt V pa 3 [rowL 6, rowL 0, rowL 8] ∧ VA V Br ro (rowL 0) ∧ V.cell? ⟨O7, 0, none⟩ = some (.slice (some ⟨Br, ro, none⟩) 24 kr) ∧ IntsAt V fa (intsN [0, 2])) ⟨hE.trans (by first | exact hb | exact Ext.alloc hb _ | exact Ext.alloc (Ext.alloc hb _) _), vA.ext (by first | exact hb | exact Ext.alloc hb _ | exact Ext.alloc (Ext.alloc hb _) _), Ext.cell (by first | exact hb | exact Ext.alloc hb _ | exact Ext.alloc (Ext.alloc hb _) _) cA, Ext.cell (by first | exact hb | exact Ext.alloc hb _ | exact Ext.alloc (Ext.alloc hb _) _) c3, Ext.cell (by first | exact hb | exact Ext.alloc hb _ | exact Ext.alloc (Ext.alloc hb _) _) c4, vC.ext (by first | exact hb | exact Ext.alloc hb _ | exact Ext.alloc (Ext.alloc hb _) _), vS.ext (by first | exact hb | exact Ext.alloc hb _ | exact Ext.alloc (Ext.alloc hb _) _), sS.ext (by first | exact hb | exact Ext.alloc hb _ | exact Ext.alloc (Ext.alloc hb _) _), pP.ext (by first | exact hb | exact Ext.alloc hb _ | exact Ext.alloc (Ext.alloc hb _) _), vR.ext (by first | exact hb | exact Ext.alloc hb _ | exact Ext.alloc (Ext.alloc hb _) _), Ext.cell (by first | exact hb | exact Ext.alloc hb _ | exact Ext.alloc (Ext.alloc hb _) _) cR, fF.ext (by first | exact hb | exact Ext.alloc hb _ | exact Ext.alloc (Ext.alloc hb _) _)⟩ ?_
    clear hE vA cA c3 c4 vC vS sS pP vR cR fF lvA lcA lc3 lc4 lvC lvS lvR lcR hb hc hf hz ha
    rintro V ⟨hE, vA, cA, c3, c4, vC, vS, sS, pP, vR, cR, fF⟩
    have lvA := vA.lt
    have lcA : Oa < V.heap.size := World.block_lt_of_cell? V _ cA
    have lc3 : O1 < V.heap.size := World.block_lt_of_cell? V _ c3
    have lc4 : O2 < V.heap.size := World.block_lt_of_cell? V _ c4
    have lvC := vC.lt
    have lvS := vS.lt
    have lvR := vR.lt
    have lcR : O7 < V.heap.size := World.block_lt_of_cell? V _ cR
    have HM := Lib.hid (show ∀ w', Ext V w' → Ext V w' ∧ w'.cell? ⟨O1, 0, none⟩ = some (.slice (some ⟨P1, p1, none⟩) 24 q1) ∧ w'.cell? ⟨O2, 0, none⟩ = some (.slice (some ⟨P2, p2, none⟩) 24 q2) ∧ w'.cell? ⟨O7, 0, none⟩ = some (.slice (some ⟨Br, ro, none⟩) 24 kr) from fun w' h => ⟨h, h.cell c3, h.cell c4, h.cell cR⟩)
    refine wg_begin [(some 90, [3], []), (some 91, [], []), (some 92, [90, 91], [0, 1, 1]), (some 93, [92], [2, 2]), (some 94, [4, 93], [3]), (some 95, [93], [3, 3]), (some 96, [94, 95, 93], [4, 5, 5, 3]), (some 97, [93, 96], [3, 6]), (some 98, [97], [7, 6]), (some 99, [6, 98], [8]), (some 100, [98], [8, 8]), (some 101, [98], [10, 8]), (some 102, [98], [11, 8]), (some 103, [100, 101, 102, 98], [10, 11, 12, 8]), (some 104, [99, 103, 98], [9, 13, 12, 8]), (some 105, [98, 104], [8, 14]), (some 106, [105], [15, 14]), (some 107, [7, 106], [16]), (some 108, [106], [16, 16]), (some 109, [107, 108, 106], [17, 18, 18, 16]), (some 110, [106, 109], [16, 19]), (some 18, [110], [20, 19, 0, 1, 2, 3, 4, 5, 6, 7, 8, 9, 10, 11, 12, 13, 14, 15, 16, 17, 18, 19, 20])] (fun w' => Ext V w' ∧ w'.cell? ⟨O1, 0, none⟩ = some (.slice (some ⟨P1, p1, none⟩) 24 q1) ∧ w'.cell? ⟨O2, 0, none⟩ = some (.slice (some ⟨P2, p2, none⟩) 24 q2) ∧ w'.cell? ⟨O7, 0, none⟩ = some (.slice (some ⟨Br, ro, none⟩) 24 kr)) (by kernel_rfl) (by kernel_rfl) (by kernel_rfl) (by kernel_rfl) (by intro c d v a w h; cases d <;> first | exact h | (exact nomatch h.1) | (dsimp +zetaDelta only [Exit.then, Exit.inBlock] at h ⊢; exact h)) ((HM.out _ (Ext.drew (Ext.refl _)))) (fun ops Q L hL hR hK hHeld => ?_); replace hL := Lib.hid hL; have hW1 := @evalW_tmp; have hW2 := @evalW_const; have hW3 := @evalW_func; have hW4 := @look_cons; have hW5 := @look_nil
    have r3 := wg_read hL.out 3 rfl
    have r4 := wg_read hL.out 4 rfl
    have r6 := wg_read hL.out 6 rfl
    have r7 := wg_read hL.out 7 rfl
    (refine wg_take 0 (v := ?_) hR rfl (by kernel_rfl) (by kernel_rfl) ?_ (by with_reducible assumption) ?_; rotate_left; (focus (intro w hSw; (try dsimp only at hSw); go_simp; (try with_reducible rfl))); (dsimp only [putW]))
    (refine wg_step 1 hR rfl (by kernel_rfl) (by kernel_rfl) ?_ (by kernel_rfl); refine wg_call (f := 35) (args := ?_) ?_ ?_; rotate_left; (focus (go_simp; first | done | (with_reducible rfl) | (refine ⟨?_, ?_⟩ <;> with_reducible rfl))); (go_at_call 35; refine (row_c 0 _ (by decide)).mono ?_; rintro e w1 ⟨R1, r1, rfl, -, hv1, hb⟩); refine ⟨_, rfl, HM.out _ (hHeld.1.trans hb), fun hHeld => ?_⟩; (dsimp only [putW]))
    (refine wg_step 2 hR rfl (by kernel_rfl) (by kernel_rfl) ?_ (by kernel_rfl); refine wg_call (f := 21) (args := ?_) ?_ ?_; rotate_left; (focus (go_simp; first | done | (with_reducible rfl) | (refine ⟨?_, ?_⟩ <;> with_reducible rfl))); (go_at_call 21; refine (rSame_c _ _ _ vC.aa hHeld.1 hv1.aa (Ext.refl _)).mono ?_; rintro e wS1 ⟨rfl, hb⟩; rw [decide_eq_true rfl]); refine ⟨_, rfl, HM.out _ (hHeld.1.trans hb), fun hHeld => ?_⟩; (dsimp only [putW]))
    (refine wg_take 3 (v := ?_) hR rfl (by kernel_rfl) (by kernel_rfl) ?_ (by with_reducible assumption) ?_; rotate_left; (focus (intro w hSw; (try dsimp only at hSw); go_simp; (try with_reducible rfl))); (dsimp only [putW]))
    (refine wg_take 4 (v := ?_) hR rfl (by kernel_rfl) (by kernel_rfl) ?_ (by with_reducible assumption) ?_; rotate_left; (focus (intro w hSw; (try dsimp only at hSw); go_simp; (try with_reducible rfl))); (dsimp only [putW]))
    (refine wg_step 5 hR rfl (by kernel_rfl) (by kernel_rfl) ?_ (by kernel_rfl); refine wg_call (f := 35) (args := ?_) ?_ ?_; rotate_left; (focus (go_simp; first | done | (with_reducible rfl) | (refine ⟨?_, ?_⟩ <;> with_reducible rfl))); (go_at_call 35; refine (row_c 8 _ (by decide)).mono ?_; rintro e w5 ⟨R5, r5, rfl, -, hv5, hb⟩); refine ⟨_, rfl, HM.out _ (hHeld.1.trans hb), fun hHeld => ?_⟩; (dsimp only [putW]))
    (refine wg_step 6 hR rfl (by kernel_rfl) (by kernel_rfl) ?_ (by kernel_rfl); refine wg_call (f := 21) (args := ?_) ?_ ?_; rotate_left; (focus (go_simp; first | done | (with_reducible rfl) | (refine ⟨?_, ?_⟩ <;> with_reducible rfl))); (go_at_call 21; refine (rSame_c _ _ _ vS.aa hHeld.1 hv5.aa (Ext.refl _)).mono ?_; rintro e wS5 ⟨rfl, hb⟩; rw [decide_eq_true rfl]); refine ⟨_, rfl, HM.out _ (hHeld.1.trans hb), fun hHeld => ?_⟩; (dsimp only [putW]))
    (refine wg_take 7 (v := ?_) hR rfl (by kernel_rfl) (by kernel_rfl) ?_ (by with_reducible assumption) ?_; rotate_left; (focus (intro w hSw; (try dsimp only at hSw); go_simp; (try with_reducible rfl))); (dsimp only [putW]))
    (refine wg_take 8 (v := ?_) hR rfl (by kernel_rfl) (by kernel_rfl) ?_ (by with_reducible assumption) ?_; rotate_left; (focus (intro w hSw; (try dsimp only at hSw); go_simp; (try with_reducible rfl))); (dsimp only [putW]))
    (refine wg_take 9 (v := ?_) hR rfl (by kernel_rfl) (by kernel_rfl) ?_ (by with_reducible assumption) ?_; rotate_left; (focus (intro w hSw; (try dsimp only at hSw); go_simp; (try with_reducible rfl))); (dsimp only [putW]))
    (refine wg_step 10 hR rfl (by kernel_rfl) (by kernel_rfl) ?_ (by kernel_rfl); refine wg_call (f := 35) (args := ?_) ?_ ?_; rotate_left; (focus (go_simp; first | done | (with_reducible rfl) | (refine ⟨?_, ?_⟩ <;> with_reducible rfl))); (go_at_call 35; refine (row_c 6 _ (by decide)).mono ?_; rintro e w10 ⟨R10, r10, rfl, -, hv10, hb⟩); refine ⟨_, rfl, HM.out _ (hHeld.1.trans hb), fun hHeld => ?_⟩; (dsimp only [putW]))
    (refine wg_step 11 hR rfl (by kernel_rfl) (by kernel_rfl) ?_ (by kernel_rfl); refine wg_call (f := 35) (args := ?_) ?_ ?_; rotate_left; (focus (go_simp; first | done | (with_reducible rfl) | (refine ⟨?_, ?_⟩ <;> with_reducible rfl))); (go_at_call 35; refine (row_c 0 _ (by decide)).mono ?_; rintro e w11 ⟨R11, r11, rfl, -, hv11, hb⟩; replace hv10 := hv10.ext hb); refine ⟨_, rfl, HM.out _ (hHeld.1.trans hb), fun hHeld => ?_⟩; (dsimp only [putW]))
    (refine wg_step 12 hR rfl (by kernel_rfl) (by kernel_rfl) ?_ (by kernel_rfl); refine wg_call (f := 35) (args := ?_) ?_ ?_; rotate_left; (focus (go_simp; first | done | (with_reducible rfl) | (refine ⟨?_, ?_⟩ <;> with_reducible rfl))); (go_at_call 35; refine (row_c 8 _ (by decide)).mono ?_; rintro e w12 ⟨R12, r12, rfl, -, hv12, hb⟩; replace hv10 := hv10.ext hb; replace hv11 := hv11.ext hb); refine ⟨_, rfl, HM.out _ (hHeld.1.trans hb), fun hHeld => ?_⟩; (dsimp only [putW]))
    (refine wg_step 13 hR rfl (by kernel_rfl) (by kernel_rfl) ?_ (by kernel_rfl); refine wg_eff (v := ?_) (w' := ?_) ?_ ?_ ?_; rotate_left; rotate_left; (focus (go_simp; first | done | (with_reducible rfl) | (refine ⟨?_, ?_⟩ <;> with_reducible rfl))); (focus (exact HM.out _ (Ext.alloc hHeld.1 _))); intro hHeld; (dsimp only [putW]))
    (refine wg_step 14 hR rfl (by kernel_rfl) (by kernel_rfl) ?_ (by kernel_rfl); refine wg_call (f := 22) (args := ?_) ?_ ?_; rotate_left; (focus (go_simp; first | done | (with_reducible rfl) | (refine ⟨?_, ?_⟩ <;> with_reducible rfl))); (go_at_call 22; refine (rSameAreas_t pc 3 _ pP hHeld.1 (areas3 _ hv10 hv11 hv12) (Ext.refl _)).mono ?_; rintro e wA ⟨rfl, hb⟩); refine ⟨_, rfl, HM.out _ (hHeld.1.trans hb), fun hHeld => ?_⟩; (dsimp only [putW]))
    (refine wg_take 15 (v := ?_) hR rfl (by kernel_rfl) (by kernel_rfl) ?_ (by with_reducible assumption) ?_; rotate_left; (focus (intro w hSw; (try dsimp only at hSw); go_simp; (try with_reducible rfl))); (dsimp only [putW]))
    (refine wg_take 16 (v := ?_) hR rfl (by kernel_rfl) (by kernel_rfl) ?_ (by with_reducible assumption) ?_; rotate_left; (focus (intro w hSw; (try dsimp only at hSw); go_simp; (try with_reducible rfl))); (dsimp only [putW]))
    (refine wg_take 17 (v := ?_) hR rfl (by kernel_rfl) (by kernel_rfl) ?_ (by with_reducible assumption) ?_; rotate_left; (focus (intro w hSw; (try dsimp only at hSw); go_simp; (try with_reducible rfl))); (dsimp only [putW]))
    (refine wg_step 18 hR rfl (by kernel_rfl) (by kernel_rfl) ?_ (by kernel_rfl); refine wg_call (f := 35) (args := ?_) ?_ ?_; rotate_left; (focus (go_simp; first | done | (with_reducible rfl) | (refine ⟨?_, ?_⟩ <;> with_reducible rfl))); (go_at_call 35; refine (row_c 0 _ (by decide)).mono ?_; rintro e w18 ⟨R18, r18, rfl, -, hv18, hb⟩); refine ⟨_, rfl, HM.out _ (hHeld.1.trans hb), fun hHeld => ?_⟩; (dsimp only [putW]))
    (refine wg_step 19 hR rfl (by kernel_rfl) (by kernel_rfl) ?_ (by kernel_rfl); refine wg_call (f := 21) (args := ?_) ?_ ?_; rotate_left; (focus (go_simp; first | done | (with_reducible rfl) | (refine ⟨?_, ?_⟩ <;> with_reducible rfl))); (go_at_call 21; refine (rSame_c _ _ _ vR.aa hHeld.1 hv18.aa (Ext.refl _)).mono ?_; rintro e wS18 ⟨rfl, hb⟩; rw [decide_eq_true rfl]); refine ⟨_, rfl, HM.out _ (hHeld.1.trans hb), fun hHeld => ?_⟩; (dsimp only [putW]))
    (refine wg_take 20 (v := ?_) hR rfl (by kernel_rfl) (by kernel_rfl) ?_ (by with_reducible assumption) ?_; rotate_left; (focus (intro w hSw; (try dsimp only at hSw); go_simp; (try with_reducible rfl))); (dsimp only [putW]))
    (refine wg_take 21 (v := ?_) hR rfl (by kernel_rfl) (by kernel_rfl) ?_ (by with_reducible assumption) ?_; rotate_left; (focus (intro w hSw; (try dsimp only at hSw); go_simp; (try with_reducible rfl))); (dsimp only [putW]))
    refine wg_fin hR hK [(18, 0), (71, 21), (0, 20), (0, 19), (0, 18), (0, 17), (0, 16), (0, 15), (0, 14), (0, 13), (0, 12), (0, 11), (0, 10), (0, 9), (0, 8), (0, 7), (0, 6), (0, 5), (0, 4), (0, 3), (0, 2), (0, 1)] (by kernel_rfl) (by kernel_rfl) (by dsimp only [mg, gsOf, valAt]) ?_; clear hW1 hW2 hW3 hW4 hW5 hR hK hL
    clear r3
    clear r4
    clear r6
    clear r7
    have hb := hHeld.1
    clear hHeld HM
    refine exit_at (fun V => Ext w V ∧ VA V B0 0 (rowL 14) ∧ V.cell? ⟨Oa, 0, none⟩ = some (.slice (some ⟨B0, 0, none⟩) 24 k0) ∧ V.cell? ⟨O1, 0, none⟩ = some (.slice (some ⟨P1, p1, none⟩) 24 q1) ∧ V.cell? ⟨O2, 0, none⟩ = some (.slice (some ⟨P2, p2, none⟩) 24 q2) ∧ VA V P1 p1 (rowL 0) ∧ VA V P2 p2 (rowL 8) ∧ StripsAt V (some ⟨Ob, 0, none⟩) 3 [(rowL 6, rowL 14), (rowL 4, rowL 4), (rowL 12, rowL 12)] ∧ AreasAt V pa 3 [rowL 6, rowL 0, rowL 8] ∧ VA V Br ro (rowL 0) ∧ V.cell? ⟨O7, 0, none⟩ = some (.slice (some ⟨Br, ro, none⟩) 24 kr) ∧ IntsAt V fa (intsN [0, 2])) ⟨hE.trans (by first | exact hb | exact Ext.alloc hb _ | exact Ext.alloc (Ext.alloc hb _) _), vA.ext (by first | exact hb | exact Ext.alloc hb _ | exact Ext.alloc (Ext.alloc hb _) _), Ext.cell (by first | exact hb | exact Ext.alloc hb _ | exact Ext.alloc (Ext.alloc hb _) _) cA, Ext.cell (by first | exact hb | exact Ext.alloc hb _ | exact Ext.alloc (Ext.alloc hb _) _) c3, Ext.cell (by first | exact hb | exact Ext.alloc hb _ | exact Ext.alloc (Ext.alloc hb _) _) c4, vC.ext (by first | exact hb | exact Ext.alloc hb _ | exact Ext.alloc (Ext.alloc hb _) _), vS.ext (by first | exact hb | exact Ext.alloc hb _ | exact Ext.alloc (Ext.alloc hb _) _), sS.ext (by first | exact hb | exact Ext.alloc hb _ | exact Ext.alloc (Ext.alloc hb _) _), pP.ext (by first | exact hb | exact Ext.alloc hb _ | exact Ext.alloc (Ext.alloc hb _) _), vR.ext (by first | exact hb | exact Ext.alloc hb _ | exact Ext.alloc (Ext.alloc hb _) _), Ext.cell (by first | exact hb | exact Ext.alloc hb _ | exact Ext.alloc (Ext.alloc hb _) _) cR, fF.ext (by first | exact hb | exact Ext.alloc hb _ | exact Ext.alloc (Ext.alloc hb _) _)⟩ ?_
    clear hE vA cA c3 c4 vC vS sS pP vR cR fF lvA lcA lc3 lc4 lvC lvS lvR lcR hb
    rintro V ⟨hE, vA, cA, c3, c4, vC, vS, sS, pP, vR, cR, fF⟩
    have lvA := vA.lt
    have lcA : Oa < V.heap.size := World.block_lt_of_cell? V _ cA
    have lc3 : O1 < V.heap.size := World.block_lt_of_cell? V _ c3
    have lc4 : O2 < V.heap.size := World.block_lt_of_cell? V _ c4
    have lvC := vC.lt
    have lvS := vS.lt
    have lvR := vR.lt
    have lcR : O7 < V.heap.size := World.block_lt_of_cell? V _ cR
    go_wp2_with fail
    have HM := Lib.hid (show ∀ w', Ext V w' → Ext V w' ∧ w'.cell? ⟨Oa, 0, none⟩ = some (.slice (some ⟨B0, 0, none⟩) 24 k0) from fun w' h => ⟨h, h.cell cA⟩)
    refine wg_begin [(some 111, [18], []), (some 112, [111], [0]), (some 113, [10, 112], [1]), (some 114, [112, 113], [1, 2]), (some 115, [114], [3, 1]), (some 116, [13, 115], [4]), (some 117, [116, 115], [5, 4]), (some 118, [115, 117], [4, 6]), (some 119, [118], [7, 4]), (some 120, [9, 119], [8]), (some 121, [119], [8]), (some 122, [120, 121, 119], [9, 10, 8, 8]), (some 123, [119, 122], [8, 11]), (some 124, [123], [12, 11]), (some 125, [1, 124], [13]), (some 126, [2, 124], [13]), (some 127, [6, 124], [13]), (some 128, [125, 126, 127, 124], [14, 15, 16, 13, 13]), (some 129, [124, 128], [13, 17]), (some 130, [129], [18, 17]), (some 131, [1, 130], [19]), (some 132, [2, 130], [19]), (some 133, [132, 130], [21, 19]), (some 134, [6, 130], [19]), (some 135, [134, 130], [23, 19]), (some 136, [131, 133, 135, 130], [20, 22, 24, 19, 19]), (some 137, [136, 130], [25, 19]), (some 138, [130, 137], [19, 26]), (some 139, [138], [27, 25]), (some 140, [2, 139], [28]), (some 141, [140, 139], [29, 28, 28]), (some 142, [139, 141], [28, 30]), (some 143, [142], [31, 30]), (some 144, [143], [32]), (some 145, [144, 143], [33, 32]), (some 146, [145, 143], [34, 32, 32]), (some 147, [146, 143], [35, 32]), (some 148, [143, 147], [32, 36]), (some 0, [148], [37, 35, 0, 1, 2, 3, 4, 5, 6, 7, 8, 9, 10, 11, 12, 13, 14, 15, 16, 17, 18, 19, 20, 21, 22, 23, 24, 25, 26, 27, 28, 29, 30, 31, 32, 33, 34, 35, 36, 37])] (fun w' => Ext V w' ∧ w'.cell? ⟨Oa, 0, none⟩ = some (.slice (some ⟨B0, 0, none⟩) 24 k0)) (by kernel_rfl) (by kernel_rfl) (by kernel_rfl) (by kernel_rfl) (by intro c d v a w h; cases d <;> first | exact h | (exact nomatch h.1) | (dsimp +zetaDelta only [Exit.then, Exit.inBlock] at h ⊢; exact h)) ((HM.out _ (Ext.drew (Ext.refl _)))) (fun ops Q L hL hR hK hHeld => ?_); replace hL := Lib.hid hL; have hW1 := @evalW_tmp; have hW2 := @evalW_const; have hW3 := @evalW_func; have hW4 := @look_cons; have hW5 := @look_nil
    have r18 := wg_read hL.out 18 rfl
    have r10 := wg_read hL.out 10 rfl
    have r13 := wg_read hL.out 13 rfl
    have r9 := wg_read hL.out 9 rfl
    have r1 := wg_read hL.out 1 rfl
    have r2 := wg_read hL.out 2 rfl
    have r6 := wg_read hL.out 6 rfl
    (refine wg_take 0 (v := ?_) hR rfl (by kernel_rfl) (by kernel_rfl) ?_ (by with_reducible assumption) ?_; rotate_left; (focus (intro w hSw; (try dsimp only at hSw); go_simp; (try with_reducible rfl))); (dsimp only [putW]))
    (refine wg_take 1 (v := ?_) hR rfl (by kernel_rfl) (by kernel_rfl) ?_ (by with_reducible assumption) ?_; rotate_left; (focus (intro w hSw; (try dsimp only at hSw); go_simp; (try with_reducible rfl))); (dsimp only [putW]))
    (refine wg_take 2 (v := ?_) hR rfl (by kernel_rfl) (by kernel_rfl) ?_ (by with_reducible assumption) ?_; rotate_left; (focus (intro w hSw; (try dsimp only at hSw); go_simp; (try with_reducible rfl))); (dsimp only [putW]))
    (refine wg_take 3 (v := ?_) hR rfl (by kernel_rfl) (by kernel_rfl) ?_ (by with_reducible assumption) ?_; rotate_left; (focus (intro w hSw; (try dsimp only at hSw); go_simp; (try with_reducible rfl))); (dsimp only [putW]))
    (refine wg_take 4 (v := ?_) hR rfl (by kernel_rfl) (by kernel_rfl) ?_ (by with_reducible assumption) ?_; rotate_left; (focus (intro w hSw; (try dsimp only at hSw); go_simp; (try with_reducible rfl))); (dsimp only [putW]))
    (refine wg_take 5 (v := ?_) hR rfl (by kernel_rfl) (by kernel_rfl) ?_ (by with_reducible assumption) ?_; rotate_left; (focus (intro w hSw; (try dsimp only at hSw); go_simp; (try with_reducible rfl))); (dsimp only [putW]))
    (refine wg_take 6 (v := ?_) hR rfl (by kernel_rfl) (by kernel_rfl) ?_ (by with_reducible assumption) ?_; rotate_left; (focus (intro w hSw; (try dsimp only at hSw); go_simp; (try with_reducible rfl))); (dsimp only [putW]))
    (refine wg_take 7 (v := ?_) hR rfl (by kernel_rfl) (by kernel_rfl) ?_ (by with_reducible assumption) ?_; rotate_left; (focus (intro w hSw; (try dsimp only at hSw); go_simp; (try with_reducible rfl))); (dsimp only [putW]))
    (refine wg_take 8 (v := ?_) hR rfl (by kernel_rfl) (by kernel_rfl) ?_ (by with_reducible assumption) ?_; rotate_left; (focus (intro w hSw; (try dsimp only at hSw); go_simp; (try with_reducible rfl))); (dsimp only [putW]))
    (refine wg_take 9 (v := ?_) hR rfl (by kernel_rfl) (by kernel_rfl) ?_ (by with_reducible assumption) ?_; rotate_left; (focus (intro w hSw; (try dsimp only at hSw); go_simp; (try with_reducible rfl))); (dsimp only [putW]))
    (refine wg_step 10 hR rfl (by kernel_rfl) (by kernel_rfl) ?_ (by kernel_rfl); refine wg_eff (v := ?_) (w' := ?_) ?_ ?_ ?_; rotate_left; rotate_left; (focus (go_simp; first | done | (with_reducible rfl) | (refine ⟨?_, ?_⟩ <;> with_reducible rfl))); (focus (exact HM.out _ (Ext.alloc hHeld.1 _))); intro hHeld; (dsimp only [putW]))
    (refine wg_step 11 hR rfl (by kernel_rfl) (by kernel_rfl) ?_ (by kernel_rfl); refine wg_call (f := 27) (args := ?_) ?_ ?_; rotate_left; (focus (go_simp; first | done | (with_reducible rfl) | (refine ⟨?_, ?_⟩ <;> with_reducible rfl))); (go_at_call 27; refine (rInts_t fc 2 _ fF hHeld.1 (ints2 V 0 2 (x := 0) (y := 2) (t := 3) rfl rfl) (by (repeat' (first | (with_reducible assumption) | (with_reducible exact Ext.refl _) | (with_reducible refine Ext.alloc ?_ _) | (with_reducible refine Ext.drew ?_) | (with_reducible refine Ext.drewN ?_ _) | (with_reducible refine Ext.setCell ?_ ?_ _) | (with_reducible refine Ext.trans ?_ (by assumption)) | go_size))) rfl (by decide)).mono ?_; rintro e wI ⟨rfl, hb⟩); refine ⟨_, rfl, HM.out _ (hHeld.1.trans hb), fun hHeld => ?_⟩; (dsimp only [putW]))
    (refine wg_take 12 (v := ?_) hR rfl (by kernel_rfl) (by kernel_rfl) ?_ (by with_reducible assumption) ?_; rotate_left; (focus (intro w hSw; (try dsimp only at hSw); go_simp; (try with_reducible rfl))); (dsimp only [putW]))
    (refine wg_take 13 (v := ?_) hR rfl (by kernel_rfl) (by kernel_rfl) ?_ (by with_reducible assumption) ?_; rotate_left; (focus (intro w hSw; (try dsimp only at hSw); go_simp; (try with_reducible rfl))); (dsimp only [putW]))
    (refine wg_take 14 (v := ?_) hR rfl (by kernel_rfl) (by kernel_rfl) ?_ (by with_reducible assumption) ?_; rotate_left; (focus (intro w hSw; (try dsimp only at hSw); go_simp; (try with_reducible rfl))); (dsimp only [putW]))
    (refine wg_take 15 (v := ?_) hR rfl (by kernel_rfl) (by kernel_rfl) ?_ (by with_reducible assumption) ?_; rotate_left; (focus (intro w hSw; (try dsimp only at hSw); go_simp; (try with_reducible rfl))); (dsimp only [putW]))
    (refine wg_take 16 (v := ?_) hR rfl (by kernel_rfl) (by kernel_rfl) ?_ (by with_reducible assumption) ?_; rotate_left; (focus (intro w hSw; (try dsimp only at hSw); go_simp; (try with_reducible rfl))); (dsimp only [putW]))
    (refine wg_step 17 hR rfl (by kernel_rfl) (by kernel_rfl) ?_ (by kernel_rfl); refine wg_call (f := 23) (args := ?_) ?_ ?_; rotate_left; (focus (go_simp; first | done | (with_reducible rfl) | (refine ⟨?_, ?_⟩ <;> with_reducible rfl))); (go_at_call 23; refine (Check_r 3 k0 pc _ vA.aa hHeld.1 sS hHeld.1 pP hHeld.1 (HT.out.ext (hE.trans hHeld.1)) ex_check).mono ?_; rintro e wC ⟨rfl, hb⟩); refine ⟨_, rfl, HM.out _ (hHeld.1.trans hb), fun hHeld => ?_⟩; (dsimp only [putW]))
    (refine wg_take 18 (v := ?_) hR rfl (by kernel_rfl) (by kernel_rfl) ?_ (by with_reducible assumption) ?_; rotate_left; (focus (intro w hSw; (try dsimp only at hSw); go_simp; (try with_reducible rfl))); (dsimp only [putW]))
    (refine wg_take 19 (v := ?_) hR rfl (by kernel_rfl) (by kernel_rfl) ?_ (by with_reducible assumption) ?_; rotate_left; (focus (intro w hSw; (try dsimp only at hSw); go_simp; (try with_reducible rfl))); (dsimp only [putW]))
    (refine wg_take 20 (v := ?_) hR rfl (by kernel_rfl) (by kernel_rfl) ?_ (by with_reducible assumption) ?_; rotate_left; (focus (intro w hSw; (try dsimp only at hSw); go_simp; (try with_reducible rfl))); (dsimp only [putW]))
    (refine wg_take 21 (v := ?_) hR rfl (by kernel_rfl) (by kernel_rfl) ?_ (by with_reducible assumption) ?_; rotate_left; (focus (intro w hSw; (try dsimp only at hSw); go_simp; (try with_reducible rfl))); (dsimp only [putW]))
    (refine wg_take 22 (v := ?_) hR rfl (by kernel_rfl) (by kernel_rfl) ?_ (by with_reducible assumption) ?_; rotate_left; (focus (intro w hSw; (try dsimp only at hSw); go_simp; (try with_reducible rfl))); (dsimp only [putW]))
    (refine wg_take 23 (v := ?_) hR rfl (by kernel_rfl) (by kernel_rfl) ?_ (by with_reducible assumption) ?_; rotate_left; (focus (intro w hSw; (try dsimp only at hSw); go_simp; (try with_reducible rfl))); (dsimp only [putW]))
    (refine wg_take 24 (v := ?_) hR rfl (by kernel_rfl) (by kernel_rfl) ?_ (by with_reducible assumption) ?_; rotate_left; (focus (intro w hSw; (try dsimp only at hSw); go_simp; (try with_reducible rfl))); (dsimp only [putW]))
    (refine wg_step 25 hR rfl (by kernel_rfl) (by kernel_rfl) ?_ (by kernel_rfl); refine wg_call (f := 23) (args := ?_) ?_ ?_; rotate_left; (focus (go_simp; first | done | (with_reducible rfl) | (refine ⟨?_, ?_⟩ <;> with_reducible rfl))); (go_at_call 23; refine (Check_r 3 k0 pc _ vA.aa hHeld.1 (sS.take 2 (by omega)) hHeld.1 (pP.take 2 (by omega)) hHeld.1 (HT.out.ext (hE.trans hHeld.1)) ex_check2).mono ?_; rintro e wD ⟨rfl, hb⟩); refine ⟨_, rfl, HM.out _ (hHeld.1.trans hb), fun hHeld => ?_⟩; (dsimp only [putW]))
    (refine wg_take 26 (v := ?_) hR rfl (by kernel_rfl) (by kernel_rfl) ?_ (by with_reducible assumption) ?_; rotate_left; (focus (intro w hSw; (try dsimp only at hSw); go_simp; (try with_reducible rfl))); (dsimp only [putW]))
    (refine wg_take 27 (v := ?_) hR rfl (by kernel_rfl) (by kernel_rfl) ?_ (by with_reducible assumption) ?_; rotate_left; (focus (intro w hSw; (try dsimp only at hSw); go_simp; (try with_reducible rfl))); (dsimp only [putW]))
    (refine wg_take 28 (v := ?_) hR rfl (by kernel_rfl) (by kernel_rfl) ?_ (by with_reducible assumption) ?_; rotate_left; (focus (intro w hSw; (try dsimp only at hSw); go_simp; (try with_reducible rfl))); (dsimp only [putW]))
    (refine wg_take 29 (v := ?_) hR rfl (by kernel_rfl) (by kernel_rfl) ?_ (by with_reducible assumption) ?_; rotate_left; (focus (intro w hSw; (try dsimp only at hSw); go_simp; (try with_reducible rfl))); (dsimp only [putW]))
    (refine wg_step 30 hR rfl (by kernel_rfl) (by kernel_rfl) ?_ (by kernel_rfl); refine wg_call (f := 19) (args := ?_) ?_ ?_; rotate_left; (focus (go_simp; first | done | (with_reducible rfl) | (refine ⟨?_, ?_⟩ <;> with_reducible rfl))); (go_at_call 19; refine (ValidS_r 3 _ sS hHeld.1 ex_ok).mono ?_; rintro e wV ⟨rfl, hb⟩); refine ⟨_, rfl, HM.out _ (hHeld.1.trans hb), fun hHeld => ?_⟩; (dsimp only [putW]))
    (refine wg_take 31 (v := ?_) hR rfl (by kernel_rfl) (by kernel_rfl) ?_ (by with_reducible assumption) ?_; rotate_left; (focus (intro w hSw; (try dsimp only at hSw); go_simp; (try with_reducible rfl))); (dsimp only [putW]))
    (refine wg_take 32 (v := ?_) hR rfl (by kernel_rfl) (by kernel_rfl) ?_ (by with_reducible assumption) ?_; rotate_left; (focus (intro w hSw; (try dsimp only at hSw); go_simp; (try with_reducible rfl))); (dsimp only [putW]))
    (refine wg_take 33 (v := ?_) hR rfl (by kernel_rfl) (by kernel_rfl) ?_ (by with_reducible assumption) ?_; rotate_left; (focus (intro w hSw; (try dsimp only at hSw); go_simp; (try with_reducible rfl))); (dsimp only [putW]))
    (refine wg_step 34 hR rfl (by kernel_rfl) (by kernel_rfl) ?_ (by kernel_rfl); refine wg_eff (v := ?_) (w' := ?_) ?_ ?_ ?_; rotate_left; rotate_left; (focus (go_simp; first | done | (with_reducible rfl) | (refine ⟨?_, ?_⟩ <;> with_reducible rfl))); (focus (exact HM.out _ (Ext.alloc hHeld.1 _))); intro hHeld; (dsimp only [putW]))
    (refine wg_step 35 hR rfl (by kernel_rfl) (by kernel_rfl) ?_ (by kernel_rfl); refine wg_call (f := 19) (args := ?_) ?_ ?_; rotate_left; (focus (go_simp; first | done | (with_reducible rfl) | (refine ⟨?_, ?_⟩ <;> with_reducible rfl))); (go_at_call 19; refine (ValidS_r 1 _ (strips1 _) (Ext.refl _) ex_bad).mono ?_; rintro e wW ⟨rfl, hb⟩); refine ⟨_, rfl, HM.out _ (hHeld.1.trans hb), fun hHeld => ?_⟩; (dsimp only [putW]))
    (refine wg_take 36 (v := ?_) hR rfl (by kernel_rfl) (by kernel_rfl) ?_ (by with_reducible assumption) ?_; rotate_left; (focus (intro w hSw; (try dsimp only at hSw); go_simp; (try with_reducible rfl))); (dsimp only [putW]))
    (refine wg_take 37 (v := ?_) hR rfl (by kernel_rfl) (by kernel_rfl) ?_ (by with_reducible assumption) ?_; rotate_left; (focus (intro w hSw; (try dsimp only at hSw); go_simp; (try with_reducible rfl))); (dsimp only [putW]))
    (refine wg_take 38 (v := ?_) hR rfl (by kernel_rfl) (by kernel_rfl) ?_ (by with_reducible assumption) ?_; rotate_left; (focus (intro w hSw; (try dsimp only at hSw); go_simp; (try with_reducible rfl))); (dsimp only [putW]))
    refine wg_fin hR hK [(0, 0), (110, 38), (0, 37), (0, 36), (0, 35), (0, 34), (0, 33), (0, 32), (0, 31), (0, 30), (0, 29), (0, 28), (0, 27), (0, 26), (0, 25), (0, 24), (0, 23), (0, 22), (0, 21), (0, 20), (0, 19), (0, 18), (0, 17), (0, 16), (0, 15), (0, 14), (0, 13), (0, 12), (0, 11), (0, 10), (0, 9), (0, 8), (0, 7), (0, 6), (0, 5), (0, 4), (0, 3), (0, 2), (0, 1)] (by kernel_rfl) (by kernel_rfl) (by dsimp only [mg, gsOf, valAt]) ?_; clear hW1 hW2 hW3 hW4 hW5 hR hK hL
    clear r18
    clear r10
    clear r13
    clear r9
    clear r1
    clear r2
    clear r6
    have hb := hHeld.1
    clear hHeld HM
    go_wp2_with fail
    go_ret
    exact ⟨rfl, hE.trans hb⟩

end Go.Proofs.YtglfoglkdbbmmaaDoor

/- What every law of this seat uses: the listed tables; integers in their bounds. -/
namespace Go.Proofs.YtglfoglkdbbmmaaDoor
open Go.ChangeShapes Go.WideShapes Go.ChangeAt Go.RowKit

theorem own : ownKnob Tryd.prog.godebug = none := by kernel_rfl
theorem laidOut : laidOutB Tryd.prog = true := by kernel_rfl
def laidTabs : List (String × DataW Unit) := [("math/bits.deBruijn32tab", Rows.laid_math_bits_deBruijn32tab), ("math/bits.deBruijn64tab", Rows.laid_math_bits_deBruijn64tab)]
theorem gTab : Tryd.prog.globalNamed "math/bits.deBruijn64tab" = some 1 := by kernel_rfl
theorem tTab : (Tryd.prog.globals[1]?).map (·.type) = some 105 := by kernel_rfl

theorem door_met (os : Os) (args : Array Value) : laidMetH Tryd.prog laidTabs ((World.doorLaid Tryd.prog 19 os).forCall (fun _ _ => 0) ⟨#[], args, []⟩).memory :=
  laidMetH_of_parts3 (fuel := 8) (laidMet_of_run' 8 (by kernel_rfl) (by kernel_rfl)) (by kernel_rfl) (by kernel_rfl)

theorem tab_of_laid {W : World} (h : laidMetH Tryd.prog laidTabs W) : Tab W := by
  rw [MakeChecks.laidMetH_plain _ _ _ (by kernel_rfl)] at h
  have h2 : laidMet Tryd.prog [("math/bits.deBruijn64tab", Lib.tabData .u8 (Lib.deBruijn64tab.map Int.ofNat))] W := laidMet.tail h
  have ht := Lib.tabIs_of_head gTab tTab Tryd.underlying105 Tryd.underlying5 (by kernel_rfl) (by kernel_rfl) h2
  have hc : ∀ j, j < 64 → W.cell? ⟨1, j, none⟩ = some (.int .u8 (Lib.deBruijn64tab.getD j 0)) := fun j hj => by
    have := Lib.TabIs.cell ht gTab j (by rw [List.length_map]; exact hj)
    rw [this]
    simp [List.getD_eq_getElem?_getD, List.getElem?_map]
    rw [List.getElem?_eq_getElem (show j < Lib.deBruijn64tab.length from hj)]
    rfl
  exact ⟨World.block_lt_of_cell? W _ (hc 0 (by decide)), hc⟩

theorem isI_of_wf {n : Int} (h : (Lit.int .i64 n).wf = true) : IsI n := by
  simp [Lit.wf, IntKind.min, IntKind.max, IntKind.signed, IntKind.bits] at h
  exact ⟨by omega, by omega⟩

end Go.Proofs.YtglfoglkdbbmmaaDoor

/- The opener: rows of four ints in memory. -/
namespace Go.Proofs.YtglfoglkdbbmmaaDoor
open Go.ChangeShapes Go.WideShapes Go.ChangeAt Go.RowKit Go.Deep

def Pair (v : Value) : Prop := ∃ x y : Int, v = .agg #[.int .i64 x, .int .i64 y] ∧ IsI x ∧ IsI y

section
variable {H : Type} {enc : TypeId × Value → H} {W : World}
/-- An array of ints (each one cell): what it reads. -/
theorem ints_of_array {spare : Nat → Bool} {held : Bool} {t : TypeId} {k fuel : Nat} {cs : List Value} {x : DataW H × List MemPlace} (ht : Tryd.prog.underlying t = some (.array k 3)) (h : DataW.trod enc Tryd.prog W 0 spare held fuel t cs = some x) (hc : cs.length = k) :
    ∃ q : Nat → Int, ∀ j, j < k → cs[j]? = some (.int .i64 (q j)) ∧ IsI (q j) := by
  obtain ⟨xs, m, rfl, hx, hlen, hxl, hg⟩ := DataW.trod_array ht h
  have hone : Tryd.prog.cellsOf 3 = 1 := by kernel_rfl
  have each : ∀ j, j < k → ∃ n : Int, cs[j]? = some (.int .i64 n) ∧ IsI n := fun j hj => by
    have h1 := hg j hj
    rw [hone, Nat.mul_one] at h1
    have hx : xs[j]? = some (xs[j]'(by omega)) := List.getElem?_eq_getElem (by omega)
    rw [hx] at h1
    obtain ⟨n, hn, _, hw⟩ := DataW.trod_int Tryd.underlying3 h1
    have hcj : cs[j]? = some (.int .i64 n) := by
      have e : ((cs.drop j).take 1)[0]? = some (.int .i64 n) := by rw [hn]; rfl
      rw [List.getElem?_take_of_lt (by omega), List.getElem?_drop, Nat.add_zero] at e
      exact e
    exact ⟨n, hcj, isI_of_wf hw⟩
  obtain ⟨q, hq⟩ := choose_lt each
  exact ⟨q, hq⟩

set_option maxRecDepth 100000 in
theorem open_pair {b0 : Nat} {v : Value} {d : DataW H} {p : List MemPlace} (hval : Value.okWide Tryd.prog W .any b0 50 v) (h : DataW.Trod enc Tryd.prog W 0 (fun _ => true) true 50 v d p) : Pair v := by
  have hu := Tryd.underlying50
  simp only [Value.okWide, hu] at hval
  obtain ⟨cs, rfl, hsz, _⟩ := hval
  have h2 : Tryd.prog.cellsOf 50 = 2 := by kernel_rfl
  obtain ⟨fuel, hf⟩ := h
  have hl : cs.toList.length = 2 := by rw [Array.length_toList, hsz, h2]
  obtain ⟨q, hq⟩ := ints_of_array hu hf (by simpa [Value.cells] using hl)
  obtain ⟨l⟩ := cs
  match l, hl with
  | [x0, x1], _ =>
    have e0 := hq 0 (by omega)
    have e1 := hq 1 (by omega)
    simp [Value.cells] at e0 e1
    exact ⟨q 0, q 1, by rw [e0.1, e1.1], e0.2, e1.2⟩
end


def Quads (w : World) (v : Value) : Prop := ∃ (a : Option Addr) (n c : Nat) (q : Nat → Nat → Int), v = .slice a n c ∧ n ≤ c ∧ c ≤ 9223372036854775807 ∧ (a = none → c = 0) ∧ QAt w a n q

section
variable {H : Type} {enc : TypeId × Value → H} {W : World}
set_option maxRecDepth 100000 in
theorem open_quads {b0 : Nat} {v : Value} {d : DataW H} {p : List MemPlace} (hval : Value.okWide Tryd.prog W .any b0 22 v) (h : DataW.Trod enc Tryd.prog W 0 (fun _ => true) true 22 v d p) : Quads W v := by
  obtain ⟨a, n, c, rfl⟩ := okWide_slice Tryd.underlying22 hval
  obtain ⟨fuel, hf⟩ := h
  rcases open_slice Tryd.underlying22 hf with ⟨hcs, _⟩ | ⟨a', len, cap, m, k, D, Pl, hcs, hb, hl, hm, hmm, _, hx⟩
  · simp [Value.cells] at hcs
    obtain ⟨rfl, rfl, rfl⟩ := hcs
    exact ⟨none, 0, 0, fun _ _ => 0, rfl, by omega, by omega, fun _ => rfl, .inl rfl⟩
  · simp [Value.cells] at hcs
    obtain ⟨rfl, rfl, rfl⟩ := hcs
    unfold maxLen at hm
    rcases Nat.eq_zero_or_pos n with h0 | h0
    · exact ⟨_, _, _, fun _ _ => 0, rfl, by omega, by omega, (fun e => by cases e), .inl h0⟩
    · have h4 : Tryd.prog.cellsOf 59 = 4 := by kernel_rfl
      rw [h4] at hx
      simp only [if_true] at hmm
      subst hmm
      have each : ∀ i, i < n → ∃ q : Nat → Int, ∀ j, j < 4 → W.cell? (a'.add (i * 4 + j)) = some (.int .i64 (q j)) ∧ IsI (q j) := fun i hi => by
        obtain ⟨cs', hc1, hc2⟩ := hx i (by omega)
        obtain ⟨_, hcl, hat⟩ := World.cells?_some hc1
        obtain ⟨q, hq⟩ := ints_of_array Tryd.underlying59 hc2 hcl
        refine ⟨q, fun j hj => ⟨?_, (hq j hj).2⟩⟩
        rw [← Go.Deep.add_add, hat j hj]
        exact (hq j hj).1
      obtain ⟨q, hq⟩ := choose_lt each
      obtain ⟨b, off, spot⟩ := a'
      have hspot : spot = none := by have := World.cell?_spot (hq 0 h0 0 (by omega)).1; simpa [Addr.add] using this
      subst hspot
      refine ⟨_, _, _, q, rfl, by omega, by omega, (fun e => by cases e), .inr ⟨b, off, rfl, fun i hi j hj => ?_⟩⟩
      have := hq i hi j hj
      rw [add_plain, ← Nat.add_assoc] at this
      exact this
end

end Go.Proofs.YtglfoglkdbbmmaaDoor

/- What the laws of chapter 16 call: in the forms that their walks want. -/
namespace Go.Proofs.YtglfoglkdbbmmaaDoor
namespace Globe

/-- An area, and further ones put to it. -/
def uniL : List Int → List (List Int) → List Int
  | r, [] => r
  | r, p :: ps => uniL (unionL r p) ps
theorem uni_snoc : ∀ (ps : List (List Int)) (r p : List Int), uniL r (ps ++ [p]) = unionL (uniL r ps) p
  | [], _, _ => rfl
  | q :: ps, r, p => uni_snoc ps (unionL r q) p
theorem uni_valid : ∀ (ps : List (List Int)) {r : List Int}, validL r = true → (∀ p ∈ ps, validL p = true) → validL (uniL r ps) = true
  | [], _, h, _ => h
  | q :: ps, _, h, hp => uni_valid ps (union_valid h (hp q (by simp))) (fun p hp' => hp p (by simp [hp']))
theorem has_uni {x y : Nat} (hy : y < 24) : ∀ (ps : List (List Int)) (r : List Int), hasL (uniL r ps) x y = (hasL r x y || ps.any fun p => hasL p x y)
  | [], r => by simp [uniL]
  | q :: ps, r => by rw [uniL, has_uni hy ps, has_union hy, List.any_cons, Bool.or_assoc]
theorem has_pieces {x y : Nat} (hy : y < 24) : ∀ (ss : List (List Int)) (a : List Int), (hasL (leftL a ss) x y || (piecesL a ss).any fun p => hasL p x y) = hasL a x y
  | [], a => by simp [leftL, piecesL]
  | s :: ss, a => by
    rw [leftL, piecesL, List.any_cons, has_meet hy]
    have := has_pieces (x := x) hy ss (lessL a s)
    rw [has_less hy] at this
    rw [← Bool.or_assoc, Bool.or_comm (hasL (leftL (lessL a s) ss) x y), Bool.or_assoc, this]
    cases hasL a x y <;> cases hasL s x y <;> rfl
theorem uni_pieces {a : List Int} (ha : validL a = true) (ss : List (List Int)) : uniL (leftL a ss) (piecesL a ss) = a :=
  ext_has (uni_valid _ (left_valid ss ha) (pieces_valid ss ha)) ha fun x y _ hy => by rw [has_uni hy, has_pieces hy]
/-- How many cells areas have together. -/
def sumC : List (List Int) → Nat
  | [] => 0
  | p :: ps => (cellsTo p 24).length + sumC ps
theorem sum_snoc : ∀ (ps : List (List Int)) (p : List Int), sumC (ps ++ [p]) = sumC ps + (cellsTo p 24).length
  | [], p => by simp [sumC]
  | q :: ps, p => by show _ + sumC (ps ++ [p]) = _; rw [sum_snoc ps p, sumC]; omega
theorem sum_pieces : ∀ (ss : List (List Int)) (a : List Int), (cellsTo (leftL a ss) 24).length + sumC (piecesL a ss) = (cellsTo a 24).length
  | [], a => by simp [leftL, piecesL, sumC]
  | s :: ss, a => by
    have h1 := sum_pieces ss (lessL a s)
    have h2 := count_less a s
    rw [leftL, piecesL, sumC]; omega
theorem sum_le : ∀ (ps : List (List Int)), sumC ps ≤ ps.length * 1152
  | [] => by simp [sumC]
  | p :: ps => by
    have h1 := sum_le ps
    have h2 := cellsTo_len p 24
    rw [sumC, List.length_cons]; omega
theorem piece_in : ∀ (ss : List (List Int)) {a : List Int}, validL a = true → (∀ s ∈ ss, validL s = true) → ∀ {i : Nat} {p s : List Int}, (piecesL a ss)[i]? = some p → ss[i]? = some s → containsB s p = true
  | s :: ss, a, ha, hs, 0, p, q, hp, hq => by
    simp [piecesL] at hp hq
    subst hp hq
    exact contains_meet_r ha (hs _ (by simp))
  | s :: ss, a, ha, hs, i + 1, p, q, hp, hq => piece_in ss (less_valid ha) (fun t ht => hs t (by simp [ht])) (i := i) (by simpa [piecesL] using hp) (by simpa using hq)
  | [], _, _, _, _, _, _, _, hq => by simp at hq

end Globe

open Go.RowKit

def RetS2 (w : World) (e : Ending) (w' : World) : Prop :=
  ∃ (ss : List (List Int × List Int)) (t : Nat) (a : Option Addr) (c : Nat), e = .returned (.slice a t c) ∧ StripsAt w' a t ss ∧ Globe.stripsOk ss = true ∧ t ≤ 9 ∧ Ext w w'
theorem Strips_s {w0 : World} {a : Option Addr} {n c : Nat} {q : Nat → Nat → Int} (w : World) (h : QAt w0 a n q) (hE0 : Ext w0 w) (hnc : n ≤ c) (hc : c ≤ 9223372036854775807) :
    Calls Tryd.prog 12 #[.slice a n c] w (RetS2 w) :=
  (Strips_c w h hE0 hnc hc).mono fun e w' ⟨a', c', he, hS, hE⟩ => by
    rw [stripsL_len] at he hS
    exact ⟨_, _, a', c', he, hS, stripsL_ok q (by omega), by omega, hE⟩
def DecRes2 (w : World) (n : Nat) (L : List Int) (Ss : List (List Int)) (e : Ending) (w' : World) : Prop :=
  ∃ (a : Option Addr) (c B o k : Nat), e = .returned (.tuple #[.slice a n c, .agg #[.slice (some ⟨B, o, none⟩) 24 k], .int .i64 0]) ∧ n ≤ c ∧ AreasAt w' a n (Globe.piecesL L Ss) ∧ VA w' B o (Globe.leftL L Ss) ∧ Ext w w'
theorem Decompose_s {w1 w2 : World} {a : Option Addr} {n : Nat} {ss : List (List Int × List Int)} {b o : Nat} (c k : Nat) {l : List Int} (w : World) (hl : VA w1 b o l) (e1 : Ext w1 w) (h : StripsAt w2 a n ss) (e2 : Ext w2 w) (hok : Globe.stripsOk ss = true) :
    Calls Tryd.prog 17 #[.agg #[.slice (some ⟨b, o, none⟩) 24 k], .slice a n c] w (DecRes2 w n l (ss.map fun s => s.1)) :=
  (Decompose_v c k w hl e1 h e2 hok).mono fun e w' ⟨a', c', B, o', k', he, hn, hA, hv, hE⟩ => by
    rw [List.length_map, h.1] at he hn hA
    exact ⟨a', c', B, o', k', he, hn, hA, hv, hE⟩
theorem sures_ok {ss : List (List Int × List Int)} (hok : Globe.stripsOk ss = true) : ∀ s ∈ ss.map (fun s => s.1), Globe.validL s = true := by
  intro s hs
  obtain ⟨z, hz, rfl⟩ := List.mem_map.1 hs
  exact (Globe.stripOk_v ((Globe.stripsOk_t.1 hok).2 z hz)).1
theorem cans_ok {ss : List (List Int × List Int)} (hok : Globe.stripsOk ss = true) : ∀ s ∈ ss.map (fun s => s.2), Globe.validL s = true := by
  intro s hs
  obtain ⟨z, hz, rfl⟩ := List.mem_map.1 hs
  exact (Globe.stripOk_v ((Globe.stripsOk_t.1 hok).2 z hz)).2.1
theorem Contains_r {w1 w2 : World} {b1 o1 b2 o2 : Nat} (c1 c2 : Nat) {l1 l2 : List Int} {r : Bool} (w : World) (h1 : VA w1 b1 o1 l1) (e1 : Ext w1 w) (h2 : VA w2 b2 o2 l2) (e2 : Ext w2 w) (hr : Globe.containsB l1 l2 = r) :
    Calls Tryd.prog 32 #[.agg #[.slice (some ⟨b1, o1, none⟩) 24 c1], .agg #[.slice (some ⟨b2, o2, none⟩) 24 c2]] w fun e w' => e = .returned (.bool r) ∧ Ext w w' := hr ▸ Contains_v c1 c2 w h1 e1 h2 e2
theorem rSame_r {w1 w2 : World} {b1 o1 b2 o2 : Nat} (c1 c2 : Nat) {l1 l2 : List Int} {r : Bool} (w : World) (h1 : VA w1 b1 o1 l1) (e1 : Ext w1 w) (h2 : VA w2 b2 o2 l2) (e2 : Ext w2 w) (hr : decide (l1 = l2) = r) :
    Calls Tryd.prog 21 #[.agg #[.slice (some ⟨b1, o1, none⟩) 24 c1], .agg #[.slice (some ⟨b2, o2, none⟩) 24 c2]] w fun e w' => e = .returned (.bool r) ∧ Ext w w' := hr ▸ rSame_c c1 c2 w h1.aa e1 h2.aa e2

section
variable {P : Program} {S : World → Prop} {L : List Value} {ws : List (Nat × Value)} {w : World}
/-- A new box comes up: the world goes under a name. -/
theorem wg_new {us : Array Value} {t : TypeId} {oi : Oper} {N : Value → World → Prop} (h1 : (execOp (evalW L ws) oi).run P w = .ok (.value (.pointer (some ⟨w.heap.size, 0, none⟩))) (w.alloc (.cells us t))) (hS : ∀ X, Ext w X → S X)
    (h : ∀ O X, w.heap.size = O → X.heap.size = O + 1 → Ext w X → (∀ i u, us[i]? = some u → BoxAt X O i u) → N (.pointer (some ⟨O, 0, none⟩)) X) : StepW P S L ws oi w N := by
  refine wg_eff h1 (hS _ (Ext.alloc (Ext.refl _) _)) (h _ _ rfl (by simp) (Ext.alloc (Ext.refl _) _) (fun i u hu => ⟨?_, ?_⟩))
  · rw [cell_of_row _ _ i _ t (0, 0) (heap_alloc_new w _)]; exact hu
  · simp [go_sem]
/-- A store into a box of the call's own: the world goes under a name. -/
theorem wg_put {O : Nat} {u v : Value} {oi : Oper} {N : Value → World → Prop} (h1 : (execOp (evalW L ws) oi).run P w = .ok .skip (w.setCell ⟨O, 0, none⟩ v)) (hO : BoxAt w O 0 u) (hS : ∀ X, Only O w X → S X)
    (h : ∀ X, Only O w X → BoxAt X O 0 v → N undef X) : StepW P S L ws oi w N := by
  have hB : BoxAt (w.setCell ⟨O, 0, none⟩ v) O 0 v := ⟨by have := hO.1; simp [go_sem, this], by have := hO.2; simpa [go_sem] using this⟩
  exact wg_skp h1 (hS _ ⟨0, v, rfl⟩) (h _ ⟨0, v, rfl⟩ hB)
end

end Go.Proofs.YtglfoglkdbbmmaaDoor

/- The walk over a list of what has been written: the frame stays behind a name from a function's head to its end. -/
namespace Go.Proofs.YtglfoglkdbbmmaaDoor
open Go.RowKit

section
variable {P : Program} {n : Nat} {L : List Value} {ws : List (Nat × Value)} {w : World} {Q : Exit → Act → World → Prop}

/-- The frame has n slots, and what was written lies in them. -/
def Bd (n : Nat) (L : List Value) (ws : List (Nat × Value)) : Prop := L.length = n ∧ ∀ p ∈ ws, p.1 < n
theorem Bd.lt (h : Bd n L ws) : ∀ p ∈ ws, p.1 < L.length := fun p hp => by rw [h.1]; exact h.2 p hp
theorem Bd.put (h : Bd n L ws) {d : Nat} {v : Value} (hd : Nat.blt d n = true) : Bd n L ((d, v) :: ws) :=
  ⟨h.1, fun p hp => by rcases List.mem_cons.1 hp with rfl | hp; exact Nat.blt_eq.mp hd; exact h.2 p hp⟩
/-- (Structures, that no unifier opens them.) -/
structure CW (P : Program) (c : Code) (Q : Exit → Act → World → Prop) (n : Nat) (L : List Value) (ws : List (Nat × Value)) (w : World) : Prop where
  out : Bd n L ws → c.wp P Q ⟨(setAll L ws).toArray, []⟩ w
structure QW (Q : Exit → Act → World → Prop) (e : Exit) (n : Nat) (L : List Value) (ws : List (Nat × Value)) (w : World) : Prop where
  out : Bd n L ws → Q e ⟨(setAll L ws).toArray, []⟩ w
structure PL (P : Program) (ops rest : List Oper) (Q : Exit → Act → World → Prop) (n : Nat) (L : List Value) (ws : List (Nat × Value)) (w : World) : Prop where
  out : Bd n L ws → wpList P ops.toArray Q rest ⟨(setAll L ws).toArray, []⟩ w
structure WD (P : Program) (ops : Array Oper) (Q : Exit → Act → World → Prop) (S : World → Prop) (L : List Value) (fuel : Nat) (done : List Nat) (ws : List (Nat × Value)) (w : World) : Prop where
  out : W P ops Q S L [] fuel done ws w

theorem calls_cw {f : FuncId} {fn : Func} {c : Code} {av : List Value} {R : Ending → World → Prop} (n : Nat) (ws : List (Nat × Value)) (hf : P.funcs[f]? = some fn) (hb : fn.body = some c) (hn : fn.ntmps = n)
    (he : av ++ List.replicate (n - av.length) undef = setAll (List.replicate n undef) ws) (hl : ws.all (fun p => Nat.blt p.1 n) = true)
    (h : ∀ L, CW P c (bodyPost P fn R) n L ws w) : Calls P f av.toArray w R := by
  refine calls_of_wp hf hb ?_
  have e : (av.toArray ++ Array.replicate (fn.ntmps - av.toArray.size) undef : Array Value) = (setAll (List.replicate n undef) ws).toArray := by
    rw [hn, ← he]; simp
  rw [e]
  exact (h _).out ⟨List.length_replicate, fun p hp => Nat.blt_eq.mp (List.all_eq_true.1 hl p hp)⟩

theorem cw_seq {x y : Code} (h : CW P x (Exit.then (y.wp P Q) Q) n L ws w) : CW P (.seq x y) Q n L ws w := ⟨fun b => wp_seq (h.out b)⟩
theorem cw_block {id : Nat} {c : Code} (h : CW P c (Exit.inBlock id Q) n L ws w) : CW P (.block id c) Q n L ws w := ⟨fun b => wp_block (h.out b)⟩
theorem cw_skip (h : QW Q .normal n L ws w) : CW P .skip Q n L ws w := ⟨fun b => wp_skip (h.out b)⟩
theorem cw_exit {id : Nat} (h : QW Q (.exit id) n L ws w) : CW P (.exit id) Q n L ws w := ⟨fun b => wp_exit (h.out b)⟩
theorem cw_ret (h : QW Q .ret n L ws w) : CW P .ret Q n L ws w := ⟨fun b => wp_ret (h.out b)⟩
theorem cw_plain {id : Nat} {l : List Oper} (h : PL P l l Q n L ws w) : CW P (.region id l.toArray false) Q n L ws w := ⟨fun b => wp_region_lit (h.out b)⟩
theorem cw_t {c : Operand} {x y : Code} (hc : evalW L ws c = .bool true) (h : CW P x Q n L ws w) : CW P (.cond c x y) Q n L ws w := ⟨fun b => wp_cond_true (by rw [eval_W b.lt]; exact hc) (h.out b)⟩
theorem cw_f {c : Operand} {x y : Code} (hc : evalW L ws c = .bool false) (h : CW P y Q n L ws w) : CW P (.cond c x y) Q n L ws w := ⟨fun b => wp_cond_false (by rw [eval_W b.lt]; exact hc) (h.out b)⟩
theorem cw_if {c : Operand} {x y : Code} (t : Bool) (hc : evalW L ws c = .bool t) (h1 : t = true → CW P x Q n L ws w) (h2 : t = false → CW P y Q n L ws w) : CW P (.cond c x y) Q n L ws w := by
  cases t
  · exact cw_f hc (h2 rfl)
  · exact cw_t hc (h1 rfl)

theorem qw_then {y : Code} (h : CW P y Q n L ws w) : QW (Exit.then (y.wp P Q) Q) .normal n L ws w := ⟨h.out⟩
theorem qw_then_ret {K : Act → World → Prop} (h : QW Q .ret n L ws w) : QW (Exit.then K Q) .ret n L ws w := ⟨h.out⟩
theorem qw_then_exit {K : Act → World → Prop} {id : Nat} (h : QW Q (.exit id) n L ws w) : QW (Exit.then K Q) (.exit id) n L ws w := ⟨h.out⟩
theorem qw_block {id : Nat} (h : QW Q .normal n L ws w) : QW (Exit.inBlock id Q) .normal n L ws w := ⟨h.out⟩
theorem qw_block_ret {id : Nat} (h : QW Q .ret n L ws w) : QW (Exit.inBlock id Q) .ret n L ws w := ⟨h.out⟩
theorem qw_block_out {id : Nat} (h : QW Q .normal n L ws w) : QW (Exit.inBlock id Q) (.exit id) n L ws w := ⟨fun b => by
  show (if id = id then _ else _)
  rw [if_pos rfl]; exact h.out b⟩
theorem qw_block_on {id id' : Nat} (hne : id' ≠ id) (h : QW Q (.exit id') n L ws w) : QW (Exit.inBlock id Q) (.exit id') n L ws w := ⟨fun b => by
  show (if id' = id then _ else _)
  rw [if_neg hne]; exact h.out b⟩

/-- What a function returns: its result slots and cells. -/
def ResV (P : Program) (ev : Operand → Value) (w : World) : List ResultVar → List Value → Prop
  | [], [] => True
  | .tmp t :: rs, v :: vs => ev (.tmp t) = v ∧ ResV P ev w rs vs
  | .cell a t :: rs, v :: vs => (∃ ad, ev (.tmp a) = .pointer (some ad) ∧ (loadVar t ad).run P w = .ok v w) ∧ ResV P ev w rs vs
  | _, _ => False
def resOf : List Value → Value
  | [v] => v
  | vs => .tuple vs.toArray
theorem res_map {ev : Operand → Value} {g : ResultVar → Sem Value} (h1 : ∀ t, g (.tmp t) = pure (ev (.tmp t))) (h2 : ∀ b t, g (.cell b t) = do loadVar t (← asAddr (ev (.tmp b)))) :
    ∀ {rs : List ResultVar} {vs : List Value}, ResV P ev w rs vs → (rs.mapM g).run P w = .ok vs w
  | [], [], _ => by simp [go_sem]
  | .tmp t :: rs, v :: vs, h => by
    have ih := res_map h1 h2 h.2
    rw [List.mapM_cons, h1, h.1]
    simp [ih, Result.andThen]
  | .cell b t :: rs, v :: vs, h => by
    have ih := res_map h1 h2 h.2
    obtain ⟨ad, e1, e2⟩ := h.1
    rw [List.mapM_cons, h2, e1]
    simp [ih, asAddr, e2, Result.andThen]
theorem results_g (fn : Func) (tmps : Array Value) : ∃ g : ResultVar → Sem Value, (∀ t, g (.tmp t) = pure (tmps.getD t undef)) ∧ (∀ b t, g (.cell b t) = do loadVar t (← asAddr (tmps.getD b undef))) ∧
    results fn tmps = (do let vs ← fn.results.mapM g; pure (if h : vs.size = 1 then vs[0] else .tuple vs)) := ⟨_, fun _ => rfl, fun _ _ => rfl, rfl⟩
theorem res_run {fn : Func} {a : Act} {rs : List ResultVar} {vs : List Value} (hf : fn.results = rs.toArray) (h : ResV P a.eval w rs vs) : (results fn a.tmps).run P w = .ok (resOf vs) w := by
  obtain ⟨g, h1, h2, e⟩ := results_g fn a.tmps
  have := res_map (P := P) (w := w) (ev := a.eval) h1 h2 h
  rw [e, hf, List.mapM_toArray]
  simp only [Sem.run_bind, Sem.run_map, this, Result.andThen]
  match vs with
  | [] => rfl
  | [v] => rfl
  | u :: v :: r => simp [resOf]
theorem qw_ret {fn : Func} {R : Ending → World → Prop} {rs : List ResultVar} (vs : List Value) (hf : fn.results = rs.toArray) (h : ResV P (evalW L ws) w rs vs) (hR : R (.returned (resOf vs)) w) : QW (bodyPost P fn R) .ret n L ws w := ⟨fun b =>
  bodyPost_ret (res_run hf (by rw [eval_W b.lt]; exact h)) rfl hR⟩
theorem qw_end {fn : Func} {R : Ending → World → Prop} {rs : List ResultVar} (vs : List Value) (hf : fn.results = rs.toArray) (h : ResV P (evalW L ws) w rs vs) (hR : R (.returned (resOf vs)) w) : QW (bodyPost P fn R) .normal n L ws w := ⟨fun b =>
  bodyPost_end (res_run hf (by rw [eval_W b.lt]; exact h)) rfl hR⟩

/-! One operation. -/
def StepN (P : Program) (ev : Operand → Value) (oi : Oper) (w : World) (N : Value → World → Prop) : Prop :=
  (∃ v w', (execOp ev oi).run P w = .ok (.value v) w' ∧ N v w') ∨ (∃ w', (execOp ev oi).run P w = .ok .skip w' ∧ N undef w') ∨
  (∃ f args, (execOp ev oi).run P w = .ok (.enter f args) w ∧ Calls P f args w fun e w' => ∃ v, e = .returned v ∧ N v w')
theorem StepN.wp {ev : Operand → Value} {oi : Oper} {N : Value → World → Prop} {a : Act} {K : Act → World → Prop} (h : StepN P ev oi w N) (he : a.eval = ev) (hK : ∀ v w', N v w' → K (a.put oi.dst v) w') : Oper.wp P oi a w K Q := by
  unfold Oper.wp
  rw [he]
  rcases h with ⟨v, w', h1, h3⟩ | ⟨w', h1, h3⟩ | ⟨f, args, h1, h2⟩
  · rw [h1, Oper.upon_value]; exact hK v w' h3
  · rw [h1, Oper.upon_skip]; exact hK undef w' h3
  · rw [h1, Oper.upon_enter]
    exact h2.mono fun e w' ⟨v, he, hn⟩ => by subst he; exact hK v w' hn
theorem StepN.toW {S : World → Prop} {oi : Oper} {N : Value → World → Prop} (h : StepN P (evalW L ws) oi w fun v w' => S w' ∧ N v w') : StepW P S L ws oi w fun v w' => S w' → N v w' := by
  rcases h with ⟨v, w', h1, h3⟩ | ⟨w', h1, h3⟩ | ⟨f, args, h1, h2⟩
  · exact .inl ⟨v, w', h1, h3.1, fun _ => h3.2⟩
  · exact .inr (.inl ⟨w', h1, h3.1, fun _ => h3.2⟩)
  · exact .inr (.inr ⟨f, args, h1, h2.mono fun e w' ⟨v, he, hn⟩ => ⟨v, he, hn.1, fun _ => hn.2⟩⟩)
theorem sn_call {ev : Operand → Value} {oi : Oper} {N : Value → World → Prop} {f : FuncId} {args : Array Value} (h1 : (execOp ev oi).run P w = .ok (.enter f args) w) (h2 : Calls P f args w fun e w' => ∃ v, e = .returned v ∧ N v w') : StepN P ev oi w N := .inr (.inr ⟨f, args, h1, h2⟩)
theorem sn_eff {ev : Operand → Value} {oi : Oper} {N : Value → World → Prop} {v : Value} {w' : World} (h1 : (execOp ev oi).run P w = .ok (.value v) w') (h3 : N v w') : StepN P ev oi w N := .inl ⟨v, w', h1, h3⟩
theorem sn_skp {ev : Operand → Value} {oi : Oper} {N : Value → World → Prop} {w' : World} (h1 : (execOp ev oi).run P w = .ok .skip w') (h3 : N undef w') : StepN P ev oi w N := .inr (.inl ⟨w', h1, h3⟩)
theorem sn_new {ev : Operand → Value} {oi : Oper} {N : Value → World → Prop} {us : Array Value} {t : TypeId} (h1 : (execOp ev oi).run P w = .ok (.value (.pointer (some ⟨w.heap.size, 0, none⟩))) (w.alloc (.cells us t)))
    (h : ∀ O X, w.heap.size = O → X.heap.size = O + 1 → Ext w X → (∀ i u, us[i]? = some u → BoxAt X O i u) → N (.pointer (some ⟨O, 0, none⟩)) X) : StepN P ev oi w N := by
  refine sn_eff h1 (h _ _ rfl (by simp) (Ext.alloc (Ext.refl _) _) (fun i u hu => ⟨?_, ?_⟩))
  · rw [cell_of_row _ _ i _ t (0, 0) (heap_alloc_new w _)]; exact hu
  · simp [go_sem]
theorem sn_newS {ev : Operand → Value} {oi : Oper} {N : Value → World → Prop} {us : Array Value} {t : TypeId} {k c : Nat} (h1 : (execOp ev oi).run P w = .ok (.value (.slice (some ⟨w.heap.size, 0, none⟩) k c)) (w.alloc (.cells us t)))
    (h : ∀ O X, w.heap.size = O → X.heap.size = O + 1 → Ext w X → (∀ i u, us[i]? = some u → BoxAt X O i u) → N (.slice (some ⟨O, 0, none⟩) k c) X) : StepN P ev oi w N := by
  refine sn_eff h1 (h _ _ rfl (by simp) (Ext.alloc (Ext.refl _) _) (fun i u hu => ⟨?_, ?_⟩))
  · rw [cell_of_row _ _ i _ t (0, 0) (heap_alloc_new w _)]; exact hu
  · simp [go_sem]
theorem sn_put {ev : Operand → Value} {oi : Oper} {N : Value → World → Prop} {O j : Nat} {u v : Value} (h1 : (execOp ev oi).run P w = .ok .skip (w.setCell ⟨O, j, none⟩ v)) (hO : BoxAt w O j u)
    (h : ∀ X, Only O w X → BoxAt X O j v → N undef X) : StepN P ev oi w N := by
  have hB : BoxAt (w.setCell ⟨O, j, none⟩ v) O j v := ⟨by have := hO.1; simp [go_sem, this], by have := hO.2; simpa [go_sem] using this⟩
  exact sn_skp h1 (h _ ⟨j, v, rfl⟩ hB)

/-! A region whose order is fixed. -/
def wantP (ops : List Oper) (L : List Value) (ws : List (Nat × Value)) : Option (Nat × Bool) → Bool
  | none => true
  | some (g, want) => match ops.drop g with
    | o :: _ => (match o.dst with | some d => (match look ws (base L) d with | .bool b => b == want | _ => false) | none => false)
    | [] => false
theorem wantP_spec {ops : List Oper} {o : Oper} {b : Bool} (h : Bd n L ws) (hok : ∀ x ∈ ops, ∀ d, x.dst = some d → d < n) (hw : wantP ops L ws o.guard = b) :
    Region.wanted o (yielded ops.toArray (⟨(setAll L ws).toArray, []⟩ : Act).tmps) = b := by
  subst hw
  unfold Region.wanted wantP
  cases hgd : o.guard with
  | none => rfl
  | some p =>
    obtain ⟨g, want⟩ := p
    have ho : ops.toArray[g]? = ops[g]? := by simp
    simp only [yielded, ho]
    cases hj : ops[g]? with
    | none =>
      have : ops.drop g = [] := by
        rw [List.drop_eq_nil_iff]
        rcases Nat.lt_or_ge g ops.length with h1 | h1
        · rw [List.getElem?_eq_getElem h1] at hj; cases hj
        · exact h1
      rw [this]; rfl
    | some og =>
      obtain ⟨r, hr⟩ := drop_get hj
      rw [hr]
      simp only [Option.bind_some]
      cases hd : og.dst with
      | none => rfl
      | some d =>
        have hlt : d < n := hok og (List.mem_of_getElem? hj) d hd
        have hget := setAll_get L ws h.lt d
        have hlt2 : d < (setAll L ws).toArray.size := by simp [setAll_len, h.1, hlt]
        simp only [Array.getD, hlt2, dif_pos] at hget
        simp only [Option.bind_some]
        rw [Array.getElem?_eq_getElem hlt2]
        have e : (setAll L ws).toArray[d] = look ws (base L) d := hget
        rw [e]
        cases look ws (base L) d <;> rfl
/-- All slots that a region writes lie in the frame. -/
def dstOk (n : Nat) : List Oper → Bool
  | [] => true
  | o :: r => (match o.dst with | some d => Nat.blt d n | none => true) && dstOk n r
theorem dstOk_spec {ops : List Oper} (h : dstOk n ops = true) : ∀ x ∈ ops, ∀ d, x.dst = some d → d < n := by
  induction ops with
  | nil => intro x hx; cases hx
  | cons o r ih =>
    unfold dstOk at h
    obtain ⟨h1, h2⟩ := Bool.and_eq_true_iff.1 h
    intro x hx d hd
    rcases List.mem_cons.1 hx with e | hx
    · rw [← e, hd] at h1; exact Nat.blt_eq.mp h1
    · exact ih h2 x hx d hd
theorem pl_nil {ops : List Oper} (h : QW Q .normal n L ws w) : PL P ops [] Q n L ws w := ⟨h.out⟩
theorem pl_take {ops rest : List Oper} {o : Oper} {d : Nat} (v : Value) (hdst : o.dst = some d) (hok : dstOk n ops = true) (hd : Nat.blt d n = true) (hw : wantP ops L ws o.guard = true)
    (hr : (execOp (evalW L ws) o).run P w = .ok (.value v) w) (h : PL P ops rest Q n L ((d, v) :: ws) w) : PL P ops (o :: rest) Q n L ws w := ⟨fun b => by
  refine wpList_step fun K hK => ?_
  rw [if_pos (wantP_spec b (dstOk_spec hok) hw)]
  unfold Oper.wp
  rw [eval_W b.lt, hr, Oper.upon_value]
  refine hK _ _ ?_
  rw [put_W, hdst]; exact h.out (b.put hd)⟩
theorem pl_skip {ops rest : List Oper} {o : Oper} {d : Nat} (hdst : o.dst = some d) (hok : dstOk n ops = true) (hd : Nat.blt d n = true) (hw : wantP ops L ws o.guard = false)
    (h : PL P ops rest Q n L ((d, undef) :: ws) w) : PL P ops (o :: rest) Q n L ws w := ⟨fun b => by
  refine wpList_step fun K hK => ?_
  rw [if_neg (by rw [wantP_spec b (dstOk_spec hok) hw]; simp)]
  refine hK _ _ ?_
  rw [put_W, hdst]; exact h.out (b.put hd)⟩
theorem pl_step {ops rest : List Oper} {o : Oper} {d : Nat} (hdst : o.dst = some d) (hok : dstOk n ops = true) (hd : Nat.blt d n = true) (hw : wantP ops L ws o.guard = true)
    (h : StepN P (evalW L ws) o w fun v w' => PL P ops rest Q n L ((d, v) :: ws) w') : PL P ops (o :: rest) Q n L ws w := ⟨fun b => by
  refine wpList_step fun K hK => ?_
  rw [if_pos (wantP_spec b (dstOk_spec hok) hw)]
  exact h.wp (eval_W b.lt []) fun v w' hn => hK _ _ (by rw [put_W, hdst]; exact hn.out (b.put hd))⟩
theorem pl_put {ops rest : List Oper} {o : Oper} (hdst : o.dst = none) (hok : dstOk n ops = true) (hw : wantP ops L ws o.guard = true)
    (h : StepN P (evalW L ws) o w fun _ w' => PL P ops rest Q n L ws w') : PL P ops (o :: rest) Q n L ws w := ⟨fun b => by
  refine wpList_step fun K hK => ?_
  rw [if_pos (wantP_spec b (dstOk_spec hok) hw)]
  exact h.wp (eval_W b.lt []) fun v w' hn => hK _ _ (by rw [put_W, hdst]; exact hn.out b)⟩
/-! A region that draws its order. -/
def Calm (Q : Exit → Act → World → Prop) : Prop := ∀ c d v a w, Q (.panic c) (Act.put a d v) w → Q (.panic c) a w
theorem calm_then {K : Act → World → Prop} (h : Calm Q) : Calm (Exit.then K Q) := fun c d v a w h' => h c d v a w h'
theorem calm_block {id : Nat} (h : Calm Q) : Calm (Exit.inBlock id Q) := fun c d v a w h' => h c d v a w h'
theorem calm_body {fn : Func} {R : Ending → World → Prop} : Calm (bodyPost P fn R) := fun c d v a w h => by cases d <;> exact h
theorem cw_draw {id : Nat} {ops0 : Array Oper} (T : List Row) (S : World → Prop) (hm : P.follows .mixedOrders = true) (ht : tableR ops0 = T) (hg : goodT n ops0.size T = true) (hs : Region.noSelect ops0 = true) (hQ : Calm Q) (hS : S w.drew)
    (h : ∀ (ops : Array Oper) (Q' : Exit → Act → World → Prop) (X : World), Ext w X → L.length = n → Reg P ops0 ops Q' L T → Shut (∀ ws w, QW Q .normal n L ws w → QW Q' .normal n L ws w) → WD P ops Q' S L ops0.size [] ws X) : CW P (.region id ops0 true) Q n L ws w := ⟨fun b => by
  refine wp_region_held_drew hm hS fun hS => ?_
  exact (h ops0 Q _ (Ext.drew (Ext.refl _)) b.1 ⟨rfl, ht, by rw [b.1]; exact hg, hs, hQ⟩ (fun _ _ h => h)).out b.lt⟩
variable {ops0 ops : Array Oper} {Q' : Exit → Act → World → Prop} {T : List Row} {S : World → Prop} {fuel : Nat} {done : List Nat}
theorem StepN.toD {S : World → Prop} {oi : Oper} {L' : Value → List (Nat × Value)} {Q' : Exit → Act → World → Prop} {ops : Array Oper} {fuel : Nat} {done : List Nat} (h : StepN P (evalW L ws) oi w fun v w' => S w' ∧ WD P ops Q' S L fuel done (L' v) w') : StepW P S L ws oi w fun v w' => S w' → W P ops Q' S L [] fuel done (L' v) w' :=
  StepN.toW (N := fun v w' => W P ops Q' S L [] fuel done (L' v) w') (by
    rcases h with ⟨v, w', h1, h3⟩ | ⟨w', h1, h3⟩ | ⟨f, args, h1, h2⟩
    · exact .inl ⟨v, w', h1, h3.1, h3.2.out⟩
    · exact .inr (.inl ⟨w', h1, h3.1, h3.2.out⟩)
    · exact .inr (.inr ⟨f, args, h1, h2.mono fun e w' ⟨v, he, hn⟩ => ⟨v, he, hn.1, hn.2.out⟩⟩))
theorem wd_end (hL : L.length = n) (hR : Reg P ops0 ops Q' L T) (hK : Shut (∀ ws w, QW Q .normal n L ws w → QW Q' .normal n L ws w)) (hd : upT done (numbered T 0) = []) (h : QW Q .normal n L ws w) : WD P ops Q' S L fuel done ws w := ⟨fun hb => by
  refine wpAnyH_done ?_ ?_ fuel
  · rw [List.eq_nil_iff_forall_not_mem]
    intro j hj
    have := ready_up hR hj
    rw [hd] at this; cases this
  · exact (hK _ _ h).out ⟨hL, fun p hp => by rw [← hL]; exact hb p hp⟩⟩
theorem wd_take (i : Nat) {d : Nat} {oi : Oper} {r : List Oper} (v : Value) (hR : Reg P ops0 ops Q' L T) (hi : ops0.toList.drop i = oi :: r) (hr : readyT T done i = true) (hdst : oi.dst = some d)
    (hw : wantedW T L ws oi.guard = true) (hy : ∀ w, S w → (execOp (evalW L ws) oi).run P w = .ok (.value v) w) (hS : S w)
    (h : WD P ops Q' S L fuel (i :: done) ((d, v) :: ws) w) : WD P ops Q' S L (fuel + 1) done ws w := ⟨wg_take i hR hi hr hw hy hS (by rw [hdst]; exact h.out)⟩
theorem wd_skip (i : Nat) {d : Nat} {oi : Oper} {r : List Oper} (hR : Reg P ops0 ops Q' L T) (hi : ops0.toList.drop i = oi :: r) (hr : readyT T done i = true) (hdst : oi.dst = some d)
    (hw : wantedW T L ws oi.guard = false) (hS : S w)
    (h : WD P ops Q' S L fuel (i :: done) ((d, undef) :: ws) w) : WD P ops Q' S L (fuel + 1) done ws w := ⟨wg_skip i hR hi hr hw hS (by rw [hdst]; exact h.out)⟩
theorem wd_step (i : Nat) {oi : Oper} {r : List Oper} (hR : Reg P ops0 ops Q' L T) (hi : ops0.toList.drop i = oi :: r) (hr : upT done (numbered T 0) = [i]) (hr2 : readyT T done i = true)
    (hw : wantedW T L ws oi.guard = true) (h : StepN P (evalW L ws) oi w fun v w' => S w' ∧ WD P ops Q' S L fuel (i :: done) (putW oi.dst v ws) w') : WD P ops Q' S L (fuel + 1) done ws w := ⟨wg_step i hR hi hr hw h.toD hr2⟩
theorem wd_two (i j : Nat) {oi oj : Oper} {r s : List Oper} (hR : Reg P ops0 ops Q' L T) (hi : ops0.toList.drop i = oi :: r) (hj : ops0.toList.drop j = oj :: s) (hr : upT done (numbered T 0) = [i, j]) (hr2 : readyT T done i = true)
    (hwi : wantedW T L ws oi.guard = true) (hwj : wantedW T L ws oj.guard = true)
    (h1 : StepN P (evalW L ws) oi w fun v w' => S w' ∧ WD P ops Q' S L fuel (i :: done) (putW oi.dst v ws) w')
    (h2 : StepN P (evalW L ws) oj w fun v w' => S w' ∧ WD P ops Q' S L fuel (j :: done) (putW oj.dst v ws) w') : WD P ops Q' S L (fuel + 1) done ws w := ⟨wg_two i j hR hi hj hr hwi hwj hr2 h1.toD h2.toD⟩
theorem wd_three (i j m : Nat) {oi oj om : Oper} {r s q : List Oper} (hR : Reg P ops0 ops Q' L T) (hi : ops0.toList.drop i = oi :: r) (hj : ops0.toList.drop j = oj :: s) (hm : ops0.toList.drop m = om :: q) (hr : upT done (numbered T 0) = [i, j, m]) (hr2 : readyT T done i = true)
    (hwi : wantedW T L ws oi.guard = true) (hwj : wantedW T L ws oj.guard = true) (hwm : wantedW T L ws om.guard = true)
    (h1 : StepN P (evalW L ws) oi w fun v w' => S w' ∧ WD P ops Q' S L fuel (i :: done) (putW oi.dst v ws) w')
    (h2 : StepN P (evalW L ws) oj w fun v w' => S w' ∧ WD P ops Q' S L fuel (j :: done) (putW oj.dst v ws) w')
    (h3 : StepN P (evalW L ws) om w fun v w' => S w' ∧ WD P ops Q' S L fuel (m :: done) (putW om.dst v ws) w') : WD P ops Q' S L (fuel + 1) done ws w := ⟨wg_three i j m hR hi hj hm hr hwi hwj hwm hr2 h1.toD h2.toD h3.toD⟩

/-! What of the frame is kept: the rest is forgotten. -/
def pickW (ws : List (Nat × Value)) : List Nat → Option (List (Nat × Value))
  | [] => some []
  | k :: ks => match lookO ws k, pickW ws ks with
    | some v, some r => some ((k, v) :: r)
    | _, _ => none
theorem pick_look : ∀ {ks : List Nat} {ws' : List (Nat × Value)}, pickW ws ks = some ws' → ∀ t v, lookO ws' t = some v → lookO ws t = some v
  | [], ws', h, t, v, ht => by cases h; cases ht
  | k :: ks, ws', h, t, v, ht => by
    unfold pickW at h
    cases e1 : lookO ws k with
    | none => rw [e1] at h; cases h
    | some u =>
      cases e2 : pickW ws ks with
      | none => rw [e1, e2] at h; cases h
      | some r =>
        rw [e1, e2] at h; cases h
        unfold lookO at ht
        by_cases e : t = k
        · rw [if_pos e] at ht; subst e; rw [e1]; exact ht
        · rw [if_neg e] at ht; exact pick_look e2 t v ht
theorem look_mem : ∀ {ws : List (Nat × Value)} {t : Nat} {v : Value}, lookO ws t = some v → (t, v) ∈ ws
  | (d, u) :: r, t, v, h => by
    unfold lookO at h
    by_cases e : t = d
    · rw [if_pos e] at h; cases h; subst e; exact List.mem_cons_self
    · rw [if_neg e] at h; exact List.mem_cons_of_mem _ (look_mem h)
theorem mem_look : ∀ {ws : List (Nat × Value)} {p : Nat × Value}, p ∈ ws → ∃ v, lookO ws p.1 = some v
  | (d, u) :: r, p, h => by
    by_cases e : p.1 = d
    · exact ⟨u, by rw [lookO, if_pos e]⟩
    · rcases List.mem_cons.1 h with rfl | h
      · exact absurd rfl e
      · obtain ⟨v, hv⟩ := mem_look h
        exact ⟨v, by rw [lookO, if_neg e, hv]⟩
theorem pick_set {ks : List Nat} {ws' : List (Nat × Value)} (h : pickW ws ks = some ws') : setAll (setAll L ws) ws' = setAll L ws := by
  refine List.ext_getElem? fun t => ?_
  rw [setAll_get?, setAll_len]
  split
  · rename_i ht
    cases e : lookO ws' t with
    | none => simp
    | some v =>
      have := pick_look h t v e
      rw [setAll_get?, if_pos ht, this]; rfl
  · rename_i ht
    rw [setAll_get?, if_neg ht]
theorem pick_bd {ks : List Nat} {ws' : List (Nat × Value)} (h : pickW ws ks = some ws') (b : Bd n L ws) : Bd n (setAll L ws) ws' :=
  ⟨by rw [setAll_len]; exact b.1, fun p hp => by
    obtain ⟨v, hv⟩ := mem_look hp
    exact b.2 (p.1, v) (look_mem (pick_look h _ _ hv))⟩
theorem cw_clean {c : Code} (ks : List Nat) {ws' : List (Nat × Value)} (hp : pickW ws ks = some ws') (h : ∀ L', CW P c Q n L' ws' w) : CW P c Q n L ws w := ⟨fun b => by
  have := (h (setAll L ws)).out (pick_bd hp b)
  rwa [pick_set hp] at this⟩
/-- Several ways, one continuation. -/
theorem cw_join {c : Code} (R : List (Nat × Value) → World → Prop) (main : (∀ L' ws' w', R ws' w' → QW Q .normal n L' ws' w') → CW P c Q n L ws w) (rest : ∀ L' ws' w', R ws' w' → QW Q .normal n L' ws' w') : CW P c Q n L ws w := main rest
theorem qw_leaf {R : List (Nat × Value) → World → Prop} (hJ : ∀ L' ws' w', R ws' w' → QW Q .normal n L' ws' w') (ks : List Nat) {ws' : List (Nat × Value)} (hp : pickW ws ks = some ws') (h : R ws' w) : QW Q .normal n L ws w := ⟨fun b => by
  have := (hJ (setAll L ws) ws' w h).out (pick_bd hp b)
  rwa [pick_set hp] at this⟩

/-! Loops. -/
theorem least {p : Nat → Prop} : (∃ m, p m) → ∃ m, p m ∧ ∀ k, p k → m ≤ k := by
  rintro ⟨m, hm⟩
  induction m using Nat.strongRecOn with
  | _ m ih =>
    by_cases h : ∃ k, k < m ∧ p k
    · obtain ⟨k, hk, hp⟩ := h; exact ih k hk hp
    · exact ⟨m, hm, fun k hk => Nat.le_of_not_lt fun hlt => h ⟨k, hlt, hk⟩⟩
def LoopK (n : Nat) (Inv : List (Nat × Value) → World → Nat → Prop) (m : Nat) : Act → World → Prop := fun a w => ∃ L' ws' m', m' < m ∧ Bd n L' ws' ∧ a = ⟨(setAll L' ws').toArray, []⟩ ∧ Inv ws' w m'
open Classical in
theorem cw_loop {c : Code} (ks : List Nat) (Inv : List (Nat × Value) → World → Nat → Prop) {ws0 : List (Nat × Value)} (hp : pickW ws ks = some ws0) (m0 : Nat) (h0 : Inv ws0 w m0)
    (round : ∀ m L' ws' w', Inv ws' w' m → CW P c (Exit.then (LoopK n Inv m) Q) n L' ws' w') : CW P (.loop c) Q n L ws w := ⟨fun b => by
  let J : Nat → Act → World → Prop := fun m a w => ∃ L' ws', Bd n L' ws' ∧ a = ⟨(setAll L' ws').toArray, []⟩ ∧ Inv ws' w m
  let μ : Act → World → Nat := fun a w => if h : ∃ m, J m a w then Classical.choose (least h) else 0
  have hμ : ∀ a w (h : ∃ m, J m a w), J (μ a w) a w ∧ ∀ k, J k a w → μ a w ≤ k := fun a w h => by
    have e : μ a w = Classical.choose (least h) := dif_pos h
    rw [e]; exact Classical.choose_spec (least h)
  refine wp_loop (fun a w => ∃ m, J m a w) μ ⟨m0, setAll L ws, ws0, pick_bd hp b, by rw [pick_set hp], h0⟩ fun a w h => ?_
  obtain ⟨⟨L', ws', hb, ha, hI⟩, _⟩ := hμ a w h
  have := (round (μ a w) L' ws' w hI).out hb
  rw [← ha] at this
  refine Code.wp_mono (fun e a' w' q => ?_) this
  cases e with
  | normal =>
    obtain ⟨L2, ws2, m2, hlt, hb2, ha2, hI2⟩ := q
    have hJ : J m2 a' w' := ⟨L2, ws2, hb2, ha2, hI2⟩
    exact ⟨⟨m2, hJ⟩, Nat.lt_of_le_of_lt ((hμ a' w' ⟨m2, hJ⟩).2 m2 hJ) hlt⟩
  | _ => exact q⟩
theorem qw_round {Inv : List (Nat × Value) → World → Nat → Prop} {m : Nat} (ks : List Nat) {ws' : List (Nat × Value)} (hp : pickW ws ks = some ws') (m' : Nat) (hlt : m' < m) (h : Inv ws' w m') : QW (Exit.then (LoopK n Inv m) Q) .normal n L ws w := ⟨fun b =>
  ⟨setAll L ws, ws', m', hlt, pick_bd hp b, by rw [pick_set hp], h⟩⟩
end

end Go.Proofs.YtglfoglkdbbmmaaDoor

/- Operations: what they yield, in the forms that the walk over a list of writes wants. -/
namespace Go.Proofs.YtglfoglkdbbmmaaDoor
open Go.RowKit

section
variable {P : Program} {ev : Operand → Value} {o : Oper} {w : World}
theorem ex_load {t : TypeId} {x : Operand} {p v : Value} (hop : o.op = .load t x) (hx : ev x = p) (h : (Instr.loadAt t p).run P w = .ok v w) : (execOp ev o).run P w = .ok (.value v) w := by
  simp [execOp, hop, hx, h, Result.andThen]
theorem ex_store {t : TypeId} {x y : Operand} {p v : Value} {w' : World} (hop : o.op = .store t x y) (hx : ev x = p) (hy : ev y = v) (h : (Instr.storeAt t p v).run P w = .ok () w') : (execOp ev o).run P w = .ok .skip w' := by
  simp [execOp, hop, hx, hy, h, Result.andThen]
theorem ex_index {t : TypeId} {x y : Operand} {p i v : Value} (hop : o.op = .indexAddr t x y) (hx : ev x = p) (hy : ev y = i) (h : (Instr.indexAt t p i).run P w = .ok v w) : (execOp ev o).run P w = .ok (.value v) w := by
  simp [execOp, hop, hx, hy, h, Result.andThen]
theorem ex_slice {t : TypeId} {x : Operand} {lo hi mx : Option Operand} {lv hv mv : Option Value} {p v : Value} (hop : o.op = .slice t x lo hi mx) (hx : ev x = p) (h1 : lo.map ev = lv) (h2 : hi.map ev = hv) (h3 : mx.map ev = mv)
    (h : (Instr.sliceAt t p lv hv mv).run P w = .ok v w) : (execOp ev o).run P w = .ok (.value v) w := by
  simp [execOp, hop, hx, h1, h2, h3, h, Result.andThen]
theorem ev_wrap {a : Int} {r : Result Next} (h : r = .ok (.value (.int .i64 (IntKind.i64.wrap a))) w) (h0 : -9223372036854775808 ≤ a) (h1 : a ≤ 9223372036854775807) : r = .ok (.value (.int .i64 a)) w := by
  have e : IntKind.i64.wrap a = a := by rw [IntKind.wrap_i64]; omega
  rw [h, e]
theorem ev_val {v v' : Value} {r : Result Next} (h : r = .ok (.value v) w) (e : v = v') : r = .ok (.value v') w := by rw [h, e]
theorem ev_int {a b : Int} {k : IntKind} {r : Result Next} (h : r = .ok (.value (.int k a)) w) (e : a = b) : r = .ok (.value (.int k b)) w := by rw [h, e]
theorem ev_bool {b b' : Bool} {r : Result Next} (h : r = .ok (.value (.bool b)) w) (e : b = b') : r = .ok (.value (.bool b')) w := by rw [h, e]
theorem ev_dec {p : Prop} [Decidable p] {r : Result Next} (h : r = .ok (.value (.bool (decide p))) w) (e : p) : r = .ok (.value (.bool true)) w := by rw [h, decide_eq_true e]
theorem ev_ndec {p : Prop} [Decidable p] {r : Result Next} (h : r = .ok (.value (.bool (decide p))) w) (e : ¬ p) : r = .ok (.value (.bool false)) w := by rw [h, decide_eq_false e]
theorem ev_eq {a b : Int} {r : Result Next} (h : r = .ok (.value (.bool (a == b))) w) (e : a = b) : r = .ok (.value (.bool true)) w := by rw [h, e]; simp
theorem ev_neq {a b : Int} {r : Result Next} (h : r = .ok (.value (.bool (a == b))) w) (e : a ≠ b) : r = .ok (.value (.bool false)) w := by rw [h]; simp [e]
theorem ev_ne {a b : Int} {r : Result Next} (h : r = .ok (.value (.bool (a != b))) w) (e : a ≠ b) : r = .ok (.value (.bool true)) w := by rw [h]; simp [e]
theorem ev_nne {a b : Int} {r : Result Next} (h : r = .ok (.value (.bool (a != b))) w) (e : a = b) : r = .ok (.value (.bool false)) w := by rw [h, e]; simp
end

theorem res_ld {P : Program} {t : TypeId} {ad : Addr} {v : Value} {w : World} (h : (Instr.loadAt t (.pointer (some ad))).run P w = .ok v w) : (loadVar t ad).run P w = .ok v w := h

/-! Sums and bits of naturals. -/
theorem ex_bin {P : Program} {ev : Operand → Value} {o : Oper} {w : World} {op : BinOp} {t t2 : TypeId} {x y : Operand} {a b : Int} {v : Value} (hop : o.op = .binOp op t x y t2) (hx : ev x = .int .i64 a) (hy : ev y = .int .i64 b)
    (h : (binOp op t (.int .i64 a) (.int .i64 b)).run P w = .ok v w) : (execOp ev o).run P w = .ok (.value v) w := by
  have e : (eqGuard op t x y (.int .i64 a) (.int .i64 b)).run P w = .ok () w := by cases op <;> simp [eqGuard]
  simp [execOp, hop, hx, hy, e, h, Result.andThen]
theorem bin_shr {P : Program} {w : World} {t : TypeId} {S i : Nat} (_hi : i < 64) : (binOp .shr t (.int .i64 (S : Int)) (.int .i64 (i : Int))).run P w = .ok (.int .i64 ((S / 2 ^ i : Nat) : Int)) w := by
  have h0 : ¬ ((i : Int) < 0) := by omega
  have h1 : min (i : Int).toNat 64 = i := by simp; omega
  have e : (S : Int).fdiv (2 ^ i) = ((S / 2 ^ i : Nat) : Int) := by
    rw [Int.fdiv_eq_ediv_of_nonneg _ (by exact Int.le_of_lt (Int.pow_pos (by decide)))]; simp
  simp only [binOp, Op.shift, if_neg h0, IntKind.bits, h1, e]
  rfl
theorem bin_shl1 {P : Program} {w : World} {t : TypeId} {i : Nat} (hi : i < 62) : (binOp .shl t (.int .i64 1) (.int .i64 (i : Int))).run P w = .ok (.int .i64 ((2 ^ i : Nat) : Int)) w := by
  have h0 : ¬ ((i : Int) < 0) := by omega
  have h1 : min (i : Int).toNat 64 = i := by simp; omega
  have h2 : (2 ^ i : Nat) < 2 ^ 62 := Nat.pow_lt_pow_right (by decide) hi
  have e : IntKind.i64.wrap (1 * 2 ^ i) = ((2 ^ i : Nat) : Int) := by
    rw [Int.one_mul, show ((2 : Int) ^ i) = ((2 ^ i : Nat) : Int) by simp, IntKind.wrap_i64]
    generalize (2 ^ i : Nat) = k at h2 ⊢
    omega
  simp only [binOp, Op.shift, if_neg h0, IntKind.bits, h1, e]
  rfl
theorem bin_rem {P : Program} {w : World} {t : TypeId} {a b : Nat} (hb : 0 < b) : (binOp .rem t (.int .i64 (a : Int)) (.int .i64 (b : Int))).run P w = .ok (.int .i64 ((a % b : Nat) : Int)) w := by
  have h0 : ¬ ((b : Int) = 0) := by omega
  have e : (a : Int).tmod (b : Int) = ((a % b : Nat) : Int) := by rw [Int.tmod_eq_emod_of_nonneg (by omega)]; simp
  simp only [binOp, Op.intDiv, if_neg h0, e]
  simp
theorem bin_quo {P : Program} {w : World} {t : TypeId} {a b : Nat} (hb : 0 < b) (ha : a ≤ 9223372036854775807) : (binOp .quo t (.int .i64 (a : Int)) (.int .i64 (b : Int))).run P w = .ok (.int .i64 ((a / b : Nat) : Int)) w := by
  have h0 : ¬ ((b : Int) = 0) := by omega
  have e : (a : Int).tdiv (b : Int) = ((a / b : Nat) : Int) := by rw [Int.tdiv_eq_ediv_of_nonneg (by omega)]; simp
  have h1 : a / b ≤ a := Nat.div_le_self _ _
  have e2 : IntKind.i64.wrap ((a / b : Nat) : Int) = ((a / b : Nat) : Int) := by
    rw [IntKind.wrap_i64]
    generalize a / b = q at h1 ⊢
    omega
  simp only [binOp, Op.intDiv, if_neg h0, e, e2]
  simp
theorem qw_cast {Q : Exit → Act → World → Prop} {e : Exit} {n : Nat} {L : List Value} {ws ws' : List (Nat × Value)} {w : World} (h : ws = ws') (g : QW Q e n L ws' w) : QW Q e n L ws w := h ▸ g
theorem VA.cell0 {w : World} {b : Nat} {l : List Int} (h : VA w b 0 l) {y : Nat} (hy : y < 24) : w.cell? ⟨b, y, none⟩ = some (.int .i64 ((Globe.rowN l y : Nat) : Int)) := by have := h.cell hy; rwa [Nat.zero_add] at this

/-- In the world X nothing but some cells of block O has turned. -/
structure Turns (O : Nat) (w X : World) : Prop where
  size : X.heap.size = w.heap.size
  cell' : ∀ p : Addr, p.block ≠ O → X.cell? p = w.cell? p
  froz' : ∀ p : Addr, X.frozen? p = w.frozen? p
  ext' : ∀ a, Ext a w → a.heap.size ≤ O → Ext a X
theorem Turns.ext {O : Nat} {a w X : World} (h : Turns O w X) (hE : Ext a w) (hO : a.heap.size ≤ O) : Ext a X := h.ext' a hE hO
theorem Turns.cell {O : Nat} {w X : World} (h : Turns O w X) {p : Addr} {u : Value} (hb : O ≠ p.block) (hv : w.cell? p = some u) : X.cell? p = some u := by
  rw [h.cell' p (fun e => hb e.symm)]; exact hv
theorem Turns.va {O : Nat} {w X : World} (h : Turns O w X) {b o : Nat} {l : List Int} (hb : O ≠ b) (hv : VA w b o l) : VA X b o l := ⟨fun i hi => h.cell hb (hv.1 i hi), hv.2⟩
theorem Turns.box {O : Nat} {w X : World} (h : Turns O w X) {b o : Nat} {u : Value} (hb : O ≠ b) (hv : BoxAt w b o u) : BoxAt X b o u := ⟨h.cell hb hv.1, by rw [h.froz']; exact hv.2⟩
theorem Turns.rows {O : Nat} {w X : World} (h : Turns O w X) {b : Nat} {l : List Int} (hb : O ≠ b) (hv : RowsAt w b l) : RowsAt X b l := ⟨hv.1, fun i hi => h.cell hb (hv.cell hi), fun i hi => by rw [h.froz']; exact hv.free hi⟩
theorem turns_set (w : World) (O j : Nat) (v : Value) : Turns O w (w.setCell ⟨O, j, none⟩ v) :=
  ⟨by simp, fun p hp => World.cell?_setCell_other w _ _ _ (fun e => hp (congrArg Addr.block e).symm), fun p => by simp [go_sem], fun _ hE hO => hE.setCell hO v⟩
theorem Turns.trans {O : Nat} {a b c : World} (h : Turns O a b) (k : Turns O b c) : Turns O a c :=
  ⟨k.size.trans h.size, fun p hp => (k.cell' p hp).trans (h.cell' p hp), fun p => (k.froz' p).trans (h.froz' p), fun x hE hO => k.ext' x (h.ext' x hE hO) hO⟩
section
variable {P : Program} {ev : Operand → Value} {oi : Oper} {w : World} {N : Value → World → Prop}
/-- A store into a box of the call's own: the world goes under a name. -/
theorem sn_set {O j : Nat} {u v : Value} (h1 : (execOp ev oi).run P w = .ok .skip (w.setCell ⟨O, j, none⟩ v)) (hO : BoxAt w O j u)
    (h : ∀ X, Turns O w X → BoxAt X O j v → (∀ i x, i ≠ j → BoxAt w O i x → BoxAt X O i x) → N undef X) : StepN P ev oi w N := by
  have hB : BoxAt (w.setCell ⟨O, j, none⟩ v) O j v := ⟨by have := hO.1; simp [go_sem, this], by have := hO.2; simpa [go_sem] using this⟩
  exact sn_skp h1 (h _ (turns_set _ _ _ _) hB fun i x hi hx => ⟨by rw [World.cell?_setCell_other w _ _ _ (fun e => hi (congrArg Addr.off e).symm)]; exact hx.1, by simp [go_sem, hx.2]⟩)
theorem sn_set2 {O j : Nat} {u u' v v' : Value} (h1 : (execOp ev oi).run P w = .ok .skip ((w.setCell ⟨O, j, none⟩ v).setCell ⟨O, j + 1, none⟩ v')) (hO : BoxAt w O j u) (hO' : BoxAt w O (j + 1) u')
    (h : ∀ X, Turns O w X → BoxAt X O j v → BoxAt X O (j + 1) v' → (∀ i x, i ≠ j → i ≠ j + 1 → BoxAt w O i x → BoxAt X O i x) → N undef X) : StepN P ev oi w N := by
  have k : ∀ (W : World) (j : Nat) (u v : Value), BoxAt W O j u → BoxAt (W.setCell ⟨O, j, none⟩ v) O j v := fun W j u v hO => ⟨by have := hO.1; simp [go_sem, this], by have := hO.2; simpa [go_sem] using this⟩
  have k2 : ∀ (W : World) (j i : Nat) (x v : Value), i ≠ j → BoxAt W O i x → BoxAt (W.setCell ⟨O, j, none⟩ v) O i x := fun W j i x v hi hx => ⟨by rw [World.cell?_setCell_other W _ _ _ (fun e => hi (congrArg Addr.off e).symm)]; exact hx.1, by simp [go_sem, hx.2]⟩
  exact sn_skp h1 (h _ ((turns_set _ _ _ _).trans (turns_set _ _ _ _)) (k2 _ _ _ _ _ (by omega) (k _ _ _ _ hO)) (k _ _ _ _ (k2 _ _ _ _ _ (by omega) hO')) fun i x hi hi' hx => k2 _ _ _ _ _ hi' (k2 _ _ _ _ _ hi hx))
end

end Go.Proofs.YtglfoglkdbbmmaaDoor

/- Lists of elements in memory: lists of one's own that are appended to, and lists that came from anywhere, over any way to read an element's cells. -/
namespace Go.Proofs.YtglfoglkdbbmmaaDoor
open Go.RowKit

/-- A way to read an element's cells: 'rel w c x F': in the world w the cells c read as x; F: the blocks that it looks into. -/
structure Rep (α : Type) where
  rel : World → List Value → α → List Nat → Prop
  keep : ∀ {w w' : World} {c : List Value} {x : α} {F : List Nat}, rel w c x F → (∀ b ∈ F, ∀ o u, w.cell? ⟨b, o, none⟩ = some u → w'.cell? ⟨b, o, none⟩ = some u) → rel w' c x F
  lt : ∀ {w : World} {c : List Value} {x : α} {F : List Nat}, rel w c x F → ∀ b ∈ F, b < w.heap.size
theorem Rep.ext {α : Type} (R : Rep α) {w w' : World} {c : List Value} {x : α} {F : List Nat} (h : R.rel w c x F) (hE : Ext w w') : R.rel w' c x F := R.keep h fun _ _ _ _ hu => hE.cell hu
/-- A valid area in a cell. -/
def areaR : Rep (List Int) where
  rel w c x F := ∃ b o k, c = [.slice (some ⟨b, o, none⟩) 24 k] ∧ VA w b o x ∧ F = [b]
  keep := by
    rintro w w' c x F ⟨b, o, k, rfl, hv, rfl⟩ h
    exact ⟨b, o, k, rfl, ⟨fun i hi => h b (by simp) _ _ (hv.1 i hi), hv.2⟩, rfl⟩
  lt := by
    rintro w c x F ⟨b, o, k, rfl, hv, rfl⟩ b' hb'
    rw [List.mem_singleton.1 hb']; exact hv.lt
/-- A list of one's own: it begins nowhere, or at the head of a row of one's own. -/
def OwnL {α : Type} (R : Rep α) (n₀ : Nat) (e : TypeId) (size : Nat) (v : Value) (w : World) (l : List α) : Prop :=
  ∃ cs : List (List Value), cs.length = l.length ∧ (∀ c ∈ cs, c.length = size) ∧ w.ownsRow n₀ e size v l.length cs.flatten ∧
    ∀ (j : Nat) x c, l[j]? = some x → cs[j]? = some c → ∃ F, R.rel w c x F ∧ ∀ b ∈ F, v.ownBlock ≠ some b
/-- Behind it what lies below n₀ is as it was. -/
structure Grew (n₀ : Nat) (w w' : World) : Prop where
  size : w.heap.size ≤ w'.heap.size
  ext : ∀ U, Ext U w → U.heap.size ≤ n₀ → Ext U w'
theorem OwnL.nil {α : Type} (R : Rep α) (n₀ : Nat) (e : TypeId) (size : Nat) (w : World) : OwnL R n₀ e size (.slice none 0 0) w [] := ⟨[], rfl, (fun c hc => by cases hc), World.ownsRow_nil w n₀ e size, (fun j x c hx => by simp at hx)⟩
theorem OwnL.ext {α : Type} {R : Rep α} {n₀ : Nat} {e : TypeId} {size : Nat} {v : Value} {w w' : World} {l : List α} (h : OwnL R n₀ e size v w l) (hE : Ext w w') : OwnL R n₀ e size v w' l := by
  obtain ⟨cs, h1, h2, h3, h4⟩ := h
  exact ⟨cs, h1, h2, own_ext h3 hE, fun j x c hx hc => by obtain ⟨F, q1, q2⟩ := h4 j x c hx hc; exact ⟨F, R.ext q1 hE, q2⟩⟩
theorem OwnL.lt {α : Type} {R : Rep α} {n₀ : Nat} {e : TypeId} {size : Nat} {v : Value} {w : World} {l : List α} (h : OwnL R n₀ e size v w l) : ∀ b, v.ownBlock = some b → b < w.heap.size := by
  obtain ⟨cs, h1, h2, h3, h4⟩ := h
  exact fun b hb => (h3.lt b hb).2
/-- What the program says of a slice type and its elements. -/
structure ElemT (P : Program) (t e : TypeId) (z : Value) (size bytes : Nat) : Prop where
  under : P.underlying t = some (.slice e)
  info : (P.info? e).map (fun i => (i.zero, i.size, i.bytes)) = some (some z, size, bytes)
  zs : z.cells.size = size
  pos : 0 < size
theorem flatten_len {size : Nat} : ∀ {cs : List (List Value)}, (∀ c ∈ cs, c.length = size) → cs.flatten.length = cs.length * size
  | [], _ => by simp
  | c :: r, h => by
    rw [List.flatten_cons, List.length_append, flatten_len (fun d hd => h d (List.mem_cons_of_mem _ hd)), h c (by simp), List.length_cons, Nat.add_mul]; omega
theorem flatten_get {size : Nat} : ∀ {cs : List (List Value)}, (∀ c ∈ cs, c.length = size) → ∀ (j : Nat) {c : List Value}, cs[j]? = some c → ∀ i, i < size → cs.flatten[j * size + i]? = c[i]?
  | [], _, j, c, h, _, _ => by simp at h
  | d :: r, h, 0, c, hc, i, hi => by
    simp at hc; subst hc
    rw [List.flatten_cons, Nat.zero_mul, Nat.zero_add, List.getElem?_append_left (by rw [h d (by simp)]; exact hi)]
  | d :: r, h, j + 1, c, hc, i, hi => by
    have hd := h d (by simp)
    rw [List.flatten_cons, List.getElem?_append_right (by rw [hd, Nat.add_mul]; omega), hd, show (j + 1) * size + i - size = j * size + i by rw [Nat.add_mul]; omega]
    exact flatten_get (fun d hd => h d (List.mem_cons_of_mem _ hd)) j (by simpa using hc) i hi
/-- Appending elements whose cells lie one behind the other. -/
theorem own_app {α : Type} {R : Rep α} {P : Program} {t ty e : TypeId} {z : Value} {size bytes : Nat} (E : ElemT P t e z size bytes) {n₀ : Nat} {v : Value} {w : World} {l : List α} (h : OwnL R n₀ e size v w l) (hn : n₀ ≤ w.heap.size)
    {a : Addr} {m c : Nat} {xs : List α} {ds : List (List Value)} (hm : xs.length = m) (hds : ds.length = m) (hsz : ∀ d ∈ ds, d.length = size) (hcell : ∀ j u, ds.flatten[j]? = some u → w.cell? (a.add j) = some u) (h1 : ∀ d ∈ ds, ∀ u ∈ d, u.oneCell' = true)
    (hR : ∀ (j : Nat) x d, xs[j]? = some x → ds[j]? = some d → ∃ F, R.rel w d x F ∧ ∀ b ∈ F, v.ownBlock ≠ some b) (hb : (l.length + m) * bytes ≤ 140737488355328) (hmax : l.length + m ≤ 9223372036854775807) :
    ∃ v' w', (Builtin.append_ #[t, t] ty #[v, .slice (some a) m c]).run P w = .ok v' w' ∧ OwnL R n₀ e size v' w' (l ++ xs) ∧ Grew n₀ w w' ∧ (v' = .slice none 0 0 ∨ ∃ g cap, v' = .slice (some ⟨g, 0, none⟩) (l.length + m) cap ∧ l.length + m ≤ cap) ∧ (v' = .slice none 0 0 → m = 0 ∧ v = .slice none 0 0) := by
  obtain ⟨cs, h2, h3, h4, h5⟩ := h
  obtain ⟨i, hi, hz0, hz1, hz2⟩ := info_parts E.info
  obtain ⟨v', w', hrun, hown, hg, hiff, hat⟩ := run_append_own_at (P := P) w n₀ t ty e i z size bytes E.under hi hz0 hz1 hz2 E.zs E.pos v l.length cs.flatten h4 a m c ds.flatten (by rw [flatten_len hsz, hds]) hcell
    (fun u hu => by obtain ⟨d, hd, hu⟩ := List.mem_flatten.1 hu; exact h1 d hd u hu) (by unfold maxLen; exact hmax) hb hn
  have hnb : ∀ F : List Nat, (∀ b ∈ F, v.ownBlock ≠ some b) → (∀ b ∈ F, b < w.heap.size) → (∀ b ∈ F, v'.ownBlock ≠ some b) ∧ ∀ b ∈ F, ∀ o u, w.cell? ⟨b, o, none⟩ = some u → w'.cell? ⟨b, o, none⟩ = some u := by
    intro F hF hFl
    refine ⟨fun b hbF hv' => ?_, fun b hbF o u hu => hg.cell hu (fun e => hF b hbF e.symm)⟩
    -- the new value's block is the old one, or is new
    rcases hat with e1 | e1
    · exact hF b hbF (by rw [← e1]; exact hv')
    · rw [e1] at hv'; cases hv'; have := hFl _ hbF; omega
  refine ⟨v', w', hrun, ⟨cs ++ ds, by simp [h2, hds, hm], ?_, ?_, ?_⟩, ⟨hg.size, fun U hU hUn => Ext.own' hU h4 hUn hg⟩, ?_, fun e1 => by have := hiff.1 e1; exact ⟨this.2, this.1⟩⟩
  · intro d hd
    rcases List.mem_append.1 hd with hd | hd
    · exact h3 d hd
    · exact hsz d hd
  · rw [List.flatten_append, List.length_append, hm]; exact hown
  · intro j x d hx hd
    rcases Nat.lt_or_ge j l.length with hj | hj
    · rw [List.getElem?_append_left hj] at hx
      rw [List.getElem?_append_left (by rw [h2]; exact hj)] at hd
      obtain ⟨F, q1, q2⟩ := h5 j x d hx hd
      obtain ⟨k1, k2⟩ := hnb F q2 (R.lt q1)
      exact ⟨F, R.keep q1 k2, k1⟩
    · rw [List.getElem?_append_right hj] at hx
      rw [List.getElem?_append_right (by rw [h2]; exact hj), h2] at hd
      obtain ⟨F, q1, q2⟩ := hR _ x d hx hd
      obtain ⟨k1, k2⟩ := hnb F q2 (R.lt q1)
      exact ⟨F, R.keep q1 k2, k1⟩
  · rcases hown.2 with ⟨q, _⟩ | ⟨g, cap, cur, q, _, _, q3, _⟩
    · exact .inl q
    · exact .inr ⟨g, cap, q, q3⟩
/-- Appending one element whose cells lie in a block of their own. -/
theorem own_app1 {α : Type} {R : Rep α} {P : Program} {t ty e : TypeId} {z : Value} {size bytes : Nat} (E : ElemT P t e z size bytes) {n₀ : Nat} {v : Value} {w : World} {l : List α} (h : OwnL R n₀ e size v w l) (hn : n₀ ≤ w.heap.size) {k : Nat} (hl : l.length = k)
    {O c : Nat} {x : α} {d : List Value} {F : List Nat} (hsz : d.length = size) (hcell : ∀ j u, d[j]? = some u → w.cell? ⟨O, j, none⟩ = some u) (h1 : ∀ u ∈ d, u.oneCell' = true)
    (hR : R.rel w d x F) (hF : ∀ b ∈ F, v.ownBlock ≠ some b) (hb : (k + 1) * bytes ≤ 140737488355328) (hmax : k + 1 ≤ 9223372036854775807) :
    ∃ g cap w', (Builtin.append_ #[t, t] ty #[v, .slice (some ⟨O, 0, none⟩) 1 c]).run P w = .ok (.slice (some ⟨g, 0, none⟩) (k + 1) cap) w' ∧ OwnL R n₀ e size (.slice (some ⟨g, 0, none⟩) (k + 1) cap) w' (l ++ [x]) ∧ Grew n₀ w w' := by
  subst hl
  obtain ⟨v', w', h2, h3, h4, h5, h6⟩ := own_app E h hn (a := ⟨O, 0, none⟩) (m := 1) (c := c) (xs := [x]) (ds := [d]) rfl rfl (by simpa using hsz) (fun j u hj => by
      rw [Addr.add_mid, Nat.zero_add]; exact hcell j u (by simpa using hj)) (by simpa using h1) (fun j y e hy he => by
      match j, hy, he with
      | 0, hy, he => simp at hy he; subst hy he; exact ⟨F, hR, hF⟩
      | _ + 1, hy, _ => simp at hy) hb hmax
  rcases h5 with rfl | ⟨g, cap, rfl, _⟩
  · have := h6 rfl; omega
  · exact ⟨g, cap, w', h2, h3, h4⟩
theorem cells1 {w : World} {O : Nat} {x : Value} (h : w.cell? ⟨O, 0, none⟩ = some x) : ∀ j u, [x][j]? = some u → w.cell? ⟨O, j, none⟩ = some u
  | 0, u, hu => by simp at hu; subst hu; exact h
  | _ + 1, u, hu => by simp at hu
theorem cells2 {w : World} {O : Nat} {x y : Value} (h : w.cell? ⟨O, 0, none⟩ = some x) (h2 : w.cell? ⟨O, 1, none⟩ = some y) : ∀ j u, [x, y][j]? = some u → w.cell? ⟨O, j, none⟩ = some u
  | 0, u, hu => by simp at hu; subst hu; exact h
  | 1, u, hu => by simp at hu; subst hu; exact h2
  | _ + 2, u, hu => by simp at hu
theorem away1 {v : Value} {m B : Nat} (h : ∀ b, v.ownBlock = some b → b < m) (h1 : m ≤ B) : ∀ b ∈ [B], v.ownBlock ≠ some b := fun b hb he => by
  have := h b he; rw [List.mem_singleton.1 hb] at this; omega
theorem away2 {v : Value} {m B C : Nat} (h : ∀ b, v.ownBlock = some b → b < m) (h1 : m ≤ B) (h2 : m ≤ C) : ∀ b ∈ [B, C], v.ownBlock ≠ some b := fun b hb he => by
  have := h b he
  rcases List.mem_cons.1 hb with rfl | hb
  · omega
  · rw [List.mem_singleton.1 hb] at this; omega
theorem OwnL.base {α : Type} {R : Rep α} {n₀ : Nat} {e : TypeId} {size : Nat} {v : Value} {w : World} {l : List α} (h : OwnL R n₀ e size v w l) : ∀ b, v.ownBlock = some b → n₀ ≤ b := by
  obtain ⟨cs, h1, h2, h3, h4⟩ := h
  exact fun b hb => (h3.lt b hb).1
theorem below1 {v : Value} {m B : Nat} (h : ∀ b, v.ownBlock = some b → m ≤ b) (h1 : B < m) : ∀ b ∈ [B], v.ownBlock ≠ some b := fun b hb he => by
  have := h b he; rw [List.mem_singleton.1 hb] at this; omega
theorem below2 {v : Value} {m B C : Nat} (h : ∀ b, v.ownBlock = some b → m ≤ b) (h1 : B < m) (h2 : C < m) : ∀ b ∈ [B, C], v.ownBlock ≠ some b := fun b hb he => by
  have := h b he
  rcases List.mem_cons.1 hb with rfl | hb
  · omega
  · rw [List.mem_singleton.1 hb] at this; omega
/-- An empty slice with no room, in a block of its own. -/
theorem sn_newS0 {P : Program} {ev : Operand → Value} {oi : Oper} {w : World} {N : Value → World → Prop} {t : TypeId} (h1 : (execOp ev oi).run P w = .ok (.value (.slice (some ⟨w.heap.size, 0, none⟩) 0 0)) (w.alloc (.cells #[] t)))
    (h : ∀ O X, w.heap.size = O → X.heap.size = O + 1 → Ext w X → X.heap[O]? = some (.cells #[] t (0, 0)) → N (.slice (some ⟨O, 0, none⟩) 0 0) X) : StepN P ev oi w N :=
  sn_eff h1 (h _ _ rfl (by simp) (Ext.alloc (Ext.refl _) _) (heap_alloc_new w _))
theorem own_empty {w : World} {base O size : Nat} {e : TypeId} (h : w.heap[O]? = some (.cells #[] e (0, 0))) (hb : base ≤ O) : w.ownsRow base e size (.slice (some ⟨O, 0, none⟩) 0 0) 0 [] :=
  ⟨by simp, .inr ⟨O, 0, #[], rfl, hb, h, Nat.le_refl _, by unfold maxLen; omega, by simp, by simp⟩⟩
theorem OwnL.empty {α : Type} (R : Rep α) {n₀ O : Nat} {e : TypeId} {size : Nat} {w : World} (h : w.heap[O]? = some (.cells #[] e (0, 0))) (hb : n₀ ≤ O) : OwnL R n₀ e size (.slice (some ⟨O, 0, none⟩) 0 0) w [] :=
  ⟨[], rfl, (fun c hc => by cases hc), own_empty h hb, (fun j x c hx => by simp at hx)⟩
/-- Appending nothing. -/
theorem app_none {P : Program} {w : World} {t e ty : TypeId} {z : Value} {size bytes : Nat} (E : ElemT P t e z size bytes) {b : Option Addr} {n c : Nat} {a : Option Addr} {k : Nat} (h : n ≤ c) :
    (Builtin.append_ #[t, t] ty #[.slice b n c, .slice a 0 k]).run P w = .ok (.slice b n c) w := by
  obtain ⟨i, hi, hz0, hz1, hz2⟩ := info_parts E.info
  cases a <;> cases b <;> simp [Builtin.append_, run_underlying E.under, sizeOf, typeInfo, hi, Builtin.lenOf, Builtin.firstCells, loadCells, loadCellsFrom, storeCells, h]
/-- Cells that come in groups: the cells of the whole. -/
theorem flat_cells {w : World} {b off n size : Nat} {f : Nat → List Value} (hf : ∀ i, i < n → (f i).length = size) (h : ∀ i, i < n → ∀ j u, (f i)[j]? = some u → w.cell? ⟨b, off + i * size + j, none⟩ = some u) :
    ∀ m, m ≤ n → ∀ j u, (((List.range m).map f).flatten)[j]? = some u → w.cell? ((⟨b, off, none⟩ : Addr).add j) = some u := by
  intro m
  induction m with
  | zero => intro _ j u hu; simp at hu
  | succ m ih =>
    intro hm j u hu
    have hlen : (((List.range m).map f).flatten).length = m * size := by
      rw [flatten_len (size := size) (fun c hc => by obtain ⟨i, hi, rfl⟩ := List.mem_map.1 hc; exact hf i (by have := List.mem_range.1 hi; omega))]; simp
    rw [List.range_succ, List.map_append, List.flatten_append] at hu
    rcases Nat.lt_or_ge j (m * size) with hj | hj
    · rw [List.getElem?_append_left (by rw [hlen]; exact hj)] at hu
      exact ih (by omega) j u hu
    · rw [List.getElem?_append_right (by rw [hlen]; exact hj), hlen] at hu
      have := h m (by omega) (j - m * size) u (by simpa using hu)
      rw [Addr.add_mid, show off + j = off + m * size + (j - m * size) by omega]; exact this
/-- As R, where all that is looked into lies at n₀ or behind it. -/
def freshR {α : Type} (n₀ : Nat) (R : Rep α) : Rep α where
  rel w c x F := R.rel w c x F ∧ ∀ b ∈ F, n₀ ≤ b
  keep := fun h hk => ⟨R.keep h.1 hk, h.2⟩
  lt := fun h => R.lt h.1
theorem OwnL.weaken {α : Type} {R : Rep α} {m n₀ : Nat} {e : TypeId} {size : Nat} {v : Value} {w : World} {l : List α} (h : OwnL (freshR m R) n₀ e size v w l) : OwnL R n₀ e size v w l := by
  obtain ⟨cs, h1, h2, h3, h4⟩ := h
  exact ⟨cs, h1, h2, h3, fun j x c hx hc => by obtain ⟨F, q1, q2⟩ := h4 j x c hx hc; exact ⟨F, q1.1, q2⟩⟩
theorem fresh1 {n B : Nat} (h : n ≤ B) : ∀ b ∈ [B], n ≤ b := fun b hb => by rw [List.mem_singleton.1 hb]; exact h
theorem fresh2 {n B C : Nat} (h : n ≤ B) (h2 : n ≤ C) : ∀ b ∈ [B, C], n ≤ b := fun b hb => by
  rcases List.mem_cons.1 hb with rfl | hb
  · exact h
  · rw [List.mem_singleton.1 hb]; exact h2
theorem ex_append {P : Program} {ev : Operand → Value} {o : Oper} {w : World} {x y : Operand} {t1 t2 : TypeId} {v s v' : Value} {w' : World} (hop : o.op = .call { callee := .builtin .append, args := #[x, y], argTypes := #[t1, t2] }) (hx : ev x = v) (hy : ev y = s)
    (h : (Builtin.append_ #[t1, t2] o.type #[v, s]).run P w = .ok v' w') : (execOp ev o).run P w = .ok (.value v') w' := by
  simp [execOp, hop, resolve, invoke, builtin, hx, hy, h, Result.andThen]

end Go.Proofs.YtglfoglkdbbmmaaDoor
