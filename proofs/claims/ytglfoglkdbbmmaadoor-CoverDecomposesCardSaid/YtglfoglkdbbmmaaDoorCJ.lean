/- Contract of package cover: Fewest. -/
import Derived.Test.YtglfoglkdbbmmaaDoorCI
import Derived.Test.YtglfoglkdbbmmaaDoorGJ
import Derived.WalkMore
namespace Go.Proofs.YtglfoglkdbbmmaaDoor
open Go.RowKit Go.Shelf

attribute [local go_sem] Oper.semAt_some

def FewRes (w : World) (r : Option (List Nat)) (e : Ending) (w' : World) : Prop :=
  ∃ (a : Option Addr) (c : Nat), e = .returned (.tuple #[.slice a (r.getD []).length c, .bool r.isSome, .int .i64 0]) ∧ IntsAt w' a (intsN (r.getD [])) ∧ Ext w w'

/-- The frame, but for what is not read again. -/
def FrF (s F n : Nat) (p : Value) (u : Nat → Value) : Array Value := #[u 0, u 1, .pointer (some ⟨s, 0, none⟩), .pointer (some ⟨s + 1, 0, none⟩), u 4, u 5, u 6, .pointer (some ⟨F, 0, none⟩), .pointer (some ⟨F + 1, 0, none⟩), u 9, u 10, u 11, u 12, u 13, u 14, u 15, u 16, u 17, u 18, u 19, u 20, u 21, u 22, u 23, u 24, u 25, u 26, .int .i64 ((n : Int) + 1), p, u 29, u 30, u 31, u 32, u 33, u 34, u 35, u 36, u 37, u 38, u 39, u 40, u 41, u 42, u 43, u 44, u 45, u 46]
def FrOk (s F n : Nat) (p : Value) (X : Array Value) : Prop := ∃ u, X = FrF s F n p u
theorem frOk_lit {s F n : Nat} {p : Value} (X : Array Value) (h : X = FrF s F n p (fun j => X.getD j undef)) : FrOk s F n p X := ⟨_, h⟩
def marks (Ds : List Nat) : List Deferred := Ds.map fun D => { target := .collected D, args := #[] }
/-- What the loop over the sizes keeps. -/
def FewI (w : World) (s F : Nat) (a : Option Addr) (n c : Nat) (b o k : Nat) (Ds : List Nat) (found : Value) (ok : Bool) (W : World) : Prop :=
  BoxAt W F 0 found ∧ BoxAt W (F + 1) 0 (.bool ok) ∧ W.cell? ⟨s, 0, none⟩ = some (.slice (some ⟨b, o, none⟩) 24 k) ∧ W.cell? ⟨s + 1, 0, none⟩ = some (.slice a n c) ∧ Ext w W ∧ Ds.Nodup ∧ ∀ D ∈ Ds, w.heap.size ≤ D ∧ W.heap[D]? = some (.deferred (some []))
def FewA (w : World) (s F : Nat) (a : Option Addr) (n c : Nat) (b o k : Nat) (q : List Nat → Bool) (A : Act) (W : World) : Prop :=
  ∃ (i : Nat) (Ds : List Nat), FrOk s F n (.int .i64 (i : Int)) A.tmps ∧ A.defers = marks Ds ∧ i ≤ n + 1 ∧ (∀ j, j < i → (Globe.combs n j [] 0).find? q = none) ∧ FewI w s F a n c b o k Ds (.slice none 0 0) false W
def FewOut (w : World) (s F : Nat) (a : Option Addr) (n c : Nat) (b o k : Nat) (q : List Nat → Bool) (e : Exit) (A : Act) (W : World) : Prop :=
  e = .exit 0 ∧ ∃ (p : Value) (Ds : List Nat) (fa : Option Addr) (fc : Nat), FrOk s F n p A.tmps ∧ A.defers = marks Ds ∧ FewI w s F a n c b o k Ds (.slice fa ((Globe.fewestL q n).getD []).length fc) (Globe.fewestL q n).isSome W ∧ IntsAt W fa (intsN ((Globe.fewestL q n).getD []))
/-- Between two rounds over the lists; and where a list was enough. -/
def FewJ (w : World) (s F : Nat) (a : Option Addr) (n c : Nat) (b o k : Nat) (Ds : List Nat) (q : List Nat → Bool) (pre : List YL) (W : World) : Prop :=
  FewI w s F a n c b o k Ds (.slice none 0 0) false W ∧ ∀ x ∈ pre, q x.2.2 = false
def FewX (w : World) (s F : Nat) (a : Option Addr) (n c : Nat) (b o k : Nat) (Ds : List Nat) (q : List Nat → Bool) (cd : Code) (pre : List YL) (W : World) : Prop :=
  cd = .exit 0 ∧ ∃ (ys : List YL) (x : YL), pre = ys ++ [x] ∧ (∀ y ∈ ys, q y.2.2 = false) ∧ q x.2.2 = true ∧ FewI w s F a n c b o k Ds (.slice x.1 x.2.2.length x.2.1) true W ∧ IntsAt W x.1 (intsN x.2.2)
theorem FewI.own {w : World} {s F : Nat} {a : Option Addr} {n c b o k : Nat} {Ds : List Nat} {f : Value} {ok : Bool} {B : Nat} (hB : w.heap.size ≤ B) (hD : ∀ D ∈ Ds, D < B) {W W' : World} {row : Option Nat} (h : FewI w s F a n c b o k Ds f ok W) (hg : W.grownBy W' row) (hr : ∀ r, row = some r → B ≤ r ∧ ∃ o : Obj, W.heap[r]? = some o ∧ o.isCells = false) : FewI w s F a n c b o k Ds f ok W' := by
  obtain ⟨⟨c1, f1⟩, ⟨c2, f2⟩, h3, h4, h5, h6, h7⟩ := h
  have hr' := fun r e => (hr r e).2
  refine ⟨⟨cell_kept c1 hg hr', (frozen_kept c1 hg hr').trans f1⟩, ⟨cell_kept c2 hg hr', (frozen_kept c2 hg hr').trans f2⟩, cell_kept h3 hg hr', cell_kept h4 hg hr', Below.grown h5 hg h5.size (fun j e => Nat.le_trans hB (hr j e).1), h6, fun D hDs => ⟨(h7 D hDs).1, ?_⟩⟩
  exact (hg.block D (Array.getElem?_eq_some_iff.1 (h7 D hDs).2).1 (fun e => by have := hD D hDs; have := (hr D e.symm).1; omega)).trans (h7 D hDs).2
theorem FewI.ext {w : World} {s F : Nat} {a : Option Addr} {n c b o k : Nat} {Ds : List Nat} {f : Value} {ok : Bool} {W W' : World} (h : FewI w s F a n c b o k Ds f ok W) (hE : Ext W W') : FewI w s F a n c b o k Ds f ok W' := by
  obtain ⟨h1, h2, h3, h4, h5, h6, h7⟩ := h
  exact ⟨BoxAt.ext hE h1, BoxAt.ext hE h2, hE.cell h3, hE.cell h4, h5.trans hE, h6, fun D hD => ⟨(h7 D hD).1, (Below.block hE D (Array.getElem?_eq_some_iff.1 (h7 D hD).2).1).trans (h7 D hD).2⟩⟩
theorem IntsAt.kept {W W' : World} {row : Option Nat} {a : Option Addr} {l : List Int} (h : IntsAt W a l) (hg : W.grownBy W' row) (hr : ∀ r, row = some r → ∃ o : Obj, W.heap[r]? = some o ∧ o.isCells = false) : IntsAt W' a l :=
  h.imp id fun ⟨b, off, ha, hc⟩ => ⟨b, off, ha, fun i hi => cell_kept (hc i hi) hg hr⟩
theorem PhiL.own {n B : Nat} (x : YL) : OwnFrom B (fun (_ : Unit) W => PhiL n x W) := fun _ W W' row h hg hr => by
  obtain ⟨h1, h2⟩ := h
  exact ⟨h1.imp id fun ⟨q1, q2, b, off, ha, hc⟩ => ⟨q1, q2, b, off, ha, fun i hi => cell_kept (hc i hi) hg (fun r e => (hr r e).2)⟩, h2⟩
theorem ne_of_mark {V : World} {D F : Nat} {v : Value} {ds : Option (List Deferred)} (hD : V.heap[D]? = some (.deferred ds)) (hc : V.cell? ⟨F, 0, none⟩ = some v) : D ≠ F := by
  rintro rfl
  obtain ⟨o, ho, hi⟩ := cells_of_cell hc
  rw [hD] at ho; cases ho; cases hi
theorem ints_other {w : World} {a : Option Addr} {l : List Int} (h : IntsAt w a l) {p : Addr} (hp : ∀ ad, a = some ad → l ≠ [] → ad.block ≠ p.block) (v : Value) : IntsAt (w.setCell p v) a l := by
  by_cases hl : l = []
  · exact .inl hl
  rcases h with h | ⟨b, off, rfl, h⟩
  · exact .inl h
  · exact .inr ⟨b, off, rfl, fun i hi => by rw [World.cell?_setCell_other w _ _ _ (fun e => hp _ rfl hl (by rw [e]))]; exact h i hi⟩
theorem ints_not {w : World} {a : Option Addr} {l : List Int} (h : IntsAt w a l) (h0 : ∀ b off, a = some ⟨b, off, none⟩ → off = 0) {ad : Addr} (e : a = some ad) (hl : l ≠ []) {v : Value} (hc : w.cell? ⟨ad.block, 0, none⟩ = some v) (hv : ∀ z, v ≠ .int .i64 z) : False := by
  rcases h with h | ⟨b, off, rfl, h⟩
  · exact hl h
  · cases e
    obtain rfl := h0 b off rfl
    have := h 0 (List.length_pos_iff.2 hl)
    rw [Nat.add_zero, hc] at this
    cases this; exact hv _ rfl
def muF (n : Nat) (A : Act) (_ : World) : Nat := n + 2 - (intOf (A.tmps.getD 28 undef)).toNat

set_option maxRecDepth 100000 in
set_option maxHeartbeats 4000000 in
theorem Fewest_r {r : Option (List Nat)} {w1 w2 : World} {a : Option Addr} {n : Nat} {ss : List (List Int × List Int)} {b o : Nat} (c k : Nat) {l : List Int} (w : World) (hl : VA w1 b o l) (e1 : Ext w1 w) (h : StripsAt w2 a n ss) (e2 : Ext w2 w) (hok : Globe.stripsOk ss = true) (h12 : n ≤ 12) (hT : Tab w) (hr : Globe.fewestL (Globe.enough l (ss.map fun s => s.1)) n = r) :
    Calls Tryd.prog 25 #[.agg #[.slice (some ⟨b, o, none⟩) 24 k], .slice a n c] w (FewRes w r) := by
  have Hr := Lib.hid hr; clear hr
  have H := Lib.hid (h.ext e2)
  have HL := Lib.hid (hl.ext e1)
  have hbl := HL.out.lt
  clear h hl e1 e2
  have Hok := Lib.hid hok; clear hok
  have HT := Lib.hid hT; clear hT
  have n0 : (n : Int) ≤ 12 := by omega
  refine (callsIn_wide (n := 3)).1 ?_
  refine callsIn_of_wp_marks Tryd.func25 rfl trivial ?_ rfl
  simp only [Tryd.ntmps25, List.size_toArray, List.length_cons, List.length_nil, Nat.reduceAdd, Nat.reduceSub, Array.replicate_succ, Array.replicate_zero, List.push_toArray, List.append_toArray, List.nil_append, List.cons_append]
  refine wpIn_wide.2 ?_
  go_wp2_with fail
  go_step3
  go_wp2_with fail
  refine (Valid_e k _ HL.out.aa (by (repeat' (first | (with_reducible assumption) | (with_reducible exact Ext.refl _) | (with_reducible refine Ext.alloc ?_ _) | (with_reducible refine Ext.drew ?_) | (with_reducible refine Ext.drewN ?_ _) | (with_reducible refine Ext.setCell ?_ ?_ _) | (with_reducible refine Ext.trans ?_ (by assumption)) | go_size)))).mono ?_
  rintro e w1 ⟨rfl, hb⟩
  have hc := hb.cellE; have hf := hb.frozenE; have hz := hb.size; have ha := alloc_keeps w1; (try simp only [World.size_alloc] at hc hf hz); (try simp only [World.size_setCell] at hc hf hz); (try simp only [World.size_drew] at hc hf hz)
  go_wp2_with fail
  refine (ValidS_r c _ H.out (by (repeat' (first | (with_reducible assumption) | (with_reducible exact Ext.refl _) | (with_reducible refine Ext.alloc ?_ _) | (with_reducible refine Ext.drew ?_) | (with_reducible refine Ext.drewN ?_ _) | (with_reducible refine Ext.setCell ?_ ?_ _) | (with_reducible refine Ext.trans ?_ (by assumption)) | go_size))) Hok.out).mono ?_
  rintro e w2 ⟨rfl, hb⟩
  have hc := hb.cellE; have hf := hb.frozenE; have hz := hb.size; have ha := alloc_keeps w2; (try simp only [World.size_alloc] at hc hf hz); (try simp only [World.size_setCell] at hc hf hz); (try simp only [World.size_drew] at hc hf hz)
  go_wp2_with fail
  go_step3
  go_wp2_with fail
  have bF : BoxAt ((w2.alloc (.cells #[.slice none 0 0] 23)).alloc (.cells #[.bool false] 4)) w2.heap.size 0 (.slice none 0 0) := ⟨by simp [go_sem], by simp [go_sem]⟩
  have bO : BoxAt ((w2.alloc (.cells #[.slice none 0 0] 23)).alloc (.cells #[.bool false] 4)) (w2.heap.size + 1) 0 (.bool false) := ⟨by simp [go_sem], by simp [go_sem]⟩
  have e2 : Ext w w2 := by (repeat' (first | (with_reducible assumption) | (with_reducible exact Ext.refl _) | (with_reducible refine Ext.alloc ?_ _) | (with_reducible refine Ext.drew ?_) | (with_reducible refine Ext.drewN ?_ _) | (with_reducible refine Ext.setCell ?_ ?_ _) | (with_reducible refine Ext.trans ?_ (by assumption)) | go_size))
  have cS : w1.cell? ⟨w.heap.size, 0, none⟩ = some (.slice (some ⟨b, o, none⟩) 24 k) := Ext.cell (by with_reducible assumption) (by simp [go_sem])
  have cT : w1.cell? ⟨w.heap.size + 1, 0, none⟩ = some (.slice a n c) := Ext.cell (by with_reducible assumption) (by simp [go_sem])
  have e12 : Ext w1 w2 := by (repeat' (first | (with_reducible assumption) | (with_reducible exact Ext.refl _) | (with_reducible refine Ext.alloc ?_ _) | (with_reducible refine Ext.drew ?_) | (with_reducible refine Ext.drewN ?_ _) | (with_reducible refine Ext.setCell ?_ ?_ _) | (with_reducible refine Ext.trans ?_ (by assumption)) | go_size))
  have cS2 := Ext.cell (Ext.alloc (Ext.alloc e12 (.cells #[.slice none 0 0] 23)) (.cells #[.bool false] 4)) cS
  have cT2 := Ext.cell (Ext.alloc (Ext.alloc e12 (.cells #[.slice none 0 0] 23)) (.cells #[.bool false] 4)) cT
  have eW := Ext.alloc (Ext.alloc e2 (.cells #[.slice none 0 0] 23)) (.cells #[.bool false] 4)
  have lS := World.block_lt_of_cell? _ _ (Ext.cell e12 cT)
  generalize (w2.alloc (.cells #[.slice none 0 0] 23)).alloc (.cells #[.bool false] 4) = W at *
  generalize hF : w2.heap.size = F at *
  clear cS cT e12 e2 hb hc hf hz ha
  clear hb hc hf hz ha
  refine wp_mono (show Code.wp _ _ (FewOut w w.heap.size F a n c b o k (Globe.enough l (ss.map fun s => s.1))) _ _ from ?_) ?_
  · refine wp_loop (FewA w w.heap.size F a n c b o k (Globe.enough l (ss.map fun s => s.1))) (muF n) ?_ ?_
    · exact ⟨0, [], frOk_lit _ rfl, rfl, by omega, fun j hj => by omega, bF, bO, cS2, cT2, eW, List.nodup_nil, fun D hD => by cases hD⟩
    · clear bF bO cS2 cT2 eW W
      rintro ⟨X, ds⟩ W ⟨i, Ds, ⟨u, hu⟩, hds, hi, hno, ⟨cF, fF⟩, ⟨cO, fO⟩, cS, cT, hE, hnd, hDs⟩
      dsimp only at hu hds
      subst hu hds
      unfold FrF
      have Hno := Lib.hid hno; clear hno
      have HDs := Lib.hid hDs; clear hDs
      have Hnd := Lib.hid hnd; clear hnd
      have i0 : (0 : Int) ≤ (i : Int) := by omega
      have i1 : (i : Int) ≤ (n : Int) + 1 := by omega
      by_cases hlt : i < n + 1
      · have i2 : (i : Int) < (n : Int) + 1 := by omega
        go_wp2_with (go_at_call 52; refine (lists_c _ _ _).mono ?_; rintro e w' ⟨rfl, rfl⟩)
        have hs3 : ((W.alloc (.cells #[.int .i64 (n : Int)] 3)).alloc (.cells #[.int .i64 (i : Int)] 3)).heap.size = W.heap.size + 2 := by simp
        have e3 : Ext W ((W.alloc (.cells #[.int .i64 (n : Int)] 3)).alloc (.cells #[.int .i64 (i : Int)] 3)) := Ext.alloc (Ext.alloc (Ext.refl _) _) _
        have cK : ((W.alloc (.cells #[.int .i64 (n : Int)] 3)).alloc (.cells #[.int .i64 (i : Int)] 3)).cell? ⟨W.heap.size + 1, 0, none⟩ = some (.int .i64 (i : Int)) := by simp [go_sem]
        have cN : ((W.alloc (.cells #[.int .i64 (n : Int)] 3)).alloc (.cells #[.int .i64 (i : Int)] 3)).cell? ⟨W.heap.size, 0, none⟩ = some (.int .i64 (n : Int)) := by simp [go_sem]
        have hI0 : FewI w w.heap.size F a n c b o k Ds (.slice none 0 0) false W := ⟨⟨cF, fF⟩, ⟨cO, fO⟩, cS, cT, hE, Hnd.out, HDs.out⟩
        have HI3 := Lib.hid (hI0.ext e3)
        have hF1 : F < W.heap.size := World.block_lt_of_cell? W _ cF
        have hO1 : F + 1 < W.heap.size := World.block_lt_of_cell? W _ cO
        have hT1 : w.heap.size + 1 < W.heap.size := World.block_lt_of_cell? W _ cT
        have HD2 := Lib.hid (show ∀ D ∈ Ds, D < W.heap.size from fun D hD => (Array.getElem?_eq_some_iff.1 (HDs.out D hD).2).1)
        have hEs := hE.size
        clear cF fF cO fO cS cT hE hI0
        generalize ((W.alloc (.cells #[.int .i64 (n : Int)] 3)).alloc (.cells #[.int .i64 (i : Int)] 3)) = W3 at *
        have HE3 := Lib.hid e3; clear e3
        refine wpIn_wide (n := 3).1 ?_
        refine rangeFunc_mem (gf := 71) (lb := #[.pointer (some ⟨W.heap.size + 1, 0, none⟩), .pointer (some ⟨W.heap.size, 0, none⟩)]) rfl (enters_of Tryd.func71 (by kernel_rfl) rfl)
          (lists1_seq (X := fun z => z = F ∨ z = F + 1) (n := n) (k := i) W3 (fun z hz => by rcases hz with rfl | rfl <;> omega) (by omega) (by omega) cK cN (fun h => by rcases h with h | h <;> omega) (fun h => by rcases h with h | h <;> omega)) (Below.refl _ _) (fun _ => rfl) (fun x => PhiL.own x) KeepC.trans (fun W l o o' _ h hc _ => KeepC.putObj W o' h hc)
          (FewJ w w.heap.size F a n c b o k Ds (Globe.enough l (ss.map fun s => s.1))) (FewX w w.heap.size F a n c b o k Ds (Globe.enough l (ss.map fun s => s.1)))
          (fun pre A B row h hg hr => ⟨h.1.own (by omega) (fun D hD => by have := HD2.out D hD; omega) hg hr, h.2⟩)
          (fun cd pre A B row h hg hr => by
            obtain ⟨h1, ys, x, h2, h3, h4, h5, h6⟩ := h
            exact ⟨h1, ys, x, h2, h3, h4, h5.own (by omega) (fun D hD => by have := HD2.out D hD; omega) hg hr, h6.kept hg (fun r e => (hr r e).2)⟩)
          ⟨HI3.out, fun x hx => by cases hx⟩
          (fun x => { tmps := #[u 0, u 1, .pointer (some ⟨w.heap.size, 0, none⟩), .pointer (some ⟨w.heap.size + 1, 0, none⟩), u 4, u 5, u 6, .pointer (some ⟨F, 0, none⟩), .pointer (some ⟨F + 1, 0, none⟩), .int .i64 (i : Int), .slice x.1 x.2.2.length x.2.1, u 11, u 12, u 13, u 14, u 15, u 16, u 17, u 18, u 19, u 20, u 21, u 22, u 23, u 24, u 25, u 26, .int .i64 ((n : Int) + 1), .int .i64 (i : Int), .bool true, .int .i64 (i : Int), .slice a n c, .int .i64 (n : Int), .int .i64 (i : Int), .func (.func 71) #[] #[.pointer (some ⟨W.heap.size + 1, 0, none⟩), .pointer (some ⟨W.heap.size, 0, none⟩)], .slice x.1 x.2.2.length x.2.1, u 36, u 37, u 38, u 39, u 40, u 41, u 42, u 43, u 44, u 45, u 46], defers := [] }) ?assign ?body ?done ?stop
        case assign =>
          intro l0 m0 x V K hK
          dsimp only [encL]
          gi_wp2
          exact hK
        case body =>
          rintro l0 m0 pre x V ⟨⟨⟨cF, fF⟩, ⟨cO, fO⟩, cS, cT, hE, -, hDV⟩, hpre⟩ ⟨hx1, hx2, hx3, hx4⟩
          dsimp only
          have hxi : IntsAt V x.1 (intsN x.2.2) := hx1.ints
          have lF := World.block_lt_of_cell? V _ cF
          have lO := World.block_lt_of_cell? V _ cO
          have lS := World.block_lt_of_cell? V _ cS
          have lT := World.block_lt_of_cell? V _ cT
          have HDV := Lib.hid hDV; clear hDV
          have Hpre := Lib.hid hpre; clear hpre
          have Hxi := Lib.hid hxi; clear hxi hx1
          have Hx4 := Lib.hid hx4; clear hx4
          have Hlt := Lib.hid (Globe.asc_lt hx3); clear hx3
          obtain ⟨N, hN⟩ : ∃ N, (Globe.cellsTo (Globe.leftL l (x.2.2.map (Globe.sureAt (ss.map fun s => s.1)))) 24).length = N := ⟨_, rfl⟩
          have HN := Lib.hid hN
          have hq : Globe.enough l (ss.map fun s => s.1) x.2.2 = decide (N = 0) := by unfold Globe.enough; rw [hN]
          have Hq := Lib.hid hq; clear hq hN
          have m1 : Fence.wide.depth.isSome = true → 1 ≤ m0 := wide_depth
          by_cases hz : N = 0
          · subst hz
            gi_wp2_with (first
              | (refine ⟨trivial, wide_depth, ?_⟩; gi_at_call 53; refine (CallsIn.inRound l0 (callsIn_wide.2 (foldN_v _ k c _ Hxi.out (Ext.refl _) Hlt.out hx2 HL.out hE H.out hE Hok.out cT))).mono ?_; rintro e w5 ⟨B5, o5, k5, rfl, hv5, hB5, hb5⟩; have hc5 := hb5.cellE; have hf5 := hb5.frozenE; have hz5 := hb5.size; have ha5 := alloc_keeps w5; (try simp only [World.size_alloc] at hc5 hf5 hz5); (try simp only [World.size_setCell] at hc5 hf5 hz5); (try simp only [World.size_drew] at hc5 hf5 hz5); have HV5 := Lib.hid hv5; clear hv5)
              | (refine ⟨trivial, wide_depth, ?_⟩; gi_at_call 29; refine (CallsIn.inRound l0 (callsIn_wide.2 (Count_r k5 _ HV5.out (by (repeat' (first | (with_reducible assumption) | (with_reducible exact Ext.refl _) | (with_reducible refine Ext.alloc ?_ _) | (with_reducible refine Ext.drew ?_) | (with_reducible refine Ext.drewN ?_ _) | (with_reducible refine Ext.setCell ?_ ?_ _) | (with_reducible refine Ext.trans ?_ (by assumption)) | go_size))) (HT.out.ext (by (repeat' (first | (with_reducible assumption) | (with_reducible exact Ext.refl _) | (with_reducible refine Ext.alloc ?_ _) | (with_reducible refine Ext.drew ?_) | (with_reducible refine Ext.drewN ?_ _) | (with_reducible refine Ext.setCell ?_ ?_ _) | (with_reducible refine Ext.trans ?_ (by assumption)) | go_size)))) HN.out))).mono ?_; rintro e w6 ⟨rfl, hb6⟩; have hc6 := hb6.cellE; have hf6 := hb6.frozenE; have hz6 := hb6.size; have ha6 := alloc_keeps w6; (try simp only [World.size_alloc] at hc6 hf6 hz6); (try simp only [World.size_setCell] at hc6 hf6 hz6); (try simp only [World.size_drew] at hc6 hf6 hz6)))
            have hE6 : Ext V w6 := by (repeat' (first | (with_reducible assumption) | (with_reducible exact Ext.refl _) | (with_reducible refine Ext.alloc ?_ _) | (with_reducible refine Ext.drew ?_) | (with_reducible refine Ext.drewN ?_ _) | (with_reducible refine Ext.setCell ?_ ?_ _) | (with_reducible refine Ext.trans ?_ (by assumption)) | go_size))
            have b1 := BoxAt.ext hE6 (show BoxAt V F 0 (.slice none 0 0) from ⟨cF, fF⟩)
            have b2 := BoxAt.ext hE6 (show BoxAt V (F + 1) 0 (.bool false) from ⟨cO, fO⟩)
            refine ⟨(KeepsOthers.trans (Ext.others hE6) ((KeepsOthers.setCell _ _ _).trans (KeepsOthers.setCell _ _ _))).from _, (KeepC.of_ext hE6).trans ((KeepC.setCell _ (p := ⟨F, 0, none⟩) (.inl rfl) _).trans (KeepC.setCell _ (p := ⟨F + 1, 0, none⟩) (.inr rfl) _)), rfl, pre, x, rfl, Hpre.out, by rw [Hq.out]; rfl, ⟨BoxAt.other (BoxAt.set b1 _) (by show F + 1 ≠ F; omega) _, BoxAt.set (BoxAt.other b2 (by show F ≠ F + 1; omega) _) _, ?_, ?_, ?_, Hnd.out, ?_⟩, ?_⟩
            · rw [World.cell?_setCell_other _ _ _ _ (fun e => by have := congrArg Addr.block e; simp at this; omega), World.cell?_setCell_other _ _ _ _ (fun e => by have := congrArg Addr.block e; simp at this; omega)]; exact hE6.cell cS
            · rw [World.cell?_setCell_other _ _ _ _ (fun e => by have := congrArg Addr.block e; simp at this; omega), World.cell?_setCell_other _ _ _ _ (fun e => by have := congrArg Addr.block e; simp at this; omega)]; exact hE6.cell cT
            · exact Ext.setCell (Ext.setCell (hE.trans hE6) (p := ⟨F, 0, none⟩) (by show _ ≤ F; omega) _) (p := ⟨F + 1, 0, none⟩) (by show _ ≤ F + 1; omega) _
            · intro D hD
              obtain ⟨q1, q2⟩ := HDV.out D hD
              refine ⟨q1, ?_⟩
              rw [Below.heap_setCell _ _ _ D (ne_of_mark q2 cO), Below.heap_setCell _ _ _ D (ne_of_mark q2 cF)]
              exact (Below.block hE6 D (Array.getElem?_eq_some_iff.1 q2).1).trans q2
            · exact ints_other (ints_other (Hxi.out.ext hE6) (p := ⟨F, 0, none⟩) (fun ad e hl hf => ints_not Hxi.out Hx4.out e hl (by rw [hf]; exact cF) (by intro z h; cases h)) _) (p := ⟨F + 1, 0, none⟩) (fun ad e hl hf => ints_not Hxi.out Hx4.out e hl (by rw [hf]; exact cO) (by intro z h; cases h)) _
          · have hzi : ¬ (N : Int) = 0 := by omega
            gi_wp2_with (first
              | (refine ⟨trivial, wide_depth, ?_⟩; gi_at_call 53; refine (CallsIn.inRound l0 (callsIn_wide.2 (foldN_v _ k c _ Hxi.out (Ext.refl _) Hlt.out hx2 HL.out hE H.out hE Hok.out cT))).mono ?_; rintro e w5 ⟨B5, o5, k5, rfl, hv5, hB5, hb5⟩; have hc5 := hb5.cellE; have hf5 := hb5.frozenE; have hz5 := hb5.size; have ha5 := alloc_keeps w5; (try simp only [World.size_alloc] at hc5 hf5 hz5); (try simp only [World.size_setCell] at hc5 hf5 hz5); (try simp only [World.size_drew] at hc5 hf5 hz5); have HV5 := Lib.hid hv5; clear hv5)
              | (refine ⟨trivial, wide_depth, ?_⟩; gi_at_call 29; refine (CallsIn.inRound l0 (callsIn_wide.2 (Count_r k5 _ HV5.out (by (repeat' (first | (with_reducible assumption) | (with_reducible exact Ext.refl _) | (with_reducible refine Ext.alloc ?_ _) | (with_reducible refine Ext.drew ?_) | (with_reducible refine Ext.drewN ?_ _) | (with_reducible refine Ext.setCell ?_ ?_ _) | (with_reducible refine Ext.trans ?_ (by assumption)) | go_size))) (HT.out.ext (by (repeat' (first | (with_reducible assumption) | (with_reducible exact Ext.refl _) | (with_reducible refine Ext.alloc ?_ _) | (with_reducible refine Ext.drew ?_) | (with_reducible refine Ext.drewN ?_ _) | (with_reducible refine Ext.setCell ?_ ?_ _) | (with_reducible refine Ext.trans ?_ (by assumption)) | go_size)))) HN.out))).mono ?_; rintro e w6 ⟨rfl, hb6⟩; have hc6 := hb6.cellE; have hf6 := hb6.frozenE; have hz6 := hb6.size; have ha6 := alloc_keeps w6; (try simp only [World.size_alloc] at hc6 hf6 hz6); (try simp only [World.size_setCell] at hc6 hf6 hz6); (try simp only [World.size_drew] at hc6 hf6 hz6)))
            have hE6 : Ext V w6 := by (repeat' (first | (with_reducible assumption) | (with_reducible exact Ext.refl _) | (with_reducible refine Ext.alloc ?_ _) | (with_reducible refine Ext.drew ?_) | (with_reducible refine Ext.drewN ?_ _) | (with_reducible refine Ext.setCell ?_ ?_ _) | (with_reducible refine Ext.trans ?_ (by assumption)) | go_size))
            refine ⟨(Ext.others hE6).from _, KeepC.of_ext hE6, FewI.ext ⟨⟨cF, fF⟩, ⟨cO, fO⟩, cS, cT, hE, Hnd.out, HDV.out⟩ hE6, fun y hy => ?_⟩
            rcases List.mem_append.1 hy with hy | hy
            · exact Hpre.out y hy
            · simp at hy; subst hy; rw [Hq.out]; simp [hz]
        case done =>
          rintro D xs V hD hS ⟨hI, hno⟩ hK
          have hDn : D ∉ Ds := fun h => by have := HD2.out D h; omega
          have HIV := Lib.hid hI; clear hI
          have Hno2 := Lib.hid (show (Globe.combs n i [] 0).find? (Globe.enough l (ss.map fun s => s.1)) = none from by
            rw [← hS, List.find?_eq_none]
            intro y hy
            rw [List.mem_map] at hy
            obtain ⟨x, hx, rfl⟩ := hy
            rw [hno x hx]; simp)
          clear hS hno
          have HKD := Lib.hid hK; clear hK
          have i3 : (i : Int) + 1 ≤ 100 := by omega
          dsimp only
          go_wp2_with fail
          obtain ⟨q1, q2, q3, q4, q5, q6, q7⟩ := HIV.out
          refine ⟨⟨i + 1, D :: Ds, frOk_lit _ rfl, rfl, by omega, fun j hj => ?_, q1, q2, q3, q4, q5, List.nodup_cons.2 ⟨hDn, q6⟩, fun D' hD' => ?_⟩, by simp [muF, intOf]; omega⟩
          · rcases Nat.lt_or_ge j i with h | h
            · exact Hno.out j h
            · rw [show j = i by omega]; exact Hno2.out
          · rcases List.mem_cons.1 hD' with rfl | h
            · exact ⟨by omega, HKD.out⟩
            · exact q7 D' h
        case stop =>
          rintro D cd pre V hD hSp ⟨rfl, ys, x, rfl, hys, hx, hI, hxs⟩ hK
          have hDn : D ∉ Ds := fun h => by have := HD2.out D h; omega
          refine wpIn_wide.2 ?_
          dsimp only
          go_wp2_with fail
          have hf : Globe.fewestL (Globe.enough l (ss.map fun s => s.1)) n = some x.2.2 := Globe.fewest_eq (i := i) (by omega) Hno.out (Globe.find_prefix (q := ys.map fun x => x.2.2) (by rw [List.map_append] at hSp; exact hSp) (fun y hy => by
            rw [List.mem_map] at hy
            obtain ⟨z, hz, rfl⟩ := hy
            exact hys z hz) hx)
          obtain ⟨q1, q2, q3, q4, q5, q6, q7⟩ := hI
          refine ⟨rfl, _, D :: Ds, x.1, x.2.1, frOk_lit _ rfl, rfl, ?_, ?_⟩
          · rw [hf]
            refine ⟨q1, q2, q3, q4, q5, List.nodup_cons.2 ⟨hDn, q6⟩, fun D' hD' => ?_⟩
            rcases List.mem_cons.1 hD' with rfl | h
            · exact ⟨by omega, hK⟩
            · exact q7 D' h
          · rw [hf]; exact hxs
      · have i2 : ¬ (i : Int) < (n : Int) + 1 := by omega
        go_wp2_with fail
        have hf : Globe.fewestL (Globe.enough l (ss.map fun s => s.1)) n = none := Globe.fewest_eq_none fun j hj => Hno.out j (by omega)
        refine ⟨rfl, _, Ds, none, 0, frOk_lit _ rfl, rfl, ?_, ?_⟩
        · rw [hf]; exact ⟨⟨cF, fF⟩, ⟨cO, fO⟩, cS, cT, hE, Hnd.out, HDs.out⟩
        · rw [hf]; exact .inl rfl
  · clear bF bO cS2 cT2 eW W
    rintro e ⟨X, ds⟩ W ⟨rfl, p, Ds, fa, fc, ⟨u, hu⟩, hds, ⟨⟨cF, fF⟩, ⟨cO, fO⟩, cS, cT, hE, hnd, hDs⟩, hints⟩
    dsimp only at hu hds
    subst hu hds
    rw [Hr.out] at cF cO hints
    rename_i K0 hK0
    show K0 _ _
    refine hK0 _ _ ?_
    clear hK0 K0
    unfold FrF
    have Hi := Lib.hid hints; clear hints
    have HD := Lib.hid hDs; clear hDs
    have Hnd := Lib.hid hnd; clear hnd
    go_wp2_with fail
    go_quiet (fail)
    go_wp2_with fail
    rw [Exit.noGoto_ret]
    refine leaves_marks w.heap.size (fun W' => IntsAt W' fa (intsN (r.getD [])) ∧ Ext w W') (fun D W' hD hP hk => ⟨hP.1.kept (grownBy_putObj' _ _ _) (fun z e => by cases e; exact ⟨_, hk, rfl⟩), Ext.shut hP.2 hD hk⟩) (fun W' hP => ?_) Ds _ Hnd.out (fun D hD => HD.out D hD) ⟨Hi.out.ext (Ext.drewN (Ext.refl _) _), Ext.drewN hE _⟩
    exact ⟨_, by simp [results, Tryd.results25, go_sem], fa, fc, rfl, hP⟩

end Go.Proofs.YtglfoglkdbbmmaaDoor
