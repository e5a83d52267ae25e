/- Part 1 of what the proof of MachineMore stands on. -/
import Derived.Test.YtpfajhcdfgpgmaaGreatDoorProg
import Derived.WalkKit
import Derived.WalkSpells
import Derived.WalkLawsBesides
import Derived.Handy
import Derived.Laws.EntriesVeiled
import Derived.Lib.Hide
import Derived.Deep.QuietTactic
import Derived.BigQuiet
import Derived.Deep.RegionHeld3
import Derived.Lib.TrailingZeros
import Derived.Scope
import Derived.RangeFuncOwn
import Derived.RangeFuncNested
import Derived.RangeFuncBound
import Derived.RangeFuncCalls
import Derived.RangeFuncLeaves
import Derived.RangeFuncBox
import Derived.Shelf.Abstract
import Derived.Shelf.RegionOpen
import Derived.OwnWalkIn
import Derived.TacticsInMore
import Derived.LoopNIn
import Derived.LoopIn
import Derived.Laws.Bits64b
import Derived.OwnWalk
import Derived.Maps.AppendAt
import Derived.OrdersIn
import Derived.TacticsIn
import Derived.Maps.RangeRun
namespace Go.Proofs.YtpfajhcdfgpgmaaGreatDoor
open Go.RowKit
theorem ret_int {k:IntKind} {a b:Int} (h:a=b):Ending.returned (.int k a)= .returned (.int k b):=by rw [h]
theorem ret_bool {a b:Bool} (h:a=b):Ending.returned (.bool a)= .returned (.bool b):=by rw [h]
theorem wp_name {P:Program} {c:Code} {Q:Exit→Act→World→Prop} {a:Act} {W:World} (S:World→Prop) (hS:S W) (h:∀V,S V→c.wp P Q a V):c.wp P Q a W:=h W hS
def Ext (w w':World):Prop:=Below w.heap.size w w'
theorem Ext.refl (w:World):Ext w w:=Below.refl _ _
theorem Ext.trans {a b c:World} (h:Ext a b) (k:Ext b c):Ext a c:=Below.trans h (Below.mono k (Below.size h))
theorem Ext.alloc {a b:World} (h:Ext a b) (o:Obj):Ext a (b.alloc o):=Below.alloc h (Below.size h) o
theorem Ext.drew {a b:World} (h:Ext a b):Ext a b.drew:=Below.drew h
theorem Ext.drewN {a b:World} (h:Ext a b) (n:Nat):Ext a (b.drewN n):=Below.trans h ⟨rfl,rfl,rfl,Nat.le_refl _,fun _ _=>rfl⟩
theorem Ext.setCell {a b:World} (h:Ext a b) {p:Addr} (hp:a.heap.size≤p.block) (u:Value):Ext a (b.setCell p u):=Below.setCell h hp u
theorem Ext.size {a b:World} (h:Ext a b):a.heap.size≤b.heap.size:=Below.size h
theorem Ext.below {a b:World} (h:Ext a b):Below a.heap.size a b:=h
theorem Ext.cellE {W w1:World} (hb:Ext W w1):∀b o,(⟨b+1 - W.heap.size,0,none⟩:Addr)=⟨0,0,none⟩→w1.cell? ⟨b,o,none⟩=W.cell? ⟨b,o,none⟩:=fun b o h=>Below.cell hb (p:=⟨b,o,none⟩) (by simp at h;show b<W.heap.size;omega)
theorem Ext.frozenE {W w1:World} (hb:Ext W w1):∀b o,(⟨b+1 - W.heap.size,0,none⟩:Addr)=⟨0,0,none⟩→w1.frozen? ⟨b,o,none⟩=W.frozen? ⟨b,o,none⟩:=fun b o h=>Below.frozen hb (p:=⟨b,o,none⟩) (by simp at h;show b<W.heap.size;omega)
theorem Ext.cell {W w1:World} (hb:Ext W w1) {a:Addr} {v:Value} (h:W.cell? a=some v):w1.cell? a=some v:=by
  rw [Below.cell hb (World.block_lt_of_cell? W a h)];exact h
theorem Ext.free {W w1:World} (hb:Ext W w1) {a:Addr} {v:Value} (h:W.cell? a=some v) (hf:W.frozen? a=false):w1.frozen? a=false:=by
  rw [Below.frozen hb (World.block_lt_of_cell? W a h)];exact hf
theorem lt_of_addr {b n:Nat} (h:(⟨b+1 - n,0,none⟩:Addr)=⟨0,0,none⟩):b<n:=by simp at h;omega
theorem alloc_keeps (w:World):
    (∀o1 b o,(⟨b+1 - w.heap.size,0,none⟩:Addr)=⟨0,0,none⟩→(w.alloc o1).cell? ⟨b,o,none⟩=w.cell? ⟨b,o,none⟩)∧
    (∀o1 b o,(⟨b+1 - w.heap.size,0,none⟩:Addr)=⟨0,0,none⟩→(w.alloc o1).frozen? ⟨b,o,none⟩=w.frozen? ⟨b,o,none⟩)∧
    (∀o1 o2 b o,(⟨b+1 - w.heap.size,0,none⟩:Addr)=⟨0,0,none⟩→((w.alloc o1).alloc o2).cell? ⟨b,o,none⟩=w.cell? ⟨b,o,none⟩)∧
    (∀o1 o2 b o,(⟨b+1 - w.heap.size,0,none⟩:Addr)=⟨0,0,none⟩→((w.alloc o1).alloc o2).frozen? ⟨b,o,none⟩=w.frozen? ⟨b,o,none⟩)∧
    (∀o1 o2 o3 b o,(⟨b+1 - w.heap.size,0,none⟩:Addr)=⟨0,0,none⟩→(((w.alloc o1).alloc o2).alloc o3).cell? ⟨b,o,none⟩=w.cell? ⟨b,o,none⟩)∧
    (∀o1 o2 o3 b o,(⟨b+1 - w.heap.size,0,none⟩:Addr)=⟨0,0,none⟩→(((w.alloc o1).alloc o2).alloc o3).frozen? ⟨b,o,none⟩=w.frozen? ⟨b,o,none⟩)∧
    (∀o1 o2 o3 o4 b o,(⟨b+1 - w.heap.size,0,none⟩:Addr)=⟨0,0,none⟩→((((w.alloc o1).alloc o2).alloc o3).alloc o4).cell? ⟨b,o,none⟩=w.cell? ⟨b,o,none⟩)∧
    (∀o1 o2 o3 o4 b o,(⟨b+1 - w.heap.size,0,none⟩:Addr)=⟨0,0,none⟩→((((w.alloc o1).alloc o2).alloc o3).alloc o4).frozen? ⟨b,o,none⟩=w.frozen? ⟨b,o,none⟩)∧
    (∀o1 o2 o3 o4 o5 b o,(⟨b+1 - w.heap.size,0,none⟩:Addr)=⟨0,0,none⟩→(((((w.alloc o1).alloc o2).alloc o3).alloc o4).alloc o5).cell? ⟨b,o,none⟩=w.cell? ⟨b,o,none⟩)∧
    (∀o1 o2 o3 o4 o5 b o,(⟨b+1 - w.heap.size,0,none⟩:Addr)=⟨0,0,none⟩→(((((w.alloc o1).alloc o2).alloc o3).alloc o4).alloc o5).frozen? ⟨b,o,none⟩=w.frozen? ⟨b,o,none⟩):=by
  have e:∀(W:World) (h:Ext w W) (b o:Nat),b<w.heap.size→W.cell? ⟨b,o,none⟩=w.cell? ⟨b,o,none⟩∧W.frozen? ⟨b,o,none⟩=w.frozen? ⟨b,o,none⟩:=
    fun W h b o hb=>⟨Below.cell h (p:=⟨b,o,none⟩) hb,Below.frozen h (p:=⟨b,o,none⟩) hb⟩
  refine⟨?_,?_,?_,?_,?_,?_,?_,?_,?_,?_⟩ <;> intros <;> rename_i h <;> first
    | exact (e _ (by repeat' (first | exact Ext.refl _ | refine Ext.alloc ?_ _)) _ _ (lt_of_addr h)).1
    | exact (e _ (by repeat' (first | exact Ext.refl _ | refine Ext.alloc ?_ _)) _ _ (lt_of_addr h)).2
theorem xE {a b:World} (h:Ext a b:=by (repeat' (first | (with_reducible assumption) | (with_reducible exact Ext.refl _) | (with_reducible refine Ext.alloc ?_ _) | (with_reducible refine Ext.drew ?_) | (with_reducible refine Ext.drewN ?_ _) | (with_reducible refine Ext.setCell ?_ ?_ _) | (with_reducible refine Ext.trans ?_ (by assumption)) | go_size))):Ext a b:=h
end Go.Proofs.YtpfajhcdfgpgmaaGreatDoor

namespace Go.Proofs.YtpfajhcdfgpgmaaGreatDoor
namespace Globe
def inB (n lo hi:Int):Bool:=decide (lo≤n∧n≤hi)
theorem inB_t {n lo hi:Int}:inB n lo hi=true↔lo≤n∧n≤hi:=by simp [inB]
theorem inB_f {n lo hi:Int}:inB n lo hi=false↔n<lo∨hi<n:=by simp [inB];omega
def nth (l:List Int) (i:Nat):Int:=l[i]?.getD 0
theorem nth_lt {l:List Int} {i:Nat} (h:i<l.length):nth l i=l[i]:=by rw [nth,List.getElem?_eq_getElem h];rfl
theorem nth_ge {l:List Int} {i:Nat} (h:l.length≤i):nth l i=0:=by rw [nth,List.getElem?_eq_none h];rfl
theorem nth_mem {l:List Int} {i:Nat} (h:i<l.length):nth l i ∈ l:=by rw [nth_lt h];exact List.getElem_mem h
theorem mem_nth {l:List Int} {x:Int} (h:x ∈ l):∃i,i<l.length∧nth l i=x:=by
  obtain⟨i,hi,rfl⟩:=List.getElem_of_mem h
  exact⟨i,hi,nth_lt hi⟩
theorem ext_nth {a b:List Int} (hl:a.length=b.length) (h:∀i,i<a.length→nth a i=nth b i):a=b:=
  List.ext_getElem hl fun i h1 h2=>by rw [←nth_lt h1,←nth_lt h2];exact h i h1
def rowOk (r:Int):Bool:=decide (0≤r∧r≤281474976710655)
theorem rowOk_t {r:Int}:rowOk r=true↔0≤r∧r≤281474976710655:=by simp [rowOk]
theorem rowOk_f {r:Int}:rowOk r=false↔r<0∨281474976710655<r:=by simp [rowOk];omega
def validL (l:List Int):Bool:=l.length == 24 && l.all rowOk
theorem validL_t {l:List Int}:validL l=true↔l.length=24∧∀r ∈ l,0≤r∧r≤281474976710655:=by
  simp only [validL,Bool.and_eq_true,beq_iff_eq,List.all_eq_true,rowOk_t]
def badAt:List Int→Int
  | []=> -1
  | r :: l=>if rowOk r then (if badAt l<0 then -1 else badAt l+1) else 0
theorem badAt_all:∀ {l:List Int},l.all rowOk=true→badAt l= -1
  | [],_=>rfl
  | r :: l,h=>by
    simp only [List.all_cons,Bool.and_eq_true] at h
    rw [badAt,if_pos h.1,badAt_all h.2];rfl
theorem badAt_no:∀ {l:List Int},l.all rowOk=false→0≤badAt l
  | [],h=>by simp at h
  | r :: l,h=>by
    cases hr:rowOk r with
    | false=>rw [badAt,if_neg (by rw [hr];decide)];decide
    | true=>
      have ih:=badAt_no (l:=l) (by simpa [List.all_cons,hr] using h)
      rw [badAt,if_pos hr,if_neg (by omega)];omega
theorem badAt_first:∀ {l:List Int} {k:Nat},k<l.length→(∀j,j<k→rowOk (nth l j)=true)→rowOk (nth l k)=false→badAt l=(k:Int)
  | r :: l,0,_,_,hk=>by simp [nth] at hk;rw [badAt,if_neg (by rw [hk];decide)];rfl
  | r :: l,k+1,h,hp,hk=>by
    have ih:=badAt_first (l:=l) (k:=k) (by simpa using h) (fun j hj=>by simpa [nth] using hp (j+1) (by omega)) (by simpa [nth] using hk)
    have h0:rowOk r=true:=by simpa [nth] using hp 0 (by omega)
    rw [badAt,if_pos h0,ih,if_neg (by omega)];omega
end Globe
end Go.Proofs.YtpfajhcdfgpgmaaGreatDoor

namespace Go.Proofs.YtpfajhcdfgpgmaaGreatDoor
open Go.RowKit
def IntsAt (w:World) (a:Option Addr) (l:List Int):Prop:=
  l= []∨∃b off,a=some ⟨b,off,none⟩∧∀i,i<l.length→w.cell? ⟨b,off+i,none⟩=some (.int .i64 (Globe.nth l i))
theorem IntsAt.ext {w w':World} {a:Option Addr} {l:List Int} (h:IntsAt w a l) (hE:Ext w w'):IntsAt w' a l:=by
  rcases h with h | ⟨b,off,rfl,h⟩
  · exact .inl h
  · exact .inr ⟨b,off,rfl,fun i hi=>hE.cell (h i hi)⟩
theorem make24 (w:World):(Instr.makeSlice 24 (.int .i64 24) (.int .i64 24)).run Tryz.prog w= .ok (.slice (some ⟨w.heap.size,0,none⟩) 24 24) (w.alloc (.cells #[.int .i64 0,.int .i64 0,.int .i64 0,.int .i64 0,.int .i64 0,.int .i64 0,.int .i64 0,.int .i64 0,.int .i64 0,.int .i64 0,.int .i64 0,.int .i64 0,.int .i64 0,.int .i64 0,.int .i64 0,.int .i64 0,.int .i64 0,.int .i64 0,.int .i64 0,.int .i64 0,.int .i64 0,.int .i64 0,.int .i64 0,.int .i64 0] 3)):=by kernel_rfl
theorem new_ints (w:World) (l:List Int) (t:TypeId):∀i,i<l.length→(w.alloc (.cells (l.map (Value.int .i64)).toArray t)).cell? ⟨w.heap.size,0+i,none⟩=some (.int .i64 (Globe.nth l i)):=by
  intro i hi
  rw [Nat.zero_add]
  rw [cell_of_row _ _ i _ t (0,0) (heap_alloc_new w _)]
  simp [Globe.nth,hi]
end Go.Proofs.YtpfajhcdfgpgmaaGreatDoor

namespace Go.Proofs.YtpfajhcdfgpgmaaGreatDoor
open Go.RowKit
theorem and_i64 (a b:Nat) (ha:a<4611686018427387904) (hb:b<4611686018427387904):bits .and .i64 (a:Int) (b:Int)=((a &&& b:Nat):Int):=
  (bits_nat .i64 62 (by decide) (fun n h1 h2=>by rw [IntKind.wrap_i64];omega) a b (by omega) (by omega)).1
theorem or_i64 (a b:Nat) (ha:a<4611686018427387904) (hb:b<4611686018427387904):bits .or .i64 (a:Int) (b:Int)=((a ||| b:Nat):Int):=
  (bits_nat .i64 62 (by decide) (fun n h1 h2=>by rw [IntKind.wrap_i64];omega) a b (by omega) (by omega)).2
theorem testBit_div (R x:Nat):R / 2 ^ x % 2=if R.testBit x then 1 else 0:=by
  rw [←Nat.shiftRight_eq_div_pow,Nat.testBit,Nat.one_and_eq_mod_two]
  have h2:(R>>>x) % 2<2:=Nat.mod_lt _ (by decide)
  by_cases h:(R>>>x) % 2=0
  · rw [h];rfl
  · have h1:(R>>>x) % 2=1:=by omega
    rw [h1];rfl
theorem div_pow_cast (R x:Nat):(R:Int) / 2 ^ x=((R / 2 ^ x:Nat):Int):=by simp
theorem bit_mod2 (R x:Nat):(R:Int) / 2 ^ x % 2=if R.testBit x then 1 else 0:=by
  rw [div_pow_cast,show (2:Int)=((2:Nat):Int) from rfl,←Int.natCast_emod,testBit_div]
  split <;> rfl
end Go.Proofs.YtpfajhcdfgpgmaaGreatDoor

namespace Go.Proofs.YtpfajhcdfgpgmaaGreatDoor
namespace Globe
def bitsN (R:Nat):List Nat:=(List.range 48).filter fun x=>R.testBit x
theorem bitsN_zero:bitsN 0= []:=by simp [bitsN]
theorem lowest (R:Nat) (h0:R≠0) (h:R<2 ^ 64):∃m,R=2 ^ Lib.ctz 64 R * (2 * m+1)∧R &&& (R - 1)=2 ^ (Lib.ctz 64 R+1) * m:=by
  obtain⟨m,hm,_⟩:=Lib.ctzFrom_spec 64 R (by omega) h
  have e:Lib.ctz 64 R=Lib.ctzFrom 64 R:=by simp [Lib.ctz,h0]
  rw [e]
  generalize Lib.ctzFrom 64 R=k at hm ⊢
  refine⟨m,hm,?_⟩
  have hp:0<2 ^ k:=Nat.two_pow_pos k
  have h1:R=2 ^ (k+1) * m+2 ^ k:=by rw [hm,Nat.pow_succ,Nat.mul_add,Nat.mul_one,Nat.mul_assoc]
  have h2:R - 1=2 ^ (k+1) * m+(2 ^ k - 1):=by omega
  have l1:2 ^ k<2 ^ (k+1):=by rw [Nat.pow_succ];omega
  apply Nat.eq_of_testBit_eq
  intro j
  rw [h2,Nat.testBit_and,h1,Nat.testBit_two_pow_mul_add _ l1,Nat.testBit_two_pow_mul_add _ (by omega)]
  rw [Nat.testBit_two_pow_mul]
  by_cases hj:j<k+1
  · simp only [hj,if_true,Nat.testBit_two_pow,Nat.testBit_two_pow_sub_one]
    rw [show decide (j≥k+1)=false by simp;omega]
    by_cases e:k=j
    · subst e;simp
    · simp [e]
  · simp only [hj,if_false]
    rw [show decide (j≥k+1)=true by simp;omega]
    simp
theorem testBit_ctz (R:Nat) (h0:R≠0) (h:R<2 ^ 64):R.testBit (Lib.ctz 64 R)=true∧(∀j,j<Lib.ctz 64 R→R.testBit j=false)∧∀j,(R &&& (R - 1)).testBit j=(R.testBit j && decide (j≠Lib.ctz 64 R)):=by
  obtain⟨m,hm,ha⟩:=lowest R h0 h
  generalize Lib.ctz 64 R=k at *
  have h1:R=2 ^ (k+1) * m+2 ^ k:=by rw [hm,Nat.pow_succ,Nat.mul_add,Nat.mul_one,Nat.mul_assoc]
  have l1:2 ^ k<2 ^ (k+1):=by rw [Nat.pow_succ];have:=Nat.two_pow_pos k;omega
  have tb:∀j,R.testBit j=if j<k+1 then decide (k=j) else m.testBit (j - (k+1)):=by
    intro j
    rw [h1,Nat.testBit_two_pow_mul_add _ l1,Nat.testBit_two_pow]
  refine⟨by rw [tb];simp,fun j hj=>by rw [tb,if_pos (by omega)];simp;omega,fun j=>?_⟩
  rw [ha,tb,Nat.testBit_two_pow_mul]
  by_cases hj:j<k+1
  · rw [if_pos hj,show decide (j≥k+1)=false by simp;omega]
    by_cases e:k=j
    · subst e;simp
    · simp [e]
  · rw [if_neg hj,show decide (j≥k+1)=true by simp;omega,show decide (j≠k)=true by simp;omega]
    simp
theorem ctz_lt (R:Nat) (h0:R≠0) (h:R<2 ^ 48):Lib.ctz 64 R<48:=by
  have h64:R<2 ^ 64:=by omega
  obtain⟨t,_⟩:=testBit_ctz R h0 h64
  apply Nat.lt_of_not_le
  intro hle
  have:R<2 ^ Lib.ctz 64 R:=Nat.lt_of_lt_of_le h (Nat.pow_le_pow_right (by decide) hle)
  rw [Nat.testBit_lt_two_pow this] at t
  cases t
theorem bitsN_step (R:Nat) (h0:R≠0) (h:R<2 ^ 48):bitsN R=Lib.ctz 64 R :: bitsN (R &&& (R - 1)):=by
  have h64:R<2 ^ 64:=by omega
  obtain⟨t,tl,ta⟩:=testBit_ctz R h0 h64
  have hk:=ctz_lt R h0 h
  generalize Lib.ctz 64 R=k at *
  unfold bitsN
  obtain⟨r,hr⟩:∃r,48=k+(1+r):=⟨47 - k,by omega⟩
  rw [hr,List.range_add,List.range_add,List.filter_append,List.filter_append,List.map_append,List.filter_append,List.filter_append]
  have e1:(List.range k).filter (fun x=>R.testBit x)= []:=List.filter_eq_nil_iff.2 fun j hj=>by rw [tl j (List.mem_range.1 hj)];simp
  have e2:(List.range k).filter (fun x=>(R &&& (R - 1)).testBit x)= []:=List.filter_eq_nil_iff.2 fun j hj=>by rw [ta,tl j (List.mem_range.1 hj)];simp
  have e3:(List.map (fun x=>k+x) (List.range 1)).filter (fun x=>R.testBit x)= [k]:=by simp [List.range_succ,t]
  have e4:(List.map (fun x=>k+x) (List.range 1)).filter (fun x=>(R &&& (R - 1)).testBit x)= []:=by simp [List.range_succ,ta]
  rw [e1,e2,e3,e4]
  simp only [List.nil_append,List.singleton_append,List.cons.injEq,true_and]
  refine List.filter_congr fun j hj=>?_
  rw [ta]
  simp only [List.map_map,List.mem_map,List.mem_range,Function.comp] at hj
  obtain⟨i,_,rfl⟩:=hj
  rw [show decide (k+(1+i)≠k)=true by simp,Bool.and_true]
theorem and_pred_lt (R:Nat) (h:R<2 ^ 48):R &&& (R - 1)<2 ^ 48:=Nat.and_lt_two_pow _ (by omega)
theorem and_pred_less (R:Nat) (h0:R≠0):R &&& (R - 1)<R:=by
  have:R &&& (R - 1)≤R - 1:=Nat.and_le_right
  omega
def rowCells (l:List Int) (j:Nat):List (Nat × Nat):=(bitsN (nth l j).toNat).map fun x=>(x,j)
def cellsTo (l:List Int) (y:Nat):List (Nat × Nat):=(List.range y).flatMap (rowCells l)
theorem cellsTo_succ (l:List Int) (y:Nat):cellsTo l (y+1)=cellsTo l y ++ rowCells l y:=by simp [cellsTo,List.range_succ]
theorem bitsN_len (R:Nat):(bitsN R).length≤48:=by
  unfold bitsN
  exact Nat.le_trans (List.length_filter_le _ _) (by simp)
theorem cellsTo_len (l:List Int):∀y,(cellsTo l y).length≤48 * y
  | 0=>by simp [cellsTo]
  | y+1=>by
    rw [cellsTo_succ,List.length_append]
    have:=cellsTo_len l y
    have h2:(rowCells l y).length≤48:=by unfold rowCells;rw [List.length_map];exact bitsN_len _
    omega
theorem cellsTo_pre (l:List Int) {y n:Nat} (h:y≤n):cellsTo l y<+:cellsTo l n:=by
  obtain⟨r,rfl⟩:∃r,n=y+r:=⟨n - y,by omega⟩
  unfold cellsTo
  rw [List.range_add,List.flatMap_append]
  exact List.prefix_append _ _
theorem cells_mid {l:List Int} {y x:Nat} {done rest:List (Nat × Nat)} (hy:y<24) (h:done ++ (x,y) :: rest=rowCells l y):
    (cellsTo l y ++ done).length<(cellsTo l 24).length∧cellsTo l y ++ done ++ [(x,y)]<+:cellsTo l 24:=by
  have hp:=cellsTo_pre l (show y+1≤24 by omega)
  rw [cellsTo_succ,←h] at hp
  refine⟨?_,?_⟩
  · have:=hp.length_le
    simp only [List.length_append,List.length_cons] at this ⊢
    omega
  · refine List.IsPrefix.trans ?_ hp
    exact⟨rest,by simp⟩
def cellsL (l:List Int):List (Nat × Nat):=if validL l then cellsTo l 24 else []
def countL (l:List Int):Nat:=(cellsL l).length
end Globe
end Go.Proofs.YtpfajhcdfgpgmaaGreatDoor

namespace Go.Proofs.YtpfajhcdfgpgmaaGreatDoor
namespace Globe
def hasL (l:List Int) (x y:Nat):Bool:=(nth l y).toNat.testBit x
def zeroL:List Int:=List.replicate 24 0
theorem nth_set {l:List Int} {y:Nat} {v:Int} (j:Nat) (h:y<l.length):nth (l.set y v) j=if y=j then v else nth l j:=by
  unfold nth
  rw [List.getElem?_set]
  by_cases e:y=j
  · subst e;simp [h]
  · simp [e]
theorem len_of_valid {l:List Int} (h:validL l=true):l.length=24:=(validL_t.1 h).1
theorem row_of_valid {l:List Int} (h:validL l=true) (y:Nat):0≤nth l y∧nth l y≤281474976710655:=by
  by_cases hy:y<l.length
  · exact (validL_t.1 h).2 _ (nth_mem hy)
  · rw [nth_ge (by omega)];omega
theorem mem_cells {l:List Int} {n:Nat} {p:Nat × Nat}:p ∈ cellsTo l n↔p.2<n∧p.1<48∧hasL l p.1 p.2=true:=by
  obtain⟨x,y⟩:=p
  simp only [cellsTo,rowCells,List.mem_flatMap,List.mem_range,List.mem_map,bitsN,List.mem_filter,hasL,Prod.mk.injEq]
  constructor
  · rintro⟨y',hy,x',⟨hx,ht⟩,rfl,rfl⟩;exact⟨hy,hx,ht⟩
  · rintro⟨hy,hx,ht⟩;exact⟨y,hy,x,⟨hx,ht⟩,rfl,rfl⟩
end Globe
end Go.Proofs.YtpfajhcdfgpgmaaGreatDoor

namespace Go.Proofs.YtpfajhcdfgpgmaaGreatDoor
open Go.RowKit
def RowsAt (w:World) (B:Nat) (L:List Int):Prop:=L.length=24∧(∀i,i<24→w.cell? ⟨B,i,none⟩=some (.int .i64 (Globe.nth L i)))∧∀i,i<24→w.frozen? ⟨B,i,none⟩=false
theorem RowsAt.len {w:World} {B:Nat} {L:List Int} (h:RowsAt w B L):L.length=24:=h.1
theorem RowsAt.cell {w:World} {B:Nat} {L:List Int} (h:RowsAt w B L) {i:Nat} (hi:i<24):w.cell? ⟨B,i,none⟩=some (.int .i64 (Globe.nth L i)):=h.2.1 i hi
theorem RowsAt.free {w:World} {B:Nat} {L:List Int} (h:RowsAt w B L) {i:Nat} (hi:i<24):w.frozen? ⟨B,i,none⟩=false:=h.2.2 i hi
theorem RowsAt.ext {w w':World} {B:Nat} {L:List Int} (h:RowsAt w B L) (hE:Ext w w'):RowsAt w' B L:=
  ⟨h.1,fun _ hi=>hE.cell (h.cell hi),fun _ hi=>hE.free (h.cell hi) (h.free hi)⟩
theorem RowsAt.lt {w:World} {B:Nat} {L:List Int} (h:RowsAt w B L):B<w.heap.size:=World.block_lt_of_cell? w _ (h.cell (i:=0) (by omega))
theorem RowsAt.set {w:World} {B:Nat} {L:List Int} (h:RowsAt w B L) {y:Nat} (hy:y<24) (v:Int):RowsAt (w.setCell ⟨B,y,none⟩ (.int .i64 v)) B (L.set y v):=by
  refine⟨by rw [List.length_set];exact h.1,fun i hi=>?_,fun i hi=>?_⟩
  · rw [Globe.nth_set _ (by rw [h.1];exact hy)]
    by_cases e:y=i
    · subst e;rw [if_pos rfl];have:=h.cell hy;simp [go_sem,this]
    · rw [if_neg e,←h.cell hi]
      exact World.cell?_setCell_other w _ _ _ (by intro c;exact e (congrArg Addr.off c))
  · have:=h.free hi;simpa [go_sem] using this
theorem RowsAt.ints {w:World} {B:Nat} {L:List Int} (h:RowsAt w B L):∀i,i<L.length→w.cell? ⟨B,0+i,none⟩=some (.int .i64 (Globe.nth L i)):=fun i hi=>by
  rw [Nat.zero_add];exact h.cell (by rw [←h.1];exact hi)
theorem RowsAt.new (w:World) (L:List Int) (t:TypeId) (hl:L.length=24):RowsAt (w.alloc (.cells (L.map (Value.int .i64)).toArray t)) w.heap.size L:=by
  refine⟨hl,fun i hi=>?_,fun i hi=>by simp [go_sem]⟩
  have:=new_ints w L t i (by omega)
  rwa [Nat.zero_add] at this
end Go.Proofs.YtpfajhcdfgpgmaaGreatDoor

namespace Go.Proofs.YtpfajhcdfgpgmaaGreatDoor
namespace Globe
def rowsF (f:Nat→Nat):List Int:=(List.range 24).map fun y=>((f y:Nat):Int)
theorem rowsF_len (f:Nat→Nat):(rowsF f).length=24:=by simp [rowsF]
theorem nth_rowsF (f:Nat→Nat) {y:Nat} (h:y<24):nth (rowsF f) y=((f y:Nat):Int):=by
  rw [nth_lt (by rw [rowsF_len];exact h)];simp [rowsF]
theorem rowsF_valid {f:Nat→Nat} (h:∀y,y<24→f y<281474976710656):validL (rowsF f)=true:=by
  rw [validL_t]
  refine⟨rowsF_len f,fun r hr=>?_⟩
  simp only [rowsF,List.mem_map,List.mem_range] at hr
  obtain⟨y,hy,rfl⟩:=hr
  have:=h y hy
  omega
def partL (L:List Int) (y:Nat):List Int:=L.take y ++ List.replicate (24 - y) 0
theorem partL_zero (L:List Int):partL L 0=zeroL:=by simp [partL,zeroL]
theorem partL_all {L:List Int} (h:L.length=24):partL L 24=L:=by simp [partL];rw [←h,List.take_length]
theorem partL_len {L:List Int} (h:L.length=24) {y:Nat} (hy:y≤24):(partL L y).length=24:=by
  unfold partL;rw [List.length_append,List.length_take,List.length_replicate];omega
theorem nth_partL {L:List Int} (h:L.length=24) {y j:Nat} (hy:y≤24) (_hj:j<24):nth (partL L y) j=if j<y then nth L j else 0:=by
  unfold nth partL
  rw [List.getElem?_append,List.length_take,Nat.min_eq_left (by omega)]
  by_cases e:j<y
  · rw [if_pos e,if_pos e,List.getElem?_take_of_lt e]
  · rw [if_neg e,if_neg e,List.getElem?_replicate];split <;> rfl
theorem partL_succ {L:List Int} (h:L.length=24) {y:Nat} (hy:y<24):(partL L y).set y (nth L y)=partL L (y+1):=by
  refine ext_nth (by rw [List.length_set,partL_len h (by omega),partL_len h (by omega)]) fun j hj=>?_
  rw [List.length_set,partL_len h (by omega)] at hj
  rw [nth_set _ (by rw [partL_len h (by omega)];exact hy),nth_partL h (by omega) hj,nth_partL h (by omega) hj]
  by_cases e:y=j
  · subst e;rw [if_pos rfl,if_pos (by omega)]
  · rw [if_neg e]
    by_cases e2:j<y
    · rw [if_pos e2,if_pos (by omega)]
    · rw [if_neg e2,if_neg (by omega)]
def rowN (l:List Int) (y:Nat):Nat:=(nth l y).toNat
theorem rowN_lt {l:List Int} (h:validL l=true) (y:Nat):rowN l y<281474976710656:=by
  have:=row_of_valid h y;unfold rowN;omega
theorem rowN_cast {l:List Int} (h:validL l=true) (y:Nat):nth l y=(rowN l y:Int):=by
  have:=row_of_valid h y;unfold rowN;omega
def lessN (p q:Nat):Nat:=p ^^^ (p &&& q)
theorem lessN_bit (p q x:Nat):(lessN p q).testBit x=(p.testBit x && !q.testBit x):=by
  unfold lessN
  rw [Nat.testBit_xor,Nat.testBit_and]
  cases p.testBit x <;> cases q.testBit x <;> rfl
theorem lessN_lt {p q:Nat} (h:p<281474976710656):lessN p q<281474976710656:=
  Nat.xor_lt_two_pow (n:=48) h (Nat.lt_of_le_of_lt Nat.and_le_left h)
def lessL (a b:List Int):List Int:=rowsF fun y=>lessN (rowN a y) (rowN b y)
theorem less_valid {a b:List Int} (ha:validL a=true):validL (lessL a b)=true:=rowsF_valid fun y _=>lessN_lt (rowN_lt ha y)
end Globe
end Go.Proofs.YtpfajhcdfgpgmaaGreatDoor

namespace Go.Proofs.YtpfajhcdfgpgmaaGreatDoor
open Go.RowKit
def RetA (w:World) (L:List Int) (e:Ending) (w':World):Prop:=
  ∃B:Nat,e= .returned (.agg #[.slice (some ⟨B,0,none⟩) 24 24])∧w.heap.size≤B∧RowsAt w' B L∧Ext w w'
def RetAE (w:World) (L:List Int) (e:Ending) (w':World):Prop:=
  ∃B:Nat,e= .returned (.tuple #[.agg #[.slice (some ⟨B,0,none⟩) 24 24],.int .i64 0])∧w.heap.size≤B∧RowsAt w' B L∧Ext w w'
def RetErr (w:World) (c:Int) (e:Ending) (w':World):Prop:=e= .returned (.tuple #[.agg #[.slice none 0 0],.int .i64 c])∧Ext w w'
def orL (ok:Bool) (L:List Int):List Int:=if ok then L else []
def orE (ok:Bool) (c:Int):Int:=if ok then 0 else c
def RetAny (w:World) (ok:Bool) (L:List Int) (c:Int) (e:Ending) (w':World):Prop:=
  ∃(a:Option Addr) (k:Nat),e= .returned (.tuple #[.agg #[.slice a (orL ok L).length k],.int .i64 (orE ok c)])∧IntsAt w' a (orL ok L)∧Ext w w'∧∀ad,a=some ad→w.heap.size≤ad.block∧ad.block<w'.heap.size
theorem RetAny.yes {w:World} {L:List Int} {c:Int} {e:Ending} {w':World} (h:RetAE w L e w'):RetAny w true L c e w':=by
  obtain⟨B,rfl,hB,hr,hE⟩:=h
  exact⟨some ⟨B,0,none⟩,24,by show _=Ending.returned (.tuple #[.agg #[.slice _ L.length _],_]);rw [hr.len];rfl,.inr ⟨B,0,rfl,hr.ints⟩,hE,fun ad e=>by cases e;exact⟨hB,hr.lt⟩⟩
theorem RetAny.no {w:World} {L:List Int} {c:Int} {e:Ending} {w':World} (h:RetErr w c e w'):RetAny w false L c e w':=by
  obtain⟨rfl,hE⟩:=h
  exact⟨none,0,rfl,.inl rfl,hE,fun ad e=>by cases e⟩
theorem RowsAt.any {w:World} {B:Nat} {L:List Int} (h:RowsAt w B L):IntsAt w (some ⟨B,0,none⟩) L:=.inr ⟨B,0,rfl,h.ints⟩
theorem IntsAt.rows {w:World} {a:Option Addr} {l:List Int} (h:IntsAt w a l) (hl:l.length=24):∃b off,a=some ⟨b,off,none⟩∧∀i,i<24→w.cell? ⟨b,off+i,none⟩=some (.int .i64 (Globe.nth l i)):=by
  rcases h with rfl | ⟨b,off,rfl,h⟩
  · simp at hl
  · exact⟨b,off,rfl,fun i hi=>h i (by omega)⟩
theorem IntsAt.lt {w:World} {b off:Nat} {l:List Int} (h:∀i,i<24→w.cell? ⟨b,off+i,none⟩=some (.int .i64 (Globe.nth l i))):b<w.heap.size:=World.block_lt_of_cell? w _ (h 0 (by omega))
theorem RowsAt.keep {w w':World} {B:Nat} {L:List Int} (h:RowsAt w B L) (hc:∀o,w'.cell? ⟨B,o,none⟩=w.cell? ⟨B,o,none⟩) (hf:∀o,w'.frozen? ⟨B,o,none⟩=w.frozen? ⟨B,o,none⟩):RowsAt w' B L:=
  ⟨h.1,fun i hi=>by rw [hc];exact h.cell hi,fun i hi=>by rw [hf];exact h.free hi⟩
theorem RowsAt.other {w:World} {B:Nat} {L:List Int} (h:RowsAt w B L) {p:Addr} (hp:p.block≠B) (v:Value):RowsAt (w.setCell p v) B L:=
  h.keep (fun o=>World.cell?_setCell_other w _ _ _ (fun e=>hp (by rw [e]))) (fun o=>by simp [go_sem])
def BoxAt (w:World) (b o:Nat) (v:Value):Prop:=w.cell? ⟨b,o,none⟩=some v∧w.frozen? ⟨b,o,none⟩=false
theorem BoxAt.ext {w w':World} {b o:Nat} {v:Value} (hE:Ext w w') (h:BoxAt w b o v):BoxAt w' b o v:=⟨hE.cell h.1,hE.free h.1 h.2⟩
theorem BoxAt.lt {w:World} {b o:Nat} {v:Value} (h:BoxAt w b o v):b<w.heap.size:=World.block_lt_of_cell? w _ h.1
theorem BoxAt.other {w:World} {b o:Nat} {v:Value} (h:BoxAt w b o v) {p:Addr} (hp:p.block≠b) (u:Value):BoxAt (w.setCell p u) b o v:=
  ⟨by rw [World.cell?_setCell_other w _ _ _ (fun e=>hp (by rw [e]))];exact h.1,by simp [go_sem,h.2]⟩
theorem BoxAt.drew {w:World} {b o:Nat} {v:Value} (h:BoxAt w b o v):BoxAt w.drew b o v:=⟨h.1,h.2⟩
theorem BoxAt.drewN {w:World} {b o:Nat} {v:Value} (h:BoxAt w b o v) (n:Nat):BoxAt (w.drewN n) b o v:=⟨h.1,h.2⟩
theorem RowsAt.drewN {w:World} {B:Nat} {L:List Int} (h:RowsAt w B L) (n:Nat):RowsAt (w.drewN n) B L:=⟨h.1,fun _ hi=>h.cell hi,fun _ hi=>h.free hi⟩
theorem RowsAt.drew {w:World} {B:Nat} {L:List Int} (h:RowsAt w B L):RowsAt w.drew B L:=⟨h.1,fun _ hi=>h.cell hi,fun _ hi=>h.free hi⟩
def AA (w:World) (a:Option Addr) (l:List Int) (n:Nat) (v:Bool):Prop:=IntsAt w a l∧l.length=n∧n≤140737488355328∧Globe.validL l=v
def VA (w:World) (b o:Nat) (l:List Int):Prop:=(∀i,i<24→w.cell? ⟨b,o+i,none⟩=some (.int .i64 (Globe.nth l i)))∧Globe.validL l=true
theorem AA.ext {w w':World} {a:Option Addr} {l:List Int} {n:Nat} {v:Bool} (h:AA w a l n v) (hE:Ext w w'):AA w' a l n v:=⟨h.1.ext hE,h.2⟩
theorem VA.ext {w w':World} {b o:Nat} {l:List Int} (h:VA w b o l) (hE:Ext w w'):VA w' b o l:=⟨fun i hi=>hE.cell (h.1 i hi),h.2⟩
theorem VA.lt {w:World} {b o:Nat} {l:List Int} (h:VA w b o l):b<w.heap.size:=IntsAt.lt h.1
theorem VA.len {w:World} {b o:Nat} {l:List Int} (h:VA w b o l):l.length=24:=Globe.len_of_valid h.2
theorem VA.cell {w:World} {b o:Nat} {l:List Int} (h:VA w b o l) {y:Nat} (hy:y<24):w.cell? ⟨b,o+y,none⟩=some (.int .i64 (Globe.rowN l y:Nat)):=by rw [←Globe.rowN_cast h.2];exact h.1 y hy
theorem VA.aa {w:World} {b o:Nat} {l:List Int} (h:VA w b o l):AA w (some ⟨b,o,none⟩) l 24 true:=
  ⟨.inr ⟨b,o,rfl,fun i hi=>h.1 i (by rw [←h.len];exact hi)⟩,h.len,by omega,h.2⟩
theorem AA.va {w:World} {a:Option Addr} {l:List Int} {n:Nat} (h:AA w a l n true):∃b o,a=some ⟨b,o,none⟩∧n=24∧VA w b o l:=by
  have hl:=Globe.len_of_valid h.2.2.2
  obtain⟨b,o,rfl,hr⟩:=h.1.rows hl
  exact⟨b,o,rfl,by rw [←h.2.1];exact hl,hr,h.2.2.2⟩
theorem RowsAt.va {w:World} {B:Nat} {L:List Int} (h:RowsAt w B L) (hv:Globe.validL L=true):VA w B 0 L:=⟨fun i hi=>by rw [Nat.zero_add];exact h.cell hi,hv⟩
def RetV (w:World) (L:List Int) (e:Ending) (w':World):Prop:=
  ∃B k:Nat,e= .returned (.tuple #[.agg #[.slice (some ⟨B,0,none⟩) 24 k],.int .i64 0])∧w.heap.size≤B∧RowsAt w' B L∧VA w' B 0 L∧Ext w w'
theorem RetAE.v {w:World} {L:List Int} {e:Ending} {w':World} (h:RetAE w L e w') (hv:Globe.validL L=true):RetV w L e w':=by
  obtain⟨B,rfl,hB,hr,hE⟩:=h
  exact⟨B,24,rfl,hB,hr,hr.va hv,hE⟩
theorem RetV.any {w:World} {L:List Int} {c:Int} {e:Ending} {w':World} (h:RetV w L e w'):RetAny w true L c e w':=by
  obtain⟨B,k,rfl,hB,hr,hv,hE⟩:=h
  exact⟨some ⟨B,0,none⟩,k,by show _=Ending.returned (.tuple #[.agg #[.slice _ L.length _],_]);rw [hr.len];rfl,.inr ⟨B,0,rfl,hr.ints⟩,hE,fun ad e=>by cases e;exact⟨hB,hr.lt⟩⟩
end Go.Proofs.YtpfajhcdfgpgmaaGreatDoor

namespace Go.Proofs.YtpfajhcdfgpgmaaGreatDoor
open Go.RowKit
def look:List (Nat × Value)→(Nat→Value)→Nat→Value
  | [],f,k=>f k
  | (d,v) :: ws,f,k=>if k=d then v else look ws f k
theorem look_cons (d:Nat) (v:Value) (ws:List (Nat × Value)) (f:Nat→Value) (k:Nat):look ((d,v) :: ws) f k=if k=d then v else look ws f k:=rfl
def base (L:List Value) (t:Nat):Value:=L.toArray.getD t undef
def evalW (L:List Value) (ws:List (Nat × Value)):Operand→Value
  | .tmp t=>look ws (base L) t
  | o=>Act.eval ⟨#[],[]⟩ o
def setAll (L:List Value):List (Nat × Value)→List Value
  | []=>L
  | (d,v) :: ws=>(setAll L ws).set d v
theorem setAll_len (L:List Value):∀ws,(setAll L ws).length=L.length
  | []=>rfl
  | (d,v) :: ws=>by rw [setAll,List.length_set,setAll_len L ws]
theorem setAll_get (L:List Value):∀ws:List (Nat × Value),(∀p ∈ ws,p.1<L.length)→∀t,(setAll L ws).toArray.getD t undef=look ws (base L) t
  | [],_,t=>rfl
  | (d,v) :: ws,h,t=>by
    have ih:=setAll_get L ws (fun p hp=>h p (List.mem_cons_of_mem _ hp)) t
    have hd:d<(setAll L ws).length:=by rw [setAll_len];exact h (d,v) (by simp)
    rw [look_cons,←ih,setAll]
    by_cases e:t=d
    · subst e;simp [hd]
    · have e':d≠t:=fun c=>e c.symm
      simp [e,List.getElem?_set_ne e']
def lset (m:Nat):List Nat→Array Bool
  | []=>Array.replicate m false
  | i :: r=>(lset m r).setIfInBounds i true
theorem lset_size (m:Nat):∀l,(lset m l).size=m
  | []=>by simp [lset]
  | i :: r=>by simp [lset,lset_size m r]
theorem lset_get (m:Nat) (b:Bool):∀(l:List Nat) (j:Nat),(lset m l).getD j b=if j<m then l.contains j else b
  | [],j=>by by_cases h:j<m <;> simp [lset,h]
  | i :: r,j=>by
    have ih:=lset_get m b r j
    have hs:=lset_size m r
    by_cases h:j<m
    · rw [if_pos h] at ih ⊢
      by_cases e:i=j
      · subst e;simp [lset,hs,h]
      · have e2:j≠i:=fun c=>e c.symm
        simp only [lset,Array.getD_eq_getD_getElem?,Array.getElem?_setIfInBounds_ne e,List.contains_cons] at ih ⊢
        rw [ih]
        have:(j == i)=false:=by simp [e2]
        rw [this,Bool.false_or]
    · rw [if_neg h] at ih ⊢
      have h1:m≤j:=by omega
      simp [lset,hs,h1]
abbrev Row:=Option Nat × List Nat × List Nat
def waits (o:Oper):List Nat:=(o.after.toList.filter (Region.binds .any)).map (·.on)
def rowOf (ops:Array Oper) (o:Oper):Row:=(o.dst,o.looksAt ops,waits o)
def tableR (ops:Array Oper):List Row:=ops.toList.map (rowOf ops)
def ordered (x y:Row × Nat):Bool:=x.1.2.2.contains y.2 || y.1.2.2.contains x.2
def fits (x y:Row × Nat):Bool:=
  (match x.1.1 with
   | some d=>(!(y.1.2.1.contains d) || ordered x y) && (!(y.1.1 == some d) || ordered x y)
   | none=>true) &&
  (match y.1.1 with
   | some d=> !(x.1.2.1.contains d) || ordered x y
   | none=>true)
def fitsAll (x:Row × Nat):List (Row × Nat)→Bool
  | []=>true
  | y :: r=>fits x y && fitsAll x r
def goodL:List (Row × Nat)→Bool
  | []=>true
  | x :: r=>fitsAll x r && goodL r
def numbered:List Row→Nat→List (Row × Nat)
  | [],_=>[]
  | x :: r,k=>(x,k) :: numbered r (k+1)
def inRB (n:Nat):List Row→Bool
  | []=>true
  | x :: r=>(match x.1 with | some d=>Nat.blt d n | none=>true) && inRB n r
def inA (m:Nat):List Row→Bool
  | []=>true
  | x :: r=>x.2.2.all (fun k=>Nat.blt k m) && inA m r
def goodT (n m:Nat) (T:List Row):Bool:=goodL (numbered T 0) && (inRB n T && inA m T)
theorem fits_comm (x y:Row × Nat) (h:fits x y=true):fits y x=true:=by
  obtain⟨⟨dx,lx,ax⟩,i⟩:=x
  obtain⟨⟨dy,ly,ay⟩,j⟩:=y
  have e:∀a b:Bool,(a || b)=(b || a):=fun a b=>Bool.or_comm a b
  cases dx <;> cases dy <;> simp only [fits,ordered,Bool.and_true,Bool.true_and] at h ⊢
  · rw [e (ay.contains i)];simpa using h
  · rw [e (ay.contains i)];simpa using h
  · rename_i d d'
    rw [e (ay.contains i)]
    simp only [Bool.and_eq_true] at h ⊢
    obtain⟨⟨h1,h2⟩,h3⟩:=h
    refine⟨⟨h3,?_⟩,h1⟩
    by_cases c:d=d'
    · subst c;simpa using h2
    · have:(some d == some d')=false:=by simp [c]
      rw [this];rfl
theorem fitsAll_mem {x y:Row × Nat}:∀ {l},fitsAll x l=true→y ∈ l→fits x y=true
  | z :: r,h,hy=>by
    simp only [fitsAll,Bool.and_eq_true] at h
    rcases List.mem_cons.1 hy with rfl | hy
    · exact h.1
    · exact fitsAll_mem h.2 hy
theorem goodL_mem {x y:Row × Nat}:∀ {l},goodL l=true→x ∈ l→y ∈ l→x≠y→fits x y=true
  | z :: r,h,hx,hy,hne=>by
    simp only [goodL,Bool.and_eq_true] at h
    rcases List.mem_cons.1 hx with e1 | h1
    · rcases List.mem_cons.1 hy with e2 | h2
      · exact absurd (e1.trans e2.symm) hne
      · rw [e1];exact fitsAll_mem h.1 h2
    · rcases List.mem_cons.1 hy with e2 | h2
      · rw [e2];exact fits_comm _ _ (fitsAll_mem h.1 h1)
      · exact goodL_mem h.2 h1 h2 hne
theorem mem_numbered:∀ {T:List Row} {k i:Nat} {x:Row},T[i]? =some x→(x,k+i) ∈ numbered T k
  | y :: r,k,0,x,h=>by simp at h;subst h;simp [numbered]
  | y :: r,k,i+1,x,h=>by
    simp at h
    have:=mem_numbered (k:=k+1) h
    rw [numbered,show k+(i+1)=k+1+i by omega]
    exact List.mem_cons_of_mem _ this
theorem inRB_get {n:Nat}:∀ {T:List Row} {i:Nat} {x:Row} {d:Nat},inRB n T=true→T[i]? =some x→x.1=some d→d<n
  | y :: r,0,x,d,h,hx,hd=>by
    simp at hx;subst hx
    simp only [inRB,Bool.and_eq_true,hd] at h
    exact Nat.blt_eq.mp h.1
  | y :: r,i+1,x,d,h,hx,hd=>by
    simp only [inRB,Bool.and_eq_true] at h
    exact inRB_get h.2 (by simpa using hx) hd
theorem inA_get {m:Nat}:∀ {T:List Row} {i:Nat} {x:Row},inA m T=true→T[i]? =some x→∀k ∈ x.2.2,k<m
  | y :: r,0,x,h,hx=>by
    simp at hx;subst hx
    simp only [inA,Bool.and_eq_true] at h
    exact fun k hk=>Nat.blt_eq.mp (List.all_eq_true.1 h.1 k hk)
  | y :: r,i+1,x,h,hx=>by
    simp only [inA,Bool.and_eq_true] at h
    exact inA_get h.2 (by simpa using hx)
section
variable {P:Program} {ops:Array Oper} {Q:Exit→Act→World→Prop} {S:World→Prop} {T:List Row}
theorem table_get {i:Nat} {oi:Oper} (ht:tableR ops=T) (hi:ops[i]? =some oi):T[i]? =some (rowOf ops oi):=by
  rw [←ht];simp [tableR,hi]
theorem table_len (ht:tableR ops=T):T.length=ops.size:=by rw [←ht];simp [tableR]
def readyT (T:List Row) (done:List Nat) (i:Nat):Bool:= !done.contains i && match T.drop i with | (_,_,a) :: _=>a.all (fun k=>done.contains k) | []=>false
theorem lt_of_get {α:Type} {l:Array α} {i:Nat} {x:α} (h:l[i]? =some x):i<l.size:=by
  rcases Nat.lt_or_ge i l.size with h1 | h1
  · exact h1
  · rw [Array.getElem?_eq_none h1] at h;cases h
theorem drop_get {α:Type} {l:List α} {i:Nat} {x:α} (h:l[i]? =some x):∃r,l.drop i=x :: r:=by
  have hl:i<l.length:=by
    rcases Nat.lt_or_ge i l.length with h1 | h1
    · exact h1
    · rw [List.getElem?_eq_none h1] at h;cases h
  rw [List.getElem?_eq_getElem hl] at h
  exact⟨_,by rw [List.drop_eq_getElem_cons hl];simp at h;rw [h]⟩
theorem mem_waits {o:Oper} {e:Edge} (he:e ∈ o.after) (hb:Region.binds .any e=true):e.on ∈ waits o:=by
  unfold waits
  rw [List.mem_map]
  exact⟨e,by rw [List.mem_filter];exact⟨by simpa using he,hb⟩,rfl⟩
theorem waits_mem {o:Oper} {k:Nat} (h:k ∈ waits o):∃e ∈ o.after,Region.binds .any e=true∧e.on=k:=by
  unfold waits at h
  rw [List.mem_map] at h
  obtain⟨e,h1,h2⟩:=h
  rw [List.mem_filter] at h1
  exact⟨e,by simpa using h1.1,h1.2,h2⟩
theorem ready_iff {done:List Nat} {i:Nat} {oi:Oper} (hi:ops[i]? =some oi) (hin:∀k ∈ waits oi,k<ops.size):
    i ∈ Region.ready .any ops (lset ops.size done)↔done.contains i=false∧∀k ∈ waits oi,done.contains k=true:=by
  have hlt:=lt_of_get hi
  rw [mem_ready,lset_get,if_pos hlt]
  constructor
  · rintro⟨h1,o,ho,h2⟩
    rw [hi] at ho;cases ho
    refine⟨h1,fun k hk=>?_⟩
    obtain⟨e,he,hb,rfl⟩:=waits_mem hk
    have:=h2 e he hb
    rwa [lset_get,if_pos (hin _ hk)] at this
  · rintro⟨h1,h2⟩
    refine⟨h1,oi,hi,fun e he hb=>?_⟩
    rw [lset_get,if_pos (hin _ (mem_waits he hb))]
    exact h2 _ (mem_waits he hb)
theorem readyT_mem {n:Nat} {done:List Nat} {i:Nat} {oi:Oper} (ht:tableR ops=T) (hg:goodT n ops.size T=true) (hi:ops[i]? =some oi) (h:readyT T done i=true):
    i ∈ Region.ready .any ops (lset ops.size done):=by
  have hT:=table_get ht hi
  simp only [goodT,Bool.and_eq_true] at hg
  rw [ready_iff hi (inA_get hg.2.2 hT)]
  obtain⟨r,hr⟩:=drop_get hT
  unfold readyT at h
  rw [hr] at h
  simp only [rowOf,Bool.and_eq_true] at h
  exact⟨by simpa using h.1,List.all_eq_true.1 h.2⟩
theorem apart_of_good {n:Nat} {done:List Nat} {i:Nat} {oi:Oper} (ht:tableR ops=T) (hg:goodT n ops.size T=true) (hi:ops[i]? =some oi) (hr:readyT T done i=true)
    (j:Nat) (oj:Oper) (hj:ops[j]? =some oj) (hne:j≠i) (hun:(lset ops.size done).getD j true=false) (hno:∀e ∈ oj.after,Region.binds .any e=true→e.on≠i):oi.apart ops oj=true:=by
  have hmi:=readyT_mem ht hg hi hr
  have hTi:=table_get ht hi
  have hTj:=table_get ht hj
  simp only [goodT,Bool.and_eq_true] at hg
  rw [ready_iff hi (inA_get hg.2.2 hTi)] at hmi
  rw [lset_get,if_pos (lt_of_get hj)] at hun
  have hf:=goodL_mem hg.1 (mem_numbered (k:=0) hTi) (mem_numbered (k:=0) hTj) (by
    intro c
    have:=congrArg Prod.snd c
    simp at this
    exact hne this.symm)
  have hord:ordered (rowOf ops oi,0+i) (rowOf ops oj,0+j)=false:=by
    simp only [ordered,rowOf,Nat.zero_add,Bool.or_eq_false_iff]
    constructor
    · rcases h:(waits oi).contains j with _ | _
      · rfl
      · have:=hmi.2 j (by simpa using h)
        rw [hun] at this;cases this
    · rcases h:(waits oj).contains i with _ | _
      · rfl
      · obtain⟨e,he,hb,hk⟩:=waits_mem (o:=oj) (k:=i) (by simpa using h)
        exact absurd hk (hno e he hb)
  unfold fits at hf
  rw [hord] at hf
  simp only [rowOf,Bool.or_false] at hf
  unfold Oper.apart
  cases h1:oi.dst <;> cases h2:oj.dst <;> rw [h1,h2] at hf <;> first | rfl | simpa [bne] using hf
def W (P:Program) (ops:Array Oper) (Q:Exit→Act→World→Prop) (S:World→Prop) (L:List Value) (ds:List Deferred) (fuel:Nat) (done:List Nat) (ws:List (Nat × Value)) (w:World):Prop:=
  (∀p ∈ ws,p.1<L.length)→wpAnyH P .any ops Q S fuel (lset ops.size done) ⟨(setAll L ws).toArray,ds⟩ w
theorem eval_W {L:List Value} {ws:List (Nat × Value)} (h:∀p ∈ ws,p.1<L.length) (ds:List Deferred):Act.eval ⟨(setAll L ws).toArray,ds⟩=evalW L ws:=by
  funext o
  cases o with
  | tmp t=>exact setAll_get L ws h t
  | const v=>rfl
  | global g=>rfl
  | func f=>rfl
def putW:Option Nat→Value→List (Nat × Value)→List (Nat × Value)
  | some d,v,ws=>(d,v) :: ws
  | none,_,ws=>ws
theorem put_W (L:List Value) (ws:List (Nat × Value)) (ds:List Deferred) (d:Option Nat) (v:Value):Act.put ⟨(setAll L ws).toArray,ds⟩ d v=⟨(setAll L (putW d v ws)).toArray,ds⟩:=by
  cases d with
  | none=>rfl
  | some d=>simp [Act.put,putW,setAll]
theorem putW_lt {L:List Value} {ws:List (Nat × Value)} {d:Option Nat} {v:Value} (h:∀p ∈ ws,p.1<L.length) (hd:∀k,d=some k→k<L.length):∀p ∈ putW d v ws,p.1<L.length:=by
  cases d with
  | none=>exact h
  | some d=>
    intro p hp
    rcases List.mem_cons.1 hp with rfl | hp
    · exact hd _ rfl
    · exact h p hp
def wantedW (T:List Row) (L:List Value) (ws:List (Nat × Value)):Option (Nat × Bool)→Bool
  | none=>true
  | some (g,want)=>match T.drop g with
    | (some d,_,_) :: _=>(match look ws (base L) d with | .bool b=>b == want | _=>false)
    | _=>false
theorem wanted_W {n:Nat} {L:List Value} {ws:List (Nat × Value)} {o:Oper} {b:Bool} (ds:List Deferred) (ht:tableR ops=T) (hg:goodT L.length n T=true) (h:∀p ∈ ws,p.1<L.length) (hw:wantedW T L ws o.guard=b):
    Region.wanted o (yielded ops (⟨(setAll L ws).toArray,ds⟩:Act).tmps)=b:=by
  subst hw
  unfold Region.wanted wantedW
  cases hgd:o.guard with
  | none=>rfl
  | some p=>
    obtain⟨g,want⟩:=p
    simp only [yielded]
    cases hj:ops[g]? with
    | none=>
      have:T.drop g= []:=by
        rw [List.drop_eq_nil_iff,table_len ht]
        rcases Nat.lt_or_ge g ops.size with h1 | h1
        · rw [Array.getElem?_eq_getElem h1] at hj;cases hj
        · exact h1
      rw [this];rfl
    | some og=>
      have hT:=table_get ht hj
      obtain⟨r,hr⟩:=drop_get hT
      rw [hr]
      simp only [rowOf,Option.bind_some]
      cases hd:og.dst with
      | none=>rfl
      | some d=>
        simp only [goodT,Bool.and_eq_true] at hg
        have hlt:d<L.length:=inRB_get hg.2.1 hT hd
        have hget:=setAll_get L ws h d
        have hlt2:d<(setAll L ws).toArray.size:=by simp [setAll_len,hlt]
        simp only [Array.getD,hlt2,dif_pos] at hget
        simp only [Option.bind_some]
        rw [Array.getElem?_eq_getElem hlt2]
        have e:(setAll L ws).toArray[d]=look ws (base L) d:=hget
        rw [e]
        cases look ws (base L) d <;> rfl
section
variable {L:List Value} {ds:List Deferred} {fuel:Nat} {done:List Nat} {ws:List (Nat × Value)} {w:World}
structure Reg (P:Program) (ops0 ops:Array Oper) (Q:Exit→Act→World→Prop) (L:List Value) (T:List Row):Prop where
  ops_eq:ops=ops0
  tab:tableR ops=T
  good:goodT L.length ops.size T=true
  nosel:Region.noSelect ops=true
  calm:∀c d v a w,Q (.panic c) (Act.put a d v) w→Q (.panic c) a w
variable {ops0:Array Oper}
theorem dst_lt (hR:Reg P ops0 ops Q L T) {i:Nat} {oi:Oper} (hi:ops[i]? =some oi):∀k,oi.dst=some k→k<L.length:=fun k hk=>by
  have:=hR.good
  simp only [goodT,Bool.and_eq_true] at this
  exact inRB_get this.2.1 (table_get hR.tab hi) hk
theorem op_at (hR:Reg P ops0 ops Q L T) {i:Nat} {oi:Oper} {r:List Oper} (hi:ops0.toList.drop i=oi :: r):ops[i]? =some oi:=by
  rw [hR.ops_eq,←Array.getElem?_toList,←Nat.add_zero i,←List.getElem?_drop,hi];rfl
theorem wg_take (i:Nat) {oi:Oper} {r:List Oper} {v:Value} (hR:Reg P ops0 ops Q L T) (hi:ops0.toList.drop i=oi :: r) (hr:readyT T done i=true)
    (hw:wantedW T L ws oi.guard=true) (hy:∀w,S w→(execOp (evalW L ws) oi).run P w= .ok (.value v) w) (hS:S w)
    (h:W P ops Q S L ds fuel (i :: done) (putW oi.dst v ws) w):W P ops Q S L ds (fuel+1) done ws w:=fun hb=>by
  have ho:=op_at hR hi
  refine wpAnyH_first (v:=v) ho (Region.noSelect_spec hR.nosel) (fun c a w=>hR.calm c _ _ a w) fuel _ _ w (apart_of_good hR.tab hR.good ho hr) (readyT_mem hR.tab hR.good ho hr) ?_ hS ?_
  · exact .inl ⟨wanted_W ds hR.tab hR.good hb hw,fun w hw=>by rw [eval_W hb];exact hy w hw⟩
  · rw [put_W];exact h (putW_lt hb (dst_lt hR ho))
theorem wg_skip (i:Nat) {oi:Oper} {r:List Oper} (hR:Reg P ops0 ops Q L T) (hi:ops0.toList.drop i=oi :: r) (hr:readyT T done i=true)
    (hw:wantedW T L ws oi.guard=false) (hS:S w)
    (h:W P ops Q S L ds fuel (i :: done) (putW oi.dst undef ws) w):W P ops Q S L ds (fuel+1) done ws w:=fun hb=>by
  have ho:=op_at hR hi
  refine wpAnyH_first (v:=undef) ho (Region.noSelect_spec hR.nosel) (fun c a w=>hR.calm c _ _ a w) fuel _ _ w (apart_of_good hR.tab hR.good ho hr) (readyT_mem hR.tab hR.good ho hr) ?_ hS ?_
  · exact .inr ⟨wanted_W ds hR.tab hR.good hb hw,rfl⟩
  · rw [put_W];exact h (putW_lt hb (dst_lt hR ho))
def StepW (P:Program) (S:World→Prop) (L:List Value) (ws:List (Nat × Value)) (oi:Oper) (w:World) (N:Value→World→Prop):Prop:=
  (∃v w',(execOp (evalW L ws) oi).run P w= .ok (.value v) w'∧S w'∧N v w')∨(∃w',(execOp (evalW L ws) oi).run P w= .ok .skip w'∧S w'∧N undef w')∨
  (∃f args,(execOp (evalW L ws) oi).run P w= .ok (.enter f args) w∧Calls P f args w fun e w'=>∃v,e= .returned v∧S w'∧N v w')
theorem StepW.wp {oi:Oper} {N:Value→World→Prop} {a:Act} {K:Act→World→Prop} (h:StepW P S L ws oi w N) (he:a.eval=evalW L ws) (hK:∀v w',S w'→N v w'→K (a.put oi.dst v) w'):Oper.wp P oi a w K Q:=by
  unfold Oper.wp
  rw [he]
  rcases h with ⟨v,w',h1,h2,h3⟩ | ⟨w',h1,h2,h3⟩ | ⟨f,args,h1,h2⟩
  · rw [h1,Oper.upon_value];exact hK v w' h2 h3
  · rw [h1,Oper.upon_skip];exact hK undef w' h2 h3
  · rw [h1,Oper.upon_enter]
    exact h2.mono fun e w' ⟨v,he,hs,hn⟩=>by subst he;exact hK v w' hs hn
def upT (done:List Nat):List (Row × Nat)→List Nat
  | []=>[]
  | (x,k) :: r=>if !done.contains k && x.2.2.all (fun j=>done.contains j) then k :: upT done r else upT done r
theorem mem_upT {done:List Nat} {x:Row} {k:Nat} (h1:done.contains k=false) (h2:∀j ∈ x.2.2,done.contains j=true):∀ {l},(x,k) ∈ l→k ∈ upT done l
  | (y,j) :: r,h=>by
    rcases List.mem_cons.1 h with e | h
    · cases e
      unfold upT
      rw [if_pos (by simp only [h1,Bool.not_false,Bool.true_and];exact List.all_eq_true.2 h2)]
      exact List.mem_cons_self
    · have ih:=mem_upT h1 h2 h
      unfold upT
      split
      · exact List.mem_cons_of_mem _ ih
      · exact ih
theorem ready_up (hR:Reg P ops0 ops Q L T) {j:Nat} (h:j ∈ Region.ready .any ops (lset ops.size done)):j ∈ upT done (numbered T 0):=by
  obtain⟨_,oj,hj,_⟩:=mem_ready.1 h
  have hT:=table_get hR.tab hj
  have hg:=hR.good
  simp only [goodT,Bool.and_eq_true] at hg
  rw [ready_iff hj (inA_get hg.2.2 hT)] at h
  have hm:=mem_numbered (k:=0) hT
  rw [Nat.zero_add] at hm
  exact mem_upT (x:=rowOf ops oj) h.1 h.2 hm
theorem wg_step (i:Nat) {oi:Oper} {r:List Oper} (hR:Reg P ops0 ops Q L T) (hi:ops0.toList.drop i=oi :: r) (hr:upT done (numbered T 0)= [i])
    (hw:wantedW T L ws oi.guard=true)
    (h:StepW P S L ws oi w fun v w'=>S w'→W P ops Q S L ds fuel (i :: done) (putW oi.dst v ws) w') (hr2:readyT T done i=true):W P ops Q S L ds (fuel+1) done ws w:=fun hb=>by
  have ho:=op_at hR hi
  refine⟨fun h0=>?_,fun j hj=>?_⟩
  · have:=readyT_mem hR.tab hR.good ho hr2
    rw [h0] at this;cases this
  · have:=ready_up hR hj
    rw [hr] at this
    obtain rfl:=List.mem_singleton.1 this
    refine wpOp_step ho fun K' hK=>?_
    rw [if_pos (wanted_W ds hR.tab hR.good hb hw)]
    exact h.wp (eval_W hb ds) fun v w' hs hn=>hK _ _ ⟨hs,by rw [put_W];exact hn hs (putW_lt hb (dst_lt hR ho))⟩
theorem wg_two (i j:Nat) {oi oj:Oper} {r s:List Oper} (hR:Reg P ops0 ops Q L T) (hi:ops0.toList.drop i=oi :: r) (hj:ops0.toList.drop j=oj :: s) (hr:upT done (numbered T 0)= [i,j])
    (hwi:wantedW T L ws oi.guard=true) (hwj:wantedW T L ws oj.guard=true) (hr2:readyT T done i=true)
    (h1:StepW P S L ws oi w fun v w'=>S w'→W P ops Q S L ds fuel (i :: done) (putW oi.dst v ws) w')
    (h2:StepW P S L ws oj w fun v w'=>S w'→W P ops Q S L ds fuel (j :: done) (putW oj.dst v ws) w'):W P ops Q S L ds (fuel+1) done ws w:=fun hb=>by
  have ho:=op_at hR hi
  have ho2:=op_at hR hj
  refine⟨fun h0=>?_,fun k hk=>?_⟩
  · have:=readyT_mem hR.tab hR.good ho hr2
    rw [h0] at this;cases this
  · have:=ready_up hR hk
    rw [hr] at this
    rcases List.mem_cons.1 this with rfl | this
    · refine wpOp_step ho fun K' hK=>?_
      rw [if_pos (wanted_W ds hR.tab hR.good hb hwi)]
      exact h1.wp (eval_W hb ds) fun v w' hs hn=>hK _ _ ⟨hs,by rw [put_W];exact hn hs (putW_lt hb (dst_lt hR ho))⟩
    · obtain rfl:=List.mem_singleton.1 this
      refine wpOp_step ho2 fun K' hK=>?_
      rw [if_pos (wanted_W ds hR.tab hR.good hb hwj)]
      exact h2.wp (eval_W hb ds) fun v w' hs hn=>hK _ _ ⟨hs,by rw [put_W];exact hn hs (putW_lt hb (dst_lt hR ho2))⟩
theorem wg_three (i j m:Nat) {oi oj om:Oper} {r s q:List Oper} (hR:Reg P ops0 ops Q L T) (hi:ops0.toList.drop i=oi :: r) (hj:ops0.toList.drop j=oj :: s) (hm:ops0.toList.drop m=om :: q) (hr:upT done (numbered T 0)= [i,j,m])
    (hwi:wantedW T L ws oi.guard=true) (hwj:wantedW T L ws oj.guard=true) (hwm:wantedW T L ws om.guard=true) (hr2:readyT T done i=true)
    (h1:StepW P S L ws oi w fun v w'=>S w'→W P ops Q S L ds fuel (i :: done) (putW oi.dst v ws) w')
    (h2:StepW P S L ws oj w fun v w'=>S w'→W P ops Q S L ds fuel (j :: done) (putW oj.dst v ws) w')
    (h3:StepW P S L ws om w fun v w'=>S w'→W P ops Q S L ds fuel (m :: done) (putW om.dst v ws) w'):W P ops Q S L ds (fuel+1) done ws w:=fun hb=>by
  have ho:=op_at hR hi
  have ho2:=op_at hR hj
  have ho3:=op_at hR hm
  refine⟨fun h0=>?_,fun k hk=>?_⟩
  · have:=readyT_mem hR.tab hR.good ho hr2
    rw [h0] at this;cases this
  · have:=ready_up hR hk
    rw [hr] at this
    rcases List.mem_cons.1 this with rfl | this
    · refine wpOp_step ho fun K' hK=>?_
      rw [if_pos (wanted_W ds hR.tab hR.good hb hwi)]
      exact h1.wp (eval_W hb ds) fun v w' hs hn=>hK _ _ ⟨hs,by rw [put_W];exact hn hs (putW_lt hb (dst_lt hR ho))⟩
    · rcases List.mem_cons.1 this with rfl | this
      · refine wpOp_step ho2 fun K' hK=>?_
        rw [if_pos (wanted_W ds hR.tab hR.good hb hwj)]
        exact h2.wp (eval_W hb ds) fun v w' hs hn=>hK _ _ ⟨hs,by rw [put_W];exact hn hs (putW_lt hb (dst_lt hR ho2))⟩
      · obtain rfl:=List.mem_singleton.1 this
        refine wpOp_step ho3 fun K' hK=>?_
        rw [if_pos (wanted_W ds hR.tab hR.good hb hwm)]
        exact h3.wp (eval_W hb ds) fun v w' hs hn=>hK _ _ ⟨hs,by rw [put_W];exact hn hs (putW_lt hb (dst_lt hR ho3))⟩
def lookO:List (Nat × Value)→Nat→Option Value
  | [],_=>none
  | (d,v) :: ws,k=>if k=d then some v else lookO ws k
theorem setAll_get? (L:List Value):∀(ws:List (Nat × Value)) (t:Nat),(setAll L ws)[t]? =if t<L.length then (lookO ws t).or (L[t]?) else none
  | [],t=>by by_cases h:t<L.length <;> simp [setAll,lookO,h]
  | (d,v) :: ws,t=>by
    have ih:=setAll_get? L ws t
    rw [setAll,List.getElem?_set,lookO,setAll_len]
    by_cases e:t=d
    · subst e
      by_cases h:t<L.length <;> simp [h]
    · have e':d≠t:=fun c=>e c.symm
      rw [if_neg e',ih,if_neg e]
def Only (O:Nat) (w X:World):Prop:=∃j v,X=w.setCell ⟨O,j,none⟩ v
theorem Only.ext {O:Nat} {a w X:World} (h:Only O w X) (hE:Ext a w) (hO:a.heap.size≤O):Ext a X:=by
  obtain⟨j,v,rfl⟩:=h;exact hE.setCell hO v
theorem Only.size {O:Nat} {w X:World} (h:Only O w X):X.heap.size=w.heap.size:=by
  obtain⟨j,v,rfl⟩:=h;simp
theorem Only.va {O:Nat} {w X:World} (h:Only O w X) {b o:Nat} {l:List Int} (hb:O≠b) (hv:VA w b o l):VA X b o l:=by
  obtain⟨j,v,rfl⟩:=h
  exact⟨fun i hi=>by rw [World.cell?_setCell_other w _ _ _ (fun e=>hb (congrArg Addr.block e))];exact hv.1 i hi,hv.2⟩
theorem Only.box {O:Nat} {w X:World} (h:Only O w X) {b o:Nat} {u:Value} (hb:O≠b) (hv:BoxAt w b o u):BoxAt X b o u:=by
  obtain⟨j,v,rfl⟩:=h;exact hv.other (p:=⟨O,j,none⟩) hb v
theorem Only.rows {O:Nat} {w X:World} (h:Only O w X) {b:Nat} {l:List Int} (hb:O≠b) (hv:RowsAt w b l):RowsAt X b l:=by
  obtain⟨j,v,rfl⟩:=h;exact hv.other (p:=⟨O,j,none⟩) hb v
theorem Only.cell {O:Nat} {w X:World} (h:Only O w X) {p:Addr} {u:Value} (hb:O≠p.block) (hv:w.cell? p=some u):X.cell? p=some u:=by
  obtain⟨j,v,rfl⟩:=h
  rw [World.cell?_setCell_other w _ _ _ (fun e=>hb (congrArg Addr.block e))];exact hv
end
end
end Go.Proofs.YtpfajhcdfgpgmaaGreatDoor

namespace Go.Proofs.YtpfajhcdfgpgmaaGreatDoor
open Go.RowKit
section
variable {P:Program} {n:Nat} {L:List Value} {ws:List (Nat × Value)} {w:World} {Q:Exit→Act→World→Prop}
def Bd (n:Nat) (L:List Value) (ws:List (Nat × Value)):Prop:=L.length=n∧∀p ∈ ws,p.1<n
theorem Bd.lt (h:Bd n L ws):∀p ∈ ws,p.1<L.length:=fun p hp=>by rw [h.1];exact h.2 p hp
theorem Bd.put (h:Bd n L ws) {d:Nat} {v:Value} (hd:Nat.blt d n=true):Bd n L ((d,v) :: ws):=
  ⟨h.1,fun p hp=>by rcases List.mem_cons.1 hp with rfl | hp;exact Nat.blt_eq.mp hd;exact h.2 p hp⟩
structure CW (P:Program) (c:Code) (Q:Exit→Act→World→Prop) (n:Nat) (L:List Value) (ws:List (Nat × Value)) (w:World):Prop where
  out:Bd n L ws→c.wp P Q ⟨(setAll L ws).toArray,[]⟩ w
structure QW (Q:Exit→Act→World→Prop) (e:Exit) (n:Nat) (L:List Value) (ws:List (Nat × Value)) (w:World):Prop where
  out:Bd n L ws→Q e ⟨(setAll L ws).toArray,[]⟩ w
structure PL (P:Program) (ops rest:List Oper) (Q:Exit→Act→World→Prop) (n:Nat) (L:List Value) (ws:List (Nat × Value)) (w:World):Prop where
  out:Bd n L ws→wpList P ops.toArray Q rest ⟨(setAll L ws).toArray,[]⟩ w
structure WD (P:Program) (ops:Array Oper) (Q:Exit→Act→World→Prop) (S:World→Prop) (L:List Value) (fuel:Nat) (done:List Nat) (ws:List (Nat × Value)) (w:World):Prop where
  out:W P ops Q S L [] fuel done ws w
theorem calls_cw {f:FuncId} {fn:Func} {c:Code} {av:List Value} {R:Ending→World→Prop} (n:Nat) (ws:List (Nat × Value)) (hf:P.funcs[f]? =some fn) (hb:fn.body=some c) (hn:fn.ntmps=n)
    (he:av ++ List.replicate (n - av.length) undef=setAll (List.replicate n undef) ws) (hl:ws.all (fun p=>Nat.blt p.1 n)=true)
    (h:∀L,CW P c (bodyPost P fn R) n L ws w):Calls P f av.toArray w R:=by
  refine calls_of_wp hf hb ?_
  have e:(av.toArray ++ Array.replicate (fn.ntmps - av.toArray.size) undef:Array Value)=(setAll (List.replicate n undef) ws).toArray:=by
    rw [hn,←he];simp
  rw [e]
  exact (h _).out ⟨List.length_replicate,fun p hp=>Nat.blt_eq.mp (List.all_eq_true.1 hl p hp)⟩
theorem cw_seq {x y:Code} (h:CW P x (Exit.then (y.wp P Q) Q) n L ws w):CW P (.seq x y) Q n L ws w:=⟨fun b=>wp_seq (h.out b)⟩
theorem cw_block {id:Nat} {c:Code} (h:CW P c (Exit.inBlock id Q) n L ws w):CW P (.block id c) Q n L ws w:=⟨fun b=>wp_block (h.out b)⟩
theorem cw_skip (h:QW Q .normal n L ws w):CW P .skip Q n L ws w:=⟨fun b=>wp_skip (h.out b)⟩
theorem cw_exit {id:Nat} (h:QW Q (.exit id) n L ws w):CW P (.exit id) Q n L ws w:=⟨fun b=>wp_exit (h.out b)⟩
theorem cw_ret (h:QW Q .ret n L ws w):CW P .ret Q n L ws w:=⟨fun b=>wp_ret (h.out b)⟩
theorem cw_plain {id:Nat} {l:List Oper} (h:PL P l l Q n L ws w):CW P (.region id l.toArray false) Q n L ws w:=⟨fun b=>wp_region_lit (h.out b)⟩
theorem cw_t {c:Operand} {x y:Code} (hc:evalW L ws c= .bool true) (h:CW P x Q n L ws w):CW P (.cond c x y) Q n L ws w:=⟨fun b=>wp_cond_true (by rw [eval_W b.lt];exact hc) (h.out b)⟩
theorem cw_f {c:Operand} {x y:Code} (hc:evalW L ws c= .bool false) (h:CW P y Q n L ws w):CW P (.cond c x y) Q n L ws w:=⟨fun b=>wp_cond_false (by rw [eval_W b.lt];exact hc) (h.out b)⟩
theorem qw_then {y:Code} (h:CW P y Q n L ws w):QW (Exit.then (y.wp P Q) Q) .normal n L ws w:=⟨h.out⟩
theorem qw_then_ret {K:Act→World→Prop} (h:QW Q .ret n L ws w):QW (Exit.then K Q) .ret n L ws w:=⟨h.out⟩
theorem qw_then_exit {K:Act→World→Prop} {id:Nat} (h:QW Q (.exit id) n L ws w):QW (Exit.then K Q) (.exit id) n L ws w:=⟨h.out⟩
theorem qw_block {id:Nat} (h:QW Q .normal n L ws w):QW (Exit.inBlock id Q) .normal n L ws w:=⟨h.out⟩
theorem qw_block_ret {id:Nat} (h:QW Q .ret n L ws w):QW (Exit.inBlock id Q) .ret n L ws w:=⟨h.out⟩
theorem qw_block_out {id:Nat} (h:QW Q .normal n L ws w):QW (Exit.inBlock id Q) (.exit id) n L ws w:=⟨fun b=>by
  show (if id=id then _ else _)
  rw [if_pos rfl];exact h.out b⟩
def ResV (P:Program) (ev:Operand→Value) (w:World):List ResultVar→List Value→Prop
  | [],[]=>True
  | .tmp t :: rs,v :: vs=>ev (.tmp t)=v∧ResV P ev w rs vs
  | .cell a t :: rs,v :: vs=>(∃ad,ev (.tmp a)= .pointer (some ad)∧(loadVar t ad).run P w= .ok v w)∧ResV P ev w rs vs
  | _,_=>False
def resOf:List Value→Value
  | [v]=>v
  | vs=> .tuple vs.toArray
theorem res_map {ev:Operand→Value} {g:ResultVar→Sem Value} (h1:∀t,g (.tmp t)=pure (ev (.tmp t))) (h2:∀b t,g (.cell b t)=do loadVar t (←asAddr (ev (.tmp b)))):
    ∀ {rs:List ResultVar} {vs:List Value},ResV P ev w rs vs→(rs.mapM g).run P w= .ok vs w
  | [],[],_=>by simp [go_sem]
  | .tmp t :: rs,v :: vs,h=>by
    have ih:=res_map h1 h2 h.2
    rw [List.mapM_cons,h1,h.1]
    simp [ih,Result.andThen]
  | .cell b t :: rs,v :: vs,h=>by
    have ih:=res_map h1 h2 h.2
    obtain⟨ad,e1,e2⟩:=h.1
    rw [List.mapM_cons,h2,e1]
    simp [ih,asAddr,e2,Result.andThen]
theorem results_g (fn:Func) (tmps:Array Value):∃g:ResultVar→Sem Value,(∀t,g (.tmp t)=pure (tmps.getD t undef))∧(∀b t,g (.cell b t)=do loadVar t (←asAddr (tmps.getD b undef)))∧
    results fn tmps=(do let vs ←fn.results.mapM g;pure (if h:vs.size=1 then vs[0] else .tuple vs)):=⟨_,fun _=>rfl,fun _ _=>rfl,rfl⟩
theorem res_run {fn:Func} {a:Act} {rs:List ResultVar} {vs:List Value} (hf:fn.results=rs.toArray) (h:ResV P a.eval w rs vs):(results fn a.tmps).run P w= .ok (resOf vs) w:=by
  obtain⟨g,h1,h2,e⟩:=results_g fn a.tmps
  have:=res_map (P:=P) (w:=w) (ev:=a.eval) h1 h2 h
  rw [e,hf,List.mapM_toArray]
  simp only [Sem.run_bind,Sem.run_map,this,Result.andThen]
  match vs with
  | []=>rfl
  | [v]=>rfl
  | u :: v :: r=>simp [resOf]
theorem qw_ret {fn:Func} {R:Ending→World→Prop} {rs:List ResultVar} (vs:List Value) (hf:fn.results=rs.toArray) (h:ResV P (evalW L ws) w rs vs) (hR:R (.returned (resOf vs)) w):QW (bodyPost P fn R) .ret n L ws w:=⟨fun b=>
  bodyPost_ret (res_run hf (by rw [eval_W b.lt];exact h)) rfl hR⟩
def StepN (P:Program) (ev:Operand→Value) (oi:Oper) (w:World) (N:Value→World→Prop):Prop:=
  (∃v w',(execOp ev oi).run P w= .ok (.value v) w'∧N v w')∨(∃w',(execOp ev oi).run P w= .ok .skip w'∧N undef w')∨
  (∃f args,(execOp ev oi).run P w= .ok (.enter f args) w∧Calls P f args w fun e w'=>∃v,e= .returned v∧N v w')
theorem StepN.wp {ev:Operand→Value} {oi:Oper} {N:Value→World→Prop} {a:Act} {K:Act→World→Prop} (h:StepN P ev oi w N) (he:a.eval=ev) (hK:∀v w',N v w'→K (a.put oi.dst v) w'):Oper.wp P oi a w K Q:=by
  unfold Oper.wp
  rw [he]
  rcases h with ⟨v,w',h1,h3⟩ | ⟨w',h1,h3⟩ | ⟨f,args,h1,h2⟩
  · rw [h1,Oper.upon_value];exact hK v w' h3
  · rw [h1,Oper.upon_skip];exact hK undef w' h3
  · rw [h1,Oper.upon_enter]
    exact h2.mono fun e w' ⟨v,he,hn⟩=>by subst he;exact hK v w' hn
theorem StepN.toW {S:World→Prop} {oi:Oper} {N:Value→World→Prop} (h:StepN P (evalW L ws) oi w fun v w'=>S w'∧N v w'):StepW P S L ws oi w fun v w'=>S w'→N v w':=by
  rcases h with ⟨v,w',h1,h3⟩ | ⟨w',h1,h3⟩ | ⟨f,args,h1,h2⟩
  · exact .inl ⟨v,w',h1,h3.1,fun _=>h3.2⟩
  · exact .inr (.inl ⟨w',h1,h3.1,fun _=>h3.2⟩)
  · exact .inr (.inr ⟨f,args,h1,h2.mono fun e w' ⟨v,he,hn⟩=>⟨v,he,hn.1,fun _=>hn.2⟩⟩)
theorem sn_call {ev:Operand→Value} {oi:Oper} {N:Value→World→Prop} {f:FuncId} {args:Array Value} (h1:(execOp ev oi).run P w= .ok (.enter f args) w) (h2:Calls P f args w fun e w'=>∃v,e= .returned v∧N v w'):StepN P ev oi w N:=.inr (.inr ⟨f,args,h1,h2⟩)
theorem sn_eff {ev:Operand→Value} {oi:Oper} {N:Value→World→Prop} {v:Value} {w':World} (h1:(execOp ev oi).run P w= .ok (.value v) w') (h3:N v w'):StepN P ev oi w N:=.inl ⟨v,w',h1,h3⟩
theorem sn_skp {ev:Operand→Value} {oi:Oper} {N:Value→World→Prop} {w':World} (h1:(execOp ev oi).run P w= .ok .skip w') (h3:N undef w'):StepN P ev oi w N:=.inr (.inl ⟨w',h1,h3⟩)
theorem sn_new {ev:Operand→Value} {oi:Oper} {N:Value→World→Prop} {us:Array Value} {t:TypeId} (h1:(execOp ev oi).run P w= .ok (.value (.pointer (some ⟨w.heap.size,0,none⟩))) (w.alloc (.cells us t)))
    (h:∀O X,w.heap.size=O→X.heap.size=O+1→Ext w X→(∀i u,us[i]? =some u→BoxAt X O i u)→N (.pointer (some ⟨O,0,none⟩)) X):StepN P ev oi w N:=by
  refine sn_eff h1 (h _ _ rfl (by simp) (Ext.alloc (Ext.refl _) _) (fun i u hu=>⟨?_,?_⟩))
  · rw [cell_of_row _ _ i _ t (0,0) (heap_alloc_new w _)];exact hu
  · simp [go_sem]
theorem sn_newS {ev:Operand→Value} {oi:Oper} {N:Value→World→Prop} {us:Array Value} {t:TypeId} {k c:Nat} (h1:(execOp ev oi).run P w= .ok (.value (.slice (some ⟨w.heap.size,0,none⟩) k c)) (w.alloc (.cells us t)))
    (h:∀O X,w.heap.size=O→X.heap.size=O+1→Ext w X→(∀i u,us[i]? =some u→BoxAt X O i u)→N (.slice (some ⟨O,0,none⟩) k c) X):StepN P ev oi w N:=by
  refine sn_eff h1 (h _ _ rfl (by simp) (Ext.alloc (Ext.refl _) _) (fun i u hu=>⟨?_,?_⟩))
  · rw [cell_of_row _ _ i _ t (0,0) (heap_alloc_new w _)];exact hu
  · simp [go_sem]
def wantP (ops:List Oper) (L:List Value) (ws:List (Nat × Value)):Option (Nat × Bool)→Bool
  | none=>true
  | some (g,want)=>match ops.drop g with
    | o :: _=>(match o.dst with | some d=>(match look ws (base L) d with | .bool b=>b == want | _=>false) | none=>false)
    | []=>false
theorem wantP_spec {ops:List Oper} {o:Oper} {b:Bool} (h:Bd n L ws) (hok:∀x ∈ ops,∀d,x.dst=some d→d<n) (hw:wantP ops L ws o.guard=b):
    Region.wanted o (yielded ops.toArray (⟨(setAll L ws).toArray,[]⟩:Act).tmps)=b:=by
  subst hw
  unfold Region.wanted wantP
  cases hgd:o.guard with
  | none=>rfl
  | some p=>
    obtain⟨g,want⟩:=p
    have ho:ops.toArray[g]? =ops[g]? :=by simp
    simp only [yielded,ho]
    cases hj:ops[g]? with
    | none=>
      have:ops.drop g= []:=by
        rw [List.drop_eq_nil_iff]
        rcases Nat.lt_or_ge g ops.length with h1 | h1
        · rw [List.getElem?_eq_getElem h1] at hj;cases hj
        · exact h1
      rw [this];rfl
    | some og=>
      obtain⟨r,hr⟩:=drop_get hj
      rw [hr]
      simp only [Option.bind_some]
      cases hd:og.dst with
      | none=>rfl
      | some d=>
        have hlt:d<n:=hok og (List.mem_of_getElem? hj) d hd
        have hget:=setAll_get L ws h.lt d
        have hlt2:d<(setAll L ws).toArray.size:=by simp [setAll_len,h.1,hlt]
        simp only [Array.getD,hlt2,dif_pos] at hget
        simp only [Option.bind_some]
        rw [Array.getElem?_eq_getElem hlt2]
        have e:(setAll L ws).toArray[d]=look ws (base L) d:=hget
        rw [e]
        cases look ws (base L) d <;> rfl
def dstOk (n:Nat):List Oper→Bool
  | []=>true
  | o :: r=>(match o.dst with | some d=>Nat.blt d n | none=>true) && dstOk n r
theorem dstOk_spec {ops:List Oper} (h:dstOk n ops=true):∀x ∈ ops,∀d,x.dst=some d→d<n:=by
  induction ops with
  | nil=>intro x hx;cases hx
  | cons o r ih=>
    unfold dstOk at h
    obtain⟨h1,h2⟩:=Bool.and_eq_true_iff.1 h
    intro x hx d hd
    rcases List.mem_cons.1 hx with e | hx
    · rw [←e,hd] at h1;exact Nat.blt_eq.mp h1
    · exact ih h2 x hx d hd
theorem pl_nil {ops:List Oper} (h:QW Q .normal n L ws w):PL P ops [] Q n L ws w:=⟨h.out⟩
theorem pl_take {ops rest:List Oper} {o:Oper} {d:Nat} (v:Value) (hdst:o.dst=some d) (hok:dstOk n ops=true) (hd:Nat.blt d n=true) (hw:wantP ops L ws o.guard=true)
    (hr:(execOp (evalW L ws) o).run P w= .ok (.value v) w) (h:PL P ops rest Q n L ((d,v) :: ws) w):PL P ops (o :: rest) Q n L ws w:=⟨fun b=>by
  refine wpList_step fun K hK=>?_
  rw [if_pos (wantP_spec b (dstOk_spec hok) hw)]
  unfold Oper.wp
  rw [eval_W b.lt,hr,Oper.upon_value]
  refine hK _ _ ?_
  rw [put_W,hdst];exact h.out (b.put hd)⟩
theorem pl_skip {ops rest:List Oper} {o:Oper} {d:Nat} (hdst:o.dst=some d) (hok:dstOk n ops=true) (hd:Nat.blt d n=true) (hw:wantP ops L ws o.guard=false)
    (h:PL P ops rest Q n L ((d,undef) :: ws) w):PL P ops (o :: rest) Q n L ws w:=⟨fun b=>by
  refine wpList_step fun K hK=>?_
  rw [if_neg (by rw [wantP_spec b (dstOk_spec hok) hw];simp)]
  refine hK _ _ ?_
  rw [put_W,hdst];exact h.out (b.put hd)⟩
theorem pl_step {ops rest:List Oper} {o:Oper} {d:Nat} (hdst:o.dst=some d) (hok:dstOk n ops=true) (hd:Nat.blt d n=true) (hw:wantP ops L ws o.guard=true)
    (h:StepN P (evalW L ws) o w fun v w'=>PL P ops rest Q n L ((d,v) :: ws) w'):PL P ops (o :: rest) Q n L ws w:=⟨fun b=>by
  refine wpList_step fun K hK=>?_
  rw [if_pos (wantP_spec b (dstOk_spec hok) hw)]
  exact h.wp (eval_W b.lt []) fun v w' hn=>hK _ _ (by rw [put_W,hdst];exact hn.out (b.put hd))⟩
theorem pl_put {ops rest:List Oper} {o:Oper} (hdst:o.dst=none) (hok:dstOk n ops=true) (hw:wantP ops L ws o.guard=true)
    (h:StepN P (evalW L ws) o w fun _ w'=>PL P ops rest Q n L ws w'):PL P ops (o :: rest) Q n L ws w:=⟨fun b=>by
  refine wpList_step fun K hK=>?_
  rw [if_pos (wantP_spec b (dstOk_spec hok) hw)]
  exact h.wp (eval_W b.lt []) fun v w' hn=>hK _ _ (by rw [put_W,hdst];exact hn.out b)⟩
def Calm (Q:Exit→Act→World→Prop):Prop:=∀c d v a w,Q (.panic c) (Act.put a d v) w→Q (.panic c) a w
theorem calm_then {K:Act→World→Prop} (h:Calm Q):Calm (Exit.then K Q):=fun c d v a w h'=>h c d v a w h'
theorem calm_block {id:Nat} (h:Calm Q):Calm (Exit.inBlock id Q):=fun c d v a w h'=>h c d v a w h'
theorem calm_body {fn:Func} {R:Ending→World→Prop}:Calm (bodyPost P fn R):=fun c d v a w h=>by cases d <;> exact h
theorem cw_draw {id:Nat} {ops0:Array Oper} (T:List Row) (S:World→Prop) (hm:P.follows .mixedOrders=true) (ht:tableR ops0=T) (hg:goodT n ops0.size T=true) (hs:Region.noSelect ops0=true) (hQ:Calm Q) (hS:S w.drew)
    (h:∀(ops:Array Oper) (Q':Exit→Act→World→Prop) (X:World),Ext w X→L.length=n→Reg P ops0 ops Q' L T→Shut (∀ws w,QW Q .normal n L ws w→QW Q' .normal n L ws w)→WD P ops Q' S L ops0.size [] ws X):CW P (.region id ops0 true) Q n L ws w:=⟨fun b=>by
  refine wp_region_held_drew hm hS fun hS=>?_
  exact (h ops0 Q _ (Ext.drew (Ext.refl _)) b.1 ⟨rfl,ht,by rw [b.1];exact hg,hs,hQ⟩ (fun _ _ h=>h)).out b.lt⟩
variable {ops0 ops:Array Oper} {Q':Exit→Act→World→Prop} {T:List Row} {S:World→Prop} {fuel:Nat} {done:List Nat}
theorem StepN.toD {S:World→Prop} {oi:Oper} {L':Value→List (Nat × Value)} {Q':Exit→Act→World→Prop} {ops:Array Oper} {fuel:Nat} {done:List Nat} (h:StepN P (evalW L ws) oi w fun v w'=>S w'∧WD P ops Q' S L fuel done (L' v) w'):StepW P S L ws oi w fun v w'=>S w'→W P ops Q' S L [] fuel done (L' v) w':=
  StepN.toW (N:=fun v w'=>W P ops Q' S L [] fuel done (L' v) w') (by
    rcases h with ⟨v,w',h1,h3⟩ | ⟨w',h1,h3⟩ | ⟨f,args,h1,h2⟩
    · exact .inl ⟨v,w',h1,h3.1,h3.2.out⟩
    · exact .inr (.inl ⟨w',h1,h3.1,h3.2.out⟩)
    · exact .inr (.inr ⟨f,args,h1,h2.mono fun e w' ⟨v,he,hn⟩=>⟨v,he,hn.1,hn.2.out⟩⟩))
theorem wd_end (hL:L.length=n) (hR:Reg P ops0 ops Q' L T) (hK:Shut (∀ws w,QW Q .normal n L ws w→QW Q' .normal n L ws w)) (hd:upT done (numbered T 0)= []) (h:QW Q .normal n L ws w):WD P ops Q' S L fuel done ws w:=⟨fun hb=>by
  refine wpAnyH_done ?_ ?_ fuel
  · rw [List.eq_nil_iff_forall_not_mem]
    intro j hj
    have:=ready_up hR hj
    rw [hd] at this;cases this
  · exact (hK _ _ h).out ⟨hL,fun p hp=>by rw [←hL];exact hb p hp⟩⟩
theorem wd_take (i:Nat) {d:Nat} {oi:Oper} {r:List Oper} (v:Value) (hR:Reg P ops0 ops Q' L T) (hi:ops0.toList.drop i=oi :: r) (hr:readyT T done i=true) (hdst:oi.dst=some d)
    (hw:wantedW T L ws oi.guard=true) (hy:∀w,S w→(execOp (evalW L ws) oi).run P w= .ok (.value v) w) (hS:S w)
    (h:WD P ops Q' S L fuel (i :: done) ((d,v) :: ws) w):WD P ops Q' S L (fuel+1) done ws w:=⟨wg_take i hR hi hr hw hy hS (by rw [hdst];exact h.out)⟩
theorem wd_skip (i:Nat) {d:Nat} {oi:Oper} {r:List Oper} (hR:Reg P ops0 ops Q' L T) (hi:ops0.toList.drop i=oi :: r) (hr:readyT T done i=true) (hdst:oi.dst=some d)
    (hw:wantedW T L ws oi.guard=false) (hS:S w)
    (h:WD P ops Q' S L fuel (i :: done) ((d,undef) :: ws) w):WD P ops Q' S L (fuel+1) done ws w:=⟨wg_skip i hR hi hr hw hS (by rw [hdst];exact h.out)⟩
theorem wd_step (i:Nat) {oi:Oper} {r:List Oper} (hR:Reg P ops0 ops Q' L T) (hi:ops0.toList.drop i=oi :: r) (hr:upT done (numbered T 0)= [i]) (hr2:readyT T done i=true)
    (hw:wantedW T L ws oi.guard=true) (h:StepN P (evalW L ws) oi w fun v w'=>S w'∧WD P ops Q' S L fuel (i :: done) (putW oi.dst v ws) w'):WD P ops Q' S L (fuel+1) done ws w:=⟨wg_step i hR hi hr hw h.toD hr2⟩
theorem wd_two (i j:Nat) {oi oj:Oper} {r s:List Oper} (hR:Reg P ops0 ops Q' L T) (hi:ops0.toList.drop i=oi :: r) (hj:ops0.toList.drop j=oj :: s) (hr:upT done (numbered T 0)= [i,j]) (hr2:readyT T done i=true)
    (hwi:wantedW T L ws oi.guard=true) (hwj:wantedW T L ws oj.guard=true)
    (h1:StepN P (evalW L ws) oi w fun v w'=>S w'∧WD P ops Q' S L fuel (i :: done) (putW oi.dst v ws) w')
    (h2:StepN P (evalW L ws) oj w fun v w'=>S w'∧WD P ops Q' S L fuel (j :: done) (putW oj.dst v ws) w'):WD P ops Q' S L (fuel+1) done ws w:=⟨wg_two i j hR hi hj hr hwi hwj hr2 h1.toD h2.toD⟩
theorem wd_three (i j m:Nat) {oi oj om:Oper} {r s q:List Oper} (hR:Reg P ops0 ops Q' L T) (hi:ops0.toList.drop i=oi :: r) (hj:ops0.toList.drop j=oj :: s) (hm:ops0.toList.drop m=om :: q) (hr:upT done (numbered T 0)= [i,j,m]) (hr2:readyT T done i=true)
    (hwi:wantedW T L ws oi.guard=true) (hwj:wantedW T L ws oj.guard=true) (hwm:wantedW T L ws om.guard=true)
    (h1:StepN P (evalW L ws) oi w fun v w'=>S w'∧WD P ops Q' S L fuel (i :: done) (putW oi.dst v ws) w')
    (h2:StepN P (evalW L ws) oj w fun v w'=>S w'∧WD P ops Q' S L fuel (j :: done) (putW oj.dst v ws) w')
    (h3:StepN P (evalW L ws) om w fun v w'=>S w'∧WD P ops Q' S L fuel (m :: done) (putW om.dst v ws) w'):WD P ops Q' S L (fuel+1) done ws w:=⟨wg_three i j m hR hi hj hm hr hwi hwj hwm hr2 h1.toD h2.toD h3.toD⟩
def pickW (ws:List (Nat × Value)):List Nat→Option (List (Nat × Value))
  | []=>some []
  | k :: ks=>match lookO ws k,pickW ws ks with
    | some v,some r=>some ((k,v) :: r)
    | _,_=>none
theorem pick_look:∀ {ks:List Nat} {ws':List (Nat × Value)},pickW ws ks=some ws'→∀t v,lookO ws' t=some v→lookO ws t=some v
  | [],ws',h,t,v,ht=>by cases h;cases ht
  | k :: ks,ws',h,t,v,ht=>by
    unfold pickW at h
    cases e1:lookO ws k with
    | none=>rw [e1] at h;cases h
    | some u=>
      cases e2:pickW ws ks with
      | none=>rw [e1,e2] at h;cases h
      | some r=>
        rw [e1,e2] at h;cases h
        unfold lookO at ht
        by_cases e:t=k
        · rw [if_pos e] at ht;subst e;rw [e1];exact ht
        · rw [if_neg e] at ht;exact pick_look e2 t v ht
theorem look_mem:∀ {ws:List (Nat × Value)} {t:Nat} {v:Value},lookO ws t=some v→(t,v) ∈ ws
  | (d,u) :: r,t,v,h=>by
    unfold lookO at h
    by_cases e:t=d
    · rw [if_pos e] at h;cases h;subst e;exact List.mem_cons_self
    · rw [if_neg e] at h;exact List.mem_cons_of_mem _ (look_mem h)
theorem mem_look:∀ {ws:List (Nat × Value)} {p:Nat × Value},p ∈ ws→∃v,lookO ws p.1=some v
  | (d,u) :: r,p,h=>by
    by_cases e:p.1=d
    · exact⟨u,by rw [lookO,if_pos e]⟩
    · rcases List.mem_cons.1 h with rfl | h
      · exact absurd rfl e
      · obtain⟨v,hv⟩:=mem_look h
        exact⟨v,by rw [lookO,if_neg e,hv]⟩
theorem pick_set {ks:List Nat} {ws':List (Nat × Value)} (h:pickW ws ks=some ws'):setAll (setAll L ws) ws'=setAll L ws:=by
  refine List.ext_getElem? fun t=>?_
  rw [setAll_get?,setAll_len]
  split
  · rename_i ht
    cases e:lookO ws' t with
    | none=>simp
    | some v=>
      have:=pick_look h t v e
      rw [setAll_get?,if_pos ht,this];rfl
  · rename_i ht
    rw [setAll_get?,if_neg ht]
theorem pick_bd {ks:List Nat} {ws':List (Nat × Value)} (h:pickW ws ks=some ws') (b:Bd n L ws):Bd n (setAll L ws) ws':=
  ⟨by rw [setAll_len];exact b.1,fun p hp=>by
    obtain⟨v,hv⟩:=mem_look hp
    exact b.2 (p.1,v) (look_mem (pick_look h _ _ hv))⟩
theorem cw_clean {c:Code} (ks:List Nat) {ws':List (Nat × Value)} (hp:pickW ws ks=some ws') (h:∀L',CW P c Q n L' ws' w):CW P c Q n L ws w:=⟨fun b=>by
  have:=(h (setAll L ws)).out (pick_bd hp b)
  rwa [pick_set hp] at this⟩
theorem cw_join {c:Code} (R:List (Nat × Value)→World→Prop) (main:(∀L' ws' w',R ws' w'→QW Q .normal n L' ws' w')→CW P c Q n L ws w) (rest:∀L' ws' w',R ws' w'→QW Q .normal n L' ws' w'):CW P c Q n L ws w:=main rest
theorem qw_leaf {R:List (Nat × Value)→World→Prop} (hJ:∀L' ws' w',R ws' w'→QW Q .normal n L' ws' w') (ks:List Nat) {ws':List (Nat × Value)} (hp:pickW ws ks=some ws') (h:R ws' w):QW Q .normal n L ws w:=⟨fun b=>by
  have:=(hJ (setAll L ws) ws' w h).out (pick_bd hp b)
  rwa [pick_set hp] at this⟩
theorem least {p:Nat→Prop}:(∃m,p m)→∃m,p m∧∀k,p k→m≤k:=by
  rintro⟨m,hm⟩
  induction m using Nat.strongRecOn with
  | _ m ih=>
    by_cases h:∃k,k<m∧p k
    · obtain⟨k,hk,hp⟩:=h;exact ih k hk hp
    · exact⟨m,hm,fun k hk=>Nat.le_of_not_lt fun hlt=>h ⟨k,hlt,hk⟩⟩
def LoopK (n:Nat) (Inv:List (Nat × Value)→World→Nat→Prop) (m:Nat):Act→World→Prop:=fun a w=>∃L' ws' m',m'<m∧Bd n L' ws'∧a=⟨(setAll L' ws').toArray,[]⟩∧Inv ws' w m'
open Classical in
theorem cw_loop {c:Code} (ks:List Nat) (Inv:List (Nat × Value)→World→Nat→Prop) {ws0:List (Nat × Value)} (hp:pickW ws ks=some ws0) (m0:Nat) (h0:Inv ws0 w m0)
    (round:∀m L' ws' w',Inv ws' w' m→CW P c (Exit.then (LoopK n Inv m) Q) n L' ws' w'):CW P (.loop c) Q n L ws w:=⟨fun b=>by
  let J:Nat→Act→World→Prop:=fun m a w=>∃L' ws',Bd n L' ws'∧a=⟨(setAll L' ws').toArray,[]⟩∧Inv ws' w m
  let μ:Act→World→Nat:=fun a w=>if h:∃m,J m a w then Classical.choose (least h) else 0
  have hμ:∀a w (h:∃m,J m a w),J (μ a w) a w∧∀k,J k a w→μ a w≤k:=fun a w h=>by
    have e:μ a w=Classical.choose (least h):=dif_pos h
    rw [e];exact Classical.choose_spec (least h)
  refine wp_loop (fun a w=>∃m,J m a w) μ ⟨m0,setAll L ws,ws0,pick_bd hp b,by rw [pick_set hp],h0⟩ fun a w h=>?_
  obtain⟨⟨L',ws',hb,ha,hI⟩,_⟩:=hμ a w h
  have:=(round (μ a w) L' ws' w hI).out hb
  rw [←ha] at this
  refine Code.wp_mono (fun e a' w' q=>?_) this
  cases e with
  | normal=>
    obtain⟨L2,ws2,m2,hlt,hb2,ha2,hI2⟩:=q
    have hJ:J m2 a' w':=⟨L2,ws2,hb2,ha2,hI2⟩
    exact⟨⟨m2,hJ⟩,Nat.lt_of_le_of_lt ((hμ a' w' ⟨m2,hJ⟩).2 m2 hJ) hlt⟩
  | _=>exact q⟩
theorem qw_round {Inv:List (Nat × Value)→World→Nat→Prop} {m:Nat} (ks:List Nat) {ws':List (Nat × Value)} (hp:pickW ws ks=some ws') (m':Nat) (hlt:m'<m) (h:Inv ws' w m'):QW (Exit.then (LoopK n Inv m) Q) .normal n L ws w:=⟨fun b=>
  ⟨setAll L ws,ws',m',hlt,pick_bd hp b,by rw [pick_set hp],h⟩⟩
end
theorem Tq {a b c:Nat} (h:a≤b) (k:b≤c):a≤c:=Nat.le_trans h k
section
variable {P:Program} {n:Nat} {L:List Value} {ws:List (Nat × Value)} {w:World} {Q:Exit→Act→World→Prop}
theorem pT {ops rest:List Oper} {o:Oper} {d:Nat} (v:Value) (h:PL P ops rest Q n L ((d,v) :: ws) w) (hdst:o.dst=some d:=by rfl) (hok:dstOk n ops=true:=by kernel_rfl) (hd:Nat.blt d n=true:=by kernel_rfl) (hw:wantP ops L ws o.guard=true:=by kernel_rfl)
    (hr:(execOp (evalW L ws) o).run P w= .ok (.value v) w:=by kernel_rfl):PL P ops (o :: rest) Q n L ws w:=pl_take v hdst hok hd hw hr h
theorem pU {ops rest:List Oper} {o:Oper} {d:Nat} (v:Value) (hr:(execOp (evalW L ws) o).run P w= .ok (.value v) w) (h:PL P ops rest Q n L ((d,v) :: ws) w) (hdst:o.dst=some d:=by rfl) (hok:dstOk n ops=true:=by kernel_rfl) (hd:Nat.blt d n=true:=by kernel_rfl) (hw:wantP ops L ws o.guard=true:=by kernel_rfl):PL P ops (o :: rest) Q n L ws w:=pl_take v hdst hok hd hw hr h
theorem pK {ops rest:List Oper} {o:Oper} {d:Nat} (h:PL P ops rest Q n L ((d,undef) :: ws) w) (hdst:o.dst=some d:=by rfl) (hok:dstOk n ops=true:=by kernel_rfl) (hd:Nat.blt d n=true:=by kernel_rfl) (hw:wantP ops L ws o.guard=false:=by kernel_rfl):PL P ops (o :: rest) Q n L ws w:=pl_skip hdst hok hd hw h
theorem pS {ops rest:List Oper} {o:Oper} {d:Nat} (h:StepN P (evalW L ws) o w fun v w'=>PL P ops rest Q n L ((d,v) :: ws) w') (hdst:o.dst=some d:=by rfl) (hok:dstOk n ops=true:=by kernel_rfl) (hd:Nat.blt d n=true:=by kernel_rfl) (hw:wantP ops L ws o.guard=true:=by kernel_rfl):PL P ops (o :: rest) Q n L ws w:=pl_step hdst hok hd hw h
theorem pP {ops rest:List Oper} {o:Oper} (h:StepN P (evalW L ws) o w fun _ w'=>PL P ops rest Q n L ws w') (hdst:o.dst=none:=by rfl) (hok:dstOk n ops=true:=by kernel_rfl) (hw:wantP ops L ws o.guard=true:=by kernel_rfl):PL P ops (o :: rest) Q n L ws w:=pl_put hdst hok hw h
variable {ops0 ops:Array Oper} {Q':Exit→Act→World→Prop} {T9:List Row} {S:World→Prop} {fuel:Nat} {done:List Nat}
theorem wS (i:Nat) {oi:Oper} {r:List Oper} (hR:Reg P ops0 ops Q' L T9) (h:StepN P (evalW L ws) oi w fun v w'=>S w'∧WD P ops Q' S L fuel (i :: done) (putW oi.dst v ws) w') (hi:ops0.toList.drop i=oi :: r:=by rfl) (hr:upT done (numbered T9 0)= [i]:=by kernel_rfl) (hr2:readyT T9 done i=true:=by kernel_rfl)
    (hw:wantedW T9 L ws oi.guard=true:=by kernel_rfl):WD P ops Q' S L (fuel+1) done ws w:=wd_step i hR hi hr hr2 hw h
class At1 (ws:List (Nat × Value)) (k:Nat) (v:outParam Value):Prop where
  out:True
instance {k:Nat} {v:Value} {r:List (Nat × Value)}:At1 ((k,v) :: r) k v:=⟨trivial⟩
instance (priority:=low) {k:Nat} {p:Nat × Value} {v:Value} {r:List (Nat × Value)} [At1 r k v]:At1 (p :: r) k v:=⟨trivial⟩
instance {k:Nat} {v:Value} {r:List (Nat × Value)}:At1 (putW (some k) v r) k v:=⟨trivial⟩
instance (priority:=low) {k d:Nat} {u v:Value} {r:List (Nat × Value)} [At1 r k v]:At1 (putW (some d) u r) k v:=⟨trivial⟩
instance (priority:=low) {k:Nat} {u v:Value} {r:List (Nat × Value)} [At1 r k v]:At1 (putW none u r) k v:=⟨trivial⟩
end
theorem bq1 {X:World} {O:Nat} {u0:Value} (h:∀i u,(#[u0]:Array Value)[i]? =some u→BoxAt X O i u):BoxAt X O 0 u0:=h 0 _ rfl
theorem bq2 {X:World} {O:Nat} {u0 u1:Value} (h:∀i u,(#[u0,u1]:Array Value)[i]? =some u→BoxAt X O i u):BoxAt X O 0 u0∧BoxAt X O 1 u1:=⟨h 0 _ rfl,h 1 _ rfl⟩
theorem bq3 {X:World} {O:Nat} {u0 u1 u2:Value} (h:∀i u,(#[u0,u1,u2]:Array Value)[i]? =some u→BoxAt X O i u):BoxAt X O 0 u0∧BoxAt X O 1 u1∧BoxAt X O 2 u2:=⟨h 0 _ rfl,h 1 _ rfl,h 2 _ rfl⟩
theorem bq5 {X:World} {O:Nat} {u0 u1 u2 u3 u4:Value} (h:∀i u,(#[u0,u1,u2,u3,u4]:Array Value)[i]? =some u→BoxAt X O i u):BoxAt X O 0 u0∧BoxAt X O 1 u1∧BoxAt X O 2 u2∧BoxAt X O 3 u3∧BoxAt X O 4 u4:=⟨h 0 _ rfl,h 1 _ rfl,h 2 _ rfl,h 3 _ rfl,h 4 _ rfl⟩
theorem bq6 {X:World} {O:Nat} {u0 u1 u2 u3 u4 u5:Value} (h:∀i u,(#[u0,u1,u2,u3,u4,u5]:Array Value)[i]? =some u→BoxAt X O i u):BoxAt X O 0 u0∧BoxAt X O 1 u1∧BoxAt X O 2 u2∧BoxAt X O 3 u3∧BoxAt X O 4 u4∧BoxAt X O 5 u5:=⟨h 0 _ rfl,h 1 _ rfl,h 2 _ rfl,h 3 _ rfl,h 4 _ rfl,h 5 _ rfl⟩
theorem bq7 {X:World} {O:Nat} {u0 u1 u2 u3 u4 u5 u6:Value} (h:∀i u,(#[u0,u1,u2,u3,u4,u5,u6]:Array Value)[i]? =some u→BoxAt X O i u):BoxAt X O 0 u0∧BoxAt X O 1 u1∧BoxAt X O 2 u2∧BoxAt X O 3 u3∧BoxAt X O 4 u4∧BoxAt X O 5 u5∧BoxAt X O 6 u6:=⟨h 0 _ rfl,h 1 _ rfl,h 2 _ rfl,h 3 _ rfl,h 4 _ rfl,h 5 _ rfl,h 6 _ rfl⟩
theorem bq12 {X:World} {O:Nat} {u0 u1 u2 u3 u4 u5 u6 u7 u8 u9 u10 u11:Value} (h:∀i u,(#[u0,u1,u2,u3,u4,u5,u6,u7,u8,u9,u10,u11]:Array Value)[i]? =some u→BoxAt X O i u):BoxAt X O 0 u0∧BoxAt X O 1 u1∧BoxAt X O 2 u2∧BoxAt X O 3 u3∧BoxAt X O 4 u4∧BoxAt X O 5 u5∧BoxAt X O 6 u6∧BoxAt X O 7 u7∧BoxAt X O 8 u8∧BoxAt X O 9 u9∧BoxAt X O 10 u10∧BoxAt X O 11 u11:=⟨h 0 _ rfl,h 1 _ rfl,h 2 _ rfl,h 3 _ rfl,h 4 _ rfl,h 5 _ rfl,h 6 _ rfl,h 7 _ rfl,h 8 _ rfl,h 9 _ rfl,h 10 _ rfl,h 11 _ rfl⟩
theorem bq21 {X:World} {O:Nat} {u0 u1 u2 u3 u4 u5 u6 u7 u8 u9 u10 u11 u12 u13 u14 u15 u16 u17 u18 u19 u20:Value} (h:∀i u,(#[u0,u1,u2,u3,u4,u5,u6,u7,u8,u9,u10,u11,u12,u13,u14,u15,u16,u17,u18,u19,u20]:Array Value)[i]? =some u→BoxAt X O i u):BoxAt X O 0 u0∧BoxAt X O 1 u1∧BoxAt X O 2 u2∧BoxAt X O 3 u3∧BoxAt X O 4 u4∧BoxAt X O 5 u5∧BoxAt X O 6 u6∧BoxAt X O 7 u7∧BoxAt X O 8 u8∧BoxAt X O 9 u9∧BoxAt X O 10 u10∧BoxAt X O 11 u11∧BoxAt X O 12 u12∧BoxAt X O 13 u13∧BoxAt X O 14 u14∧BoxAt X O 15 u15∧BoxAt X O 16 u16∧BoxAt X O 17 u17∧BoxAt X O 18 u18∧BoxAt X O 19 u19∧BoxAt X O 20 u20:=⟨h 0 _ rfl,h 1 _ rfl,h 2 _ rfl,h 3 _ rfl,h 4 _ rfl,h 5 _ rfl,h 6 _ rfl,h 7 _ rfl,h 8 _ rfl,h 9 _ rfl,h 10 _ rfl,h 11 _ rfl,h 12 _ rfl,h 13 _ rfl,h 14 _ rfl,h 15 _ rfl,h 16 _ rfl,h 17 _ rfl,h 18 _ rfl,h 19 _ rfl,h 20 _ rfl⟩
theorem bq24 {X:World} {O:Nat} {u0 u1 u2 u3 u4 u5 u6 u7 u8 u9 u10 u11 u12 u13 u14 u15 u16 u17 u18 u19 u20 u21 u22 u23:Value} (h:∀i u,(#[u0,u1,u2,u3,u4,u5,u6,u7,u8,u9,u10,u11,u12,u13,u14,u15,u16,u17,u18,u19,u20,u21,u22,u23]:Array Value)[i]? =some u→BoxAt X O i u):BoxAt X O 0 u0∧BoxAt X O 1 u1∧BoxAt X O 2 u2∧BoxAt X O 3 u3∧BoxAt X O 4 u4∧BoxAt X O 5 u5∧BoxAt X O 6 u6∧BoxAt X O 7 u7∧BoxAt X O 8 u8∧BoxAt X O 9 u9∧BoxAt X O 10 u10∧BoxAt X O 11 u11∧BoxAt X O 12 u12∧BoxAt X O 13 u13∧BoxAt X O 14 u14∧BoxAt X O 15 u15∧BoxAt X O 16 u16∧BoxAt X O 17 u17∧BoxAt X O 18 u18∧BoxAt X O 19 u19∧BoxAt X O 20 u20∧BoxAt X O 21 u21∧BoxAt X O 22 u22∧BoxAt X O 23 u23:=⟨h 0 _ rfl,h 1 _ rfl,h 2 _ rfl,h 3 _ rfl,h 4 _ rfl,h 5 _ rfl,h 6 _ rfl,h 7 _ rfl,h 8 _ rfl,h 9 _ rfl,h 10 _ rfl,h 11 _ rfl,h 12 _ rfl,h 13 _ rfl,h 14 _ rfl,h 15 _ rfl,h 16 _ rfl,h 17 _ rfl,h 18 _ rfl,h 19 _ rfl,h 20 _ rfl,h 21 _ rfl,h 22 _ rfl,h 23 _ rfl⟩
section
variable {P:Program} {n:Nat} {L:List Value} {ws:List (Nat × Value)} {w:World} {Q:Exit→Act→World→Prop}
variable {ops0 ops:Array Oper} {Q':Exit→Act→World→Prop} {T9:List Row} {S:World→Prop} {fuel:Nat} {done:List Nat}
theorem wV (i:Nat) {d:Nat} {oi:Oper} {r:List Oper} (v:Value) (hR:Reg P ops0 ops Q' L T9) (hS:S w) (h:WD P ops Q' S L fuel (i :: done) ((d,v) :: ws) w) (hi:ops0.toList.drop i=oi :: r:=by rfl) (hr:readyT T9 done i=true:=by kernel_rfl) (hdst:oi.dst=some d:=by rfl) (hw:wantedW T9 L ws oi.guard=true:=by kernel_rfl)
    (hy:∀w,S w→(execOp (evalW L ws) oi).run P w= .ok (.value v) w:=by intro w _;kernel_rfl):WD P ops Q' S L (fuel+1) done ws w:=wd_take i v hR hi hr hdst hw hy hS h
theorem wL (i:Nat) {d:Nat} {oi:Oper} {r:List Oper} (v:Value) (hR:Reg P ops0 ops Q' L T9) (hy:∀w,S w→(execOp (evalW L ws) oi).run P w= .ok (.value v) w) (hS:S w) (h:WD P ops Q' S L fuel (i :: done) ((d,v) :: ws) w)
    (hi:ops0.toList.drop i=oi :: r:=by rfl) (hr:readyT T9 done i=true:=by kernel_rfl) (hdst:oi.dst=some d:=by rfl) (hw:wantedW T9 L ws oi.guard=true:=by kernel_rfl):WD P ops Q' S L (fuel+1) done ws w:=wd_take i v hR hi hr hdst hw hy hS h
theorem wK (i:Nat) {d:Nat} {oi:Oper} {r:List Oper} (hR:Reg P ops0 ops Q' L T9) (hS:S w) (h:WD P ops Q' S L fuel (i :: done) ((d,undef) :: ws) w) (hi:ops0.toList.drop i=oi :: r:=by rfl) (hr:readyT T9 done i=true:=by kernel_rfl) (hdst:oi.dst=some d:=by rfl) (hw:wantedW T9 L ws oi.guard=false:=by kernel_rfl):WD P ops Q' S L (fuel+1) done ws w:=wd_skip i hR hi hr hdst hw hS h
theorem BoxAt.x {w w':World} {b o:Nat} {v:Value} (h:BoxAt w b o v) (hE:Ext w w'):BoxAt w' b o v:=BoxAt.ext hE h
theorem A2 {p0 p1:Prop} (h0:p0) (h1:p1):p0∧p1:=⟨h0,h1⟩
theorem A3 {p0 p1 p2:Prop} (h0:p0) (h1:p1) (h2:p2):p0∧p1∧p2:=⟨h0,h1,h2⟩
theorem A4 {p0 p1 p2 p3:Prop} (h0:p0) (h1:p1) (h2:p2) (h3:p3):p0∧p1∧p2∧p3:=⟨h0,h1,h2,h3⟩
theorem A5 {p0 p1 p2 p3 p4:Prop} (h0:p0) (h1:p1) (h2:p2) (h3:p3) (h4:p4):p0∧p1∧p2∧p3∧p4:=⟨h0,h1,h2,h3,h4⟩
theorem A6 {p0 p1 p2 p3 p4 p5:Prop} (h0:p0) (h1:p1) (h2:p2) (h3:p3) (h4:p4) (h5:p5):p0∧p1∧p2∧p3∧p4∧p5:=⟨h0,h1,h2,h3,h4,h5⟩
theorem A7 {p0 p1 p2 p3 p4 p5 p6:Prop} (h0:p0) (h1:p1) (h2:p2) (h3:p3) (h4:p4) (h5:p5) (h6:p6):p0∧p1∧p2∧p3∧p4∧p5∧p6:=⟨h0,h1,h2,h3,h4,h5,h6⟩
theorem A8 {p0 p1 p2 p3 p4 p5 p6 p7:Prop} (h0:p0) (h1:p1) (h2:p2) (h3:p3) (h4:p4) (h5:p5) (h6:p6) (h7:p7):p0∧p1∧p2∧p3∧p4∧p5∧p6∧p7:=⟨h0,h1,h2,h3,h4,h5,h6,h7⟩
theorem A9 {p0 p1 p2 p3 p4 p5 p6 p7 p8:Prop} (h0:p0) (h1:p1) (h2:p2) (h3:p3) (h4:p4) (h5:p5) (h6:p6) (h7:p7) (h8:p8):p0∧p1∧p2∧p3∧p4∧p5∧p6∧p7∧p8:=⟨h0,h1,h2,h3,h4,h5,h6,h7,h8⟩
theorem A12 {p0 p1 p2 p3 p4 p5 p6 p7 p8 p9 p10 p11:Prop} (h0:p0) (h1:p1) (h2:p2) (h3:p3) (h4:p4) (h5:p5) (h6:p6) (h7:p7) (h8:p8) (h9:p9) (h10:p10) (h11:p11):p0∧p1∧p2∧p3∧p4∧p5∧p6∧p7∧p8∧p9∧p10∧p11:=⟨h0,h1,h2,h3,h4,h5,h6,h7,h8,h9,h10,h11⟩
theorem A13 {p0 p1 p2 p3 p4 p5 p6 p7 p8 p9 p10 p11 p12:Prop} (h0:p0) (h1:p1) (h2:p2) (h3:p3) (h4:p4) (h5:p5) (h6:p6) (h7:p7) (h8:p8) (h9:p9) (h10:p10) (h11:p11) (h12:p12):p0∧p1∧p2∧p3∧p4∧p5∧p6∧p7∧p8∧p9∧p10∧p11∧p12:=⟨h0,h1,h2,h3,h4,h5,h6,h7,h8,h9,h10,h11,h12⟩
theorem A14 {p0 p1 p2 p3 p4 p5 p6 p7 p8 p9 p10 p11 p12 p13:Prop} (h0:p0) (h1:p1) (h2:p2) (h3:p3) (h4:p4) (h5:p5) (h6:p6) (h7:p7) (h8:p8) (h9:p9) (h10:p10) (h11:p11) (h12:p12) (h13:p13):p0∧p1∧p2∧p3∧p4∧p5∧p6∧p7∧p8∧p9∧p10∧p11∧p12∧p13:=⟨h0,h1,h2,h3,h4,h5,h6,h7,h8,h9,h10,h11,h12,h13⟩
theorem A15 {p0 p1 p2 p3 p4 p5 p6 p7 p8 p9 p10 p11 p12 p13 p14:Prop} (h0:p0) (h1:p1) (h2:p2) (h3:p3) (h4:p4) (h5:p5) (h6:p6) (h7:p7) (h8:p8) (h9:p9) (h10:p10) (h11:p11) (h12:p12) (h13:p13) (h14:p14):p0∧p1∧p2∧p3∧p4∧p5∧p6∧p7∧p8∧p9∧p10∧p11∧p12∧p13∧p14:=⟨h0,h1,h2,h3,h4,h5,h6,h7,h8,h9,h10,h11,h12,h13,h14⟩
theorem A24 {p0 p1 p2 p3 p4 p5 p6 p7 p8 p9 p10 p11 p12 p13 p14 p15 p16 p17 p18 p19 p20 p21 p22 p23:Prop} (h0:p0) (h1:p1) (h2:p2) (h3:p3) (h4:p4) (h5:p5) (h6:p6) (h7:p7) (h8:p8) (h9:p9) (h10:p10) (h11:p11) (h12:p12) (h13:p13) (h14:p14) (h15:p15) (h16:p16) (h17:p17) (h18:p18) (h19:p19) (h20:p20) (h21:p21) (h22:p22) (h23:p23):p0∧p1∧p2∧p3∧p4∧p5∧p6∧p7∧p8∧p9∧p10∧p11∧p12∧p13∧p14∧p15∧p16∧p17∧p18∧p19∧p20∧p21∧p22∧p23:=⟨h0,h1,h2,h3,h4,h5,h6,h7,h8,h9,h10,h11,h12,h13,h14,h15,h16,h17,h18,h19,h20,h21,h22,h23⟩
end
class MvC (w w':World) (p:Prop) (p':outParam Prop):Prop where
  out:Ext w w'→p→p'
instance {w w':World} {b o:Nat} {v:Value}:MvC w w' (BoxAt w b o v) (BoxAt w' b o v):=⟨fun e h=>BoxAt.ext e h⟩
instance {w w' U:World}:MvC w w' (Ext U w) (Ext U w'):=⟨fun e h=>h.trans e⟩
instance {w w':World} {b o:Nat} {l:List Int}:MvC w w' (VA w b o l) (VA w' b o l):=⟨fun e h=>h.ext e⟩
instance {w w':World} {a:Option Addr} {l:List Int} {n:Nat} {v:Bool}:MvC w w' (AA w a l n v) (AA w' a l n v):=⟨fun e h=>h.ext e⟩
theorem mv16 {w w':World} {p0 q0 p1 q1 p2 q2 p3 q3 p4 q4 p5 q5 p6 q6 p7 q7 p8 q8 p9 q9 p10 q10 p11 q11 p12 q12 p13 q13 p14 q14 p15 q15 G:Prop} [c0:MvC w w' p0 q0] [c1:MvC w w' p1 q1] [c2:MvC w w' p2 q2] [c3:MvC w w' p3 q3] [c4:MvC w w' p4 q4] [c5:MvC w w' p5 q5] [c6:MvC w w' p6 q6] [c7:MvC w w' p7 q7] [c8:MvC w w' p8 q8] [c9:MvC w w' p9 q9] [c10:MvC w w' p10 q10] [c11:MvC w w' p11 q11] [c12:MvC w w' p12 q12] [c13:MvC w w' p13 q13] [c14:MvC w w' p14 q14] [c15:MvC w w' p15 q15] (e:Ext w w') (h0:p0) (h1:p1) (h2:p2) (h3:p3) (h4:p4) (h5:p5) (h6:p6) (h7:p7) (h8:p8) (h9:p9) (h10:p10) (h11:p11) (h12:p12) (h13:p13) (h14:p14) (h15:p15) (h:q0→q1→q2→q3→q4→q5→q6→q7→q8→q9→q10→q11→q12→q13→q14→q15→G):G:=h (c0.out e h0) (c1.out e h1) (c2.out e h2) (c3.out e h3) (c4.out e h4) (c5.out e h5) (c6.out e h6) (c7.out e h7) (c8.out e h8) (c9.out e h9) (c10.out e h10) (c11.out e h11) (c12.out e h12) (c13.out e h13) (c14.out e h14) (c15.out e h15)
theorem mv12 {w w':World} {p0 q0 p1 q1 p2 q2 p3 q3 p4 q4 p5 q5 p6 q6 p7 q7 p8 q8 p9 q9 p10 q10 p11 q11 G:Prop} [c0:MvC w w' p0 q0] [c1:MvC w w' p1 q1] [c2:MvC w w' p2 q2] [c3:MvC w w' p3 q3] [c4:MvC w w' p4 q4] [c5:MvC w w' p5 q5] [c6:MvC w w' p6 q6] [c7:MvC w w' p7 q7] [c8:MvC w w' p8 q8] [c9:MvC w w' p9 q9] [c10:MvC w w' p10 q10] [c11:MvC w w' p11 q11] (e:Ext w w') (h0:p0) (h1:p1) (h2:p2) (h3:p3) (h4:p4) (h5:p5) (h6:p6) (h7:p7) (h8:p8) (h9:p9) (h10:p10) (h11:p11) (h:q0→q1→q2→q3→q4→q5→q6→q7→q8→q9→q10→q11→G):G:=h (c0.out e h0) (c1.out e h1) (c2.out e h2) (c3.out e h3) (c4.out e h4) (c5.out e h5) (c6.out e h6) (c7.out e h7) (c8.out e h8) (c9.out e h9) (c10.out e h10) (c11.out e h11)
theorem mv9 {w w':World} {p0 q0 p1 q1 p2 q2 p3 q3 p4 q4 p5 q5 p6 q6 p7 q7 p8 q8 G:Prop} [c0:MvC w w' p0 q0] [c1:MvC w w' p1 q1] [c2:MvC w w' p2 q2] [c3:MvC w w' p3 q3] [c4:MvC w w' p4 q4] [c5:MvC w w' p5 q5] [c6:MvC w w' p6 q6] [c7:MvC w w' p7 q7] [c8:MvC w w' p8 q8] (e:Ext w w') (h0:p0) (h1:p1) (h2:p2) (h3:p3) (h4:p4) (h5:p5) (h6:p6) (h7:p7) (h8:p8) (h:q0→q1→q2→q3→q4→q5→q6→q7→q8→G):G:=h (c0.out e h0) (c1.out e h1) (c2.out e h2) (c3.out e h3) (c4.out e h4) (c5.out e h5) (c6.out e h6) (c7.out e h7) (c8.out e h8)
theorem mv7 {w w':World} {p0 q0 p1 q1 p2 q2 p3 q3 p4 q4 p5 q5 p6 q6 G:Prop} [c0:MvC w w' p0 q0] [c1:MvC w w' p1 q1] [c2:MvC w w' p2 q2] [c3:MvC w w' p3 q3] [c4:MvC w w' p4 q4] [c5:MvC w w' p5 q5] [c6:MvC w w' p6 q6] (e:Ext w w') (h0:p0) (h1:p1) (h2:p2) (h3:p3) (h4:p4) (h5:p5) (h6:p6) (h:q0→q1→q2→q3→q4→q5→q6→G):G:=h (c0.out e h0) (c1.out e h1) (c2.out e h2) (c3.out e h3) (c4.out e h4) (c5.out e h5) (c6.out e h6)
theorem mv4 {w w':World} {p0 q0 p1 q1 p2 q2 p3 q3 G:Prop} [c0:MvC w w' p0 q0] [c1:MvC w w' p1 q1] [c2:MvC w w' p2 q2] [c3:MvC w w' p3 q3] (e:Ext w w') (h0:p0) (h1:p1) (h2:p2) (h3:p3) (h:q0→q1→q2→q3→G):G:=h (c0.out e h0) (c1.out e h1) (c2.out e h2) (c3.out e h3)
theorem mv3 {w w':World} {p0 q0 p1 q1 p2 q2 G:Prop} [c0:MvC w w' p0 q0] [c1:MvC w w' p1 q1] [c2:MvC w w' p2 q2] (e:Ext w w') (h0:p0) (h1:p1) (h2:p2) (h:q0→q1→q2→G):G:=h (c0.out e h0) (c1.out e h1) (c2.out e h2)
theorem mv2 {w w':World} {p0 q0 p1 q1 G:Prop} [c0:MvC w w' p0 q0] [c1:MvC w w' p1 q1] (e:Ext w w') (h0:p0) (h1:p1) (h:q0→q1→G):G:=h (c0.out e h0) (c1.out e h1)
theorem Only.bx {O:Nat} {w X:World} (h:Only O w X) (b:Nat) (hb:O≠b) ⦃o:Nat⦄ ⦃u:Value⦄ (hv:BoxAt w b o u):BoxAt X b o u:=h.box hb hv
theorem Only.sz {O:Nat} {w X:World} (h:Only O w X):w.heap.size≤X.heap.size:=Nat.le_of_eq h.size.symm
class CalmC (Q:Exit→Act→World→Prop):Prop where
  out:Calm Q
instance {Q:Exit→Act→World→Prop} {K:Act→World→Prop} [h:CalmC Q]:CalmC (Exit.then K Q):=⟨calm_then h.out⟩
instance {Q:Exit→Act→World→Prop} {id:Nat} [h:CalmC Q]:CalmC (Exit.inBlock id Q):=⟨calm_block h.out⟩
instance {P:Program} {fn:Func} {R:Ending→World→Prop}:CalmC (bodyPost P fn R):=⟨calm_body⟩
theorem rb {b c:Bool} (h:b=c):Ending.returned (.bool b)=Ending.returned (.bool c):=h ▸ rfl
theorem BoxAt.c {w w':World} {b o:Nat} {v:Value} (h:BoxAt w b o v) (hE:Ext w w'):w'.cell? ⟨b,o,none⟩=some v:=(BoxAt.ext hE h).1
@[reducible] def iv (x:Int):Value:=.int .i64 x
@[reducible] def pw (b o:Nat):Value:=.pointer (some ⟨b,o,none⟩)
@[reducible] def sv (b o n c:Nat):Value:=.slice (some ⟨b,o,none⟩) n c
section
variable {P:Program} {n:Nat} {L:List Value} {ws:List (Nat × Value)} {w:World} {Q:Exit→Act→World→Prop}
theorem zt {c:Operand} {x y:Code} (h:CW P x Q n L ws w) (hc:evalW L ws c= .bool true:=by kernel_rfl):CW P (.cond c x y) Q n L ws w:=cw_t hc h
theorem zf {c:Operand} {x y:Code} (h:CW P y Q n L ws w) (hc:evalW L ws c= .bool false:=by kernel_rfl):CW P (.cond c x y) Q n L ws w:=cw_f hc h
theorem pick_got {ks:List Nat} (h:(pickW ws ks).isSome=true):pickW ws ks=some ((pickW ws ks).getD []):=by
  cases q:pickW ws ks with
  | none=>rw [q] at h;cases h
  | some v=>rfl
theorem zl {R:List (Nat × Value)→World→Prop} (hJ:∀L' ws' w',R ws' w'→QW Q .normal n L' ws' w') (ks:List Nat) (h:R ((pickW ws ks).getD []) w) (hp:(pickW ws ks).isSome=true:=by kernel_rfl):QW Q .normal n L ws w:=qw_leaf hJ ks (pick_got hp) h
theorem zr {Inv:List (Nat × Value)→World→Nat→Prop} {m:Nat} (ks:List Nat) (m':Nat) (hlt:m'<m) (h:Inv ((pickW ws ks).getD []) w m') (hp:(pickW ws ks).isSome=true:=by kernel_rfl):QW (Exit.then (LoopK n Inv m) Q) .normal n L ws w:=qw_round ks (pick_got hp) m' hlt h
theorem zc {x y:Code} (h:CW P x (Exit.then (y.wp P Q) Q) n L ws w):CW P (.seq x y) Q n L ws w:=cw_seq h
theorem zp {id:Nat} {l:List Oper} (h:PL P l l Q n L ws w):CW P (.region id l.toArray false) Q n L ws w:=cw_plain h
theorem zq {y:Code} (h:CW P y Q n L ws w):QW (Exit.then (y.wp P Q) Q) .normal n L ws w:=qw_then h
theorem zn {ops:List Oper} {y:Code} (h:CW P y Q n L ws w):PL P ops [] (Exit.then (y.wp P Q) Q) n L ws w:=pl_nil (qw_then h)
theorem sc {ev:Operand→Value} {oi:Oper} {N:Value→World→Prop} (f:FuncId) (args:Array Value) (h2:Calls P f args w fun e w'=>∃v,e= .returned v∧N v w') (h1:(execOp ev oi).run P w= .ok (.enter f args) w:=by kernel_rfl):StepN P ev oi w N:=sn_call h1 h2
theorem sw {ev:Operand→Value} {oi:Oper} {N:Value→World→Prop} (t:TypeId) (us:Array Value) (h:∀O X,w.heap.size=O→X.heap.size=O+1→Ext w X→(∀i u,us[i]? =some u→BoxAt X O i u)→N (.pointer (some ⟨O,0,none⟩)) X)
    (h1:(execOp ev oi).run P w= .ok (.value (.pointer (some ⟨w.heap.size,0,none⟩))) (w.alloc (.cells us t)):=by kernel_rfl):StepN P ev oi w N:=sn_new h1 h
variable {ops0 ops:Array Oper} {Q':Exit→Act→World→Prop} {T9:List Row} {S:World→Prop} {fuel:Nat} {done:List Nat}
theorem pD {rest:List Oper} {ops:List Oper} {o o2:Oper} {d d2:Nat} (v v2:Value) (h:PL P ops rest Q n L ((d2,v2) :: (d,v) :: ws) w) (hdst:o.dst=some d:=by rfl) (hok:dstOk n ops=true:=by kernel_rfl) (hd:Nat.blt d n=true:=by kernel_rfl) (hw:wantP ops L ws o.guard=true:=by kernel_rfl)
    (hr:(execOp (evalW L ws) o).run P w= .ok (.value v) w:=by kernel_rfl) (hdst2:o2.dst=some d2:=by rfl) (hd2:Nat.blt d2 n=true:=by kernel_rfl) (hw2:wantP ops L ((d,v) :: ws) o2.guard=true:=by kernel_rfl) (hr2:(execOp (evalW L ((d,v) :: ws)) o2).run P w= .ok (.value v2) w:=by kernel_rfl):PL P ops (o :: o2 :: rest) Q n L ws w:=pl_take v hdst hok hd hw hr (pl_take v2 hdst2 hok hd2 hw2 hr2 h)
theorem dE {id:Nat} {ops0:Array Oper} [hQ:CalmC Q] (T:List Row) (S:World→Prop) (hS:S w.drew) (h:∀(ops:Array Oper) (Q':Exit→Act→World→Prop) (X:World),Ext w X→L.length=n→Reg P ops0 ops Q' L T→Shut (∀ws w,QW Q .normal n L ws w→QW Q' .normal n L ws w)→WD P ops Q' S L ops0.size [] ws X)
    (hm:P.follows .mixedOrders=true:=by kernel_rfl) (ht:tableR ops0=T:=by kernel_rfl) (hg:goodT n ops0.size T=true:=by kernel_rfl) (hs:Region.noSelect ops0=true:=by kernel_rfl):CW P (.region id ops0 true) Q n L ws w:=cw_draw T S hm ht hg hs hQ.out hS h
class AtL (ws:List (Nat × Value)) (ks:List Nat) (ws':outParam (List (Nat × Value))):Prop where
  out:True
instance:AtL ws [] []:=⟨trivial⟩
instance {k:Nat} {ks:List Nat} {v:Value} {r:List (Nat × Value)} [At1 ws k v] [AtL ws ks r]:AtL ws (k :: ks) ((k,v) :: r):=⟨trivial⟩
theorem cK (ks:List Nat) {ws':List (Nat × Value)} {c:Code} [AtL ws ks ws'] (h:∀L',CW P c Q n L' ws' w) (hp:pickW ws ks=some ws':=by kernel_rfl):CW P c Q n L ws w:=cw_clean ks hp h
theorem wW (i:Nat) (v:Value) (j:Nat) (v2:Value) {d d2:Nat} {oi o2:Oper} {r r2:List Oper} (hR:Reg P ops0 ops Q' L T9) (hS:S w) (h:WD P ops Q' S L fuel (j :: i :: done) ((d2,v2) :: (d,v) :: ws) w) (hi:ops0.toList.drop i=oi :: r:=by rfl) (hr:readyT T9 done i=true:=by kernel_rfl) (hdst:oi.dst=some d:=by rfl) (hw:wantedW T9 L ws oi.guard=true:=by kernel_rfl)
    (hy:∀w,S w→(execOp (evalW L ws) oi).run P w= .ok (.value v) w:=by intro w _;kernel_rfl) (hj:ops0.toList.drop j=o2 :: r2:=by rfl) (hr2:readyT T9 (i :: done) j=true:=by kernel_rfl) (hdst2:o2.dst=some d2:=by rfl) (hw2:wantedW T9 L ((d,v) :: ws) o2.guard=true:=by kernel_rfl) (hy2:∀w,S w→(execOp (evalW L ((d,v) :: ws)) o2).run P w= .ok (.value v2) w:=by intro w _;kernel_rfl):WD P ops Q' S L (fuel+1+1) done ws w:=wd_take i v hR hi hr hdst hw hy hS (wd_take j v2 hR hj hr2 hdst2 hw2 hy2 hS h)
theorem wC (i:Nat) (f:FuncId) (args:Array Value) {oi:Oper} {r:List Oper} (hR:Reg P ops0 ops Q' L T9) (h2:Calls P f args w fun e w'=>∃v,e= .returned v∧(S w'∧WD P ops Q' S L fuel (i :: done) (putW oi.dst v ws) w')) (hi:ops0.toList.drop i=oi :: r:=by rfl) (hr:upT done (numbered T9 0)= [i]:=by kernel_rfl) (hr2:readyT T9 done i=true:=by kernel_rfl)
    (hw:wantedW T9 L ws oi.guard=true:=by kernel_rfl) (h1:(execOp (evalW L ws) oi).run P w= .ok (.enter f args) w:=by kernel_rfl):WD P ops Q' S L (fuel+1) done ws w:=wd_step i hR hi hr hr2 hw (sn_call h1 h2)
theorem wN (i:Nat) (t:TypeId) (us:Array Value) {oi:Oper} {r:List Oper} (hR:Reg P ops0 ops Q' L T9) (h:∀O X,w.heap.size=O→X.heap.size=O+1→Ext w X→(∀i u,us[i]? =some u→BoxAt X O i u)→(S X∧WD P ops Q' S L fuel (i :: done) (putW oi.dst (.pointer (some ⟨O,0,none⟩)) ws) X)) (hi:ops0.toList.drop i=oi :: r:=by rfl) (hr:upT done (numbered T9 0)= [i]:=by kernel_rfl) (hr2:readyT T9 done i=true:=by kernel_rfl)
    (hw:wantedW T9 L ws oi.guard=true:=by kernel_rfl) (h1:(execOp (evalW L ws) oi).run P w= .ok (.value (.pointer (some ⟨w.heap.size,0,none⟩))) (w.alloc (.cells us t)):=by kernel_rfl):WD P ops Q' S L (fuel+1) done ws w:=wd_step i hR hi hr hr2 hw (sn_new h1 h)
theorem we (hL:L.length=n) (hR:Reg P ops0 ops Q' L T9) (hK:Shut (∀ws w,QW Q .normal n L ws w→QW Q' .normal n L ws w)) (h:QW Q .normal n L ws w) (hd:upT done (numbered T9 0)= []:=by kernel_rfl):WD P ops Q' S L fuel done ws w:=wd_end hL hR hK hd h
theorem zw (i j:Nat) {oi oj:Oper} {r s:List Oper} (hR:Reg P ops0 ops Q' L T9)
    (h1:StepN P (evalW L ws) oi w fun v w'=>S w'∧WD P ops Q' S L fuel (i :: done) (putW oi.dst v ws) w') (h2:StepN P (evalW L ws) oj w fun v w'=>S w'∧WD P ops Q' S L fuel (j :: done) (putW oj.dst v ws) w')
    (hi:ops0.toList.drop i=oi :: r:=by rfl) (hj:ops0.toList.drop j=oj :: s:=by rfl) (hr:upT done (numbered T9 0)= [i,j]:=by kernel_rfl) (hr2:readyT T9 done i=true:=by kernel_rfl)
    (hwi:wantedW T9 L ws oi.guard=true:=by kernel_rfl) (hwj:wantedW T9 L ws oj.guard=true:=by kernel_rfl):WD P ops Q' S L (fuel+1) done ws w:=wd_two i j hR hi hj hr hr2 hwi hwj h1 h2
end
section
variable {P:Program} {n:Nat} {L:List Value} {ws:List (Nat × Value)} {w:World} {Q:Exit→Act→World→Prop}
theorem qt {K:Act→World→Prop} (h:QW Q .ret n L ws w):QW (Exit.then K Q) .ret n L ws w:=qw_then_ret h
theorem qb {id:Nat} (h:QW Q .ret n L ws w):QW (Exit.inBlock id Q) .ret n L ws w:=qw_block_ret h
theorem qx {K:Act→World→Prop} {id:Nat} (h:QW Q (.exit id) n L ws w):QW (Exit.then K Q) (.exit id) n L ws w:=qw_then_exit h
theorem qo {id:Nat} (h:QW Q .normal n L ws w):QW (Exit.inBlock id Q) (.exit id) n L ws w:=qw_block_out h
theorem cs_ (h:QW Q .normal n L ws w):CW P .skip Q n L ws w:=cw_skip h
theorem ct_ (h:QW Q .ret n L ws w):CW P .ret Q n L ws w:=cw_ret h
theorem cx_ {id:Nat} (h:QW Q (.exit id) n L ws w):CW P (.exit id) Q n L ws w:=cw_exit h
theorem cb_ {id:Nat} {c:Code} (h:CW P c (Exit.inBlock id Q) n L ws w):CW P (.block id c) Q n L ws w:=cw_block h
theorem zR {fn:Func} {R:Ending→World→Prop} {r:ResultVar} (v:Value) (hR:R (.returned (resOf [v])) w) (hf:fn.results= [r].toArray:=by rfl) (h:ResV P (evalW L ws) w [r] [v]:=by exact⟨(by kernel_rfl),trivial⟩):QW (bodyPost P fn R) .ret n L ws w:=qw_ret [v] hf h hR
theorem dT {id:Nat} {ops0:Array Oper} [hQ:CalmC Q] (S:World→Prop) (hS:S w.drew) (h:∀(ops:Array Oper) (Q':Exit→Act→World→Prop) (X:World),Ext w X→L.length=n→Reg P ops0 ops Q' L (tableR ops0)→Shut (∀ws w,QW Q .normal n L ws w→QW Q' .normal n L ws w)→WD P ops Q' S L ops0.size [] ws X) (hm:P.follows .mixedOrders=true:=by kernel_rfl) (hg:goodT n ops0.size (tableR ops0)=true:=by kernel_rfl) (hs:Region.noSelect ops0=true:=by kernel_rfl):CW P (.region id ops0 true) Q n L ws w:=dE (tableR ops0) S hS h hm rfl hg hs
end
@[reducible] def mw (E S:Int) (a:Option Addr) (m c:Nat):Value:=.agg #[iv E,iv S,.slice a m c]
@[reducible] def nv (n:Nat):Value:=.int .i64 (n:Int)
@[reducible] def nw (x y z:Int):Value:=.agg #[iv x,iv y,iv z]
theorem mq2 {w X:World} {b:Nat} {o0:Nat} {u0:Value} {o1:Nat} {u1:Value} {G:Prop} (f:∀ ⦃o:Nat⦄ ⦃u:Value⦄,BoxAt w b o u→BoxAt X b o u) (h0:BoxAt w b o0 u0) (h1:BoxAt w b o1 u1) (k:BoxAt X b o0 u0→BoxAt X b o1 u1→G):G:=k (f h0) (f h1)
theorem mq3 {w X:World} {b:Nat} {o0:Nat} {u0:Value} {o1:Nat} {u1:Value} {o2:Nat} {u2:Value} {G:Prop} (f:∀ ⦃o:Nat⦄ ⦃u:Value⦄,BoxAt w b o u→BoxAt X b o u) (h0:BoxAt w b o0 u0) (h1:BoxAt w b o1 u1) (h2:BoxAt w b o2 u2) (k:BoxAt X b o0 u0→BoxAt X b o1 u1→BoxAt X b o2 u2→G):G:=k (f h0) (f h1) (f h2)
theorem mq5 {w X:World} {b:Nat} {o0:Nat} {u0:Value} {o1:Nat} {u1:Value} {o2:Nat} {u2:Value} {o3:Nat} {u3:Value} {o4:Nat} {u4:Value} {G:Prop} (f:∀ ⦃o:Nat⦄ ⦃u:Value⦄,BoxAt w b o u→BoxAt X b o u) (h0:BoxAt w b o0 u0) (h1:BoxAt w b o1 u1) (h2:BoxAt w b o2 u2) (h3:BoxAt w b o3 u3) (h4:BoxAt w b o4 u4) (k:BoxAt X b o0 u0→BoxAt X b o1 u1→BoxAt X b o2 u2→BoxAt X b o3 u3→BoxAt X b o4 u4→G):G:=k (f h0) (f h1) (f h2) (f h3) (f h4)
theorem mq6 {w X:World} {b:Nat} {o0:Nat} {u0:Value} {o1:Nat} {u1:Value} {o2:Nat} {u2:Value} {o3:Nat} {u3:Value} {o4:Nat} {u4:Value} {o5:Nat} {u5:Value} {G:Prop} (f:∀ ⦃o:Nat⦄ ⦃u:Value⦄,BoxAt w b o u→BoxAt X b o u) (h0:BoxAt w b o0 u0) (h1:BoxAt w b o1 u1) (h2:BoxAt w b o2 u2) (h3:BoxAt w b o3 u3) (h4:BoxAt w b o4 u4) (h5:BoxAt w b o5 u5) (k:BoxAt X b o0 u0→BoxAt X b o1 u1→BoxAt X b o2 u2→BoxAt X b o3 u3→BoxAt X b o4 u4→BoxAt X b o5 u5→G):G:=k (f h0) (f h1) (f h2) (f h3) (f h4) (f h5)
theorem mq12 {w X:World} {b:Nat} {o0:Nat} {u0:Value} {o1:Nat} {u1:Value} {o2:Nat} {u2:Value} {o3:Nat} {u3:Value} {o4:Nat} {u4:Value} {o5:Nat} {u5:Value} {o6:Nat} {u6:Value} {o7:Nat} {u7:Value} {o8:Nat} {u8:Value} {o9:Nat} {u9:Value} {o10:Nat} {u10:Value} {o11:Nat} {u11:Value} {G:Prop} (f:∀ ⦃o:Nat⦄ ⦃u:Value⦄,BoxAt w b o u→BoxAt X b o u) (h0:BoxAt w b o0 u0) (h1:BoxAt w b o1 u1) (h2:BoxAt w b o2 u2) (h3:BoxAt w b o3 u3) (h4:BoxAt w b o4 u4) (h5:BoxAt w b o5 u5) (h6:BoxAt w b o6 u6) (h7:BoxAt w b o7 u7) (h8:BoxAt w b o8 u8) (h9:BoxAt w b o9 u9) (h10:BoxAt w b o10 u10) (h11:BoxAt w b o11 u11) (k:BoxAt X b o0 u0→BoxAt X b o1 u1→BoxAt X b o2 u2→BoxAt X b o3 u3→BoxAt X b o4 u4→BoxAt X b o5 u5→BoxAt X b o6 u6→BoxAt X b o7 u7→BoxAt X b o8 u8→BoxAt X b o9 u9→BoxAt X b o10 u10→BoxAt X b o11 u11→G):G:=k (f h0) (f h1) (f h2) (f h3) (f h4) (f h5) (f h6) (f h7) (f h8) (f h9) (f h10) (f h11)
theorem hj2 {w X:World} {O j:Nat} {o0:Nat} {u0:Value} {o1:Nat} {u1:Value} {G:Prop} (f:∀i x,i≠j→BoxAt w O i x→BoxAt X O i x) (h0:BoxAt w O o0 u0) (h1:BoxAt w O o1 u1) (k:BoxAt X O o0 u0→BoxAt X O o1 u1→G) (e:o0≠j∧o1≠j:=by omega):G:=k (f _ _ e.1 h0) (f _ _ e.2 h1)
theorem hj3 {w X:World} {O j:Nat} {o0:Nat} {u0:Value} {o1:Nat} {u1:Value} {o2:Nat} {u2:Value} {G:Prop} (f:∀i x,i≠j→BoxAt w O i x→BoxAt X O i x) (h0:BoxAt w O o0 u0) (h1:BoxAt w O o1 u1) (h2:BoxAt w O o2 u2) (k:BoxAt X O o0 u0→BoxAt X O o1 u1→BoxAt X O o2 u2→G) (e:o0≠j∧o1≠j∧o2≠j:=by omega):G:=k (f _ _ e.1 h0) (f _ _ e.2.1 h1) (f _ _ e.2.2 h2)
theorem hj4 {w X:World} {O j:Nat} {o0:Nat} {u0:Value} {o1:Nat} {u1:Value} {o2:Nat} {u2:Value} {o3:Nat} {u3:Value} {G:Prop} (f:∀i x,i≠j→BoxAt w O i x→BoxAt X O i x) (h0:BoxAt w O o0 u0) (h1:BoxAt w O o1 u1) (h2:BoxAt w O o2 u2) (h3:BoxAt w O o3 u3) (k:BoxAt X O o0 u0→BoxAt X O o1 u1→BoxAt X O o2 u2→BoxAt X O o3 u3→G) (e:o0≠j∧o1≠j∧o2≠j∧o3≠j:=by omega):G:=k (f _ _ e.1 h0) (f _ _ e.2.1 h1) (f _ _ e.2.2.1 h2) (f _ _ e.2.2.2 h3)
theorem hj6 {w X:World} {O j:Nat} {o0:Nat} {u0:Value} {o1:Nat} {u1:Value} {o2:Nat} {u2:Value} {o3:Nat} {u3:Value} {o4:Nat} {u4:Value} {o5:Nat} {u5:Value} {G:Prop} (f:∀i x,i≠j→BoxAt w O i x→BoxAt X O i x) (h0:BoxAt w O o0 u0) (h1:BoxAt w O o1 u1) (h2:BoxAt w O o2 u2) (h3:BoxAt w O o3 u3) (h4:BoxAt w O o4 u4) (h5:BoxAt w O o5 u5) (k:BoxAt X O o0 u0→BoxAt X O o1 u1→BoxAt X O o2 u2→BoxAt X O o3 u3→BoxAt X O o4 u4→BoxAt X O o5 u5→G) (e:o0≠j∧o1≠j∧o2≠j∧o3≠j∧o4≠j∧o5≠j:=by omega):G:=k (f _ _ e.1 h0) (f _ _ e.2.1 h1) (f _ _ e.2.2.1 h2) (f _ _ e.2.2.2.1 h3) (f _ _ e.2.2.2.2.1 h4) (f _ _ e.2.2.2.2.2 h5)
theorem hj7 {w X:World} {O j:Nat} {o0:Nat} {u0:Value} {o1:Nat} {u1:Value} {o2:Nat} {u2:Value} {o3:Nat} {u3:Value} {o4:Nat} {u4:Value} {o5:Nat} {u5:Value} {o6:Nat} {u6:Value} {G:Prop} (f:∀i x,i≠j→BoxAt w O i x→BoxAt X O i x) (h0:BoxAt w O o0 u0) (h1:BoxAt w O o1 u1) (h2:BoxAt w O o2 u2) (h3:BoxAt w O o3 u3) (h4:BoxAt w O o4 u4) (h5:BoxAt w O o5 u5) (h6:BoxAt w O o6 u6) (k:BoxAt X O o0 u0→BoxAt X O o1 u1→BoxAt X O o2 u2→BoxAt X O o3 u3→BoxAt X O o4 u4→BoxAt X O o5 u5→BoxAt X O o6 u6→G) (e:o0≠j∧o1≠j∧o2≠j∧o3≠j∧o4≠j∧o5≠j∧o6≠j:=by omega):G:=k (f _ _ e.1 h0) (f _ _ e.2.1 h1) (f _ _ e.2.2.1 h2) (f _ _ e.2.2.2.1 h3) (f _ _ e.2.2.2.2.1 h4) (f _ _ e.2.2.2.2.2.1 h5) (f _ _ e.2.2.2.2.2.2 h6)
theorem hj8 {w X:World} {O j:Nat} {o0:Nat} {u0:Value} {o1:Nat} {u1:Value} {o2:Nat} {u2:Value} {o3:Nat} {u3:Value} {o4:Nat} {u4:Value} {o5:Nat} {u5:Value} {o6:Nat} {u6:Value} {o7:Nat} {u7:Value} {G:Prop} (f:∀i x,i≠j→BoxAt w O i x→BoxAt X O i x) (h0:BoxAt w O o0 u0) (h1:BoxAt w O o1 u1) (h2:BoxAt w O o2 u2) (h3:BoxAt w O o3 u3) (h4:BoxAt w O o4 u4) (h5:BoxAt w O o5 u5) (h6:BoxAt w O o6 u6) (h7:BoxAt w O o7 u7) (k:BoxAt X O o0 u0→BoxAt X O o1 u1→BoxAt X O o2 u2→BoxAt X O o3 u3→BoxAt X O o4 u4→BoxAt X O o5 u5→BoxAt X O o6 u6→BoxAt X O o7 u7→G) (e:o0≠j∧o1≠j∧o2≠j∧o3≠j∧o4≠j∧o5≠j∧o6≠j∧o7≠j:=by omega):G:=k (f _ _ e.1 h0) (f _ _ e.2.1 h1) (f _ _ e.2.2.1 h2) (f _ _ e.2.2.2.1 h3) (f _ _ e.2.2.2.2.1 h4) (f _ _ e.2.2.2.2.2.1 h5) (f _ _ e.2.2.2.2.2.2.1 h6) (f _ _ e.2.2.2.2.2.2.2 h7)
theorem hj9 {w X:World} {O j:Nat} {o0:Nat} {u0:Value} {o1:Nat} {u1:Value} {o2:Nat} {u2:Value} {o3:Nat} {u3:Value} {o4:Nat} {u4:Value} {o5:Nat} {u5:Value} {o6:Nat} {u6:Value} {o7:Nat} {u7:Value} {o8:Nat} {u8:Value} {G:Prop} (f:∀i x,i≠j→BoxAt w O i x→BoxAt X O i x) (h0:BoxAt w O o0 u0) (h1:BoxAt w O o1 u1) (h2:BoxAt w O o2 u2) (h3:BoxAt w O o3 u3) (h4:BoxAt w O o4 u4) (h5:BoxAt w O o5 u5) (h6:BoxAt w O o6 u6) (h7:BoxAt w O o7 u7) (h8:BoxAt w O o8 u8) (k:BoxAt X O o0 u0→BoxAt X O o1 u1→BoxAt X O o2 u2→BoxAt X O o3 u3→BoxAt X O o4 u4→BoxAt X O o5 u5→BoxAt X O o6 u6→BoxAt X O o7 u7→BoxAt X O o8 u8→G) (e:o0≠j∧o1≠j∧o2≠j∧o3≠j∧o4≠j∧o5≠j∧o6≠j∧o7≠j∧o8≠j:=by omega):G:=k (f _ _ e.1 h0) (f _ _ e.2.1 h1) (f _ _ e.2.2.1 h2) (f _ _ e.2.2.2.1 h3) (f _ _ e.2.2.2.2.1 h4) (f _ _ e.2.2.2.2.2.1 h5) (f _ _ e.2.2.2.2.2.2.1 h6) (f _ _ e.2.2.2.2.2.2.2.1 h7) (f _ _ e.2.2.2.2.2.2.2.2 h8)
theorem hj10 {w X:World} {O j:Nat} {o0:Nat} {u0:Value} {o1:Nat} {u1:Value} {o2:Nat} {u2:Value} {o3:Nat} {u3:Value} {o4:Nat} {u4:Value} {o5:Nat} {u5:Value} {o6:Nat} {u6:Value} {o7:Nat} {u7:Value} {o8:Nat} {u8:Value} {o9:Nat} {u9:Value} {G:Prop} (f:∀i x,i≠j→BoxAt w O i x→BoxAt X O i x) (h0:BoxAt w O o0 u0) (h1:BoxAt w O o1 u1) (h2:BoxAt w O o2 u2) (h3:BoxAt w O o3 u3) (h4:BoxAt w O o4 u4) (h5:BoxAt w O o5 u5) (h6:BoxAt w O o6 u6) (h7:BoxAt w O o7 u7) (h8:BoxAt w O o8 u8) (h9:BoxAt w O o9 u9) (k:BoxAt X O o0 u0→BoxAt X O o1 u1→BoxAt X O o2 u2→BoxAt X O o3 u3→BoxAt X O o4 u4→BoxAt X O o5 u5→BoxAt X O o6 u6→BoxAt X O o7 u7→BoxAt X O o8 u8→BoxAt X O o9 u9→G) (e:o0≠j∧o1≠j∧o2≠j∧o3≠j∧o4≠j∧o5≠j∧o6≠j∧o7≠j∧o8≠j∧o9≠j:=by omega):G:=k (f _ _ e.1 h0) (f _ _ e.2.1 h1) (f _ _ e.2.2.1 h2) (f _ _ e.2.2.2.1 h3) (f _ _ e.2.2.2.2.1 h4) (f _ _ e.2.2.2.2.2.1 h5) (f _ _ e.2.2.2.2.2.2.1 h6) (f _ _ e.2.2.2.2.2.2.2.1 h7) (f _ _ e.2.2.2.2.2.2.2.2.1 h8) (f _ _ e.2.2.2.2.2.2.2.2.2 h9)
theorem hh10 {w X:World} {O j j2:Nat} {o0:Nat} {u0:Value} {o1:Nat} {u1:Value} {o2:Nat} {u2:Value} {o3:Nat} {u3:Value} {o4:Nat} {u4:Value} {o5:Nat} {u5:Value} {o6:Nat} {u6:Value} {o7:Nat} {u7:Value} {o8:Nat} {u8:Value} {o9:Nat} {u9:Value} {G:Prop} (f:∀i x,i≠j→i≠j2→BoxAt w O i x→BoxAt X O i x) (h0:BoxAt w O o0 u0) (h1:BoxAt w O o1 u1) (h2:BoxAt w O o2 u2) (h3:BoxAt w O o3 u3) (h4:BoxAt w O o4 u4) (h5:BoxAt w O o5 u5) (h6:BoxAt w O o6 u6) (h7:BoxAt w O o7 u7) (h8:BoxAt w O o8 u8) (h9:BoxAt w O o9 u9) (k:BoxAt X O o0 u0→BoxAt X O o1 u1→BoxAt X O o2 u2→BoxAt X O o3 u3→BoxAt X O o4 u4→BoxAt X O o5 u5→BoxAt X O o6 u6→BoxAt X O o7 u7→BoxAt X O o8 u8→BoxAt X O o9 u9→G) (e:(o0≠j∧o0≠j2)∧(o1≠j∧o1≠j2)∧(o2≠j∧o2≠j2)∧(o3≠j∧o3≠j2)∧(o4≠j∧o4≠j2)∧(o5≠j∧o5≠j2)∧(o6≠j∧o6≠j2)∧(o7≠j∧o7≠j2)∧(o8≠j∧o8≠j2)∧(o9≠j∧o9≠j2):=by omega):G:=k (f _ _ e.1.1 e.1.2 h0) (f _ _ e.2.1.1 e.2.1.2 h1) (f _ _ e.2.2.1.1 e.2.2.1.2 h2) (f _ _ e.2.2.2.1.1 e.2.2.2.1.2 h3) (f _ _ e.2.2.2.2.1.1 e.2.2.2.2.1.2 h4) (f _ _ e.2.2.2.2.2.1.1 e.2.2.2.2.2.1.2 h5) (f _ _ e.2.2.2.2.2.2.1.1 e.2.2.2.2.2.2.1.2 h6) (f _ _ e.2.2.2.2.2.2.2.1.1 e.2.2.2.2.2.2.2.1.2 h7) (f _ _ e.2.2.2.2.2.2.2.2.1.1 e.2.2.2.2.2.2.2.2.1.2 h8) (f _ _ e.2.2.2.2.2.2.2.2.2.1 e.2.2.2.2.2.2.2.2.2.2 h9)
theorem hj11 {w X:World} {O j:Nat} {o0:Nat} {u0:Value} {o1:Nat} {u1:Value} {o2:Nat} {u2:Value} {o3:Nat} {u3:Value} {o4:Nat} {u4:Value} {o5:Nat} {u5:Value} {o6:Nat} {u6:Value} {o7:Nat} {u7:Value} {o8:Nat} {u8:Value} {o9:Nat} {u9:Value} {o10:Nat} {u10:Value} {G:Prop} (f:∀i x,i≠j→BoxAt w O i x→BoxAt X O i x) (h0:BoxAt w O o0 u0) (h1:BoxAt w O o1 u1) (h2:BoxAt w O o2 u2) (h3:BoxAt w O o3 u3) (h4:BoxAt w O o4 u4) (h5:BoxAt w O o5 u5) (h6:BoxAt w O o6 u6) (h7:BoxAt w O o7 u7) (h8:BoxAt w O o8 u8) (h9:BoxAt w O o9 u9) (h10:BoxAt w O o10 u10) (k:BoxAt X O o0 u0→BoxAt X O o1 u1→BoxAt X O o2 u2→BoxAt X O o3 u3→BoxAt X O o4 u4→BoxAt X O o5 u5→BoxAt X O o6 u6→BoxAt X O o7 u7→BoxAt X O o8 u8→BoxAt X O o9 u9→BoxAt X O o10 u10→G) (e:o0≠j∧o1≠j∧o2≠j∧o3≠j∧o4≠j∧o5≠j∧o6≠j∧o7≠j∧o8≠j∧o9≠j∧o10≠j:=by omega):G:=k (f _ _ e.1 h0) (f _ _ e.2.1 h1) (f _ _ e.2.2.1 h2) (f _ _ e.2.2.2.1 h3) (f _ _ e.2.2.2.2.1 h4) (f _ _ e.2.2.2.2.2.1 h5) (f _ _ e.2.2.2.2.2.2.1 h6) (f _ _ e.2.2.2.2.2.2.2.1 h7) (f _ _ e.2.2.2.2.2.2.2.2.1 h8) (f _ _ e.2.2.2.2.2.2.2.2.2.1 h9) (f _ _ e.2.2.2.2.2.2.2.2.2.2 h10)
theorem nv1 {w w':World} {p0 q0 G:Prop} [c0:MvC w w' p0 q0] (e:Ext w w') (h0:p0) (h:q0→w.heap.size≤w'.heap.size→G):G:=h (c0.out e h0) e.size
theorem nv2 {w w':World} {p0 q0 p1 q1 G:Prop} [c0:MvC w w' p0 q0] [c1:MvC w w' p1 q1] (e:Ext w w') (h0:p0) (h1:p1) (h:q0→q1→w.heap.size≤w'.heap.size→G):G:=h (c0.out e h0) (c1.out e h1) e.size
theorem nv3 {w w':World} {p0 q0 p1 q1 p2 q2 G:Prop} [c0:MvC w w' p0 q0] [c1:MvC w w' p1 q1] [c2:MvC w w' p2 q2] (e:Ext w w') (h0:p0) (h1:p1) (h2:p2) (h:q0→q1→q2→w.heap.size≤w'.heap.size→G):G:=h (c0.out e h0) (c1.out e h1) (c2.out e h2) e.size
theorem nv4 {w w':World} {p0 q0 p1 q1 p2 q2 p3 q3 G:Prop} [c0:MvC w w' p0 q0] [c1:MvC w w' p1 q1] [c2:MvC w w' p2 q2] [c3:MvC w w' p3 q3] (e:Ext w w') (h0:p0) (h1:p1) (h2:p2) (h3:p3) (h:q0→q1→q2→q3→w.heap.size≤w'.heap.size→G):G:=h (c0.out e h0) (c1.out e h1) (c2.out e h2) (c3.out e h3) e.size
theorem nv5 {w w':World} {p0 q0 p1 q1 p2 q2 p3 q3 p4 q4 G:Prop} [c0:MvC w w' p0 q0] [c1:MvC w w' p1 q1] [c2:MvC w w' p2 q2] [c3:MvC w w' p3 q3] [c4:MvC w w' p4 q4] (e:Ext w w') (h0:p0) (h1:p1) (h2:p2) (h3:p3) (h4:p4) (h:q0→q1→q2→q3→q4→w.heap.size≤w'.heap.size→G):G:=h (c0.out e h0) (c1.out e h1) (c2.out e h2) (c3.out e h3) (c4.out e h4) e.size
theorem nv6 {w w':World} {p0 q0 p1 q1 p2 q2 p3 q3 p4 q4 p5 q5 G:Prop} [c0:MvC w w' p0 q0] [c1:MvC w w' p1 q1] [c2:MvC w w' p2 q2] [c3:MvC w w' p3 q3] [c4:MvC w w' p4 q4] [c5:MvC w w' p5 q5] (e:Ext w w') (h0:p0) (h1:p1) (h2:p2) (h3:p3) (h4:p4) (h5:p5) (h:q0→q1→q2→q3→q4→q5→w.heap.size≤w'.heap.size→G):G:=h (c0.out e h0) (c1.out e h1) (c2.out e h2) (c3.out e h3) (c4.out e h4) (c5.out e h5) e.size
theorem nv7 {w w':World} {p0 q0 p1 q1 p2 q2 p3 q3 p4 q4 p5 q5 p6 q6 G:Prop} [c0:MvC w w' p0 q0] [c1:MvC w w' p1 q1] [c2:MvC w w' p2 q2] [c3:MvC w w' p3 q3] [c4:MvC w w' p4 q4] [c5:MvC w w' p5 q5] [c6:MvC w w' p6 q6] (e:Ext w w') (h0:p0) (h1:p1) (h2:p2) (h3:p3) (h4:p4) (h5:p5) (h6:p6) (h:q0→q1→q2→q3→q4→q5→q6→w.heap.size≤w'.heap.size→G):G:=h (c0.out e h0) (c1.out e h1) (c2.out e h2) (c3.out e h3) (c4.out e h4) (c5.out e h5) (c6.out e h6) e.size
theorem nv9 {w w':World} {p0 q0 p1 q1 p2 q2 p3 q3 p4 q4 p5 q5 p6 q6 p7 q7 p8 q8 G:Prop} [c0:MvC w w' p0 q0] [c1:MvC w w' p1 q1] [c2:MvC w w' p2 q2] [c3:MvC w w' p3 q3] [c4:MvC w w' p4 q4] [c5:MvC w w' p5 q5] [c6:MvC w w' p6 q6] [c7:MvC w w' p7 q7] [c8:MvC w w' p8 q8] (e:Ext w w') (h0:p0) (h1:p1) (h2:p2) (h3:p3) (h4:p4) (h5:p5) (h6:p6) (h7:p7) (h8:p8) (h:q0→q1→q2→q3→q4→q5→q6→q7→q8→w.heap.size≤w'.heap.size→G):G:=h (c0.out e h0) (c1.out e h1) (c2.out e h2) (c3.out e h3) (c4.out e h4) (c5.out e h5) (c6.out e h6) (c7.out e h7) (c8.out e h8) e.size
theorem nv12 {w w':World} {p0 q0 p1 q1 p2 q2 p3 q3 p4 q4 p5 q5 p6 q6 p7 q7 p8 q8 p9 q9 p10 q10 p11 q11 G:Prop} [c0:MvC w w' p0 q0] [c1:MvC w w' p1 q1] [c2:MvC w w' p2 q2] [c3:MvC w w' p3 q3] [c4:MvC w w' p4 q4] [c5:MvC w w' p5 q5] [c6:MvC w w' p6 q6] [c7:MvC w w' p7 q7] [c8:MvC w w' p8 q8] [c9:MvC w w' p9 q9] [c10:MvC w w' p10 q10] [c11:MvC w w' p11 q11] (e:Ext w w') (h0:p0) (h1:p1) (h2:p2) (h3:p3) (h4:p4) (h5:p5) (h6:p6) (h7:p7) (h8:p8) (h9:p9) (h10:p10) (h11:p11) (h:q0→q1→q2→q3→q4→q5→q6→q7→q8→q9→q10→q11→w.heap.size≤w'.heap.size→G):G:=h (c0.out e h0) (c1.out e h1) (c2.out e h2) (c3.out e h3) (c4.out e h4) (c5.out e h5) (c6.out e h6) (c7.out e h7) (c8.out e h8) (c9.out e h9) (c10.out e h10) (c11.out e h11) e.size
theorem nv16 {w w':World} {p0 q0 p1 q1 p2 q2 p3 q3 p4 q4 p5 q5 p6 q6 p7 q7 p8 q8 p9 q9 p10 q10 p11 q11 p12 q12 p13 q13 p14 q14 p15 q15 G:Prop} [c0:MvC w w' p0 q0] [c1:MvC w w' p1 q1] [c2:MvC w w' p2 q2] [c3:MvC w w' p3 q3] [c4:MvC w w' p4 q4] [c5:MvC w w' p5 q5] [c6:MvC w w' p6 q6] [c7:MvC w w' p7 q7] [c8:MvC w w' p8 q8] [c9:MvC w w' p9 q9] [c10:MvC w w' p10 q10] [c11:MvC w w' p11 q11] [c12:MvC w w' p12 q12] [c13:MvC w w' p13 q13] [c14:MvC w w' p14 q14] [c15:MvC w w' p15 q15] (e:Ext w w') (h0:p0) (h1:p1) (h2:p2) (h3:p3) (h4:p4) (h5:p5) (h6:p6) (h7:p7) (h8:p8) (h9:p9) (h10:p10) (h11:p11) (h12:p12) (h13:p13) (h14:p14) (h15:p15) (h:q0→q1→q2→q3→q4→q5→q6→q7→q8→q9→q10→q11→q12→q13→q14→q15→w.heap.size≤w'.heap.size→G):G:=h (c0.out e h0) (c1.out e h1) (c2.out e h2) (c3.out e h3) (c4.out e h4) (c5.out e h5) (c6.out e h6) (c7.out e h7) (c8.out e h8) (c9.out e h9) (c10.out e h10) (c11.out e h11) (c12.out e h12) (c13.out e h13) (c14.out e h14) (c15.out e h15) e.size
theorem pUT {P:Program} {n:Nat} {L:List Value} {ws:List (Nat × Value)} {w:World} {Q:Exit→Act→World→Prop} {ops rest:List Oper} {o1 o2:Oper} {d1 d2:Nat} (v1:Value) (r1:(execOp (evalW L ws) o1).run P w= .ok (.value v1) w) (v2:Value) (h:PL P ops rest Q n L ((d2,v2) :: (d1,v1) :: ws) w) (e1:o1.dst=some d1:=by rfl) (hok:dstOk n ops=true:=by kernel_rfl) (b1:Nat.blt d1 n=true:=by kernel_rfl) (g1:wantP ops L ws o1.guard=true:=by kernel_rfl) (e2:o2.dst=some d2:=by rfl) (b2:Nat.blt d2 n=true:=by kernel_rfl) (g2:wantP ops L ((d1,v1) :: ws) o2.guard=true:=by kernel_rfl) (r2:(execOp (evalW L ((d1,v1) :: ws)) o2).run P w= .ok (.value v2) w:=by kernel_rfl):PL P ops (o1 :: o2 :: rest) Q n L ws w:=pl_take v1 e1 hok b1 g1 r1 (pl_take v2 e2 hok b2 g2 r2 h)
theorem pUD {P:Program} {n:Nat} {L:List Value} {ws:List (Nat × Value)} {w:World} {Q:Exit→Act→World→Prop} {ops rest:List Oper} {o1 o2 o3:Oper} {d1 d2 d3:Nat} (v1:Value) (r1:(execOp (evalW L ws) o1).run P w= .ok (.value v1) w) (v2:Value) (v3:Value) (h:PL P ops rest Q n L ((d3,v3) :: (d2,v2) :: (d1,v1) :: ws) w) (e1:o1.dst=some d1:=by rfl) (hok:dstOk n ops=true:=by kernel_rfl) (b1:Nat.blt d1 n=true:=by kernel_rfl) (g1:wantP ops L ws o1.guard=true:=by kernel_rfl) (e2:o2.dst=some d2:=by rfl) (b2:Nat.blt d2 n=true:=by kernel_rfl) (g2:wantP ops L ((d1,v1) :: ws) o2.guard=true:=by kernel_rfl) (r2:(execOp (evalW L ((d1,v1) :: ws)) o2).run P w= .ok (.value v2) w:=by kernel_rfl) (e3:o3.dst=some d3:=by rfl) (b3:Nat.blt d3 n=true:=by kernel_rfl) (g3:wantP ops L ((d2,v2) :: (d1,v1) :: ws) o3.guard=true:=by kernel_rfl) (r3:(execOp (evalW L ((d2,v2) :: (d1,v1) :: ws)) o3).run P w= .ok (.value v3) w:=by kernel_rfl):PL P ops (o1 :: o2 :: o3 :: rest) Q n L ws w:=pl_take v1 e1 hok b1 g1 r1 (pl_take v2 e2 hok b2 g2 r2 (pl_take v3 e3 hok b3 g3 r3 h))
theorem pX3 {P:Program} {n:Nat} {L:List Value} {ws:List (Nat × Value)} {w:World} {Q:Exit→Act→World→Prop} {ops rest:List Oper} {o1 o2 o3 o4:Oper} {d1 d2 d3 d4:Nat} (v1:Value) (r1:(execOp (evalW L ws) o1).run P w= .ok (.value v1) w) (v2:Value) (v3:Value) (v4:Value) (h:PL P ops rest Q n L ((d4,v4) :: (d3,v3) :: (d2,v2) :: (d1,v1) :: ws) w) (e1:o1.dst=some d1:=by rfl) (hok:dstOk n ops=true:=by kernel_rfl) (b1:Nat.blt d1 n=true:=by kernel_rfl) (g1:wantP ops L ws o1.guard=true:=by kernel_rfl) (e2:o2.dst=some d2:=by rfl) (b2:Nat.blt d2 n=true:=by kernel_rfl) (g2:wantP ops L ((d1,v1) :: ws) o2.guard=true:=by kernel_rfl) (r2:(execOp (evalW L ((d1,v1) :: ws)) o2).run P w= .ok (.value v2) w:=by kernel_rfl) (e3:o3.dst=some d3:=by rfl) (b3:Nat.blt d3 n=true:=by kernel_rfl) (g3:wantP ops L ((d2,v2) :: (d1,v1) :: ws) o3.guard=true:=by kernel_rfl) (r3:(execOp (evalW L ((d2,v2) :: (d1,v1) :: ws)) o3).run P w= .ok (.value v3) w:=by kernel_rfl) (e4:o4.dst=some d4:=by rfl) (b4:Nat.blt d4 n=true:=by kernel_rfl) (g4:wantP ops L ((d3,v3) :: (d2,v2) :: (d1,v1) :: ws) o4.guard=true:=by kernel_rfl) (r4:(execOp (evalW L ((d3,v3) :: (d2,v2) :: (d1,v1) :: ws)) o4).run P w= .ok (.value v4) w:=by kernel_rfl):PL P ops (o1 :: o2 :: o3 :: o4 :: rest) Q n L ws w:=pl_take v1 e1 hok b1 g1 r1 (pl_take v2 e2 hok b2 g2 r2 (pl_take v3 e3 hok b3 g3 r3 (pl_take v4 e4 hok b4 g4 r4 h)))
theorem pK2 {P:Program} {n:Nat} {L:List Value} {ws:List (Nat × Value)} {w:World} {Q:Exit→Act→World→Prop} {ops rest:List Oper} {o1 o2:Oper} {d1 d2:Nat}  (h:PL P ops rest Q n L ((d2,undef) :: (d1,undef) :: ws) w) (e1:o1.dst=some d1:=by rfl) (hok:dstOk n ops=true:=by kernel_rfl) (b1:Nat.blt d1 n=true:=by kernel_rfl) (g1:wantP ops L ws o1.guard=false:=by kernel_rfl) (e2:o2.dst=some d2:=by rfl) (b2:Nat.blt d2 n=true:=by kernel_rfl) (g2:wantP ops L ((d1,undef) :: ws) o2.guard=false:=by kernel_rfl):PL P ops (o1 :: o2 :: rest) Q n L ws w:=pl_skip e1 hok b1 g1 (pl_skip e2 hok b2 g2 h)
theorem pK3 {P:Program} {n:Nat} {L:List Value} {ws:List (Nat × Value)} {w:World} {Q:Exit→Act→World→Prop} {ops rest:List Oper} {o1 o2 o3:Oper} {d1 d2 d3:Nat}  (h:PL P ops rest Q n L ((d3,undef) :: (d2,undef) :: (d1,undef) :: ws) w) (e1:o1.dst=some d1:=by rfl) (hok:dstOk n ops=true:=by kernel_rfl) (b1:Nat.blt d1 n=true:=by kernel_rfl) (g1:wantP ops L ws o1.guard=false:=by kernel_rfl) (e2:o2.dst=some d2:=by rfl) (b2:Nat.blt d2 n=true:=by kernel_rfl) (g2:wantP ops L ((d1,undef) :: ws) o2.guard=false:=by kernel_rfl) (e3:o3.dst=some d3:=by rfl) (b3:Nat.blt d3 n=true:=by kernel_rfl) (g3:wantP ops L ((d2,undef) :: (d1,undef) :: ws) o3.guard=false:=by kernel_rfl):PL P ops (o1 :: o2 :: o3 :: rest) Q n L ws w:=pl_skip e1 hok b1 g1 (pl_skip e2 hok b2 g2 (pl_skip e3 hok b3 g3 h))
theorem pK4 {P:Program} {n:Nat} {L:List Value} {ws:List (Nat × Value)} {w:World} {Q:Exit→Act→World→Prop} {ops rest:List Oper} {o1 o2 o3 o4:Oper} {d1 d2 d3 d4:Nat}  (h:PL P ops rest Q n L ((d4,undef) :: (d3,undef) :: (d2,undef) :: (d1,undef) :: ws) w) (e1:o1.dst=some d1:=by rfl) (hok:dstOk n ops=true:=by kernel_rfl) (b1:Nat.blt d1 n=true:=by kernel_rfl) (g1:wantP ops L ws o1.guard=false:=by kernel_rfl) (e2:o2.dst=some d2:=by rfl) (b2:Nat.blt d2 n=true:=by kernel_rfl) (g2:wantP ops L ((d1,undef) :: ws) o2.guard=false:=by kernel_rfl) (e3:o3.dst=some d3:=by rfl) (b3:Nat.blt d3 n=true:=by kernel_rfl) (g3:wantP ops L ((d2,undef) :: (d1,undef) :: ws) o3.guard=false:=by kernel_rfl) (e4:o4.dst=some d4:=by rfl) (b4:Nat.blt d4 n=true:=by kernel_rfl) (g4:wantP ops L ((d3,undef) :: (d2,undef) :: (d1,undef) :: ws) o4.guard=false:=by kernel_rfl):PL P ops (o1 :: o2 :: o3 :: o4 :: rest) Q n L ws w:=pl_skip e1 hok b1 g1 (pl_skip e2 hok b2 g2 (pl_skip e3 hok b3 g3 (pl_skip e4 hok b4 g4 h)))
theorem pK8 {P:Program} {n:Nat} {L:List Value} {ws:List (Nat × Value)} {w:World} {Q:Exit→Act→World→Prop} {ops rest:List Oper} {o1 o2 o3 o4 o5 o6 o7 o8:Oper} {d1 d2 d3 d4 d5 d6 d7 d8:Nat}  (h:PL P ops rest Q n L ((d8,undef) :: (d7,undef) :: (d6,undef) :: (d5,undef) :: (d4,undef) :: (d3,undef) :: (d2,undef) :: (d1,undef) :: ws) w) (e1:o1.dst=some d1:=by rfl) (hok:dstOk n ops=true:=by kernel_rfl) (b1:Nat.blt d1 n=true:=by kernel_rfl) (g1:wantP ops L ws o1.guard=false:=by kernel_rfl) (e2:o2.dst=some d2:=by rfl) (b2:Nat.blt d2 n=true:=by kernel_rfl) (g2:wantP ops L ((d1,undef) :: ws) o2.guard=false:=by kernel_rfl) (e3:o3.dst=some d3:=by rfl) (b3:Nat.blt d3 n=true:=by kernel_rfl) (g3:wantP ops L ((d2,undef) :: (d1,undef) :: ws) o3.guard=false:=by kernel_rfl) (e4:o4.dst=some d4:=by rfl) (b4:Nat.blt d4 n=true:=by kernel_rfl) (g4:wantP ops L ((d3,undef) :: (d2,undef) :: (d1,undef) :: ws) o4.guard=false:=by kernel_rfl) (e5:o5.dst=some d5:=by rfl) (b5:Nat.blt d5 n=true:=by kernel_rfl) (g5:wantP ops L ((d4,undef) :: (d3,undef) :: (d2,undef) :: (d1,undef) :: ws) o5.guard=false:=by kernel_rfl) (e6:o6.dst=some d6:=by rfl) (b6:Nat.blt d6 n=true:=by kernel_rfl) (g6:wantP ops L ((d5,undef) :: (d4,undef) :: (d3,undef) :: (d2,undef) :: (d1,undef) :: ws) o6.guard=false:=by kernel_rfl) (e7:o7.dst=some d7:=by rfl) (b7:Nat.blt d7 n=true:=by kernel_rfl) (g7:wantP ops L ((d6,undef) :: (d5,undef) :: (d4,undef) :: (d3,undef) :: (d2,undef) :: (d1,undef) :: ws) o7.guard=false:=by kernel_rfl) (e8:o8.dst=some d8:=by rfl) (b8:Nat.blt d8 n=true:=by kernel_rfl) (g8:wantP ops L ((d7,undef) :: (d6,undef) :: (d5,undef) :: (d4,undef) :: (d3,undef) :: (d2,undef) :: (d1,undef) :: ws) o8.guard=false:=by kernel_rfl):PL P ops (o1 :: o2 :: o3 :: o4 :: o5 :: o6 :: o7 :: o8 :: rest) Q n L ws w:=pl_skip e1 hok b1 g1 (pl_skip e2 hok b2 g2 (pl_skip e3 hok b3 g3 (pl_skip e4 hok b4 g4 (pl_skip e5 hok b5 g5 (pl_skip e6 hok b6 g6 (pl_skip e7 hok b7 g7 (pl_skip e8 hok b8 g8 h)))))))
theorem cC_ {P:Program} {w:World} {f:FuncId} {fn:Func} {c:Code} {av:List Value} {R:Ending→World→Prop} (n:Nat) (ws:List (Nat × Value)) (hf:P.funcs[f]? =some fn) (hn:fn.ntmps=n) (h:∀L,CW P c (bodyPost P fn R) n L ws w) (hb:fn.body=some c:=by rfl) (he:av ++ List.replicate (n - av.length) undef=setAll (List.replicate n undef) ws:=by kernel_rfl) (hl:ws.all (fun p=>Nat.blt p.1 n)=true:=by kernel_rfl):Calls P f av.toArray w R:=calls_cw n ws hf hb hn he hl h
@[reducible] def z33:Array Value:=#[iv 0,.slice none 0 0,iv 0,iv 0,iv 0,iv 0,.bool false,iv 0,iv 0,iv 0,.slice none 0 0,.slice none 0 0]
@[reducible] def z28:Array Value:=#[iv 0,iv 0,iv 0,.slice none 0 0,iv 0,iv 0,.bool false]
@[reducible] def z42:Array Value:=#[iv 0,iv 0,.slice none 0 0]
theorem nq_ {a b:Nat} (h:a=b):a≤b:=Nat.le_of_eq h
theorem nl_ {a b c:Nat} (h:a<b) (k:b≤c):a<c:=Nat.lt_of_lt_of_le h k
theorem nn_ {a b:Nat} (h:a≤b):¬b<a:=Nat.not_lt_of_le h
theorem nr_ (a:Nat):a≤a:=Nat.le_refl a
theorem er_ (w:World):Ext w w:=Ext.refl w
theorem Ext.z {w X:World} (h:Ext w X):w.heap.size≤X.heap.size:=h.size
end Go.Proofs.YtpfajhcdfgpgmaaGreatDoor

namespace Go.Proofs.YtpfajhcdfgpgmaaGreatDoor
open Go.RowKit
section
variable {P:Program} {ev:Operand→Value} {o:Oper} {w:World}
theorem ex_load {t:TypeId} {x:Operand} {p v:Value} (hop:o.op= .load t x) (hx:ev x=p) (h:(Instr.loadAt t p).run P w= .ok v w):(execOp ev o).run P w= .ok (.value v) w:=by
 simp [execOp,hop,hx,h,Result.andThen]
theorem ex_store {t:TypeId} {x y:Operand} {p v:Value} {w':World} (hop:o.op= .store t x y) (hx:ev x=p) (hy:ev y=v) (h:(Instr.storeAt t p v).run P w= .ok () w'):(execOp ev o).run P w= .ok .skip w':=by
 simp [execOp,hop,hx,hy,h,Result.andThen]
theorem ex_index {t:TypeId} {x y:Operand} {p i v:Value} (hop:o.op= .indexAddr t x y) (hx:ev x=p) (hy:ev y=i) (h:(Instr.indexAt t p i).run P w= .ok v w):(execOp ev o).run P w= .ok (.value v) w:=by
 simp [execOp,hop,hx,hy,h,Result.andThen]
theorem ex_slice {t:TypeId} {x:Operand} {lo hi mx:Option Operand} {lv hv mv:Option Value} {p v:Value} (hop:o.op= .slice t x lo hi mx) (hx:ev x=p) (h1:lo.map ev=lv) (h2:hi.map ev=hv) (h3:mx.map ev=mv)
  (h:(Instr.sliceAt t p lv hv mv).run P w= .ok v w):(execOp ev o).run P w= .ok (.value v) w:=by
 simp [execOp,hop,hx,h1,h2,h3,h,Result.andThen]
theorem ev_wrap {a:Int} {r:Result Next} (h:r= .ok (.value (.int .i64 (IntKind.i64.wrap a))) w) (h0: -9223372036854775808≤a) (h1:a≤9223372036854775807):r= .ok (.value (.int .i64 a)) w:=by
 have e:IntKind.i64.wrap a=a:=by rw [IntKind.wrap_i64];omega
 rw [h,e]
theorem ev_int {a b:Int} {k:IntKind} {r:Result Next} (h:r= .ok (.value (.int k a)) w) (e:a=b):r= .ok (.value (.int k b)) w:=by rw [h,e]
theorem ev_bool {b b':Bool} {r:Result Next} (h:r= .ok (.value (.bool b)) w) (e:b=b'):r= .ok (.value (.bool b')) w:=by rw [h,e]
theorem ev_dec {p:Prop} [Decidable p] {r:Result Next} (h:r= .ok (.value (.bool (decide p))) w) (e:p):r= .ok (.value (.bool true)) w:=by rw [h,decide_eq_true e]
theorem ev_ndec {p:Prop} [Decidable p] {r:Result Next} (h:r= .ok (.value (.bool (decide p))) w) (e:¬p):r= .ok (.value (.bool false)) w:=by rw [h,decide_eq_false e]
theorem ev_eq {a b:Int} {r:Result Next} (h:r= .ok (.value (.bool (a == b))) w) (e:a=b):r= .ok (.value (.bool true)) w:=by rw [h,e];simp
theorem ev_neq {a b:Int} {r:Result Next} (h:r= .ok (.value (.bool (a == b))) w) (e:a≠b):r= .ok (.value (.bool false)) w:=by rw [h];simp [e]
theorem ev_ne {a b:Int} {r:Result Next} (h:r= .ok (.value (.bool (a != b))) w) (e:a≠b):r= .ok (.value (.bool true)) w:=by rw [h];simp [e]
theorem ev_nne {a b:Int} {r:Result Next} (h:r= .ok (.value (.bool (a != b))) w) (e:a=b):r= .ok (.value (.bool false)) w:=by rw [h,e];simp
end
theorem res_ld {P:Program} {t:TypeId} {ad:Addr} {v:Value} {w:World} (h:(Instr.loadAt t (.pointer (some ad))).run P w= .ok v w):(loadVar t ad).run P w= .ok v w:=h
theorem ex_bin {P:Program} {ev:Operand→Value} {o:Oper} {w:World} {op:BinOp} {t t2:TypeId} {x y:Operand} {a b:Int} {v:Value} (hop:o.op= .binOp op t x y t2) (hx:ev x= .int .i64 a) (hy:ev y= .int .i64 b)
  (h:(binOp op t (.int .i64 a) (.int .i64 b)).run P w= .ok v w):(execOp ev o).run P w= .ok (.value v) w:=by
 have e:(eqGuard op t x y (.int .i64 a) (.int .i64 b)).run P w= .ok () w:=by cases op <;> simp [eqGuard]
 simp [execOp,hop,hx,hy,e,h,Result.andThen]
theorem bin_shr {P:Program} {w:World} {t:TypeId} {S i:Nat} (_hi:i<64):(binOp .shr t (.int .i64 S) (.int .i64 i)).run P w= .ok (.int .i64 ((S / 2 ^ i:Nat):Int)) w:=by
 have h0:¬((i:Int)<0):=by omega
 have h1:min (i:Int).toNat 64=i:=by simp;omega
 have e:(S:Int).fdiv (2 ^ i)=((S / 2 ^ i:Nat):Int):=by
  rw [Int.fdiv_eq_ediv_of_nonneg _ (by exact Int.le_of_lt (Int.pow_pos (by decide)))];simp
 simp only [binOp,Op.shift,if_neg h0,IntKind.bits,h1,e]
 rfl
theorem bin_shl1 {P:Program} {w:World} {t:TypeId} {i:Nat} (hi:i<62):(binOp .shl t (.int .i64 1) (.int .i64 i)).run P w= .ok (.int .i64 ((2 ^ i:Nat):Int)) w:=by
 have h0:¬((i:Int)<0):=by omega
 have h1:min (i:Int).toNat 64=i:=by simp;omega
 have h2:(2 ^ i:Nat)<2 ^ 62:=Nat.pow_lt_pow_right (by decide) hi
 have e:IntKind.i64.wrap (1 * 2 ^ i)=((2 ^ i:Nat):Int):=by
  rw [Int.one_mul,show ((2:Int) ^ i)=((2 ^ i:Nat):Int) by simp,IntKind.wrap_i64]
  generalize (2 ^ i:Nat)=k at h2 ⊢
  omega
 simp only [binOp,Op.shift,if_neg h0,IntKind.bits,h1,e]
 rfl
theorem bin_rem {P:Program} {w:World} {t:TypeId} {a b:Nat} (hb:0<b):(binOp .rem t (.int .i64 a) (.int .i64 b)).run P w= .ok (.int .i64 ((a % b:Nat):Int)) w:=by
 have h0:¬((b:Int)=0):=by omega
 have e:(a:Int).tmod (b:Int)=((a % b:Nat):Int):=by rw [Int.tmod_eq_emod_of_nonneg (by omega)];simp
 simp only [binOp,Op.intDiv,if_neg h0,e]
 simp
theorem bin_tmod {P:Program} {w:World} {t:TypeId} {a b:Int} (hb:b≠0):(binOp .rem t (.int .i64 a) (.int .i64 b)).run P w= .ok (.int .i64 (a.tmod b)) w:=by
 simp only [binOp,Op.intDiv,if_neg hb]
 simp
theorem bin_tdiv {P:Program} {w:World} {t:TypeId} {a b:Int} (hb:0<b) (h0: -9223372036854775808≤a) (h1:a≤9223372036854775807):(binOp .quo t (.int .i64 a) (.int .i64 b)).run P w= .ok (.int .i64 (a.tdiv b)) w:=by
 have hne:¬b=0:=by omega
 have h2:(a.tdiv b).natAbs≤a.natAbs:=by rw [Int.natAbs_tdiv];exact Nat.div_le_self _ _
 have e2:IntKind.i64.wrap (a.tdiv b)=a.tdiv b:=by
  rw [IntKind.wrap_i64]
  have h3:0≤a→0≤a.tdiv b:=fun h=>Int.tdiv_nonneg h (by omega)
  have h4:a≤0→a.tdiv b≤0:=fun h=>by
   have:=Int.tdiv_nonneg (a:= -a) (b:=b) (by omega) (by omega)
   rw [Int.neg_tdiv] at this;omega
  generalize a.tdiv b=q at h2 h3 h4 ⊢
  omega
 simp only [binOp,Op.intDiv,if_neg hne,e2]
 simp
structure Turns (O:Nat) (w X:World):Prop where
 size:X.heap.size=w.heap.size
 cell':∀p:Addr,p.block≠O→X.cell? p=w.cell? p
 froz':∀p:Addr,X.frozen? p=w.frozen? p
 ext':∀a,Ext a w→a.heap.size≤O→Ext a X
 heap':∀k,k≠O→X.heap[k]? =w.heap[k]?
 oth':∀o:Obj,w.heap[O]? =some o→o.isCells=false→X.heap[O]? =some o
theorem Turns.ext {O:Nat} {a w X:World} (h:Turns O w X) (hE:Ext a w) (hO:a.heap.size≤O):Ext a X:=h.ext' a hE hO
theorem Turns.cell {O:Nat} {w X:World} (h:Turns O w X) {p:Addr} {u:Value} (hb:O≠p.block) (hv:w.cell? p=some u):X.cell? p=some u:=by
 rw [h.cell' p (fun e=>hb e.symm)];exact hv
theorem Turns.va {O:Nat} {w X:World} (h:Turns O w X) {b o:Nat} {l:List Int} (hb:O≠b) (hv:VA w b o l):VA X b o l:=⟨fun i hi=>h.cell hb (hv.1 i hi),hv.2⟩
theorem Turns.box {O:Nat} {w X:World} (h:Turns O w X) {b o:Nat} {u:Value} (hb:O≠b) (hv:BoxAt w b o u):BoxAt X b o u:=⟨h.cell hb hv.1,by rw [h.froz'];exact hv.2⟩
theorem Turns.rows {O:Nat} {w X:World} (h:Turns O w X) {b:Nat} {l:List Int} (hb:O≠b) (hv:RowsAt w b l):RowsAt X b l:=⟨hv.1,fun i hi=>h.cell hb (hv.cell hi),fun i hi=>by rw [h.froz'];exact hv.free hi⟩
theorem turns_set (w:World) (O j:Nat) (v:Value):Turns O w (w.setCell ⟨O,j,none⟩ v):=
 ⟨by simp,fun p hp=>World.cell?_setCell_other w _ _ _ (fun e=>hp (congrArg Addr.block e).symm),fun p=>by simp [go_sem],fun _ hE hO=>hE.setCell hO v,fun k hk=>Below.heap_setCell _ _ _ _ (fun e=>hk e),fun o ho hc=>by
  have h2:(w.setCell ⟨O,j,none⟩ v).heap[O]? =_:=Array.getElem?_modify
  rw [h2,if_pos rfl,ho]
  cases o <;> first | rfl | simp [Obj.isCells] at hc⟩
theorem Turns.trans {O:Nat} {a b c:World} (h:Turns O a b) (k:Turns O b c):Turns O a c:=
 ⟨k.size.trans h.size,fun p hp=>(k.cell' p hp).trans (h.cell' p hp),fun p=>(k.froz' p).trans (h.froz' p),fun x hE hO=>k.ext' x (h.ext' x hE hO) hO,fun i hi=>(k.heap' i hi).trans (h.heap' i hi),fun o ho hc=>k.oth' o (h.oth' o ho hc) hc⟩
section
variable {P:Program} {ev:Operand→Value} {oi:Oper} {w:World} {N:Value→World→Prop}
theorem sn_set {O j:Nat} {u v:Value} (h1:(execOp ev oi).run P w= .ok .skip (w.setCell ⟨O,j,none⟩ v)) (hO:BoxAt w O j u)
  (h:∀X,Turns O w X→BoxAt X O j v→(∀i x,i≠j→BoxAt w O i x→BoxAt X O i x)→N undef X):StepN P ev oi w N:=by
 have hB:BoxAt (w.setCell ⟨O,j,none⟩ v) O j v:=⟨by have:=hO.1;simp [go_sem,this],by have:=hO.2;simpa [go_sem] using this⟩
 exact sn_skp h1 (h _ (turns_set _ _ _ _) hB fun i x hi hx=>⟨by rw [World.cell?_setCell_other w _ _ _ (fun e=>hi (congrArg Addr.off e).symm)];exact hx.1,by simp [go_sem,hx.2]⟩)
theorem sn_set2 {O j:Nat} {u u' v v':Value} (h1:(execOp ev oi).run P w= .ok .skip ((w.setCell ⟨O,j,none⟩ v).setCell ⟨O,j+1,none⟩ v')) (hO:BoxAt w O j u) (hO':BoxAt w O (j+1) u')
  (h:∀X,Turns O w X→BoxAt X O j v→BoxAt X O (j+1) v'→(∀i x,i≠j→i≠j+1→BoxAt w O i x→BoxAt X O i x)→N undef X):StepN P ev oi w N:=by
 have k:∀(W:World) (j:Nat) (u v:Value),BoxAt W O j u→BoxAt (W.setCell ⟨O,j,none⟩ v) O j v:=fun W j u v hO=>⟨by have:=hO.1;simp [go_sem,this],by have:=hO.2;simpa [go_sem] using this⟩
 have k2:∀(W:World) (j i:Nat) (x v:Value),i≠j→BoxAt W O i x→BoxAt (W.setCell ⟨O,j,none⟩ v) O i x:=fun W j i x v hi hx=>⟨by rw [World.cell?_setCell_other W _ _ _ (fun e=>hi (congrArg Addr.off e).symm)];exact hx.1,by simp [go_sem,hx.2]⟩
 exact sn_skp h1 (h _ ((turns_set _ _ _ _).trans (turns_set _ _ _ _)) (k2 _ _ _ _ _ (by omega) (k _ _ _ _ hO)) (k _ _ _ _ (k2 _ _ _ _ _ (by omega) hO')) fun i x hi hi' hx=>k2 _ _ _ _ _ hi' (k2 _ _ _ _ _ hi hx))
end
section
variable {P:Program} {n:Nat} {L:List Value} {ws:List (Nat × Value)} {w:World} {Q:Exit→Act→World→Prop}
theorem calm_scope (h:Calm Q):Calm (Exit.noGoto Q):=fun c d v a w h'=>h c d v a w h'
end
theorem sn_row {P:Program} {ev:Operand→Value} {oi:Oper} {w:World} {N:Value→World→Prop} {g y:Nat} {L:List Int} {v:Int} (h1:(execOp ev oi).run P w= .ok .skip (w.setCell ⟨g,y,none⟩ (.int .i64 v))) (hr:RowsAt w g L) (hy:y<24)
  (h:∀X,Turns g w X→RowsAt X g (L.set y v)→N undef X):StepN P ev oi w N:=sn_skp h1 (h _ (turns_set _ _ _ _) (hr.set hy v))
theorem Turns.bx {O:Nat} {w X:World} (h:Turns O w X) (b:Nat) (hb:O≠b) ⦃o:Nat⦄ ⦃u:Value⦄ (hv:BoxAt w b o u):BoxAt X b o u:=h.box hb hv
section
variable {P:Program} {ev:Operand→Value} {oi:Oper} {w:World} {N:Value→World→Prop} {t:TypeId} {x y:Operand} {u:Value}
theorem zE (O j:Nat) (v:Value) (hst:(Instr.storeAt t (.pointer (some ⟨O,j,none⟩)) v).run P w= .ok () (w.setCell ⟨O,j,none⟩ v)) (hO:BoxAt w O j u) (h:∀X,Turns O w X→BoxAt X O j v→(∀i x,i≠j→BoxAt w O i x→BoxAt X O i x)→N undef X) (hop:oi.op= .store t x y:=by rfl) (hx:ev x= .pointer (some ⟨O,j,none⟩):=by kernel_rfl) (hy:ev y=v:=by kernel_rfl):StepN P ev oi w N:=sn_set (ex_store hop hx hy hst) hO h
theorem zF (O j:Nat) (v:Value) (hst:(Instr.storeAt t (.pointer (some ⟨O,j,none⟩)) (.agg #[v])).run P w= .ok () (w.setCell ⟨O,j,none⟩ v)) (hO:BoxAt w O j u) (h:∀X,Turns O w X→BoxAt X O j v→(∀i x,i≠j→BoxAt w O i x→BoxAt X O i x)→N undef X) (hop:oi.op= .store t x y:=by rfl) (hx:ev x= .pointer (some ⟨O,j,none⟩):=by kernel_rfl) (hy:ev y= .agg #[v]:=by kernel_rfl):StepN P ev oi w N:=sn_set (ex_store hop hx hy hst) hO h
end
instance {Q:Exit→Act→World→Prop} [h:CalmC Q]:CalmC (Exit.noGoto Q):=⟨calm_scope h.out⟩
section
variable {P:Program} {ev:Operand→Value} {o:Oper} {w:World}
theorem eE (a b:Int) {r:Result Next} (e:a=b) (h:r= .ok (.value (.bool (a == b))) w:=by kernel_rfl):r= .ok (.value (.bool true)) w:=ev_eq h e
theorem eN (a b:Int) {r:Result Next} (e:a≠b) (h:r= .ok (.value (.bool (a == b))) w:=by kernel_rfl):r= .ok (.value (.bool false)) w:=ev_neq h e
theorem eM (a b:Int) {r:Result Next} (e:a≠b) (h:r= .ok (.value (.bool (a != b))) w:=by kernel_rfl):r= .ok (.value (.bool true)) w:=ev_ne h e
theorem wM {L:List Value} {ws:List (Nat × Value)} {ops0 ops:Array Oper} {Q':Exit→Act→World→Prop} {T9:List Row} {S:World→Prop} {fuel:Nat} {done:List Nat} (i:Nat) {d:Nat} {oi:Oper} {r:List Oper} {t:TypeId} {x:Operand} {p:Value} (v:Value) (hR:Reg P ops0 ops Q' L T9) (hy:∀w,S w→(Instr.loadAt t p).run P w= .ok v w) (hS:S w) (h:WD P ops Q' S L fuel (i :: done) ((d,v) :: ws) w)
    (hi:ops0.toList.drop i=oi :: r:=by rfl) (hop:oi.op= .load t x:=by rfl) (hx:evalW L ws x=p:=by kernel_rfl) (hr:readyT T9 done i=true:=by kernel_rfl) (hdst:oi.dst=some d:=by rfl) (hw:wantedW T9 L ws oi.guard=true:=by kernel_rfl):WD P ops Q' S L (fuel+1) done ws w:=wd_take i v hR hi hr hdst hw (fun w hw=>ex_load hop hx (hy w hw)) hS h
theorem xl {t:TypeId} {x:Operand} {p v:Value} (h:(Instr.loadAt t p).run P w= .ok v w) (hop:o.op= .load t x:=by rfl) (hx:ev x=p:=by kernel_rfl):(execOp ev o).run P w= .ok (.value v) w:=ex_load hop hx h
theorem xt {t:TypeId} {x y:Operand} {w':World} (p v:Value) (h:(Instr.storeAt t p v).run P w= .ok () w') (hop:o.op= .store t x y:=by rfl) (hx:ev x=p:=by kernel_rfl) (hy:ev y=v:=by kernel_rfl):(execOp ev o).run P w= .ok .skip w':=ex_store hop hx hy h
theorem xi {t:TypeId} {x y:Operand} {v:Value} (p i:Value) (h:(Instr.indexAt t p i).run P w= .ok v w) (hop:o.op= .indexAddr t x y:=by rfl) (hx:ev x=p:=by kernel_rfl) (hy:ev y=i:=by kernel_rfl):(execOp ev o).run P w= .ok (.value v) w:=ex_index hop hx hy h
theorem ed (p:Prop) [Decidable p] {r:Result Next} (e:p) (h:r= .ok (.value (.bool (decide p))) w:=by kernel_rfl):r= .ok (.value (.bool true)) w:=ev_dec h e
theorem en (p:Prop) [Decidable p] {r:Result Next} (e:¬p) (h:r= .ok (.value (.bool (decide p))) w:=by kernel_rfl):r= .ok (.value (.bool false)) w:=ev_ndec h e
theorem ew {a:Int} {r:Result Next} (h0: -9223372036854775808≤a) (h1:a≤9223372036854775807) (h:r= .ok (.value (.int .i64 (IntKind.i64.wrap a))) w:=by kernel_rfl):r= .ok (.value (.int .i64 a)) w:=ev_wrap h h0 h1
end
theorem he2 {w X:World} {O:Nat} {U0:World} {U1:World} {G:Prop} (ho:Turns O w X) (h0:Ext U0 w) (h1:Ext U1 w) (k:Ext U0 X→Ext U1 X→G) (e:U0.heap.size≤O∧U1.heap.size≤O:=by omega):G:=k (ho.ext h0 e.1) (ho.ext h1 e.2)
theorem he3 {w X:World} {O:Nat} {U0:World} {U1:World} {U2:World} {G:Prop} (ho:Turns O w X) (h0:Ext U0 w) (h1:Ext U1 w) (h2:Ext U2 w) (k:Ext U0 X→Ext U1 X→Ext U2 X→G) (e:U0.heap.size≤O∧U1.heap.size≤O∧U2.heap.size≤O:=by omega):G:=k (ho.ext h0 e.1) (ho.ext h1 e.2.1) (ho.ext h2 e.2.2)
theorem he4 {w X:World} {O:Nat} {U0:World} {U1:World} {U2:World} {U3:World} {G:Prop} (ho:Turns O w X) (h0:Ext U0 w) (h1:Ext U1 w) (h2:Ext U2 w) (h3:Ext U3 w) (k:Ext U0 X→Ext U1 X→Ext U2 X→Ext U3 X→G) (e:U0.heap.size≤O∧U1.heap.size≤O∧U2.heap.size≤O∧U3.heap.size≤O:=by omega):G:=k (ho.ext h0 e.1) (ho.ext h1 e.2.1) (ho.ext h2 e.2.2.1) (ho.ext h3 e.2.2.2)
theorem he5 {w X:World} {O:Nat} {U0:World} {U1:World} {U2:World} {U3:World} {U4:World} {G:Prop} (ho:Turns O w X) (h0:Ext U0 w) (h1:Ext U1 w) (h2:Ext U2 w) (h3:Ext U3 w) (h4:Ext U4 w) (k:Ext U0 X→Ext U1 X→Ext U2 X→Ext U3 X→Ext U4 X→G) (e:U0.heap.size≤O∧U1.heap.size≤O∧U2.heap.size≤O∧U3.heap.size≤O∧U4.heap.size≤O:=by omega):G:=k (ho.ext h0 e.1) (ho.ext h1 e.2.1) (ho.ext h2 e.2.2.1) (ho.ext h3 e.2.2.2.1) (ho.ext h4 e.2.2.2.2)
theorem he6 {w X:World} {O:Nat} {U0:World} {U1:World} {U2:World} {U3:World} {U4:World} {U5:World} {G:Prop} (ho:Turns O w X) (h0:Ext U0 w) (h1:Ext U1 w) (h2:Ext U2 w) (h3:Ext U3 w) (h4:Ext U4 w) (h5:Ext U5 w) (k:Ext U0 X→Ext U1 X→Ext U2 X→Ext U3 X→Ext U4 X→Ext U5 X→G) (e:U0.heap.size≤O∧U1.heap.size≤O∧U2.heap.size≤O∧U3.heap.size≤O∧U4.heap.size≤O∧U5.heap.size≤O:=by omega):G:=k (ho.ext h0 e.1) (ho.ext h1 e.2.1) (ho.ext h2 e.2.2.1) (ho.ext h3 e.2.2.2.1) (ho.ext h4 e.2.2.2.2.1) (ho.ext h5 e.2.2.2.2.2)
theorem he7 {w X:World} {O:Nat} {U0:World} {U1:World} {U2:World} {U3:World} {U4:World} {U5:World} {U6:World} {G:Prop} (ho:Turns O w X) (h0:Ext U0 w) (h1:Ext U1 w) (h2:Ext U2 w) (h3:Ext U3 w) (h4:Ext U4 w) (h5:Ext U5 w) (h6:Ext U6 w) (k:Ext U0 X→Ext U1 X→Ext U2 X→Ext U3 X→Ext U4 X→Ext U5 X→Ext U6 X→G) (e:U0.heap.size≤O∧U1.heap.size≤O∧U2.heap.size≤O∧U3.heap.size≤O∧U4.heap.size≤O∧U5.heap.size≤O∧U6.heap.size≤O:=by omega):G:=k (ho.ext h0 e.1) (ho.ext h1 e.2.1) (ho.ext h2 e.2.2.1) (ho.ext h3 e.2.2.2.1) (ho.ext h4 e.2.2.2.2.1) (ho.ext h5 e.2.2.2.2.2.1) (ho.ext h6 e.2.2.2.2.2.2)
theorem he8 {w X:World} {O:Nat} {U0:World} {U1:World} {U2:World} {U3:World} {U4:World} {U5:World} {U6:World} {U7:World} {G:Prop} (ho:Turns O w X) (h0:Ext U0 w) (h1:Ext U1 w) (h2:Ext U2 w) (h3:Ext U3 w) (h4:Ext U4 w) (h5:Ext U5 w) (h6:Ext U6 w) (h7:Ext U7 w) (k:Ext U0 X→Ext U1 X→Ext U2 X→Ext U3 X→Ext U4 X→Ext U5 X→Ext U6 X→Ext U7 X→G) (e:U0.heap.size≤O∧U1.heap.size≤O∧U2.heap.size≤O∧U3.heap.size≤O∧U4.heap.size≤O∧U5.heap.size≤O∧U6.heap.size≤O∧U7.heap.size≤O:=by omega):G:=k (ho.ext h0 e.1) (ho.ext h1 e.2.1) (ho.ext h2 e.2.2.1) (ho.ext h3 e.2.2.2.1) (ho.ext h4 e.2.2.2.2.1) (ho.ext h5 e.2.2.2.2.2.1) (ho.ext h6 e.2.2.2.2.2.2.1) (ho.ext h7 e.2.2.2.2.2.2.2)
theorem he9 {w X:World} {O:Nat} {U0:World} {U1:World} {U2:World} {U3:World} {U4:World} {U5:World} {U6:World} {U7:World} {U8:World} {G:Prop} (ho:Turns O w X) (h0:Ext U0 w) (h1:Ext U1 w) (h2:Ext U2 w) (h3:Ext U3 w) (h4:Ext U4 w) (h5:Ext U5 w) (h6:Ext U6 w) (h7:Ext U7 w) (h8:Ext U8 w) (k:Ext U0 X→Ext U1 X→Ext U2 X→Ext U3 X→Ext U4 X→Ext U5 X→Ext U6 X→Ext U7 X→Ext U8 X→G) (e:U0.heap.size≤O∧U1.heap.size≤O∧U2.heap.size≤O∧U3.heap.size≤O∧U4.heap.size≤O∧U5.heap.size≤O∧U6.heap.size≤O∧U7.heap.size≤O∧U8.heap.size≤O:=by omega):G:=k (ho.ext h0 e.1) (ho.ext h1 e.2.1) (ho.ext h2 e.2.2.1) (ho.ext h3 e.2.2.2.1) (ho.ext h4 e.2.2.2.2.1) (ho.ext h5 e.2.2.2.2.2.1) (ho.ext h6 e.2.2.2.2.2.2.1) (ho.ext h7 e.2.2.2.2.2.2.2.1) (ho.ext h8 e.2.2.2.2.2.2.2.2)
theorem he10 {w X:World} {O:Nat} {U0:World} {U1:World} {U2:World} {U3:World} {U4:World} {U5:World} {U6:World} {U7:World} {U8:World} {U9:World} {G:Prop} (ho:Turns O w X) (h0:Ext U0 w) (h1:Ext U1 w) (h2:Ext U2 w) (h3:Ext U3 w) (h4:Ext U4 w) (h5:Ext U5 w) (h6:Ext U6 w) (h7:Ext U7 w) (h8:Ext U8 w) (h9:Ext U9 w) (k:Ext U0 X→Ext U1 X→Ext U2 X→Ext U3 X→Ext U4 X→Ext U5 X→Ext U6 X→Ext U7 X→Ext U8 X→Ext U9 X→G) (e:U0.heap.size≤O∧U1.heap.size≤O∧U2.heap.size≤O∧U3.heap.size≤O∧U4.heap.size≤O∧U5.heap.size≤O∧U6.heap.size≤O∧U7.heap.size≤O∧U8.heap.size≤O∧U9.heap.size≤O:=by omega):G:=k (ho.ext h0 e.1) (ho.ext h1 e.2.1) (ho.ext h2 e.2.2.1) (ho.ext h3 e.2.2.2.1) (ho.ext h4 e.2.2.2.2.1) (ho.ext h5 e.2.2.2.2.2.1) (ho.ext h6 e.2.2.2.2.2.2.1) (ho.ext h7 e.2.2.2.2.2.2.2.1) (ho.ext h8 e.2.2.2.2.2.2.2.2.1) (ho.ext h9 e.2.2.2.2.2.2.2.2.2)
end Go.Proofs.YtpfajhcdfgpgmaaGreatDoor

namespace Go.Proofs.YtpfajhcdfgpgmaaGreatDoor
open Go.RowKit
theorem isIn_c (n lo hi:Int) (w:World):Calls Tryz.prog 94 #[.int .i64 n,.int .i64 lo,.int .i64 hi] w fun e w'=>e= .returned (.bool (Globe.inB n lo hi))∧w=w':=by
 go_enter Tryz.func94,Tryz.ntmps94
 go_wp2
 all_goals (go_ret;refine⟨ret_bool ?_,rfl⟩;first | (rw [Globe.inB_f.2 (by omega)];done) | (rw [Bool.eq_iff_iff,Globe.inB_t];first | (simp;omega) | (simp;done)))
end Go.Proofs.YtpfajhcdfgpgmaaGreatDoor

namespace Go.Proofs.YtpfajhcdfgpgmaaGreatDoor
open Go.RowKit
open Globe (validL)
set_option maxHeartbeats 400000
theorem Valid1_c (r:Int) (w:World):Calls Tryz.prog 93 #[.int .i64 r] w fun e w'=>e= .returned (.bool (!Globe.rowOk r))∧w=w':=by
 rw [show Globe.rowOk r=Globe.inB r 0 281474976710655 from rfl]
 go_enter Tryz.func93,Tryz.ntmps93
 go_wp2_with (go_at_call 94;refine (isIn_c _ _ _ _).mono ?_;rintro e w' ⟨rfl,rfl⟩)
 go_ret
 exact⟨rfl,rfl⟩
theorem IndexFunc_c (a:Option Addr) (l:List Int) (c:Nat) (w:World) (h:IntsAt w a l) (hl:l.length≤140737488355328):
    Calls Tryz.prog 100 #[.slice a l.length c,.func (.func 93) #[] #[]] w fun e w'=>e= .returned (.int .i64 (Globe.badAt l))∧w=w':=by
  rcases h with rfl | ⟨b,off,rfl,hc⟩
  · go_enter Tryz.func100,Tryz.ntmps100
    go_wp2_with fail
    refine wp_loop_rounds 1 ?_
    rw [rounds_succ]
    go_wp2_with fail
    go_ret
    exact⟨rfl,rfl⟩
  · go_enter Tryz.func100,Tryz.ntmps100
    go_wp2_with fail
    go_loop [5,8] (fun _ i=>∃k:Nat,k≤l.length∧i= .int .i64 k∧Hid (∀j,j<k→Globe.rowOk (Globe.nth l j)=true)) (fun _ i=>l.length - (intOf i).toNat)
    case atStart=>exact⟨0,by omega,rfl,fun j hj=>by omega⟩
    case round=>
      obtain⟨k,hk,rfl,Hp⟩:=hrel
      by_cases hlt:k<l.length
      · have h0:(0:Int)≤(k:Int):=by omega
        cases hq:Globe.rowOk (Globe.nth l k)
        all_goals
          go_wp2_with (go_at_call 93;refine (Valid1_c _ _).mono ?_;rintro e w' ⟨rfl,rfl⟩)
        · go_ret
          exact⟨ret_int (Globe.badAt_first hlt Hp.out hq).symm,rfl⟩
        · go_round
          case rel=>exact⟨k+1,by omega,by go_num,fun j hj=>by
            rcases Nat.lt_or_ge j k with h | h
            · exact Hp.out j h
            · rw [show j=k by omega];exact hq⟩
          case measure=>simp [intOf];omega
      · obtain rfl:k=l.length:=by omega
        go_wp2_with fail
        go_ret
        exact⟨ret_int (Globe.badAt_all (List.all_eq_true.2 fun r hr=>by
          obtain⟨j,hj,rfl⟩:=List.getElem_of_mem hr
          have:=Hp.out j hj
          rwa [Globe.nth_lt hj] at this)).symm,rfl⟩
theorem ContainsFunc_c (a:Option Addr) (l:List Int) (c:Nat) (w:World) (h:IntsAt w a l) (hl:l.length≤140737488355328):
    Calls Tryz.prog 64 #[.slice a l.length c,.func (.func 93) #[] #[]] w fun e w'=>e= .returned (.bool (!l.all Globe.rowOk))∧w=w':=by
  cases hq:l.all Globe.rowOk
  · have h1:=Globe.badAt_no hq
    go_enter Tryz.func64,Tryz.ntmps64
    go_wp2_with (go_at_call 100;refine (IndexFunc_c _ _ _ _ h hl).mono ?_;rintro e w' ⟨rfl,rfl⟩)
    go_ret
    exact⟨rfl,rfl⟩
  · have h1:=Globe.badAt_all hq
    go_enter Tryz.func64,Tryz.ntmps64
    go_wp2_with (go_at_call 100;refine (IndexFunc_c _ _ _ _ h hl).mono ?_;rintro e w' ⟨rfl,rfl⟩)
    go_ret
    exact⟨rfl,rfl⟩
theorem Valid_c (a:Option Addr) (l:List Int) (c:Nat) (w:World) (h:IntsAt w a l) (hl:l.length≤140737488355328):
    Calls Tryz.prog 52 #[.agg #[.slice a l.length c]] w fun e w'=>e= .returned (.bool (validL l))∧Ext w w':=by
  have H:=Lib.hid h;clear h
  cases h24:((l.length:Int) == 24)
  · have hv:validL l=false:=by simp [validL];intro h;simp [h] at h24
    go_enter Tryz.func52,Tryz.ntmps52
    go_wp2_with fail
    go_ret
    exact⟨ret_bool (by rw [hv]),by (exact xE)⟩
  · have hv:validL l=l.all Globe.rowOk:=by
      have e:l.length=24:=by simp at h24;omega
      rw [validL,e];simp
    have Hv:=Lib.hid hv;clear hv
    go_enter Tryz.func52,Tryz.ntmps52
    go_wp2_with (go_at_call 64;refine (ContainsFunc_c _ _ _ _ (H.out.ext (by (exact xE))) hl).mono ?_;rintro e w' ⟨rfl,rfl⟩)
    go_ret
    exact⟨ret_bool (by rw [Hv.out]),by (exact xE)⟩
end Go.Proofs.YtpfajhcdfgpgmaaGreatDoor

namespace Go.Proofs.YtpfajhcdfgpgmaaGreatDoor
open Go.RowKit
theorem Empty_c (w:World):Calls Tryz.prog 141 #[] w (RetA w Globe.zeroL):=by
 have hmk:=make24
 go_enter Tryz.func141,Tryz.ntmps141
 go_wp2
 refine bodyPost_ret (v:=.agg #[.slice (some ⟨w.heap.size+1,0,none⟩) 24 24]) (by simp [results,Tryz.results141,go_sem]) rfl ⟨w.heap.size+1,rfl,by omega,?_,by (exact xE)⟩
 have:=RowsAt.new (w.alloc (.cells #[.slice (some ⟨w.heap.size+1,0,none⟩) 24 24] 26)) Globe.zeroL 3 rfl
 rwa [World.size_alloc] at this
theorem less_i64 (a b:Nat) (ha:a<4611686018427387904) (_hb:b<4611686018427387904):bits .andNot .i64 (a:Int) (b:Int)=((Globe.lessN a b:Nat):Int):=by
  show IntKind.i64.wrap ((BitVec.ofInt 64 (a:Int) &&& ~~~BitVec.ofInt 64 (b:Int)).toNat:Int)=_
  have e:(BitVec.ofInt 64 (a:Int) &&& ~~~BitVec.ofInt 64 (b:Int)).toNat=Globe.lessN a b:=by
    refine Nat.eq_of_testBit_eq fun x=>?_
    rw [Globe.lessN_bit,BitVec.testBit_toNat,BitVec.getLsbD_and,BitVec.getLsbD_not,BitVec.ofInt_natCast,BitVec.ofInt_natCast,BitVec.getLsbD_ofNat,BitVec.getLsbD_ofNat]
    by_cases h:x<64
    · simp [h]
    · rw [Nat.testBit_lt_two_pow (x:=a) (i:=x) (nl_ (show a<2 ^ 64 by omega) (Nat.pow_le_pow_right (by decide) (by omega)))]
      simp [h]
  have h2:Globe.lessN a b<2 ^ 62:=Nat.xor_lt_two_pow ha (Nat.lt_of_le_of_lt Nat.and_le_left ha)
  rw [e,IntKind.wrap_i64]
  omega
theorem Less1_c (p q:Nat) (w:World) (hp:p<281474976710656) (hq:q<281474976710656):
  Calls Tryz.prog 136 #[.int .i64 p,.int .i64 q] w fun e w'=>e= .returned (.int .i64 ((Globe.lessN p q:Nat):Int))∧w=w':=by
 go_enter Tryz.func136,Tryz.ntmps136
 go_wp2
 go_ret
 exact⟨ret_int (less_i64 _ _ (by omega) (by omega)),rfl⟩
end Go.Proofs.YtpfajhcdfgpgmaaGreatDoor

namespace Go.Proofs.YtpfajhcdfgpgmaaGreatDoor
open Go.RowKit
open Globe (nth validL)
variable {v:Bool}
set_option maxHeartbeats 2000000
theorem Valid_n (a:Option Addr) (l:List Int) (n c:Nat) (w:World) (h:IntsAt w a l) (hn:l.length=n) (hl:n≤140737488355328):
  Calls Tryz.prog 52 #[.agg #[.slice a n c]] w fun e w'=>e= .returned (.bool (validL l))∧Ext w w':=by
 subst hn
 exact Valid_c a l c w h hl
theorem Valid_v (a:Option Addr) (l:List Int) (n c:Nat) (w:World) (h:IntsAt w a l) (hn:l.length=n) (hl:n≤140737488355328) (hv:validL l=v):
  Calls Tryz.prog 52 #[.agg #[.slice a n c]] w fun e w'=>e= .returned (.bool v)∧Ext w w':=hv ▸ Valid_n a l n c w h hn hl
theorem Valid_y (b o c:Nat) (l:List Int) (w:World) (h:∀i,i<24→w.cell? ⟨b,o+i,none⟩=some (.int .i64 (nth l i))) (hv:validL l=true):
  Calls Tryz.prog 52 #[.agg #[.slice (some ⟨b,o,none⟩) 24 c]] w fun e w'=>e= .returned (.bool true)∧Ext w w':=by
 have hn:=Globe.len_of_valid hv
 have:=Valid_n (some ⟨b,o,none⟩) l 24 c w (.inr ⟨b,o,rfl,fun i hi=>h i (by omega)⟩) hn (by omega)
 rwa [hv] at this
theorem Valid_e {w0:World} {a:Option Addr} {l:List Int} {n:Nat} (c:Nat) (w:World) (h:AA w0 a l n v) (hE:Ext w0 w):
  Calls Tryz.prog 52 #[.agg #[.slice a n c]] w fun e w'=>e= .returned (.bool v)∧Ext w w':=
 Valid_v a l n c w (h.1.ext hE) h.2.1 h.2.2.1 h.2.2.2
def Fill (w:World) (O B:Nat) (L:List Int) (wr:World):Prop:=RowsAt wr B L∧wr.cell? ⟨O,0,none⟩=some (.slice (some ⟨B,0,none⟩) 24 24)∧Ext w wr
theorem mixed_Less (b1 o1 c1 b2 o2 c2:Nat) (l1 l2:List Int) (w:World) (h1:∀i,i<24→w.cell? ⟨b1,o1+i,none⟩=some (.int .i64 (nth l1 i))) (h2:∀i,i<24→w.cell? ⟨b2,o2+i,none⟩=some (.int .i64 (nth l2 i)))
    (hv1:validL l1=true) (hv2:validL l2=true):
    Calls Tryz.prog 135 #[.agg #[.slice (some ⟨b1,o1,none⟩) 24 c1],.agg #[.slice (some ⟨b2,o2,none⟩) 24 c2],.func (.func 136) #[] #[]] w (RetAE w (Globe.lessL l1 l2)):=by
  have H1:=Lib.hid h1;clear h1
  have H2:=Lib.hid h2;clear h2
  have B0:=Lib.hid hv1;clear hv1
  have B1:=Lib.hid hv2;clear hv2
  go_enter Tryz.func135,Tryz.ntmps135
  go_wp2_with (first | (go_at_call 52;refine (Valid_y _ _ _ _ _ (fun i hi=>Ext.cell (show Ext w _ by (exact xE)) (by first | exact H1.out i hi | exact H2.out i hi)) (by first | exact B0.out | exact B1.out)).mono ?_;rintro e w1 ⟨rfl,hb⟩;have hc:=hb.cellE;have hf:=hb.frozenE;have hz:=hb.size;have ha:=alloc_keeps w1;(try simp only [World.size_alloc] at hc hf hz);(try simp only [World.size_setCell] at hc hf hz);(try simp only [World.size_drew] at hc hf hz)) | (go_at_call 141;refine (Empty_c _).mono ?_;rintro e w2 ⟨B,rfl,hB,hr,B2⟩))
  obtain⟨O,hO⟩:∃O,O=w2.heap.size:=⟨_,rfl⟩
  have hBO:B<O:=by have:=hr.lt;omega
  have hwB:w.heap.size+1+1+1≤B:=by omega
  refine wp_name (fun V=>V.cell? ⟨w.heap.size,0,none⟩=some (.slice (some ⟨b1,o1,none⟩) 24 c1)∧V.cell? ⟨w.heap.size+1,0,none⟩=some (.slice (some ⟨b2,o2,none⟩) 24 c2)∧BoxAt V (w.heap.size+1+1) 0 (.slice none 0 0)∧Fill w O B Globe.zeroL V) ⟨?_,?_,?_,?_⟩ ?_
  · (repeat' (first | (with_reducible assumption) | (simp [go_sem];done) | (with_reducible refine Ext.cell (Ext.alloc (er_ _) _) ?_) | (with_reducible refine Ext.cell (by with_reducible assumption) ?_)))
  · (repeat' (first | (with_reducible assumption) | (simp [go_sem];done) | (with_reducible refine Ext.cell (Ext.alloc (er_ _) _) ?_) | (with_reducible refine Ext.cell (by with_reducible assumption) ?_)))
  · (repeat' (first | (with_reducible assumption) | (exact⟨by simp [go_sem],by simp [go_sem]⟩) | (with_reducible refine BoxAt.ext (Ext.alloc (er_ _) _) ?_) | (with_reducible refine BoxAt.ext (by with_reducible assumption) ?_)))
  · exact⟨hr.ext (by (exact xE)),by rw [hO];simp [go_sem],by (exact xE)⟩
  rintro V ⟨c3,c4,c6,hF⟩
  rw [←hO]
  clear hO hr B2 hB
  iterate 2 clear hc hf hz ha hb
  rw [←Globe.partL_zero (Globe.lessL l1 l2)] at hF
  have hL:(Globe.lessL l1 l2).length=24:=Globe.rowsF_len _
  have HL:=Lib.hid hL;clear hL
  go_loopw [23] (fun p wr=>∃y:Nat,y≤24∧p= .int .i64 y∧wr.cell? ⟨w.heap.size,0,none⟩=some (.slice (some ⟨b1,o1,none⟩) 24 c1)∧wr.cell? ⟨w.heap.size+1,0,none⟩=some (.slice (some ⟨b2,o2,none⟩) 24 c2)∧BoxAt wr (w.heap.size+1+1) 0 (.slice none 0 0)∧Fill w O B (Globe.partL (Globe.lessL l1 l2) y) wr) (fun p _=>24 - (intOf p).toNat)
  case atStart=>exact⟨0,by omega,rfl,c3,c4,c6,hF⟩
  case round=>
    clear c3 c4 c6 hF
    obtain⟨y,hy,rfl,c3,c4,c6,hr,cO,hE⟩:=hrel
    have hOl:=World.block_lt_of_cell? wr _ cO
    by_cases hlt:y<24
    · have hp:=Globe.rowN_lt B0.out y
      have hq:=Globe.rowN_lt B1.out y
      have d1:wr.cell? ⟨b1,o1+y,none⟩=some (.int .i64 (Globe.rowN l1 y:Nat)):=by rw [←Globe.rowN_cast B0.out];exact hE.cell (H1.out y hlt)
      have d2:wr.cell? ⟨b2,o2+y,none⟩=some (.int .i64 (Globe.rowN l2 y:Nat)):=by rw [←Globe.rowN_cast B1.out];exact hE.cell (H2.out y hlt)
      have d3:=hr.cell hlt
      have B3:=IntsAt.lt H1.out
      have B2:=IntsAt.lt H2.out
      have d4:=hr.free hlt
      have y0:(0:Int)≤(y:Int):=by omega
      have y1:(y:Int)<24:=by omega
      go_wp2_with fail
      go_region_held3 (fun w'=>w'.cell? ⟨w.heap.size,0,none⟩=some (.slice (some ⟨b1,o1,none⟩) 24 c1)∧w'.cell? ⟨w.heap.size+1,0,none⟩=some (.slice (some ⟨b2,o2,none⟩) 24 c2)∧w'.cell? ⟨O,0,none⟩=some (.slice (some ⟨B,0,none⟩) 24 24)∧w'.cell? ⟨b1,o1+y,none⟩=some (.int .i64 (Globe.rowN l1 y:Nat))∧w'.cell? ⟨b2,o2+y,none⟩=some (.int .i64 (Globe.rowN l2 y:Nat)))
        (first | ((repeat' (with_reducible apply And.intro)) <;> (first | (with_reducible assumption) | (simp [go_sem,c3,c4,cO,d1,d2];done))))
        ((go_at_call 136;refine (Less1_c _ _ _ hp hq).mono ?_;rintro e w' ⟨rfl,rfl⟩))
      go_wp2
      go_roundw
      case rel=>
        refine⟨y+1,by omega,by go_num,by simpa [go_sem] using c3,by simpa [go_sem] using c4,(c6.other (p:=⟨B,y,none⟩) (by show B≠_;omega) _).drew,?_,by simpa [go_sem] using cO,by (exact xE)⟩
        have:=(hr.set hlt (nth (Globe.lessL l1 l2) y)).drew
        rwa [Globe.partL_succ HL.out hlt,show nth (Globe.lessL l1 l2) y=_ from Globe.nth_rowsF _ hlt] at this
      case measure=>simp [intOf];omega
    · obtain rfl:y=24:=by omega
      rw [Globe.partL_all HL.out] at hr
      obtain⟨c6,f6⟩:=c6
      go_wp2_with fail
      refine bodyPost_ret (v:=.tuple #[.agg #[.slice (some ⟨B,0,none⟩) 24 24],.int .i64 0]) (by simp [results,Tryz.results135,go_sem,c6]) rfl ⟨B,rfl,by omega,hr.other (by show w.heap.size+1+1≠_;omega) _,by (exact xE)⟩
end Go.Proofs.YtpfajhcdfgpgmaaGreatDoor

namespace Go.Proofs.YtpfajhcdfgpgmaaGreatDoor
open Go.RowKit
open Globe (validL)
structure GF where
 k:Int
 rows:List Int
 sf:Int
 st:Int
 lo:Int
 hi:Int
 cl:Bool
 dy:Int
 tm:Int
 wi:Int
 cents:List Int
inductive Goal where
 | mk (f:GF) (kids:List Goal)
def Goal.f:Goal→GF
 | .mk f _=>f
def Goal.kids:Goal→List Goal
 | .mk _ ks=>ks
instance:Inhabited GF:=⟨⟨0,[],0,0,0,0,false,0,0,0,[]⟩⟩
instance:Inhabited Goal:=⟨.mk default []⟩
structure GC where
 ar:Option Addr
 nr:Nat
 cr:Nat
 ac:Option Addr
 nc:Nat
 cc:Nat
 ak:Option Addr
 nk:Nat
 ck:Nat
structure GCs (w:World) (b o:Nat) (f:GF) (x:GC):Prop where
 c0:w.cell? ⟨b,o,none⟩=some (.int .i64 f.k)
 c1:w.cell? ⟨b,o+1,none⟩=some (.slice x.ar x.nr x.cr)
 c2:w.cell? ⟨b,o+2,none⟩=some (.int .i64 f.sf)
 c3:w.cell? ⟨b,o+3,none⟩=some (.int .i64 f.st)
 c4:w.cell? ⟨b,o+4,none⟩=some (.int .i64 f.lo)
 c5:w.cell? ⟨b,o+5,none⟩=some (.int .i64 f.hi)
 c6:w.cell? ⟨b,o+6,none⟩=some (.bool f.cl)
 c7:w.cell? ⟨b,o+7,none⟩=some (.int .i64 f.dy)
 c8:w.cell? ⟨b,o+8,none⟩=some (.int .i64 f.tm)
 c9:w.cell? ⟨b,o+9,none⟩=some (.int .i64 f.wi)
 c10:w.cell? ⟨b,o+10,none⟩=some (.slice x.ac x.nc x.cc)
 c11:w.cell? ⟨b,o+11,none⟩=some (.slice x.ak x.nk x.ck)
theorem GCs.ext {w w':World} {b o:Nat} {f:GF} {x:GC} (h:GCs w b o f x) (e:Ext w w'):GCs w' b o f x:=
 ⟨e.cell h.c0,e.cell h.c1,e.cell h.c2,e.cell h.c3,e.cell h.c4,e.cell h.c5,e.cell h.c6,e.cell h.c7,e.cell h.c8,e.cell h.c9,e.cell h.c10,e.cell h.c11⟩
mutual
def Goal.At (w:World):Goal→GC→Prop
 | .mk f ks,x=>(AA w x.ar f.rows x.nr (validL f.rows)∧IntsAt w x.ac f.cents∧f.cents.length=x.nc∧x.nc≤140737488355328)∧ks.length=x.nk∧x.nk≤140737488355328∧(x.nk=0∨∃b o,x.ak=some ⟨b,o,none⟩∧KsAt w ks b o)
def KsAt (w:World):List Goal→Nat→Nat→Prop
 | [],_,_=>True
 | g :: gs,b,o=>(∃x,GCs w b o g.f x∧Goal.At w g x)∧KsAt w gs b (o+12)
end
mutual
theorem Goal.At.ext {w w':World} (e:Ext w w'):∀ {g:Goal} {x:GC},g.At w x→g.At w' x
 | .mk f ks,x,h=>by
  unfold Goal.At at h ⊢
  obtain⟨⟨h1,h2,h3⟩,h4,h5,h6⟩:=h
  exact⟨⟨h1.ext e,h2.ext e,h3⟩,h4,h5,h6.imp id fun ⟨b,o,q1,q2⟩=>⟨b,o,q1,KsAt.ext e q2⟩⟩
theorem KsAt.ext {w w':World} (e:Ext w w'):∀ {gs:List Goal} {b o:Nat},KsAt w gs b o→KsAt w' gs b o
 | [],_,_,_=>by unfold KsAt;trivial
 | g :: gs,b,o,h=>by
  unfold KsAt at h ⊢
  obtain⟨⟨x,h1,h2⟩,h3⟩:=h
  exact⟨⟨x,h1.ext e,Goal.At.ext e h2⟩,KsAt.ext e h3⟩
end
theorem KsAt.at {w:World}:∀ {gs:List Goal} {b o i:Nat} {g:Goal},KsAt w gs b o→gs[i]? =some g→∃x,GCs w b (o+i * 12) g.f x∧g.At w x
 | [],_,_,_,_,_,h=>by simp at h
 | g :: gs,b,o,0,g',h,hg=>by
  unfold KsAt at h
  simp at hg;subst hg
  simpa using h.1
 | g :: gs,b,o,i+1,g',h,hg=>by
  unfold KsAt at h
  obtain⟨x,h1,h2⟩:=h.2.at (i:=i) (by simpa using hg)
  exact⟨x,by rw [show o+(i+1) * 12=o+12+i * 12 by omega];exact h1,h2⟩
structure GOp (w:World) (g:Goal) (x:GC):Prop where
 aa:AA w x.ar g.f.rows x.nr (validL g.f.rows)
 ci:IntsAt w x.ac g.f.cents
 cn:g.f.cents.length=x.nc
 cm:x.nc≤140737488355328
 kn:g.kids.length=x.nk
 km:x.nk≤140737488355328
 ks:x.nk=0∨∃b o,x.ak=some ⟨b,o,none⟩∧KsAt w g.kids b o
theorem Goal.At.op {w:World} {g:Goal} {x:GC} (h:g.At w x):GOp w g x:=by
 obtain⟨f,ks⟩:=g
 unfold Goal.At at h
 exact⟨h.1.1,h.1.2.1,h.1.2.2.1,h.1.2.2.2,h.2.1,h.2.2.1,h.2.2.2⟩
theorem GOp.at {w:World} {g:Goal} {x:GC} (h:GOp w g x):g.At w x:=by
 obtain⟨f,ks⟩:=g
 unfold Goal.At
 exact⟨⟨h.aa,h.ci,h.cn,h.cm⟩,h.kn,h.km,h.ks⟩
def kidN (g:Goal) (i:Nat):Goal:=(g.kids[i]?).getD default
theorem kidN_at {g:Goal} {i:Nat} (h:i<g.kids.length):g.kids[i]? =some (kidN g i):=by unfold kidN;rw [List.getElem?_eq_getElem h];rfl
theorem GOp.parts {w:World} {g:Goal} {x:GC} (h:GOp w g x):∃b o,(0<x.nk→x.ak=some ⟨b,o,none⟩)∧(0<x.nk→b<w.heap.size)∧∀i,i<x.nk→∃y,GCs w b (o+i * 12) (kidN g i).f y∧(kidN g i).At w y:=by
  rcases h.ks with q | ⟨b,o,q1,q2⟩
  · exact⟨0,0,fun h=>absurd q (by omega),fun h=>absurd q (by omega),fun i hi=>absurd q (by omega)⟩
  · have hh:∀i,i<x.nk→∃y,GCs w b (o+i * 12) (kidN g i).f y∧(kidN g i).At w y:=fun i hi=>q2.at (kidN_at (by rw [h.kn];exact hi))
    exact⟨b,o,fun _=>q1,fun q=>by
      obtain⟨y,hy,_⟩:=hh 0 q
      exact World.block_lt_of_cell? _ _ hy.c0,hh⟩
section
variable {w:World} {g:Goal} {f:GF} {b o:Nat} {ar:Option Addr} {nr cr:Nat} {ac:Option Addr} {nc cc:Nat} {ak:Option Addr} {nk ck:Nat}
theorem GOp.aa' (h:GOp w g ⟨ar,nr,cr,ac,nc,cc,ak,nk,ck⟩):AA w ar g.f.rows nr (validL g.f.rows):=h.aa
theorem GOp.ci' (h:GOp w g ⟨ar,nr,cr,ac,nc,cc,ak,nk,ck⟩):IntsAt w ac g.f.cents:=h.ci
theorem GOp.cn' (h:GOp w g ⟨ar,nr,cr,ac,nc,cc,ak,nk,ck⟩):g.f.cents.length=nc:=h.cn
theorem GOp.cm' (h:GOp w g ⟨ar,nr,cr,ac,nc,cc,ak,nk,ck⟩):nc≤140737488355328:=h.cm
theorem GOp.kn' (h:GOp w g ⟨ar,nr,cr,ac,nc,cc,ak,nk,ck⟩):g.kids.length=nk:=h.kn
theorem GOp.km' (h:GOp w g ⟨ar,nr,cr,ac,nc,cc,ak,nk,ck⟩):nk≤140737488355328:=h.km
theorem GOp.ext {w':World} {x:GC} (h:GOp w g x) (e:Ext w w'):GOp w' g x:=(Goal.At.ext e h.at).op
instance {w w':World} {g:Goal} {x:GC}:MvC w w' (GOp w g x) (GOp w' g x):=⟨fun e h=>GOp.ext h e⟩
theorem GOp.parts' (h:GOp w g ⟨ar,nr,cr,ac,nc,cc,ak,nk,ck⟩):∃b o,(0<nk→ak=some ⟨b,o,none⟩)∧(0<nk→b<w.heap.size)∧∀i,i<nk→∃ar nr cr ac nc cc ak nk ck,GCs w b (o+i * 12) (kidN g i).f ⟨ar,nr,cr,ac,nc,cc,ak,nk,ck⟩∧GOp w (kidN g i) ⟨ar,nr,cr,ac,nc,cc,ak,nk,ck⟩:=by
 obtain⟨b,o,h1,h2,h3⟩:=h.parts
 exact⟨b,o,h1,h2,fun i hi=>by
  obtain⟨⟨_,_,_,_,_,_,_,_,_⟩,q1,q2⟩:=h3 i hi
  exact⟨_,_,_,_,_,_,_,_,_,q1,q2.op⟩⟩
theorem GCs.c1' (h:GCs w b o f ⟨ar,nr,cr,ac,nc,cc,ak,nk,ck⟩):w.cell? ⟨b,o+1,none⟩=some (.slice ar nr cr):=h.c1
theorem GCs.c10' (h:GCs w b o f ⟨ar,nr,cr,ac,nc,cc,ak,nk,ck⟩):w.cell? ⟨b,o+10,none⟩=some (.slice ac nc cc):=h.c10
theorem GCs.c11' (h:GCs w b o f ⟨ar,nr,cr,ac,nc,cc,ak,nk,ck⟩):w.cell? ⟨b,o+11,none⟩=some (.slice ak nk ck):=h.c11
end
structure Ev where
 k:Int
 t:Int
 i:Int
 rows:List Int
 sun:Int
 look:Int
 cl:Bool
instance:Inhabited Ev:=⟨⟨0,0,0,[],0,0,false⟩⟩
structure EC where
 ar:Option Addr
 nr:Nat
 cr:Nat
structure ECs (w:World) (b o:Nat) (e:Ev) (x:EC):Prop where
 c0:w.cell? ⟨b,o,none⟩=some (.int .i64 e.k)
 c1:w.cell? ⟨b,o+1,none⟩=some (.int .i64 e.t)
 c2:w.cell? ⟨b,o+2,none⟩=some (.int .i64 e.i)
 c3:w.cell? ⟨b,o+3,none⟩=some (.slice x.ar x.nr x.cr)
 c4:w.cell? ⟨b,o+4,none⟩=some (.int .i64 e.sun)
 c5:w.cell? ⟨b,o+5,none⟩=some (.int .i64 e.look)
 c6:w.cell? ⟨b,o+6,none⟩=some (.bool e.cl)
 aa:AA w x.ar e.rows x.nr (validL e.rows)
theorem ECs.ext {w w':World} {b o:Nat} {e:Ev} {x:EC} (h:ECs w b o e x) (q:Ext w w'):ECs w' b o e x:=
 ⟨q.cell h.c0,q.cell h.c1,q.cell h.c2,q.cell h.c3,q.cell h.c4,q.cell h.c5,q.cell h.c6,h.aa.ext q⟩
structure EvsAt (w:World) (a:Option Addr) (m:Nat) (l:List Ev):Prop where
 len:l.length=m
 max:m≤140737488355328
 at_:m=0∨∃b o,a=some ⟨b,o,none⟩∧∀i e,l[i]? =some e→∃x,ECs w b (o+i * 7) e x
theorem EvsAt.ext {w w':World} {a:Option Addr} {m:Nat} {l:List Ev} (h:EvsAt w a m l) (q:Ext w w'):EvsAt w' a m l:=
 ⟨h.len,h.max,h.at_.imp id fun ⟨b,o,h1,h2⟩=>⟨b,o,h1,fun i e he=>by obtain⟨x,hx⟩:=h2 i e he;exact⟨x,hx.ext q⟩⟩⟩
instance {w w':World} {a:Option Addr} {m:Nat} {l:List Ev}:MvC w w' (EvsAt w a m l) (EvsAt w' a m l):=⟨fun e h=>h.ext e⟩
def evN (l:List Ev) (i:Nat):Ev:=(l[i]?).getD default
theorem evN_at {l:List Ev} {i:Nat} (h:i<l.length):l[i]? =some (evN l i):=by unfold evN;rw [List.getElem?_eq_getElem h];rfl
theorem EvsAt.parts {w:World} {a:Option Addr} {m:Nat} {l:List Ev} (h:EvsAt w a m l):∃b o,(0<m→a=some ⟨b,o,none⟩)∧(0<m→b<w.heap.size)∧∀i,i<m→∃x,ECs w b (o+i * 7) (evN l i) x:=by
  rcases h.at_ with q | ⟨b,o,q1,q2⟩
  · exact⟨0,0,fun h=>absurd q (by omega),fun h=>absurd q (by omega),fun i hi=>absurd q (by omega)⟩
  · have hh:∀i,i<m→∃x,ECs w b (o+i * 7) (evN l i) x:=fun i hi=>q2 i _ (evN_at (by rw [h.len];exact hi))
    exact⟨b,o,fun _=>q1,fun q=>by
      obtain⟨y,hy⟩:=hh 0 q
      exact World.block_lt_of_cell? _ _ hy.c0,hh⟩
theorem EvsAt.parts' {w:World} {a:Option Addr} {m:Nat} {l:List Ev} (h:EvsAt w a m l):∃b o,(0<m→a=some ⟨b,o,none⟩)∧(0<m→b<w.heap.size)∧∀i,i<m→∃ar nr cr,ECs w b (o+i * 7) (evN l i) ⟨ar,nr,cr⟩:=by
 obtain⟨b,o,h1,h2,h3⟩:=h.parts
 exact⟨b,o,h1,h2,fun i hi=>by
  obtain⟨⟨ar,nr,cr⟩,q⟩:=h3 i hi
  exact⟨ar,nr,cr,q⟩⟩
theorem ECs.c3' {w:World} {b o:Nat} {e:Ev} {ar:Option Addr} {nr cr:Nat} (h:ECs w b o e ⟨ar,nr,cr⟩):w.cell? ⟨b,o+3,none⟩=some (.slice ar nr cr):=h.c3
theorem ECs.aa' {w:World} {b o:Nat} {e:Ev} {ar:Option Addr} {nr cr:Nat} (h:ECs w b o e ⟨ar,nr,cr⟩):AA w ar e.rows nr (validL e.rows):=h.aa
@[reducible] def gw (f:GF) (a:Option Addr) (n c:Nat) (a1:Option Addr) (n1 c1:Nat) (a2:Option Addr) (n2 c2:Nat):Value:=.agg #[.int .i64 f.k,.slice a n c,.int .i64 f.sf,.int .i64 f.st,.int .i64 f.lo,.int .i64 f.hi,.bool f.cl,.int .i64 f.dy,.int .i64 f.tm,.int .i64 f.wi,.slice a1 n1 c1,.slice a2 n2 c2]
end Go.Proofs.YtpfajhcdfgpgmaaGreatDoor

namespace Go.Proofs.YtpfajhcdfgpgmaaGreatDoor
open Go.RowKit
variable {n₀:Nat} {X:Nat→Prop} {A B w:World}
theorem Ext.others {a b:World} (h:Ext a b):KeepsOthers a b:=⟨h.size,fun k _ ho _=>(Below.block h k (Array.getElem?_eq_some_iff.1 ho).1).trans ho⟩
theorem wide_depth {n:Nat}:Fence.wide.depth.isSome=true→1≤n:=fun h=>by simp [Fence.wide] at h
structure KeepX (n₀:Nat) (X:Nat→Prop) (A B:World):Prop where
 size:A.heap.size≤B.heap.size
 block:∀k,k<n₀→¬X k→B.heap[k]? =A.heap[k]?
theorem KeepX.refl (n₀:Nat) (X:Nat→Prop) (A:World):KeepX n₀ X A A:=⟨nr_ _,fun _ _ _=>rfl⟩
theorem KeepX.trans {n₀:Nat} {X:Nat→Prop} {A B C:World} (h:KeepX n₀ X A B) (k:KeepX n₀ X B C):KeepX n₀ X A C:=
 ⟨Tq h.size k.size,fun i hi hx=>(k.block i hi hx).trans (h.block i hi hx)⟩
theorem KeepX.of_below (h:Below n₀ A B):KeepX n₀ X A B:=⟨h.size,fun k hk _=>h.block k hk⟩
theorem KeepX.of_ext (h:Ext A B) (hn:n₀≤A.heap.size):KeepX n₀ X A B:=KeepX.of_below (Below.mono h hn)
theorem KeepX.cell {n₀:Nat} {X:Nat→Prop} {A B:World} (h:KeepX n₀ X A B) {b o:Nat} (hb:b<n₀) (hx:¬X b):B.cell? ⟨b,o,none⟩=A.cell? ⟨b,o,none⟩:=World.cell?_of_block (w:=A) (h.block b hb hx)
theorem KeepX.setCell {n₀:Nat} {X:Nat→Prop} (A:World) {p:Addr} (hp:X p.block) (u:Value):KeepX n₀ X A (A.setCell p u):=
 ⟨by simp [World.setCell],fun k _ hx=>Below.heap_setCell _ _ _ _ (fun e=>hx (e ▸ hp))⟩
theorem KeepX.putObj {n₀:Nat} {X:Nat→Prop} {w:World} (hn:n₀≤w.heap.size) (W:World) (l:Nat) (o o':Obj) (hl:w.heap.size≤l) (h:W.heap[l]? =some o) (hc:o.isCells=false) (hw:o.isWalk=false):KeepX n₀ X W (W.putObj l o'):=
 KeepX.of_below (belowK_b hn W l o o' hl h hc hw)
theorem Ext.shut {W:World} {D:Nat} (h:Ext w W) (hD:w.heap.size≤D) (hK:W.heap[D]? =some (.deferred (some []))):Ext w (W.putObj D (.deferred none)):=
 Below.trans h (belowK_b (w:=w) (nr_ _) W D _ _ hD hK rfl rfl)
end Go.Proofs.YtpfajhcdfgpgmaaGreatDoor

namespace Go.Proofs.YtpfajhcdfgpgmaaGreatDoor
open Go.RowKit Go.Shelf
set_option maxHeartbeats 1000000
attribute [local go_sem] Oper.semAt_some
def Tab (w:World):Prop:=1<w.heap.size∧∀j,j<64→w.cell? ⟨1,j,none⟩=some (.int .u8 (Lib.deBruijn64tab.getD j 0))
theorem Tab.ext {w w':World} (h:Tab w) (hE:Ext w w'):Tab w':=⟨nl_ h.1 hE.size,fun j hj=>hE.cell (h.2 j hj)⟩
theorem tz_neg (x:Nat) (h0:x≠0) (hx:x<18446744073709551616):IntKind.u64.wrap (-(x:Int))=((18446744073709551616 - x:Nat):Int):=by rw [IntKind.wrap_u64];omega
theorem tz_key (x a:Nat) (h0:x≠0) (hx:x<18446744073709551616) (hlow:x &&& (18446744073709551616 - x)=a):
  IntKind.u64.wrap (bits BinOp.and IntKind.u64 (x:Int) (IntKind.u64.wrap (-(x:Int))) * 285870213051353865) / 288230376151711744=((a * 285870213051353865 % 18446744073709551616 / 288230376151711744:Nat):Int):=by
 rw [tz_neg x h0 hx,bits_and_u64_nat x _ hx (by omega),hlow,IntKind.wrap_u64]
 omega
theorem tz64_core (x k idx:Nat) (w:World) (hx0:((x:Int) == 0)=false)
  (key:IntKind.u64.wrap (bits BinOp.and IntKind.u64 (x:Int) (IntKind.u64.wrap (-(x:Int))) * 285870213051353865) / 288230376151711744=(idx:Int))
  (hi:idx<64) (hk:k<64) (hcell:w.cell? ⟨1,idx,none⟩=some (.int .u8 k)):
  Calls Tryz.prog 140 #[.int .u64 x] w fun e w'=>e= .returned (.int .i64 k)∧w=w':=by
 go_enter Tryz.func140,Tryz.ntmps140
 go_wp2_with (simp only [key])
 go_ret
 exact⟨rfl,rfl⟩
theorem TrailingZeros64_c (R:Nat) (w:World) (h0:R≠0) (h:R<281474976710656) (hT:Tab w):
  Calls Tryz.prog 140 #[.int .u64 (R:Int)] w fun e w'=>e= .returned (.int .i64 (Lib.ctz 64 R:Nat))∧w=w':=by
 obtain⟨hlow,hk⟩:=Lib.lowest_bit 64 R h0 (by omega)
 obtain⟨hi,htab⟩:=Lib.deBruijn64_at _ hk
 have hcell:=hT.2 _ hi
 rw [htab] at hcell
 exact tz64_core R _ _ w (by simp;omega) (tz_key R _ h0 (by omega) hlow) hi hk hcell
theorem TrailingZeros_c (R:Nat) (w:World) (h0:R≠0) (h:R<281474976710656) (hT:Tab w):
  Calls Tryz.prog 134 #[.int .u64 (R:Int)] w fun e w'=>e= .returned (.int .i64 (Lib.ctz 64 R:Nat))∧w=w':=by
 go_enter Tryz.func134,Tryz.ntmps134
 go_wp2_with (go_at_call 140;refine (TrailingZeros64_c _ _ h0 h hT).mono ?_;rintro e w' ⟨rfl,rfl⟩)
 go_ret
 exact⟨rfl,rfl⟩
end Go.Proofs.YtpfajhcdfgpgmaaGreatDoor

namespace Go.Proofs.YtpfajhcdfgpgmaaGreatDoor
open Go.RowKit Go.Shelf
open Globe (nth)
set_option maxHeartbeats 2000000
attribute [local go_sem] Oper.semAt_some
theorem Tab.keep {n₀:Nat} {X:Nat→Prop} {w w':World} (h:Tab w) (hn:1<n₀) (hx:¬X 1) (hb:KeepX n₀ X w w'):Tab w':=
 ⟨nl_ h.1 hb.size,fun j hj=>(hb.cell hn hx).trans (h.2 j hj)⟩
theorem cells_c (a:Option Addr) (k c:Nat) (w:World):Calls Tryz.prog 128 #[.agg #[.slice a k c]] w fun e w'=>e= .returned (.func (.func 133) #[] #[.pointer (some ⟨w.heap.size,0,none⟩)])∧w.alloc (.cells #[.slice a k c] 26)=w':=by
 go_enter Tryz.func128,Tryz.ntmps128
 go_wp2
 go_ret
 exact⟨rfl,rfl⟩
def encCell (p:Nat × Nat):Array Value:=#[.agg #[.int .i64 p.1,.int .i64 p.2]]
theorem and_pred_i64 (R:Nat) (h0:0<R) (h:R<281474976710656):bits .and .i64 (R:Int) ((R:Int) - 1)=((R &&& (R - 1):Nat):Int):=by
 rw [show ((R:Int) - 1)=((R - 1:Nat):Int) by omega]
 exact (bits_nat .i64 62 (by decide) (fun n h1 h2=>by rw [IntKind.wrap_i64];omega) R (R - 1) (by omega) (by omega)).1
theorem cells_stops (n:Nat) (Bn b off c n₀:Nat) (X:Nat→Prop) (l:List Int) (w:World) (hl:Globe.validL l=true) (hB:Bn<n₀) (hBX:¬X Bn) (hb:b<n₀) (hbX:¬X b) (hg:1<n₀) (hgX:¬X 1) (hn:n₀≤w.heap.size)
    (hBn:w.cell? ⟨Bn,0,none⟩=some (.slice (some ⟨b,off,none⟩) 24 c)) (hr:∀i,i<24→w.cell? ⟨b,off+i,none⟩=some (.int .i64 (nth l i))) (hT:Tab w):
    SeqStopsK Fence.wide n Tryz.prog 133 #[.pointer (some ⟨Bn,0,none⟩)] encCell (KeepX n₀ X) (fun xs=>xs=Globe.cellsTo l 24) (fun pre=>pre<+:Globe.cellsTo l 24) (Globe.cellsTo l 24).length w:=by
  intro ll J Jx W hW hJ hJx hY B3
  obtain⟨hlen,hrow⟩:=Globe.validL_t.1 hl
  have hW':KeepX n₀ X w W:=KeepX.of_below (hW.mono hn)
  refine callsIn_of_wp Tryz.func133 rfl trivial ?_ rfl
  simp only [Tryz.ntmps133,List.size_toArray,List.length_cons,List.length_nil,Nat.reduceAdd,Nat.reduceSub,Array.replicate_succ,Array.replicate_zero,List.push_toArray,List.append_toArray,List.nil_append,List.cons_append]
  have hBW:W.cell? ⟨Bn,0,none⟩=some (.slice (some ⟨b,off,none⟩) 24 c):=(hW'.cell hB hBX).trans hBn
  have Hr:Hid (∀i,i<24→W.cell? ⟨b,off+i,none⟩=some (.int .i64 (nth l i))):=fun i hi=>(hW'.cell hb hbX).trans (hr i hi)
  have HT:=Lib.hid (hT.keep hg hgX hW')
  have HY:=Lib.hid hY
  have Hrow:=Lib.hid hrow
  clear hBn hr hT hY hrow hl
  gi_wp2
  gi_loopw [9] (fun p wr=>∃y:Nat,y≤24∧p= .int .i64 y∧J (Globe.cellsTo l y) wr∧KeepX n₀ X W wr) (fun p _=>24 - (intOf p).toNat)
  case atStart=>exact⟨0,by omega,rfl,B3,KeepX.refl _ _ _⟩
  case round=>
    obtain⟨y,hy,rfl,hJy,hbw⟩:=hrel
    clear B3 hBW
    by_cases hlt:y<24
    · have hc:wr.cell? ⟨b,off+y,none⟩=some (.int .i64 (nth l y)):=(hbw.cell hb hbX).trans (Hr.out y hlt)
      obtain⟨Be,Bf⟩:=Hrow.out _ (Globe.nth_mem (l:=l) (i:=y) (by omega))
      have Bh:(0:Int)≤(y:Int):=by omega
      have hdy:decide ((y:Int)<24)=true:=by simp;omega
      gi_wp2
      obtain⟨R0,B0⟩:∃R0:Nat,nth l y=(R0:Int):=⟨(nth l y).toNat,by omega⟩
      have B2:=Lib.hid B0
      rw [B0]
      clear B0 hc
      obtain⟨wo,rfl⟩:∃wo:World,wo=wr:=⟨_,rfl⟩
      gi_loopw [4] (fun p wr=>∃(R:Nat) (done:List (Nat × Nat)),R<281474976710656∧p= .int .i64 R∧Hid (done ++ (Globe.bitsN R).map (fun x=>(x,y))=Globe.rowCells l y)∧J (Globe.cellsTo l y ++ done) wr∧KeepX n₀ X W wr) (fun p _=>(intOf p).toNat)
      case atStart=>exact⟨R0,[],by have:=B2.out;omega,rfl,by show _=_;rw [Globe.rowCells,B2.out];rfl,by simpa using hJy,hbw⟩
      case round=>
        obtain⟨R,done,hR,rfl,Hd,hJd,hbd⟩:=hrel
        by_cases hz:R=0
        · subst hz
          gi_wp2
          go_roundw
          case rel=>exact⟨y+1,by omega,by go_num,by rw [Globe.cellsTo_succ,←Hd.out];simpa [Globe.bitsN_zero] using hJd,hbd⟩
          case measure=>simp [intOf];omega
        · have Bi:((R:Int) != 0)=true:=by simp;omega
          have hTr:=HT.out.keep hg hgX hbd
          have hst:=Globe.bitsN_step R hz hR
          have hd:=Hd.out
          rw [hst,List.map_cons] at hd
          obtain⟨B4,B5⟩:=Globe.cells_mid (by omega) hd
          obtain⟨fn,tmps,assign,body,hyy,hRd⟩:=HY.out (Globe.cellsTo l y ++ done) (Lib.ctz 64 R,y) wr hJd B4
          dsimp only [encCell] at hyy
          have B6:=Lib.hid hd;clear hd B4 hst
          have B7:=Lib.hid B5;clear B5
          have hand:=and_pred_i64 R (by omega) hR
          have Ba:=Globe.and_pred_lt R hR
          have Bg:=Globe.and_pred_less R hz
          gi_wp2_with (refine⟨trivial,wide_depth,?_⟩;gi_at_call 134;refine (callsIn_wide.2 (TrailingZeros_c R _ hz hR hTr)).mono ?_;rintro e w' ⟨rfl,rfl⟩)
          refine⟨wide_depth,hRd.mono ?_⟩
          rintro e W3 (⟨rfl,B8,Bc⟩ | ⟨rfl,B1⟩)
          · gi_wp2
            go_roundw
            case rel=>exact⟨R &&& (R - 1),done ++ [(Lib.ctz 64 R,y)],Ba,rfl,by show _=_;rw [List.append_assoc];exact B6.out,by rw [←List.append_assoc];exact B8,hbd.trans Bc⟩
            case measure=>simp [intOf];omega
          · gi_wp2
            refine bodyPost_ret (results_none rfl _ _ _) rfl ?_
            exact⟨⟨_,rfl⟩,.inr ⟨_,B7.out,B1⟩⟩
    · obtain rfl:y=24:=by omega
      gi_wp2
      go_end0
      exact⟨⟨_,rfl⟩,by first | exact .inl hJy | exact .inl ⟨_,rfl,hJy⟩⟩
end Go.Proofs.YtpfajhcdfgpgmaaGreatDoor

namespace Go.Proofs.YtpfajhcdfgpgmaaGreatDoor
open Go.RowKit Go.Shelf
set_option maxHeartbeats 2000000
attribute [local go_sem] Oper.semAt_some
theorem Count_yes (b off c:Nat) (l:List Int) (w:World) (h:∀i,i<l.length→w.cell? ⟨b,off+i,none⟩=some (.int .i64 (Globe.nth l i))) (hv:Globe.validL l=true) (hT:Tab w):
  Calls Tryz.prog 116 #[.agg #[.slice (some ⟨b,off,none⟩) l.length c]] w fun e w'=>e= .returned (.int .i64 (Globe.cellsTo l 24).length)∧Ext w w':=by
 have B1:=(Globe.validL_t.1 hv).1
 have H:Hid (IntsAt w (some ⟨b,off,none⟩) l):=.inr ⟨b,off,rfl,h⟩
 have H2:=Lib.hid h;clear h
 have Hl:=Lib.hid B1
 refine (callsIn_wide (n:=3)).1 ?_
 refine callsIn_of_wp_marks Tryz.func116 rfl trivial ?_ rfl
 simp only [Tryz.ntmps116,List.size_toArray,List.length_cons,List.length_nil,Nat.reduceAdd,Nat.reduceSub,Array.replicate_succ,Array.replicate_zero,List.push_toArray,List.append_toArray,List.nil_append,List.cons_append]
 refine wpIn_wide.2 ?_
 have hl:l.length≤140737488355328:=by omega
 clear B1
 go_wp2_with (first | (go_at_call 52;refine (Valid_c _ _ _ _ (H.out.ext (by (exact xE))) hl).mono ?_;rintro e w1 ⟨rfl,hb⟩;have hc:=hb.cellE;have hf:=hb.frozenE;have hz:=hb.size;have ha:=alloc_keeps w1;(try simp only [World.size_alloc] at hc hf hz);(try simp only [World.size_setCell] at hc hf hz);(try simp only [World.size_drew] at hc hf hz)) | (go_at_call 128;refine (cells_c _ _ _ _).mono ?_;rintro e w' ⟨rfl,rfl⟩))
 obtain⟨W0,B0⟩:∃W0,W0=w1.alloc (.cells #[.slice (some ⟨b,off,none⟩) l.length c] 26):=⟨_,rfl⟩
 have hzB:w1.heap.size<W0.heap.size:=by rw [B0];simp
 have B3:Ext w1 W0:=by rw [B0];(exact xE)
 have hEw:Ext w w1:=by (exact xE)
 have B2:Ext w W0:=hEw.trans B3
 have c3:w1.cell? ⟨w.heap.size+1,0,none⟩=some (.int .i64 0):=hb.cell (by simp [go_sem])
 have f3:W0.frozen? ⟨w.heap.size+1,0,none⟩=false:=B3.free c3 (hb.free (v:=.int .i64 0) (by simp [go_sem]) (by simp [go_sem]))
 replace c3:=B3.cell c3
 have cB:W0.cell? ⟨w1.heap.size,0,none⟩=some (.slice (some ⟨b,off,none⟩) 24 c):=by rw [B0,←Hl.out];simp [go_sem]
 have hr:∀i,i<24→W0.cell? ⟨b,off+i,none⟩=some (.int .i64 (Globe.nth l i)):=fun i hi=>B2.cell (H2.out i (by rw [Hl.out];exact hi))
 have hbs:b<w.heap.size:=World.block_lt_of_cell? w _ (H2.out 0 (by rw [Hl.out];decide))
 have hgs:=hT.1
 have B4:=hT.ext B2
 rw [←B0]
 clear B0 hc hf hb
 refine wpIn_wide (n:=3).1 ?_
 refine wpIn_rangeFunc_ownF (F:=Fence.wide) rfl (by omega) (gf:=133) (lb:=#[.pointer (some ⟨w1.heap.size,0,none⟩)]) rfl trivial (enters_of Tryz.func133 (by kernel_rfl) rfl)
  (cells_stops _ w1.heap.size b off c W0.heap.size (fun k=>k=w.heap.size+1) l W0 hv hzB (by omega) (by omega) (by omega) (by omega) (by omega) (nr_ _) cB hr B4) KeepX.trans (KeepX.putObj (nr_ _)) (Below.refl _ _) (fun _=>rfl)
  (fun pre W=>(W.cell? ⟨w.heap.size+1,0,none⟩=some (.int .i64 pre.length)∧W.frozen? ⟨w.heap.size+1,0,none⟩=false)∧Ext w W)
  (fun _ _ _=>False)
  (OwnFrom.and (Own.from (fun s A B row hs hg hr=>⟨cell_kept hs.1 hg hr,(frozen_kept hs.1 hg hr).trans hs.2⟩) _) (ownFrom_below (nr_ _) (by omega)))
  (fun _ _ _ _ _ hs _ _=>hs) ⟨⟨c3,f3⟩,B2⟩
  (fun p=>{ tmps:=#[.agg #[.slice (some ⟨b,off,none⟩) l.length c],.pointer (some ⟨w.heap.size,0,none⟩),.int .i64 0,.pointer (some ⟨w.heap.size+1,0,none⟩),.agg #[.slice (some ⟨b,off,none⟩) l.length c],.bool true,.agg #[.slice (some ⟨b,off,none⟩) l.length c],.func (.func 133) #[] #[.pointer (some ⟨w1.heap.size,0,none⟩)],.agg #[.int .i64 p.1,.int .i64 p.2],undef,undef,undef],defers:=[] }) ?assign ?body ?done ?stop
 case assign=>
  intro ll p W K hK
  dsimp only [encCell]
  gi_wp2
  simpa using hK
 case body=>
  rintro ll pre p W ⟨⟨hA,hF⟩,hE⟩ hlen
  have hcl:=Globe.cellsTo_len l 24
  gi_wp2
  refine⟨by (repeat' (first | (with_reducible refine KeepsOthers.trans ?_ (KeepsOthers.setCell _ _ _)) | (with_reducible refine KeepsOthers.trans ?_ (KeepsOthers.drew _)) | (with_reducible exact KeepsOthers.refl _) | (refine Ext.others ?_;(exact xE);done))),KeepX.setCell (X:=fun k=>k=w.heap.size+1) W (p:=⟨w.heap.size+1,0,none⟩) rfl _,⟨?_,?_⟩,by (exact xE)⟩
  · simp [go_sem,hA]
  · simp [go_sem,hF]
 case done=>
  rintro D xs W hD rfl ⟨⟨hA,hF⟩,hE⟩ hK
  go_wp2
  refine⟨by simp,.inl ⟨_,_,rfl,run_takeDeferred hK,?_⟩⟩
  exact⟨_,results_tmp rfl _ _ _,rfl,Ext.shut hE (by omega) hK⟩
 case stop=>
  rintro D c pre W _ _ h _
  exact h.elim
end Go.Proofs.YtpfajhcdfgpgmaaGreatDoor

namespace Go.Proofs.YtpfajhcdfgpgmaaGreatDoor
open Go.RowKit
open Globe (inB)
variable {d:Nat} {g:Goal}
namespace Gol
def cntI (l:List Int):Int:=(((Globe.cellsTo l 24).length:Nat):Int)
def areaB (l:List Int):Bool:=Globe.validL l && decide (cntI l>0)
def limB (f:GF):Bool:=
 if f.k=1 then areaB f.rows && inB f.sf 0 1000000 && inB f.st (f.sf+1) 1000000 && inB f.lo 0 90 && inB f.hi f.lo 90
 else if f.k=2 then inB f.lo 1 8 && inB f.wi 1 1000000
 else if f.k=3 then inB f.dy 1 60 && inB f.tm 1 6 && inB f.wi 0 (1440 * f.dy) && inB f.sf 0 1000000
 else if f.k=4 then inB f.wi 0 1000000 else true
def restF (f:GF):GF where
 k:=f.k
 rows:=[]
 sf:=if f.k=1 then f.sf else if f.k=3 then f.sf else 0
 st:=if f.k=1 then f.st else 0
 lo:=if f.k=1 then f.lo else if f.k=2 then f.lo else 0
 hi:=if f.k=1 then f.hi else 0
 cl:=if f.k=1 then f.cl else false
 dy:=if f.k=3 then f.dy else 0
 tm:=if f.k=3 then f.tm else 0
 wi:=if f.k=2 then f.wi else if f.k=3 then f.wi else if f.k=4 then f.wi else 0
 cents:=[]
def plB (f g:GF):Bool:=decide (f.k=g.k) && decide (f.sf=g.sf∧f.st=g.st) && decide (f.lo=g.lo) && decide (f.hi=g.hi) && decide (f.cl=g.cl) && decide (f.dy=g.dy) && decide (f.tm=g.tm) && decide (f.wi=g.wi)
def lastK (k:Int):Int:=if k=2 then 1 else if k=3 then 1 else if k=4 then 3 else 6
def badC0 (l:List Int):Bool:=l.any fun x=> !inB x 0 1000000000
def wrongK (k:Int) (l:List Goal):Bool:=l.any fun q=>decide (q.f.k>lastK k)
def manyB (k:Int) (n:Nat):Bool:=if k=1 then ((n:Int) == (0:Int)) else if k=5 then inB n 2 4 else if k=6 then inB n 2 4 else ((n:Int) == (1:Int))
def centB (f:GF) (m n:Nat):Bool:=if f.k=6 then ((m:Int) == (n:Int)) && !badC0 f.cents else ((m:Int) == (0:Int))
def parB (f:GF) (ks:List Goal):Bool:=manyB f.k ks.length && centB f f.cents.length ks.length && ((f.k == (1:Int)) || (((f.rows.length:Nat):Int) == (0:Int))) && !wrongK f.k ks
def okF (f:GF) (ks:List Goal):Bool:=inB f.k 1 6 && plB f (restF f) && limB f && parB f ks
mutual
def sizeG (d:Nat):Goal→Option Nat
 | .mk f ks=>if d≤4∧okF f ks=true then (sizeKs (d+1) ks).map (1+ ·) else none
def sizeKs (d:Nat):List Goal→Option Nat
 | []=>some 0
 | g :: gs=>(sizeG d g).bind fun m=>(sizeKs d gs).map (m+ ·)
end
theorem sizeG_eq (d:Nat) (g:Goal):sizeG d g=if d≤4∧okF g.f g.kids=true then (sizeKs (d+1) g.kids).map (1+ ·) else none:=by
 obtain⟨f,ks⟩:=g
 rw [sizeG];rfl
theorem sizeKs_snoc {d:Nat} {g:Goal}:∀ {l:List Goal},sizeKs d (l ++ [g])=(sizeKs d l).bind fun n=>(sizeG d g).map (n+ ·)
 | []=>by
  show (sizeG d g).bind (fun m=>(some 0).map (m+ ·))=(some 0).bind _
  cases sizeG d g <;> simp
 | x :: l=>by
  show (sizeG d x).bind (fun m=>(sizeKs d (l ++ [g])).map (m+ ·))=((sizeG d x).bind fun m=>(sizeKs d l).map (m+ ·)).bind _
  rw [sizeKs_snoc]
  cases sizeG d x <;> cases sizeKs d l <;> cases sizeG d g <;> simp [Nat.add_assoc]
theorem sizeKs_none {d:Nat}:∀ {l:List Goal} {g:Goal},g ∈ l→sizeG d g=none→sizeKs d l=none
 | x :: l,g,h,hn=>by
  show (sizeG d x).bind (fun m=>(sizeKs d l).map (m+ ·))=none
  rcases List.mem_cons.1 h with rfl | h
  · rw [hn];rfl
  · rw [sizeKs_none h hn];cases sizeG d x <;> rfl
theorem kid_mem {i:Nat} (hi:i<g.kids.length):kidN g i ∈ g.kids:=List.mem_of_getElem? (kidN_at hi)
mutual
theorem sizeG_le:∀ {g:Goal} {d m:Nat},sizeG d g=some m→d≤4∧m≤2 * 4 ^ (4 - d) - 1
  | .mk f ks,d,m,h=>by
    rw [sizeG] at h
    split at h
    · rename_i q
      cases hs:sizeKs (d+1) ks with
      | none=>rw [hs] at h;cases h
      | some n=>
        rw [hs] at h;simp at h
        have hk:ks.length≤4:=by
          have h2:=q.2
          unfold okF at h2
          simp only [Bool.and_eq_true] at h2
          have h3:=h2.2
          unfold parB at h3
          simp only [Bool.and_eq_true] at h3
          have h4:=h3.1.1.1
          unfold manyB at h4
          split at h4
          · have:=eq_of_beq h4;omega
          · split at h4
            · have:=Globe.inB_t.1 h4;omega
            · split at h4
              · have:=Globe.inB_t.1 h4;omega
              · have:=eq_of_beq h4;omega
        have hl:=sizeKs_le hs
        refine⟨q.1,?_⟩
        rcases Nat.lt_or_ge d 4 with hd | hd
        · have e:4 ^ (4 - d)=4 * 4 ^ (4 - (d+1)):=by rw [←Nat.pow_succ',show (4 - (d+1)).succ=4 - d by omega]
          have h1:0<4 ^ (4 - (d+1)):=Nat.pow_pos (by decide)
          rcases Nat.eq_zero_or_pos ks.length with z | z
          · rw [z] at hl;omega
          · have:n≤4 * (2 * 4 ^ (4 - (d+1)) - 1):=Tq (hl.2) (Nat.mul_le_mul_right _ hk)
            omega
        · have:ks.length=0:=by
            rcases Nat.eq_zero_or_pos ks.length with z | z
            · exact z
            · have:=hl.1 z;omega
          have h9:=hl.2
          rw [this] at h9
          obtain rfl:d=4:=by omega
          simp at h9
          simp;omega
    · cases h
theorem sizeKs_le:∀ {l:List Goal} {d m:Nat},sizeKs d l=some m→(0<l.length→d≤4)∧m≤l.length * (2 * 4 ^ (4 - d) - 1)
 | [],d,m,h=>by
  have:(some 0:Option Nat)=some m:=h
  cases this
  exact⟨fun q=>absurd q (Nat.lt_irrefl 0),Nat.zero_le _⟩
 | g :: l,d,m,h=>by
  have h':((sizeG d g).bind fun m=>(sizeKs d l).map (m+ ·))=some m:=h
  cases h1:sizeG d g with
  | none=>rw [h1] at h';cases h'
  | some a=>
   cases h2:sizeKs d l with
   | none=>rw [h1,h2] at h';cases h'
   | some b=>
    rw [h1,h2] at h'
    simp at h'
    have q1:=sizeG_le h1
    have q2:=sizeKs_le h2
    refine⟨fun _=>q1.1,?_⟩
    rw [List.length_cons,Nat.add_mul,Nat.one_mul];omega
end
end Gol
instance {w w':World}:MvC w w' (Tab w) (Tab w'):=⟨fun e h=>h.ext e⟩
end Go.Proofs.YtpfajhcdfgpgmaaGreatDoor

namespace Go.Proofs.YtpfajhcdfgpgmaaGreatDoor
open Go.RowKit
variable {w w':World} {B:Nat} {a:Addr} {v:Value}
def p2 (n:Nat):Nat:=2 ^ n
theorem Ext.grown {w0 w w':World} {B:Nat} (h:Ext w0 w) (hg:w.grownBy w' (some B)) (hB:w0.heap.size≤B):Ext w0 w':=Below.grown h hg h.size (fun k e=>by cases e;exact hB)
theorem grown_cell (hg:w.grownBy w' (some B)) (h:w.cell? a=some v) (hne:a.block≠B):w'.cell? a=some v:=hg.cell h (fun e=>hne (by simpa using e))
theorem grown_free (hg:w.grownBy w' (some B)) (h:w.cell? a=some v) (hf:w.frozen? a=false) (hne:a.block≠B):w'.frozen? a=false:=
 (World.frozen?_of_block (hg.block a.block (World.block_lt_of_cell? w a h) (fun e=>hne (by simpa using e)))).trans hf
theorem BoxAt.grown (hg:w.grownBy w' (some B)) {b o:Nat} (h:BoxAt w b o v) (hne:b≠B):BoxAt w' b o v:=⟨grown_cell hg h.1 hne,grown_free hg h.1 h.2 hne⟩
def Mk (w:World) (O B:Nat) (wr:World):Prop:=
 (∃L,Globe.validL L=true∧RowsAt wr B L)∧wr.cell? ⟨O,0,none⟩=some (.slice (some ⟨B,0,none⟩) 24 24)∧BoxAt wr w.heap.size 0 (.slice none 0 0)∧Ext w wr
theorem Mk.ext {w w1 w2:World} {O B:Nat} (h:Mk w O B w1) (hE:Ext w1 w2):Mk w O B w2:=
 ⟨by obtain⟨L,hv,hr⟩:=h.1;exact⟨L,hv,hr.ext hE⟩,hE.cell h.2.1,BoxAt.ext hE h.2.2.1,h.2.2.2.trans hE⟩
end Go.Proofs.YtpfajhcdfgpgmaaGreatDoor

namespace Go.Proofs.YtpfajhcdfgpgmaaGreatDoor
open Go.RowKit
variable {w w' w0:World} {b base n o size:Nat} {e:TypeId} {v:Value} {xs:List Value}
theorem Ext.grownNone (h:Ext w w'):w.grownBy w' none:=⟨h.os,h.tape,h.output,Below.size h,fun k hk _=>Below.block h k hk⟩
theorem own_ext (h:w.ownsRow base e size v n xs) (hE:Ext w w'):w'.ownsRow base e size v n xs:=
 h.kept hE.grownNone (by cases v.ownBlock <;> simp)
theorem Ext.own (h:Ext w0 w) (hr:w.ownsRow w0.heap.size e size v n xs) (hg:w.grownBy w' v.ownBlock):Ext w0 w':=
 Below.grown h hg h.size (fun k e=>(hr.lt k e).1)
theorem VA.grownR {r:Option Nat} {l:List Int} (h:VA w b o l) (hg:w.grownBy w' r) (hne:r≠some b):VA w' b o l:=⟨fun i hi=>hg.cell (h.1 i hi) (fun e=>hne e.symm),h.2⟩
theorem BoxAt.grownR {r:Option Nat} (h:BoxAt w b o v) (hg:w.grownBy w' r) (hne:r≠some b):BoxAt w' b o v:=
 ⟨hg.cell h.1 (fun e=>hne e.symm),(World.frozen?_of_block (hg.block b (World.block_lt_of_cell? w _ h.1) (fun e=>hne e.symm))).trans h.2⟩
theorem Ext.own' (h:Ext w0 w) (hr:w.ownsRow base e size v n xs) (hb:w0.heap.size≤base) (hg:w.grownBy w' v.ownBlock):Ext w0 w':=
 Below.grown h hg h.size (fun k e=>Tq hb (hr.lt k e).1)
end Go.Proofs.YtpfajhcdfgpgmaaGreatDoor

namespace Go.Proofs.YtpfajhcdfgpgmaaGreatDoor
open Go.RowKit
end Go.Proofs.YtpfajhcdfgpgmaaGreatDoor

namespace Go.Proofs.YtpfajhcdfgpgmaaGreatDoor
open Go.RowKit
variable {w w':World} {O n₀ size:Nat} {e t:TypeId} {v:Value}
structure Rep (α:Type) where
 rel:World→List Value→α→List Nat→Prop
 keep:∀ {w w':World} {c:List Value} {x:α} {F:List Nat},rel w c x F→(∀b ∈ F,∀o u,w.cell? ⟨b,o,none⟩=some u→w'.cell? ⟨b,o,none⟩=some u)→rel w' c x F
 lt:∀ {w:World} {c:List Value} {x:α} {F:List Nat},rel w c x F→∀b ∈ F,b<w.heap.size
theorem Rep.ext {α:Type} (R:Rep α) {c:List Value} {x:α} {F:List Nat} (h:R.rel w c x F) (hE:Ext w w'):R.rel w' c x F:=R.keep h fun _ _ _ _ hu=>hE.cell hu
def OwnL {α:Type} (R:Rep α) (n₀:Nat) (e:TypeId) (size:Nat) (v:Value) (w:World) (l:List α):Prop:=
 ∃cs:List (List Value),cs.length=l.length∧(∀c ∈ cs,c.length=size)∧w.ownsRow n₀ e size v l.length cs.flatten∧
  ∀(j:Nat) x c,l[j]? =some x→cs[j]? =some c→∃F,R.rel w c x F∧∀b ∈ F,v.ownBlock≠some b
structure Grew (n₀:Nat) (w w':World):Prop where
 size:w.heap.size≤w'.heap.size
 ext:∀U,Ext U w→U.heap.size≤n₀→Ext U w'
theorem OwnL.nil {α:Type} (R:Rep α) (n₀:Nat) (e:TypeId) (size:Nat) (w:World):OwnL R n₀ e size (.slice none 0 0) w []:=⟨[],rfl,(fun c hc=>by cases hc),World.ownsRow_nil w n₀ e size,(fun j x c hx=>by simp at hx)⟩
theorem OwnL.ext {α:Type} {R:Rep α} {n₀:Nat} {e:TypeId} {size:Nat} {v:Value} {w w':World} {l:List α} (h:OwnL R n₀ e size v w l) (hE:Ext w w'):OwnL R n₀ e size v w' l:=by
 obtain⟨cs,h1,h2,h3,h4⟩:=h
 exact⟨cs,h1,h2,own_ext h3 hE,fun j x c hx hc=>by obtain⟨F,q1,q2⟩:=h4 j x c hx hc;exact⟨F,R.ext q1 hE,q2⟩⟩
instance {α:Type} {R:Rep α} {n₀:Nat} {e:TypeId} {size:Nat} {v:Value} {w w':World} {l:List α}:MvC w w' (OwnL R n₀ e size v w l) (OwnL R n₀ e size v w' l):=⟨fun e h=>h.ext e⟩
theorem OwnL.lt {α:Type} {R:Rep α} {n₀:Nat} {e:TypeId} {size:Nat} {v:Value} {w:World} {l:List α} (h:OwnL R n₀ e size v w l):∀b,v.ownBlock=some b→b<w.heap.size:=by
 obtain⟨cs,h1,h2,h3,h4⟩:=h
 exact fun b hb=>(h3.lt b hb).2
structure ElemT (P:Program) (t e:TypeId) (z:Value) (size bytes:Nat):Prop where
 under:P.underlying t=some (.slice e)
 info:(P.info? e).map (fun i=>(i.zero,i.size,i.bytes))=some (some z,size,bytes)
 zs:z.cells.size=size
 pos:0<size
theorem flatten_len {size:Nat}:∀ {cs:List (List Value)},(∀c ∈ cs,c.length=size)→cs.flatten.length=cs.length * size
 | [],_=>by simp
 | c :: r,h=>by
  rw [List.flatten_cons,List.length_append,flatten_len (fun d hd=>h d (List.mem_cons_of_mem _ hd)),h c (by simp),List.length_cons,Nat.add_mul];omega
theorem flatten_get {size:Nat}:∀ {cs:List (List Value)},(∀c ∈ cs,c.length=size)→∀(j:Nat) {c:List Value},cs[j]? =some c→∀i,i<size→cs.flatten[j * size+i]? =c[i]?
 | [],_,j,c,h,_,_=>by simp at h
 | d :: r,h,0,c,hc,i,hi=>by
  simp at hc;subst hc
  rw [List.flatten_cons,Nat.zero_mul,Nat.zero_add,List.getElem?_append_left (by rw [h d (by simp)];exact hi)]
 | d :: r,h,j+1,c,hc,i,hi=>by
  have hd:=h d (by simp)
  rw [List.flatten_cons,List.getElem?_append_right (by rw [hd,Nat.add_mul];omega),hd,show (j+1) * size+i - size=j * size+i by rw [Nat.add_mul];omega]
  exact flatten_get (fun d hd=>h d (List.mem_cons_of_mem _ hd)) j (by simpa using hc) i hi
theorem cells1 {x:Value} (h:w.cell? ⟨O,0,none⟩=some x):∀j u,[x][j]? =some u→w.cell? ⟨O,j,none⟩=some u
 | 0,u,hu=>by simp at hu;subst hu;exact h
 | _+1,u,hu=>by simp at hu
theorem OwnL.base {α:Type} {R:Rep α} {l:List α} (h:OwnL R n₀ e size v w l):∀b,v.ownBlock=some b→n₀≤b:=by
 obtain⟨cs,h1,h2,h3,h4⟩:=h
 exact fun b hb=>(h3.lt b hb).1
theorem sn_newS0 {P:Program} {ev:Operand→Value} {oi:Oper} {N:Value→World→Prop} (h1:(execOp ev oi).run P w= .ok (.value (.slice (some ⟨w.heap.size,0,none⟩) 0 0)) (w.alloc (.cells #[] t)))
  (h:∀O X,w.heap.size=O→X.heap.size=O+1→Ext w X→X.heap[O]? =some (.cells #[] t (0,0))→N (.slice (some ⟨O,0,none⟩) 0 0) X):StepN P ev oi w N:=
 sn_eff h1 (h _ _ rfl (by simp) (Ext.alloc (er_ _) _) (heap_alloc_new w _))
theorem own_empty {base:Nat} (h:w.heap[O]? =some (.cells #[] e (0,0))) (hb:base≤O):w.ownsRow base e size (.slice (some ⟨O,0,none⟩) 0 0) 0 []:=
 ⟨by simp,.inr ⟨O,0,#[],rfl,hb,h,nr_ _,by unfold maxLen;omega,by simp,by simp⟩⟩
theorem OwnL.empty {α:Type} (R:Rep α) (h:w.heap[O]? =some (.cells #[] e (0,0))) (hb:n₀≤O):OwnL R n₀ e size (.slice (some ⟨O,0,none⟩) 0 0) w []:=
 ⟨[],rfl,(fun c hc=>by cases hc),own_empty h hb,(fun j x c hx=>by simp at hx)⟩
theorem app_none {P:Program} {ty:TypeId} {z:Value} {bytes:Nat} (E:ElemT P t e z size bytes) {b:Option Addr} {n c:Nat} {a:Option Addr} {k:Nat} (h:n≤c):
  (Builtin.append_ #[t,t] ty #[.slice b n c,.slice a 0 k]).run P w= .ok (.slice b n c) w:=by
 obtain⟨i,hi,hz0,hz1,hz2⟩:=info_parts E.info
 cases a <;> cases b <;> simp [Builtin.append_,run_underlying E.under,sizeOf,typeInfo,hi,Builtin.lenOf,Builtin.firstCells,loadCells,loadCellsFrom,storeCells,h]
theorem ex_append {P:Program} {ev:Operand→Value} {o:Oper} {x y:Operand} {t1 t2:TypeId} {s v':Value} (hop:o.op= .call { callee:=.builtin .append,args:=#[x,y],argTypes:=#[t1,t2] }) (hx:ev x=v) (hy:ev y=s)
  (h:(Builtin.append_ #[t1,t2] o.type #[v,s]).run P w= .ok v' w'):(execOp ev o).run P w= .ok (.value v') w':=by
 simp [execOp,hop,resolve,invoke,builtin,hx,hy,h,Result.andThen]
end Go.Proofs.YtpfajhcdfgpgmaaGreatDoor

namespace Go.Proofs.YtpfajhcdfgpgmaaGreatDoor
open Go.RowKit
def FR (r:Option Nat):Fence:={ Fence.wide with round:=r }
section
variable {P:Program} {n:Nat} {L:List Value} {ws:List (Nat × Value)} {w:World} {Q:Exit→Act→World→Prop} {r:Option Nat} {m:Nat} {Ds:List Nat}
theorem semAt_of {ev:Operand→Value} {o:Oper} {nx:Next} {w':World} (h:(execOp ev o).run P w= .ok nx w') (hd:∀d,nx≠ .defer d):(o.semAt r ev).run P w= .ok nx w':=by
  rw [Oper.semAt_eq]
  · exact h
  · intro c hc
    simp only [execOp,hc,Sem.run_bind] at h
    cases e:(resolve ev c o.type).run P w with
    | ok d w1=>rw [e] at h;simp [Result.andThen] at h;exact hd _ h.1.symm
    | halt x w1=>rw [e] at h;simp [Result.andThen] at h
end
structure Mv (n₀:Nat) (A B:World):Prop where
 os:B.os=A.os
 tape:B.tape=A.tape
 output:B.output=A.output
 size:A.heap.size≤B.heap.size
 cells:∀(k:Nat) (o:Obj),A.heap[k]? =some o→o.isCells=true→B.heap[k]? =some o
 below:∀(k:Nat),k<n₀→k<A.heap.size→B.heap[k]? =A.heap[k]?
theorem Mv.refl (n₀:Nat) (A:World):Mv n₀ A A:=⟨rfl,rfl,rfl,nr_ _,fun _ _ h _=>h,fun _ _ _=>rfl⟩
theorem Mv.trans {n₀:Nat} {A B C:World} (h:Mv n₀ A B) (k:Mv n₀ B C):Mv n₀ A C:=
 ⟨k.os.trans h.os,k.tape.trans h.tape,k.output.trans h.output,Tq h.size k.size,fun i o hi ho=>k.cells i o (h.cells i o hi ho) ho,fun i hi hl=>(k.below i hi (nl_ hl h.size)).trans (h.below i hi hl)⟩
theorem Mv.of_ext {n₀:Nat} {A B:World} (h:Ext A B):Mv n₀ A B:=
 ⟨h.os,h.tape,h.output,h.size,fun k _ hk _=>(h.block k (Array.getElem?_eq_some_iff.1 hk).1).trans hk,fun k _ hk=>h.block k hk⟩
theorem Mv.putObj {n₀:Nat} {A:World} {k:Nat} {o:Obj} (o':Obj) (hk:n₀≤k) (ho:A.heap[k]? =some o) (hc:o.isCells=false):Mv n₀ A (A.putObj k o'):=
 ⟨rfl,rfl,rfl,by simp,fun j u hj hu=>(World.putObj_heap_other (fun e=>by subst e;rw [ho] at hj;cases hj;rw [hc] at hu;cases hu)).trans hj,fun j hj _=>World.putObj_heap_other (by omega)⟩
theorem Mv.ext {n₀:Nat} {A B U:World} (h:Mv n₀ A B) (hU:Ext U A) (hn:U.heap.size≤n₀):Ext U B:=
 ⟨h.os.trans hU.os,h.tape.trans hU.tape,h.output.trans hU.output,Tq hU.size h.size,fun k hk=>(h.below k (nl_ hk hn) (nl_ hk hU.size)).trans (hU.block k hk)⟩
theorem Mv.cell {n₀:Nat} {A B:World} (h:Mv n₀ A B) {p:Addr} {v:Value} (hv:A.cell? p=some v):B.cell? p=some v:=by
 obtain⟨o,ho,hc⟩:=cells_of_cell hv
 exact (World.cell?_of_block ((h.cells _ o ho hc).trans ho.symm)).trans hv
theorem Mv.froz {n₀:Nat} {A B:World} (h:Mv n₀ A B) {p:Addr} {v:Value} (hv:A.cell? p=some v):B.frozen? p=A.frozen? p:=by
 obtain⟨o,ho,hc⟩:=cells_of_cell hv
 exact World.frozen?_of_block ((h.cells _ o ho hc).trans ho.symm)
theorem Mv.box {n₀:Nat} {A B:World} (h:Mv n₀ A B) {b o:Nat} {v:Value} (hv:BoxAt A b o v):BoxAt B b o v:=⟨h.cell hv.1,by rw [h.froz hv.1];exact hv.2⟩
theorem Mv.va {n₀:Nat} {A B:World} (h:Mv n₀ A B) {b o:Nat} {l:List Int} (hv:VA A b o l):VA B b o l:=⟨fun i hi=>h.cell (hv.1 i hi),hv.2⟩
theorem Mv.rows {n₀:Nat} {A B:World} (h:Mv n₀ A B) {b:Nat} {l:List Int} (hv:RowsAt A b l):RowsAt B b l:=⟨hv.1,fun i hi=>h.cell (hv.cell hi),fun i hi=>by rw [h.froz (hv.cell hi)];exact hv.free hi⟩
theorem Mv.ints {n₀:Nat} {A B:World} (h:Mv n₀ A B) {a:Option Addr} {l:List Int} (hv:IntsAt A a l):IntsAt B a l:=by
 rcases hv with q | ⟨b,off,rfl,q⟩
 · exact .inl q
 · exact .inr ⟨b,off,rfl,fun i hi=>h.cell (q i hi)⟩
theorem Mv.own {α:Type} {R:Rep α} {n₀ n₁:Nat} {e:TypeId} {size:Nat} {v:Value} {A B:World} {l:List α} (h:Mv n₁ A B) (ho:OwnL R n₀ e size v A l):OwnL R n₀ e size v B l:=by
  obtain⟨cs,h1,h2,h3,h4⟩:=ho
  refine⟨cs,h1,h2,⟨h3.1,?_⟩,fun j x c hx hc=>?_⟩
  · rcases h3.2 with q | ⟨g,cap,cur,q,hb,hcur,rest⟩
    · exact .inl q
    · exact .inr ⟨g,cap,cur,q,hb,h.cells _ _ hcur rfl,rest⟩
  · obtain⟨F,q1,q2⟩:=h4 j x c hx hc
    exact⟨F,R.keep q1 (fun b _ o u hu=>h.cell hu),q2⟩
structure KeptX (X:Nat→Prop) (A B:World):Prop where
 size:A.heap.size≤B.heap.size
 cells:∀(k:Nat) (o:Obj),A.heap[k]? =some o→o.isCells=true→¬X k→B.heap[k]? =some o
theorem KeptX.trans {X:Nat→Prop} {A B C:World} (h:KeptX X A B) (k:KeptX X B C):KeptX X A C:=⟨Tq h.size k.size,fun i o hi ho hx=>k.cells i o (h.cells i o hi ho hx) ho hx⟩
theorem KeptX.of_mv {X:Nat→Prop} {n₀:Nat} {A B:World} (h:Mv n₀ A B):KeptX X A B:=⟨h.size,fun k o hk ho _=>h.cells k o hk ho⟩
theorem KeptX.cell {X:Nat→Prop} {A B:World} (h:KeptX X A B) {b o:Nat} {v:Value} (hx:¬X b) (hv:A.cell? ⟨b,o,none⟩=some v):B.cell? ⟨b,o,none⟩=some v:=by
 obtain⟨u,hu,hc⟩:=cells_of_cell hv
 exact (World.cell?_of_block ((h.cells _ u hu hc hx).trans hu.symm)).trans hv
theorem KeptX.box {X:Nat→Prop} {A B:World} (h:KeptX X A B) {b o:Nat} {v:Value} (hx:¬X b) (hv:BoxAt A b o v):BoxAt B b o v:=by
 obtain⟨u,hu,hc⟩:=cells_of_cell hv.1
 exact⟨h.cell hx hv.1,(World.frozen?_of_block ((h.cells _ u hu hc hx).trans hu.symm)).trans hv.2⟩
structure RK (n₀:Nat) (X:Nat→Prop) (A B:World):Prop where
 kept:KeptX X A B
 oth:KeepsFrom n₀ A B
theorem RK.refl (n₀:Nat) (X:Nat→Prop) (A:World):RK n₀ X A A:=⟨⟨nr_ _,fun _ _ h _ _=>h⟩,KeepsFrom.refl _ _⟩
theorem RK.ext {n₀:Nat} {X:Nat→Prop} {A B C:World} (h:RK n₀ X A B) (e:Ext B C):RK n₀ X A C:=
 ⟨h.kept.trans (KeptX.of_mv (n₀:=0) (Mv.of_ext e)),h.oth.trans (e.others.from _)⟩
instance {w w':World} {n₀:Nat} {X:Nat→Prop} {A:World}:MvC w w' (RK n₀ X A w) (RK n₀ X A w'):=⟨fun e h=>h.ext e⟩
theorem RK.turn {n₀:Nat} {X:Nat→Prop} {A B C:World} (h:RK n₀ X A B) {O:Nat} (t:Turns O B C) (hO:X O∨A.heap.size≤O):RK n₀ X A C:=by
  refine⟨⟨by rw [t.size];exact h.kept.size,fun k o hk ho hx=>?_⟩,⟨by rw [t.size];exact h.oth.size,fun k o hk hi ho=>?_⟩⟩
  · have hne:k≠O:=fun e=>by
      subst e
      rcases hO with q | q
      · exact hx q
      · have:=(Array.getElem?_eq_some_iff.1 hk).1;omega
    rw [t.heap' k hne];exact h.kept.cells k o hk ho hx
  · have h2:=h.oth.same k o hk hi ho
    by_cases e:k=O
    · subst e;exact t.oth' o h2 ho
    · rw [t.heap' k e];exact h2
section
variable {P:Program} {n:Nat} {L:List Value} {ws:List (Nat × Value)} {w:World} {Q:Exit→Act→World→Prop} {r:Option Nat} {m:Nat} {Ds:List Nat}
end
section
variable {P:Program} {ops:Array Oper} {Q:Exit→Act→World→Prop} {S:World→Prop} {r:Option Nat} {m:Nat}
def PureH (P:Program) (ops:Array Oper) (S:World→Prop) (o:Oper) (v:Value) (a:Act):Prop:=
 (Region.wanted o (yielded ops a.tmps)=true∧∀w,S w→(execOp a.eval o).run P w= .ok (.value v) w)∨(Region.wanted o (yielded ops a.tmps)=false∧v=undef)
theorem PureH.same {o:Oper} {v:Value} {a a':Act} (h:PureH P ops S o v a) (he:execOp a'.eval o=execOp a.eval o) (hw:Region.wanted o (yielded ops a'.tmps)=Region.wanted o (yielded ops a.tmps)):PureH P ops S o v a':=by
 unfold PureH at *
 rw [hw,he];exact h
theorem PureH.op {i:Nat} {o:Oper} {v:Value} {a:Act} (hi:ops[i]? =some o) (h:PureH P ops S o v a) {K:Act→World→Prop} {w:World} (hS:S w) (hk:K (a.put o.dst v) w):wpOpIn (FR r) m P ops Q i K a w:=by
  unfold wpOpIn
  simp only [hi]
  rcases h with ⟨hw,hv⟩ | ⟨hw,rfl⟩
  · rw [if_pos hw]
    refine⟨fun _ _=>trivial,?_⟩
    show o.uponIn (FR r) m P a K Q ((o.semAt r a.eval).run P w)
    rw [semAt_of (hv w hS) (by simp),Oper.uponIn_value];exact hk
  · rw [if_neg (by rw [hw];simp)]
    exact⟨fun _ _=>trivial,hk⟩
end
section
variable {P:Program} {ops ops0:Array Oper} {Q Q':Exit→Act→World→Prop} {S:World→Prop} {T:List Row} {L:List Value} {Ds:List Nat} {fuel n:Nat} {done:List Nat} {ws:List (Nat × Value)} {w:World} {r:Option Nat} {m:Nat}
end
section
variable {P:Program} {n:Nat} {L:List Value} {ws:List (Nat × Value)} {w:World} {m:Nat}
end
structure Wrote (X:Nat→Prop) (A B:World):Prop where
 os:B.os=A.os
 tape:B.tape=A.tape
 output:B.output=A.output
 size:A.heap.size≤B.heap.size
 same:∀(k:Nat),k<A.heap.size→¬X k→B.heap[k]? =A.heap[k]?
 oth:∀(k:Nat) (o:Obj),A.heap[k]? =some o→o.isCells=false→B.heap[k]? =some o
theorem Wrote.refl (X:Nat→Prop) (A:World):Wrote X A A:=⟨rfl,rfl,rfl,nr_ _,fun _ _ _=>rfl,fun _ _ h _=>h⟩
theorem Wrote.trans {X:Nat→Prop} {A B C:World} (h:Wrote X A B) (k:Wrote X B C):Wrote X A C:=
 ⟨k.os.trans h.os,k.tape.trans h.tape,k.output.trans h.output,Tq h.size k.size,fun i hi hx=>(k.same i (nl_ hi h.size) hx).trans (h.same i hi hx),fun i o hi ho=>k.oth i o (h.oth i o hi ho) ho⟩
theorem Wrote.of_ext {X:Nat→Prop} {A B:World} (e:Ext A B):Wrote X A B:=
 ⟨e.os,e.tape,e.output,e.size,fun k hk _=>e.block k hk,fun k _o hk _=>(e.block k (Array.getElem?_eq_some_iff.1 hk).1).trans hk⟩
theorem Wrote.of_turns {X:Nat→Prop} {A B:World} {O:Nat} (t:Turns O A B) (hx:X O):Wrote X A B:=by
 have h0:Ext { A with heap:=#[] } A:=⟨rfl,rfl,rfl,Nat.zero_le _,fun k hk=>absurd hk (Nat.not_lt_zero k)⟩
 have h1:=t.ext h0 (Nat.zero_le _)
 refine⟨h1.os,h1.tape,h1.output,nq_ t.size.symm,fun k _ hk=>t.heap' k (fun e=>hk (e ▸ hx)),fun k o hk ho=>?_⟩
 by_cases e:k=O
 · subst e;exact t.oth' o hk ho
 · rw [t.heap' k e];exact hk
theorem Wrote.step {X:Nat→Prop} {A B C:World} (h:Wrote X A B) (e:Ext B C):Wrote X A C:=h.trans (Wrote.of_ext e)
theorem Wrote.turn {X:Nat→Prop} {A B C:World} (h:Wrote X A B) {O:Nat} (t:Turns O B C) (hO:X O∨A.heap.size≤O):Wrote X A C:=by
  rcases hO with q | q
  · exact h.trans (Wrote.of_turns t q)
  · have k:=Wrote.of_turns (X:=fun k=>k=O) t rfl
    exact⟨k.os.trans h.os,k.tape.trans h.tape,k.output.trans h.output,Tq h.size k.size,fun i hi hx=>(k.same i (nl_ hi h.size) (fun e=>by omega)).trans (h.same i hi hx),fun i o hi ho=>k.oth i o (h.oth i o hi ho) ho⟩
theorem Wrote.ext {X:Nat→Prop} {A B U:World} (h:Wrote X A B) (hU:Ext U A) (hx:∀k,X k→U.heap.size≤k):Ext U B:=
 ⟨h.os.trans hU.os,h.tape.trans hU.tape,h.output.trans hU.output,Tq hU.size h.size,fun k hk=>(h.same k (nl_ hk hU.size) (fun q=>absurd hk (nn_ (hx k q)))).trans (hU.block k hk)⟩
theorem Wrote.kept {X Y:Nat→Prop} {A B:World} (h:Wrote X A B) (hx:∀k,X k→Y k):KeptX Y A B:=
 ⟨h.size,fun k _o hk _ hy=>(h.same k (Array.getElem?_eq_some_iff.1 hk).1 (fun q=>hy (hx k q))).trans hk⟩
theorem Wrote.cell {X:Nat→Prop} {A B:World} (h:Wrote X A B) {b o:Nat} {v:Value} (hb:¬X b) (hv:A.cell? ⟨b,o,none⟩=some v):B.cell? ⟨b,o,none⟩=some v:=(h.kept (fun _ q=>q)).cell hb hv
theorem Wrote.box {X:Nat→Prop} {A B:World} (h:Wrote X A B) {b o:Nat} {v:Value} (hb:¬X b) (hv:BoxAt A b o v):BoxAt B b o v:=(h.kept (fun _ q=>q)).box hb hv
theorem Wrote.va {X:Nat→Prop} {A B:World} (h:Wrote X A B) {b o:Nat} {l:List Int} (hb:¬X b) (hv:VA A b o l):VA B b o l:=⟨fun i hi=>h.cell hb (hv.1 i hi),hv.2⟩
theorem Wrote.rows {X:Nat→Prop} {A B:World} (h:Wrote X A B) {b:Nat} {l:List Int} (hb:¬X b) (hv:RowsAt A b l):RowsAt B b l:=
 ⟨hv.1,fun _i hi=>h.cell hb (hv.cell hi),fun _i hi=>(h.box hb ⟨hv.cell hi,hv.free hi⟩).2⟩
theorem RK.wrote {n₀:Nat} {X Y:Nat→Prop} {A B C:World} (h:RK n₀ X A B) (t:Wrote Y B C) (hY:∀k,Y k→X k∨A.heap.size≤k):RK n₀ X A C:=by
 refine⟨⟨Tq h.kept.size t.size,fun k o hk ho hx=>?_⟩,⟨Tq h.oth.size t.size,fun k o hk hi ho=>t.oth k o (h.oth.same k o hk hi ho) ho⟩⟩
 have h2:=h.kept.cells k o hk ho hx
 refine (t.same k (Array.getElem?_eq_some_iff.1 h2).1 (fun q=>?_)).trans h2
 rcases hY k q with q | q
 · exact hx q
 · have:=(Array.getElem?_eq_some_iff.1 hk).1;omega
theorem Wrote.wrote {X Y:Nat→Prop} {A B C:World} (h:Wrote X A B) (t:Wrote Y B C) (hY:∀k,Y k→X k∨A.heap.size≤k):Wrote X A C:=
 ⟨t.os.trans h.os,t.tape.trans h.tape,t.output.trans h.output,Tq h.size t.size,fun k hk hx=>(t.same k (nl_ hk h.size) (fun q=>(hY k q).elim hx (fun z=>absurd hk (nn_ z)))).trans (h.same k hk hx),fun k o hk ho=>t.oth k o (h.oth k o hk ho) ho⟩
section
variable {P:Program} {n:Nat} {L:List Value} {ws:List (Nat × Value)} {w:World} {Q:Exit→Act→World→Prop} {r:Option Nat} {m:Nat} {Ds:List Nat}
end
end Go.Proofs.YtpfajhcdfgpgmaaGreatDoor

namespace Go.Proofs.YtpfajhcdfgpgmaaGreatDoor
open Go.RowKit Go.MapKept
open Go.ChangeMaps (setBlock modify_eq_set heap_setBlock_same)
structure KLaw (P:Program) (k:TypeId) {κ:Type} (kv:κ→Value):Prop where
 inj:∀ {a b:κ},kv a=kv b→a=b
 check:∀(w:World) (em:Bool) (a:κ),(Instr.checkKey em 10000 k (kv a)).run P w= .ok () w
 stays:∀(w:World) (a:κ),(Instr.keyThatStays (kv a) (kv a)).run P w= .ok (kv a) w
 find:∀(w:World) (x:κ) (ks:List κ) (es:List MapEntry),es.map (·.key)=ks.map kv→
  ((Instr.findKey k (kv x) es).run P w= .ok none w∧x ∉ ks)∨∃j e,(Instr.findKey k (kv x) es).run P w= .ok (some (j,e.val)) w∧es[j]? =some e∧ks[j]? =some x∧∀i,i<j→ks[i]? ≠some x
section
variable {κ β:Type} [DecidableEq κ]
def getM (x:κ):List (κ × β)→Option β
 | []=>none
 | (y,u) :: r=>if y=x then some u else getM x r
def updM (x:κ) (v:β):List (κ × β)→List (κ × β)
 | []=>[(x,v)]
 | (y,u) :: r=>if y=x then (x,v) :: r else (y,u) :: updM x v r
theorem getM_none {x:κ}:∀ {l:List (κ × β)},x ∉ l.map Prod.fst→getM x l=none
 | [],_=>rfl
 | (y,u) :: r,h=>by
  simp only [List.map_cons,List.mem_cons,not_or] at h
  rw [getM,if_neg (fun e=>h.1 e.symm)];exact getM_none h.2
theorem updM_none {x:κ} {v:β}:∀ {l:List (κ × β)},x ∉ l.map Prod.fst→updM x v l=l ++ [(x,v)]
 | [],_=>rfl
 | (y,u) :: r,h=>by
  simp only [List.map_cons,List.mem_cons,not_or] at h
  rw [updM,if_neg (fun e=>h.1 e.symm),updM_none h.2];rfl
theorem getM_at {x:κ}:∀ {l:List (κ × β)} {j:Nat} {p:κ × β},l[j]? =some p→p.1=x→(∀i,i<j→(l.map Prod.fst)[i]? ≠some x)→getM x l=some p.2
 | [],j,p,h,_,_=>by simp at h
 | (y,u) :: r,0,p,h,hx,_=>by
  simp only [List.getElem?_cons_zero,Option.some.injEq] at h
  subst h
  rw [getM,if_pos hx]
 | (y,u) :: r,j+1,p,h,hx,hn=>by
  have h0:y≠x:=fun e=>hn 0 (by omega) (by simp [e])
  rw [getM,if_neg h0]
  exact getM_at (l:=r) (j:=j) (by simpa using h) hx (fun i hi=>by have:=hn (i+1) (by omega);simpa using this)
theorem updM_at {x:κ} {v:β}:∀ {l:List (κ × β)} {j:Nat} {p:κ × β},l[j]? =some p→p.1=x→(∀i,i<j→(l.map Prod.fst)[i]? ≠some x)→updM x v l=l.set j (x,v)
 | [],j,p,h,_,_=>by simp at h
 | (y,u) :: r,0,p,h,hx,_=>by
  simp only [List.getElem?_cons_zero,Option.some.injEq] at h
  subst h
  rw [updM,if_pos hx];rfl
 | (y,u) :: r,j+1,p,h,hx,hn=>by
  have h0:y≠x:=fun e=>hn 0 (by omega) (by simp [e])
  rw [updM,if_neg h0,updM_at (l:=r) (j:=j) (by simpa using h) hx (fun i hi=>by have:=hn (i+1) (by omega);simpa using this)];rfl
theorem getM_updM {x y:κ} {v:β}:∀ {l:List (κ × β)},getM y (updM x v l)=if x=y then some v else getM y l
  | []=>rfl
  | (z,u) :: r=>by
    unfold updM
    split
    · rename_i e;subst e
      unfold getM
      by_cases h:z=y <;> simp [h]
    · rename_i e
      unfold getM
      by_cases h:z=y
      · subst h;rw [if_pos rfl,if_neg (fun q=>e q.symm),if_pos rfl]
      · rw [if_neg h,getM_updM (l:=r),if_neg h]
end
section
variable {κ β:Type} {P:Program} {kv:κ→Value} {vv:β→Value} {k:TypeId} {w:World} {b:Nat} {l:List (κ × β)}
def prE (e:MapEntry):Value × Value:=(e.key,e.val)
def prK (kv:κ→Value) (vv:β→Value) (p:κ × β):Value × Value:=(kv p.1,vv p.2)
structure MapAt (kv:κ→Value) (vv:β→Value) (w:World) (b:Nat) (l:List (κ × β)) (es:Array MapEntry) (clock:Nat):Prop where
 at_:w.heap[b]? =some (.map es clock)
 old:∀x ∈ es.toList,x.born<clock
 born:(es.toList.map (·.born)).Nodup
 rd:es.toList.map prE=l.map (prK kv vv)
def MapS (kv:κ→Value) (vv:β→Value) (w:World) (b:Nat) (l:List (κ × β)):Prop:=∃es clock,MapAt kv vv w b l es clock
theorem MapS.lt (h:MapS kv vv w b l):b<w.heap.size:=by obtain⟨es,c,h⟩:=h;exact (Array.getElem?_eq_some_iff.1 h.at_).1
theorem MapS.block {X:World} (h:MapS kv vv w b l) (hX:X.heap[b]? =w.heap[b]?):MapS kv vv X b l:=by
 obtain⟨es,c,h⟩:=h;exact⟨es,c,hX.trans h.at_,h.old,h.born,h.rd⟩
theorem MapS.ext {X:World} (h:MapS kv vv w b l) (e:Ext w X):MapS kv vv X b l:=h.block (e.block b h.lt)
instance {κ β:Type} {kv:κ→Value} {vv:β→Value} {w w':World} {b:Nat} {l:List (κ × β)}:MvC w w' (MapS kv vv w b l) (MapS kv vv w' b l):=⟨fun e h=>MapS.ext h e⟩
theorem MapS.mv {n:Nat} {X:World} (h:MapS kv vv w b l) (e:Mv n w X) (hb:b<n):MapS kv vv X b l:=h.block (e.below b hb h.lt)
theorem MapS.turn {O:Nat} {X:World} (h:MapS kv vv w b l) (t:Turns O w X) (hb:b≠O):MapS kv vv X b l:=h.block (t.heap' b hb)
theorem MapS.made (w:World):MapS kv vv (w.alloc (.map #[] 0)) w.heap.size []:=⟨#[],0,World.alloc_heap_new w _,by simp,by simp,rfl⟩
theorem MapAt.keys {es:Array MapEntry} {c:Nat} (h:MapAt kv vv w b l es c):es.toList.map (·.key)=(l.map Prod.fst).map kv:=by
 have:=congrArg (List.map Prod.fst) h.rd
 simpa [List.map_map,Function.comp_def,prE,prK] using this
theorem MapAt.get {es:Array MapEntry} {c:Nat} (h:MapAt kv vv w b l es c) {j:Nat} {e:MapEntry} (he:es.toList[j]? =some e):∃p,l[j]? =some p∧e.key=kv p.1∧e.val=vv p.2:=by
 have:=congrArg (fun q=>q[j]?) h.rd
 simp only [List.getElem?_map,he,Option.map_some] at this
 cases hp:l[j]? with
 | none=>rw [hp] at this;cases this
 | some p=>
  rw [hp] at this
  simp only [Option.map_some,Option.some.injEq,prE,prK,Prod.mk.injEq] at this
  exact⟨p,rfl,this.1,this.2⟩
structure TurnsM (O:Nat) (w X:World):Prop where
 os:X.os=w.os
 tape:X.tape=w.tape
 output:X.output=w.output
 size:X.heap.size=w.heap.size
 heap':∀j,j≠O→X.heap[j]? =w.heap[j]?
 was:∃o,w.heap[O]? =some o∧o.isCells=false
theorem turnsM_set {o:Obj} (o':Obj) (ho:w.heap[b]? =some o) (hc:o.isCells=false):TurnsM b w (setBlock w b o'):=
 ⟨rfl,rfl,rfl,by simp [setBlock],fun j hj=>(heap_set ho).2 j hj,⟨o,ho,hc⟩⟩
theorem TurnsM.ext {O:Nat} {a w X:World} (h:TurnsM O w X) (e:Ext a w) (hO:a.heap.size≤O):Ext a X:=
 ⟨h.os.trans e.os,h.tape.trans e.tape,h.output.trans e.output,by rw [h.size];exact e.size,fun j hj=>(h.heap' j (by omega)).trans (e.block j hj)⟩
theorem TurnsM.ne {O:Nat} {X:World} (h:TurnsM O w X) {j:Nat} {o:Obj} (hj:w.heap[j]? =some o) (hc:o.isCells=true):j≠O:=fun e=>by
 obtain⟨o',h1,h2⟩:=h.was
 subst e;rw [h1] at hj;cases hj;rw [h2] at hc;cases hc
theorem TurnsM.mv {O:Nat} {X:World} (h:TurnsM O w X) (n:Nat) (hO:n≤O):Mv n w X:=
 ⟨h.os,h.tape,h.output,nq_ h.size.symm,fun j o hj hc=>(h.heap' j (h.ne hj hc)).trans hj,fun j hj _=>h.heap' j (by omega)⟩
theorem TurnsM.mv0 {O:Nat} {X:World} (h:TurnsM O w X):Mv 0 w X:=h.mv 0 (Nat.zero_le _)
theorem TurnsM.map {κ' β':Type} {kv':κ'→Value} {vv':β'→Value} {l':List (κ' × β')} {O c:Nat} {X:World} (h:TurnsM O w X) (hc:c≠O) (hm:MapS kv' vv' w c l'):MapS kv' vv' X c l':=hm.block (h.heap' c hc)
theorem RK.turnM {n₀:Nat} {X:Nat→Prop} {A B C:World} (h:RK n₀ X A B) {O:Nat} (t:TurnsM O B C) (hO:O<n₀∨A.heap.size≤O):RK n₀ X A C:=by
 refine⟨h.kept.trans (KeptX.of_mv t.mv0),⟨by rw [t.size];exact h.oth.size,fun j o hj hi ho=>?_⟩⟩
 have h2:=h.oth.same j o hj hi ho
 have hne:j≠O:=fun e=>by
  subst e
  rcases hO with q | q
  · omega
  · have:=(Array.getElem?_eq_some_iff.1 hi).1;omega
 rw [t.heap' j hne];exact h2
theorem MapAt.find {es:Array MapEntry} {c:Nat} (h:MapAt kv vv w b l es c) (K:KLaw P k kv) (x:κ) (X:World):
    ((Instr.findKey k (kv x) es.toList).run P X= .ok none X∧x ∉ l.map Prod.fst)∨∃j e p,(Instr.findKey k (kv x) es.toList).run P X= .ok (some (j,vv p.2)) X∧es.toList[j]? =some e∧l[j]? =some p∧p.1=x∧e.key=kv x∧∀i,i<j→(l.map Prod.fst)[i]? ≠some x:=by
  rcases K.find X x (l.map Prod.fst) es.toList h.keys with q | ⟨j,e,h1,h2,h3,h4⟩
  · exact .inl q
  · obtain⟨p,hp,he,hv⟩:=h.get h2
    rw [List.getElem?_map,hp] at h3
    simp only [Option.map_some,Option.some.injEq] at h3
    exact .inr ⟨j,e,p,by rw [h1,hv],h2,hp,h3,by rw [he,h3],h4⟩
section
variable [DecidableEq κ]
theorem run_lookup1 {t e:TypeId} (ht:P.underlying t=some (.map k e)) (h:MapS kv vv w b l) (K:KLaw P k kv) (x:κ) {z:Value} (hz:(zeroValue e).run P w= .ok z w):
  (Instr.lookup t (.map (some b)) (kv x) false).run P w= .ok (((getM x l).map vv).getD z) w:=by
 obtain⟨es,c,h⟩:=h
 rcases h.find K x w with ⟨h1,h2⟩ | ⟨j,e0,p,h1,h2,h3,h4,h5,h6⟩
 · simp [Instr.lookup,run_underlying ht,MapKept.run_getObj_map h.at_,K.check,h1,hz,Result.andThen,getM_none h2]
 · simp [Instr.lookup,run_underlying ht,MapKept.run_getObj_map h.at_,K.check,h1,Result.andThen,getM_at h3 h4 h6]
theorem run_lookup2 {t e:TypeId} (ht:P.underlying t=some (.map k e)) (h:MapS kv vv w b l) (K:KLaw P k kv) (x:κ) {z:Value} (hz:(zeroValue e).run P w= .ok z w):
  (Instr.lookup t (.map (some b)) (kv x) true).run P w= .ok (.tuple #[((getM x l).map vv).getD z,.bool (getM x l).isSome]) w:=by
 obtain⟨es,c,h⟩:=h
 rcases h.find K x w with ⟨h1,h2⟩ | ⟨j,e0,p,h1,h2,h3,h4,h5,h6⟩
 · simp [Instr.lookup,run_underlying ht,MapKept.run_getObj_map h.at_,K.check,h1,hz,Result.andThen,getM_none h2]
 · simp [Instr.lookup,run_underlying ht,MapKept.run_getObj_map h.at_,K.check,h1,Result.andThen,getM_at h3 h4 h6]
end
theorem modify_toList (es:Array MapEntry) (j:Nat) (f:MapEntry→MapEntry) {e:MapEntry} (he:es.toList[j]? =some e):(es.modify j f).toList=es.toList.set j (f e):=by
 rw [Array.toList_modify];exact modify_eq_set f _ j e he
theorem set_nodup {es:List MapEntry} {j:Nat} {e f:MapEntry} (he:es[j]? =some e) (hb:f.born=e.born):(es.set j f).map (·.born)=es.map (·.born):=by
  rw [List.map_set,hb]
  refine List.ext_getElem? fun i=>?_
  rw [List.getElem?_set]
  split
  · rename_i hij;subst hij
    obtain⟨h1,h2⟩:=List.getElem?_eq_some_iff.1 he
    rw [List.getElem?_map,he];simp [h1]
  · rfl
theorem MapAt.set {es:Array MapEntry} {c:Nat} (h:MapAt kv vv w b l es c) {X:World} {j:Nat} {e f:MapEntry} {x:κ} {v:β} {es':Array MapEntry} (he:es.toList[j]? =some e) (hes:es'.toList=es.toList.set j f) (hb:f.born=e.born) (hk:f.key=kv x) (hv:f.val=vv v) (hX:X.heap[b]? =some (.map es' c)):
    MapAt kv vv X b (l.set j (x,v)) es' c:=by
  have hlt:=(List.getElem?_eq_some_iff.1 he).1
  refine⟨hX,fun y hy=>?_,by rw [hes,set_nodup he hb];exact h.born,?_⟩
  · rw [hes] at hy
    rcases List.mem_or_eq_of_mem_set hy with hy | rfl
    · exact h.old y hy
    · rw [hb];exact h.old e (List.mem_of_getElem? he)
  · rw [hes,List.map_set,List.map_set,h.rd];simp [prE,prK,hk,hv]
theorem MapAt.push {es:Array MapEntry} {c:Nat} (h:MapAt kv vv w b l es c) {X:World} {x:κ} {v:β} (hX:X.heap[b]? =some (.map (es.push { key:=kv x,val:=vv v,born:=c }) (c+1))):
    MapAt kv vv X b (l ++ [(x,v)]) (es.push { key:=kv x,val:=vv v,born:=c }) (c+1):=by
  refine⟨hX,fun y hy=>?_,?_,by simp [h.rd,prE,prK]⟩
  · simp only [Array.toList_push,List.mem_append,List.mem_singleton] at hy
    rcases hy with hy | rfl
    · have:=h.old y hy;omega
    · show c<c+1;omega
  · simp only [Array.toList_push,List.map_append,List.map_cons,List.map_nil]
    rw [List.nodup_append]
    refine⟨h.born,by simp,fun a ha d hd=>?_⟩
    obtain⟨y,hy,rfl⟩:=List.mem_map.1 ha
    simp only [List.mem_singleton] at hd
    have:=h.old y hy;omega
structure MapE (kv:κ→Value) (vv:β→Value) (w:World) (b:Nat) (l:List (κ × β)) (j s:Nat):Prop where
 out:∃es clock,MapAt kv vv w b l es clock∧∃e,es.toList[j]? =some e∧e.born=s
theorem MapE.block {X:World} {j s:Nat} (h:MapE kv vv w b l j s) (hX:X.heap[b]? =w.heap[b]?):MapE kv vv X b l j s:=by
 obtain⟨es,c,h,q⟩:=h.out;exact⟨es,c,⟨hX.trans h.at_,h.old,h.born,h.rd⟩,q⟩
theorem MapE.lt {j s:Nat} (h:MapE kv vv w b l j s):b<w.heap.size:=by obtain⟨es,c,h,_⟩:=h.out;exact (Array.getElem?_eq_some_iff.1 h.at_).1
theorem MapE.ext {X:World} {j s:Nat} (h:MapE kv vv w b l j s) (e:Ext w X):MapE kv vv X b l j s:=h.block (e.block b h.lt)
section
variable [DecidableEq κ]
theorem run_update {t e:TypeId} (ht:P.underlying t=some (.map k e)) (h:MapS kv vv w b l) (K:KLaw P k kv) (x:κ) (v:β):
    ∃X,(Instr.mapUpdate t (.map (some b)) (kv x) (vv v)).run P w= .ok () X∧MapS kv vv X b (updM x v l)∧TurnsM b w X:=by
  obtain⟨es,c,h⟩:=h
  rcases h.find K x w with ⟨h1,h2⟩ | ⟨j,e0,p,h1,h2,h3,h4,h5,h6⟩
  · refine⟨setBlock w b (.map (es.push { key:=kv x,val:=vv v,born:=c }) (c+1)),?_,⟨es.push { key:=kv x,val:=vv v,born:=c },c+1,?_⟩,turnsM_set _ h.at_ rfl⟩
    · simp [Instr.mapUpdate,run_underlying ht,MapKept.run_getObj_map h.at_,K.check,h1,Result.andThen,MapKept.run_setObj_map _ h.at_,setBlock]
    · rw [updM_none h2];exact h.push (heap_setBlock_same h.at_ _)
  · have h2':es[j]? =some e0:=by simpa using h2
    refine⟨setBlock w b (.map (es.modify j fun e=>{ e with key:=kv x,val:=vv v }) c),?_,⟨es.modify j fun e=>{ e with key:=kv x,val:=vv v },c,?_⟩,turnsM_set _ h.at_ rfl⟩
    · simp [Instr.mapUpdate,run_underlying ht,MapKept.run_getObj_map h.at_,K.check,h1,h2',h5,K.stays,Result.andThen,MapKept.run_setObj_map _ h.at_,setBlock]
    · rw [updM_at h3 h4 h6]
      exact h.set h2 (modify_toList es j _ h2) rfl rfl rfl (heap_setBlock_same h.at_ _)
end
end
section
variable {κ β:Type} {P:Program} {kv:κ→Value} {vv:β→Value} {k:TypeId} {w:World} {b r:Nat} {l left:List (κ × β)}
structure RangeS (kv:κ→Value) (vv:β→Value) (w:World) (b r:Nat) (l left:List (κ × β)):Prop where
 out:∃es clock since seen c0,MapAt kv vv w b l es clock∧w.heap[r]? =some (.mapIter (some b) since seen c0)∧(∀x ∈ es.toList,x.born<since)∧since≤c0∧since≤clock∧(leftOf es seen).toList.map prE=left.map (prK kv vv)
theorem RangeS.map (h:RangeS kv vv w b r l left):MapS kv vv w b l:=by obtain⟨es,c,_,_,_,h,_⟩:=h.out;exact⟨es,c,h⟩
theorem RangeS.lt (h:RangeS kv vv w b r l left):r<w.heap.size:=by obtain⟨es,c,_,_,_,_,h,_⟩:=h.out;exact (Array.getElem?_eq_some_iff.1 h).1
theorem RangeS.blocks {X:World} (h:RangeS kv vv w b r l left) (hb:X.heap[b]? =w.heap[b]?) (hr:X.heap[r]? =w.heap[r]?):RangeS kv vv X b r l left:=by
 obtain⟨es,c,s,sn,c0,h,q,rest⟩:=h.out;exact⟨es,c,s,sn,c0,⟨hb.trans h.at_,h.old,h.born,h.rd⟩,hr.trans q,rest⟩
theorem RangeS.ext {X:World} (h:RangeS kv vv w b r l left) (e:Ext w X):RangeS kv vv X b r l left:=h.blocks (e.block b h.map.lt) (e.block r h.lt)
instance {κ β:Type} {kv:κ→Value} {vv:β→Value} {w w':World} {b r:Nat} {l left:List (κ × β)}:MvC w w' (RangeS kv vv w b r l left) (RangeS kv vv w' b r l left):=⟨fun e h=>RangeS.ext h e⟩
theorem RangeS.kept {X:World} {n:Nat} (h:RangeS kv vv w b r l left) (hb:X.heap[b]? =w.heap[b]?) (hk:KeepsFrom n w X) (hr:n≤r):RangeS kv vv X b r l left:=by
 obtain⟨es,c,s,sn,c0,h,q,rest⟩:=h.out
 exact⟨es,c,s,sn,c0,⟨hb.trans h.at_,h.old,h.born,h.rd⟩,hk.same r _ hr q rfl,rest⟩
end
section
variable {P:Program} {ev:Operand→Value} {o:Oper} {w X:World} {N:Value→World→Prop}
theorem sn_map {κ β:Type} (kv:κ→Value) (vv:β→Value) (h1:(execOp ev o).run P w= .ok (.value (.map (some w.heap.size))) (w.alloc (.map #[] 0)))
  (h:∀O X,w.heap.size=O→X.heap.size=O+1→Ext w X→MapS kv vv X O []→N (.map (some O)) X):StepN P ev o w N:=
 sn_eff h1 (h _ _ rfl (by simp) (Ext.alloc (er_ _) _) (MapS.made w))
theorem ex_mapU {t:TypeId} {m x y:Operand} {mv kx vx:Value} (hop:o.op= .mapUpdate t m x y) (hm:ev m=mv) (hx:ev x=kx) (hy:ev y=vx) (h:(Instr.mapUpdate t mv kx vx).run P w= .ok () X):(execOp ev o).run P w= .ok .skip X:=by
 simp [execOp,hop,hm,hx,hy,h,Result.andThen]
theorem ex_lookup {t:TypeId} {m x:Operand} {ok:Bool} {mv kx v:Value} (hop:o.op= .lookup t m x ok) (hm:ev m=mv) (hx:ev x=kx) (h:(Instr.lookup t mv kx ok).run P w= .ok v X):(execOp ev o).run P w= .ok (.value v) X:=by
 simp [execOp,hop,hm,hx,h,Result.andThen]
end
section
variable {κ:Type} [DecidableEq κ] {P:Program} {k:TypeId} {kv:κ→Value} {w:World}
theorem find_ask (heq:∀(w:World) (a b:κ),(Op.equal k (kv a) (kv b)).run P w= .ok (decide (a=b)) w) (x:κ):∀(ks:List κ) (es:List MapEntry) (i:Nat),es.map (·.key)=ks.map kv→
    ((Instr.findAsking k (kv x) es i).run P w= .ok none w∧x ∉ ks)∨∃j e,(Instr.findAsking k (kv x) es i).run P w= .ok (some (i+j,e.val)) w∧es[j]? =some e∧ks[j]? =some x∧∀q,q<j→ks[q]? ≠some x
  | [],[],i,_=> .inl ⟨by simp [Instr.findAsking],by simp⟩
  | [],_ :: _,_,h=>by simp at h
  | _ :: _,[],_,h=>by simp at h
  | y :: ks,e :: es,i,h=>by
    simp only [List.map_cons,List.cons.injEq] at h
    have he:(Op.equal k (kv x) e.key).run P w= .ok (decide (x=y)) w:=by rw [h.1];exact heq w x y
    by_cases hxy:x=y
    · subst hxy
      exact .inr ⟨0,e,by simp [Instr.findAsking,he,Result.andThen],rfl,rfl,fun q hq=>by omega⟩
    · have hrun:(Instr.findAsking k (kv x) (e :: es) i).run P w=(Instr.findAsking k (kv x) es (i+1)).run P w:=by simp [Instr.findAsking,he,hxy,Result.andThen]
      rcases find_ask heq x ks es (i+1) h.2 with ⟨h1,h2⟩ | ⟨j,e',h1,h2,h3,h4⟩
      · exact .inl ⟨hrun.trans h1,by simp [hxy,h2]⟩
      · refine .inr ⟨j+1,e',by rw [hrun,h1,show i+1+j=i+(j+1) by omega],by simpa using h2,by simpa using h3,fun q hq=>?_⟩
        cases q with
        | zero=>simpa using fun e:y=x=>hxy e.symm
        | succ q=>simpa using h4 q (by omega)
theorem klaw_of {d:TypeDesc} (hu:P.underlying k=some d) (hd:∀a b:Value,Instr.sameNow d a b=none) (inj:∀ {a b:κ},kv a=kv b→a=b) (check:∀(w:World) (em:Bool) (a:κ),(Instr.checkKey em 10000 k (kv a)).run P w= .ok () w)
  (heq:∀(w:World) (a b:κ),(Op.equal k (kv a) (kv b)).run P w= .ok (decide (a=b)) w) (hs:∀a:κ,Instr.sameBits 10000 (kv a) (kv a)=true):KLaw P k kv where
 inj:=inj
 check:=check
 stays w a:=by simp [Instr.keyThatStays,hs a]
 find w x ks es h:=by
  cases es with
  | nil=>
   have:ks= []:=by simpa using h.symm
   subst this
   exact .inl ⟨by simp [Instr.findKey,run_underlying hu,Instr.findNow,Result.andThen],by simp⟩
  | cons e es=>
   have hrun:(Instr.findKey k (kv x) (e :: es)).run P w=(Instr.findAsking k (kv x) (e :: es) 0).run P w:=by simp [Instr.findKey,run_underlying hu,Instr.findNow,hd,Result.andThen]
   rcases find_ask heq x ks (e :: es) 0 h (w:=w) with ⟨h1,h2⟩ | ⟨j,e',h1,h2⟩
   · exact .inl ⟨hrun.trans h1,h2⟩
   · exact .inr ⟨j,e',by rw [hrun,h1,Nat.zero_add],h2⟩
end
section
variable {κ:Type}
theorem Mv.mono {n n':Nat} {A B:World} (h:Mv n A B) (hn:n'≤n):Mv n' A B:=⟨h.os,h.tape,h.output,h.size,h.cells,fun k hk hl=>h.below k (by omega) hl⟩
variable {P:Program} {n:Nat} {L:List Value} {ws:List (Nat × Value)} {w:World} {Q:Exit→Act→World→Prop} {m:Nat} {Ds:List Nat}
end
end Go.Proofs.YtpfajhcdfgpgmaaGreatDoor
