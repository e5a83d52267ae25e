/- Part 6 of what the proof of MachineMore stands on. -/
import Derived.Test.YtpfajhcdfgpgmaaGreatDoorV5MachineMore
namespace Go.Proofs.YtpfajhcdfgpgmaaGreatDoor
variable {w w0:World}
set_option maxRecDepth 1000000
set_option maxHeartbeats 4000000
set_option synthInstance.maxHeartbeats 0
set_option synthInstance.maxSize 9999
open Go.RowKit
structure GsAt (w:World) (a:Option Addr) (n:Nat) (L:List RGo):Prop where
 len:L.length=n
 at_:n=0∨∃b o,a=some ⟨b,o,none⟩∧CellsB goC 12 w b o L
theorem GsAt.ext {w w':World} {a:Option Addr} {n:Nat} {L:List RGo} (h:GsAt w a n L) (e:Ext w w'):GsAt w' a n L:=⟨h.len,h.at_.imp id fun ⟨b,o,h1,h2⟩=>⟨b,o,h1,h2.ext e⟩⟩
instance {w w':World} {a:Option Addr} {n:Nat} {L:List RGo}:MvC w w' (GsAt w a n L) (GsAt w' a n L):=⟨fun e h=>h.ext e⟩
def SeesOK (w0:World) (L:List RGo):Prop:=∀x ∈ L,x.1.k=1∧Gol.limB x.1=true∧AA w0 x.2.ar x.1.rows x.2.nr (Globe.validL x.1.rows)
theorem SeesOK.nil (w0:World):SeesOK w0 []:=fun x hx=>by cases hx
theorem SeesOK.app {L M:List RGo} (h:SeesOK w0 L) (k:SeesOK w0 M):SeesOK w0 (L ++ M):=fun x hx=>(List.mem_append.1 hx).elim (h x) (k x)
theorem SeesOK.ext {w0 w:World} {L:List RGo} (h:SeesOK w0 L) (e:Ext w0 w):SeesOK w L:=fun x hx=>⟨(h x hx).1,(h x hx).2.1,(h x hx).2.2.ext e⟩
theorem Gol.okF_lim {f:GF} {ks:List Goal} (h:Gol.okF f ks=true):Gol.limB f=true:=by
 unfold Gol.okF at h
 simp only [Bool.and_eq_true] at h
 exact h.1.2
theorem go_box {b:Nat} {x:RGo} (h0:w.cell? ⟨b,0,none⟩=some (.int .i64 x.1.k)) (h1:w.cell? ⟨b,1,none⟩=some (.slice x.2.ar x.2.nr x.2.cr)) (h2:w.cell? ⟨b,2,none⟩=some (.int .i64 x.1.sf)) (h3:w.cell? ⟨b,3,none⟩=some (.int .i64 x.1.st)) (h4:w.cell? ⟨b,4,none⟩=some (.int .i64 x.1.lo)) (h5:w.cell? ⟨b,5,none⟩=some (.int .i64 x.1.hi)) (h6:w.cell? ⟨b,6,none⟩=some (.bool x.1.cl)) (h7:w.cell? ⟨b,7,none⟩=some (.int .i64 x.1.dy)) (h8:w.cell? ⟨b,8,none⟩=some (.int .i64 x.1.tm)) (h9:w.cell? ⟨b,9,none⟩=some (.int .i64 x.1.wi)) (h10:w.cell? ⟨b,10,none⟩=some (.slice x.2.ac x.2.nc x.2.cc)) (h11:w.cell? ⟨b,11,none⟩=some (.slice x.2.ak x.2.nk x.2.ck)):CellsB goC 12 w b 0 [x]:=CellsB.one fun i u hu=>by
 rw [Nat.zero_add]
 match i,hu with
 | 0,hu=>cases hu;exact h0
 | 1,hu=>cases hu;exact h1
 | 2,hu=>cases hu;exact h2
 | 3,hu=>cases hu;exact h3
 | 4,hu=>cases hu;exact h4
 | 5,hu=>cases hu;exact h5
 | 6,hu=>cases hu;exact h6
 | 7,hu=>cases hu;exact h7
 | 8,hu=>cases hu;exact h8
 | 9,hu=>cases hu;exact h9
 | 10,hu=>cases hu;exact h10
 | 11,hu=>cases hu;exact h11
 | n+12,hu=>cases hu
theorem sees_c:∀(mm d m:Nat) (g:Goal) (ar:Option Addr) (nr cr:Nat) (ac:Option Addr) (nc cc:Nat) (ak:Option Addr) (nk ck:Nat) (w:World) (_H:GOp w0 g ⟨ar,nr,cr,ac,nc,cc,ak,nk,ck⟩) (_e0:Ext w0 w) (_hz:Gol.sizeG d g=some m) (_hm:5≤d+mm∧m≤511),Calls Tryz.prog 75 #[gw g.f ar nr cr ac nc cc ak nk ck] w fun e w'=>∃a n c L,e= .returned (.slice a n c)∧GsAt w' a n L∧n≤m∧SeesOK w0 L∧Ext w w':=by
  intro mm
  induction mm with
  | zero=>intro d m g ar nr cr ac nc cc ak nk ck w H e0 hz hm;exact absurd (Gol.sizeG_ok hz).1 (by omega)
  | succ mm ih=>
    intro d m g ar nr cr ac nc cc ak nk ck w H e0 hz hm;obtain⟨hd,hok,M,hsM,hmM⟩:=Gol.sizeG_ok hz;have Cx:=e0.size;obtain⟨bk,ok,hak,hbk,hxk⟩:=H.parts';have hkn:=H.kn';have hkm:=H.km';refine cC_ 26 [(0,gw g.f ar nr cr ac nc cc ak nk ck)] Tryz.func75 Tryz.ntmps75 (fun L=>?_);have hE:=er_ w;refine zc (zp (pS (sw 33 #[iv g.f.k,.slice ar nr cr,iv g.f.sf,iv g.f.st,iv g.f.lo,iv g.f.hi,.bool g.f.cl,iv g.f.dy,iv g.f.tm,iv g.f.wi,.slice ac nc cc,.slice ak nk ck] ?_)));intro O1 X2 D0 Cy hb hbx;have⟨B2,Bg,Bh,Bi,Bj,Bk,Bl,Bm,Bo,Bp,B8,B1⟩:=bq12 hbx;refine nv2 hb e0 hE fun e0 hE Cm=>?_;have D5:=B2.lt;refine pT (.slice none 0 0) ?_;refine zn (cw_seq ?_);refine cw_seq ?_;have B5:=er_ X2
    by_cases hk:g.f.k=1
    ·
      refine zp (pT (pw O1 0) ?_);refine pU (iv g.f.k) (xl (ld3 (B2.1))) ?_;refine pU (.bool true) (eE (g.f.k:Int) (1:Int) (hk)) ?_;refine zn (zt ?_);refine zc (zp (pU (gw g.f ar nr cr ac nc cc ak nk ck) (xl (ld33 (B2.1) (Bg.1) (Bh.1) (Bi.1) (Bj.1) (Bk.1) (Bl.1) (Bm.1) (Bo.1) (Bp.1) (B8.1) (B1.1))) ?_));refine pS (sn_newS (us:=#[iv g.f.k,.slice ar nr cr,iv g.f.sf,iv g.f.st,iv g.f.lo,iv g.f.hi,.bool g.f.cl,iv g.f.dy,iv g.f.tm,iv g.f.wi,.slice ac nc cc,.slice ak nk ck]) (t:=33) (k:=1) (c:=1) (by kernel_rfl) ?_);intro O6 X7 D1 Cz hb hbx;have⟨B6,Bq,Br,Bs,Bt,Bu,Bv,Bw,Bx,Bz,Ba,Bc⟩:=bq12 hbx;refine nv3 hb e0 hE B5 fun e0 hE B5 D4=>?_;have D6:=B6.lt;refine pT (sv O6 0 1 1) ?_;refine zn (ct_ (qt (zR (sv O6 0 1 1) ?_)));exact⟨_,_,_,[(g.f,⟨ar,nr,cr,ac,nc,cc,ak,nk,ck⟩)],rfl,⟨rfl,.inr ⟨O6,0,rfl,go_box (B6).1 (Bq).1 (Br).1 (Bs).1 (Bt).1 (Bu).1 (Bv).1 (Bw).1 (Bx).1 (Bz).1 (Ba).1 (Bc).1⟩⟩,by omega,(fun x hx=>by cases List.mem_singleton.1 hx;exact⟨hk,Gol.okF_lim hok,H.aa'⟩),hE⟩
    ·
      refine zp (pT (pw O1 0) ?_);refine pU (iv g.f.k) (xl (ld3 (B2.1))) ?_;refine pU (.bool false) (eN (g.f.k:Int) (1:Int) (hk)) ?_;refine zn (zf ?_);refine cs_ (zq (zc (zp (pT (.slice none 0 0) ?_))));refine zn (zc (zc (zp (pT (iv 0) ?_))));refine zn (cb_ ?_);refine cw_loop [1,3,4] (fun ws' wr m=>∃i:Nat,∃av:Option Addr,∃k9 cv:Nat,∃Gs:List RGo,ws'= [(1,pw O1 0),(3,.slice av k9 cv),(4,iv i)]∧m=nk - i∧X2.heap.size≤wr.heap.size∧Ext w0 wr∧Ext w wr∧Ext X2 wr∧OwnL ((cellR goC)) X2.heap.size 33 12 (.slice av k9 cv) wr Gs∧i≤nk∧Gs.length=k9∧k9≤Gol.sumK (d+1) g i∧SeesOK w0 Gs) (ws0:=[(1,pw O1 0),(3,.slice none 0 0),(4,iv 0)]) (by kernel_rfl) _ ⟨0,none,0,0,[],rfl,rfl,nr_ _,e0,hE,B5,OwnL.nil _ _ _ _ _,Nat.zero_le _,rfl,Nat.zero_le _,SeesOK.nil _⟩ ?_;clear e0 hE B5;rintro D7 L ws D8 ⟨i,av,k9,cv,Gs,rfl,rfl,C0,e0,hE,B5,Bf,hi,C7,Cw,hso⟩;have Ct:=Bf.lt;have hsi:=Gol.sumK_le hsM (show i≤g.kids.length by omega)
      by_cases hlt:i<nk
      ·
        obtain rfl:=hak (by omega);have hbkl:=hbk (by omega);obtain⟨Cc,Cp,Cf,Ca,Cn,Cd,Cb,Co,Ce,B0,C4⟩:=hxk i (by omega);obtain⟨k8,Cu,C5,Cv⟩:=Gol.size_part hsM (show i<g.kids.length by omega);refine zc (zc (zp (pD (iv i) (pw O1 11) ?_)));refine pUT (sv bk ok nk ck) (xl (ld31 (B1.c B5))) (iv nk) ?_;refine pU (.bool true) (ed (((i:Nat):Int)<((nk:Nat):Int)) (by omega)) ?_;refine zn (zt ?_);refine cs_ (zq (zc (cb_ ?_)));refine zp (pD (.slice av k9 cv) (pw O1 11) ?_);refine pUT (sv bk ok nk ck) (xl (ld31 (B1.c B5))) (iv i) ?_;refine pU (pw bk (ok+i * 12)) (xi (sv bk ok nk ck) (iv i) (ix31 (k:=i) (by omega))) ?_;refine pU (.agg #[iv ((kidN g i).f.k),.slice Cc Cp Cf,iv ((kidN g i).f.sf),iv ((kidN g i).f.st),iv ((kidN g i).f.lo),iv ((kidN g i).f.hi),.bool ((kidN g i).f.cl),iv ((kidN g i).f.dy),iv ((kidN g i).f.tm),iv ((kidN g i).f.wi),.slice Ca Cn Cd,.slice Cb Co Ce]) (xl (ld33 ((e0.cell B0.c0)) ((e0.cell B0.c1')) ((e0.cell B0.c2)) ((e0.cell B0.c3)) ((e0.cell B0.c4)) ((e0.cell B0.c5)) ((e0.cell B0.c6)) ((e0.cell B0.c7)) ((e0.cell B0.c8)) ((e0.cell B0.c9)) ((e0.cell B0.c10')) ((e0.cell B0.c11')))) ?_;refine pS (sc 75 #[.agg #[iv ((kidN g i).f.k),.slice Cc Cp Cf,iv ((kidN g i).f.sf),iv ((kidN g i).f.st),iv ((kidN g i).f.lo),iv ((kidN g i).f.hi),.bool ((kidN g i).f.cl),iv ((kidN g i).f.dy),iv ((kidN g i).f.tm),iv ((kidN g i).f.wi),.slice Ca Cn Cd,.slice Cb Co Ce]] ((ih (d+1) k8 (kidN g i) _ _ _ _ _ _ _ _ _ _ C4 e0 Cu (by omega)).mono ?_));rintro e D9 ⟨a1,n1,c1,L1,rfl,Ci,D3,C9,hb⟩;refine nv4 hb e0 hE B5 Bf fun e0 hE B5 Bf C1=>?_;refine⟨_,rfl,?_⟩;have Ch:=Bf.base;obtain⟨C2,B3,D2,Be,B7,B4,Cj,C3,C6,Ck⟩:=app_cells goT goC_len goC_one (c:=c1) (m:=n1) (sa:=a1) (l':=(Gs ++ L1)) (q:=k9+n1) (Bf) (Tq C0 C1) C7 Ci.len Ci.at_ rfl rfl (by omega) (by omega);refine pS (sn_eff (v:=.slice C2 (k9+n1) B3) (w':=D2) (ex_append rfl (by kernel_rfl) (by kernel_rfl) Be) ?_);replace e0:=B4.ext _ e0 (Tq Cx Cm);replace hE:=B4.ext _ hE Cm;replace B5:=B4.ext _ B5 (nr_ _);have C8:=B4.size;have Cg:=B7.lt;refine pT (.slice C2 (k9+n1) B3) ?_;refine pl_nil (qw_block (zq (cK [1,3,4] (fun L=>?_))));refine zp (pT (iv i) ?_);refine pUT (nv (i+1)) (ew (by omega) (by omega)) (nv (i+1)) ?_;refine pl_nil (qw_round [1,3,4] (ws':=[(1,pw O1 0),(3,.slice C2 (k9+n1) B3),(4,nv (i+1))]) (by kernel_rfl) _ ?_ ⟨(i+1),C2,(k9+n1),B3,(Gs ++ L1),rfl,rfl,(Tq C0 (Tq C1 C8)),e0,hE,B5,B7,by omega,C6,(by rw [C5];omega),(hso.app C9)⟩);omega
      ·
        have hin:i=g.kids.length:=by omega
        refine zc (zc (zp (pD (iv i) (pw O1 11) ?_)));refine pUT (.slice ak nk ck) (xl (ld31 (B1.c B5))) (iv nk) ?_;refine pU (.bool false) (en (((i:Nat):Int)<((nk:Nat):Int)) (by omega)) ?_;refine zn (zf ?_);refine cx_ (qx (qx (qo (zq (zc (zp (pD (.slice av k9 cv) (.slice av k9 cv) ?_)))))));refine zn (ct_ (zR (.slice av k9 cv) ?_));rw [hin,Gol.sumK_all hsM] at Cw;refine⟨_,_,_,Gs,rfl,⟨C7,?_⟩,by omega,hso,hE⟩;rcases Nat.eq_zero_or_pos k9 with q0 | q0
        · exact .inl q0
        · obtain⟨b9,Cq,_,_,Cr⟩:=own_cells goC_len Bf C7 q0
          exact .inr ⟨b9,0,Cq,Cr⟩
theorem Shots_c {g:Goal} {ar:Option Addr} {nr cr:Nat} {ac:Option Addr} {nc cc:Nat} {ak:Option Addr} {nk ck:Nat} (w:World) (H:GOp w0 g ⟨ar,nr,cr,ac,nc,cc,ak,nk,ck⟩) (e0:Ext w0 w) (hv:Gol.validG g=true):Calls Tryz.prog 41 #[gw g.f ar nr cr ac nc cc ak nk ck] w fun e w'=>∃a n c L,e= .returned (.slice a n c)∧GsAt w' a n L∧n≤12∧SeesOK w0 L∧Ext w w':=by
 have Bp:=e0.size;refine cC_ 8 [(0,gw g.f ar nr cr ac nc cc ak nk ck)] Tryz.func41 Tryz.ntmps41 (fun L=>?_);have hE:=er_ w;refine zc (zp (pS (sw 33 #[iv g.f.k,.slice ar nr cr,iv g.f.sf,iv g.f.st,iv g.f.lo,iv g.f.hi,.bool g.f.cl,iv g.f.dy,iv g.f.tm,iv g.f.wi,.slice ac nc cc,.slice ak nk ck] ?_)));intro O1 X2 Bm Bl hb hbx;have⟨B1,B4,B5,B6,B7,B8,Ba,Bc,Be,Bf,B2,B3⟩:=bq12 hbx;refine nv2 hb e0 hE fun e0 hE Bq=>?_;have Bs:=B1.lt;refine pT (.slice none 0 0) ?_;refine zn (cw_seq ?_);refine cw_seq ?_;have B0:=er_ X2
 obtain⟨m9,Bh,Bk⟩:∃m,Gol.sizeG 1 g=some m∧m≤12:=by
  unfold Gol.validG at hv
  split at hv
  · cases hv
  · rename_i n hn;have:=of_decide_eq_true hv;exact⟨n,hn,by omega⟩
 refine zp (pU (gw g.f ar nr cr ac nc cc ak nk ck) (xl (ld33 (B1.1) (B4.1) (B5.1) (B6.1) (B7.1) (B8.1) (Ba.1) (Bc.1) (Be.1) (Bf.1) (B2.1) (B3.1))) ?_);refine pS (sc 49 #[gw g.f ar nr cr ac nc cc ak nk ck] ((rValidGoal_t _ H e0 hv).mono ?_));rintro e w6 ⟨rfl,hb⟩;refine nv3 hb e0 hE B0 fun e0 hE B0 Br=>?_;refine⟨_,rfl,pT (.bool false) ?_⟩;refine zn (zf ?_);refine cs_ (zq (zc (zp (pU (gw g.f ar nr cr ac nc cc ak nk ck) (xl (ld33 (B1.c B0) (B4.c B0) (B5.c B0) (B6.c B0) (B7.c B0) (B8.c B0) (Ba.c B0) (Bc.c B0) (Be.c B0) (Bf.c B0) (B2.c B0) (B3.c B0))) ?_))));refine pS (sc 75 #[gw g.f ar nr cr ac nc cc ak nk ck] ((sees_c 4 1 m9 g _ _ _ _ _ _ _ _ _ _ H e0 Bh ⟨by decide,by omega⟩).mono ?_));rintro e w8 ⟨a1,n1,c1,L1,rfl,Bj,Bo,Bg,hb⟩;refine nv1 hb hE fun hE Bh=>?_;have Bi:=er_ w8;refine⟨_,rfl,pT (.slice a1 n1 c1) ?_⟩;refine zn (ct_ (zR (.slice a1 n1 c1) ?_));exact⟨_,_,_,L1,rfl,Bj,by omega,Bg,hE⟩
end Go.Proofs.YtpfajhcdfgpgmaaGreatDoor

namespace Go.Proofs.YtpfajhcdfgpgmaaGreatDoor
open Bdd (pk)
open Gol (areaB)
open Globe (nth)
variable {f:Nat→Nat} {x y:Nat}
set_option maxRecDepth 1000000
set_option maxHeartbeats 4000000
set_option synthInstance.maxHeartbeats 0
set_option synthInstance.maxSize 9999
open Go.RowKit
theorem isI_td {a b:Int} (h:IsI a) (hb:0<b):IsI (a.tdiv b):=by
  unfold IsI at *
  rcases Int.le_total 0 a with q | q
  · have h1:=Int.tdiv_nonneg q (Int.le_of_lt hb)
    have h2:a.tdiv b≤a:=by rw [Int.tdiv_eq_ediv_of_nonneg q];exact Int.ediv_le_self _ q
    omega
  · have e:a.tdiv b= -((-a).tdiv b):=by rw [Int.neg_tdiv,Int.neg_neg]
    have h1:=Int.tdiv_nonneg (show 0≤ -a by omega) (Int.le_of_lt hb)
    have h2:(-a).tdiv b≤ -a:=by rw [Int.tdiv_eq_ediv_of_nonneg (by omega)];exact Int.ediv_le_self _ (by omega)
    omega
def updN (f:Nat→Nat) (j v:Nat) (k:Nat):Nat:=if k=j then v else f k
theorem upd_nat (f:Nat→Nat) (j v:Nat):upd (fun j=>((f j:Nat):Int)) j ((v:Nat):Int)=fun k=>((updN f j v k:Nat):Int):=by
 funext k
 unfold upd updN
 split <;> rfl
def RowsI (f:Nat→Nat):Prop:=∀j,f j<281474976710656
theorem RowsI.zero:RowsI (fun _=>0):=fun _=>by show 0<281474976710656;decide
theorem RowsI.or (h:RowsI f) (hx:x<48):RowsI (updN f y (f y ||| 2 ^ x)):=fun j=>by
 unfold updN
 split
 · exact Nat.or_lt_two_pow (n:=48) (h y) (Nat.pow_lt_pow_right (by decide) hx)
 · exact h j
theorem row_pos (hy:y<24):∃j,j<24∧0<updN f y (f y ||| 2 ^ x) j:=⟨y,hy,by
 unfold updN
 rw [if_pos rfl]
 exact nl_ (Nat.two_pow_pos x) Nat.right_le_or⟩
theorem row_keep (h:∃j,j<24∧0<f j):∃j,j<24∧0<updN f y (f y ||| 2 ^ x) j:=by
 obtain⟨j,hj,h⟩:=h
 refine⟨j,hj,?_⟩
 unfold updN
 split
 · rename_i e;subst e;exact nl_ h Nat.left_le_or
 · exact h
def rowsOf (f:Nat→Nat):List Int:=(List.range 24).map fun j=>((f j:Nat):Int)
theorem rowsOf_valid (h:RowsI f):Globe.validL (rowsOf f)=true:=Globe.validL_t.2 ⟨by simp [rowsOf],fun r hr=>by
 obtain⟨j,_,rfl⟩:=List.mem_map.1 hr
 have:=h j
 omega⟩
theorem rows_cnt (h:RowsI f) (hz:∃j,j<24∧0<f j):areaB (rowsOf f)=true:=by
 obtain⟨j,hj,hp⟩:=hz
 obtain⟨x,hx⟩:=Nat.exists_testBit_of_ne_zero (show f j≠0 by omega)
 have hx48:x<48:=by
  rcases Nat.lt_or_ge x 48 with q | q
  · exact q
  · rw [Nat.testBit_lt_two_pow (nl_ (h j) (show 2 ^ 48≤2 ^ x from Nat.pow_le_pow_right (by decide) q))] at hx;cases hx
 have e:nth (rowsOf f) j=((f j:Nat):Int):=by
  unfold nth rowsOf
  simp [hj]
 have hm:(x,j) ∈ Globe.cellsTo (rowsOf f) 24:=Globe.mem_cells.2 ⟨hj,hx48,by unfold Globe.hasL;rw [e,Int.toNat_natCast];exact hx⟩
 have:=List.length_pos_of_mem hm
 unfold areaB Gol.cntI
 rw [rowsOf_valid h,Bool.true_and]
 exact decide_eq_true (by omega)
theorem see_okF {f:GF} (hk:f.k=1) (ha:areaB f.rows=true) (hs:0≤f.sf∧f.sf<f.st∧f.st≤1000000) (hl:0≤f.lo∧f.lo≤f.hi∧f.hi≤90) (hz:f.dy=0∧f.tm=0∧f.wi=0∧f.cents= []):Gol.okF f []=true:=by
  obtain⟨z1,z2,z3,z4⟩:=hz
  refine Gol.okF_t (Globe.inB_t.2 (by omega)) ?_ ?_ ?_
  · unfold Gol.plB Gol.restF
    simp [hk,z1,z2,z3]
  · unfold Gol.limB
    rw [if_pos hk,ha,Globe.inB_t.2 (by omega),Globe.inB_t.2 (by omega),Globe.inB_t.2 (by omega),Globe.inB_t.2 (by omega)];rfl
  · unfold Gol.parB Gol.manyB Gol.centB Gol.wrongK
    simp [hk,z4]
theorem see_ok2 {rows:List Int} {sf st lo hi:Int} {cl:Bool} (ha:areaB rows=true) (hs:0≤sf∧sf<st∧st≤1000000) (hl:0≤lo∧lo≤hi∧hi≤90):Gol.okF ⟨1,rows,sf,st,lo,hi,cl,0,0,0,[]⟩ []=true:=see_okF (f:=⟨1,rows,sf,st,lo,hi,cl,0,0,0,[]⟩) rfl ha hs hl ⟨rfl,rfl,rfl,rfl⟩
theorem ValI.va {w:World} {A:Nat} (h:ValI w A 24 (fun j=>((f j:Nat):Int))) (hf:RowsI f):VA w A 0 (rowsOf f):=⟨fun i hi=>by
 have h1:=(h.at_ i hi).1
 rw [Nat.zero_add]
 have e:nth (rowsOf f) i=((f i:Nat):Int):=by
  unfold nth rowsOf
  simp [hi]
 rw [e];exact h1,rowsOf_valid hf⟩
theorem r13pick_c {c:Int} {n:Nat} (w:World) (hc:IsI c) (hn:0<n):Calls Tryz.prog 73 #[iv c,iv n] w fun e w'=>e= .returned (nv (pk c n))∧Ext w w':=by
 unfold IsI at hc;refine cC_ 13 [(1,iv n),(0,iv c)] Tryz.func73 Tryz.ntmps73 (fun L=>?_);have hE:=er_ w;refine zc (zp (pT (iv 0) ?_));refine zn (zc (zc (zp (pT (iv c) ?_))))
 by_cases hc1:(c:Int)<(0:Int)
 ·refine pU (.bool true) (ed ((c:Int)<(0:Int)) (hc1)) ?_;refine zn (zt ?_);refine zp (pT (iv c) ?_);refine pU (iv (c+1)) (ew (by omega) (by omega)) ?_;refine pUT (iv (-(c+1))) (ev_int (ev_wrap (a:=0 - (c+1)) (by kernel_rfl) (by omega) (by omega)) (by omega)) (iv (-(c+1))) ?_;refine zn (zc (zp (pD (iv (-(c+1))) (iv n) ?_)));refine pUT (iv ((-(c+1):Int).tmod (((n:Nat):Int)):Int)) (ex_bin (a:=(-(c+1))) (b:=(((n:Nat):Int))) rfl (by kernel_rfl) (by kernel_rfl) (bin_tmod (by omega))) (iv ((-(c+1):Int).tmod (((n:Nat):Int)):Int)) ?_;refine zn (ct_ (zR (iv ((-(c+1):Int).tmod (((n:Nat):Int)):Int)) ?_));exact⟨congrArg (fun z=>Ending.returned (Value.int .i64 z)) (Bdd.pk_neg (by omega)),hE⟩
 ·refine pU (.bool false) (en ((c:Int)<(0:Int)) (hc1)) ?_;refine zn (zf ?_);refine cs_ (zq (zc (zp (pD (iv c) (iv n) ?_))));refine pUT (iv ((c:Int).tmod (((n:Nat):Int)):Int)) (ex_bin (a:=c) (b:=(((n:Nat):Int))) rfl (by kernel_rfl) (by kernel_rfl) (bin_tmod (by omega))) (iv ((c:Int).tmod (((n:Nat):Int)):Int)) ?_;refine zn (ct_ (zR (iv ((c:Int).tmod (((n:Nat):Int)):Int)) ?_));exact⟨congrArg (fun z=>Ending.returned (Value.int .i64 z)) (Bdd.pk_pos (by omega)),hE⟩
theorem See_c {q0 q1 q2 q3 q4:Int} (w:World) (h0:IsI q0) (h1:IsI q1) (h2:IsI q2) (h3:IsI q3) (h4:IsI q4):Calls Tryz.prog 74 #[.agg #[iv q0,iv q1,iv q2,iv q3,iv q4]] w fun e w'=>∃(f:GF) (A:Nat),e= .returned (.agg #[iv f.k,sv A 0 24 24,iv f.sf,iv f.st,iv f.lo,iv f.hi,.bool f.cl,iv f.dy,iv f.tm,iv f.wi,.slice none 0 0,.slice none 0 0])∧f.k=1∧Gol.okF f []=true∧VA w' A 0 f.rows∧w.heap.size≤A∧Ext w w':=by
 have Ib:=Bdd.pk_lt (c:=q0) (n:=48) (by decide);have H9:=Bdd.pk_lt (c:=q1) (n:=24) (by decide);have Ic:=Bdd.pk_lt (c:=q2) (n:=3000) (by decide);have Ie:=Bdd.pk_lt (c:=q3) (n:=5000) (by decide);have Ig:=Bdd.pk_lt (c:=q4) (n:=40) (by decide);have Ha:=Bdd.pk_lt (c:=q2) (n:=48) (by decide);have Ih:=Bdd.pk_lt (c:=(q4:Int).tdiv 40) (n:=51) (by decide);have Ii:=Bdd.pk_lt (c:=(q1:Int).tdiv 24) (n:=3) (by decide);have Ij:=Bdd.pk_lt (c:=(q0:Int).tdiv 48) (n:=3) (by decide);have Ik:=Bdd.pk_lt (c:=q3) (n:=2) (by decide);have Hg:=h0;have Hh:=h1;have Hj:=h4;unfold IsI at Hg Hh Hj;refine cC_ 113 [(0,.agg #[iv q0,iv q1,iv q2,iv q3,iv q4])] Tryz.func74 Tryz.ntmps74 (fun L=>?_);have hE:=er_ w;refine zc (zp (pS (sw 115 #[iv q0,iv q1,iv q2,iv q3,iv q4] ?_)));intro O1 X2 Ht Hk hb hbx;have⟨Bm,Bh,Bp,Cr,Ct⟩:=bq5 hbx;refine nv1 hb hE fun hE Dc=>?_;have Gq:=Bm.lt;refine pS (sw 33 z33 ?_);intro O5 X6 Dt Hm hb hbx;have⟨Do,Du,Dv,Dw,Dx,Dy,Dz,E0,E3,E4,Dp,Dq⟩:=bq12 hbx;refine nv6 hb hE Bm Bh Bp Cr Ct fun hE Bm Bh Bp Cr Ct Dm=>?_;have Ei:=Do.lt;refine pl_nil (qw_then ?_);refine cw_seq ?_;have Bf:=er_ X6;refine cw_plain ?_;obtain⟨Bs,I5,Fb,hO,Dk,hb⟩:=run_makeI X6 (n:=24) (by omega);have Cq:=hO;clear hO;refine pS (sn_eff (v:=sv Bs 0 24 24) (ex_make rfl (by kernel_rfl) (by kernel_rfl) Fb) ?_);refine nv2 hb hE Bf fun hE Bf Bq=>?_;have Cx:=Dk.lt;refine pD (.agg #[sv Bs 0 24 24]) (.agg #[iv 1,sv Bs 0 24 24,iv 0,iv 0,iv 0,iv 0,.bool false,iv 0,iv 0,iv 0,.slice none 0 0,.slice none 0 0]) ?_;refine pS (sw 33 z33 ?_);intro Bg Gy Bi Gj hb hbx;have⟨B8,B2,B3,B6,B4,B7,B5,Ba,Bc,Be,B0,B1⟩:=bq12 hbx;refine nv3 hb hE Bf Dk fun hE Bf Dk Dl=>?_;have Eh:=B8.lt;refine pP (k33 Bg 1 (some ⟨Bs,0,none⟩) 24 24 0 0 0 0 false 0 0 0 none 0 0 none 0 0 B8 B2 B3 B6 B4 B7 B5 Ba Bc Be B0 B1 ?_);intro Fy ho B8 B2 B3 B6 B4 B7 B5 Ba Bc Be B0 B1 hk;refine he2 ho hE Bf fun hE Bf=>?_;replace Dk:=Dk.turn ho (by omega);have D0:=nq_ ho.size.symm;clear ho hk;refine zn (zc (cw_seq ?_));have Il:RowsI (fun _=>0):=RowsI.zero;refine zp (pT (iv 0) ?_);refine zn (cb_ ?_);refine cw_loop [1,2,3,4] (fun ws' wr m=>∃i:Nat,∃g1:Nat→Nat,ws'= [(1,pw O1 0),(2,pw O5 0),(3,pw Bg 0),(4,iv i)]∧m=pk ((q1:Int).tdiv 24) 3+1 - i∧Fy.heap.size≤wr.heap.size∧Ext w wr∧Ext X6 wr∧BoxAt wr Bg 0 (iv 1)∧BoxAt wr Bg 1 (sv Bs 0 24 24)∧BoxAt wr Bg 2 (iv 0)∧BoxAt wr Bg 3 (iv 0)∧BoxAt wr Bg 4 (iv 0)∧BoxAt wr Bg 5 (iv 0)∧BoxAt wr Bg 6 (.bool false)∧BoxAt wr Bg 7 (iv 0)∧BoxAt wr Bg 8 (iv 0)∧BoxAt wr Bg 9 (iv 0)∧BoxAt wr Bg 10 (.slice none 0 0)∧BoxAt wr Bg 11 (.slice none 0 0)∧ValI wr Bs 24 ((fun j=>((g1 j:Nat):Int)))∧i≤pk ((q1:Int).tdiv 24) 3+1∧RowsI g1∧(0<i→∃j,j<24∧0<g1 j)) (ws0:=[(1,pw O1 0),(2,pw O5 0),(3,pw Bg 0),(4,iv 0)]) (by kernel_rfl) _ ⟨0,(fun _=>0),rfl,rfl,nr_ _,hE,Bf,B8,B2,B3,B6,B4,B7,B5,Ba,Bc,Be,B0,B1,Dk,Nat.zero_le _,RowsI.zero,(fun h=>absurd h (Nat.lt_irrefl 0))⟩ ?_;clear Dk B8 B2 B3 B6 B4 B7 B5 Ba Bc Be B0 B1 hE Bf;rintro Im L ws Gr ⟨i,g1,rfl,rfl,Cy,hE,Bf,B8,B2,B3,B6,B4,B7,B5,Ba,Bc,Be,B0,B1,G0,hi,Ez,Gn⟩;have Db:=er_ Gr
 by_cases hlt:i≤pk ((q1:Int).tdiv 24) 3
 ·refine zc (zc (zp (pD (iv i) (pw O1 1) ?_)));refine pU (iv q1) (xl (ld3 (Bh.c Bf))) ?_;refine pU (iv ((q1:Int).tdiv 24:Int)) (ex_bin (a:=q1) (b:=24) rfl (by kernel_rfl) (by kernel_rfl) (bin_tdiv (by omega) (by omega) (by omega))) ?_;refine pS (sc 73 #[iv ((q1:Int).tdiv 24:Int),iv 3] ((r13pick_c (c:=(q1:Int).tdiv 24) (n:=3) _ (isI_td h1 (by decide)) (by omega)).mono ?_));rintro e I0 ⟨rfl,hb⟩;refine mv12 hb hE Bf Db B8 B2 B3 B6 B4 B7 B5 Ba Bc fun hE Bf Db B8 B2 B3 B6 B4 B7 B5 Ba Bc=>?_;refine nv3 hb Be B0 B1 fun Be B0 B1 Cz=>?_;refine⟨_,rfl,pU (.bool true) (ed (((i:Nat):Int)≤(((pk ((q1:Int).tdiv 24) 3:Nat):Int):Int)) (by omega)) ?_⟩;refine zn (zt ?_);refine cs_ (zq (zc (cb_ ?_)));refine zc (zp (pT (iv 0) ?_));refine zn (cb_ ?_);have E5:=(G0.ext Db);refine cw_loop [1,2,3,4,5] (fun ws' wr m=>∃k:Nat,∃g2:Nat→Nat,ws'= [(1,pw O1 0),(2,pw O5 0),(3,pw Bg 0),(4,iv i),(5,iv k)]∧m=pk ((q0:Int).tdiv 48) 3+1 - k∧I0.heap.size≤wr.heap.size∧Ext w wr∧Ext X6 wr∧BoxAt wr Bg 0 (iv 1)∧BoxAt wr Bg 1 (sv Bs 0 24 24)∧BoxAt wr Bg 2 (iv 0)∧BoxAt wr Bg 3 (iv 0)∧BoxAt wr Bg 4 (iv 0)∧BoxAt wr Bg 5 (iv 0)∧BoxAt wr Bg 6 (.bool false)∧BoxAt wr Bg 7 (iv 0)∧BoxAt wr Bg 8 (iv 0)∧BoxAt wr Bg 9 (iv 0)∧BoxAt wr Bg 10 (.slice none 0 0)∧BoxAt wr Bg 11 (.slice none 0 0)∧ValI wr Bs 24 ((fun j=>((g2 j:Nat):Int)))∧k≤pk ((q0:Int).tdiv 48) 3+1∧RowsI g2∧(0<k→∃j,j<24∧0<g2 j)) (ws0:=[(1,pw O1 0),(2,pw O5 0),(3,pw Bg 0),(4,iv i),(5,iv 0)]) (by kernel_rfl) _ ⟨0,g1,rfl,rfl,nr_ _,hE,Bf,B8,B2,B3,B6,B4,B7,B5,Ba,Bc,Be,B0,B1,E5,Nat.zero_le _,Ez,(fun h=>absurd h (Nat.lt_irrefl 0))⟩ ?_;clear B8 B2 B3 B6 B4 B7 B5 Ba Bc Be B0 B1 E5 hE Bf;rintro Io L ws Fx ⟨k,g2,rfl,rfl,Cv,hE,Bf,B8,B2,B3,B6,B4,B7,B5,Ba,Bc,Be,B0,B1,F7,hk,Fc,Ho⟩;have Bj:=er_ Fx
  by_cases hlt:k≤pk ((q0:Int).tdiv 48) 3
  ·obtain⟨x9,hx,Et⟩:∃x,(pk q0 48+k) % 48=x∧x<48:=⟨_,rfl,Nat.mod_lt _ (by decide)⟩;obtain⟨y9,hy,Gi⟩:∃y,min 23 (pk q1 24+i)=y∧y<24:=⟨_,rfl,by omega⟩;refine zc (zc (zp (pD (iv k) (pw O1 0) ?_)));refine pU (iv q0) (xl (ld3 (Bm.c Bf))) ?_;refine pU (iv ((q0:Int).tdiv 48:Int)) (ex_bin (a:=q0) (b:=48) rfl (by kernel_rfl) (by kernel_rfl) (bin_tdiv (by omega) (by omega) (by omega))) ?_;refine pS (sc 73 #[iv ((q0:Int).tdiv 48:Int),iv 3] ((r13pick_c (c:=(q0:Int).tdiv 48) (n:=3) _ (isI_td h0 (by decide)) (by omega)).mono ?_));rintro e Gt ⟨rfl,hb⟩;refine mv12 hb hE Bf Bj B8 B2 B3 B6 B4 B7 B5 Ba Bc fun hE Bf Bj B8 B2 B3 B6 B4 B7 B5 Ba Bc=>?_;refine nv3 hb Be B0 B1 fun Be B0 B1 Cu=>?_;refine⟨_,rfl,pU (.bool true) (ed (((k:Nat):Int)≤(((pk ((q0:Int).tdiv 48) 3:Nat):Int):Int)) (by omega)) ?_⟩;refine zn (zt ?_);refine cs_ (zq (zc (cb_ ?_)));refine zc (cw_join (fun ws' Y=>∃Dj:Nat,ws'= [(1,pw O1 0),(2,pw O5 0),(3,pw Bg 0),(4,iv i),(5,iv k),(6,pw Dj 0)]∧Ext w Y∧Ext X6 Y∧Ext Fx Y∧BoxAt Y Bg 0 (iv 1)∧BoxAt Y Bg 1 (sv Bs 0 24 24)∧BoxAt Y Bg 2 (iv 0)∧BoxAt Y Bg 3 (iv 0)∧BoxAt Y Bg 4 (iv 0)∧BoxAt Y Bg 5 (iv 0)∧BoxAt Y Bg 6 (.bool false)∧BoxAt Y Bg 7 (iv 0)∧BoxAt Y Bg 8 (iv 0)∧BoxAt Y Bg 9 (iv 0)∧BoxAt Y Bg 10 (.slice none 0 0)∧BoxAt Y Bg 11 (.slice none 0 0)∧BoxAt Y Dj 0 (iv x9)∧BoxAt Y Dj 1 (iv y9)∧Gt.heap.size≤Y.heap.size∧Gt.heap.size≤Dj) (fun hJ=>?_) ?_)
   ·refine dT (fun w'=>w'.cell? ⟨O1,0,none⟩=some (iv q0)∧w'.cell? ⟨O1,1,none⟩=some (iv q1)) (⟨(Bm.x Bf).1,(Bh.x Bf).1⟩) (fun ops Q I6 hb hL hR hK=>?_);refine mv12 hb hE Bf Bj B8 B2 B3 B6 B4 B7 B5 Ba Bc fun hE Bf Bj B8 B2 B3 B6 B4 B7 B5 Ba Bc=>?_;refine nv3 hb Be B0 B1 fun Be B0 B1 Cn=>?_;have hS:=A2 (Bm.c Bf) (Bh.c Bf);refine wV 0 (pw O1 0) hR hS ?_;refine wM 1 (iv q0) hR (fun w hS=>ld3 (hS.1)) hS ?_;refine wW 3 (iv k) 6 (pw O1 1) hR hS ?_;refine wM 7 (iv q1) hR (fun w hS=>ld3 (hS.2)) hS ?_;refine wV 9 (iv i) hR hS ?_;refine zw 2 13 hR ?_ ?_
    ·refine sc 73 #[iv q0,iv 48] ((r13pick_c (c:=q0) (n:=48) _ h0 (by omega)).mono ?_);rintro e Ip ⟨rfl,hb⟩;refine mv12 hb hE Bf Bj B8 B2 B3 B6 B4 B7 B5 Ba Bc fun hE Bf Bj B8 B2 B3 B6 B4 B7 B5 Ba Bc=>?_;refine nv3 hb Be B0 B1 fun Be B0 B1 Cw=>?_;have hS:=A2 (Bm.c Bf) (Bh.c Bf);refine⟨_,rfl,hS,?_⟩;refine wL 4 (nv ((pk q0 48)+k)) hR (fun w _=>ev_wrap (by kernel_rfl) (by omega) (by omega)) hS ?_;refine wL 5 (iv x9) hR (fun w _=>ex_bin (a:=((pk q0 48+k:Nat):Int)) (b:=((48:Nat):Int)) rfl (by kernel_rfl) (by kernel_rfl) ((bin_rem (by omega)).trans (by rw [hx]))) hS ?_;refine zw 8 13 hR ?_ ?_
     ·refine sc 73 #[iv q1,iv 24] ((r13pick_c (c:=q1) (n:=24) _ h1 (by omega)).mono ?_);rintro e Iq ⟨rfl,hb⟩;refine mv12 hb hE Bf Bj B8 B2 B3 B6 B4 B7 B5 Ba Bc fun hE Bf Bj B8 B2 B3 B6 B4 B7 B5 Ba Bc=>?_;refine nv3 hb Be B0 B1 fun Be B0 B1 Dn=>?_;have hS:=A2 (Bm.c Bf) (Bh.c Bf);refine⟨_,rfl,hS,?_⟩;refine wL 10 (nv ((pk q1 24)+i)) hR (fun w _=>ev_wrap (by kernel_rfl) (by omega) (by omega)) hS ?_;refine wL 11 (iv y9) hR (fun w _=>ev_int (show _=Result.ok (Next.value (Value.int .i64 (if ((pk q1 24+i:Nat):Int)<(23:Int) then ((pk q1 24+i:Nat):Int) else (23:Int)))) _ from by kernel_rfl) (by split <;> omega)) hS ?_;refine wV 12 (.agg #[iv x9,iv y9]) hR hS ?_;refine wN 13 137 #[iv 0,iv 0] hR ?_;intro Dj Gz Dg Gk hb hbx;have⟨Bk,Bl⟩:=bq2 hbx;refine mv12 hb hE Bf Bj B8 B2 B3 B6 B4 B7 B5 Ba Bc fun hE Bf Bj B8 B2 B3 B6 B4 B7 B5 Ba Bc=>?_;refine nv3 hb Be B0 B1 fun Be B0 B1 Fd=>?_;have Hu:=Bk.lt;refine⟨⟨(Bm.c Bf),(Bh.c Bf)⟩,?_⟩;refine wS 14 hR (sn_set2 (O:=Dj) (j:=0) (v:=iv x9) (v':=iv y9) (ex_store (p:=pw Dj 0) (v:=.agg #[iv x9,iv y9]) rfl (by kernel_rfl) (by kernel_rfl) (st137 Bk.1 Bk.2 Bl.1 Bl.2)) Bk Bl ?_);intro H3 ho Bk Bl hk;refine he3 ho hE Bf Bj fun hE Bf Bj=>?_;refine mq12 (ho.bx Bg (by omega)) B8 B2 B3 B6 B4 B7 B5 Ba Bc Be B0 B1 fun B8 B2 B3 B6 B4 B7 B5 Ba Bc Be B0 B1=>?_;have Fe:=nq_ ho.size.symm;clear ho hk;refine⟨⟨(Bm.c Bf),(Bh.c Bf)⟩,?_⟩;refine we hL hR hK ?_;exact zl hJ [1,2,3,4,5,6] ⟨Dj,rfl,hE,Bf,Bj,B8,B2,B3,B6,B4,B7,B5,Ba,Bc,Be,B0,B1,Bk,Bl,(Tq Cn (Tq Cw (Tq Dn (Tq Fd Fe)))),(by omega)⟩
     ·refine sw 137 #[iv 0,iv 0] ?_;intro Ew I7 Dh Gl hb hbx;have⟨Cm,Co⟩:=bq2 hbx;refine mv12 hb hE Bf Bj B8 B2 B3 B6 B4 B7 B5 Ba Bc fun hE Bf Bj B8 B2 B3 B6 B4 B7 B5 Ba Bc=>?_;refine nv3 hb Be B0 B1 fun Be B0 B1 Ff=>?_;have Hw:=Cm.lt;refine⟨⟨(Bm.c Bf),(Bh.c Bf)⟩,?_⟩;refine wC 8 73 #[iv q1,iv 24] hR ((r13pick_c (c:=q1) (n:=24) _ h1 (by omega)).mono ?_);rintro e I1 ⟨rfl,hb⟩;refine mv16 hb hE Bf Bj B8 B2 B3 B6 B4 B7 B5 Ba Bc Be B0 B1 Cm fun hE Bf Bj B8 B2 B3 B6 B4 B7 B5 Ba Bc Be B0 B1 Cm=>?_;replace Co:=Co.x hb;have Fg:=hb.size;have hS:=A2 (Bm.c Bf) (Bh.c Bf);refine⟨_,rfl,hS,?_⟩;refine wL 10 (nv ((pk q1 24)+i)) hR (fun w _=>ev_wrap (by kernel_rfl) (by omega) (by omega)) hS ?_;refine wL 11 (iv y9) hR (fun w _=>ev_int (show _=Result.ok (Next.value (Value.int .i64 (if ((pk q1 24+i:Nat):Int)<(23:Int) then ((pk q1 24+i:Nat):Int) else (23:Int)))) _ from by kernel_rfl) (by split <;> omega)) hS ?_;refine wV 12 (.agg #[iv x9,iv y9]) hR hS ?_;refine wS 14 hR (sn_set2 (O:=Ew) (j:=0) (v:=iv x9) (v':=iv y9) (ex_store (p:=pw Ew 0) (v:=.agg #[iv x9,iv y9]) rfl (by kernel_rfl) (by kernel_rfl) (st137 Cm.1 Cm.2 Co.1 Co.2)) Cm Co ?_);intro H4 ho Cm Co hk;refine he3 ho hE Bf Bj fun hE Bf Bj=>?_;refine mq12 (ho.bx Bg (by omega)) B8 B2 B3 B6 B4 B7 B5 Ba Bc Be B0 B1 fun B8 B2 B3 B6 B4 B7 B5 Ba Bc Be B0 B1=>?_;have Fh:=nq_ ho.size.symm;clear ho hk;refine⟨⟨(Bm.c Bf),(Bh.c Bf)⟩,?_⟩;refine we hL hR hK ?_;exact zl hJ [1,2,3,4,5,6] ⟨Ew,rfl,hE,Bf,Bj,B8,B2,B3,B6,B4,B7,B5,Ba,Bc,Be,B0,B1,Cm,Co,(Tq Cn (Tq Cw (Tq Ff (Tq Fg Fh)))),(Tq (Tq Cn Cw) (nq_ Dh))⟩
    ·refine sw 137 #[iv 0,iv 0] ?_;intro Ey I8 Di Gm hb hbx;have⟨Br,Bu⟩:=bq2 hbx;refine mv12 hb hE Bf Bj B8 B2 B3 B6 B4 B7 B5 Ba Bc fun hE Bf Bj B8 B2 B3 B6 B4 B7 B5 Ba Bc=>?_;refine nv3 hb Be B0 B1 fun Be B0 B1 Fi=>?_;have Hx:=Br.lt;refine⟨⟨(Bm.c Bf),(Bh.c Bf)⟩,?_⟩;refine wC 2 73 #[iv q0,iv 48] hR ((r13pick_c (c:=q0) (n:=48) _ h0 (by omega)).mono ?_);rintro e Ir ⟨rfl,hb⟩;refine mv16 hb hE Bf Bj B8 B2 B3 B6 B4 B7 B5 Ba Bc Be B0 B1 Br fun hE Bf Bj B8 B2 B3 B6 B4 B7 B5 Ba Bc Be B0 B1 Br=>?_;replace Bu:=Bu.x hb;have Fj:=hb.size;have hS:=A2 (Bm.c Bf) (Bh.c Bf);refine⟨_,rfl,hS,?_⟩;refine wL 4 (nv ((pk q0 48)+k)) hR (fun w _=>ev_wrap (by kernel_rfl) (by omega) (by omega)) hS ?_;refine wL 5 (iv x9) hR (fun w _=>ex_bin (a:=((pk q0 48+k:Nat):Int)) (b:=((48:Nat):Int)) rfl (by kernel_rfl) (by kernel_rfl) ((bin_rem (by omega)).trans (by rw [hx]))) hS ?_;refine wC 8 73 #[iv q1,iv 24] hR ((r13pick_c (c:=q1) (n:=24) _ h1 (by omega)).mono ?_);rintro e I2 ⟨rfl,hb⟩;refine mv16 hb hE Bf Bj B8 B2 B3 B6 B4 B7 B5 Ba Bc Be B0 B1 Br fun hE Bf Bj B8 B2 B3 B6 B4 B7 B5 Ba Bc Be B0 B1 Br=>?_;replace Bu:=Bu.x hb;have Fk:=hb.size;have hS:=A2 (Bm.c Bf) (Bh.c Bf);refine⟨_,rfl,hS,?_⟩;refine wL 10 (nv ((pk q1 24)+i)) hR (fun w _=>ev_wrap (by kernel_rfl) (by omega) (by omega)) hS ?_;refine wL 11 (iv y9) hR (fun w _=>ev_int (show _=Result.ok (Next.value (Value.int .i64 (if ((pk q1 24+i:Nat):Int)<(23:Int) then ((pk q1 24+i:Nat):Int) else (23:Int)))) _ from by kernel_rfl) (by split <;> omega)) hS ?_;refine wV 12 (.agg #[iv x9,iv y9]) hR hS ?_;refine wS 14 hR (sn_set2 (O:=Ey) (j:=0) (v:=iv x9) (v':=iv y9) (ex_store (p:=pw Ey 0) (v:=.agg #[iv x9,iv y9]) rfl (by kernel_rfl) (by kernel_rfl) (st137 Br.1 Br.2 Bu.1 Bu.2)) Br Bu ?_);intro H5 ho Br Bu hk;refine he3 ho hE Bf Bj fun hE Bf Bj=>?_;refine mq12 (ho.bx Bg (by omega)) B8 B2 B3 B6 B4 B7 B5 Ba Bc Be B0 B1 fun B8 B2 B3 B6 B4 B7 B5 Ba Bc Be B0 B1=>?_;have Fl:=nq_ ho.size.symm;clear ho hk;refine⟨⟨(Bm.c Bf),(Bh.c Bf)⟩,?_⟩;refine we hL hR hK ?_;exact zl hJ [1,2,3,4,5,6] ⟨Ey,rfl,hE,Bf,Bj,B8,B2,B3,B6,B4,B7,B5,Ba,Bc,Be,B0,B1,Br,Bu,(Tq Cn (Tq Fi (Tq Fj (Tq Fk Fl)))),(Tq Cn (nq_ Di))⟩
   ·clear B8 B2 B3 B6 B4 B7 B5 Ba Bc Be B0 B1 hE Bf Bj;rintro L ws Ia ⟨Dj,rfl,hE,Bf,Bj,B8,B2,B3,B6,B4,B7,B5,Ba,Bc,Be,B0,B1,Bk,Bl,F9,Fa⟩;have Hy:=Bk.lt;refine qw_then ?_;have Dr:=(F7.ext Bj).at_ y9 (by omega);have hgy:=Fc y9;have hpx:2 ^ x9<281474976710656:=Nat.pow_lt_pow_right (a:=2) (n:=48) (by decide) Et;refine dT (fun w'=>w'.cell? ⟨Bg,1,none⟩=some (sv Bs 0 24 24)∧w'.cell? ⟨Dj,1,none⟩=some (iv y9)∧w'.cell? ⟨Dj,0,none⟩=some (iv x9)) (⟨B2.1,Bl.1,Bk.1⟩) (fun ops Q Fz hb hL hR hK=>?_);refine mv16 hb hE Bf Bj B8 B2 B3 B6 B4 B7 B5 Ba Bc Be B0 B1 Bk fun hE Bf Bj B8 B2 B3 B6 B4 B7 B5 Ba Bc Be B0 B1 Bk=>?_;refine nv2 hb Bl Dr fun Bl Dr Fm=>?_;have hS:=A3 B2.1 Bl.1 Bk.1;refine wW 0 (pw Bg 1) 1 (pw Bg 1) hR hS ?_;refine wM 2 (sv Bs 0 24 24) hR (fun w hS=>ld24 (hS.1)) hS ?_;refine wV 3 (pw Dj 1) hR hS ?_;refine wM 4 (iv y9) hR (fun w hS=>ld3 (hS.2.1)) hS ?_;refine wW 5 (pw Bg 1) 6 (pw Bg 1) hR hS ?_;refine wM 7 (sv Bs 0 24 24) hR (fun w hS=>ld24 (hS.1)) hS ?_;refine wV 8 (pw Dj 1) hR hS ?_;refine wM 9 (iv y9) hR (fun w hS=>ld3 (hS.2.1)) hS ?_;refine wL 10 (pw Bs y9) hR (fun w _=>ex_index (p:=sv Bs 0 24 24) (i:=iv y9) rfl (by kernel_rfl) (by kernel_rfl) (ix24z (k:=y9) (by omega))) hS ?_;refine wV 12 (pw Dj 0) hR hS ?_;refine wM 13 (iv x9) hR (fun w hS=>ld3 (hS.2.2)) hS ?_;refine wL 14 (nv (2 ^ x9)) hR (fun w _=>ex_bin rfl (by kernel_rfl) (by kernel_rfl) (bin_shl1 (by omega))) hS ?_;refine wS 11 hR (sn_eff (v:=nv (g2 y9)) (w':=Fz) (ex_load rfl (by kernel_rfl) (ld3 (Dr.1))) ⟨⟨B2.1,Bl.1,Bk.1⟩,?_⟩);have hS:=A3 B2.1 Bl.1 Bk.1;refine wL 15 (nv ((g2 y9) ||| (2 ^ x9))) hR (fun w _=>ev_int (show _=Result.ok (Next.value (Value.int .i64 (bits .or .i64 ((g2 y9:Nat):Int) ((2 ^ x9:Nat):Int)))) _ from by kernel_rfl) (or_i64 _ _ (by omega) (by omega))) hS ?_;refine wL 16 (pw Bs y9) hR (fun w _=>ex_index (p:=sv Bs 0 24 24) (i:=iv y9) rfl (by kernel_rfl) (by kernel_rfl) (ix24z (k:=y9) (by omega))) hS ?_;have E6:=(F7.ext Bj);have hka:=E6.at_ y9 (by omega);refine wS 17 hR (sn_set (O:=Bs) (j:=y9) (v:=nv ((g2 y9) ||| (2 ^ x9))) (ex_store (p:=pw Bs y9) (v:=nv ((g2 y9) ||| (2 ^ x9))) rfl (by kernel_rfl) (by kernel_rfl) (st3 hka.1 hka.2)) hka ?_);intro H6 ho Bt hk;have F8:=E6.set ho Bt hk;refine he2 ho hE Bf fun hE Bf=>?_;refine mq12 (ho.bx Bg (by omega)) B8 B2 B3 B6 B4 B7 B5 Ba Bc Be B0 B1 fun B8 B2 B3 B6 B4 B7 B5 Ba Bc Be B0 B1=>?_;refine mq2 (ho.bx Dj (by omega)) Bk Bl fun Bk Bl=>?_;have Fo:=nq_ ho.size.symm;clear ho hka Bt hk;refine⟨⟨B2.1,Bl.1,Bk.1⟩,?_⟩;refine we hL hR hK ?_;refine qw_block (zq (cK [1,2,3,4,5] (fun L=>?_)));refine zp (pT (iv k) ?_);refine pUT (nv (k+1)) (ew (by omega) (by omega)) (nv (k+1)) ?_;refine pl_nil (zr [1,2,3,4,5] _ ?_ ⟨(k+1),(updN g2 y9 (g2 y9 ||| 2 ^ x9)),rfl,rfl,(Tq Cv (Tq Cu (Tq F9 (Tq Fm Fo)))),hE,Bf,B8,B2,B3,B6,B4,B7,B5,Ba,Bc,Be,B0,B1,(upd_nat g2 y9 _ ▸ F8),by omega,(Fc.or Et),(fun _=>row_pos Gi)⟩);omega
  ·have hkn:k=pk ((q0:Int).tdiv 48) 3+1:=by omega
   refine zc (zc (zp (pD (iv k) (pw O1 0) ?_)));refine pU (iv q0) (xl (ld3 (Bm.c Bf))) ?_;refine pU (iv ((q0:Int).tdiv 48:Int)) (ex_bin (a:=q0) (b:=48) rfl (by kernel_rfl) (by kernel_rfl) (bin_tdiv (by omega) (by omega) (by omega))) ?_;refine pS (sc 73 #[iv ((q0:Int).tdiv 48:Int),iv 3] ((r13pick_c (c:=(q0:Int).tdiv 48) (n:=3) _ (isI_td h0 (by decide)) (by omega)).mono ?_));rintro e It ⟨rfl,hb⟩;refine mv12 hb hE Bf Bj B8 B2 B3 B6 B4 B7 B5 Ba Bc fun hE Bf Bj B8 B2 B3 B6 B4 B7 B5 Ba Bc=>?_;refine nv3 hb Be B0 B1 fun Be B0 B1 Fp=>?_;refine⟨_,rfl,pU (.bool false) (en (((k:Nat):Int)≤(((pk ((q0:Int).tdiv 48) 3:Nat):Int):Int)) (by omega)) ?_⟩;refine zn (zf ?_);refine cx_ (qx (qx (qo (qw_block (zq (zp (pT (iv i) ?_)))))));refine pUT (nv (i+1)) (ew (by omega) (by omega)) (nv (i+1)) ?_;refine pl_nil (zr [1,2,3,4] _ ?_ ⟨(i+1),g2,rfl,rfl,(Tq Cy (Tq Cz (Tq Cv Fp))),hE,Bf,B8,B2,B3,B6,B4,B7,B5,Ba,Bc,Be,B0,B1,(F7.ext Bj),by omega,Fc,(fun _=>Ho (by omega))⟩);omega
 ·have hin:i=pk ((q1:Int).tdiv 24) 3+1:=by omega
  refine zc (zc (zp (pD (iv i) (pw O1 1) ?_)));refine pU (iv q1) (xl (ld3 (Bh.c Bf))) ?_;refine pU (iv ((q1:Int).tdiv 24:Int)) (ex_bin (a:=q1) (b:=24) rfl (by kernel_rfl) (by kernel_rfl) (bin_tdiv (by omega) (by omega) (by omega))) ?_;refine pS (sc 73 #[iv ((q1:Int).tdiv 24:Int),iv 3] ((r13pick_c (c:=(q1:Int).tdiv 24) (n:=3) _ (isI_td h1 (by decide)) (by omega)).mono ?_));rintro e Iu ⟨rfl,hb⟩;refine mv12 hb hE Bf Db B8 B2 B3 B6 B4 B7 B5 Ba Bc fun hE Bf Db B8 B2 B3 B6 B4 B7 B5 Ba Bc=>?_;refine nv3 hb Be B0 B1 fun Be B0 B1 Hb=>?_;refine⟨_,rfl,pU (.bool false) (en (((i:Nat):Int)≤(((pk ((q1:Int).tdiv 24) 3:Nat):Int):Int)) (by omega)) ?_⟩;refine zn (zf ?_);refine cx_ (qx (qx (qo (zq (zc (cw_seq ?_))))));obtain⟨z9,Hs⟩:∃q,(((pk q2 3:Nat):Int) == (0:Int))=q:=⟨_,rfl⟩;refine zp (pT (pw O1 2) ?_);refine pU (iv q2) (xl (ld3 (Bp.c Bf))) ?_;refine pS (sc 73 #[iv q2,iv 3] ((r13pick_c (c:=q2) (n:=3) _ h2 (by omega)).mono ?_));rintro e Gu ⟨rfl,hb⟩;refine mv12 hb hE Bf Db B8 B2 B3 B6 B4 B7 B5 Ba Bc fun hE Bf Db B8 B2 B3 B6 B4 B7 B5 Ba Bc=>?_;refine nv3 hb Be B0 B1 fun Be B0 B1 Hc=>?_;refine⟨_,rfl,pU (.bool z9) (ev_bool (show _=Result.ok (Next.value (Value.bool (((pk q2 3:Nat):Int) == (0:Int)))) _ from by kernel_rfl) Hs) ?_⟩;refine pl_nil (qw_then ?_);have Bo:=(G0.ext Db);refine cw_join (fun ws' wr=>∃g3:Nat→Nat,ws'= [(1,pw O1 0),(2,pw O5 0),(3,pw Bg 0)]∧Gu.heap.size≤wr.heap.size∧Ext w wr∧Ext X6 wr∧BoxAt wr Bg 0 (iv 1)∧BoxAt wr Bg 1 (sv Bs 0 24 24)∧BoxAt wr Bg 2 (iv 0)∧BoxAt wr Bg 3 (iv 0)∧BoxAt wr Bg 4 (iv 0)∧BoxAt wr Bg 5 (iv 0)∧BoxAt wr Bg 6 (.bool false)∧BoxAt wr Bg 7 (iv 0)∧BoxAt wr Bg 8 (iv 0)∧BoxAt wr Bg 9 (iv 0)∧BoxAt wr Bg 10 (.slice none 0 0)∧BoxAt wr Bg 11 (.slice none 0 0)∧ValI wr Bs 24 ((fun j=>((g3 j:Nat):Int)))∧RowsI g3∧∃j,j<24∧0<g3 j) (fun hJ=>?_) ?_
  ·cases z9
   ·refine zf ?_;refine cs_ ?_;exact zl hJ [1,2,3] ⟨g1,rfl,(nr_ _),hE,Bf,B8,B2,B3,B6,B4,B7,B5,Ba,Bc,Be,B0,B1,Bo,Ez,(Gn (by omega))⟩
   ·refine zt ?_;obtain⟨y9,hy,Gi⟩:∃y,pk q1 24=y∧y<24:=⟨_,rfl,H9⟩;obtain⟨x9,hx,Et⟩:∃x,pk q2 48=x∧x<48:=⟨_,rfl,Ha⟩;have Ck:=Bo.at_ y9 (by omega);have hgy:=Ez y9;have hpx:2 ^ x9<281474976710656:=Nat.pow_lt_pow_right (a:=2) (n:=48) (by decide) Et;refine cw_join (fun ws' Y=>ws'= [(1,pw O1 0),(2,pw O5 0),(3,pw Bg 0)]∧Ext w Y∧Ext X6 Y∧BoxAt Y Bg 0 (iv 1)∧BoxAt Y Bg 1 (sv Bs 0 24 24)∧BoxAt Y Bg 2 (iv 0)∧BoxAt Y Bg 3 (iv 0)∧BoxAt Y Bg 4 (iv 0)∧BoxAt Y Bg 5 (iv 0)∧BoxAt Y Bg 6 (.bool false)∧BoxAt Y Bg 7 (iv 0)∧BoxAt Y Bg 8 (iv 0)∧BoxAt Y Bg 9 (iv 0)∧BoxAt Y Bg 10 (.slice none 0 0)∧BoxAt Y Bg 11 (.slice none 0 0)∧ValI Y Bs 24 (upd ((fun j=>((g1 j:Nat):Int))) y9 ((((g1 y9) ||| (2 ^ x9):Nat):Int)))∧Gu.heap.size≤Y.heap.size) (fun hJ=>?_) ?_
    ·refine dT (fun w'=>w'.cell? ⟨Bg,1,none⟩=some (sv Bs 0 24 24)∧w'.cell? ⟨O1,1,none⟩=some (iv q1)∧w'.cell? ⟨O1,2,none⟩=some (iv q2)) (⟨B2.1,(Bh.x Bf).1,(Bp.x Bf).1⟩) (fun ops Q I9 hb hL hR hK=>?_);refine nv16 hb hE Bf B8 B2 B3 B6 B4 B7 B5 Ba Bc Be B0 B1 Bo Ck fun hE Bf B8 B2 B3 B6 B4 B7 B5 Ba Bc Be B0 B1 Bo Ck Ep=>?_;have hS:=A3 B2.1 (Bh.c Bf) (Bp.c Bf);refine wW 0 (pw Bg 1) 1 (pw Bg 1) hR hS ?_;refine wM 2 (sv Bs 0 24 24) hR (fun w hS=>ld24 (hS.1)) hS ?_;refine wV 3 (pw O1 1) hR hS ?_;refine wM 4 (iv q1) hR (fun w hS=>ld3 (hS.2.1)) hS ?_;refine wW 6 (pw Bg 1) 7 (pw Bg 1) hR hS ?_;refine wM 8 (sv Bs 0 24 24) hR (fun w hS=>ld24 (hS.1)) hS ?_;refine wV 9 (pw O1 1) hR hS ?_;refine wM 10 (iv q1) hR (fun w hS=>ld3 (hS.2.1)) hS ?_;refine wV 14 (pw O1 2) hR hS ?_;refine wM 15 (iv q2) hR (fun w hS=>ld3 (hS.2.2)) hS ?_;refine wC 5 73 #[iv q1,iv 24] hR ((r13pick_c (c:=q1) (n:=24) _ h1 (by decide)).mono ?_);rintro e Iv ⟨rfl,hb⟩;rw [hy];refine nv16 hb hE Bf B8 B2 B3 B6 B4 B7 B5 Ba Bc Be B0 B1 Bo Ck fun hE Bf B8 B2 B3 B6 B4 B7 B5 Ba Bc Be B0 B1 Bo Ck Er=>?_;refine⟨_,rfl,⟨B2.1,(Bh.c Bf),(Bp.c Bf)⟩,?_⟩;refine wC 11 73 #[iv q1,iv 24] hR ((r13pick_c (c:=q1) (n:=24) _ h1 (by decide)).mono ?_);rintro e I3 ⟨rfl,hb⟩;rw [hy];refine nv16 hb hE Bf B8 B2 B3 B6 B4 B7 B5 Ba Bc Be B0 B1 Bo Ck fun hE Bf B8 B2 B3 B6 B4 B7 B5 Ba Bc Be B0 B1 Bo Ck Es=>?_;have hS:=A3 B2.1 (Bh.c Bf) (Bp.c Bf);refine⟨_,rfl,hS,?_⟩;refine wL 12 (pw Bs y9) hR (fun w _=>ex_index (p:=sv Bs 0 24 24) (i:=iv y9) rfl (by kernel_rfl) (by kernel_rfl) (ix24z (k:=y9) (by omega))) hS ?_;refine zw 13 16 hR ?_ ?_
     ·refine sn_eff (v:=nv (g1 y9)) (w':=I3) (xl (ld3 (Ck.1))) ⟨⟨B2.1,(Bh.c Bf),(Bp.c Bf)⟩,?_⟩;refine wC 16 73 #[iv q2,iv 48] hR ((r13pick_c (c:=q2) (n:=48) _ h2 (by decide)).mono ?_);rintro e I4 ⟨rfl,hb⟩;rw [hx];refine nv16 hb hE Bf B8 B2 B3 B6 B4 B7 B5 Ba Bc Be B0 B1 Bo Ck fun hE Bf B8 B2 B3 B6 B4 B7 B5 Ba Bc Be B0 B1 Bo Ck Fq=>?_;have hS:=A3 B2.1 (Bh.c Bf) (Bp.c Bf);refine⟨_,rfl,hS,?_⟩;refine wL 17 (nv (2 ^ x9)) hR (fun w _=>ex_bin rfl (by kernel_rfl) (by kernel_rfl) (bin_shl1 (by omega))) hS ?_;refine wL 18 (nv ((g1 y9) ||| (2 ^ x9))) hR (fun w _=>ev_int (show _=Result.ok (Next.value (Value.int .i64 (bits .or .i64 ((g1 y9:Nat):Int) ((2 ^ x9:Nat):Int)))) _ from by kernel_rfl) (or_i64 _ _ (by omega) (by omega))) hS ?_;refine wL 19 (pw Bs y9) hR (fun w _=>ex_index (p:=sv Bs 0 24 24) (i:=iv y9) rfl (by kernel_rfl) (by kernel_rfl) (ix24z (k:=y9) (by omega))) hS ?_;have hka:=Bo.at_ y9 (by omega);refine wS 20 hR (sn_set (O:=Bs) (j:=y9) (v:=nv ((g1 y9) ||| (2 ^ x9))) (ex_store (p:=pw Bs y9) (v:=nv ((g1 y9) ||| (2 ^ x9))) rfl (by kernel_rfl) (by kernel_rfl) (st3 hka.1 hka.2)) hka ?_);intro H7 ho Bt hk;have Eg:=Bo.set ho Bt hk;refine he2 ho hE Bf fun hE Bf=>?_;refine mq12 (ho.bx Bg (by omega)) B8 B2 B3 B6 B4 B7 B5 Ba Bc Be B0 B1 fun B8 B2 B3 B6 B4 B7 B5 Ba Bc Be B0 B1=>?_;have Fr:=nq_ ho.size.symm;clear ho hka Bt hk;refine⟨⟨B2.1,(Bh.c Bf),(Bp.c Bf)⟩,?_⟩;refine we hL hR hK ?_;exact zl hJ [1,2,3] ⟨rfl,hE,Bf,B8,B2,B3,B6,B4,B7,B5,Ba,Bc,Be,B0,B1,Eg,(Tq Ep (Tq Er (Tq Es (Tq Fq Fr))))⟩
     ·refine sc 73 #[iv q2,iv 48] ((r13pick_c (c:=q2) (n:=48) _ h2 (by decide)).mono ?_);rintro e Gv ⟨rfl,hb⟩;rw [hx];refine nv16 hb hE Bf B8 B2 B3 B6 B4 B7 B5 Ba Bc Be B0 B1 Bo Ck fun hE Bf B8 B2 B3 B6 B4 B7 B5 Ba Bc Be B0 B1 Bo Ck Fs=>?_;have hS:=A3 B2.1 (Bh.c Bf) (Bp.c Bf);refine⟨_,rfl,hS,?_⟩;refine wL 17 (nv (2 ^ x9)) hR (fun w _=>ex_bin rfl (by kernel_rfl) (by kernel_rfl) (bin_shl1 (by omega))) hS ?_;refine wS 13 hR (sn_eff (v:=nv (g1 y9)) (w':=Gv) (ex_load rfl (by kernel_rfl) (ld3 (Ck.1))) ⟨⟨B2.1,(Bh.c Bf),(Bp.c Bf)⟩,?_⟩);have hS:=A3 B2.1 (Bh.c Bf) (Bp.c Bf);refine wL 18 (nv ((g1 y9) ||| (2 ^ x9))) hR (fun w _=>ev_int (show _=Result.ok (Next.value (Value.int .i64 (bits .or .i64 ((g1 y9:Nat):Int) ((2 ^ x9:Nat):Int)))) _ from by kernel_rfl) (or_i64 _ _ (by omega) (by omega))) hS ?_;refine wL 19 (pw Bs y9) hR (fun w _=>ex_index (p:=sv Bs 0 24 24) (i:=iv y9) rfl (by kernel_rfl) (by kernel_rfl) (ix24z (k:=y9) (by omega))) hS ?_;have hka:=Bo.at_ y9 (by omega);refine wS 20 hR (sn_set (O:=Bs) (j:=y9) (v:=nv ((g1 y9) ||| (2 ^ x9))) (ex_store (p:=pw Bs y9) (v:=nv ((g1 y9) ||| (2 ^ x9))) rfl (by kernel_rfl) (by kernel_rfl) (st3 hka.1 hka.2)) hka ?_);intro H8 ho Bt hk;have Em:=Bo.set ho Bt hk;refine he2 ho hE Bf fun hE Bf=>?_;refine mq12 (ho.bx Bg (by omega)) B8 B2 B3 B6 B4 B7 B5 Ba Bc Be B0 B1 fun B8 B2 B3 B6 B4 B7 B5 Ba Bc Be B0 B1=>?_;have Eo:=nq_ ho.size.symm;clear ho hka Bt hk;refine⟨⟨B2.1,(Bh.c Bf),(Bp.c Bf)⟩,?_⟩;refine we hL hR hK ?_;exact zl hJ [1,2,3] ⟨rfl,hE,Bf,B8,B2,B3,B6,B4,B7,B5,Ba,Bc,Be,B0,B1,Em,(Tq Ep (Tq Er (Tq Es (Tq Fs Eo))))⟩
    ·clear B8 B2 B3 B6 B4 B7 B5 Ba Bc Be B0 B1 Bo Ck hE Bf;rintro L ws El ⟨rfl,hE,Bf,B8,B2,B3,B6,B4,B7,B5,Ba,Bc,Be,B0,B1,Eg,En⟩;have G1:=er_ El;exact zl hJ [1,2,3] ⟨(updN g1 y9 (g1 y9 ||| 2 ^ x9)),rfl,En,hE,Bf,B8,B2,B3,B6,B4,B7,B5,Ba,Bc,Be,B0,B1,(upd_nat g1 y9 _ ▸ Eg),(Ez.or Et),(row_keep (Gn (by omega)))⟩
  ·clear B8 B2 B3 B6 B4 B7 B5 Ba Bc Be B0 B1 Bo hE Bf;rintro L ws Hz ⟨g3,rfl,He,hE,Bf,B8,B2,B3,B6,B4,B7,B5,Ba,Bc,Be,B0,B1,Cp,F0,Gp⟩;refine zq (zc (zp (pT (pw O1 2) ?_)));refine pU (iv q2) (xl (ld3 (Bp.c Bf))) ?_;refine pS (sc 73 #[iv q2,iv 3000] ((r13pick_c (c:=q2) (n:=3000) _ h2 (by omega)).mono ?_));rintro e Ft ⟨rfl,hb⟩;refine mv12 hb hE Bf B8 B2 B3 B6 B4 B7 B5 Ba Bc Be fun hE Bf B8 B2 B3 B6 B4 B7 B5 Ba Bc Be=>?_;refine nv3 hb B0 B1 Cp fun B0 B1 Cp G2=>?_;refine⟨_,rfl,pD (pw Bg 2) (pw Bg 2) ?_⟩;refine pP (zE Bg 2 (nv (pk q2 3000)) (st3 B3.1 B3.2) B3 ?_);intro F1 ho B3 hk;refine he2 ho hE Bf fun hE Bf=>?_;refine hj11 hk B8 B2 B6 B4 B7 B5 Ba Bc Be B0 B1 fun B8 B2 B6 B4 B7 B5 Ba Bc Be B0 B1=>?_;replace Cp:=Cp.turn ho (by omega);have G3:=nq_ ho.size.symm;clear ho hk;refine zn (zc (dT (fun w'=>w'.cell? ⟨Bg,2,none⟩=some (nv (pk q2 3000))∧w'.cell? ⟨O1,3,none⟩=some (iv q3)) (⟨B3.1,(Cr.x Bf).1⟩) (fun ops Q Gw hb hL hR hK=>?_)));refine mv12 hb hE Bf B8 B2 B6 B4 B7 B5 Ba Bc Be B0 fun hE Bf B8 B2 B6 B4 B7 B5 Ba Bc Be B0=>?_;refine nv3 hb B1 Cp B3 fun B1 Cp B3 G4=>?_;have hS:=A2 B3.1 (Cr.c Bf);refine wW 0 (pw Bg 2) 1 (pw Bg 2) hR hS ?_;refine wM 2 (nv (pk q2 3000)) hR (fun w hS=>ld3 (hS.1)) hS ?_;refine wL 3 (nv ((pk q2 3000)+1)) hR (fun w _=>ev_wrap (by kernel_rfl) (by omega) (by omega)) hS ?_;refine wV 4 (pw O1 3) hR hS ?_;refine wM 5 (iv q3) hR (fun w hS=>ld3 (hS.2)) hS ?_;refine wC 6 73 #[iv q3,iv 5000] hR ((r13pick_c (c:=q3) (n:=5000) _ h3 (by omega)).mono ?_);rintro e Fu ⟨rfl,hb⟩;refine mv12 hb hE Bf B8 B2 B6 B4 B7 B5 Ba Bc Be B0 fun hE Bf B8 B2 B6 B4 B7 B5 Ba Bc Be B0=>?_;refine nv3 hb B1 Cp B3 fun B1 Cp B3 G5=>?_;have hS:=A2 B3.1 (Cr.c Bf);refine⟨_,rfl,hS,?_⟩;refine wL 7 (nv (((pk q2 3000)+1)+(pk q3 5000))) hR (fun w _=>ev_wrap (by kernel_rfl) (by omega) (by omega)) hS ?_;refine wW 8 (pw Bg 2) 9 (pw Bg 3) hR hS ?_;refine wS 10 hR (sn_set (O:=Bg) (j:=3) (v:=nv (((pk q2 3000)+1)+(pk q3 5000))) (ex_store (p:=pw Bg 3) (v:=nv (((pk q2 3000)+1)+(pk q3 5000))) rfl (by kernel_rfl) (by kernel_rfl) (st3 B6.1 B6.2)) B6 ?_);intro F2 ho B6 hk;refine he2 ho hE Bf fun hE Bf=>?_;refine hj10 hk B8 B2 B4 B7 B5 Ba Bc Be B0 B1 fun B8 B2 B4 B7 B5 Ba Bc Be B0 B1=>?_;replace Cp:=Cp.turn ho (by omega);replace B3:=hk 2 _ (by omega) B3;have G6:=nq_ ho.size.symm;clear ho hk;refine⟨⟨B3.1,(Cr.c Bf)⟩,?_⟩;refine we hL hR hK ?_;refine zq (cK [1,2,3] (fun L=>?_));refine zc (zp (pT (pw O1 4) ?_));refine pU (iv q4) (xl (ld3 (Ct.c Bf))) ?_;refine pS (sc 73 #[iv q4,iv 40] ((r13pick_c (c:=q4) (n:=40) _ h4 (by omega)).mono ?_));rintro e Fv ⟨rfl,hb⟩;refine mv12 hb hE Bf B8 B2 B4 B7 B5 Ba Bc Be B0 B1 fun hE Bf B8 B2 B4 B7 B5 Ba Bc Be B0 B1=>?_;refine nv3 hb Cp B3 B6 fun Cp B3 B6 G7=>?_;refine⟨_,rfl,pT (pw Bg 4) ?_⟩;refine pP (zE Bg 4 (nv (pk q4 40)) (st3 B4.1 B4.2) B4 ?_);intro F3 ho B4 hk;refine he2 ho hE Bf fun hE Bf=>?_;refine hj9 hk B8 B2 B7 B5 Ba Bc Be B0 B1 fun B8 B2 B7 B5 Ba Bc Be B0 B1=>?_;replace Cp:=Cp.turn ho (by omega);refine hj2 hk B3 B6 fun B3 B6=>?_;have G8:=nq_ ho.size.symm;clear ho hk;refine zn (zc (dT (fun w'=>w'.cell? ⟨Bg,4,none⟩=some (nv (pk q4 40))∧w'.cell? ⟨O1,4,none⟩=some (iv q4)) (⟨B4.1,(Ct.x Bf).1⟩) (fun ops Q Gx hb hL hR hK=>?_)));refine mv12 hb hE Bf B8 B2 B7 B5 Ba Bc Be B0 B1 Cp fun hE Bf B8 B2 B7 B5 Ba Bc Be B0 B1 Cp=>?_;refine nv3 hb B3 B6 B4 fun B3 B6 B4 G9=>?_
   have hS:=A2 B4.1 (Ct.c Bf);refine wV 0 (pw Bg 4) hR hS ?_;refine wM 1 (nv (pk q4 40)) hR (fun w hS=>ld3 (hS.1)) hS ?_;refine wV 2 (pw O1 4) hR hS ?_;refine wM 3 (iv q4) hR (fun w hS=>ld3 (hS.2)) hS ?_;refine wL 4 (iv ((q4:Int).tdiv 40:Int)) hR (fun w _=>ex_bin (a:=q4) (b:=40) rfl (by kernel_rfl) (by kernel_rfl) (bin_tdiv (by omega) (by omega) (by omega))) hS ?_;refine wC 5 73 #[iv ((q4:Int).tdiv 40:Int),iv 51] hR ((r13pick_c (c:=(q4:Int).tdiv 40) (n:=51) _ (isI_td h4 (by decide)) (by omega)).mono ?_);rintro e Fw ⟨rfl,hb⟩;refine mv12 hb hE Bf B8 B2 B7 B5 Ba Bc Be B0 B1 Cp fun hE Bf B8 B2 B7 B5 Ba Bc Be B0 B1 Cp=>?_;refine nv3 hb B3 B6 B4 fun B3 B6 B4 Ga=>?_;have hS:=A2 B4.1 (Ct.c Bf);refine⟨_,rfl,hS,?_⟩;refine wL 6 (nv ((pk q4 40)+(pk ((q4:Int).tdiv 40) 51))) hR (fun w _=>ev_wrap (by kernel_rfl) (by omega) (by omega)) hS ?_;refine wV 7 (pw Bg 5) hR hS ?_;refine wS 8 hR (sn_set (O:=Bg) (j:=5) (v:=nv ((pk q4 40)+(pk ((q4:Int).tdiv 40) 51))) (ex_store (p:=pw Bg 5) (v:=nv ((pk q4 40)+(pk ((q4:Int).tdiv 40) 51))) rfl (by kernel_rfl) (by kernel_rfl) (st3 B7.1 B7.2)) B7 ?_);intro F4 ho B7 hk;refine he2 ho hE Bf fun hE Bf=>?_;refine hj8 hk B8 B2 B5 Ba Bc Be B0 B1 fun B8 B2 B5 Ba Bc Be B0 B1=>?_;replace Cp:=Cp.turn ho (by omega);refine hj3 hk B3 B6 B4 fun B3 B6 B4=>?_;have Gc:=nq_ ho.size.symm;clear ho hk;refine⟨⟨B4.1,(Ct.c Bf)⟩,?_⟩;refine we hL hR hK ?_;refine zq (cK [1,2,3] (fun L=>?_));refine zc (zp (pT (pw O1 3) ?_));refine pU (iv q3) (xl (ld3 (Cr.c Bf))) ?_;refine pS (sc 73 #[iv q3,iv 2] ((r13pick_c (c:=q3) (n:=2) _ h3 (by omega)).mono ?_));rintro e Eu ⟨rfl,hb⟩;refine mv12 hb hE Bf B8 B2 B5 Ba Bc Be B0 B1 Cp B3 fun hE Bf B8 B2 B5 Ba Bc Be B0 B1 Cp B3=>?_;refine nv3 hb B6 B4 B7 fun B6 B4 B7 Gd=>?_;refine⟨_,rfl,?_⟩
   by_cases E7:((pk q3 2:Nat):Int)=(1:Int)
   ·refine pUT (.bool true) (eE ((pk q3 2:Nat):Int) (1:Int) (E7)) (pw Bg 6) ?_;refine pP (zE Bg 6 (.bool true) (st4 B5.1 B5.2) B5 ?_);intro Ej ho B5 hk;refine he2 ho hE Bf fun hE Bf=>?_;refine hj7 hk B8 B2 Ba Bc Be B0 B1 fun B8 B2 Ba Bc Be B0 B1=>?_;replace Cp:=Cp.turn ho (by omega);refine hj4 hk B3 B6 B4 B7 fun B3 B6 B4 B7=>?_;have Ge:=nq_ ho.size.symm;clear ho hk;refine zn (zc (zp (pU (.agg #[iv 1,sv Bs 0 24 24,nv (pk q2 3000),nv (((pk q2 3000)+1)+(pk q3 5000)),nv (pk q4 40),nv ((pk q4 40)+(pk ((q4:Int).tdiv 40) 51)),.bool true,iv 0,iv 0,iv 0,.slice none 0 0,.slice none 0 0]) (xl (ld33 (B8.1) (B2.1) (B3.1) (B6.1) (B4.1) (B7.1) (B5.1) (Ba.1) (Bc.1) (Be.1) (B0.1) (B1.1))) ?_)));have D1:=(Bm.x Bf);have D2:=(Bh.x Bf);have D3:=(Bp.x Bf);have D4:=(Cr.x Bf);have D5:=(Ct.x Bf);have Bv:=(Do.x Bf);have Bw:=(Du.x Bf);have Bx:=(Dv.x Bf);have Bz:=(Dw.x Bf);have C0:=(Dx.x Bf);have C1:=(Dy.x Bf);have C2:=(Dz.x Bf);have C3:=(E0.x Bf);have C4:=(E3.x Bf);have C5:=(E4.x Bf);have C6:=(Dp.x Bf);have C7:=(Dq.x Bf);refine pP (k33 O5 1 (some ⟨Bs,0,none⟩) 24 24 (pk q2 3000:Nat) ((((pk q2 3000)+1)+(pk q3 5000):Nat):Int) (pk q4 40:Nat) (((pk q4 40)+(pk ((q4:Int).tdiv 40) 51):Nat):Int) true 0 0 0 none 0 0 none 0 0 Bv Bw Bx Bz C0 C1 C2 C3 C4 C5 C6 C7 ?_);intro F5 ho Bv Bw Bx Bz C0 C1 C2 C3 C4 C5 C6 C7 hk;replace hE:=ho.ext hE (Tq Dc (nq_ Dt));have q9:=ho.bx O1 (by omega);clear q9;refine mq5 (ho.bx Bg (by omega)) B8 B2 Ba Bc Be fun B8 B2 Ba Bc Be=>?_;refine mq2 (ho.bx Bg (by omega)) B0 B1 fun B0 B1=>?_;replace Cp:=Cp.turn ho (by omega);refine mq5 (ho.bx Bg (by omega)) B3 B6 B4 B7 B5 fun B3 B6 B4 B7 B5=>?_;have Gf:=nq_ ho.size.symm;clear ho hk;refine zn (ct_ (qw_ret [.agg #[iv 1,sv Bs 0 24 24,nv (pk q2 3000),nv (((pk q2 3000)+1)+(pk q3 5000)),nv (pk q4 40),nv ((pk q4 40)+(pk ((q4:Int).tdiv 40) 51)),.bool true,iv 0,iv 0,iv 0,.slice none 0 0,.slice none 0 0]] rfl ⟨⟨_,by kernel_rfl,res_ld (ld33 (Bv.1) (Bw.1) (Bx.1) (Bz.1) (C0.1) (C1.1) (C2.1) (C3.1) (C4.1) (C5.1) (C6.1) (C7.1))⟩,trivial⟩ ?_));exact⟨⟨1,rowsOf g3,((pk q2 3000:Nat):Int),((((pk q2 3000)+1)+(pk q3 5000):Nat):Int),((pk q4 40:Nat):Int),(((pk q4 40)+(pk ((q4:Int).tdiv 40) 51):Nat):Int),true,0,0,0,[]⟩,Bs,rfl,rfl,see_ok2 (rows_cnt F0 Gp) (by omega) (by omega),ValI.va Cp F0,(Tq (Tq Dc Dm) (nq_ Cq)),hE⟩
   ·refine pUT (.bool false) (eN ((pk q3 2:Nat):Int) (1:Int) (E7)) (pw Bg 6) ?_;refine pP (zE Bg 6 (.bool false) (st4 B5.1 B5.2) B5 ?_);intro Ek ho B5 hk;refine he2 ho hE Bf fun hE Bf=>?_;refine hj7 hk B8 B2 Ba Bc Be B0 B1 fun B8 B2 Ba Bc Be B0 B1=>?_;replace Cp:=Cp.turn ho (by omega);refine hj4 hk B3 B6 B4 B7 fun B3 B6 B4 B7=>?_;have Gg:=nq_ ho.size.symm;clear ho hk;refine zn (zc (zp (pU (.agg #[iv 1,sv Bs 0 24 24,nv (pk q2 3000),nv (((pk q2 3000)+1)+(pk q3 5000)),nv (pk q4 40),nv ((pk q4 40)+(pk ((q4:Int).tdiv 40) 51)),.bool false,iv 0,iv 0,iv 0,.slice none 0 0,.slice none 0 0]) (xl (ld33 (B8.1) (B2.1) (B3.1) (B6.1) (B4.1) (B7.1) (B5.1) (Ba.1) (Bc.1) (Be.1) (B0.1) (B1.1))) ?_)));have D6:=(Bm.x Bf);have D7:=(Bh.x Bf);have D8:=(Bp.x Bf);have D9:=(Cr.x Bf);have Da:=(Ct.x Bf);have C8:=(Do.x Bf);have C9:=(Du.x Bf);have Ca:=(Dv.x Bf);have Cb:=(Dw.x Bf);have Cc:=(Dx.x Bf);have Cd:=(Dy.x Bf);have Ce:=(Dz.x Bf);have Cf:=(E0.x Bf);have Cg:=(E3.x Bf);have Ch:=(E4.x Bf);have Ci:=(Dp.x Bf);have Cj:=(Dq.x Bf);refine pP (k33 O5 1 (some ⟨Bs,0,none⟩) 24 24 (pk q2 3000:Nat) ((((pk q2 3000)+1)+(pk q3 5000):Nat):Int) (pk q4 40:Nat) (((pk q4 40)+(pk ((q4:Int).tdiv 40) 51):Nat):Int) false 0 0 0 none 0 0 none 0 0 C8 C9 Ca Cb Cc Cd Ce Cf Cg Ch Ci Cj ?_);intro F6 ho C8 C9 Ca Cb Cc Cd Ce Cf Cg Ch Ci Cj hk;replace hE:=ho.ext hE (Tq Dc (nq_ Dt));have q9:=ho.bx O1 (by omega);clear q9;have q9:=ho.bx Bg (by omega);clear q9;replace Cp:=Cp.turn ho (by omega);have q9:=ho.bx Bg (by omega);clear q9;have Gh:=nq_ ho.size.symm;clear ho hk;refine zn (ct_ (qw_ret [.agg #[iv 1,sv Bs 0 24 24,nv (pk q2 3000),nv (((pk q2 3000)+1)+(pk q3 5000)),nv (pk q4 40),nv ((pk q4 40)+(pk ((q4:Int).tdiv 40) 51)),.bool false,iv 0,iv 0,iv 0,.slice none 0 0,.slice none 0 0]] rfl ⟨⟨_,by kernel_rfl,res_ld (ld33 (C8.1) (C9.1) (Ca.1) (Cb.1) (Cc.1) (Cd.1) (Ce.1) (Cf.1) (Cg.1) (Ch.1) (Ci.1) (Cj.1))⟩,trivial⟩ ?_));exact⟨⟨1,rowsOf g3,((pk q2 3000:Nat):Int),((((pk q2 3000)+1)+(pk q3 5000):Nat):Int),((pk q4 40:Nat):Int),(((pk q4 40)+(pk ((q4:Int).tdiv 40) 51):Nat):Int),false,0,0,0,[]⟩,Bs,rfl,rfl,see_ok2 (rows_cnt F0 Gp) (by omega) (by omega),ValI.va Cp F0,(Tq (Tq Dc Dm) (nq_ Cq)),hE⟩
end Go.Proofs.YtpfajhcdfgpgmaaGreatDoor

namespace Go.Proofs.YtpfajhcdfgpgmaaGreatDoor
open Go.RowKit
open Globe (inB)
variable {A K d k m n o:Nat} {w w':World} {f kf:GF} {x:GC} {g:Goal} {wi:Int}
def Pr (m:Nat) (w w':World):Prop:=∀b o u,m≤b→w.cell? ⟨b,o,none⟩=some u→w'.cell? ⟨b,o,none⟩=some u
theorem Pr.of_ext (e:Ext w w'):Pr m w w':=fun _ _ _ _ h=>e.cell h
theorem Pr.refl (m:Nat) (w:World):Pr m w w:=fun _ _ _ _ h=>h
theorem Pr.trans {w'':World} (h:Pr m w w') (k:Pr m w' w''):Pr m w w'':=fun b o u hb hu=>k b o u hb (h b o u hb hu)
theorem Pr.va {l:List Int} (h:Pr m w w') (hA:m≤A) (hv:VA w A o l):VA w' A o l:=⟨fun i hi=>h A _ _ hA (hv.1 i hi),hv.2⟩
theorem Pr.gcs (h:Pr m w w') (hK:m≤K) (c:GCs w K o f x):GCs w' K o f x:=
 ⟨h _ _ _ hK c.c0,h _ _ _ hK c.c1,h _ _ _ hK c.c2,h _ _ _ hK c.c3,h _ _ _ hK c.c4,h _ _ _ hK c.c5,h _ _ _ hK c.c6,h _ _ _ hK c.c7,h _ _ _ hK c.c8,h _ _ _ hK c.c9,h _ _ _ hK c.c10,h _ _ _ hK c.c11⟩
def GNew (m:Nat) (w:World) (g:Goal) (x:GC):Prop:=∀w',Pr m w w'→GOp w' g x
theorem GNew.op (h:GNew m w g x):GOp w g x:=h w (Pr.refl m w)
theorem GNew.ext (h:GNew m w g x) (e:Ext w w'):GNew m w' g x:=fun w'' k=>h w'' ((Pr.of_ext e).trans k)
theorem GNew.mono (h:GNew m w g x) (hk:k≤m):GNew k w g x:=fun w' p=>h w' fun b o u hb hu=>p b o u (Tq hk hb) hu
theorem gnew_see (hA:VA w A 0 f.rows) (mA:m≤A) (hc:f.cents= []):GNew m w (.mk f []) ⟨some ⟨A,0,none⟩,24,k,none,0,0,none,0,0⟩:=fun w' p=>by
 refine⟨?_,.inl ?_,?_,Nat.zero_le _,rfl,Nat.zero_le _,.inl rfl⟩
 · show AA w' _ f.rows 24 (Globe.validL f.rows);rw [hA.2];exact (p.va mA hA).aa
 · exact hc
 · show f.cents.length=0;rw [hc];rfl
theorem gnew_one (h1:f.rows= []) (h2:f.cents= []) (hc:GCs w K 0 kf ⟨some ⟨A,0,none⟩,24,k,none,0,0,none,0,0⟩) (mK:m≤K) (hA:VA w A 0 kf.rows) (mA:m≤A) (hkc:kf.cents= []):
  GNew m w (.mk f [.mk kf []]) ⟨none,0,0,none,0,0,some ⟨K,0,none⟩,1,1⟩:=fun w' p=>
 gop_ks h1 h2 rfl (by decide) (ks_one (p.gcs mK hc) (gnew_see hA mA hkc w' p) (ks_nil _ _ _))
namespace Gol
theorem size_see (hd:d≤4) (h:okF f []=true):sizeG d (.mk f [])=some 1:=by
 rw [sizeG,if_pos ⟨hd,h⟩];rfl
theorem size_one (hd:d≤3) (h:okF f [.mk kf []]=true) (hk:okF kf []=true):sizeG d (.mk f [.mk kf []])=some 2:=by
 rw [sizeG,if_pos ⟨by omega,h⟩]
 show (sizeKs (d+1) [.mk kf []]).map (1+ ·)=some 2
 have e:sizeKs (d+1) [.mk kf []]=(sizeG (d+1) (.mk kf [])).bind fun m=>(some 0).map (m+ ·):=rfl
 rw [e,size_see (by omega) hk];rfl
theorem pair_okF {lo:Int} (hk:kf.k=1) (hl:1≤lo∧lo≤8) (hw:1≤wi∧wi≤1000000):okF ⟨2,[],0,0,lo,0,false,0,0,wi,[]⟩ [.mk kf []]=true:=by
 refine okF_t (by show inB 2 1 6=true;decide) ?_ ?_ ?_
 · unfold plB restF;simp
 · unfold limB;simp [Globe.inB_t];omega
 · unfold parB manyB centB wrongK lastK;simp [Goal.f,hk]
theorem ev_okF {sf dy tm:Int} (hk:kf.k=1) (hd:1≤dy∧dy≤60) (ht:1≤tm∧tm≤6) (hw:0≤wi∧wi≤1440 * dy) (hs:0≤sf∧sf≤1000000):okF ⟨3,[],sf,0,0,0,false,dy,tm,wi,[]⟩ [.mk kf []]=true:=by
 refine okF_t (by show inB 3 1 6=true;decide) ?_ ?_ ?_
 · unfold plB restF;simp
 · unfold limB;simp [Globe.inB_t];omega
 · unfold parB manyB centB wrongK lastK;simp [Goal.f,hk]
theorem del_okF (hk:kf.k=1) (hw:0≤wi∧wi≤1000000):okF ⟨4,[],0,0,0,0,false,0,0,wi,[]⟩ [.mk kf []]=true:=by
 refine okF_t (by show inB 4 1 6=true;decide) ?_ ?_ ?_
 · unfold plB restF;simp
 · unfold limB;simp [Globe.inB_t];omega
 · unfold parB manyB centB wrongK lastK;simp [Goal.f,hk]
theorem all_okF {ks:List Goal} (hn:2≤ks.length∧ks.length≤4) (hk:∀q ∈ ks,1≤q.f.k∧q.f.k≤6):okF ⟨5,[],0,0,0,0,false,0,0,0,[]⟩ ks=true:=by
 refine okF_t (by show inB 5 1 6=true;decide) ?_ ?_ ?_
 · unfold plB restF;simp
 · unfold limB;simp
 · unfold parB manyB centB;rw [wrong_no (by unfold lastK;simp) hk];simp [Globe.inB_t];omega
theorem any_okF {ks:List Goal} {cents:List Int} (hn:2≤ks.length∧ks.length≤4) (hk:∀q ∈ ks,1≤q.f.k∧q.f.k≤6) (hc:cents.length=ks.length) (hb:badC0 cents=false):okF ⟨6,[],0,0,0,0,false,0,0,0,cents⟩ ks=true:=by
 refine okF_t (by show inB 6 1 6=true;decide) ?_ ?_ ?_
 · unfold plB restF;simp
 · unfold limB;simp
 · unfold parB manyB centB;rw [wrong_no (by unfold lastK;simp) hk,hb];simp [Globe.inB_t,hc];omega
def KsOK (d:Nat) (ks:List Goal) (n:Nat):Prop:=sizeKs (d+1) ks=some n
theorem KsOK.nil (d:Nat):KsOK d [] 0:=rfl
theorem KsOK.snoc {ks:List Goal} (h:KsOK d ks n) (hg:sizeG (d+1) g=some k):KsOK d (ks ++ [g]) (n+k):=by
 unfold KsOK at *;rw [sizeKs_snoc,h,hg];rfl
theorem KsOK.kinds {ks:List Goal} (h:KsOK d ks n):∀q ∈ ks,1≤q.f.k∧q.f.k≤6:=fun q hq=>by
 cases hs:sizeG (d+1) q with
 | none=>unfold KsOK at h;rw [sizeKs_none hq hs] at h;cases h
 | some m=>exact okF_k (sizeG_ok hs).2.1
theorem KsOK.size {ks:List Goal} (h:KsOK d ks n) (hd:d≤4) (hf:okF f ks=true):sizeG d (.mk f ks)=some (1+n):=by
 rw [sizeG,if_pos ⟨hd,hf⟩,show sizeKs (d+1) ks=some n from h];rfl
end Gol
end Go.Proofs.YtpfajhcdfgpgmaaGreatDoor

namespace Go.Proofs.YtpfajhcdfgpgmaaGreatDoor
open Go.RowKit
variable {w w' we:World} {a:Option Addr} {m n n₀:Nat} {u v:Value} {X X':Nat→Prop} {f:GF}
structure X5 (w:World) (a:Option Addr) (n:Nat) (q:Nat→Nat→Int):Prop where
 max:n≤9223372036854775807
 at_:n=0∨∃b o,a=some ⟨b,o,none⟩∧∀j,j<n→∀i,i<5→w.cell? ⟨b,o+j * 5+i,none⟩=some (.int .i64 (q j i))∧IsI (q j i)
theorem X5.ext {q:Nat→Nat→Int} (h:X5 w a n q) (e:Ext w w'):X5 w' a n q:=⟨h.max,h.at_.imp id fun ⟨b,o,h1,h2⟩=>⟨b,o,h1,fun j hj i hi=>⟨e.cell (h2 j hj i hi).1,(h2 j hj i hi).2⟩⟩⟩
theorem X5.parts {q:Nat→Nat→Int} (h:X5 w a n q):∃b o,(0<n→a=some ⟨b,o,none⟩)∧(0<n→b<w.heap.size)∧∀j,j<n→∀i,i<5→w.cell? ⟨b,o+j * 5+i,none⟩=some (.int .i64 (q j i))∧IsI (q j i):=by
 rcases h.at_ with z | ⟨b,o,h1,h2⟩
 · exact⟨0,0,fun k=>absurd z (by omega),fun k=>absurd z (by omega),fun j hj=>absurd z (by omega)⟩
 · exact⟨b,o,fun _=>h1,fun k=>World.block_lt_of_cell? _ _ (h2 0 k 0 (by decide)).1,h2⟩
theorem OwnL.grown {α:Type} {R:Rep α} {e:TypeId} {size:Nat} {l:List α} {r:Option Nat} (h:OwnL R n₀ e size v w l) (hg:w.grownBy w' r) (ha:(v.ownBlock=none∨v.ownBlock≠r)∧∀w c x F,R.rel w c x F→F= []):OwnL R n₀ e size v w' l:=by
 obtain⟨cs,q1,q2,q3,q4⟩:=h
 exact⟨cs,q1,q2,q3.kept hg ha.1,fun j x c hx hc=>by
  obtain⟨F,k1,k2⟩:=q4 j x c hx hc
  have:=ha.2 _ _ _ _ k1
  subst this
  exact⟨[],R.keep k1 (fun b hb=>by cases hb),fun b hb=>by cases hb⟩⟩
def Apart (v u:Value):Prop:=∀b,v.ownBlock=some b→u.ownBlock≠some b
theorem Apart.symm (h:Apart v u):Apart u v:=fun b hu hv=>h b hv hu
theorem Apart.kept (h:Apart v u):v.ownBlock=none∨v.ownBlock≠u.ownBlock:=by
 cases q:v.ownBlock with
 | none=>exact .inl rfl
 | some b=>exact .inr fun e=>h b q e.symm
theorem Apart.go {v':Value} (h:Apart v u) (hor:∀j,v'.ownBlock=some j→v.ownBlock=some j∨w.heap.size≤j) (hu:∀b,u.ownBlock=some b→b<w.heap.size):Apart v' u:=fun b hb hub=>by
 rcases hor b hb with q | q
 · exact h b q hub
 · have:=hu b hub;omega
def XK (O P:Nat) (v u:Value) (k:Nat):Prop:=(k=O∨k=P)∨v.ownBlock=some k∨u.ownBlock=some k
def KA (m:Nat) (w:World) (X:Nat→Prop) (Gs:List (Goal × GC)):Prop:=∀p ∈ Gs,∀w',(∀b o u,m≤b→¬X b→w.cell? ⟨b,o,none⟩=some u→w'.cell? ⟨b,o,none⟩=some u)→Goal.At w' p.1 p.2
theorem KA.nil (m:Nat) (w:World) (X:Nat→Prop):KA m w X []:=fun p hp=>by cases hp
theorem KA.next {w1:World} {Gs:List (Goal × GC)} (h:KA m w1 X Gs) (hw:Wr X w1 we) (hX:∀k,X' k→X k∨w1.heap.size≤k):KA m we X' Gs:=fun p hp w' k=>h p hp w' fun b o u hb hx hu=>k b o u hb (fun q=>(hX b q).elim hx fun z=>by
 have:=World.block_lt_of_cell? _ _ hu
 have:b<w1.heap.size:=this
 omega) (hw.cell hx hu)
theorem KA.add {k:Nat} {w2:World} {Gs:List (Goal × GC)} {g:Goal} {x:GC} (h:KA m we X' Gs) (hg:GNew k w2 g x) (hk:m≤k) (hw:Wr X w2 we) (hX:∀j,X j→j<k) (hX':∀j,X' j→j<k∨w2.heap.size≤j):KA m we X' (Gs ++ [(g,x)]):=fun p hp w' q=>by
  rcases List.mem_append.1 hp with hp | hp
  · exact h p hp w' q
  · cases List.mem_singleton.1 hp
    exact (hg w' fun b o u hb hu=>q b o u (Tq hk hb) (fun z=>(hX' b z).elim (fun z=>by omega) fun z=>by
      have:b<w2.heap.size:=World.block_lt_of_cell? _ _ hu
      omega) (hw.cell (fun z=>by have:=hX b z;omega) hu)).at
def raw (p:Goal × GC):RGo:=(p.1.f,p.2)
theorem ks_of {m:Nat} {w':World} {K:Nat}:∀ {Gs:List (Goal × GC)} {o:Nat},CellsB goC 12 w' K o (Gs.map raw)→(∀p ∈ Gs,Goal.At w' p.1 p.2)→KsAt w' (Gs.map Prod.fst) K o
 | [],_,_,_=>by show KsAt w' [] K _;unfold KsAt;trivial
 | (g,x) :: Gs,o,h,ha=>by
  show KsAt w' (g :: Gs.map Prod.fst) K o
  unfold KsAt
  have c:∀i u,(goC (g.f,x))[i]? =some u→w'.cell? ⟨K,o+i,none⟩=some u:=fun i u hu=>by have:=h 0 _ rfl i u hu;rwa [Nat.zero_mul,Nat.add_zero] at this
  refine⟨⟨x,⟨c 0 _ rfl,c 1 _ rfl,c 2 _ rfl,c 3 _ rfl,c 4 _ rfl,c 5 _ rfl,c 6 _ rfl,c 7 _ rfl,c 8 _ rfl,c 9 _ rfl,c 10 _ rfl,c 11 _ rfl⟩,ha (g,x) (by simp)⟩,?_⟩
  have h2:=h.drop 1
  rw [Nat.one_mul] at h2
  exact ks_of (m:=m) (by simpa using h2) fun p hp=>ha p (List.mem_cons_of_mem _ hp)
def natC (x:Nat):List Value:=[.int .i64 ((x:Nat):Int)]
theorem natC_len (x:Nat):(natC x).length=1:=rfl
theorem natC_one (x:Nat):∀u ∈ natC x,u.oneCell'=true:=by intro u hu;simp [natC] at hu;subst hu;rfl
theorem gnew_many {n₁ kv cv kc cc:Nat} {av ac:Option Addr} {Gs:List (Goal × GC)} {Cs:List Nat} (hn:m≤n₀) (hn1:m≤n₁) (h1:f.rows= []) (h2:f.cents=Cs.map fun (x:Nat)=>((x:Nat):Int))
    (hk:OwnL (cellR goC) n₀ 33 12 (.slice av kv cv) w (Gs.map raw)) (hkl:Gs.length=kv) (h4:kv≤4) (hc:OwnL (cellR natC) n₁ 3 1 (.slice ac kc cc) w Cs) (hcl:Cs.length=kc) (hc4:kc≤4)
    (_ha:KA m w X Gs) (hX:∀w',Pr m w w'→∀p ∈ Gs,Goal.At w' p.1 p.2):GNew m w (.mk f (Gs.map Prod.fst)) ⟨none,0,0,ac,kc,cc,av,kv,cv⟩:=fun w' p=>by
  refine⟨?_,?_,?_,by show kc≤_;omega,by show (Gs.map Prod.fst).length=kv;rw [List.length_map,hkl],by show kv≤_;omega,?_⟩
  · show AA w' none f.rows 0 (Globe.validL f.rows)
    rw [h1];exact aa_none w'
  · show IntsAt w' ac f.cents
    rcases Nat.eq_zero_or_pos kc with z | z
    · left;rw [h2,List.eq_nil_of_length_eq_zero (hcl.trans z)];rfl
    · obtain⟨C,rfl,hC,_,hcs⟩:=own_cells natC_len hc hcl z
      refine .inr ⟨C,0,rfl,fun i hi=>?_⟩
      rw [h2,List.length_map] at hi
      have hx:=List.getElem?_eq_getElem hi
      have:=p C _ _ (Tq hn1 hC) (hcs i _ hx 0 _ rfl)
      rw [Nat.mul_one,Nat.add_zero] at this
      rw [this,h2]
      unfold Globe.nth
      simp [hi]
  · show f.cents.length=kc
    rw [h2,List.length_map,hcl]
  · rcases Nat.eq_zero_or_pos kv with z | z
    · exact .inl z
    · obtain⟨K,rfl,hK,_,hks⟩:=own_cells goC_len hk (by rw [List.length_map,hkl]) z
      exact .inr ⟨K,0,rfl,ks_of (m:=m) (fun j x hx i u hu=>p K _ _ (Tq hn hK) (hks j x hx i u hu)) (hX w' p)⟩
theorem KA.at {Gs:List (Goal × GC)} (h:KA m w X Gs) (p:Pr m w w'):∀q ∈ Gs,Goal.At w' q.1 q.2:=fun q hq=>h q hq w' fun b o u hb _ hu=>p b o u hb hu
theorem okF_cents (hk:f.k=1) (h:Gol.okF f []=true):f.cents= []:=by
 unfold Gol.okF at h
 simp only [Bool.and_eq_true] at h
 have h2:=h.2
 unfold Gol.parB Gol.centB at h2
 simp only [Bool.and_eq_true] at h2
 have h3:=h2.1.1.2
 rw [if_neg (by omega)] at h3
 have:=eq_of_beq h3
 exact List.eq_nil_of_length_eq_zero (by omega)
end Go.Proofs.YtpfajhcdfgpgmaaGreatDoor

namespace Go.Proofs.YtpfajhcdfgpgmaaGreatDoor
open Bdd (pk)
variable {l:List Nat}
set_option maxRecDepth 1000000
set_option maxHeartbeats 4000000
set_option synthInstance.maxHeartbeats 0
set_option synthInstance.maxSize 9999
open Go.RowKit
theorem isI_zero:IsI 0:=by unfold IsI;omega
theorem isI_wrap (x:Int):IsI (IntKind.i64.wrap x):=by
 unfold IsI
 rw [IntKind.wrap_i64]
 omega
theorem raw9_noF:∀w c x F,(cellR goC).rel w c x F→F= []:=fun _ _ _ _ h=>h.2
theorem nat9_noF:∀w c x F,(cellR natC).rel w c x F→F= []:=fun _ _ _ _ h=>h.2
def badN (l:List Nat):Bool:=l.any fun x=>decide (1000≤x)
theorem badC_snoc {x:Nat} (h:badN l=false) (hx:x<1000):badN (l ++ [x])=false:=by
 unfold badN at *;rw [List.any_append,h];simp;omega
theorem badN_eq (h:badN l=false):Gol.badC0 (l.map fun (x:Nat)=>((x:Nat):Int))=false:=by
 unfold Gol.badC0 badN at *
 rw [List.any_eq_false] at *
 intro y hy
 obtain⟨x,hx,rfl⟩:=List.mem_map.1 hy
 have:=h x hx
 simp [Globe.inB] at this ⊢
 omega
theorem goals_c {w0:World} {a:Option Addr} {n c:Nat} {q:Nat→Nat→Int} (H:X5 w0 a n q):∀(mm ai dp mo:Nat) (w:World) (_e0:Ext w0 w) (_hd:1≤dp∧dp≤4∧5≤dp+mm) (_hm:1≤mo∧mo≤9) (_hat:ai≤100 * dp),Calls Tryz.prog 40 #[.slice a n c,iv ai,iv dp,iv mo] w fun e w'=>∃(g:Goal) (x:GC) (u:Nat),e= .returned (.tuple #[gw g.f x.ar x.nr x.cr x.ac x.nc x.cc x.ak x.nk x.ck,iv u,iv u])∧Gol.sizeG dp g=some u∧u≤mo∧GNew w.heap.size w' g x∧Ext w w':=by
 intro mm
 induction mm with
 | zero=>intro ai dp mo w e0 hd hm hat;omega
 | succ mm ih=>
  intro ai dp mo w e0 hd hm hat;have Ku:=e0.size;have hmx:=H.max;obtain⟨bx,ox,hax,hbx,hxx⟩:=H.parts;refine cC_ 197 [(3,iv mo),(2,iv dp),(1,iv ai),(0,.slice a n c)] Tryz.func40 Tryz.ntmps40 (fun L=>?_);have hE:=er_ w;refine zc (zp (pS (sw 33 z33 ?_)));intro O1 X2 M9 Zw hb hbx;have⟨Dg,Dh,Di,Dj,Dk,Dl,Dm,Dn,Do,Dp,Ct,Cu⟩:=bq12 hbx;refine nv2 hb e0 hE fun e0 hE Gi=>?_;have Fp:=Dg.lt;refine pD (iv 0) (iv 0) ?_;refine zn (zc (zp (pS (sw 115 #[iv 0,iv 0,iv 0,iv 0,iv 0] ?_))));intro O5 X6 Gl Zx hb hbx;have⟨Jw,K5,K6,K7,K8⟩:=bq5 hbx;refine mv12 hb e0 hE Dg Dh Di Dj Dk Dl Dm Dn Do Dp fun e0 hE Dg Dh Di Dj Dk Dl Dm Dn Do Dp=>?_;refine nv2 hb Ct Cu fun Ct Cu Eb=>?_;have Vh:=Jw.lt;refine zn (zc (cw_join (fun ws' wr=>∃y0 y1:Int,∃y2 y3 y4:Int,ws'= [(0,.slice a n c),(1,iv ai),(2,iv dp),(3,iv mo),(8,pw O1 0),(11,pw O5 0)]∧X6.heap.size≤wr.heap.size∧Ext w0 wr∧Ext w wr∧BoxAt wr O1 0 (iv 0)∧BoxAt wr O1 1 (.slice none 0 0)∧BoxAt wr O1 2 (iv 0)∧BoxAt wr O1 3 (iv 0)∧BoxAt wr O1 4 (iv 0)∧BoxAt wr O1 5 (iv 0)∧BoxAt wr O1 6 (.bool false)∧BoxAt wr O1 7 (iv 0)∧BoxAt wr O1 8 (iv 0)∧BoxAt wr O1 9 (iv 0)∧BoxAt wr O1 10 (.slice none 0 0)∧BoxAt wr O1 11 (.slice none 0 0)∧BoxAt wr O5 0 (iv y0)∧BoxAt wr O5 1 (iv y1)∧BoxAt wr O5 2 (iv y2)∧BoxAt wr O5 3 (iv y3)∧BoxAt wr O5 4 (iv y4)∧IsI y0∧IsI y1∧IsI y2∧IsI y3∧IsI y4) (fun hJ=>?_) ?_))
  ·refine cw_seq ?_
   by_cases hlt:ai<n
   ·obtain rfl:=hax (by omega);have hbxl:=hbx (by omega);have Yc:=hxx ai (by omega) 0 (by decide);have Yd:=hxx ai (by omega) 1 (by decide);have Ye:=hxx ai (by omega) 2 (by decide);have Yf:=hxx ai (by omega) 3 (by decide);have Yg:=hxx ai (by omega) 4 (by decide);refine zp (pD (iv ai) (sv bx ox n c) ?_);refine pT (iv n) ?_;refine pU (.bool true) (ed (((ai:Nat):Int)<((n:Nat):Int)) (by omega)) ?_;refine zn (zt ?_);refine zp (pD (sv bx ox n c) (iv ai) ?_);refine pU (pw bx (ox+ai * 5)) (xi (sv bx ox n c) (iv ai) (ix22 (k:=ai) (by omega))) ?_;refine pU (.agg #[iv (q ai 0),iv (q ai 1),iv (q ai 2),iv (q ai 3),iv (q ai 4)]) (xl (ld115 ((e0.cell Yc.1)) ((e0.cell Yd.1)) ((e0.cell Ye.1)) ((e0.cell Yf.1)) ((e0.cell Yg.1)))) ?_;refine pP (sn_setK5 (O:=O5) (j:=0) (v0:=iv (q ai 0)) (v1:=iv (q ai 1)) (v2:=iv (q ai 2)) (v3:=iv (q ai 3)) (v4:=iv (q ai 4)) (xt (pw O5 0) (.agg #[iv (q ai 0),iv (q ai 1),iv (q ai 2),iv (q ai 3),iv (q ai 4)]) (st115 Jw.1 Jw.2 K5.1 K5.2 K6.1 K6.2 K7.1 K7.2 K8.1 K8.2)) Jw K5 K6 K7 K8 ?_);intro Z8 ho Jw K5 K6 K7 K8 hk;refine he2 ho e0 hE fun e0 hE=>?_;refine mq12 (ho.bx O1 (by omega)) Dg Dh Di Dj Dk Dl Dm Dn Do Dp Ct Cu fun Dg Dh Di Dj Dk Dl Dm Dn Do Dp Ct Cu=>?_;have Wx:=nq_ ho.size.symm;clear ho hk;refine pl_nil ?_;exact zl hJ [0,1,2,3,8,11] ⟨q ai 0,q ai 1,q ai 2,q ai 3,q ai 4,rfl,Wx,e0,hE,Dg,Dh,Di,Dj,Dk,Dl,Dm,Dn,Do,Dp,Ct,Cu,Jw,K5,K6,K7,K8,Yc.2,Yd.2,Ye.2,Yf.2,Yg.2⟩
   ·refine zp (pD (iv ai) (.slice a n c) ?_);refine pT (iv n) ?_;refine pU (.bool false) (en (((ai:Nat):Int)<((n:Nat):Int)) (by omega)) ?_;refine zn (zf ?_);refine cs_ ?_;exact zl hJ [0,1,2,3,8,11] ⟨0,0,0,0,0,rfl,(nr_ _),e0,hE,Dg,Dh,Di,Dj,Dk,Dl,Dm,Dn,Do,Dp,Ct,Cu,Jw,K5,K6,K7,K8,isI_zero,isI_zero,isI_zero,isI_zero,isI_zero⟩
  ·clear Dg Dh Di Dj Dk Dl Dm Dn Do Dp Ct Cu Jw K5 K6 K7 K8 e0 hE;rintro L ws w12 ⟨y0,y1,y2,y3,y4,rfl,Dx,e0,hE,Dg,Dh,Di,Dj,Dk,Dl,Dm,Dn,Do,Dp,Ct,Cu,Gg,Cq,Ck,Ec,Gh,U3,Qr,Rn,Uo,Up⟩;refine zq (cw_seq ?_);have hk0:=Bdd.pk_lt (c:=(y0:Int).tdiv 144) (n:=6) (by decide);have hyu:=U3;unfold IsI at hyu;refine zp (pT (pw O5 0) ?_);refine pU (iv y0) (xl (ld3 (Gg.1))) ?_;refine pU (iv ((y0:Int).tdiv 144:Int)) (ex_bin (a:=y0) (b:=144) rfl (by kernel_rfl) (by kernel_rfl) (bin_tdiv (by omega) (by omega) (by omega))) ?_;refine pS (sc 73 #[iv ((y0:Int).tdiv 144:Int),iv 6] ((r13pick_c (c:=(y0:Int).tdiv 144) (n:=6) _ (isI_td U3 (by decide)) (by omega)).mono ?_));rintro e w13 ⟨rfl,hb⟩;refine mv16 hb e0 hE Dg Dh Di Dj Dk Dl Dm Dn Do Dp Ct Cu Gg Cq fun e0 hE Dg Dh Di Dj Dk Dl Dm Dn Do Dp Ct Cu Gg Cq=>?_;refine nv3 hb Ck Ec Gh fun Ck Ec Gh C3=>?_;refine⟨_,rfl,pU (nv (1+(pk ((y0:Int).tdiv 144) 6))) (ew (by omega) (by omega)) ?_⟩;refine pT (nv (1+(pk ((y0:Int).tdiv 144) 6))) ?_;refine zn (zc (cw_join (fun ws' wr=>∃kd:Nat,ws'= [(0,.slice a n c),(1,iv ai),(2,iv dp),(3,iv mo),(8,pw O1 0),(11,pw O5 0),(12,iv kd)]∧w13.heap.size≤wr.heap.size∧Ext w0 wr∧Ext w wr∧BoxAt wr O1 0 (iv 0)∧BoxAt wr O1 1 (.slice none 0 0)∧BoxAt wr O1 2 (iv 0)∧BoxAt wr O1 3 (iv 0)∧BoxAt wr O1 4 (iv 0)∧BoxAt wr O1 5 (iv 0)∧BoxAt wr O1 6 (.bool false)∧BoxAt wr O1 7 (iv 0)∧BoxAt wr O1 8 (iv 0)∧BoxAt wr O1 9 (iv 0)∧BoxAt wr O1 10 (.slice none 0 0)∧BoxAt wr O1 11 (.slice none 0 0)∧BoxAt wr O5 0 (iv y0)∧BoxAt wr O5 1 (iv y1)∧BoxAt wr O5 2 (iv y2)∧BoxAt wr O5 3 (iv y3)∧BoxAt wr O5 4 (iv y4)∧1≤kd∧kd≤6∧(kd=1∨(dp≤3∧2≤mo))∧(kd<5∨3≤mo)) (fun hJ=>?_) ?_))
   ·refine zc (zp (pT (iv dp) ?_))
    by_cases Uj:((dp:Nat):Int)=(4:Int)
    ·refine pUT (.bool true) (eE ((dp:Nat):Int) (4:Int) (Uj)) (.bool true) ?_;refine pK2 ?_;refine pD (.bool true) (.bool true) ?_;refine pK4 ?_;refine pK ?_;refine pD (.bool true) (.bool true) ?_;refine pK4 ?_;refine pK2 ?_;refine pT (.bool true) ?_;refine zn (cK [0,1,2,3,8,11,12,57] (fun L=>?_));refine zt ?_;refine zp (pT (iv 1) ?_);refine pl_nil ?_;exact zl hJ [0,1,2,3,8,11,12] ⟨1,rfl,(nr_ _),e0,hE,Dg,Dh,Di,Dj,Dk,Dl,Dm,Dn,Do,Dp,Ct,Cu,Gg,Cq,Ck,Ec,Gh,by omega,by omega,by omega⟩
    ·refine pUD (.bool false) (eN ((dp:Nat):Int) (4:Int) (Uj)) (.bool false) (iv mo) ?_
     by_cases Uk:((mo:Nat):Int)<(2:Int)
     ·refine pUD (.bool true) (ed (((mo:Nat):Int)<(2:Int)) (Uk)) (.bool true) (.bool true) ?_;refine pK4 ?_;refine pK ?_;refine pD (.bool true) (.bool true) ?_;refine pK4 ?_;refine pK2 ?_;refine pT (.bool true) ?_;refine zn (cK [0,1,2,3,8,11,12,57] (fun L=>?_));refine zt ?_;refine zp (pT (iv 1) ?_);refine pl_nil ?_;exact zl hJ [0,1,2,3,8,11,12] ⟨1,rfl,(nr_ _),e0,hE,Dg,Dh,Di,Dj,Dk,Dl,Dm,Dn,Do,Dp,Ct,Cu,Gg,Cq,Ck,Ec,Gh,by omega,by omega,by omega⟩
     ·refine pX3 (.bool false) (en (((mo:Nat):Int)<(2:Int)) (Uk)) (.bool false) (.bool false) (iv ai) ?_;refine pUD (nv (ai+1)) (ew (by omega) (by omega)) (.slice a n c) (iv n) ?_
      by_cases Ul:((ai+1:Nat):Int)≥((n:Nat):Int)
      ·refine pUD (.bool true) (ed (((ai+1:Nat):Int)≥((n:Nat):Int)) (Ul)) (.bool true) (.bool true) ?_;refine pK4 ?_;refine pK2 ?_;refine pT (.bool true) ?_;refine zn (cK [0,1,2,3,8,11,12,57] (fun L=>?_));refine zt ?_;refine zp (pT (iv 1) ?_);refine pl_nil ?_;exact zl hJ [0,1,2,3,8,11,12] ⟨1,rfl,(nr_ _),e0,hE,Dg,Dh,Di,Dj,Dk,Dl,Dm,Dn,Do,Dp,Ct,Cu,Gg,Cq,Ck,Ec,Gh,by omega,by omega,by omega⟩
      ·refine pX3 (.bool false) (en (((ai+1:Nat):Int)≥((n:Nat):Int)) (Ul)) (.bool false) (.bool false) (nv (1+(pk ((y0:Int).tdiv 144) 6))) ?_
       by_cases Um:(((1+(pk ((y0:Int).tdiv 144) 6):Nat):Int):Int)≥(5:Int)
       ·refine pUD (.bool true) (ed ((((1+(pk ((y0:Int).tdiv 144) 6):Nat):Int):Int)≥(5:Int)) (Um)) (.bool true) (iv mo) ?_
        by_cases Un:((mo:Nat):Int)<(3:Int)
        ·refine pUD (.bool true) (ed (((mo:Nat):Int)<(3:Int)) (Un)) (.bool true) (.bool true) ?_;refine zn (cK [0,1,2,3,8,11,12,57] (fun L=>?_));refine zt ?_;refine zp (pT (iv 1) ?_);refine pl_nil ?_;exact zl hJ [0,1,2,3,8,11,12] ⟨1,rfl,(nr_ _),e0,hE,Dg,Dh,Di,Dj,Dk,Dl,Dm,Dn,Do,Dp,Ct,Cu,Gg,Cq,Ck,Ec,Gh,by omega,by omega,by omega⟩
        ·refine pUD (.bool false) (en (((mo:Nat):Int)<(3:Int)) (Un)) (.bool false) (.bool false) ?_;refine zn (cK [0,1,2,3,8,11,12,57] (fun L=>?_));refine zf ?_;refine cs_ ?_;exact zl hJ [0,1,2,3,8,11,12] ⟨(1+(pk ((y0:Int).tdiv 144) 6)),rfl,(nr_ _),e0,hE,Dg,Dh,Di,Dj,Dk,Dl,Dm,Dn,Do,Dp,Ct,Cu,Gg,Cq,Ck,Ec,Gh,by omega,by omega,by omega⟩
       ·refine pUT (.bool false) (en ((((1+(pk ((y0:Int).tdiv 144) 6):Nat):Int):Int)≥(5:Int)) (Um)) (.bool false) ?_;refine pK2 ?_;refine pD (.bool false) (.bool false) ?_;refine zn (cK [0,1,2,3,8,11,12,57] (fun L=>?_));refine zf ?_;refine cs_ ?_;exact zl hJ [0,1,2,3,8,11,12] ⟨(1+(pk ((y0:Int).tdiv 144) 6)),rfl,(nr_ _),e0,hE,Dg,Dh,Di,Dj,Dk,Dl,Dm,Dn,Do,Dp,Ct,Cu,Gg,Cq,Ck,Ec,Gh,by omega,by omega,by omega⟩
   ·clear Dg Dh Di Dj Dk Dl Dm Dn Do Dp Ct Cu Gg Cq Ck Ec Gh e0 hE;rintro L ws w21 ⟨kd,rfl,C4,e0,hE,Dg,Dh,Di,Dj,Dk,Dl,Dm,Dn,Do,Dp,Ct,Cu,Gg,Cq,Ck,Ec,Gh,hkd,Zp,Zq⟩;refine zq (zc (zp (pS (sw 115 #[iv 0,iv 0,iv 0,iv 0,iv 0] ?_))));intro Ka Xs D7 Yh hb hbx;have⟨Ig,Iq,Ir,It,Iu⟩:=bq5 hbx;refine mv16 hb e0 hE Dg Dh Di Dj Dk Dl Dm Dn Do Dp Ct Cu Gg Cq fun e0 hE Dg Dh Di Dj Dk Dl Dm Dn Do Dp Ct Cu Gg Cq=>?_;refine nv3 hb Ck Ec Gh fun Ck Ec Gh Cw=>?_;have Zy:=Ig.lt;refine zn (zc (cw_join (fun ws' wr=>∃z0 z1:Int,∃z2 z3 z4:Int,ws'= [(0,.slice a n c),(1,iv ai),(2,iv dp),(3,iv mo),(8,pw O1 0),(11,pw O5 0),(12,iv kd),(13,pw Ka 0)]∧Xs.heap.size≤wr.heap.size∧Ext w0 wr∧Ext w wr∧BoxAt wr O1 0 (iv 0)∧BoxAt wr O1 1 (.slice none 0 0)∧BoxAt wr O1 2 (iv 0)∧BoxAt wr O1 3 (iv 0)∧BoxAt wr O1 4 (iv 0)∧BoxAt wr O1 5 (iv 0)∧BoxAt wr O1 6 (.bool false)∧BoxAt wr O1 7 (iv 0)∧BoxAt wr O1 8 (iv 0)∧BoxAt wr O1 9 (iv 0)∧BoxAt wr O1 10 (.slice none 0 0)∧BoxAt wr O1 11 (.slice none 0 0)∧BoxAt wr O5 0 (iv y0)∧BoxAt wr O5 1 (iv y1)∧BoxAt wr O5 2 (iv y2)∧BoxAt wr O5 3 (iv y3)∧BoxAt wr O5 4 (iv y4)∧BoxAt wr Ka 0 (iv z0)∧BoxAt wr Ka 1 (iv z1)∧BoxAt wr Ka 2 (iv z2)∧BoxAt wr Ka 3 (iv z3)∧BoxAt wr Ka 4 (iv z4)∧IsI z0∧IsI z1∧IsI z2∧IsI z3∧IsI z4) (fun hJ=>?_) ?_))
    ·refine cw_seq ?_
     by_cases hlt:ai+1<n
     ·obtain rfl:=hax (by omega);have hbxl:=hbx (by omega);have Yj:=hxx (ai+1) (by omega) 0 (by decide);have Yk:=hxx (ai+1) (by omega) 1 (by decide);have Yl:=hxx (ai+1) (by omega) 2 (by decide);have Ym:=hxx (ai+1) (by omega) 3 (by decide);have Yn:=hxx (ai+1) (by omega) 4 (by decide);refine zp (pT (iv ai) ?_);refine pUD (nv (ai+1)) (ew (by omega) (by omega)) (sv bx ox n c) (iv n) ?_;refine pU (.bool true) (ed (((ai+1:Nat):Int)<((n:Nat):Int)) (by omega)) ?_;refine zn (zt ?_);refine zp (pD (sv bx ox n c) (iv ai) ?_);refine pU (nv (ai+1)) (ew (by omega) (by omega)) ?_;refine pU (pw bx (ox+(ai+1) * 5)) (xi (sv bx ox n c) (nv (ai+1)) (ix22 (k:=ai+1) (by omega))) ?_;refine pU (.agg #[iv (q (ai+1) 0),iv (q (ai+1) 1),iv (q (ai+1) 2),iv (q (ai+1) 3),iv (q (ai+1) 4)]) (xl (ld115 ((e0.cell Yj.1)) ((e0.cell Yk.1)) ((e0.cell Yl.1)) ((e0.cell Ym.1)) ((e0.cell Yn.1)))) ?_;refine pP (sn_setK5 (O:=Ka) (j:=0) (v0:=iv (q (ai+1) 0)) (v1:=iv (q (ai+1) 1)) (v2:=iv (q (ai+1) 2)) (v3:=iv (q (ai+1) 3)) (v4:=iv (q (ai+1) 4)) (xt (pw Ka 0) (.agg #[iv (q (ai+1) 0),iv (q (ai+1) 1),iv (q (ai+1) 2),iv (q (ai+1) 3),iv (q (ai+1) 4)]) (st115 Ig.1 Ig.2 Iq.1 Iq.2 Ir.1 Ir.2 It.1 It.2 Iu.1 Iu.2)) Ig Iq Ir It Iu ?_);intro Zg ho Ig Iq Ir It Iu hk;refine he2 ho e0 hE fun e0 hE=>?_;refine mq12 (ho.bx O1 (by omega)) Dg Dh Di Dj Dk Dl Dm Dn Do Dp Ct Cu fun Dg Dh Di Dj Dk Dl Dm Dn Do Dp Ct Cu=>?_;replace Gg:=ho.box (by omega) Gg;replace Cq:=ho.box (by omega) Cq;replace Ck:=ho.box (by omega) Ck;replace Ec:=ho.box (by omega) Ec;replace Gh:=ho.box (by omega) Gh;have Wy:=nq_ ho.size.symm;clear ho hk;refine pl_nil ?_;exact zl hJ [0,1,2,3,8,11,12,13] ⟨q (ai+1) 0,q (ai+1) 1,q (ai+1) 2,q (ai+1) 3,q (ai+1) 4,rfl,Wy,e0,hE,Dg,Dh,Di,Dj,Dk,Dl,Dm,Dn,Do,Dp,Ct,Cu,Gg,Cq,Ck,Ec,Gh,Ig,Iq,Ir,It,Iu,Yj.2,Yk.2,Yl.2,Ym.2,Yn.2⟩
     ·refine zp (pT (iv ai) ?_);refine pUD (nv (ai+1)) (ew (by omega) (by omega)) (.slice a n c) (iv n) ?_;refine pU (.bool false) (en (((ai+1:Nat):Int)<((n:Nat):Int)) (by omega)) ?_;refine zn (zf ?_);refine cs_ ?_;exact zl hJ [0,1,2,3,8,11,12,13] ⟨0,0,0,0,0,rfl,(nr_ _),e0,hE,Dg,Dh,Di,Dj,Dk,Dl,Dm,Dn,Do,Dp,Ct,Cu,Gg,Cq,Ck,Ec,Gh,Ig,Iq,Ir,It,Iu,isI_zero,isI_zero,isI_zero,isI_zero,isI_zero⟩
    ·clear Dg Dh Di Dj Dk Dl Dm Dn Do Dp Ct Cu Gg Cq Ck Ec Gh Ig Iq Ir It Iu e0 hE;rintro L ws Qq ⟨z0,z1,z2,z3,z4,rfl,Cx,e0,hE,Dg,Dh,Di,Dj,Dk,Dl,Dm,Dn,Do,Dp,Ct,Cu,Gg,Cq,Ck,Ec,Gh,Db,Dc,Dd,De,Df,Qs,Qt,Qu,Qv,Qw⟩;refine zq (zc (zc (zp (pT (iv kd) ?_))));refine zn (cb_ ?_);refine cw_seq ?_;have B0:=er_ Qq;rcases (by omega:kd=1∨kd=2∨kd=3∨kd=4∨(kd=5∨kd=6)) with Qx | Qx | Qx | Qx | Qx
     ·refine zp (pU (.bool false) (eN ((kd:Nat):Int) (2:Int) (by omega)) ?_);refine pT (.bool false) ?_;refine zn (zf ?_);refine zc (zp (pU (.bool false) (eN ((kd:Nat):Int) (3:Int) (by omega)) ?_));refine pT (.bool false) ?_;refine zn (zf ?_);refine zc (zp (pU (.bool false) (eN ((kd:Nat):Int) (4:Int) (by omega)) ?_));refine pT (.bool false) ?_;refine zn (cK [0,1,2,3,8,11,12,13,68,113] (fun L=>?_));refine zf ?_;refine zc (cw_join (fun ws' wr=>ws'= [(0,.slice a n c),(1,iv ai),(2,iv dp),(3,iv mo),(8,pw O1 0),(11,pw O5 0),(12,iv kd),(123,.bool false)]∧Qq.heap.size≤wr.heap.size∧Ext w0 wr∧Ext w wr∧Ext Qq wr) (fun hJ=>?_) ?_)
      ·refine zc (zp (pU (.bool false) (eN ((kd:Nat):Int) (5:Int) (by omega)) ?_));refine pT (.bool false) ?_;refine zn (zf ?_);refine zp (pU (.bool false) (eN ((kd:Nat):Int) (6:Int) (by omega)) ?_);refine pT (.bool false) ?_;refine pl_nil ?_;exact zl hJ [0,1,2,3,8,11,12,123] ⟨rfl,(nr_ _),e0,hE,(er_ _)⟩
      ·clear e0 hE B0;rintro L ws w32 ⟨rfl,V7,e0,hE,B0⟩;refine zq (zf ?_);refine cs_ (qw_block (zq (zc (zp (pU (.agg #[iv y0,iv y1,iv y2,iv y3,iv y4]) (xl (ld115 (Gg.c B0) (Cq.c B0) (Ck.c B0) (Ec.c B0) (Gh.c B0))) ?_)))));refine pS (sc 74 #[.agg #[iv y0,iv y1,iv y2,iv y3,iv y4]] ((See_c _ U3 Qr Rn Uo Up).mono ?_));rintro e w39 ⟨K0,Vn,rfl,Ws,So,P7,Sh,hb⟩;refine nv3 hb e0 hE B0 fun e0 hE B0 Zs=>?_;have Zz:=P7.lt;have Xu:=P7.lt;refine⟨_,rfl,?_⟩;have J2:=(Dg.x B0);have J3:=(Dh.x B0);have J4:=(Di.x B0);have J5:=(Dj.x B0);have J6:=(Dk.x B0);have J8:=(Dl.x B0);have J9:=(Dm.x B0);have Ja:=(Dn.x B0);have Jb:=(Do.x B0);have Jc:=(Dp.x B0);have Jd:=(Ct.x B0);have Je:=(Cu.x B0);have R8:=(Gg.x B0);have Ra:=(Cq.x B0);have Rb:=(Ck.x B0);have Rc:=(Ec.x B0);have Rd:=(Gh.x B0);have Re:=(Db.x B0);have Rf:=(Dc.x B0);have Rg:=(Dd.x B0);have Rh:=(De.x B0);have Ri:=(Df.x B0);refine pP (k33 O1 K0.k (some ⟨Vn,0,none⟩) 24 24 K0.sf K0.st K0.lo K0.hi K0.cl K0.dy K0.tm K0.wi none 0 0 none 0 0 J2 J3 J4 J5 J6 J8 J9 Ja Jb Jc Jd Je ?_);intro Zk ho J2 J3 J4 J5 J6 J8 J9 Ja Jb Jc Jd Je hk;refine he2 ho e0 hE fun e0 hE=>?_;replace P7:=ho.va (by omega) P7;have Zt:=nq_ ho.size.symm;clear ho hk;refine pD (iv 1) (iv 1) ?_;refine zn (ct_ (qw_ret [.agg #[iv K0.k,sv Vn 0 24 24,iv K0.sf,iv K0.st,iv K0.lo,iv K0.hi,.bool K0.cl,iv K0.dy,iv K0.tm,iv K0.wi,.slice none 0 0,.slice none 0 0],iv 1,iv 1] rfl ⟨⟨_,by kernel_rfl,res_ld (ld33 (J2.1) (J3.1) (J4.1) (J5.1) (J6.1) (J8.1) (J9.1) (Ja.1) (Jb.1) (Jc.1) (Jd.1) (Je.1))⟩,(by kernel_rfl),(by kernel_rfl),trivial⟩ ?_));exact⟨.mk K0 [],⟨some ⟨Vn,0,none⟩,24,24,none,0,0,none,0,0⟩,1,rfl,Gol.size_see (by omega) So,by omega,gnew_see P7 (by omega) (okF_cents Ws So),hE⟩
     ·refine zp (pU (.bool true) (eE ((kd:Nat):Int) (2:Int) (by omega)) ?_);refine pT (.bool true) ?_;refine zn (zt ?_);refine cw_seq ?_;have hpa:=Bdd.pk_lt (c:=y1) (n:=8) (by decide);have hpb:=Bdd.pk_lt (c:=y2) (n:=3000) (by decide);have hpc:=Bdd.pk_lt (c:=y1) (n:=4) (by decide);have hpd:=Bdd.pk_lt (c:=y2) (n:=4) (by decide);have hpe:=Bdd.pk_lt (c:=y4) (n:=3000) (by decide);have hpf:=Bdd.pk_lt (c:=y1) (n:=3000) (by decide);refine dT (fun w'=>w'.cell? ⟨O5,1,none⟩=some (iv y1)∧w'.cell? ⟨O5,2,none⟩=some (iv y2)∧w'.cell? ⟨Ka,0,none⟩=some (iv z0)∧w'.cell? ⟨Ka,1,none⟩=some (iv z1)∧w'.cell? ⟨Ka,2,none⟩=some (iv z2)∧w'.cell? ⟨Ka,3,none⟩=some (iv z3)∧w'.cell? ⟨Ka,4,none⟩=some (iv z4)) (⟨Cq.1,Ck.1,Db.1,Dc.1,Dd.1,De.1,Df.1⟩) (fun ops Q X67 hb hL hR hK=>?_);refine nv3 hb e0 hE B0 fun e0 hE B0 Se=>?_;have hS:=A7 (Cq.c B0) (Ck.c B0) (Db.c B0) (Dc.c B0) (Dd.c B0) (De.c B0) (Df.c B0);refine wW 0 (iv kd) 1 (pw O5 1) hR hS ?_;refine wM 2 (iv y1) hR (fun w hS=>ld3 (hS.1)) hS ?_;refine wV 5 (pw O5 2) hR hS ?_;refine wM 6 (iv y2) hR (fun w hS=>ld3 (hS.2.1)) hS ?_;refine wM 9 (.agg #[iv z0,iv z1,iv z2,iv z3,iv z4]) hR (fun w hS=>ld115 (hS.2.2.1) (hS.2.2.2.1) (hS.2.2.2.2.1) (hS.2.2.2.2.2.1) (hS.2.2.2.2.2.2)) hS ?_;refine wC 3 73 #[iv y1,iv 8] hR ((r13pick_c (c:=y1) (n:=8) _ Qr (by omega)).mono ?_);rintro e w69 ⟨rfl,hb⟩;refine nv3 hb e0 hE B0 fun e0 hE B0 Sf=>?_;have hS:=A7 (Cq.c B0) (Ck.c B0) (Db.c B0) (Dc.c B0) (Dd.c B0) (De.c B0) (Df.c B0);refine⟨_,rfl,hS,?_⟩;refine wL 4 (nv (1+(pk y1 8))) hR (fun w _=>ev_wrap (by kernel_rfl) (by omega) (by omega)) hS ?_;refine wC 7 73 #[iv y2,iv 3000] hR ((r13pick_c (c:=y2) (n:=3000) _ Rn (by omega)).mono ?_);rintro e w71 ⟨rfl,hb⟩;refine nv3 hb e0 hE B0 fun e0 hE B0 Sg=>?_;have hS:=A7 (Cq.c B0) (Ck.c B0) (Db.c B0) (Dc.c B0) (Dd.c B0) (De.c B0) (Df.c B0);refine⟨_,rfl,hS,?_⟩;refine wL 8 (nv (1+(pk y2 3000))) hR (fun w _=>ev_wrap (by kernel_rfl) (by omega) (by omega)) hS ?_;refine wC 10 74 #[.agg #[iv z0,iv z1,iv z2,iv z3,iv z4]] hR ((See_c _ Qs Qt Qu Qv Qw).mono ?_);rintro e w79 ⟨R3,Xr,rfl,Ut,Sq,M1,Si,hb⟩;refine nv3 hb e0 hE B0 fun e0 hE B0 Vf=>?_;have B00:=M1.lt;have Xv:=M1.lt;refine⟨_,rfl,⟨(Cq.c B0),(Ck.c B0),(Db.c B0),(Dc.c B0),(Dd.c B0),(De.c B0),(Df.c B0)⟩,?_⟩;refine wS 11 hR (sn_newS (us:=#[iv R3.k,sv Xr 0 24 24,iv R3.sf,iv R3.st,iv R3.lo,iv R3.hi,.bool R3.cl,iv R3.dy,iv R3.tm,iv R3.wi,.slice none 0 0,.slice none 0 0]) (t:=33) (k:=1) (c:=1) (by kernel_rfl) ?_);intro Sy Zl Ss Yi hb hbx;have⟨Nr,Pc,Pd,Pe,Pf,Pg,Ph,Pi,Pj,Pk,Ns,Nt⟩:=bq12 hbx;refine nv4 hb e0 hE B0 M1 fun e0 hE B0 M1 Zu=>?_;have B01:=Nr.lt;refine⟨⟨(Cq.c B0),(Ck.c B0),(Db.c B0),(Dc.c B0),(Dd.c B0),(De.c B0),(Df.c B0)⟩,?_⟩;refine wV 12 (.agg #[iv kd,.slice none 0 0,iv 0,iv 0,nv (1+(pk y1 8)),iv 0,.bool false,iv 0,iv 0,nv (1+(pk y2 3000)),.slice none 0 0,sv Sy 0 1 1]) hR (⟨(Cq.c B0),(Ck.c B0),(Db.c B0),(Dc.c B0),(Dd.c B0),(De.c B0),(Df.c B0)⟩) ?_;have Jf:=(Dg.x B0);have Jg:=(Dh.x B0);have Jh:=(Di.x B0);have Ji:=(Dj.x B0);have Jj:=(Dk.x B0);have Jk:=(Dl.x B0);have Jl:=(Dm.x B0);have Jm:=(Dn.x B0);have Jn:=(Do.x B0);have Jo:=(Dp.x B0);have Jp:=(Ct.x B0);have Jq:=(Cu.x B0);have Pu:=(Gg.x B0);have Kg:=(Cq.x B0);have Kh:=(Ck.x B0);have Pv:=(Ec.x B0);have Px:=(Gh.x B0);have Kj:=(Db.x B0);have Kk:=(Dc.x B0);have Kl:=(Dd.x B0);have Km:=(De.x B0);have Kn:=(Df.x B0);refine wS 13 hR (k33 O1 kd none 0 0 0 0 ((1+(pk y1 8):Nat):Int) 0 false 0 0 ((1+(pk y2 3000):Nat):Int) none 0 0 (some ⟨Sy,0,none⟩) 1 1 Jf Jg Jh Ji Jj Jk Jl Jm Jn Jo Jp Jq ?_ rfl (by kernel_rfl) (by kernel_rfl));intro Xt ho Jf Jg Jh Ji Jj Jk Jl Jm Jn Jo Jp Jq hk;refine he2 ho e0 hE fun e0 hE=>?_;replace Kg:=ho.box (by omega) Kg;replace Kh:=ho.box (by omega) Kh;replace Kj:=ho.box (by omega) Kj;replace Kk:=ho.box (by omega) Kk;replace Kl:=ho.box (by omega) Kl;replace Km:=ho.box (by omega) Km;replace Kn:=ho.box (by omega) Kn;replace M1:=ho.va (by omega) M1;refine mq12 (ho.bx Sy (by omega)) Nr Pc Pd Pe Pf Pg Ph Pi Pj Pk Ns Nt fun Nr Pc Pd Pe Pf Pg Ph Pi Pj Pk Ns Nt=>?_;have Y3:=nq_ ho.size.symm;clear ho hk
      refine⟨⟨Kg.1,Kh.1,Kj.1,Kk.1,Kl.1,Km.1,Kn.1⟩,?_⟩;have hS:=A7 Kg.1 Kh.1 Kj.1 Kk.1 Kl.1 Km.1 Kn.1;refine wW 14 (iv 2) 15 (iv 2) hR hS ?_;refine we hL hR hK ?_;refine zq (cK [8,9,10] (fun L=>?_));refine ct_ (qb (qt (qw_ret [.agg #[iv kd,.slice none 0 0,iv 0,iv 0,nv (1+(pk y1 8)),iv 0,.bool false,iv 0,iv 0,nv (1+(pk y2 3000)),.slice none 0 0,sv Sy 0 1 1],iv 2,iv 2] rfl ⟨⟨_,by kernel_rfl,res_ld (ld33 (Jf.1) (Jg.1) (Jh.1) (Ji.1) (Jj.1) (Jk.1) (Jl.1) (Jm.1) (Jn.1) (Jo.1) (Jp.1) (Jq.1))⟩,(by kernel_rfl),(by kernel_rfl),trivial⟩ ?_)));have Rj:GCs Xt Sy 0 R3 ⟨some ⟨Xr,0,none⟩,24,24,none,0,0,none,0,0⟩:=⟨(Nr).1,(Pc).1,(Pd).1,(Pe).1,(Pf).1,(Pg).1,(Ph).1,(Pi).1,(Pj).1,(Pk).1,(Ns).1,(Nt).1⟩;subst Qx;exact⟨.mk ⟨2,[],0,0,((1+(pk y1 8):Nat):Int),0,false,0,0,((1+(pk y2 3000):Nat):Int),[]⟩ [.mk R3 []],⟨none,0,0,none,0,0,some ⟨Sy,0,none⟩,1,1⟩,2,rfl,Gol.size_one (by omega) (Gol.pair_okF Ut (by omega) (by omega)) Sq,by omega,gnew_one rfl rfl Rj (by omega) M1 (by omega) (okF_cents Ut Sq),hE⟩
     ·refine zp (pU (.bool false) (eN ((kd:Nat):Int) (2:Int) (by omega)) ?_);refine pT (.bool false) ?_;refine zn (zf ?_);refine zc (zp (pU (.bool true) (eE ((kd:Nat):Int) (3:Int) (by omega)) ?_));refine pT (.bool true) ?_;refine zn (zt ?_);refine cw_seq ?_;have hpa:=Bdd.pk_lt (c:=y1) (n:=8) (by decide);have hpb:=Bdd.pk_lt (c:=y2) (n:=3000) (by decide);have hpc:=Bdd.pk_lt (c:=y1) (n:=4) (by decide);have hpd:=Bdd.pk_lt (c:=y2) (n:=4) (by decide);have hpe:=Bdd.pk_lt (c:=y4) (n:=3000) (by decide);have hpf:=Bdd.pk_lt (c:=y1) (n:=3000) (by decide);refine cw_join (fun ws' Y=>∃Ew:GF,∃K9 Fq Fo:Nat,ws'= [(8,pw O1 0),(11,pw O5 0),(14,pw Fo 0)]∧Ext w0 Y∧Ext w Y∧Ext Qq Y∧VA Y K9 0 Ew.rows∧Ew.k=1∧Gol.okF Ew []=true∧BoxAt Y Fq 0 (iv Ew.k)∧BoxAt Y Fq 1 (sv K9 0 24 24)∧BoxAt Y Fq 2 (iv Ew.sf)∧BoxAt Y Fq 3 (iv Ew.st)∧BoxAt Y Fq 4 (iv Ew.lo)∧BoxAt Y Fq 5 (iv Ew.hi)∧BoxAt Y Fq 6 (.bool Ew.cl)∧BoxAt Y Fq 7 (iv Ew.dy)∧BoxAt Y Fq 8 (iv Ew.tm)∧BoxAt Y Fq 9 (iv Ew.wi)∧BoxAt Y Fq 10 (.slice none 0 0)∧BoxAt Y Fq 11 (.slice none 0 0)∧BoxAt Y Fo 0 (iv kd)∧BoxAt Y Fo 1 (.slice none 0 0)∧BoxAt Y Fo 2 (iv 0)∧BoxAt Y Fo 3 (iv 0)∧BoxAt Y Fo 4 (iv 0)∧BoxAt Y Fo 5 (iv 0)∧BoxAt Y Fo 6 (.bool false)∧BoxAt Y Fo 7 (nv (1+(pk y1 4)))∧BoxAt Y Fo 8 (nv (1+(pk y2 4)))∧BoxAt Y Fo 9 (iv 0)∧BoxAt Y Fo 10 (.slice none 0 0)∧BoxAt Y Fo 11 (sv Fq 0 1 1)∧Qq.heap.size≤Y.heap.size∧Qq.heap.size≤K9∧Qq.heap.size≤Fq∧Qq.heap.size≤Fo∧Hid (K9≠Fq)∧Hid (K9≠Fo)∧Hid (Fq≠Fo)) (fun hJ=>?_) ?_
      ·refine dT (fun w'=>w'.cell? ⟨O5,1,none⟩=some (iv y1)∧w'.cell? ⟨O5,2,none⟩=some (iv y2)∧w'.cell? ⟨Ka,0,none⟩=some (iv z0)∧w'.cell? ⟨Ka,1,none⟩=some (iv z1)∧w'.cell? ⟨Ka,2,none⟩=some (iv z2)∧w'.cell? ⟨Ka,3,none⟩=some (iv z3)∧w'.cell? ⟨Ka,4,none⟩=some (iv z4)) (⟨Cq.1,Ck.1,Db.1,Dc.1,Dd.1,De.1,Df.1⟩) (fun ops Q Z9 hb hL hR hK=>?_);refine nv3 hb e0 hE B0 fun e0 hE B0 D5=>?_;have hS:=A7 (Cq.c B0) (Ck.c B0) (Db.c B0) (Dc.c B0) (Dd.c B0) (De.c B0) (Df.c B0);refine wW 0 (iv kd) 1 (pw O5 1) hR hS ?_;refine wM 2 (iv y1) hR (fun w hS=>ld3 (hS.1)) hS ?_;refine wV 5 (pw O5 2) hR hS ?_;refine wM 6 (iv y2) hR (fun w hS=>ld3 (hS.2.1)) hS ?_;refine wM 9 (.agg #[iv z0,iv z1,iv z2,iv z3,iv z4]) hR (fun w hS=>ld115 (hS.2.2.1) (hS.2.2.2.1) (hS.2.2.2.2.1) (hS.2.2.2.2.2.1) (hS.2.2.2.2.2.2)) hS ?_;refine zw 3 13 hR ?_ ?_
       ·refine sc 73 #[iv y1,iv 4] ((r13pick_c (c:=y1) (n:=4) _ Qr (by omega)).mono ?_);rintro e B03 ⟨rfl,hb⟩;refine nv3 hb e0 hE B0 fun e0 hE B0 Ed=>?_;have hS:=A7 (Cq.c B0) (Ck.c B0) (Db.c B0) (Dc.c B0) (Dd.c B0) (De.c B0) (Df.c B0);refine⟨_,rfl,hS,?_⟩;refine wL 4 (nv (1+(pk y1 4))) hR (fun w _=>ev_wrap (by kernel_rfl) (by omega) (by omega)) hS ?_;refine zw 7 13 hR ?_ ?_
        ·refine sc 73 #[iv y2,iv 4] ((r13pick_c (c:=y2) (n:=4) _ Rn (by omega)).mono ?_);rintro e B04 ⟨rfl,hb⟩;refine nv3 hb e0 hE B0 fun e0 hE B0 Fd=>?_;have hS:=A7 (Cq.c B0) (Ck.c B0) (Db.c B0) (Dc.c B0) (Dd.c B0) (De.c B0) (Df.c B0);refine⟨_,rfl,hS,?_⟩;refine wL 8 (nv (1+(pk y2 4))) hR (fun w _=>ev_wrap (by kernel_rfl) (by omega) (by omega)) hS ?_;refine zw 10 13 hR ?_ ?_
         ·refine sc 74 #[.agg #[iv z0,iv z1,iv z2,iv z3,iv z4]] ((See_c _ Qs Qt Qu Qv Qw).mono ?_);rintro e B05 ⟨Ew,K9,rfl,P5,Lw,Cy,Rl,hb⟩;refine nv3 hb e0 hE B0 fun e0 hE B0 Ij=>?_;have Yo:=Cy.lt;have K3:=Cy.lt;refine⟨_,rfl,⟨(Cq.c B0),(Ck.c B0),(Db.c B0),(Dc.c B0),(Dd.c B0),(De.c B0),(Df.c B0)⟩,?_⟩;refine zw 11 13 hR ?_ ?_
          ·refine sn_newS (us:=#[iv Ew.k,sv K9 0 24 24,iv Ew.sf,iv Ew.st,iv Ew.lo,iv Ew.hi,.bool Ew.cl,iv Ew.dy,iv Ew.tm,iv Ew.wi,.slice none 0 0,.slice none 0 0]) (t:=33) (k:=1) (c:=1) (by kernel_rfl) ?_;intro Fq Za Rw Wz hb hbx;have⟨D8,Dy,Dz,E0,E3,E4,E5,E6,E7,E8,D3,D4⟩:=bq12 hbx;refine nv4 hb e0 hE B0 Cy fun e0 hE B0 Cy Lx=>?_;have Su:=D8.lt;refine⟨⟨(Cq.c B0),(Ck.c B0),(Db.c B0),(Dc.c B0),(Dd.c B0),(De.c B0),(Df.c B0)⟩,?_⟩;refine wV 12 (.agg #[iv kd,.slice none 0 0,iv 0,iv 0,iv 0,iv 0,.bool false,nv (1+(pk y1 4)),nv (1+(pk y2 4)),iv 0,.slice none 0 0,sv Fq 0 1 1]) hR (⟨(Cq.c B0),(Ck.c B0),(Db.c B0),(Dc.c B0),(Dd.c B0),(De.c B0),(Df.c B0)⟩) ?_;refine wN 13 33 z33 hR ?_;intro Fo Vs J1 X0 hb hbx;have⟨D6,Dq,D1,Dr,Dt,Du,Dv,D9,Dw,D2,Cz,D0⟩:=bq12 hbx;refine nv16 hb e0 hE B0 Cy D8 Dy Dz E0 E3 E4 E5 E6 E7 E8 D3 D4 fun e0 hE B0 Cy D8 Dy Dz E0 E3 E4 E5 E6 E7 E8 D3 D4 Ux=>?_;have Yp:=D6.lt;refine⟨⟨(Cq.c B0),(Ck.c B0),(Db.c B0),(Dc.c B0),(Dd.c B0),(De.c B0),(Df.c B0)⟩,?_⟩;refine wS 14 hR (k33 Fo kd none 0 0 0 0 0 0 false ((1+(pk y1 4):Nat):Int) ((1+(pk y2 4):Nat):Int) 0 none 0 0 (some ⟨Fq,0,none⟩) 1 1 D6 Dq D1 Dr Dt Du Dv D9 Dw D2 Cz D0 ?_ rfl (by kernel_rfl) (by kernel_rfl));intro Vt ho D6 Dq D1 Dr Dt Du Dv D9 Dw D2 Cz D0 hk;refine he3 ho e0 hE B0 fun e0 hE B0=>?_;replace Cy:=ho.va (by omega) Cy;refine mq12 (ho.bx Fq (by omega)) D8 Dy Dz E0 E3 E4 E5 E6 E7 E8 D3 D4 fun D8 Dy Dz E0 E3 E4 E5 E6 E7 E8 D3 D4=>?_;have Uy:=nq_ ho.size.symm;clear ho hk;refine⟨⟨(Cq.c B0),(Ck.c B0),(Db.c B0),(Dc.c B0),(Dd.c B0),(De.c B0),(Df.c B0)⟩,?_⟩;refine we hL hR hK ?_;exact zl hJ [8,11,14] ⟨Ew,K9,Fq,Fo,rfl,e0,hE,B0,Cy,P5,Lw,D8,Dy,Dz,E0,E3,E4,E5,E6,E7,E8,D3,D4,D6,Dq,D1,Dr,Dt,Du,Dv,D9,Dw,D2,Cz,D0,(by omega),(Tq (Tq D5 (Tq Ed Fd)) Rl),(by omega),(by omega),Lib.hid (by omega),Lib.hid (by omega),Lib.hid (by omega)⟩
          ·refine sw 33 z33 ?_;intro S4 Zb K4 X1 hb hbx;have⟨Ge,Gm,Gn,Gp,Gq,Gr,Gt,Gu,Gv,Gw,G6,G7⟩:=bq12 hbx;refine nv4 hb e0 hE B0 Cy fun e0 hE B0 Cy Rp=>?_;have Sv:=Ge.lt;refine⟨⟨(Cq.c B0),(Ck.c B0),(Db.c B0),(Dc.c B0),(Dd.c B0),(De.c B0),(Df.c B0)⟩,?_⟩;refine wS 11 hR (sn_newS (us:=#[iv Ew.k,sv K9 0 24 24,iv Ew.sf,iv Ew.st,iv Ew.lo,iv Ew.hi,.bool Ew.cl,iv Ew.dy,iv Ew.tm,iv Ew.wi,.slice none 0 0,.slice none 0 0]) (t:=33) (k:=1) (c:=1) (by kernel_rfl) ?_);intro Qy Vu Ny Xa hb hbx;have⟨Kb,Mc,Md,Me,Mf,Mg,Mh,Mi,Mj,Ml,Kv,Kw⟩:=bq12 hbx;refine nv16 hb e0 hE B0 Cy Ge Gm Gn Gp Gq Gr Gt Gu Gv Gw G6 G7 fun e0 hE B0 Cy Ge Gm Gn Gp Gq Gr Gt Gu Gv Gw G6 G7 Uz=>?_;have Yq:=Kb.lt;refine⟨⟨(Cq.c B0),(Ck.c B0),(Db.c B0),(Dc.c B0),(Dd.c B0),(De.c B0),(Df.c B0)⟩,?_⟩;refine wV 12 (.agg #[iv kd,.slice none 0 0,iv 0,iv 0,iv 0,iv 0,.bool false,nv (1+(pk y1 4)),nv (1+(pk y2 4)),iv 0,.slice none 0 0,sv Qy 0 1 1]) hR (⟨(Cq.c B0),(Ck.c B0),(Db.c B0),(Dc.c B0),(Dd.c B0),(De.c B0),(Df.c B0)⟩) ?_;refine wS 14 hR (k33 S4 kd none 0 0 0 0 0 0 false ((1+(pk y1 4):Nat):Int) ((1+(pk y2 4):Nat):Int) 0 none 0 0 (some ⟨Qy,0,none⟩) 1 1 Ge Gm Gn Gp Gq Gr Gt Gu Gv Gw G6 G7 ?_ rfl (by kernel_rfl) (by kernel_rfl));intro Vv ho Ge Gm Gn Gp Gq Gr Gt Gu Gv Gw G6 G7 hk;refine he3 ho e0 hE B0 fun e0 hE B0=>?_;replace Cy:=ho.va (by omega) Cy;refine mq12 (ho.bx Qy (by omega)) Kb Mc Md Me Mf Mg Mh Mi Mj Ml Kv Kw fun Kb Mc Md Me Mf Mg Mh Mi Mj Ml Kv Kw=>?_;have V0:=nq_ ho.size.symm;clear ho hk;refine⟨⟨(Cq.c B0),(Ck.c B0),(Db.c B0),(Dc.c B0),(Dd.c B0),(De.c B0),(Df.c B0)⟩,?_⟩;refine we hL hR hK ?_;exact zl hJ [8,11,14] ⟨Ew,K9,Qy,S4,rfl,e0,hE,B0,Cy,P5,Lw,Kb,Mc,Md,Me,Mf,Mg,Mh,Mi,Mj,Ml,Kv,Kw,Ge,Gm,Gn,Gp,Gq,Gr,Gt,Gu,Gv,Gw,G6,G7,(by omega),(Tq (Tq D5 (Tq Ed Fd)) Rl),(by omega),(by omega),Lib.hid (by omega),Lib.hid (by omega),Lib.hid (by omega)⟩
         ·refine sw 33 z33 ?_;intro S5 Zc Nz Xb hb hbx;have⟨Fr,Fx,Fy,Fz,G0,G1,G2,G3,G4,G5,Fb,Fc⟩:=bq12 hbx;refine nv3 hb e0 hE B0 fun e0 hE B0 Rq=>?_;have Qn:=Fr.lt;refine⟨⟨(Cq.c B0),(Ck.c B0),(Db.c B0),(Dc.c B0),(Dd.c B0),(De.c B0),(Df.c B0)⟩,?_⟩;refine wC 10 74 #[.agg #[iv z0,iv z1,iv z2,iv z3,iv z4]] hR ((See_c _ Qs Qt Qu Qv Qw).mono ?_);rintro e B07 ⟨M4,Uc,rfl,Uq,U5,Jr,Pm,hb⟩;refine mv12 hb e0 hE B0 Fr Fx Fy Fz G0 G1 G2 G3 G4 fun e0 hE B0 Fr Fx Fy Fz G0 G1 G2 G3 G4=>?_;refine nv3 hb G5 Fb Fc fun G5 Fb Fc Qi=>?_;have Yr:=Jr.lt;have Sz:=Jr.lt;refine⟨_,rfl,⟨(Cq.c B0),(Ck.c B0),(Db.c B0),(Dc.c B0),(Dd.c B0),(De.c B0),(Df.c B0)⟩,?_⟩;refine wS 11 hR (sn_newS (us:=#[iv M4.k,sv Uc 0 24 24,iv M4.sf,iv M4.st,iv M4.lo,iv M4.hi,.bool M4.cl,iv M4.dy,iv M4.tm,iv M4.wi,.slice none 0 0,.slice none 0 0]) (t:=33) (k:=1) (c:=1) (by kernel_rfl) ?_);intro Qz Vw P0 Xc hb hbx;have⟨Kc,Mm,Mn,Mo,Mp,Mq,Mr,Ms,Mt,Mu,Kx,Ky⟩:=bq12 hbx;refine nv16 hb e0 hE B0 Fr Fx Fy Fz G0 G1 G2 G3 G4 G5 Fb Fc Jr fun e0 hE B0 Fr Fx Fy Fz G0 G1 G2 G3 G4 G5 Fb Fc Jr V1=>?_;have Ys:=Kc.lt;refine⟨⟨(Cq.c B0),(Ck.c B0),(Db.c B0),(Dc.c B0),(Dd.c B0),(De.c B0),(Df.c B0)⟩,?_⟩;refine wV 12 (.agg #[iv kd,.slice none 0 0,iv 0,iv 0,iv 0,iv 0,.bool false,nv (1+(pk y1 4)),nv (1+(pk y2 4)),iv 0,.slice none 0 0,sv Qz 0 1 1]) hR (⟨(Cq.c B0),(Ck.c B0),(Db.c B0),(Dc.c B0),(Dd.c B0),(De.c B0),(Df.c B0)⟩) ?_;refine wS 14 hR (k33 S5 kd none 0 0 0 0 0 0 false ((1+(pk y1 4):Nat):Int) ((1+(pk y2 4):Nat):Int) 0 none 0 0 (some ⟨Qz,0,none⟩) 1 1 Fr Fx Fy Fz G0 G1 G2 G3 G4 G5 Fb Fc ?_ rfl (by kernel_rfl) (by kernel_rfl));intro Vx ho Fr Fx Fy Fz G0 G1 G2 G3 G4 G5 Fb Fc hk;refine he3 ho e0 hE B0 fun e0 hE B0=>?_;replace Jr:=ho.va (by omega) Jr;refine mq12 (ho.bx Qz (by omega)) Kc Mm Mn Mo Mp Mq Mr Ms Mt Mu Kx Ky fun Kc Mm Mn Mo Mp Mq Mr Ms Mt Mu Kx Ky=>?_;have V2:=nq_ ho.size.symm;clear ho hk;refine⟨⟨(Cq.c B0),(Ck.c B0),(Db.c B0),(Dc.c B0),(Dd.c B0),(De.c B0),(Df.c B0)⟩,?_⟩;refine we hL hR hK ?_;exact zl hJ [8,11,14] ⟨M4,Uc,Qz,S5,rfl,e0,hE,B0,Jr,Uq,U5,Kc,Mm,Mn,Mo,Mp,Mq,Mr,Ms,Mt,Mu,Kx,Ky,Fr,Fx,Fy,Fz,G0,G1,G2,G3,G4,G5,Fb,Fc,(by omega),(Tq (Tq D5 (Tq Ed (Tq Fd Rq))) Pm),(by omega),(by omega),Lib.hid (by omega),Lib.hid (by omega),Lib.hid (by omega)⟩
        ·refine sw 33 z33 ?_;intro S6 Zd P1 Xd hb hbx;have⟨F1,Fe,Ff,Fg,Fh,Fi,Fj,Fk,Fl,Fm,Eg,Eh⟩:=bq12 hbx;refine nv3 hb e0 hE B0 fun e0 hE B0 Rr=>?_;have Qo:=F1.lt;refine⟨⟨(Cq.c B0),(Ck.c B0),(Db.c B0),(Dc.c B0),(Dd.c B0),(De.c B0),(Df.c B0)⟩,?_⟩;refine wC 7 73 #[iv y2,iv 4] hR ((r13pick_c (c:=y2) (n:=4) _ Rn (by omega)).mono ?_);rintro e B08 ⟨rfl,hb⟩;refine mv12 hb e0 hE B0 F1 Fe Ff Fg Fh Fi Fj Fk Fl fun e0 hE B0 F1 Fe Ff Fg Fh Fi Fj Fk Fl=>?_;refine nv3 hb Fm Eg Eh fun Fm Eg Eh Ly=>?_;have hS:=A7 (Cq.c B0) (Ck.c B0) (Db.c B0) (Dc.c B0) (Dd.c B0) (De.c B0) (Df.c B0);refine⟨_,rfl,hS,?_⟩;refine wL 8 (nv (1+(pk y2 4))) hR (fun w _=>ev_wrap (by kernel_rfl) (by omega) (by omega)) hS ?_;refine wC 10 74 #[.agg #[iv z0,iv z1,iv z2,iv z3,iv z4]] hR ((See_c _ Qs Qt Qu Qv Qw).mono ?_);rintro e B09 ⟨M6,Ud,rfl,Ur,U6,Js,Pn,hb⟩;refine mv12 hb e0 hE B0 F1 Fe Ff Fg Fh Fi Fj Fk Fl fun e0 hE B0 F1 Fe Ff Fg Fh Fi Fj Fk Fl=>?_;refine nv3 hb Fm Eg Eh fun Fm Eg Eh Qj=>?_;have Yt:=Js.lt;have U0:=Js.lt;refine⟨_,rfl,⟨(Cq.c B0),(Ck.c B0),(Db.c B0),(Dc.c B0),(Dd.c B0),(De.c B0),(Df.c B0)⟩,?_⟩;refine wS 11 hR (sn_newS (us:=#[iv M6.k,sv Ud 0 24 24,iv M6.sf,iv M6.st,iv M6.lo,iv M6.hi,.bool M6.cl,iv M6.dy,iv M6.tm,iv M6.wi,.slice none 0 0,.slice none 0 0]) (t:=33) (k:=1) (c:=1) (by kernel_rfl) ?_);intro R1 Vy P2 Xe hb hbx;have⟨Kd,Mw,Mx,My,Mz,N0,N3,N4,N5,N6,Kz,L4⟩:=bq12 hbx;refine nv16 hb e0 hE B0 F1 Fe Ff Fg Fh Fi Fj Fk Fl Fm Eg Eh Js fun e0 hE B0 F1 Fe Ff Fg Fh Fi Fj Fk Fl Fm Eg Eh Js V3=>?_;have Yu:=Kd.lt;refine⟨⟨(Cq.c B0),(Ck.c B0),(Db.c B0),(Dc.c B0),(Dd.c B0),(De.c B0),(Df.c B0)⟩,?_⟩;refine wV 12 (.agg #[iv kd,.slice none 0 0,iv 0,iv 0,iv 0,iv 0,.bool false,nv (1+(pk y1 4)),nv (1+(pk y2 4)),iv 0,.slice none 0 0,sv R1 0 1 1]) hR (⟨(Cq.c B0),(Ck.c B0),(Db.c B0),(Dc.c B0),(Dd.c B0),(De.c B0),(Df.c B0)⟩) ?_;refine wS 14 hR (k33 S6 kd none 0 0 0 0 0 0 false ((1+(pk y1 4):Nat):Int) ((1+(pk y2 4):Nat):Int) 0 none 0 0 (some ⟨R1,0,none⟩) 1 1 F1 Fe Ff Fg Fh Fi Fj Fk Fl Fm Eg Eh ?_ rfl (by kernel_rfl) (by kernel_rfl));intro Vz ho F1 Fe Ff Fg Fh Fi Fj Fk Fl Fm Eg Eh hk;refine he3 ho e0 hE B0 fun e0 hE B0=>?_;replace Js:=ho.va (by omega) Js;refine mq12 (ho.bx R1 (by omega)) Kd Mw Mx My Mz N0 N3 N4 N5 N6 Kz L4 fun Kd Mw Mx My Mz N0 N3 N4 N5 N6 Kz L4=>?_;have V4:=nq_ ho.size.symm;clear ho hk;refine⟨⟨(Cq.c B0),(Ck.c B0),(Db.c B0),(Dc.c B0),(Dd.c B0),(De.c B0),(Df.c B0)⟩,?_⟩;refine we hL hR hK ?_;exact zl hJ [8,11,14] ⟨M6,Ud,R1,S6,rfl,e0,hE,B0,Js,Ur,U6,Kd,Mw,Mx,My,Mz,N0,N3,N4,N5,N6,Kz,L4,F1,Fe,Ff,Fg,Fh,Fi,Fj,Fk,Fl,Fm,Eg,Eh,(by omega),(Tq (Tq D5 (Tq Ed (Tq Rr Ly))) Pn),(by omega),(Tq (Tq D5 Ed) (nq_ P1)),Lib.hid (by omega),Lib.hid (by omega),Lib.hid (by omega)⟩
       ·refine sw 33 z33 ?_;intro S7 Ze P3 Xf hb hbx;have⟨Ef,Ej,Ek,El,Em,En,Eo,Ep,Er,Es,E9,Ea⟩:=bq12 hbx;refine nv3 hb e0 hE B0 fun e0 hE B0 Rs=>?_;have Qp:=Ef.lt;refine⟨⟨(Cq.c B0),(Ck.c B0),(Db.c B0),(Dc.c B0),(Dd.c B0),(De.c B0),(Df.c B0)⟩,?_⟩;refine wC 3 73 #[iv y1,iv 4] hR ((r13pick_c (c:=y1) (n:=4) _ Qr (by omega)).mono ?_);rintro e B0a ⟨rfl,hb⟩;refine mv12 hb e0 hE B0 Ef Ej Ek El Em En Eo Ep Er fun e0 hE B0 Ef Ej Ek El Em En Eo Ep Er=>?_;refine nv3 hb Es E9 Ea fun Es E9 Ea Lz=>?_;have hS:=A7 (Cq.c B0) (Ck.c B0) (Db.c B0) (Dc.c B0) (Dd.c B0) (De.c B0) (Df.c B0);refine⟨_,rfl,hS,?_⟩;refine wL 4 (nv (1+(pk y1 4))) hR (fun w _=>ev_wrap (by kernel_rfl) (by omega) (by omega)) hS ?_;refine wC 7 73 #[iv y2,iv 4] hR ((r13pick_c (c:=y2) (n:=4) _ Rn (by omega)).mono ?_);rintro e B0b ⟨rfl,hb⟩;refine mv12 hb e0 hE B0 Ef Ej Ek El Em En Eo Ep Er fun e0 hE B0 Ef Ej Ek El Em En Eo Ep Er=>?_;refine nv3 hb Es E9 Ea fun Es E9 Ea M0=>?_;have hS:=A7 (Cq.c B0) (Ck.c B0) (Db.c B0) (Dc.c B0) (Dd.c B0) (De.c B0) (Df.c B0);refine⟨_,rfl,hS,?_⟩;refine wL 8 (nv (1+(pk y2 4))) hR (fun w _=>ev_wrap (by kernel_rfl) (by omega) (by omega)) hS ?_;refine wC 10 74 #[.agg #[iv z0,iv z1,iv z2,iv z3,iv z4]] hR ((See_c _ Qs Qt Qu Qv Qw).mono ?_);rintro e B0c ⟨M7,Ue,rfl,Us,U7,Jt,Po,hb⟩;refine mv12 hb e0 hE B0 Ef Ej Ek El Em En Eo Ep Er fun e0 hE B0 Ef Ej Ek El Em En Eo Ep Er=>?_;refine nv3 hb Es E9 Ea fun Es E9 Ea Qk=>?_;have Yv:=Jt.lt;have U1:=Jt.lt;refine⟨_,rfl,⟨(Cq.c B0),(Ck.c B0),(Db.c B0),(Dc.c B0),(Dd.c B0),(De.c B0),(Df.c B0)⟩,?_⟩;refine wS 11 hR (sn_newS (us:=#[iv M7.k,sv Ue 0 24 24,iv M7.sf,iv M7.st,iv M7.lo,iv M7.hi,.bool M7.cl,iv M7.dy,iv M7.tm,iv M7.wi,.slice none 0 0,.slice none 0 0]) (t:=33) (k:=1) (c:=1) (by kernel_rfl) ?_);intro R2 W6 P4 Xg hb hbx;have⟨Ke,N7,N8,N9,Na,Nb,Nc,Nd,Nf,Ng,L7,L8⟩:=bq12 hbx;refine nv16 hb e0 hE B0 Ef Ej Ek El Em En Eo Ep Er Es E9 Ea Jt fun e0 hE B0 Ef Ej Ek El Em En Eo Ep Er Es E9 Ea Jt V5=>?_;have Yw:=Ke.lt;refine⟨⟨(Cq.c B0),(Ck.c B0),(Db.c B0),(Dc.c B0),(Dd.c B0),(De.c B0),(Df.c B0)⟩,?_⟩;refine wV 12 (.agg #[iv kd,.slice none 0 0,iv 0,iv 0,iv 0,iv 0,.bool false,nv (1+(pk y1 4)),nv (1+(pk y2 4)),iv 0,.slice none 0 0,sv R2 0 1 1]) hR (⟨(Cq.c B0),(Ck.c B0),(Db.c B0),(Dc.c B0),(Dd.c B0),(De.c B0),(Df.c B0)⟩) ?_;refine wS 14 hR (k33 S7 kd none 0 0 0 0 0 0 false ((1+(pk y1 4):Nat):Int) ((1+(pk y2 4):Nat):Int) 0 none 0 0 (some ⟨R2,0,none⟩) 1 1 Ef Ej Ek El Em En Eo Ep Er Es E9 Ea ?_ rfl (by kernel_rfl) (by kernel_rfl));intro W7 ho Ef Ej Ek El Em En Eo Ep Er Es E9 Ea hk;refine he3 ho e0 hE B0 fun e0 hE B0=>?_;replace Jt:=ho.va (by omega) Jt;refine mq12 (ho.bx R2 (by omega)) Ke N7 N8 N9 Na Nb Nc Nd Nf Ng L7 L8 fun Ke N7 N8 N9 Na Nb Nc Nd Nf Ng L7 L8=>?_;have V6:=nq_ ho.size.symm;clear ho hk;refine⟨⟨(Cq.c B0),(Ck.c B0),(Db.c B0),(Dc.c B0),(Dd.c B0),(De.c B0),(Df.c B0)⟩,?_⟩;refine we hL hR hK ?_;exact zl hJ [8,11,14] ⟨M7,Ue,R2,S7,rfl,e0,hE,B0,Jt,Us,U7,Ke,N7,N8,N9,Na,Nb,Nc,Nd,Nf,Ng,L7,L8,Ef,Ej,Ek,El,Em,En,Eo,Ep,Er,Es,E9,Ea,(by omega),(Tq (Tq D5 (Tq Rs (Tq Lz M0))) Po),(by omega),(Tq D5 (nq_ P3)),Lib.hid (by omega),Lib.hid (by omega),Lib.hid (by omega)⟩
      ·clear e0 hE B0;rintro L ws Zm ⟨Ew,K9,Fq,Fo,rfl,e0,hE,B0,Cy,P5,Lw,D8,Dy,Dz,E0,E3,E4,E5,E6,E7,E8,D3,D4,D6,Dq,D1,Dr,Dt,Du,Dv,D9,Dw,D2,Cz,D0,Y0,Sk,Sm,Lv,Y1,Sn,Eu⟩;have Yx:=Cy.lt;have Yy:=D8.lt;have Yz:=D6.lt;refine zq (cw_seq ?_);have hpg:=Bdd.pk_lt (c:=y3) (n:=1440 * (1+pk y1 4)+1) (by omega);refine zp (pT (pw O5 3) ?_);refine pUT (iv y3) (xl (ld3 (Ec.c B0))) (pw Fo 7) ?_;refine pU (nv (1+(pk y1 4))) (xl (ld3 (D9.1))) ?_;refine pU (nv (1440 * (1+(pk y1 4)))) (ew (by omega) (by omega)) ?_;refine pU (nv ((1440 * (1+(pk y1 4)))+1)) (ew (by omega) (by omega)) ?_;refine pS (sc 73 #[iv y3,nv ((1440 * (1+(pk y1 4)))+1)] ((r13pick_c (c:=y3) (n:=(1440 * (1+(pk y1 4)))+1) _ Uo (by omega)).mono ?_));rintro e Xo ⟨rfl,hb⟩;refine mv16 hb e0 hE B0 Cy D8 Dy Dz E0 E3 E4 E5 E6 E7 E8 D3 D4 fun e0 hE B0 Cy D8 Dy Dz E0 E3 E4 E5 E6 E7 E8 D3 D4=>?_;refine nv12 hb D6 Dq D1 Dr Dt Du Dv D9 Dw D2 Cz D0 fun D6 Dq D1 Dr Dt Du Dv D9 Dw D2 Cz D0 Y4=>?_;refine⟨_,rfl,pT (pw Fo 9) ?_⟩;refine pP (zE Fo 9 (nv (pk y3 ((1440 * (1+(pk y1 4)))+1))) (st3 D2.1 D2.2) D2 ?_);intro W8 ho D2 hk;refine he3 ho e0 hE B0 fun e0 hE B0=>?_;replace Cy:=ho.va (Ne.symm Sn.out) Cy;refine mq12 (ho.bx _ (Ne.symm Eu.out)) D8 Dy Dz E0 E3 E4 E5 E6 E7 E8 D3 D4 fun D8 Dy Dz E0 E3 E4 E5 E6 E7 E8 D3 D4=>?_;refine hj11 hk D6 Dq D1 Dr Dt Du Dv D9 Dw Cz D0 fun D6 Dq D1 Dr Dt Du Dv D9 Dw Cz D0=>?_;have Y5:=nq_ ho.size.symm;clear ho hk;refine zn (zc (zp (pT (pw O5 4) ?_)));refine pU (iv y4) (xl (ld3 (Gh.c B0))) ?_;refine pS (sc 73 #[iv y4,iv 3000] ((r13pick_c (c:=y4) (n:=3000) _ Up (by omega)).mono ?_));rintro e Xp ⟨rfl,hb⟩;refine mv16 hb e0 hE B0 Cy D8 Dy Dz E0 E3 E4 E5 E6 E7 E8 D3 D4 fun e0 hE B0 Cy D8 Dy Dz E0 E3 E4 E5 E6 E7 E8 D3 D4=>?_;refine nv12 hb D6 Dq D1 Dr Dt Du Dv D9 Dw Cz D0 D2 fun D6 Dq D1 Dr Dt Du Dv D9 Dw Cz D0 D2 Y6=>?_;refine⟨_,rfl,pD (pw Fo 2) (pw Fo 2) ?_⟩;refine pP (zE Fo 2 (nv (pk y4 3000)) (st3 D1.1 D1.2) D1 ?_);intro Ug ho D1 hk;refine he3 ho e0 hE B0 fun e0 hE B0=>?_;replace Cy:=ho.va (Ne.symm Sn.out) Cy;refine mq12 (ho.bx _ (Ne.symm Eu.out)) D8 Dy Dz E0 E3 E4 E5 E6 E7 E8 D3 D4 fun D8 Dy Dz E0 E3 E4 E5 E6 E7 E8 D3 D4=>?_;refine hj11 hk D6 Dq Dr Dt Du Dv D9 Dw Cz D0 D2 fun D6 Dq Dr Dt Du Dv D9 Dw Cz D0 D2=>?_;have Y7:=nq_ ho.size.symm;clear ho hk;refine zn (cK [8,14] (fun L=>?_));refine zc (zp (pU (.agg #[iv kd,.slice none 0 0,nv (pk y4 3000),iv 0,iv 0,iv 0,.bool false,nv (1+(pk y1 4)),nv (1+(pk y2 4)),nv (pk y3 ((1440 * (1+(pk y1 4)))+1)),.slice none 0 0,sv Fq 0 1 1]) (xl (ld33 (D6.1) (Dq.1) (D1.1) (Dr.1) (Dt.1) (Du.1) (Dv.1) (D9.1) (Dw.1) (D2.1) (Cz.1) (D0.1))) ?_));have Gx:=(Dg.x B0);have Gy:=(Dh.x B0);have Gz:=(Di.x B0);have H3:=(Dj.x B0);have H4:=(Dk.x B0);have H5:=(Dl.x B0);have H6:=(Dm.x B0);have H7:=(Dn.x B0);have H8:=(Do.x B0);have H9:=(Dp.x B0);have Ha:=(Ct.x B0);have Hb:=(Cu.x B0);have Py:=(Gg.x B0);have Pz:=(Cq.x B0);have Q1:=(Ck.x B0);have Q2:=(Ec.x B0);have Q3:=(Gh.x B0);have Q8:=(Db.x B0);have Q9:=(Dc.x B0);have Qa:=(Dd.x B0)
       have Qb:=(De.x B0);have Qc:=(Df.x B0);refine pP (k33 O1 kd none 0 0 (pk y4 3000:Nat) 0 0 0 false ((1+(pk y1 4):Nat):Int) ((1+(pk y2 4):Nat):Int) ((pk y3 ((1440 * (1+(pk y1 4)))+1):Nat):Int) none 0 0 (some ⟨Fq,0,none⟩) 1 1 Gx Gy Gz H3 H4 H5 H6 H7 H8 H9 Ha Hb ?_);intro Uh ho Gx Gy Gz H3 H4 H5 H6 H7 H8 H9 Ha Hb hk;refine he2 ho e0 hE fun e0 hE=>?_;replace Cy:=ho.va (by omega) Cy;refine mq12 (ho.bx Fq (by omega)) D8 Dy Dz E0 E3 E4 E5 E6 E7 E8 D3 D4 fun D8 Dy Dz E0 E3 E4 E5 E6 E7 E8 D3 D4=>?_;have q9:=ho.bx Fo (by omega);clear q9;have Y8:=nq_ ho.size.symm;clear ho hk;refine pD (iv 2) (iv 2) ?_;refine zn (ct_ (qb (qt (qw_ret [.agg #[iv kd,.slice none 0 0,nv (pk y4 3000),iv 0,iv 0,iv 0,.bool false,nv (1+(pk y1 4)),nv (1+(pk y2 4)),nv (pk y3 ((1440 * (1+(pk y1 4)))+1)),.slice none 0 0,sv Fq 0 1 1],iv 2,iv 2] rfl ⟨⟨_,by kernel_rfl,res_ld (ld33 (Gx.1) (Gy.1) (Gz.1) (H3.1) (H4.1) (H5.1) (H6.1) (H7.1) (H8.1) (H9.1) (Ha.1) (Hb.1))⟩,(by kernel_rfl),(by kernel_rfl),trivial⟩ ?_))));have Rj:GCs Uh Fq 0 Ew ⟨some ⟨K9,0,none⟩,24,24,none,0,0,none,0,0⟩:=⟨(D8).1,(Dy).1,(Dz).1,(E0).1,(E3).1,(E4).1,(E5).1,(E6).1,(E7).1,(E8).1,(D3).1,(D4).1⟩;subst Qx;exact⟨.mk ⟨3,[],((pk y4 3000:Nat):Int),0,0,0,false,((1+(pk y1 4):Nat):Int),((1+(pk y2 4):Nat):Int),((pk y3 ((1440 * (1+(pk y1 4)))+1):Nat):Int),[]⟩ [.mk Ew []],⟨none,0,0,none,0,0,some ⟨Fq,0,none⟩,1,1⟩,2,rfl,Gol.size_one (by omega) (Gol.ev_okF P5 (by omega) (by omega) (by omega) (by omega)) Lw,by omega,gnew_one rfl rfl Rj (by omega) Cy (by omega) (okF_cents P5 Lw),hE⟩
     ·refine zp (pU (.bool false) (eN ((kd:Nat):Int) (2:Int) (by omega)) ?_);refine pT (.bool false) ?_;refine zn (zf ?_);refine zc (zp (pU (.bool false) (eN ((kd:Nat):Int) (3:Int) (by omega)) ?_));refine pT (.bool false) ?_;refine zn (zf ?_);refine zc (zp (pU (.bool true) (eE ((kd:Nat):Int) (4:Int) (by omega)) ?_));refine pT (.bool true) ?_;refine zn (cK [0,1,2,3,8,11,12,13,68,113] (fun L=>?_));refine zt ?_;refine cw_seq ?_;have hpa:=Bdd.pk_lt (c:=y1) (n:=8) (by decide);have hpb:=Bdd.pk_lt (c:=y2) (n:=3000) (by decide);have hpc:=Bdd.pk_lt (c:=y1) (n:=4) (by decide);have hpd:=Bdd.pk_lt (c:=y2) (n:=4) (by decide);have hpe:=Bdd.pk_lt (c:=y4) (n:=3000) (by decide);have hpf:=Bdd.pk_lt (c:=y1) (n:=3000) (by decide);refine dT (fun w'=>w'.cell? ⟨O5,1,none⟩=some (iv y1)∧w'.cell? ⟨Ka,0,none⟩=some (iv z0)∧w'.cell? ⟨Ka,1,none⟩=some (iv z1)∧w'.cell? ⟨Ka,2,none⟩=some (iv z2)∧w'.cell? ⟨Ka,3,none⟩=some (iv z3)∧w'.cell? ⟨Ka,4,none⟩=some (iv z4)) (⟨Cq.1,Db.1,Dc.1,Dd.1,De.1,Df.1⟩) (fun ops Q Zf hb hL hR hK=>?_);refine nv3 hb e0 hE B0 fun e0 hE B0 Ql=>?_;have hS:=A6 (Cq.c B0) (Db.c B0) (Dc.c B0) (Dd.c B0) (De.c B0) (Df.c B0);refine wW 0 (iv kd) 1 (pw O5 1) hR hS ?_;refine wM 2 (iv y1) hR (fun w hS=>ld3 (hS.1)) hS ?_;refine wM 4 (.agg #[iv z0,iv z1,iv z2,iv z3,iv z4]) hR (fun w hS=>ld115 (hS.2.1) (hS.2.2.1) (hS.2.2.2.1) (hS.2.2.2.2.1) (hS.2.2.2.2.2)) hS ?_;refine wC 3 73 #[iv y1,iv 3000] hR ((r13pick_c (c:=y1) (n:=3000) _ Qr (by omega)).mono ?_);rintro e B0d ⟨rfl,hb⟩;refine nv3 hb e0 hE B0 fun e0 hE B0 Qm=>?_;refine⟨_,rfl,⟨(Cq.c B0),(Db.c B0),(Dc.c B0),(Dd.c B0),(De.c B0),(Df.c B0)⟩,?_⟩;refine wC 5 74 #[.agg #[iv z0,iv z1,iv z2,iv z3,iv z4]] hR ((See_c _ Qs Qt Qu Qv Qw).mono ?_);rintro e B0e ⟨Lt,Uf,rfl,Sj,Ro,Ju,Rm,hb⟩;refine nv3 hb e0 hE B0 fun e0 hE B0 Sr=>?_;have Z0:=Ju.lt;have Wl:=Ju.lt;refine⟨_,rfl,⟨(Cq.c B0),(Db.c B0),(Dc.c B0),(Dd.c B0),(De.c B0),(Df.c B0)⟩,?_⟩;refine wS 6 hR (sn_newS (us:=#[iv Lt.k,sv Uf 0 24 24,iv Lt.sf,iv Lt.st,iv Lt.lo,iv Lt.hi,.bool Lt.cl,iv Lt.dy,iv Lt.tm,iv Lt.wi,.slice none 0 0,.slice none 0 0]) (t:=33) (k:=1) (c:=1) (by kernel_rfl) ?_);intro P9 Wa Rx Xh hb hbx;have⟨Kf,Nh,Ni,Nj,Nk,Nl,Nm,Nn,Np,Nq,La,Lb⟩:=bq12 hbx;refine nv4 hb e0 hE B0 Ju fun e0 hE B0 Ju Y9=>?_;have Z1:=Kf.lt;refine⟨⟨(Cq.c B0),(Db.c B0),(Dc.c B0),(Dd.c B0),(De.c B0),(Df.c B0)⟩,?_⟩;refine wV 7 (.agg #[iv kd,.slice none 0 0,iv 0,iv 0,iv 0,iv 0,.bool false,iv 0,iv 0,nv (pk y1 3000),.slice none 0 0,sv P9 0 1 1]) hR (⟨(Cq.c B0),(Db.c B0),(Dc.c B0),(Dd.c B0),(De.c B0),(Df.c B0)⟩) ?_;have Hc:=(Dg.x B0);have He:=(Dh.x B0);have Hg:=(Di.x B0);have Hh:=(Dj.x B0);have Hj:=(Dk.x B0);have Hk:=(Dl.x B0);have Hm:=(Dm.x B0);have Ho:=(Dn.x B0);have Hs:=(Do.x B0);have Ht:=(Dp.x B0);have Hu:=(Ct.x B0);have Hw:=(Cu.x B0);have Q4:=(Gg.x B0);have Ki:=(Cq.x B0);have Q5:=(Ck.x B0);have Q6:=(Ec.x B0);have Q7:=(Gh.x B0);have Ko:=(Db.x B0);have Kq:=(Dc.x B0);have Kr:=(Dd.x B0);have Ks:=(De.x B0);have Kt:=(Df.x B0);refine wS 8 hR (k33 O1 kd none 0 0 0 0 0 0 false 0 0 (pk y1 3000:Nat) none 0 0 (some ⟨P9,0,none⟩) 1 1 Hc He Hg Hh Hj Hk Hm Ho Hs Ht Hu Hw ?_ rfl (by kernel_rfl) (by kernel_rfl));intro Ui ho Hc He Hg Hh Hj Hk Hm Ho Hs Ht Hu Hw hk;refine he2 ho e0 hE fun e0 hE=>?_;replace Ki:=ho.box (by omega) Ki;replace Ko:=ho.box (by omega) Ko;replace Kq:=ho.box (by omega) Kq;replace Kr:=ho.box (by omega) Kr;replace Ks:=ho.box (by omega) Ks;replace Kt:=ho.box (by omega) Kt;replace Ju:=ho.va (by omega) Ju;refine mq12 (ho.bx P9 (by omega)) Kf Nh Ni Nj Nk Nl Nm Nn Np Nq La Lb fun Kf Nh Ni Nj Nk Nl Nm Nn Np Nq La Lb=>?_;have Ya:=nq_ ho.size.symm;clear ho hk;refine⟨⟨Ki.1,Ko.1,Kq.1,Kr.1,Ks.1,Kt.1⟩,?_⟩;have hS:=A6 Ki.1 Ko.1 Kq.1 Kr.1 Ks.1 Kt.1;refine wW 9 (iv 2) 10 (iv 2) hR hS ?_;refine we hL hR hK ?_;refine zq (cK [8,9,10] (fun L=>?_))
      refine ct_ (qb (qt (qw_ret [.agg #[iv kd,.slice none 0 0,iv 0,iv 0,iv 0,iv 0,.bool false,iv 0,iv 0,nv (pk y1 3000),.slice none 0 0,sv P9 0 1 1],iv 2,iv 2] rfl ⟨⟨_,by kernel_rfl,res_ld (ld33 (Hc.1) (He.1) (Hg.1) (Hh.1) (Hj.1) (Hk.1) (Hm.1) (Ho.1) (Hs.1) (Ht.1) (Hu.1) (Hw.1))⟩,(by kernel_rfl),(by kernel_rfl),trivial⟩ ?_)));have Rj:GCs Ui P9 0 Lt ⟨some ⟨Uf,0,none⟩,24,24,none,0,0,none,0,0⟩:=⟨(Kf).1,(Nh).1,(Ni).1,(Nj).1,(Nk).1,(Nl).1,(Nm).1,(Nn).1,(Np).1,(Nq).1,(La).1,(Lb).1⟩;subst Qx;exact⟨.mk ⟨4,[],0,0,0,0,false,0,0,((pk y1 3000:Nat):Int),[]⟩ [.mk Lt []],⟨none,0,0,none,0,0,some ⟨P9,0,none⟩,1,1⟩,2,rfl,Gol.size_one (by omega) (Gol.del_okF Sj (by omega)) Ro,by omega,gnew_one rfl rfl Rj (by omega) Ju (by omega) (okF_cents Sj Ro),hE⟩
     ·refine zp (pU (.bool false) (eN ((kd:Nat):Int) (2:Int) (by omega)) ?_);refine pT (.bool false) ?_;refine zn (zf ?_);refine zc (zp (pU (.bool false) (eN ((kd:Nat):Int) (3:Int) (by omega)) ?_));refine pT (.bool false) ?_;refine zn (zf ?_);refine zc (zp (pU (.bool false) (eN ((kd:Nat):Int) (4:Int) (by omega)) ?_));refine pT (.bool false) ?_;refine zn (cK [0,1,2,3,8,11,12,13,68,113] (fun L=>?_));refine zf ?_;refine zc (cw_join (fun ws' wr=>ws'= [(0,.slice a n c),(1,iv ai),(2,iv dp),(3,iv mo),(8,pw O1 0),(11,pw O5 0),(12,iv kd),(123,.bool true)]∧Qq.heap.size≤wr.heap.size∧Ext w0 wr∧Ext w wr∧Ext Qq wr) (fun hJ=>?_) ?_)
      ·refine cw_seq ?_;rcases Qx with Qx | Qx
       ·refine zp (pU (.bool true) (eE ((kd:Nat):Int) (5:Int) (by omega)) ?_);refine pT (.bool true) ?_;refine zn (zt ?_);refine cs_ ?_;exact zl hJ [0,1,2,3,8,11,12,123] ⟨rfl,(nr_ _),e0,hE,(er_ _)⟩
       ·refine zp (pU (.bool false) (eN ((kd:Nat):Int) (5:Int) (by omega)) ?_);refine pT (.bool false) ?_;refine zn (zf ?_);refine zp (pU (.bool true) (eE ((kd:Nat):Int) (6:Int) (by omega)) ?_);refine pT (.bool true) ?_;refine pl_nil ?_;exact zl hJ [0,1,2,3,8,11,12,123] ⟨rfl,(nr_ _),e0,hE,(er_ _)⟩
      ·clear e0 hE B0;rintro L ws B0f ⟨rfl,Cv,e0,hE,B0⟩;refine zq (zt ?_);refine zc (zp (pD (iv kd) (.agg #[iv kd,.slice none 0 0,iv 0,iv 0,iv 0,iv 0,.bool false,iv 0,iv 0,iv 0,.slice none 0 0,.slice none 0 0]) ?_));refine pS (sw 33 z33 ?_);intro Cr Wb Ei Xi hb hbx;have⟨Et,F2,F3,F4,F5,F6,F7,F8,F9,Fa,Fs,Ft⟩:=bq12 hbx;refine nv3 hb e0 hE B0 fun e0 hE B0 Ey=>?_;have C0:=Et.lt;refine pP (k33 Cr kd none 0 0 0 0 0 0 false 0 0 0 none 0 0 none 0 0 Et F2 F3 F4 F5 F6 F7 F8 F9 Fa Fs Ft ?_);intro Wc ho Et F2 F3 F4 F5 F6 F7 F8 F9 Fa Fs Ft hk;refine he3 ho e0 hE B0 fun e0 hE B0=>?_;have B3:=nq_ ho.size.symm;clear ho hk;refine zn (zc (zp (pT (iv 1) ?_)));refine zn (zc (zp (pT (iv 1) ?_)));refine zn (cw_seq ?_);have hp3:=Bdd.pk_lt (c:=y1) (n:=3) (by decide);refine zp (pT (pw O5 1) ?_);refine pU (iv y1) (xl (ld3 (Cq.c B0))) ?_;refine pS (sc 73 #[iv y1,iv 3] ((r13pick_c (c:=y1) (n:=3) _ Qr (by omega)).mono ?_));rintro e Ry ⟨rfl,hb⟩;refine mv12 hb e0 hE B0 Et F2 F3 F4 F5 F6 F7 F8 F9 fun e0 hE B0 Et F2 F3 F4 F5 F6 F7 F8 F9=>?_;refine nv3 hb Fa Fs Ft fun Fa Fs Ft B4=>?_;refine⟨_,rfl,pU (nv (2+(pk y1 3))) (ew (by omega) (by omega)) ?_⟩;refine pT (nv (2+(pk y1 3))) ?_;refine zn (cK [0,1,2,3,8,11,12,15,16,17,18] (fun L=>?_));refine zc (zc (zp (pT (iv 0) ?_)));refine zn (cb_ ?_);refine cw_loop [0,1,2,3,8,11,12,15,16,17,18,19] (fun ws' wr m=>∃i u9:Nat,∃av:Option Addr,∃cv:Nat,∃ac:Option Addr,∃kc cc:Nat,∃Gs:List (Goal × GC),∃Cs:List Nat,ws'= [(0,.slice a n c),(1,iv ai),(2,iv dp),(3,iv mo),(8,pw O1 0),(11,pw O5 0),(12,iv kd),(15,pw Cr 0),(16,nv (1+u9)),(17,nv (1+u9)),(18,nv (2+(pk y1 3))),(19,iv i)]∧m=4 - i∧Ry.heap.size≤wr.heap.size∧Ext w0 wr∧Ext w wr∧Ext Qq wr∧BoxAt wr Cr 0 (iv kd)∧BoxAt wr Cr 1 (.slice none 0 0)∧BoxAt wr Cr 2 (iv 0)∧BoxAt wr Cr 3 (iv 0)∧BoxAt wr Cr 4 (iv 0)∧BoxAt wr Cr 5 (iv 0)∧BoxAt wr Cr 6 (.bool false)∧BoxAt wr Cr 7 (iv 0)∧BoxAt wr Cr 8 (iv 0)∧BoxAt wr Cr 9 (iv 0)∧OwnL ((cellR goC)) Ry.heap.size 33 12 (.slice av i cv) wr (Gs.map raw)∧OwnL ((cellR natC)) Ry.heap.size 3 1 (.slice ac kc cc) wr Cs∧BoxAt wr Cr 11 (.slice av i cv)∧BoxAt wr Cr 10 (.slice ac kc cc)∧i≤2+pk y1 3∧Gs.length=i∧Cs.length=kc∧Gol.KsOK dp (Gs.map Prod.fst) u9∧(i=0→u9=0)∧(i=1→u9+2≤mo)∧u9+1≤mo∧Apart (.slice av i cv) (.slice ac kc cc)∧KA w.heap.size wr (XK Cr O1 (.slice av i cv) (.slice ac kc cc)) Gs∧(kd=6→kc=i∧badN Cs=false)∧(kd=5→Cs= [])) (ws0:=[(0,.slice a n c),(1,iv ai),(2,iv dp),(3,iv mo),(8,pw O1 0),(11,pw O5 0),(12,iv kd),(15,pw Cr 0),(16,iv 1),(17,iv 1),(18,nv (2+(pk y1 3))),(19,iv 0)]) (by kernel_rfl) _ ⟨0,0,none,0,none,0,0,[],[],rfl,rfl,nr_ _,e0,hE,B0,Et,F2,F3,F4,F5,F6,F7,F8,F9,Fa,OwnL.nil _ _ _ _ _,OwnL.nil _ _ _ _ _,Ft,Fs,Nat.zero_le _,rfl,rfl,Gol.KsOK.nil _,(fun _=>rfl),(fun h=>absurd h (by decide)),by omega,(fun b h=>by cases h),KA.nil _ _ _,(fun _=>⟨rfl,rfl⟩),(fun _=>rfl)⟩ ?_;clear Et F2 F3 F4 F5 F6 F7 F8 F9 Fa Fs Ft e0 hE B0;rintro B02 L ws P8 ⟨i,u9,av,cv,ac,kc,cc,Gs,Cs,rfl,rfl,Ee,e0,hE,B0,Et,F2,F3,F4,F5,F6,F7,F8,F9,Fa,ownK,ownC,S8,U2,hi,hgl,hcl,hks,hu0,hu1,hu2,hap,hka,hcs,hcz⟩;have hbK:=ownK.lt;have hbC:=ownC.lt;have G8:Wr (XK Cr O1 (.slice av i cv) (.slice ac kc cc)) P8 P8:=Wr.refl _ _;refine cw_seq ?_;refine cw_seq ?_;have Cn:=er_ P8;refine cw_join (fun ws' wr=>∃tb:Bool,ws'= [(0,.slice a n c),(1,iv ai),(2,iv dp),(3,iv mo),(8,pw O1 0),(11,pw O5 0),(12,iv kd),(15,pw Cr 0),(16,nv (1+u9)),(17,nv (1+u9)),(18,nv (2+(pk y1 3))),(19,iv i),(143,.bool tb)]∧P8.heap.size≤wr.heap.size∧Ext w0 wr∧Ext w wr∧Ext Qq wr∧Ext P8 wr∧Wr (XK Cr O1 (.slice av i cv) (.slice ac kc cc)) P8 wr∧(tb=true→i<2+pk y1 3∧(i<2∨1+u9<mo))∧(tb=false→¬(i<2+pk y1 3∧(i<2∨1+u9<mo)))) (fun hJ=>?_) ?_
       ·by_cases ho0:i<2+pk y1 3
        ·by_cases ho1:i<2
         ·refine zp (pD (iv i) (nv (2+(pk y1 3))) ?_);refine pUD (.bool true) (ed (((i:Nat):Int)<(((2+(pk y1 3):Nat):Int):Int)) (by omega)) (.bool true) (iv i) ?_;refine pUT (.bool true) (ed (((i:Nat):Int)<(2:Int)) (by omega)) (.bool true) ?_;refine pK3 ?_;refine pD (.bool true) (.bool true) ?_;refine pl_nil ?_;exact zl hJ [0,1,2,3,8,11,12,15,16,17,18,19,143] ⟨true,rfl,(nr_ _),e0,hE,B0,(er_ _),G8,(fun _=>by omega),(fun h=>by cases h)⟩
         ·by_cases ho2:1+u9<mo
          ·refine zp (pD (iv i) (nv (2+(pk y1 3))) ?_);refine pUD (.bool true) (ed (((i:Nat):Int)<(((2+(pk y1 3):Nat):Int):Int)) (by omega)) (.bool true) (iv i) ?_;refine pX3 (.bool false) (en (((i:Nat):Int)<(2:Int)) (by omega)) (.bool false) (nv (1+u9)) (iv mo) ?_;refine pUD (.bool true) (ed (((1+u9:Nat):Int)<((mo:Nat):Int)) (by omega)) (.bool true) (.bool true) ?_;refine pl_nil ?_;exact zl hJ [0,1,2,3,8,11,12,15,16,17,18,19,143] ⟨true,rfl,(nr_ _),e0,hE,B0,(er_ _),G8,(fun _=>by omega),(fun h=>by cases h)⟩
          ·refine zp (pD (iv i) (nv (2+(pk y1 3))) ?_);refine pUD (.bool true) (ed (((i:Nat):Int)<(((2+(pk y1 3):Nat):Int):Int)) (by omega)) (.bool true) (iv i) ?_;refine pX3 (.bool false) (en (((i:Nat):Int)<(2:Int)) (by omega)) (.bool false) (nv (1+u9)) (iv mo) ?_;refine pUD (.bool false) (en (((1+u9:Nat):Int)<((mo:Nat):Int)) (by omega)) (.bool false) (.bool false) ?_;refine pl_nil ?_;exact zl hJ [0,1,2,3,8,11,12,15,16,17,18,19,143] ⟨false,rfl,(nr_ _),e0,hE,B0,(er_ _),G8,(fun h=>by cases h),(fun _=>by omega)⟩
        ·refine zp (pD (iv i) (nv (2+(pk y1 3))) ?_);refine pUT (.bool false) (en (((i:Nat):Int)<(((2+(pk y1 3):Nat):Int):Int)) (by omega)) (.bool false) ?_;refine pK4 ?_;refine pK3 ?_;refine pT (.bool false) ?_;refine pl_nil ?_;exact zl hJ [0,1,2,3,8,11,12,15,16,17,18,19,143] ⟨false,rfl,(nr_ _),e0,hE,B0,(er_ _),G8,(fun h=>by cases h),(fun _=>by omega)⟩
       ·clear G8 e0 hE B0 Cn;rintro L ws Ub ⟨tb,rfl,B1,e0,hE,B0,Cn,G8,htb,htf⟩;refine qw_then ?_
        cases tb
        ·have hlt:=htf rfl;refine zf ?_;refine cx_ (qx (qx (qo (zq (zc (zp (pU (.agg #[iv kd,.slice none 0 0,iv 0,iv 0,iv 0,iv 0,.bool false,iv 0,iv 0,iv 0,.slice ac kc cc,.slice av i cv]) (xl (ld33 (Et.c Cn) (F2.c Cn) (F3.c Cn) (F4.c Cn) (F5.c Cn) (F6.c Cn) (F7.c Cn) (F8.c Cn) (F9.c Cn) (Fa.c Cn) (U2.c Cn) (S8.c Cn))) ?_)))))));refine pD (nv (1+u9)) (nv (1+u9)) ?_;have Hx:=(Dg.x B0);have Hy:=(Dh.x B0);have Hz:=(Di.x B0);have I0:=(Dj.x B0);have I1:=(Dk.x B0);have I2:=(Dl.x B0);have I3:=(Dm.x B0);have I4:=(Dn.x B0);have I5:=(Do.x B0);have I6:=(Dp.x B0);have I7:=(Ct.x B0);have I8:=(Cu.x B0);have Qd:=(Db.x B0);have Qe:=(Dc.x B0);have Qf:=(Dd.x B0);have Qg:=(De.x B0);have Qh:=(Df.x B0);have Lc:=(Et.x Cn);have Lf:=(F2.x Cn);have Lg:=(F3.x Cn);have Lh:=(F4.x Cn);have Li:=(F5.x Cn);have Lj:=(F6.x Cn);have Lk:=(F7.x Cn);have Ll:=(F8.x Cn);have Ln:=(F9.x Cn);have Lp:=(Fa.x Cn);have Jz:=(ownK.ext Cn);have Jy:=(ownC.ext Cn);have R6:=(S8.x Cn);have R7:=(U2.x Cn);refine pP (k33 O1 kd none 0 0 0 0 0 0 false 0 0 0 ac kc cc av i cv Hx Hy Hz I0 I1 I2 I3 I4 I5 I6 I7 I8 ?_);intro Wd ho Hx Hy Hz I0 I1 I2 I3 I4 I5 I6 I7 I8 hk;refine he2 ho e0 hE fun e0 hE=>?_;have q9:=ho.bx Cr (by omega);clear q9;replace Jz:=Jz.turn ho (own_not (Jz.base) (by omega)) (fun _ _ _ h=>by rw [h.2];exact fun b hb=>by cases hb);replace Jy:=Jy.turn ho (own_not (Jy.base) (by omega)) (fun _ _ _ h=>by rw [h.2];exact fun b hb=>by cases hb);replace G8:=G8.turn ho (.inl (.inl (.inr rfl)));have Yb:=nq_ ho.size.symm;clear ho hk;refine pD (nv (1+u9)) (nv (1+u9)) ?_;refine zn (cK [8,9,10] (fun L=>?_));refine ct_ (qb (qt (qw_ret [.agg #[iv kd,.slice none 0 0,iv 0,iv 0,iv 0,iv 0,.bool false,iv 0,iv 0,iv 0,.slice ac kc cc,.slice av i cv],nv (1+u9),nv (1+u9)] rfl ⟨⟨_,by kernel_rfl,res_ld (ld33 (Hx.1) (Hy.1) (Hz.1) (I0.1) (I1.1) (I2.1) (I3.1) (I4.1) (I5.1) (I6.1) (I7.1) (I8.1))⟩,(by kernel_rfl),(by kernel_rfl),trivial⟩ ?_)));replace hka:=hka.next G8 fun j hj=> .inl hj
         have Zo:kc≤4:=by
          rcases Qx with q | q
          · rw [hcz q] at hcl;have h0:(0:Nat)=kc:=hcl;omega
          · have:=(hcs q).1;omega
         have Wq:=gnew_many (f:=⟨((kd:Nat):Int),[],0,0,0,0,false,0,0,0,Cs.map fun (x:Nat)=>((x:Nat):Int)⟩) (by omega) (by omega) rfl rfl Jz hgl (by omega) Jy hcl (by omega) hka (fun w9 p9=>hka.at p9);refine⟨_,_,1+u9,rfl,hks.size (by omega) ?_,by omega,Wq,hE⟩;rcases Qx with rfl | rfl
         · rw [hcz rfl];exact Gol.all_okF (by rw [List.length_map];omega) hks.kinds
         · exact Gol.any_okF (by rw [List.length_map];omega) hks.kinds (by rw [List.length_map,List.length_map,hcl,(hcs rfl).1,hgl]) (badN_eq (hcs rfl).2)
        ·have hlt:=htb rfl;refine zt ?_;refine cs_ (zq (zc (cb_ ?_)));refine zc (zp (pT (iv i) ?_));refine pU (iv (1 - (((i:Nat):Int)):Int)) (ew (by omega) (by omega)) ?_;refine pUT (nv (1 - i)) (ev_int (show _=Result.ok (Next.value (Value.int .i64 (if (0:Int)<(1 - ((i:Nat):Int)) then (1 - ((i:Nat):Int)) else (0:Int)))) _ from by kernel_rfl) (by split <;> omega)) (nv (1 - i)) ?_;refine zn (cK [0,1,2,3,8,11,12,15,16,17,18,19,20] (fun L=>?_));refine zc (zp (pD (.slice a n c) (iv ai) ?_));refine pT (nv (1+u9)) ?_;refine pUT (nv (ai+(1+u9))) (ew (by omega) (by omega)) (iv dp) ?_;refine pUD (nv (dp+1)) (ew (by omega) (by omega)) (iv mo) (nv (1+u9)) ?_;refine pUT (nv (mo - (1+u9))) (ev_int (ew (by omega) (by omega)) (show ((mo:Nat):Int) - ((1+u9:Nat):Int)=_ by omega)) (nv (1 - i)) ?_;refine pU (nv (mo - (1+u9) - (1 - i))) (ev_int (ew (by omega) (by omega)) (show ((mo - (1+u9):Nat):Int) - ((1 - i:Nat):Int)=_ by omega)) ?_;refine pS (sc 40 #[.slice a n c,nv (ai+(1+u9)),nv (dp+1),nv (mo - (1+u9) - (1 - i))] ((ih (ai+(1+u9)) (dp+1) (mo - (1+u9) - (1 - i)) _ e0 (by omega) (by omega) (by omega)).mono ?_));rintro e Rz ⟨g2,x2,u2,rfl,Vg,Zv,hgn,hb⟩;refine mv4 hb e0 hE B0 Cn fun e0 hE B0 Cn=>?_;replace G8:=G8.step hb;have B2:=hb.size;have I9:Wr (XK Cr O1 (.slice av i cv) (.slice ac kc cc)) Rz Rz:=Wr.refl _ _;refine⟨_,rfl,pD (.tuple #[gw g2.f x2.ar x2.nr x2.cr x2.ac x2.nc x2.cc x2.ak x2.nk x2.ck,iv u2,iv u2]) (gw g2.f x2.ar x2.nr x2.cr x2.ac x2.nc x2.cc x2.ak x2.nk x2.ck) ?_⟩;refine pD (iv u2) (iv u2) ?_;refine pS (sw 33 z33 ?_);intro Io We Bk Xj hb hbx;have⟨Bl,Bo,Bp,Bq,Br,Bs,Bt,Bu,Bv,Bw,Bi,Bj⟩:=bq12 hbx;refine mv4 hb e0 hE B0 Cn fun e0 hE B0 Cn=>?_;replace G8:=G8.step hb;replace I9:=I9.step hb;have C1:=hb.size;have Z2:=Bl.lt;refine pP (k33 Io g2.f.k x2.ar x2.nr x2.cr g2.f.sf g2.f.st g2.f.lo g2.f.hi g2.f.cl g2.f.dy g2.f.tm g2.f.wi x2.ac x2.nc x2.cc x2.ak x2.nk x2.ck Bl Bo Bp Bq Br Bs Bt Bu Bv Bw Bi Bj ?_);intro Wf ho Bl Bo Bp Bq Br Bs Bt Bu Bv Bw Bi Bj hk;refine he4 ho e0 hE B0 Cn fun e0 hE B0 Cn=>?_;replace G8:=G8.turn ho (.inr (Tq (Tq B1 B2) (nq_ Bk)));replace I9:=I9.turn ho (.inr (nq_ Bk));have C2:=nq_ ho.size.symm;clear ho hk;refine pD (iv u2) (iv u2) ?_;refine zn (cK [0,1,2,3,8,11,12,15,16,17,18,19,21,22,23] (fun L=>?_));refine zc (zp (pD (nv (1+u9)) (iv u2) ?_));refine pUT (nv (1+(u9+u2))) (ev_int (ew (by omega) (by omega)) (show ((1+u9:Nat):Int)+((u2:Nat):Int)=_ by omega)) (nv (1+(u9+u2))) ?_;refine zn (cK [0,1,2,3,8,11,12,15,16,17,18,19,21,23] (fun L=>?_));refine zc (zp (pD (nv (1+u9)) (iv u2) ?_));refine pUT (nv (1+(u9+u2))) (ev_int (ew (by omega) (by omega)) (show ((1+u9:Nat):Int)+((u2:Nat):Int)=_ by omega)) (nv (1+(u9+u2))) ?_;refine zn (cK [0,1,2,3,8,11,12,15,16,17,18,19,21] (fun L=>?_));refine zc (zp (pT (pw Cr 11) ?_));refine pU (.slice av i cv) (xl (ld31 (S8.c Cn))) ?_;refine pU (gw g2.f x2.ar x2.nr x2.cr x2.ac x2.nc x2.cc x2.ak x2.nk x2.ck) (xl (ld33 (Bl.1) (Bo.1) (Bp.1) (Bq.1) (Br.1) (Bs.1) (Bt.1) (Bu.1) (Bv.1) (Bw.1) (Bi.1) (Bj.1))) ?_;refine pS (sn_newS (us:=#[iv g2.f.k,.slice x2.ar x2.nr x2.cr,iv g2.f.sf,iv g2.f.st,iv g2.f.lo,iv g2.f.hi,.bool g2.f.cl,iv g2.f.dy,iv g2.f.tm,iv g2.f.wi,.slice x2.ac x2.nc x2.cc,.slice x2.ak x2.nk x2.ck]) (t:=33) (k:=1) (c:=1) (by kernel_rfl) ?_);intro Ip Zh Bm Xk hb hbx;have⟨C6,C7,C8,C9,Ca,Cb,Cc,Cd,Ce,Cf,Bx,Bz⟩:=bq12 hbx;refine mv4 hb e0 hE B0 Cn fun e0 hE B0 Cn=>?_;replace G8:=G8.step hb;replace I9:=I9.step hb;refine nv12 hb Bl Bo Bp Bq Br Bs Bt Bu Bv Bw Bi Bj fun Bl Bo Bp Bq Br Bs Bt Bu Bv Bw Bi Bj Gk=>?_;have Z3:=C6.lt
         have U4:=((ownC.ext Cn)).lt;have G9:=ownK.base;have Da:=ownK.lt;obtain⟨Lu,Gj,Vi,Sa,Cg,Nu,Cm,Vo,Xw,Pp⟩:=app_cells goT goC_len goC_one (c:=1) (m:=1) (sa:=some ⟨Ip,0,none⟩) (l':=(Gs.map raw ++ [raw (g2,x2)])) (q:=i+1) ((ownK.ext Cn)) (by omega) (by rw [List.length_map];exact hgl) rfl (.inr ⟨Ip,0,rfl,go_box (C6.1) (C7.1) (C8.1) (C9.1) (Ca.1) (Cb.1) (Cc.1) (Cd.1) (Ce.1) (Cf.1) (Bx.1) (Bz.1)⟩) rfl rfl (by omega) (by omega);refine pS (sn_eff (v:=.slice Lu (i+1) Gj) (w':=Vi) (ex_append rfl (by kernel_rfl) (by kernel_rfl) Sa) ?_);have B5:=BoxAt.grownR (Et.x Cn) Cm (own_not G9 (nl_ C0 (Tq B3 B4)));have B6:=BoxAt.grownR (F2.x Cn) Cm (own_not G9 (nl_ C0 (Tq B3 B4)));have B7:=BoxAt.grownR (F3.x Cn) Cm (own_not G9 (nl_ C0 (Tq B3 B4)));have B8:=BoxAt.grownR (F4.x Cn) Cm (own_not G9 (nl_ C0 (Tq B3 B4)));have Ba:=BoxAt.grownR (F5.x Cn) Cm (own_not G9 (nl_ C0 (Tq B3 B4)));have Bc:=BoxAt.grownR (F6.x Cn) Cm (own_not G9 (nl_ C0 (Tq B3 B4)));have Be:=BoxAt.grownR (F7.x Cn) Cm (own_not G9 (nl_ C0 (Tq B3 B4)));have Bf:=BoxAt.grownR (F8.x Cn) Cm (own_not G9 (nl_ C0 (Tq B3 B4)));have Bg:=BoxAt.grownR (F9.x Cn) Cm (own_not G9 (nl_ C0 (Tq B3 B4)));have Bh:=BoxAt.grownR (Fa.x Cn) Cm (own_not G9 (nl_ C0 (Tq B3 B4)));have Cp:=OwnL.grown (ownC.ext Cn) Cm (⟨hap.symm.kept,nat9_noF⟩);have Co:=BoxAt.grownR (S8.x Cn) Cm (own_not G9 (nl_ C0 (Tq B3 B4)));have C5:=BoxAt.grownR (U2.x Cn) Cm (own_not G9 (nl_ C0 (Tq B3 B4)));replace G8:=G8.app Cm (fun k hk=> .inl (.inr (.inl hk)));replace I9:=I9.app Cm (fun k hk=> .inl (.inr (.inl hk)));refine gq16 Cm Da Bl Bo Bp Bq Br Bs Bt Bu Bv Bw Bi Bj C6 C7 C8 C9 fun Bl Bo Bp Bq Br Bs Bt Bu Bv Bw Bi Bj C6 C7 C8 C9=>?_;refine gq8 Cm Da Ca Cb Cc Cd Ce Cf Bx Bz fun Ca Cb Cc Cd Ce Cf Bx Bz=>?_;replace e0:=Nu.ext _ e0 (by omega);replace hE:=Nu.ext _ hE (by omega);replace B0:=Nu.ext _ B0 (Tq Cv (Tq Ey (Tq B3 B4)));have Ik:=Nu.size;have Wm:=Cg.lt;replace hap:Apart (.slice Lu (i+1) Gj) (.slice ac kc cc):=hap.go Pp U4;refine pT (pw Cr 11) ?_;refine pP (zE Cr 11 (.slice Lu (i+1) Gj) (st31 Co.1 Co.2) Co ?_);intro Pb ho Co hk;refine he3 ho e0 hE B0 fun e0 hE B0=>?_;refine hj10 hk B5 B6 B7 B8 Ba Bc Be Bf Bg Bh fun B5 B6 B7 B8 Ba Bc Be Bf Bg Bh=>?_;replace Cp:=Cp.turn ho (own_not (Cp.base) (nl_ C0 (Tq B3 B4))) (fun _ _ _ h=>by rw [h.2];exact fun b hb=>by cases hb);replace C5:=hk 10 _ (by omega) C5;replace G8:=G8.turn ho (.inl (.inl (.inl rfl)));replace I9:=I9.turn ho (.inl (.inl (.inl rfl)));refine mq12 (ho.bx Io (by omega)) Bl Bo Bp Bq Br Bs Bt Bu Bv Bw Bi Bj fun Bl Bo Bp Bq Br Bs Bt Bu Bv Bw Bi Bj=>?_;refine mq12 (ho.bx Ip (by omega)) C6 C7 C8 C9 Ca Cb Cc Cd Ce Cf Bx Bz fun C6 C7 C8 C9 Ca Cb Cc Cd Ce Cf Bx Bz=>?_;replace Cg:=Cg.turn ho (own_not (Cg.base) (nl_ C0 (Tq B3 B4))) (fun _ _ _ h=>by rw [h.2];exact fun b hb=>by cases hb);have Il:=nq_ ho.size.symm;clear ho hk;refine zn (cK [0,1,2,3,8,11,12,15,16,17,18,19] (fun L=>?_));refine cw_seq ?_
         by_cases Wt:kd=6
         ·refine zp (pT (iv kd) ?_);refine pU (.bool true) (eE ((kd:Nat):Int) (6:Int) (by omega)) ?_;refine zn (zt ?_);have Uu:=(Cg).lt;obtain⟨p9,Zr,Uw⟩:∃p,IntKind.i64.wrap (y2+IntKind.i64.wrap (((i:Nat):Int) * y3))=p∧IsI p:=⟨_,rfl,isI_wrap _⟩;refine cw_join (fun ws' Y=>∃Pa:Nat,∃K1:Option Addr,∃Fw:Nat,ws'= [(0,.slice a n c),(1,iv ai),(2,iv dp),(3,iv mo),(8,pw O1 0),(11,pw O5 0),(12,iv kd),(15,pw Cr 0),(16,nv (1+(u9+u2))),(17,nv (1+(u9+u2))),(18,nv (2+(pk y1 3))),(19,iv i)]∧Ext w0 Y∧Ext w Y∧Ext Qq Y∧BoxAt Y Cr 0 (iv kd)∧BoxAt Y Cr 1 (.slice none 0 0)∧BoxAt Y Cr 2 (iv 0)∧BoxAt Y Cr 3 (iv 0)∧BoxAt Y Cr 4 (iv 0)∧BoxAt Y Cr 5 (iv 0)∧BoxAt Y Cr 6 (.bool false)∧BoxAt Y Cr 7 (iv 0)∧BoxAt Y Cr 8 (iv 0)∧BoxAt Y Cr 9 (iv 0)∧Wr (XK Cr O1 (.slice av i cv) (.slice ac kc cc)) P8 Y∧Wr (XK Cr O1 (.slice av i cv) (.slice ac kc cc)) Rz Y∧BoxAt Y Io 0 (iv g2.f.k)∧BoxAt Y Io 1 (.slice x2.ar x2.nr x2.cr)∧BoxAt Y Io 2 (iv g2.f.sf)∧BoxAt Y Io 3 (iv g2.f.st)∧BoxAt Y Io 4 (iv g2.f.lo)∧BoxAt Y Io 5 (iv g2.f.hi)∧BoxAt Y Io 6 (.bool g2.f.cl)∧BoxAt Y Io 7 (iv g2.f.dy)∧BoxAt Y Io 8 (iv g2.f.tm)∧BoxAt Y Io 9 (iv g2.f.wi)∧BoxAt Y Io 10 (.slice x2.ac x2.nc x2.cc)∧BoxAt Y Io 11 (.slice x2.ak x2.nk x2.ck)∧BoxAt Y Ip 0 (iv g2.f.k)∧BoxAt Y Ip 1 (.slice x2.ar x2.nr x2.cr)∧BoxAt Y Ip 2 (iv g2.f.sf)∧BoxAt Y Ip 3 (iv g2.f.st)∧BoxAt Y Ip 4 (iv g2.f.lo)∧BoxAt Y Ip 5 (iv g2.f.hi)∧BoxAt Y Ip 6 (.bool g2.f.cl)∧BoxAt Y Ip 7 (iv g2.f.dy)∧BoxAt Y Ip 8 (iv g2.f.tm)∧BoxAt Y Ip 9 (iv g2.f.wi)∧BoxAt Y Ip 10 (.slice x2.ac x2.nc x2.cc)∧BoxAt Y Ip 11 (.slice x2.ak x2.nk x2.ck)∧OwnL ((cellR goC)) Ry.heap.size 33 12 (.slice Lu (i+1) Gj) Y ((Gs.map raw ++ [raw (g2,x2)]))∧BoxAt Y Cr 11 (.slice Lu (i+1) Gj)∧BoxAt Y Pa 0 (nv (pk p9 1000))∧OwnL ((cellR natC)) Ry.heap.size 3 1 (.slice K1 (kc+1) Fw) Y ((Cs ++ [pk p9 1000]))∧BoxAt Y Cr 10 (.slice K1 (kc+1) Fw)∧(∀j,(.slice K1 (kc+1) Fw:Value).ownBlock=some j→(Value.slice ac kc cc).ownBlock=some j∨Pb.heap.size≤j)∧Pb.heap.size≤Y.heap.size∧Pb.heap.size≤Pa) (fun hJ=>?_) ?_
          ·refine dT (fun w'=>w'.cell? ⟨O5,2,none⟩=some (iv y2)∧w'.cell? ⟨O5,3,none⟩=some (iv y3)) (⟨(Ck.x B0).1,(Ec.x B0).1⟩) (fun ops Q Wg hb hL hR hK=>?_);refine mv12 hb e0 hE B0 B5 B6 B7 B8 Ba Bc Be Bf Bg fun e0 hE B0 B5 B6 B7 B8 Ba Bc Be Bf Bg=>?_;refine mv3 hb Bh Cp C5 fun Bh Cp C5=>?_;replace G8:=G8.step hb;replace I9:=I9.step hb;refine mv16 hb Bl Bo Bp Bq Br Bs Bt Bu Bv Bw Bi Bj C6 C7 C8 C9 fun Bl Bo Bp Bq Br Bs Bt Bu Bv Bw Bi Bj C6 C7 C8 C9=>?_;refine mv9 hb Ca Cb Cc Cd Ce Cf Bx Bz Cg fun Ca Cb Cc Cd Ce Cf Bx Bz Cg=>?_;replace Co:=Co.x hb;have Fv:=hb.size;have hS:=A2 (Ck.c B0) (Ec.c B0);refine wW 0 (pw Cr 10) 2 (pw O5 2) hR hS ?_;refine wM 3 (iv y2) hR (fun w hS=>ld3 (hS.1)) hS ?_;refine wW 4 (iv i) 5 (pw O5 3) hR hS ?_;refine wM 6 (iv y3) hR (fun w hS=>ld3 (hS.2)) hS ?_;refine wV 7 (iv (IntKind.i64.wrap (((i:Nat):Int) * y3):Int)) hR hS ?_;refine wL 8 (iv p9) hR (fun w _=>ev_int (show _=Result.ok (Next.value (Value.int .i64 (IntKind.i64.wrap (y2+IntKind.i64.wrap (((i:Nat):Int) * y3))))) _ from by kernel_rfl) Zr) hS ?_;refine zw 1 9 hR ?_ ?_
           ·refine sn_eff (v:=.slice ac kc cc) (w':=Wg) (xl (ld24 (C5.1))) ⟨⟨(Ck.c B0),(Ec.c B0)⟩,?_⟩;refine wC 9 73 #[iv p9,iv 1000] hR ((r13pick_c (c:=p9) (n:=1000) _ Uw (by omega)).mono ?_);rintro e B0h ⟨rfl,hb⟩;refine mv12 hb e0 hE B0 B5 B6 B7 B8 Ba Bc Be Bf Bg fun e0 hE B0 B5 B6 B7 B8 Ba Bc Be Bf Bg=>?_;refine mv3 hb Bh Cp C5 fun Bh Cp C5=>?_;replace G8:=G8.step hb;replace I9:=I9.step hb;refine mv16 hb Bl Bo Bp Bq Br Bs Bt Bu Bv Bw Bi Bj C6 C7 C8 C9 fun Bl Bo Bp Bq Br Bs Bt Bu Bv Bw Bi Bj C6 C7 C8 C9=>?_;refine mv9 hb Ca Cb Cc Cd Ce Cf Bx Bz Cg fun Ca Cb Cc Cd Ce Cf Bx Bz Cg=>?_;replace Co:=Co.x hb;have Ma:=hb.size;refine⟨_,rfl,⟨(Ck.c B0),(Ec.c B0)⟩,?_⟩;refine wS 10 hR (sn_newS (us:=#[nv (pk p9 1000)]) (t:=3) (k:=1) (c:=1) (by kernel_rfl) ?_);intro Pa Zi Pq Xl hb hbx;have Gf:=bq1 hbx;refine mv12 hb e0 hE B0 B5 B6 B7 B8 Ba Bc Be Bf Bg fun e0 hE B0 B5 B6 B7 B8 Ba Bc Be Bf Bg=>?_;refine mv3 hb Bh Cp C5 fun Bh Cp C5=>?_;replace G8:=G8.step hb;replace I9:=I9.step hb;refine mv16 hb Bl Bo Bp Bq Br Bs Bt Bu Bv Bw Bi Bj C6 C7 C8 C9 fun Bl Bo Bp Bq Br Bs Bt Bu Bv Bw Bi Bj C6 C7 C8 C9=>?_;refine mv9 hb Ca Cb Cc Cd Ce Cf Bx Bz Cg fun Ca Cb Cc Cd Ce Cf Bx Bz Cg=>?_;replace Co:=Co.x hb;have Rt:=hb.size;have Z4:=Gf.lt;refine⟨⟨(Ck.c B0),(Ec.c B0)⟩,?_⟩;have Wu:=(Cg).lt;have Ga:=Cp.base;obtain⟨K1,Fw,Vj,Sb,Jv,Nv,Ch,Vp,Xx,U8⟩:=app_cells intT natC_len natC_one (c:=1) (m:=1) (sa:=some ⟨Pa,0,none⟩) (l':=(Cs ++ [pk p9 1000])) (q:=kc+1) (Cp) (by omega) hcl rfl (.inr ⟨Pa,0,rfl,CellsB.one fun i u hu=>by match i,hu with | 0,hu=>cases hu;exact Gf.1 | k+1,hu=>cases hu⟩) rfl rfl (by omega) (by omega);refine wS 11 hR (sn_eff (v:=.slice K1 (kc+1) Fw) (w':=Vj) (ex_append rfl (by kernel_rfl) (by kernel_rfl) Sb) ?_);refine gp11 Ch Ga B5 B6 B7 B8 Ba Bc Be Bf Bg Bh C5 fun B5 B6 B7 B8 Ba Bc Be Bf Bg Bh C5=>?_;replace G8:=G8.app Ch (fun k hk=> .inl (.inr (.inr hk)));replace I9:=I9.app Ch (fun k hk=> .inl (.inr (.inr hk)));refine gq16 Ch hbC Bl Bo Bp Bq Br Bs Bt Bu Bv Bw Bi Bj C6 C7 C8 C9 fun Bl Bo Bp Bq Br Bs Bt Bu Bv Bw Bi Bj C6 C7 C8 C9=>?_;refine gq7 Ch hbC Ca Cb Cc Cd Ce Cf Bx fun Ca Cb Cc Cd Ce Cf Bx=>?_
            replace Bz:=BoxAt.grownR Bz Ch (own_not2 hbC (by omega));replace Cg:=OwnL.grown Cg Ch (⟨hap.kept,raw9_noF⟩);replace Co:=BoxAt.grownR Co Ch (own_not Ga (nl_ C0 (Tq B3 B4)));replace Gf:=BoxAt.grownR Gf Ch (own_not2 hbC (by omega));replace e0:=Nv.ext _ e0 (by omega);replace hE:=Nv.ext _ hE (by omega);replace B0:=Nv.ext _ B0 (Tq Cv (Tq Ey (Tq B3 B4)));have V8:=Nv.size;refine⟨⟨(Ck.c B0),(Ec.c B0)⟩,?_⟩;have Wn:=Jv.lt;refine wV 12 (pw Cr 10) hR (⟨(Ck.c B0),(Ec.c B0)⟩) ?_;refine wS 13 hR (sn_set (O:=Cr) (j:=10) (v:=.slice K1 (kc+1) Fw) (ex_store (p:=pw Cr 10) (v:=.slice K1 (kc+1) Fw) rfl (by kernel_rfl) (by kernel_rfl) (st24 C5.1 C5.2)) C5 ?_);intro Wh ho C5 hk;refine he3 ho e0 hE B0 fun e0 hE B0=>?_;refine hj10 hk B5 B6 B7 B8 Ba Bc Be Bf Bg Bh fun B5 B6 B7 B8 Ba Bc Be Bf Bg Bh=>?_;replace G8:=G8.turn ho (.inl (.inl (.inl rfl)));replace I9:=I9.turn ho (.inl (.inl (.inl rfl)));refine mq12 (ho.bx Io (by omega)) Bl Bo Bp Bq Br Bs Bt Bu Bv Bw Bi Bj fun Bl Bo Bp Bq Br Bs Bt Bu Bv Bw Bi Bj=>?_;refine mq12 (ho.bx Ip (by omega)) C6 C7 C8 C9 Ca Cb Cc Cd Ce Cf Bx Bz fun C6 C7 C8 C9 Ca Cb Cc Cd Ce Cf Bx Bz=>?_;replace Cg:=Cg.turn ho (own_not (Cg.base) (nl_ C0 (Tq B3 B4))) (fun _ _ _ h=>by rw [h.2];exact fun b hb=>by cases hb);replace Co:=hk 11 _ (by omega) Co;replace Gf:=ho.box (by omega) Gf;replace Jv:=Jv.turn ho (own_not (Jv.base) (nl_ C0 (Tq B3 B4))) (fun _ _ _ h=>by rw [h.2];exact fun b hb=>by cases hb);have Va:=nq_ ho.size.symm;clear ho hk;refine⟨⟨(Ck.c B0),(Ec.c B0)⟩,?_⟩;refine we hL hR hK ?_;have P6:(∀j,(.slice K1 (kc+1) Fw:Value).ownBlock=some j→(Value.slice ac kc cc).ownBlock=some j∨Pb.heap.size≤j):=fun j hj=>(U8 j hj).imp id (Tq (Tq Fv (Tq Ma Rt)))
            exact zl hJ [0,1,2,3,8,11,12,15,16,17,18,19] ⟨Pa,K1,Fw,rfl,e0,hE,B0,B5,B6,B7,B8,Ba,Bc,Be,Bf,Bg,Bh,G8,I9,Bl,Bo,Bp,Bq,Br,Bs,Bt,Bu,Bv,Bw,Bi,Bj,C6,C7,C8,C9,Ca,Cb,Cc,Cd,Ce,Cf,Bx,Bz,Cg,Co,Gf,Jv,C5,P6,(Tq Fv (Tq Ma (Tq Rt (Tq V8 Va)))),(Tq (Tq Fv Ma) (nq_ Pq))⟩
           ·refine sc 73 #[iv p9,iv 1000] ((r13pick_c (c:=p9) (n:=1000) _ Uw (by omega)).mono ?_);rintro e Xq ⟨rfl,hb⟩;refine mv12 hb e0 hE B0 B5 B6 B7 B8 Ba Bc Be Bf Bg fun e0 hE B0 B5 B6 B7 B8 Ba Bc Be Bf Bg=>?_;refine mv3 hb Bh Cp C5 fun Bh Cp C5=>?_;replace G8:=G8.step hb;replace I9:=I9.step hb;refine mv16 hb Bl Bo Bp Bq Br Bs Bt Bu Bv Bw Bi Bj C6 C7 C8 C9 fun Bl Bo Bp Bq Br Bs Bt Bu Bv Bw Bi Bj C6 C7 C8 C9=>?_;refine mv9 hb Ca Cb Cc Cd Ce Cf Bx Bz Cg fun Ca Cb Cc Cd Ce Cf Bx Bz Cg=>?_;replace Co:=Co.x hb;have Im:=hb.size;refine⟨_,rfl,⟨(Ck.c B0),(Ec.c B0)⟩,?_⟩;refine zw 1 10 hR ?_ ?_
            ·refine sn_eff (v:=.slice ac kc cc) (w':=Xq) (xl (ld24 (C5.1))) ⟨⟨(Ck.c B0),(Ec.c B0)⟩,?_⟩;refine wS 10 hR (sn_newS (us:=#[nv (pk p9 1000)]) (t:=3) (k:=1) (c:=1) (by kernel_rfl) ?_);intro Sw Zj Ps Xm hb hbx;have Ih:=bq1 hbx;refine mv12 hb e0 hE B0 B5 B6 B7 B8 Ba Bc Be Bf Bg fun e0 hE B0 B5 B6 B7 B8 Ba Bc Be Bf Bg=>?_;refine mv3 hb Bh Cp C5 fun Bh Cp C5=>?_;replace G8:=G8.step hb;replace I9:=I9.step hb;refine mv16 hb Bl Bo Bp Bq Br Bs Bt Bu Bv Bw Bi Bj C6 C7 C8 C9 fun Bl Bo Bp Bq Br Bs Bt Bu Bv Bw Bi Bj C6 C7 C8 C9=>?_;refine mv9 hb Ca Cb Cc Cd Ce Cf Bx Bz Cg fun Ca Cb Cc Cd Ce Cf Bx Bz Cg=>?_;replace Co:=Co.x hb;have Ru:=hb.size;have Z5:=Ih.lt;refine⟨⟨(Ck.c B0),(Ec.c B0)⟩,?_⟩;have Wv:=(Cg).lt;have Gc:=Cp.base;obtain⟨R4,Lq,Vk,Sc,M2,Nw,Ci,Vq,Xy,U9⟩:=app_cells intT natC_len natC_one (c:=1) (m:=1) (sa:=some ⟨Sw,0,none⟩) (l':=(Cs ++ [pk p9 1000])) (q:=kc+1) (Cp) (by omega) hcl rfl (.inr ⟨Sw,0,rfl,CellsB.one fun i u hu=>by match i,hu with | 0,hu=>cases hu;exact Ih.1 | k+1,hu=>cases hu⟩) rfl rfl (by omega) (by omega);refine wS 11 hR (sn_eff (v:=.slice R4 (kc+1) Lq) (w':=Vk) (ex_append rfl (by kernel_rfl) (by kernel_rfl) Sc) ?_);refine gp11 Ci Gc B5 B6 B7 B8 Ba Bc Be Bf Bg Bh C5 fun B5 B6 B7 B8 Ba Bc Be Bf Bg Bh C5=>?_;replace G8:=G8.app Ci (fun k hk=> .inl (.inr (.inr hk)));replace I9:=I9.app Ci (fun k hk=> .inl (.inr (.inr hk)));refine gq16 Ci hbC Bl Bo Bp Bq Br Bs Bt Bu Bv Bw Bi Bj C6 C7 C8 C9 fun Bl Bo Bp Bq Br Bs Bt Bu Bv Bw Bi Bj C6 C7 C8 C9=>?_;refine gq8 Ci hbC Ca Cb Cc Cd Ce Cf Bx Bz fun Ca Cb Cc Cd Ce Cf Bx Bz=>?_;replace Cg:=OwnL.grown Cg Ci (⟨hap.kept,raw9_noF⟩);replace Co:=BoxAt.grownR Co Ci (own_not Gc (nl_ C0 (Tq B3 B4)));replace Ih:=BoxAt.grownR Ih Ci (own_not2 hbC (by omega));replace e0:=Nw.ext _ e0 (by omega);replace hE:=Nw.ext _ hE (by omega);replace B0:=Nw.ext _ B0 (Tq Cv (Tq Ey (Tq B3 B4)));have Vb:=Nw.size;refine⟨⟨(Ck.c B0),(Ec.c B0)⟩,?_⟩;have Wo:=M2.lt;refine wV 12 (pw Cr 10) hR (⟨(Ck.c B0),(Ec.c B0)⟩) ?_;refine wS 13 hR (sn_set (O:=Cr) (j:=10) (v:=.slice R4 (kc+1) Lq) (ex_store (p:=pw Cr 10) (v:=.slice R4 (kc+1) Lq) rfl (by kernel_rfl) (by kernel_rfl) (st24 C5.1 C5.2)) C5 ?_);intro Wi ho Fu hk;refine he3 ho e0 hE B0 fun e0 hE B0=>?_;refine hj10 hk B5 B6 B7 B8 Ba Bc Be Bf Bg Bh fun B5 B6 B7 B8 Ba Bc Be Bf Bg Bh=>?_;replace G8:=G8.turn ho (.inl (.inl (.inl rfl)));replace I9:=I9.turn ho (.inl (.inl (.inl rfl)))
             refine mq12 (ho.bx Io (by omega)) Bl Bo Bp Bq Br Bs Bt Bu Bv Bw Bi Bj fun Bl Bo Bp Bq Br Bs Bt Bu Bv Bw Bi Bj=>?_;refine mq12 (ho.bx Ip (by omega)) C6 C7 C8 C9 Ca Cb Cc Cd Ce Cf Bx Bz fun C6 C7 C8 C9 Ca Cb Cc Cd Ce Cf Bx Bz=>?_;replace Cg:=Cg.turn ho (own_not (Cg.base) (nl_ C0 (Tq B3 B4))) (fun _ _ _ h=>by rw [h.2];exact fun b hb=>by cases hb);replace Co:=hk 11 _ (by omega) Co;replace Ih:=ho.box (by omega) Ih;replace M2:=M2.turn ho (own_not (M2.base) (nl_ C0 (Tq B3 B4))) (fun _ _ _ h=>by rw [h.2];exact fun b hb=>by cases hb);have Vc:=nq_ ho.size.symm;clear ho hk C5;have C5:=Fu;clear Fu;refine⟨⟨(Ck.c B0),(Ec.c B0)⟩,?_⟩;refine we hL hR hK ?_;have P6:(∀j,(.slice R4 (kc+1) Lq:Value).ownBlock=some j→(Value.slice ac kc cc).ownBlock=some j∨Pb.heap.size≤j):=fun j hj=>(U9 j hj).imp id (Tq (Tq Fv (Tq Im Ru)))
             exact zl hJ [0,1,2,3,8,11,12,15,16,17,18,19] ⟨Sw,R4,Lq,rfl,e0,hE,B0,B5,B6,B7,B8,Ba,Bc,Be,Bf,Bg,Bh,G8,I9,Bl,Bo,Bp,Bq,Br,Bs,Bt,Bu,Bv,Bw,Bi,Bj,C6,C7,C8,C9,Ca,Cb,Cc,Cd,Ce,Cf,Bx,Bz,Cg,Co,Ih,M2,C5,P6,(Tq Fv (Tq Im (Tq Ru (Tq Vb Vc)))),(Tq (Tq Fv Im) (nq_ Ps))⟩
            ·refine sn_newS (us:=#[nv (pk p9 1000)]) (t:=3) (k:=1) (c:=1) (by kernel_rfl) ?_;intro Sx Wj Pt Xn hb hbx;have Ii:=bq1 hbx;refine mv12 hb e0 hE B0 B5 B6 B7 B8 Ba Bc Be Bf Bg fun e0 hE B0 B5 B6 B7 B8 Ba Bc Be Bf Bg=>?_;refine mv3 hb Bh Cp C5 fun Bh Cp C5=>?_;replace G8:=G8.step hb;replace I9:=I9.step hb;refine mv16 hb Bl Bo Bp Bq Br Bs Bt Bu Bv Bw Bi Bj C6 C7 C8 C9 fun Bl Bo Bp Bq Br Bs Bt Bu Bv Bw Bi Bj C6 C7 C8 C9=>?_;refine mv9 hb Ca Cb Cc Cd Ce Cf Bx Bz Cg fun Ca Cb Cc Cd Ce Cf Bx Bz Cg=>?_;replace Co:=Co.x hb;have Rv:=hb.size;have Z6:=Ii.lt;refine⟨⟨(Ck.c B0),(Ec.c B0)⟩,?_⟩;refine wS 1 hR (sn_eff (v:=.slice ac kc cc) (w':=Wj) (ex_load rfl (by kernel_rfl) (ld24 (C5.1))) ⟨⟨(Ck.c B0),(Ec.c B0)⟩,?_⟩);have Ww:=(Cg).lt;have Gd:=Cp.base;obtain⟨R5,Lr,Vl,Sd,M3,Nx,Cj,Vr,Xz,Ua⟩:=app_cells intT natC_len natC_one (c:=1) (m:=1) (sa:=some ⟨Sx,0,none⟩) (l':=(Cs ++ [pk p9 1000])) (q:=kc+1) (Cp) (by omega) hcl rfl (.inr ⟨Sx,0,rfl,CellsB.one fun i u hu=>by match i,hu with | 0,hu=>cases hu;exact Ii.1 | k+1,hu=>cases hu⟩) rfl rfl (by omega) (by omega);refine wS 11 hR (sn_eff (v:=.slice R5 (kc+1) Lr) (w':=Vl) (ex_append rfl (by kernel_rfl) (by kernel_rfl) Sd) ?_);refine gp11 Cj Gd B5 B6 B7 B8 Ba Bc Be Bf Bg Bh C5 fun B5 B6 B7 B8 Ba Bc Be Bf Bg Bh C5=>?_;replace G8:=G8.app Cj (fun k hk=> .inl (.inr (.inr hk)));replace I9:=I9.app Cj (fun k hk=> .inl (.inr (.inr hk)));refine gq16 Cj hbC Bl Bo Bp Bq Br Bs Bt Bu Bv Bw Bi Bj C6 C7 C8 C9 fun Bl Bo Bp Bq Br Bs Bt Bu Bv Bw Bi Bj C6 C7 C8 C9=>?_;refine gq8 Cj hbC Ca Cb Cc Cd Ce Cf Bx Bz fun Ca Cb Cc Cd Ce Cf Bx Bz=>?_;replace Cg:=OwnL.grown Cg Cj (⟨hap.kept,raw9_noF⟩);replace Co:=BoxAt.grownR Co Cj (own_not Gd (nl_ C0 (Tq B3 B4)));replace Ii:=BoxAt.grownR Ii Cj (own_not2 hbC (by omega));replace e0:=Nx.ext _ e0 (by omega);replace hE:=Nx.ext _ hE (by omega);replace B0:=Nx.ext _ B0 (Tq Cv (Tq Ey (Tq B3 B4)));have Vd:=Nx.size;refine⟨⟨(Ck.c B0),(Ec.c B0)⟩,?_⟩;have Wp:=M3.lt;refine wV 12 (pw Cr 10) hR (⟨(Ck.c B0),(Ec.c B0)⟩) ?_;refine wS 13 hR (sn_set (O:=Cr) (j:=10) (v:=.slice R5 (kc+1) Lr) (ex_store (p:=pw Cr 10) (v:=.slice R5 (kc+1) Lr) rfl (by kernel_rfl) (by kernel_rfl) (st24 C5.1 C5.2)) C5 ?_);intro Wk ho Fu hk;refine he3 ho e0 hE B0 fun e0 hE B0=>?_;refine hj10 hk B5 B6 B7 B8 Ba Bc Be Bf Bg Bh fun B5 B6 B7 B8 Ba Bc Be Bf Bg Bh=>?_;replace G8:=G8.turn ho (.inl (.inl (.inl rfl)));replace I9:=I9.turn ho (.inl (.inl (.inl rfl)))
             refine mq12 (ho.bx Io (by omega)) Bl Bo Bp Bq Br Bs Bt Bu Bv Bw Bi Bj fun Bl Bo Bp Bq Br Bs Bt Bu Bv Bw Bi Bj=>?_;refine mq12 (ho.bx Ip (by omega)) C6 C7 C8 C9 Ca Cb Cc Cd Ce Cf Bx Bz fun C6 C7 C8 C9 Ca Cb Cc Cd Ce Cf Bx Bz=>?_;replace Cg:=Cg.turn ho (own_not (Cg.base) (nl_ C0 (Tq B3 B4))) (fun _ _ _ h=>by rw [h.2];exact fun b hb=>by cases hb);replace Co:=hk 11 _ (by omega) Co;replace Ii:=ho.box (by omega) Ii;replace M3:=M3.turn ho (own_not (M3.base) (nl_ C0 (Tq B3 B4))) (fun _ _ _ h=>by rw [h.2];exact fun b hb=>by cases hb);have Ve:=nq_ ho.size.symm;clear ho hk C5;have C5:=Fu;clear Fu;refine⟨⟨(Ck.c B0),(Ec.c B0)⟩,?_⟩;refine we hL hR hK ?_;have P6:(∀j,(.slice R5 (kc+1) Lr:Value).ownBlock=some j→(Value.slice ac kc cc).ownBlock=some j∨Pb.heap.size≤j):=fun j hj=>(Ua j hj).imp id (Tq (Tq Fv (Tq Im Rv)))
             exact zl hJ [0,1,2,3,8,11,12,15,16,17,18,19] ⟨Sx,R5,Lr,rfl,e0,hE,B0,B5,B6,B7,B8,Ba,Bc,Be,Bf,Bg,Bh,G8,I9,Bl,Bo,Bp,Bq,Br,Bs,Bt,Bu,Bv,Bw,Bi,Bj,C6,C7,C8,C9,Ca,Cb,Cc,Cd,Ce,Cf,Bx,Bz,Cg,Co,Ii,M3,C5,P6,(Tq Fv (Tq Im (Tq Rv (Tq Vd Ve)))),(Tq (Tq Fv Im) (nq_ Pt))⟩
          ·clear B5 B6 B7 B8 Ba Bc Be Bf Bg Bh Cp C5 G8 I9 Bl Bo Bp Bq Br Bs Bt Bu Bv Bw Bi Bj C6 C7 C8 C9 Ca Cb Cc Cd Ce Cf Bx Bz Cg Co e0 hE B0;rintro L ws Zn ⟨Pa,K1,Fw,rfl,e0,hE,B0,B5,B6,B7,B8,Ba,Bc,Be,Bf,Bg,Bh,G8,I9,Bl,Bo,Bp,Bq,Br,Bs,Bt,Bu,Bv,Bw,Bi,Bj,C6,C7,C8,C9,Ca,Cb,Cc,Cd,Ce,Cf,Bx,Bz,Cg,Co,Gf,Jv,C5,P6,Uv,Y2⟩;have Z7:=Gf.lt;refine qw_block (qw_then ?_);replace hap:Apart (.slice Lu (i+1) Gj) (.slice K1 (kc+1) Fw):=(hap.symm.go P6 Uu).symm;refine zp (pT (iv i) ?_);refine pUT (nv (i+1)) (ew (by omega) (by omega)) (nv (i+1)) ?_;refine pl_nil ?_;have hxn:∀j,XK Cr O1 (.slice Lu (i+1) Gj) (.slice K1 (kc+1) Fw) j→XK Cr O1 (.slice av i cv) (.slice ac kc cc) j∨Rz.heap.size≤j:=fun j hj=>hj.elim (fun q=> .inl (.inl q)) fun q=>q.elim (fun q=>(Pp j q).elim (fun q=> .inl (.inr (.inl q))) fun q=> .inr (Tq (Tq C1 (Tq C2 Gk)) q)) fun q=>(P6 j q).elim (fun q=> .inl (.inr (.inr q))) fun q=> .inr (by omega)
           have hxl:∀j,XK Cr O1 (.slice av i cv) (.slice ac kc cc) j→j<Ub.heap.size:=fun j hj=>hj.elim (fun q=>q.elim (fun q=>q ▸ (by omega)) fun q=>q ▸ (by omega)) fun q=>q.elim (fun q=>nl_ (hbK j q) B1) fun q=>nl_ (hbC j q) B1
           refine qw_round [0,1,2,3,8,11,12,15,16,17,18,19] (ws':=[(0,.slice a n c),(1,iv ai),(2,iv dp),(3,iv mo),(8,pw O1 0),(11,pw O5 0),(12,iv kd),(15,pw Cr 0),(16,nv (1+(u9+u2))),(17,nv (1+(u9+u2))),(18,nv (2+(pk y1 3))),(19,nv (i+1))]) (by kernel_rfl) _ ?_ ⟨(i+1),(u9+u2),Lu,Gj,K1,(kc+1),Fw,(Gs ++ [(g2,x2)]),(Cs ++ [pk p9 1000]),rfl,rfl,(by omega),e0,hE,B0,B5,B6,B7,B8,Ba,Bc,Be,Bf,Bg,Bh,(by rw [List.map_append];exact Cg),Jv,Co,C5,by omega,(by rw [List.length_append,hgl];rfl),(by rw [List.length_append,hcl];rfl),(by rw [List.map_append];exact hks.snoc Vg),by omega,by omega,by omega,(hap),((hka.next G8 fun j hj=>(hxn j hj).imp id fun q=>Tq (Tq B1 B2) q).add hgn (by omega) I9 hxl fun j hj=>(hxn j hj).imp (hxl j) id),(fun _=>⟨by omega,badC_snoc (hcs Wt).2 (Bdd.pk_lt (by decide))⟩),(fun q=>absurd Wt (by omega))⟩;omega
         ·refine zp (pT (iv kd) ?_);refine pU (.bool false) (eN ((kd:Nat):Int) (6:Int) (by omega)) ?_;refine zn (zf ?_);refine cs_ (qw_block (zq (zp (pT (iv i) ?_))));refine pUT (nv (i+1)) (ew (by omega) (by omega)) (nv (i+1)) ?_;refine pl_nil ?_;have hxn:∀j,XK Cr O1 (.slice Lu (i+1) Gj) (.slice ac kc cc) j→XK Cr O1 (.slice av i cv) (.slice ac kc cc) j∨Rz.heap.size≤j:=fun j hj=>hj.elim (fun q=> .inl (.inl q)) fun q=>q.elim (fun q=>(Pp j q).elim (fun q=> .inl (.inr (.inl q))) fun q=> .inr (Tq (Tq C1 (Tq C2 Gk)) q)) fun q=> .inl (.inr (.inr q))
          have hxl:∀j,XK Cr O1 (.slice av i cv) (.slice ac kc cc) j→j<Ub.heap.size:=fun j hj=>hj.elim (fun q=>q.elim (fun q=>q ▸ (by omega)) fun q=>q ▸ (by omega)) fun q=>q.elim (fun q=>nl_ (hbK j q) B1) fun q=>nl_ (hbC j q) B1
          refine qw_round [0,1,2,3,8,11,12,15,16,17,18,19] (ws':=[(0,.slice a n c),(1,iv ai),(2,iv dp),(3,iv mo),(8,pw O1 0),(11,pw O5 0),(12,iv kd),(15,pw Cr 0),(16,nv (1+(u9+u2))),(17,nv (1+(u9+u2))),(18,nv (2+(pk y1 3))),(19,nv (i+1))]) (by kernel_rfl) _ ?_ ⟨(i+1),(u9+u2),Lu,Gj,ac,kc,cc,(Gs ++ [(g2,x2)]),Cs,rfl,rfl,(by omega),e0,hE,B0,B5,B6,B7,B8,Ba,Bc,Be,Bf,Bg,Bh,(by rw [List.map_append];exact Cg),Cp,Co,C5,by omega,(by rw [List.length_append,hgl];rfl),hcl,(by rw [List.map_append];exact hks.snoc Vg),by omega,by omega,by omega,(hap),((hka.next G8 fun j hj=>(hxn j hj).imp id fun q=>Tq (Tq B1 B2) q).add hgn (by omega) I9 hxl fun j hj=>(hxn j hj).imp (hxl j) id),(fun q=>absurd q Wt),hcz⟩;omega
end Go.Proofs.YtpfajhcdfgpgmaaGreatDoor

namespace Go.Proofs.YtpfajhcdfgpgmaaGreatDoor
namespace Evs
open Bdd (sem OK ap foldD op ap_ok0 ap_sem)
theorem foldD_sem {st:Bool} {n:Nat} (s:Nat→Bool):∀ {l:List Bdd.D} {a:Bdd.D},OK 0 n a→(∀x ∈ l,OK 0 n x)→sem (foldD st n a l) s=if st=true then sem a s || l.any (sem · s) else sem a s && l.all (sem · s)
 | [],a,_,_=>by cases st <;> simp [foldD]
 | x :: l,a,ha,hl=>by
  have h1:foldD st n a (x :: l)=foldD st n (ap st n a x) l:=rfl
  rw [h1,foldD_sem s ap_ok0 (fun y hy=>hl y (List.mem_cons_of_mem _ hy)),ap_sem ha (hl x (List.mem_cons_self ..))]
  cases st <;> simp [op,Bool.or_assoc,Bool.and_assoc]
theorem foldD_tr {st b:Bool} {n:Nat} {l:List Bdd.D}:OK 0 n (foldD st n (.leaf b) l):=Bdd.foldD_ok (show OK 0 n (.leaf b) from trivial)
theorem or_sem {n:Nat} (s:Nat→Bool) {l:List Bdd.D} (hl:∀x ∈ l,OK 0 n x):sem (foldD true n (.leaf false) l) s=true↔∃x ∈ l,sem x s=true:=by
 rw [foldD_sem s (a:=.leaf false) trivial hl,if_pos rfl];simp [sem]
theorem and_sem {n:Nat} (s:Nat→Bool) {l:List Bdd.D} (hl:∀x ∈ l,OK 0 n x):sem (foldD false n (.leaf true) l) s=true↔∀x ∈ l,sem x s=true:=by
 rw [foldD_sem s (a:=.leaf true) trivial hl,if_neg (by decide)];simp [sem]
theorem ap_or {n:Nat} {a b:Bdd.D} (ha:OK 0 n a) (hb:OK 0 n b) (s:Nat→Bool):sem (ap true n a b) s=true↔sem a s=true∨sem b s=true:=by
 rw [ap_sem ha hb];simp [op]
theorem ap_and {n:Nat} {a b:Bdd.D} (ha:OK 0 n a) (hb:OK 0 n b) (s:Nat→Bool):sem (ap false n a b) s=true↔sem a s=true∧sem b s=true:=by
 rw [ap_sem ha hb];simp [op]
def delP (l:List Ev) (s:Nat→Prop) (wi:Int) (i:Nat):Prop:=∃k,k<l.length∧delB (evN l i) (evN l k) wi=true∧s k
def pairP (l:List Ev) (S:List Nat) (lo wi:Int) (c:Nat→Prop):Prop:=∃i j,i ∈ S∧j ∈ S∧j<i∧pairB l lo wi j i=true∧c j∧c i
def rowP (l:List Ev) (S:List Nat) (sf wi mo:Int) (c:Nat→Prop):Nat→Nat→Prop
 | 0,i=>(evN l i).t - sf≤mo∧c i
 | r+1,i=>(∃j,j ∈ S∧j<i∧Globe.inB ((evN l i).t - (evN l j).t) wi mo=true∧rowP l S sf wi mo c r j)∧c i
def goalP (l:List Ev) (s:Nat→Prop):Nat→Goal→(Nat→Prop)→Prop
 | 0,_,_=>False
 | d+1,g,c=>
  if g.f.k=1 then ∃i,i ∈ suited g.f l∧c i
  else if g.f.k=2 then pairP l (suited (kidN g 0).f l) g.f.lo g.f.wi c
  else if g.f.k=3 then ∃i,i ∈ suited (kidN g 0).f l∧rowP l (suited (kidN g 0).f l) g.f.sf g.f.wi (1440 * g.f.dy) c (g.f.tm - 1).toNat i
  else if g.f.k=4 then goalP l s d (kidN g 0) fun i=>c i∧delP l s g.f.wi i
  else if g.f.k=5 then ∀i,i<g.kids.length→goalP l s d (kidN g i) c
  else ∃i,i<g.kids.length∧goalP l s d (kidN g i) c
theorem goalP_succ (l:List Ev) (s:Nat→Prop) (d:Nat) (g:Goal) (c:Nat→Prop):goalP l s (d+1) g c=if g.f.k=1 then ∃i,i ∈ suited g.f l∧c i
  else if g.f.k=2 then pairP l (suited (kidN g 0).f l) g.f.lo g.f.wi c
  else if g.f.k=3 then ∃i,i ∈ suited (kidN g 0).f l∧rowP l (suited (kidN g 0).f l) g.f.sf g.f.wi (1440 * g.f.dy) c (g.f.tm - 1).toNat i
  else if g.f.k=4 then goalP l s d (kidN g 0) fun i=>c i∧delP l s g.f.wi i
  else if g.f.k=5 then ∀i,i<g.kids.length→goalP l s d (kidN g i) c
  else ∃i,i<g.kids.length∧goalP l s d (kidN g i) c:=rfl
theorem rowP_mono {l:List Ev} {S:List Nat} {sf wi mo:Int} {c c':Nat→Prop} (h:∀i,i ∈ S→c i→c' i):∀ {r i:Nat},i ∈ S→rowP l S sf wi mo c r i→rowP l S sf wi mo c' r i
 | 0,i,hi,⟨h1,h2⟩=>⟨h1,h i hi h2⟩
 | _+1,i,hi,⟨⟨j,h1,h2,h3,h4⟩,h5⟩=>⟨⟨j,h1,h2,h3,rowP_mono h h1 h4⟩,h i hi h5⟩
theorem goalP_mono {l:List Ev} {s s':Nat→Prop} (hs:∀k,k<l.length→s k→s' k):∀ {d:Nat} {g:Goal} {c c':Nat→Prop},(∀i,i<l.length→c i→c' i)→goalP l s d g c→goalP l s' d g c'
  | 0,_,_,_,_,h=>h
  | d+1,g,c,c',hc,h=>by
    rw [goalP_succ] at h ⊢
    by_cases q1:g.f.k=1
    · rw [if_pos q1] at h ⊢
      obtain⟨i,h1,h2⟩:=h
      exact⟨i,h1,hc i (suited_lt h1) h2⟩
    rw [if_neg q1] at h ⊢
    by_cases q2:g.f.k=2
    · rw [if_pos q2] at h ⊢
      obtain⟨i,j,h1,h2,h3,h4,h5,h6⟩:=h
      exact⟨i,j,h1,h2,h3,h4,hc j (suited_lt h2) h5,hc i (suited_lt h1) h6⟩
    rw [if_neg q2] at h ⊢
    by_cases q3:g.f.k=3
    · rw [if_pos q3] at h ⊢
      obtain⟨i,h1,h2⟩:=h
      exact⟨i,h1,rowP_mono (fun i hi=>hc i (suited_lt hi)) h1 h2⟩
    rw [if_neg q3] at h ⊢
    by_cases q4:g.f.k=4
    · rw [if_pos q4] at h ⊢
      refine goalP_mono hs ?_ h
      rintro i hi ⟨h1,k,h2,h3,h4⟩
      exact⟨hc i hi h1,k,h2,h3,hs k h2 h4⟩
    rw [if_neg q4] at h ⊢
    by_cases q5:g.f.k=5
    · rw [if_pos q5] at h ⊢
      exact fun i hi=>goalP_mono hs hc (h i hi)
    · rw [if_neg q5] at h ⊢
      obtain⟨i,h1,h2⟩:=h
      exact⟨i,h1,goalP_mono hs hc h2⟩
theorem goalP_congr {l:List Ev} {s:Nat→Prop} {d:Nat} {g:Goal} {c c':Nat→Prop} (h:∀i,i<l.length→(c i↔c' i)):goalP l s d g c↔goalP l s d g c':=
 ⟨goalP_mono (fun _ _ q=>q) fun i hi=>(h i hi).1,goalP_mono (fun _ _ q=>q) fun i hi=>(h i hi).2⟩
theorem suited_sorted (f:GF) (l:List Ev):(suited f l).Pairwise (· < ·):=List.Pairwise.filter _ List.pairwise_lt_range
theorem ixN_get {S:List Nat} {i:Nat} (h:i<S.length):ixN S i=S[i]:=by unfold ixN;rw [List.getElem?_eq_getElem h];rfl
theorem ixN_mem {S:List Nat} {i:Nat} (h:i<S.length):ixN S i ∈ S:=by rw [ixN_get h];exact List.getElem_mem h
theorem ixN_lt {S:List Nat} (h:S.Pairwise (· < ·)) {i j:Nat} (hi:i<S.length) (hj:j<S.length):ixN S i<ixN S j↔i<j:=by
  have h2:=List.pairwise_iff_getElem.1 h
  rw [ixN_get hi,ixN_get hj]
  constructor
  · intro q
    rcases Nat.lt_trichotomy i j with z | z | z
    · exact z
    · subst z;omega
    · have:=h2 j i hj hi z;omega
  · exact fun z=>h2 i j hi hj z
theorem ixN_of {S:List Nat} {x:Nat} (h:x ∈ S):∃i,i<S.length∧ixN S i=x:=by
 obtain⟨i,hi,e⟩:=List.getElem_of_mem h
 exact⟨i,hi,(ixN_get hi).trans e⟩
section
variable {n:Nat} {l:List Ev} {S:List Nat} {lo wi mo sf:Int} {cnt:Nat→Bdd.D} {s:Nat→Bool}
theorem rowT_ok {k:Nat} {t0:Bdd.D} (h0:OK 0 n t0):∀m,OK 0 n (rowT n l S lo wi cnt k t0 m)
 | 0=>h0
 | m+1=>by unfold rowT;split;exact ap_ok0;exact rowT_ok h0 m
theorem pairT_ok:∀k,OK 0 n (pairT n l S lo wi cnt k)
 | 0=>trivial
 | k+1=>rowT_ok (pairT_ok k) k
theorem rowT_sem (hc:∀i,i ∈ S→OK 0 n (cnt i)) {k:Nat} (hk:k<S.length) {t0:Bdd.D} (h0:OK 0 n t0):∀ {m:Nat},m≤k→(sem (rowT n l S lo wi cnt k t0 m) s=true↔sem t0 s=true∨∃j,j<m∧pairB l lo wi (ixN S j) (ixN S k)=true∧sem (cnt (ixN S j)) s=true∧sem (cnt (ixN S k)) s=true)
  | 0,_=>by unfold rowT;simp
  | m+1,hm=>by
    have ih:=rowT_sem hc hk h0 (m:=m) (by omega)
    cases q:pairB l lo wi (ixN S m) (ixN S k) with
    | true=>
      rw [rowT_yes q,ap_or (rowT_ok h0 m) ap_ok0,ih,ap_and (hc _ (ixN_mem (by omega))) (hc _ (ixN_mem hk))]
      constructor
      · rintro ((h | ⟨j,h1,h2⟩) | h)
        · exact .inl h
        · exact .inr ⟨j,by omega,h2⟩
        · exact .inr ⟨m,by omega,q,h⟩
      · rintro (h | ⟨j,h1,h2⟩)
        · exact .inl (.inl h)
        · rcases Nat.lt_or_ge j m with z | z
          · exact .inl (.inr ⟨j,z,h2⟩)
          · obtain rfl:j=m:=by omega
            exact .inr h2.2
    | false=>
      rw [rowT_no q,ih]
      constructor
      · rintro (h | ⟨j,h1,h2⟩)
        · exact .inl h
        · exact .inr ⟨j,by omega,h2⟩
      · rintro (h | ⟨j,h1,h2⟩)
        · exact .inl h
        · rcases Nat.lt_or_ge j m with z | z
          · exact .inr ⟨j,z,h2⟩
          · obtain rfl:j=m:=by omega
            rw [q] at h2;cases h2.1
theorem pairT_sem (hc:∀i,i ∈ S→OK 0 n (cnt i)):∀ {k:Nat},k≤S.length→(sem (pairT n l S lo wi cnt k) s=true↔∃i j,i<k∧j<i∧pairB l lo wi (ixN S j) (ixN S i)=true∧sem (cnt (ixN S j)) s=true∧sem (cnt (ixN S i)) s=true)
  | 0,_=>by unfold pairT;simp [sem]
  | k+1,hk=>by
    have ih:=pairT_sem hc (k:=k) (by omega)
    unfold pairT
    rw [rowT_sem hc (by omega) (pairT_ok k) (nr_ _),ih]
    constructor
    · rintro (⟨i,j,h1,h2⟩ | ⟨j,h1,h2⟩)
      · exact⟨i,j,by omega,h2⟩
      · exact⟨k,j,by omega,h1,h2⟩
    · rintro⟨i,j,h1,h2,h3⟩
      rcases Nat.lt_or_ge i k with z | z
      · exact .inl ⟨i,j,z,h2,h3⟩
      · obtain rfl:i=k:=by omega
        exact .inr ⟨j,h2,h3⟩
theorem pairG_sem (hs:S.Pairwise (· < ·)) (hc:∀i,i ∈ S→OK 0 n (cnt i)):sem (pairT n l S lo wi cnt S.length) s=true↔pairP l S lo wi fun i=>sem (cnt i) s=true:=by
  rw [pairT_sem hc (nr_ _)]
  constructor
  · rintro⟨i,j,h1,h2,h3⟩
    exact⟨ixN S i,ixN S j,ixN_mem h1,ixN_mem (by omega),(ixN_lt hs (by omega) h1).2 h2,h3⟩
  · rintro⟨i,j,h1,h2,h3,h4⟩
    obtain⟨i',hi,rfl⟩:=ixN_of h1
    obtain⟨j',hj,rfl⟩:=ixN_of h2
    exact⟨i',j',hi,(ixN_lt hs hj hi).1 h3,h4⟩
theorem befT_ok {E:Nat→Bdd.D} {k:Nat}:∀m,OK 0 n (befT n l S wi mo E k m)
 | 0=>trivial
 | m+1=>by unfold befT;split;exact ap_ok0;exact befT_ok m
theorem befT_sem {E:Nat→Bdd.D} {k:Nat} (hE:∀j,j<k→OK 0 n (E j)):∀ {m:Nat},m≤k→(sem (befT n l S wi mo E k m) s=true↔∃j,j<m∧Globe.inB ((evN l (ixN S k)).t - (evN l (ixN S j)).t) wi mo=true∧sem (E j) s=true)
  | 0,_=>by unfold befT;simp [sem]
  | m+1,hm=>by
    have ih:=befT_sem hE (m:=m) (by omega)
    cases q:Globe.inB ((evN l (ixN S k)).t - (evN l (ixN S m)).t) wi mo with
    | true=>
      rw [befT_yes q,ap_or (befT_ok m) (hE m (by omega)),ih]
      constructor
      · rintro (⟨j,h1,h2⟩ | h)
        · exact⟨j,by omega,h2⟩
        · exact⟨m,by omega,q,h⟩
      · rintro⟨j,h1,h2⟩
        rcases Nat.lt_or_ge j m with z | z
        · exact .inl ⟨j,z,h2⟩
        · obtain rfl:j=m:=by omega
          exact .inr h2.2
    | false=>
      rw [befT_no q,ih]
      constructor
      · rintro⟨j,h1,h2⟩
        exact⟨j,by omega,h2⟩
      · rintro⟨j,h1,h2⟩
        rcases Nat.lt_or_ge j m with z | z
        · exact⟨j,z,h2⟩
        · obtain rfl:j=m:=by omega
          rw [q] at h2;cases h2.1
theorem evT_ok (hc:∀i,i ∈ S→OK 0 n (cnt i)):∀ {r k:Nat},k<S.length→OK 0 n (evT n l S sf wi mo cnt r k)
 | 0,k,h=>by unfold evT;split;exact hc _ (ixN_mem h);exact trivial
 | r+1,k,h=>by unfold evT;exact ap_ok0
theorem evT_sem (hs:S.Pairwise (· < ·)) (hc:∀i,i ∈ S→OK 0 n (cnt i)):∀ {r k:Nat},k<S.length→(sem (evT n l S sf wi mo cnt r k) s=true↔rowP l S sf wi mo (fun i=>sem (cnt i) s=true) r (ixN S k))
  | 0,k,h=>by
    unfold evT rowP
    split
    · rename_i q;exact⟨fun z=>⟨q,z⟩,fun z=>z.2⟩
    · rename_i q;exact⟨fun z=>absurd z (by simp [sem]),fun z=>absurd z.1 q⟩
  | r+1,k,h=>by
    unfold evT rowP
    rw [ap_and (befT_ok k) (hc _ (ixN_mem h)),befT_sem (fun j hj=>evT_ok hc (Nat.lt_trans hj h)) (nr_ _)]
    refine and_congr_left fun _=>?_
    constructor
    · rintro⟨j,h1,h2,h3⟩
      exact⟨ixN S j,ixN_mem (by omega),(ixN_lt hs (by omega) h).2 h1,h2,(evT_sem hs hc (by omega)).1 h3⟩
    · rintro⟨j,h1,h2,h3,h4⟩
      obtain⟨j',hj,rfl⟩:=ixN_of h1
      exact⟨j',(ixN_lt hs hj h).1 h2,h3,(evT_sem hs hc hj).2 h4⟩
theorem evF_sem (hs:S.Pairwise (· < ·)) (hc:∀i,i ∈ S→OK 0 n (cnt i)) {r:Nat}:sem (evF n l S (evT n l S sf wi mo cnt r)) s=true↔∃i,i ∈ S∧rowP l S sf wi mo (fun i=>sem (cnt i) s=true) r i:=by
  have hk:∀ {x},x ∈ S→S.idxOf x<S.length∧ixN S (S.idxOf x)=x:=fun {x} hx=>by
    have h:=List.idxOf_lt_length_iff.2 hx
    exact⟨h,by rw [ixN_get h,List.getElem_idxOf h]⟩
  unfold evF
  rw [or_sem]
  · constructor
    · rintro⟨t,ht,h⟩
      obtain⟨x,hx,rfl⟩:=List.mem_map.1 ht
      have h2:=(evT_sem hs hc (hk hx).1).1 h
      rw [(hk hx).2] at h2
      exact⟨x,hx,h2⟩
    · rintro⟨x,hx,h⟩
      refine⟨_,List.mem_map.2 ⟨x,hx,rfl⟩,(evT_sem hs hc (hk hx).1).2 ?_⟩
      rw [(hk hx).2];exact h
  · intro t ht
    obtain⟨x,hx,rfl⟩:=List.mem_map.1 ht
    exact evT_ok hc (hk hx).1
theorem delT_ok {i:Nat}:OK 0 n (delT n l i wi l.length):=foldD_tr
theorem lit_sem (e:Nat):sem (Bdd.lit e) s=true↔s e=true:=by
 unfold Bdd.lit;simp only [sem];cases s e <;> simp
theorem delT_sem (hn:n=l.length) {i:Nat}:sem (delT n l i wi l.length) s=true↔delP l (fun k=>s k=true) wi i:=by
  unfold delT
  rw [or_sem]
  · constructor
    · rintro⟨t,ht,h⟩
      obtain⟨k,hk,rfl⟩:=List.mem_map.1 ht
      unfold delUp at hk
      rw [List.mem_filter,List.mem_range] at hk
      exact⟨k,hk.1,hk.2,(lit_sem k).1 h⟩
    · rintro⟨k,h1,h2,h3⟩
      exact⟨_,List.mem_map.2 ⟨k,List.mem_filter.2 ⟨List.mem_range.2 h1,h2⟩,rfl⟩,(lit_sem k).2 h3⟩
  · intro t ht
    obtain⟨k,hk,rfl⟩:=List.mem_map.1 ht
    unfold delUp at hk
    rw [List.mem_filter,List.mem_range] at hk
    exact Bdd.lit_ok (hn ▸ hk.1)
end
theorem goalT_ok {n:Nat} {l:List Ev}:∀ {d:Nat} {g:Goal} {cnt:Nat→Bdd.D},(∀i,i<l.length→OK 0 n (cnt i))→OK 0 n (goalT n l d g cnt)
 | 0,_,_,_=>trivial
 | d+1,g,cnt,hc=>by
  rw [goalT_succ]
  split
  · exact foldD_tr
  split
  · exact pairT_ok _
  split
  · exact foldD_tr
  split
  · exact goalT_ok fun i _=>ap_ok0
  split
  · exact foldD_tr
  · exact foldD_tr
theorem goalT_sem {n:Nat} {l:List Ev} (hn:n=l.length) (s:Nat→Bool):∀ {d:Nat} {g:Goal} {cnt:Nat→Bdd.D},(∀i,i<l.length→OK 0 n (cnt i))→(sem (goalT n l d g cnt) s=true↔goalP l (fun k=>s k=true) d g fun i=>sem (cnt i) s=true)
  | 0,_,_,_=>by unfold goalT goalP;simp [sem]
  | d+1,g,cnt,hc=>by
    have hS:∀f:GF,∀i,i ∈ suited f l→OK 0 n (cnt i):=fun f i hi=>hc i (suited_lt hi)
    rw [goalT_succ,goalP_succ]
    split
    · unfold seeT
      rw [or_sem]
      · constructor
        · rintro⟨t,ht,h⟩
          obtain⟨x,hx,rfl⟩:=List.mem_map.1 ht
          exact⟨x,hx,h⟩
        · rintro⟨x,hx,h⟩
          exact⟨_,List.mem_map.2 ⟨x,hx,rfl⟩,h⟩
      · intro t ht
        obtain⟨x,hx,rfl⟩:=List.mem_map.1 ht
        exact hS _ x hx
    split
    · exact pairG_sem (suited_sorted _ l) (hS _)
    split
    · exact evF_sem (suited_sorted _ l) (hS _)
    split
    · rw [goalT_sem hn s fun i _=>ap_ok0]
      exact goalP_congr fun i hi=>by rw [ap_and (hc i hi) delT_ok,delT_sem hn]
    split
    · rw [and_sem]
      · constructor
        · intro h i hi
          exact (goalT_sem hn s hc).1 (h _ (List.mem_map.2 ⟨i,List.mem_range.2 hi,rfl⟩))
        · intro h t ht
          obtain⟨i,hi,rfl⟩:=List.mem_map.1 ht
          exact (goalT_sem hn s hc).2 (h i (List.mem_range.1 hi))
      · intro t ht
        obtain⟨i,hi,rfl⟩:=List.mem_map.1 ht
        exact goalT_ok hc
    · rw [or_sem]
      · constructor
        · rintro⟨t,ht,h⟩
          obtain⟨i,hi,rfl⟩:=List.mem_map.1 ht
          exact⟨i,List.mem_range.1 hi,(goalT_sem hn s hc).1 h⟩
        · rintro⟨i,hi,h⟩
          exact⟨_,List.mem_map.2 ⟨i,List.mem_range.2 hi,rfl⟩,(goalT_sem hn s hc).2 h⟩
      · intro t ht
        obtain⟨i,hi,rfl⟩:=List.mem_map.1 ht
        exact goalT_ok hc
theorem mem_suited {f:GF} {l:List Ev} {i:Nat}:i ∈ suited f l↔i<l.length∧suitsB f (evN l i)=true:=by
 unfold suited;rw [List.mem_filter,List.mem_range]
structure Ins (l l':List Ev) (φ:Nat→Nat):Prop where
 lt:∀i,i<l.length→φ i<l'.length
 mono:∀i j,φ i<φ j↔i<j
 ev:∀i,i<l.length→evN l' (φ i)=evN l i
 or:∀j,j<l'.length→(∃i,i<l.length∧j=φ i)∨((evN l' j).k=1∧(evN l' j).sun<0)
theorem Ins.suited {l l':List Ev} {φ:Nat→Nat} (H:Ins l l' φ) {f:GF} (hf:0≤f.lo) {j:Nat}:j ∈ Evs.suited f l'↔∃i,i ∈ Evs.suited f l∧j=φ i:=by
  constructor
  · intro h
    obtain⟨h1,h2⟩:=mem_suited.1 h
    rcases H.or j h1 with ⟨i,hi,rfl⟩ | ⟨hk,hs⟩
    · exact⟨i,mem_suited.2 ⟨hi,H.ev i hi ▸ h2⟩,rfl⟩
    · unfold suitsB at h2
      simp only [Bool.and_eq_true] at h2
      have:=Globe.inB_t.1 h2.1.2
      omega
  · rintro⟨i,hi,rfl⟩
    obtain⟨h1,h2⟩:=mem_suited.1 hi
    exact mem_suited.2 ⟨H.lt i h1,(H.ev i h1).symm ▸ h2⟩
theorem Ins.del {l l':List Ev} {φ:Nat→Nat} (H:Ins l l' φ) {s s':Nat→Prop} (hs:∀k,k<l.length→(s' (φ k)↔s k)) {wi:Int} {i:Nat} (hi:i<l.length):delP l' s' wi (φ i)↔delP l s wi i:=by
  constructor
  · rintro⟨j,h1,h2,h3⟩
    rcases H.or j h1 with ⟨k,hk,rfl⟩ | ⟨hk,_⟩
    · rw [H.ev i hi,H.ev k hk] at h2
      exact⟨k,hk,h2,(hs k hk).1 h3⟩
    · unfold delB at h2
      simp only [Bool.and_eq_true,beq_iff_eq] at h2
      omega
  · rintro⟨k,h1,h2,h3⟩
    exact⟨φ k,H.lt k h1,by rw [H.ev i hi,H.ev k h1];exact h2,(hs k h1).2 h3⟩
theorem Ins.row {l l':List Ev} {φ:Nat→Nat} (H:Ins l l' φ) {f:GF} (hf:0≤f.lo) {sf wi mo:Int} {c c':Nat→Prop} (hc:∀i,i<l.length→(c' (φ i)↔c i)):∀ {r i:Nat},i<l.length→(rowP l' (Evs.suited f l') sf wi mo c' r (φ i)↔rowP l (Evs.suited f l) sf wi mo c r i)
  | 0,i,hi=>by unfold rowP;rw [H.ev i hi,hc i hi]
  | r+1,i,hi=>by
    unfold rowP
    rw [hc i hi]
    refine and_congr_left fun _=>?_
    constructor
    · rintro⟨j,h1,h2,h3,h4⟩
      obtain⟨k,hk,rfl⟩:=(H.suited hf).1 h1
      have hl:=suited_lt hk
      rw [H.ev i hi,H.ev k hl] at h3
      exact⟨k,hk,(H.mono k i).1 h2,h3,(H.row hf hc hl).1 h4⟩
    · rintro⟨k,h1,h2,h3,h4⟩
      have hl:=suited_lt h1
      exact⟨φ k,(H.suited hf).2 ⟨k,h1,rfl⟩,(H.mono k i).2 h2,by rw [H.ev i hi,H.ev k hl];exact h3,(H.row hf hc hl).2 h4⟩
def DG:Nat→Goal→Prop
 | 0,_=>False
 | d+1,g=>(g.f.k=1∧0≤g.f.lo)∨((g.f.k=2∨g.f.k=3)∧0≤(kidN g 0).f.lo)∨(g.f.k=4∧DG d (kidN g 0))∨((g.f.k=5∨g.f.k=6)∧∀i,i<g.kids.length→DG d (kidN g i))
theorem Ins.goal {l l':List Ev} {φ:Nat→Nat} (H:Ins l l' φ) {s s':Nat→Prop} (hs:∀k,k<l.length→(s' (φ k)↔s k)):∀ {d:Nat} {g:Goal} {c c':Nat→Prop},DG d g→(∀i,i<l.length→(c' (φ i)↔c i))→(goalP l' s' d g c'↔goalP l s d g c)
  | 0,_,_,_,h,_=>h.elim
  | d+1,g,c,c',h,hc=>by
    rw [goalP_succ,goalP_succ]
    rcases h with ⟨q,h⟩ | ⟨q,h⟩ | ⟨q,h⟩ | ⟨q,h⟩
    · rw [if_pos q,if_pos q]
      constructor
      · rintro⟨j,h1,h2⟩
        obtain⟨i,hi,rfl⟩:=(H.suited h).1 h1
        exact⟨i,hi,(hc i (suited_lt hi)).1 h2⟩
      · rintro⟨i,h1,h2⟩
        exact⟨φ i,(H.suited h).2 ⟨i,h1,rfl⟩,(hc i (suited_lt h1)).2 h2⟩
    · have q1:¬g.f.k=1:=by omega
      rw [if_neg q1,if_neg q1]
      by_cases q2:g.f.k=2
      · rw [if_pos q2,if_pos q2]
        constructor
        · rintro⟨i,j,h1,h2,h3,h4,h5,h6⟩
          obtain⟨i',hi,rfl⟩:=(H.suited h).1 h1
          obtain⟨j',hj,rfl⟩:=(H.suited h).1 h2
          have li:=suited_lt hi
          have lj:=suited_lt hj
          refine⟨i',j',hi,hj,(H.mono _ _).1 h3,?_,(hc j' lj).1 h5,(hc i' li).1 h6⟩
          unfold pairB at h4 ⊢
          rw [H.ev i' li,H.ev j' lj] at h4
          exact h4
        · rintro⟨i,j,h1,h2,h3,h4,h5,h6⟩
          have li:=suited_lt h1
          have lj:=suited_lt h2
          refine⟨φ i,φ j,(H.suited h).2 ⟨i,h1,rfl⟩,(H.suited h).2 ⟨j,h2,rfl⟩,(H.mono _ _).2 h3,?_,(hc j lj).2 h5,(hc i li).2 h6⟩
          unfold pairB at h4 ⊢
          rw [H.ev i li,H.ev j lj]
          exact h4
      · have q3:g.f.k=3:=by omega
        rw [if_neg q2,if_neg q2,if_pos q3,if_pos q3]
        constructor
        · rintro⟨j,h1,h2⟩
          obtain⟨i,hi,rfl⟩:=(H.suited h).1 h1
          exact⟨i,hi,(H.row h hc (suited_lt hi)).1 h2⟩
        · rintro⟨i,h1,h2⟩
          exact⟨φ i,(H.suited h).2 ⟨i,h1,rfl⟩,(H.row h hc (suited_lt h1)).2 h2⟩
    · have q1:¬g.f.k=1:=by omega
      have q2:¬g.f.k=2:=by omega
      have q3:¬g.f.k=3:=by omega
      rw [if_neg q1,if_neg q2,if_neg q3,if_pos q,if_neg q1,if_neg q2,if_neg q3,if_pos q]
      exact H.goal hs h fun i hi=>and_congr (hc i hi) (H.del hs hi)
    · have q1:¬g.f.k=1:=by omega
      have q2:¬g.f.k=2:=by omega
      have q3:¬g.f.k=3:=by omega
      have q4:¬g.f.k=4:=by omega
      rw [if_neg q1,if_neg q2,if_neg q3,if_neg q4,if_neg q1,if_neg q2,if_neg q3,if_neg q4]
      by_cases q5:g.f.k=5
      · rw [if_pos q5,if_pos q5]
        exact forall_congr' fun i=>forall_congr' fun hi=>H.goal hs (h i hi) hc
      · rw [if_neg q5,if_neg q5]
        constructor
        · rintro⟨i,h1,h2⟩;exact⟨i,h1,(H.goal hs (h i h1) hc).1 h2⟩
        · rintro⟨i,h1,h2⟩;exact⟨i,h1,(H.goal hs (h i h1) hc).2 h2⟩
theorem see_lo {d m:Nat} {g:Goal} (h:Gol.sizeG d g=some m) (hk:g.f.k=1):0≤g.f.lo:=by
 have ok:=(Gol.sizeG_ok h).2.1
 unfold Gol.okF at ok
 simp only [Bool.and_eq_true] at ok
 have hl:=ok.1.2
 unfold Gol.limB at hl
 rw [if_pos hk] at hl
 simp only [Bool.and_eq_true] at hl
 exact (Globe.inB_t.1 hl.1.2).1
theorem sizeG_dg:∀ {k d m:Nat} {g:Goal},Gol.sizeG d g=some m→5≤d+k→DG k g
  | 0,d,m,g,h,hd=>by have:=(Gol.sizeG_le h).1;omega
  | k+1,d,m,g,h,hd=>by
    have ok:=(Gol.sizeG_ok h).2.1
    have hlo:=see_lo h
    rw [Gol.sizeG_eq] at h
    split at h
    · cases hs:Gol.sizeKs (d+1) g.kids with
      | none=>rw [hs] at h;cases h
      | some n=>
        have hk:=Gol.okF_k ok
        unfold Gol.okF at ok
        simp only [Bool.and_eq_true] at ok
        have hp:=ok.2
        unfold Gol.parB at hp
        simp only [Bool.and_eq_true] at hp
        have hm:=hp.1.1.1
        unfold Gol.manyB at hm
        have hw:=hp.2
        rw [Bool.not_eq_true'] at hw
        unfold Gol.wrongK at hw
        rw [List.any_eq_false] at hw
        have one:g.f.k=2∨g.f.k=3→0≤(kidN g 0).f.lo:=fun e=>by
          rw [if_neg (by omega),if_neg (by omega),if_neg (by omega)] at hm
          have:=eq_of_beq hm
          have h0:0<g.kids.length:=by omega
          obtain⟨m',h'⟩:=kid_size (i:=0) hs h0
          have h2:=hw _ (Gol.kid_mem h0)
          have h3:=Gol.okF_k (Gol.sizeG_ok h').2.1
          refine see_lo h' ?_
          unfold Gol.lastK at h2
          simp only [decide_eq_true_eq] at h2
          rcases e with e | e
          · rw [if_pos e] at h2;omega
          · rw [if_neg (by omega),if_pos e] at h2;omega
        rcases (by omega:g.f.k=1∨g.f.k=2∨g.f.k=3∨g.f.k=4∨g.f.k=5∨g.f.k=6) with e | e | e | e | e | e
        · exact .inl ⟨e,hlo e⟩
        · exact .inr (.inl ⟨.inl e,one (.inl e)⟩)
        · exact .inr (.inl ⟨.inr e,one (.inr e)⟩)
        · rw [if_neg (by omega),if_neg (by omega),if_neg (by omega)] at hm
          have:=eq_of_beq hm
          obtain⟨m',h'⟩:=kid_size (i:=0) hs (by omega)
          exact .inr (.inr (.inl ⟨e,sizeG_dg h' (by omega)⟩))
        · exact .inr (.inr (.inr ⟨.inl e,fun i hi=>by
            obtain⟨m',h'⟩:=kid_size (i:=i) hs hi
            exact sizeG_dg h' (by omega)⟩))
        · exact .inr (.inr (.inr ⟨.inr e,fun i hi=>by
            obtain⟨m',h'⟩:=kid_size (i:=i) hs hi
            exact sizeG_dg h' (by omega)⟩))
    · cases h
theorem valid_dg {g:Goal} (h:Gol.validG g=true):DG 4 g:=by
  unfold Gol.validG at h
  split at h
  · cases h
  · rename_i n hn
    exact sizeG_dg hn (by omega)
end Evs
end Go.Proofs.YtpfajhcdfgpgmaaGreatDoor

namespace Go.Proofs.YtpfajhcdfgpgmaaGreatDoor
namespace Evs
theorem cmpI_or (x y:Int):(x<y∧Bdd.cmpI x y= -1)∨(x=y∧Bdd.cmpI x y=0)∨(y<x∧Bdd.cmpI x y=1):=by
 unfold Bdd.cmpI
 rcases Int.lt_trichotomy x y with h | h | h
 · exact .inl ⟨h,if_pos h⟩
 · exact .inr (.inl ⟨h,by rw [if_neg (by omega),if_neg (by omega)]⟩)
 · exact .inr (.inr ⟨h,by rw [if_neg (by omega),if_pos h]⟩)
theorem laterI_lt {a b:Ev}:laterI a b<0↔a.t<b.t∨(a.t=b.t∧(a.k<b.k∨(a.k=b.k∧a.i<b.i))):=by
 unfold laterI Bdd.or3
 rcases cmpI_or a.t b.t with ⟨h1,e1⟩ | ⟨h1,e1⟩ | ⟨h1,e1⟩ <;> rcases cmpI_or a.k b.k with ⟨h2,e2⟩ | ⟨h2,e2⟩ | ⟨h2,e2⟩ <;> rcases cmpI_or a.i b.i with ⟨h3,e3⟩ | ⟨h3,e3⟩ | ⟨h3,e3⟩ <;> rw [e1,e2,e3] <;> simp <;> omega
theorem shotB_t {l:List Ev} {x:Int}:shotB l x=true↔∃e ∈ l,e.k=1∧e.i=x:=by
 unfold shotB
 rw [List.any_eq_true]
 simp only [Bool.and_eq_true,beq_iff_eq]
def phi (k i:Nat):Nat:=if i<k then i else i+1
theorem phi_lo {k i:Nat} (h:i<k):phi k i=i:=if_pos h
theorem phi_hi {k i:Nat} (h:k≤i):phi k i=i+1:=if_neg (by omega)
def putE (l:List Ev) (k:Nat) (e:Ev):List Ev:=l.take k ++ [e] ++ l.drop k
section
variable {l:List Ev} {k:Nat} {e:Ev}
theorem putE_len (hk:k≤l.length):(putE l k e).length=l.length+1:=by
 unfold putE;simp;omega
theorem putE_lo (hk:k≤l.length) {i:Nat} (h:i<k):evN (putE l k e) i=evN l i:=by
 unfold evN putE
 rw [List.append_assoc,List.getElem?_append_left (by rw [List.length_take];omega),List.getElem?_take_of_lt h]
theorem putE_at (hk:k≤l.length):evN (putE l k e) k=e:=by
 unfold evN putE
 rw [List.append_assoc,List.getElem?_append_right (by rw [List.length_take];omega),List.length_take,Nat.min_eq_left hk,Nat.sub_self];rfl
theorem putE_hi (hk:k≤l.length) {i:Nat} (h:k≤i):evN (putE l k e) (i+1)=evN l i:=by
 unfold evN putE
 rw [List.append_assoc,List.getElem?_append_right (by rw [List.length_take];omega),List.length_take,Nat.min_eq_left hk,show i+1 - k=(i - k)+1 by omega]
 show (((l.drop k))[i - k]?).getD default=_
 rw [List.getElem?_drop,show k+(i - k)=i by omega]
theorem putE_take (hk:k≤l.length) {j:Nat} (h:j≤k):(putE l k e).take j=l.take j:=by
 unfold putE
 rw [List.append_assoc,List.take_append_of_le_length (by rw [List.length_take];omega),List.take_take,Nat.min_eq_left h]
theorem putE_mem (hk:k≤l.length) {j:Nat} (h:k≤j) {x:Ev} (hx:x ∈ (putE l k e).take (j+1)):x=e∨x ∈ l.take j:=by
  obtain⟨i,hi⟩:=List.getElem?_of_mem hx
  rw [List.getElem?_take] at hi
  split at hi
  · rename_i q
    have hev:evN (putE l k e) i=x:=by unfold evN;rw [hi];rfl
    have hlen:i<l.length+1:=by have:=(List.getElem?_eq_some_iff.1 hi).1;rwa [putE_len hk] at this
    rcases Nat.lt_trichotomy i k with z | z | z
    · rw [putE_lo hk z] at hev
      right
      rw [←hev]
      refine List.mem_of_getElem? (i:=i) ?_
      rw [List.getElem?_take_of_lt (by omega)]
      exact evN_at (by omega)
    · subst z;rw [putE_at hk] at hev;exact .inl hev.symm
    · obtain⟨m,rfl⟩:∃m,i=m+1:=⟨i - 1,by omega⟩
      rw [putE_hi hk (by omega)] at hev
      right
      rw [←hev]
      refine List.mem_of_getElem? (i:=m) ?_
      rw [List.getElem?_take_of_lt (by omega)]
      exact evN_at (by omega)
  · cases hi
theorem ins_put (hk:k≤l.length) (he:e.k=1) (hs:e.sun<0):Ins l (putE l k e) (phi k) where
 lt i hi:=by rw [putE_len hk];unfold phi;split <;> omega
 mono i j:=by unfold phi;split <;> split <;> omega
 ev i hi:=by
  unfold phi
  split
  · rename_i q;exact putE_lo hk q
  · exact putE_hi hk (by omega)
 or j hj:=by
  rw [putE_len hk] at hj
  rcases Nat.lt_trichotomy j k with z | z | z
  · exact .inl ⟨j,by omega,(phi_lo z).symm⟩
  · subst z;exact .inr (by rw [putE_at hk];exact⟨he,hs⟩)
  · exact .inl ⟨j - 1,by omega,by rw [phi_hi (by omega)];omega⟩
theorem put_events (hl:eventsB l=true) (hn:l.length≤15) (hk:k≤l.length) (hp:∀i,i<k→(evN l i).t<e.t∨((evN l i).t=e.t∧(evN l i).k=1)) (hx:k<l.length→¬((evN l k).t<e.t∨((evN l k).t=e.t∧(evN l k).k=1))) (hi:∀x ∈ l,x.k=1→x.i≤62)
    (hek:e.k=1) (het:0≤e.t∧e.t≤1000000) (hei:e.i=63) (her:Globe.validL e.rows=true) (hes:e.sun= -1) (hel:e.look=0):eventsB (putE l k e)=true:=by
  have h0:=hl
  unfold eventsB at hl ⊢
  rw [Bool.and_eq_true] at hl ⊢
  refine⟨?_,by rw [putE_len hk];exact decide_eq_true (by omega)⟩
  have hup:∀ {i},i<l.length→okE l i=true:=fun h=>okUp_at hl.1 h
  have hmem:∀ {i},i<l.length→evN l i ∈ l:=fun h=>List.mem_of_getElem? (evN_at h)
  unfold okUp
  rw [List.all_eq_true]
  intro j hj
  rw [List.mem_range,putE_len hk] at hj
  rcases Nat.lt_trichotomy j k with z | z | z
  · have h:=okE_iff.1 (hup (i:=j) (by omega))
    rw [okE_iff,putE_lo hk z,putE_take hk (by omega)]
    refine⟨h.1,h.2.1,h.2.2.1,h.2.2.2.1,?_⟩
    rcases Nat.eq_zero_or_pos j with q | q
    · exact .inl q
    · rw [putE_lo hk (by omega)];exact h.2.2.2.2
  · subst z
    rw [okE_iff,putE_at hk,putE_take hk (nr_ _)]
    refine⟨?_,by omega,het,by omega,?_⟩
    · unfold rightB
      rw [if_neg (by omega)]
      unfold rightA
      rw [her,hes,hel,Bool.and_eq_true]
      refine⟨by decide,?_⟩
      rw [Bool.not_eq_true',←Bool.not_eq_true,shotB_t]
      rintro⟨x,hx1,hx2,hx3⟩
      have:=hi x (List.mem_of_mem_take hx1) hx2
      omega
    · rcases Nat.eq_zero_or_pos j with q | q
      · exact .inl q
      · right
        rw [putE_lo hk (by omega),laterI_lt]
        rcases hp (j - 1) (by omega) with a | ⟨a,b⟩
        · exact .inl a
        · have:=hi _ (hmem (i:=j - 1) (by omega)) b
          exact .inr ⟨a,.inr ⟨by omega,by omega⟩⟩
  · obtain⟨m,rfl⟩:∃m,j=m+1:=⟨j - 1,by omega⟩
    have h:=okE_iff.1 (hup (i:=m) (by omega))
    rw [okE_iff,putE_hi hk (by omega)]
    refine⟨?_,h.2.1,h.2.2.1,h.2.2.2.1,?_⟩
    · have h1:=h.1
      unfold rightB at h1 ⊢
      by_cases q:(evN l m).k=2
      · rw [if_pos q] at h1 ⊢;exact h1
      · rw [if_neg q] at h1 ⊢
        unfold rightA at h1 ⊢
        rw [Bool.and_eq_true] at h1 ⊢
        refine⟨h1.1,?_⟩
        have h2:=h1.2
        rw [Bool.not_eq_true',←Bool.not_eq_true,shotB_t] at h2 ⊢
        rintro⟨x,hx1,hx2,hx3⟩
        rcases putE_mem hk (by omega) hx1 with rfl | hx4
        · have:=hi _ (hmem (i:=m) (by omega)) (by omega)
          omega
        · exact h2 ⟨x,hx4,hx2,hx3⟩
    · right
      rw [Nat.add_sub_cancel]
      rcases Nat.lt_or_ge k m with y | y
      · obtain⟨p,rfl⟩:∃p,m=p+1:=⟨m - 1,by omega⟩
        rw [putE_hi hk (by omega)]
        rcases h.2.2.2.2 with q | q
        · omega
        · exact q
      · obtain rfl:m=k:=by omega
        rw [putE_at hk,laterI_lt]
        have:=hx (by omega)
        have h3:=h.2.1
        omega
end
theorem bits_put {s k i:Nat} (b:Bool):Bdd.bits (s % 2 ^ k+(if b then 2 ^ k else 0)+s / 2 ^ k * 2 ^ (k+1)) (phi k i)=Bdd.bits s i:=by
  unfold Bdd.bits
  have hm:s % 2 ^ k<2 ^ k:=Nat.mod_lt _ (Nat.two_pow_pos k)
  have hlt:s % 2 ^ k+(if b then 2 ^ k else 0)<2 ^ (k+1):=by rw [Nat.pow_succ];split <;> omega
  rw [Nat.add_comm,Nat.mul_comm,Nat.testBit_two_pow_mul_add _ hlt]
  rcases Nat.lt_or_ge i k with z | z
  · rw [phi_lo z,if_pos (by omega)]
    cases b
    · rw [if_neg (by decide),Nat.add_zero,Nat.testBit_mod_two_pow];simp [z]
    · rw [if_pos rfl,Nat.add_comm,Nat.testBit_two_pow_add_gt z,Nat.testBit_mod_two_pow];simp [z]
  · rw [phi_hi z,if_neg (by omega),show i+1 - (k+1)=i - k by omega,Nat.testBit_div_two_pow,show i - k+k=i by omega]
theorem bits_lt {s k n:Nat} (hs:s<2 ^ n) (hk:k≤n) (b:Bool):s % 2 ^ k+(if b then 2 ^ k else 0)+s / 2 ^ k * 2 ^ (k+1)<2 ^ (n+1):=by
 have hm:s % 2 ^ k<2 ^ k:=Nat.mod_lt _ (Nat.two_pow_pos k)
 have e:2 ^ n=2 ^ (n - k) * 2 ^ k:=by rw [←Nat.pow_add];congr 1;omega
 have hd:s / 2 ^ k<2 ^ (n - k):=Nat.div_lt_of_lt_mul (by rw [Nat.mul_comm];omega)
 have h2:(s / 2 ^ k+1) * 2 ^ (k+1)≤2 ^ (n - k) * 2 ^ (k+1):=Nat.mul_le_mul_right _ hd
 have e2:2 ^ (n - k) * 2 ^ (k+1)=2 ^ (n+1):=by rw [←Nat.pow_add];congr 1;omega
 rw [Nat.add_mul,Nat.one_mul] at h2
 have:(2:Nat) ^ (k+1)=2 ^ k * 2:=Nat.pow_succ 2 k
 split <;> omega
end Evs
end Go.Proofs.YtpfajhcdfgpgmaaGreatDoor

namespace Go.Proofs.YtpfajhcdfgpgmaaGreatDoor
open Go.RowKit
open Bdd (nodes lit)
structure EvsC (w:World) (a:Option Addr) (n:Nat) (L:List REv):Prop where
 len:L.length=n
 at_:n=0∨∃b o,a=some ⟨b,o,none⟩∧CellsB evC 7 w b o L
def EvAA (w:World) (L:List REv):Prop:=∀x ∈ L,AA w x.2.ar x.1.rows x.2.nr (Globe.validL x.1.rows)
section
variable {w w':World} {a:Option Addr} {n k c:Nat} {L M:List REv}
theorem EvsC.ext (h:EvsC w a n L) (e:Ext w w'):EvsC w' a n L:=⟨h.len,h.at_.imp id fun ⟨b,o,h1,h2⟩=>⟨b,o,h1,h2.ext e⟩⟩
instance {w w':World} {a:Option Addr} {n:Nat} {L:List REv}:MvC w w' (EvsC w a n L) (EvsC w' a n L):=⟨fun e h=>h.ext e⟩
theorem EvAA.ext (h:EvAA w L) (e:Ext w w'):EvAA w' L:=fun x hx=>(h x hx).ext e
instance {w w':World} {L:List REv}:MvC w w' (EvAA w L) (EvAA w' L):=⟨fun e h=>h.ext e⟩
theorem EvAA.nil (w:World):EvAA w []:=fun x hx=>by cases hx
theorem EvAA.app (h:EvAA w L) (k:EvAA w M):EvAA w (L ++ M):=fun x hx=>(List.mem_append.1 hx).elim (h x) (k x)
theorem EvAA.take (h:EvAA w L) (k:Nat):EvAA w (L.take k):=fun x hx=>h x (List.mem_of_mem_take hx)
theorem EvAA.drop (h:EvAA w L) (k:Nat):EvAA w (L.drop k):=fun x hx=>h x (List.mem_of_mem_drop hx)
theorem EvAA.one {x:REv} (h:AA w x.2.ar x.1.rows x.2.nr (Globe.validL x.1.rows)):EvAA w [x]:=fun y hy=>by cases List.mem_singleton.1 hy;exact h
theorem EvsC.nil (w:World) (a:Option Addr):EvsC w a 0 []:=⟨rfl,.inl rfl⟩
theorem evs_of (h:EvsC w a n L) (h2:EvAA w L) (hn:n≤140737488355328):EvsAt w a n (L.map Prod.fst):=
 ⟨by rw [List.length_map];exact h.len,hn,h.at_.imp id fun ⟨b,o,h1,h3⟩=>⟨b,o,h1,fun i e he=>by
  rw [List.getElem?_map] at he
  cases hx:L[i]? with
  | none=>rw [hx] at he;cases he
  | some x=>
   rw [hx] at he;cases he
   have c:∀j u,(evC x)[j]? =some u→w.cell? ⟨b,o+i * 7+j,none⟩=some u:=fun j u hu=>h3 i x hx j u hu
   exact⟨x.2,c 0 _ rfl,c 1 _ rfl,c 2 _ rfl,c 3 _ rfl,c 4 _ rfl,c 5 _ rfl,c 6 _ rfl,h2 x (List.mem_of_getElem? hx)⟩⟩⟩
theorem EvsC.take_len (h:EvsC w a n L) (hk:k≤n):(L.take k).length=k:=by rw [List.length_take,h.len];omega
theorem EvsC.drop_len (h:EvsC w a n L):(L.drop k).length=n - k:=by rw [List.length_drop,h.len]
theorem EvsC.takes (h:EvsC w a n L) (hk:k≤n):k=0∨∃b o,a=some ⟨b,o,none⟩∧CellsB evC 7 w b o (L.take k):=by
 rcases h.at_ with q | ⟨b,o,h1,h2⟩
 · exact .inl (by omega)
 · exact .inr ⟨b,o,h1,h2.take k⟩
theorem EvsC.drops (h:EvsC w a n L) (hc:n≤c):n - k=0∨∃b o,(if c=k then a else a.map fun x=>x.add (k * 7))=some ⟨b,o,none⟩∧CellsB evC 7 w b o (L.drop k):=by
  rcases h.at_ with q | ⟨b,o,h1,h2⟩
  · exact .inl (by omega)
  · by_cases q:c=k
    · exact .inl (by omega)
    · refine .inr ⟨b,o+k * 7,?_,h2.drop k⟩
      rw [if_neg q,h1]
      show some (Addr.add ⟨b,o,none⟩ (k * 7))=_
      unfold Addr.add
      split
      · rename_i z;rw [z];rfl
      · rfl
theorem evsC_own {e:TypeId} {n₀:Nat} (h:OwnL (cellR evC) n₀ e 7 (.slice a n c) w L) (hl:L.length=n):EvsC w a n L:=
 ⟨hl,(Nat.eq_zero_or_pos n).imp id fun q=>by
  obtain⟨b,h1,_,_,h2⟩:=own_cells evC_len h hl q
  exact⟨b,0,h1,h2⟩⟩
theorem ev_box {b:Nat} {x:REv} (h0:w.cell? ⟨b,0,none⟩=some (.int .i64 x.1.k)) (h1:w.cell? ⟨b,1,none⟩=some (.int .i64 x.1.t)) (h2:w.cell? ⟨b,2,none⟩=some (.int .i64 x.1.i)) (h3:w.cell? ⟨b,3,none⟩=some (.slice x.2.ar x.2.nr x.2.cr)) (h4:w.cell? ⟨b,4,none⟩=some (.int .i64 x.1.sun)) (h5:w.cell? ⟨b,5,none⟩=some (.int .i64 x.1.look)) (h6:w.cell? ⟨b,6,none⟩=some (.bool x.1.cl)):CellsB evC 7 w b 0 [x]:=CellsB.one fun i u hu=>by
 rw [Nat.zero_add]
 match i,hu with
 | 0,hu=>cases hu;exact h0
 | 1,hu=>cases hu;exact h1
 | 2,hu=>cases hu;exact h2
 | 3,hu=>cases hu;exact h3
 | 4,hu=>cases hu;exact h4
 | 5,hu=>cases hu;exact h5
 | 6,hu=>cases hu;exact h6
 | n+7,hu=>cases hu
end
theorem lbd9 {n:Nat} {t:Bdd.D} (h:Bdd.OK 0 n t) (hn:n≤9):(nodes t).length≤511:=by
 have h1:=Bdd.nodes_len h
 have h2:2 ^ n≤2 ^ 9:=Nat.pow_le_pow_right (by decide) hn
 omega
theorem validT9 {n:Nat} {t:Bdd.D} (h:Bdd.OK 0 n t) (hn:n≤9):Bdd.validB ((n:Nat):Int) (Bdd.start t) (nodes t)=true:=Bdd.mach_valid h (by omega) (by have:=lbd9 h hn;omega)
theorem goalT_ok9 (l:List Ev) (g:Goal):Bdd.OK 0 l.length (Evs.goalT l.length l 4 g lit):=Evs.goalT_ok fun _ hi=>Bdd.lit_ok hi
theorem comp9 {l:List Ev} {g:Goal} (hg:Gol.validG g=true) (hl:Evs.eventsB l=true) (h9:l.length≤9):Evs.compO l g=some (((l.length:Nat):Int),Bdd.start (Evs.goalT l.length l 4 g lit),nodes (Evs.goalT l.length l 4 g lit)):=by
 have hb:=lbd9 (goalT_ok9 l g) h9
 unfold Evs.compO
 rw [if_pos ⟨hg,hl⟩]
 exact if_pos (by omega)
theorem Compile_9 {w0:World} {ae:Option Addr} {n ce:Nat} {l:List Ev} {g:Goal} {x:GC} (w:World) (hT:Tab w0) (H:EvsAt w0 ae n l) (HG:GOp w0 g x) (e0:Ext w0 w) (hg:Gol.validG g=true) (hl:Evs.eventsB l=true) (h9:n≤9):Calls Tryz.prog 10 #[.agg #[.int .i64 g.f.k,.slice x.ar x.nr x.cr,.int .i64 g.f.sf,.int .i64 g.f.st,.int .i64 g.f.lo,.int .i64 g.f.hi,.bool g.f.cl,.int .i64 g.f.dy,.int .i64 g.f.tm,.int .i64 g.f.wi,.slice x.ac x.nc x.cc,.slice x.ak x.nk x.ck],.slice ae n ce] w fun e w'=>∃t a c,e= .returned (.tuple #[.agg #[.int .i64 ((n:Nat):Int),.int .i64 (Bdd.start t),.slice a (nodes t).length c],.int .i64 0])∧t=Evs.goalT n l 4 g lit∧Bdd.OK 0 n t∧NdsAt w' a (nodes t).length (nodes t)∧Ext w w':=by
 have hn:=H.len
 subst hn
 refine (Compile_t w hT H HG e0 hg hl).mono fun e w' h=>?_
 obtain⟨a,c,h1,h2,h3⟩:=opt_some h (comp9 hg hl h9) rfl
 exact⟨_,a,c,h1,rfl,goalT_ok9 l g,h2,h3⟩
theorem Accepts_9 {w1:World} {a1:Option Addr} {n:Nat} {t1:Bdd.D} {b:Bool} {V:Nat} (c:Nat) (w:World) (hn:n≤9) (o1:Bdd.OK 0 n t1) (H:NdsAt w1 a1 (nodes t1).length (nodes t1)) (e0:Ext w1 w) (hV:V<2 ^ n) (h:Bdd.sem t1 (Bdd.bits V)=b):Calls Tryz.prog 16 #[.agg #[.int .i64 ((n:Nat):Int),.int .i64 (Bdd.start t1),.slice a1 (nodes t1).length c],.int .i64 ((V:Nat):Int)] w fun e w'=>e= .returned (.bool b)∧Ext w w':=
 Accepts_r _ c w H e0 (by rw [Bdd.acc_is (validT9 o1 hn) (by rw [Int.toNat_natCast];exact hV),Bdd.mach_tree o1];exact h)
theorem Valid_9 {w1:World} {a1:Option Addr} {n:Nat} {t1:Bdd.D} (c:Nat) (w:World) (hn:n≤9) (o1:Bdd.OK 0 n t1) (H:NdsAt w1 a1 (nodes t1).length (nodes t1)) (e0:Ext w1 w):Calls Tryz.prog 15 #[.agg #[.int .i64 ((n:Nat):Int),.int .i64 (Bdd.start t1),.slice a1 (nodes t1).length c]] w fun e w'=>e= .returned (.bool true)∧Ext w w':=Valid_r c w H e0 (validT9 o1 hn)
namespace Evs
theorem more_acc {l:List Ev} {g:Goal} {s m:Nat} (h:Bdd.sem (goalT l.length l 4 g lit) (Bdd.bits s)=true):Bdd.sem (goalT l.length l 4 g lit) (Bdd.bits (s ||| m))=true:=by
 have hor:∀k,Bdd.bits s k=true→Bdd.bits (s ||| m) k=true:=fun k hk=>by
  unfold Bdd.bits at *;rw [Nat.testBit_or,hk];rfl
 rw [goalT_sem rfl _ fun i hi=>Bdd.lit_ok hi] at h ⊢
 exact goalP_mono (fun k _=>hor k) (fun i _ hi=>(lit_sem i).2 (hor i ((lit_sem i).1 hi))) h
theorem dark_acc {l:List Ev} {g:Goal} {s k:Nat} {e:Ev} (hg:Gol.validG g=true) (hk:k≤l.length) (he:e.k=1) (hs:e.sun<0) (b:Bool) {n:Nat} (hn:n=l.length+1):Bdd.sem (goalT n (putE l k e) 4 g lit) (Bdd.bits (s % 2 ^ k+(if b then 2 ^ k else 0)+s / 2 ^ k * 2 ^ (k+1)))=Bdd.sem (goalT l.length l 4 g lit) (Bdd.bits s):=by
 rw [Bool.eq_iff_iff,goalT_sem (hn.trans (putE_len hk).symm) _ fun i hi=>Bdd.lit_ok (by rw [hn,←putE_len hk];exact hi),goalT_sem rfl _ fun i hi=>Bdd.lit_ok hi]
 exact (ins_put hk he hs).goal (fun i _=>by rw [bits_put]) (valid_dg hg) fun i _=>by rw [lit_sem,lit_sem,bits_put]
end Evs
end Go.Proofs.YtpfajhcdfgpgmaaGreatDoor

namespace Go.Proofs.YtpfajhcdfgpgmaaGreatDoor
variable {l:List Ev} {w w0:World} {a:Option Addr} {ml:Nat}
set_option maxRecDepth 1000000
set_option maxHeartbeats 4000000
set_option synthInstance.maxHeartbeats 0
set_option synthInstance.maxSize 9999
open Go.RowKit
namespace Evs
theorem shot_found {i k:Nat} {x:Int} (hk:k<i) (hi:i<l.length) (h1:(evN l k).k=1) (h2:(evN l k).i=x):shotB (l.take i) x=true:=shotB_t.2 ⟨evN l k,List.mem_of_getElem? (i:=k) (by rw [List.getElem?_take_of_lt hk];exact evN_at (by omega)),h1,h2⟩
end Evs
theorem Pr.of_wr {m:Nat} {X:Nat→Prop} {w':World} (h:Wr X w w') (hX:∀k,X k→k<m):Pr m w w':=fun b _o _u hb hu=>h.cell (fun q=>absurd (hX b q) (Nat.not_lt.2 hb)) hu
theorem EvAA.of {l:List REv} {x:Ev × EC} (h:EvAA w l) (hx:x ∈ l):AA w x.2.ar x.1.rows x.2.nr (Globe.validL x.1.rows):=h x hx
theorem Goal_c {n c:Nat} {q:Nat→Nat→Int} (w:World) (H:X5 w0 a n q) (e0:Ext w0 w):Calls Tryz.prog 7 #[.slice a n c] w fun e w'=>∃(g:Goal) (x:GC),e= .returned (gw g.f x.ar x.nr x.cr x.ac x.nc x.cc x.ak x.nk x.ck)∧Gol.validG g=true∧GOp w' g x∧Ext w w':=by
 have Cp:=e0.size;refine cC_ 13 [(0,.slice a n c)] Tryz.func7 Tryz.ntmps7 (fun L=>?_);have hE:=er_ w;refine zc (zp (pS (sw 33 z33 ?_)));intro O1 X2 Ck Cy hb hbx;have⟨Bw,C1,C2,C3,C4,C5,C6,C7,C8,C9,Bx,Bz⟩:=bq12 hbx;refine nv2 hb e0 hE fun e0 hE Cq=>?_;have Cr:=Bw.lt;refine pl_nil (qw_then ?_);refine cw_seq ?_;have Bs:=er_ X2;refine zp (pT (.slice a n c) ?_);refine pS (sc 40 #[.slice a n c,iv 0,iv 1,iv 9] ((goals_c H 4 0 1 9 _ e0 (by omega) (by omega) (by omega)).mono ?_));rintro e w6 ⟨g2,x2,u2,rfl,Cn,Cx,hgn,hb⟩;refine nv2 hb hE Bs fun hE Bs Cm=>?_;have C0:Wr (fun k=>k=O1) w6 w6:=Wr.refl _ _;refine⟨_,rfl,pD (.tuple #[gw g2.f x2.ar x2.nr x2.cr x2.ac x2.nc x2.cc x2.ak x2.nk x2.ck,iv u2,iv u2]) (gw g2.f x2.ar x2.nr x2.cr x2.ac x2.nc x2.cc x2.ak x2.nk x2.ck) ?_⟩;refine pD (iv u2) (iv u2) ?_;refine pS (sw 33 z33 ?_);intro O8 X9 Bv Cz hb hbx;have⟨Bh,Bi,Bj,Bk,Bl,Bm,Bo,Bp,Bq,Br,B0,B1⟩:=bq12 hbx;refine mv2 hb hE Bs fun hE Bs=>?_;replace C0:=C0.step hb;have Cu:=hb.size;have D0:=Bh.lt;refine pP (k33 O8 g2.f.k x2.ar x2.nr x2.cr g2.f.sf g2.f.st g2.f.lo g2.f.hi g2.f.cl g2.f.dy g2.f.tm g2.f.wi x2.ac x2.nc x2.cc x2.ak x2.nk x2.ck Bh Bi Bj Bk Bl Bm Bo Bp Bq Br B0 B1 ?_);intro Co ho Bh Bi Bj Bk Bl Bm Bo Bp Bq Br B0 B1 hk;refine he2 ho hE Bs fun hE Bs=>?_;replace C0:=C0.turn ho (.inr (nq_ Bv));have Cv:=nq_ ho.size.symm;clear ho hk;refine pD (iv u2) (iv u2) ?_;refine zn (zc (zp (pU (gw g2.f x2.ar x2.nr x2.cr x2.ac x2.nc x2.cc x2.ak x2.nk x2.ck) (xl (ld33 (Bh.1) (Bi.1) (Bj.1) (Bk.1) (Bl.1) (Bm.1) (Bo.1) (Bp.1) (Bq.1) (Br.1) (B0.1) (B1.1))) ?_)));have B2:=(Bw.x Bs);have B3:=(C1.x Bs);have B4:=(C2.x Bs);have B5:=(C3.x Bs);have B6:=(C4.x Bs);have B7:=(C5.x Bs);have B8:=(C6.x Bs);have Ba:=(C7.x Bs);have Bc:=(C8.x Bs);have Be:=(C9.x Bs);have Bf:=(Bx.x Bs);have Bg:=(Bz.x Bs);refine pP (k33 O1 g2.f.k x2.ar x2.nr x2.cr g2.f.sf g2.f.st g2.f.lo g2.f.hi g2.f.cl g2.f.dy g2.f.tm g2.f.wi x2.ac x2.nc x2.cc x2.ak x2.nk x2.ck B2 B3 B4 B5 B6 B7 B8 Ba Bc Be Bf Bg ?_);intro Ct ho B2 B3 B4 B5 B6 B7 B8 Ba Bc Be Bf Bg hk;replace hE:=ho.ext hE (nq_ Ck);replace C0:=C0.turn ho (.inl (rfl));have q9:=ho.bx O8 (by omega);clear q9;have Cw:=nq_ ho.size.symm;clear ho hk;refine zn (ct_ (qw_ret [gw g2.f x2.ar x2.nr x2.cr x2.ac x2.nc x2.cc x2.ak x2.nk x2.ck] rfl ⟨⟨_,by kernel_rfl,res_ld (ld33 (B2.1) (B3.1) (B4.1) (B5.1) (B6.1) (B7.1) (B8.1) (Ba.1) (Bc.1) (Be.1) (Bf.1) (Bg.1))⟩,trivial⟩ ?_));refine⟨g2,x2,rfl,?_,hgn _ (Pr.of_wr C0 fun k q=>q ▸ (nl_ Cr (nr_ _))),hE⟩;unfold Gol.validG;rw [Cn];exact decide_eq_true (by omega)
theorem rEvents_c (c:Nat) (w:World) (H:EvsAt w0 a ml l) (e0:Ext w0 w):Calls Tryz.prog 14 #[.slice a ml c] w fun e w'=>e= .returned (.bool (Evs.eventsB l))∧Ext w w':=by
 have Cm:=e0.size;obtain⟨be,oe,hae,hbe,hxe⟩:=H.parts';have hlne:=H.len;have hmxe:=H.max;refine cC_ 152 [(0,.slice a ml c)] Tryz.func14 Tryz.ntmps14 (fun L=>?_);have hE:=er_ w;refine zc (zp (pT (.bool false) ?_));refine zn (zc (zc (zp (pT (iv 0) ?_))));refine zn (cb_ ?_);refine cw_loop [0,3] (fun ws' wr m=>∃i:Nat,ws'= [(0,.slice a ml c),(3,iv i)]∧m=ml - i∧w.heap.size≤wr.heap.size∧Ext w0 wr∧Ext w wr∧(i≤ml∧i≤17)∧Evs.okUp l i=true) (ws0:=[(0,.slice a ml c),(3,iv 0)]) (by kernel_rfl) _ ⟨0,rfl,rfl,nr_ _,e0,hE,(by omega),rfl⟩ ?_;clear e0 hE;rintro m3 L ws w2 ⟨i,rfl,rfl,Bt,e0,hE,hi,hup⟩
 by_cases hlt:i<ml
 ·by_cases Cu:i<17
  ·obtain rfl:=hae (by omega);have hbel:=hbe (by omega);obtain⟨Ba,B3,Be,Bg⟩:=hxe i (by omega);obtain⟨c9,Ch⟩:∃q,(evN l i).cl=q:=⟨_,rfl⟩;have C5:=Bg.c6;rw [Ch] at C5;refine zc (zc (zp (pD (iv i) (sv be oe ml c) ?_)));refine pT (iv ml) ?_;refine pUD (.bool true) (ed (((i:Nat):Int)<((ml:Nat):Int)) (by omega)) (.bool true) (iv i) ?_;refine pUT (.bool true) (ed (((i:Nat):Int)<(17:Int)) (by omega)) (.bool true) ?_;refine zn (zt ?_);refine cs_ (zq (zc (cb_ ?_)));refine zc (zp (pD (sv be oe ml c) (iv i) ?_));refine pU (pw be (oe+i * 7)) (xi (sv be oe ml c) (iv i) (ix36 (k:=i) (by omega))) ?_;refine pU (.agg #[iv ((evN l i).k),iv ((evN l i).t),iv ((evN l i).i),.slice Ba B3 Be,iv ((evN l i).sun),iv ((evN l i).look),.bool c9]) (xl (ld28 ((e0.cell Bg.c0)) ((e0.cell Bg.c1)) ((e0.cell Bg.c2)) ((e0.cell Bg.c3')) ((e0.cell Bg.c4)) ((e0.cell Bg.c5)) ((e0.cell C5)))) ?_;refine pS (sw 28 z28 ?_);intro O4 X5 Ce D1 hb hbx;have⟨B8,B1,B6,B7,B4,Bc,Bl⟩:=bq7 hbx;refine nv2 hb e0 hE fun e0 hE C3=>?_;have Dn:=B8.lt;refine pP (k28 O4 ((evN l i).k:Int) ((evN l i).t:Int) ((evN l i).i:Int) Ba B3 Be ((evN l i).sun:Int) ((evN l i).look:Int) c9 B8 B1 B6 B7 B4 Bc Bl ?_);intro X8 ho B8 B1 B6 B7 B4 Bc Bl hk;refine he2 ho e0 hE fun e0 hE=>?_;have C4:=nq_ ho.size.symm;clear ho hk;refine zn (cK [0,3,4] (fun L=>?_));refine cw_seq ?_;refine cw_seq ?_;have B0:=er_ X8
   by_cases Dg:(evN l i).t<0
   ·refine zp (pT (pw O4 1) ?_);refine pU (iv ((evN l i).t)) (xl (ld3 (B1.1))) ?_;refine pUT (.bool true) (ed (((evN l i).t:Int)<(0:Int)) (by omega)) (.bool true) ?_;refine pK3 ?_;refine pD (.bool true) (.bool true) ?_;refine pK3 ?_;refine pD (.bool true) (.bool true) ?_;refine pK3 ?_;refine pT (.bool true) ?_;refine zn (cK [0,3,4,38] (fun L=>?_));refine zt ?_;refine zc (zp (pT (.bool false) ?_));refine zn (ct_ (qt (qb (qt (qt (qb (qt (zR (.bool false) ?_))))))));rw [Evs.ev_no (i:=i) (by omega) (fun q=>by have h9:=(Evs.okE_iff.1 q).2;omega)];exact⟨rfl,hE⟩
   ·by_cases Dh:(evN l i).t>1000000
    ·refine zp (pT (pw O4 1) ?_);refine pU (iv ((evN l i).t)) (xl (ld3 (B1.1))) ?_;refine pUD (.bool false) (en (((evN l i).t:Int)<(0:Int)) (by omega)) (.bool false) (pw O4 1) ?_;refine pU (iv ((evN l i).t)) (xl (ld3 (B1.1))) ?_;refine pUD (.bool true) (ed (((evN l i).t:Int)>(1000000:Int)) (by omega)) (.bool true) (.bool true) ?_;refine pK3 ?_;refine pD (.bool true) (.bool true) ?_;refine pK3 ?_;refine pT (.bool true) ?_;refine zn (cK [0,3,4,38] (fun L=>?_));refine zt ?_;refine zc (zp (pT (.bool false) ?_));refine zn (ct_ (qt (qb (qt (qt (qb (qt (zR (.bool false) ?_))))))));rw [Evs.ev_no (i:=i) (by omega) (fun q=>by have h9:=(Evs.okE_iff.1 q).2;omega)];exact⟨rfl,hE⟩
    ·by_cases Di:(evN l i).i<0
     ·refine zp (pT (pw O4 1) ?_);refine pU (iv ((evN l i).t)) (xl (ld3 (B1.1))) ?_;refine pUD (.bool false) (en (((evN l i).t:Int)<(0:Int)) (by omega)) (.bool false) (pw O4 1) ?_;refine pU (iv ((evN l i).t)) (xl (ld3 (B1.1))) ?_;refine pX3 (.bool false) (en (((evN l i).t:Int)>(1000000:Int)) (by omega)) (.bool false) (.bool false) (pw O4 2) ?_;refine pU (iv ((evN l i).i)) (xl (ld3 (B6.1))) ?_;refine pUD (.bool true) (ed (((evN l i).i:Int)<(0:Int)) (by omega)) (.bool true) (.bool true) ?_;refine pK3 ?_;refine pT (.bool true) ?_;refine zn (cK [0,3,4,38] (fun L=>?_));refine zt ?_;refine zc (zp (pT (.bool false) ?_));refine zn (ct_ (qt (qb (qt (qt (qb (qt (zR (.bool false) ?_))))))));rw [Evs.ev_no (i:=i) (by omega) (fun q=>by have h9:=(Evs.okE_iff.1 q).2;omega)];exact⟨rfl,hE⟩
     ·by_cases Dj:(evN l i).i>63
      ·refine zp (pT (pw O4 1) ?_);refine pU (iv ((evN l i).t)) (xl (ld3 (B1.1))) ?_;refine pUD (.bool false) (en (((evN l i).t:Int)<(0:Int)) (by omega)) (.bool false) (pw O4 1) ?_;refine pU (iv ((evN l i).t)) (xl (ld3 (B1.1))) ?_;refine pX3 (.bool false) (en (((evN l i).t:Int)>(1000000:Int)) (by omega)) (.bool false) (.bool false) (pw O4 2) ?_;refine pU (iv ((evN l i).i)) (xl (ld3 (B6.1))) ?_;refine pX3 (.bool false) (en (((evN l i).i:Int)<(0:Int)) (by omega)) (.bool false) (.bool false) (pw O4 2) ?_;refine pU (iv ((evN l i).i)) (xl (ld3 (B6.1))) ?_;refine pUT (.bool true) (ed (((evN l i).i:Int)>(63:Int)) (by omega)) (.bool true) ?_;refine zn (cK [0,3,4,38] (fun L=>?_));refine zt ?_;refine zc (zp (pT (.bool false) ?_));refine zn (ct_ (qt (qb (qt (qt (qb (qt (zR (.bool false) ?_))))))));rw [Evs.ev_no (i:=i) (by omega) (fun q=>by have h9:=(Evs.okE_iff.1 q).2;omega)];exact⟨rfl,hE⟩
      ·refine zp (pT (pw O4 1) ?_);refine pU (iv ((evN l i).t)) (xl (ld3 (B1.1))) ?_;refine pUD (.bool false) (en (((evN l i).t:Int)<(0:Int)) (by omega)) (.bool false) (pw O4 1) ?_;refine pU (iv ((evN l i).t)) (xl (ld3 (B1.1))) ?_;refine pX3 (.bool false) (en (((evN l i).t:Int)>(1000000:Int)) (by omega)) (.bool false) (.bool false) (pw O4 2) ?_;refine pU (iv ((evN l i).i)) (xl (ld3 (B6.1))) ?_;refine pX3 (.bool false) (en (((evN l i).i:Int)<(0:Int)) (by omega)) (.bool false) (.bool false) (pw O4 2) ?_;refine pU (iv ((evN l i).i)) (xl (ld3 (B6.1))) ?_;refine pUT (.bool false) (en (((evN l i).i:Int)>(63:Int)) (by omega)) (.bool false) ?_;refine zn (cK [0,3,4,38] (fun L=>?_));refine zf ?_;refine cs_ (zq (zc (zc (zp (pT (pw O4 0) ?_)))));refine pU (iv ((evN l i).k)) (xl (ld3 (B8.1))) ?_;refine zn (cw_join (fun ws' wr=>ws'= [(0,sv be oe ml c),(3,iv i),(4,pw O4 0)]∧X8.heap.size≤wr.heap.size∧Ext w0 wr∧Ext w wr∧Ext X8 wr∧Evs.rightB (Evs.shotB (l.take i) (evN l i).i) (evN l i)=true∧(1≤(evN l i).k∧(evN l i).k≤2)) (fun hJ=>?_) ?_)
       ·refine cb_ ?_;refine cw_seq ?_
        by_cases Bs:(evN l i).k=1
        ·refine zp (pU (.bool true) (eE ((evN l i).k:Int) (1:Int) (Bs)) ?_);refine pT (.bool true) ?_;refine zn (zt ?_);refine zc (cw_seq ?_);obtain⟨b1,Bu⟩:∃q,Globe.validL (evN l i).rows=q:=⟨_,rfl⟩
         cases b1
         ·refine zp (pT (pw O4 3) ?_);refine pU (.agg #[.slice Ba B3 Be]) (xl (ld26 (B7.1))) ?_;refine pS (sc 55 #[.agg #[.slice Ba B3 Be]] ((rValidP_r _ _ Bg.aa' e0 Bu).mono ?_));rintro e Dp ⟨rfl,hb⟩;refine nv3 hb e0 hE B0 fun e0 hE B0 Cv=>?_;refine⟨_,rfl,pD (.bool true) (.bool true) ?_⟩;refine pK3 ?_;refine pD (.bool true) (.bool true) ?_;refine pK3 ?_;refine pD (.bool true) (.bool true) ?_;refine pK3 ?_;refine pD (.bool true) (.bool true) ?_;refine pK3 ?_;refine pT (.bool true) ?_;refine zn (cK [0,3,4,66] (fun L=>?_));refine zt ?_;refine zc (zp (pT (.bool false) ?_));refine zn (ct_ (qt (qb (qt (qb (qt (qt (qb (qt (zR (.bool false) ?_))))))))));rw [Evs.ev_no (i:=i) (by omega) (fun q=>by have h9:=(Evs.rightB_1 Bs).1 (Evs.okE_iff.1 q).1;rw [Bu] at h9;cases h9.1)];exact⟨rfl,hE⟩
         ·by_cases Bt:(evN l i).sun< -90
          ·refine zp (pT (pw O4 3) ?_);refine pU (.agg #[.slice Ba B3 Be]) (xl (ld26 (B7.1))) ?_;refine pS (sc 55 #[.agg #[.slice Ba B3 Be]] ((rValidP_r _ _ Bg.aa' e0 Bu).mono ?_));rintro e Dq ⟨rfl,hb⟩;refine nv3 hb e0 hE B0 fun e0 hE B0 Cw=>?_;refine⟨_,rfl,pD (.bool false) (.bool false) ?_⟩;refine pT (pw O4 4) ?_;refine pU (iv ((evN l i).sun)) (xl (ld3 (B4.c B0))) ?_;refine pUD (.bool true) (ed (((evN l i).sun:Int)<(-90:Int)) (by omega)) (.bool true) (.bool true) ?_;refine pK3 ?_;refine pD (.bool true) (.bool true) ?_;refine pK3 ?_;refine pD (.bool true) (.bool true) ?_;refine pK3 ?_;refine pT (.bool true) ?_;refine zn (cK [0,3,4,66] (fun L=>?_));refine zt ?_;refine zc (zp (pT (.bool false) ?_));refine zn (ct_ (qt (qb (qt (qb (qt (qt (qb (qt (zR (.bool false) ?_))))))))));rw [Evs.ev_no (i:=i) (by omega) (fun q=>by have h9:=(Evs.rightB_1 Bs).1 (Evs.okE_iff.1 q).1;omega)];exact⟨rfl,hE⟩
          ·by_cases Dk:(evN l i).sun>90
           ·refine zp (pT (pw O4 3) ?_);refine pU (.agg #[.slice Ba B3 Be]) (xl (ld26 (B7.1))) ?_;refine pS (sc 55 #[.agg #[.slice Ba B3 Be]] ((rValidP_r _ _ Bg.aa' e0 Bu).mono ?_));rintro e Dr ⟨rfl,hb⟩;refine nv3 hb e0 hE B0 fun e0 hE B0 Cx=>?_;refine⟨_,rfl,pD (.bool false) (.bool false) ?_⟩;refine pT (pw O4 4) ?_;refine pU (iv ((evN l i).sun)) (xl (ld3 (B4.c B0))) ?_;refine pX3 (.bool false) (en (((evN l i).sun:Int)<(-90:Int)) (by omega)) (.bool false) (.bool false) (pw O4 4) ?_;refine pU (iv ((evN l i).sun)) (xl (ld3 (B4.c B0))) ?_;refine pUD (.bool true) (ed (((evN l i).sun:Int)>(90:Int)) (by omega)) (.bool true) (.bool true) ?_;refine pK3 ?_;refine pD (.bool true) (.bool true) ?_;refine pK3 ?_;refine pT (.bool true) ?_;refine zn (cK [0,3,4,66] (fun L=>?_));refine zt ?_;refine zc (zp (pT (.bool false) ?_));refine zn (ct_ (qt (qb (qt (qb (qt (qt (qb (qt (zR (.bool false) ?_))))))))));rw [Evs.ev_no (i:=i) (by omega) (fun q=>by have h9:=(Evs.rightB_1 Bs).1 (Evs.okE_iff.1 q).1;omega)];exact⟨rfl,hE⟩
           ·by_cases Dl:(evN l i).look< -4
            ·refine zp (pT (pw O4 3) ?_);refine pU (.agg #[.slice Ba B3 Be]) (xl (ld26 (B7.1))) ?_;refine pS (sc 55 #[.agg #[.slice Ba B3 Be]] ((rValidP_r _ _ Bg.aa' e0 Bu).mono ?_));rintro e Dt ⟨rfl,hb⟩;refine nv3 hb e0 hE B0 fun e0 hE B0 Cy=>?_;refine⟨_,rfl,pD (.bool false) (.bool false) ?_⟩;refine pT (pw O4 4) ?_;refine pU (iv ((evN l i).sun)) (xl (ld3 (B4.c B0))) ?_;refine pX3 (.bool false) (en (((evN l i).sun:Int)<(-90:Int)) (by omega)) (.bool false) (.bool false) (pw O4 4) ?_;refine pU (iv ((evN l i).sun)) (xl (ld3 (B4.c B0))) ?_;refine pX3 (.bool false) (en (((evN l i).sun:Int)>(90:Int)) (by omega)) (.bool false) (.bool false) (pw O4 5) ?_;refine pU (iv ((evN l i).look)) (xl (ld3 (Bc.c B0))) ?_;refine pUD (.bool true) (ed (((evN l i).look:Int)<(-4:Int)) (by omega)) (.bool true) (.bool true) ?_;refine pK3 ?_;refine pT (.bool true) ?_;refine zn (cK [0,3,4,66] (fun L=>?_));refine zt ?_;refine zc (zp (pT (.bool false) ?_));refine zn (ct_ (qt (qb (qt (qb (qt (qt (qb (qt (zR (.bool false) ?_))))))))));rw [Evs.ev_no (i:=i) (by omega) (fun q=>by have h9:=(Evs.rightB_1 Bs).1 (Evs.okE_iff.1 q).1;omega)];exact⟨rfl,hE⟩
            ·by_cases Dm:(evN l i).look>4
             ·refine zp (pT (pw O4 3) ?_);refine pU (.agg #[.slice Ba B3 Be]) (xl (ld26 (B7.1))) ?_;refine pS (sc 55 #[.agg #[.slice Ba B3 Be]] ((rValidP_r _ _ Bg.aa' e0 Bu).mono ?_));rintro e Du ⟨rfl,hb⟩;refine nv3 hb e0 hE B0 fun e0 hE B0 Cz=>?_;refine⟨_,rfl,pD (.bool false) (.bool false) ?_⟩;refine pT (pw O4 4) ?_;refine pU (iv ((evN l i).sun)) (xl (ld3 (B4.c B0))) ?_;refine pX3 (.bool false) (en (((evN l i).sun:Int)<(-90:Int)) (by omega)) (.bool false) (.bool false) (pw O4 4) ?_;refine pU (iv ((evN l i).sun)) (xl (ld3 (B4.c B0))) ?_;refine pX3 (.bool false) (en (((evN l i).sun:Int)>(90:Int)) (by omega)) (.bool false) (.bool false) (pw O4 5) ?_;refine pU (iv ((evN l i).look)) (xl (ld3 (Bc.c B0))) ?_;refine pX3 (.bool false) (en (((evN l i).look:Int)<(-4:Int)) (by omega)) (.bool false) (.bool false) (pw O4 5) ?_;refine pU (iv ((evN l i).look)) (xl (ld3 (Bc.c B0))) ?_;refine pUT (.bool true) (ed (((evN l i).look:Int)>(4:Int)) (by omega)) (.bool true) ?_;refine zn (cK [0,3,4,66] (fun L=>?_));refine zt ?_;refine zc (zp (pT (.bool false) ?_));refine zn (ct_ (qt (qb (qt (qb (qt (qt (qb (qt (zR (.bool false) ?_))))))))));rw [Evs.ev_no (i:=i) (by omega) (fun q=>by have h9:=(Evs.rightB_1 Bs).1 (Evs.okE_iff.1 q).1;omega)];exact⟨rfl,hE⟩
             ·refine zp (pT (pw O4 3) ?_);refine pU (.agg #[.slice Ba B3 Be]) (xl (ld26 (B7.1))) ?_;refine pS (sc 55 #[.agg #[.slice Ba B3 Be]] ((rValidP_r _ _ Bg.aa' e0 Bu).mono ?_));rintro e D4 ⟨rfl,hb⟩;refine nv3 hb e0 hE B0 fun e0 hE B0 Ci=>?_;refine⟨_,rfl,pD (.bool false) (.bool false) ?_⟩;refine pT (pw O4 4) ?_;refine pU (iv ((evN l i).sun)) (xl (ld3 (B4.c B0))) ?_;refine pX3 (.bool false) (en (((evN l i).sun:Int)<(-90:Int)) (by omega)) (.bool false) (.bool false) (pw O4 4) ?_;refine pU (iv ((evN l i).sun)) (xl (ld3 (B4.c B0))) ?_;refine pX3 (.bool false) (en (((evN l i).sun:Int)>(90:Int)) (by omega)) (.bool false) (.bool false) (pw O4 5) ?_;refine pU (iv ((evN l i).look)) (xl (ld3 (Bc.c B0))) ?_;refine pX3 (.bool false) (en (((evN l i).look:Int)<(-4:Int)) (by omega)) (.bool false) (.bool false) (pw O4 5) ?_;refine pU (iv ((evN l i).look)) (xl (ld3 (Bc.c B0))) ?_;refine pUT (.bool false) (en (((evN l i).look:Int)>(4:Int)) (by omega)) (.bool false) ?_;refine zn (cK [0,3,4,66] (fun L=>?_));refine zf ?_;refine cs_ (zq (zc (zp (pT (iv 0) ?_))));refine zn (cb_ ?_);refine cw_loop [0,3,4,5] (fun ws' wr m=>∃k:Nat,ws'= [(0,sv be oe ml c),(3,iv i),(4,pw O4 0),(5,iv k)]∧m=i - k∧D4.heap.size≤wr.heap.size∧Ext w0 wr∧Ext w wr∧Ext X8 wr∧k≤i∧Evs.shotB (l.take k) (evN l i).i=false) (ws0:=[(0,sv be oe ml c),(3,iv i),(4,pw O4 0),(5,iv 0)]) (by kernel_rfl) _ ⟨0,rfl,rfl,nr_ _,e0,hE,B0,Nat.zero_le _,rfl⟩ ?_;clear e0 hE B0;rintro Do L ws Dv ⟨k,rfl,rfl,Bz,e0,hE,B0,hk,hsh⟩
              by_cases hlt:k<i
              ·obtain⟨Cp,D3,Cq,Bo⟩:=hxe k (by omega);refine zc (zc (zp (pD (iv k) (iv i) ?_)));refine pU (.bool true) (ed (((k:Nat):Int)<((i:Nat):Int)) (by omega)) ?_;refine zn (zt ?_);refine cs_ (zq (zc (cb_ ?_)));refine cw_seq ?_
               by_cases C6:(evN l k).k=1
               ·by_cases Cf:(evN l k).i=(evN l i).i
                ·refine dT (fun w'=>w'.cell? ⟨be,oe+k * 7,none⟩=some (iv ((evN l k).k))∧w'.cell? ⟨be,oe+k * 7+2,none⟩=some (iv ((evN l k).i))∧w'.cell? ⟨O4,2,none⟩=some (iv ((evN l i).i))) (⟨(e0.cell Bo.c0),(e0.cell Bo.c2),(B6.x B0).1⟩) (fun ops Q D5 hb hL hR hK=>?_);refine nv3 hb e0 hE B0 fun e0 hE B0 D0=>?_;have hS:=A3 (e0.cell Bo.c0) (e0.cell Bo.c2) (B6.c B0);refine wW 0 (sv be oe ml c) 1 (iv k) hR hS ?_;refine wL 2 (pw be (oe+k * 7)) hR (fun w _=>ex_index (p:=sv be oe ml c) (i:=iv k) rfl (by kernel_rfl) (by kernel_rfl) (ix36 (k:=k) (by omega))) hS ?_;refine wV 3 (pw be (oe+k * 7)) hR hS ?_;refine wM 4 (iv ((evN l k).k)) hR (fun w hS=>ld3 (hS.1)) hS ?_;refine wL 5 (.bool true) hR (fun w _=>ev_eq (show _=Result.ok (Next.value (Value.bool (((evN l k).k:Int) == (1:Int)))) _ from by kernel_rfl) (C6)) hS ?_;refine wW 6 (.bool true) 7 (sv be oe ml c) hR hS ?_;refine wV 8 (iv k) hR hS ?_;refine wL 9 (pw be (oe+k * 7)) hR (fun w _=>ex_index (p:=sv be oe ml c) (i:=iv k) rfl (by kernel_rfl) (by kernel_rfl) (ix36 (k:=k) (by omega))) hS ?_;refine wV 10 (pw be (oe+k * 7+2)) hR hS ?_;refine wM 11 (iv ((evN l k).i)) hR (fun w hS=>ld3 (hS.2.1)) hS ?_;refine wV 12 (pw O4 2) hR hS ?_;refine wM 13 (iv ((evN l i).i)) hR (fun w hS=>ld3 (hS.2.2)) hS ?_;refine wL 14 (.bool true) hR (fun w _=>ev_eq (show _=Result.ok (Next.value (Value.bool (((evN l k).i:Int) == ((evN l i).i:Int)))) _ from by kernel_rfl) (Cf)) hS ?_;refine wV 15 (.bool true) hR hS ?_;refine we hL hR hK ?_;refine zq (cK [0,3,4,5,87] (fun L=>?_));refine zt ?_;refine zc (zp (pT (.bool false) ?_));refine zn (ct_ (qb (qt (qt (qb (qb (qt (qb (qt (qt (qb (qt (zR (.bool false) ?_)))))))))))));rw [Evs.ev_no (i:=i) (by omega) (fun q=>by have h9:=(Evs.rightB_1 Bs).1 (Evs.okE_iff.1 q).1;rw [Evs.shot_found (k:=k) (by omega) (by omega) C6 Cf] at h9;cases h9.2.2.2)];exact⟨rfl,hE⟩
                ·refine dT (fun w'=>w'.cell? ⟨be,oe+k * 7,none⟩=some (iv ((evN l k).k))∧w'.cell? ⟨be,oe+k * 7+2,none⟩=some (iv ((evN l k).i))∧w'.cell? ⟨O4,2,none⟩=some (iv ((evN l i).i))) (⟨(e0.cell Bo.c0),(e0.cell Bo.c2),(B6.x B0).1⟩) (fun ops Q D6 hb hL hR hK=>?_);refine nv3 hb e0 hE B0 fun e0 hE B0 Cj=>?_;have hS:=A3 (e0.cell Bo.c0) (e0.cell Bo.c2) (B6.c B0);refine wW 0 (sv be oe ml c) 1 (iv k) hR hS ?_;refine wL 2 (pw be (oe+k * 7)) hR (fun w _=>ex_index (p:=sv be oe ml c) (i:=iv k) rfl (by kernel_rfl) (by kernel_rfl) (ix36 (k:=k) (by omega))) hS ?_;refine wV 3 (pw be (oe+k * 7)) hR hS ?_;refine wM 4 (iv ((evN l k).k)) hR (fun w hS=>ld3 (hS.1)) hS ?_;refine wL 5 (.bool true) hR (fun w _=>ev_eq (show _=Result.ok (Next.value (Value.bool (((evN l k).k:Int) == (1:Int)))) _ from by kernel_rfl) (C6)) hS ?_;refine wW 6 (.bool true) 7 (sv be oe ml c) hR hS ?_;refine wV 8 (iv k) hR hS ?_;refine wL 9 (pw be (oe+k * 7)) hR (fun w _=>ex_index (p:=sv be oe ml c) (i:=iv k) rfl (by kernel_rfl) (by kernel_rfl) (ix36 (k:=k) (by omega))) hS ?_;refine wV 10 (pw be (oe+k * 7+2)) hR hS ?_;refine wM 11 (iv ((evN l k).i)) hR (fun w hS=>ld3 (hS.2.1)) hS ?_;refine wV 12 (pw O4 2) hR hS ?_;refine wM 13 (iv ((evN l i).i)) hR (fun w hS=>ld3 (hS.2.2)) hS ?_;refine wL 14 (.bool false) hR (fun w _=>ev_neq (show _=Result.ok (Next.value (Value.bool (((evN l k).i:Int) == ((evN l i).i:Int)))) _ from by kernel_rfl) (Cf)) hS ?_;refine wV 15 (.bool false) hR hS ?_;refine we hL hR hK ?_;refine zq (cK [0,3,4,5,87] (fun L=>?_));refine zf ?_;refine cs_ (qw_block (zq (zp (pT (iv k) ?_))));refine pUT (nv (k+1)) (ew (by omega) (by omega)) (nv (k+1)) ?_;refine pl_nil (qw_round [0,3,4,5] (ws':=[(0,sv be oe ml c),(3,iv i),(4,pw O4 0),(5,nv (k+1))]) (by kernel_rfl) _ ?_ ⟨(k+1),rfl,rfl,(Tq Bz Cj),e0,hE,B0,by omega,(by rw [Evs.shot_next (by omega),hsh];simp [Cf])⟩);omega
               ·refine dT (fun w'=>w'.cell? ⟨be,oe+k * 7,none⟩=some (iv ((evN l k).k))) ((e0.cell Bo.c0)) (fun ops Q D7 hb hL hR hK=>?_);refine nv3 hb e0 hE B0 fun e0 hE B0 Ck=>?_;have hS:=e0.cell Bo.c0;refine wW 0 (sv be oe ml c) 1 (iv k) hR hS ?_;refine wL 2 (pw be (oe+k * 7)) hR (fun w _=>ex_index (p:=sv be oe ml c) (i:=iv k) rfl (by kernel_rfl) (by kernel_rfl) (ix36 (k:=k) (by omega))) hS ?_;refine wV 3 (pw be (oe+k * 7)) hR hS ?_;refine wM 4 (iv ((evN l k).k)) hR (fun w hS=>ld3 (hS)) hS ?_;refine wL 5 (.bool false) hR (fun w _=>ev_neq (show _=Result.ok (Next.value (Value.bool (((evN l k).k:Int) == (1:Int)))) _ from by kernel_rfl) (C6)) hS ?_;refine wV 6 (.bool false) hR hS ?_;refine wK 7 hR hS ?_;refine wK 8 hR hS ?_;refine wK 9 hR hS ?_;refine wK 10 hR hS ?_;refine wK 11 hR hS ?_;refine wK 12 hR hS ?_;refine wK 13 hR hS ?_;refine wK 14 hR hS ?_;refine wV 15 (.bool false) hR hS ?_;refine we hL hR hK ?_;refine zq (cK [0,3,4,5,87] (fun L=>?_));refine zf ?_;refine cs_ (qw_block (zq (zp (pT (iv k) ?_))));refine pUT (nv (k+1)) (ew (by omega) (by omega)) (nv (k+1)) ?_;refine pl_nil (qw_round [0,3,4,5] (ws':=[(0,sv be oe ml c),(3,iv i),(4,pw O4 0),(5,nv (k+1))]) (by kernel_rfl) _ ?_ ⟨(k+1),rfl,rfl,(Tq Bz Ck),e0,hE,B0,by omega,(by rw [Evs.shot_next (by omega),hsh];simp [C6])⟩);omega
              ·have hkin:k=i:=by omega
               rw [hkin] at hsh;have hR:Evs.rightB (Evs.shotB (l.take i) (evN l i).i) (evN l i)=true:=(Evs.rightB_1 Bs).2 ⟨Bu,by omega,by omega,hsh⟩;refine zc (zc (zp (pD (iv k) (iv i) ?_)));refine pU (.bool false) (en (((k:Nat):Int)<((i:Nat):Int)) (by omega)) ?_;refine zn (zf ?_);refine cx_ (qx (qx (qo (qw_block ?_))));exact zl hJ [0,3,4] ⟨rfl,(Tq Ci Bz),e0,hE,B0,hR,by omega⟩
        ·by_cases Bx:(evN l i).k=2
         ·refine zp (pU (.bool false) (eN ((evN l i).k:Int) (1:Int) (Bs)) ?_);refine pT (.bool false) ?_;refine zn (zf ?_);refine zc (zp (pU (.bool true) (eE ((evN l i).k:Int) (2:Int) (Bx)) ?_));refine pT (.bool true) ?_;refine zn (zt ?_);refine cw_seq ?_;have hnr:=Bg.aa'.2.1
          by_cases D8:0<B3
          ·refine zp (pD (pw O4 3) (pw O4 3) ?_);refine pUT (.slice Ba B3 Be) (xl (ld24 (B7.1))) (iv B3) ?_;refine pUT (.bool true) (ed (((B3:Nat):Int)>(0:Int)) (by omega)) (.bool true) ?_;refine pK3 ?_;refine pD (.bool true) (.bool true) ?_;refine pK3 ?_;refine pD (.bool true) (.bool true) ?_;refine pK2 ?_;refine pT (.bool true) ?_;refine zn (cK [0,3,4,108] (fun L=>?_));refine zt ?_;refine zc (zp (pT (.bool false) ?_));refine zn (ct_ (qb (qt (qb (qt (qt (qb (qt (zR (.bool false) ?_)))))))));rw [Evs.ev_no (i:=i) (by omega) (fun q=>by have h9:=(Evs.rightB_2 Bx).1 (Evs.okE_iff.1 q).1;omega)];exact⟨rfl,hE⟩
          ·by_cases D9:(evN l i).sun≠0
           ·refine zp (pD (pw O4 3) (pw O4 3) ?_);refine pUT (.slice Ba B3 Be) (xl (ld24 (B7.1))) (iv B3) ?_;refine pUD (.bool false) (en (((B3:Nat):Int)>(0:Int)) (by omega)) (.bool false) (pw O4 4) ?_;refine pU (iv ((evN l i).sun)) (xl (ld3 (B4.1))) ?_;refine pUD (.bool true) (eM ((evN l i).sun:Int) (0:Int) (by omega)) (.bool true) (.bool true) ?_;refine pK3 ?_;refine pD (.bool true) (.bool true) ?_;refine pK2 ?_;refine pT (.bool true) ?_;refine zn (cK [0,3,4,108] (fun L=>?_));refine zt ?_;refine zc (zp (pT (.bool false) ?_));refine zn (ct_ (qb (qt (qb (qt (qt (qb (qt (zR (.bool false) ?_)))))))));rw [Evs.ev_no (i:=i) (by omega) (fun q=>by have h9:=(Evs.rightB_2 Bx).1 (Evs.okE_iff.1 q).1;omega)];exact⟨rfl,hE⟩
           ·by_cases Da:(evN l i).look≠0
            ·refine zp (pD (pw O4 3) (pw O4 3) ?_);refine pUT (.slice Ba B3 Be) (xl (ld24 (B7.1))) (iv B3) ?_;refine pUD (.bool false) (en (((B3:Nat):Int)>(0:Int)) (by omega)) (.bool false) (pw O4 4) ?_;refine pU (iv ((evN l i).sun)) (xl (ld3 (B4.1))) ?_;refine pX3 (.bool false) (ev_nne (show _=Result.ok (Next.value (Value.bool (((evN l i).sun:Int) != (0:Int)))) _ from by kernel_rfl) (by omega)) (.bool false) (.bool false) (pw O4 5) ?_;refine pU (iv ((evN l i).look)) (xl (ld3 (Bc.1))) ?_;refine pUD (.bool true) (eM ((evN l i).look:Int) (0:Int) (by omega)) (.bool true) (.bool true) ?_;refine pK2 ?_;refine pT (.bool true) ?_;refine zn (cK [0,3,4,108] (fun L=>?_));refine zt ?_;refine zc (zp (pT (.bool false) ?_));refine zn (ct_ (qb (qt (qb (qt (qt (qb (qt (zR (.bool false) ?_)))))))));rw [Evs.ev_no (i:=i) (by omega) (fun q=>by have h9:=(Evs.rightB_2 Bx).1 (Evs.okE_iff.1 q).1;omega)];exact⟨rfl,hE⟩
            ·cases c9
             ·have hR:Evs.rightB (Evs.shotB (l.take i) (evN l i).i) (evN l i)=true:=(Evs.rightB_2 Bx).2 ⟨by omega,by omega,by omega,Ch⟩;refine zp (pD (pw O4 3) (pw O4 3) ?_);refine pUT (.slice Ba B3 Be) (xl (ld24 (B7.1))) (iv B3) ?_;refine pUD (.bool false) (en (((B3:Nat):Int)>(0:Int)) (by omega)) (.bool false) (pw O4 4) ?_;refine pU (iv ((evN l i).sun)) (xl (ld3 (B4.1))) ?_;refine pX3 (.bool false) (ev_nne (show _=Result.ok (Next.value (Value.bool (((evN l i).sun:Int) != (0:Int)))) _ from by kernel_rfl) (by omega)) (.bool false) (.bool false) (pw O4 5) ?_;refine pU (iv ((evN l i).look)) (xl (ld3 (Bc.1))) ?_;refine pX3 (.bool false) (ev_nne (show _=Result.ok (Next.value (Value.bool (((evN l i).look:Int) != (0:Int)))) _ from by kernel_rfl) (by omega)) (.bool false) (.bool false) (pw O4 6) ?_;refine pUT (.bool false) (xl (ld4 (Bl.1))) (.bool false) ?_;refine zn (cK [0,3,4,108] (fun L=>?_));refine zf ?_;refine cs_ (qw_block ?_);exact zl hJ [0,3,4] ⟨rfl,(nr_ _),e0,hE,(er_ _),hR,by omega⟩
             ·refine zp (pD (pw O4 3) (pw O4 3) ?_);refine pUT (.slice Ba B3 Be) (xl (ld24 (B7.1))) (iv B3) ?_;refine pUD (.bool false) (en (((B3:Nat):Int)>(0:Int)) (by omega)) (.bool false) (pw O4 4) ?_;refine pU (iv ((evN l i).sun)) (xl (ld3 (B4.1))) ?_;refine pX3 (.bool false) (ev_nne (show _=Result.ok (Next.value (Value.bool (((evN l i).sun:Int) != (0:Int)))) _ from by kernel_rfl) (by omega)) (.bool false) (.bool false) (pw O4 5) ?_;refine pU (iv ((evN l i).look)) (xl (ld3 (Bc.1))) ?_;refine pX3 (.bool false) (ev_nne (show _=Result.ok (Next.value (Value.bool (((evN l i).look:Int) != (0:Int)))) _ from by kernel_rfl) (by omega)) (.bool false) (.bool false) (pw O4 6) ?_;refine pUT (.bool true) (xl (ld4 (Bl.1))) (.bool true) ?_;refine zn (cK [0,3,4,108] (fun L=>?_));refine zt ?_;refine zc (zp (pT (.bool false) ?_));refine zn (ct_ (qb (qt (qb (qt (qt (qb (qt (zR (.bool false) ?_)))))))));rw [Evs.ev_no (i:=i) (by omega) (fun q=>by have h9:=(Evs.rightB_2 Bx).1 (Evs.okE_iff.1 q).1;rw [Ch] at h9;cases h9.2.2.2)];exact⟨rfl,hE⟩
         ·refine zp (pU (.bool false) (eN ((evN l i).k:Int) (1:Int) (Bs)) ?_);refine pT (.bool false) ?_;refine zn (zf ?_);refine zc (zp (pU (.bool false) (eN ((evN l i).k:Int) (2:Int) (Bx)) ?_));refine pT (.bool false) ?_;refine zn (zf ?_);refine zc (zp (pT (.bool false) ?_));refine zn (ct_ (qb (qt (qb (qt (qt (qb (qt (zR (.bool false) ?_)))))))));rw [Evs.ev_no (i:=i) (by omega) (fun q=>by have h9:=(Evs.okE_iff.1 q).2;omega)];exact⟨rfl,hE⟩
       ·clear e0 hE B0;rintro L ws Dw ⟨rfl,Bq,e0,hE,B0,hR,hkk⟩;refine zq (zc (cw_seq ?_))
        by_cases Ct:i=0
        ·refine zp (pT (iv i) ?_);refine pU (.bool true) (eE ((i:Nat):Int) (0:Int) (by omega)) ?_;refine zn (zt ?_);refine cx_ (qx (qo (zq (zp (pT (iv i) ?_)))));refine pUT (nv (i+1)) (ew (by omega) (by omega)) (nv (i+1)) ?_;refine pl_nil (zr [0,3] _ ?_ ⟨(i+1),rfl,rfl,(Tq Bt (Tq C3 (Tq C4 Bq))),e0,hE,by omega,(Evs.okUp_next hup (Evs.okE_iff.2 ⟨hR,by omega,by omega,by omega,.inl Ct⟩))⟩);omega
        ·obtain⟨Bv,C2,Bw,Bp⟩:=hxe ((i - 1)) (by omega);refine zp (pT (iv i) ?_);refine pU (.bool false) (eN ((i:Nat):Int) (0:Int) (by omega)) ?_;refine zn (zf ?_);refine cs_ (zq (zc (zp (pD (sv be oe ml c) (iv i) ?_))));refine pU (iv ((((i - 1:Nat)):Int):Int)) (ev_int (ew (by omega) (by omega)) (show (((i:Nat):Int)) - 1=_ by omega)) ?_;refine pU (pw be (oe+((i - 1)) * 7)) (xi (sv be oe ml c) (nv ((i - 1))) (ix36 (k:=(i - 1)) (by omega))) ?_;refine pU (.agg #[iv ((evN l ((i - 1))).k),iv ((evN l ((i - 1))).t),iv ((evN l ((i - 1))).i),.slice Bv C2 Bw,iv ((evN l ((i - 1))).sun),iv ((evN l ((i - 1))).look),.bool ((evN l ((i - 1))).cl)]) (xl (ld28 ((e0.cell Bp.c0)) ((e0.cell Bp.c1)) ((e0.cell Bp.c2)) ((e0.cell Bp.c3')) ((e0.cell Bp.c4)) ((e0.cell Bp.c5)) ((e0.cell Bp.c6)))) ?_;refine pS (sw 28 z28 ?_);intro Bm Co Br Cn hb hbx;have⟨B5,B2,Bf,Bh,Bi,Bj,Bk⟩:=bq7 hbx;refine nv3 hb e0 hE B0 fun e0 hE B0 C0=>?_;have D2:=B5.lt;refine pP (k28 Bm ((evN l ((i - 1))).k:Int) ((evN l ((i - 1))).t:Int) ((evN l ((i - 1))).i:Int) Bv C2 Bw ((evN l ((i - 1))).sun:Int) ((evN l ((i - 1))).look:Int) ((evN l ((i - 1))).cl) B5 B2 Bf Bh Bi Bj Bk ?_);intro Cg ho B5 B2 Bf Bh Bi Bj Bk hk;refine he3 ho e0 hE B0 fun e0 hE B0=>?_;have C1:=nq_ ho.size.symm;clear ho hk;refine pl_nil (qw_then ?_);refine cw_seq ?_;have Cr:=er_ Cg
         by_cases Db:(evN l i).t<(evN l (i - 1)).t
         ·refine zp (pT (pw O4 1) ?_);refine pUT (iv ((evN l i).t)) (xl (ld3 (B1.c B0))) (pw Bm 1) ?_;refine pU (iv ((evN l ((i - 1))).t)) (xl (ld3 (B2.1))) ?_;refine pUT (.bool true) (ed (((evN l i).t:Int)<((evN l ((i - 1))).t:Int)) (by omega)) (.bool true) ?_;refine pK8 ?_;refine pK8 ?_;refine pK8 ?_;refine pK2 ?_;refine pT (.bool true) ?_;refine zn (cK [0,3,148] (fun L=>?_));refine zt ?_;refine zc (zp (pT (.bool false) ?_));refine zn (ct_ (qb (qt (qt (qb (qt (zR (.bool false) ?_)))))));rw [Evs.ev_no (i:=i) (by omega) (fun q=>by have h9:=(Evs.okE_iff.1 q).2.2.2.2;rw [Evs.laterI_lt] at h9;omega)];exact⟨rfl,hE⟩
         ·by_cases Dc:(evN l i).t=(evN l (i - 1)).t
          ·by_cases Dd:(evN l i).k<(evN l (i - 1)).k
           ·refine zp (pT (pw O4 1) ?_);refine pUT (iv ((evN l i).t)) (xl (ld3 (B1.c B0))) (pw Bm 1) ?_;refine pU (iv ((evN l ((i - 1))).t)) (xl (ld3 (B2.1))) ?_;refine pUD (.bool false) (en (((evN l i).t:Int)<((evN l ((i - 1))).t:Int)) (by omega)) (.bool false) (pw O4 1) ?_;refine pUT (iv ((evN l i).t)) (xl (ld3 (B1.c B0))) (pw Bm 1) ?_;refine pU (iv ((evN l ((i - 1))).t)) (xl (ld3 (B2.1))) ?_;refine pUD (.bool true) (eE ((evN l i).t:Int) ((evN l ((i - 1))).t:Int) (by omega)) (.bool true) (pw O4 0) ?_;refine pUT (iv ((evN l i).k)) (xl (ld3 (B8.c B0))) (pw Bm 0) ?_;refine pU (iv ((evN l ((i - 1))).k)) (xl (ld3 (B5.1))) ?_;refine pUT (.bool true) (ed (((evN l i).k:Int)<((evN l ((i - 1))).k:Int)) (by omega)) (.bool true) ?_;refine pK8 ?_;refine pK4 ?_;refine pD (.bool true) (.bool true) ?_;refine pT (.bool true) ?_;refine zn (cK [0,3,148] (fun L=>?_));refine zt ?_;refine zc (zp (pT (.bool false) ?_));refine zn (ct_ (qb (qt (qt (qb (qt (zR (.bool false) ?_)))))));rw [Evs.ev_no (i:=i) (by omega) (fun q=>by have h9:=(Evs.okE_iff.1 q).2.2.2.2;rw [Evs.laterI_lt] at h9;omega)];exact⟨rfl,hE⟩
           ·by_cases De:(evN l i).k=(evN l (i - 1)).k
            ·by_cases Df:(evN l i).i≤(evN l (i - 1)).i
             ·refine zp (pT (pw O4 1) ?_);refine pUT (iv ((evN l i).t)) (xl (ld3 (B1.c B0))) (pw Bm 1) ?_;refine pU (iv ((evN l ((i - 1))).t)) (xl (ld3 (B2.1))) ?_;refine pUD (.bool false) (en (((evN l i).t:Int)<((evN l ((i - 1))).t:Int)) (by omega)) (.bool false) (pw O4 1) ?_;refine pUT (iv ((evN l i).t)) (xl (ld3 (B1.c B0))) (pw Bm 1) ?_;refine pU (iv ((evN l ((i - 1))).t)) (xl (ld3 (B2.1))) ?_;refine pUD (.bool true) (eE ((evN l i).t:Int) ((evN l ((i - 1))).t:Int) (by omega)) (.bool true) (pw O4 0) ?_;refine pUT (iv ((evN l i).k)) (xl (ld3 (B8.c B0))) (pw Bm 0) ?_;refine pU (iv ((evN l ((i - 1))).k)) (xl (ld3 (B5.1))) ?_;refine pUD (.bool false) (en (((evN l i).k:Int)<((evN l ((i - 1))).k:Int)) (by omega)) (.bool false) (pw O4 0) ?_;refine pUT (iv ((evN l i).k)) (xl (ld3 (B8.c B0))) (pw Bm 0) ?_;refine pU (iv ((evN l ((i - 1))).k)) (xl (ld3 (B5.1))) ?_;refine pUD (.bool true) (eE ((evN l i).k:Int) ((evN l ((i - 1))).k:Int) (by omega)) (.bool true) (pw O4 2) ?_;refine pUT (iv ((evN l i).i)) (xl (ld3 (B6.c B0))) (pw Bm 2) ?_;refine pU (iv ((evN l ((i - 1))).i)) (xl (ld3 (Bf.1))) ?_;refine pUD (.bool true) (ed (((evN l i).i:Int)≤((evN l ((i - 1))).i:Int)) (by omega)) (.bool true) (.bool true) ?_;refine pD (.bool true) (.bool true) ?_;refine zn (cK [0,3,148] (fun L=>?_));refine zt ?_;refine zc (zp (pT (.bool false) ?_));refine zn (ct_ (qb (qt (qt (qb (qt (zR (.bool false) ?_)))))));rw [Evs.ev_no (i:=i) (by omega) (fun q=>by have h9:=(Evs.okE_iff.1 q).2.2.2.2;rw [Evs.laterI_lt] at h9;omega)];exact⟨rfl,hE⟩
             ·refine zp (pT (pw O4 1) ?_);refine pUT (iv ((evN l i).t)) (xl (ld3 (B1.c B0))) (pw Bm 1) ?_;refine pU (iv ((evN l ((i - 1))).t)) (xl (ld3 (B2.1))) ?_;refine pUD (.bool false) (en (((evN l i).t:Int)<((evN l ((i - 1))).t:Int)) (by omega)) (.bool false) (pw O4 1) ?_;refine pUT (iv ((evN l i).t)) (xl (ld3 (B1.c B0))) (pw Bm 1) ?_;refine pU (iv ((evN l ((i - 1))).t)) (xl (ld3 (B2.1))) ?_;refine pUD (.bool true) (eE ((evN l i).t:Int) ((evN l ((i - 1))).t:Int) (by omega)) (.bool true) (pw O4 0) ?_;refine pUT (iv ((evN l i).k)) (xl (ld3 (B8.c B0))) (pw Bm 0) ?_;refine pU (iv ((evN l ((i - 1))).k)) (xl (ld3 (B5.1))) ?_;refine pUD (.bool false) (en (((evN l i).k:Int)<((evN l ((i - 1))).k:Int)) (by omega)) (.bool false) (pw O4 0) ?_;refine pUT (iv ((evN l i).k)) (xl (ld3 (B8.c B0))) (pw Bm 0) ?_;refine pU (iv ((evN l ((i - 1))).k)) (xl (ld3 (B5.1))) ?_;refine pUD (.bool true) (eE ((evN l i).k:Int) ((evN l ((i - 1))).k:Int) (by omega)) (.bool true) (pw O4 2) ?_;refine pUT (iv ((evN l i).i)) (xl (ld3 (B6.c B0))) (pw Bm 2) ?_;refine pU (iv ((evN l ((i - 1))).i)) (xl (ld3 (Bf.1))) ?_;refine pUD (.bool false) (en (((evN l i).i:Int)≤((evN l ((i - 1))).i:Int)) (by omega)) (.bool false) (.bool false) ?_;refine pD (.bool false) (.bool false) ?_;refine zn (cK [0,3,148] (fun L=>?_));refine zf ?_;refine cs_ (qw_block (zq (zp (pT (iv i) ?_))));refine pUT (nv (i+1)) (ew (by omega) (by omega)) (nv (i+1)) ?_;refine pl_nil (zr [0,3] _ ?_ ⟨(i+1),rfl,rfl,(by omega),e0,hE,by omega,(Evs.okUp_next hup (Evs.okE_iff.2 ⟨hR,by omega,by omega,by omega,.inr (Evs.laterI_lt.2 (by omega))⟩))⟩);omega
            ·refine zp (pT (pw O4 1) ?_);refine pUT (iv ((evN l i).t)) (xl (ld3 (B1.c B0))) (pw Bm 1) ?_;refine pU (iv ((evN l ((i - 1))).t)) (xl (ld3 (B2.1))) ?_;refine pUD (.bool false) (en (((evN l i).t:Int)<((evN l ((i - 1))).t:Int)) (by omega)) (.bool false) (pw O4 1) ?_;refine pUT (iv ((evN l i).t)) (xl (ld3 (B1.c B0))) (pw Bm 1) ?_;refine pU (iv ((evN l ((i - 1))).t)) (xl (ld3 (B2.1))) ?_;refine pUD (.bool true) (eE ((evN l i).t:Int) ((evN l ((i - 1))).t:Int) (by omega)) (.bool true) (pw O4 0) ?_;refine pUT (iv ((evN l i).k)) (xl (ld3 (B8.c B0))) (pw Bm 0) ?_;refine pU (iv ((evN l ((i - 1))).k)) (xl (ld3 (B5.1))) ?_;refine pUD (.bool false) (en (((evN l i).k:Int)<((evN l ((i - 1))).k:Int)) (by omega)) (.bool false) (pw O4 0) ?_;refine pUT (iv ((evN l i).k)) (xl (ld3 (B8.c B0))) (pw Bm 0) ?_;refine pU (iv ((evN l ((i - 1))).k)) (xl (ld3 (B5.1))) ?_;refine pUT (.bool false) (eN ((evN l i).k:Int) ((evN l ((i - 1))).k:Int) (by omega)) (.bool false) ?_;refine pK4 ?_;refine pK ?_;refine pD (.bool false) (.bool false) ?_;refine pD (.bool false) (.bool false) ?_;refine zn (cK [0,3,148] (fun L=>?_));refine zf ?_;refine cs_ (qw_block (zq (zp (pT (iv i) ?_))));refine pUT (nv (i+1)) (ew (by omega) (by omega)) (nv (i+1)) ?_;refine pl_nil (zr [0,3] _ ?_ ⟨(i+1),rfl,rfl,(by omega),e0,hE,by omega,(Evs.okUp_next hup (Evs.okE_iff.2 ⟨hR,by omega,by omega,by omega,.inr (Evs.laterI_lt.2 (by omega))⟩))⟩);omega
          ·refine zp (pT (pw O4 1) ?_);refine pUT (iv ((evN l i).t)) (xl (ld3 (B1.c B0))) (pw Bm 1) ?_;refine pU (iv ((evN l ((i - 1))).t)) (xl (ld3 (B2.1))) ?_;refine pUD (.bool false) (en (((evN l i).t:Int)<((evN l ((i - 1))).t:Int)) (by omega)) (.bool false) (pw O4 1) ?_;refine pUT (iv ((evN l i).t)) (xl (ld3 (B1.c B0))) (pw Bm 1) ?_;refine pU (iv ((evN l ((i - 1))).t)) (xl (ld3 (B2.1))) ?_;refine pUT (.bool false) (eN ((evN l i).t:Int) ((evN l ((i - 1))).t:Int) (by omega)) (.bool false) ?_;refine pK8 ?_;refine pK8 ?_;refine pK3 ?_;refine pD (.bool false) (.bool false) ?_;refine zn (cK [0,3,148] (fun L=>?_));refine zf ?_;refine cs_ (qw_block (zq (zp (pT (iv i) ?_))));refine pUT (nv (i+1)) (ew (by omega) (by omega)) (nv (i+1)) ?_;refine pl_nil (zr [0,3] _ ?_ ⟨(i+1),rfl,rfl,(by omega),e0,hE,by omega,(Evs.okUp_next hup (Evs.okE_iff.2 ⟨hR,by omega,by omega,by omega,.inr (Evs.laterI_lt.2 (by omega))⟩))⟩);omega
  ·refine zc (zc (zp (pD (iv i) (.slice a ml c) ?_)));refine pT (iv ml) ?_;refine pUD (.bool true) (ed (((i:Nat):Int)<((ml:Nat):Int)) (by omega)) (.bool true) (iv i) ?_;refine pUT (.bool false) (en (((i:Nat):Int)<(17:Int)) (by omega)) (.bool false) ?_;refine zn (zf ?_);refine cx_ (qx (qx (qo (zq (zc (zp (pD (.slice a ml c) (iv ml) ?_)))))));refine pUT (.bool (decide (((ml:Nat):Int)≤16))) (ev_bool (show _=Result.ok (Next.value (Value.bool (decide (((ml:Nat):Int)≤16)))) _ from by kernel_rfl) rfl) (.bool (decide (((ml:Nat):Int)≤16))) ?_;refine zn (ct_ (zR (.bool (decide (((ml:Nat):Int)≤16))) ?_));have hv:Evs.eventsB l=decide (((ml:Nat):Int)≤16):=by unfold Evs.eventsB;rw [hlne,decide_eq_false (by omega),Bool.and_false]
   rw [hv];exact⟨rfl,hE⟩
 ·have hin:i=l.length:=by omega
  refine zc (zc (zp (pD (iv i) (.slice a ml c) ?_)));refine pT (iv ml) ?_;refine pUT (.bool false) (en (((i:Nat):Int)<((ml:Nat):Int)) (by omega)) (.bool false) ?_;refine pK2 ?_;refine pT (.bool false) ?_;refine zn (zf ?_);refine cx_ (qx (qx (qo (zq (zc (zp (pD (.slice a ml c) (iv ml) ?_)))))));refine pUT (.bool (decide (((ml:Nat):Int)≤16))) (ev_bool (show _=Result.ok (Next.value (Value.bool (decide (((ml:Nat):Int)≤16)))) _ from by kernel_rfl) rfl) (.bool (decide (((ml:Nat):Int)≤16))) ?_;refine zn (ct_ (zR (.bool (decide (((ml:Nat):Int)≤16))) ?_));have hv:Evs.eventsB l=decide (((ml:Nat):Int)≤16):=by unfold Evs.eventsB;rw [hlne,←hlne,←hin,hup,show (i:Int)=((ml:Nat):Int) by omega];rfl
  rw [hv];exact⟨rfl,hE⟩
theorem rEvents_r {r:Bool} (c:Nat) (w:World) (H:EvsAt w0 a ml l) (e0:Ext w0 w) (hr:Evs.eventsB l=r):Calls Tryz.prog 14 #[.slice a ml c] w fun e w'=>e= .returned (.bool r)∧Ext w w':=hr ▸ rEvents_c c w H e0
end Go.Proofs.YtpfajhcdfgpgmaaGreatDoor
