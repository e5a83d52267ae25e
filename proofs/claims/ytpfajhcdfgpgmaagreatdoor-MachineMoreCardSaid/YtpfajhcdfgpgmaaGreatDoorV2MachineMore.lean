/- Part 2 of what the proof of MachineMore stands on. -/
import Derived.Test.YtpfajhcdfgpgmaaGreatDoorV1MachineMore
import Derived.ChangeKeysEq
import Derived.Deep.MidRow
import Derived.MapKept
import Derived.Laws.MakeOwn
namespace Go.Proofs.YtpfajhcdfgpgmaaGreatDoor
open Go.RowKit
theorem own_app1k {α:Type} {R:Rep α} {P:Program} {t ty e:TypeId} {z:Value} {size bytes:Nat} (E:ElemT P t e z size bytes) {n₀:Nat} {v:Value} {w:World} {l:List α} (h:OwnL R n₀ e size v w l) (hn:n₀≤w.heap.size) {k:Nat} (hl:l.length=k)
    {O c:Nat} {x:α} {d:List Value} {F:List Nat} (hsz:d.length=size) (hcell:∀j u,d[j]? =some u→w.cell? ⟨O,j,none⟩=some u) (h1:∀u ∈ d,u.oneCell'=true)
    (hR:R.rel w d x F) (hF:∀b ∈ F,v.ownBlock≠some b) (hb:(k+1) * bytes≤140737488355328) (hmax:k+1≤9223372036854775807):
    ∃g cap w',(Builtin.append_ #[t,t] ty #[v,.slice (some ⟨O,0,none⟩) 1 c]).run P w= .ok (.slice (some ⟨g,0,none⟩) (k+1) cap) w'∧OwnL R n₀ e size (.slice (some ⟨g,0,none⟩) (k+1) cap) w' (l ++ [x])∧Grew n₀ w w'∧w.grownBy w' v.ownBlock:=by
  subst hl
  obtain⟨cs,h2,h3,h4,h5⟩:=h
  obtain⟨i,hi,hz0,hz1,hz2⟩:=info_parts E.info
  obtain⟨v',w',hrun,hown,hg,hiff,hat⟩:=run_append_own_at (P:=P) w n₀ t ty e i z size bytes E.under hi hz0 hz1 hz2 E.zs E.pos v l.length cs.flatten h4 ⟨O,0,none⟩ 1 c d (by rw [hsz,Nat.one_mul]) (fun j u hj=>by
    rw [Addr.add_mid,Nat.zero_add];exact hcell j u hj) h1 (by unfold maxLen;exact hmax) hb hn
  have hnb:∀F:List Nat,(∀b ∈ F,v.ownBlock≠some b)→(∀b ∈ F,b<w.heap.size)→(∀b ∈ F,v'.ownBlock≠some b)∧∀b ∈ F,∀o u,w.cell? ⟨b,o,none⟩=some u→w'.cell? ⟨b,o,none⟩=some u:=by
    intro F hF hFl
    refine⟨fun b hbF hv'=>?_,fun b hbF o u hu=>hg.cell hu (fun e=>hF b hbF e.symm)⟩
    rcases hat with e1 | e1
    · exact hF b hbF (by rw [←e1];exact hv')
    · rw [e1] at hv';cases hv';have:=hFl _ hbF;omega
  have hO:OwnL R n₀ e size v' w' (l ++ [x]):=⟨cs ++ [d],by simp [h2],by
      intro y hy
      rcases List.mem_append.1 hy with hy | hy
      · exact h3 y hy
      · rw [List.mem_singleton.1 hy];exact hsz,by rw [List.flatten_append,List.length_append];simpa using hown,by
      intro j y c hx hc
      rcases Nat.lt_or_ge j l.length with hj | hj
      · rw [List.getElem?_append_left hj] at hx
        rw [List.getElem?_append_left (by rw [h2];exact hj)] at hc
        obtain⟨F,q1,q2⟩:=h5 j y c hx hc
        obtain⟨k1,k2⟩:=hnb F q2 (R.lt q1)
        exact⟨F,R.keep q1 k2,k1⟩
      · rw [List.getElem?_append_right hj] at hx
        rw [List.getElem?_append_right (by rw [h2];exact hj),h2] at hc
        match hj':j - l.length,hx,hc with
        | 0,hx,hc=>
          simp at hx hc;subst hx hc
          obtain⟨k1,k2⟩:=hnb F hF (R.lt hR)
          exact⟨F,R.keep hR k2,k1⟩
        | _+1,hx,_=>simp at hx⟩
  rcases hown.2 with ⟨q,_⟩ | ⟨g,cap,cur,q,_,_,q3,_⟩
  · have:=(hiff.1 q).2;omega
  · subst q
    exact⟨g,cap,w',hrun,hO,⟨hg.size,fun U hU hUn=>Ext.own' hU h4 hUn hg⟩,hg⟩
theorem own_not {v:Value} {n b:Nat} (h:∀b,v.ownBlock=some b→n≤b) (hb:b<n):v.ownBlock≠some b:=fun e=>by have:=h b e;omega
theorem own_not2 {v:Value} {m b:Nat} (h:∀b,v.ownBlock=some b→b<m) (hb:m≤b):v.ownBlock≠some b:=fun e=>by have:=h b e;omega
theorem OwnL.turn {α:Type} {R:Rep α} {n₀:Nat} {e:TypeId} {size:Nat} {v:Value} {w X:World} {l:List α} {O:Nat} (h:OwnL R n₀ e size v w l) (ho:Turns O w X) (h1:v.ownBlock≠some O) (h2:∀c x F,R.rel w c x F→∀b ∈ F,b≠O):OwnL R n₀ e size v X l:=by
  obtain⟨cs,q1,q2,q3,q4⟩:=h
  refine⟨cs,q1,q2,⟨q3.1,?_⟩,fun j x c hx hc=>?_⟩
  · rcases q3.2 with q | ⟨g,cap,cur,rfl,hb,hcur,rest⟩
    · exact .inl q
    · refine .inr ⟨g,cap,cur,rfl,hb,?_,rest⟩
      rw [ho.heap' g (fun e=>h1 (by rw [←e];rfl))];exact hcur
  · obtain⟨F,k1,k2⟩:=q4 j x c hx hc
    exact⟨F,R.keep k1 (fun b hb o u hu=>ho.cell (fun e=>h2 _ _ _ k1 b hb e.symm) hu),k2⟩
theorem RowsAt.grownR {w w':World} {r:Option Nat} {b:Nat} {l:List Int} (h:RowsAt w b l) (hg:w.grownBy w' r) (hne:r≠some b):RowsAt w' b l:=
 ⟨h.1,fun _i hi=>hg.cell (h.cell hi) (fun e=>hne e.symm),fun _i hi=>(BoxAt.grownR ⟨h.cell hi,h.free hi⟩ hg hne).2⟩
theorem RK.app {n₁:Nat} {X:Nat→Prop} {A B C:World} (h:RK n₁ X A B) {α:Type} {R:Rep α} {n₀:Nat} {e:TypeId} {size:Nat} {v:Value} {l:List α} (hg:B.grownBy C v.ownBlock) (ho:OwnL R n₀ e size v B l) (hX:∀k,v.ownBlock=some k→X k∨A.heap.size≤k):RK n₁ X A C:=by
 refine h.wrote (Y:=fun k=>v.ownBlock=some k) ⟨hg.os,hg.tape,hg.output,hg.size,fun k hk hx=>hg.block k hk (fun e=>hx e.symm),fun k o hk hc=>?_⟩ hX
 refine (hg.block k (Array.getElem?_eq_some_iff.1 hk).1 fun e=>?_).trans hk
 obtain⟨cs,q1,q2,q3,q4⟩:=ho
 rcases q3.2 with ⟨rfl,_⟩ | ⟨g,cap,cur,rfl,hb,hcur,rest⟩
 · cases e
 · cases e;rw [hk] at hcur;cases hcur;cases hc
theorem KeepX.step {n₀:Nat} {X:Nat→Prop} {A B C:World} (h:KeepX n₀ X A B) (e:Ext B C) (hn:n₀≤B.heap.size):KeepX n₀ X A C:=h.trans (KeepX.of_ext e hn)
theorem KeepX.turnX {n₀:Nat} {X:Nat→Prop} {A B C:World} (h:KeepX n₀ X A B) {O:Nat} (t:Turns O B C) (hO:X O):KeepX n₀ X A C:=
 h.trans ⟨nq_ t.size.symm,fun k _ hx=>t.heap' k (fun e=>hx (e ▸ hO))⟩
theorem KeepX.app {n₀:Nat} {X:Nat→Prop} {A B C:World} (h:KeepX n₀ X A B) {v:Value} (hg:B.grownBy C v.ownBlock) (hb:∀b,v.ownBlock=some b→n₀≤b) (hn:n₀≤B.heap.size):KeepX n₀ X A C:=
 ⟨Tq h.size hg.size,fun k hk hx=>(hg.block k (nl_ hk hn) (fun e=>by have:=hb k e.symm;omega)).trans (h.block k hk hx)⟩
theorem KeptX.turn {X:Nat→Prop} {A B C:World} (h:KeptX X A B) {O:Nat} (t:Turns O B C) (hO:A.heap.size≤O):KeptX X A C:=
 ⟨by rw [t.size];exact h.size,fun k o hk ho hx=>by
  have hk1:=(Array.getElem?_eq_some_iff.1 hk).1
  rw [t.heap' k (by omega)];exact h.cells k o hk ho hx⟩
def inR {α:Type} (S:Nat→Prop) (R:Rep α):Rep α where
 rel w c x F:=R.rel w c x F∧∀b ∈ F,S b
 keep:=fun h hk=>⟨R.keep h.1 hk,h.2⟩
 lt:=fun h=>R.lt h.1
structure OwnS {α:Type} (S:Nat→Prop) (R:Rep α) (e:TypeId) (size:Nat) (v:Value) (w:World) (l:List α):Prop where
 own:OwnL (inR S R) 0 e size v w l
 blk:∀b,v.ownBlock=some b→S b
theorem OwnS.nil {α:Type} (S:Nat→Prop) (R:Rep α) (e:TypeId) (size:Nat) (w:World):OwnS S R e size (.slice none 0 0) w []:=⟨OwnL.nil _ _ _ _ _,fun b h=>by cases h⟩
theorem OwnS.ext {α:Type} {S:Nat→Prop} {R:Rep α} {e:TypeId} {size:Nat} {v:Value} {w w':World} {l:List α} (h:OwnS S R e size v w l) (hE:Ext w w'):OwnS S R e size v w' l:=⟨h.own.ext hE,h.blk⟩
instance {α:Type} {S:Nat→Prop} {R:Rep α} {e:TypeId} {size:Nat} {v:Value} {w w':World} {l:List α}:MvC w w' (OwnS S R e size v w l) (OwnS S R e size v w' l):=⟨fun e h=>h.ext e⟩
theorem OwnS.mv {α:Type} {S:Nat→Prop} {R:Rep α} {e:TypeId} {size m:Nat} {v:Value} {w w':World} {l:List α} (h:OwnS S R e size v w l) (hm:Mv m w w'):OwnS S R e size v w' l:=⟨hm.own h.own,h.blk⟩
theorem OwnS.lt {α:Type} {S:Nat→Prop} {R:Rep α} {e:TypeId} {size:Nat} {v:Value} {w:World} {l:List α} (h:OwnS S R e size v w l):∀b,v.ownBlock=some b→b<w.heap.size:=h.own.lt
theorem OwnS.turn {α:Type} {S:Nat→Prop} {R:Rep α} {e:TypeId} {size:Nat} {v:Value} {w X:World} {l:List α} {O:Nat} (h:OwnS S R e size v w l) (ho:Turns O w X) (hO:¬S O):OwnS S R e size v X l:=
 ⟨h.own.turn ho (fun e=>hO (h.blk O e)) fun _c _x _F hr b hb e=>hO (e ▸ hr.2 b hb),h.blk⟩
theorem OwnS.mono {α:Type} {S T:Nat→Prop} {R:Rep α} {e:TypeId} {size:Nat} {v:Value} {w:World} {l:List α} (h:OwnS S R e size v w l) (hST:∀k,k<w.heap.size→S k→T k):OwnS T R e size v w l:=by
 obtain⟨⟨cs,h1,h2,h3,h4⟩,hb⟩:=h
 exact⟨⟨cs,h1,h2,h3,fun j x c hx hc=>by obtain⟨F,q1,q2⟩:=h4 j x c hx hc;exact⟨F,⟨q1.1,fun b hb=>hST b (R.lt q1.1 b hb) (q1.2 b hb)⟩,q2⟩⟩,fun b e=>hST b (h3.lt b e).2 (hb b e)⟩
theorem OwnS.app {α:Type} {S:Nat→Prop} {R:Rep α} {P:Program} {t ty e:TypeId} {z:Value} {size bytes:Nat} (E:ElemT P t e z size bytes) {v:Value} {w:World} {l:List α} (h:OwnS S R e size v w l) {k:Nat} (hl:l.length=k)
    {O c:Nat} {x:α} {d:List Value} {F:List Nat} (hsz:d.length=size) (hcell:∀j u,d[j]? =some u→w.cell? ⟨O,j,none⟩=some u) (h1:∀u ∈ d,u.oneCell'=true)
    (hR:R.rel w d x F) (hF:∀b ∈ F,v.ownBlock≠some b) (hb:(k+1) * bytes≤140737488355328) (hmax:k+1≤9223372036854775807):
    ∃g cap w',(Builtin.append_ #[t,t] ty #[v,.slice (some ⟨O,0,none⟩) 1 c]).run P w= .ok (.slice (some ⟨g,0,none⟩) (k+1) cap) w'∧OwnS (fun b=>S b∨b ∈ F∨w.heap.size≤b) R e size (.slice (some ⟨g,0,none⟩) (k+1) cap) w' (l ++ [x])∧
      (∀U,Ext U w→(∀b,S b→U.heap.size≤b)→Ext U w')∧w.grownBy w' v.ownBlock∧g<w'.heap.size∧(S g∨w.heap.size≤g):=by
  have hS:OwnL (inR (fun b=>S b∨b ∈ F∨w.heap.size≤b) R) 0 e size v w l:=by
    obtain⟨cs,h1,h2,h3,h4⟩:=h.own
    exact⟨cs,h1,h2,h3,fun j x c hx hc=>by obtain⟨F,q1,q2⟩:=h4 j x c hx hc;exact⟨F,⟨q1.1,fun b hb=> .inl (q1.2 b hb)⟩,q2⟩⟩
  obtain⟨cs,q1,q2,q3,q4⟩:=hS
  subst hl
  obtain⟨i,hi,hz0,hz1,hz2⟩:=info_parts E.info
  obtain⟨v',w',hrun,hown,hg,hiff,hat⟩:=run_append_own_at (P:=P) w 0 t ty e i z size bytes E.under hi hz0 hz1 hz2 E.zs E.pos v l.length cs.flatten q3 ⟨O,0,none⟩ 1 c d (by rw [hsz,Nat.one_mul]) (fun j u hj=>by
    rw [Addr.add_mid,Nat.zero_add];exact hcell j u hj) h1 (by unfold maxLen;exact hmax) hb (Nat.zero_le _)
  have hnb:∀F:List Nat,(∀b ∈ F,v.ownBlock≠some b)→(∀b ∈ F,b<w.heap.size)→(∀b ∈ F,v'.ownBlock≠some b)∧∀b ∈ F,∀o u,w.cell? ⟨b,o,none⟩=some u→w'.cell? ⟨b,o,none⟩=some u:=by
    intro F hF hFl
    refine⟨fun b hbF hv'=>?_,fun b hbF o u hu=>hg.cell hu (fun e=>hF b hbF e.symm)⟩
    rcases hat with e1 | e1
    · exact hF b hbF (by rw [←e1];exact hv')
    · rw [e1] at hv';cases hv';have:=hFl _ hbF;omega
  have hO:OwnL (inR (fun b=>S b∨b ∈ F∨w.heap.size≤b) R) 0 e size v' w' (l ++ [x]):=⟨cs ++ [d],by simp [q1],by
      intro y hy
      rcases List.mem_append.1 hy with hy | hy
      · exact q2 y hy
      · rw [List.mem_singleton.1 hy];exact hsz,by rw [List.flatten_append,List.length_append];simpa using hown,by
      intro j y c hx hc
      rcases Nat.lt_or_ge j l.length with hj | hj
      · rw [List.getElem?_append_left hj] at hx
        rw [List.getElem?_append_left (by rw [q1];exact hj)] at hc
        obtain⟨F',p1,p2⟩:=q4 j y c hx hc
        obtain⟨k1,k2⟩:=hnb F' p2 (R.lt p1.1)
        exact⟨F',⟨R.keep p1.1 k2,p1.2⟩,k1⟩
      · rw [List.getElem?_append_right hj] at hx
        rw [List.getElem?_append_right (by rw [q1];exact hj),q1] at hc
        match hj':j - l.length,hx,hc with
        | 0,hx,hc=>
          simp at hx hc;subst hx hc
          obtain⟨k1,k2⟩:=hnb F hF (R.lt hR)
          exact⟨F,⟨R.keep hR k2,fun b hb=> .inr (.inl hb)⟩,k1⟩
        | _+1,hx,_=>simp at hx⟩
  have hblk:∀b,v'.ownBlock=some b→S b∨w.heap.size≤b:=fun b hb=>by
    rcases hat with e1 | e1
    · exact .inl (h.blk b (by rw [←e1];exact hb))
    · rw [e1] at hb;cases hb;exact .inr (nr_ _)
  have hlt':=hO.lt
  rcases hown.2 with ⟨q,_⟩ | ⟨g,cap,cur,q,_,_,_,_⟩
  · have:=(hiff.1 q).2;omega
  · subst q
    exact⟨g,cap,w',hrun,⟨hO,fun b hb=>(hblk b hb).elim .inl (fun h=> .inr (.inr h))⟩,fun U hU hUS=>⟨hg.os.trans hU.os,hg.tape.trans hU.tape,hg.output.trans hU.output,Tq hU.size hg.size,fun k hk=>(hg.block k (nl_ hk hU.size) (fun e=>by have:=hUS k (h.blk k e.symm);omega)).trans (hU.block k hk)⟩,hg,hlt' g rfl,hblk g rfl⟩
section
variable {w w':World} {g:Nat}
end
theorem KeepX.box {n₀:Nat} {X:Nat→Prop} {A B:World} (hk:KeepX n₀ X A B) {b o:Nat} {v:Value} (h:BoxAt A b o v) (hb:b<n₀) (hx:¬X b):BoxAt B b o v:=
 ⟨(hk.cell hb hx).trans h.1,(World.frozen?_of_block (hk.block b hb hx)).trans h.2⟩
theorem OwnS.cap {α:Type} {S:Nat→Prop} {R:Rep α} {e:TypeId} {size:Nat} {a:Option Addr} {n c:Nat} {w:World} {l:List α} (h:OwnS S R e size (.slice a n c) w l) (hl:l.length=n):n≤c:=by
 obtain⟨⟨cs,h1,h2,h3,h4⟩,hb⟩:=h
 rcases h3.2 with ⟨q,q2⟩ | ⟨g,cap,cur,q,_,_,hc,_⟩
 · injection q with r1 r2 r3;omega
 · injection q with r1 r2 r3;omega
theorem gq6 {w X:World} {v:Value} {N:Nat} {O0 o0:Nat} {u0:Value} {O1 o1:Nat} {u1:Value} {O2 o2:Nat} {u2:Value} {O3 o3:Nat} {u3:Value} {O4 o4:Nat} {u4:Value} {O5 o5:Nat} {u5:Value} {G:Prop} (g:w.grownBy X v.ownBlock) (f:∀b,v.ownBlock=some b→b<N) (h0:BoxAt w O0 o0 u0) (h1:BoxAt w O1 o1 u1) (h2:BoxAt w O2 o2 u2) (h3:BoxAt w O3 o3 u3) (h4:BoxAt w O4 o4 u4) (h5:BoxAt w O5 o5 u5) (k:BoxAt X O0 o0 u0→BoxAt X O1 o1 u1→BoxAt X O2 o2 u2→BoxAt X O3 o3 u3→BoxAt X O4 o4 u4→BoxAt X O5 o5 u5→G) (e:N≤O0∧N≤O1∧N≤O2∧N≤O3∧N≤O4∧N≤O5:=by omega):G:=k (BoxAt.grownR h0 g (own_not2 f e.1)) (BoxAt.grownR h1 g (own_not2 f e.2.1)) (BoxAt.grownR h2 g (own_not2 f e.2.2.1)) (BoxAt.grownR h3 g (own_not2 f e.2.2.2.1)) (BoxAt.grownR h4 g (own_not2 f e.2.2.2.2.1)) (BoxAt.grownR h5 g (own_not2 f e.2.2.2.2.2))
theorem gq7 {w X:World} {v:Value} {N:Nat} {O0 o0:Nat} {u0:Value} {O1 o1:Nat} {u1:Value} {O2 o2:Nat} {u2:Value} {O3 o3:Nat} {u3:Value} {O4 o4:Nat} {u4:Value} {O5 o5:Nat} {u5:Value} {O6 o6:Nat} {u6:Value} {G:Prop} (g:w.grownBy X v.ownBlock) (f:∀b,v.ownBlock=some b→b<N) (h0:BoxAt w O0 o0 u0) (h1:BoxAt w O1 o1 u1) (h2:BoxAt w O2 o2 u2) (h3:BoxAt w O3 o3 u3) (h4:BoxAt w O4 o4 u4) (h5:BoxAt w O5 o5 u5) (h6:BoxAt w O6 o6 u6) (k:BoxAt X O0 o0 u0→BoxAt X O1 o1 u1→BoxAt X O2 o2 u2→BoxAt X O3 o3 u3→BoxAt X O4 o4 u4→BoxAt X O5 o5 u5→BoxAt X O6 o6 u6→G) (e:N≤O0∧N≤O1∧N≤O2∧N≤O3∧N≤O4∧N≤O5∧N≤O6:=by omega):G:=k (BoxAt.grownR h0 g (own_not2 f e.1)) (BoxAt.grownR h1 g (own_not2 f e.2.1)) (BoxAt.grownR h2 g (own_not2 f e.2.2.1)) (BoxAt.grownR h3 g (own_not2 f e.2.2.2.1)) (BoxAt.grownR h4 g (own_not2 f e.2.2.2.2.1)) (BoxAt.grownR h5 g (own_not2 f e.2.2.2.2.2.1)) (BoxAt.grownR h6 g (own_not2 f e.2.2.2.2.2.2))
theorem gq8 {w X:World} {v:Value} {N:Nat} {O0 o0:Nat} {u0:Value} {O1 o1:Nat} {u1:Value} {O2 o2:Nat} {u2:Value} {O3 o3:Nat} {u3:Value} {O4 o4:Nat} {u4:Value} {O5 o5:Nat} {u5:Value} {O6 o6:Nat} {u6:Value} {O7 o7:Nat} {u7:Value} {G:Prop} (g:w.grownBy X v.ownBlock) (f:∀b,v.ownBlock=some b→b<N) (h0:BoxAt w O0 o0 u0) (h1:BoxAt w O1 o1 u1) (h2:BoxAt w O2 o2 u2) (h3:BoxAt w O3 o3 u3) (h4:BoxAt w O4 o4 u4) (h5:BoxAt w O5 o5 u5) (h6:BoxAt w O6 o6 u6) (h7:BoxAt w O7 o7 u7) (k:BoxAt X O0 o0 u0→BoxAt X O1 o1 u1→BoxAt X O2 o2 u2→BoxAt X O3 o3 u3→BoxAt X O4 o4 u4→BoxAt X O5 o5 u5→BoxAt X O6 o6 u6→BoxAt X O7 o7 u7→G) (e:N≤O0∧N≤O1∧N≤O2∧N≤O3∧N≤O4∧N≤O5∧N≤O6∧N≤O7:=by omega):G:=k (BoxAt.grownR h0 g (own_not2 f e.1)) (BoxAt.grownR h1 g (own_not2 f e.2.1)) (BoxAt.grownR h2 g (own_not2 f e.2.2.1)) (BoxAt.grownR h3 g (own_not2 f e.2.2.2.1)) (BoxAt.grownR h4 g (own_not2 f e.2.2.2.2.1)) (BoxAt.grownR h5 g (own_not2 f e.2.2.2.2.2.1)) (BoxAt.grownR h6 g (own_not2 f e.2.2.2.2.2.2.1)) (BoxAt.grownR h7 g (own_not2 f e.2.2.2.2.2.2.2))
theorem gq16 {w X:World} {v:Value} {N:Nat} {O0 o0:Nat} {u0:Value} {O1 o1:Nat} {u1:Value} {O2 o2:Nat} {u2:Value} {O3 o3:Nat} {u3:Value} {O4 o4:Nat} {u4:Value} {O5 o5:Nat} {u5:Value} {O6 o6:Nat} {u6:Value} {O7 o7:Nat} {u7:Value} {O8 o8:Nat} {u8:Value} {O9 o9:Nat} {u9:Value} {O10 o10:Nat} {u10:Value} {O11 o11:Nat} {u11:Value} {O12 o12:Nat} {u12:Value} {O13 o13:Nat} {u13:Value} {O14 o14:Nat} {u14:Value} {O15 o15:Nat} {u15:Value} {G:Prop} (g:w.grownBy X v.ownBlock) (f:∀b,v.ownBlock=some b→b<N) (h0:BoxAt w O0 o0 u0) (h1:BoxAt w O1 o1 u1) (h2:BoxAt w O2 o2 u2) (h3:BoxAt w O3 o3 u3) (h4:BoxAt w O4 o4 u4) (h5:BoxAt w O5 o5 u5) (h6:BoxAt w O6 o6 u6) (h7:BoxAt w O7 o7 u7) (h8:BoxAt w O8 o8 u8) (h9:BoxAt w O9 o9 u9) (h10:BoxAt w O10 o10 u10) (h11:BoxAt w O11 o11 u11) (h12:BoxAt w O12 o12 u12) (h13:BoxAt w O13 o13 u13) (h14:BoxAt w O14 o14 u14) (h15:BoxAt w O15 o15 u15) (k:BoxAt X O0 o0 u0→BoxAt X O1 o1 u1→BoxAt X O2 o2 u2→BoxAt X O3 o3 u3→BoxAt X O4 o4 u4→BoxAt X O5 o5 u5→BoxAt X O6 o6 u6→BoxAt X O7 o7 u7→BoxAt X O8 o8 u8→BoxAt X O9 o9 u9→BoxAt X O10 o10 u10→BoxAt X O11 o11 u11→BoxAt X O12 o12 u12→BoxAt X O13 o13 u13→BoxAt X O14 o14 u14→BoxAt X O15 o15 u15→G) (e:N≤O0∧N≤O1∧N≤O2∧N≤O3∧N≤O4∧N≤O5∧N≤O6∧N≤O7∧N≤O8∧N≤O9∧N≤O10∧N≤O11∧N≤O12∧N≤O13∧N≤O14∧N≤O15:=by omega):G:=k (BoxAt.grownR h0 g (own_not2 f e.1)) (BoxAt.grownR h1 g (own_not2 f e.2.1)) (BoxAt.grownR h2 g (own_not2 f e.2.2.1)) (BoxAt.grownR h3 g (own_not2 f e.2.2.2.1)) (BoxAt.grownR h4 g (own_not2 f e.2.2.2.2.1)) (BoxAt.grownR h5 g (own_not2 f e.2.2.2.2.2.1)) (BoxAt.grownR h6 g (own_not2 f e.2.2.2.2.2.2.1)) (BoxAt.grownR h7 g (own_not2 f e.2.2.2.2.2.2.2.1)) (BoxAt.grownR h8 g (own_not2 f e.2.2.2.2.2.2.2.2.1)) (BoxAt.grownR h9 g (own_not2 f e.2.2.2.2.2.2.2.2.2.1)) (BoxAt.grownR h10 g (own_not2 f e.2.2.2.2.2.2.2.2.2.2.1)) (BoxAt.grownR h11 g (own_not2 f e.2.2.2.2.2.2.2.2.2.2.2.1)) (BoxAt.grownR h12 g (own_not2 f e.2.2.2.2.2.2.2.2.2.2.2.2.1)) (BoxAt.grownR h13 g (own_not2 f e.2.2.2.2.2.2.2.2.2.2.2.2.2.1)) (BoxAt.grownR h14 g (own_not2 f e.2.2.2.2.2.2.2.2.2.2.2.2.2.2.1)) (BoxAt.grownR h15 g (own_not2 f e.2.2.2.2.2.2.2.2.2.2.2.2.2.2.2))
theorem gp7 {w X:World} {v:Value} {N:Nat} {O0 o0:Nat} {u0:Value} {O1 o1:Nat} {u1:Value} {O2 o2:Nat} {u2:Value} {O3 o3:Nat} {u3:Value} {O4 o4:Nat} {u4:Value} {O5 o5:Nat} {u5:Value} {O6 o6:Nat} {u6:Value} {G:Prop} (g:w.grownBy X v.ownBlock) (f:∀b,v.ownBlock=some b→N≤b) (h0:BoxAt w O0 o0 u0) (h1:BoxAt w O1 o1 u1) (h2:BoxAt w O2 o2 u2) (h3:BoxAt w O3 o3 u3) (h4:BoxAt w O4 o4 u4) (h5:BoxAt w O5 o5 u5) (h6:BoxAt w O6 o6 u6) (k:BoxAt X O0 o0 u0→BoxAt X O1 o1 u1→BoxAt X O2 o2 u2→BoxAt X O3 o3 u3→BoxAt X O4 o4 u4→BoxAt X O5 o5 u5→BoxAt X O6 o6 u6→G) (e:O0<N∧O1<N∧O2<N∧O3<N∧O4<N∧O5<N∧O6<N:=by omega):G:=k (BoxAt.grownR h0 g (own_not f e.1)) (BoxAt.grownR h1 g (own_not f e.2.1)) (BoxAt.grownR h2 g (own_not f e.2.2.1)) (BoxAt.grownR h3 g (own_not f e.2.2.2.1)) (BoxAt.grownR h4 g (own_not f e.2.2.2.2.1)) (BoxAt.grownR h5 g (own_not f e.2.2.2.2.2.1)) (BoxAt.grownR h6 g (own_not f e.2.2.2.2.2.2))
theorem gp11 {w X:World} {v:Value} {N:Nat} {O0 o0:Nat} {u0:Value} {O1 o1:Nat} {u1:Value} {O2 o2:Nat} {u2:Value} {O3 o3:Nat} {u3:Value} {O4 o4:Nat} {u4:Value} {O5 o5:Nat} {u5:Value} {O6 o6:Nat} {u6:Value} {O7 o7:Nat} {u7:Value} {O8 o8:Nat} {u8:Value} {O9 o9:Nat} {u9:Value} {O10 o10:Nat} {u10:Value} {G:Prop} (g:w.grownBy X v.ownBlock) (f:∀b,v.ownBlock=some b→N≤b) (h0:BoxAt w O0 o0 u0) (h1:BoxAt w O1 o1 u1) (h2:BoxAt w O2 o2 u2) (h3:BoxAt w O3 o3 u3) (h4:BoxAt w O4 o4 u4) (h5:BoxAt w O5 o5 u5) (h6:BoxAt w O6 o6 u6) (h7:BoxAt w O7 o7 u7) (h8:BoxAt w O8 o8 u8) (h9:BoxAt w O9 o9 u9) (h10:BoxAt w O10 o10 u10) (k:BoxAt X O0 o0 u0→BoxAt X O1 o1 u1→BoxAt X O2 o2 u2→BoxAt X O3 o3 u3→BoxAt X O4 o4 u4→BoxAt X O5 o5 u5→BoxAt X O6 o6 u6→BoxAt X O7 o7 u7→BoxAt X O8 o8 u8→BoxAt X O9 o9 u9→BoxAt X O10 o10 u10→G) (e:O0<N∧O1<N∧O2<N∧O3<N∧O4<N∧O5<N∧O6<N∧O7<N∧O8<N∧O9<N∧O10<N:=by omega):G:=k (BoxAt.grownR h0 g (own_not f e.1)) (BoxAt.grownR h1 g (own_not f e.2.1)) (BoxAt.grownR h2 g (own_not f e.2.2.1)) (BoxAt.grownR h3 g (own_not f e.2.2.2.1)) (BoxAt.grownR h4 g (own_not f e.2.2.2.2.1)) (BoxAt.grownR h5 g (own_not f e.2.2.2.2.2.1)) (BoxAt.grownR h6 g (own_not f e.2.2.2.2.2.2.1)) (BoxAt.grownR h7 g (own_not f e.2.2.2.2.2.2.2.1)) (BoxAt.grownR h8 g (own_not f e.2.2.2.2.2.2.2.2.1)) (BoxAt.grownR h9 g (own_not f e.2.2.2.2.2.2.2.2.2.1)) (BoxAt.grownR h10 g (own_not f e.2.2.2.2.2.2.2.2.2.2))
end Go.Proofs.YtpfajhcdfgpgmaaGreatDoor

namespace Go.Proofs.YtpfajhcdfgpgmaaGreatDoor
def IsI (c:Int):Prop:= -9223372036854775808≤c∧c≤9223372036854775807
end Go.Proofs.YtpfajhcdfgpgmaaGreatDoor

namespace Go.Proofs.YtpfajhcdfgpgmaaGreatDoor
variable {e k n:Nat}
namespace Bdd
inductive D where
 | leaf (b:Bool)
 | nd (e:Nat) (no yes:D)
deriving DecidableEq
def sem:D→(Nat→Bool)→Bool
 | .leaf b,_=>b
 | .nd e a b,s=>if s e then sem b s else sem a s
def OK:Nat→Nat→D→Prop
 | _,_,.leaf _=>True
 | k,n,.nd e a b=>k≤e∧e<n∧a≠b∧OK (e+1) n a∧OK (e+1) n b
theorem OK.mono:∀ {t:D} {j k n:Nat},OK k n t→j≤k→OK j n t
 | .leaf _,_,_,_,_,_=>trivial
 | .nd _ _ _,_,_,_,⟨h1,h2⟩,h=>⟨Tq h h1,h2⟩
theorem OK.congr:∀ {t:D} {k n:Nat},OK k n t→∀ {s s':Nat→Bool},(∀i,k≤i→i<n→s i=s' i)→sem t s=sem t s'
 | .leaf _,_,_,_,_,_,_=>rfl
 | .nd e a b,k,n,⟨h1,h2,h3,h4,h5⟩,s,s',h=>by
  have ha:=OK.congr h4 (s:=s) (s':=s') fun i hi=>h i (by omega)
  have hb:=OK.congr h5 (s:=s) (s':=s') fun i hi=>h i (by omega)
  simp only [sem,h e h1 h2,ha,hb]
def upd (s:Nat→Bool) (e:Nat) (b:Bool):Nat→Bool:=fun i=>if i=e then b else s i
theorem sem_no {a b:D} (h:OK (e+1) n a) (s:Nat→Bool):sem (.nd e a b) (upd s e false)=sem a s:=by
 simp only [sem,upd,if_true]
 exact h.congr fun i hi _=>if_neg (by omega)
theorem sem_yes {a b:D} (h:OK (e+1) n b) (s:Nat→Bool):sem (.nd e a b) (upd s e true)=sem b s:=by
 simp only [sem,upd,if_true]
 exact h.congr fun i hi _=>if_neg (by omega)
theorem sem_old {t:D} {v:Bool} (h:OK (e+1) n t) (s:Nat→Bool):sem t (upd s e v)=sem t s:=h.congr fun i hi _=>if_neg (by omega)
def sz:D→Nat
 | .leaf _=>0
 | .nd _ a b=>sz a+sz b+1
theorem uniq_aux:∀(m:Nat) {a b:D} {k n:Nat},sz a+sz b≤m→OK k n a→OK k n b→(∀s,sem a s=sem b s)→a=b
  | _,.leaf x,.leaf y,_,_,_,_,_,h=>by rw [show x=y from h fun _=>false]
  | 0,.leaf _,.nd _ _ _,_,_,hm,_,_,_=>by simp [sz] at hm
  | 0,.nd _ _ _,_,_,_,hm,_,_,_=>by simp [sz] at hm
  | m+1,.leaf x,.nd e a b,k,n,hm,_,⟨h1,h2,h3,h4,h5⟩,h=>by
    simp only [sz] at hm
    have ea:D.leaf x=a:=uniq_aux m (k:=e+1) (n:=n) (by simp only [sz];omega) trivial h4 fun s=>(h (upd s e false)).trans (sem_no h4 s)
    have eb:D.leaf x=b:=uniq_aux m (k:=e+1) (n:=n) (by simp only [sz];omega) trivial h5 fun s=>(h (upd s e true)).trans (sem_yes h5 s)
    exact absurd (ea.symm.trans eb) h3
  | m+1,.nd e a b,.leaf x,k,n,hm,⟨h1,h2,h3,h4,h5⟩,_,h=>by
    simp only [sz] at hm
    have ea:a=D.leaf x:=uniq_aux m (k:=e+1) (n:=n) (by simp only [sz];omega) h4 trivial fun s=>(sem_no h4 s).symm.trans (h (upd s e false))
    have eb:b=D.leaf x:=uniq_aux m (k:=e+1) (n:=n) (by simp only [sz];omega) h5 trivial fun s=>(sem_yes h5 s).symm.trans (h (upd s e true))
    exact absurd (ea.trans eb.symm) h3
  | m+1,.nd e a b,.nd f c d,k,n,hm,⟨h1,h2,h3,h4,h5⟩,⟨g1,g2,g3,g4,g5⟩,h=>by
    simp only [sz] at hm
    rcases Nat.lt_trichotomy e f with q | q | q
    · have hd:OK (e+1) n (.nd f c d):=⟨q,g2,g3,g4,g5⟩
      have ea:a= .nd f c d:=uniq_aux m (k:=e+1) (n:=n) (by simp only [sz];omega) h4 hd fun s=>by rw [←sem_no (b:=b) h4 s,h,sem_old hd]
      have eb:b= .nd f c d:=uniq_aux m (k:=e+1) (n:=n) (by simp only [sz];omega) h5 hd fun s=>by rw [←sem_yes (a:=a) h5 s,h,sem_old hd]
      exact absurd (ea.trans eb.symm) h3
    · subst q
      have ea:a=c:=uniq_aux m (k:=e+1) (n:=n) (by omega) h4 g4 fun s=>by rw [←sem_no (b:=b) h4 s,h,sem_no g4]
      have eb:b=d:=uniq_aux m (k:=e+1) (n:=n) (by omega) h5 g5 fun s=>by rw [←sem_yes (a:=a) h5 s,h,sem_yes g5]
      rw [ea,eb]
    · have hd:OK (f+1) n (.nd e a b):=⟨q,h2,h3,h4,h5⟩
      have ea: .nd e a b=c:=uniq_aux m (k:=f+1) (n:=n) (by simp only [sz];omega) hd g4 fun s=>by rw [←sem_no (b:=d) g4 s,←h,sem_old hd]
      have eb: .nd e a b=d:=uniq_aux m (k:=f+1) (n:=n) (by simp only [sz];omega) hd g5 fun s=>by rw [←sem_yes (a:=c) g5 s,←h,sem_old hd]
      exact absurd (ea.symm.trans eb) g3
theorem uniq {a b:D} (ha:OK k n a) (hb:OK k n b) (h:∀s,sem a s=sem b s):a=b:=uniq_aux _ (nr_ _) ha hb h
def mk (e:Nat) (a b:D):D:=if a=b then a else .nd e a b
theorem sem_mk {a b:D} (s:Nat→Bool):sem (mk e a b) s=if s e then sem b s else sem a s:=by
 unfold mk
 split
 · rename_i q;subst q;split <;> rfl
 · rfl
theorem OK.mk {e n:Nat} {a b:D} (he:e<n) (ha:OK (e+1) n a) (hb:OK (e+1) n b):OK e n (Bdd.mk e a b):=by
 unfold Bdd.mk
 split
 · exact ha.mono (Nat.le_succ e)
 · rename_i q;exact⟨nr_ _,he,q,ha,hb⟩
def canon (f:(Nat→Bool)→Bool) (n:Nat):Nat→Nat→(Nat→Bool)→D
 | 0,_,s=> .leaf (f s)
 | d+1,k,s=>mk k (canon f n d (k+1) (upd s k false)) (canon f n d (k+1) (upd s k true))
theorem canon_ok {f:(Nat→Bool)→Bool} {n:Nat}:∀ {d k:Nat} {s:Nat→Bool},k+d=n→OK k n (canon f n d k s)
 | 0,_,_,_=>trivial
 | _+1,_,_,h=>OK.mk (by omega) (canon_ok (by omega)) (canon_ok (by omega))
def mix (k:Nat) (s t:Nat→Bool):Nat→Bool:=fun i=>if i<k then s i else t i
theorem canon_sem {f:(Nat→Bool)→Bool} {n:Nat} (hf:∀s s',(∀i,i<n→s i=s' i)→f s=f s'):∀ {d k:Nat} {s:Nat→Bool},k+d=n→∀t,sem (canon f n d k s) t=f (mix k s t)
 | 0,k,s,h,t=>hf _ _ fun i hi=>(if_pos (by omega)).symm
 | d+1,k,s,h,t=>by
  rw [canon,sem_mk,canon_sem hf (by omega),canon_sem hf (by omega)]
  have e:∀v,t k=v→mix (k+1) (upd s k v) t=mix k s t:=fun v hv=>by
   funext i
   unfold mix upd
   rcases Nat.lt_trichotomy i k with q | q | q
   · rw [if_pos (by omega),if_neg (by omega),if_pos q]
   · subst q;rw [if_pos (by omega),if_pos rfl,if_neg (by omega),hv]
   · rw [if_neg (by omega),if_neg (by omega)]
  cases hk:t k
  · simp [e _ hk]
  · simp [e _ hk]
end Bdd
namespace Bdd
theorem nodup_len {κ:Type} [DecidableEq κ]:∀ {L M:List κ},L.Nodup→(∀x ∈ L,x ∈ M)→L.length≤M.length
 | [],_,_,_=>Nat.zero_le _
 | x :: L,M,hn,h=>by
  rw [List.nodup_cons] at hn
  have hx:=h x (List.mem_cons_self ..)
  have ih:=nodup_len (M:=M.erase x) hn.2 fun y hy=>(List.mem_erase_of_ne (by rintro rfl;exact hn.1 hy)).2 (h y (List.mem_cons_of_mem _ hy))
  rw [List.length_erase_of_mem hx] at ih
  have:=List.length_pos_of_mem hx
  rw [List.length_cons];omega
def subs:D→List D
 | .leaf _=>[]
 | .nd e a b=> .nd e a b :: (subs a ++ subs b)
theorem subs_len:∀ {t:D} {k n:Nat},OK k n t→(subs t).length+1≤2 ^ (n - k)
 | .leaf _,k,n,_=>by have:0<2 ^ (n - k):=Nat.pow_pos (by decide);simp only [subs,List.length_nil];omega
 | .nd e a b,k,n,⟨h1,h2,_,h4,h5⟩=>by
  have ha:=subs_len h4
  have hb:=subs_len h5
  have e1:2 ^ (n - (e+1)) * 2=2 ^ (n - e):=by rw [←Nat.pow_succ];congr 1;omega
  have e2:2 ^ (n - e)≤2 ^ (n - k):=Nat.pow_le_pow_right (by decide) (by omega)
  simp only [subs,List.length_cons,List.length_append]
  omega
theorem subs_sz:∀ {t x:D},x ∈ subs t→sz x≤sz t
 | .leaf _,_,h=>by cases h
 | .nd e a b,x,h=>by
  simp only [subs,List.mem_cons,List.mem_append] at h
  rcases h with rfl | h | h
  · exact nr_ _
  · have:=subs_sz h;simp only [sz];omega
  · have:=subs_sz h;simp only [sz];omega
def Mem (T:List D):D→Prop
 | .leaf _=>True
 | .nd e a b=> .nd e a b ∈ T
instance {T:List D}:{t:D}→Decidable (Mem T t)
 | .leaf _=> .isTrue trivial
 | .nd e a b=>inferInstanceAs (Decidable (D.nd e a b ∈ T))
theorem Mem.mono {T S:List D}:∀ {t:D},Mem T t→(∀x ∈ T,x ∈ S)→Mem S t
 | .leaf _,_,_=>trivial
 | .nd _ _ _,h,hs=>hs _ h
theorem Mem.of {T:List D}:∀ {t:D},t ∈ T→Mem T t
 | .leaf _,_=>trivial
 | .nd _ _ _,h=>h
theorem Mem.app {T:List D} {t:D} (h:Mem T t) (S:List D):Mem (T ++ S) t:=h.mono fun _=>List.mem_append_left _
structure Cl (n:Nat) (T:List D):Prop where
 nd:T.Nodup
 at_:∀i t,T[i]? =some t→∃e a b,t= .nd e a b∧OK 0 n t∧Mem (T.take i) a∧Mem (T.take i) b
theorem Cl.nil (n:Nat):Cl n []:=⟨List.nodup_nil,fun i t h=>by simp at h⟩
theorem Cl.mem {T:List D} (h:Cl n T) {t:D} (ht:t ∈ T):∃e a b,t= .nd e a b∧OK 0 n t∧Mem T a∧Mem T b:=by
 obtain⟨i,hi⟩:=List.getElem?_of_mem ht
 obtain⟨e,a,b,h1,h2,h3,h4⟩:=h.at_ i t hi
 exact⟨e,a,b,h1,h2,h3.mono fun _=>List.mem_of_mem_take,h4.mono fun _=>List.mem_of_mem_take⟩
theorem Cl.ok {T:List D} (h:Cl n T):∀ {t:D},Mem T t→OK 0 n t
 | .leaf _,_=>trivial
 | .nd _ _ _,ht=>by obtain⟨_,_,_,_,h2,_⟩:=h.mem ht;exact h2
theorem Cl.kids {T:List D} (h:Cl n T) {a b:D} (ht:Mem T (.nd e a b)):Mem T a∧Mem T b:=by
 obtain⟨_,_,_,h1,_,h3,h4⟩:=h.mem ht
 cases h1;exact⟨h3,h4⟩
theorem Cl.snoc {T:List D} (h:Cl n T) {a b:D} (ho:OK 0 n (.nd e a b)) (ha:Mem T a) (hb:Mem T b) (hn: .nd e a b ∉ T):Cl n (T ++ [.nd e a b]):=by
  refine⟨List.nodup_append.2 ⟨h.nd,by simp,fun x hx y hy e=>hn ?_⟩,fun i t hi=>?_⟩
  · rw [List.mem_singleton] at hy;rw [←hy,←e];exact hx
  · rcases Nat.lt_trichotomy i T.length with q | q | q
    · rw [List.getElem?_append_left q] at hi
      obtain⟨e',a',b',h1,h2,h3,h4⟩:=h.at_ i t hi
      rw [List.take_append_of_le_length (by omega)]
      exact⟨e',a',b',h1,h2,h3,h4⟩
    · subst q
      rw [List.getElem?_append_right (nr_ _),Nat.sub_self] at hi
      cases hi
      rw [List.take_append_of_le_length (nr_ _),List.take_length]
      exact⟨e,a,b,rfl,ho,ha,hb⟩
    · rw [List.getElem?_eq_none (by simp;omega)] at hi;cases hi
def ix (T:List D):D→Int
 | .leaf b=>if b then -2 else -1
 | .nd e a b=>((T.idxOf (D.nd e a b):Nat):Int)
theorem ix_at {T:List D} (hT:T.Nodup) {i:Nat} {a b:D} (h:T[i]? =some (.nd e a b)):ix T (.nd e a b)=(i:Int):=by
 obtain⟨hi,he⟩:=List.getElem?_eq_some_iff.1 h
 show ((T.idxOf _:Nat):Int)=_
 rw [←he,hT.idxOf_getElem]
theorem ix_nd {T:List D} {a b:D} (h:Mem T (.nd e a b)):∃i:Nat,ix T (.nd e a b)=(i:Int)∧i<T.length∧T[i]? =some (.nd e a b):=by
 have hm:D.nd e a b ∈ T:=h
 have hl:=List.idxOf_lt_length_of_mem hm
 exact⟨_,rfl,hl,by rw [List.getElem?_eq_getElem hl,List.getElem_idxOf]⟩
theorem ix_app {T S:List D}:∀ {t:D},Mem T t→ix (T ++ S) t=ix T t
 | .leaf _,_=>rfl
 | .nd e a b,h=>by
  have hm:D.nd e a b ∈ T:=h
  show ((List.idxOf _ _:Nat):Int)=((List.idxOf _ _:Nat):Int)
  rw [List.idxOf_append,if_pos hm]
theorem ix_rng {T:List D} {t:D} (h:Mem T t): -2≤ix T t∧ix T t<T.length:=by
 match t,h with
 | .leaf true,_=>exact⟨by show (-2:Int)≤ -2;decide,by show (-2:Int)<_;omega⟩
 | .leaf false,_=>exact⟨by show (-2:Int)≤ -1;decide,by show (-1:Int)<_;omega⟩
 | .nd e a b,h=>obtain⟨i,h1,h2,_⟩:=ix_nd h;rw [h1];omega
theorem ix_inj {T:List D} {t u:D} (ht:Mem T t) (hu:Mem T u) (h:ix T t=ix T u):t=u:=by
 match t,u,ht,hu with
 | .leaf x,.leaf y,_,_=>cases x <;> cases y <;> first | rfl | (simp [ix] at h)
 | .leaf x,.nd e a b,_,hu=>obtain⟨i,h1,_⟩:=ix_nd hu;rw [h1] at h;cases x <;> simp [ix] at h <;> omega
 | .nd e a b,.leaf x,ht,_=>obtain⟨i,h1,_⟩:=ix_nd ht;rw [h1] at h;cases x <;> simp [ix] at h <;> omega
 | .nd e a b,.nd f c d,ht,hu=>
  obtain⟨i,h1,_,h2⟩:=ix_nd ht
  obtain⟨j,g1,_,g2⟩:=ix_nd hu
  have:i=j:=by omega
  subst this
  rw [h2] at g2
  exact Option.some.inj g2
def row (T:List D):D→Int × Int × Int
 | .leaf _=>(0,0,0)
 | .nd e a b=>((e:Int),ix T a,ix T b)
def rows (T:List D):List (Int × Int × Int):=T.map (row T)
theorem rows_len (T:List D):(rows T).length=T.length:=List.length_map _
theorem rows_app {T S:List D} (h:Cl n T):rows (T ++ S)=rows T ++ S.map (row (T ++ S)):=by
 unfold rows
 rw [List.map_append]
 congr 1
 refine List.map_congr_left fun t ht=>?_
 obtain⟨e,a,b,rfl,_,ha,hb⟩:=h.mem ht
 show (_,_,_)=(_,_,_)
 rw [ix_app ha,ix_app hb]
theorem rows_snoc {T:List D} (h:Cl n T) {a b:D} (ha:Mem T a) (hb:Mem T b):rows (T ++ [.nd e a b])=rows T ++ [((e:Int),ix T a,ix T b)]:=by
 rw [rows_app h]
 show _ ++ [(_,_,_)]=_
 rw [ix_app ha,ix_app hb]
theorem row_inj {T:List D} (h:Cl n T) {t u:D} (ht:t ∈ T) {a b:D} (hu:u= .nd e a b) (ha:Mem T a) (hb:Mem T b) (hr:row T t=row T u):t=u:=by
 obtain⟨f,c,d,rfl,_,hc,hd⟩:=h.mem ht
 subst hu
 simp only [row,Prod.mk.injEq] at hr
 have h1:f=e:=by omega
 rw [h1,ix_inj hc ha hr.2.1,ix_inj hd hb hr.2.2]
def add (T:List D) (t:D):List D:=if Mem T t then T else T ++ [t]
theorem add_of {T:List D} {t:D} (h:Mem T t):add T t=T:=if_pos h
theorem add_pre (T:List D) (t:D):∃S,add T t=T ++ S:=by
 unfold add
 split
 · exact⟨[],(List.append_nil _).symm⟩
 · exact⟨[t],rfl⟩
theorem add_mem (T:List D):∀t,Mem (add T t) t
 | .leaf _=>trivial
 | .nd e a b=>by
  unfold add
  split
  · assumption
  · exact List.mem_append_right _ (List.mem_singleton.2 rfl)
theorem add_sub {T:List D}:∀ {t x:D},x ∈ add T t→x ∈ T∨x ∈ subs t
  | .leaf b,x,h=> .inl (by rwa [add_of (t:=.leaf b) trivial] at h)
  | .nd e a b,x,h=>by
    unfold add at h
    split at h
    · exact .inl h
    · rcases List.mem_append.1 h with h | h
      · exact .inl h
      · rw [List.mem_singleton] at h;subst h;exact .inr (List.mem_cons_self ..)
theorem Cl.add {n:Nat} {T:List D} (h:Cl n T) {e:Nat} {a b:D} (he:e<n) (ha:OK (e+1) n a) (hb:OK (e+1) n b) (ma:Mem T a) (mb:Mem T b):Cl n (Bdd.add T (Bdd.mk e a b)):=by
  by_cases q1:a=b
  · subst q1
    rw [show Bdd.mk e a a=a from if_pos rfl,add_of ma];exact h
  · rw [show Bdd.mk e a b= .nd e a b from if_neg q1]
    unfold Bdd.add
    split
    · exact h
    · rename_i q2
      exact h.snoc ⟨Nat.zero_le _,he,q1,ha,hb⟩ ma mb q2
def post (T:List D):D→List D
 | .leaf _=>T
 | .nd e a b=>if .nd e a b ∈ T then T else post (post T a) b ++ [.nd e a b]
theorem post_pre:∀(T:List D) (t:D),∃S,post T t=T ++ S∧∀x ∈ S,x ∈ subs t
  | T,.leaf _=>⟨[],by simp [post],fun x h=>by cases h⟩
  | T,.nd e a b=>by
    unfold post
    split
    · exact⟨[],by simp,fun x h=>by cases h⟩
    · obtain⟨S1,h1,k1⟩:=post_pre T a
      obtain⟨S2,h2,k2⟩:=post_pre (post T a) b
      refine⟨S1 ++ S2 ++ [.nd e a b],by rw [h2,h1];simp [List.append_assoc],fun x hx=>?_⟩
      simp only [List.mem_append,List.mem_singleton] at hx
      rcases hx with (hx | hx) | hx
      · exact List.mem_cons_of_mem _ (List.mem_append_left _ (k1 x hx))
      · exact List.mem_cons_of_mem _ (List.mem_append_right _ (k2 x hx))
      · subst hx;exact List.mem_cons_self ..
theorem post_old (T:List D) (t:D):∀x ∈ T,x ∈ post T t:=fun x hx=>by
 obtain⟨S,h,_⟩:=post_pre T t
 rw [h];exact List.mem_append_left _ hx
theorem post_mem:∀(T:List D) (t:D),Mem (post T t) t
 | _,.leaf _=>trivial
 | T,.nd e a b=>by
  unfold post
  split
  · assumption
  · exact List.mem_append_right _ (List.mem_singleton.2 rfl)
theorem post_of {T:List D}:∀ {t:D},Mem T t→post T t=T
 | .leaf _,_=>rfl
 | .nd _ _ _,h=>if_pos h
theorem nd_new {T:List D} {a b:D} (h:D.nd e a b ∉ T):D.nd e a b ∉ post (post T a) b:=fun q=>by
 obtain⟨S1,h1,k1⟩:=post_pre T a
 obtain⟨S2,h2,k2⟩:=post_pre (post T a) b
 rw [h2,h1] at q
 simp only [List.mem_append] at q
 rcases q with (q | q) | q
 · exact h q
 · have:=subs_sz (k1 _ q);simp only [sz] at this;omega
 · have:=subs_sz (k2 _ q);simp only [sz] at this;omega
theorem Cl.post {n:Nat}:∀ {t:D} {T:List D} {k:Nat},Cl n T→OK k n t→Cl n (Bdd.post T t)
  | .leaf _,_,_,h,_=>h
  | .nd e a b,T,k,h,ho=>by
    unfold Bdd.post
    split
    · exact h
    · rename_i q
      obtain⟨h1,h2,h3,h4,h5⟩:=ho
      have c1:=Cl.post h h4
      have c2:=Cl.post c1 h5
      exact c2.snoc ⟨Nat.zero_le _,h2,h3,h4.mono (by omega) |>.mono (nr_ _),h5⟩ ((post_mem T a).mono (post_old _ _)) (post_mem _ _) (nd_new q)
theorem post_len {T:List D} {t:D} (hc:Cl n (post T t)) (ho:OK k n t):(post T t).length+1≤T.length+2 ^ (n - k):=by
 obtain⟨S,h1,h2⟩:=post_pre T t
 have hs:=subs_len ho
 have:S.length≤(subs t).length:=by
  have hn:S.Nodup:=by have:=hc.nd;rw [h1] at this;exact (List.nodup_append.1 this).2.1
  exact nodup_len hn h2
 rw [h1,List.length_append];omega
theorem sub_len {T S:List D} {t:D} (hn:S.Nodup) (ho:OK k n t) (h:∀x ∈ S,x ∈ T∨x ∈ subs t):S.length+1≤T.length+2 ^ (n - k):=by
 have hs:=subs_len ho
 have:S.length≤(T ++ subs t).length:=nodup_len hn fun x hx=>List.mem_append.2 (h x hx)
 rw [List.length_append] at this;omega
def start (t:D):Int:=ix (post [] t) t
def nodes (t:D):List (Int × Int × Int):=rows (post [] t)
end Bdd
end Go.Proofs.YtpfajhcdfgpgmaaGreatDoor

namespace Go.Proofs.YtpfajhcdfgpgmaaGreatDoor
open Go.RowKit
variable {X Y:Nat→Prop} {A B C w w':World} {K O b m n n₀ o:Nat} {v v':Value} {T:List Bdd.D}
structure Wr (X:Nat→Prop) (A B:World):Prop where
 os:B.os=A.os
 tape:B.tape=A.tape
 output:B.output=A.output
 size:A.heap.size≤B.heap.size
 same:∀(k:Nat),k<A.heap.size→¬X k→B.heap[k]? =A.heap[k]?
theorem Wr.refl (X:Nat→Prop) (A:World):Wr X A A:=⟨rfl,rfl,rfl,nr_ _,fun _ _ _=>rfl⟩
theorem Wr.wr (h:Wr X A B) (k:Wr Y B C) (hY:∀i,Y i→X i∨A.heap.size≤i):Wr X A C:=
 ⟨k.os.trans h.os,k.tape.trans h.tape,k.output.trans h.output,Tq h.size k.size,fun i hi hx=>(k.same i (nl_ hi h.size) fun q=>(hY i q).elim hx fun z=>absurd hi (nn_ z)).trans (h.same i hi hx)⟩
theorem Wr.of_ext (e:Ext A B):Wr X A B:=⟨e.os,e.tape,e.output,e.size,fun k hk _=>e.block k hk⟩
theorem Wr.of_turns {A B:World} {O:Nat} (t:Turns O A B):Wr (fun k=>k=O) A B:=by
 have h:=Wrote.of_turns (X:=fun k=>k=O) t rfl
 exact⟨h.os,h.tape,h.output,h.size,h.same⟩
theorem Wr.of_turnsM (t:TurnsM O A B):Wr (fun k=>k=O) A B:=⟨t.os,t.tape,t.output,nq_ t.size.symm,fun k _ hk=>t.heap' k hk⟩
theorem Wr.of_grown {r:Option Nat} (g:A.grownBy B r):Wr (fun k=>r=some k) A B:=⟨g.os,g.tape,g.output,g.size,fun k hk hx=>g.block k hk fun e=>hx e.symm⟩
theorem Wr.step (h:Wr X A B) (e:Ext B C):Wr X A C:=h.wr (Y:=fun _=>False) (Wr.of_ext e) fun _ q=>q.elim
theorem Wr.turn (h:Wr X A B) (t:Turns O B C) (hO:X O∨A.heap.size≤O):Wr X A C:=h.wr (Wr.of_turns t) fun i q=>(show i=O from q) ▸ hO
theorem Wr.turnM (h:Wr X A B) (t:TurnsM O B C) (hO:X O∨A.heap.size≤O):Wr X A C:=h.wr (Wr.of_turnsM t) fun i q=>(show i=O from q) ▸ hO
theorem Wr.app (h:Wr X A B) {r:Option Nat} (g:B.grownBy C r) (hr:∀k,r=some k→X k∨A.heap.size≤k):Wr X A C:=h.wr (Wr.of_grown g) hr
theorem Wr.mono (h:Wr X A B) (hY:∀k,X k→Y k):Wr Y A B:=⟨h.os,h.tape,h.output,h.size,fun k hk hx=>h.same k hk fun q=>hx (hY k q)⟩
theorem Wr.ext {U:World} (h:Wr X A B) (hU:Ext U A) (hx:∀k,X k→U.heap.size≤k):Ext U B:=
 ⟨h.os.trans hU.os,h.tape.trans hU.tape,h.output.trans hU.output,Tq hU.size h.size,fun k hk=>(h.same k (nl_ hk hU.size) fun q=>absurd hk (nn_ (hx k q))).trans (hU.block k hk)⟩
theorem Wr.cell {X:Nat→Prop} {A B:World} (h:Wr X A B) {b o:Nat} {v:Value} (hb:¬X b) (hv:A.cell? ⟨b,o,none⟩=some v):B.cell? ⟨b,o,none⟩=some v:=
 (World.cell?_of_block (h.same b (World.block_lt_of_cell? _ _ hv) hb)).trans hv
theorem Wr.box (h:Wr X A B) (hb:¬X b) (hv:BoxAt A b o v):BoxAt B b o v:=
 ⟨h.cell hb hv.1,(World.frozen?_of_block (h.same b (World.block_lt_of_cell? _ _ hv.1) hb)).trans hv.2⟩
theorem Wr.map {κ β:Type} {kv:κ→Value} {vv:β→Value} {l:List (κ × β)} (h:Wr X A B) (hb:¬X b) (hm:MapS kv vv A b l):MapS kv vv B b l:=hm.block (h.same b hm.lt hb)
theorem Wr.own {α:Type} {R:Rep α} {e:TypeId} {size:Nat} {l:List α} (h:Wr X A B) (hv:∀b,v.ownBlock=some b→¬X b) (hF:∀c x F,R.rel A c x F→∀b ∈ F,¬X b) (ho:OwnL R n₀ e size v A l):OwnL R n₀ e size v B l:=by
  obtain⟨cs,q1,q2,q3,q4⟩:=ho
  refine⟨cs,q1,q2,⟨q3.1,?_⟩,fun j x c hx hc=>?_⟩
  · rcases q3.2 with q | ⟨g,cap,cur,rfl,hb,hcur,rest⟩
    · exact .inl q
    · exact .inr ⟨g,cap,cur,rfl,hb,(h.same g (Array.getElem?_eq_some_iff.1 hcur).1 (hv g rfl)).trans hcur,rest⟩
  · obtain⟨F,k1,k2⟩:=q4 j x c hx hc
    exact⟨F,R.keep k1 (fun b hb o u hu=>h.cell (hF _ _ _ k1 b hb) hu),k2⟩
abbrev Nod:=Int × Int × Int
def Nod.cells (x:Nod):List Value:=[.int .i64 x.1,.int .i64 x.2.1,.int .i64 x.2.2]
def Nod.val (x:Nod):Value:=.agg #[.int .i64 x.1,.int .i64 x.2.1,.int .i64 x.2.2]
def intV (x:Int):Value:=.int .i64 x
def nodR:Rep Nod where
 rel _ c x F:=c=x.cells∧F= []
 keep:=fun h _=>h
 lt:=by rintro w c x F ⟨_,rfl⟩ b hb;cases hb
theorem nodT:ElemT Tryz.prog 40 56 (.agg #[.int .i64 0,.int .i64 0,.int .i64 0]) 3 24:=⟨Tryz.underlying40,by kernel_rfl,rfl,by decide⟩
def BX (B K:Nat) (v:Value):Nat→Prop:=fun k=>k=B∨k=K∨v.ownBlock=some k
def Known (L:List (Nod × Int)) (R:List Nod):Prop:=∀x i,getM x L=some i↔∃k:Nat,R[k]? =some x∧i=(k:Int)
theorem Known.nil:Known [] []:=fun x i=>⟨(fun h=>by cases h),(fun ⟨k,h,_⟩=>by simp at h)⟩
theorem Known.snoc {L:List (Nod × Int)} {R:List Nod} (h:Known L R) {x:Nod} (hx:x ∉ R):Known (updM x ((R.length:Nat):Int) L) (R ++ [x]):=fun y i=>by
  rw [getM_updM]
  by_cases e:x=y
  · subst e
    rw [if_pos rfl]
    refine⟨fun q=>⟨R.length,by rw [List.getElem?_append_right (nr_ _),Nat.sub_self];rfl,(Option.some.inj q).symm⟩,fun ⟨k,h1,h2⟩=>?_⟩
    rw [h2]
    rcases Nat.lt_trichotomy k R.length with q | q | q
    · rw [List.getElem?_append_left q] at h1;exact absurd (List.mem_of_getElem? h1) hx
    · rw [q]
    · rw [List.getElem?_eq_none (by simp;omega)] at h1;cases h1
  · rw [if_neg e,h y i]
    refine⟨fun ⟨k,h1,h2⟩=>⟨k,by rw [List.getElem?_append_left (List.getElem?_eq_some_iff.1 h1).1];exact h1,h2⟩,fun ⟨k,h1,h2⟩=>⟨k,?_,h2⟩⟩
    rcases Nat.lt_trichotomy k R.length with q | q | q
    · rwa [List.getElem?_append_left q] at h1
    · subst q;rw [List.getElem?_append_right (nr_ _),Nat.sub_self] at h1;exact absurd (Option.some.inj h1) e
    · rw [List.getElem?_eq_none (by simp;omega)] at h1;cases h1
structure Bld (w:World) (n₀ B K n:Nat) (v:Value) (T:List Bdd.D):Prop where
 b0:BoxAt w B 0 (.int .i64 ((n:Nat):Int))
 b1:BoxAt w B 1 v
 b2:BoxAt w B 2 (.map (some K))
 own:OwnL nodR n₀ 56 3 v w (Bdd.rows T)
 map:∃L,MapS Nod.val intV w K L∧Known L (Bdd.rows T)
 cl:Bdd.Cl n T
 nv:v.ownBlock≠some B
 lb:n₀≤B
 lk:n₀≤K
theorem Bld.wr {B:Nat} (h:Bld w n₀ B K n v T) (hw:Wr X w w') (hx:∀k,BX B K v k→¬X k):Bld w' n₀ B K n v T:=
 ⟨hw.box (hx _ (.inl rfl)) h.b0,hw.box (hx _ (.inl rfl)) h.b1,hw.box (hx _ (.inl rfl)) h.b2,hw.own (fun b hb=>hx _ (.inr (.inr hb))) (fun _ _ _ q b hb=>by rw [q.2] at hb;cases hb) h.own,by
  obtain⟨L,h1,h2⟩:=h.map
  exact⟨L,hw.map (hx _ (.inr (.inl rfl))) h1,h2⟩,h.cl,h.nv,h.lb,h.lk⟩
theorem Bld.ext {B:Nat} (h:Bld w n₀ B K n v T) (e:Ext w w'):Bld w' n₀ B K n v T:=h.wr (X:=fun _=>False) (Wr.of_ext e) fun _ _ q=>q
theorem Bld.turn {B:Nat} (h:Bld w n₀ B K n v T) (t:Turns O w w') (hO:¬BX B K v O):Bld w' n₀ B K n v T:=h.wr (Wr.of_turns t) fun k hk q=>hO ((show k=O from q) ▸ hk)
theorem Bld.turnM {B:Nat} (h:Bld w n₀ B K n v T) (t:TurnsM O w w') (hO:¬BX B K v O):Bld w' n₀ B K n v T:=h.wr (Wr.of_turnsM t) fun k hk q=>hO ((show k=O from q) ▸ hk)
theorem Bld.grown {r:Option Nat} {B:Nat} (h:Bld w n₀ B K n v T) (g:w.grownBy w' r) (hr:∀k,r=some k→¬BX B K v k):Bld w' n₀ B K n v T:=h.wr (Wr.of_grown g) fun k hk q=>hr k q hk
theorem Bld.lt {w:World} {n₀ B K n:Nat} {v:Value} {T:List Bdd.D} (h:Bld w n₀ B K n v T):∀k,BX B K v k→k<w.heap.size:=fun k hk=>by
 rcases hk with rfl | rfl | hk
 · exact h.b0.lt
 · obtain⟨L,h1,_⟩:=h.map;exact h1.lt
 · exact h.own.lt k hk
theorem Bld.ge {B:Nat} (h:Bld w n₀ B K n v T):∀k,BX B K v k→n₀≤k:=fun k hk=>by
 rcases hk with rfl | rfl | hk
 · exact h.lb
 · exact h.lk
 · exact h.own.base k hk
theorem bx_new {B:Nat} (h:∀k,v'.ownBlock=some k→v.ownBlock=some k∨m≤k):∀k,BX B K v' k→BX B K v k∨m≤k:=fun k hk=>by
 rcases hk with q | q | q
 · exact .inl (.inl q)
 · exact .inl (.inr (.inl q))
 · exact (h k q).imp (fun z=> .inr (.inr z)) id
theorem bx_step {B:Nat} (h:∀k,v'.ownBlock=some k→v.ownBlock=some k∨m≤k) (hb:¬BX B K v b) (hl:b<m):¬BX B K v' b:=fun q=>(bx_new h b q).elim hb fun z=>by omega
end Go.Proofs.YtpfajhcdfgpgmaaGreatDoor

namespace Go.Proofs.YtpfajhcdfgpgmaaGreatDoor
open Go.RowKit
open Globe (nth)
variable {w:World}
def intVals (l:List Int):List Value:=l.map (Value.int .i64)
theorem intVals_at {l:List Int} {i:Nat} (h:i<l.length):(intVals l).toArray[i]? =some (.int .i64 (nth l i)):=by
 simp [intVals,nth,h]
theorem eqItems_ints {P:Program} (d:Nat) (e:TypeId) (hp:P.plainKey e=true) (hc:P.cellsOf e=1) (hu:P.underlying e=some (.int .i64)) (xs ys:List Int) (w:World):
  ∀is:List Nat,(∀i ∈ is,i<xs.length∧i<ys.length)→(Op.eqItems (d+1) e (P.cellsOf e) (intVals xs).toArray (intVals ys).toArray is).run P w= .ok (is.all fun i=>nth xs i == nth ys i) w
 | [],_=>by simp [Op.eqItems]
 | i :: is,h=>by
  obtain⟨h1,h2⟩:=h i (by simp)
  have ih:=eqItems_ints d e hp hc hu xs ys w is (fun j hj=>h j (by simp [hj]))
  have p1:(part e (intVals xs).toArray (i * P.cellsOf e)).run P w= .ok (.int .i64 (nth xs i)) w:=run_part_plain w hp (by rw [hc,Nat.mul_one];exact intVals_at h1)
  have p2:(part e (intVals ys).toArray (i * P.cellsOf e)).run P w= .ok (.int .i64 (nth ys i)) w:=run_part_plain w hp (by rw [hc,Nat.mul_one];exact intVals_at h2)
  simp only [Op.eqItems,Sem.run_bind,p1,p2,Result.andThen_ok,run_equalIn_int w d e .i64 .i64 _ _ hu,List.all_cons]
  cases hq:(nth xs i == nth ys i)
  · simp
  · simpa using ih
theorem equalIn_rows {P:Program} (t e:TypeId) (hu:P.underlying t=some (.array 24 e)) (hs:(P.info? e).isSome=true) (hp:P.plainKey e=true) (hc:P.cellsOf e=1) (hue:P.underlying e=some (.int .i64)) (L:List Int) (hL:L.length=24) (w:World):
    (Op.equalIn 10000 t (.agg (intVals L).toArray) (.agg (intVals Globe.zeroL).toArray)).run P w= .ok (decide (L=Globe.zeroL)) w:=by
  obtain⟨i,hi⟩:=Option.isSome_iff_exists.1 hs
  rw [run_equalIn_array w 9999 _ _ hu hi,eqItems_ints 9998 e hp hc hue L Globe.zeroL w (List.range 24) (fun j hj=>by have:=List.mem_range.1 hj;simp [Globe.zeroL];omega)]
  congr 1
  rw [Bool.eq_iff_iff,decide_eq_true_eq,List.all_eq_true]
  constructor
  · intro h
    exact Globe.ext_nth (by rw [hL];rfl) fun j hj=>by simpa using h j (List.mem_range.2 (by omega))
  · rintro rfl j _
    simp
theorem wpList_load_g {P:Program} {ops:Array Oper} {rest:List Oper} {op:Oper} {a:Act} {Q:Exit→Act→World→Prop} (hw:Region.wanted op (yielded ops a.tmps)=true) (ty:TypeId) (x:Operand) (ho:op.op= .load ty x)
  (b o:Nat) (hx:a.eval x= .pointer (some ⟨b,o,none⟩)) (cs:List Value) (d:TypeDesc) (hc:w.rangeAt b o cs)
  (hu:P.underlying ty=some d) (hd:d.isRow=true) (hi:(P.info? ty).map (·.size)=some cs.length)
  (h:wpList P ops Q rest (a.put op.dst (.agg cs.toArray)) w):wpList P ops Q (op :: rest) a w:=
 wpList_step fun _ hK=>by
  rw [if_pos hw]
  exact wp_load_mid ty x ho b o hx cs d hc hu hd hi (hK _ _ h)
theorem RowsAt.range {B:Nat} {L:List Int} (h:RowsAt w B L):w.rangeAt B 0 (intVals L):=by
 intro j v hv
 have hj:j<L.length:=by
  rw [←List.length_map (f:=Value.int .i64)]
  exact (List.getElem?_eq_some_iff.1 hv).1
 have:v= .int .i64 (nth L j):=by
  have e:=intVals_at hj
  rw [List.getElem?_toArray] at e
  rw [e] at hv;cases hv;rfl
 rw [this,Nat.zero_add]
 exact h.cell (by rw [←h.len];exact hj)
end Go.Proofs.YtpfajhcdfgpgmaaGreatDoor

namespace Go.Proofs.YtpfajhcdfgpgmaaGreatDoor
open Go.RowKit
open Globe (nth)
variable {w:World} {t:TypeId} {k m v z:Value}
theorem nod_inj {a b:Nod} (h:a.val=b.val):a=b:=by
 obtain⟨a1,a2,a3⟩:=a
 obtain⟨b1,b2,b3⟩:=b
 simp [Nod.val] at h
 obtain⟨h1,h2,h3⟩:=h
 rw [h1,h2,h3]
theorem int_check (w:World) (em:Bool) (n:Nat) (x:Int):(Instr.checkKey em (n+1) 3 (.int .i64 x)).run Tryz.prog w= .ok () w:=by
 rw [Instr.checkKey]
 go_simp
theorem nod_check (w:World) (em:Bool) (a:Nod):(Instr.checkKey em 10000 56 a.val).run Tryz.prog w= .ok () w:=by
 show (Instr.checkKey em (9998+1+1) 56 _).run _ _=_
 unfold Nod.val
 have k:∀n (x:Int),(Instr.checkKey em (n+1) 3 (.int .i64 x)).run Tryz.prog w= .ok () w:=fun n x=>int_check w em n x
 rw [Instr.checkKey]
 go_simp
theorem nod_eq (w:World) (x y:Nod):(Op.equal 56 x.val y.val).run Tryz.prog w= .ok (decide (x=y)) w:=by
  obtain⟨a1,a2,a3⟩:=x
  obtain⟨b1,b2,b3⟩:=y
  have e:decide (((a1,a2,a3):Nod)=(b1,b2,b3))=decide (a1=b1∧a2=b2∧a3=b3):=decide_eq_decide.2 (by rw [Prod.mk.injEq,Prod.mk.injEq])
  rw [e]
  unfold Nod.val Op.equal Op.maxDepth
  simp only []
  by_cases h1:a1=b1
  · subst h1
    by_cases h2:a2=b2
    · subst h2
      by_cases h3:a3=b3
      · subst h3
        go_simp
      · go_simp
    · go_simp
  · go_simp
theorem nod_law:KLaw Tryz.prog 56 Nod.val:=klaw_of Tryz.underlying56 (fun _ _=>rfl) nod_inj nod_check nod_eq (fun a=>by simp [Nod.val,Instr.sameBits])
def prV (p:Int × Int):Value:=.agg #[.int .i64 p.1,.int .i64 p.2]
theorem pr_inj {a b:Int × Int} (h:prV a=prV b):a=b:=by
 obtain⟨a1,a2⟩:=a
 obtain⟨b1,b2⟩:=b
 simp [prV] at h
 obtain⟨h1,h2⟩:=h
 rw [h1,h2]
theorem pr_check (w:World) (em:Bool) (a:Int × Int):(Instr.checkKey em 10000 53 (prV a)).run Tryz.prog w= .ok () w:=by
 show (Instr.checkKey em (9998+1+1) 53 (.agg #[.int .i64 a.1,.int .i64 a.2])).run _ _=_
 kernel_rfl
theorem pr_eq (w:World) (x y:Int × Int):(Op.equal 53 (prV x) (prV y)).run Tryz.prog w= .ok (decide (x=y)) w:=by
 obtain⟨a1,a2⟩:=x
 obtain⟨b1,b2⟩:=y
 have e:decide (((a1,a2):Int × Int)=(b1,b2))=((List.range 2).all fun i=>nth [a1,a2] i == nth [b1,b2] i):=by
  rw [show ((List.range 2).all fun i=>nth [a1,a2] i == nth [b1,b2] i)=((a1 == b1) && ((a2 == b2) && true)) from rfl,Bool.and_true,Bool.eq_iff_iff]
  simp
 rw [e]
 have hs:(Tryz.prog.info? 3).isSome=true:=by kernel_rfl
 obtain⟨i,hi⟩:=Option.isSome_iff_exists.1 hs
 show (Op.equalIn (9999+1) 53 (.agg (intVals [a1,a2]).toArray) (.agg (intVals [b1,b2]).toArray)).run _ _=_
 rw [run_equalIn_array w 9999 _ _ Tryz.underlying53 hi]
 exact eqItems_ints 9998 3 (by kernel_rfl) (by kernel_rfl) Tryz.underlying3 [a1,a2] [b1,b2] w (List.range 2) fun j hj=>by have:=List.mem_range.1 hj;simp;omega
theorem pr_law:KLaw Tryz.prog 53 prV:=klaw_of Tryz.underlying53 (fun _ _=>rfl) pr_inj pr_check pr_eq (fun a=>by simp [prV,Instr.sameBits])
theorem findNow_int (x:Int):∀(ks:List Int) (es:List MapEntry) (i:Nat),es.map (·.key)=ks.map intV→
    (Instr.findNow (.int .i64) (intV x) es i=some none∧x ∉ ks)∨∃j e,Instr.findNow (.int .i64) (intV x) es i=some (some (i+j,e.val))∧es[j]? =some e∧ks[j]? =some x∧∀q,q<j→ks[q]? ≠some x
  | [],[],i,_=> .inl ⟨rfl,by simp⟩
  | [],_ :: _,_,h=>by simp at h
  | _ :: _,[],_,h=>by simp at h
  | y :: ks,e :: es,i,h=>by
    simp only [List.map_cons,List.cons.injEq] at h
    have hs:Instr.sameNow (.int .i64) (intV x) e.key=some (x == y):=by rw [h.1];rfl
    by_cases hxy:x=y
    · subst hxy
      exact .inr ⟨0,e,by simp [Instr.findNow,hs],rfl,rfl,fun q hq=>by omega⟩
    · have hr:Instr.findNow (.int .i64) (intV x) (e :: es) i=Instr.findNow (.int .i64) (intV x) es (i+1):=by
        have:(x == y)=false:=by simp [hxy]
        rw [Instr.findNow,hs,this]
      rcases findNow_int x ks es (i+1) h.2 with ⟨h1,h2⟩ | ⟨j,e',h1,h2,h3,h4⟩
      · exact .inl ⟨hr.trans h1,by simp [hxy,h2]⟩
      · refine .inr ⟨j+1,e',by rw [hr,h1,show i+1+j=i+(j+1) by omega],by simpa using h2,by simpa using h3,fun q hq=>?_⟩
        cases q with
        | zero=>simpa using fun e:y=x=>hxy e.symm
        | succ q=>simpa using h4 q (by omega)
theorem int_law:KLaw Tryz.prog 3 intV where
 inj h:=by simpa [intV] using h
 check w em a:=int_check w em 9999 a
 stays w a:=by simp [Instr.keyThatStays,intV,Instr.sameBits]
 find w x ks es h:=by
  have hu:=Tryz.underlying3
  rcases findNow_int x ks es 0 h with ⟨h1,h2⟩ | ⟨j,e,h1,h2⟩
  · exact .inl ⟨by simp [Instr.findKey,run_underlying hu,h1,Result.andThen],h2⟩
  · exact .inr ⟨j,e,by simp [Instr.findKey,run_underlying hu,h1,Result.andThen],h2⟩
def bolV (b:Bool):Value:=.bool b
theorem zero_int (w:World):(zeroValue 3).run Tryz.prog w= .ok (intV 0) w:=by kernel_rfl
theorem zero_bool (w:World):(zeroValue 4).run Tryz.prog w= .ok (bolV false) w:=by kernel_rfl
theorem lookup_is1 {P:Program} {κ β:Type} [DecidableEq κ] {vv:β→Value} {x:κ} {l:List (κ × β)} {o:Option β} (h:(Instr.lookup t m k false).run P w= .ok (((getM x l).map vv).getD z) w) (hg:getM x l=o):(Instr.lookup t m k false).run P w= .ok ((o.map vv).getD z) w:=hg ▸ h
theorem lookup_is2 {P:Program} {κ β:Type} [DecidableEq κ] {vv:β→Value} {x:κ} {l:List (κ × β)} {o:Option β} (h:(Instr.lookup t m k true).run P w= .ok (.tuple #[((getM x l).map vv).getD z,.bool (getM x l).isSome]) w) (hg:getM x l=o):(Instr.lookup t m k true).run P w= .ok (.tuple #[(o.map vv).getD z,.bool o.isSome]) w:=hg ▸ h
theorem MapS.grownM {κ β:Type} {kv:κ→Value} {vv:β→Value} {w':World} {b:Nat} {l:List (κ × β)} {r:Option Nat} (h:MapS kv vv w b l) (hg:w.grownBy w' r) (hn:some b≠r):MapS kv vv w' b l:=h.block (hg.block b h.lt hn)
theorem own_app1h {α:Type} {R:Rep α} {P:Program} {ty e:TypeId} {size bytes:Nat} (E:ElemT P t e z size bytes) {n₀:Nat} {l:List α} (h:OwnL R n₀ e size v w l) (hn:n₀≤w.heap.size) {k:Nat} (hl:l.length=k)
    {O c:Nat} {x:α} {d:List Value} {F:List Nat} (hsz:d.length=size) (hcell:∀j u,d[j]? =some u→w.cell? ⟨O,j,none⟩=some u) (h1:∀u ∈ d,u.oneCell'=true)
    (hR:R.rel w d x F) (hF:∀b ∈ F,v.ownBlock≠some b) (hb:(k+1) * bytes≤140737488355328) (hmax:k+1≤9223372036854775807):
    ∃g cap w',(Builtin.append_ #[t,t] ty #[v,.slice (some ⟨O,0,none⟩) 1 c]).run P w= .ok (.slice (some ⟨g,0,none⟩) (k+1) cap) w'∧OwnL R n₀ e size (.slice (some ⟨g,0,none⟩) (k+1) cap) w' (l ++ [x])∧Grew n₀ w w'∧w.grownBy w' v.ownBlock∧(v.ownBlock=some g∨w.heap.size≤g):=by
  subst hl
  obtain⟨cs,h2,h3,h4,h5⟩:=h
  obtain⟨i,hi,hz0,hz1,hz2⟩:=info_parts E.info
  obtain⟨v',w',hrun,hown,hg,hiff,hat⟩:=run_append_own_at (P:=P) w n₀ t ty e i z size bytes E.under hi hz0 hz1 hz2 E.zs E.pos v l.length cs.flatten h4 ⟨O,0,none⟩ 1 c d (by rw [hsz,Nat.one_mul]) (fun j u hj=>by
    rw [Addr.add_mid,Nat.zero_add];exact hcell j u hj) h1 (by unfold maxLen;exact hmax) hb hn
  have hnb:∀F:List Nat,(∀b ∈ F,v.ownBlock≠some b)→(∀b ∈ F,b<w.heap.size)→(∀b ∈ F,v'.ownBlock≠some b)∧∀b ∈ F,∀o u,w.cell? ⟨b,o,none⟩=some u→w'.cell? ⟨b,o,none⟩=some u:=by
    intro F hF hFl
    refine⟨fun b hbF hv'=>?_,fun b hbF o u hu=>hg.cell hu (fun e=>hF b hbF e.symm)⟩
    rcases hat with e1 | e1
    · exact hF b hbF (by rw [←e1];exact hv')
    · rw [e1] at hv';cases hv';have:=hFl _ hbF;omega
  have hO:OwnL R n₀ e size v' w' (l ++ [x]):=⟨cs ++ [d],by simp [h2],by
      intro y hy
      rcases List.mem_append.1 hy with hy | hy
      · exact h3 y hy
      · rw [List.mem_singleton.1 hy];exact hsz,by rw [List.flatten_append,List.length_append];simpa using hown,by
      intro j y c hx hc
      rcases Nat.lt_or_ge j l.length with hj | hj
      · rw [List.getElem?_append_left hj] at hx
        rw [List.getElem?_append_left (by rw [h2];exact hj)] at hc
        obtain⟨F,q1,q2⟩:=h5 j y c hx hc
        obtain⟨k1,k2⟩:=hnb F q2 (R.lt q1)
        exact⟨F,R.keep q1 k2,k1⟩
      · rw [List.getElem?_append_right hj] at hx
        rw [List.getElem?_append_right (by rw [h2];exact hj),h2] at hc
        match hj':j - l.length,hx,hc with
        | 0,hx,hc=>
          simp at hx hc;subst hx hc
          obtain⟨k1,k2⟩:=hnb F hF (R.lt hR)
          exact⟨F,R.keep hR k2,k1⟩
        | _+1,hx,_=>simp at hx⟩
  rcases hown.2 with ⟨q,_⟩ | ⟨g,cap,cur,q,_,_,q3,_⟩
  · have:=(hiff.1 q).2;omega
  · subst q
    exact⟨g,cap,w',hrun,hO,⟨hg.size,fun U hU hUn=>Ext.own' hU h4 hUn hg⟩,hg,by
      rcases hat with e1 | e1
      · exact .inl e1.symm
      · exact .inr (nq_ (Option.some.inj e1).symm)⟩
theorem cells3 {O:Nat} {x y:Value} (h:w.cell? ⟨O,0,none⟩=some x) (h2:w.cell? ⟨O,1,none⟩=some y) (h3:w.cell? ⟨O,2,none⟩=some z):∀j u,[x,y,z][j]? =some u→w.cell? ⟨O,j,none⟩=some u
 | 0,u,hu=>by simp at hu;subst hu;exact h
 | 1,u,hu=>by simp at hu;subst hu;exact h2
 | 2,u,hu=>by simp at hu;subst hu;exact h3
 | _+3,u,hu=>by simp at hu
theorem app1_blk {g m:Nat} {k c:Nat} (h:v.ownBlock=some g∨m≤g):∀b,(Value.slice (some ⟨g,0,none⟩) k c).ownBlock=some b→v.ownBlock=some b∨m≤b:=fun b e=>by cases e;exact h
end Go.Proofs.YtpfajhcdfgpgmaaGreatDoor

namespace Go.Proofs.YtpfajhcdfgpgmaaGreatDoor
open Go.RowKit
theorem ex_binV {P:Program} {ev:Operand→Value} {o:Oper} {w:World} {op:BinOp} {t t2:TypeId} {x y:Operand} {a b v:Value} (hop:o.op= .binOp op t x y t2) (hx:ev x=a) (hy:ev y=b) (hg:(eqGuard op t x y a b).run P w= .ok () w)
  (h:(binOp op t a b).run P w= .ok v w):(execOp ev o).run P w= .ok (.value v) w:=by
 simp [execOp,hop,hx,hy,hg,h,Result.andThen]
theorem eqG_agg {P:Program} {w:World} {op:BinOp} {t:TypeId} {x y:Operand} {xs ys:Array Value} (h:P.eqGuardType P.depth t=false):(eqGuard op t x y (.agg xs) (.agg ys)).run P w= .ok () w:=by
 cases op <;> simp [eqGuard,h]
section
variable {P:Program} {w:World} {t:TypeId}
theorem bin_eqv_t {xs ys:Array Value} {p:Prop} [Decidable p] (h:(Op.equal t (.agg xs) (.agg ys)).run P w= .ok (decide p) w) (hp:p):(binOp .eql t (.agg xs) (.agg ys)).run P w= .ok (.bool true) w:=by
 rw [decide_eq_true hp] at h
 simp [binOp,h]
theorem bin_nqv_t {xs ys:Array Value} {p:Prop} [Decidable p] (h:(Op.equal t (.agg xs) (.agg ys)).run P w= .ok (decide p) w) (hp:p):(binOp .neq t (.agg xs) (.agg ys)).run P w= .ok (.bool false) w:=by
 rw [decide_eq_true hp] at h
 simp [binOp,h]
theorem bin_nqv_f {xs ys:Array Value} {p:Prop} [Decidable p] (h:(Op.equal t (.agg xs) (.agg ys)).run P w= .ok (decide p) w) (hp:¬p):(binOp .neq t (.agg xs) (.agg ys)).run P w= .ok (.bool true) w:=by
 rw [decide_eq_false hp] at h
 simp [binOp,h]
end
end Go.Proofs.YtpfajhcdfgpgmaaGreatDoor

namespace Go.Proofs.YtpfajhcdfgpgmaaGreatDoor
open Go.RowKit
variable {W w:World} {O b c c0 j k m n n0 o:Nat} {u0 u1 u10 u11 u2 u3 u4 u5 u6 u7 u8 u9 v v0 v1 v2 v3 v4 v5 v6 x0 x1 x2 x3 x4 x5 x6:Value} {a a0:Option Addr}
theorem ix108 (hk:k<n):(Instr.indexAt 108 (.slice (some ⟨b,o,none⟩) n c) (.int .i64 k)).run Tryz.prog w= .ok (.pointer (some ⟨b,o+k * 3,none⟩)) w:=by
 have:(0:Int)≤(k:Int):=by omega
 have:(k:Int)<(n:Int):=by omega
 go_simp
theorem ix108z (hk:k<n):(Instr.indexAt 108 (.slice (some ⟨b,0,none⟩) n c) (.int .i64 k)).run Tryz.prog w= .ok (.pointer (some ⟨b,k * 3,none⟩)) w:=by
 have h:=ix108 (w:=w) (b:=b) (o:=0) (c:=c) hk
 rwa [Nat.zero_add] at h
theorem ix22 (hk:k<n):(Instr.indexAt 22 (.slice (some ⟨b,o,none⟩) n c) (.int .i64 k)).run Tryz.prog w= .ok (.pointer (some ⟨b,o+k * 5,none⟩)) w:=by
 have:(0:Int)≤(k:Int):=by omega
 have:(k:Int)<(n:Int):=by omega
 go_simp
theorem ix23 (hk:k<n):(Instr.indexAt 23 (.slice (some ⟨b,o,none⟩) n c) (.int .i64 k)).run Tryz.prog w= .ok (.pointer (some ⟨b,o+k * 6,none⟩)) w:=by
 have:(0:Int)≤(k:Int):=by omega
 have:(k:Int)<(n:Int):=by omega
 go_simp
theorem ix24 (hk:k<n):(Instr.indexAt 24 (.slice (some ⟨b,o,none⟩) n c) (.int .i64 k)).run Tryz.prog w= .ok (.pointer (some ⟨b,o+k,none⟩)) w:=by
 have:(0:Int)≤(k:Int):=by omega
 have:(k:Int)<(n:Int):=by omega
 go_simp
theorem ix24z (hk:k<n):(Instr.indexAt 24 (.slice (some ⟨b,0,none⟩) n c) (.int .i64 k)).run Tryz.prog w= .ok (.pointer (some ⟨b,k,none⟩)) w:=by
 have h:=ix24 (w:=w) (b:=b) (o:=0) (c:=c) hk
 rwa [Nat.zero_add] at h
theorem ix31 (hk:k<n):(Instr.indexAt 31 (.slice (some ⟨b,o,none⟩) n c) (.int .i64 k)).run Tryz.prog w= .ok (.pointer (some ⟨b,o+k * 12,none⟩)) w:=by
 have:(0:Int)≤(k:Int):=by omega
 have:(k:Int)<(n:Int):=by omega
 go_simp
theorem ix36 (hk:k<n):(Instr.indexAt 36 (.slice (some ⟨b,o,none⟩) n c) (.int .i64 k)).run Tryz.prog w= .ok (.pointer (some ⟨b,o+k * 7,none⟩)) w:=by
 have:(0:Int)≤(k:Int):=by omega
 have:(k:Int)<(n:Int):=by omega
 go_simp
theorem ix40 (hk:k<n):(Instr.indexAt 40 (.slice (some ⟨b,o,none⟩) n c) (.int .i64 k)).run Tryz.prog w= .ok (.pointer (some ⟨b,o+k * 3,none⟩)) w:=by
 have:(0:Int)≤(k:Int):=by omega
 have:(k:Int)<(n:Int):=by omega
 go_simp
theorem ix40z (hk:k<n):(Instr.indexAt 40 (.slice (some ⟨b,0,none⟩) n c) (.int .i64 k)).run Tryz.prog w= .ok (.pointer (some ⟨b,k * 3,none⟩)) w:=by
 have h:=ix40 (w:=w) (b:=b) (o:=0) (c:=c) hk
 rwa [Nat.zero_add] at h
theorem ld106 (h0:w.cell? ⟨b,o,none⟩=some x0) (h1:w.cell? ⟨b,o+1,none⟩=some x1) (h2:w.cell? ⟨b,o+2,none⟩=some x2):(Instr.loadAt 106 (.pointer (some ⟨b,o,none⟩))).run Tryz.prog w= .ok (.agg #[x0,x1,x2]) w:=by go_simp
theorem ld108 (h0:w.cell? ⟨b,o,none⟩=some x0):(Instr.loadAt 108 (.pointer (some ⟨b,o,none⟩))).run Tryz.prog w= .ok (x0) w:=by go_simp
theorem ld115 (h0:w.cell? ⟨b,o,none⟩=some x0) (h1:w.cell? ⟨b,o+1,none⟩=some x1) (h2:w.cell? ⟨b,o+2,none⟩=some x2) (h3:w.cell? ⟨b,o+3,none⟩=some x3) (h4:w.cell? ⟨b,o+4,none⟩=some x4):(Instr.loadAt 115 (.pointer (some ⟨b,o,none⟩))).run Tryz.prog w= .ok (.agg #[x0,x1,x2,x3,x4]) w:=by go_simp
theorem ld119 (h0:w.cell? ⟨b,o,none⟩=some x0):(Instr.loadAt 119 (.pointer (some ⟨b,o,none⟩))).run Tryz.prog w= .ok (x0) w:=by go_simp
theorem ld133 (h0:w.cell? ⟨b,o,none⟩=some x0):(Instr.loadAt 133 (.pointer (some ⟨b,o,none⟩))).run Tryz.prog w= .ok (x0) w:=by go_simp
theorem ld142 (h0:w.cell? ⟨b,o,none⟩=some x0):(Instr.loadAt 142 (.pointer (some ⟨b,o,none⟩))).run Tryz.prog w= .ok (x0) w:=by go_simp
theorem ld24 (h0:w.cell? ⟨b,o,none⟩=some x0):(Instr.loadAt 24 (.pointer (some ⟨b,o,none⟩))).run Tryz.prog w= .ok (x0) w:=by go_simp
theorem ld26 (h0:w.cell? ⟨b,o,none⟩=some x0):(Instr.loadAt 26 (.pointer (some ⟨b,o,none⟩))).run Tryz.prog w= .ok (.agg #[x0]) w:=by go_simp
theorem ld28 (h0:w.cell? ⟨b,o,none⟩=some x0) (h1:w.cell? ⟨b,o+1,none⟩=some x1) (h2:w.cell? ⟨b,o+2,none⟩=some x2) (h3:w.cell? ⟨b,o+3,none⟩=some x3) (h4:w.cell? ⟨b,o+4,none⟩=some x4) (h5:w.cell? ⟨b,o+5,none⟩=some x5) (h6:w.cell? ⟨b,o+6,none⟩=some x6):(Instr.loadAt 28 (.pointer (some ⟨b,o,none⟩))).run Tryz.prog w= .ok (.agg #[x0,x1,x2,x3,x4,x5,x6]) w:=by go_simp
theorem ld3 (h0:w.cell? ⟨b,o,none⟩=some x0):(Instr.loadAt 3 (.pointer (some ⟨b,o,none⟩))).run Tryz.prog w= .ok (x0) w:=by go_simp
theorem ld30 (h0:w.cell? ⟨b,o,none⟩=some x0) (h1:w.cell? ⟨b,o+1,none⟩=some x1):(Instr.loadAt 30 (.pointer (some ⟨b,o,none⟩))).run Tryz.prog w= .ok (.agg #[x0,x1]) w:=by go_simp
theorem ld31 (h0:w.cell? ⟨b,o,none⟩=some x0):(Instr.loadAt 31 (.pointer (some ⟨b,o,none⟩))).run Tryz.prog w= .ok (x0) w:=by go_simp
theorem ld33 {x7 x8 x9 x10 x11:Value} (h0:w.cell? ⟨b,o,none⟩=some x0) (h1:w.cell? ⟨b,o+1,none⟩=some x1) (h2:w.cell? ⟨b,o+2,none⟩=some x2) (h3:w.cell? ⟨b,o+3,none⟩=some x3) (h4:w.cell? ⟨b,o+4,none⟩=some x4) (h5:w.cell? ⟨b,o+5,none⟩=some x5) (h6:w.cell? ⟨b,o+6,none⟩=some x6) (h7:w.cell? ⟨b,o+7,none⟩=some x7) (h8:w.cell? ⟨b,o+8,none⟩=some x8) (h9:w.cell? ⟨b,o+9,none⟩=some x9) (h10:w.cell? ⟨b,o+10,none⟩=some x10) (h11:w.cell? ⟨b,o+11,none⟩=some x11):(Instr.loadAt 33 (.pointer (some ⟨b,o,none⟩))).run Tryz.prog w= .ok (.agg #[x0,x1,x2,x3,x4,x5,x6,x7,x8,x9,x10,x11]) w:=by go_simp
theorem ld36 (h0:w.cell? ⟨b,o,none⟩=some x0):(Instr.loadAt 36 (.pointer (some ⟨b,o,none⟩))).run Tryz.prog w= .ok (x0) w:=by go_simp
theorem ld38 (h0:w.cell? ⟨b,o,none⟩=some x0):(Instr.loadAt 38 (.pointer (some ⟨b,o,none⟩))).run Tryz.prog w= .ok (x0) w:=by go_simp
theorem ld4 (h0:w.cell? ⟨b,o,none⟩=some x0):(Instr.loadAt 4 (.pointer (some ⟨b,o,none⟩))).run Tryz.prog w= .ok (x0) w:=by go_simp
theorem ld40 (h0:w.cell? ⟨b,o,none⟩=some x0):(Instr.loadAt 40 (.pointer (some ⟨b,o,none⟩))).run Tryz.prog w= .ok (x0) w:=by go_simp
theorem ld42 (h0:w.cell? ⟨b,o,none⟩=some x0) (h1:w.cell? ⟨b,o+1,none⟩=some x1) (h2:w.cell? ⟨b,o+2,none⟩=some x2):(Instr.loadAt 42 (.pointer (some ⟨b,o,none⟩))).run Tryz.prog w= .ok (.agg #[x0,x1,x2]) w:=by go_simp
theorem ld53 (h0:w.cell? ⟨b,o,none⟩=some x0) (h1:w.cell? ⟨b,o+1,none⟩=some x1):(Instr.loadAt 53 (.pointer (some ⟨b,o,none⟩))).run Tryz.prog w= .ok (.agg #[x0,x1]) w:=by go_simp
theorem ld56 (h0:w.cell? ⟨b,o,none⟩=some x0) (h1:w.cell? ⟨b,o+1,none⟩=some x1) (h2:w.cell? ⟨b,o+2,none⟩=some x2):(Instr.loadAt 56 (.pointer (some ⟨b,o,none⟩))).run Tryz.prog w= .ok (.agg #[x0,x1,x2]) w:=by go_simp
theorem ld80 (h0:w.cell? ⟨b,o,none⟩=some x0):(Instr.loadAt 80 (.pointer (some ⟨b,o,none⟩))).run Tryz.prog w= .ok (x0) w:=by go_simp
theorem ld81 (h0:w.cell? ⟨b,o,none⟩=some x0):(Instr.loadAt 81 (.pointer (some ⟨b,o,none⟩))).run Tryz.prog w= .ok (x0) w:=by go_simp
theorem ld87 (h0:w.cell? ⟨b,o,none⟩=some x0):(Instr.loadAt 87 (.pointer (some ⟨b,o,none⟩))).run Tryz.prog w= .ok (x0) w:=by go_simp
theorem sl24_010a (h1:0≤m) (h2:m≤c):(Instr.sliceAt 24 (.slice a n c) none (some (.int .i64 m)) none).run Tryz.prog w= .ok (.slice a m c) w:=by
 have:(0:Int)≤(m:Int):=by omega
 have:(m:Int)≤(c:Int):=by omega
 have e:(if c=0 then a else a.map (fun x=>x.add 0))=a:=by split;rfl;cases a <;> rfl
 go_simp <;> exact e
theorem sl24_010 (h1:0≤m) (h2:m≤c):(Instr.sliceAt 24 (.slice (some ⟨b,o,none⟩) n c) none (some (.int .i64 m)) none).run Tryz.prog w= .ok (.slice (some ⟨b,o,none⟩) m c) w:=sl24_010a h1 h2
theorem sl36_010a (h1:0≤m) (h2:m≤c):(Instr.sliceAt 36 (.slice a n c) none (some (.int .i64 m)) none).run Tryz.prog w= .ok (.slice a m c) w:=by
 have:(0:Int)≤(m:Int):=by omega
 have:(m:Int)≤(c:Int):=by omega
 have e:(if c=0 then a else a.map (fun x=>x.add 0))=a:=by split;rfl;cases a <;> rfl
 go_simp <;> exact e
theorem sl36_100b (h1:k≤n) (h2:n≤c):(Instr.sliceAt 36 (.slice a n c) (some (.int .i64 k)) none none).run Tryz.prog w= .ok (.slice (if c=k then a else a.map (fun x=>x.add (k * 7))) (n - k) (c - k)) w:=by
 have:(0:Int)≤(k:Int):=by omega
 have:(k:Int)≤(n:Int):=by omega
 have:(n:Int)≤(c:Int):=by omega
 go_simp
theorem sK {u:Value} (hO:BoxAt W O j u):BoxAt (W.setCell ⟨O,j,none⟩ v) O j v:=⟨by have:=hO.1;simp [go_sem,this],by have:=hO.2;simpa [go_sem] using this⟩
theorem sK2 {i:Nat} {x:Value} (hi:i≠j) (hx:BoxAt W O i x):BoxAt (W.setCell ⟨O,j,none⟩ v) O i x:=⟨by rw [World.cell?_setCell_other W _ _ _ (fun e=>hi (congrArg Addr.off e).symm)];exact hx.1,by simp [go_sem,hx.2]⟩
theorem sn_setK12 {ev:Operand→Value} {oi:Oper} {N:Value→World→Prop} {v7 v8 v9 v10 v11:Value} (h1:(execOp ev oi).run Tryz.prog w= .ok .skip ((((((((((((w.setCell ⟨O,j,none⟩ v0).setCell ⟨O,j+1,none⟩ v1).setCell ⟨O,j+2,none⟩ v2).setCell ⟨O,j+3,none⟩ v3).setCell ⟨O,j+4,none⟩ v4).setCell ⟨O,j+5,none⟩ v5).setCell ⟨O,j+6,none⟩ v6).setCell ⟨O,j+7,none⟩ v7).setCell ⟨O,j+8,none⟩ v8).setCell ⟨O,j+9,none⟩ v9).setCell ⟨O,j+10,none⟩ v10).setCell ⟨O,j+11,none⟩ v11)) (b0:BoxAt w O j u0) (b1:BoxAt w O (j+1) u1) (b2:BoxAt w O (j+2) u2) (b3:BoxAt w O (j+3) u3) (b4:BoxAt w O (j+4) u4) (b5:BoxAt w O (j+5) u5) (b6:BoxAt w O (j+6) u6) (b7:BoxAt w O (j+7) u7) (b8:BoxAt w O (j+8) u8) (b9:BoxAt w O (j+9) u9) (b10:BoxAt w O (j+10) u10) (b11:BoxAt w O (j+11) u11)
  (h:∀X,Turns O w X→BoxAt X O j v0→BoxAt X O (j+1) v1→BoxAt X O (j+2) v2→BoxAt X O (j+3) v3→BoxAt X O (j+4) v4→BoxAt X O (j+5) v5→BoxAt X O (j+6) v6→BoxAt X O (j+7) v7→BoxAt X O (j+8) v8→BoxAt X O (j+9) v9→BoxAt X O (j+10) v10→BoxAt X O (j+11) v11→(∀i x,i≠j→i≠(j+1)→i≠(j+2)→i≠(j+3)→i≠(j+4)→i≠(j+5)→i≠(j+6)→i≠(j+7)→i≠(j+8)→i≠(j+9)→i≠(j+10)→i≠(j+11)→BoxAt w O i x→BoxAt X O i x)→N undef X):StepN Tryz.prog ev oi w N:=by
 refine sn_skp h1 (h _ ((((((((((((turns_set _ _ _ _).trans (turns_set _ _ _ _)).trans (turns_set _ _ _ _)).trans (turns_set _ _ _ _)).trans (turns_set _ _ _ _)).trans (turns_set _ _ _ _)).trans (turns_set _ _ _ _)).trans (turns_set _ _ _ _)).trans (turns_set _ _ _ _)).trans (turns_set _ _ _ _)).trans (turns_set _ _ _ _)).trans (turns_set _ _ _ _)) ?_ ?_ ?_ ?_ ?_ ?_ ?_ ?_ ?_ ?_ ?_ ?_ ?_)
 · iterate 11 refine sK2 (by omega) ?_
   refine sK (u:=u0) ?_
   exact b0
 · iterate 10 refine sK2 (by omega) ?_
   refine sK (u:=u1) ?_
   refine sK2 (by omega) ?_
   exact b1
 · iterate 9 refine sK2 (by omega) ?_
   refine sK (u:=u2) ?_
   iterate 2 refine sK2 (by omega) ?_
   exact b2
 · iterate 8 refine sK2 (by omega) ?_
   refine sK (u:=u3) ?_
   iterate 3 refine sK2 (by omega) ?_
   exact b3
 · iterate 7 refine sK2 (by omega) ?_
   refine sK (u:=u4) ?_
   iterate 4 refine sK2 (by omega) ?_
   exact b4
 · iterate 6 refine sK2 (by omega) ?_
   refine sK (u:=u5) ?_
   iterate 5 refine sK2 (by omega) ?_
   exact b5
 · iterate 5 refine sK2 (by omega) ?_
   refine sK (u:=u6) ?_
   iterate 6 refine sK2 (by omega) ?_
   exact b6
 · iterate 4 refine sK2 (by omega) ?_
   refine sK (u:=u7) ?_
   iterate 7 refine sK2 (by omega) ?_
   exact b7
 · iterate 3 refine sK2 (by omega) ?_
   refine sK (u:=u8) ?_
   iterate 8 refine sK2 (by omega) ?_
   exact b8
 · iterate 2 refine sK2 (by omega) ?_
   refine sK (u:=u9) ?_
   iterate 9 refine sK2 (by omega) ?_
   exact b9
 · refine sK2 (by omega) ?_
   refine sK (u:=u10) ?_
   iterate 10 refine sK2 (by omega) ?_
   exact b10
 · refine sK (u:=u11) ?_
   iterate 11 refine sK2 (by omega) ?_
   exact b11
 · intros
   iterate 12 refine sK2 (by omega) ?_
   assumption
theorem sn_setK3 {ev:Operand→Value} {oi:Oper} {N:Value→World→Prop} (h1:(execOp ev oi).run Tryz.prog w= .ok .skip (((w.setCell ⟨O,j,none⟩ v0).setCell ⟨O,j+1,none⟩ v1).setCell ⟨O,j+2,none⟩ v2)) (b0:BoxAt w O j u0) (b1:BoxAt w O (j+1) u1) (b2:BoxAt w O (j+2) u2)
  (h:∀X,Turns O w X→BoxAt X O j v0→BoxAt X O (j+1) v1→BoxAt X O (j+2) v2→(∀i x,i≠j→i≠(j+1)→i≠(j+2)→BoxAt w O i x→BoxAt X O i x)→N undef X):StepN Tryz.prog ev oi w N:=by
 refine sn_skp h1 (h _ (((turns_set _ _ _ _).trans (turns_set _ _ _ _)).trans (turns_set _ _ _ _)) ?_ ?_ ?_ ?_)
 · iterate 2 refine sK2 (by omega) ?_
   refine sK (u:=u0) ?_
   exact b0
 · refine sK2 (by omega) ?_
   refine sK (u:=u1) ?_
   refine sK2 (by omega) ?_
   exact b1
 · refine sK (u:=u2) ?_
   iterate 2 refine sK2 (by omega) ?_
   exact b2
 · intros
   iterate 3 refine sK2 (by omega) ?_
   assumption
theorem sn_setK5 {ev:Operand→Value} {oi:Oper} {N:Value→World→Prop} (h1:(execOp ev oi).run Tryz.prog w= .ok .skip (((((w.setCell ⟨O,j,none⟩ v0).setCell ⟨O,j+1,none⟩ v1).setCell ⟨O,j+2,none⟩ v2).setCell ⟨O,j+3,none⟩ v3).setCell ⟨O,j+4,none⟩ v4)) (b0:BoxAt w O j u0) (b1:BoxAt w O (j+1) u1) (b2:BoxAt w O (j+2) u2) (b3:BoxAt w O (j+3) u3) (b4:BoxAt w O (j+4) u4)
  (h:∀X,Turns O w X→BoxAt X O j v0→BoxAt X O (j+1) v1→BoxAt X O (j+2) v2→BoxAt X O (j+3) v3→BoxAt X O (j+4) v4→(∀i x,i≠j→i≠(j+1)→i≠(j+2)→i≠(j+3)→i≠(j+4)→BoxAt w O i x→BoxAt X O i x)→N undef X):StepN Tryz.prog ev oi w N:=by
 refine sn_skp h1 (h _ (((((turns_set _ _ _ _).trans (turns_set _ _ _ _)).trans (turns_set _ _ _ _)).trans (turns_set _ _ _ _)).trans (turns_set _ _ _ _)) ?_ ?_ ?_ ?_ ?_ ?_)
 · iterate 4 refine sK2 (by omega) ?_
   refine sK (u:=u0) ?_
   exact b0
 · iterate 3 refine sK2 (by omega) ?_
   refine sK (u:=u1) ?_
   refine sK2 (by omega) ?_
   exact b1
 · iterate 2 refine sK2 (by omega) ?_
   refine sK (u:=u2) ?_
   iterate 2 refine sK2 (by omega) ?_
   exact b2
 · refine sK2 (by omega) ?_
   refine sK (u:=u3) ?_
   iterate 3 refine sK2 (by omega) ?_
   exact b3
 · refine sK (u:=u4) ?_
   iterate 4 refine sK2 (by omega) ?_
   exact b4
 · intros
   iterate 5 refine sK2 (by omega) ?_
   assumption
theorem sn_setK7 {ev:Operand→Value} {oi:Oper} {N:Value→World→Prop} (h1:(execOp ev oi).run Tryz.prog w= .ok .skip (((((((w.setCell ⟨O,j,none⟩ v0).setCell ⟨O,j+1,none⟩ v1).setCell ⟨O,j+2,none⟩ v2).setCell ⟨O,j+3,none⟩ v3).setCell ⟨O,j+4,none⟩ v4).setCell ⟨O,j+5,none⟩ v5).setCell ⟨O,j+6,none⟩ v6)) (b0:BoxAt w O j u0) (b1:BoxAt w O (j+1) u1) (b2:BoxAt w O (j+2) u2) (b3:BoxAt w O (j+3) u3) (b4:BoxAt w O (j+4) u4) (b5:BoxAt w O (j+5) u5) (b6:BoxAt w O (j+6) u6)
  (h:∀X,Turns O w X→BoxAt X O j v0→BoxAt X O (j+1) v1→BoxAt X O (j+2) v2→BoxAt X O (j+3) v3→BoxAt X O (j+4) v4→BoxAt X O (j+5) v5→BoxAt X O (j+6) v6→(∀i x,i≠j→i≠(j+1)→i≠(j+2)→i≠(j+3)→i≠(j+4)→i≠(j+5)→i≠(j+6)→BoxAt w O i x→BoxAt X O i x)→N undef X):StepN Tryz.prog ev oi w N:=by
 refine sn_skp h1 (h _ (((((((turns_set _ _ _ _).trans (turns_set _ _ _ _)).trans (turns_set _ _ _ _)).trans (turns_set _ _ _ _)).trans (turns_set _ _ _ _)).trans (turns_set _ _ _ _)).trans (turns_set _ _ _ _)) ?_ ?_ ?_ ?_ ?_ ?_ ?_ ?_)
 · iterate 6 refine sK2 (by omega) ?_
   refine sK (u:=u0) ?_
   exact b0
 · iterate 5 refine sK2 (by omega) ?_
   refine sK (u:=u1) ?_
   refine sK2 (by omega) ?_
   exact b1
 · iterate 4 refine sK2 (by omega) ?_
   refine sK (u:=u2) ?_
   iterate 2 refine sK2 (by omega) ?_
   exact b2
 · iterate 3 refine sK2 (by omega) ?_
   refine sK (u:=u3) ?_
   iterate 3 refine sK2 (by omega) ?_
   exact b3
 · iterate 2 refine sK2 (by omega) ?_
   refine sK (u:=u4) ?_
   iterate 4 refine sK2 (by omega) ?_
   exact b4
 · refine sK2 (by omega) ?_
   refine sK (u:=u5) ?_
   iterate 5 refine sK2 (by omega) ?_
   exact b5
 · refine sK (u:=u6) ?_
   iterate 6 refine sK2 (by omega) ?_
   exact b6
 · intros
   iterate 7 refine sK2 (by omega) ?_
   assumption
theorem st106 {x0:Bool} {x1:Int} {x2:Int} (h0:w.cell? ⟨b,o,none⟩=some u0) (f0:w.frozen? ⟨b,o,none⟩=false) (h1:w.cell? ⟨b,o+1,none⟩=some u1) (f1:w.frozen? ⟨b,o+1,none⟩=false) (h2:w.cell? ⟨b,o+2,none⟩=some u2) (f2:w.frozen? ⟨b,o+2,none⟩=false):(Instr.storeAt 106 (.pointer (some ⟨b,o,none⟩)) (.agg #[(.bool x0),(.int .i64 x1),(.int .i64 x2)])).run Tryz.prog w= .ok () (((w.setCell ⟨b,o,none⟩ (.bool x0)).setCell ⟨b,o+1,none⟩ (.int .i64 x1)).setCell ⟨b,o+2,none⟩ (.int .i64 x2)):=by go_simp
theorem st108 (h0:w.cell? ⟨b,o,none⟩=some u0) (f0:w.frozen? ⟨b,o,none⟩=false):(Instr.storeAt 108 (.pointer (some ⟨b,o,none⟩)) ((.slice a0 n0 c0))).run Tryz.prog w= .ok () (w.setCell ⟨b,o,none⟩ (.slice a0 n0 c0)):=by go_simp
theorem st115 {x0:Int} {x1:Int} {x2:Int} {x3:Int} {x4:Int} (h0:w.cell? ⟨b,o,none⟩=some u0) (f0:w.frozen? ⟨b,o,none⟩=false) (h1:w.cell? ⟨b,o+1,none⟩=some u1) (f1:w.frozen? ⟨b,o+1,none⟩=false) (h2:w.cell? ⟨b,o+2,none⟩=some u2) (f2:w.frozen? ⟨b,o+2,none⟩=false) (h3:w.cell? ⟨b,o+3,none⟩=some u3) (f3:w.frozen? ⟨b,o+3,none⟩=false) (h4:w.cell? ⟨b,o+4,none⟩=some u4) (f4:w.frozen? ⟨b,o+4,none⟩=false):(Instr.storeAt 115 (.pointer (some ⟨b,o,none⟩)) (.agg #[(.int .i64 x0),(.int .i64 x1),(.int .i64 x2),(.int .i64 x3),(.int .i64 x4)])).run Tryz.prog w= .ok () (((((w.setCell ⟨b,o,none⟩ (.int .i64 x0)).setCell ⟨b,o+1,none⟩ (.int .i64 x1)).setCell ⟨b,o+2,none⟩ (.int .i64 x2)).setCell ⟨b,o+3,none⟩ (.int .i64 x3)).setCell ⟨b,o+4,none⟩ (.int .i64 x4)):=by go_simp
theorem st133 {x0:Option Nat} (h0:w.cell? ⟨b,o,none⟩=some u0) (f0:w.frozen? ⟨b,o,none⟩=false):(Instr.storeAt 133 (.pointer (some ⟨b,o,none⟩)) ((.map x0))).run Tryz.prog w= .ok () (w.setCell ⟨b,o,none⟩ (.map x0)):=by go_simp
theorem st137 {x0:Int} {x1:Int} (h0:w.cell? ⟨b,o,none⟩=some u0) (f0:w.frozen? ⟨b,o,none⟩=false) (h1:w.cell? ⟨b,o+1,none⟩=some u1) (f1:w.frozen? ⟨b,o+1,none⟩=false):(Instr.storeAt 137 (.pointer (some ⟨b,o,none⟩)) (.agg #[(.int .i64 x0),(.int .i64 x1)])).run Tryz.prog w= .ok () ((w.setCell ⟨b,o,none⟩ (.int .i64 x0)).setCell ⟨b,o+1,none⟩ (.int .i64 x1)):=by go_simp
theorem st142 {x0:Option Nat} (h0:w.cell? ⟨b,o,none⟩=some u0) (f0:w.frozen? ⟨b,o,none⟩=false):(Instr.storeAt 142 (.pointer (some ⟨b,o,none⟩)) ((.map x0))).run Tryz.prog w= .ok () (w.setCell ⟨b,o,none⟩ (.map x0)):=by go_simp
theorem st24 (h0:w.cell? ⟨b,o,none⟩=some u0) (f0:w.frozen? ⟨b,o,none⟩=false):(Instr.storeAt 24 (.pointer (some ⟨b,o,none⟩)) ((.slice a0 n0 c0))).run Tryz.prog w= .ok () (w.setCell ⟨b,o,none⟩ (.slice a0 n0 c0)):=by go_simp
theorem st26 (h0:w.cell? ⟨b,o,none⟩=some u0) (f0:w.frozen? ⟨b,o,none⟩=false):(Instr.storeAt 26 (.pointer (some ⟨b,o,none⟩)) (.agg #[(.slice a0 n0 c0)])).run Tryz.prog w= .ok () (w.setCell ⟨b,o,none⟩ (.slice a0 n0 c0)):=by go_simp
theorem st28 {x0:Int} {x1:Int} {x2:Int} {a3:Option Addr} {n3 c3:Nat} {x4:Int} {x5:Int} {x6:Bool} (h0:w.cell? ⟨b,o,none⟩=some u0) (f0:w.frozen? ⟨b,o,none⟩=false) (h1:w.cell? ⟨b,o+1,none⟩=some u1) (f1:w.frozen? ⟨b,o+1,none⟩=false) (h2:w.cell? ⟨b,o+2,none⟩=some u2) (f2:w.frozen? ⟨b,o+2,none⟩=false) (h3:w.cell? ⟨b,o+3,none⟩=some u3) (f3:w.frozen? ⟨b,o+3,none⟩=false) (h4:w.cell? ⟨b,o+4,none⟩=some u4) (f4:w.frozen? ⟨b,o+4,none⟩=false) (h5:w.cell? ⟨b,o+5,none⟩=some u5) (f5:w.frozen? ⟨b,o+5,none⟩=false) (h6:w.cell? ⟨b,o+6,none⟩=some u6) (f6:w.frozen? ⟨b,o+6,none⟩=false):(Instr.storeAt 28 (.pointer (some ⟨b,o,none⟩)) (.agg #[(.int .i64 x0),(.int .i64 x1),(.int .i64 x2),(.slice a3 n3 c3),(.int .i64 x4),(.int .i64 x5),(.bool x6)])).run Tryz.prog w= .ok () (((((((w.setCell ⟨b,o,none⟩ (.int .i64 x0)).setCell ⟨b,o+1,none⟩ (.int .i64 x1)).setCell ⟨b,o+2,none⟩ (.int .i64 x2)).setCell ⟨b,o+3,none⟩ (.slice a3 n3 c3)).setCell ⟨b,o+4,none⟩ (.int .i64 x4)).setCell ⟨b,o+5,none⟩ (.int .i64 x5)).setCell ⟨b,o+6,none⟩ (.bool x6)):=by go_simp
theorem st3 {x0:Int} (h0:w.cell? ⟨b,o,none⟩=some u0) (f0:w.frozen? ⟨b,o,none⟩=false):(Instr.storeAt 3 (.pointer (some ⟨b,o,none⟩)) ((.int .i64 x0))).run Tryz.prog w= .ok () (w.setCell ⟨b,o,none⟩ (.int .i64 x0)):=by go_simp
theorem st30 {x0:Int} {x1:Int} (h0:w.cell? ⟨b,o,none⟩=some u0) (f0:w.frozen? ⟨b,o,none⟩=false) (h1:w.cell? ⟨b,o+1,none⟩=some u1) (f1:w.frozen? ⟨b,o+1,none⟩=false):(Instr.storeAt 30 (.pointer (some ⟨b,o,none⟩)) (.agg #[(.int .i64 x0),(.int .i64 x1)])).run Tryz.prog w= .ok () ((w.setCell ⟨b,o,none⟩ (.int .i64 x0)).setCell ⟨b,o+1,none⟩ (.int .i64 x1)):=by go_simp
theorem st31 (h0:w.cell? ⟨b,o,none⟩=some u0) (f0:w.frozen? ⟨b,o,none⟩=false):(Instr.storeAt 31 (.pointer (some ⟨b,o,none⟩)) ((.slice a0 n0 c0))).run Tryz.prog w= .ok () (w.setCell ⟨b,o,none⟩ (.slice a0 n0 c0)):=by go_simp
theorem st33 {x0:Int} {a1:Option Addr} {n1 c1:Nat} {x2:Int} {x3:Int} {x4:Int} {x5:Int} {x6:Bool} {x7:Int} {x8:Int} {x9:Int} {a10:Option Addr} {n10 c10:Nat} {a11:Option Addr} {n11 c11:Nat} (h0:w.cell? ⟨b,o,none⟩=some u0) (f0:w.frozen? ⟨b,o,none⟩=false) (h1:w.cell? ⟨b,o+1,none⟩=some u1) (f1:w.frozen? ⟨b,o+1,none⟩=false) (h2:w.cell? ⟨b,o+2,none⟩=some u2) (f2:w.frozen? ⟨b,o+2,none⟩=false) (h3:w.cell? ⟨b,o+3,none⟩=some u3) (f3:w.frozen? ⟨b,o+3,none⟩=false) (h4:w.cell? ⟨b,o+4,none⟩=some u4) (f4:w.frozen? ⟨b,o+4,none⟩=false) (h5:w.cell? ⟨b,o+5,none⟩=some u5) (f5:w.frozen? ⟨b,o+5,none⟩=false) (h6:w.cell? ⟨b,o+6,none⟩=some u6) (f6:w.frozen? ⟨b,o+6,none⟩=false) (h7:w.cell? ⟨b,o+7,none⟩=some u7) (f7:w.frozen? ⟨b,o+7,none⟩=false) (h8:w.cell? ⟨b,o+8,none⟩=some u8) (f8:w.frozen? ⟨b,o+8,none⟩=false) (h9:w.cell? ⟨b,o+9,none⟩=some u9) (f9:w.frozen? ⟨b,o+9,none⟩=false) (h10:w.cell? ⟨b,o+10,none⟩=some u10) (f10:w.frozen? ⟨b,o+10,none⟩=false) (h11:w.cell? ⟨b,o+11,none⟩=some u11) (f11:w.frozen? ⟨b,o+11,none⟩=false):(Instr.storeAt 33 (.pointer (some ⟨b,o,none⟩)) (.agg #[(.int .i64 x0),(.slice a1 n1 c1),(.int .i64 x2),(.int .i64 x3),(.int .i64 x4),(.int .i64 x5),(.bool x6),(.int .i64 x7),(.int .i64 x8),(.int .i64 x9),(.slice a10 n10 c10),(.slice a11 n11 c11)])).run Tryz.prog w= .ok () ((((((((((((w.setCell ⟨b,o,none⟩ (.int .i64 x0)).setCell ⟨b,o+1,none⟩ (.slice a1 n1 c1)).setCell ⟨b,o+2,none⟩ (.int .i64 x2)).setCell ⟨b,o+3,none⟩ (.int .i64 x3)).setCell ⟨b,o+4,none⟩ (.int .i64 x4)).setCell ⟨b,o+5,none⟩ (.int .i64 x5)).setCell ⟨b,o+6,none⟩ (.bool x6)).setCell ⟨b,o+7,none⟩ (.int .i64 x7)).setCell ⟨b,o+8,none⟩ (.int .i64 x8)).setCell ⟨b,o+9,none⟩ (.int .i64 x9)).setCell ⟨b,o+10,none⟩ (.slice a10 n10 c10)).setCell ⟨b,o+11,none⟩ (.slice a11 n11 c11)):=by go_simp
theorem st38 {q0:Fn} {x0 y0:Array Value} (h0:w.cell? ⟨b,o,none⟩=some u0) (f0:w.frozen? ⟨b,o,none⟩=false):(Instr.storeAt 38 (.pointer (some ⟨b,o,none⟩)) ((.func q0 x0 y0))).run Tryz.prog w= .ok () (w.setCell ⟨b,o,none⟩ (.func q0 x0 y0)):=by go_simp
theorem st4 {x0:Bool} (h0:w.cell? ⟨b,o,none⟩=some u0) (f0:w.frozen? ⟨b,o,none⟩=false):(Instr.storeAt 4 (.pointer (some ⟨b,o,none⟩)) ((.bool x0))).run Tryz.prog w= .ok () (w.setCell ⟨b,o,none⟩ (.bool x0)):=by go_simp
theorem st40 (h0:w.cell? ⟨b,o,none⟩=some u0) (f0:w.frozen? ⟨b,o,none⟩=false):(Instr.storeAt 40 (.pointer (some ⟨b,o,none⟩)) ((.slice a0 n0 c0))).run Tryz.prog w= .ok () (w.setCell ⟨b,o,none⟩ (.slice a0 n0 c0)):=by go_simp
theorem st42 {x0:Int} {x1:Int} {a2:Option Addr} {n2 c2:Nat} (h0:w.cell? ⟨b,o,none⟩=some u0) (f0:w.frozen? ⟨b,o,none⟩=false) (h1:w.cell? ⟨b,o+1,none⟩=some u1) (f1:w.frozen? ⟨b,o+1,none⟩=false) (h2:w.cell? ⟨b,o+2,none⟩=some u2) (f2:w.frozen? ⟨b,o+2,none⟩=false):(Instr.storeAt 42 (.pointer (some ⟨b,o,none⟩)) (.agg #[(.int .i64 x0),(.int .i64 x1),(.slice a2 n2 c2)])).run Tryz.prog w= .ok () (((w.setCell ⟨b,o,none⟩ (.int .i64 x0)).setCell ⟨b,o+1,none⟩ (.int .i64 x1)).setCell ⟨b,o+2,none⟩ (.slice a2 n2 c2)):=by go_simp
theorem st53 {x0:Int} {x1:Int} (h0:w.cell? ⟨b,o,none⟩=some u0) (f0:w.frozen? ⟨b,o,none⟩=false) (h1:w.cell? ⟨b,o+1,none⟩=some u1) (f1:w.frozen? ⟨b,o+1,none⟩=false):(Instr.storeAt 53 (.pointer (some ⟨b,o,none⟩)) (.agg #[(.int .i64 x0),(.int .i64 x1)])).run Tryz.prog w= .ok () ((w.setCell ⟨b,o,none⟩ (.int .i64 x0)).setCell ⟨b,o+1,none⟩ (.int .i64 x1)):=by go_simp
theorem st56 {x0:Int} {x1:Int} {x2:Int} (h0:w.cell? ⟨b,o,none⟩=some u0) (f0:w.frozen? ⟨b,o,none⟩=false) (h1:w.cell? ⟨b,o+1,none⟩=some u1) (f1:w.frozen? ⟨b,o+1,none⟩=false) (h2:w.cell? ⟨b,o+2,none⟩=some u2) (f2:w.frozen? ⟨b,o+2,none⟩=false):(Instr.storeAt 56 (.pointer (some ⟨b,o,none⟩)) (.agg #[(.int .i64 x0),(.int .i64 x1),(.int .i64 x2)])).run Tryz.prog w= .ok () (((w.setCell ⟨b,o,none⟩ (.int .i64 x0)).setCell ⟨b,o+1,none⟩ (.int .i64 x1)).setCell ⟨b,o+2,none⟩ (.int .i64 x2)):=by go_simp
theorem st87 {q0:Fn} {x0 y0:Array Value} (h0:w.cell? ⟨b,o,none⟩=some u0) (f0:w.frozen? ⟨b,o,none⟩=false):(Instr.storeAt 87 (.pointer (some ⟨b,o,none⟩)) ((.func q0 x0 y0))).run Tryz.prog w= .ok () (w.setCell ⟨b,o,none⟩ (.func q0 x0 y0)):=by go_simp
theorem k33 {ev:Operand→Value} {oi:Oper} {N:Value→World→Prop} {x y:Operand} (O:Nat) (x0:Int) (a1:Option Addr) (n1 c1:Nat) (x2:Int) (x3:Int) (x4:Int) (x5:Int) (x6:Bool) (x7:Int) (x8:Int) (x9:Int) (a10:Option Addr) (n10 c10:Nat) (a11:Option Addr) (n11 c11:Nat) (b0:BoxAt w O 0 u0) (b1:BoxAt w O 1 u1) (b2:BoxAt w O 2 u2) (b3:BoxAt w O 3 u3) (b4:BoxAt w O 4 u4) (b5:BoxAt w O 5 u5) (b6:BoxAt w O 6 u6) (b7:BoxAt w O 7 u7) (b8:BoxAt w O 8 u8) (b9:BoxAt w O 9 u9) (b10:BoxAt w O 10 u10) (b11:BoxAt w O 11 u11) (h:∀X,Turns O w X→BoxAt X O 0 (.int .i64 x0)→BoxAt X O 1 (.slice a1 n1 c1)→BoxAt X O 2 (.int .i64 x2)→BoxAt X O 3 (.int .i64 x3)→BoxAt X O 4 (.int .i64 x4)→BoxAt X O 5 (.int .i64 x5)→BoxAt X O 6 (.bool x6)→BoxAt X O 7 (.int .i64 x7)→BoxAt X O 8 (.int .i64 x8)→BoxAt X O 9 (.int .i64 x9)→BoxAt X O 10 (.slice a10 n10 c10)→BoxAt X O 11 (.slice a11 n11 c11)→(∀i x,i≠0→i≠1→i≠2→i≠3→i≠4→i≠5→i≠6→i≠7→i≠8→i≠9→i≠10→i≠11→BoxAt w O i x→BoxAt X O i x)→N undef X) (hop:oi.op= .store 33 x y:=by rfl) (hx:ev x= .pointer (some ⟨O,0,none⟩):=by kernel_rfl) (hy:ev y= .agg #[.int .i64 x0,.slice a1 n1 c1,.int .i64 x2,.int .i64 x3,.int .i64 x4,.int .i64 x5,.bool x6,.int .i64 x7,.int .i64 x8,.int .i64 x9,.slice a10 n10 c10,.slice a11 n11 c11]:=by kernel_rfl):StepN Tryz.prog ev oi w N:=sn_setK12 (j:=0) (ex_store hop hx hy (st33 b0.1 b0.2 b1.1 b1.2 b2.1 b2.2 b3.1 b3.2 b4.1 b4.2 b5.1 b5.2 b6.1 b6.2 b7.1 b7.2 b8.1 b8.2 b9.1 b9.2 b10.1 b10.2 b11.1 b11.2)) b0 b1 b2 b3 b4 b5 b6 b7 b8 b9 b10 b11 h
theorem k28 {ev:Operand→Value} {oi:Oper} {N:Value→World→Prop} {x y:Operand} (O:Nat) (x0:Int) (x1:Int) (x2:Int) (a3:Option Addr) (n3 c3:Nat) (x4:Int) (x5:Int) (x6:Bool) (b0:BoxAt w O 0 u0) (b1:BoxAt w O 1 u1) (b2:BoxAt w O 2 u2) (b3:BoxAt w O 3 u3) (b4:BoxAt w O 4 u4) (b5:BoxAt w O 5 u5) (b6:BoxAt w O 6 u6) (h:∀X,Turns O w X→BoxAt X O 0 (.int .i64 x0)→BoxAt X O 1 (.int .i64 x1)→BoxAt X O 2 (.int .i64 x2)→BoxAt X O 3 (.slice a3 n3 c3)→BoxAt X O 4 (.int .i64 x4)→BoxAt X O 5 (.int .i64 x5)→BoxAt X O 6 (.bool x6)→(∀i x,i≠0→i≠1→i≠2→i≠3→i≠4→i≠5→i≠6→BoxAt w O i x→BoxAt X O i x)→N undef X) (hop:oi.op= .store 28 x y:=by rfl) (hx:ev x= .pointer (some ⟨O,0,none⟩):=by kernel_rfl) (hy:ev y= .agg #[.int .i64 x0,.int .i64 x1,.int .i64 x2,.slice a3 n3 c3,.int .i64 x4,.int .i64 x5,.bool x6]:=by kernel_rfl):StepN Tryz.prog ev oi w N:=sn_setK7 (j:=0) (ex_store hop hx hy (st28 b0.1 b0.2 b1.1 b1.2 b2.1 b2.2 b3.1 b3.2 b4.1 b4.2 b5.1 b5.2 b6.1 b6.2)) b0 b1 b2 b3 b4 b5 b6 h
theorem k42 {ev:Operand→Value} {oi:Oper} {N:Value→World→Prop} {x y:Operand} (O:Nat) (x0:Int) (x1:Int) (a2:Option Addr) (n2 c2:Nat) (b0:BoxAt w O 0 u0) (b1:BoxAt w O 1 u1) (b2:BoxAt w O 2 u2) (h:∀X,Turns O w X→BoxAt X O 0 (.int .i64 x0)→BoxAt X O 1 (.int .i64 x1)→BoxAt X O 2 (.slice a2 n2 c2)→(∀i x,i≠0→i≠1→i≠2→BoxAt w O i x→BoxAt X O i x)→N undef X) (hop:oi.op= .store 42 x y:=by rfl) (hx:ev x= .pointer (some ⟨O,0,none⟩):=by kernel_rfl) (hy:ev y= .agg #[.int .i64 x0,.int .i64 x1,.slice a2 n2 c2]:=by kernel_rfl):StepN Tryz.prog ev oi w N:=sn_setK3 (j:=0) (ex_store hop hx hy (st42 b0.1 b0.2 b1.1 b1.2 b2.1 b2.2)) b0 b1 b2 h
end Go.Proofs.YtpfajhcdfgpgmaaGreatDoor

namespace Go.Proofs.YtpfajhcdfgpgmaaGreatDoor
open Gol (restF)
variable {w w0:World} {b o:Nat} {a:Bool}
set_option maxRecDepth 1000000
set_option maxHeartbeats 4000000
set_option synthInstance.maxHeartbeats 0
set_option synthInstance.maxSize 9999
open Go.RowKit
theorem Gol.plain_p {f g:GF} (h:Gol.plB f g=true):f.k=g.k∧(f.sf=g.sf∧f.st=g.st)∧f.lo=g.lo∧f.hi=g.hi∧f.cl=g.cl∧f.dy=g.dy∧f.tm=g.tm∧f.wi=g.wi:=by
 unfold Gol.plB at h
 simp only [Bool.and_eq_true,decide_eq_true_eq] at h
 obtain⟨⟨⟨⟨⟨⟨⟨h0,h1⟩,h2⟩,h3⟩,h4⟩,h5⟩,h6⟩,h7⟩:=h
 exact⟨h0,h1,h2,h3,h4,h5,h6,h7⟩
theorem box_int {x y:Int} (e:x=y) (h:BoxAt w b o (.int .i64 x)):BoxAt w b o (.int .i64 y):=e ▸ h
theorem box_bol {x y:Bool} (e:x=y) (h:BoxAt w b o (.bool x)):BoxAt w b o (.bool y):=e ▸ h
theorem eqG_bol {P:Program} {op:BinOp} {t:TypeId} {x y:Operand} {b:Bool}:(eqGuard op t x y (.bool a) (.bool b)).run P w= .ok () w:=by
 cases op <;> simp [eqGuard]
theorem bin_eqb_t {b:Bool} (h:a=b):(binOp .eql 4 (.bool a) (.bool b)).run Tryz.prog w= .ok (.bool true) w:=by
 subst h
 cases a <;> kernel_rfl
theorem spell_eq (w:World) (a b c d:Int):(Op.equal 30 (.agg #[.int .i64 a,.int .i64 b]) (.agg #[.int .i64 c,.int .i64 d])).run Tryz.prog w= .ok (decide (a=c∧b=d)) w:=by
  unfold Op.equal Op.maxDepth
  by_cases h1:a=c
  · by_cases h2:b=d
    · subst h1;subst h2
      go_simp
    · go_simp
  · go_simp
theorem order_in_c (n lo hi:Int) (w:World):Calls Tryz.prog 103 #[iv n,iv lo,iv hi] w fun e w'=>e= .returned (.bool (Globe.inB n lo hi))∧Ext w w':=by
 refine cC_ 15 [(2,iv hi),(1,iv lo),(0,iv n)] Tryz.func103 Tryz.ntmps103 (fun L=>?_);have hE:=er_ w;refine zc (zp (pT (.bool false) ?_));refine zn (zc (zp (pD (iv n) (iv lo) ?_)))
 by_cases hc1:(n:Int)≥(lo:Int)
 ·refine pX3 (.bool true) (ed ((n:Int)≥(lo:Int)) (hc1)) (.bool true) (iv n) (iv hi) ?_
  by_cases hc2:(n:Int)≤(hi:Int)
  ·refine pUD (.bool true) (ed ((n:Int)≤(hi:Int)) (hc2)) (.bool true) (.bool true) ?_;refine zn (ct_ (zR (.bool true) ?_));exact⟨rb (by first | exact (decide_eq_true (by omega)).symm | exact (decide_eq_false (by omega)).symm),hE⟩
  ·refine pUD (.bool false) (en ((n:Int)≤(hi:Int)) (hc2)) (.bool false) (.bool false) ?_;refine zn (ct_ (zR (.bool false) ?_));exact⟨rb (by first | exact (decide_eq_true (by omega)).symm | exact (decide_eq_false (by omega)).symm),hE⟩
 ·refine pUT (.bool false) (en ((n:Int)≥(lo:Int)) (hc1)) (.bool false) ?_;refine pK3 ?_;refine pD (.bool false) (.bool false) ?_;refine zn (ct_ (zR (.bool false) ?_));exact⟨rb (by first | exact (decide_eq_true (by omega)).symm | exact (decide_eq_false (by omega)).symm),hE⟩
theorem order_in_r (n lo hi:Int) {r:Bool} (w:World) (hr:Globe.inB n lo hi=r):Calls Tryz.prog 103 #[.int .i64 n,.int .i64 lo,.int .i64 hi] w fun e w'=>e= .returned (.bool r)∧Ext w w':=hr ▸ order_in_c n lo hi w
theorem CountP_c {a:Option Addr} {l:List Int} {n:Nat} {v:Bool} (c:Nat) (w:World) (h:AA w0 a l n v) (e:Ext w0 w) (hv:v=true) (hT:Tab w0):Calls Tryz.prog 116 #[.agg #[.slice a n c]] w fun e w'=>e= .returned (.int .i64 (Gol.cntI l))∧Ext w w':=by
 subst hv
 obtain⟨b,o,rfl,rfl,hva⟩:=(h.ext e).va
 have hl:=(Globe.validL_t.1 hva.2).1
 have hq:=Count_yes b o c l w (fun i hi=>hva.1 i (by omega)) hva.2 (hT.ext e)
 rw [hl] at hq
 exact hq
theorem last_c (k:Int) (w:World):Calls Tryz.prog 119 #[iv k] w fun e w'=>e= .returned (iv (Gol.lastK k))∧Ext w w':=by
 refine cC_ 9 [(0,iv k)] Tryz.func119 Tryz.ntmps119 (fun L=>?_);have hE:=er_ w;refine zc (zp (pT (iv 0) ?_));refine zn (zc (zc (zp (pT (iv k) ?_))));refine zn (cb_ ?_);refine zc (zc (cw_plain ?_))
 by_cases hc1:(k:Int)=(2:Int)
 ·refine pUT (.bool true) (eE (k:Int) (2:Int) (hc1)) (.bool true) ?_;refine zn (zt ?_);refine cs_ (zq (zt ?_));refine zc (zp (pT (iv 1) ?_));refine zn (ct_ (qb (qt (zR (iv 1) ?_))));exact⟨congrArg (fun z=>Ending.returned (Value.int .i64 z)) (show (1:Int)=Gol.lastK k by unfold Gol.lastK;simp [hc1]),hE⟩
 ·refine pUT (.bool false) (eN (k:Int) (2:Int) (hc1)) (.bool false) ?_;refine zn (zf ?_);refine cw_plain ?_
  by_cases hc2:(k:Int)=(3:Int)
  ·refine pUT (.bool true) (eE (k:Int) (3:Int) (hc2)) (.bool true) ?_;refine zn (zt ?_);refine zc (zp (pT (iv 1) ?_));refine zn (ct_ (qb (qt (zR (iv 1) ?_))));exact⟨congrArg (fun z=>Ending.returned (Value.int .i64 z)) (show (1:Int)=Gol.lastK k by unfold Gol.lastK;simp [hc2]),hE⟩
  ·refine pUT (.bool false) (eN (k:Int) (3:Int) (hc2)) (.bool false) ?_;refine zn (zf ?_);refine zc (cw_plain ?_)
   by_cases hc3:(k:Int)=(4:Int)
   ·refine pUT (.bool true) (eE (k:Int) (4:Int) (hc3)) (.bool true) ?_;refine zn (zt ?_);refine zc (zp (pT (iv 3) ?_));refine zn (ct_ (qb (qt (zR (iv 3) ?_))));exact⟨congrArg (fun z=>Ending.returned (Value.int .i64 z)) (show (3:Int)=Gol.lastK k by unfold Gol.lastK;simp [hc3]),hE⟩
   ·refine pUT (.bool false) (eN (k:Int) (4:Int) (hc3)) (.bool false) ?_;refine zn (zf ?_);refine cs_ (qw_block (zq (zc (zp (pT (iv 6) ?_)))));refine zn (ct_ (zR (iv 6) ?_));exact⟨congrArg (fun z=>Ending.returned (Value.int .i64 z)) (show (6:Int)=Gol.lastK k by unfold Gol.lastK;simp [hc1,hc2,hc3]),hE⟩
theorem rest_c (f:GF) (x:GC) (w:World):Calls Tryz.prog 105 #[gw f x.ar x.nr x.cr x.ac x.nc x.cc x.ak x.nk x.ck] w fun e w'=>e= .returned (.agg #[iv f.k,.slice none 0 0,iv (restF f).sf,iv (restF f).st,iv (restF f).lo,iv (restF f).hi,.bool (restF f).cl,iv (restF f).dy,iv (restF f).tm,iv (restF f).wi,.slice none 0 0,.slice none 0 0])∧Ext w w':=by
 refine cC_ 53 [(0,gw f x.ar x.nr x.cr x.ac x.nc x.cc x.ak x.nk x.ck)] Tryz.func105 Tryz.ntmps105 (fun L=>?_);have hE:=er_ w;refine zc (zp (pS (sw 33 #[iv f.k,.slice x.ar x.nr x.cr,iv f.sf,iv f.st,iv f.lo,iv f.hi,.bool f.cl,iv f.dy,iv f.tm,iv f.wi,.slice x.ac x.nc x.cc,.slice x.ak x.nk x.ck] ?_)));intro O1 X2 F6 F4 hb hbx;have⟨C9,Ct,Bj,Bp,Bm,Bq,Br,Bs,Bt,Bk,Ca,Cb⟩:=bq12 hbx;refine nv1 hb hE fun hE Cp=>?_;have F8:=C9.lt;refine pS (sw 33 z33 ?_);intro O5 X6 Dy F5 hb hbx;have⟨D4,Dg,Dh,Di,Dj,Dk,Dl,Dm,Dn,Do,D6,D7⟩:=bq12 hbx;refine mv12 hb hE C9 Ct Bj Bp Bm Bq Br Bs Bt Bk Ca fun hE C9 Ct Bj Bp Bm Bq Br Bs Bt Bk Ca=>?_;replace Cb:=Cb.x hb;have Cq:=hb.size;have Cr:=D4.lt;refine pl_nil (qw_then ?_);refine cw_seq ?_;have Bf:=er_ X6;refine zp (pT (pw O1 0) ?_);refine pUT (iv f.k) (xl (ld3 (C9.1))) (.agg #[iv f.k,.slice none 0 0,iv 0,iv 0,iv 0,iv 0,.bool false,iv 0,iv 0,iv 0,.slice none 0 0,.slice none 0 0]) ?_;refine pS (sw 33 z33 ?_);intro Bl Eo Bg En hb hbx;have⟨B5,B6,B3,B7,B4,B8,Ba,Bc,Be,B2,B0,B1⟩:=bq12 hbx;refine nv2 hb hE Bf fun hE Bf F0=>?_;have F7:=B5.lt;refine pP (k33 Bl f.k none 0 0 0 0 0 0 false 0 0 0 none 0 0 none 0 0 B5 B6 B3 B7 B4 B8 Ba Bc Be B2 B0 B1 ?_);intro Dz ho B5 B6 B3 B7 B4 B8 Ba Bc Be B2 B0 B1 hk;refine he2 ho hE Bf fun hE Bf=>?_;have F1:=nq_ ho.size.symm;clear ho hk;refine zn (zc (zc (zp (pT (pw O1 0) ?_))));refine pU (iv f.k) (xl (ld3 (C9.c Bf))) ?_;refine zn (cw_join (fun ws' wr=>ws'= [(2,pw O5 0),(3,pw Bl 0)]∧Dz.heap.size≤wr.heap.size∧Ext w wr∧Ext X6 wr∧BoxAt wr Bl 0 (iv f.k)∧BoxAt wr Bl 1 (.slice none 0 0)∧BoxAt wr Bl 10 (.slice none 0 0)∧BoxAt wr Bl 11 (.slice none 0 0)∧BoxAt wr Bl 2 (iv ((restF f).sf))∧BoxAt wr Bl 3 (iv ((restF f).st))∧BoxAt wr Bl 4 (iv ((restF f).lo))∧BoxAt wr Bl 5 (iv ((restF f).hi))∧BoxAt wr Bl 6 (.bool ((restF f).cl))∧BoxAt wr Bl 7 (iv ((restF f).dy))∧BoxAt wr Bl 8 (iv ((restF f).tm))∧BoxAt wr Bl 9 (iv ((restF f).wi))) (fun hJ=>?_) ?_)
 ·refine cb_ ?_;refine zc (cw_plain ?_)
  by_cases Bh:(f.k:Int)=(1:Int)
  ·refine pUT (.bool true) (eE (f.k:Int) (1:Int) (Bh)) (.bool true) ?_;refine zn (zt ?_);refine dT (fun w'=>w'.cell? ⟨O1,2,none⟩=some (iv f.sf)∧w'.cell? ⟨O1,3,none⟩=some (iv f.st)∧w'.cell? ⟨O1,4,none⟩=some (iv f.lo)∧w'.cell? ⟨O1,5,none⟩=some (iv f.hi)∧w'.cell? ⟨O1,6,none⟩=some (.bool f.cl)) (⟨(Bj.x Bf).1,(Bp.x Bf).1,(Bm.x Bf).1,(Bq.x Bf).1,(Br.x Bf).1⟩) (fun ops Q Ep hb hL hR hK=>?_);refine mv12 hb hE Bf B5 B6 B3 B7 B4 B8 Ba Bc Be B2 fun hE Bf B5 B6 B3 B7 B4 B8 Ba Bc Be B2=>?_;refine nv2 hb B0 B1 fun B0 B1 E0=>?_;have hS:=A5 (Bj.c Bf) (Bp.c Bf) (Bm.c Bf) (Bq.c Bf) (Br.c Bf);refine wV 0 (pw O1 2) hR hS ?_;refine wM 1 (.agg #[iv f.sf,iv f.st]) hR (fun w hS=>ld30 (hS.1) (hS.2.1)) hS ?_;refine wV 2 (pw O1 4) hR hS ?_;refine wM 3 (iv f.lo) hR (fun w hS=>ld3 (hS.2.2.1)) hS ?_;refine wV 4 (pw O1 5) hR hS ?_;refine wM 5 (iv f.hi) hR (fun w hS=>ld3 (hS.2.2.2.1)) hS ?_;refine wV 6 (pw O1 6) hR hS ?_;refine wM 7 (.bool f.cl) hR (fun w hS=>ld4 (hS.2.2.2.2)) hS ?_;refine wV 8 (pw Bl 2) hR hS ?_;refine wS 9 hR (sn_set2 (O:=Bl) (j:=2) (v:=iv f.sf) (v':=iv f.st) (ex_store (p:=pw Bl 2) (v:=.agg #[iv f.sf,iv f.st]) rfl (by kernel_rfl) (by kernel_rfl) (st30 B3.1 B3.2 B7.1 B7.2)) B3 B7 ?_);intro Eg ho B3 B7 hk;refine he2 ho hE Bf fun hE Bf=>?_;refine hh10 hk B5 B6 B4 B8 Ba Bc Be B2 B0 B1 fun B5 B6 B4 B8 Ba Bc Be B2 B0 B1=>?_;have E3:=nq_ ho.size.symm;clear ho hk;refine⟨⟨(Bj.c Bf),(Bp.c Bf),(Bm.c Bf),(Bq.c Bf),(Br.c Bf)⟩,?_⟩;refine wV 10 (pw Bl 4) hR (⟨(Bj.c Bf),(Bp.c Bf),(Bm.c Bf),(Bq.c Bf),(Br.c Bf)⟩) ?_;refine wS 11 hR (sn_set (O:=Bl) (j:=4) (v:=iv f.lo) (ex_store (p:=pw Bl 4) (v:=iv f.lo) rfl (by kernel_rfl) (by kernel_rfl) (st3 B4.1 B4.2)) B4 ?_);intro Eh ho B4 hk;refine he2 ho hE Bf fun hE Bf=>?_;refine hj11 hk B5 B6 B8 Ba Bc Be B2 B0 B1 B3 B7 fun B5 B6 B8 Ba Bc Be B2 B0 B1 B3 B7=>?_;have E4:=nq_ ho.size.symm;clear ho hk;refine⟨⟨(Bj.c Bf),(Bp.c Bf),(Bm.c Bf),(Bq.c Bf),(Br.c Bf)⟩,?_⟩;refine wV 12 (pw Bl 5) hR (⟨(Bj.c Bf),(Bp.c Bf),(Bm.c Bf),(Bq.c Bf),(Br.c Bf)⟩) ?_;refine wS 13 hR (sn_set (O:=Bl) (j:=5) (v:=iv f.hi) (ex_store (p:=pw Bl 5) (v:=iv f.hi) rfl (by kernel_rfl) (by kernel_rfl) (st3 B8.1 B8.2)) B8 ?_);intro Ei ho B8 hk;refine he2 ho hE Bf fun hE Bf=>?_;refine hj11 hk B5 B6 Ba Bc Be B2 B0 B1 B3 B7 B4 fun B5 B6 Ba Bc Be B2 B0 B1 B3 B7 B4=>?_;have E5:=nq_ ho.size.symm;clear ho hk;refine⟨⟨(Bj.c Bf),(Bp.c Bf),(Bm.c Bf),(Bq.c Bf),(Br.c Bf)⟩,?_⟩;refine wV 14 (pw Bl 6) hR (⟨(Bj.c Bf),(Bp.c Bf),(Bm.c Bf),(Bq.c Bf),(Br.c Bf)⟩) ?_;refine wS 15 hR (sn_set (O:=Bl) (j:=6) (v:=.bool f.cl) (ex_store (p:=pw Bl 6) (v:=.bool f.cl) rfl (by kernel_rfl) (by kernel_rfl) (st4 Ba.1 Ba.2)) Ba ?_);intro Er ho Ba hk;refine he2 ho hE Bf fun hE Bf=>?_;refine hj11 hk B5 B6 Bc Be B2 B0 B1 B3 B7 B4 B8 fun B5 B6 Bc Be B2 B0 B1 B3 B7 B4 B8=>?_;have E6:=nq_ ho.size.symm;clear ho hk;refine⟨⟨(Bj.c Bf),(Bp.c Bf),(Bm.c Bf),(Bq.c Bf),(Br.c Bf)⟩,?_⟩;refine we hL hR hK ?_;refine qw_block ?_;have Cw:(f.sf:Int)=(restF f).sf:=by simp [restF,Bh]
   have Cx:(f.st:Int)=(restF f).st:=by simp [restF,Bh]
   have Cy:(f.lo:Int)=(restF f).lo:=by simp [restF,Bh]
   have Cz:(f.hi:Int)=(restF f).hi:=by simp [restF,Bh]
   have D0:f.cl=(restF f).cl:=by simp [restF,Bh]
   have D1:(0:Int)=(restF f).dy:=by simp [restF,Bh]
   have D2:(0:Int)=(restF f).tm:=by simp [restF,Bh]
   have D3:(0:Int)=(restF f).wi:=by simp [restF,Bh]
   exact zl hJ [2,3] ⟨rfl,(Tq E0 (Tq E3 (Tq E4 (Tq E5 E6)))),hE,Bf,B5,B6,B0,B1,(box_int Cw B3),(box_int Cx B7),(box_int Cy B4),(box_int Cz B8),(box_bol D0 Ba),(box_int D1 Bc),(box_int D2 Be),(box_int D3 B2)⟩
  ·refine pUT (.bool false) (eN (f.k:Int) (1:Int) (Bh)) (.bool false) ?_;refine zn (zf ?_);refine zc (cw_plain ?_)
   by_cases Bi:(f.k:Int)=(2:Int)
   ·refine pUT (.bool true) (eE (f.k:Int) (2:Int) (Bi)) (.bool true) ?_;refine zn (zt ?_);refine dT (fun w'=>w'.cell? ⟨O1,4,none⟩=some (iv f.lo)∧w'.cell? ⟨O1,9,none⟩=some (iv f.wi)) (⟨(Bm.x Bf).1,(Bk.x Bf).1⟩) (fun ops Q Es hb hL hR hK=>?_);refine mv12 hb hE Bf B5 B6 B3 B7 B4 B8 Ba Bc Be B2 fun hE Bf B5 B6 B3 B7 B4 B8 Ba Bc Be B2=>?_;refine nv2 hb B0 B1 fun B0 B1 E7=>?_;have hS:=A2 (Bm.c Bf) (Bk.c Bf);refine wV 0 (pw O1 4) hR hS ?_;refine wM 1 (iv f.lo) hR (fun w hS=>ld3 (hS.1)) hS ?_;refine wV 2 (pw O1 9) hR hS ?_;refine wM 3 (iv f.wi) hR (fun w hS=>ld3 (hS.2)) hS ?_;refine wV 4 (pw Bl 4) hR hS ?_;refine wS 5 hR (sn_set (O:=Bl) (j:=4) (v:=iv f.lo) (ex_store (p:=pw Bl 4) (v:=iv f.lo) rfl (by kernel_rfl) (by kernel_rfl) (st3 B4.1 B4.2)) B4 ?_);intro Ej ho B4 hk;refine he2 ho hE Bf fun hE Bf=>?_;refine hj11 hk B5 B6 B3 B7 B8 Ba Bc Be B2 B0 B1 fun B5 B6 B3 B7 B8 Ba Bc Be B2 B0 B1=>?_;have E8:=nq_ ho.size.symm;clear ho hk;refine⟨⟨(Bm.c Bf),(Bk.c Bf)⟩,?_⟩;refine wV 6 (pw Bl 9) hR (⟨(Bm.c Bf),(Bk.c Bf)⟩) ?_;refine wS 7 hR (sn_set (O:=Bl) (j:=9) (v:=iv f.wi) (ex_store (p:=pw Bl 9) (v:=iv f.wi) rfl (by kernel_rfl) (by kernel_rfl) (st3 B2.1 B2.2)) B2 ?_);intro Et ho B2 hk;refine he2 ho hE Bf fun hE Bf=>?_;refine hj11 hk B5 B6 B3 B7 B8 Ba Bc Be B0 B1 B4 fun B5 B6 B3 B7 B8 Ba Bc Be B0 B1 B4=>?_;have E9:=nq_ ho.size.symm;clear ho hk;refine⟨⟨(Bm.c Bf),(Bk.c Bf)⟩,?_⟩;refine we hL hR hK ?_;refine qw_block ?_;have Cw:(0:Int)=(restF f).sf:=by simp [restF,Bi]
    have Cx:(0:Int)=(restF f).st:=by simp [restF,Bi]
    have Cy:(f.lo:Int)=(restF f).lo:=by simp [restF,Bi]
    have Cz:(0:Int)=(restF f).hi:=by simp [restF,Bi]
    have D0:false=(restF f).cl:=by simp [restF,Bi]
    have D1:(0:Int)=(restF f).dy:=by simp [restF,Bi]
    have D2:(0:Int)=(restF f).tm:=by simp [restF,Bi]
    have D3:(f.wi:Int)=(restF f).wi:=by simp [restF,Bi]
    exact zl hJ [2,3] ⟨rfl,(Tq E7 (Tq E8 E9)),hE,Bf,B5,B6,B0,B1,(box_int Cw B3),(box_int Cx B7),(box_int Cy B4),(box_int Cz B8),(box_bol D0 Ba),(box_int D1 Bc),(box_int D2 Be),(box_int D3 B2)⟩
   ·refine pUT (.bool false) (eN (f.k:Int) (2:Int) (Bi)) (.bool false) ?_;refine zn (zf ?_);refine zc (cw_plain ?_)
    by_cases Bo:(f.k:Int)=(3:Int)
    ·refine pUT (.bool true) (eE (f.k:Int) (3:Int) (Bo)) (.bool true) ?_;refine zn (cK [1,2,3,8,31] (fun L=>?_));refine zt ?_;refine dT (fun w'=>w'.cell? ⟨O1,7,none⟩=some (iv f.dy)∧w'.cell? ⟨O1,8,none⟩=some (iv f.tm)∧w'.cell? ⟨O1,9,none⟩=some (iv f.wi)∧w'.cell? ⟨O1,2,none⟩=some (iv f.sf)) (⟨(Bs.x Bf).1,(Bt.x Bf).1,(Bk.x Bf).1,(Bj.x Bf).1⟩) (fun ops Q Eu hb hL hR hK=>?_);refine mv12 hb hE Bf B5 B6 B3 B7 B4 B8 Ba Bc Be B2 fun hE Bf B5 B6 B3 B7 B4 B8 Ba Bc Be B2=>?_;refine nv2 hb B0 B1 fun B0 B1 Ea=>?_;have hS:=A4 (Bs.c Bf) (Bt.c Bf) (Bk.c Bf) (Bj.c Bf);refine wV 0 (pw O1 7) hR hS ?_;refine wM 1 (iv f.dy) hR (fun w hS=>ld3 (hS.1)) hS ?_;refine wV 2 (pw O1 8) hR hS ?_;refine wM 3 (iv f.tm) hR (fun w hS=>ld3 (hS.2.1)) hS ?_;refine wV 4 (pw O1 9) hR hS ?_;refine wM 5 (iv f.wi) hR (fun w hS=>ld3 (hS.2.2.1)) hS ?_;refine wW 6 (pw O1 2) 7 (pw O1 2) hR hS ?_;refine wM 8 (iv f.sf) hR (fun w hS=>ld3 (hS.2.2.2)) hS ?_;refine wV 9 (pw Bl 7) hR hS ?_;refine wS 10 hR (sn_set (O:=Bl) (j:=7) (v:=iv f.dy) (ex_store (p:=pw Bl 7) (v:=iv f.dy) rfl (by kernel_rfl) (by kernel_rfl) (st3 Bc.1 Bc.2)) Bc ?_);intro Ek ho Bc hk;refine he2 ho hE Bf fun hE Bf=>?_;refine hj11 hk B5 B6 B3 B7 B4 B8 Ba Be B2 B0 B1 fun B5 B6 B3 B7 B4 B8 Ba Be B2 B0 B1=>?_;have Eb:=nq_ ho.size.symm;clear ho hk;refine⟨⟨(Bs.c Bf),(Bt.c Bf),(Bk.c Bf),(Bj.c Bf)⟩,?_⟩;refine wV 11 (pw Bl 8) hR (⟨(Bs.c Bf),(Bt.c Bf),(Bk.c Bf),(Bj.c Bf)⟩) ?_;refine wS 12 hR (sn_set (O:=Bl) (j:=8) (v:=iv f.tm) (ex_store (p:=pw Bl 8) (v:=iv f.tm) rfl (by kernel_rfl) (by kernel_rfl) (st3 Be.1 Be.2)) Be ?_);intro El ho Be hk;refine he2 ho hE Bf fun hE Bf=>?_;refine hj11 hk B5 B6 B3 B7 B4 B8 Ba B2 B0 B1 Bc fun B5 B6 B3 B7 B4 B8 Ba B2 B0 B1 Bc=>?_;have Ec:=nq_ ho.size.symm;clear ho hk;refine⟨⟨(Bs.c Bf),(Bt.c Bf),(Bk.c Bf),(Bj.c Bf)⟩,?_⟩;refine wV 13 (pw Bl 9) hR (⟨(Bs.c Bf),(Bt.c Bf),(Bk.c Bf),(Bj.c Bf)⟩) ?_;refine wS 14 hR (sn_set (O:=Bl) (j:=9) (v:=iv f.wi) (ex_store (p:=pw Bl 9) (v:=iv f.wi) rfl (by kernel_rfl) (by kernel_rfl) (st3 B2.1 B2.2)) B2 ?_);intro Em ho B2 hk;refine he2 ho hE Bf fun hE Bf=>?_;refine hj11 hk B5 B6 B3 B7 B4 B8 Ba B0 B1 Bc Be fun B5 B6 B3 B7 B4 B8 Ba B0 B1 Bc Be=>?_;have Ed:=nq_ ho.size.symm;clear ho hk;refine⟨⟨(Bs.c Bf),(Bt.c Bf),(Bk.c Bf),(Bj.c Bf)⟩,?_⟩;have hS:=A4 (Bs.c Bf) (Bt.c Bf) (Bk.c Bf) (Bj.c Bf);refine wW 15 (pw Bl 2) 16 (pw Bl 2) hR hS ?_;refine wS 17 hR (sn_set (O:=Bl) (j:=2) (v:=iv f.sf) (ex_store (p:=pw Bl 2) (v:=iv f.sf) rfl (by kernel_rfl) (by kernel_rfl) (st3 B3.1 B3.2)) B3 ?_);intro Ew ho B3 hk;refine he2 ho hE Bf fun hE Bf=>?_;refine hj11 hk B5 B6 B7 B4 B8 Ba B0 B1 Bc Be B2 fun B5 B6 B7 B4 B8 Ba B0 B1 Bc Be B2=>?_;have Ee:=nq_ ho.size.symm;clear ho hk;refine⟨⟨(Bs.c Bf),(Bt.c Bf),(Bk.c Bf),(Bj.c Bf)⟩,?_⟩;refine we hL hR hK ?_;refine qw_block ?_;have Cw:(f.sf:Int)=(restF f).sf:=by simp [restF,Bo]
     have Cx:(0:Int)=(restF f).st:=by simp [restF,Bo]
     have Cy:(0:Int)=(restF f).lo:=by simp [restF,Bo]
     have Cz:(0:Int)=(restF f).hi:=by simp [restF,Bo]
     have D0:false=(restF f).cl:=by simp [restF,Bo]
     have D1:(f.dy:Int)=(restF f).dy:=by simp [restF,Bo]
     have D2:(f.tm:Int)=(restF f).tm:=by simp [restF,Bo]
     have D3:(f.wi:Int)=(restF f).wi:=by simp [restF,Bo]
     exact zl hJ [2,3] ⟨rfl,(Tq Ea (Tq Eb (Tq Ec (Tq Ed Ee)))),hE,Bf,B5,B6,B0,B1,(box_int Cw B3),(box_int Cx B7),(box_int Cy B4),(box_int Cz B8),(box_bol D0 Ba),(box_int D1 Bc),(box_int D2 Be),(box_int D3 B2)⟩
    ·refine pUT (.bool false) (eN (f.k:Int) (3:Int) (Bo)) (.bool false) ?_;refine zn (cK [1,2,3,8,31] (fun L=>?_));refine zf ?_;refine zc (cw_plain ?_)
     by_cases Bv:(f.k:Int)=(4:Int)
     ·refine pUT (.bool true) (eE (f.k:Int) (4:Int) (Bv)) (.bool true) ?_;refine zn (zt ?_);refine zp (pT (pw O1 9) ?_);refine pUT (iv f.wi) (xl (ld3 (Bk.c Bf))) (pw Bl 9) ?_;refine pP (zE Bl 9 (iv f.wi) (st3 B2.1 B2.2) B2 ?_);intro Ey ho B2 hk;refine he2 ho hE Bf fun hE Bf=>?_;refine hj11 hk B5 B6 B3 B7 B4 B8 Ba Bc Be B0 B1 fun B5 B6 B3 B7 B4 B8 Ba Bc Be B0 B1=>?_;have Ef:=nq_ ho.size.symm;clear ho hk;refine pl_nil (qw_block ?_);have Cw:(0:Int)=(restF f).sf:=by simp [restF,Bv]
      have Cx:(0:Int)=(restF f).st:=by simp [restF,Bv]
      have Cy:(0:Int)=(restF f).lo:=by simp [restF,Bv]
      have Cz:(0:Int)=(restF f).hi:=by simp [restF,Bv]
      have D0:false=(restF f).cl:=by simp [restF,Bv]
      have D1:(0:Int)=(restF f).dy:=by simp [restF,Bv]
      have D2:(0:Int)=(restF f).tm:=by simp [restF,Bv]
      have D3:(f.wi:Int)=(restF f).wi:=by simp [restF,Bv]
      exact zl hJ [2,3] ⟨rfl,Ef,hE,Bf,B5,B6,B0,B1,(box_int Cw B3),(box_int Cx B7),(box_int Cy B4),(box_int Cz B8),(box_bol D0 Ba),(box_int D1 Bc),(box_int D2 Be),(box_int D3 B2)⟩
     ·refine pUT (.bool false) (eN (f.k:Int) (4:Int) (Bv)) (.bool false) ?_;refine zn (zf ?_);refine cs_ (qw_block ?_);have Cw:(0:Int)=(restF f).sf:=by simp [restF,Bh,Bi,Bo,Bv]
      have Cx:(0:Int)=(restF f).st:=by simp [restF,Bh,Bi,Bo,Bv]
      have Cy:(0:Int)=(restF f).lo:=by simp [restF,Bh,Bi,Bo,Bv]
      have Cz:(0:Int)=(restF f).hi:=by simp [restF,Bh,Bi,Bo,Bv]
      have D0:false=(restF f).cl:=by simp [restF,Bh,Bi,Bo,Bv]
      have D1:(0:Int)=(restF f).dy:=by simp [restF,Bh,Bi,Bo,Bv]
      have D2:(0:Int)=(restF f).tm:=by simp [restF,Bh,Bi,Bo,Bv]
      have D3:(0:Int)=(restF f).wi:=by simp [restF,Bh,Bi,Bo,Bv]
      exact zl hJ [2,3] ⟨rfl,(nr_ _),hE,Bf,B5,B6,B0,B1,(box_int Cw B3),(box_int Cx B7),(box_int Cy B4),(box_int Cz B8),(box_bol D0 Ba),(box_int D1 Bc),(box_int D2 Be),(box_int D3 B2)⟩
 ·clear B5 B6 B3 B7 B4 B8 Ba Bc Be B2 B0 B1 hE Bf;rintro L ws F9 ⟨rfl,F2,hE,Bf,B5,B6,B0,B1,D8,D9,Da,Db,Dc,Dd,De,Df⟩;refine zq (zc (zp (pU (.agg #[iv f.k,.slice none 0 0,iv ((restF f).sf),iv ((restF f).st),iv ((restF f).lo),iv ((restF f).hi),.bool ((restF f).cl),iv ((restF f).dy),iv ((restF f).tm),iv ((restF f).wi),.slice none 0 0,.slice none 0 0]) (xl (ld33 (B5.1) (B6.1) (D8.1) (D9.1) (Da.1) (Db.1) (Dc.1) (Dd.1) (De.1) (Df.1) (B0.1) (B1.1))) ?_)));have Cc:=(C9.x Bf);have Cd:=(Ct.x Bf);have Ce:=(Bj.x Bf);have Cf:=(Bp.x Bf);have Cg:=(Bm.x Bf);have Ch:=(Bq.x Bf);have Ci:=(Br.x Bf);have Cj:=(Bs.x Bf);have Ck:=(Bt.x Bf);have Cm:=(Bk.x Bf);have Cn:=(Ca.x Bf);have Co:=(Cb.x Bf);have Bw:=(D4.x Bf);have Bx:=(Dg.x Bf);have Bz:=(Dh.x Bf);have C0:=(Di.x Bf);have C1:=(Dj.x Bf);have C2:=(Dk.x Bf);have C3:=(Dl.x Bf);have C4:=(Dm.x Bf);have C5:=(Dn.x Bf);have C6:=(Do.x Bf);have C7:=(D6.x Bf);have C8:=(D7.x Bf);refine pP (k33 O5 f.k none 0 0 ((restF f).sf:Int) ((restF f).st:Int) ((restF f).lo:Int) ((restF f).hi:Int) ((restF f).cl) ((restF f).dy:Int) ((restF f).tm:Int) ((restF f).wi:Int) none 0 0 none 0 0 Bw Bx Bz C0 C1 C2 C3 C4 C5 C6 C7 C8 ?_);intro Ez ho Bw Bx Bz C0 C1 C2 C3 C4 C5 C6 C7 C8 hk;replace hE:=ho.ext hE (Tq Cp (nq_ Dy));have q9:=ho.bx O1 (by omega);clear q9;have F3:=nq_ ho.size.symm;clear ho hk;refine zn (ct_ (qw_ret [.agg #[iv f.k,.slice none 0 0,iv ((restF f).sf),iv ((restF f).st),iv ((restF f).lo),iv ((restF f).hi),.bool ((restF f).cl),iv ((restF f).dy),iv ((restF f).tm),iv ((restF f).wi),.slice none 0 0,.slice none 0 0]] rfl ⟨⟨_,by kernel_rfl,res_ld (ld33 (Bw.1) (Bx.1) (Bz.1) (C0.1) (C1.1) (C2.1) (C3.1) (C4.1) (C5.1) (C6.1) (C7.1) (C8.1))⟩,trivial⟩ ?_));exact⟨rfl,hE⟩
theorem plain_t (f g:GF) (x y:GC) (w:World) (hv:Gol.plB f g=true):Calls Tryz.prog 104 #[gw f x.ar x.nr x.cr x.ac x.nc x.cc x.ak x.nk x.ck,gw g y.ar y.nr y.cr y.ac y.nc y.cc y.ak y.nk y.ck] w fun e w'=>e= .returned (.bool true)∧Ext w w':=by
 refine cC_ 59 [(1,gw g y.ar y.nr y.cr y.ac y.nc y.cc y.ak y.nk y.ck),(0,gw f x.ar x.nr x.cr x.ac x.nc x.cc x.ak x.nk x.ck)] Tryz.func104 Tryz.ntmps104 (fun L=>?_);have hE:=er_ w;refine zc (zp (pS (sw 33 #[iv f.k,.slice x.ar x.nr x.cr,iv f.sf,iv f.st,iv f.lo,iv f.hi,.bool f.cl,iv f.dy,iv f.tm,iv f.wi,.slice x.ac x.nc x.cc,.slice x.ak x.nk x.ck] ?_)));intro O1 X2 C3 C1 hb hbx;have⟨B0,Be,B3,B4,B5,B6,B7,B8,Ba,Bc,B1,B2⟩:=bq12 hbx;refine nv1 hb hE fun hE C6=>?_;have C8:=B0.lt;refine pS (sw 33 #[iv g.k,.slice y.ar y.nr y.cr,iv g.sf,iv g.st,iv g.lo,iv g.hi,.bool g.cl,iv g.dy,iv g.tm,iv g.wi,.slice y.ac y.nc y.cc,.slice y.ak y.nk y.ck] ?_);intro O5 X6 C4 C2 hb hbx;have⟨Bf,Br,Bg,Bh,Bi,Bj,Bk,Bl,Bm,Bo,Bp,Bq⟩:=bq12 hbx;refine mv9 hb hE B0 B3 B4 B5 B6 B7 B8 Ba fun hE B0 B3 B4 B5 B6 B7 B8 Ba=>?_;replace Bc:=Bc.x hb;have C7:=hb.size;have C9:=Bf.lt;refine pT (.bool false) ?_;refine pl_nil (qw_then ?_);refine cw_seq ?_;have C5:=er_ X6;obtain⟨Bs,Bt,Bu,Bv,Bw,Bx,Bz,C0⟩:=Gol.plain_p hv;refine zp (pT (pw O1 0) ?_);refine pUT (iv f.k) (xl (ld3 (B0.1))) (pw O5 0) ?_;refine pU (iv g.k) (xl (ld3 (Bf.1))) ?_;refine pUD (.bool true) (eE (f.k:Int) (g.k:Int) (Bs)) (.bool true) (pw O1 2) ?_;refine pUT (.agg #[iv f.sf,iv f.st]) (xl (ld30 (B3.1) (B4.1))) (pw O5 2) ?_;refine pU (.agg #[iv g.sf,iv g.st]) (xl (ld30 (Bg.1) (Bh.1))) ?_;refine pX3 (.bool true) (ex_binV (a:=.agg #[iv f.sf,iv f.st]) (b:=.agg #[iv g.sf,iv g.st]) rfl (by kernel_rfl) (by kernel_rfl) (eqG_agg (by kernel_rfl)) (bin_eqv_t (spell_eq _ _ _ _ _) Bt)) (.bool true) (.bool true) (pw O1 4) ?_;refine pUT (iv f.lo) (xl (ld3 (B5.1))) (pw O5 4) ?_;refine pU (iv g.lo) (xl (ld3 (Bi.1))) ?_;refine pX3 (.bool true) (eE (f.lo:Int) (g.lo:Int) (Bu)) (.bool true) (.bool true) (pw O1 5) ?_;refine pUT (iv f.hi) (xl (ld3 (B6.1))) (pw O5 5) ?_;refine pU (iv g.hi) (xl (ld3 (Bj.1))) ?_;refine pX3 (.bool true) (eE (f.hi:Int) (g.hi:Int) (Bv)) (.bool true) (.bool true) (pw O1 6) ?_;refine pUT (.bool f.cl) (xl (ld4 (B7.1))) (pw O5 6) ?_;refine pU (.bool g.cl) (xl (ld4 (Bk.1))) ?_;refine pX3 (.bool true) (ex_binV (a:=.bool f.cl) (b:=.bool g.cl) rfl (by kernel_rfl) (by kernel_rfl) eqG_bol (bin_eqb_t Bw)) (.bool true) (.bool true) (pw O1 7) ?_;refine pUT (iv f.dy) (xl (ld3 (B8.1))) (pw O5 7) ?_;refine pU (iv g.dy) (xl (ld3 (Bl.1))) ?_;refine pX3 (.bool true) (eE (f.dy:Int) (g.dy:Int) (Bx)) (.bool true) (.bool true) (pw O1 8) ?_;refine pUT (iv f.tm) (xl (ld3 (Ba.1))) (pw O5 8) ?_;refine pU (iv g.tm) (xl (ld3 (Bm.1))) ?_;refine pX3 (.bool true) (eE (f.tm:Int) (g.tm:Int) (Bz)) (.bool true) (.bool true) (pw O1 9) ?_;refine pUT (iv f.wi) (xl (ld3 (Bc.1))) (pw O5 9) ?_;refine pU (iv g.wi) (xl (ld3 (Bo.1))) ?_;refine pUD (.bool true) (eE (f.wi:Int) (g.wi:Int) (C0)) (.bool true) (.bool true) ?_;refine zn (cK [4] (fun L=>?_));refine ct_ (zR (.bool true) ?_);exact⟨rfl,hE⟩
theorem limits_t (f:GF) (x:GC) (w:World) (HA:AA w0 x.ar f.rows x.nr (Globe.validL f.rows)) (hT:Tab w0) (e0:Ext w0 w) (hv:Gol.limB f=true):Calls Tryz.prog 106 #[gw f x.ar x.nr x.cr x.ac x.nc x.cc x.ak x.nk x.ck] w fun e w'=>e= .returned (.bool true)∧Ext w w':=by
 have C3:=e0.size;refine cC_ 85 [(0,gw f x.ar x.nr x.cr x.ac x.nc x.cc x.ak x.nk x.ck)] Tryz.func106 Tryz.ntmps106 (fun L=>?_);have hE:=er_ w;refine zc (zp (pS (sw 33 #[iv f.k,.slice x.ar x.nr x.cr,iv f.sf,iv f.st,iv f.lo,iv f.hi,.bool f.cl,iv f.dy,iv f.tm,iv f.wi,.slice x.ac x.nc x.cc,.slice x.ak x.nk x.ck] ?_)));intro O1 X2 C2 C1 hb hbx;have⟨B6,B7,B2,Ba,B3,Bc,Bj,B8,Be,B4,Bg,Bh⟩:=bq12 hbx;refine nv2 hb e0 hE fun e0 hE C4=>?_;have C7:=B6.lt;refine pT (.bool false) ?_;refine zn (zc (zc (zp (pT (pw O1 0) ?_))));refine pU (iv f.k) (xl (ld3 (B6.1))) ?_;refine zn (cb_ ?_);refine cw_seq ?_;unfold Gol.limB at hv;rcases (by omega:f.k=1∨f.k=2∨f.k=3∨f.k=4∨¬(f.k=1∨f.k=2∨f.k=3∨f.k=4)) with hk | hk | hk | hk | hk
 ·rw [if_pos hk] at hv;simp only [Gol.areaB,Bool.and_eq_true,Globe.inB_t,decide_eq_true_eq] at hv;obtain⟨⟨⟨⟨⟨hV,hC⟩,Bi⟩,Bk⟩,Bl⟩,Bm⟩:=hv;have B1:=er_ X2;refine zp (pU (.bool true) (eE (f.k:Int) (1:Int) (by omega)) ?_);refine pT (.bool true) ?_;refine zn (zt ?_);refine zc (zp (pT (pw O1 1) ?_));refine pU (.agg #[.slice x.ar x.nr x.cr]) (xl (ld26 (B7.1))) ?_;refine pS (sc 52 #[.agg #[.slice x.ar x.nr x.cr]] ((Valid_v (v:=true) _ _ _ _ _ (HA.1.ext e0) HA.2.1 HA.2.2.1 hV).mono ?_));rintro e w6 ⟨rfl,hb⟩;refine nv3 hb e0 hE B1 fun e0 hE B1 C5=>?_;refine⟨_,rfl,pD (.bool true) (pw O1 1) ?_⟩;refine pU (.agg #[.slice x.ar x.nr x.cr]) (xl (ld26 (B7.c B1))) ?_;refine pS (sc 116 #[.agg #[.slice x.ar x.nr x.cr]] ((CountP_c _ _ HA e0 hV hT).mono ?_));rintro e w8 ⟨rfl,hb⟩;refine nv2 hb hE B1 fun hE B1 C6=>?_;refine⟨_,rfl,pU (.bool true) (ed ((Gol.cntI f.rows:Int)>(0:Int)) (by omega)) ?_⟩;refine pD (.bool true) (.bool true) ?_;refine zn (cK [1,3] (fun L=>?_));refine zc (zp (pD (.bool true) (.bool true) ?_));refine pD (pw O1 2) (pw O1 2) ?_;refine pU (iv f.sf) (xl (ld3 (B2.c B1))) ?_;refine pS (sc 103 #[iv f.sf,iv 0,iv 1000000] ((order_in_r (r:=true) f.sf 0 1000000 _ (Globe.inB_t.2 (by omega))).mono ?_));rintro e C8 ⟨rfl,hb⟩;refine nv2 hb hE B1 fun hE B1 Bp=>?_;refine⟨_,rfl,pD (.bool true) (.bool true) ?_⟩;refine pD (pw O1 2) (pw O1 3) ?_;refine pUD (iv f.st) (xl (ld3 (Ba.c B1))) (pw O1 2) (pw O1 2) ?_;refine pU (iv f.sf) (xl (ld3 (B2.c B1))) ?_;refine pU (iv (f.sf+1)) (ew (by omega) (by omega)) ?_;refine pS (sc 103 #[iv f.st,iv (f.sf+1),iv 1000000] ((order_in_r (r:=true) f.st (f.sf+1) 1000000 _ (Globe.inB_t.2 (by omega))).mono ?_));rintro e C9 ⟨rfl,hb⟩;refine nv2 hb hE B1 fun hE B1 Bq=>?_;refine⟨_,rfl,pD (.bool true) (.bool true) ?_⟩;refine pT (pw O1 4) ?_;refine pU (iv f.lo) (xl (ld3 (B3.c B1))) ?_;refine pS (sc 103 #[iv f.lo,iv 0,iv 90] ((order_in_r (r:=true) f.lo 0 90 _ (Globe.inB_t.2 (by omega))).mono ?_));rintro e Ca ⟨rfl,hb⟩;refine nv2 hb hE B1 fun hE B1 Br=>?_;refine⟨_,rfl,pD (.bool true) (.bool true) ?_⟩;refine pT (pw O1 5) ?_;refine pUT (iv f.hi) (xl (ld3 (Bc.c B1))) (pw O1 4) ?_;refine pU (iv f.lo) (xl (ld3 (B3.c B1))) ?_;refine pS (sc 103 #[iv f.hi,iv f.lo,iv 90] ((order_in_r (r:=true) f.hi f.lo 90 _ (Globe.inB_t.2 (by omega))).mono ?_));rintro e Cb ⟨rfl,hb⟩;refine nv1 hb hE fun hE Bs=>?_;refine⟨_,rfl,pD (.bool true) (.bool true) ?_⟩;refine zn (cK [2] (fun L=>?_));refine ct_ (qb (qt (zR (.bool true) ?_)));exact⟨rfl,hE⟩
 ·rw [if_neg (by omega),if_pos hk] at hv;simp only [Bool.and_eq_true,Globe.inB_t] at hv;obtain⟨Bi,Bk⟩:=hv;have B5:=er_ X2;refine zp (pU (.bool false) (eN (f.k:Int) (1:Int) (by omega)) ?_);refine pT (.bool false) ?_;refine zn (zf ?_);refine zc (zp (pU (.bool true) (eE (f.k:Int) (2:Int) (by omega)) ?_));refine pT (.bool true) ?_;refine zn (zt ?_);refine zc (zp (pT (pw O1 4) ?_));refine pU (iv f.lo) (xl (ld3 (B3.1))) ?_;refine pS (sc 103 #[iv f.lo,iv 1,iv 8] ((order_in_r (r:=true) f.lo 1 8 _ (Globe.inB_t.2 (by omega))).mono ?_));rintro e Cc ⟨rfl,hb⟩;refine nv2 hb hE B5 fun hE B5 Bt=>?_;refine⟨_,rfl,pD (.bool true) (pw O1 9) ?_⟩;refine pU (iv f.wi) (xl (ld3 (B4.c B5))) ?_;refine pS (sc 103 #[iv f.wi,iv 1,iv 1000000] ((order_in_r (r:=true) f.wi 1 1000000 _ (Globe.inB_t.2 (by omega))).mono ?_));rintro e Cd ⟨rfl,hb⟩;refine nv1 hb hE fun hE Bu=>?_;refine⟨_,rfl,pD (.bool true) (.bool true) ?_⟩;refine zn (cK [2] (fun L=>?_));refine ct_ (qb (qt (zR (.bool true) ?_)));exact⟨rfl,hE⟩
 ·rw [if_neg (by omega),if_neg (by omega),if_pos hk] at hv;simp only [Bool.and_eq_true,Globe.inB_t] at hv;obtain⟨⟨⟨Bi,Bk⟩,Bl⟩,Bm⟩:=hv;have B0:=er_ X2;refine zp (pU (.bool false) (eN (f.k:Int) (1:Int) (by omega)) ?_);refine pT (.bool false) ?_;refine zn (zf ?_);refine zc (zp (pU (.bool false) (eN (f.k:Int) (2:Int) (by omega)) ?_));refine pT (.bool false) ?_;refine zn (zf ?_);refine zc (zp (pU (.bool true) (eE (f.k:Int) (3:Int) (by omega)) ?_));refine pT (.bool true) ?_;refine zn (zt ?_);refine zc (zp (pT (pw O1 7) ?_));refine pU (iv f.dy) (xl (ld3 (B8.1))) ?_;refine pS (sc 103 #[iv f.dy,iv 1,iv 60] ((order_in_r (r:=true) f.dy 1 60 _ (Globe.inB_t.2 (by omega))).mono ?_));rintro e Ce ⟨rfl,hb⟩;refine nv2 hb hE B0 fun hE B0 Bv=>?_;refine⟨_,rfl,pD (.bool true) (pw O1 8) ?_⟩;refine pU (iv f.tm) (xl (ld3 (Be.c B0))) ?_;refine pS (sc 103 #[iv f.tm,iv 1,iv 6] ((order_in_r (r:=true) f.tm 1 6 _ (Globe.inB_t.2 (by omega))).mono ?_));rintro e Cf ⟨rfl,hb⟩;refine nv2 hb hE B0 fun hE B0 Bw=>?_;refine⟨_,rfl,pD (.bool true) (.bool true) ?_⟩;refine pT (pw O1 9) ?_;refine pUT (iv f.wi) (xl (ld3 (B4.c B0))) (pw O1 7) ?_;refine pU (iv f.dy) (xl (ld3 (B8.c B0))) ?_;refine pU (iv (1440 * f.dy)) (ew (by omega) (by omega)) ?_;refine pS (sc 103 #[iv f.wi,iv 0,iv (1440 * f.dy)] ((order_in_r (r:=true) f.wi 0 (1440 * f.dy) _ (Globe.inB_t.2 (by omega))).mono ?_));rintro e Cg ⟨rfl,hb⟩;refine nv2 hb hE B0 fun hE B0 Bx=>?_;refine⟨_,rfl,pD (.bool true) (.bool true) ?_⟩;refine pD (pw O1 2) (pw O1 2) ?_;refine pU (iv f.sf) (xl (ld3 (B2.c B0))) ?_;refine pS (sc 103 #[iv f.sf,iv 0,iv 1000000] ((order_in_r (r:=true) f.sf 0 1000000 _ (Globe.inB_t.2 (by omega))).mono ?_));rintro e Ch ⟨rfl,hb⟩;refine nv1 hb hE fun hE Bz=>?_;refine⟨_,rfl,pD (.bool true) (.bool true) ?_⟩;refine zn (cK [2] (fun L=>?_));refine ct_ (qb (qt (zR (.bool true) ?_)));exact⟨rfl,hE⟩
 ·rw [if_neg (by omega),if_neg (by omega),if_neg (by omega),if_pos hk] at hv;simp only [Globe.inB_t] at hv;obtain Bi:=hv;have Bf:=er_ X2;refine zp (pU (.bool false) (eN (f.k:Int) (1:Int) (by omega)) ?_);refine pT (.bool false) ?_;refine zn (zf ?_);refine zc (zp (pU (.bool false) (eN (f.k:Int) (2:Int) (by omega)) ?_));refine pT (.bool false) ?_;refine zn (zf ?_);refine zc (zp (pU (.bool false) (eN (f.k:Int) (3:Int) (by omega)) ?_));refine pT (.bool false) ?_;refine zn (zf ?_);refine zc (zp (pU (.bool true) (eE (f.k:Int) (4:Int) (by omega)) ?_));refine pT (.bool true) ?_;refine zn (zt ?_);refine zc (zp (pT (pw O1 9) ?_));refine pU (iv f.wi) (xl (ld3 (B4.1))) ?_;refine pS (sc 103 #[iv f.wi,iv 0,iv 1000000] ((order_in_r (r:=true) f.wi 0 1000000 _ (Globe.inB_t.2 (by omega))).mono ?_));rintro e Ci ⟨rfl,hb⟩;refine nv1 hb hE fun hE C0=>?_;refine⟨_,rfl,pT (.bool true) ?_⟩;refine zn (cK [2] (fun L=>?_));refine ct_ (qb (qt (zR (.bool true) ?_)));exact⟨rfl,hE⟩
 ·have Bo:=er_ X2;refine zp (pU (.bool false) (eN (f.k:Int) (1:Int) (by omega)) ?_);refine pT (.bool false) ?_;refine zn (zf ?_);refine zc (zp (pU (.bool false) (eN (f.k:Int) (2:Int) (by omega)) ?_));refine pT (.bool false) ?_;refine zn (zf ?_);refine zc (zp (pU (.bool false) (eN (f.k:Int) (3:Int) (by omega)) ?_));refine pT (.bool false) ?_;refine zn (zf ?_);refine zc (zp (pU (.bool false) (eN (f.k:Int) (4:Int) (by omega)) ?_));refine pT (.bool false) ?_;refine zn (zf ?_);refine cs_ (qw_block (zq (zc (zp (pT (.bool true) ?_)))));refine zn (ct_ (zR (.bool true) ?_));exact⟨rfl,hE⟩
end Go.Proofs.YtpfajhcdfgpgmaaGreatDoor

namespace Go.Proofs.YtpfajhcdfgpgmaaGreatDoor
open Globe (inB)
set_option maxRecDepth 1000000
set_option maxHeartbeats 4000000
set_option synthInstance.maxHeartbeats 0
set_option synthInstance.maxSize 9999
open Go.RowKit
structure BS (Y:Nat→Prop) (B K:Nat) (v:Value) (w:World) (v':Value) (w':World):Prop where
 wr:Wr (fun k=>BX B K v k∨Y k) w w'
 nw:∀k,v'.ownBlock=some k→v.ownBlock=some k∨w.heap.size≤k
abbrev No:Nat→Prop:=fun _=>False
section
variable {Y:Nat→Prop} {B K:Nat} {v v' v'':Value} {w w' w'' w0 X:World}
theorem BS.refl (Y:Nat→Prop) (B K:Nat) (v:Value) (w:World):BS Y B K v w v w:=⟨Wr.refl _ _,fun _ h=> .inl h⟩
theorem BS.trans (h:BS Y B K v w v' w') (k:BS Y B K v' w' v'' w''):BS Y B K v w v'' w'':=
 ⟨h.wr.wr k.wr fun i q=>q.elim (fun q=>(bx_new h.nw i q).imp .inl id) fun q=> .inl (.inr q),fun i hi=>(k.nw i hi).elim (h.nw i) fun z=> .inr (Tq h.wr.size z)⟩
theorem BS.ext (h:BS Y B K v w v' w') (e:Ext w' w''):BS Y B K v w v' w'':=⟨h.wr.step e,h.nw⟩
instance {Y:Nat→Prop} {B K:Nat} {v v':Value} {U w w':World}:MvC w w' (BS Y B K v U v' w) (BS Y B K v U v' w'):=⟨fun e h=>h.ext e⟩
theorem BS.of_ext (e:Ext w w'):BS Y B K v w v w':=(BS.refl Y B K v w).ext e
theorem BS.pre (e:Ext w0 w) (h:BS Y B K v w v' w'):BS Y B K v w0 v' w':=(BS.of_ext e).trans h
theorem BS.mono {Z:Nat→Prop} (h:BS Y B K v w v' w') (hy:∀k,Y k→Z k∨w.heap.size≤k):BS Z B K v w v' w':=⟨(Wr.refl _ _).wr h.wr fun k q=>q.elim (fun q=> .inl (.inl q)) fun q=>(hy k q).imp .inr id,h.nw⟩
theorem BS.no (h:BS No B K v w v' w'):BS Y B K v w v' w':=h.mono fun _ q=>q.elim
theorem BS.turn {O:Nat} (h:BS Y B K v w v' w') (t:Turns O w' X) (hO:Y O∨w.heap.size≤O):BS Y B K v w v' X:=⟨h.wr.turn t (hO.imp .inr id),h.nw⟩
theorem BS.turnM {O:Nat} (h:BS Y B K v w v' w') (t:TurnsM O w' X) (hO:Y O∨w.heap.size≤O):BS Y B K v w v' X:=⟨h.wr.turnM t (hO.imp .inr id),h.nw⟩
theorem BS.app {r:Option Nat} (h:BS Y B K v w v' w') (g:w'.grownBy X r) (hr:∀k,r=some k→Y k∨w.heap.size≤k):BS Y B K v w v' X:=⟨h.wr.app g fun k q=>(hr k q).imp .inr id,h.nw⟩
theorem BS.nx {b:Nat} (h:BS Y B K v w v' w') (hb:¬BX B K v b) (hl:b<w.heap.size):¬BX B K v' b:=bx_step h.nw hb hl
end
theorem Bld.own_B {w:World} {n₀ B K n:Nat} {v:Value} {T:List Bdd.D} (h:Bld w n₀ B K n v T):B≠K:=fun e=>by
 subst e
 obtain⟨L,⟨es,c,q⟩,_⟩:=h.map
 obtain⟨o,ho,hc⟩:=cells_of_cell h.b0.1
 rw [q.at_] at ho
 cases ho
 cases hc
theorem Bld.own_K {w:World} {n₀ B K n:Nat} {v:Value} {T:List Bdd.D} (h:Bld w n₀ B K n v T):v.ownBlock≠some K:=fun e=>by
  obtain⟨L,⟨es,c,q⟩,_⟩:=h.map
  obtain⟨cs,h1,h2,h3,h4⟩:=h.own
  rcases h3.2 with ⟨rfl,_⟩ | ⟨g,cap,cur,rfl,hb,hcur,_⟩
  · cases e
  · cases e
    have:=q.at_
    rw [hcur] at this
    cases this
theorem misIn_c (n lo hi:Int) (w:World):Calls Tryz.prog 53 #[iv n,iv lo,iv hi] w fun e w'=>e= .returned (.bool (inB n lo hi))∧Ext w w':=by
 refine cC_ 15 [(2,iv hi),(1,iv lo),(0,iv n)] Tryz.func53 Tryz.ntmps53 (fun L=>?_);have hE:=er_ w;refine zc (zp (pT (.bool false) ?_));refine zn (zc (zp (pD (iv lo) (iv n) ?_)))
 by_cases hc1:(lo:Int)≤(n:Int)
 ·refine pX3 (.bool true) (ed ((lo:Int)≤(n:Int)) (hc1)) (.bool true) (iv n) (iv hi) ?_
  by_cases hc2:(n:Int)≤(hi:Int)
  ·refine pUD (.bool true) (ed ((n:Int)≤(hi:Int)) (hc2)) (.bool true) (.bool true) ?_;refine zn (ct_ (zR (.bool true) ?_));exact⟨rb (show inB n lo hi=true by unfold inB;simp [hc1,hc2]).symm,hE⟩
  ·refine pUD (.bool false) (en ((n:Int)≤(hi:Int)) (hc2)) (.bool false) (.bool false) ?_;refine zn (ct_ (zR (.bool false) ?_));exact⟨rb (show inB n lo hi=false by unfold inB;simp [hc1,hc2]).symm,hE⟩
 ·refine pUT (.bool false) (en ((lo:Int)≤(n:Int)) (hc1)) (.bool false) ?_;refine pK3 ?_;refine pD (.bool false) (.bool false) ?_;refine zn (ct_ (zR (.bool false) ?_));exact⟨rb (show inB n lo hi=false by unfold inB;simp [hc1]).symm,hE⟩
theorem misIn_r (n lo hi:Int) {r:Bool} (w:World) (hr:inB n lo hi=r):Calls Tryz.prog 53 #[.int .i64 n,.int .i64 lo,.int .i64 hi] w fun e w'=>e= .returned (.bool r)∧Ext w w':=hr ▸ misIn_c n lo hi w
theorem begin_c (n:Nat) (w:World):Calls Tryz.prog 45 #[iv n] w fun e w'=>∃B K,e= .returned (pw B 0)∧Bld w' w.heap.size B K n (.slice none 0 0) []∧Ext w w':=by
 refine cC_ 7 [(0,iv n)] Tryz.func45 Tryz.ntmps45 (fun L=>?_);have hE:=er_ w;refine zc (zp (pT (.pointer none) ?_));refine zn (zc (zp (pT (iv n) ?_)));refine pS (sn_map Nod.val intV (by kernel_rfl) ?_);intro O1 X2 hO hOs hb hm3;have hzO1:=hO;have hyO1:=hOs;clear hO hOs;refine nv1 hb hE fun hE hs4=>?_;have lt5:=hm3.lt;refine pT (.agg #[iv n,.slice none 0 0,.map (some O1)]) ?_;refine pS (sw 121 #[iv n,.slice none 0 0,.map (some O1)] ?_);intro O6 X7 hzO6 hyO6 hb hbx;have⟨bO6_0,bO6_1,bO6_2⟩:=bq3 hbx;refine nv2 hb hE hm3 fun hE hm3 hs8=>?_;have lt9:=bO6_0.lt;refine pT (pw O6 0) ?_;refine zn (ct_ (zR (pw O6 0) ?_));exact⟨O6,O1,rfl,⟨bO6_0,bO6_1,bO6_2,OwnL.nil _ _ _ _ _,⟨[],hm3,Known.nil⟩,Bdd.Cl.nil n,(fun h=>by cases h),(Tq hs4 (nq_ hzO6)),(nq_ hzO1)⟩,hE⟩
instance {w w':World} {n₀ B K n:Nat} {v:Value} {T:List Bdd.D}:MvC w w' (Bld w n₀ B K n v T) (Bld w' n₀ B K n v T):=⟨fun e h=>h.ext e⟩
theorem BS.o {B K:Nat} {v v':Value} {w w':World} (h:BS No B K v w v' w') {b:Nat} (hb:¬BX B K v b):∀ ⦃o:Nat⦄ ⦃u:Value⦄,BoxAt w b o u→BoxAt w' b o u:=fun _ _ x=>h.wr.box (fun q=>q.elim hb id) x
end Go.Proofs.YtpfajhcdfgpgmaaGreatDoor

namespace Go.Proofs.YtpfajhcdfgpgmaaGreatDoor
open Bdd (ix rows)
variable {B K e n:Nat} {v:Value} {T:List Bdd.D} {a b:Bdd.D}
set_option maxRecDepth 1000000
set_option maxHeartbeats 4000000
set_option synthInstance.maxHeartbeats 0
set_option synthInstance.maxSize 9999
open Go.RowKit
theorem Bld.sl {w:World} {n₀:Nat} (h:Bld w n₀ B K n v T):∃a c,v= .slice a T.length c∧T.length≤c∧(0<T.length→∃g,a=some ⟨g,0,none⟩∧∀i x,(rows T)[i]? =some x→w.cell? ⟨g,i * 3,none⟩=some (.int .i64 x.1)∧w.cell? ⟨g,i * 3+1,none⟩=some (.int .i64 x.2.1)∧w.cell? ⟨g,i * 3+2,none⟩=some (.int .i64 x.2.2)):=by
  obtain⟨cs,h1,h2,h3,h4⟩:=h.own
  have hl:=Bdd.rows_len T
  rcases h3.2 with ⟨q,q2⟩ | ⟨g,cap,cur,q,hb,hcur,hc,rest⟩
  · refine⟨none,0,by rw [q];congr 1;omega,by omega,fun h0=>by omega⟩
  · refine⟨_,cap,by rw [q];congr 1,by omega,fun h0=>⟨g,rfl,fun i x hx=>?_⟩⟩
    have hi:=(List.getElem?_eq_some_iff.1 hx).1
    have hc2:=List.getElem?_eq_getElem (l:=cs) (i:=i) (by omega)
    obtain⟨F,⟨e1,_⟩,_⟩:=h4 i _ _ hx hc2
    subst q
    have f0:=flatten_get h2 i hc2 0 (by omega);have f1:=flatten_get h2 i hc2 1 (by omega);have f2:=flatten_get h2 i hc2 2 (by omega)
    rw [e1] at f0 f1 f2
    have z0:=h3.cellAt (i * 3) (by omega);have z1:=h3.cellAt (i * 3+1) (by omega);have z2:=h3.cellAt (i * 3+2) (by omega)
    exact⟨by rw [z0];exact f0,by rw [z1];exact f1,by rw [z2];exact f2⟩
theorem Bdd.mk_self:Bdd.mk e a a=a:=if_pos rfl
theorem Bdd.mk_nd (h:a≠b):Bdd.mk e a b= .nd e a b:=if_neg h
theorem Bdd.row_mem (h:Bdd.Cl n T) (ma:Bdd.Mem T a) (mb:Bdd.Mem T b):(((e:Nat):Int),ix T a,ix T b) ∈ rows T↔Bdd.D.nd e a b ∈ T:=by
  constructor
  · intro q
    obtain⟨t,ht,e1⟩:=List.mem_map.1 q
    exact Bdd.row_inj h ht rfl ma mb e1 ▸ ht
  · intro q;exact List.mem_map.2 ⟨_,q,rfl⟩
theorem Bdd.known_yes {L:List (Nod × Int)} (hk:Known L (rows T)) (hm:Bdd.D.nd e a b ∈ T):getM (((e:Nat):Int),ix T a,ix T b) L=some (ix T (.nd e a b)):=by
 obtain⟨i,h1,h2,h3⟩:=Bdd.ix_nd (T:=T) (e:=e) (a:=a) (b:=b) hm
 exact (hk _ _).2 ⟨i,by unfold rows;rw [List.getElem?_map,h3];rfl,h1⟩
theorem Bdd.known_no (h:Bdd.Cl n T) {L:List (Nod × Int)} (hk:Known L (rows T)) (ma:Bdd.Mem T a) (mb:Bdd.Mem T b) (hm:¬Bdd.D.nd e a b ∈ T):getM (((e:Nat):Int),ix T a,ix T b) L=none:=by
 cases q:getM (((e:Nat):Int),ix T a,ix T b) L with
 | none=>rfl
 | some i=>
  obtain⟨k,h1,_⟩:=(hk _ _).1 q
  exact absurd ((Bdd.row_mem h ma mb).1 (List.mem_of_getElem? h1)) hm
theorem Bdd.ix_new (h:¬Bdd.D.nd e a b ∈ T):ix (T ++ [.nd e a b]) (.nd e a b)=((T.length:Nat):Int):=by
 show ((List.idxOf _ _:Nat):Int)=_
 rw [List.idxOf_append,if_neg h];simp
theorem node_c {n0:Nat} (w:World) (hB:Bld w n0 B K n v T) (he:e<n) (ha:Bdd.OK (e+1) n a) (hb:Bdd.OK (e+1) n b) (ma:Bdd.Mem T a) (mb:Bdd.Mem T b) (hT:T.length≤1000000000000) (_hn:n≤16):Calls Tryz.prog 88 #[pw B 0,iv e,iv (ix T a),iv (ix T b)] w fun r w'=>∃v',r= .returned (iv (ix (Bdd.add T (Bdd.mk e a b)) (Bdd.mk e a b)))∧BS No B K v w v' w'∧Bld w' n0 B K n v' (Bdd.add T (Bdd.mk e a b)):=by
 obtain⟨sa,sc,rfl,hsc,_⟩:=hB.sl;obtain⟨Lm,hM,hLm⟩:=hB.map;have hBK:=hB.own_B;have hBl:=hB.b0.lt;have hKl:=hM.lt;have hix:=Bdd.ix_rng ma;have hiy:=Bdd.ix_rng mb;have Bf:Wr (BX B K (.slice sa T.length sc)) w w:=Wr.refl _ _;have Bg:=hB.b0;have B7:=hB.b1;have B6:=hB.b2;have hO:=hB.own;have hOk:=hO.lt;refine cC_ 53 [(3,iv (ix T b)),(2,iv (ix T a)),(1,iv e),(0,pw B 0)] Tryz.func88 Tryz.ntmps88 (fun L=>?_);have hE:=er_ w;refine zc (zp (pT (iv 0) ?_));refine zn (zc (zp (pD (iv e) (iv (ix T a)) ?_)));refine pD (iv (ix T b)) (nw e (ix T a) (ix T b)) ?_;refine pS (sw 56 #[iv 0,iv 0,iv 0] ?_);intro O1 X2 Bj De hb hbx;have⟨B0,B1,B2⟩:=bq3 hbx;clear hbx;replace Bf:=Bf.step hb;refine nv5 hb Bg B7 B6 hM hO fun Bg B7 B6 hM hO Bw=>?_;clear hb;have Dl:=B0.lt;refine pP (sn_setK3 (O:=O1) (j:=0) (v0:=iv e) (v1:=iv (ix T a)) (v2:=iv (ix T b)) (xt (pw O1 0) (nw e (ix T a) (ix T b)) (st56 B0.1 B0.2 B1.1 B1.2 B2.1 B2.2)) B0 B1 B2 ?_);intro X5 ho B0 B1 B2 hk;replace Bf:=Bf.turn ho (.inr (nq_ Bj));replace Bg:=ho.box (by omega) Bg;replace B7:=ho.box (by omega) B7;replace B6:=ho.box (by omega) B6;replace hM:=hM.block (ho.heap' _ (by omega));replace hO:=hO.turn ho (own_not2 hOk (nq_ Bj)) (fun _ _ _ h=>by rw [h.2];exact fun b hb=>by cases hb);have Bx:=nq_ ho.size.symm;clear ho hk;refine zn (zc (zc (zp (pD (iv (ix T a)) (iv (ix T b)) ?_))))
 by_cases Ce:(ix T a:Int)=(ix T b:Int)
 ·refine pU (.bool true) (eE (ix T a:Int) (ix T b:Int) (Ce)) ?_;refine zn (zt ?_);refine zc (zp (pD (iv (ix T a)) (iv (ix T a)) ?_));refine zn (ct_ (qt (zR (iv (ix T a)) ?_)));obtain rfl:=Bdd.ix_inj ma mb Ce;rw [Bdd.mk_self,Bdd.add_of ma];exact⟨_,rfl,⟨Bf.mono fun _ q=> .inl q,fun k q=> .inl q⟩,⟨Bg,B7,B6,hO,⟨Lm,hM,hLm⟩,hB.cl,hB.nv,hB.lb,hB.lk⟩⟩
 ·refine pU (.bool false) (eN (ix T a:Int) (ix T b:Int) (Ce)) ?_;refine zn (zf ?_);refine cs_ (zq (cw_seq ?_));have hab:a≠b:=fun q=>by subst q;exact Ce rfl
  by_cases hm:Bdd.D.nd e a b ∈ T
  ·refine dT (fun w'=>w'.cell? ⟨B,2,none⟩=some (.map (some K))∧w'.cell? ⟨O1,0,none⟩=some (iv e)∧w'.cell? ⟨O1,1,none⟩=some (iv (ix T a))∧w'.cell? ⟨O1,2,none⟩=some (iv (ix T b))) (⟨B6.1,B0.1,B1.1,B2.1⟩) (fun ops Q X8 hb hL hR hK=>?_);replace Bf:=Bf.step hb;refine mv7 hb Bg B7 B6 hM hO B0 B1 fun Bg B7 B6 hM hO B0 B1=>?_;replace B2:=B2.x hb;have Dk:=hb.size;clear hb;have hS:=A4 B6.1 B0.1 B1.1 B2.1;refine wW 0 (pw B 0) 1 (pw B 0) hR hS ?_;refine wV 2 (pw B 2) hR hS ?_;refine wM 3 (.map (some K)) hR (fun w hS=>ld119 (hS.1)) hS ?_;refine wM 4 (nw e (ix T a) (ix T b)) hR (fun w hS=>ld56 (hS.2.1) (hS.2.2.1) (hS.2.2.2)) hS ?_;refine wS 5 hR (sn_eff (v:=.tuple #[iv (ix T (.nd e a b)),.bool true]) (w':=X8) (ex_lookup rfl (by kernel_rfl) (by kernel_rfl) (lookup_is2 (run_lookup2 Tryz.underlying119 hM nod_law (((e:Nat):Int),ix T a,ix T b) (zero_int _)) (Bdd.known_yes hLm hm))) ⟨⟨B6.1,B0.1,B1.1,B2.1⟩,?_⟩);have hS:=A4 B6.1 B0.1 B1.1 B2.1;refine wW 6 (.tuple #[iv (ix T (.nd e a b)),.bool true]) 7 (iv (ix T (.nd e a b))) hR hS ?_;refine wW 8 (.bool true) 9 (iv (ix T (.nd e a b))) hR hS ?_;refine wV 10 (.bool true) hR hS ?_;refine we hL hR hK ?_;refine zq (cK [0,9,10,11] (fun L=>?_));refine zc (zc (zp (pD (.bool true) (.bool false) ?_)));refine zn (zf ?_);refine cs_ (zq (zc (zp (pD (iv (ix T (.nd e a b))) (iv (ix T (.nd e a b))) ?_))));refine zn (ct_ (zR (iv (ix T (.nd e a b))) ?_));rw [Bdd.mk_nd hab,Bdd.add_of (t:=.nd e a b) hm];exact⟨_,rfl,⟨Bf.mono fun _ q=> .inl q,fun k q=> .inl q⟩,⟨Bg,B7,B6,hO,⟨Lm,hM,hLm⟩,hB.cl,hB.nv,hB.lb,hB.lk⟩⟩
  ·refine dT (fun w'=>w'.cell? ⟨B,2,none⟩=some (.map (some K))∧w'.cell? ⟨O1,0,none⟩=some (iv e)∧w'.cell? ⟨O1,1,none⟩=some (iv (ix T a))∧w'.cell? ⟨O1,2,none⟩=some (iv (ix T b))) (⟨B6.1,B0.1,B1.1,B2.1⟩) (fun ops Q Cg hb hL hR hK=>?_);replace Bf:=Bf.step hb;refine mv7 hb Bg B7 B6 hM hO B0 B1 fun Bg B7 B6 hM hO B0 B1=>?_;replace B2:=B2.x hb;have Bm:=hb.size;clear hb;have hS:=A4 B6.1 B0.1 B1.1 B2.1;refine wW 0 (pw B 0) 1 (pw B 0) hR hS ?_;refine wV 2 (pw B 2) hR hS ?_;refine wM 3 (.map (some K)) hR (fun w hS=>ld119 (hS.1)) hS ?_;refine wM 4 (nw e (ix T a) (ix T b)) hR (fun w hS=>ld56 (hS.2.1) (hS.2.2.1) (hS.2.2.2)) hS ?_;refine wS 5 hR (sn_eff (v:=.tuple #[iv 0,.bool false]) (w':=Cg) (ex_lookup rfl (by kernel_rfl) (by kernel_rfl) (lookup_is2 (run_lookup2 Tryz.underlying119 hM nod_law (((e:Nat):Int),ix T a,ix T b) (zero_int _)) (Bdd.known_no hB.cl hLm ma mb hm))) ⟨⟨B6.1,B0.1,B1.1,B2.1⟩,?_⟩);have hS:=A4 B6.1 B0.1 B1.1 B2.1;refine wW 6 (.tuple #[iv 0,.bool false]) 7 (iv 0) hR hS ?_;refine wW 8 (.bool false) 9 (iv 0) hR hS ?_;refine wV 10 (.bool false) hR hS ?_;refine we hL hR hK ?_;refine zq (cK [0,9,10,11] (fun L=>?_));refine zc (zc (zp (pD (.bool false) (.bool true) ?_)));refine zn (zt ?_);refine zc (zp (pD (pw B 0) (pw B 0) ?_));refine pT (pw B 1) ?_;refine pUD (.slice sa T.length sc) (xl (ld40 (B7.1))) (nv T.length) (nv T.length) ?_;refine zn (zc (cw_join (fun ws' Y=>∃Bz Bv B8:Nat,ws'= [(0,pw B 0),(9,pw O1 0),(10,nv T.length)]∧Wr (BX B K (.slice sa T.length sc)) w Y∧BoxAt Y B 0 (iv n)∧BoxAt Y B 2 (.map (some K))∧MapS Nod.val intV Y K Lm∧BoxAt Y O1 0 (iv e)∧BoxAt Y O1 1 (iv (ix T a))∧BoxAt Y O1 2 (iv (ix T b))∧BoxAt Y Bz 0 (iv e)∧BoxAt Y Bz 1 (iv (ix T a))∧BoxAt Y Bz 2 (iv (ix T b))∧OwnL nodR n0 56 3 (sv Bv 0 (T.length+1) B8) Y ((rows T) ++ [(((e:Nat):Int),ix T a,ix T b)])∧(∀k,(Value.slice (some ⟨Bv,0,none⟩) (T.length+1) B8).ownBlock=some k→(Value.slice sa T.length sc).ownBlock=some k∨w.heap.size≤k)∧(Value.slice (some ⟨Bv,0,none⟩) (T.length+1) B8).ownBlock≠some B∧BoxAt Y B 1 (sv Bv 0 (T.length+1) B8)∧Cg.heap.size≤Y.heap.size∧Cg.heap.size≤Bz) (fun hJ=>?_) ?_))
   ·refine dT (fun w'=>w'.cell? ⟨O1,0,none⟩=some (iv e)∧w'.cell? ⟨O1,1,none⟩=some (iv (ix T a))∧w'.cell? ⟨O1,2,none⟩=some (iv (ix T b))) (⟨B0.1,B1.1,B2.1⟩) (fun ops Q D0 hb hL hR hK=>?_);replace Bf:=Bf.step hb;refine mv7 hb Bg B7 B6 hM hO B0 B1 fun Bg B7 B6 hM hO B0 B1=>?_;replace B2:=B2.x hb;have Bh:=hb.size;clear hb;have hS:=A3 B0.1 B1.1 B2.1;refine wW 0 (pw B 0) 1 (pw B 0) hR hS ?_;refine wW 2 (pw B 0) 3 (pw B 1) hR hS ?_;refine wM 5 (nw e (ix T a) (ix T b)) hR (fun w hS=>ld56 (hS.1) (hS.2.1) (hS.2.2)) hS ?_;refine zw 4 6 hR ?_ ?_
    ·refine sn_eff (v:=.slice sa T.length sc) (w':=D0) (xl (ld40 (B7.1))) ⟨⟨B0.1,B1.1,B2.1⟩,?_⟩;refine wS 6 hR (sn_newS (us:=#[iv e,iv (ix T a),iv (ix T b)]) (t:=56) (k:=1) (c:=1) (by kernel_rfl) ?_);intro Bz Dj Br Cw hb hbx;have⟨B3,B4,B5⟩:=bq3 hbx;clear hbx;replace Bf:=Bf.step hb;refine mv7 hb Bg B7 B6 hM hO B0 B1 fun Bg B7 B6 hM hO B0 B1=>?_;replace B2:=B2.x hb;have C7:=hb.size;clear hb;have Df:=B3.lt;refine⟨⟨B0.1,B1.1,B2.1⟩,?_⟩;have Cr:=hO.base;obtain⟨Bv,B8,Cy,C5,Ba,C9,Bc,Cc⟩:=own_app1h (P:=Tryz.prog) (ty:=40) nodT (hO) (Tq (Tq hB.lb (Nat.le_of_lt hBl)) (Tq Bw (Tq Bx (Tq Bm (Tq Bh C7))))) (k:=T.length) (Bdd.rows_len T) (O:=Bz) (c:=1) (x:=(((e:Nat):Int),ix T a,ix T b)) (d:=[iv e,iv (ix T a),iv (ix T b)]) (F:=[]) rfl (cells3 (B3.1) (B4.1) (B5.1)) (by simp [Value.oneCell']) ⟨rfl,rfl⟩ (fun b hb=>by cases hb) (by omega) (by omega);refine wS 7 hR (sn_eff (v:=sv Bv 0 (T.length+1) B8) (w':=Cy) (ex_append rfl (by kernel_rfl) (by kernel_rfl) C5) ?_);replace Bf:=Bf.app Bc (fun k hk=> .inl (.inr (.inr hk)));refine mq3 (fun _ _ h=>BoxAt.grownR h Bc hB.nv) Bg B7 B6 fun Bg B7 B6=>?_;replace hM:=hM.grownM Bc (fun e=>hB.own_K e.symm);refine gq6 Bc hOk B0 B1 B2 B3 B4 B5 fun B0 B1 B2 B3 B4 B5=>?_;have Ci:=C9.size;refine⟨⟨B0.1,B1.1,B2.1⟩,?_⟩;have D8:=Ba.base Bv rfl;have D6:=Ba.lt Bv rfl;have Cp:=Ba.lt;have hnw:=app1_blk (v:=.slice sa T.length sc) (k:=T.length+1) (c:=B8) Cc;have Bu:=fun k q=>(hnw k q).imp id (Tq (Tq Bw (Tq Bx (Tq Bm (Tq Bh C7)))))
     have Bt:(Value.slice (some ⟨Bv,0,none⟩) (T.length+1) B8).ownBlock≠some B:=fun q=>(Bu B q).elim hB.nv fun z=>absurd hBl (nn_ z)
     have hS:=A3 B0.1 B1.1 B2.1;refine wW 8 (pw B 0) 9 (pw B 1) hR hS ?_;refine wS 10 hR (sn_set (O:=B) (j:=1) (v:=sv Bv 0 (T.length+1) B8) (ex_store (p:=pw B 1) (v:=sv Bv 0 (T.length+1) B8) rfl (by kernel_rfl) (by kernel_rfl) (st40 B7.1 B7.2)) B7 ?_);intro D1 ho B7 hk;replace Bf:=Bf.turn ho (.inl (.inl rfl));refine hj2 hk Bg B6 fun Bg B6=>?_;replace hM:=hM.block (ho.heap' _ (by show K≠B;omega));refine mq3 (ho.bx O1 (by omega)) B0 B1 B2 fun B0 B1 B2=>?_;refine mq3 (ho.bx Bz (by omega)) B3 B4 B5 fun B3 B4 B5=>?_;replace Ba:=Ba.turn ho Bt (fun _ _ _ h=>by rw [h.2];exact fun b hb=>by cases hb);have Cj:=nq_ ho.size.symm;clear ho hk;refine⟨⟨B0.1,B1.1,B2.1⟩,?_⟩;refine we hL hR hK ?_;exact zl hJ [0,9,10] ⟨Bz,Bv,B8,rfl,Bf,Bg,B6,hM,B0,B1,B2,B3,B4,B5,Ba,Bu,Bt,B7,(Tq Bh (Tq C7 (Tq Ci Cj))),(Tq Bh (nq_ Br))⟩
    ·refine sn_newS (us:=#[iv e,iv (ix T a),iv (ix T b)]) (t:=56) (k:=1) (c:=1) (by kernel_rfl) ?_;intro Cf D2 Bs Cx hb hbx;have⟨Bi,Bk,Bl⟩:=bq3 hbx;clear hbx;replace Bf:=Bf.step hb;refine mv7 hb Bg B7 B6 hM hO B0 B1 fun Bg B7 B6 hM hO B0 B1=>?_;replace B2:=B2.x hb;have C8:=hb.size;clear hb;have Dg:=Bi.lt;refine⟨⟨B0.1,B1.1,B2.1⟩,?_⟩;refine wS 4 hR (sn_eff (v:=.slice sa T.length sc) (w':=D2) (ex_load rfl (by kernel_rfl) (ld40 (B7.1))) ⟨⟨B0.1,B1.1,B2.1⟩,?_⟩);have Ct:=hO.base;obtain⟨C4,Bp,Cz,C6,Bq,Ca,Be,Cd⟩:=own_app1h (P:=Tryz.prog) (ty:=40) nodT (hO) (Tq (Tq hB.lb (Nat.le_of_lt hBl)) (Tq Bw (Tq Bx (Tq Bm (Tq Bh C8))))) (k:=T.length) (Bdd.rows_len T) (O:=Cf) (c:=1) (x:=(((e:Nat):Int),ix T a,ix T b)) (d:=[iv e,iv (ix T a),iv (ix T b)]) (F:=[]) rfl (cells3 (Bi.1) (Bk.1) (Bl.1)) (by simp [Value.oneCell']) ⟨rfl,rfl⟩ (fun b hb=>by cases hb) (by omega) (by omega);refine wS 7 hR (sn_eff (v:=sv C4 0 (T.length+1) Bp) (w':=Cz) (ex_append rfl (by kernel_rfl) (by kernel_rfl) C6) ?_);replace Bf:=Bf.app Be (fun k hk=> .inl (.inr (.inr hk)));refine mq3 (fun _ _ h=>BoxAt.grownR h Be hB.nv) Bg B7 B6 fun Bg B7 B6=>?_;replace hM:=hM.grownM Be (fun e=>hB.own_K e.symm);refine gq6 Be hOk B0 B1 B2 Bi Bk Bl fun B0 B1 B2 Bi Bk Bl=>?_;have Ck:=Ca.size;refine⟨⟨B0.1,B1.1,B2.1⟩,?_⟩;have D9:=Bq.base C4 rfl;have D7:=Bq.lt C4 rfl;have Cq:=Bq.lt;have hnw:=app1_blk (v:=.slice sa T.length sc) (k:=T.length+1) (c:=Bp) Cd;have C2:=fun k q=>(hnw k q).imp id (Tq (Tq Bw (Tq Bx (Tq Bm (Tq Bh C8)))))
     have C1:(Value.slice (some ⟨C4,0,none⟩) (T.length+1) Bp).ownBlock≠some B:=fun q=>(C2 B q).elim hB.nv fun z=>absurd hBl (nn_ z)
     have hS:=A3 B0.1 B1.1 B2.1;refine wW 8 (pw B 0) 9 (pw B 1) hR hS ?_;refine wS 10 hR (sn_set (O:=B) (j:=1) (v:=sv C4 0 (T.length+1) Bp) (ex_store (p:=pw B 1) (v:=sv C4 0 (T.length+1) Bp) rfl (by kernel_rfl) (by kernel_rfl) (st40 B7.1 B7.2)) B7 ?_);intro D3 ho B7 hk;replace Bf:=Bf.turn ho (.inl (.inl rfl));refine hj2 hk Bg B6 fun Bg B6=>?_;replace hM:=hM.block (ho.heap' _ (by show K≠B;omega));refine mq3 (ho.bx O1 (by omega)) B0 B1 B2 fun B0 B1 B2=>?_;refine mq3 (ho.bx Cf (by omega)) Bi Bk Bl fun Bi Bk Bl=>?_;replace Bq:=Bq.turn ho C1 (fun _ _ _ h=>by rw [h.2];exact fun b hb=>by cases hb);have Cm:=nq_ ho.size.symm;clear ho hk;refine⟨⟨B0.1,B1.1,B2.1⟩,?_⟩;refine we hL hR hK ?_;exact zl hJ [0,9,10] ⟨Cf,C4,Bp,rfl,Bf,Bg,B6,hM,B0,B1,B2,Bi,Bk,Bl,Bq,C2,C1,B7,(Tq Bh (Tq C8 (Tq Ck Cm))),(Tq Bh (nq_ Bs))⟩
   ·clear Bf Bg B7 B6 hM hO B0 B1 B2;rintro L ws Cn ⟨Bz,Bv,B8,rfl,Bf,Bg,B6,hM,B0,B1,B2,B3,B4,B5,Ba,Bu,Bt,B7,Da,Db⟩;have C0:=er_ Cn;have Dh:=B3.lt;refine zq (dT (fun w'=>w'.cell? ⟨B,2,none⟩=some (.map (some K))∧w'.cell? ⟨O1,0,none⟩=some (iv e)∧w'.cell? ⟨O1,1,none⟩=some (iv (ix T a))∧w'.cell? ⟨O1,2,none⟩=some (iv (ix T b))) (⟨B6.1,B0.1,B1.1,B2.1⟩) (fun ops Q D4 hb hL hR hK=>?_));replace C0:=C0.trans hb;replace Bf:=Bf.step hb;refine mv9 hb Bg B6 B0 B1 B2 B3 B4 B5 Ba fun Bg B6 B0 B1 B2 B3 B4 B5 Ba=>?_;replace B7:=B7.x hb;have Dc:=hb.size;clear hb;have hS:=A4 B6.1 B0.1 B1.1 B2.1;refine wW 0 (pw B 0) 1 (pw B 0) hR hS ?_;refine wV 2 (pw B 2) hR hS ?_;refine wM 3 (.map (some K)) hR (fun w hS=>ld119 (hS.1)) hS ?_;refine wM 4 (nw e (ix T a) (ix T b)) hR (fun w hS=>ld56 (hS.2.1) (hS.2.2.1) (hS.2.2.2)) hS ?_;refine wV 5 (nv T.length) hR hS ?_;obtain⟨D5,Ch,Cb,Bo⟩:=run_update Tryz.underlying119 (hM.ext C0) nod_law (((e:Nat):Int),ix T a,ix T b) ((T.length:Nat):Int);refine wS 6 hR (sn_skp (ex_mapU rfl (by kernel_rfl) (by kernel_rfl) (by kernel_rfl) Ch) ?_);have Co:=(hM.ext C0);replace Bf:=Bf.turnM Bo (.inl (.inr (.inl rfl)));replace Bg:=(Bo.mv0).box Bg;replace B6:=(Bo.mv0).box B6;replace B0:=(Bo.mv0).box B0;replace B1:=(Bo.mv0).box B1;replace B2:=(Bo.mv0).box B2;replace B3:=(Bo.mv0).box B3;replace B4:=(Bo.mv0).box B4;replace B5:=(Bo.mv0).box B5;replace Ba:=(Bo.mv0).own Ba;replace B7:=(Bo.mv0).box B7;have Dd:D4.heap.size≤D5.heap.size:=nq_ Bo.size.symm;have Di:=Cb.lt;refine⟨⟨B6.1,B0.1,B1.1,B2.1⟩,?_⟩;refine we hL hR hK ?_;refine zq (zc (zp (pD (nv T.length) (nv T.length) ?_)));refine zn (ct_ (zR (nv T.length) ?_));have hrs:=Bdd.rows_snoc hB.cl (e:=e) ma mb;have hln:(T ++ [Bdd.D.nd e a b]).length=T.length+1:=by simp
    rw [Bdd.mk_nd hab,show Bdd.add T (.nd e a b)=T ++ [.nd e a b] from if_neg hm,Bdd.ix_new hm];refine⟨_,rfl,⟨Bf.mono fun _ q=> .inl q,Bu⟩,?_⟩;exact⟨Bg,B7,B6,(hrs ▸ Ba),⟨_,Cb,(by have hz:=hLm.snoc (x:=(((e:Nat):Int),ix T a,ix T b)) (fun q=>hm ((Bdd.row_mem hB.cl ma mb).1 q));rw [Bdd.rows_len] at hz;rw [hrs];exact hz)⟩,(hB.cl.snoc ⟨Nat.zero_le _,he,hab,ha,hb⟩ ma mb hm),Bt,hB.lb,hB.lk⟩
end Go.Proofs.YtpfajhcdfgpgmaaGreatDoor

namespace Go.Proofs.YtpfajhcdfgpgmaaGreatDoor
variable {st:Bool} {e k n:Nat}
namespace Bdd
def op (st x y:Bool):Bool:=if st then x || y else x && y
def ap (st:Bool) (n:Nat) (a b:D):D:=canon (fun s=>op st (sem a s) (sem b s)) n n 0 fun _=>false
theorem mix0 (s t:Nat→Bool):mix 0 s t=t:=by funext i;simp [mix]
theorem ap_ok0 {a b:D}:OK 0 n (ap st n a b):=canon_ok (by omega)
theorem ap_sem {a b:D} (ha:OK 0 n a) (hb:OK 0 n b) (s:Nat→Bool):sem (ap st n a b) s=op st (sem a s) (sem b s):=by
 unfold ap
 rw [canon_sem (fun s s' h=>by rw [ha.congr fun i _ hi=>h i hi,hb.congr fun i _ hi=>h i hi]) (by omega),mix0]
theorem ap_is {a b r:D} (ha:OK k n a) (hb:OK k n b) (hr:OK k n r) (h:∀s,sem r s=op st (sem a s) (sem b s)):ap st n a b=r:=
 uniq ap_ok0 (hr.mono (Nat.zero_le _)) fun s=>by rw [ap_sem (ha.mono (Nat.zero_le _)) (hb.mono (Nat.zero_le _)),h]
theorem ap_ok {a b:D} (hk:k≤n) (ha:OK k n a) (hb:OK k n b):OK k n (ap st n a b):=by
 have hc:OK k n (canon (fun s=>op st (sem a s) (sem b s)) n (n - k) k fun _=>false):=canon_ok (by omega)
 rw [ap_is ha hb hc fun s=>?_]
 · exact hc
 · rw [canon_sem (fun s s' h=>by rw [ha.congr fun i _ hi=>h i hi,hb.congr fun i _ hi=>h i hi]) (by omega),ha.congr (s:=mix k (fun _=>false) s) (s':=s) fun i hi _=>if_neg (by omega),hb.congr (s:=mix k (fun _=>false) s) (s':=s) fun i hi _=>if_neg (by omega)]
theorem ap_comm {a b:D} (ha:OK 0 n a) (hb:OK 0 n b):ap st n a b=ap st n b a:=ap_is ha hb ap_ok0 fun s=>by
 rw [ap_sem hb ha];cases st <;> simp [op,Bool.or_comm,Bool.and_comm]
theorem ap_self {a:D} (ha:OK 0 n a):ap st n a a=a:=ap_is ha ha ha fun s=>by cases st <;> simp [op]
theorem ap_strong {b:D} (hb:OK 0 n b):ap st n (.leaf st) b= .leaf st:=ap_is (k:=0) trivial hb trivial fun s=>by cases st <;> simp [op,sem]
theorem ap_weak {b:D} (hb:OK 0 n b):ap st n (.leaf (!st)) b=b:=ap_is (k:=0) trivial hb hb fun s=>by cases st <;> simp [op,sem]
theorem ap_strong2 {b:D} (hb:OK 0 n b):ap st n b (.leaf st)= .leaf st:=(ap_comm (b:=.leaf st) hb trivial).trans (ap_strong hb)
theorem ap_weak2 {b:D} (hb:OK 0 n b):ap st n b (.leaf (!st))=b:=(ap_comm (b:=.leaf (!st)) hb trivial).trans (ap_weak hb)
def ev (n:Nat):D→Nat
 | .leaf _=>n
 | .nd e _ _=>e
def noD:D→D
 | .leaf b=> .leaf b
 | .nd _ a _=>a
def yesD:D→D
 | .leaf b=> .leaf b
 | .nd _ _ b=>b
theorem ev_le:∀ {a:D},OK k n a→ev n a≤n
 | .leaf _,_=>nr_ _
 | .nd _ _ _,⟨_,h,_⟩=>Nat.le_of_lt h
theorem ev_ge (hk:k≤n):∀ {a:D},OK k n a→k≤ev n a
 | .leaf _,_=>hk
 | .nd _ _ _,⟨h,_⟩=>h
theorem ev_ok:∀ {a:D},OK k n a→OK (ev n a) n a
 | .leaf _,_=>trivial
 | .nd _ _ _,⟨_,h⟩=>⟨nr_ _,h⟩
theorem noD_mem {T:List D} (h:Cl n T):∀ {a:D},Mem T a→Mem T (noD a)
 | .leaf _,_=>trivial
 | .nd _ _ _,q=>(h.kids q).1
theorem yesD_mem {T:List D} (h:Cl n T):∀ {a:D},Mem T a→Mem T (yesD a)
 | .leaf _,_=>trivial
 | .nd _ _ _,q=>(h.kids q).2
structure Cof (n e:Nat) (T:List D) (a a0 a1:D):Prop where
 k0:OK (e+1) n a0
 k1:OK (e+1) n a1
 m0:Mem T a0
 m1:Mem T a1
 sm:∀s,sem a s=if s e then sem a1 s else sem a0 s
theorem Cof.same {T:List D} {a:D} (ha:OK k n a) (ma:Mem T a) (he:e<ev n a):Cof n e T a a a:=
 ⟨(ev_ok ha).mono he,(ev_ok ha).mono he,ma,ma,fun s=>by split <;> rfl⟩
theorem Cof.here {T:List D} (hT:Cl n T) {a:D} (ha:OK k n a) (ma:Mem T a) (he:e=ev n a) (hn:e<n):Cof n e T a (noD a) (yesD a):=by
 match a,ha,ma with
 | .leaf b,_,_=>simp only [ev] at he;omega
 | .nd f c d,ha,ma=>
  obtain⟨h1,h2,h3,h4,h5⟩:=ha
  simp only [ev] at he
  subst he
  exact⟨h4,h5,noD_mem hT ma,yesD_mem hT ma,fun s=>rfl⟩
theorem Cof.app {n e:Nat} {T:List D} {a a0 a1:D} (h:Cof n e T a a0 a1) (S:List D):Cof n e (T ++ S) a a0 a1:=⟨h.k0,h.k1,h.m0.app S,h.m1.app S,h.sm⟩
theorem ap_step {T:List D} {a b a0 a1 b0 b1:D} (hk:k≤e) (he:e<n) (ha:OK k n a) (hb:OK k n b) (ca:Cof n e T a a0 a1) (cb:Cof n e T b b0 b1):ap st n a b=mk e (ap st n a0 b0) (ap st n a1 b1):=by
 refine ap_is ha hb ((OK.mk he (ap_ok he ca.k0 cb.k0) (ap_ok he ca.k1 cb.k1)).mono hk) fun s=>?_
 rw [sem_mk,ca.sm,cb.sm,ap_sem (ca.k0.mono (Nat.zero_le _)) (cb.k0.mono (Nat.zero_le _)),ap_sem (ca.k1.mono (Nat.zero_le _)) (cb.k1.mono (Nat.zero_le _))]
 split <;> rfl
theorem subs_mk {a b x:D}:x ∈ subs a∨x ∈ subs b→x ∈ subs (mk e a b):=fun h=>by
 unfold mk
 split
 · rename_i q;subst q;exact h.elim id id
 · exact List.mem_cons_of_mem _ (List.mem_append.2 h)
def Sound (st:Bool) (n:Nat) (T:List D) (g:Int × Int→Option Int):Prop:=∀p q r,g (p,q)=some r→∃a b,Mem T a∧Mem T b∧p=ix T a∧q=ix T b∧Mem T (ap st n a b)∧r=ix T (ap st n a b)
theorem Sound.app {st:Bool} {n:Nat} {T:List D} {g:Int × Int→Option Int} (h:Sound st n T g) (S:List D):Sound st n (T ++ S) g:=fun p q r hg=>by
 obtain⟨a,b,h1,h2,h3,h4,h5,h6⟩:=h p q r hg
 exact⟨a,b,h1.app S,h2.app S,by rw [ix_app h1,h3],by rw [ix_app h2,h4],h5.app S,by rw [ix_app h5,h6]⟩
theorem Sound.find {T:List D} {g:Int × Int→Option Int} (h:Sound st n T g) (hT:Cl n T) {a b:D} (ma:Mem T a) (mb:Mem T b) {r:Int} (hg:g (min (ix T a) (ix T b),max (ix T a) (ix T b))=some r):Mem T (ap st n a b)∧r=ix T (ap st n a b):=by
  obtain⟨x,y,h1,h2,h3,h4,h5,h6⟩:=h _ _ _ hg
  rcases Int.le_total (ix T a) (ix T b) with q | q
  · rw [Int.min_eq_left q] at h3;rw [Int.max_eq_right q] at h4
    obtain rfl:=ix_inj ma h1 h3
    obtain rfl:=ix_inj mb h2 h4
    exact⟨h5,h6⟩
  · rw [Int.min_eq_right q] at h3;rw [Int.max_eq_left q] at h4
    obtain rfl:=ix_inj mb h1 h3
    obtain rfl:=ix_inj ma h2 h4
    rw [ap_comm (hT.ok ma) (hT.ok mb)]
    exact⟨h5,h6⟩
theorem Sound.put {T:List D} {g g':Int × Int→Option Int} (h:Sound st n T g) (hT:Cl n T) {a b:D} (ma:Mem T a) (mb:Mem T b) (mr:Mem T (ap st n a b)) (hg:∀x,g' x=if (min (ix T a) (ix T b),max (ix T a) (ix T b))=x then some (ix T (ap st n a b)) else g x):Sound st n T g':=fun p q r hr=>by
  rw [hg] at hr
  split at hr
  · rename_i e
    cases e;cases hr
    rcases Int.le_total (ix T a) (ix T b) with q | q
    · exact⟨a,b,ma,mb,Int.min_eq_left q,Int.max_eq_right q,mr,rfl⟩
    · exact⟨b,a,mb,ma,Int.min_eq_right q,Int.max_eq_left q,by rw [ap_comm (hT.ok mb) (hT.ok ma)];exact mr,by rw [ap_comm (hT.ok mb) (hT.ok ma)]⟩
  · exact h p q r hr
end Bdd
end Go.Proofs.YtpfajhcdfgpgmaaGreatDoor

namespace Go.Proofs.YtpfajhcdfgpgmaaGreatDoor
open Bdd (ix)
variable {B K n n0:Nat} {v:Value} {T:List Bdd.D}
set_option maxRecDepth 1000000
set_option maxHeartbeats 4000000
set_option synthInstance.maxHeartbeats 0
set_option synthInstance.maxSize 9999
open Go.RowKit
theorem look_leaf {b:Bool} (w:World) (hB:Bld w n0 B K n v T):Calls Tryz.prog 115 #[pw B 0,iv (ix T (.leaf b))] w fun e w'=>e= .returned (.agg #[nv (Bdd.ev n (.leaf b)),iv (ix T (Bdd.noD (.leaf b))),iv (ix T (Bdd.yesD (.leaf b)))])∧Ext w w':=by
 have hlf:ix T (.leaf b)<0:=by
  cases b
  · exact (show (-1:Int)<0 by decide)
  · exact (show (-2:Int)<0 by decide)
 refine cC_ 21 [(1,iv (ix T (.leaf b))),(0,pw B 0)] Tryz.func115 Tryz.ntmps115 (fun L=>?_);have hE:=er_ w;refine zc (zp (pS (sw 56 #[iv 0,iv 0,iv 0] ?_)));intro O1 X2 hzO1 hyO1 hb hbx;have⟨bO1_0,bO1_1,bO1_2⟩:=bq3 hbx;refine nv1 hb hE fun hE hs3=>?_;have lt4:=bO1_0.lt;refine zn (zc (zc (zp (pT (iv (ix T (.leaf b))) ?_))));refine pU (.bool true) (ed ((ix T (.leaf b):Int)<(0:Int)) (by omega)) ?_;refine zn (zt ?_);refine zc (zp (pD (pw B 0) (pw B 0) ?_));refine pT (pw B 0) ?_;refine pX3 (iv n) (xl (ld3 ((BoxAt.ext hE hB.b0).1))) (iv (ix T (.leaf b))) (iv (ix T (.leaf b))) (nw n (ix T (.leaf b)) (ix T (.leaf b))) ?_;refine pP (sn_setK3 (O:=O1) (j:=0) (v0:=iv n) (v1:=iv (ix T (.leaf b))) (v2:=iv (ix T (.leaf b))) (xt (pw O1 0) (nw n (ix T (.leaf b)) (ix T (.leaf b))) (st56 bO1_0.1 bO1_0.2 bO1_1.1 bO1_1.2 bO1_2.1 bO1_2.2)) bO1_0 bO1_1 bO1_2 ?_);intro X5 ho bO1_0 bO1_1 bO1_2 hk;replace hE:=ho.ext hE (nq_ hzO1);have hs6:=nq_ ho.size.symm;clear ho hk;refine zn (ct_ (qt (qw_ret [nw n (ix T (.leaf b)) (ix T (.leaf b))] rfl ⟨⟨_,by kernel_rfl,res_ld (ld56 (bO1_0.1) (bO1_1.1) (bO1_2.1))⟩,trivial⟩ ?_)));exact⟨rfl,hE⟩
theorem look_nd {i e:Nat} {a b:Bdd.D} (w:World) (hB:Bld w n0 B K n v T) (hg:T[i]? =some (.nd e a b)) (hT:T.length≤2000000000000):Calls Tryz.prog 115 #[pw B 0,iv i] w fun r w'=>r= .returned (.agg #[nv (Bdd.ev n (.nd e a b)),iv (ix T (Bdd.noD (.nd e a b))),iv (ix T (Bdd.yesD (.nd e a b)))])∧Ext w w':=by
 obtain⟨sa,sc,rfl,hsc,hc⟩:=hB.sl;have hi:=(List.getElem?_eq_some_iff.1 hg).1;obtain⟨g,rfl,hc2⟩:=hc (by omega);obtain⟨h0,h1,h2⟩:=hc2 i (Bdd.row T (.nd e a b)) (by unfold Bdd.rows;rw [List.getElem?_map,hg];rfl);have hgl:=World.block_lt_of_cell? _ _ h0;refine cC_ 21 [(1,iv i),(0,pw B 0)] Tryz.func115 Tryz.ntmps115 (fun L=>?_);have hE:=er_ w;refine zc (zp (pS (sw 56 #[iv 0,iv 0,iv 0] ?_)));intro O1 X2 hzO1 hyO1 hb hbx;have⟨bO1_0,bO1_1,bO1_2⟩:=bq3 hbx;refine nv1 hb hE fun hE hs3=>?_;have lt4:=bO1_0.lt;refine zn (zc (zc (zp (pT (iv i) ?_))));refine pU (.bool false) (en (((i:Nat):Int)<(0:Int)) (by omega)) ?_;refine zn (zf ?_);refine cs_ (zq (zc (zp (pD (pw B 0) (pw B 0) ?_))));refine pT (pw B 1) ?_;refine pUT (sv g 0 T.length sc) (xl (ld40 ((BoxAt.ext hE hB.b1).1))) (iv i) ?_;refine pU (pw g (i * 3)) (xi (sv g 0 T.length sc) (iv i) (ix40z (k:=i) (by omega))) ?_;refine pU (nw e (ix T a) (ix T b)) (xl (ld56 ((hE.cell h0)) ((hE.cell h1)) ((hE.cell h2)))) ?_;refine pP (sn_setK3 (O:=O1) (j:=0) (v0:=iv e) (v1:=iv (ix T a)) (v2:=iv (ix T b)) (xt (pw O1 0) (nw e (ix T a) (ix T b)) (st56 bO1_0.1 bO1_0.2 bO1_1.1 bO1_1.2 bO1_2.1 bO1_2.2)) bO1_0 bO1_1 bO1_2 ?_);intro X5 ho bO1_0 bO1_1 bO1_2 hk;replace hE:=ho.ext hE (nq_ hzO1);have hs6:=nq_ ho.size.symm;clear ho hk;refine zn (ct_ (qw_ret [nw e (ix T a) (ix T b)] rfl ⟨⟨_,by kernel_rfl,res_ld (ld56 (bO1_0.1) (bO1_1.1) (bO1_2.1))⟩,trivial⟩ ?_));exact⟨rfl,hE⟩
theorem look_c {t:Bdd.D} (w:World) (hB:Bld w n0 B K n v T) (ht:Bdd.Mem T t) (hT:T.length≤2000000000000):Calls Tryz.prog 115 #[.pointer (some ⟨B,0,none⟩),.int .i64 (ix T t)] w fun e w'=>e= .returned (.agg #[.int .i64 ((Bdd.ev n t:Nat):Int),.int .i64 (ix T (Bdd.noD t)),.int .i64 (ix T (Bdd.yesD t))])∧Ext w w':=by
 cases t with
 | leaf b=>exact look_leaf w hB
 | nd e a b=>
  obtain⟨i,h1,h2,h3⟩:=Bdd.ix_nd ht
  rw [h1]
  exact look_nd w hB h3 hT
end Go.Proofs.YtpfajhcdfgpgmaaGreatDoor

namespace Go.Proofs.YtpfajhcdfgpgmaaGreatDoor
open Go.RowKit
def sameD (a b:List Nat):Bool:=a.all (fun i=>b.contains i) && b.all (fun i=>a.contains i)
theorem sameD_c {a b:List Nat} (h:sameD a b=true) (i:Nat):a.contains i=b.contains i:=by
 unfold sameD at h
 rw [Bool.and_eq_true,List.all_eq_true,List.all_eq_true] at h
 rw [Bool.eq_iff_iff]
 constructor
 · intro q;exact h.1 i (by simpa using q)
 · intro q;exact h.2 i (by simpa using q)
theorem lset_same {n:Nat} {a b:List Nat} (h:sameD a b=true):lset n a=lset n b:=by
 refine Array.ext (by rw [lset_size,lset_size]) fun i h1 h2=>?_
 have e1:=lset_get n true a i
 have e2:=lset_get n true b i
 rw [sameD_c h] at e1
 have e:=e1.trans e2.symm
 rw [Array.getD_eq_getD_getElem?,Array.getD_eq_getD_getElem?,Array.getElem?_eq_getElem h1,Array.getElem?_eq_getElem h2] at e
 exact e
theorem pick_keys:∀ {ks:List Nat} {ws ws':List (Nat × Value)},pickW ws ks=some ws'→∀t,t ∈ ks→lookO ws' t=lookO ws t
  | [],_,_,_,t,ht=>by cases ht
  | k :: ks,ws,ws',h,t,ht=>by
    rw [pickW] at h
    cases e1:lookO ws k with
    | none=>rw [e1] at h;cases h
    | some u=>
      cases e2:pickW ws ks with
      | none=>rw [e1,e2] at h;cases h
      | some r=>
        rw [e1,e2] at h;cases h
        rw [lookO]
        by_cases e:t=k
        · rw [if_pos e,e,e1]
        · rw [if_neg e]
          exact pick_keys e2 t ((List.mem_cons.1 ht).resolve_left e)
theorem pick_all {L:List Value} {ks:List Nat} {ws ws':List (Nat × Value)} (hp:pickW ws ks=some ws') (ha:ws.all (fun p=>ks.contains p.1)=true):setAll L ws=setAll L ws':=by
  refine List.ext_getElem? fun t=>?_
  rw [setAll_get?,setAll_get?]
  split
  · congr 1
    by_cases h:t ∈ ks
    · exact (pick_keys hp t h).symm
    · have n1:lookO ws t=none:=by
        cases q:lookO ws t with
        | none=>rfl
        | some v=>exact absurd (by simpa using List.all_eq_true.1 ha _ (look_mem q)) h
      cases q:lookO ws' t with
      | none=>exact n1
      | some v=>rw [pick_look hp t v q] at n1;cases n1
  · rfl
section
variable {P:Program} {ops ops0:Array Oper} {Q Q':Exit→Act→World→Prop} {S:World→Prop} {L:List Value} {fuel:Nat} {done done':List Nat} {ws ws':List (Nat × Value)} {w:World} {T:List Row} {ds:List Deferred} {n:Nat}
theorem wd_same (ks:List Nat) (hd:sameD done done'=true) (hp:pickW ws ks=some ws') (ha:ws.all (fun p=>ks.contains p.1)=true) (h:WD P ops Q S L fuel done' ws' w):WD P ops Q S L fuel done ws w:=⟨fun hb=>by
 have h2:=h.out (fun p hp'=>by
  obtain⟨v,hv⟩:=mem_look hp'
  exact hb (p.1,v) (look_mem (pick_look hp _ _ hv)))
 rwa [←lset_same hd,←pick_all hp ha] at h2⟩
end
theorem wX {P:Program} {ops:Array Oper} {Q:Exit→Act→World→Prop} {S:World→Prop} {L:List Value} {fuel:Nat} {done done':List Nat} {ws ws':List (Nat × Value)} {w:World} (h:WD P ops Q S L fuel done' ws' w) (hd:sameD done done'=true:=by kernel_rfl) (hp:pickW ws (ws'.map Prod.fst)=some ws':=by kernel_rfl) (ha:ws.all (fun p=>(ws'.map Prod.fst).contains p.1)=true:=by kernel_rfl):WD P ops Q S L fuel done ws w:=wd_same _ hd hp ha h
end Go.Proofs.YtpfajhcdfgpgmaaGreatDoor

namespace Go.Proofs.YtpfajhcdfgpgmaaGreatDoor
open Bdd (ix ap noD yesD)
variable {st:Bool}
set_option maxRecDepth 1000000
set_option maxHeartbeats 4000000
set_option synthInstance.maxHeartbeats 0
set_option synthInstance.maxSize 9999
open Go.RowKit
def Bdd.stI (st:Bool):Int:=if st then -2 else -1
theorem Bdd.weak_eq (st:Bool): -3 - Bdd.stI st=Bdd.stI (!st):=by cases st <;> rfl
theorem Bdd.ev_lt {n k:Nat} {T:List Bdd.D}:∀ {a:Bdd.D},Bdd.OK k n a→¬ix T a=Bdd.stI st→¬ix T a=Bdd.stI (!st)→Bdd.ev n a<n
 | .leaf b,_,h1,h2=>by cases b <;> cases st <;> first | exact absurd rfl h1 | exact absurd rfl h2
 | .nd _ _ _,⟨_,h,_⟩,_,_=>h
structure JC (w:World) (B:Nat) (st:Bool) (S W Mb Bb J M:Nat):Prop where
 cs:BoxAt w S 0 (.int .i64 (Bdd.stI st))
 cw:BoxAt w W 0 (.int .i64 (Bdd.stI (!st)))
 cm:BoxAt w Mb 0 (.map (some M))
 cb:BoxAt w Bb 0 (.pointer (some ⟨B,0,none⟩))
 cj:BoxAt w J 0 (.func (.func 114) #[] #[.pointer (some ⟨S,0,none⟩),.pointer (some ⟨W,0,none⟩),.pointer (some ⟨Mb,0,none⟩),.pointer (some ⟨Bb,0,none⟩),.pointer (some ⟨J,0,none⟩)])
structure JX (B K:Nat) (v:Value) (S W Mb Bb J M:Nat):Prop where
 s:¬BX B K v S
 w:¬BX B K v W
 mb:¬BX B K v Mb
 b:¬BX B K v Bb
 j:¬BX B K v J
 m:¬BX B K v M
structure JR (st:Bool) (n0 B K M n:Nat) (v:Value) (w:World) (T:List Bdd.D) (a b:Bdd.D) (e:Ending) (w':World) (v':Value) (T':List Bdd.D) (L':List ((Int × Int) × Int)):Prop where
 er:e= .returned (.int .i64 (ix T' (ap st n a b)))
 bs:BS (fun k=>k=M) B K v w v' w'
 bd:Bld w' n0 B K n v' T'
 mp:MapS prV intV w' M L'
 sd:Bdd.Sound st n T' (fun x=>getM x L')
 rm:Bdd.Mem T' (ap st n a b)
 pr:∃S,T'=T ++ S
 sb:∀x ∈ T',x ∈ T∨x ∈ Bdd.subs (ap st n a b)
theorem box_map {κ β:Type} {kv:κ→Value} {vv:β→Value} {w:World} {b o:Nat} {u:Value} {l:List (κ × β)} (h:BoxAt w b o u) (hm:MapS kv vv w b l):False:=by
 obtain⟨es,c,q⟩:=hm
 obtain⟨o,ho,hc⟩:=cells_of_cell h.1
 rw [q.at_] at ho
 cases ho
 cases hc
theorem join_c:∀(mm k:Nat) {n0 B K n S W Mb Bb J M:Nat} {v:Value} {T:List Bdd.D} {Lm:List ((Int × Int) × Int)} {a b:Bdd.D} {w:World} (_hB:Bld w n0 B K n v T) (_hJ:JC w B st S W Mb Bb J M) (_hX:JX B K v S W Mb Bb J M) (_hM:MapS prV intV w M Lm) (_hd:Bdd.Sound st n T (fun x=>getM x Lm)) (_ma:Bdd.Mem T a) (_mb:Bdd.Mem T b) (_ha:Bdd.OK k n a) (_hb:Bdd.OK k n b) (_hk:k≤n) (_hm:n+1 - k≤mm) (_hT:T.length+2 ^ (n - k)≤1000000000000) (_hn:n≤16),Calls Tryz.prog 114 #[iv (ix T a),iv (ix T b),pw S 0,pw W 0,pw Mb 0,pw Bb 0,pw J 0] w fun e w'=>∃v' T' L',JR st n0 B K M n v w T a b e w' v' T' L':=by
  intro mm
  induction mm with
  | zero=>intro k n0 B K n S W Mb Bb J M v T Lm a b w hB hJ hX hM hd ma mb ha hb hk hm;omega
  | succ mm ih=>
    intro k n0 B K n S W Mb Bb J M v T Lm a b w hB hJ hX hM hd ma mb ha hb hk hm hT hn;have hlS:=(hJ.cs).lt;have hlW:=(hJ.cw).lt;have hlMb:=(hJ.cm).lt;have hlBb:=(hJ.cb).lt;have hlJ:=(hJ.cj).lt;have hlM:=hM.lt;have hlB:=hB.b0.lt;have hlK:=hB.lt K (.inr (.inl rfl));have E6:BS ((fun k=>k=M)) B K v w v w:=BS.refl _ _ _ _ _;have Cq:=hB.lt;have Mm:=hB.ge;have hS:=hJ.cs;have nSM:S≠M:=fun e=>box_map (e ▸ hS) hM
    have hW:=hJ.cw;have nWM:W≠M:=fun e=>box_map (e ▸ hW) hM
    have hMb:=hJ.cm;have nMbM:Mb≠M:=fun e=>box_map (e ▸ hMb) hM
    have hBb:=hJ.cb;have nBbM:Bb≠M:=fun e=>box_map (e ▸ hBb) hM
    have hJ:=hJ.cj;have nJM:J≠M:=fun e=>box_map (e ▸ hJ) hM
    have hTl:T.length≤1000000000000:=Tq (Nat.le_add_right _ _) hT;have hra:=Bdd.ix_rng ma;have hrb:=Bdd.ix_rng mb;have hoa:=ha.mono (Nat.zero_le k);have hob:=hb.mono (Nat.zero_le k);have K4:=hB;refine cC_ 103 [(6,pw J 0),(5,pw Bb 0),(4,pw Mb 0),(3,pw W 0),(2,pw S 0),(1,iv (ix T b)),(0,iv (ix T a))] Tryz.func114 Tryz.ntmps114 (fun L=>?_);have hE:=er_ w;refine zc (zp (pT (iv 0) ?_));refine zn (zc (cb_ ?_));refine zc (zp (pT (iv (ix T a)) ?_));refine pU (iv (Bdd.stI st)) (xl (ld3 (hS.1))) ?_
    by_cases J5:(ix T a:Int)=(Bdd.stI st:Int)
    ·
      refine pUT (.bool true) (eE (ix T a:Int) (Bdd.stI st:Int) (J5)) (.bool true) ?_;refine pK3 ?_;refine pD (.bool true) (.bool true) ?_;refine zn (cK [0,1,2,3,4,5,6,17] (fun L=>?_));refine zt ?_;refine zc (zp (pU (iv (Bdd.stI st)) (xl (ld3 (hS.1))) ?_));refine pT (iv (Bdd.stI st)) ?_;refine zn (ct_ (qb (qt (zR (iv (Bdd.stI st)) ?_))));obtain rfl:=Bdd.ix_inj (u:=.leaf st) ma trivial J5;refine⟨v,T,Lm,⟨?_,E6,hB,hM,hd,?_,⟨[],(List.append_nil T).symm⟩,fun x h=> .inl h⟩⟩
      · rw [Bdd.ap_strong hob];rfl
      · rw [Bdd.ap_strong hob];exact trivial
    ·
      refine pUD (.bool false) (eN (ix T a:Int) (Bdd.stI st:Int) (J5)) (.bool false) (iv (ix T b)) ?_;refine pU (iv (Bdd.stI st)) (xl (ld3 (hS.1))) ?_
      by_cases J6:(ix T b:Int)=(Bdd.stI st:Int)
      ·
        refine pUD (.bool true) (eE (ix T b:Int) (Bdd.stI st:Int) (J6)) (.bool true) (.bool true) ?_;refine zn (cK [0,1,2,3,4,5,6,17] (fun L=>?_));refine zt ?_;refine zc (zp (pU (iv (Bdd.stI st)) (xl (ld3 (hS.1))) ?_));refine pT (iv (Bdd.stI st)) ?_;refine zn (ct_ (qb (qt (zR (iv (Bdd.stI st)) ?_))));obtain rfl:=Bdd.ix_inj (u:=.leaf st) mb trivial J6;refine⟨v,T,Lm,⟨?_,E6,hB,hM,hd,?_,⟨[],(List.append_nil T).symm⟩,fun x h=> .inl h⟩⟩
        · rw [Bdd.ap_strong2 hoa];rfl
        · rw [Bdd.ap_strong2 hoa];exact trivial
      ·
        refine pUD (.bool false) (eN (ix T b:Int) (Bdd.stI st:Int) (J6)) (.bool false) (.bool false) ?_;refine zn (cK [0,1,2,3,4,5,6,17] (fun L=>?_));refine zf ?_;refine zc (zp (pT (iv (ix T a)) ?_));refine pU (iv (Bdd.stI (!st))) (xl (ld3 (hW.1))) ?_
        by_cases J8:(ix T a:Int)=(Bdd.stI (!st):Int)
        ·
          refine pUT (.bool true) (eE (ix T a:Int) (Bdd.stI (!st):Int) (J8)) (.bool true) ?_;refine pK3 ?_;refine pD (.bool true) (.bool true) ?_;refine zn (cK [0,1,3,4,5,6,27] (fun L=>?_));refine zt ?_;refine zc (zp (pD (iv (ix T b)) (iv (ix T b)) ?_));refine zn (ct_ (qb (qt (zR (iv (ix T b)) ?_))));obtain rfl:=Bdd.ix_inj (u:=.leaf (!st)) ma trivial J8;refine⟨v,T,Lm,⟨?_,E6,hB,hM,hd,?_,⟨[],(List.append_nil T).symm⟩,fun x h=> .inl h⟩⟩
          · rw [Bdd.ap_weak hob];rfl
          · rw [Bdd.ap_weak hob];exact mb
        ·
          refine pX3 (.bool false) (eN (ix T a:Int) (Bdd.stI (!st):Int) (J8)) (.bool false) (iv (ix T a)) (iv (ix T b)) ?_
          by_cases Kf:(ix T a:Int)=(ix T b:Int)
          ·
            refine pUD (.bool true) (eE (ix T a:Int) (ix T b:Int) (Kf)) (.bool true) (.bool true) ?_;refine zn (cK [0,1,3,4,5,6,27] (fun L=>?_));refine zt ?_;refine zc (zp (pD (iv (ix T b)) (iv (ix T b)) ?_));refine zn (ct_ (qb (qt (zR (iv (ix T b)) ?_))));obtain rfl:=Bdd.ix_inj ma mb Kf;refine⟨v,T,Lm,⟨?_,E6,hB,hM,hd,?_,⟨[],(List.append_nil T).symm⟩,fun x h=> .inl h⟩⟩
            · rw [Bdd.ap_self hoa];rfl
            · rw [Bdd.ap_self hoa];exact ma
          ·
            refine pUD (.bool false) (eN (ix T a:Int) (ix T b:Int) (Kf)) (.bool false) (.bool false) ?_;refine zn (cK [0,1,3,4,5,6,27] (fun L=>?_));refine zf ?_;refine zc (zp (pT (iv (ix T b)) ?_));refine pU (iv (Bdd.stI (!st))) (xl (ld3 (hW.1))) ?_
            by_cases J9:(ix T b:Int)=(Bdd.stI (!st):Int)
            ·
              refine pUT (.bool true) (eE (ix T b:Int) (Bdd.stI (!st):Int) (J9)) (.bool true) ?_;refine zn (zt ?_);refine zc (zp (pD (iv (ix T a)) (iv (ix T a)) ?_));refine zn (ct_ (qb (qt (zR (iv (ix T a)) ?_))));obtain rfl:=Bdd.ix_inj (u:=.leaf (!st)) mb trivial J9;refine⟨v,T,Lm,⟨?_,E6,hB,hM,hd,?_,⟨[],(List.append_nil T).symm⟩,fun x h=> .inl h⟩⟩
              · rw [Bdd.ap_weak2 hoa];rfl
              · rw [Bdd.ap_weak2 hoa];exact ma
            ·
              refine pUT (.bool false) (eN (ix T b:Int) (Bdd.stI (!st):Int) (J9)) (.bool false) ?_;refine zn (zf ?_);refine cs_ (qw_block (zq (zc (zp (pD (iv (ix T a)) (iv (ix T b)) ?_)))));refine pUD (iv (min (ix T a:Int) (ix T b:Int):Int)) (ev_int (show _=Result.ok (Next.value (Value.int .i64 (if (ix T b:Int)<(ix T a:Int) then (ix T b:Int) else (ix T a:Int)))) _ from by kernel_rfl) (by split <;> omega)) (iv (ix T a)) (iv (ix T b)) ?_;refine pUT (iv (max (ix T a:Int) (ix T b:Int):Int)) (ev_int (show _=Result.ok (Next.value (Value.int .i64 (if (ix T a:Int)<(ix T b:Int) then (ix T b:Int) else (ix T a:Int)))) _ from by kernel_rfl) (by split <;> omega)) (.agg #[iv (min (ix T a:Int) (ix T b:Int):Int),iv (max (ix T a:Int) (ix T b:Int):Int)]) ?_;refine pS (sw 53 #[iv 0,iv 0] ?_);intro O8 X9 Cu Mn hb hbx;have⟨Co,Cr⟩:=bq2 hbx;clear hbx;refine mv7 hb hB E6 hS hW hMb hBb hJ fun hB E6 hS hW hMb hBb hJ=>?_;replace hM:=hM.ext hb;have Bg:=hb.size;clear hb;have Ek:=Co.lt;refine pP (sn_set2 (O:=O8) (j:=0) (v:=iv (min (ix T a:Int) (ix T b:Int):Int)) (v':=iv (max (ix T a:Int) (ix T b:Int):Int)) (xt (pw O8 0) (.agg #[iv (min (ix T a:Int) (ix T b:Int):Int),iv (max (ix T a:Int) (ix T b:Int):Int)]) (st53 Co.1 Co.2 Cr.1 Cr.2)) Co Cr ?_);intro C8 ho Co Cr hk;replace hB:=hB.turn ho (fun q=>absurd (Cq _ q) (nn_ (nq_ Cu)));replace E6:=E6.turn ho (.inr (nq_ Cu));replace hS:=ho.box (by omega) hS;replace hW:=ho.box (by omega) hW;replace hMb:=ho.box (by omega) hMb;replace hBb:=ho.box (by omega) hBb;replace hJ:=ho.box (by omega) hJ;replace hM:=hM.block (ho.heap' _ (by omega));have Bc:=nq_ ho.size.symm;clear ho hk;refine zn (cK [0,1,4,5,6,10] (fun L=>?_));refine zc (cw_seq ?_);rcases hg:getM (min (ix T a:Int) (ix T b:Int),max (ix T a:Int) (ix T b:Int)) Lm with _ | val
              ·
                refine zp (pU (.map (some M)) (xl (ld142 (hMb.1))) ?_);refine pU (.agg #[iv (min (ix T a:Int) (ix T b:Int):Int),iv (max (ix T a:Int) (ix T b:Int):Int)]) (xl (ld53 (Co.1) (Cr.1))) ?_;refine pUD (.tuple #[iv 0,.bool false]) (ex_lookup rfl (by kernel_rfl) (by kernel_rfl) (lookup_is2 (run_lookup2 Tryz.underlying142 hM pr_law (min (ix T a:Int) (ix T b:Int),max (ix T a:Int) (ix T b:Int)) (zero_int _)) hg)) (.tuple #[iv 0,.bool false]) (iv 0) ?_;refine pD (.bool false) (iv 0) ?_;refine pT (.bool false) ?_;refine zn (zc (zp (pT (.bool false) ?_)));refine zn (cK [0,1,4,5,6,10,11,55] (fun L=>?_));refine zf ?_;refine cs_ (qw_then ?_);refine cw_seq ?_;have B0:=er_ C8;have Bq:∀W,Ext C8 W→W.cell? ⟨Bb,0,none⟩=some (pw B 0):=fun W h=>(hBb.c h)
                refine dT (fun w'=>w'.cell? ⟨Bb,0,none⟩=some (pw B 0)) (hBb.1) (fun ops Q Mu hb hL hR hK=>?_);refine nv1 hb B0 fun B0 Ec=>?_;clear hb
                have Hb:∀(C2 Bj:Nat) (Ct:World) (B0:Ext C8 Ct) (B7:BoxAt Ct C2 0 (nv (Bdd.ev n a))) (Be:BoxAt Ct C2 1 (iv (ix T (noD a)))) (Bf:BoxAt Ct C2 2 (iv (ix T (yesD a)))) (B1:BoxAt Ct Bj 0 (nv (Bdd.ev n b))) (B3:BoxAt Ct Bj 1 (iv (ix T (noD b)))) (B4:BoxAt Ct Bj 2 (iv (ix T (yesD b)))) (Bt:C8.heap.size≤Ct.heap.size) (Bw:C8.heap.size≤C2) (Bx:C8.heap.size≤Bj) (D1:Hid (C2≠Bj)),WD Tryz.prog ops Q (fun w'=>w'.cell? ⟨Bb,0,none⟩=some (pw B 0)) L 0 [0,1,2,3,4,5,6,7,8,9] [(0,iv (ix T a)),(1,iv (ix T b)),(4,pw Mb 0),(5,pw Bb 0),(6,pw J 0),(10,pw O8 0),(11,iv 0),(13,pw C2 0),(14,pw Bj 0),(55,.bool false),(57,pw B 0),(58,iv (ix T a)),(59,.agg #[nv (Bdd.ev n a),iv (ix T (noD a)),iv (ix T (yesD a))]),(60,pw B 0),(61,iv (ix T b)),(62,.agg #[nv (Bdd.ev n b),iv (ix T (noD b)),iv (ix T (yesD b))])] Ct:=by
                  clear B0;intro C2 Bj Ct B0 B7 Be Bf B1 B3 B4 Bt Bw Bx D1;have El:=B7.lt;have Em:=B1.lt;refine we hL hR hK ?_;refine zq (cK [0,1,4,5,6,10,13,14] (fun L=>?_));refine zc (zp (pT (pw C2 0) ?_));refine pUT (nv (Bdd.ev n a)) (xl (ld3 (B7.1))) (pw Bj 0) ?_;refine pU (nv (Bdd.ev n b)) (xl (ld3 (B1.1))) ?_;refine pUT (nv (min (Bdd.ev n a) (Bdd.ev n b))) (ev_int (show _=Result.ok (Next.value (Value.int .i64 (if ((Bdd.ev n b:Nat):Int)<((Bdd.ev n a:Nat):Int) then ((Bdd.ev n b:Nat):Int) else ((Bdd.ev n a:Nat):Int)))) _ from by kernel_rfl) (by split <;> omega)) (nv (min (Bdd.ev n a) (Bdd.ev n b))) ?_;refine zn (cw_seq ?_);have hea:=Bdd.ev_lt (st:=st) ha J5 J8;have heb:=Bdd.ev_lt (st:=st) hb J6 J9;have hga:=Bdd.ev_ge hk ha;have hgb:=Bdd.ev_ge hk hb;obtain⟨e,he⟩:∃e,e=min (Bdd.ev n a) (Bdd.ev n b):=⟨_,rfl⟩;rw [←he];have hen:e<n:=by omega
                  have hke:k≤e:=by omega
                  have Bu:=(hB.ext B0);have Bk:=(E6.ext B0);have Bh:=(hS.x B0);have Bi:=(hW.x B0);have B8:=(hMb.x B0);have B2:=(hBb.x B0);have Ba:=(hJ.x B0);have Bv:=(hM.ext B0);have B5:=(Co.x B0);have B6:=(Cr.x B0);refine cw_join (fun ws' wr=>∃a0:Bdd.D,∃a1:Bdd.D,ws'= [(1,iv (ix T b)),(4,pw Mb 0),(5,pw Bb 0),(6,pw J 0),(10,pw O8 0),(13,pw C2 0),(14,pw Bj 0),(15,iv e)]∧Ct.heap.size≤wr.heap.size∧Bld wr n0 B K n v T∧BS ((fun k=>k=M)) B K v w v wr∧BoxAt wr S 0 (iv (Bdd.stI st))∧BoxAt wr W 0 (iv (Bdd.stI (!st)))∧BoxAt wr Mb 0 (.map (some M))∧BoxAt wr Bb 0 (pw B 0)∧BoxAt wr J 0 (.func (.func 114) #[] #[pw S 0,pw W 0,pw Mb 0,pw Bb 0,pw J 0])∧MapS prV intV wr M Lm∧BoxAt wr O8 0 (iv (min (ix T a:Int) (ix T b:Int):Int))∧BoxAt wr O8 1 (iv (max (ix T a:Int) (ix T b:Int):Int))∧BoxAt wr Bj 0 (nv (Bdd.ev n b))∧BoxAt wr Bj 1 (iv (ix T (noD b)))∧BoxAt wr Bj 2 (iv (ix T (yesD b)))∧BoxAt wr C2 0 (iv e)∧BoxAt wr C2 1 (iv (ix T a0))∧BoxAt wr C2 2 (iv (ix T a1))∧Bdd.Cof n e T a a0 a1) (fun hJ=>?_) ?_
                  ·
                    refine zc (zp (pT (pw C2 0) ?_));refine pUT (nv (Bdd.ev n a)) (xl (ld3 (B7.1))) (iv e) ?_
                    by_cases Ft:((Bdd.ev n a:Nat):Int)>((e:Nat):Int)
                    ·
                      refine pU (.bool true) (ed (((Bdd.ev n a:Nat):Int)>((e:Nat):Int)) (Ft)) ?_;refine zn (cK [0,1,4,5,6,10,13,14,15,71] (fun L=>?_));refine zt ?_;refine zp (pD (iv e) (iv (ix T a)) ?_);refine pD (iv (ix T a)) (nw e (ix T a) (ix T a)) ?_;refine pP (sn_setK3 (O:=C2) (j:=0) (v0:=iv e) (v1:=iv (ix T a)) (v2:=iv (ix T a)) (xt (pw C2 0) (nw e (ix T a) (ix T a)) (st56 B7.1 B7.2 Be.1 Be.2 Bf.1 Bf.2)) B7 Be Bf ?_);intro Jn ho B7 Be Bf hk;replace Bu:=Bu.turn ho (fun q=>absurd (Cq _ q) (nn_ (Tq (Tq Bg Bc) Bw)));replace Bk:=Bk.turn ho (.inr (Tq (Tq Bg Bc) Bw));replace Bh:=ho.box (by omega) Bh;replace Bi:=ho.box (by omega) Bi;replace B8:=ho.box (by omega) B8;replace B2:=ho.box (by omega) B2;replace Ba:=ho.box (by omega) Ba;replace Bv:=Bv.block (ho.heap' _ (by omega));refine mq2 (ho.bx O8 (by omega)) B5 B6 fun B5 B6=>?_;refine mq3 (ho.bx _ D1.out) B1 B3 B4 fun B1 B3 B4=>?_;have I2:=nq_ ho.size.symm;clear ho hk;refine pl_nil ?_;exact zl hJ [1,4,5,6,10,13,14,15] ⟨a,a,rfl,I2,Bu,Bk,Bh,Bi,B8,B2,Ba,Bv,B5,B6,B1,B3,B4,B7,Be,Bf,(Bdd.Cof.same ha ma (by omega))⟩
                    ·
                      refine pU (.bool false) (en (((Bdd.ev n a:Nat):Int)>((e:Nat):Int)) (Ft)) ?_;refine zn (cK [0,1,4,5,6,10,13,14,15,71] (fun L=>?_));refine zf ?_;refine cs_ ?_;have E7:Bdd.ev n a=e:=by omega
                      exact zl hJ [1,4,5,6,10,13,14,15] ⟨(noD a),(yesD a),rfl,(nr_ _),Bu,Bk,Bh,Bi,B8,B2,Ba,Bv,B5,B6,B1,B3,B4,(E7 ▸ B7),Be,Bf,(Bdd.Cof.here K4.cl ha ma E7.symm hen)⟩
                  ·
                    clear Bu Bk Bh Bi B8 B2 Ba Bv B5 B6 B7 Be Bf B1 B3 B4;rintro L ws J2 ⟨a0,a1,rfl,Bl,Bu,Bk,Bh,Bi,B8,B2,Ba,Bv,B5,B6,B1,B3,B4,Ce,C9,Ca,hca⟩;refine zq (zc (cw_join (fun ws' wr=>∃b0:Bdd.D,∃b1:Bdd.D,ws'= [(4,pw Mb 0),(5,pw Bb 0),(6,pw J 0),(10,pw O8 0),(13,pw C2 0),(14,pw Bj 0),(15,iv e)]∧J2.heap.size≤wr.heap.size∧Bld wr n0 B K n v T∧BS ((fun k=>k=M)) B K v w v wr∧BoxAt wr S 0 (iv (Bdd.stI st))∧BoxAt wr W 0 (iv (Bdd.stI (!st)))∧BoxAt wr Mb 0 (.map (some M))∧BoxAt wr Bb 0 (pw B 0)∧BoxAt wr J 0 (.func (.func 114) #[] #[pw S 0,pw W 0,pw Mb 0,pw Bb 0,pw J 0])∧MapS prV intV wr M Lm∧BoxAt wr O8 0 (iv (min (ix T a:Int) (ix T b:Int):Int))∧BoxAt wr O8 1 (iv (max (ix T a:Int) (ix T b:Int):Int))∧BoxAt wr C2 0 (iv e)∧BoxAt wr C2 1 (iv (ix T a0))∧BoxAt wr C2 2 (iv (ix T a1))∧BoxAt wr Bj 0 (iv e)∧BoxAt wr Bj 1 (iv (ix T b0))∧BoxAt wr Bj 2 (iv (ix T b1))∧Bdd.Cof n e T b b0 b1) (fun hJ=>?_) ?_))
                    ·
                      refine zc (zp (pT (pw Bj 0) ?_));refine pUT (nv (Bdd.ev n b)) (xl (ld3 (B1.1))) (iv e) ?_
                      by_cases Fu:((Bdd.ev n b:Nat):Int)>((e:Nat):Int)
                      ·
                        refine pU (.bool true) (ed (((Bdd.ev n b:Nat):Int)>((e:Nat):Int)) (Fu)) ?_;refine zn (zt ?_);refine zp (pD (iv e) (iv (ix T b)) ?_);refine pD (iv (ix T b)) (nw e (ix T b) (ix T b)) ?_;refine pP (sn_setK3 (O:=Bj) (j:=0) (v0:=iv e) (v1:=iv (ix T b)) (v2:=iv (ix T b)) (xt (pw Bj 0) (nw e (ix T b) (ix T b)) (st56 B1.1 B1.2 B3.1 B3.2 B4.1 B4.2)) B1 B3 B4 ?_);intro Jo ho B1 B3 B4 hk;replace Bu:=Bu.turn ho (fun q=>absurd (Cq _ q) (nn_ (Tq (Tq Bg Bc) Bx)));replace Bk:=Bk.turn ho (.inr (Tq (Tq Bg Bc) Bx));replace Bh:=ho.box (by omega) Bh;replace Bi:=ho.box (by omega) Bi;replace B8:=ho.box (by omega) B8;replace B2:=ho.box (by omega) B2;replace Ba:=ho.box (by omega) Ba;replace Bv:=Bv.block (ho.heap' _ (by omega));refine mq2 (ho.bx O8 (by omega)) B5 B6 fun B5 B6=>?_;refine mq3 (ho.bx _ (Ne.symm D1.out)) Ce C9 Ca fun Ce C9 Ca=>?_;have I3:=nq_ ho.size.symm;clear ho hk;refine pl_nil ?_;exact zl hJ [4,5,6,10,13,14,15] ⟨b,b,rfl,I3,Bu,Bk,Bh,Bi,B8,B2,Ba,Bv,B5,B6,Ce,C9,Ca,B1,B3,B4,(Bdd.Cof.same hb mb (by omega))⟩
                      ·
                        refine pU (.bool false) (en (((Bdd.ev n b:Nat):Int)>((e:Nat):Int)) (Fu)) ?_;refine zn (zf ?_);refine cs_ ?_;have E8:Bdd.ev n b=e:=by omega
                        exact zl hJ [4,5,6,10,13,14,15] ⟨(noD b),(yesD b),rfl,(nr_ _),Bu,Bk,Bh,Bi,B8,B2,Ba,Bv,B5,B6,Ce,C9,Ca,(E8 ▸ B1),B3,B4,(Bdd.Cof.here K4.cl hb mb E8.symm hen)⟩
                    ·
                      clear Bu Bk Bh Bi B8 B2 Ba Bv B5 B6 B1 B3 B4 Ce C9 Ca;rintro L ws Mr ⟨b0,b1,rfl,Bm,Bu,Bk,Bh,Bi,B8,B2,Ba,Bv,B5,B6,Ce,C9,Ca,D3,Ck,Cm,hcb⟩;refine zq (cw_seq ?_);have Mw:2 ^ (n - (e+1)) * 2=2 ^ (n - e):=by rw [←Nat.pow_succ];congr 1;omega
                      have Mx:2 ^ (n - e)≤2 ^ (n - k):=Nat.pow_le_pow_right (by decide) (by omega);refine dT (fun w'=>w'.cell? ⟨Bb,0,none⟩=some (pw B 0)∧w'.cell? ⟨J,0,none⟩=some (.func (.func 114) #[] #[pw S 0,pw W 0,pw Mb 0,pw Bb 0,pw J 0])∧w'.cell? ⟨C2,1,none⟩=some (iv (ix T a0))∧w'.cell? ⟨Bj,1,none⟩=some (iv (ix T b0))∧w'.cell? ⟨C2,2,none⟩=some (iv (ix T a1))∧w'.cell? ⟨Bj,2,none⟩=some (iv (ix T b1))) (⟨B2.1,Ba.1,C9.1,Ck.1,Ca.1,Cm.1⟩) (fun ops Q Ml hb hL hR hK=>?_);refine nv16 hb Bu Bk Bh Bi B8 B2 Ba Bv B5 B6 Ce C9 Ca D3 Ck Cm fun Bu Bk Bh Bi B8 B2 Ba Bv B5 B6 Ce C9 Ca D3 Ck Cm Bo=>?_;clear hb;have hS:=A6 B2.1 Ba.1 C9.1 Ck.1 Ca.1 Cm.1;refine wM 0 (pw B 0) hR (fun w hS=>ld81 (hS.1)) hS ?_;refine wV 1 (iv e) hR hS ?_;refine wM 2 (.func (.func 114) #[] #[pw S 0,pw W 0,pw Mb 0,pw Bb 0,pw J 0]) hR (fun w hS=>ld38 (hS.2.1)) hS ?_;refine wV 3 (pw C2 1) hR hS ?_;refine wM 4 (iv (ix T a0)) hR (fun w hS=>ld3 (hS.2.2.1)) hS ?_;refine wV 5 (pw Bj 1) hR hS ?_;refine wM 6 (iv (ix T b0)) hR (fun w hS=>ld3 (hS.2.2.2.1)) hS ?_;refine wM 8 (.func (.func 114) #[] #[pw S 0,pw W 0,pw Mb 0,pw Bb 0,pw J 0]) hR (fun w hS=>ld38 (hS.2.1)) hS ?_;refine wV 9 (pw C2 2) hR hS ?_;refine wM 10 (iv (ix T a1)) hR (fun w hS=>ld3 (hS.2.2.2.2.1)) hS ?_;refine wV 11 (pw Bj 2) hR hS ?_;refine wM 12 (iv (ix T b1)) hR (fun w hS=>ld3 (hS.2.2.2.2.2)) hS ?_;have Hk:=ih _ Bu ⟨Bh,Bi,B8,B2,Ba⟩ ⟨hX.s,hX.w,hX.mb,hX.b,hX.j,hX.m⟩ Bv hd hca.m0 hcb.m0 hca.k0 hcb.k0 (by omega) (by omega) (by omega) hn;refine wC 7 114 #[iv (ix T a0),iv (ix T b0),pw S 0,pw W 0,pw Mb 0,pw Bb 0,pw J 0] hR ((Hk).mono ?_);rintro e Ms ⟨Mo,T9,Mj,Hs⟩;obtain⟨rfl,Br,Dq,H9,Hm,G7,⟨Cd,rfl⟩,G8⟩:=Hs;replace Bk:=Bk.trans Br;replace Bh:=Br.wr.box (fun q=>q.elim hX.s nSM) Bh;replace Bi:=Br.wr.box (fun q=>q.elim hX.w nWM) Bi;replace B8:=Br.wr.box (fun q=>q.elim hX.mb nMbM) B8;replace B2:=Br.wr.box (fun q=>q.elim hX.b nBbM) B2;replace Ba:=Br.wr.box (fun q=>q.elim hX.j nJM) Ba;have q9:=fun ⦃j:Nat⦄ ⦃v:Value⦄ (h:BoxAt _ O8 j v)=>Br.wr.box (fun q=>q.elim (fun q=>absurd (Cq _ q) (nn_ (nq_ Cu))) (by omega)) h
                      replace B5:=q9 B5;replace B6:=q9 B6;clear q9;replace Ce:=Br.wr.box (fun q=>q.elim (fun q=>absurd (Cq _ q) (nn_ (Tq (Tq Bg Bc) Bw))) (by omega)) Ce;replace C9:=Br.wr.box (fun q=>q.elim (fun q=>absurd (Cq _ q) (nn_ (Tq (Tq Bg Bc) Bw))) (by omega)) C9;replace Ca:=Br.wr.box (fun q=>q.elim (fun q=>absurd (Cq _ q) (nn_ (Tq (Tq Bg Bc) Bw))) (by omega)) Ca;replace D3:=Br.wr.box (fun q=>q.elim (fun q=>absurd (Cq _ q) (nn_ (Tq (Tq Bg Bc) Bx))) (by omega)) D3;replace Ck:=Br.wr.box (fun q=>q.elim (fun q=>absurd (Cq _ q) (nn_ (Tq (Tq Bg Bc) Bx))) (by omega)) Ck;replace Cm:=Br.wr.box (fun q=>q.elim (fun q=>absurd (Cq _ q) (nn_ (Tq (Tq Bg Bc) Bx))) (by omega)) Cm;have En:=Br.nx hX.b (by omega);have Eo:=Br.nx hX.j (by omega);have Ga:=Br.nx hX.m (by omega);have Ep:=Br.nx hX.mb (by omega);have Dv:=Br.nx (fun q=>absurd (Cq _ q) (nn_ (Tq (Tq Bg Bc) Bx))) (by omega);have Gc:=Br.nx (fun q=>absurd (Cq _ q) (nn_ (nq_ Cu))) (by omega);have Dw:=Br.nx (fun q=>absurd (Cq _ q) (nn_ (Tq (Tq Bg Bc) Bw))) (by omega);have Er:=Br.nx hX.s (by omega);have Es:=Br.nx hX.w (by omega);have C1:=Br.wr.size;have Kc:=Dq.lt;have K9:=Dq.ge;have Lf:=Bdd.sub_len (k:=e+1) Dq.cl.nd (Bdd.ap_ok hen hca.k0 hcb.k0) G8;refine⟨_,rfl,⟨B2.1,Ba.1,C9.1,Ck.1,Ca.1,Cm.1⟩,?_⟩;have Fv:=ih _ Dq ⟨Bh,Bi,B8,B2,Ba⟩ ⟨Er,Es,Ep,En,Eo,Ga⟩ H9 Hm (hca.m1.app _) (hcb.m1.app _) hca.k1 hcb.k1 (by omega) (by omega) (by omega) hn;rw [Bdd.ix_app hca.m1,Bdd.ix_app hcb.m1] at Fv;refine wC 13 114 #[iv (ix T a1),iv (ix T b1),pw S 0,pw W 0,pw Mb 0,pw Bb 0,pw J 0] hR ((Fv).mono ?_);rintro e Mt ⟨Mp,T9,Ja,Ht⟩;obtain⟨rfl,Bs,Dr,E3,Ho,I0,⟨Cf,rfl⟩,G9⟩:=Ht;replace Bk:=Bk.trans Bs;replace Bh:=Bs.wr.box (fun q=>q.elim Er nSM) Bh;replace Bi:=Bs.wr.box (fun q=>q.elim Es nWM) Bi;replace B8:=Bs.wr.box (fun q=>q.elim Ep nMbM) B8;replace B2:=Bs.wr.box (fun q=>q.elim En nBbM) B2;replace Ba:=Bs.wr.box (fun q=>q.elim Eo nJM) Ba;have q9:=fun ⦃j:Nat⦄ ⦃v:Value⦄ (h:BoxAt _ O8 j v)=>Bs.wr.box (fun q=>q.elim Gc (by omega)) h
                      replace B5:=q9 B5;replace B6:=q9 B6;clear q9;replace Ce:=Bs.wr.box (fun q=>q.elim Dw (by omega)) Ce;replace C9:=Bs.wr.box (fun q=>q.elim Dw (by omega)) C9;replace Ca:=Bs.wr.box (fun q=>q.elim Dw (by omega)) Ca;replace D3:=Bs.wr.box (fun q=>q.elim Dv (by omega)) D3;replace Ck:=Bs.wr.box (fun q=>q.elim Dv (by omega)) Ck;replace Cm:=Bs.wr.box (fun q=>q.elim Dv (by omega)) Cm;have Gd:=Bs.nx En (by omega);have Ge:=Bs.nx Eo (by omega);have Gf:=Bs.nx Ga (by omega);have Gg:=Bs.nx Ep (by omega);have Dx:=Bs.nx Dv (by omega);have Et:=Bs.nx Gc (by omega);have Dy:=Bs.nx Dw (by omega);have Gh:=Bs.nx Er (by omega);have Gi:=Bs.nx Es (by omega);have Cp:=Bs.wr.size;have Kd:=Dr.lt;have Ka:=Dr.ge;have Lg:=Bdd.sub_len (k:=e+1) Dr.cl.nd (Bdd.ap_ok hen hca.k1 hcb.k1) G9;refine⟨_,rfl,⟨B2.1,Ba.1,C9.1,Ck.1,Ca.1,Cm.1⟩,?_⟩;have Fw:=node_c (e:=e) (a:=ap st n a0 b0) (b:=ap st n a1 b1) _ Dr hen (Bdd.ap_ok hen hca.k0 hcb.k0) (Bdd.ap_ok hen hca.k1 hcb.k1) (G7.app _) I0 (by simp only [List.length_append] at *;omega) hn;rw [Bdd.ix_app G7] at Fw;refine wC 14 88 #[pw B 0,iv e,iv (ix (T ++ Cd) (ap st n a0 b0)),iv (ix ((T ++ Cd) ++ Cf) (ap st n a1 b1))] hR ((Fw).mono ?_);rintro e Kx ⟨Mq,rfl,Bp,D4⟩;replace Bk:=Bk.trans Bp.no;replace Bh:=Bp.o Gh Bh;replace Bi:=Bp.o Gi Bi;replace B8:=Bp.o Gg B8;replace B2:=Bp.o Gd B2;replace Ba:=Bp.o Ge Ba;refine mq2 (Bp.o Et) B5 B6 fun B5 B6=>?_;refine mq3 (Bp.o Dy) Ce C9 Ca fun Ce C9 Ca=>?_;refine mq3 (Bp.o Dx) D3 Ck Cm fun D3 Ck Cm=>?_;replace E3:=Bp.wr.map (fun q=>q.elim Gf id) E3;have Ma:=Bp.nx Gd (by omega);have Mc:=Bp.nx Ge (by omega);have J1:=Bp.nx Gf (by omega);have Md:=Bp.nx Gg (by omega);have Me:=Bp.nx Dx (by omega);have Mf:=Bp.nx Et (by omega);have Mg:=Bp.nx Dy (by omega);have Mh:=Bp.nx Gh (by omega);have Mi:=Bp.nx Gi (by omega);have Li:=Bp.wr.size;have Ke:=D4.lt;have Kb:=D4.ge;have hS:=A6 B2.1 Ba.1 C9.1 Ck.1 Ca.1 Cm.1;refine⟨_,rfl,hS,?_⟩;refine wV 15 (iv (ix (Bdd.add ((T ++ Cd) ++ Cf) (Bdd.mk e (ap st n a0 b0) (ap st n a1 b1))) (Bdd.mk e (ap st n a0 b0) (ap st n a1 b1)))) hR hS ?_;refine we hL hR hK ?_;refine zq (cK [4,10,16] (fun L=>?_));refine zc (zp (pU (.map (some M)) (xl (ld142 (B8.1))) ?_));refine pUT (.agg #[iv (min (ix T a:Int) (ix T b:Int):Int),iv (max (ix T a:Int) (ix T b:Int):Int)]) (xl (ld53 (B5.1) (B6.1))) (iv (ix (Bdd.add ((T ++ Cd) ++ Cf) (Bdd.mk e (ap st n a0 b0) (ap st n a1 b1))) (Bdd.mk e (ap st n a0 b0) (ap st n a1 b1)))) ?_;obtain⟨Jp,I1,Fx,C7⟩:=run_update Tryz.underlying142 E3 pr_law (min (ix T a:Int) (ix T b:Int),max (ix T a:Int) (ix T b:Int)) (ix (Bdd.add ((T ++ Cd) ++ Cf) (Bdd.mk e (ap st n a0 b0) (ap st n a1 b1))) (Bdd.mk e (ap st n a0 b0) (ap st n a1 b1)):Int);refine pP (sn_skp (ex_mapU rfl (by kernel_rfl) (by kernel_rfl) (by kernel_rfl) I1) ?_);replace Bk:=Bk.turnM C7 (.inl (rfl));replace Bh:=(C7.mv0).box Bh;replace Bi:=(C7.mv0).box Bi;replace B8:=(C7.mv0).box B8;replace B2:=(C7.mv0).box B2;replace Ba:=(C7.mv0).box Ba;replace B5:=(C7.mv0).box B5;replace B6:=(C7.mv0).box B6;replace Ce:=(C7.mv0).box Ce;replace C9:=(C7.mv0).box C9;replace Ca:=(C7.mv0).box Ca;replace D3:=(C7.mv0).box D3;replace Ck:=(C7.mv0).box Ck;replace Cm:=(C7.mv0).box Cm;replace D4:=D4.turnM C7 J1;have Lj:Kx.heap.size≤Jp.heap.size:=nq_ C7.size.symm;have Lk:=Fx.lt;refine zn (zc (zp (pD (iv (ix (Bdd.add ((T ++ Cd) ++ Cf) (Bdd.mk e (ap st n a0 b0) (ap st n a1 b1))) (Bdd.mk e (ap st n a0 b0) (ap st n a1 b1)))) (iv (ix (Bdd.add ((T ++ Cd) ++ Cf) (Bdd.mk e (ap st n a0 b0) (ap st n a1 b1))) (Bdd.mk e (ap st n a0 b0) (ap st n a1 b1)))) ?_)));refine zn (ct_ (zR (iv (ix (Bdd.add ((T ++ Cd) ++ Cf) (Bdd.mk e (ap st n a0 b0) (ap st n a1 b1))) (Bdd.mk e (ap st n a0 b0) (ap st n a1 b1)))) ?_));have hst:=Bdd.ap_step (st:=st) hke hen ha hb hca hcb
                      have hmm:=Bdd.add_mem (T ++ Cd ++ Cf) (Bdd.mk e (ap st n a0 b0) (ap st n a1 b1));obtain⟨S9,Dz⟩:=Bdd.add_pre (T ++ Cd ++ Cf) (Bdd.mk e (ap st n a0 b0) (ap st n a1 b1));have Lh:=Ho.app S9;rw [←Dz] at Lh;have Ki:ix (Bdd.add (T ++ Cd ++ Cf) (Bdd.mk e (ap st n a0 b0) (ap st n a1 b1))) a=ix T a:=by rw [Dz,List.append_assoc,List.append_assoc];exact Bdd.ix_app ma
                      have Kg:Bdd.Mem (Bdd.add (T ++ Cd ++ Cf) (Bdd.mk e (ap st n a0 b0) (ap st n a1 b1))) a:=by rw [Dz,List.append_assoc,List.append_assoc];exact ma.app _
                      have Kj:ix (Bdd.add (T ++ Cd ++ Cf) (Bdd.mk e (ap st n a0 b0) (ap st n a1 b1))) b=ix T b:=by rw [Dz,List.append_assoc,List.append_assoc];exact Bdd.ix_app mb
                      have Kh:Bdd.Mem (Bdd.add (T ++ Cd ++ Cf) (Bdd.mk e (ap st n a0 b0) (ap st n a1 b1))) b:=by rw [Dz,List.append_assoc,List.append_assoc];exact mb.app _
                      refine⟨_,_,_,⟨by rw [hst];rfl,Bk,D4,Fx,?_,by rw [hst];exact hmm,⟨Cd ++ Cf ++ S9,by rw [Dz];simp [List.append_assoc]⟩,?_⟩⟩
                      · have z9:=Lh.put D4.cl (a:=a) (b:=b) Kg Kh (by rw [hst];exact hmm) (g':=fun x=>getM x (updM (min (ix T a:Int) (ix T b:Int),max (ix T a:Int) (ix T b:Int)) (ix (Bdd.add ((T ++ Cd) ++ Cf) (Bdd.mk e (ap st n a0 b0) (ap st n a1 b1))) (Bdd.mk e (ap st n a0 b0) (ap st n a1 b1)):Int) Ja)) (fun x=>by
                          show getM x _=_
                          rw [getM_updM,hst,Ki,Kj])
                        exact z9
                      · intro x hx
                        rw [hst];rcases Bdd.add_sub hx with q | q
                        · rcases G9 x q with q | q
                          · exact (G8 x q).imp id fun q=>Bdd.subs_mk (.inl q)
                          · exact .inr (Bdd.subs_mk (.inr q))
                        · exact .inr q
                have Ha:∀(C2 Bj:Nat) (Cy:World) (B0:Ext C8 Cy) (B1:BoxAt Cy Bj 0 (iv 0)) (B3:BoxAt Cy Bj 1 (iv 0)) (B4:BoxAt Cy Bj 2 (iv 0)) (B7:BoxAt Cy C2 0 (nv (Bdd.ev n a))) (Be:BoxAt Cy C2 1 (iv (ix T (noD a)))) (Bf:BoxAt Cy C2 2 (iv (ix T (yesD a)))) (G5:C8.heap.size≤Cy.heap.size) (G6:C8.heap.size≤C2) (Ea:C8.heap.size≤Bj) (Dd:Hid (C2≠Bj)),WD Tryz.prog ops Q (fun w'=>w'.cell? ⟨Bb,0,none⟩=some (pw B 0)) L 1 [0,1,2,3,4,5,6,7,8] [(0,iv (ix T a)),(1,iv (ix T b)),(4,pw Mb 0),(5,pw Bb 0),(6,pw J 0),(10,pw O8 0),(11,iv 0),(13,pw C2 0),(14,pw Bj 0),(55,.bool false),(57,pw B 0),(58,iv (ix T a)),(59,.agg #[nv (Bdd.ev n a),iv (ix T (noD a)),iv (ix T (yesD a))]),(60,pw B 0),(61,iv (ix T b)),(62,.agg #[nv (Bdd.ev n b),iv (ix T (noD b)),iv (ix T (yesD b))])] Cy:=by
                  clear B0;intro C2 Bj Cy B0 B1 B3 B4 B7 Be Bf G5 G6 Ea Dd;have Ll:=B1.lt;have Ln:=B7.lt;refine wS 9 hR (sn_setK3 (O:=Bj) (j:=0) (v0:=nv (Bdd.ev n b)) (v1:=iv (ix T (noD b))) (v2:=iv (ix T (yesD b))) (ex_store (p:=pw Bj 0) (v:=.agg #[nv (Bdd.ev n b),iv (ix T (noD b)),iv (ix T (yesD b))]) rfl (by kernel_rfl) (by kernel_rfl) (st56 B1.1 B1.2 B3.1 B3.2 B4.1 B4.2)) B1 B3 B4 ?_);intro H7 ho B1 B3 B4 hk;replace B0:=ho.ext B0 Ea;refine mq3 (ho.bx _ (Ne.symm Dd.out)) B7 Be Bf fun B7 Be Bf=>?_;have I4:=nq_ ho.size.symm;clear ho hk;refine⟨(Bq _ B0),?_⟩;exact wX (Hb C2 Bj H7 B0 (B7) (Be) (Bf) (B1) (B3) (B4) (Tq G5 I4) G6 Ea (Lib.hid Dd.out))
                have E5:∀(C2 Bj:Nat) (Cx:World) (B0:Ext C8 Cx) (B7:BoxAt Cx C2 0 (iv 0)) (Be:BoxAt Cx C2 1 (iv 0)) (Bf:BoxAt Cx C2 2 (iv 0)) (B1:BoxAt Cx Bj 0 (iv 0)) (B3:BoxAt Cx Bj 1 (iv 0)) (B4:BoxAt Cx Bj 2 (iv 0)) (G3:C8.heap.size≤Cx.heap.size) (E9:C8.heap.size≤C2) (G4:C8.heap.size≤Bj) (Dc:Hid (C2≠Bj)),WD Tryz.prog ops Q (fun w'=>w'.cell? ⟨Bb,0,none⟩=some (pw B 0)) L 2 [0,1,2,3,4,5,6,7] [(0,iv (ix T a)),(1,iv (ix T b)),(4,pw Mb 0),(5,pw Bb 0),(6,pw J 0),(10,pw O8 0),(11,iv 0),(13,pw C2 0),(14,pw Bj 0),(55,.bool false),(57,pw B 0),(58,iv (ix T a)),(59,.agg #[nv (Bdd.ev n a),iv (ix T (noD a)),iv (ix T (yesD a))]),(60,pw B 0),(61,iv (ix T b)),(62,.agg #[nv (Bdd.ev n b),iv (ix T (noD b)),iv (ix T (yesD b))])] Cx:=by
                  clear B0;intro C2 Bj Cx B0 B7 Be Bf B1 B3 B4 G3 E9 G4 Dc;have Lp:=B7.lt;have Lq:=B1.lt;refine wS 8 hR (sn_setK3 (O:=C2) (j:=0) (v0:=nv (Bdd.ev n a)) (v1:=iv (ix T (noD a))) (v2:=iv (ix T (yesD a))) (ex_store (p:=pw C2 0) (v:=.agg #[nv (Bdd.ev n a),iv (ix T (noD a)),iv (ix T (yesD a))]) rfl (by kernel_rfl) (by kernel_rfl) (st56 B7.1 B7.2 Be.1 Be.2 Bf.1 Bf.2)) B7 Be Bf ?_);intro H8 ho B7 Be Bf hk;replace B0:=ho.ext B0 E9;refine mq3 (ho.bx _ Dc.out) B1 B3 B4 fun B1 B3 B4=>?_;have I5:=nq_ ho.size.symm;clear ho hk;refine⟨(Bq _ B0),?_⟩;exact wX (Ha C2 Bj H8 B0 (B1) (B3) (B4) (B7) (Be) (Bf) (Tq G3 I5) E9 G4 (Lib.hid Dc.out))
                have Hh:∀(C2:Nat) (Gp:World) (B0:Ext C8 Gp) (B7:BoxAt Gp C2 0 (iv 0)) (Be:BoxAt Gp C2 1 (iv 0)) (Bf:BoxAt Gp C2 2 (iv 0)) (Gw:C8.heap.size≤Gp.heap.size) (Hz:C8.heap.size≤C2),WD Tryz.prog ops Q (fun w'=>w'.cell? ⟨Bb,0,none⟩=some (pw B 0)) L 3 [0,1,2,3,4,5,6] [(0,iv (ix T a)),(1,iv (ix T b)),(4,pw Mb 0),(5,pw Bb 0),(6,pw J 0),(10,pw O8 0),(11,iv 0),(13,pw C2 0),(55,.bool false),(57,pw B 0),(58,iv (ix T a)),(59,.agg #[nv (Bdd.ev n a),iv (ix T (noD a)),iv (ix T (yesD a))]),(60,pw B 0),(61,iv (ix T b)),(62,.agg #[nv (Bdd.ev n b),iv (ix T (noD b)),iv (ix T (yesD b))])] Gp:=by
                  clear B0;intro C2 Gp B0 B7 Be Bf Gw Hz;have Iu:=B7.lt;refine wN 7 56 #[iv 0,iv 0,iv 0] hR ?_;intro Jb Jq Ee Kk hb hbx;have⟨De,Ew,Ey⟩:=bq3 hbx;clear hbx;refine nv4 hb B0 B7 Be Bf fun B0 B7 Be Bf I6=>?_;clear hb;have Lr:=De.lt;refine⟨(Bq _ B0),?_⟩;exact wX (E5 C2 Jb Jq B0 (B7) (Be) (Bf) (De) (Ew) (Ey) (Tq Gw I6) Hz (Tq Gw (nq_ Ee)) (Lib.hid (by omega)))
                have Hj:∀(Gj:Nat) (Gq:World) (B0:Ext C8 Gq) (D0:BoxAt Gq Gj 0 (iv 0)) (D7:BoxAt Gq Gj 1 (iv 0)) (D8:BoxAt Gq Gj 2 (iv 0)) (Gx:C8.heap.size≤Gq.heap.size) (Fy:C8.heap.size≤Gj),WD Tryz.prog ops Q (fun w'=>w'.cell? ⟨Bb,0,none⟩=some (pw B 0)) L 3 [0,1,2,3,4,5,7] [(0,iv (ix T a)),(1,iv (ix T b)),(4,pw Mb 0),(5,pw Bb 0),(6,pw J 0),(10,pw O8 0),(11,iv 0),(14,pw Gj 0),(55,.bool false),(57,pw B 0),(58,iv (ix T a)),(59,.agg #[nv (Bdd.ev n a),iv (ix T (noD a)),iv (ix T (yesD a))]),(60,pw B 0),(61,iv (ix T b)),(62,.agg #[nv (Bdd.ev n b),iv (ix T (noD b)),iv (ix T (yesD b))])] Gq:=by
                  clear B0;intro Gj Gq B0 D0 D7 D8 Gx Fy;have Iv:=D0.lt;refine wN 6 56 #[iv 0,iv 0,iv 0] hR ?_;intro Jc Jr Ef Kl hb hbx;have⟨Df,Ez,F0⟩:=bq3 hbx;clear hbx;refine nv4 hb B0 D0 D7 D8 fun B0 D0 D7 D8 I7=>?_;clear hb;have Lt:=Df.lt;refine⟨(Bq _ B0),?_⟩;exact wX (E5 Jc Gj Jr B0 (Df) (Ez) (F0) (D0) (D7) (D8) (Tq Gx I7) (Tq Gx (nq_ Ef)) Fy (Lib.hid (by omega)))
                have E4:∀(Db D9:Nat) (D2:World) (B0:Ext C8 D2) (C0:BoxAt D2 Db 0 (iv 0)) (C5:BoxAt D2 Db 1 (iv 0)) (C6:BoxAt D2 Db 2 (iv 0)) (Cn:BoxAt D2 D9 0 (iv 0)) (Cv:BoxAt D2 D9 1 (iv 0)) (Cw:BoxAt D2 D9 2 (iv 0)) (Fz:C8.heap.size≤D2.heap.size) (G0:C8.heap.size≤Db) (G1:C8.heap.size≤D9) (G2:Hid (Db≠D9)),WD Tryz.prog ops Q (fun w'=>w'.cell? ⟨Bb,0,none⟩=some (pw B 0)) L 3 [0,1,2,3,4,6,7] [(0,iv (ix T a)),(1,iv (ix T b)),(4,pw Mb 0),(5,pw Bb 0),(6,pw J 0),(10,pw O8 0),(11,iv 0),(13,pw Db 0),(14,pw D9 0),(55,.bool false),(57,pw B 0),(58,iv (ix T a)),(59,.agg #[nv (Bdd.ev n a),iv (ix T (noD a)),iv (ix T (yesD a))]),(60,pw B 0),(61,iv (ix T b))] D2:=by
                  clear B0;intro Db D9 D2 B0 C0 C5 C6 Cn Cv Cw Fz G0 G1 G2;have Lu:=C0.lt;have Lv:=Cn.lt;refine wC 5 115 #[pw B 0,iv (ix T b)] hR ((look_c _ (hB.ext B0) mb (Tq hTl (by decide))).mono ?_);rintro e Ky ⟨rfl,hb⟩;refine nv7 hb B0 C0 C5 C6 Cn Cv Cw fun B0 C0 C5 C6 Cn Cv Cw I8=>?_;clear hb;refine⟨_,rfl,Bq _ B0,?_⟩;exact wX (E5 Db D9 Ky B0 (C0) (C5) (C6) (Cn) (Cv) (Cw) (Tq Fz I8) G0 G1 (Lib.hid G2.out))
                have K8:∀(J4:World) (B0:Ext C8 J4) (Eb:C8.heap.size≤J4.heap.size),WD Tryz.prog ops Q (fun w'=>w'.cell? ⟨Bb,0,none⟩=some (pw B 0)) L 4 [0,1,2,3,4,5] [(0,iv (ix T a)),(1,iv (ix T b)),(4,pw Mb 0),(5,pw Bb 0),(6,pw J 0),(10,pw O8 0),(11,iv 0),(55,.bool false),(57,pw B 0),(58,iv (ix T a)),(59,.agg #[nv (Bdd.ev n a),iv (ix T (noD a)),iv (ix T (yesD a))]),(60,pw B 0),(61,iv (ix T b)),(62,.agg #[nv (Bdd.ev n b),iv (ix T (noD b)),iv (ix T (yesD b))])] J4:=by
                  clear B0;intro J4 B0 Eb;refine zw 6 7 hR ?_ ?_
                  ·
                    refine sw 56 #[iv 0,iv 0,iv 0] ?_;intro Jd Js Gy Km hb hbx;have⟨Dg,F1,F2⟩:=bq3 hbx;clear hbx;refine nv1 hb B0 fun B0 I9=>?_;clear hb;have Lw:=Dg.lt;refine⟨(Bq _ B0),?_⟩;exact wX (Hh Jd Js B0 (Dg) (F1) (F2) (Tq Eb I9) (Tq Eb (nq_ Gy)))
                  ·
                    refine sw 56 #[iv 0,iv 0,iv 0] ?_;intro Je Jt Gz Kn hb hbx;have⟨Dh,F3,F4⟩:=bq3 hbx;clear hbx;refine nv1 hb B0 fun B0 Ia=>?_;clear hb;have Lx:=Dh.lt;refine⟨(Bq _ B0),?_⟩;exact wX (Hj Je Jt B0 (Dh) (F3) (F4) (Tq Eb Ia) (Tq Eb (nq_ Gz)))
                have Hc:∀(Db:Nat) (Gm:World) (B0:Ext C8 Gm) (C0:BoxAt Gm Db 0 (iv 0)) (C5:BoxAt Gm Db 1 (iv 0)) (C6:BoxAt Gm Db 2 (iv 0)) (Fo:C8.heap.size≤Gm.heap.size) (Gu:C8.heap.size≤Db),WD Tryz.prog ops Q (fun w'=>w'.cell? ⟨Bb,0,none⟩=some (pw B 0)) L 4 [0,1,2,3,4,6] [(0,iv (ix T a)),(1,iv (ix T b)),(4,pw Mb 0),(5,pw Bb 0),(6,pw J 0),(10,pw O8 0),(11,iv 0),(13,pw Db 0),(55,.bool false),(57,pw B 0),(58,iv (ix T a)),(59,.agg #[nv (Bdd.ev n a),iv (ix T (noD a)),iv (ix T (yesD a))]),(60,pw B 0),(61,iv (ix T b))] Gm:=by
                  clear B0;intro Db Gm B0 C0 C5 C6 Fo Gu;have Iw:=C0.lt;refine zw 5 7 hR ?_ ?_
                  ·
                    refine sc 115 #[pw B 0,iv (ix T b)] ((look_c _ (hB.ext B0) mb (Tq hTl (by decide))).mono ?_);rintro e Kz ⟨rfl,hb⟩;refine nv4 hb B0 C0 C5 C6 fun B0 C0 C5 C6 Ib=>?_;clear hb;refine⟨_,rfl,Bq _ B0,?_⟩;exact wX (Hh Db Kz B0 (C0) (C5) (C6) (Tq Fo Ib) Gu)
                  ·
                    refine sw 56 #[iv 0,iv 0,iv 0] ?_;intro Jf Ju Eg Ko hb hbx;have⟨Di,F5,F6⟩:=bq3 hbx;clear hbx;refine nv4 hb B0 C0 C5 C6 fun B0 C0 C5 C6 Ic=>?_;clear hb;have Ly:=Di.lt;refine⟨(Bq _ B0),?_⟩;exact wX (E4 Db Jf Ju B0 (C0) (C5) (C6) (Di) (F5) (F6) (Tq Fo Ic) Gu (Tq Fo (nq_ Eg)) (Lib.hid (by omega)))
                have He:∀(Fr:Nat) (Gn:World) (B0:Ext C8 Gn) (Cc:BoxAt Gn Fr 0 (iv 0)) (Ci:BoxAt Gn Fr 1 (iv 0)) (Cj:BoxAt Gn Fr 2 (iv 0)) (Fp:C8.heap.size≤Gn.heap.size) (Gv:C8.heap.size≤Fr),WD Tryz.prog ops Q (fun w'=>w'.cell? ⟨Bb,0,none⟩=some (pw B 0)) L 4 [0,1,2,3,4,7] [(0,iv (ix T a)),(1,iv (ix T b)),(4,pw Mb 0),(5,pw Bb 0),(6,pw J 0),(10,pw O8 0),(11,iv 0),(14,pw Fr 0),(55,.bool false),(57,pw B 0),(58,iv (ix T a)),(59,.agg #[nv (Bdd.ev n a),iv (ix T (noD a)),iv (ix T (yesD a))]),(60,pw B 0),(61,iv (ix T b))] Gn:=by
                  clear B0;intro Fr Gn B0 Cc Ci Cj Fp Gv;have Iy:=Cc.lt;refine zw 5 6 hR ?_ ?_
                  ·
                    refine sc 115 #[pw B 0,iv (ix T b)] ((look_c _ (hB.ext B0) mb (Tq hTl (by decide))).mono ?_);rintro e L4 ⟨rfl,hb⟩;refine nv4 hb B0 Cc Ci Cj fun B0 Cc Ci Cj Ie=>?_;clear hb;refine⟨_,rfl,Bq _ B0,?_⟩;exact wX (Hj Fr L4 B0 (Cc) (Ci) (Cj) (Tq Fp Ie) Gv)
                  ·
                    refine sw 56 #[iv 0,iv 0,iv 0] ?_;intro Jg Jv Eh Kq hb hbx;have⟨Dj,F7,F8⟩:=bq3 hbx;clear hbx;refine nv4 hb B0 Cc Ci Cj fun B0 Cc Ci Cj Ig=>?_;clear hb;have Lz:=Dj.lt;refine⟨(Bq _ B0),?_⟩;exact wX (E4 Jg Fr Jv B0 (Dj) (F7) (F8) (Cc) (Ci) (Cj) (Tq Fp Ig) (Tq Fp (nq_ Eh)) Gv (Lib.hid (by omega)))
                have Hg:∀(Da Fs:Nat) (Eu:World) (B0:Ext C8 Eu) (Bz:BoxAt Eu Da 0 (iv 0)) (C3:BoxAt Eu Da 1 (iv 0)) (C4:BoxAt Eu Da 2 (iv 0)) (Cz:BoxAt Eu Fs 0 (iv 0)) (D5:BoxAt Eu Fs 1 (iv 0)) (D6:BoxAt Eu Fs 2 (iv 0)) (Hu:C8.heap.size≤Eu.heap.size) (Hw:C8.heap.size≤Da) (Hx:C8.heap.size≤Fs) (Hy:Hid (Da≠Fs)),WD Tryz.prog ops Q (fun w'=>w'.cell? ⟨Bb,0,none⟩=some (pw B 0)) L 4 [0,1,3,4,6,7] [(0,iv (ix T a)),(1,iv (ix T b)),(4,pw Mb 0),(5,pw Bb 0),(6,pw J 0),(10,pw O8 0),(11,iv 0),(13,pw Da 0),(14,pw Fs 0),(55,.bool false),(57,pw B 0),(58,iv (ix T a)),(60,pw B 0),(61,iv (ix T b))] Eu:=by
                  clear B0;intro Da Fs Eu B0 Bz C3 C4 Cz D5 D6 Hu Hw Hx Hy;have M0:=Bz.lt;have M1:=Cz.lt;refine wC 2 115 #[pw B 0,iv (ix T a)] hR ((look_c _ (hB.ext B0) ma (Tq hTl (by decide))).mono ?_);rintro e L7 ⟨rfl,hb⟩;refine nv7 hb B0 Bz C3 C4 Cz D5 D6 fun B0 Bz C3 C4 Cz D5 D6 Ih=>?_;clear hb;refine⟨_,rfl,Bq _ B0,?_⟩;exact wX (E4 Da Fs L7 B0 (Bz) (C3) (C4) (Cz) (D5) (D6) (Tq Hu Ih) Hw Hx (Lib.hid Hy.out))
                have K5:∀(J3:World) (B0:Ext C8 J3) (E0:C8.heap.size≤J3.heap.size),WD Tryz.prog ops Q (fun w'=>w'.cell? ⟨Bb,0,none⟩=some (pw B 0)) L 5 [0,1,2,3,4] [(0,iv (ix T a)),(1,iv (ix T b)),(4,pw Mb 0),(5,pw Bb 0),(6,pw J 0),(10,pw O8 0),(11,iv 0),(55,.bool false),(57,pw B 0),(58,iv (ix T a)),(59,.agg #[nv (Bdd.ev n a),iv (ix T (noD a)),iv (ix T (yesD a))]),(60,pw B 0),(61,iv (ix T b))] J3:=by
                  clear B0;intro J3 B0 E0;refine wd_three 5 6 7 hR rfl rfl rfl (by kernel_rfl) (by kernel_rfl) (by kernel_rfl) (by kernel_rfl) (by kernel_rfl) ?_ ?_ ?_
                  ·
                    refine sc 115 #[pw B 0,iv (ix T b)] ((look_c _ (hB.ext B0) mb (Tq hTl (by decide))).mono ?_);rintro e L8 ⟨rfl,hb⟩;refine nv1 hb B0 fun B0 Ii=>?_;clear hb;refine⟨_,rfl,Bq _ B0,?_⟩;exact wX (K8 L8 B0 (Tq E0 Ii))
                  ·
                    refine sw 56 #[iv 0,iv 0,iv 0] ?_;intro Jh Jw H3 Kr hb hbx;have⟨Dk,F9,Fa⟩:=bq3 hbx;clear hbx;refine nv1 hb B0 fun B0 Ij=>?_;clear hb;have M2:=Dk.lt;refine⟨(Bq _ B0),?_⟩;exact wX (Hc Jh Jw B0 (Dk) (F9) (Fa) (Tq E0 Ij) (Tq E0 (nq_ H3)))
                  ·
                    refine sw 56 #[iv 0,iv 0,iv 0] ?_;intro Ji Jy H4 Ks hb hbx;have⟨Dl,Fb,Fc⟩:=bq3 hbx;clear hbx;refine nv1 hb B0 fun B0 Ik=>?_;clear hb;have M3:=Dl.lt;refine⟨(Bq _ B0),?_⟩;exact wX (He Ji Jy B0 (Dl) (Fb) (Fc) (Tq E0 Ik) (Tq E0 (nq_ H4)))
                have K6:∀(Da:Nat) (Gk:World) (B0:Ext C8 Gk) (Bz:BoxAt Gk Da 0 (iv 0)) (C3:BoxAt Gk Da 1 (iv 0)) (C4:BoxAt Gk Da 2 (iv 0)) (Fl:C8.heap.size≤Gk.heap.size) (Gr:C8.heap.size≤Da),WD Tryz.prog ops Q (fun w'=>w'.cell? ⟨Bb,0,none⟩=some (pw B 0)) L 5 [0,1,3,4,6] [(0,iv (ix T a)),(1,iv (ix T b)),(4,pw Mb 0),(5,pw Bb 0),(6,pw J 0),(10,pw O8 0),(11,iv 0),(13,pw Da 0),(55,.bool false),(57,pw B 0),(58,iv (ix T a)),(60,pw B 0),(61,iv (ix T b))] Gk:=by
                  clear B0;intro Da Gk B0 Bz C3 C4 Fl Gr;have Iz:=Bz.lt;refine zw 2 7 hR ?_ ?_
                  ·
                    refine sc 115 #[pw B 0,iv (ix T a)] ((look_c _ (hB.ext B0) ma (Tq hTl (by decide))).mono ?_);rintro e La ⟨rfl,hb⟩;refine nv4 hb B0 Bz C3 C4 fun B0 Bz C3 C4 Il=>?_;clear hb;refine⟨_,rfl,Bq _ B0,?_⟩;exact wX (Hc Da La B0 (Bz) (C3) (C4) (Tq Fl Il) Gr)
                  ·
                    refine sw 56 #[iv 0,iv 0,iv 0] ?_;intro Jj Jz Ei Kt hb hbx;have⟨Dm,Fd,Fe⟩:=bq3 hbx;clear hbx;refine nv4 hb B0 Bz C3 C4 fun B0 Bz C3 C4 Im=>?_;clear hb;have M4:=Dm.lt;refine⟨(Bq _ B0),?_⟩;exact wX (Hg Da Jj Jz B0 (Bz) (C3) (C4) (Dm) (Fd) (Fe) (Tq Fl Im) Gr (Tq Fl (nq_ Ei)) (Lib.hid (by omega)))
                have K7:∀(Fq:Nat) (Gl:World) (B0:Ext C8 Gl) (Cb:BoxAt Gl Fq 0 (iv 0)) (Cg:BoxAt Gl Fq 1 (iv 0)) (Ch:BoxAt Gl Fq 2 (iv 0)) (Fm:C8.heap.size≤Gl.heap.size) (Gt:C8.heap.size≤Fq),WD Tryz.prog ops Q (fun w'=>w'.cell? ⟨Bb,0,none⟩=some (pw B 0)) L 5 [0,1,3,4,7] [(0,iv (ix T a)),(1,iv (ix T b)),(4,pw Mb 0),(5,pw Bb 0),(6,pw J 0),(10,pw O8 0),(11,iv 0),(14,pw Fq 0),(55,.bool false),(57,pw B 0),(58,iv (ix T a)),(60,pw B 0),(61,iv (ix T b))] Gl:=by
                  clear B0;intro Fq Gl B0 Cb Cg Ch Fm Gt;have J0:=Cb.lt;refine zw 2 6 hR ?_ ?_
                  ·
                    refine sc 115 #[pw B 0,iv (ix T a)] ((look_c _ (hB.ext B0) ma (Tq hTl (by decide))).mono ?_);rintro e Lb ⟨rfl,hb⟩;refine nv4 hb B0 Cb Cg Ch fun B0 Cb Cg Ch Io=>?_;clear hb;refine⟨_,rfl,Bq _ B0,?_⟩;exact wX (He Fq Lb B0 (Cb) (Cg) (Ch) (Tq Fm Io) Gt)
                  ·
                    refine sw 56 #[iv 0,iv 0,iv 0] ?_;intro Jk K0 Ej Ku hb hbx;have⟨Dn,Ff,Fg⟩:=bq3 hbx;clear hbx;refine nv4 hb B0 Cb Cg Ch fun B0 Cb Cg Ch Ip=>?_;clear hb;have M6:=Dn.lt;refine⟨(Bq _ B0),?_⟩;exact wX (Hg Jk Fq K0 B0 (Dn) (Ff) (Fg) (Cb) (Cg) (Ch) (Tq Fm Ip) (Tq Fm (nq_ Ej)) Gt (Lib.hid (by omega)))
                have hS:=Bq _ B0;refine wM 0 (pw B 0) hR (fun w hS=>ld81 (hS)) hS ?_;refine wV 1 (iv (ix T a)) hR hS ?_;refine wM 3 (pw B 0) hR (fun w hS=>ld81 (hS)) hS ?_;refine wV 4 (iv (ix T b)) hR hS ?_;refine wd_three 2 6 7 hR rfl rfl rfl (by kernel_rfl) (by kernel_rfl) (by kernel_rfl) (by kernel_rfl) (by kernel_rfl) ?_ ?_ ?_
                ·
                  refine sc 115 #[pw B 0,iv (ix T a)] ((look_c _ (hB.ext B0) ma (Tq hTl (by decide))).mono ?_);rintro e Lc ⟨rfl,hb⟩;refine nv1 hb B0 fun B0 Iq=>?_;clear hb;refine⟨_,rfl,Bq _ B0,?_⟩;exact wX (K5 Lc B0 (Tq Ec Iq))
                ·
                  refine sw 56 #[iv 0,iv 0,iv 0] ?_;intro Jl K1 H5 Kv hb hbx;have⟨Do,Fh,Fi⟩:=bq3 hbx;clear hbx;refine nv1 hb B0 fun B0 Ir=>?_;clear hb;have M7:=Do.lt;refine⟨(Bq _ B0),?_⟩;exact wX (K6 Jl K1 B0 (Do) (Fh) (Fi) (Tq Ec Ir) (Tq Ec (nq_ H5)))
                ·
                  refine sw 56 #[iv 0,iv 0,iv 0] ?_;intro Jm K3 H6 Kw hb hbx;have⟨Dp,Fj,Fk⟩:=bq3 hbx;clear hbx;refine nv1 hb B0 fun B0 It=>?_;clear hb;have M9:=Dp.lt;refine⟨(Bq _ B0),?_⟩;exact wX (K7 Jm K3 B0 (Dp) (Fj) (Fk) (Tq Ec It) (Tq Ec (nq_ H6)))
              ·
                refine zp (pU (.map (some M)) (xl (ld142 (hMb.1))) ?_);refine pU (.agg #[iv (min (ix T a:Int) (ix T b:Int):Int),iv (max (ix T a:Int) (ix T b:Int):Int)]) (xl (ld53 (Co.1) (Cr.1))) ?_;refine pUD (.tuple #[iv val,.bool true]) (ex_lookup rfl (by kernel_rfl) (by kernel_rfl) (lookup_is2 (run_lookup2 Tryz.underlying142 hM pr_law (min (ix T a:Int) (ix T b:Int),max (ix T a:Int) (ix T b:Int)) (zero_int _)) hg)) (.tuple #[iv val,.bool true]) (iv val) ?_;refine pD (.bool true) (iv val) ?_;refine pT (.bool true) ?_;refine zn (zc (zp (pT (.bool true) ?_)));refine zn (cK [0,1,4,5,6,10,11,55] (fun L=>?_));refine zt ?_;refine zc (zp (pD (iv val) (iv val) ?_));refine zn (ct_ (qt (zR (iv val) ?_)));have hfd:=hd.find K4.cl ma mb hg;obtain rfl:=hfd.2;refine⟨v,T,Lm,⟨?_,E6,hB,hM,hd,?_,⟨[],(List.append_nil T).symm⟩,fun x h=> .inl h⟩⟩
                · rfl
                · exact hfd.1
end Go.Proofs.YtpfajhcdfgpgmaaGreatDoor

namespace Go.Proofs.YtpfajhcdfgpgmaaGreatDoor
open Bdd (ix ap stI)
variable {w w':World} {B Bb J K M Mb S W n n0:Nat} {st:Bool} {v:Value} {T:List Bdd.D} {a b:Bdd.D}
set_option maxRecDepth 1000000
set_option maxHeartbeats 4000000
set_option synthInstance.maxHeartbeats 0
set_option synthInstance.maxSize 9999
open Go.RowKit
theorem JC.wr {X:Nat→Prop} (h:JC w B st S W Mb Bb J M) (t:Wr X w w') (h1:¬X S) (h2:¬X W) (h3:¬X Mb) (h4:¬X Bb) (h5:¬X J):JC w' B st S W Mb Bb J M:=⟨t.box h1 h.cs,t.box h2 h.cw,t.box h3 h.cm,t.box h4 h.cb,t.box h5 h.cj⟩
theorem JC.ext {w w':World} {B:Nat} {st:Bool} {S W Mb Bb J M:Nat} (h:JC w B st S W Mb Bb J M) (e:Ext w w'):JC w' B st S W Mb Bb J M:=⟨BoxAt.ext e h.cs,BoxAt.ext e h.cw,BoxAt.ext e h.cm,BoxAt.ext e h.cb,BoxAt.ext e h.cj⟩
instance {w w':World} {B:Nat} {st:Bool} {S W Mb Bb J M:Nat}:MvC w w' (JC w B st S W Mb Bb J M) (JC w' B st S W Mb Bb J M):=⟨fun e h=>h.ext e⟩
theorem Bdd.stI_rng (st:Bool): -2≤stI st∧stI st≤ -1:=by cases st <;> decide
theorem joined_c (B:Nat) (st:Bool) (w:World):Calls Tryz.prog 102 #[pw B 0,iv (stI st)] w fun e w'=>∃S W Mb Bb J M,e= .returned (.func (.func 114) #[] #[pw S 0,pw W 0,pw Mb 0,pw Bb 0,pw J 0])∧JC w' B st S W Mb Bb J M∧MapS prV intV w' M []∧w.heap.size≤S∧w.heap.size≤W∧w.heap.size≤Mb∧w.heap.size≤Bb∧w.heap.size≤J∧w.heap.size≤M∧Ext w w':=by
 have hst:=Bdd.stI_rng st;refine cC_ 13 [(1,iv (stI st)),(0,pw B 0)] Tryz.func102 Tryz.ntmps102 (fun L=>?_);have hE:=er_ w;refine zc (zp (pS (sw 81 #[pw B 0] ?_)));intro O1 X2 Br C8 hb hbx;have B0:=bq1 hbx;refine nv1 hb hE fun hE Bk=>?_;have Bu:=B0.lt;refine pS (sw 3 #[iv (stI st)] ?_);intro O5 X6 Bs C9 hb hbx;have B1:=bq1 hbx;refine nv2 hb hE B0 fun hE B0 Bg=>?_;have Bv:=B1.lt;refine pT (Value.nilFunc) ?_;refine zn (zc (zp (pU (iv (stI st)) (xl (ld3 (B1.1))) ?_)));refine pU (iv ((-3) - (stI st):Int)) (ew (by omega) (by omega)) ?_;refine pS (sw 3 #[iv 0] ?_);intro O9 C0 Bj Ca hb hbx;have B2:=bq1 hbx;refine nv3 hb hE B0 B1 fun hE B0 B1 Bc=>?_;have Bo:=B2.lt;refine pP (zE O9 0 (iv ((-3) - (stI st):Int)) (st3 B2.1 B2.2) B2 ?_);intro C1 ho B2 hk;replace hE:=ho.ext hE (Tq (Tq Bk Bg) (nq_ Bj));replace B0:=ho.box (by omega) B0;replace B1:=ho.box (by omega) B1;have B5:=nq_ ho.size.symm;clear ho hk;refine zn (zc (zp (pS (sn_map prV intV (by kernel_rfl) ?_))));intro Bq Cc hO hOs hb B7;have Bm:=hO;have Bw:=hOs;clear hO hOs;refine nv4 hb hE B0 B1 B2 fun hE B0 B1 B2 B8=>?_;have Bp:=B7.lt;refine pS (sw 142 #[.map none] ?_);intro Bh C2 Ba Bx hb hbx;have B3:=bq1 hbx;refine nv5 hb hE B0 B1 B2 B7 fun hE B0 B1 B2 B7 Bf=>?_;have Bt:=B3.lt;refine pP (zE Bh 0 (.map (some Bq)) (st142 B3.1 B3.2) B3 ?_);intro C3 ho B3 hk;replace hE:=ho.ext hE (by omega);replace B0:=ho.box (by omega) B0;replace B1:=ho.box (by omega) B1;replace B2:=ho.box (by omega) B2;replace B7:=B7.block (ho.heap' _ (by omega));have Be:=nq_ ho.size.symm;clear ho hk;refine zn (zc (zp (pS (sw 38 #[.nilFunc] ?_))));intro Bi C4 B6 Bz hb hbx;have B4:=bq1 hbx;refine nv6 hb hE B0 B1 B2 B7 B3 fun hE B0 B1 B2 B7 B3 C6=>?_;have Cb:=B4.lt;refine zn (zc (zp (pT (.func (.func 114) #[] #[pw O5 0,pw O9 0,pw Bh 0,pw O1 0,pw Bi 0]) ?_)));refine pP (zE Bi 0 (.func (.func 114) #[] #[pw O5 0,pw O9 0,pw Bh 0,pw O1 0,pw Bi 0]) (st38 B4.1 B4.2) B4 ?_);intro C5 ho B4 hk;replace hE:=ho.ext hE (by omega);replace B0:=ho.box (by omega) B0;replace B1:=ho.box (by omega) B1;replace B2:=ho.box (by omega) B2;replace B7:=B7.block (ho.heap' _ (by omega));replace B3:=ho.box (by omega) B3;have C7:=nq_ ho.size.symm;clear ho hk;refine zn (zc (zp (pU (.func (.func 114) #[] #[pw O5 0,pw O9 0,pw Bh 0,pw O1 0,pw Bi 0]) (xl (ld38 (B4.1))) ?_)));refine pT (.func (.func 114) #[] #[pw O5 0,pw O9 0,pw Bh 0,pw O1 0,pw Bi 0]) ?_;refine zn (ct_ (zR (.func (.func 114) #[] #[pw O5 0,pw O9 0,pw Bh 0,pw O1 0,pw Bi 0]) ?_));exact⟨O5,O9,Bh,O1,Bi,Bq,rfl,⟨B1,(Bdd.weak_eq st ▸ B2),B3,B0,B4⟩,B7,(Tq Bk (nq_ Bs)),(Tq (Tq Bk Bg) (nq_ Bj)),(by omega),(nq_ Br),(by omega),(by omega),hE⟩
theorem and_c (w:World) (hB:Bld w n0 B K n v T) (ma:Bdd.Mem T a) (mb:Bdd.Mem T b) (hT:T.length+2 ^ n≤1000000000000) (hn:n≤16):Calls Tryz.prog 83 #[pw B 0,iv (ix T a),iv (ix T b)] w fun e w'=>∃v' T',e= .returned (iv (ix T' (ap false n a b)))∧BS No B K v w v' w'∧Bld w' n0 B K n v' T'∧Bdd.Mem T' (ap false n a b)∧(∃S,T'=T ++ S)∧∀x ∈ T',x ∈ T∨x ∈ Bdd.subs (ap false n a b):=by
 have hS9:BS No B K v w v w:=BS.refl _ _ _ _ _;have hXl1:=hB.lt;have hXg2:=hB.ge;refine cC_ 12 [(2,iv (ix T b)),(1,iv (ix T a)),(0,pw B 0)] Tryz.func83 Tryz.ntmps83 (fun L=>?_);have hE:=er_ w;refine zc (zp (pT (iv 0) ?_));refine zn (zc (zp (pT (pw B 0) ?_)));refine pS (sc 102 #[pw B 0,iv (-1:Int)] ((joined_c _ false _).mono ?_));rintro e w17 ⟨S3,W4,Mb5,Bb6,J7,M8,rfl,hJC9,hM10,hlo11,hlo12,hlo13,hlo14,hlo15,hlo16,hb⟩;refine nv2 hb hB hS9 fun hB hS9 hs18=>?_;have hl19:=hJC9.cs.lt;have hl20:=hJC9.cw.lt;have hl21:=hJC9.cm.lt;have hl22:=hJC9.cb.lt;have hl23:=hJC9.cj.lt;have hl24:=hM10.lt;have hX25:=er_ w17;refine⟨_,rfl,pD (iv (ix T a)) (iv (ix T b)) ?_⟩;have hc32:=join_c (st:=false) _ 0 hB hJC9 ⟨(fun q=>absurd (hXl1 _ q) (nn_ hlo11)),(fun q=>absurd (hXl1 _ q) (nn_ hlo12)),(fun q=>absurd (hXl1 _ q) (nn_ hlo13)),(fun q=>absurd (hXl1 _ q) (nn_ hlo14)),(fun q=>absurd (hXl1 _ q) (nn_ hlo15)),(fun q=>absurd (hXl1 _ q) (nn_ hlo16))⟩ hM10 (fun _ _ _ q=>by cases q) ma mb (hB.cl.ok ma) (hB.cl.ok mb) (Nat.zero_le _) (nr_ _) hT hn;have hJCt33:=hJC9;have hMt34:=hM10;refine pS (sc 114 #[iv (ix T a),iv (ix T b),pw S3 0,pw W4 0,pw Mb5 0,pw Bb6 0,pw J7 0] ((hc32).mono ?_));rintro e w35 ⟨v26,T9,L28,hj29⟩;obtain⟨rfl,hs30,hB31,_,_,hr9,⟨S27,rfl⟩,hx9⟩:=hj29;replace hS9:=(BS.mono (Z:=No) (hS9.no.trans hs30) (fun k q=> .inr ((show k=M8 from q) ▸ hlo16)));have hs36:=hs30.wr.size;have hXl37:=hB31.lt;have hXg38:=hB31.ge;refine⟨_,rfl,pT (iv (ix (T ++ S27) (ap false n a b))) ?_⟩;refine zn (ct_ (zR (iv (ix (T ++ S27) (ap false n a b))) ?_));exact⟨_,_,rfl,hS9,hB31,hr9,⟨_,rfl⟩,hx9⟩
theorem or_c (w:World) (hB:Bld w n0 B K n v T) (ma:Bdd.Mem T a) (mb:Bdd.Mem T b) (hT:T.length+2 ^ n≤1000000000000) (hn:n≤16):Calls Tryz.prog 79 #[pw B 0,iv (ix T a),iv (ix T b)] w fun e w'=>∃v' T',e= .returned (iv (ix T' (ap true n a b)))∧BS No B K v w v' w'∧Bld w' n0 B K n v' T'∧Bdd.Mem T' (ap true n a b)∧(∃S,T'=T ++ S)∧∀x ∈ T',x ∈ T∨x ∈ Bdd.subs (ap true n a b):=by
 have hS9:BS No B K v w v w:=BS.refl _ _ _ _ _;have hXl1:=hB.lt;have hXg2:=hB.ge;refine cC_ 12 [(2,iv (ix T b)),(1,iv (ix T a)),(0,pw B 0)] Tryz.func79 Tryz.ntmps79 (fun L=>?_);have hE:=er_ w;refine zc (zp (pT (iv 0) ?_));refine zn (zc (zp (pT (pw B 0) ?_)));refine pS (sc 102 #[pw B 0,iv (-2:Int)] ((joined_c _ true _).mono ?_));rintro e w17 ⟨S3,W4,Mb5,Bb6,J7,M8,rfl,hJC9,hM10,hlo11,hlo12,hlo13,hlo14,hlo15,hlo16,hb⟩;refine nv2 hb hB hS9 fun hB hS9 hs18=>?_;have hl19:=hJC9.cs.lt;have hl20:=hJC9.cw.lt;have hl21:=hJC9.cm.lt;have hl22:=hJC9.cb.lt;have hl23:=hJC9.cj.lt;have hl24:=hM10.lt;have hX25:=er_ w17;refine⟨_,rfl,pD (iv (ix T a)) (iv (ix T b)) ?_⟩;have hc32:=join_c (st:=true) _ 0 hB hJC9 ⟨(fun q=>absurd (hXl1 _ q) (nn_ hlo11)),(fun q=>absurd (hXl1 _ q) (nn_ hlo12)),(fun q=>absurd (hXl1 _ q) (nn_ hlo13)),(fun q=>absurd (hXl1 _ q) (nn_ hlo14)),(fun q=>absurd (hXl1 _ q) (nn_ hlo15)),(fun q=>absurd (hXl1 _ q) (nn_ hlo16))⟩ hM10 (fun _ _ _ q=>by cases q) ma mb (hB.cl.ok ma) (hB.cl.ok mb) (Nat.zero_le _) (nr_ _) hT hn;have hJCt33:=hJC9;have hMt34:=hM10;refine pS (sc 114 #[iv (ix T a),iv (ix T b),pw S3 0,pw W4 0,pw Mb5 0,pw Bb6 0,pw J7 0] ((hc32).mono ?_));rintro e w35 ⟨v26,T9,L28,hj29⟩;obtain⟨rfl,hs30,hB31,_,_,hr9,⟨S27,rfl⟩,hx9⟩:=hj29;replace hS9:=(BS.mono (Z:=No) (hS9.no.trans hs30) (fun k q=> .inr ((show k=M8 from q) ▸ hlo16)));have hs36:=hs30.wr.size;have hXl37:=hB31.lt;have hXg38:=hB31.ge;refine⟨_,rfl,pT (iv (ix (T ++ S27) (ap true n a b))) ?_⟩;refine zn (ct_ (zR (iv (ix (T ++ S27) (ap true n a b))) ?_));exact⟨_,_,rfl,hS9,hB31,hr9,⟨_,rfl⟩,hx9⟩
end Go.Proofs.YtpfajhcdfgpgmaaGreatDoor

namespace Go.Proofs.YtpfajhcdfgpgmaaGreatDoor
variable {e i:Nat} {E S s:Int} {f:Nat→Int}
namespace Bdd
abbrev Row:=Int × Int × Int
def rwN (N:List Row) (i:Nat):Row:=N[i]?.getD (0,0,0)
theorem rwN_at {N:List Row} (h:i<N.length):N[i]? =some (rwN N i):=by unfold rwN;rw [List.getElem?_eq_getElem h];rfl
def dat (ds:List D) (s:Int):D:=if s= -1 then .leaf false else if s<0 then .leaf true else ds[s.toNat]?.getD (.leaf false)
def dens (N:List Row):List D:=N.foldl (fun ds x=>ds ++ [mk x.1.toNat (dat ds x.2.1) (dat ds x.2.2)]) []
theorem dens_snoc (N:List Row) (x:Row):dens (N ++ [x])=dens N ++ [mk x.1.toNat (dat (dens N) x.2.1) (dat (dens N) x.2.2)]:=by unfold dens;rw [List.foldl_append];rfl
theorem dens_step {N:List Row} (h:i<N.length):dens (N.take (i+1))=dens (N.take i) ++ [mk (rwN N i).1.toNat (dat (dens (N.take i)) (rwN N i).2.1) (dat (dens (N.take i)) (rwN N i).2.2)]:=by
 rw [List.take_add_one,rwN_at h];exact dens_snoc _ _
theorem dens_len:∀(N:List Row),(dens N).length=N.length:=fun N=>by
 suffices h:∀k,k≤N.length→(dens (N.take k)).length=k by have:=h N.length (nr_ _);rwa [List.take_length] at this
 intro k
 induction k with
 | zero=>intro _;rfl
 | succ k ih=>intro hk;rw [dens_step hk,List.length_append,ih (by omega)];rfl
def okN (E:Int) (N:List Row) (i:Nat):Prop:=
 ((-2≤(rwN N i).2.1∧(rwN N i).2.1≤(i:Int) - 1)∧(0≤(rwN N i).2.1→(rwN N i).1<(rwN N (rwN N i).2.1.toNat).1))∧((-2≤(rwN N i).2.2∧(rwN N i).2.2≤(i:Int) - 1)∧(0≤(rwN N i).2.2→(rwN N i).1<(rwN N (rwN N i).2.2.toNat).1))∧(0≤(rwN N i).1∧(rwN N i).1≤E - 1)∧(rwN N i).2.1≠(rwN N i).2.2
instance (E:Int) (N:List Row) (i:Nat):Decidable (okN E N i):=by unfold okN;infer_instance
structure Str (E S:Int) (N:List Row):Prop where
 e:0≤E∧E≤16
 l:N.length≤2000
 s: -2≤S∧S≤(N.length:Int) - 1
 n:∀i,i<N.length→okN E N i
instance (E S:Int) (N:List Row):Decidable (Str E S N):=
 decidable_of_iff ((0≤E∧E≤16)∧N.length≤2000∧(-2≤S∧S≤(N.length:Int) - 1)∧∀i,i<N.length→okN E N i) ⟨fun h=>⟨h.1,h.2.1,h.2.2.1,h.2.2.2⟩,fun h=>⟨h.e,h.l,h.s,h.n⟩⟩
def tree (S:Int) (N:List Row):D:=dat (dens N) S
theorem dat_nd {ds:List D} {s:Nat}:dat ds (s:Int)=ds[s]?.getD (.leaf false):=by
 unfold dat;rw [if_neg (by omega),if_neg (by omega),Int.toNat_natCast]
theorem dens_ok {N:List Row} (h:Str E S N):∀ {k:Nat},k≤N.length→∀ {i:Nat},i<k→OK (rwN N i).1.toNat E.toNat ((dens (N.take k))[i]?.getD (.leaf false)):=fun {k}=>by
  induction k with
  | zero=>intro _ i hi;omega
  | succ k ih=>
    intro hk i hi
    have ih:=fun {i}=>ih (by omega) (i:=i)
    have hl:(dens (N.take k)).length=k:=by rw [dens_len,List.length_take];omega
    rw [dens_step hk]
    rcases Nat.lt_or_ge i k with q | q
    · rw [List.getElem?_append_left (by omega)];exact ih q
    · obtain rfl:i=k:=by omega
      rw [List.getElem?_append_right (by omega),hl,Nat.sub_self]
      obtain⟨⟨a1,a2⟩,⟨b1,b2⟩,⟨c1,c2⟩,d⟩:=h.n i hk
      have lv:∀s:Int, -2≤s→s≤(i:Int) - 1→(0≤s→(rwN N i).1<(rwN N s.toNat).1)→OK ((rwN N i).1.toNat+1) E.toNat (dat (dens (N.take i)) s):=fun s h1 h2 h3=>by
        unfold dat
        split
        · trivial
        · split
          · trivial
          · have:=h3 (by omega)
            exact (ih (i:=s.toNat) (by omega)).mono (by omega)
      exact OK.mk (by omega) (lv _ a1.1 a1.2 a2) (lv _ b1.1 b1.2 b2)
end Bdd
namespace Bdd
def dn (N:List Row) (i j:Nat):D:=(dens (N.take i))[j]?.getD (.leaf false)
theorem dn_old {N:List Row} {j:Nat} (hi:i<N.length) (hj:j<i):dn N (i+1) j=dn N i j:=by
 unfold dn;rw [dens_step hi,List.getElem?_append_left (by rw [dens_len,List.length_take];omega)]
theorem dn_new {N:List Row} (hi:i<N.length):dn N (i+1) i=mk (rwN N i).1.toNat (dat (dens (N.take i)) (rwN N i).2.1) (dat (dens (N.take i)) (rwN N i).2.2):=by
 have hl:(dens (N.take i)).length=i:=by rw [dens_len,List.length_take];omega
 unfold dn;rw [dens_step hi,List.getElem?_append_right (by omega),hl,Nat.sub_self];rfl
structure Ld (T0:List D) (N:List Row) (i:Nat) (T:List D) (f:Nat→Int):Prop where
 p:∃S,T=T0 ++ S
 l:T.length≤T0.length+i
 m:∀j,j<i→Mem T (dn N i j)∧f j=ix T (dn N i j)
theorem Ld.zero (T0:List D) (N:List Row) (f:Nat→Int):Ld T0 N 0 T0 f:=⟨⟨[],(List.append_nil _).symm⟩,nr_ _,fun j h=>absurd h (Nat.not_lt_zero j)⟩
theorem Ld.step {T0:List D} {N:List Row} {T:List D} {f':Nat→Int} (h:Ld T0 N i T f) (hi:i<N.length) (he:(rwN N i).1=(e:Int)) {t:D} (ht:t=Bdd.mk e (dat (dens (N.take i)) (rwN N i).2.1) (dat (dens (N.take i)) (rwN N i).2.2)) (hf:∀j,f' j=if j=i then ix (add T t) t else f j):Ld T0 N (i+1) (add T t) f':=by
  have hn:dn N (i+1) i=t:=by rw [dn_new hi,he,ht];rfl
  obtain⟨S,hS⟩:=add_pre T t
  obtain⟨S0,hS0⟩:=h.p
  refine⟨⟨S0 ++ S,by rw [hS,hS0,List.append_assoc]⟩,?_,fun j hj=>?_⟩
  · have:=h.l
    unfold add;split
    · omega
    · rw [List.length_append];simp only [List.length_singleton];omega
  · rcases Nat.lt_or_ge j i with q | q
    · rw [dn_old hi q,hf,if_neg (by omega)]
      obtain⟨h1,h2⟩:=h.m j q
      rw [hS]
      exact⟨h1.app S,by rw [ix_app h1];exact h2⟩
    · obtain rfl:j=i:=by omega
      rw [hn,hf,if_pos rfl]
      exact⟨add_mem T t,rfl⟩
theorem Ld.mem {T0:List D} {N:List Row} {T:List D} (h:Ld T0 N i T f) (h2:s≤(i:Int) - 1):Mem T (dat (dens (N.take i)) s):=by
  unfold dat
  split
  · trivial
  · split
    · trivial
    · exact (h.m s.toNat (by omega)).1
theorem Ld.neg {N:List Row} {T:List D} (h1: -2≤s) (h2:s<0):s=ix T (dat (dens (N.take i)) s):=by
 have:s= -1∨s= -2:=by omega
 rcases this with rfl | rfl <;> rfl
theorem Ld.pos {T0:List D} {N:List Row} {T:List D} (h:Ld T0 N i T f) {s:Nat} (h2:s<i):f s=ix T (dat (dens (N.take i)) (s:Int)):=by
 rw [dat_nd];exact (h.m s h2).2
theorem dat_ok {N:List Row} (h:Str E S N) {k:Nat} (hk:k≤N.length) (h2:s≤(k:Int) - 1) {l:Nat} (hl:0≤s→l≤(rwN N s.toNat).1.toNat):OK l E.toNat (dat (dens (N.take k)) s):=by
  unfold dat
  split
  · trivial
  · split
    · trivial
    · exact (dens_ok h hk (i:=s.toNat) (by omega)).mono (hl (by omega))
theorem tree_ok {N:List Row} (h:Str E S N):OK 0 E.toNat (tree S N):=by
 have:=dat_ok h (nr_ _) h.s.2 (l:=0) (fun _=>Nat.zero_le _)
 rwa [List.take_length] at this
theorem Str.lev {N:List Row} (h:Str E S N) (hi:i<N.length) (he:(rwN N i).1=(e:Int)):e<E.toNat∧OK (e+1) E.toNat (dat (dens (N.take i)) (rwN N i).2.1)∧OK (e+1) E.toNat (dat (dens (N.take i)) (rwN N i).2.2):=by
 obtain⟨⟨a1,a2⟩,⟨b1,b2⟩,⟨c1,c2⟩,d⟩:=h.n i hi
 exact⟨by omega,dat_ok h (Nat.le_of_lt hi) a1.2 fun q=>by have:=a2 q;omega,dat_ok h (Nat.le_of_lt hi) b1.2 fun q=>by have:=b2 q;omega⟩
def validB (E S:Int) (N:List Row):Bool:=decide (Str E S N∧start (tree S N)=S∧nodes (tree S N)=N)
theorem valid_iff {N:List Row}:validB E S N=true↔Str E S N∧start (tree S N)=S∧nodes (tree S N)=N:=decide_eq_true_iff
end Bdd
end Go.Proofs.YtpfajhcdfgpgmaaGreatDoor

namespace Go.Proofs.YtpfajhcdfgpgmaaGreatDoor
open Go.RowKit
def ArrAt (w:World) (B n:Nat) (f:Nat→Int):Prop:=0<n∧∀k,k<n→BoxAt w B k (.int .i64 (f k))
theorem ArrAt.at {w:World} {B n:Nat} {f:Nat→Int} (h:ArrAt w B n f) {k:Nat} (hk:k<n):BoxAt w B k (.int .i64 (f k)):=h.2 k hk
theorem ArrAt.ext {w w':World} {B n:Nat} {f:Nat→Int} (h:ArrAt w B n f) (hE:Ext w w'):ArrAt w' B n f:=⟨h.1,fun k hk=>BoxAt.ext hE (h.2 k hk)⟩
theorem ArrAt.lt {w:World} {B n:Nat} {f:Nat→Int} (h:ArrAt w B n f):B<w.heap.size:=(h.2 0 h.1).lt
def upd (f:Nat→Int) (j:Nat) (v:Int) (k:Nat):Int:=if k=j then v else f k
theorem ArrAt.upd {w X:World} {B n j:Nat} {f:Nat→Int} {v:Int} (h:ArrAt w B n f) (hv:BoxAt X B j (.int .i64 v)) (hk:∀i x,i≠j→BoxAt w B i x→BoxAt X B i x):ArrAt X B n (upd f j v):=
 ⟨h.1,fun k hn=>by
  unfold Go.Proofs.YtpfajhcdfgpgmaaGreatDoor.upd
  by_cases e:k=j
  · subst e;rw [if_pos rfl];exact hv
  · rw [if_neg e];exact hk k _ e (h.2 k hn)⟩
theorem ArrAt.congr {w:World} {B n:Nat} {f g:Nat→Int} (h:ArrAt w B n f) (e:∀k,k<n→f k=g k):ArrAt w B n g:=⟨h.1,fun k hk=>by rw [←e k hk];exact h.2 k hk⟩
section
variable {P:Program} {w:World}
end
end Go.Proofs.YtpfajhcdfgpgmaaGreatDoor

namespace Go.Proofs.YtpfajhcdfgpgmaaGreatDoor
open Go.RowKit
structure NdB (w:World) (b o:Nat) (N:List Nod):Prop where
 at_:∀(i:Nat) x,N[i]? =some x→w.cell? ⟨b,o+i * 3,none⟩=some (.int .i64 x.1)∧w.cell? ⟨b,o+i * 3+1,none⟩=some (.int .i64 x.2.1)∧w.cell? ⟨b,o+i * 3+2,none⟩=some (.int .i64 x.2.2)
theorem NdB.ext {w w':World} {b o:Nat} {N:List Nod} (h:NdB w b o N) (e:Ext w w'):NdB w' b o N:=⟨fun i x hx=>⟨e.cell (h.at_ i x hx).1,e.cell (h.at_ i x hx).2.1,e.cell (h.at_ i x hx).2.2⟩⟩
instance {w w':World} {b o:Nat} {N:List Nod}:MvC w w' (NdB w b o N) (NdB w' b o N):=⟨fun e h=>h.ext e⟩
section
variable {w:World} {b o i:Nat} {N:List Nod} (h:NdB w b o N) (hi:i<N.length)
include h hi
theorem NdB.c0:w.cell? ⟨b,o+i * 3,none⟩=some (.int .i64 (Bdd.rwN N i).1):=(h.at_ i _ (Bdd.rwN_at hi)).1
theorem NdB.c1:w.cell? ⟨b,o+i * 3+1,none⟩=some (.int .i64 (Bdd.rwN N i).2.1):=(h.at_ i _ (Bdd.rwN_at hi)).2.1
theorem NdB.c2:w.cell? ⟨b,o+i * 3+2,none⟩=some (.int .i64 (Bdd.rwN N i).2.2):=(h.at_ i _ (Bdd.rwN_at hi)).2.2
end
structure NdsAt (w:World) (a:Option Addr) (m:Nat) (N:List Nod):Prop where
 len:N.length=m
 max:m≤140737488355328
 at_:m=0∨∃b o,a=some ⟨b,o,none⟩∧NdB w b o N
theorem NdsAt.ext {w w':World} {a:Option Addr} {m:Nat} {N:List Nod} (h:NdsAt w a m N) (e:Ext w w'):NdsAt w' a m N:=⟨h.len,h.max,h.at_.imp id fun ⟨b,o,h1,h2⟩=>⟨b,o,h1,h2.ext e⟩⟩
instance {w w':World} {a:Option Addr} {m:Nat} {N:List Nod}:MvC w w' (NdsAt w a m N) (NdsAt w' a m N):=⟨fun e h=>h.ext e⟩
theorem NdsAt.parts {w:World} {a:Option Addr} {m:Nat} {N:List Nod} (h:NdsAt w a m N):∃b o,(0<m→a=some ⟨b,o,none⟩)∧(0<m→b<w.heap.size)∧NdB w b o N:=by
 obtain⟨h1,_,h3⟩:=h
 rcases h3 with h3 | ⟨b,o,ha,hx⟩
 · exact⟨0,0,fun h=>by omega,fun h=>by omega,⟨fun i x hi=>by have:=(List.getElem?_eq_some_iff.1 hi).1;omega⟩⟩
 · exact⟨b,o,fun _=>ha,fun h=>World.block_lt_of_cell? _ _ (hx.c0 (i:=0) (by omega)),hx⟩
theorem NdsAt.nil (w:World):NdsAt w none 0 []:=⟨rfl,Nat.zero_le _,.inl rfl⟩
theorem NdB.take {w:World} {b o:Nat} {N:List Nod} (h:NdB w b o N) (k:Nat):NdB w b o (N.take k):=⟨fun i x hi=>h.at_ i x (by
 rw [List.getElem?_take] at hi
 split at hi
 · exact hi
 · cases hi)⟩
theorem NdsAt.take {w:World} {a:Option Addr} {m:Nat} {N:List Nod} (h:NdsAt w a m N) {k:Nat} (hk:k≤m):NdsAt w a k (N.take k):=⟨by rw [List.length_take,h.len];omega,Tq hk h.max,by
 rcases h.at_ with q | ⟨b,o,ha,hx⟩
 · exact .inl (by omega)
 · exact .inr ⟨b,o,ha,hx.take k⟩⟩
theorem own_nds {n₀:Nat} {w:World} {N:List Nod} {a:Option Addr} {m c:Nat} (h:OwnL nodR n₀ 56 3 (.slice a m c) w N) (hm:N.length=m) (hx:m≤140737488355328):NdsAt w a m N:=by
  subst hm
  refine⟨rfl,hx,?_⟩
  obtain⟨cs,h1,h2,h3,h4⟩:=h
  rcases h3.2 with ⟨q,q2⟩ | ⟨g,cap,cur,q,hb,hcur,hc,rest⟩
  · injection q with q1 q2 q3;exact .inl q2
  · injection q with q1 q2 q3
    refine .inr ⟨g,0,q1,⟨fun i x hx=>?_⟩⟩
    have hi:=(List.getElem?_eq_some_iff.1 hx).1
    have hc2:=List.getElem?_eq_getElem (l:=cs) (i:=i) (by omega)
    obtain⟨F,⟨e1,_⟩,_⟩:=h4 i _ _ hx hc2
    subst q1
    have f0:=flatten_get h2 i hc2 0 (by omega);have f1:=flatten_get h2 i hc2 1 (by omega);have f2:=flatten_get h2 i hc2 2 (by omega)
    rw [e1] at f0 f1 f2
    have z0:=h3.cellAt (i * 3) (by omega);have z1:=h3.cellAt (i * 3+1) (by omega);have z2:=h3.cellAt (i * 3+2) (by omega)
    rw [Nat.zero_add]
    exact⟨by rw [z0];exact f0,by rw [z1];exact f1,by rw [z2];exact f2⟩
structure ValI (w:World) (O n:Nat) (f:Nat→Int):Prop where
 lt:O<w.heap.size
 at_:∀k,k<n→BoxAt w O k (.int .i64 (f k))
theorem ValI.ext {w w':World} {O n:Nat} {f:Nat→Int} (h:ValI w O n f) (e:Ext w w'):ValI w' O n f:=⟨nl_ h.lt e.size,fun k hk=>BoxAt.ext e (h.at_ k hk)⟩
instance {w w':World} {O n:Nat} {f:Nat→Int}:MvC w w' (ValI w O n f) (ValI w' O n f):=⟨fun e h=>h.ext e⟩
theorem ValI.turn {P:Nat} {w w':World} {O n:Nat} {f:Nat→Int} (h:ValI w O n f) (t:Turns P w w') (hb:P≠O):ValI w' O n f:=⟨by rw [t.size];exact h.lt,fun k hk=>t.box hb (h.at_ k hk)⟩
theorem ValI.turnM {P:Nat} {w w':World} {O n:Nat} {f:Nat→Int} (h:ValI w O n f) (t:TurnsM P w w'):ValI w' O n f:=⟨by rw [t.size];exact h.lt,fun k hk=>t.mv0.box (h.at_ k hk)⟩
theorem ValI.wr {X:Nat→Prop} {w w':World} {O n:Nat} {f:Nat→Int} (h:ValI w O n f) (t:Wr X w w') (hb:¬X O):ValI w' O n f:=⟨nl_ h.lt t.size,fun k hk=>t.box hb (h.at_ k hk)⟩
theorem ValI.set {w X:World} {O n j:Nat} {f:Nat→Int} {v:Int} (h:ValI w O n f) (t:Turns O w X) (hv:BoxAt X O j (.int .i64 v)) (hk:∀i x,i≠j→BoxAt w O i x→BoxAt X O i x):ValI X O n (upd f j v):=
 ⟨by rw [t.size];exact h.lt,fun k hn=>by
  unfold upd
  by_cases e:k=j
  · subst e;rw [if_pos rfl];exact hv
  · rw [if_neg e];exact hk k _ e (h.at_ k hn)⟩
theorem ex_make {P:Program} {ev:Operand→Value} {o:Oper} {w X:World} {t:TypeId} {x y:Operand} {a b v:Value} (hop:o.op= .makeSlice t x y) (hx:ev x=a) (hy:ev y=b) (h:(Instr.makeSlice t a b).run P w= .ok v X):(execOp ev o).run P w= .ok (.value v) X:=by
 simp [execOp,hop,hx,hy,h,Result.andThen]
theorem run_makeI (w:World) {n:Nat} (hn:n≤1000000):∃O X,(Instr.makeSlice 24 (.int .i64 ((n:Nat):Int)) (.int .i64 ((n:Nat):Int))).run Tryz.prog w= .ok (.slice (some ⟨O,0,none⟩) n n) X∧w.heap.size=O∧ValI X O n (fun _=>0)∧Ext w X:=by
 have hi:(Tryz.prog.info? 3).map (fun i=>(i.zero,i.size,i.bytes))=some (some (.int .i64 0),1,8):=by kernel_rfl
 obtain⟨i,hi,hz0,hz1,hz2⟩:=info_parts hi
 have hr:=run_make (P:=Tryz.prog) w 24 3 i (.int .i64 0) Tryz.underlying24 hi hz0 .i64 .i64 ((n:Nat):Int) ((n:Nat):Int) (by omega) (Int.le_refl _) (by rw [hz2];omega) (by omega)
 rw [Int.toNat_natCast,hz1,Nat.mul_one] at hr
 refine⟨_,_,hr,rfl,⟨by simp,fun k hk=>⟨?_,by simp [go_sem]⟩⟩,Ext.alloc (er_ _) _⟩
 rw [cell_of_row _ _ k _ 3 (0,0) (heap_alloc_new w _)]
 have h2:(madeCells (Value.int .i64 0).cells n).toList=List.replicate n (.int .i64 0):=by
  show (madeCells #[Value.int .i64 0] n).toList=_
  simp [madeCells]
  refine List.ext_getElem (by simp) fun j h1 h2=>?_
  simp [Nat.mod_one]
 rw [←Array.getElem?_toList,h2,List.getElem?_replicate,if_pos hk]
end Go.Proofs.YtpfajhcdfgpgmaaGreatDoor
