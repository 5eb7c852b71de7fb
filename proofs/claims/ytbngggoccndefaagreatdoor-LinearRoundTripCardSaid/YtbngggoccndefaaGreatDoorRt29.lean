/-
  Laid.
-/
import Derived.Test.YtbngggoccndefaaGreatDoorRt28
set_option maxHeartbeats 8000000
set_option maxRecDepth 100000
set_option linter.all false
namespace Go.Proofs.YtbngggoccndefaaGreatDoor
open Go.Proofs.Tryz
section
open Go.RowKit
theorem GB.cell {row:Option Nat} {a w:World} (h:GB row a w) {p:Addr} (hp:p.block<a.heap.size) (hne:row≠some p.block):w.cell? p=a.cell? p:=by have:=World.grownBy.block h p.block hp (fun e=>hne e.symm);unfold World.cell?;rw[this]
theorem LS {w:World} {b:Nat} {a:Option Addr} {n c:Nat} (h:w.cell? ⟨b,0,none⟩=some (.slice a n c)):(loadVar 248 ⟨b,0,none⟩).run prog w=.ok (.slice a n c) w:=by simp[loadVar,go_sem,h]
theorem AQ {w:World} {b:Nat} {a:Option Addr} {n c:Nat} (h:w.cell? ⟨b,0,none⟩=some (.slice a n c)):(method 505 252 (.pointer (some ⟨b,0,none⟩)) "Len").run prog w=.ok (371,.slice a n c) w:=by
 have h0:(method 505 252 (.pointer (some ⟨b,0,none⟩)) "Len").run prog w=(do let r<-loadVar 248 ⟨b,0,none⟩;pure (371,r):Sem (FuncId×Value)).run prog w:=Y0
 have h1:(do let r<-loadVar 248 ⟨b,0,none⟩;pure (371,r):Sem (FuncId×Value)).run prog w=((loadVar 248 ⟨b,0,none⟩).run prog w).andThen (fun s w'=>.ok (371,s) w'):=by simp[go_sem]
 rw[h0,h1,LS h];rfl
theorem RR {w:World} {b:Nat} {a:Option Addr} {n c:Nat} (h:w.cell? ⟨b,0,none⟩=some (.slice a n c)):(method 505 252 (.pointer (some ⟨b,0,none⟩)) "Less").run prog w=.ok (372,.slice a n c) w:=by
 have h0:(method 505 252 (.pointer (some ⟨b,0,none⟩)) "Less").run prog w=(do let r<-loadVar 248 ⟨b,0,none⟩;pure (372,r):Sem (FuncId×Value)).run prog w:=Y0
 have h1:(do let r<-loadVar 248 ⟨b,0,none⟩;pure (372,r):Sem (FuncId×Value)).run prog w=((loadVar 248 ⟨b,0,none⟩).run prog w).andThen (fun s w'=>.ok (372,s) w'):=by simp[go_sem]
 rw[h0,h1,LS h];rfl
theorem LT {w:World} {b:Nat} {a:Option Addr} {n c:Nat} (h:w.cell? ⟨b,0,none⟩=some (.slice a n c)):(method 505 252 (.pointer (some ⟨b,0,none⟩)) "Swap").run prog w=.ok (373,.slice a n c) w:=by
 have h0:(method 505 252 (.pointer (some ⟨b,0,none⟩)) "Swap").run prog w=(do let r<-loadVar 248 ⟨b,0,none⟩;pure (373,r):Sem (FuncId×Value)).run prog w:=Y0
 have h1:(do let r<-loadVar 248 ⟨b,0,none⟩;pure (373,r):Sem (FuncId×Value)).run prog w=((loadVar 248 ⟨b,0,none⟩).run prog w).andThen (fun s w'=>.ok (373,s) w'):=by simp[go_sem]
 rw[h0,h1,LS h];rfl
structure QB (w:World) (qb g n:Nat) (q:List Hp.Sh):Prop where
 cell:w.cell? ⟨qb,0,none⟩=some (.slice (some ⟨g,0,none⟩) n n)
 lt:qb<w.heap.size
 ne:qb≠g
 at_:QAt w g q
 len:q.length=n
theorem QB.on {w w':World} {qb g n:Nat} {q:List Hp.Sh} (h:QB w qb g n q) (hx:Ext w w'):QB w' qb g n q:=
 ⟨(hx.cell (p:=⟨qb,0,none⟩) h.lt).trans h.cell,M1 h.lt hx.size,h.ne,h.at_.on hx,h.len⟩
theorem QB.turn {w w':World} {qb g n:Nat} {q q':List Hp.Sh} (h:QB w qb g n q) (hg:GB (some g) w w') (hq:QAt w' g q') (hl:q'.length=q.length):QB w' qb g n q':=
 ⟨(hg.cell (p:=⟨qb,0,none⟩) h.lt (fun e=>h.ne (by injection e with e;exact e.symm))).trans h.cell,M1 h.lt hg.size,h.ne,hq,hl.trans h.len⟩
def DnE (qb g n k0:Nat) (q:List Hp.Sh) (w:World) (w':World):Prop:=∃q',QB w' qb g n q'∧Hp.Heap Hp.lessS q' k0∧q'.Perm q∧GB (some g) w w'
theorem AR (qb g n i0:Nat) (q:List Hp.Sh) (w:World) (hq:QB w qb g n q) (hi:i0<=n) (hn:n<=1000000) (hh:Hp.Near Hp.lessS q i0 i0):
 Calls prog 262 #[.iface 252 (.pointer (some ⟨qb,0,none⟩)),.int .i64 (i0:Int),.int .i64 (n:Int)] w fun e w'=>(∃b,e=.returned (.bool b))∧DnE qb g n i0 q w w':=by
 have HQ:=B0 hq
 have HH:=B0 hh
 clear hq hh
 go_enter func262,ntmps262
 go_wp2_with fail
 go_loopw [7] (fun t wr=>∃(i:Nat) (q':List Hp.Sh),i0<=i∧i<=n∧t=.int .i64 (i:Int)∧Hid (QB wr qb g n q')∧Hid (Hp.Near Hp.lessS q' i0 i)∧Hid (q'.Perm q)∧Hid (GB (some g) w wr)) (fun t _=>n-(intOf t).toNat)
 case atStart=>exact⟨i0,q,I0 _,hi,rfl,HQ,HH,B0 (List.Perm.refl _),B0 (GB.refl _)⟩
 case round=>
 clear HQ HH hi
 obtain⟨i,q',hi0,hin,rfl,HQ,HH,HP,HG⟩:=hrel
 by_cases hj:2*i+1<n
 ·have hjI:¬(n:Int)<=2*(i:Int)+1:=C0;have hj0:¬2*(i:Int)+1<0:=C0;obtain⟨x,hxi⟩:∃x,q'[i]? =some x:=⟨_,P0 WB⟩;obtain⟨y1,hy1⟩:∃y,q'[2*i+1]? =some y:=⟨_,P0 WB⟩;have HXI:=B0 hxi;have HY1:=B0 hy1;clear hxi hy1;by_cases hj2:2*i+2<n
  ·have hj2I:2*(i:Int)+1+1<(n:Int):=by omega
   obtain⟨y2,hy2⟩:∃y,q'[2*i+2]? =some y:=⟨_,P0 WB⟩
   have HY2:=B0 hy2
   have HL1:=B0 (fun w' (h:QB w' qb g n q')=>by have:=RQ g n (2*i+2) (2*i+1) q' y2 y1 w' h.at_ h.len HY2.out HY1.out C0;rw[show((2*i+2:Nat):Int)=2*(i:Int)+1+1 by omega,show((2*i+1:Nat):Int)=2*(i:Int)+1 by omega]at this;exact this)
   have hm1:=RR HQ.out.cell
   obtain⟨b1,hb1⟩:∃b1,b1=Hp.lessS y2 y1:=⟨_,rfl⟩
   rw[<-hb1]at HL1
   have HB1:=B0 hb1
   clear hb1 hy2
   go_wp2_with fail
   refine(HL1.out _ HQ.out).mono ?_
   rintro e w2 ⟨rfl,hx2⟩
   have HQ2:=B0 (HQ.out.on hx2)
   have HX2:=B0 hx2
   clear hx2 hm1
   cases b1 with
   |false=>
    have HMIN:Hid (∀c,(c=2*i+1∨c=2*i+2)->∀z,q'[c]? =some z->Hp.lessS z y1=false):=B0 (fun c hc z hz=>by rcases hc with rfl|rfl;(·have e:=HY1.out;exact LU);·have e:=HY2.out;rw[hz]at e;injection e with e;subst e;exact HB1.out.symm
    )
    have HL2:=B0 (fun w' (h:QB w' qb g n q')=>by have:=RQ g n (2*i+1) i q' y1 x w' h.at_ h.len HY1.out HXI.out C0;rw[show((2*i+1:Nat):Int)=2*(i:Int)+1 by omega]at this;exact this)
    have HS2:=B0 (fun w' (h:QB w' qb g n q')=>by have:=LR g n i (2*i+1) q' x y1 w' h.at_ h.len HXI.out HY1.out C0 C0;rw[show((2*i+1:Nat):Int)=2*(i:Int)+1 by omega]at this;exact this)
    have hm2:=RR HQ2.out.cell
    obtain⟨b2,hb2⟩:∃b2,b2=Hp.lessS y1 x:=⟨_,rfl⟩
    rw[<-hb2]at HL2
    have HB2:=B0 hb2
    clear hb2
    go_wp2_with fail
    refine(HL2.out _ HQ2.out).mono ?_
    rintro e w3 ⟨rfl,hx3⟩
    have HQ3:=B0 (HQ2.out.on hx3)
    have HX3:=B0 (HX2.out.trans hx3)
    have hm3:=LT HQ3.out.cell
    clear hx3 hm2
    cases b2 with
    |false=>exact QF
    |true=>exact QL
   |true=>
    have HMIN:Hid (∀c,(c=2*i+1∨c=2*i+2)->∀z,q'[c]? =some z->Hp.lessS z y2=false):=B0 (fun c hc z hz=>by rcases hc with rfl|rfl;(·have e:=HY1.out;rw[hz]at e;injection e with e;subst e;exact Hp.lessS_as _ _ HB1.out.symm);·have e:=HY2.out;exact LU
    )
    have HL2:=B0 (fun w' (h:QB w' qb g n q')=>by have:=RQ g n (2*i+2) i q' y2 x w' h.at_ h.len HY2.out HXI.out C0;rw[show((2*i+2:Nat):Int)=2*(i:Int)+1+1 by omega]at this;exact this)
    have HS2:=B0 (fun w' (h:QB w' qb g n q')=>by have:=LR g n i (2*i+2) q' x y2 w' h.at_ h.len HXI.out HY2.out C0 C0;rw[show((2*i+2:Nat):Int)=2*(i:Int)+1+1 by omega]at this;exact this)
    have hm2:=RR HQ2.out.cell
    obtain⟨b2,hb2⟩:∃b2,b2=Hp.lessS y2 x:=⟨_,rfl⟩
    rw[<-hb2]at HL2
    have HB2:=B0 hb2
    clear hb2
    go_wp2_with fail
    refine(HL2.out _ HQ2.out).mono ?_
    rintro e w3 ⟨rfl,hx3⟩
    have HQ3:=B0 (HQ2.out.on hx3)
    have HX3:=B0 (HX2.out.trans hx3)
    have hm3:=LT HQ3.out.cell
    clear hx3 hm2
    cases b2 with
    |false=>exact QF
    |true=>go_wp2_with fail;refine(HS2.out _ HQ3.out).mono ?_;rintro e w4 ⟨rfl,hq4,hg4⟩;have HQ4:=B0 (HQ3.out.turn hg4 hq4 (Hp.swap_len q' i (2*i+2)));have HG4:=B0 ((HG.out.trans (GB.ext HX3.out)).trans hg4);have HH4:=B0 (HH.out.step Hp.lessS_tr Hp.lessS_as hi0 C0 HXI.out HY2.out HB2.out.symm HMIN.out);have HP4:=B0 ((Hp.swap_perm HXI.out HY2.out).trans HP.out);clear hq4 hg4;go_wp2;go_roundw;(case rel=>exact⟨2*i+2,_,by omega,by omega,by go_num,HQ4,HH4,HP4,HG4⟩);case measure=>exact Qr
  ·have hj2I:¬2*(i:Int)+1+1<(n:Int):=by omega
   have HQ2:=HQ
   have HX2:=B0 (Ext.refl wr)
   have HMIN:Hid (∀c,(c=2*i+1∨c=2*i+2)->∀z,q'[c]? =some z->Hp.lessS z y1=false):=B0 (fun c hc z hz=>by have hcl:=(J1.1 hz).1;rw[HQ.out.len]at hcl;obtain rfl:c=2*i+1:=C0;have e:=HY1.out;exact LU
   )
   have HL2:=B0 (fun w' (h:QB w' qb g n q')=>by have:=RQ g n (2*i+1) i q' y1 x w' h.at_ h.len HY1.out HXI.out C0;rw[show((2*i+1:Nat):Int)=2*(i:Int)+1 by omega]at this;exact this)
   have HS2:=B0 (fun w' (h:QB w' qb g n q')=>by have:=LR g n i (2*i+1) q' x y1 w' h.at_ h.len HXI.out HY1.out C0 C0;rw[show((2*i+1:Nat):Int)=2*(i:Int)+1 by omega]at this;exact this)
   have hm2:=RR HQ2.out.cell
   obtain⟨b2,hb2⟩:∃b2,b2=Hp.lessS y1 x:=⟨_,rfl⟩
   rw[<-hb2]at HL2
   have HB2:=B0 hb2
   clear hb2
   go_wp2_with fail
   refine(HL2.out _ HQ2.out).mono ?_
   rintro e w3 ⟨rfl,hx3⟩
   have HQ3:=B0 (HQ2.out.on hx3)
   have HX3:=B0 (HX2.out.trans hx3)
   have hm3:=LT HQ3.out.cell
   clear hx3 hm2
   cases b2 with
   |false=>exact QF
   |true=>exact QL
 ·have hjI:(n:Int)<=2*(i:Int)+1:=C0;have HD:Hid (Hp.Heap Hp.lessS q' i0):=B0 (HH.out.done (fun c hc a b ha=>by have:=(J1.1 ha).1;rw[HQ.out.len]at this;omega));go_wp2;go_ret;exact⟨⟨_,rfl⟩,q',HQ.out,HD.out,HP.out,HG.out⟩
end
section
open Go.RowKit Go.Maps Go
namespace Cs
def rnds (cs:List Int) (i:Nat) (T:Tab):Nat->Tab
 |0=>T
 |r+1=>round cs i (rnds cs i T r)
def nodesTo (cs:List Int) (i:Nat) (T:Tab) (s:Nat):Tab:=(List.range s).foldl (node cs i) T
theorem nodesTo_succ (cs:List Int) (i:Nat) (T:Tab) (s:Nat):nodesTo cs i T (s+1)=node cs i (nodesTo cs i T s) s:=by unfold nodesTo;rw[ML,V9];rfl
theorem nodesTo_five (cs:List Int) (i:Nat) (T:Tab):nodesTo cs i T 5=round cs i T:=rfl
def relTo (cs:List Int) (i s:Nat) (T:Tab) (j:Nat):Tab:=((moves cs i s).take j).foldl (relax (i,s)) T
theorem relTo_succ {cs:List Int} {i s:Nat} {T:Tab} {j:Nat} {m:Mv} (h:(moves cs i s)[j]? =some m):relTo cs i s T (j+1)=relax (i,s) (relTo cs i s T j) m:=by unfold relTo;rw[R5,h,V9];rfl
theorem relTo_all {cs:List Int} {i s:Nat} {T:Tab} {j:Nat} (h:j=(moves cs i s).length):relTo cs i s T j=node cs i T s:=by unfold relTo node;rw[h,E5]
theorem one_len (v:Option Int) (nd:Nd):(one v nd).length<=1:=by unfold one;cases v<;>simp
theorem moves_len (cs:List Int) (i s:Nat):(moves cs i s).length<=4:=by unfold moves;have h1:=one_len (valOf (cs.getD i 0) 2) (i+1,3);have h2:=one_len (valOf (cs.getD i 0) 3) (i+1,2);have h3:=one_len (own (cs.getD i 0) s) (i+1,s);have h4:=one_len (pairAt cs i) (i+2,4);(repeat' split)<;>(try simp only[O0,S0,U2])<;>omega
def tabF (n s:Nat):Tab:=fun x=>if x.1=n∧2<=x.2∧x.2<s then some 0 else none
theorem tabF_succ (n s:Nat) (h:2<=s):(fun y=>if y=(n,s)then some 0 else tabF n s y)=tabF n (s+1):=by
 funext y;obtain⟨a,b⟩:=y;unfold tabF;by_cases h1:(a,b)=(n,s);·injection h1 with h1 h2;subst h1 h2;exact E1
 ·rw[D0 h1];by_cases h2:a=n∧2<=b∧b<s;(·rw[G0 h2,G0 ⟨h2.1,h2.2.1,by dsimp only;omega⟩]);·rw[D0 h2,D0];rintro⟨g1,g2,g3⟩;dsimp only at g1 g2 g3;refine h2 ⟨g1,g2,?_⟩;have:b≠s:=fun e=>h1 (by rw[g1,e]);omega
theorem tabF_two (n:Nat):tabF n 2=fun _=>none:=by funext y;unfold tabF;rw[D0 C0]
theorem tabF_five (n:Nat):tabF n 5=tab0 n:=by
 funext y;unfold tabF tab0;by_cases h:y.1=n∧2<=y.2∧y.2<=4;·rw[G0 h,G0 ⟨h.1,h.2.1,by omega⟩]
 ·rw[D0 h,D0 (fun h2=>h ⟨h2.1,h2.2.1,by omega⟩)]
theorem relax_no {fr:Nd} {T:Tab} {m:Mv} (h:T m.2=none):relax fr T m=T:=by unfold relax;rw[h]
theorem relax_in {fr:Nd} {T:Tab} {m:Mv} {r:Nat} (h:T m.2=some r) (hb:better (T fr) (r+1)=true):relax fr T m=fun x=>if x=fr then some (r+1)else T x:=by unfold relax;rw[h];exact G0 hb
theorem relax_out {fr:Nd} {T:Tab} {m:Mv} {r:Nat} (h:T m.2=some r) (hb:better (T fr) (r+1)=false):relax fr T m=T:=by unfold relax;rw[h];exact D0 (by rw[hb];exact Bool.noConfusion)
end Cs
theorem dB (v:Value) (cs:List Int) (w:World) (hv:Sl w v (cs.map encI)) (hl:cs.length<=4096) (hok:∀c∈cs,Cs.okC c):
 Calls prog 184 #[v] w fun e w'=>e=.returned (.map (some w.heap.size))∧TabM w w' w.heap.size (Cs.table cs) 200000:=by
 obtain⟨a,c,rfl⟩:=hv.form
 have HMV:=B0 (fun(i s:Nat) (w2:World) (hx:Ext w w2) (hi:i<cs.length) (hs:s<=4)=>AE _ cs i s w2 (hv.ext hx) hl hok hi hs)
 have HOK:=B0 (fun(i s:Nat) (hi:i<cs.length) (hs:s<=4) (m:Cs.Mv) (hm:m∈Cs.moves cs i s)=>Cs.move_ok hok hi hs hm)
 rw[N0]at HMV⊢
 obtain⟨n,hn⟩:∃n,n=cs.length:=⟨_,rfl⟩
 rw[<-hn]at hl HMV HOK⊢
 have HN:=B0 hn
 have HT0:Hid (TabM w (w.alloc (.map #[] 0)) w.heap.size (Cs.tabF n 2) 0):=B0 (by rw[Cs.tabF_two];exact TabM.made w)
 obtain⟨mb,hmb⟩:∃mb,mb=w.heap.size:=⟨_,rfl⟩
 have HB:=B0 hmb
 have HEX:Hid (∀ {W:World} {T:Cs.Tab} {K:Nat},TabM w W w.heap.size T K->Ext w W):=B0 (fun h=>(Ext.refl w).ofGrown h.2.2 (fun q hq=>by injection hq with hq;omega))
 clear hv hok hn hmb
 have hmm:= @RS prog
 go_enter func184,ntmps184
 go_wp2_with fail
 go_loopw [4] (fun t wr=>∃s:Nat,2<=s∧s<=5∧t=.int .i64 (s:Int)∧Hid (TabM w wr w.heap.size (Cs.tabF n s) s)) (fun t _=>5-(intOf t).toNat)
 case atStart=>exact⟨2,by omega,by omega,rfl,B0 (HT0.out.up C0)⟩
 case round=>
 clear HT0 hmm
 obtain⟨s,hs2,hs5,rfl,HT⟩:=hrel
 by_cases hlt:s<5
 ·have hltI:(s:Int)<5:=C0;obtain⟨w5,hput,hT5,-⟩:=HT.out.put (n,s) H5 H5 0 C0 C0;dsimp only at hput hT5;rw[Cs.tabF_succ n s hs2]at hT5;rw[show((0:Nat):Int)=0 from rfl]at hput;have HT5:=B0 hT5;clear hT5 HT;go_wp2_with fail;go_roundw;(case rel=>exact⟨s+1,by omega,by omega,by go_num,HT5⟩);case measure=>exact Qr
 obtain rfl:s=5:=by omega
 have HT1:Hid (TabM w wr w.heap.size (Cs.tabs cs 0) 5):=B0 (by have:=HT.out;rw[Cs.tabF_five,HN.out]at this;exact this)
 clear HT hlt hs2 hs5
 go_wp2_with fail
 go_loopw [5] (fun t wr=>∃(j:Nat) (q:Int),j<=n∧q=(j:Int)-1∧t=.int .i64 q∧Hid (TabM w wr w.heap.size (Cs.tabs cs (n-j)) (5+40*(n-j)))) (fun t _=>(intOf t+1).toNat)
 case atStart=>exact⟨n,(n:Int)-1,I0 _,rfl,rfl,B0 (by rw[O3];exact HT1.out)⟩
 case round=>
 clear HT1
 rename World=>wa
 obtain⟨j,q,hj,hq,rfl,HT⟩:=hrel
 cases j with
 |zero=>obtain rfl:q= -1:=C0;have HF:Hid (TabM w wa w.heap.size (Cs.table cs) 200000):=B0 (by have:=HT.out;rw[YD]at this;unfold Cs.table;rw[<-HN.out];exact this.up C0);clear HT hq hj;go_wp2_with fail;go_ret;exact⟨rfl,HF.out⟩
 |succ i=>
  obtain rfl:q=(i:Int):=by omega
  obtain⟨k,hk⟩:∃k,k=n-(i+1):=⟨_,rfl⟩
  have HI:Hid (i=cs.length-1-k∧n-i=k+1∧k<n):=B0 (by have:=HN.out;omega)
  rw[<-hk]at HT
  obtain⟨T0,hT0⟩:∃T0,T0=Cs.tabs cs k:=⟨_,rfl⟩
  have HT0:=B0 hT0
  rw[<-hT0]at HT
  obtain⟨K0,hK0⟩:∃K0,K0=5+40*k:=⟨_,rfl⟩
  have HK0:=B0 hK0
  rw[<-hK0]at HT
  have hK0b:K0<=170000:=by omega
  have hin:i<n:=by omega
  clear hk hT0 hK0 hq hj
  go_wp2_with fail
  go_loopw [31] (fun t wr=>∃r:Nat,r<=2∧t=.int .i64 (r:Int)∧Hid (TabM w wr w.heap.size (Cs.rnds cs i T0 r) (K0+20*r))) (fun t _=>2-(intOf t).toNat)
  case atStart=>exact⟨0,U0 _,rfl,HT⟩
  case round=>
  clear HT
  rename World=>wb
  obtain⟨r,hr,rfl,HT⟩:=hrel
  by_cases hlt:r<2
  ·have hltI:(r:Int)<2:=by omega
   obtain⟨T1,hT1⟩:∃T1,T1=Cs.rnds cs i T0 r:=⟨_,rfl⟩
   have HT1:=B0 hT1
   rw[<-hT1]at HT
   obtain⟨K1,hK1⟩:∃K1,K1=K0+20*r:=⟨_,rfl⟩
   have HK1:=B0 hK1
   rw[<-hK1]at HT
   have hK1b:K1<=180000:=by omega
   clear hT1 hK1
   go_wp2_with fail
   go_loopw [33] (fun t wr=>∃s:Nat,s<=5∧t=.int .i64 (s:Int)∧Hid (TabM w wr w.heap.size (Cs.nodesTo cs i T1 s) (K1+4*s))) (fun t _=>5-(intOf t).toNat)
   case atStart=>exact⟨0,U0 _,rfl,HT⟩
   case round=>
   clear HT
   rename World=>wc
   obtain⟨s,hs,rfl,HT⟩:=hrel
   by_cases hlt2:s<5
   ·have hlt2I:(s:Int)<5:=by omega
    obtain⟨T2,hT2⟩:∃T2,T2=Cs.nodesTo cs i T1 s:=⟨_,rfl⟩
    have HT2:=B0 hT2
    rw[<-hT2]at HT
    obtain⟨K2,hK2⟩:∃K2,K2=K1+4*s:=⟨_,rfl⟩
    have HK2:=B0 hK2
    rw[<-hK2]at HT
    have hK2b:K2<=190000:=by omega
    obtain⟨ms,hms⟩:∃ms,ms=Cs.moves cs i s:=⟨_,rfl⟩
    have HMS:=B0 hms
    have hm4:=Cs.moves_len cs i s
    have hcal:=HMV.out i s (wc.alloc (.cells #[.int .i64 (i:Int),.int .i64 (s:Int)] 218)) ((HEX.out HT.out).alloc _) hin C0
    rw[<-hms]at hm4 hcal
    have HCAL:=B0 hcal
    have HMO:Hid (∀m∈ms,m.2.1<=1000000∧m.2.2<=1000000):=B0 (fun m hm=>by have h:=HOK.out i s hin C0 m (by rw[<-HMS.out];exact hm);have h1:=h.end_;have h2:=h.st;have:=HN.out;omega)
    have hmbl:=(TabM.ext HT.out (Ext.refl _)).2.2.size
    clear hT2 hK2 hms hcal
    go_wp2_with fail
    refine HCAL.out.mono ?_
    rintro e w2 ⟨v2,rfl,hown2,hx2⟩
    obtain⟨M,hM⟩:∃M,M=ms.length:=⟨_,rfl⟩
    have HML:=B0 hM
    obtain⟨a2,c2,hv2⟩:=(hown2.sl UJ).form
    rw[<-hM]at hv2 hm4
    subst hv2
    have hsz2:wc.heap.size+1<=w2.heap.size:=by have:=hx2.size;exact V6
    have HCL:Hid (∀(j:Nat) (m:Cs.Mv),ms[j]? =some m->∃b,a2=some ⟨b,0,none⟩∧wc.heap.size+1<=b∧b<w2.heap.size∧w2.cell? ⟨b,j*3,none⟩=some (.int .i64 m.1)∧w2.cell? ⟨b,j*3+1,none⟩=some (.int .i64 (m.2.1:Int))∧w2.cell? ⟨b,j*3+2,none⟩=some (.int .i64 (m.2.2:Int))):=B0 (fun j m hj=>by rcases hown2.form with⟨h0,_⟩|⟨g,cap,hv3,hBg,hg⟩;(·rw[h0]at hj;cases hj);·injection hv3 with h1 h2 h3;obtain⟨b,off,ha,hb,hc⟩:=(hown2.sl UJ).at_ hj;rw[h1]at ha;injection ha with ha;injection ha with ha1 ha2;subst ha1 ha2;have q0:=hc 0 C0;have q1:=hc 1 C0;have q2:=hc 2 C0;rw[P3]at q0 q1 q2;exact⟨g,h1,by simpa using hBg,hg,q0,q1,q2⟩)
    have HFB:Hid (w2.heap[wc.heap.size]? =some (.cells #[.int .i64 (i:Int),.int .i64 (s:Int)] 218 (0,0))):=B0 (Ext.blk (E2 wc _) hx2)
    have HT3:Hid (TabM w w2 w.heap.size (Cs.relTo cs i s T2 0) K2):=B0 (TabM.ext (TabM.ext HT.out ((Ext.refl wc).alloc _)) hx2)
    have hne1:w.heap.size≠wc.heap.size:=by obtain⟨⟨c0,_,hm0⟩,_⟩:=HT.out;have:=hm0.lt;omega
    have hlt3:w.heap.size<wc.heap.size:=by omega
    clear hown2 hx2 HCAL hM HT
    go_wp2_with fail
    go_loopw [43] (fun t wr=>∃j:Nat,j<=M∧t=.int .i64 (j:Int)∧Hid (TabM w wr w.heap.size (Cs.relTo cs i s T2 j) (K2+j))∧Hid (GB (some w.heap.size) w2 wr)) (fun t _=>M-(intOf t).toNat)
    case atStart=>exact⟨0,U0 _,rfl,HT3,B0 (GB.refl _)⟩
    case round=>
    clear HT3
    rename World=>wd
    obtain⟨j,hj,rfl,HT,HG⟩:=hrel
    by_cases hlt4:j<M
    ·have hlt4I:(j:Int)<(M:Int):=by omega
     obtain⟨m,hmj⟩:∃m,ms[j]? =some m:=⟨_,P0 (by rw[<-HML.out];exact hlt4)⟩
     obtain⟨b,ha,hb1,hb2,d0,d1,d2⟩:=HCL.out j m hmj
     subst ha
     have hmo:=HMO.out m (I1 hmj)
     have HRS:Hid (Cs.relTo cs i s T2 (j+1)=Cs.relax (i,s) (Cs.relTo cs i s T2 j) m):=B0 (Cs.relTo_succ (by rw[<-HMS.out];exact hmj))
     have hbn:(some w.heap.size:Option Nat)≠some b:=fun e=>by injection e with e;omega
     have e0:=(HG.out.cell (p:=⟨b,j*3,none⟩) hb2 hbn).trans d0
     have e1:=(HG.out.cell (p:=⟨b,j*3+1,none⟩) hb2 hbn).trans d1
     have e2:=(HG.out.cell (p:=⟨b,j*3+2,none⟩) hb2 hbn).trans d2
     have hbd:b<wd.heap.size:=M1 hb2 HG.out.size
     have HFD:=B0 (HG.out.heap HFB.out (fun e=>by injection e with e;omega))
     obtain⟨f0,f1,f2⟩:=RK HFD.out
     obtain⟨T3,hT3⟩:∃T3,T3=Cs.relTo cs i s T2 j:=⟨_,rfl⟩
     rw[<-hT3]at HT HRS
     obtain⟨K3,hK3⟩:∃K3,K3=K2+j:=⟨_,rfl⟩
     rw[<-hK3]at HT
     have hK3b:K3<=190010:=by omega
     have HK3:=B0 hK3
     obtain⟨mv,mi,mt⟩:=m
     dsimp only at e0 e1 e2 hmo
     have HTA:Hid (TabM w (wd.alloc (.cells #[.int .i64 mv,.int .i64 (mi:Int),.int .i64 (mt:Int)] 220)) w.heap.size T3 K3):=B0 (TabM.ext HT.out ((Ext.refl wd).alloc _))
     have HGA:Hid (GB (some w.heap.size) w2 (wd.alloc (.cells #[.int .i64 mv,.int .i64 (mi:Int),.int .i64 (mt:Int)] 220))):=B0 (HG.out.alloc _)
     have l1:=HTA.out.look (mi,mt) hmo.1 hmo.2
     have l2:=HTA.out.look (i,s) H5 H5
     dsimp only at l1 l2
     have HB3:=B0 HT.out.2.1
     clear hmj hT3 hK3 d0 d1 d2 HT HG hmo
     cases hn1:T3 (mi,mt)with
     |none=>rw[hn1]at l1;rw[Cs.relax_no hn1]at HRS;dsimp only[Option.getD_none,Option.isSome_none]at l1;generalize(((T3 (i,s)).getD 0:Nat):Int)=y1 at*;generalize(T3 (i,s)).isSome=b1 at*;clear hn1;exact AS
     |some r=>
      have hr3:=HB3.out _ _ hn1
      rw[hn1]at l1
      dsimp only[Option.getD_some,Option.isSome_some]at l1
      cases hn2:T3 (i,s)with
      |none=>rw[hn2]at l2;dsimp only[Option.getD_none,Option.isSome_none]at l2;rw[Cs.relax_in hn1 (by rw[hn2];rfl)]at HRS;exact QK
      |some y=>have hy3:=HB3.out _ _ hn2;rw[hn2]at l2;dsimp only[Option.getD_some,Option.isSome_some]at l2;by_cases hlt6:r+1<y;(·have hlt6I:(r:Int)+1<(y:Int):=C0;rw[Cs.relax_in hn1 (by rw[hn2];exact F1 hlt6)]at HRS;exact QK);·have hlt6I:¬(r:Int)+1<(y:Int):=C0;rw[Cs.relax_out hn1 (by rw[hn2];exact D1 hlt6)]at HRS;clear hn1 hn2;exact AS
    obtain rfl:M=j:=by omega
    have HT6:Hid (TabM w wd w.heap.size (Cs.nodesTo cs i T1 (s+1)) (K1+4*(s+1))):=B0 (by have:=HT.out;rw[Cs.relTo_all (by rw[HML.out,HMS.out])]at this;rw[Cs.nodesTo_succ,<-HT2.out];exact this.up (by have:=HK2.out;omega))
    clear HT HG hj hlt4
    go_wp2_with fail
    go_roundw
    case rel=>(repeat apply Exists.intro);exact⟨⟨s+1,by omega,by go_num,HT6⟩,rfl⟩
    case measure=>exact Qr
   obtain rfl:s=5:=by omega
   have HT6:Hid (TabM w wc w.heap.size (Cs.rnds cs i T0 (r+1)) (K0+20*(r+1))):=B0 (by have:=HT.out;rw[Cs.nodesTo_five,HT1.out]at this;exact this.up (by have:=HK1.out;omega))
   clear HT hs hlt2
   go_wp2_with fail
   go_roundw
   case rel=>exact⟨r+1,by omega,by go_num,HT6⟩
   case measure=>exact Qr
  obtain rfl:r=2:=by omega
  have HT6:Hid (TabM w wb w.heap.size (Cs.tabs cs (n-i)) (5+40*(n-i))):=B0 (by have:=HT.out;rw[HI.out.2.1];have e:Cs.rnds cs i T0 2=Cs.tabs cs (k+1):=(by rw[HT0.out];show Cs.round cs i (Cs.round cs i (Cs.tabs cs k))=Cs.round cs (cs.length-1-k) (Cs.round cs (cs.length-1-k) (Cs.tabs cs k));rw[<-HI.out.1]);rw[<-e];exact this.up (by have:=HK0.out;omega))
  clear HT hr hlt
  go_wp2_with fail
  go_roundw
  case rel=>exact⟨i,(i:Int)-1,by omega,rfl,rfl,HT6⟩
  case measure=>exact Qr
end
section
open Go.RowKit
theorem dO (v:Value) (w:World):Calls prog 263 #[v,.int .i64 0] w fun e w'=>e=.returned (.tuple #[])∧w=w':=by
 go_enter func263,ntmps263;go_wp2_with fail;go_loopw [1] (fun t wr=>t=.int .i64 0∧wr=w) (fun _ _=>0);case atStart=>exact Q3
 case round=>
 obtain⟨rfl,rfl⟩:=hrel;go_wp2;go_end0;exact Q3
theorem dP (qb g n:Nat) (q:List Hp.Sh) (w:World) (hq:QB w qb g n q) (hn:n<=1000000) (hh:Hp.Near Hp.lessS q 0 0):
 Calls prog 228 #[.iface 252 (.pointer (some ⟨qb,0,none⟩)),.int .i64 0] w fun e w'=>e=.returned (.tuple #[])∧DnE qb g n 0 q w w':=by
 have HQ:=B0 hq
 have HL:=B0 (fun w'=>AO (some ⟨g,0,none⟩) n n w')
 have HD:=B0 (fun w' (h:QB w' qb g n q)=>AR qb g n 0 q w' h (U0 _) hn hh)
 have hm:=AQ hq.cell
 clear hq hh
 go_enter func228,ntmps228
 go_wp2_with fail
 refine(HL.out _).mono ?_
 rintro e w1 ⟨rfl,hx1⟩
 have HQ1:=B0 (HQ.out.on hx1)
 go_wp2_with fail
 refine(HD.out _ HQ1.out).mono ?_
 rintro e w2 ⟨⟨b,rfl⟩,q',hq',hh',hp',hg'⟩
 have HQ2:=B0 hq'
 have HH2:=B0 hh'
 have HP2:=B0 hp'
 have HG2:=B0 ((GB.ext hx1).trans hg')
 clear hq' hh' hp' hg' hx1
 cases b with
 |true=>exact qL
 |false=>go_wp2_with fail;refine(dO _ w2).mono ?_;rintro e w3 ⟨rfl,rfl⟩;exact qL
theorem dQ (qb g n:Nat) (q:List Hp.Sh) (w:World) (hq:QB w qb g n q) (hn:n<=1000000):
 Calls prog 227 #[.iface 252 (.pointer (some ⟨qb,0,none⟩))] w fun e w'=>e=.returned (.tuple #[])∧DnE qb g n 0 q w w':=by
 have HQ:=B0 hq
 have HL:=B0 (fun w'=>AO (some ⟨g,0,none⟩) n n w')
 have hm:=AQ hq.cell
 clear hq
 go_enter func227,ntmps227
 go_wp2_with fail
 refine(HL.out _).mono ?_
 rintro e w1 ⟨rfl,hx1⟩
 have HQ1:=B0 (HQ.out.on hx1)
 have HX1:=B0 hx1
 have HH1:Hid (Hp.Heap Hp.lessS q (n/2)):=B0 (Hp.Heap.last Hp.lessS q WB)
 clear hx1 hm HL
 go_wp2_with fail
 go_loopw [3] (fun t wr=>∃(k:Nat) (q':List Hp.Sh),k<=n∧t=.int .i64 ((k:Int)-1)∧Hid (QB wr qb g n q')∧Hid (Hp.Heap Hp.lessS q' k)∧Hid (q'.Perm q)∧Hid (GB (some g) w wr)) (fun t _=>(intOf t+1).toNat)
 case atStart=>exact⟨n/2,q,by omega,by go_num,HQ1,HH1,B0 (List.Perm.refl _),B0 (GB.ext HX1.out)⟩
 case round=>
 clear HQ HQ1 HX1 HH1
 obtain⟨k,q',hk,rfl,HQ,HH,HP,HG⟩:=hrel
 by_cases hk0:k=0
 ·subst hk0;go_wp2;go_end0;exact⟨rfl,q',HQ.out,HH.out,HP.out,HG.out⟩
 ·obtain⟨j,rfl⟩:∃j,k=j+1:=⟨k-1,by omega⟩;have hjI:((j+1:Nat):Int)-1=(j:Int):=C0;have hj0:(0:Int)<=(j:Int):=C0;rw[hjI];have HD:=B0 (fun w' (h:QB w' qb g n q')=>AR qb g n j q' w' h C0 hn HH.out.near);go_wp2_with fail;refine(HD.out _ HQ.out).mono ?_;rintro e w2 ⟨⟨b,rfl⟩,q2,hq',hh',hp',hg'⟩;have HQ2:=B0 hq';have HH2:=B0 hh';have HP2:=B0 (hp'.trans HP.out);have HG2:=B0 (HG.out.trans hg');clear hq' hh' hp' hg';go_wp2_with fail;go_roundw;(case rel=>exact⟨j,q2,by omega,by go_num,HQ2,HH2,HP2,HG2⟩);case measure=>exact Qr
end
end Go.Proofs.YtbngggoccndefaaGreatDoor
