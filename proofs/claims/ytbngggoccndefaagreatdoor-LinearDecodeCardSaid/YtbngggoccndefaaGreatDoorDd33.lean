/-
  Laid together.
-/
import Derived.Test.YtbngggoccndefaaGreatDoorDd14
import Derived.Test.YtbngggoccndefaaGreatDoorDd32
import Derived.Handy
set_option maxHeartbeats 16000000
set_option maxRecDepth 100000
set_option linter.unusedVariables false
set_option linter.unusedSimpArgs false
set_option linter.ambiguousOpen false
namespace Go.Proofs.YtbngggoccndefaaGreatDoor
open Go.Proofs.Tryz
section
open Go.RowKit
theorem GB.cell {row:Option Nat} {a w:World} (h:GB row a w) {p:Addr} (hp:p.block<a.heap.size) (hne:row≠some p.block):w.cell? p=a.cell? p:=by have:=World.grownBy.block h p.block hp (fun e=>hne e.symm);unfold World.cell?;rw[this]
theorem Zd5 {w:World} {b:Nat} {a:Option Addr} {n c:Nat} (h:w.cell? ⟨b,0,none⟩=some (.slice a n c)):(loadVar 248 ⟨b,0,none⟩).run prog w=.ok (.slice a n c) w:=by simp[loadVar,go_sem,h]
theorem ZeK {w:World} {b:Nat} {a:Option Addr} {n c:Nat} (h:w.cell? ⟨b,0,none⟩=some (.slice a n c)):(method 505 252 (.pointer (some ⟨b,0,none⟩)) "Len").run prog w=.ok (371,.slice a n c) w:=by
 have h0:(method 505 252 (.pointer (some ⟨b,0,none⟩)) "Len").run prog w=(do let r<-loadVar 248 ⟨b,0,none⟩;pure (371,r):Sem (FuncId×Value)).run prog w:=Qdu
 have h1:(do let r<-loadVar 248 ⟨b,0,none⟩;pure (371,r):Sem (FuncId×Value)).run prog w=((loadVar 248 ⟨b,0,none⟩).run prog w).andThen (fun s w'=>.ok (371,s) w'):=by simp[go_sem]
 rw[h0,h1,Zd5 h];rfl
theorem Zbk {w:World} {b:Nat} {a:Option Addr} {n c:Nat} (h:w.cell? ⟨b,0,none⟩=some (.slice a n c)):(method 505 252 (.pointer (some ⟨b,0,none⟩)) "Less").run prog w=.ok (372,.slice a n c) w:=by
 have h0:(method 505 252 (.pointer (some ⟨b,0,none⟩)) "Less").run prog w=(do let r<-loadVar 248 ⟨b,0,none⟩;pure (372,r):Sem (FuncId×Value)).run prog w:=Qdu
 have h1:(do let r<-loadVar 248 ⟨b,0,none⟩;pure (372,r):Sem (FuncId×Value)).run prog w=((loadVar 248 ⟨b,0,none⟩).run prog w).andThen (fun s w'=>.ok (372,s) w'):=by simp[go_sem]
 rw[h0,h1,Zd5 h];rfl
theorem Zcd {w:World} {b:Nat} {a:Option Addr} {n c:Nat} (h:w.cell? ⟨b,0,none⟩=some (.slice a n c)):(method 505 252 (.pointer (some ⟨b,0,none⟩)) "Swap").run prog w=.ok (373,.slice a n c) w:=by
 have h0:(method 505 252 (.pointer (some ⟨b,0,none⟩)) "Swap").run prog w=(do let r<-loadVar 248 ⟨b,0,none⟩;pure (373,r):Sem (FuncId×Value)).run prog w:=Qdu
 have h1:(do let r<-loadVar 248 ⟨b,0,none⟩;pure (373,r):Sem (FuncId×Value)).run prog w=((loadVar 248 ⟨b,0,none⟩).run prog w).andThen (fun s w'=>.ok (373,s) w'):=by simp[go_sem]
 rw[h0,h1,Zd5 h];rfl
structure QB (w:World) (qb g n:Nat) (q:List Hp.Sh):Prop where
 cell:w.cell? ⟨qb,0,none⟩=some (.slice (some ⟨g,0,none⟩) n n)
 lt:qb<w.heap.size
 ne:qb≠g
 at_:QAt w g q
 len:q.length=n
theorem QB.on {w w':World} {qb g n:Nat} {q:List Hp.Sh} (h:QB w qb g n q) (hx:Ext w w'):QB w' qb g n q:=
 ⟨(hx.cell (p:=⟨qb,0,none⟩) h.lt).trans h.cell,Znc h.lt hx.size,h.ne,h.at_.on hx,h.len⟩
theorem QB.turn {w w':World} {qb g n:Nat} {q q':List Hp.Sh} (h:QB w qb g n q) (hg:GB (some g) w w') (hq:QAt w' g q') (hl:q'.length=q.length):QB w' qb g n q':=
 ⟨(hg.cell (p:=⟨qb,0,none⟩) h.lt (fun e=>h.ne (by injection e with e;exact e.symm))).trans h.cell,Znc h.lt hg.size,h.ne,hq,hl.trans h.len⟩
def DnE (qb g n k0:Nat) (q:List Hp.Sh) (w:World) (w':World):Prop:=∃q',QB w' qb g n q'∧Hp.Heap Hp.lessS q' k0∧q'.Perm q∧GB (some g) w w'
theorem ZeE (qb g n i0:Nat) (q:List Hp.Sh) (w:World) (hq:QB w qb g n q) (hi:i0<=n) (hn:n<=1000000) (hh:Hp.Near Hp.lessS q i0 i0):
 Calls prog 262 #[.iface 252 (.pointer (some ⟨qb,0,none⟩)),.int .i64 (i0:Int),.int .i64 (n:Int)] w fun e w'=>(∃b,e=.returned (.bool b))∧DnE qb g n i0 q w w':=by
 have HQ:=ZmE hq
 have HH:=ZmE hh
 clear hq hh
 go_enter func262,ntmps262
 go_wp2_with fail
 go_loopw [7] (fun t wr=>∃(i:Nat) (q':List Hp.Sh),i0<=i∧i<=n∧t=.int .i64 (i:Int)∧Hid (QB wr qb g n q')∧Hid (Hp.Near Hp.lessS q' i0 i)∧Hid (q'.Perm q)∧Hid (GB (some g) w wr)) (fun t _=>n-(intOf t).toNat)
 case atStart=>exact⟨i0,q,ZmK _,hi,rfl,HQ,HH,ZmE (List.Perm.refl _),ZmE (GB.refl _)⟩
 case round=>
 clear HQ HH hi
 obtain⟨i,q',hi0,hin,rfl,HQ,HH,HP,HG⟩:=hrel
 by_cases hj:2*i+1<n
 ·have hjI:¬(n:Int)<=2*(i:Int)+1:=QhN;have hj0:¬2*(i:Int)+1<0:=QhN;obtain⟨x,hxi⟩:∃x,q'[i]? =some x:=⟨_,ZmG Qiq⟩;obtain⟨y1,hy1⟩:∃y,q'[2*i+1]? =some y:=⟨_,ZmG Qiq⟩;have HXI:=ZmE hxi;have HY1:=ZmE hy1;clear hxi hy1;by_cases hj2:2*i+2<n
  ·have hj2I:2*(i:Int)+1+1<(n:Int):=by omega
   obtain⟨y2,hy2⟩:∃y,q'[2*i+2]? =some y:=⟨_,ZmG Qiq⟩
   have HY2:=ZmE hy2
   have HL1:=ZmE (fun w' (h:QB w' qb g n q')=>by have:=ZbE g n (2*i+2) (2*i+1) q' y2 y1 w' h.at_ h.len HY2.out HY1.out QhN;rw[show((2*i+2:Nat):Int)=2*(i:Int)+1+1 by omega,show((2*i+1:Nat):Int)=2*(i:Int)+1 by omega]at this;exact this)
   have hm1:=Zbk HQ.out.cell
   obtain⟨b1,hb1⟩:∃b1,b1=Hp.lessS y2 y1:=⟨_,rfl⟩
   rw[<-hb1]at HL1
   have HB1:=ZmE hb1
   clear hb1 hy2
   go_wp2_with fail
   refine(HL1.out _ HQ.out).mono ?_
   rintro e w2 ⟨rfl,hx2⟩
   have HQ2:=ZmE (HQ.out.on hx2)
   have HX2:=ZmE hx2
   clear hx2 hm1
   cases b1 with
   |false=>
    have HMIN:Hid (∀c,(c=2*i+1∨c=2*i+2)->∀z,q'[c]? =some z->Hp.lessS z y1=false):=ZmE (fun c hc z hz=>by rcases hc with rfl|rfl;(·have e:=HY1.out;exact Qel);·have e:=HY2.out;rw[hz]at e;injection e with e;subst e;exact HB1.out.symm
    )
    have HL2:=ZmE (fun w' (h:QB w' qb g n q')=>by have:=ZbE g n (2*i+1) i q' y1 x w' h.at_ h.len HY1.out HXI.out QhN;rw[show((2*i+1:Nat):Int)=2*(i:Int)+1 by omega]at this;exact this)
    have HS2:=ZmE (fun w' (h:QB w' qb g n q')=>by have:=ZcK g n i (2*i+1) q' x y1 w' h.at_ h.len HXI.out HY1.out QhN QhN;rw[show((2*i+1:Nat):Int)=2*(i:Int)+1 by omega]at this;exact this)
    have hm2:=Zbk HQ2.out.cell
    obtain⟨b2,hb2⟩:∃b2,b2=Hp.lessS y1 x:=⟨_,rfl⟩
    rw[<-hb2]at HL2
    have HB2:=ZmE hb2
    clear hb2
    go_wp2_with fail
    refine(HL2.out _ HQ2.out).mono ?_
    rintro e w3 ⟨rfl,hx3⟩
    have HQ3:=ZmE (HQ2.out.on hx3)
    have HX3:=ZmE (HX2.out.trans hx3)
    have hm3:=Zcd HQ3.out.cell
    clear hx3 hm2
    cases b2 with
    |false=>exact QaW
    |true=>exact Qa4
   |true=>
    have HMIN:Hid (∀c,(c=2*i+1∨c=2*i+2)->∀z,q'[c]? =some z->Hp.lessS z y2=false):=ZmE (fun c hc z hz=>by rcases hc with rfl|rfl;(·have e:=HY1.out;rw[hz]at e;injection e with e;subst e;exact Hp.lessS_as _ _ HB1.out.symm);·have e:=HY2.out;exact Qel
    )
    have HL2:=ZmE (fun w' (h:QB w' qb g n q')=>by have:=ZbE g n (2*i+2) i q' y2 x w' h.at_ h.len HY2.out HXI.out QhN;rw[show((2*i+2:Nat):Int)=2*(i:Int)+1+1 by omega]at this;exact this)
    have HS2:=ZmE (fun w' (h:QB w' qb g n q')=>by have:=ZcK g n i (2*i+2) q' x y2 w' h.at_ h.len HXI.out HY2.out QhN QhN;rw[show((2*i+2:Nat):Int)=2*(i:Int)+1+1 by omega]at this;exact this)
    have hm2:=Zbk HQ2.out.cell
    obtain⟨b2,hb2⟩:∃b2,b2=Hp.lessS y2 x:=⟨_,rfl⟩
    rw[<-hb2]at HL2
    have HB2:=ZmE hb2
    clear hb2
    go_wp2_with fail
    refine(HL2.out _ HQ2.out).mono ?_
    rintro e w3 ⟨rfl,hx3⟩
    have HQ3:=ZmE (HQ2.out.on hx3)
    have HX3:=ZmE (HX2.out.trans hx3)
    have hm3:=Zcd HQ3.out.cell
    clear hx3 hm2
    cases b2 with
    |false=>exact QaW
    |true=>go_wp2_with fail;refine(HS2.out _ HQ3.out).mono ?_;rintro e w4 ⟨rfl,hq4,hg4⟩;have HQ4:=ZmE (HQ3.out.turn hg4 hq4 (Hp.swap_len q' i (2*i+2)));have HG4:=ZmE ((HG.out.trans (GB.ext HX3.out)).trans hg4);have HH4:=ZmE (HH.out.step Hp.lessS_tr Hp.lessS_as hi0 QhN HXI.out HY2.out HB2.out.symm HMIN.out);have HP4:=ZmE ((Hp.swap_perm HXI.out HY2.out).trans HP.out);clear hq4 hg4;go_wp2;go_roundw;(case rel=>exact⟨2*i+2,_,by omega,by omega,by go_num,HQ4,HH4,HP4,HG4⟩);case measure=>exact Qak
  ·have hj2I:¬2*(i:Int)+1+1<(n:Int):=by omega
   have HQ2:=HQ
   have HX2:=ZmE (Ext.refl wr)
   have HMIN:Hid (∀c,(c=2*i+1∨c=2*i+2)->∀z,q'[c]? =some z->Hp.lessS z y1=false):=ZmE (fun c hc z hz=>by have hcl:=(ZmN.1 hz).1;rw[HQ.out.len]at hcl;obtain rfl:c=2*i+1:=QhN;have e:=HY1.out;exact Qel
   )
   have HL2:=ZmE (fun w' (h:QB w' qb g n q')=>by have:=ZbE g n (2*i+1) i q' y1 x w' h.at_ h.len HY1.out HXI.out QhN;rw[show((2*i+1:Nat):Int)=2*(i:Int)+1 by omega]at this;exact this)
   have HS2:=ZmE (fun w' (h:QB w' qb g n q')=>by have:=ZcK g n i (2*i+1) q' x y1 w' h.at_ h.len HXI.out HY1.out QhN QhN;rw[show((2*i+1:Nat):Int)=2*(i:Int)+1 by omega]at this;exact this)
   have hm2:=Zbk HQ2.out.cell
   obtain⟨b2,hb2⟩:∃b2,b2=Hp.lessS y1 x:=⟨_,rfl⟩
   rw[<-hb2]at HL2
   have HB2:=ZmE hb2
   clear hb2
   go_wp2_with fail
   refine(HL2.out _ HQ2.out).mono ?_
   rintro e w3 ⟨rfl,hx3⟩
   have HQ3:=ZmE (HQ2.out.on hx3)
   have HX3:=ZmE (HX2.out.trans hx3)
   have hm3:=Zcd HQ3.out.cell
   clear hx3 hm2
   cases b2 with
   |false=>exact QaW
   |true=>exact Qa4
 ·have hjI:(n:Int)<=2*(i:Int)+1:=QhN;have HD:Hid (Hp.Heap Hp.lessS q' i0):=ZmE (HH.out.done (fun c hc a b ha=>by have:=(ZmN.1 ha).1;rw[HQ.out.len]at this;omega));go_wp2;go_ret;exact⟨⟨_,rfl⟩,q',HQ.out,HD.out,HP.out,HG.out⟩
theorem Zlr (v:Value) (w:World):Calls prog 263 #[v,.int .i64 0] w fun e w'=>e=.returned (.tuple #[])∧w=w':=by
 go_enter func263,ntmps263;go_wp2_with fail;go_loopw [1] (fun t wr=>t=.int .i64 0∧wr=w) (fun _ _=>0);case atStart=>exact Qbg
 case round=>
 obtain⟨rfl,rfl⟩:=hrel;go_wp2;go_end0;exact Qbg
theorem Zkx (qb g n:Nat) (q:List Hp.Sh) (w:World) (hq:QB w qb g n q) (hn:n<=1000000) (hh:Hp.Near Hp.lessS q 0 0):
 Calls prog 228 #[.iface 252 (.pointer (some ⟨qb,0,none⟩)),.int .i64 0] w fun e w'=>e=.returned (.tuple #[])∧DnE qb g n 0 q w w':=by
 have HQ:=ZmE hq
 have HL:=ZmE (fun w'=>Zgm (some ⟨g,0,none⟩) n n w')
 have HD:=ZmE (fun w' (h:QB w' qb g n q)=>ZeE qb g n 0 q w' h (ZmP _) hn hh)
 have hm:=ZeK hq.cell
 clear hq hh
 go_enter func228,ntmps228
 go_wp2_with fail
 refine(HL.out _).mono ?_
 rintro e w1 ⟨rfl,hx1⟩
 have HQ1:=ZmE (HQ.out.on hx1)
 go_wp2_with fail
 refine(HD.out _ HQ1.out).mono ?_
 rintro e w2 ⟨⟨b,rfl⟩,q',hq',hh',hp',hg'⟩
 have HQ2:=ZmE hq'
 have HH2:=ZmE hh'
 have HP2:=ZmE hp'
 have HG2:=ZmE ((GB.ext hx1).trans hg')
 clear hq' hh' hp' hg' hx1
 cases b with
 |true=>exact QfG
 |false=>go_wp2_with fail;refine(Zlr _ w2).mono ?_;rintro e w3 ⟨rfl,rfl⟩;exact QfG
theorem ZiR (qb g n:Nat) (q:List Hp.Sh) (w:World) (hq:QB w qb g n q) (hn:n<=1000000):
 Calls prog 227 #[.iface 252 (.pointer (some ⟨qb,0,none⟩))] w fun e w'=>e=.returned (.tuple #[])∧DnE qb g n 0 q w w':=by
 have HQ:=ZmE hq
 have HL:=ZmE (fun w'=>Zgm (some ⟨g,0,none⟩) n n w')
 have hm:=ZeK hq.cell
 clear hq
 go_enter func227,ntmps227
 go_wp2_with fail
 refine(HL.out _).mono ?_
 rintro e w1 ⟨rfl,hx1⟩
 have HQ1:=ZmE (HQ.out.on hx1)
 have HX1:=ZmE hx1
 have HH1:Hid (Hp.Heap Hp.lessS q (n/2)):=ZmE (Hp.Heap.last Hp.lessS q Qiq)
 clear hx1 hm HL
 go_wp2_with fail
 go_loopw [3] (fun t wr=>∃(k:Nat) (q':List Hp.Sh),k<=n∧t=.int .i64 ((k:Int)-1)∧Hid (QB wr qb g n q')∧Hid (Hp.Heap Hp.lessS q' k)∧Hid (q'.Perm q)∧Hid (GB (some g) w wr)) (fun t _=>(intOf t+1).toNat)
 case atStart=>exact⟨n/2,q,by omega,by go_num,HQ1,HH1,ZmE (List.Perm.refl _),ZmE (GB.ext HX1.out)⟩
 case round=>
 clear HQ HQ1 HX1 HH1
 obtain⟨k,q',hk,rfl,HQ,HH,HP,HG⟩:=hrel
 by_cases hk0:k=0
 ·subst hk0;go_wp2;go_end0;exact⟨rfl,q',HQ.out,HH.out,HP.out,HG.out⟩
 ·obtain⟨j,rfl⟩:∃j,k=j+1:=⟨k-1,by omega⟩;have hjI:((j+1:Nat):Int)-1=(j:Int):=QhN;have hj0:(0:Int)<=(j:Int):=QhN;rw[hjI];have HD:=ZmE (fun w' (h:QB w' qb g n q')=>ZeE qb g n j q' w' h QhN hn HH.out.near);go_wp2_with fail;refine(HD.out _ HQ.out).mono ?_;rintro e w2 ⟨⟨b,rfl⟩,q2,hq',hh',hp',hg'⟩;have HQ2:=ZmE hq';have HH2:=ZmE hh';have HP2:=ZmE (hp'.trans HP.out);have HG2:=ZmE (HG.out.trans hg');clear hq' hh' hp' hg';go_wp2_with fail;go_roundw;(case rel=>exact⟨j,q2,by omega,by go_num,HQ2,HH2,HP2,HG2⟩);case measure=>exact Qak
def arrV (l:List ByteArray):Value:=.agg (l.map Value.string).toArray
theorem ZbS (t:Nat) (ht:t<3) (w:World):Calls prog 181 #[.int .u8 ((65+t:Nat):Int)] w fun e w'=>e=.returned (arrV (Ea.rowB t))∧Ext w w':=by
 have h:t=0∨t=1∨t=2:=by omega
 rcases h with rfl|rfl|rfl;·go_enter func181,ntmps181;go_wp2;go_returns;exact Qcv
 ·go_enter func181,ntmps181;go_wp2;go_returns;exact Qcv
 ·go_enter func181,ntmps181;go_wp2;go_returns;exact Qcv
theorem Zcc (w:World):Calls prog 179 #[] w fun e w'=>e=.returned (arrV Ea.leftB)∧Ext w w':=by go_enter func179,ntmps179;go_wp2;go_returns;exact Qcv
theorem ZcC (c:Int) (h:(c==49)=false) (w:World):Calls prog 180 #[.int .u8 c] w fun e w'=>e=.returned (arrV (Ea.compB 0))∧Ext w w':=by go_enter func180,ntmps180;go_wp2;go_returns;exact Qcv
theorem Za9 (v:Value) (m:List Bool) (w:World) (hv:SlK w v (m.map encT)) (hm:m.length<=1000000):
 Calls prog 42 #[v] w fun e w'=>e=.returned (.tuple #[.int .i64 (Ea.ldg m:Int),.int .i64 (Ea.trl m:Int)])∧w=w':=by
 obtain⟨hsl,a,c,rfl,_⟩:=hv
 rw[ZmI]at hsl⊢
 have HV:=ZmE hsl
 clear hsl
 go_enter func42,ntmps42
 go_wp2
 go_loop [2] (fun i=>∃k:Nat,k<=m.length∧i=.int .i64 (k:Int)∧Hid (Ea.ldg (m.drop k)+k=Ea.ldg m)) (fun i=>m.length-(intOf i).toNat)
 case atStart=>exact QaF
 case round=>
  obtain⟨k,hk,rfl,hl⟩:=hrel;by_cases hlt:k<m.length
  ·obtain⟨bb0,off0,ha0,hbl0,hc00⟩:=HV.out.at_ (k:=k) Qia
   subst ha0
   rw[ZnO]at hc00
   unfold encT at hc00
   obtain⟨b,hb⟩:∃b,m[k]=b:=⟨_,rfl⟩
   rw[hb]at hc00
   have hl2:=hl.out
   rw[Zn3 hlt,hb]at hl2
   have HL2:=ZmE hl2
   clear hl2 hl hb
   cases b with
   |true=>have HL:Hid (((Ea.ldg m:Nat):Int)=(k:Int)):=ZmE Qiu;clear HL2;go_wp2;go_loop [3] (fun i=>∃j:Nat,j<=m.length∧i=.int .i64 (j:Int)∧Hid (Ea.ldg (m.reverse.drop j)+j=Ea.trl m)) (fun i=>m.length-(intOf i).toNat);(case atStart=>exact QaF);case round=>exact QY
   |false=>exact Qck
  ·obtain rfl:k=m.length:=QhN;have HL:Hid (((Ea.ldg m:Nat):Int)=(m.length:Int)):=ZmE QiD;clear hk hlt hl;go_wp2;go_loop [3] (fun i=>∃j:Nat,j<=m.length∧i=.int .i64 (j:Int)∧Hid (Ea.ldg (m.reverse.drop j)+j=Ea.trl m)) (fun i=>m.length-(intOf i).toNat);(case atStart=>exact QaF);case round=>exact Q3
attribute [local go_sem] Oper.semAt_some
theorem Zie (a:Option Addr) (n c:Nat) (w:World):
 Calls prog 85 #[.slice a n c] w fun e w'=>e=.returned (.func (.func 152) #[] #[.pointer (some ⟨w.heap.size,0,none⟩)])∧w'=w.alloc (.cells #[.slice a n c] 26):=by
 have hmf:∀(fn:Fn) (first cap:Array Value) (w:World),(Instr.makeFunc fn first cap).run prog w=.ok (.func fn first cap) w:=fun _ _ _ _=>rfl
 go_enter func85,ntmps85
 go_wp2
 go_ret
 exact⟨rfl,rfl⟩
def KeepsBox (n₀ Bn:Nat) (v:Value) (W W':World):Prop:=Below n₀ W W'∧(Boxed W Bn 26 v->Boxed W' Bn 26 v)
theorem KeepsBox.t {n₀ Bn:Nat} {v:Value} {A B C:World} (h:KeepsBox n₀ Bn v A B) (k:KeepsBox n₀ Bn v B C):KeepsBox n₀ Bn v A C:=⟨h.1.trans k.1,fun x=>k.2 (h.2 x)⟩
theorem KeepsBox.b {n₀ Bn:Nat} {v:Value} {w:World} (hn:n₀<=w.heap.size) (W:World) (l:Nat) (o o':Obj) (hl:w.heap.size<=l) (h:W.heap[l]? =some o) (h1:o.isCells=false) (h2:o.isWalk=false):KeepsBox n₀ Bn v W (W.putObj l o'):=
 ⟨belowK_b hn W l o o' hl h h1 h2,fun x=>x.kept (grownBy_putObj' W l o') (fun e=>by injection e with e;subst e;rw[show W.heap[Bn]? =_ from x]at h;injection h with h;subst h;cases h1)⟩
theorem KeepsBox.ext {n₀ Bn:Nat} {v:Value} {W W':World} (hn:n₀<=W.heap.size) (h:Ext W W'):KeepsBox n₀ Bn v W W':=⟨Below.mono h hn,fun x=>x.kept h.asGrown QhQ⟩
theorem Zid (n:Nat) (hn:1<=n) (l Bn n₀:Nat) (v:Value) (m:List Bool) (hm:m.length<=1000000) (w0:World) (hv:SlK w0 v (m.map encT)) (hw0:w0.heap.size<=n₀) (J Jx:List Nat->World->Prop)
 (hY:∀(pre:List Nat) (x:Nat) (W:World),J pre W->pre.length<m.length->YieldAt Fence.wide (n-1) prog l #[.int .i64 (x:Int)] W fun e W'=>(e=.returned (.bool true)∧J (pre++[x]) W'∧KeepsBox n₀ Bn v W W')∨(e=.returned (.bool false)∧Jx (pre++[x]) W'))
 (W:World) (hX:Ext w0 W) (hn0:n₀<=W.heap.size) (hBn:Boxed W Bn 26 v) (hJn:AbidesFrom W.heap.size J) (h0:J [] W):
 CallsIn Fence.wide n prog 152 #[.func (.yield l) #[] #[],.pointer (some ⟨Bn,0,none⟩)] W fun e W'=>(∃v,e=.returned v)∧
  ((∃ys,ys=Rn.widthsN m∧J ys W')∨(∃pre,pre<+:Rn.widthsN m∧Jx pre W')):=by
 have hvW:=hv.ext hX
 have HMG:=ZmE (Za9 v m W hvW hm)
 obtain⟨hsl,a,c,rfl,-⟩:=hv
 rw[ZmI]at hsl HMG hBn
 obtain⟨nn,hnn⟩:∃nn,nn=m.length:=⟨_,rfl⟩
 obtain⟨hla,hlb⟩:=Rn.ldg_len m
 have hrc:=Rn.rest_core m
 simp only[ZmI]at hY
 simp only[<-hnn]at hY
 rw[<-hnn]at hsl HMG hm hla hlb hrc hBn
 obtain⟨A,hA⟩:∃A,A=Ea.ldg m:=⟨_,rfl⟩
 obtain⟨B,hB⟩:∃B,B=Ea.trl m:=⟨_,rfl⟩
 rw[<-hA]at HMG hla hrc
 rw[<-hB]at HMG hlb hrc
 have hne:A=nn∨(A<nn∧A+B<nn):=by rcases Rn.row_split m with⟨_,_,h3,_⟩|⟨q,h1,_,h3⟩;(·left;rw[hA,h3,hnn]);·right;have h4:=Znb List.length h3;rw[ZmM,ZmM,Zns,Zns,h1,ZmQ]at h4;omega
 obtain⟨E,hE⟩:∃E,E=nn-B:=⟨_,rfl⟩
 rw[<-hE]at hrc
 have hEI:(nn:Int)-(B:Int)=(E:Int):=by omega
 have hEn:E<=nn:=by omega
 have HV:=ZmE hsl
 have HRC:=ZmE hrc
 have HY:=ZmE hY
 have HJ:=ZmE hJn
 have HTL:Hid ((m.take E).length=E):=ZmE QhS
 have HTE:Hid (∀(i:Nat) (b:Bool),(m.take E)[i]? =some b->m[i]? =some b):=ZmE (fun i b h=>by rw[Zog]at h;split at h;(·exact h);·cases h)
 generalize Rn.widthsN m=res at*
 generalize m.take E=mE at*
 have H0:=ZmE h0
 have HX:=ZmE hX
 clear hnn hsl hrc hA hB hE hlb hY hJn h0 hX
 have hbn:=hBn.cell
 refine callsIn_of_wp func152 rfl trivial ?_ rfl
 simp only[ntmps152,List.size_toArray,ZmQ,ZnE,Nat.reduceAdd,Nat.reduceSub,Array.replicate_succ,Array.replicate_zero,List.push_toArray,List.append_toArray,Zod,Zny]
 rcases hne with hne|⟨hne,hAB⟩
 ·have zA:((A:Int)==(nn:Int))=true:=Znj.2 QhN
  gi_wp2_with fail
  refine⟨trivial,?_⟩
  refine(ZqC.2 HMG.out).mono ?_
  rintro e w1 ⟨rfl,rfl⟩
  gi_wp2
  refine Zng (Zq9 rfl _ _ _) rfl ?_
  exact⟨⟨_,rfl⟩,.inl ⟨[],by rw[HRC.out,ZnD Qiw];rfl,H0.out⟩⟩
 ·have zA:((A:Int)==(nn:Int))=false:=ZmJ.2 QhN
  have hAE:A<E:=by omega
  gi_wp2_with fail
  refine⟨trivial,?_⟩
  refine(ZqC.2 HMG.out).mono ?_
  rintro e w1 ⟨rfl,rfl⟩
  gi_wp2_with fail
  gi_loopw [6,7] (fun s k wr=>∃(st i:Nat) (pre:List Nat),s=.int .i64 (st:Int)∧k=.int .i64 (i:Int)∧st<i∧i<=E+1∧pre.length<=st∧Hid (res=pre++(if i<=E then Rn.rest (i-1-st) (mE.drop (i-1))else []))∧Hid (mE[st]? =mE[i-1]?∨i=E+1)∧Hid (J pre wr)∧Hid (Below n₀ W wr)∧Hid (Boxed wr Bn 26 (.slice a nn c))) (fun _ k _=>E+1-(intOf k).toNat)
  case atStart=>exact⟨A,A+1,[],rfl,by go_num,by omega,by omega,ZmP _,ZmE (by rw[ZmH QhN,HRC.out,Zpg,ZnM];rfl),ZmE (.inl rfl),H0,ZmE (ZpM _ _),ZmE hBn⟩
  case round=>
   obtain⟨st,i,pre,rfl,rfl,hsi,hiE,hpl,HR,HS,HJp,HB,HBX⟩:=hrel;have hXw:Ext w0 wr:=Zpm (B:=w0.heap.size) HX.out (HB.out.mono hw0);have hsw:n₀<=wr.heap.size:=ZnF hn0 HB.out.size;have hbx:=HBX.out.cell;by_cases hle:i<=E
   ·have hleI:(i:Int)<=(E:Int):=QhN;obtain⟨cb,hcb⟩:∃cb,mE[i-1]? =some cb:=⟨_,ZmG Qiw⟩;have hst:mE[st]? =some cb:=(by rcases HS.out with h|h;(·rw[h,hcb]);·omega);have hdi:mE.drop (i-1)=cb::mE.drop i:=(by obtain⟨h1,h2⟩:=ZmN.1 hcb;rw[Zn3 h1,h2,show i-1+1=i by omega]);have hrr:=HR.out;rw[ZmH hle,hdi]at hrr;obtain⟨x,hx⟩:∃x,x=i-1-st+1:=⟨_,rfl⟩;have hxI:(i:Int)-(st:Int)=(x:Int):=QhN;have hpn:pre.length<nn:=QhN;have hpl2:(pre++[x]).length<=i:=QbW;by_cases hlt:i<E
    ·have hltI:(i:Int)<(E:Int):=QhN;obtain⟨db,hdb⟩:∃db,mE[i]? =some db:=⟨_,ZmG Qiw⟩;have hdj:mE.drop i=db::mE.drop (i+1):=Qhz;obtain⟨b,o,ha,hb,c0⟩:=HV.out.bool_at hXw (HTE.out _ _ hst);subst ha;obtain⟨b',o',ha',hb',c1⟩:=HV.out.bool_at hXw (HTE.out _ _ hdb);injection ha' with ha';injection ha' with h1 h2;subst h1 h2;have hin:(i:Int)<(nn:Int):=QhN;have hsn:(st:Int)<(nn:Int):=QhN;rw[hdj,Rn.rest_two,<-hx]at hrr;by_cases hd:db=cb
     ·have HR2:Hid (res=pre++(if i+1<=E then Rn.rest (i+1-1-st) (mE.drop (i+1-1))else [])):=ZmE (by rw[ZmH QhN,hrr,ZmH hd,Zpg,hdj,show i-st=x by omega])
      have HS2:Hid (mE[st]? =mE[i+1-1]?∨i+1=E+1):=ZmE (.inl (by rw[Zpg,hst,hdb,hd]))
      subst hd
      have hd9:decide ((i:Int)<(E:Int))=true:=ZmR hltI
      clear hcb hst hdi hrr hdb hdj hx hle hlt HR HS hpl2
      gi_wp2_with fail
      gi_quiet_th (fail)
      have HJq:Hid (J pre (wr.drewN nq)):=ZmE (HJ.out _ _ _ none HJp.out (Ext.asGrown ((Ext.refl _).drewN _)) (fun r e=>by cases e))
      have HBq:Hid (Below n₀ W (wr.drewN nq)):=ZmE (Zpm HB.out (Below.mono ((Ext.refl wr).drewN nq) hsw))
      have HBXq:Hid (Boxed (wr.drewN nq) Bn 26 _):=ZmE (HBX.out.kept (Ext.asGrown ((Ext.refl wr).drewN nq)) QhQ)
      clear HJp HB HBX
      gi_wp2
      go_roundw
      case rel=>exact⟨st,i+1,pre,rfl,by go_num,by omega,by omega,hpl,HR2,HS2,HJq,HBq,HBXq⟩
      case measure=>exact Qak
     ·have zd:(db==cb)=false:=by cases db<;>cases cb<;>first|rfl|exact absurd rfl hd
      rw[ZmF hd]at hrr
      have HRE:Hid ((pre++[x])++Rn.rest 0 (db::mE.drop (i+1))=res):=ZmE (by rw[hrr,Znu];rfl)
      have HR2:Hid (res=(pre++[x])++(if i+1<=E then Rn.rest (i+1-1-i) (mE.drop (i+1-1))else [])):=ZmE (by rw[ZmH QhN,<-HRE.out,Zpg,ZnM,hdj])
      have HS2:Hid (mE[i]? =mE[i+1-1]?∨i+1=E+1):=ZmE (.inl rfl)
      have hd9:decide ((i:Int)<(E:Int))=true:=ZmR hltI
      clear hcb hst hdi hrr hdb hdj hx hle hlt HR HS hd
      gi_wp2_with fail
      gi_quiet_th (fail)
      obtain⟨fn,tmps,assign,body,hy,hR⟩:=HY.out pre x (wr.drewN nq) (HJ.out _ _ _ none HJp.out (Ext.asGrown ((Ext.refl _).drewN _)) (fun r e=>by cases e)) hpn
      gi_wp2
      refine hR.mono ?_
      rintro e W3 (⟨rfl,hJ3,hk3⟩|⟨rfl,hJx3⟩)
      ·have HJ3:=ZmE hJ3
       have HK3:=(KeepsBox.ext hsw ((Ext.refl wr).drewN nq)).t hk3
       have HB3:=ZmE (Zpm HB.out HK3.1)
       have HBX3:=ZmE (HK3.2 HBX.out)
       clear HK3
       clear hJ3 hk3 hR hy HJp HB HBX
       gi_wp2
       go_roundw
       case rel=>exact QdY
       case measure=>exact Qak
      ·have HJ3:=ZmE hJx3
       clear hJx3 hR hy HJp HB HBX
       gi_wp2
       refine Zng (Zq9 rfl _ _ _) rfl ?_
       exact⟨⟨_,rfl⟩,.inr ⟨pre++[x],⟨_,HRE.out⟩,HJ3.out⟩⟩
    ·obtain rfl:i=E:=by omega
     have h0:mE.drop i=[]:=ZnD (by rw[HTL.out];exact ZmK _)
     rw[h0,Rn.rest_one,<-hx]at hrr
     have HRE:Hid ((pre++[x])++[]=res):=ZmE (by rw[hrr,ZnC])
     have HR2:Hid (res=(pre++[x])++(if i+1<=i then Rn.rest (i+1-1-i) (mE.drop (i+1-1))else [])):=ZmE (by rw[ZmF QhN,hrr,ZnC])
     have HS2:Hid (mE[i]? =mE[i+1-1]?∨i+1=i+1):=ZmE (.inr rfl)
     have hd9:decide ((i:Int)<(i:Int))=false:=ZmS QhN
     clear hcb hst hdi hrr hx hle hlt HR HS h0
     gi_wp2_with fail
     gi_quiet_th (fail)
     obtain⟨fn,tmps,assign,body,hy,hR⟩:=HY.out pre x (wr.drewN nq) (HJ.out _ _ _ none HJp.out (Ext.asGrown ((Ext.refl _).drewN _)) (fun r e=>by cases e)) hpn
     gi_wp2
     refine hR.mono ?_
     rintro e W3 (⟨rfl,hJ3,hk3⟩|⟨rfl,hJx3⟩)
     ·have HJ3:=ZmE hJ3
      have HK3:=(KeepsBox.ext hsw ((Ext.refl wr).drewN nq)).t hk3
      have HB3:=ZmE (Zpm HB.out HK3.1)
      have HBX3:=ZmE (HK3.2 HBX.out)
      clear HK3
      clear hJ3 hk3 hR hy HJp HB HBX
      gi_wp2
      go_roundw
      case rel=>exact QdY
      case measure=>exact Qak
     ·have HJ3:=ZmE hJx3
      clear hJx3 hR hy HJp HB HBX
      gi_wp2
      refine Zng (Zq9 rfl _ _ _) rfl ?_
      exact⟨⟨_,rfl⟩,.inr ⟨pre++[x],⟨_,HRE.out⟩,HJ3.out⟩⟩
   ·obtain rfl:i=E+1:=by omega
    have HRF:Hid (pre=res):=ZmE (by rw[HR.out,ZmF QhN,ZnC])
    clear hle HR HS
    gi_wp2
    go_end0
    exact⟨⟨_,rfl⟩,.inl ⟨pre,HRF.out,HJp.out⟩⟩
theorem ZfG (n:Nat) (hn:1<=n) (Bn n₀:Nat) (v:Value) (m:List Bool) (hm:m.length<=1000000) (w0 w:World) (hv:SlK w0 v (m.map encT)) (hw0:w0.heap.size<=n₀) (hX:Ext w0 w) (hn0:n₀<=w.heap.size) (hBn:Boxed w Bn 26 v):
 SeqStopsK Fence.wide n prog 152 #[.pointer (some ⟨Bn,0,none⟩)] (fun x:Nat=> #[Value.int .i64 (x:Int)]) (KeepsBox n₀ Bn v) (fun ys=>ys=Rn.widthsN m) (fun pre=>pre<+:Rn.widthsN m) m.length w:=fun l J Jx W hW hJ _ hY h0=>
 Zid n hn l Bn n₀ v m hm w0 hv hw0 J Jx hY W (hX.trans hW) (ZnF hn0 hW.size) (hBn.kept (Ext.asGrown hW) QhQ) hJ h0
theorem Rn.infoI:(prog.info? 3).map (fun i=>(i.zero,i.size,i.bytes))=some (some (.int .i64 0),1,8):=Qdu
theorem ZbH (v:Value) (m:List Bool) (w:World) (hv:SlK w v (m.map encT)) (hm:m.length<=1000000):
 Calls prog 41 #[v] w fun e w'=>∃u,e=.returned u∧SlK w' u ((Rn.widths m).map encI)∧Ext w w':=by
 obtain⟨i0,hi,hz0,hz1,hz2⟩:=ZoJ Rn.infoI
 obtain⟨hsl,a,c,hvv,hcc⟩:=id hv
 refine(ZqC (n:=4)).1 ?_
 refine callsIn_of_wp_marks func41 rfl trivial ?_ rfl
 simp only[ntmps41,List.size_toArray,ZmQ,ZnE,Nat.reduceAdd,Nat.reduceSub,Array.replicate_succ,Array.replicate_zero,List.push_toArray,List.append_toArray,Zod,Zny]
 subst hvv
 gi_wp2_with fail
 refine⟨trivial,?_⟩
 refine(ZqC.2 (Zie _ _ _ _)).mono ?_
 rintro e w1 ⟨rfl,rfl⟩
 gi_wp2_with fail
 have bO:=Boxed.new w 43 (.slice none 0 0)
 have bN:=Boxed.new (w.alloc (.cells #[.slice none 0 0] 43)) 26 (.slice a (m.map encT).length c)
 rw[Zpt]at bN
 have hB0:Below w.heap.size w ((w.alloc (.cells #[.slice none 0 0] 43)).alloc (.cells #[.slice a (m.map encT).length c] 26)):=((ZpM _ w).alloc (ZmK _) _).alloc QhQ _
 have hsz0:((w.alloc (.cells #[.slice none 0 0] 43)).alloc (.cells #[.slice a (m.map encT).length c] 26)).heap.size=w.heap.size+2:=by simp
 obtain⟨W0,hW0⟩:∃W0,W0=(w.alloc (.cells #[.slice none 0 0] 43)).alloc (.cells #[.slice a (m.map encT).length c] 26):=⟨_,rfl⟩
 rw[<-hW0]at bN hB0 hsz0
 have bO2:Boxed W0 w.heap.size 43 (.slice none 0 0):=by rw[hW0];exact bO.alloc _
 simp only[ZmI]at hW0 bN
 try simp only[ZmI]
 rw[<-hW0]
 refine wpIn_rangeFunc_ownG rfl QhN (gf:=152) (lb:= #[.pointer (some ⟨w.heap.size+1,0,none⟩)]) rfl trivial (enters_of func152 QhO rfl)
  (ZfG 3 QhN (w.heap.size+1) w.heap.size _ m hm w W0 hv (ZmK _) hB0 QhN (by rw[ZmI];exact bN)) KeepsBox.t (KeepsBox.b QhN) (ZpM _ _) (fun _=>rfl)
  (fun pre W=>(∃v,Boxed W w.heap.size 43 v∧W.ownsRow w.heap.size 3 1 v pre.length (pre.map fun(x:Nat)=>Value.int .i64 (x:Int))∧True)∧Below w.heap.size W0 W)
  (fun _ _ _=>False)
  (OwnFrom.and (Own.from (holdsRow_own w.heap.size w.heap.size 43 3 1 (fun pre:List Nat=>pre.length) (fun pre=>pre.map fun(x:Nat)=>Value.int .i64 (x:Int)) (fun _ _=>True)) _) (ownFrom_below QhN QhN))
  (fun _ _ _ _ _ hs _ _=>hs)
  ⟨⟨_,bO2,ZpQ _ _ _ _,trivial⟩,ZpM _ _⟩
  (fun x=> {tmps:= #[.slice a m.length c,undef,.slice none 0 0,.pointer (some ⟨w.heap.size,0,none⟩),.int .i64 (x:Int),.slice a m.length c,.func (.func 152) #[] #[.pointer (some ⟨w.heap.size+1,0,none⟩)],.int .i64 (x:Int),undef,undef,undef,undef,undef],defers:=[]}) ?assign ?body ?done ?stop
 case assign=>
  intro l x W K hK
  gi_wp2
  exact hK
 case body=>
  rintro l pre x W ⟨⟨v,hv,hrow,-⟩,hB⟩ hlt
  have hc:=hv.cell
  have hmx:pre.length+1<=maxLen:=ZnF (m:=1000001) QhN QhP
  have hmb:(pre.length+1)*8<=140737488355328:=by omega
  have hsw:w.heap.size<=W.heap.size:=by have:=hB.size;omega
  gi_wp2_with (gi_at_builtin;refine wpListIn_append_own _ rfl _ _ 43 rfl w.heap.size 3 i0 (.int .i64 0) 1 8 underlying43 hi hz0 hz1 hz2 rfl QhP _ _ _ rfl (hrow.alloc _) ⟨W.heap.size,0,none⟩ 1 1 [.int .i64 (x:Int)] rfl rfl (cell_one_new _ _ _) (by simp[Value.oneCell']) hmx hmb (by rw[Zpt];omega) ?_;intro v' w1 hown' hgrow _;obtain⟨g',cap',rfl⟩:=ownsRow_succ hown';obtain⟨hv1,hv2,hr2,hk2,hb2⟩:=hv.appended QhP hrow hsw (ZmK _) hown' hgrow;have hc1:=hv1.cell;have hf1:=hv1.frozen;have hbx2:=fun(x:Boxed W (w.heap.size+1) 26 (.slice a m.length c))=>(((x.alloc _).kept hgrow (x.not_row QhP hrow)).kept (grownBy_setCell' w1 w.heap.size (.slice (some ⟨g',0,none⟩) (pre.length+1) cap')) QhQ))
  refine⟨hk2.from _,⟨hb2,by rw[ZmI];exact hbx2⟩,⟨_,hv2,by simpa using hr2,trivial⟩,hB.trans hb2⟩
 case done=>
  rintro D ys W hD rfl ⟨⟨v,hv,hrow,-⟩,hB⟩ hK
  have hc:=hv.cell
  gi_wp2
  refine⟨by simp,.inl ⟨_,_,rfl,run_takeDeferred hK,?_⟩⟩
  have hrow2:=ownsRow_putObj hrow (.deferred none) hK rfl
  refine⟨_,results_tmp rfl _ _ _,v,rfl,?_,?_⟩
  ·have ho:Own 3 (W.putObj D (.deferred none)) w.heap.size v ((Rn.widths m).map encI):=(by unfold Own;have e:(Rn.widths m).map encI=(Rn.widthsN m).map fun(x:Nat)=>Value.int .i64 (x:Int):=(by unfold Rn.widths;rw[Zos];rfl);rw[e,ZmI];exact hrow2);exact ho.slk
  ·exact Zpm (Zpm hB0 hB) (belowK_b (w:=w) (ZmK _) W D _ _ QhN hK rfl rfl)
 case stop=>rintro D c pre W _ _ h _;exact h.elim
end
end Go.Proofs.YtbngggoccndefaaGreatDoor
