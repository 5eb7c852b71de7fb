/-
  Laid.
-/
import Derived.Test.YtbngggoccndefaaGreatDoorRt13
import Derived.Test.YtbngggoccndefaaGreatDoorRt29
import Derived.Test.YtbngggoccndefaaGreatDoorRt30
set_option maxHeartbeats 8000000
set_option maxRecDepth 100000
set_option linter.all false
namespace Go.Proofs.YtbngggoccndefaaGreatDoor
open Go.Proofs.Tryz
section
open Go.RowKit
theorem WH (w:World) (n:Nat) (B:Nat) (hn:n<=1000000) (hB:B<=w.heap.size):∃w',(Instr.makeSlice 43 (.int .i64 (n:Int)) (.int .i64 (n:Int))).run prog w=.ok (.slice (some ⟨w.heap.size,0,none⟩) n n) w'∧Own 3 w' B (.slice (some ⟨w.heap.size,0,none⟩) n n) ((List.replicate n (0:Int)).map encI)∧Ext w w':=by
 obtain⟨i0,hi,hz0,hz1,hz2⟩:=C5 XI;obtain⟨w',h1,h2,h3⟩:=PQ (P:=prog) w B 43 3 i0 (.int .i64 0) 1 underlying43 hi hz0 hz1 .i64 .i64 n UU UV hB;refine⟨w',h1,?_,(Ext.refl w).ofGrown h3 (fun k hk=>by cases hk)⟩;unfold Own;rw[N0,C3];have e:(madeCells (Value.int .i64 0).cells (n*1)).toList=(List.replicate n (0:Int)).map encI:=xC
 rw[<-e];exact h2
theorem Own.intAt {w:World} {B g n c:Nat} {xs:List Int} (h:Own 3 w B (.slice (some ⟨g,0,none⟩) n c) (xs.map encI)) {i:Nat} (hi:i<xs.length):∃x,w.cell? ⟨g,i,none⟩=some (.int .i64 x)∧w.frozen? ⟨g,i,none⟩=false:=by
 rcases h.2 with⟨h1,_⟩|⟨g',cap,cur,h1,hb,hg,_,_,hcs,ht⟩;·cases h1
 ·injection h1 with h2;injection h2 with h2;injection h2 with h2;subst h2;refine⟨xs[i],?_,by simp[World.frozen?,hg]⟩;have e:cur.toList[i]? =some (encI xs[i]):=xD;unfold encI at e;simp only[World.cell?,hg];simpa using e
theorem Own.putI {w:World} {B g n c:Nat} {xs:List Int} (h:Own 3 w B (.slice (some ⟨g,0,none⟩) n c) (xs.map encI)) (i:Nat) (x:Int):Own 3 (w.setCell ⟨g,i,none⟩ (.int .i64 x)) B (.slice (some ⟨g,0,none⟩) n c) ((xs.set i x).map encI)∧w.grownBy (w.setCell ⟨g,i,none⟩ (.int .i64 x)) (some g):=by
 have hn:n=(xs.map encI).length:=xE
 subst hn;obtain⟨h1,h2⟩:=World.ownsRow.stored h i (.int .i64 x);refine⟨?_,h2⟩;unfold Own;rw[List.map_set,O6];exact h1
def Cc.widOf (v:Nat):List Int:=if v=106 then Cc.stopP else Cc.pats.getD v []
def Cc.byt (x:Int):UInt8:=UInt8.ofNat (48+x.toNat)
def Cc.patB:List UInt8:=Cc.pats.flatMap fun p=>p.map Cc.byt
theorem Cc.pat_cut (P:ByteArray) (h:P.data.toList=Cc.patB) (lo hi:Nat):(P.extract lo hi).data.toList=(Cc.patB.drop lo).take (hi-lo):=by rw[Z0,h]
theorem Cc.pat_at:∀v:Nat,v<106->(Cc.patB.drop (v*6)).take 6=(Cc.pats.getD v []).map Cc.byt:=Y1
theorem Cc.pat_in:∀v:Nat,v<106->(Cc.pats.getD v []).length=6∧∀x∈Cc.pats.getD v [],0<=x∧x<=9:=Y1
theorem JA (v:Nat) (w:World) (hv:v<=106):
 Calls prog 115 #[.int .i64 (v:Int)] w fun e w'=>∃u,e=.returned u∧SlK w' u ((Cc.widOf v).map encI)∧Ext w w':=by
 obtain⟨lo,hlo⟩:∃lo,lo=v*6:=⟨_,rfl⟩
 obtain⟨hi,hhi⟩:∃hi,hi=(v+1)*6:=⟨_,rfl⟩
 obtain⟨res,hres⟩:∃res,res=Cc.widOf v:=⟨_,rfl⟩
 rw[<-hres]
 by_cases h6:v=106
 ·subst h6;obtain⟨ws,hws⟩:∃ws,ws=Cc.stopP:=⟨_,rfl⟩;have HRES:Hid (res=ws):=B0 (by rw[hres,hws];rfl);have hwl:ws.length=7:=(by rw[hws];rfl);have hdg:∀x∈ws,0<=x∧x<=9:=(by rw[hws];decide);have HXE0:Hid ((⟨#[50,51,51,49,49,49,50]⟩:ByteArray).data.toList=ws.map Cc.byt):=B0 (by rw[hws];rfl);clear hlo hhi hres hws;obtain⟨wm,hmk,hOm,hXm⟩:=WH w 7 w.heap.size C0 (I0 _);have hmk:(Instr.makeSlice 43 (.int .i64 7) (.int .i64 7)).run prog w=_:=hmk;have HOm:=B0 hOm;have HXm:=B0 hXm;clear hOm hXm;go_enter func115,ntmps115;go_wp2_with fail;generalize hX:(⟨#[50,51,51,49,49,49,50]⟩:ByteArray)=X at*;have hXE:X.data.toList=ws.map Cc.byt:=(by rw[<-hX];exact HXE0.out);clear hX;have HXE:=B0 hXE;have hXs:X.size=7:=(by rw[<-Za,hXE,N0,hwl]);have HWL:=B0 hwl;have HDG:=B0 hdg;clear hXE hwl hdg;go_loopw [19] (fun t wr=>∃i:Nat,i<=7∧t=.int .i64 (i:Int)∧Hid (Own 3 wr w.heap.size (.slice (some ⟨w.heap.size,0,none⟩) 7 7) ((ws.take i++List.replicate (7-i) (0:Int)).map encI))∧Hid (Ext w wr)) (fun t _=>7-(intOf t).toNat);(case atStart=>exact PP);case round=>clear HOm HXm hmk;obtain⟨i,hi,rfl,HO,HX⟩:=hrel;by_cases hlt:i<7;(·have hiI:(i:Int)<7:=C0;obtain⟨x,hxi⟩:∃x,ws[i]? =some x:=⟨_,P0 (by rw[HWL.out];exact hlt)⟩;have hx:=HDG.out x (I1 hxi);have hXl:i<X.size:=(by rw[hXs];exact hlt);have hXi:X[i]'hXl=UInt8.ofNat (48+x.toNat):=xF;have hyn:(UInt8.ofNat (48+x.toNat)).toNat=48+x.toNat:=(by rw[JB];omega);obtain⟨c0,hc0,hf0⟩:=Own.intAt HO.out (i:=i) xG;have hst:=Own.putI HO.out i x;have e:(ws.take i++List.replicate (7-i) (0:Int)).set i x=ws.take (i+1)++List.replicate (7-(i+1)) (0:Int):=(by rw[Z2 hxi,PR _ _ O5,L1,H6 (by rw[HWL.out];omega),O3,G1];congr 1;rw[show 7-i=(7-(i+1))+1 by omega,D4];rfl);exact xH);·obtain rfl:i=7:=C0;exact xI
 ·have z6:((v:Int)==106)=false:=V0.2 C0;have hloI:(v:Int)*6=(lo:Int):=C0;have hhiI:((v:Int)+1)*6=(hi:Int):=C0;have hlh:lo<=hi:=C0;have hh9:hi<=636:=C0;have hlhI:(lo:Int)<=(hi:Int):=C0;have hh9I:(hi:Int)<=636:=C0;have hd6:hi-lo=6:=C0;obtain⟨ws,hws⟩:∃ws,ws=Cc.pats.getD v []:=⟨_,rfl⟩;have HRES:Hid (res=ws):=B0 (by rw[hres,hws,Cc.widOf,D0 h6]);obtain⟨hwl,hdg⟩:=Cc.pat_in v C0;rw[<-hws]at hwl hdg;have HPA:Hid ((Cc.patB.drop lo).take (hi-lo)=ws.map Cc.byt):=B0 (by rw[hd6,hlo,hws];exact Cc.pat_at v C0);clear hlo hhi h6 hres hws;obtain⟨wm,hmk,hOm,hXm⟩:=WH w 6 w.heap.size C0 (I0 _);have hmk:(Instr.makeSlice 43 (.int .i64 6) (.int .i64 6)).run prog w=_:=hmk;have HOm:=B0 hOm;have HXm:=B0 hXm;clear hOm hXm;go_enter func115,ntmps115;go_wp2_with fail;generalize hX:(_:ByteArray).extract lo hi=X at*;have hXE:X.data.toList=ws.map Cc.byt:=(by rw[<-hX];exact(Cc.pat_cut _ M0 lo hi).trans HPA.out);clear hX;have HXE:=B0 hXE;have hXs:X.size=6:=(by rw[<-Za,hXE,N0,hwl]);have HWL:=B0 hwl;have HDG:=B0 hdg;clear hXE hwl hdg;go_loopw [19] (fun t wr=>∃i:Nat,i<=6∧t=.int .i64 (i:Int)∧Hid (Own 3 wr w.heap.size (.slice (some ⟨w.heap.size,0,none⟩) 6 6) ((ws.take i++List.replicate (6-i) (0:Int)).map encI))∧Hid (Ext w wr)) (fun t _=>6-(intOf t).toNat);(case atStart=>exact PP);case round=>clear HOm HXm hmk;obtain⟨i,hi,rfl,HO,HX⟩:=hrel;by_cases hlt:i<6;(·have hiI:(i:Int)<6:=C0;obtain⟨x,hxi⟩:∃x,ws[i]? =some x:=⟨_,P0 (by rw[HWL.out];exact hlt)⟩;have hx:=HDG.out x (I1 hxi);have hXl:i<X.size:=(by rw[hXs];exact hlt);have hXi:X[i]'hXl=UInt8.ofNat (48+x.toNat):=xF;have hyn:(UInt8.ofNat (48+x.toNat)).toNat=48+x.toNat:=(by rw[JB];omega);obtain⟨c0,hc0,hf0⟩:=Own.intAt HO.out (i:=i) xG;have hst:=Own.putI HO.out i x;have e:(ws.take i++List.replicate (6-i) (0:Int)).set i x=ws.take (i+1)++List.replicate (6-(i+1)) (0:Int):=(by rw[Z2 hxi,PR _ _ O5,L1,H6 (by rw[HWL.out];omega),O3,G1];congr 1;rw[show 6-i=(6-(i+1))+1 by omega,D4];rfl);exact xH);·obtain rfl:i=6:=C0;exact xI
def PS (r:List Int×Int) (w:World) (e:Ending) (w':World):Prop:=∃u,e=.returned (.tuple #[u,.int .i64 r.2])∧Own 3 w' w.heap.size u (r.1.map encI)∧Ext w w'
theorem PS.bad (c:Int) (w w':World) (h:Ext w w'):PS ([],c) w (.returned (.tuple #[.slice none 0 0,.int .i64 c])) w':=⟨_,rfl,Own.nil _ _ _,h⟩
theorem eB:(prog.info? 250).map (fun i=>(i.zero,i.size,i.bytes))=some (some (.agg #[.int .i64 0,.int .i64 0,.int .i64 0]),3,24):=Y0
theorem eC (n:Nat):(madeCells (Value.agg #[.int .i64 0,.int .i64 0,.int .i64 0]).cells (n*3)).toList=shC (List.replicate n ⟨0,0,0⟩):=by
 have h1:shC (List.replicate n ⟨0,0,0⟩)=List.replicate (n*3) (.int .i64 0):=by
  induction n with
  |zero=>rfl
  |succ n ih=>rw[D4,show(n+1)*3=n*3+1+1+1 by omega];simp only[shC,P5,D4,P2,E4]at ih⊢;rw[ih]
 rw[h1];apply UM;intro i;by_cases hi:i<n*3
 ·have hz:∀k:Nat,k<3->(Value.agg #[.int .i64 0,.int .i64 0,.int .i64 0]).cells[k]! =Value.int .i64 0:=fun k hk=>by
   match k,hk with
   |0,_=>rfl
   |1,_=>rfl
   |2,_=>rfl
  rw[List.getElem?_replicate,G0 hi];unfold madeCells;rw[Array.getElem?_toList,Array.getElem?_map,Array.getElem?_range,G0 hi];simp only[H7];congr 1;exact hz _ (UN _ J0)
 ·rw[YN (by rw[VB,size_madeCells];omega),YN (by rw[C3];omega)]
theorem eD (w:World) (n:Nat) (hn:n<=1000000):∃w',(Instr.makeSlice 248 (.int .i64 (n:Int)) (.int .i64 (n:Int))).run prog w=.ok (.slice (some ⟨w.heap.size,0,none⟩) n n) w'∧QAt w' w.heap.size (List.replicate n ⟨0,0,0⟩)∧Ext w w':=by
 obtain⟨i0,hi,hz0,hz1,hz2⟩:=C5 eB;obtain⟨w',h1,h2,h3⟩:=PQ (P:=prog) w 0 248 250 i0 (.agg #[.int .i64 0,.int .i64 0,.int .i64 0]) 3 underlying248 hi hz0 hz1 .i64 .i64 n UU UV (U0 _);refine⟨w',h1,?_,(Ext.refl w).ofGrown h3 (fun k hk=>by cases hk)⟩;rw[eC]at h2;rcases h2.2 with⟨h4,_⟩|⟨g,cap,cur,h4,_,h5,_,_,h6,h7⟩;·cases h4
 ·injection h4 with e1 e2 e3;injection e1 with e1;injection e1 with e1;subst e1 e3;unfold QAt;rw[h5,<-h7,P1 (by rw[VB,h6];exact I0 _)]
theorem xJ {α:Type} {l:List α} {z x:α} {i n:Nat} (hn:l.length=n) (h:l[i]? =some x):(l.take i++List.replicate (n-i) z).set i x=l.take (i+1)++List.replicate (n-(i+1)) z:=by
 have hi:=(J1.1 h).1;have e:n-i=(n-(i+1))+1:=by omega
 rw[PR _ _ O5,L1,H6 C0,O3,e,D4,Y9,Z2 h,G1];rfl
def C7 (s t:Int) (ws:List Int) (i:Nat):List Hp.Sh:=(Hp.start s t ws).take i++List.replicate (ws.length-i) ⟨0,0,0⟩
theorem PT (s t:Int) (ws:List Int) {i:Nat} (hi:i<=ws.length):(C7 s t ws i).length=ws.length:=by unfold C7;rw[O0,L1,Hp.start_len,C3];omega
theorem eF (s t:Int) {ws:List Int} {i:Nat} {x:Int} (h:ws[i]? =some x):(C7 s t ws i).set i ⟨(i:Int),1,3*s-2*t*x⟩=C7 s t ws (i+1):=xJ (Hp.start_len s t ws) (Hp.start_at s t h)
theorem eG (s t:Int) (ws:List Int):C7 s t ws ws.length=Hp.start s t ws:=by unfold C7;rw[O3,WI,B3,P1 (by rw[Hp.start_len];exact I0 _)]
theorem QAt.root {w:World} {g:Nat} {q:List Hp.Sh} {x:Hp.Sh} (h:QAt w g q) (hx:q[0]? =some x) (m c:Int):QAt ((w.setCell ⟨g,1,none⟩ (.int .i64 m)).setCell ⟨g,2,none⟩ (.int .i64 c)) g (q.set 0 ⟨x.ix,m,c⟩):=by have hl:=(J1.1 hx).1;have h1:QAt (w.setCell ⟨g,1,none⟩ (.int .i64 m)) g (q.set 0 ⟨x.ix,m,x.ct⟩):=h.setMd hx m;have h2:=h1.setCt (i:=0) (x:=⟨x.ix,m,x.ct⟩) (P7 hl) c;rw[List.set_set]at h2;exact h2
theorem eH {ws:List Int} {t:Nat} (h0:ws.length≠0) (h1:¬65536<ws.length) (h2:Tw.inRng ws=true) (h3:ws.length<=t) (h4:t<=65536):Rn.quant ws (t:Int)=(Rn.give (Rn.sum ws) (t:Int) ws (t-ws.length) (List.replicate ws.length 1),0):=by unfold Rn.quant;rw[D0 h0,D0 h1,D0 (fun h=>by rcases h with h|h|h;(rw[h2]at h;cases h);(exact absurd h C0);(exact absurd h C0))];rfl
theorem eI (v:Value) (ws:List Int) (t:Nat) (w:World) (hv:Sl w v (ws.map encI)) (hl:ws.length<=1000000) (ht:t<=1000000000):
 Calls prog 154 #[v,.int .i64 (t:Int)] w (PS (Rn.quant ws (t:Int)) w):=by
 have HIR:=B0 (fun hne=>xB v ws w hv hne hl)
 obtain⟨a,c,rfl⟩:=hv.form
 rw[N0]at hv HIR⊢
 have HQA:=B0 (@eH ws t)
 obtain⟨n,hn⟩:∃n,n=ws.length:=⟨_,rfl⟩
 rw[<-hn]at hv hl HIR HQA⊢
 have HN:=B0 hn
 have HV:=B0 hv
 have HR:=B0 (Rn.quant.eq_1 ws t)
 rw[<-hn]at HR
 generalize Rn.quant ws t=res at*
 clear hv hn
 by_cases h0:n=0
 ·have z0:((n:Int)==0)=true:=C2.2 C0;rw[G0 h0]at HR;clear h0 HIR HQA;go_enter func154,ntmps154;exact xK
 have z0:((n:Int)==0)=false:=V0.2 C0
 rw[D0 h0]at HR
 have hpos:0<n:=by omega
 by_cases h1:65536<n
 ·have h1I:65536<(n:Int):=C0;rw[G0 h1]at HR;clear h0 h1 HIR HQA;go_enter func154,ntmps154;exact xK
 rw[D0 h1]at HR
 have h1I:¬65536<(n:Int):=by omega
 have HIR2:=B0 (HIR.out hpos)
 clear HIR
 cases hrg:Tw.inRng ws with
 |false=>rw[hrg,G0 (.inl rfl)]at HR;rw[hrg]at HIR2;clear hrg h0 h1 HQA;exact Q1
 |true=>
 rw[hrg]at HIR2
 by_cases ht1:t<n
 ·rw[G0 (.inr (.inl C0))]at HR;have ht1I:(t:Int)<(n:Int):=C0;clear hrg h0 h1 HQA ht1;exact Q1
 have ht1I:¬(t:Int)<(n:Int):=by omega
 by_cases ht2:65536<t
 ·rw[G0 (.inr (.inr C0))]at HR;have ht2I:65536<(t:Int):=C0;clear hrg h0 h1 HQA ht1 ht2;exact Q1
 have ht2I:¬65536<(t:Int):=by omega
 have HRES:=B0 (HQA.out h0 h1 hrg C0 C0)
 have HIN:=B0 (fun x hx=>RH hrg (x:=x) hx)
 have hsb:=Rn.sum_in HIN.out
 obtain⟨S,hS⟩:∃S,S=Rn.sum ws:=⟨_,rfl⟩
 rw[<-hS]at HRES hsb
 have HSS:=B0 hS
 have hS0:=hsb.1
 have hS1:S<=4294967296:=A9
 have hn1:n<=65536:=by omega
 have ht3:t<=65536:=by omega
 obtain⟨K,hK⟩:∃K,K=t-n:=⟨_,rfl⟩
 have hKI:(t:Int)-(n:Int)=(K:Int):=by omega
 have hK1:K<=65536:=by omega
 rw[<-hK]at HRES
 clear hrg hsb hS HQA HR h0 h1 ht1 ht2 hK
 obtain⟨wm,hmk,hQm,hXm⟩:=eD w n C0
 have HQm:=B0 hQm
 have HXm:=B0 hXm
 have hgl:=hQm.lt
 have HGL:=B0 hgl
 clear hQm hXm hgl
 have HST:Hid (QB (wm.alloc (.cells #[.slice (some ⟨w.heap.size,0,none⟩) n n] 248)) wm.heap.size w.heap.size n (C7 S t ws 0)):=B0 (by have hq:QAt (wm.alloc (.cells #[.slice (some ⟨w.heap.size,0,none⟩) n n] 248)) w.heap.size (C7 S t ws 0):=(by have h:=HQm.out.on ((Ext.refl wm).alloc (.cells #[.slice (some ⟨w.heap.size,0,none⟩) n n] 248));unfold C7;rw[W9,E4,<-HN.out,YD];exact h);refine⟨by simp[go_sem],by simp,?_,hq,by rw[PT _ _ _ (U0 _),HN.out]⟩;have:=HGL.out;omega)
 have HX0:Hid (Ext w (wm.alloc (.cells #[.slice (some ⟨w.heap.size,0,none⟩) n n] 248))):=B0 (HXm.out.alloc _)
 go_enter func154,ntmps154
 go_wp2_with fail
 refine HIR2.out.mono ?_
 rintro e w1 ⟨rfl,rfl⟩
 go_wp2_with fail
 go_loop [6,36] (fun s i=>∃(j:Nat) (t:Int),j<=n∧i=.int .i64 (j:Int)∧s=.int .i64 t∧0<=t∧t<=65536*(j:Int)∧Hid (t=Rn.sum (ws.take j))) (fun _ i=>n-(intOf i).toNat)
 case atStart=>exact UW
 case round=>
 obtain⟨j,tt,hj,rfl,rfl,ht0,ht1,HT⟩:=hrel
 by_cases hlt:j<n
 ·obtain⟨x,hxj⟩:∃x,ws[j]? =some x:=⟨_,P0 U3⟩;obtain⟨b,o,ha,hb,hc⟩:=HV.out.int_at (Ext.refl w) hxj;subst ha;have hjI:(j:Int)<(n:Int):=C0;obtain⟨hx1,hx2⟩:=HIN.out x (I1 hxj);have HT2:Hid (tt+x=Rn.sum (ws.take (j+1))):=B0 xL;clear hxj;go_wp2;go_round;(case rel=>exact⟨j+1,tt+x,by omega,by go_num,rfl,by omega,by omega,HT2⟩);case measure=>exact Qr
 obtain rfl:n=j:=by omega
 obtain rfl:tt=S:=KZ
 clear hj hlt HT ht0 ht1
 go_wp2_with fail
 go_loopw [49] (fun i wr=>∃j:Nat,j<=n∧i=.int .i64 (j:Int)∧Hid (QB wr wm.heap.size w.heap.size n (C7 tt t ws j))∧Hid (Ext w wr)) (fun i _=>n-(intOf i).toNat)
 case atStart=>exact⟨0,U0 _,rfl,HST,HX0⟩
 case round=>
 clear HST HX0 HQm HXm hmk
 obtain⟨j,hj,rfl,HQ,HX⟩:=hrel
 by_cases hlt:j<n
 ·obtain⟨x,hxj⟩:∃x,ws[j]? =some x:=⟨_,P0 U3⟩;obtain⟨b,o,ha,hb,hc⟩:=HV.out.int_at HX.out hxj;subst ha;have hjI:(j:Int)<(n:Int):=C0;obtain⟨hx1,hx2⟩:=HIN.out x (I1 hxj);obtain⟨p,hp⟩:∃p,p=2*(t:Int)*x:=⟨_,rfl⟩;have hpe:=hp.symm;have hp0:0<=p:=(by rw[hp];exact O8 C0 C0);have hp1:p<=131072*65536:=(by rw[hp];exact T9 C0 C0 C0 C0);have hcb:=HQ.out.cell;have hq:=HQ.out.at_;obtain⟨z,hz⟩:∃z,(C7 tt t ws j)[j]? =some z:=⟨_,P0 (by rw[PT _ _ _ (by rw[<-HN.out];exact hj),<-HN.out];exact hlt)⟩;obtain⟨c0,c1,c2⟩:=hq.at_ hz;have f0:=hq.frz (j*3);have f1:=hq.frz (j*3+1);have f2:=hq.frz (j*3+2);have HS9:=B0 (HQ.out.at_.set j ⟨(j:Int),1,3*tt-p⟩);rw[hp,eF tt t hxj]at HS9;dsimp only at HS9;rw[<-hp]at HS9;clear hp hxj hq hz;go_wp2_with fail;go_roundw;(case rel=>exact⟨j+1,by omega,by go_num,B0 (HQ.out.turn (GB.setRow (GB.setRow (GB.setRow (GB.refl _) _ _) _ _) _ _) HS9.out (by rw[PT _ _ _ R7,PT _ _ _ R7])),B0 (((HX.out.setCell (p:=⟨w.heap.size,_,none⟩) (I0 _) _).setCell (p:=⟨w.heap.size,_,none⟩) (I0 _) _).setCell (p:=⟨w.heap.size,_,none⟩) (I0 _) _)⟩);case measure=>exact Qr
 obtain rfl:n=j:=by omega
 have HQ0:Hid (QB wr wm.heap.size w.heap.size n (Hp.start tt t ws)):=B0 (by have h:=HQ.out;rw[HN.out,eG,<-HN.out]at h;exact h)
 have HU0:Hid (Hp.Que tt t ws (List.replicate n 1) (Hp.start tt t ws)):=B0 (by rw[HN.out];exact Hp.Que.start tt t ws)
 have HI:=B0 (dQ wm.heap.size w.heap.size n (Hp.start tt t ws) wr HQ0.out C0)
 have HX1:=HX
 clear HQ HX hlt hj
 go_wp2_with fail
 refine HI.out.mono ?_
 rintro e w2 ⟨rfl,q2,hq2,hh2,hp2,hg2⟩
 have HQ2:=B0 hq2
 have HH2:=B0 hh2
 have HU2:=B0 (HU0.out.perm hp2)
 have HX2:Hid (Ext w w2):=B0 (HX1.out.ofGrown hg2 (fun k hk=>by injection hk with hk;subst hk;exact I0 _))
 clear hq2 hh2 hp2 hg2 HI HQ0 HU0 HX1
 go_wp2_with fail
 go_loopw [73] (fun i wr=>∃(k:Nat) (ms:List Int) (q:List Hp.Sh),k<=K∧i=.int .i64 (k:Int)∧Hid (ms=Rn.give tt t ws k (List.replicate n 1))∧Hid (Hp.Few k ms)∧Hid (QB wr wm.heap.size w.heap.size n q)∧Hid (Hp.Heap Hp.lessS q 0)∧Hid (Hp.Que tt t ws ms q)∧Hid (Ext w wr)) (fun i _=>K-(intOf i).toNat)
 case atStart=>exact⟨0,_,q2,U0 _,rfl,B0 rfl,B0 (Hp.Few.ones n),HQ2,HH2,HU2,HX2⟩
 case round=>
 clear HQ2 HH2 HU2 HX2
 obtain⟨k,ms,q,hk,rfl,HMS,HFW,HQ,HH,HU,HX⟩:=hrel
 by_cases hlt:k<K
 ·have hkI:(k:Int)<(K:Int):=C0;obtain⟨r,hr⟩:∃r,q[0]? =some r:=⟨_,P0 WB⟩;obtain⟨kk,m,ww,h1,h2,h3,h4,h5,h6⟩:=HU.out.least hr HH.out;have hm:=HFW.out m (I1 h3);have hww:=HIN.out ww (I1 h4);obtain⟨rx,rm,rc⟩:=r;dsimp only at h1 h5 h6;subst h5;have hb1:rc<=1125899906842624∧-1125899906842624<=rc:=(by unfold Rn.need at h6;have a1:0<=tt*rm:=O8 hS0 C0;have a2:tt*rm<=4294967296*65537:=T9 hS1 C0 C0 C0;have a3:0<=(t:Int)*ww:=O8 C0 C0;have a4:(t:Int)*ww<=65536*65536:=T9 C0 C0 C0 C0;omega);obtain⟨hb1,hb2⟩:=hb1;have hm1:=hm.1;have hm2:rm<=65537:=C0;have hcb:=HQ.out.cell;have hq:=HQ.out.at_;obtain⟨c0,c1,c2⟩:=hq.at_ hr;dsimp only at c0 c1 c2;rw[SL,P3]at c1 c2;have f1:=hq.frz 1;have f2:=hq.frz 2;have hn0:(0:Int)<(n:Int):=C0;have HS9:=B0 (fun m c=>hq.root hr m c);have HU9:=B0 (HU.out.give hr h1 h3);have HMS9:Hid (ms.set kk (rm+1)=Rn.give tt t ws (k+1) (List.replicate n 1)):=B0 (by rw[Hp.give_last,<-HMS.out];dsimp only;rw[h2,A1,h3];rfl);have HFW9:=B0 (HFW.out.give h3);have HN9:=B0 ((Hp.Heap.set Hp.lessS (HH.out.weak Hp.lessS (U0 1)) ⟨rx,rm+1,rc+2*tt⟩).near);dsimp only at HU9 HS9;have HX9:=B0 ((HX.out.setCell (p:=⟨w.heap.size,1,none⟩) (I0 _) (.int .i64 (rm+1))).setCell (p:=⟨w.heap.size,2,none⟩) (I0 _) (.int .i64 (rc+2*tt)));have HQ9:=B0 (HQ.out.turn (GB.setRow (GB.setRow (GB.refl wr) 1 (.int .i64 (rm+1))) 2 (.int .i64 (rc+2*tt))) (HS9.out (rm+1) (rc+2*tt)) (by rw[O6]));clear h1 h2 h3 h4 h6 hr hq hm HS9;go_wp2_with fail;generalize(wr.setCell ⟨w.heap.size,1,none⟩ (.int .i64 (rm+1))).setCell ⟨w.heap.size,2,none⟩ (.int .i64 (rc+2*tt))=w3 at*;clear hcb c0 c1 c2 f1 f2;refine(dP wm.heap.size w.heap.size n _ w3 HQ9.out C0 HN9.out).mono ?_;rintro e w4 ⟨rfl,q4,hq4,hh4,hp4,hg4⟩;have HQ4:=B0 hq4;have HH4:=B0 hh4;have HU4:=B0 (HU9.out.perm hp4);have HX4:Hid (Ext w w4):=B0 (HX9.out.ofGrown hg4 (fun k hk=>by injection hk with hk;subst hk;exact I0 _));clear hq4 hh4 hp4 hg4;go_wp2_with fail;go_roundw;(case rel=>exact⟨k+1,_,q4,by omega,by go_num,HMS9,HFW9,HQ4,HH4,HU4,HX4⟩);case measure=>exact Qr
 obtain rfl:K=k:=by omega
 rw[<-HMS.out]at HRES
 rename World=>wa
 obtain⟨wo,hmk2,hOo,hXo⟩:=WH wa n w.heap.size C0 HX.out.size
 have HOo:=B0 hOo
 have HXo:=B0 hXo
 have HXA:=HX
 have hcb:=(HQ.out.on hXo).cell
 clear hOo hXo hlt hk HMS HFW HX HH
 go_wp2_with fail
 go_loopw [99] (fun i wq=>∃(j:Nat) (out:List Int),j<=n∧i=.int .i64 (j:Int)∧Hid (Hp.Got ms q j out)∧Hid (Own 3 wq w.heap.size (.slice (some ⟨wa.heap.size,0,none⟩) n n) (out.map encI))∧Hid (Ext wa wq)) (fun i _=>n-(intOf i).toNat)
 case atStart=>exact⟨0,List.replicate n 0,U0 _,rfl,B0 (Hp.Got.zero (by rw[C3,HU.out.ml,HN.out])),HOo,HXo⟩
 case round=>
 clear HOo HXo hmk2 hcb
 obtain⟨j,out,hj,rfl,HGT,HO,HX⟩:=hrel
 have hol:out.length=n:=by rw[HGT.out.1,HU.out.ml,HN.out]
 by_cases hlt:j<n
 ·have hjI:(j:Int)<(n:Int):=C0;obtain⟨r,hr⟩:∃r,q[j]? =some r:=⟨_,P0 WB⟩;obtain⟨kk,m,ww,h1,h2,h3,h4,h5⟩:=HU.out.at_ r (I1 hr);obtain⟨rx,rm,rc⟩:=r;dsimp only at h1 h4 h5;subst h1 h4;have hkk:=(J1.1 h3).1;rw[<-HN.out]at hkk;have hkkI:(kk:Int)<(n:Int):=C0;obtain⟨c0,c1,c2⟩:=(HQ.out.on HX.out).at_.at_ hr;dsimp only at c0 c1 c2;obtain⟨xo,co,fo⟩:=HO.out.intAt (i:=kk) (by rw[hol];exact hkk);have hog:wa.heap.size<wr.heap.size:=(J4 HO.out _ rfl).2;have HO9:=B0 (fun(o:Obj)=>((HO.out.putI kk rm).1.alloc o));have HX9:=B0 (fun(o:Obj)=>(HX.out.setCell (p:=⟨wa.heap.size,kk,none⟩) (I0 _) (.int .i64 rm)).alloc o);have HG9:=B0 (HGT.out.next hr rfl h2);clear h2 h3 h5 hr;go_wp2_with fail;go_roundw;(case rel=>exact⟨j+1,_,by omega,by go_num,HG9,B0 (HO9.out _),B0 (HX9.out _)⟩);case measure=>exact Qr
 ·obtain rfl:n=j:=C0;obtain rfl:out=ms:=Hp.Got.all HU.out HGT.out (by rw[HQ.out.len];exact I0 _);have HK:=B0 HO.out;have hx9:=HXA.out.trans HX.out;clear hlt hj HO HX hol;go_wp2_with fail;go_ret2;rw[HRES.out];exact⟨_,rfl,HK.out,hx9⟩
theorem eJ {t:TypeId} {w:World} {B g N:Nat} {xs:List Value} (h:Own t w B (.slice (some ⟨g,0,none⟩) N N) xs):w.heap[g]? =some (.cells xs.toArray t (0,0)):=by
 rcases h.2 with⟨h1,_⟩|⟨g',cap,cur,h1,hb,hg,_,_,hcs,ht⟩;·cases h1
 ·injection h1 with e1 e2 e3;injection e1 with e1;injection e1 with e1;subst e1 e3;rw[hg,<-ht,P1 (by rw[VB,hcs];omega)]
theorem UX {t:TypeId} {w:World} {B g N:Nat} {xs:List Value} (hg:w.heap[g]? =some (.cells xs.toArray t (0,0))) (hl:xs.length=N) (hN:N<=1000000) (hB:B<=g):Own t w B (.slice (some ⟨g,0,none⟩) N N) xs:=by subst hl;refine⟨by omega,.inr ⟨g,xs.length,xs.toArray,rfl,hB,hg,I0 _,by unfold Go.maxLen;omega,by simp,?_⟩⟩;rw[P1 L0]
theorem xM (w:World) (n:Nat) (hn:n<=1000000):∃w',(Instr.makeSlice 26 (.int .i64 (n:Int)) (.int .i64 (n:Int))).run prog w=.ok (.slice (some ⟨w.heap.size,0,none⟩) n n) w'∧w'.heap[w.heap.size]? =some (.cells (List.replicate n (.bool false)).toArray 4 (0,0))∧Ext w w':=by
 obtain⟨i0,hi,hz0,hz1,hz2⟩:=C5 SJ;obtain⟨w',h1,h2,h3⟩:=PQ (P:=prog) w 0 26 4 i0 (.bool false) 1 underlying26 hi hz0 hz1 .i64 .i64 n UU UV (U0 _);refine⟨w',h1,?_,(Ext.refl w).ofGrown h3 (fun k hk=>by cases hk)⟩;have e:(madeCells (Value.bool false).cells (n*1)).toList=List.replicate n (.bool false):=by rw[U8];exact toList_madeCells_one _ _
 rw[e]at h2;have h4:Own 4 w' 0 (.slice (some ⟨w.heap.size,0,none⟩) n n) (List.replicate n (.bool false)):=by unfold Own;rw[C3];exact h2
 exact eJ h4
theorem xN (m:List Bool) (a b:Nat):splice (List.replicate (a+m.length+b) (Value.bool false)) a (m.map encT)=(Ln.quiet m a b).map encT:=by unfold splice Ln.quiet;rw[List.take_replicate,List.drop_replicate,N0,B4,B4,JC,JC,H6 C0,show a+m.length+b-(a+m.length)=b by omega,G1];rfl
theorem JD (m:List Bool) (a b:Nat):(Ln.quiet m a b).length=a+m.length+b:=by unfold Ln.quiet;rw[O0,O0,C3,C3]
theorem eK (m:List Bool):∀y∈m.map encT,y.oneCell'=true:=by intro y hy;obtain⟨b,_,rfl⟩:=J3.1 hy;rfl
theorem xO {T:TypeId} {w wm:World} {a N:Nat} {m:List Bool} {n b0 o0 cv:Nat} (hg:wm.heap[w.heap.size]? =some (.cells (List.replicate N (.bool false)).toArray 4 (0,0))) (hX:Ext w wm) (hv:Sl wm (.slice (some ⟨b0,o0,none⟩) n cv) (m.map encT)) (hn:m.length=n) (hle:a+n<=N) (ha:a<N):
 ∃w5,(Builtin.copy_ #[26,26] T #[.slice (some ⟨w.heap.size,a,none⟩) (N-a) (N-a),.slice (some ⟨b0,o0,none⟩) n cv]).run prog wm=.ok (goInt n) w5∧w5.heap[w.heap.size]? =some (.cells (splice (List.replicate N (Value.bool false)) a (m.map encT)).toArray 4 (0,0))∧Ext w w5:=by
 have hrun:=run_copy_row (P:=prog) wm 26 26 T 4 w.heap.size a (N-a) (N-a) ⟨b0,o0,none⟩ n cv (List.replicate N (.bool false)).toArray 4 (m.map encT) underlying26 M0 hg (by rw[N0,hn];exact(H6 C0).symm) (fun j u hj=>by rcases hv with⟨h,_⟩|⟨b',o',cp,h,hb',hc⟩;(·rw[h]at hj;cases hj);·injection h with e1 e2 e3;injection e1 with e1;rw[e1,XF];have hjl:=(J1.1 hj).1;rw[hc j hjl];exact hj) (by rw[N0,hn];simpa using hle) (eK m)
 rw[N0,hn]at hrun
 refine⟨_,hrun,?_,below_setRow hX (I0 _) _⟩
 have:=setRow_heap wm w.heap.size (List.replicate N (.bool false)).toArray ((List.replicate N (Value.bool false)).take a++m.map encT++(List.replicate N (Value.bool false)).drop (a+n)).toArray 4 (0,0) hg
 unfold splice
 rw[N0,hn,<-G1]
 exact this
theorem xP (v:Value) (m:List Bool) (a b:Nat) (w:World) (hv:Sl w v (m.map encT)) (hm:m.length<=400000) (hm1:1<=m.length) (ha:a<=1000) (hb:b<=1000):
 Calls prog 66 #[v,.int .i64 (a:Int),.int .i64 (b:Int)] w fun e w'=>∃u,e=.returned u∧SlK w' u ((Ln.quiet m a b).map encT)∧Ext w w':=by
 obtain⟨x0,hx0⟩:∃x,m[0]? =some x:=⟨_,P0 C0⟩
 obtain⟨av,cv,rfl⟩:=hv.form
 rw[N0]at hv⊢
 obtain⟨b0,o0,hav,hb0,-⟩:=hv.bool_at (Ext.refl w) hx0
 subst hav
 have HQ:=B0 (xN m a b)
 have HQL:=B0 (JD m a b)
 obtain⟨n,hn⟩:∃n,n=m.length:=⟨_,rfl⟩
 rw[<-hn]at hv hm hm1 HQ HQL⊢
 obtain⟨N,hN⟩:∃N,N=a+n+b:=⟨_,rfl⟩
 rw[<-hN]at HQ HQL
 have hNI:(a:Int)+(n:Int)+(b:Int)=(N:Int):=by omega
 have haN:a<=N:=by omega
 have haN2:a<N:=by omega
 have haNI:(a:Int)<=(N:Int):=by omega
 have HV:=B0 hv
 have HN:=B0 hn
 obtain⟨wm,hmk,hgm,hXm⟩:=xM w N C0
 have HGM:=B0 hgm
 have HXM:=B0 hXm
 have HF1:Hid (a+n<=N∧n<=N-a∧N<=1000000):=B0 ⟨by omega,by omega,by omega⟩
 generalize Ln.quiet m a b=qs at*
 obtain⟨w5,hcp,hg5,hx5⟩:=xO (T:=3) (w:=w) (wm:=wm) (a:=a) (N:=N) (m:=m) (n:=n) (b0:=b0) (o0:=o0) (cv:=cv) hgm hXm (hv.ext hXm) hn.symm C0 haN2
 have HG5:=B0 hg5
 have HX5:Hid (Ext w w5):=B0 hx5
 clear hv hn hN hx0 hgm hXm hg5 hx5
 go_enter func66,ntmps66
 go_wp2_with fail
 have HO5:Hid (SlK w5 (.slice (some ⟨w.heap.size,0,none⟩) N N) (qs.map encT)):=B0 (by have h1:=HG5.out;rw[HQ.out]at h1;exact(UX (B:=0) h1 (by rw[N0,HQL.out]) HF1.out.2.2 (U0 _)).slk)
 go_wp2_with fail
 go_ret
 exact⟨_,rfl,HO5.out,HX5.out⟩
end
end Go.Proofs.YtbngggoccndefaaGreatDoor
