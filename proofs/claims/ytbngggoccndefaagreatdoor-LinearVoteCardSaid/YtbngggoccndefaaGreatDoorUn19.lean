/-
  Laid.
-/
import Derived.Test.YtbngggoccndefaaGreatDoorUn18
set_option maxHeartbeats 16000000
set_option maxRecDepth 100000
set_option linter.all false
namespace Go.Proofs.YtbngggoccndefaaGreatDoor
open Go.Proofs.Tryz
section
open Go.RowKit
theorem RU (w:World) (n:Nat) (B:Nat) (hn:n<=1000000) (hB:B<=w.heap.size):∃w',(Instr.makeSlice 43 (.int .i64 (n:Int)) (.int .i64 (n:Int))).run prog w=.ok (.slice (some ⟨w.heap.size,0,none⟩) n n) w'∧Own 3 w' B (.slice (some ⟨w.heap.size,0,none⟩) n n) ((List.replicate n (0:Int)).map encI)∧Ext w w':=by
 obtain⟨i0,hi,hz0,hz1,hz2⟩:=V5 OJ;obtain⟨w',h1,h2,h3⟩:=MW (P:=prog) w B 43 3 i0 (.int .i64 0) 1 underlying43 hi hz0 hz1 .i64 .i64 n RS RT hB;refine⟨w',h1,?_,(Ext.refl w).ofGrown h3 (fun k hk=>by cases hk)⟩;unfold Own;rw[J0,D3];have e:(madeCells (Value.int .i64 0).cells (n*1)).toList=(List.replicate n (0:Int)).map encI:=gQ
 rw[<-e];exact h2
theorem Own.intAt {w:World} {B g n c:Nat} {xs:List Int} (h:Own 3 w B (.slice (some ⟨g,0,none⟩) n c) (xs.map encI)) {i:Nat} (hi:i<xs.length):∃x,w.cell? ⟨g,i,none⟩=some (.int .i64 x)∧w.frozen? ⟨g,i,none⟩=false:=by
 rcases h.2 with⟨h1,_⟩|⟨g',cap,cur,h1,hb,hg,_,_,hcs,ht⟩;·cases h1
 ·injection h1 with h2;injection h2 with h2;injection h2 with h2;subst h2;refine⟨xs[i],?_,by simp[World.frozen?,hg]⟩;have e:cur.toList[i]? =some (encI xs[i]):=gR;unfold encI at e;simp only[World.cell?,hg];simpa using e
theorem Own.putI {w:World} {B g n c:Nat} {xs:List Int} (h:Own 3 w B (.slice (some ⟨g,0,none⟩) n c) (xs.map encI)) (i:Nat) (x:Int):Own 3 (w.setCell ⟨g,i,none⟩ (.int .i64 x)) B (.slice (some ⟨g,0,none⟩) n c) ((xs.set i x).map encI)∧w.grownBy (w.setCell ⟨g,i,none⟩ (.int .i64 x)) (some g):=by
 have hn:n=(xs.map encI).length:=gS
 subst hn;obtain⟨h1,h2⟩:=World.ownsRow.stored h i (.int .i64 x);refine⟨?_,h2⟩;unfold Own;rw[List.map_set,U6];exact h1
def Cc.widOf (v:Nat):List Int:=if v=106 then Cc.stopP else Cc.pats.getD v []
def Cc.byt (x:Int):UInt8:=UInt8.ofNat (48+x.toNat)
def Cc.patB:List UInt8:=Cc.pats.flatMap fun p=>p.map Cc.byt
theorem Cc.pat_cut (P:ByteArray) (h:P.data.toList=Cc.patB) (lo hi:Nat):(P.extract lo hi).data.toList=(Cc.patB.drop lo).take (hi-lo):=by rw[Z0,h]
theorem Cc.pat_at:∀v:Nat,v<106->(Cc.patB.drop (v*6)).take 6=(Cc.pats.getD v []).map Cc.byt:=E2
theorem Cc.pat_in:∀v:Nat,v<106->(Cc.pats.getD v []).length=6∧∀x∈Cc.pats.getD v [],0<=x∧x<=9:=E2
theorem gT (v:Nat) (w:World) (hv:v<=106):
 Calls prog 115 #[.int .i64 (v:Int)] w fun e w'=>∃u,e=.returned u∧SlK w' u ((Cc.widOf v).map encI)∧Ext w w':=by
 obtain⟨lo,hlo⟩:∃lo,lo=v*6:=⟨_,rfl⟩
 obtain⟨hi,hhi⟩:∃hi,hi=(v+1)*6:=⟨_,rfl⟩
 obtain⟨res,hres⟩:∃res,res=Cc.widOf v:=⟨_,rfl⟩
 rw[<-hres]
 by_cases h6:v=106
 ·subst h6;obtain⟨ws,hws⟩:∃ws,ws=Cc.stopP:=⟨_,rfl⟩;have HRES:Hid (res=ws):=A0 (by rw[hres,hws];rfl);have hwl:ws.length=7:=(by rw[hws];rfl);have hdg:∀x∈ws,0<=x∧x<=9:=(by rw[hws];decide);have HXE0:Hid ((⟨#[50,51,51,49,49,49,50]⟩:ByteArray).data.toList=ws.map Cc.byt):=A0 (by rw[hws];rfl);clear hlo hhi hres hws;obtain⟨wm,hmk,hOm,hXm⟩:=RU w 7 w.heap.size B0 (K0 _);have hmk:(Instr.makeSlice 43 (.int .i64 7) (.int .i64 7)).run prog w=_:=hmk;have HOm:=A0 hOm;have HXm:=A0 hXm;clear hOm hXm;go_enter func115,ntmps115;go_wp2_with fail;generalize hX:(⟨#[50,51,51,49,49,49,50]⟩:ByteArray)=X at*;have hXE:X.data.toList=ws.map Cc.byt:=(by rw[<-hX];exact HXE0.out);clear hX;have HXE:=A0 hXE;have hXs:X.size=7:=MX;have HWL:=A0 hwl;have HDG:=A0 hdg;clear hXE hwl hdg;go_loopw [19] (fun t wr=>∃i:Nat,i<=7∧t=.int .i64 (i:Int)∧Hid (Own 3 wr w.heap.size (.slice (some ⟨w.heap.size,0,none⟩) 7 7) ((ws.take i++List.replicate (7-i) (0:Int)).map encI))∧Hid (Ext w wr)) (fun t _=>7-(intOf t).toNat);(case atStart=>exact MV);case round=>clear HOm HXm hmk;obtain⟨i,hi,rfl,HO,HX⟩:=hrel;by_cases hlt:i<7;(·have hiI:(i:Int)<7:=B0;obtain⟨x,hxi⟩:∃x,ws[i]? =some x:=⟨_,M0 ES⟩;have hx:=HDG.out x (J1 hxi);have hXl:i<X.size:=(by rw[hXs];exact hlt);have hXi:X[i]'hXl=UInt8.ofNat (48+x.toNat):=ET;have hyn:(UInt8.ofNat (48+x.toNat)).toNat=48+x.toNat:=RV;obtain⟨c0,hc0,hf0⟩:=Own.intAt HO.out (i:=i) gU;have hst:=Own.putI HO.out i x;have e:(ws.take i++List.replicate (7-i) (0:Int)).set i x=ws.take (i+1)++List.replicate (7-(i+1)) (0:Int):=(by rw[Zz hxi,MY _ _ X3,M1,X6 (by rw[HWL.out];omega),I4,M3];congr 1;rw[show 7-i=(7-(i+1))+1 by omega,N5];rfl);exact gV);·obtain rfl:i=7:=B0;exact gW
 ·have z6:((v:Int)==106)=false:=N0.2 B0;have hloI:(v:Int)*6=(lo:Int):=B0;have hhiI:((v:Int)+1)*6=(hi:Int):=B0;have hlh:lo<=hi:=B0;have hh9:hi<=636:=B0;have hlhI:(lo:Int)<=(hi:Int):=B0;have hh9I:(hi:Int)<=636:=B0;have hd6:hi-lo=6:=B0;obtain⟨ws,hws⟩:∃ws,ws=Cc.pats.getD v []:=⟨_,rfl⟩;have HRES:Hid (res=ws):=A0 (by rw[hres,hws,Cc.widOf,C0 h6]);obtain⟨hwl,hdg⟩:=Cc.pat_in v B0;rw[<-hws]at hwl hdg;have HPA:Hid ((Cc.patB.drop lo).take (hi-lo)=ws.map Cc.byt):=A0 (by rw[hd6,hlo,hws];exact Cc.pat_at v B0);clear hlo hhi h6 hres hws;obtain⟨wm,hmk,hOm,hXm⟩:=RU w 6 w.heap.size B0 (K0 _);have hmk:(Instr.makeSlice 43 (.int .i64 6) (.int .i64 6)).run prog w=_:=hmk;have HOm:=A0 hOm;have HXm:=A0 hXm;clear hOm hXm;go_enter func115,ntmps115;go_wp2_with fail;generalize hX:(_:ByteArray).extract lo hi=X at*;have hXE:X.data.toList=ws.map Cc.byt:=gY;clear hX;have HXE:=A0 hXE;have hXs:X.size=6:=MX;have HWL:=A0 hwl;have HDG:=A0 hdg;clear hXE hwl hdg;go_loopw [19] (fun t wr=>∃i:Nat,i<=6∧t=.int .i64 (i:Int)∧Hid (Own 3 wr w.heap.size (.slice (some ⟨w.heap.size,0,none⟩) 6 6) ((ws.take i++List.replicate (6-i) (0:Int)).map encI))∧Hid (Ext w wr)) (fun t _=>6-(intOf t).toNat);(case atStart=>exact MV);case round=>clear HOm HXm hmk;obtain⟨i,hi,rfl,HO,HX⟩:=hrel;by_cases hlt:i<6;(·have hiI:(i:Int)<6:=B0;obtain⟨x,hxi⟩:∃x,ws[i]? =some x:=⟨_,M0 ES⟩;have hx:=HDG.out x (J1 hxi);have hXl:i<X.size:=(by rw[hXs];exact hlt);have hXi:X[i]'hXl=UInt8.ofNat (48+x.toNat):=ET;have hyn:(UInt8.ofNat (48+x.toNat)).toNat=48+x.toNat:=RV;obtain⟨c0,hc0,hf0⟩:=Own.intAt HO.out (i:=i) gU;have hst:=Own.putI HO.out i x;have e:(ws.take i++List.replicate (6-i) (0:Int)).set i x=ws.take (i+1)++List.replicate (6-(i+1)) (0:Int):=(by rw[Zz hxi,MY _ _ X3,M1,X6 (by rw[HWL.out];omega),I4,M3];congr 1;rw[show 6-i=(6-(i+1))+1 by omega,N5];rfl);exact gV);·obtain rfl:i=6:=B0;exact gW
def RW (r:List Int×Int) (w:World) (e:Ending) (w':World):Prop:=∃u,e=.returned (.tuple #[u,.int .i64 r.2])∧Own 3 w' w.heap.size u (r.1.map encI)∧Ext w w'
theorem RW.bad (c:Int) (w w':World) (h:Ext w w'):RW ([],c) w (.returned (.tuple #[.slice none 0 0,.int .i64 c])) w':=⟨_,rfl,Own.nil _ _ _,h⟩
theorem Zi4:(prog.info? 250).map (fun i=>(i.zero,i.size,i.bytes))=some (some (.agg #[.int .i64 0,.int .i64 0,.int .i64 0]),3,24):=B1
theorem ZlN (n:Nat):(madeCells (Value.agg #[.int .i64 0,.int .i64 0,.int .i64 0]).cells (n*3)).toList=shC (List.replicate n ⟨0,0,0⟩):=by
 have h1:shC (List.replicate n ⟨0,0,0⟩)=List.replicate (n*3) (.int .i64 0):=by
  induction n with
  |zero=>rfl
  |succ n ih=>rw[N5,show(n+1)*3=n*3+1+1+1 by omega];simp only[shC,F8,N5,J3,P5]at ih⊢;rw[ih]
 rw[h1];apply XQ;intro i;by_cases hi:i<n*3
 ·have hz:∀k:Nat,k<3->(Value.agg #[.int .i64 0,.int .i64 0,.int .i64 0]).cells[k]! =Value.int .i64 0:=fun k hk=>by
   match k,hk with
   |0,_=>rfl
   |1,_=>rfl
   |2,_=>rfl
  rw[ND,D0 hi];unfold madeCells;rw[EU,Array.getElem?_map,Array.getElem?_range,D0 hi];simp only[YF];congr 1;exact hz _ (UO _ I0)
 ·rw[YJ (by rw[SC,size_madeCells];omega),YJ (by rw[D3];omega)]
theorem Zhv (w:World) (n:Nat) (hn:n<=1000000):∃w',(Instr.makeSlice 248 (.int .i64 (n:Int)) (.int .i64 (n:Int))).run prog w=.ok (.slice (some ⟨w.heap.size,0,none⟩) n n) w'∧QAt w' w.heap.size (List.replicate n ⟨0,0,0⟩)∧Ext w w':=by
 obtain⟨i0,hi,hz0,hz1,hz2⟩:=V5 Zi4;obtain⟨w',h1,h2,h3⟩:=MW (P:=prog) w 0 248 250 i0 (.agg #[.int .i64 0,.int .i64 0,.int .i64 0]) 3 underlying248 hi hz0 hz1 .i64 .i64 n RS RT (O0 _);refine⟨w',h1,?_,(Ext.refl w).ofGrown h3 (fun k hk=>by cases hk)⟩;rw[ZlN]at h2;rcases h2.2 with⟨h4,_⟩|⟨g,cap,cur,h4,_,h5,_,_,h6,h7⟩;·cases h4
 ·injection h4 with e1 e2 e3;injection e1 with e1;injection e1 with e1;subst e1 e3;unfold QAt;rw[h5,<-h7,X1 (by rw[SC,h6];exact K0 _)]
theorem gZ {α:Type} {l:List α} {z x:α} {i n:Nat} (hn:l.length=n) (h:l[i]? =some x):(l.take i++List.replicate (n-i) z).set i x=l.take (i+1)++List.replicate (n-(i+1)) z:=by
 have hi:=(I1.1 h).1;have e:n-i=(n-(i+1))+1:=by omega
 rw[MY _ _ X3,M1,X6 B0,I4,e,N5,L1,Zz h,M3];rfl
def L7 (s t:Int) (ws:List Int) (i:Nat):List Hp.Sh:=(Hp.start s t ws).take i++List.replicate (ws.length-i) ⟨0,0,0⟩
theorem MZ (s t:Int) (ws:List Int) {i:Nat} (hi:i<=ws.length):(L7 s t ws i).length=ws.length:=by unfold L7;rw[T0,M1,Hp.start_len,D3];omega
theorem Zhj (s t:Int) {ws:List Int} {i:Nat} {x:Int} (h:ws[i]? =some x):(L7 s t ws i).set i ⟨(i:Int),1,3*s-2*t*x⟩=L7 s t ws (i+1):=gZ (Hp.start_len s t ws) (Hp.start_at s t h)
theorem Zhi (s t:Int) (ws:List Int):L7 s t ws ws.length=Hp.start s t ws:=by unfold L7;rw[I4,UR,P3,X1 (by rw[Hp.start_len];exact K0 _)]
theorem QAt.root {w:World} {g:Nat} {q:List Hp.Sh} {x:Hp.Sh} (h:QAt w g q) (hx:q[0]? =some x) (m c:Int):QAt ((w.setCell ⟨g,1,none⟩ (.int .i64 m)).setCell ⟨g,2,none⟩ (.int .i64 c)) g (q.set 0 ⟨x.ix,m,c⟩):=by have hl:=(I1.1 hx).1;have h1:QAt (w.setCell ⟨g,1,none⟩ (.int .i64 m)) g (q.set 0 ⟨x.ix,m,x.ct⟩):=h.setMd hx m;have h2:=h1.setCt (i:=0) (x:=⟨x.ix,m,x.ct⟩) (YH hl) c;rw[List.set_set]at h2;exact h2
theorem rA {ws:List Int} {t:Nat} (h0:ws.length≠0) (h1:¬65536<ws.length) (h2:Tw.inRng ws=true) (h3:ws.length<=t) (h4:t<=65536):Rn.quant ws (t:Int)=(Rn.give (Rn.sum ws) (t:Int) ws (t-ws.length) (List.replicate ws.length 1),0):=by unfold Rn.quant;rw[C0 h0,C0 h1,C0 (fun h=>by rcases h with h|h|h;(rw[h2]at h;cases h);(exact absurd h B0);(exact absurd h B0))];rfl
theorem Zhw (v:Value) (ws:List Int) (t:Nat) (w:World) (hv:Sl w v (ws.map encI)) (hl:ws.length<=1000000) (ht:t<=1000000000):
 Calls prog 154 #[v,.int .i64 (t:Int)] w (RW (Rn.quant ws (t:Int)) w):=by
 have HIR:=A0 (fun hne=>gP v ws w hv hne hl)
 obtain⟨a,c,rfl⟩:=hv.form
 rw[J0]at hv HIR⊢
 have HQA:=A0 (@rA ws t)
 obtain⟨n,hn⟩:∃n,n=ws.length:=⟨_,rfl⟩
 rw[<-hn]at hv hl HIR HQA⊢
 have HN:=A0 hn
 have HV:=A0 hv
 have HR:=A0 (Rn.quant.eq_1 ws t)
 rw[<-hn]at HR
 generalize Rn.quant ws t=res at*
 clear hv hn
 by_cases h0:n=0
 ·have z0:((n:Int)==0)=true:=Y0.2 B0;rw[D0 h0]at HR;clear h0 HIR HQA;go_enter func154,ntmps154;exact US
 have z0:((n:Int)==0)=false:=N0.2 B0
 rw[C0 h0]at HR
 have hpos:0<n:=by omega
 by_cases h1:65536<n
 ·have h1I:65536<(n:Int):=B0;rw[D0 h1]at HR;clear h0 h1 HIR HQA;go_enter func154,ntmps154;exact US
 rw[C0 h1]at HR
 have h1I:¬65536<(n:Int):=by omega
 have HIR2:=A0 (HIR.out hpos)
 clear HIR
 cases hrg:Tw.inRng ws with
 |false=>rw[hrg,D0 (.inl rfl)]at HR;rw[hrg]at HIR2;clear hrg h0 h1 HQA;exact EV
 |true=>
 rw[hrg]at HIR2
 by_cases ht1:t<n
 ·rw[D0 (.inr (.inl B0))]at HR;have ht1I:(t:Int)<(n:Int):=B0;clear hrg h0 h1 HQA ht1;exact EV
 have ht1I:¬(t:Int)<(n:Int):=by omega
 by_cases ht2:65536<t
 ·rw[D0 (.inr (.inr B0))]at HR;have ht2I:65536<(t:Int):=B0;clear hrg h0 h1 HQA ht1 ht2;exact EV
 have ht2I:¬65536<(t:Int):=by omega
 have HRES:=A0 (HQA.out h0 h1 hrg B0 B0)
 have HIN:=A0 (fun x hx=>YO hrg (x:=x) hx)
 have hsb:=Rn.sum_in HIN.out
 obtain⟨S,hS⟩:∃S,S=Rn.sum ws:=⟨_,rfl⟩
 rw[<-hS]at HRES hsb
 have HSS:=A0 hS
 have hS0:=hsb.1
 have hS1:S<=4294967296:=I8
 have hn1:n<=65536:=by omega
 have ht3:t<=65536:=by omega
 obtain⟨K,hK⟩:∃K,K=t-n:=⟨_,rfl⟩
 have hKI:(t:Int)-(n:Int)=(K:Int):=by omega
 have hK1:K<=65536:=by omega
 rw[<-hK]at HRES
 clear hrg hsb hS HQA HR h0 h1 ht1 ht2 hK
 obtain⟨wm,hmk,hQm,hXm⟩:=Zhv w n B0
 have HQm:=A0 hQm
 have HXm:=A0 hXm
 have hgl:=hQm.lt
 have HGL:=A0 hgl
 clear hQm hXm hgl
 have HST:Hid (QB (wm.alloc (.cells #[.slice (some ⟨w.heap.size,0,none⟩) n n] 248)) wm.heap.size w.heap.size n (L7 S t ws 0)):=A0 (by have hq:QAt (wm.alloc (.cells #[.slice (some ⟨w.heap.size,0,none⟩) n n] 248)) w.heap.size (L7 S t ws 0):=(by have h:=HQm.out.on ((Ext.refl wm).alloc (.cells #[.slice (some ⟨w.heap.size,0,none⟩) n n] 248));unfold L7;rw[XV,P5,<-HN.out,C7];exact h);refine⟨by simp[go_sem],by simp,?_,hq,by rw[MZ _ _ _ (O0 _),HN.out]⟩;have:=HGL.out;omega)
 have HX0:Hid (Ext w (wm.alloc (.cells #[.slice (some ⟨w.heap.size,0,none⟩) n n] 248))):=A0 (HXm.out.alloc _)
 go_enter func154,ntmps154
 go_wp2_with fail
 refine HIR2.out.mono ?_
 rintro e w1 ⟨rfl,rfl⟩
 go_wp2_with fail
 go_loop [6,36] (fun s i=>∃(j:Nat) (t:Int),j<=n∧i=.int .i64 (j:Int)∧s=.int .i64 t∧0<=t∧t<=65536*(j:Int)∧Hid (t=Rn.sum (ws.take j))) (fun _ i=>n-(intOf i).toNat)
 case atStart=>exact UQ
 case round=>
 obtain⟨j,tt,hj,rfl,rfl,ht0,ht1,HT⟩:=hrel
 by_cases hlt:j<n
 ·obtain⟨x,hxj⟩:∃x,ws[j]? =some x:=⟨_,M0 J4⟩;obtain⟨b,o,ha,hb,hc⟩:=HV.out.int_at (Ext.refl w) hxj;subst ha;have hjI:(j:Int)<(n:Int):=B0;obtain⟨hx1,hx2⟩:=HIN.out x (J1 hxj);have HT2:Hid (tt+x=Rn.sum (ws.take (j+1))):=A0 MF;clear hxj;go_wp2;go_round;(case rel=>exact⟨j+1,tt+x,by omega,by go_num,rfl,by omega,by omega,HT2⟩);case measure=>exact C1
 obtain rfl:n=j:=by omega
 obtain rfl:tt=S:=ER
 clear hj hlt HT ht0 ht1
 go_wp2_with fail
 go_loopw [49] (fun i wr=>∃j:Nat,j<=n∧i=.int .i64 (j:Int)∧Hid (QB wr wm.heap.size w.heap.size n (L7 tt t ws j))∧Hid (Ext w wr)) (fun i _=>n-(intOf i).toNat)
 case atStart=>exact⟨0,O0 _,rfl,HST,HX0⟩
 case round=>
 clear HST HX0 HQm HXm hmk
 obtain⟨j,hj,rfl,HQ,HX⟩:=hrel
 by_cases hlt:j<n
 ·obtain⟨x,hxj⟩:∃x,ws[j]? =some x:=⟨_,M0 J4⟩;obtain⟨b,o,ha,hb,hc⟩:=HV.out.int_at HX.out hxj;subst ha;have hjI:(j:Int)<(n:Int):=B0;obtain⟨hx1,hx2⟩:=HIN.out x (J1 hxj);obtain⟨p,hp⟩:∃p,p=2*(t:Int)*x:=⟨_,rfl⟩;have hpe:=hp.symm;have hp0:0<=p:=(by rw[hp];exact T7 B0 B0);have hp1:p<=131072*65536:=(by rw[hp];exact S8 B0 B0 B0 B0);have hcb:=HQ.out.cell;have hq:=HQ.out.at_;obtain⟨z,hz⟩:∃z,(L7 tt t ws j)[j]? =some z:=⟨_,M0 (by rw[MZ _ _ _ (by rw[<-HN.out];exact hj),<-HN.out];exact hlt)⟩;obtain⟨c0,c1,c2⟩:=hq.at_ hz;have f0:=hq.frz (j*3);have f1:=hq.frz (j*3+1);have f2:=hq.frz (j*3+2);have HS9:=A0 (HQ.out.at_.set j ⟨(j:Int),1,3*tt-p⟩);rw[hp,Zhj tt t hxj]at HS9;dsimp only at HS9;rw[<-hp]at HS9;clear hp hxj hq hz;go_wp2_with fail;go_roundw;(case rel=>exact⟨j+1,by omega,by go_num,A0 (HQ.out.turn (GB.setRow (GB.setRow (GB.setRow (GB.refl _) _ _) _ _) _ _) HS9.out (by rw[MZ _ _ _ G5,MZ _ _ _ G5])),A0 (((HX.out.setCell (p:=⟨w.heap.size,_,none⟩) (K0 _) _).setCell (p:=⟨w.heap.size,_,none⟩) (K0 _) _).setCell (p:=⟨w.heap.size,_,none⟩) (K0 _) _)⟩);case measure=>exact C1
 obtain rfl:n=j:=by omega
 have HQ0:Hid (QB wr wm.heap.size w.heap.size n (Hp.start tt t ws)):=A0 (by have h:=HQ.out;rw[HN.out,Zhi,<-HN.out]at h;exact h)
 have HU0:Hid (Hp.Que tt t ws (List.replicate n 1) (Hp.start tt t ws)):=A0 (by rw[HN.out];exact Hp.Que.start tt t ws)
 have HI:=A0 (Zle wm.heap.size w.heap.size n (Hp.start tt t ws) wr HQ0.out B0)
 have HX1:=HX
 clear HQ HX hlt hj
 go_wp2_with fail
 refine HI.out.mono ?_
 rintro e w2 ⟨rfl,q2,hq2,hh2,hp2,hg2⟩
 have HQ2:=A0 hq2
 have HH2:=A0 hh2
 have HU2:=A0 (HU0.out.perm hp2)
 have HX2:Hid (Ext w w2):=A0 (HX1.out.ofGrown hg2 (fun k hk=>by injection hk with hk;subst hk;exact K0 _))
 clear hq2 hh2 hp2 hg2 HI HQ0 HU0 HX1
 go_wp2_with fail
 go_loopw [73] (fun i wr=>∃(k:Nat) (ms:List Int) (q:List Hp.Sh),k<=K∧i=.int .i64 (k:Int)∧Hid (ms=Rn.give tt t ws k (List.replicate n 1))∧Hid (Hp.Few k ms)∧Hid (QB wr wm.heap.size w.heap.size n q)∧Hid (Hp.Heap Hp.lessS q 0)∧Hid (Hp.Que tt t ws ms q)∧Hid (Ext w wr)) (fun i _=>K-(intOf i).toNat)
 case atStart=>exact⟨0,_,q2,O0 _,rfl,A0 rfl,A0 (Hp.Few.ones n),HQ2,HH2,HU2,HX2⟩
 case round=>
 clear HQ2 HH2 HU2 HX2
 obtain⟨k,ms,q,hk,rfl,HMS,HFW,HQ,HH,HU,HX⟩:=hrel
 by_cases hlt:k<K
 ·have hkI:(k:Int)<(K:Int):=B0;obtain⟨r,hr⟩:∃r,q[0]? =some r:=⟨_,M0 UA⟩;obtain⟨kk,m,ww,h1,h2,h3,h4,h5,h6⟩:=HU.out.least hr HH.out;have hm:=HFW.out m (J1 h3);have hww:=HIN.out ww (J1 h4);obtain⟨rx,rm,rc⟩:=r;dsimp only at h1 h5 h6;subst h5;have hb1:rc<=1125899906842624∧-1125899906842624<=rc:=(by unfold Rn.need at h6;have a1:0<=tt*rm:=T7 hS0 B0;have a2:tt*rm<=4294967296*65537:=S8 hS1 B0 B0 B0;have a3:0<=(t:Int)*ww:=T7 B0 B0;have a4:(t:Int)*ww<=65536*65536:=S8 B0 B0 B0 B0;omega);obtain⟨hb1,hb2⟩:=hb1;have hm1:=hm.1;have hm2:rm<=65537:=B0;have hcb:=HQ.out.cell;have hq:=HQ.out.at_;obtain⟨c0,c1,c2⟩:=hq.at_ hr;dsimp only at c0 c1 c2;rw[Nat.zero_mul,T4]at c1 c2;have f1:=hq.frz 1;have f2:=hq.frz 2;have hn0:(0:Int)<(n:Int):=B0;have HS9:=A0 (fun m c=>hq.root hr m c);have HU9:=A0 (HU.out.give hr h1 h3);have HMS9:Hid (ms.set kk (rm+1)=Rn.give tt t ws (k+1) (List.replicate n 1)):=A0 (by rw[Hp.give_last,<-HMS.out];dsimp only;rw[h2,U0,h3];rfl);have HFW9:=A0 (HFW.out.give h3);have HN9:=A0 ((Hp.Heap.set Hp.lessS (HH.out.weak Hp.lessS (O0 1)) ⟨rx,rm+1,rc+2*tt⟩).near);dsimp only at HU9 HS9;have HX9:=A0 ((HX.out.setCell (p:=⟨w.heap.size,1,none⟩) (K0 _) (.int .i64 (rm+1))).setCell (p:=⟨w.heap.size,2,none⟩) (K0 _) (.int .i64 (rc+2*tt)));have HQ9:=A0 (HQ.out.turn (GB.setRow (GB.setRow (GB.refl wr) 1 (.int .i64 (rm+1))) 2 (.int .i64 (rc+2*tt))) (HS9.out (rm+1) (rc+2*tt)) (by rw[U6]));clear h1 h2 h3 h4 h6 hr hq hm HS9;go_wp2_with fail;generalize(wr.setCell ⟨w.heap.size,1,none⟩ (.int .i64 (rm+1))).setCell ⟨w.heap.size,2,none⟩ (.int .i64 (rc+2*tt))=w3 at*;clear hcb c0 c1 c2 f1 f2;refine(ZmC wm.heap.size w.heap.size n _ w3 HQ9.out B0 HN9.out).mono ?_;rintro e w4 ⟨rfl,q4,hq4,hh4,hp4,hg4⟩;have HQ4:=A0 hq4;have HH4:=A0 hh4;have HU4:=A0 (HU9.out.perm hp4);have HX4:Hid (Ext w w4):=A0 (HX9.out.ofGrown hg4 (fun k hk=>by injection hk with hk;subst hk;exact K0 _));clear hq4 hh4 hp4 hg4;go_wp2_with fail;go_roundw;(case rel=>exact⟨k+1,_,q4,by omega,by go_num,HMS9,HFW9,HQ4,HH4,HU4,HX4⟩);case measure=>exact C1
 obtain rfl:K=k:=by omega
 rw[<-HMS.out]at HRES
 rename World=>wa
 obtain⟨wo,hmk2,hOo,hXo⟩:=RU wa n w.heap.size B0 HX.out.size
 have HOo:=A0 hOo
 have HXo:=A0 hXo
 have HXA:=HX
 have hcb:=(HQ.out.on hXo).cell
 clear hOo hXo hlt hk HMS HFW HX HH
 go_wp2_with fail
 go_loopw [99] (fun i wq=>∃(j:Nat) (out:List Int),j<=n∧i=.int .i64 (j:Int)∧Hid (Hp.Got ms q j out)∧Hid (Own 3 wq w.heap.size (.slice (some ⟨wa.heap.size,0,none⟩) n n) (out.map encI))∧Hid (Ext wa wq)) (fun i _=>n-(intOf i).toNat)
 case atStart=>exact⟨0,List.replicate n 0,O0 _,rfl,A0 (Hp.Got.zero (by rw[D3,HU.out.ml,HN.out])),HOo,HXo⟩
 case round=>
 clear HOo HXo hmk2 hcb
 obtain⟨j,out,hj,rfl,HGT,HO,HX⟩:=hrel
 have hol:out.length=n:=by rw[HGT.out.1,HU.out.ml,HN.out]
 by_cases hlt:j<n
 ·have hjI:(j:Int)<(n:Int):=B0;obtain⟨r,hr⟩:∃r,q[j]? =some r:=⟨_,M0 UA⟩;obtain⟨kk,m,ww,h1,h2,h3,h4,h5⟩:=HU.out.at_ r (J1 hr);obtain⟨rx,rm,rc⟩:=r;dsimp only at h1 h4 h5;subst h1 h4;have hkk:=(I1.1 h3).1;rw[<-HN.out]at hkk;have hkkI:(kk:Int)<(n:Int):=B0;obtain⟨c0,c1,c2⟩:=(HQ.out.on HX.out).at_.at_ hr;dsimp only at c0 c1 c2;obtain⟨xo,co,fo⟩:=HO.out.intAt (i:=kk) (by rw[hol];exact hkk);have hog:wa.heap.size<wr.heap.size:=(U5 HO.out _ rfl).2;have HO9:=A0 (fun(o:Obj)=>((HO.out.putI kk rm).1.alloc o));have HX9:=A0 (fun(o:Obj)=>(HX.out.setCell (p:=⟨wa.heap.size,kk,none⟩) (K0 _) (.int .i64 rm)).alloc o);have HG9:=A0 (HGT.out.next hr rfl h2);clear h2 h3 h5 hr;go_wp2_with fail;go_roundw;(case rel=>exact⟨j+1,_,by omega,by go_num,HG9,A0 (HO9.out _),A0 (HX9.out _)⟩);case measure=>exact C1
 ·obtain rfl:n=j:=B0;obtain rfl:out=ms:=Hp.Got.all HU.out HGT.out (by rw[HQ.out.len];exact K0 _);have HK:=A0 HO.out;have hx9:=HXA.out.trans HX.out;clear hlt hj HO HX hol;go_wp2_with fail;go_ret2;rw[HRES.out];exact MH
theorem Zgw {t:TypeId} {w:World} {B g N:Nat} {xs:List Value} (h:Own t w B (.slice (some ⟨g,0,none⟩) N N) xs):w.heap[g]? =some (.cells xs.toArray t (0,0)):=by
 rcases h.2 with⟨h1,_⟩|⟨g',cap,cur,h1,hb,hg,_,_,hcs,ht⟩;·cases h1
 ·injection h1 with e1 e2 e3;injection e1 with e1;injection e1 with e1;subst e1 e3;rw[hg,<-ht,X1 (by rw[SC,hcs];omega)]
theorem EW {t:TypeId} {w:World} {B g N:Nat} {xs:List Value} (hg:w.heap[g]? =some (.cells xs.toArray t (0,0))) (hl:xs.length=N) (hN:N<=1000000) (hB:B<=g):Own t w B (.slice (some ⟨g,0,none⟩) N N) xs:=by subst hl;refine⟨by omega,.inr ⟨g,xs.length,xs.toArray,rfl,hB,hg,K0 _,by unfold Go.maxLen;omega,by simp,?_⟩⟩;rw[X1 L0]
theorem Zhu (w:World) (n:Nat) (hn:n<=1000000):∃w',(Instr.makeSlice 26 (.int .i64 (n:Int)) (.int .i64 (n:Int))).run prog w=.ok (.slice (some ⟨w.heap.size,0,none⟩) n n) w'∧w'.heap[w.heap.size]? =some (.cells (List.replicate n (.bool false)).toArray 4 (0,0))∧Ext w w':=by
 obtain⟨i0,hi,hz0,hz1,hz2⟩:=V5 VJ;obtain⟨w',h1,h2,h3⟩:=MW (P:=prog) w 0 26 4 i0 (.bool false) 1 underlying26 hi hz0 hz1 .i64 .i64 n RS RT (O0 _);refine⟨w',h1,?_,(Ext.refl w).ofGrown h3 (fun k hk=>by cases hk)⟩;have e:(madeCells (Value.bool false).cells (n*1)).toList=List.replicate n (.bool false):=by rw[A9];exact toList_madeCells_one _ _
 rw[e]at h2;have h4:Own 4 w' 0 (.slice (some ⟨w.heap.size,0,none⟩) n n) (List.replicate n (.bool false)):=by unfold Own;rw[D3];exact h2
 exact Zgw h4
theorem Zg9 (m:List Bool) (a b:Nat):splice (List.replicate (a+m.length+b) (Value.bool false)) a (m.map encT)=(Ln.quiet m a b).map encT:=by unfold splice Ln.quiet;rw[List.take_replicate,List.drop_replicate,J0,E3,E3,RX,RX,X6 B0,show a+m.length+b-(a+m.length)=b by omega,M3];rfl
theorem EX (m:List Bool) (a b:Nat):(Ln.quiet m a b).length=a+m.length+b:=by unfold Ln.quiet;rw[T0,T0,D3,D3]
theorem Zlv (m:List Bool):∀y∈m.map encT,y.oneCell'=true:=by intro y hy;obtain⟨b,_,rfl⟩:=E7.1 hy;rfl
theorem Zir {T:TypeId} {w wm:World} {a N:Nat} {m:List Bool} {n b0 o0 cv:Nat} (hg:wm.heap[w.heap.size]? =some (.cells (List.replicate N (.bool false)).toArray 4 (0,0))) (hX:Ext w wm) (hv:Sl wm (.slice (some ⟨b0,o0,none⟩) n cv) (m.map encT)) (hn:m.length=n) (hle:a+n<=N) (ha:a<N):
 ∃w5,(Builtin.copy_ #[26,26] T #[.slice (some ⟨w.heap.size,a,none⟩) (N-a) (N-a),.slice (some ⟨b0,o0,none⟩) n cv]).run prog wm=.ok (goInt n) w5∧w5.heap[w.heap.size]? =some (.cells (splice (List.replicate N (Value.bool false)) a (m.map encT)).toArray 4 (0,0))∧Ext w w5:=by
 have hrun:=run_copy_row (P:=prog) wm 26 26 T 4 w.heap.size a (N-a) (N-a) ⟨b0,o0,none⟩ n cv (List.replicate N (.bool false)).toArray 4 (m.map encT) underlying26 G0 hg (by rw[J0,hn];exact(X6 B0).symm) (fun j u hj=>by rcases hv with⟨h,_⟩|⟨b',o',cp,h,hb',hc⟩;(·rw[h]at hj;cases hj);·injection h with e1 e2 e3;injection e1 with e1;rw[e1,U7];have hjl:=(I1.1 hj).1;rw[hc j hjl];exact hj) (by rw[J0,hn];simpa using hle) (Zlv m)
 rw[J0,hn]at hrun
 refine⟨_,hrun,?_,below_setRow hX (K0 _) _⟩
 have:=setRow_heap wm w.heap.size (List.replicate N (.bool false)).toArray ((List.replicate N (Value.bool false)).take a++m.map encT++(List.replicate N (Value.bool false)).drop (a+n)).toArray 4 (0,0) hg
 unfold splice
 rw[J0,hn,<-M3]
 exact this
theorem Zh8 (v:Value) (m:List Bool) (a b:Nat) (w:World) (hv:Sl w v (m.map encT)) (hm:m.length<=400000) (hm1:1<=m.length) (ha:a<=1000) (hb:b<=1000):
 Calls prog 66 #[v,.int .i64 (a:Int),.int .i64 (b:Int)] w fun e w'=>∃u,e=.returned u∧SlK w' u ((Ln.quiet m a b).map encT)∧Ext w w':=by
 obtain⟨x0,hx0⟩:∃x,m[0]? =some x:=⟨_,M0 B0⟩
 obtain⟨av,cv,rfl⟩:=hv.form
 rw[J0]at hv⊢
 obtain⟨b0,o0,hav,hb0,-⟩:=hv.bool_at (Ext.refl w) hx0
 subst hav
 have HQ:=A0 (Zg9 m a b)
 have HQL:=A0 (EX m a b)
 obtain⟨n,hn⟩:∃n,n=m.length:=⟨_,rfl⟩
 rw[<-hn]at hv hm hm1 HQ HQL⊢
 obtain⟨N,hN⟩:∃N,N=a+n+b:=⟨_,rfl⟩
 rw[<-hN]at HQ HQL
 have hNI:(a:Int)+(n:Int)+(b:Int)=(N:Int):=by omega
 have haN:a<=N:=by omega
 have haN2:a<N:=by omega
 have haNI:(a:Int)<=(N:Int):=by omega
 have HV:=A0 hv
 have HN:=A0 hn
 obtain⟨wm,hmk,hgm,hXm⟩:=Zhu w N B0
 have HGM:=A0 hgm
 have HXM:=A0 hXm
 have HF1:Hid (a+n<=N∧n<=N-a∧N<=1000000):=A0 ⟨by omega,by omega,by omega⟩
 generalize Ln.quiet m a b=qs at*
 obtain⟨w5,hcp,hg5,hx5⟩:=Zir (T:=3) (w:=w) (wm:=wm) (a:=a) (N:=N) (m:=m) (n:=n) (b0:=b0) (o0:=o0) (cv:=cv) hgm hXm (hv.ext hXm) hn.symm B0 haN2
 have HG5:=A0 hg5
 have HX5:Hid (Ext w w5):=A0 hx5
 clear hv hn hN hx0 hgm hXm hg5 hx5
 go_enter func66,ntmps66
 go_wp2_with fail
 have HO5:Hid (SlK w5 (.slice (some ⟨w.heap.size,0,none⟩) N N) (qs.map encT)):=A0 (by have h1:=HG5.out;rw[HQ.out]at h1;exact(EW (B:=0) h1 (by rw[J0,HQL.out]) HF1.out.2.2 (O0 _)).slk)
 go_wp2_with fail
 go_ret
 exact⟨_,rfl,HO5.out,HX5.out⟩
end
section
open Go.RowKit Go.MuLone
theorem Zmv {k:Nat} (hk:k<10):∃u0 u1:List UInt8,Ea.sS (Ea.setsE0.getD k [])=u0∧Ea.sS (Ea.setsE1.getD k [])=u1∧u0.map swpU=u1∧(∀c∈u0,c=65∨c=66)∧u0.length=6∧(Ea.compB 0)[k]? =some (Ea.bS u0)∧(Ea.compB 1)[k]? =some (Ea.bS u1):=by
 have h:∀k:Fin 10,(Ea.sS (Ea.setsE0.getD k [])).map swpU=Ea.sS (Ea.setsE1.getD k [])∧(∀c∈Ea.sS (Ea.setsE0.getD k []),c=65∨c=66)∧(Ea.sS (Ea.setsE0.getD k [])).length=6:=by decide
 obtain⟨h1,h2,h3⟩:=h ⟨k,hk⟩;refine⟨_,_,rfl,rfl,h1,h2,h3,?_,?_⟩;·unfold Ea.compB;rw[D0 rfl,J2,M0 (show k<Ea.setsE0.length from hk),U0,M0 (show k<Ea.setsE0.length from hk)];rfl
 ·unfold Ea.compB;rw[C0 I0,J2,M0 (show k<Ea.setsE1.length from hk),U0,M0 (show k<Ea.setsE1.length from hk)];rfl
theorem Zej (w:World):Calls prog 180 #[.int .u8 49] w fun e w'=>e=.returned (arrV (Ea.compB 1))∧Ext w w':=by
 go_enter func180,ntmps180;go_wp2_with fail;obtain⟨W,hW⟩:∃W,w.alloc (Obj.cells #[Value.string ⟨#[]⟩,Value.string ⟨#[]⟩,Value.string ⟨#[]⟩,Value.string ⟨#[]⟩,Value.string ⟨#[]⟩,Value.string ⟨#[]⟩,Value.string ⟨#[]⟩,Value.string ⟨#[]⟩,Value.string ⟨#[]⟩,Value.string ⟨#[]⟩] 210)=W:=⟨_,rfl⟩;have hWx:Ext w W:=by rw[<-hW];exact(Ext.refl w).alloc _
 have hWs:W.heap.size=w.heap.size+1:=by rw[<-hW];simp
 have hres0:W.rowIs w.heap.size 210 10 (fun _=>.string ⟨#[]⟩):=by rw[<-hW];exact(NF w _ 210 (fun _=>.string ⟨#[]⟩) (fun i hi=>by have hi:i<10:=hi;rcases(by omega:i=0∨i=1∨i=2∨i=3∨i=4∨i=5∨i=6∨i=7∨i=8∨i=9)with h|h|h|h|h|h|h|h|h|h<;>subst h<;>rfl))
 rw[hW];obtain⟨V,hV⟩:∃V,W.alloc (Obj.cells #[Value.string ⟨#[66,66,66,65,65,65]⟩,Value.string ⟨#[66,66,65,66,65,65]⟩,Value.string ⟨#[66,66,65,65,66,65]⟩,Value.string ⟨#[66,66,65,65,65,66]⟩,Value.string ⟨#[66,65,66,66,65,65]⟩,Value.string ⟨#[66,65,65,66,66,65]⟩,Value.string ⟨#[66,65,65,65,66,66]⟩,Value.string ⟨#[66,65,66,65,66,65]⟩,Value.string ⟨#[66,65,66,65,65,66]⟩,Value.string ⟨#[66,65,65,66,65,66]⟩] 210)=V:=⟨_,rfl⟩;have hVx:Ext W V:=by rw[<-hV];exact(Ext.refl W).alloc _
 have hVs:V.heap.size=w.heap.size+1+1:=by rw[<-hV,<-hWs];simp
 have hrow0:V.rowIs (w.heap.size+1) 210 10 (fun i=>.string ((Ea.compB 0).getD i ⟨#[]⟩)):=by rw[<-hV,<-hWs];exact(NF W _ 210 (fun i=>.string ((Ea.compB 0).getD i ⟨#[]⟩)) (fun i hi=>by have hi:i<10:=hi;rcases(by omega:i=0∨i=1∨i=2∨i=3∨i=4∨i=5∨i=6∨i=7∨i=8∨i=9)with h|h|h|h|h|h|h|h|h|h<;>subst h<;>rfl))
 rw[hV];have HIX:Hid (∀k:Nat,k<10->∀w',(Instr.index 210 (.agg #[Value.string ⟨#[66,66,66,65,65,65]⟩,Value.string ⟨#[66,66,65,66,65,65]⟩,Value.string ⟨#[66,66,65,65,66,65]⟩,Value.string ⟨#[66,66,65,65,65,66]⟩,Value.string ⟨#[66,65,66,66,65,65]⟩,Value.string ⟨#[66,65,65,66,66,65]⟩,Value.string ⟨#[66,65,65,65,66,66]⟩,Value.string ⟨#[66,65,66,65,66,65]⟩,Value.string ⟨#[66,65,66,65,65,66]⟩,Value.string ⟨#[66,65,65,66,65,66]⟩]) (.int .i64 (k:Int))).run prog w'=.ok (.string ((Ea.compB 0).getD k ⟨#[]⟩)) w'):=A0 (fun k hk w'=>ZeY 210 10 G0 _ k hk _ (by rcases(by omega:k=0∨k=1∨k=2∨k=3∨k=4∨k=5∨k=6∨k=7∨k=8∨k=9)with h|h|h|h|h|h|h|h|h|h<;>subst h<;>rfl) w');have hn:=Ze2 V.heap.size (V.alloc (Obj.cells #[Value.string ⟨#[65]⟩,Value.string ⟨#[66]⟩,Value.string ⟨#[66]⟩,Value.string ⟨#[65]⟩] 9)) L0 L0 L0 L0;rw[hVs]at hn;refine hn.mono ?_;rintro e w1 ⟨b,rfl,hb,hF,hx1⟩;have hb:w.heap.size+3<=b:=by simp[hVs]at hb;omega
 have hVx1:Ext V w1:=(Ext.alloc (Ext.refl V) _).trans hx1;have hrow1:=Ext.rowX hrow0 hVx1;have hres1:=Ext.rowX hres0 (hVx.trans hVx1);have hxw1:Ext w w1:=(hWx.trans hVx).trans hVx1;clear hn hx1 hVx1 hrow0 hres0 hWx hVx hW hV hWs hVs;have q0:w1.cell? ⟨w.heap.size+1,0,none⟩=some (.string ⟨#[66,66,66,65,65,65]⟩):=hrow1.cell (i:=0) I0;have q1:w1.cell? ⟨w.heap.size+1,1,none⟩=some (.string ⟨#[66,66,65,66,65,65]⟩):=hrow1.cell (i:=1) I0;have q2:w1.cell? ⟨w.heap.size+1,2,none⟩=some (.string ⟨#[66,66,65,65,66,65]⟩):=hrow1.cell (i:=2) I0;have q3:w1.cell? ⟨w.heap.size+1,3,none⟩=some (.string ⟨#[66,66,65,65,65,66]⟩):=hrow1.cell (i:=3) I0;have q4:w1.cell? ⟨w.heap.size+1,4,none⟩=some (.string ⟨#[66,65,66,66,65,65]⟩):=hrow1.cell (i:=4) I0;have q5:w1.cell? ⟨w.heap.size+1,5,none⟩=some (.string ⟨#[66,65,65,66,66,65]⟩):=hrow1.cell (i:=5) I0;have q6:w1.cell? ⟨w.heap.size+1,6,none⟩=some (.string ⟨#[66,65,65,65,66,66]⟩):=hrow1.cell (i:=6) I0;have q7:w1.cell? ⟨w.heap.size+1,7,none⟩=some (.string ⟨#[66,65,66,65,66,65]⟩):=hrow1.cell (i:=7) I0;have q8:w1.cell? ⟨w.heap.size+1,8,none⟩=some (.string ⟨#[66,65,66,65,65,66]⟩):=hrow1.cell (i:=8) I0;have q9:w1.cell? ⟨w.heap.size+1,9,none⟩=some (.string ⟨#[66,65,65,66,65,66]⟩):=hrow1.cell (i:=9) I0;go_wp2;clear q0 q1 q2 q3 q4 q5 q6 q7 q8 q9;have HNX:=A0 (fun(w':World) (h:Ext w1 w')=>h);go_loopw [13] (fun i wr=>∃k:Nat,k<=10∧i=.int .i64 (k:Int)∧wr.rowIs (w.heap.size+1) 210 10 (fun j=>.string (if j<k then(Ea.compB 1).getD j ⟨#[]⟩else(Ea.compB 0).getD j ⟨#[]⟩))∧wr.rowIs w.heap.size 210 10 (fun _=>.string ⟨#[]⟩)∧Ext w wr∧
  ((k=0∧YK wr b 0)∨(∃br,w.heap.size+3<=br∧wr.rowIs br 328 256 (fun i=>.int .u8 (swpB i:Int))∧I7 wr b 1 0 (repI br) (.slice none 0 0)))) (fun i _=>10-(intOf i).toNat)
 case atStart=>exact⟨0,by omega,rfl,hrow1.congr (fun i _=>by simp),hres1,hxw1,.inl ⟨rfl,hF⟩⟩
 case round=>
  clear hrow1 hres1 hxw1 hF;obtain⟨k,hk,rfl,hrow,hres,hxr,hst⟩:=hrel;by_cases hlt:k<10
  ·obtain⟨u0,u1,e0,e1,hu,hab,h6,ha,hbb⟩:=Zmv hlt;have hix:=HIX.out k hlt;have hg0:(Ea.compB 0).getD k ⟨#[]⟩=Ea.bS u0:=(by rw[U0,ha];rfl);have HG1:Hid ((Ea.compB 1).getD k ⟨#[]⟩=Ea.bS u1):=A0 (by rw[U0,hbb];rfl);rw[hg0]at hix;have hsz:(Ea.bS u0).size=6:=(by rw[Zf (Ea.bS_list u0),h6]);have HU:Hid ((Ea.bS u0).data.toList.map swpU=u1):=A0 hu;have HAB:Hid (∀c∈(Ea.bS u0).data.toList,c=65∨c=66):=A0 hab;have HNEW:Hid (∀w',wr.grownBy w' (some b)->w'.rowIs (w.heap.size+1) 210 10 (fun j=>.string (if j<k then(Ea.compB 1).getD j ⟨#[]⟩else(Ea.compB 0).getD j ⟨#[]⟩))∧w'.rowIs w.heap.size 210 10 (fun _=>.string ⟨#[]⟩)∧Ext w w'):=A0 (fun w' hg=>
    ⟨hrow.of_block (hg.block _ hrow.lt N4),hres.of_block (hg.block _ hres.lt N4),hxr.ofGrown hg (fun j hj=>by cases hj;omega)⟩)
   generalize Ea.bS u0=U at*;clear e0 e1 hu hab ha hbb hg0;rcases hst with⟨rfl,hF⟩|⟨br,hbr,hrb,hrep⟩;(·have HR:=A0 (ZfN b U wr hF HAB.out B0 B0);have hsw:b<wr.heap.size:=(by obtain⟨_,h,_⟩:=hF;exact(O3.1 h).1);have hix:∀w',(Instr.index 210 (.agg #[Value.string ⟨#[66,66,66,65,65,65]⟩,Value.string ⟨#[66,66,65,66,65,65]⟩,Value.string ⟨#[66,66,65,65,66,65]⟩,Value.string ⟨#[66,66,65,65,65,66]⟩,Value.string ⟨#[66,65,66,66,65,65]⟩,Value.string ⟨#[66,65,65,66,66,65]⟩,Value.string ⟨#[66,65,65,65,66,66]⟩,Value.string ⟨#[66,65,66,65,66,65]⟩,Value.string ⟨#[66,65,66,65,65,66]⟩,Value.string ⟨#[66,65,65,66,65,66]⟩]) (.int .i64 0)).run prog w'=.ok (.string U) w':=hix;clear hrow hres hxr hF;go_wp2_with fail;refine HR.out.mono ?_;rintro e w2 ⟨rfl,br,hbr,hrb,hrep,hg⟩;obtain⟨hrow2,hres2,hx2⟩:=HNEW.out w2 hg;rw[HU.out];have hcl:=hrow2.cell hlt;have hfz:=hrow2.frozen 0;have HR5:=A0 ((hrow2.set 0 (.string ⟨u1.toArray⟩)).congr (g:=fun j=>.string (if j<0+1 then(Ea.compB 1).getD j ⟨#[]⟩else(Ea.compB 0).getD j ⟨#[]⟩)) (fun j hj=>by by_cases h1:j=0;(·subst h1;rw[D0 rfl,D0 B0,HG1.out];rfl);·rw[C0 h1,C0 B0,C0 B0]));have g5:=ZI w2 (w.heap.size+1) 0 (.string ⟨u1.toArray⟩);have HS5:=A0 (hres2.of_block (g5.block _ hres2.lt L0));have HX5:=A0 (hx2.setCell (p:=⟨w.heap.size+1,0,none⟩) L0 (.string ⟨u1.toArray⟩));have HB5:=A0 (hrb.of_block (g5.block _ hrb.lt N4));have HP5:Hid (I7 (w2.setCell ⟨w.heap.size+1,0,none⟩ (.string ⟨u1.toArray⟩)) b 1 0 (repI br) (.slice none 0 0)):=A0 ((g5.block b (O3.1 hrep).1 N4).trans hrep);clear hrow2 hres2 hx2 hrb hrep hg g5;go_wp2;go_roundw;(case rel=>exact⟨1,by omega,rfl,HR5.out,HS5.out,HX5.out,.inr ⟨br,by omega,HB5.out,HP5.out⟩⟩);case measure=>simp[intOf]);·have HR:=A0 (ZfM b br U wr hrb hrep HAB.out B0 B0);have HB0:=A0 hrb;have HP0:=A0 hrep;have HO:=A0 (And.intro hrow (And.intro hres hxr));clear hrow hres hxr hrb hrep;go_wp2_with fail;refine HR.out.mono ?_;rintro e w2 ⟨rfl,hx2⟩;have hrow2:=Ext.rowX HO.out.1 hx2;have hres2:=Ext.rowX HO.out.2.1 hx2;have hxx:=HO.out.2.2.trans hx2;have hrb:=Ext.rowX HB0.out hx2;have hrep:I7 w2 b 1 0 (repI br) (.slice none 0 0):=(hx2.block b (O3.1 HP0.out).1).trans HP0.out;rw[HU.out];have hcl:=hrow2.cell hlt;have hfz:=hrow2.frozen k;have HR5:=A0 ((hrow2.set k (.string ⟨u1.toArray⟩)).congr (g:=fun j=>.string (if j<k+1 then(Ea.compB 1).getD j ⟨#[]⟩else(Ea.compB 0).getD j ⟨#[]⟩)) (fun j hj=>by by_cases h1:j=k;(·subst h1;rw[D0 rfl,D0 B0,HG1.out];rfl);·rw[C0 h1];by_cases h2:j<k;(·exact F9);·rw[C0 h2,C0 B0]));have g5:=ZI w2 (w.heap.size+1) k (.string ⟨u1.toArray⟩);have HS5:=A0 (hres2.of_block (g5.block _ hres2.lt L0));have HX5:=A0 (hxx.setCell (p:=⟨w.heap.size+1,k,none⟩) L0 (.string ⟨u1.toArray⟩));have HB5:=A0 (hrb.of_block (g5.block _ hrb.lt N4));have HP5:Hid (I7 (w2.setCell ⟨w.heap.size+1,k,none⟩ (.string ⟨u1.toArray⟩)) b 1 0 (repI br) (.slice none 0 0)):=A0 ((g5.block b (O3.1 hrep).1 N4).trans hrep);clear hrow2 hres2 hx2 hrb hrep g5 hxx;go_wp2;go_roundw;(case rel=>exact⟨k+1,by omega,by go_num,HR5.out,HS5.out,HX5.out,.inr ⟨br,hbr,HB5.out,HP5.out⟩⟩);case measure=>exact Q8
  ·obtain rfl:k=10:=B0;have q0:wr.cell? ⟨w.heap.size+1,0,none⟩=some (.string ⟨#[65,65,65,66,66,66]⟩):=hrow.cell (i:=0) I0;have q1:wr.cell? ⟨w.heap.size+1,1,none⟩=some (.string ⟨#[65,65,66,65,66,66]⟩):=hrow.cell (i:=1) I0;have q2:wr.cell? ⟨w.heap.size+1,2,none⟩=some (.string ⟨#[65,65,66,66,65,66]⟩):=hrow.cell (i:=2) I0;have q3:wr.cell? ⟨w.heap.size+1,3,none⟩=some (.string ⟨#[65,65,66,66,66,65]⟩):=hrow.cell (i:=3) I0;have q4:wr.cell? ⟨w.heap.size+1,4,none⟩=some (.string ⟨#[65,66,65,65,66,66]⟩):=hrow.cell (i:=4) I0;have q5:wr.cell? ⟨w.heap.size+1,5,none⟩=some (.string ⟨#[65,66,66,65,65,66]⟩):=hrow.cell (i:=5) I0;have q6:wr.cell? ⟨w.heap.size+1,6,none⟩=some (.string ⟨#[65,66,66,66,65,65]⟩):=hrow.cell (i:=6) I0;have q7:wr.cell? ⟨w.heap.size+1,7,none⟩=some (.string ⟨#[65,66,65,66,65,66]⟩):=hrow.cell (i:=7) I0;have q8:wr.cell? ⟨w.heap.size+1,8,none⟩=some (.string ⟨#[65,66,65,66,66,65]⟩):=hrow.cell (i:=8) I0;have q9:wr.cell? ⟨w.heap.size+1,9,none⟩=some (.string ⟨#[65,66,66,65,66,65]⟩):=hrow.cell (i:=9) I0;have r0:=hres.cell (i:=0) I0;have z0:=hres.frozen 0;have r1:=hres.cell (i:=1) I0;have z1:=hres.frozen 1;have r2:=hres.cell (i:=2) I0;have z2:=hres.frozen 2;have r3:=hres.cell (i:=3) I0;have z3:=hres.frozen 3;have r4:=hres.cell (i:=4) I0;have z4:=hres.frozen 4;have r5:=hres.cell (i:=5) I0;have z5:=hres.frozen 5;have r6:=hres.cell (i:=6) I0;have z6:=hres.frozen 6;have r7:=hres.cell (i:=7) I0;have z7:=hres.frozen 7;have r8:=hres.cell (i:=8) I0;have z8:=hres.frozen 8;have r9:=hres.cell (i:=9) I0;have z9:=hres.frozen 9;obtain⟨cs,hcs,hcn,hcv⟩:=hres;have hcs0:cs=Array.replicate 10 (.string ⟨#[]⟩):=(by apply UT;(·rw[hcn];rfl);·intro i h1 h2;have:=hcv i B0;rw[Array.getElem?_eq_getElem h1]at this;injection this with this;rw[this];simp);subst hcs0;have m0:=Zp (i:=0) (u:=.string ⟨#[65,65,65,66,66,66]⟩) hcs;have m1:=Zp (i:=1) (u:=.string ⟨#[65,65,66,65,66,66]⟩) m0;have m2:=Zp (i:=2) (u:=.string ⟨#[65,65,66,66,65,66]⟩) m1;have m3:=Zp (i:=3) (u:=.string ⟨#[65,65,66,66,66,65]⟩) m2;have m4:=Zp (i:=4) (u:=.string ⟨#[65,66,65,65,66,66]⟩) m3;have m5:=Zp (i:=5) (u:=.string ⟨#[65,66,66,65,65,66]⟩) m4;have m6:=Zp (i:=6) (u:=.string ⟨#[65,66,66,66,65,65]⟩) m5;have m7:=Zp (i:=7) (u:=.string ⟨#[65,66,65,66,65,66]⟩) m6;have m8:=Zp (i:=8) (u:=.string ⟨#[65,66,65,66,66,65]⟩) m7;have m9:=Zp (i:=9) (u:=.string ⟨#[65,66,66,65,66,65]⟩) m8;have HM:=A0 m9;clear hcs hcn hcv m0 m1 m2 m3 m4 m5 m6 m7 m8 m9;have HXE:=A0 (fun(i:Nat) (w':World) (h:Ext w w') (u:Value)=>h.setCell (p:=⟨w.heap.size,i,none⟩) (K0 _) u);clear hrow hst hk hlt;go_wp2;refine E1 (results_cell_row results180 _ _ w.heap.size 210 _ (0,0) _ rfl HM.out underlying210 rfl G0) rfl ?_;exact⟨rfl,HXE.out 9 _ (HXE.out 8 _ (HXE.out 7 _ (HXE.out 6 _ (HXE.out 5 _ (HXE.out 4 _ (HXE.out 3 _ (HXE.out 2 _ (HXE.out 1 _ (HXE.out 0 _ hxr _) _) _) _) _) _) _) _) _) _⟩
theorem rB (y:Nat) (hy:y<2) (w:World):Calls prog 180 #[.int .u8 (48+(y:Int))] w fun e w'=>e=.returned (arrV (Ea.compB y))∧Ext w w':=by
 rcases(by omega:y=0∨y=1)with rfl|rfl;·exact ZdT 48 rfl w
 ·exact Zej w
end
section
open Go.RowKit
theorem rC {t:Nat} (ht:t<3):(Ea.rowB t).length=10:=by
 have:∀t:Fin 3,(Ea.rowB t).length=10:=by decide
 exact this ⟨t,ht⟩
theorem Zok {t d:Nat} (ht:t<3) (hd:d<10):(Ea.rowB t)[d]? =some (Ea.bS (Ea.mS (Ea.modl t d))):=by
 have h:d<(Ea.tab.getD t []).length:=by have:∀t:Fin 3,(Ea.tab.getD t.1 []).length=10:=I0;rw[this ⟨t,ht⟩];exact hd
 unfold Ea.rowB Ea.modl;generalize Ea.tab.getD t []=L at*;rw[J2,U0,M0 h];rfl
theorem WC (D S P:ByteArray) (us:List Nat) (sep:List Bool) (hd:Ea.digs D.data.toList=true) (hS:S.data.toList=Ea.sS us) (hl:us.length=D.size) (hu:∀u∈us,u<3) (hP:P.data.toList=Ea.mS sep)
 (hD:D.size<=1000) (hsep:sep.length<=10) (w:World):
 Calls prog 111 #[.string D,.string S,.string P] w fun e w'=>e=.returned (.string (Ea.bS (Ea.mS (Ea.drw sep D.data.toList us))))∧Ext w w':=by
 have hll:us.length=D.data.toList.length:=by rw[hl,Zd]
 have HRES:=A0 (Ea.join_draw sep D.data.toList us hll)
 have HLEN:=A0 (Ea.drw_len sep D.data.toList us hd hll hu)
 rw[Zd]at HLEN
 have HDG:=A0 (Ea.digs_iff.1 hd)
 have HU:=A0 hu
 have HSS:=A0 hS
 have HPP:=A0 hP
 have HLL:=A0 hl
 have HDL:=A0 (Ea.dl_len hll)
 have HDA:=A0 (fun i c t h1 h2=> @Ea.dl_at D.data.toList us i c t h1 h2)
 have hSs:S.size=D.size:=by rw[Zf hS,Ea.sS_len,hl]
 have hmk:=G9 (P:=prog) 141 9 (.string ⟨#[]⟩) 16 underlying141 G0 rfl .i64 .i64 D.size B0 B0
 have hSlt:∀j:Nat,j<D.size->j<S.size:=fun j hj=>by omega
 clear hd hS hl hu hP hll hSs
 go_enter func111,ntmps111
 go_wp2
 clear hmk
 go_loopw [15] (fun i wr=>∃j:Nat,j<=D.size∧i=.int .i64 (j:Int)∧wr.rowIs w.heap.size 9 D.size (fun k=>if k<j then .string (Ea.bS (Ea.mS ((Ea.dl D.data.toList us).getD k [])))else .string ⟨#[]⟩)∧Ext w wr) (fun i _=>D.size-(intOf i).toNat)
 case atStart=>exact NS
 case round=>
  obtain⟨j,hj,rfl,hrow,hxr⟩:=hrel;by_cases hlt:j<D.size
  ·obtain⟨t,hut⟩:∃t,us[j]? =some t:=⟨_,M0 (by rw[HLL.out];exact hlt)⟩;have hSj:j<S.size:=hSlt j hlt;have hcell:=hrow.cell hlt;have hfz:=hrow.frozen j;have ht:t<3:=HU.out t (J1 hut);have hdc:D.data.toList[j]? =some D[j]:=M0 RM;have hd48:=HDG.out D[j] (J1 hdc);have HDLJ:=A0 (HDA.out j D[j] t hdc hut);have HSJ:Hid (S[j].toNat=65+t):=A0 (by have h1:S.data.toList[j]? =some S[j]:=M0 (by rw[Zd];exact hSj);rw[HSS.out]at h1;unfold Ea.sS at h1;rw[J2,hut]at h1;have h2:Ea.cS t=S[j]:=YM;rw[<-h2];unfold Ea.cS;simp;omega);obtain⟨c,hc⟩:∃c,D[j]=c:=⟨_,rfl⟩;rw[hc]at hd48 HDLJ;obtain⟨d,hdd⟩:∃d,c.toNat-48=d:=⟨_,rfl⟩;rw[hdd]at HDLJ;have hd10:d<10:=B0;have hsub:(c.toNat:Int)-48=(d:Int):=B0;have HDR:Hid (∀w,Calls prog 181 #[.int .u8 (65+(t:Int))] w fun e w'=>e=.returned (arrV (Ea.rowB t))∧Ext w w'):=A0 (fun w=>gM t ht w);have hRd:=Zok ht hd10;have hRl:=rC ht;unfold arrV at HDR;obtain⟨R,hR⟩:∃R,((Ea.rowB t).map Value.string).toArray=R:=⟨_,rfl⟩;have hRs:R.size=10:=(by rw[<-hR];simp[hRl]);have HR1:Hid (R.all (·.oneCell')=true):=A0 EY;have HRd:Hid (R[d]? =some (.string (Ea.bS (Ea.mS (Ea.modl t d))))):=A0 EZ;rw[hR]at HDR;obtain⟨m,hm⟩:∃m,Ea.bS (Ea.mS (Ea.modl t d))=m:=⟨_,rfl⟩;rw[hm]at HRd;have HM:=A0 hm;clear hm;have hSJ:=HSJ.out;clear hut ht hdc hd48 hdd hRd hRl hR;go_wp2_with fail;refine(HDR.out _).mono ?_;rintro e w4 ⟨rfl,hx4⟩;have hst:=VW R hRs HR1.out w4;have hnc:=H7 R 210 w4 HRd.out;have hx5:Ext wr (w4.alloc (.cells R 210)):=hx4.alloc _;have hrow5:=Ext.rowX hrow hx5;have hcell5:=hrow5.cell hlt;have hfz5:=hrow5.frozen j;have HR5:Hid (((w4.alloc (.cells R 210)).setCell ⟨w.heap.size,j,none⟩ (.string m)).rowIs w.heap.size 9 D.size (fun k=>if k<j+1 then .string (Ea.bS (Ea.mS ((Ea.dl D.data.toList us).getD k [])))else .string ⟨#[]⟩)):=
    A0 ((hrow5.set j (.string m)).congr (fun k hk=>by by_cases h1:k=j;(·subst h1;rw[D0 rfl,D0 B0,U0,HDLJ.out];exact R0 Value.string HM.out.symm);·rw[C0 h1];by_cases h2:k<j;(·exact F9);·rw[C0 h2,C0 B0]))
   have HX:=A0 ((hxr.trans hx5).setCell (p:=⟨w.heap.size,j,none⟩) (K0 _) (.string m));clear hcell hfz hrow hrow5 hxr;exact gD
  ·obtain rfl:j=D.size:=B0;have HJ:=A0 (Tryz.strings_Join w.heap.size 0 D.size ((Ea.dl D.data.toList us).map fun m=>Ea.bS (Ea.mS m)) P wr (fun k x hx=>by
    rw[J2,VO]at hx;obtain⟨m,hm,rfl⟩:=hx;have hk:=(I1.1 hm).1;rw[HDL.out,Zd]at hk;rw[T4,hrow.cell hk,D0 hk,U0,hm];rfl) (by have:=hrow.lt;exact this) rD rD
    (by have e:((Ea.dl D.data.toList us).map fun m=>Ea.bS (Ea.mS m)).map (·.data.toList)=(Ea.dl D.data.toList us).map Ea.mS:=(by rw[G7];rfl);rw[e,HPP.out,HRES.out,Ea.mS_len,HLEN.out];have h1:sep.length*(D.size-1)<=10*1000:=VH hsep B0;omega))
   have e:((Ea.dl D.data.toList us).map fun m=>Ea.bS (Ea.mS m)).map (·.data.toList)=(Ea.dl D.data.toList us).map Ea.mS:=(by rw[G7];rfl);rw[e,HPP.out,HRES.out,J0,HDL.out,Zd]at HJ;clear hrow hj hlt e;exact kO
theorem WE (p:Addr) (s:ByteArray) (i:Nat) (d:Nat) (hi:i<s.size) (hd:s[i].toNat=48+d) (w:World) (hc:w.cell? p=some (.string s)):
 Calls prog 183 #[.int .i64 (i:Int),.pointer (some p)] w fun e w'=>e=.returned (.int .i64 (d:Int))∧w=w':=by
 have hlt:(s[i].toNat:Int)-48=(d:Int):=by omega
 have hd2:d<=255:=by have:=UInt8.toNat_lt s[i];omega
 clear hd
 go_enter func183,ntmps183
 go_wp2
 go_ret
 exact⟨rfl,rfl⟩
theorem L8 (s:ByteArray) (i:Nat) (h:i<s.size):Ea.dv s.data.toList i=s[i].toNat-48:=by unfold Ea.dv;exact VK
theorem Zf7 (s:ByteArray) (h2:s.size=2) (hd:Ea.digs s.data.toList=true) (w:World):
 Calls prog 112 #[.string s] w fun e w'=>e=.returned (.string (Ea.bS (Ea.sS (Ea.setsAdd s.data.toList))))∧Ext w w':=by
 have b2:((s.size:Int)==2)=true:=by rw[h2];rfl
 obtain⟨d0,hd0⟩:∃d,s[0].toNat=48+d:=⟨s[0].toNat-48,by have:=Ea.digs_iff.1 hd s[0] (Zn s 0 B0);omega⟩
 obtain⟨d1,hd1⟩:∃d,s[1].toNat=48+d:=⟨s[1].toNat-48,by have:=Ea.digs_iff.1 hd s[1] (Zn s 1 B0);omega⟩
 have h09:=Ea.digs_iff.1 hd s[0] (Zn s 0 B0)
 have h19:=Ea.digs_iff.1 hd s[1] (Zn s 1 B0)
 have hd0':d0<=9:=by omega
 have hd1':d1<=9:=by omega
 have H0:=A0 (fun(p:Addr) (w':World) (hc:w'.cell? p=some (.string s))=>WE p s 0 d0 B0 hd0 w' hc)
 have H1:=A0 (fun(p:Addr) (w':World) (hc:w'.cell? p=some (.string s))=>WE p s 1 d1 B0 hd1 w' hc)
 have HDV:Hid (10*Ea.dv s.data.toList 0+Ea.dv s.data.toList 1=10*d0+d1):=A0 (by rw[L8 s 0 B0,L8 s 1 B0];omega)
 clear hd h09 h19 hd0 hd1
 go_enter func112,ntmps112
 go_wp2_with fail
 refine(H0.out _ _ L0).mono ?_
 rintro e w1 ⟨rfl,rfl⟩
 go_wp2_with fail
 refine(H1.out _ _ L0).mono ?_
 rintro e w1 ⟨rfl,rfl⟩
 obtain⟨x,hx⟩:∃x,(10*d0+d1)%4=x:=⟨_,rfl⟩
 have hm:(10*(d0:Int)+(d1:Int)).tmod 4=(x:Int):=LA
 have hx4:x<4:=by omega
 have HX:Hid (Ea.bS (Ea.sS (Ea.setsA2.getD x []))=Ea.bS (Ea.sS (Ea.setsAdd s.data.toList))):=A0 (by unfold Ea.setsAdd;rw[D0 (by rw[Zd];exact h2)];congr 3;rw[<-hx];congr 1;exact HDV.out.symm)
 have hcl:((w.alloc (Obj.cells #[Value.string s] 9)).alloc (Obj.cells #[.string ⟨#[65,65]⟩,.string ⟨#[65,66]⟩,.string ⟨#[66,65]⟩,.string ⟨#[66,66]⟩] 214)).cell? ⟨w.heap.size+1,x,none⟩=some (.string (Ea.bS (Ea.sS (Ea.setsA2.getD x [])))):=by have h1:(w.alloc (Obj.cells #[Value.string s] 9)).heap.size=w.heap.size+1:=L0;rw[<-h1];refine H7 _ _ _ ?_;rcases(by omega:x=0∨x=1∨x=2∨x=3)with h|h|h|h<;>rw[h]<;>rfl
 rw[HX.out]at hcl
 clear hx HX
 go_wp2
 go_ret
 exact⟨rfl,Xf⟩
theorem ZeO (s:ByteArray) (h2:s.size=5) (hd:Ea.digs s.data.toList=true) (w:World):
 Calls prog 112 #[.string s] w fun e w'=>e=.returned (.string (Ea.bS (Ea.sS (Ea.setsAdd s.data.toList))))∧Ext w w':=by
 have b2:((s.size:Int)==2)=false:=by rw[h2];rfl
 obtain⟨d0,hd0⟩:∃d,s[0].toNat=48+d:=⟨s[0].toNat-48,by have:=Ea.digs_iff.1 hd s[0] (Zn s 0 B0);omega⟩
 have hd0':d0<=9:=by have:=Ea.digs_iff.1 hd s[0] (Zn s 0 B0);omega
 have H0:=A0 (fun(p:Addr) (w':World) (hc:w'.cell? p=some (.string s))=>WE p s 0 d0 B0 hd0 w' hc)
 obtain⟨d1,hd1⟩:∃d,s[1].toNat=48+d:=⟨s[1].toNat-48,by have:=Ea.digs_iff.1 hd s[1] (Zn s 1 B0);omega⟩
 have hd1':d1<=9:=by have:=Ea.digs_iff.1 hd s[1] (Zn s 1 B0);omega
 have H1:=A0 (fun(p:Addr) (w':World) (hc:w'.cell? p=some (.string s))=>WE p s 1 d1 B0 hd1 w' hc)
 obtain⟨d2,hd2⟩:∃d,s[2].toNat=48+d:=⟨s[2].toNat-48,by have:=Ea.digs_iff.1 hd s[2] (Zn s 2 B0);omega⟩
 have hd2':d2<=9:=by have:=Ea.digs_iff.1 hd s[2] (Zn s 2 B0);omega
 have H2:=A0 (fun(p:Addr) (w':World) (hc:w'.cell? p=some (.string s))=>WE p s 2 d2 B0 hd2 w' hc)
 obtain⟨d3,hd3⟩:∃d,s[3].toNat=48+d:=⟨s[3].toNat-48,by have:=Ea.digs_iff.1 hd s[3] (Zn s 3 B0);omega⟩
 have hd3':d3<=9:=by have:=Ea.digs_iff.1 hd s[3] (Zn s 3 B0);omega
 have H3:=A0 (fun(p:Addr) (w':World) (hc:w'.cell? p=some (.string s))=>WE p s 3 d3 B0 hd3 w' hc)
 obtain⟨d4,hd4⟩:∃d,s[4].toNat=48+d:=⟨s[4].toNat-48,by have:=Ea.digs_iff.1 hd s[4] (Zn s 4 B0);omega⟩
 have hd4':d4<=9:=by have:=Ea.digs_iff.1 hd s[4] (Zn s 4 B0);omega
 have H4:=A0 (fun(p:Addr) (w':World) (hc:w'.cell? p=some (.string s))=>WE p s 4 d4 B0 hd4 w' hc)
 have HDV:Hid (3*(Ea.dv s.data.toList 0+Ea.dv s.data.toList 2+Ea.dv s.data.toList 4)+9*(Ea.dv s.data.toList 1+Ea.dv s.data.toList 3)=3*(d0+d2+d4)+9*(d1+d3)):=A0 (by rw[L8 s 0 B0,L8 s 1 B0,L8 s 2 B0,L8 s 3 B0,L8 s 4 B0];omega)
 clear hd hd0 hd1 hd2 hd3 hd4
 go_enter func112,ntmps112
 go_wp2_with fail
 refine(H0.out _ _ L0).mono ?_
 rintro e w1 ⟨rfl,rfl⟩
 go_wp2_with fail
 refine(H2.out _ _ L0).mono ?_
 rintro e w1 ⟨rfl,rfl⟩
 go_wp2_with fail
 refine(H4.out _ _ L0).mono ?_
 rintro e w1 ⟨rfl,rfl⟩
 go_wp2_with fail
 refine(H1.out _ _ L0).mono ?_
 rintro e w1 ⟨rfl,rfl⟩
 go_wp2_with fail
 refine(H3.out _ _ L0).mono ?_
 rintro e w1 ⟨rfl,rfl⟩
 obtain⟨x,hx⟩:∃x,(3*(d0+d2+d4)+9*(d1+d3))%10=x:=⟨_,rfl⟩
 have hm:(3*((d0:Int)+(d2:Int)+(d4:Int))+9*((d1:Int)+(d3:Int))).tmod 10=(x:Int):=LA
 have hx10:x<10:=by omega
 have HX:Hid (Ea.bS (Ea.sS (Ea.setsA5.getD x []))=Ea.bS (Ea.sS (Ea.setsAdd s.data.toList))):=A0 (by unfold Ea.setsAdd;rw[C0 YN];congr 3;rw[<-hx];congr 1;exact HDV.out.symm)
 have hcl:((w.alloc (Obj.cells #[Value.string s] 9)).alloc (Obj.cells #[.string ⟨#[66,66,65,65,65]⟩,.string ⟨#[66,65,66,65,65]⟩,.string ⟨#[66,65,65,66,65]⟩,.string ⟨#[66,65,65,65,66]⟩,.string ⟨#[65,66,66,65,65]⟩,.string ⟨#[65,65,66,66,65]⟩,.string ⟨#[65,65,65,66,66]⟩,.string ⟨#[65,66,65,66,65]⟩,.string ⟨#[65,66,65,65,66]⟩,.string ⟨#[65,65,66,65,66]⟩] 210)).cell? ⟨w.heap.size+1,x,none⟩=some (.string (Ea.bS (Ea.sS (Ea.setsA5.getD x [])))):=by have h1:(w.alloc (Obj.cells #[Value.string s] 9)).heap.size=w.heap.size+1:=L0;rw[<-h1];refine H7 _ _ _ ?_;rcases(by omega:x=0∨x=1∨x=2∨x=3∨x=4∨x=5∨x=6∨x=7∨x=8∨x=9)with h|h|h|h|h|h|h|h|h|h<;>rw[h]<;>rfl
 rw[HX.out]at hcl
 clear hx HX
 go_wp2
 go_ret
 exact⟨rfl,Xf⟩
theorem DC (s:ByteArray) (h:s.size=2∨s.size=5) (hd:Ea.digs s.data.toList=true) (w:World):
 Calls prog 112 #[.string s] w fun e w'=>e=.returned (.string (Ea.bS (Ea.sS (Ea.setsAdd s.data.toList))))∧Ext w w':=by
 rcases h with h|h
 ·exact Zf7 s h hd w
 ·exact ZeO s h hd w
theorem Zne (n:Nat):Lib.repeatL [48] n=Ea.mS (Ea.lgt n):=by
 induction n with
 |zero=>rfl
 |succ n ih=>rw[Lib.repeatL,ih];unfold Ea.lgt;rw[N5];rfl
theorem I9 (n:Nat) (hn:n<=1000000) (w:World):Calls prog 109 #[.string ⟨#[48]⟩,.int .i64 (n:Int)] w fun e w'=>e=.returned (.string (Ea.bS (Ea.mS (Ea.lgt n))))∧Ext w w':=by have h:=Tryz.strings_Repeat ⟨#[48]⟩ n w B0 (by rw[show(⟨#[48]⟩:ByteArray).size=1 from rfl];omega);refine h.mono ?_;rintro e w' ⟨rfl,hx⟩;exact⟨by rw[<-Zne];rfl,hx⟩
theorem Zlj:Ea.leftB.length=10:=by decide
theorem ZmG {d:Nat} (hd:d<10):Ea.leftB[d]? =some (Ea.bS (Ea.sS (Ea.sets13 d))):=by unfold Ea.leftB Ea.sets13;rw[J2,U0,M0 (show d<Ea.setsL.length from hd)];rfl
theorem Zjv (y:Nat):(Ea.compB y).length=10:=by unfold Ea.compB;split<;>rfl
theorem ZkG {y d:Nat} (hy:y<2) (hd:d<10):(Ea.compB y)[d]? =some (Ea.bS (Ea.sS (Ea.setsE y d))):=by
 unfold Ea.compB Ea.setsE;rcases(by omega:y=0∨y=1)with rfl|rfl;·rw[D0 rfl,D0 rfl,J2,U0,M0 (show d<Ea.setsE0.length from hd)];rfl
 ·rw[C0 I0,C0 I0];unfold Ea.setsE1;rw[G7,J2,U0,M0 (show d<Ea.setsE0.length from hd)];rfl
theorem named {l:List Bool}:∃S:ByteArray,Ea.bS (Ea.mS l)=S∧S.data.toList=Ea.mS l∧S.size=l.length:=⟨_,rfl,rfl,by rw[Zf (Ea.bS_list _),Ea.mS_len]⟩
theorem rK (s:ByteArray) (hd:Ea.digs s.data.toList=true) (h13:s.size=13) (w:World):
 Calls prog 110 #[.int .i64 1,.string s] w fun e w'=>e=.returned (.string (Ea.bS (Ea.mS (Ea.sym13 s.data.toList))))∧Ext w w':=by
 obtain⟨a,b,hq⟩:=Ea.sets13_ok ⟨Ea.dv s.data.toList 0,Ea.dv_lt hd 0⟩
 clear hq
 dsimp only at a b
 have hd0:=Ea.dv_lt hd 0
 have h48:=Ea.digs_iff.1 hd s[0] (Zn s 0 B0)
 have hdv:=L8 s 0 B0
 have HSY:=A0 (Ea.sym13.eq_1 s.data.toList)
 have c1:(s.extract 1 7).data.toList=(s.data.toList.drop 1).take 6:=Z0 s 1 7
 have c2:(s.extract 7 13).data.toList=s.data.toList.drop 7:=rL
 have d1:=Ea.digs_take (Ea.digs_drop hd 1) 6
 have d2:=Ea.digs_drop hd 7
 have s1:(s.extract 1 7).size=6:=UU
 have s2:(s.extract 7 13).size=6:=UU
 obtain⟨d,hdd⟩:∃d,Ea.dv s.data.toList 0=d:=⟨_,rfl⟩
 rw[hdd]at a b hd0 hdv HSY
 have hsub:(s[0].toNat:Int)-48=(d:Int):=by omega
 have l1:=Ea.drw6_len d1 rM a (fun u hu=>by have:=b u hu;omega)
 have l2:=Ea.drw6_len d2 DH (us:=[2,2,2,2,2,2]) rfl L0
 have HD1:=A0 (fun w'=>WC (s.extract 1 7) (Ea.bS (Ea.sS (Ea.sets13 d))) ⟨#[]⟩ (Ea.sets13 d) [] (by rw[c1];exact d1) rfl (by rw[a,s1]) (fun u hu=>by have:=b u hu;omega) rfl B0 L0 w')
 have HD2:=A0 (fun w'=>WC (s.extract 7 13) ⟨#[67,67,67,67,67,67]⟩ ⟨#[]⟩ [2,2,2,2,2,2] [] (by rw[c2];exact d2) rfl (by rw[s2];rfl) L0 rfl B0 L0 w')
 rw[c1]at HD1
 rw[c2]at HD2
 generalize Ea.drw [] ((s.data.toList.drop 1).take 6) (Ea.sets13 d)=m1 at*
 generalize Ea.drw [] (s.data.toList.drop 7) [2,2,2,2,2,2]=m2 at*
 obtain⟨A,hA,hAl,hAs⟩:=named (l:=m1)
 obtain⟨B,hB,hBl,hBs⟩:=named (l:=m2)
 rw[hA]at HD1
 rw[hB]at HD2
 have HRES:Hid ((⟨#[49,48,49]⟩++A++⟨#[48,49,48,49,48]⟩++B++⟨#[49,48,49]⟩:ByteArray)=Ea.bS (Ea.mS (Ea.sym13 s.data.toList))):=A0 rN
 have hAs:A.size=42:=by rw[hAs,l1]
 have hBs:B.size=42:=by rw[hBs,l2]
 have HL:=A0 (gN w)
 have hRd:=ZmG hd0
 unfold arrV at HL
 obtain⟨R,hR⟩:∃R,(Ea.leftB.map Value.string).toArray=R:=⟨_,rfl⟩
 have hRs:R.size=10:=by rw[<-hR];simp[Zlj]
 have HR1:Hid (R.all (·.oneCell')=true):=A0 EY
 have HRd:Hid (R[d]? =some (.string (Ea.bS (Ea.sS (Ea.sets13 d))))):=A0 EZ
 rw[hR]at HL
 have h013:(0:Nat)<s.size:=by omega
 clear hd h48 hdv HSY c1 c2 d1 d2 s1 s2 hdd a b l1 l2 hA hAl hB hBl hRd hR
 go_enter func110,ntmps110
 go_wp2_with fail
 refine HL.out.mono ?_
 rintro e w4 ⟨rfl,hx4⟩
 have hst:=VW R hRs HR1.out w4
 have hnc:=H7 R 210 w4 HRd.out
 have hx5:Ext w (w4.alloc (.cells R 210)):=hx4.alloc _
 go_wp2_with fail
 obtain⟨w5,hw5⟩:∃w5,w4.alloc (.cells R 210)=w5:=⟨_,rfl⟩
 have hsz:w4.heap.size<w5.heap.size:=by rw[<-hw5];simp
 rw[hw5]at hx5 hnc⊢
 have hz:∀x:Zx w5,x.at'.cell? ⟨w4.heap.size,d,none⟩=some (.string (Ea.bS (Ea.sS (Ea.sets13 d)))):=fun x=>(x.ext.cell (p:=⟨w4.heap.size,d,none⟩) hsz).trans hnc
 clear hst hw5 hsz hnc
 refine D6 (C:=fun w'=>∃x:Zx w5,w'=x.at') G0 G0 (Zx.drawn _) ?_
 try dsimp only
 repeat(first|go_big_quiet_step ((first|(go_at_call 111;with_reducible exact Zu (HD1.out _))|(go_at_call 111;with_reducible exact Zu (HD2.out _))))|quiet_step ((first|(go_at_call 111;with_reducible exact Zu (HD1.out _))|(go_at_call 111;with_reducible exact Zu (HD2.out _)))))
 refine E6 ?_
 intro _ hx0
 obtain⟨x0,hx0⟩:=hx0
 subst hx0
 obtain⟨w8,hx8⟩:=x0
 try dsimp only
 go_wp2
 go_ret
 exact⟨by rw[<-HRES.out];rfl,hx5.trans hx8⟩
theorem Zh9 (s:ByteArray) (hd:Ea.digs s.data.toList=true) (h8:s.size=8) (w:World):
 Calls prog 110 #[.int .i64 2,.string s] w fun e w'=>e=.returned (.string (Ea.bS (Ea.mS (Ea.sym8 s.data.toList))))∧Ext w w':=by
 have HSY:=A0 (Ea.sym8.eq_1 s.data.toList)
 have c1:(s.extract 0 4).data.toList=s.data.toList.take 4:=Zy s 4
 have c2:(s.extract 4 8).data.toList=s.data.toList.drop 4:=rL
 have d1:=Ea.digs_take hd 4
 have d2:=Ea.digs_drop hd 4
 have s1:(s.extract 0 4).size=4:=UU
 have s2:(s.extract 4 8).size=4:=UU
 have l1:=Ea.drw4_len d1 (by rw[M1,Zd];omega) (us:=[0,0,0,0]) rfl L0
 have l2:=Ea.drw4_len d2 DH (us:=[2,2,2,2]) rfl L0
 have HD1:=A0 (fun w'=>WC (s.extract 0 4) ⟨#[65,65,65,65]⟩ ⟨#[]⟩ [0,0,0,0] [] (by rw[c1];exact d1) rfl (by rw[s1];rfl) L0 rfl B0 L0 w')
 have HD2:=A0 (fun w'=>WC (s.extract 4 8) ⟨#[67,67,67,67]⟩ ⟨#[]⟩ [2,2,2,2] [] (by rw[c2];exact d2) rfl (by rw[s2];rfl) L0 rfl B0 L0 w')
 rw[c1]at HD1
 rw[c2]at HD2
 generalize Ea.drw [] (s.data.toList.take 4) [0,0,0,0]=m1 at*
 generalize Ea.drw [] (s.data.toList.drop 4) [2,2,2,2]=m2 at*
 obtain⟨A,hA,hAl,hAs⟩:=named (l:=m1)
 obtain⟨B,hB,hBl,hBs⟩:=named (l:=m2)
 rw[hA]at HD1
 rw[hB]at HD2
 have HRES:Hid ((⟨#[49,48,49]⟩++A++⟨#[48,49,48,49,48]⟩++B++⟨#[49,48,49]⟩:ByteArray)=Ea.bS (Ea.mS (Ea.sym8 s.data.toList))):=A0 rN
 have hAs:A.size=28:=by rw[hAs,l1]
 have hBs:B.size=28:=by rw[hBs,l2]
 clear hd HSY c1 c2 d1 d2 s1 s2 l1 l2 hA hAl hB hBl
 go_enter func110,ntmps110
 go_wp2_with fail
 refine D6 (C:=fun w'=>∃x:Zx w,w'=x.at') G0 G0 (Zx.drawn _) ?_
 try dsimp only
 repeat(first|go_big_quiet_step ((first|(go_at_call 111;with_reducible exact Zu (HD1.out _))|(go_at_call 111;with_reducible exact Zu (HD2.out _))))|quiet_step ((first|(go_at_call 111;with_reducible exact Zu (HD1.out _))|(go_at_call 111;with_reducible exact Zu (HD2.out _)))))
 refine E6 ?_
 intro _ hx0
 obtain⟨x0,hx0⟩:=hx0
 subst hx0
 obtain⟨w8,hx8⟩:=x0
 try dsimp only
 go_wp2
 go_ret
 exact⟨by rw[<-HRES.out];rfl,hx8⟩
theorem ZhA (s:ByteArray) (hd:Ea.digs s.data.toList=true) (h8:s.size=8) (hy:Ea.dv s.data.toList 0<2) (w:World):
 Calls prog 110 #[.int .i64 4,.string s] w fun e w'=>e=.returned (.string (Ea.bS (Ea.mS (Ea.symE s.data.toList))))∧Ext w w':=by
 obtain⟨a,b,hq⟩:=Ea.setsE_ok ⟨Ea.dv s.data.toList 0,hy⟩ ⟨Ea.dv s.data.toList 7,Ea.dv_lt hd 7⟩
 clear hq
 dsimp only at a b
 have hd7:=Ea.dv_lt hd 7
 have h48:=Ea.digs_iff.1 hd s[0] (Zn s 0 B0)
 have h748:=Ea.digs_iff.1 hd s[7] (Zn s 7 B0)
 have hdv:=L8 s 0 B0
 have hdv7:=L8 s 7 B0
 have HSY:=A0 (Ea.symE.eq_1 s.data.toList)
 have c1:(s.extract 1 7).data.toList=(s.data.toList.drop 1).take 6:=Z0 s 1 7
 have d1:=Ea.digs_take (Ea.digs_drop hd 1) 6
 have s1:(s.extract 1 7).size=6:=UU
 obtain⟨y,hyy⟩:∃y,Ea.dv s.data.toList 0=y:=⟨_,rfl⟩
 obtain⟨d,hdd⟩:∃d,Ea.dv s.data.toList 7=d:=⟨_,rfl⟩
 rw[hyy]at a b hy hdv HSY
 rw[hdd]at a b hd7 hdv7 HSY
 have hn0:s[0].toNat=48+y:=by omega
 have hsub:(s[7].toNat:Int)-48=(d:Int):=by omega
 have l1:=Ea.drw6_len d1 rM a (fun u hu=>by have:=b u hu;omega)
 have HD1:=A0 (fun w'=>WC (s.extract 1 7) (Ea.bS (Ea.sS (Ea.setsE y d))) ⟨#[]⟩ (Ea.setsE y d) [] (by rw[c1];exact d1) rfl (by rw[a,s1]) (fun u hu=>by have:=b u hu;omega) rfl B0 L0 w')
 rw[c1]at HD1
 generalize Ea.drw [] ((s.data.toList.drop 1).take 6) (Ea.setsE y d)=m1 at*
 obtain⟨A,hA,hAl,hAs⟩:=named (l:=m1)
 rw[hA]at HD1
 have HRES:Hid ((⟨#[49,48,49]⟩++A++⟨#[48,49,48,49,48,49]⟩:ByteArray)=Ea.bS (Ea.mS (Ea.symE s.data.toList))):=A0 (by apply Zl;simp only[Y3,F4,hAl];rw[Ea.bS_list,HSY.out];simp only[Ea.mS_app];rfl)
 have hAs:A.size=42:=by rw[hAs,l1]
 have HL:=A0 (rB y hy w)
 have hRd:=ZkG hy hd7
 unfold arrV at HL
 obtain⟨R,hR⟩:∃R,((Ea.compB y).map Value.string).toArray=R:=⟨_,rfl⟩
 have hRs:R.size=10:=by rw[<-hR];simp[Zjv]
 have HR1:Hid (R.all (·.oneCell')=true):=A0 EY
 have HRd:Hid (R[d]? =some (.string (Ea.bS (Ea.sS (Ea.setsE y d))))):=A0 EZ
 rw[hR]at HL
 have h08:(0:Nat)<s.size:=by omega
 have h78:(7:Nat)<s.size:=by omega
 clear hd h48 h748 hdv hdv7 HSY c1 d1 s1 hyy hdd a b l1 hA hAl hRd hR
 go_enter func110,ntmps110
 go_wp2_with fail
 refine HL.out.mono ?_
 rintro e w4 ⟨rfl,hx4⟩
 have hst:=VW R hRs HR1.out w4
 have hnc:=H7 R 210 w4 HRd.out
 have hx5:Ext w (w4.alloc (.cells R 210)):=hx4.alloc _
 go_wp2_with fail
 obtain⟨w5,hw5⟩:∃w5,w4.alloc (.cells R 210)=w5:=⟨_,rfl⟩
 have hsz:w4.heap.size<w5.heap.size:=by rw[<-hw5];simp
 rw[hw5]at hx5 hnc⊢
 have hz:∀x:Zx w5,x.at'.cell? ⟨w4.heap.size,d,none⟩=some (.string (Ea.bS (Ea.sS (Ea.setsE y d)))):=fun x=>(x.ext.cell (p:=⟨w4.heap.size,d,none⟩) hsz).trans hnc
 clear hst hw5 hsz hnc
 refine D6 (C:=fun w'=>∃x:Zx w5,w'=x.at') G0 G0 (Zx.drawn _) ?_
 try dsimp only
 repeat(first|go_big_quiet_step ((go_at_call 111;with_reducible exact Zu (HD1.out _)))|quiet_step ((go_at_call 111;with_reducible exact Zu (HD1.out _))))
 refine E6 ?_
 intro _ hx0
 obtain⟨x0,hx0⟩:=hx0
 subst hx0
 obtain⟨w8,hx8⟩:=x0
 try dsimp only
 go_wp2
 go_ret
 exact⟨by rw[<-HRES.out];rfl,hx5.trans hx8⟩
theorem rO (k:Int) (s:ByteArray) (hf:Ea.full k s.data.toList=0) (w:World):
 Calls prog 110 #[.int .i64 k,.string s] w fun e w'=>e=.returned (.string (Ea.bS (Ea.mS (Ea.sym k s.data.toList))))∧Ext w w':=by
 obtain⟨h1,h2,h3,h4,_⟩:=Ea.full_ok hf
 rw[Zd]at h3
 rcases Ea.kinds h1 with rfl|rfl|rfl|rfl
 ·exact rK s h2 h3 w
 ·exact Zh9 s h2 h3 w
 ·have hz:=Ea.full_13 hf;have h3:s.size=12:=h3;have e:(⟨#[48]⟩++s:ByteArray).data.toList=48::s.data.toList:=DI;have HS:=A0 (rK (⟨#[48]⟩++s) (by rw[e];exact(Ea.full_ok hz).2.1) (by rw[WF,h3];rfl) w);rw[e]at HS;obtain⟨U,hU⟩:∃U,Ea.bS (Ea.mS (Ea.sym13 (48::s.data.toList)))=U:=⟨_,rfl⟩;rw[hU]at HS;have HR:Hid (U=Ea.bS (Ea.mS (Ea.sym 3 s.data.toList))):=A0 (by rw[<-hU];rfl);clear hf h1 h2 h4 hz e hU;go_enter func110,ntmps110;go_wp2_with fail;refine HS.out.mono ?_;rintro e w4 ⟨rfl,hx4⟩;clear HS;go_wp2;go_ret;exact⟨by rw[<-HR.out];rfl,hx4⟩
 ·exact ZhA s h2 h3 (Ea.dv2 h2 (by rw[Zd,h3];decide) (h4 rfl)) w
end
end Go.Proofs.YtbngggoccndefaaGreatDoor
