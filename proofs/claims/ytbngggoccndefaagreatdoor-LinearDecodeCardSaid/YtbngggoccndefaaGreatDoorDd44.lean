/-
  Laid together.
-/
import Derived.Test.YtbngggoccndefaaGreatDoorDd42
import Derived.Test.YtbngggoccndefaaGreatDoorDd43
set_option maxHeartbeats 16000000
set_option maxRecDepth 100000
set_option linter.unusedVariables false
set_option linter.unusedSimpArgs false
set_option linter.ambiguousOpen false
namespace Go.Proofs.YtbngggoccndefaaGreatDoor
open Go.Proofs.Tryz
section
open Go.RowKit
theorem Zf9 (v:Nat) (w:World) (hv:v<=106):
 Calls prog 132 #[.int .i64 (v:Int)] w (IntsE (Cc.widOf v,0) w):=by
 obtain⟨lo,hlo⟩:∃lo,lo=v*6:=⟨_,rfl⟩
 obtain⟨hi,hhi⟩:∃hi,hi=(v+1)*6:=⟨_,rfl⟩
 obtain⟨res,hres⟩:∃res,res=Cc.widOf v:=⟨_,rfl⟩
 rw[<-hres]
 have hv0:¬(v:Int)<0:=by omega
 have hv106:¬106<(v:Int):=by omega
 by_cases h6:v=106
 ·subst h6;obtain⟨ws,hws⟩:∃ws,ws=Cc.stopP:=⟨_,rfl⟩;have HRES:Hid (res=ws):=ZmE (by rw[hres,hws];rfl);have hwl:ws.length=7:=(by rw[hws];rfl);have hdg:∀x∈ws,0<=x∧x<=9:=(by rw[hws];decide);have HXE0:Hid ((⟨#[50,51,51,49,49,49,50]⟩:ByteArray).data.toList=ws.map Cc.byt):=ZmE (by rw[hws];rfl);clear hlo hhi hres hws;go_enter func132,ntmps132;go_wp2_with fail;generalize hX:(⟨#[50,51,51,49,49,49,50]⟩:ByteArray)=X at*;have hXE:X.data.toList=ws.map Cc.byt:=(by rw[<-hX];exact HXE0.out);clear hX;have HXE:=ZmE hXE;have hXs:X.size=7:=Qev;have HWL:=ZmE hwl;have HDG:=ZmE hdg;clear hXE hwl hdg;go_loopw [5,6] (fun u t wr=>∃i:Nat,i<=7∧t=.int .i64 (i:Int)∧Hid (Own 3 wr w.heap.size u ((ws.take i).map encI))∧Hid (Ext w wr)) (fun _ t _=>7-(intOf t).toNat);(case atStart=>exact QdI);case round=>obtain⟨i,hi,rfl,HO,HX⟩:=hrel;by_cases hlt:i<7;(·have hiI:(i:Int)<7:=QhN;exact Qab);·obtain rfl:i=7:=QhN;exact QcQ
 ·have hv105:(v:Int)<106:=QhN;have hloI:6*(v:Int)=(lo:Int):=QhN;have hhiI:(lo:Int)+6=(hi:Int):=QhN;have hlh:lo<=hi:=QhN;have hh9:hi<=636:=QhN;have hlhI:(lo:Int)<=(hi:Int):=QhN;have hh9I:(hi:Int)<=636:=QhN;have hd6:hi-lo=6:=QhN;obtain⟨ws,hws⟩:∃ws,ws=Cc.pats.getD v []:=⟨_,rfl⟩;have HRES:Hid (res=ws):=ZmE (by rw[hres,hws,Cc.widOf,ZmF h6]);obtain⟨hwl,hdg⟩:=Cc.pat_in v QhN;rw[<-hws]at hwl hdg;have HPA:Hid ((Cc.patB.drop lo).take (hi-lo)=ws.map Cc.byt):=ZmE (by rw[hd6,hlo,hws];exact Cc.pat_at v QhN);clear hlo hhi h6 hres hws;go_enter func132,ntmps132;go_wp2_with fail;generalize hX:(_:ByteArray).extract lo hi=X at*;have hXE:X.data.toList=ws.map Cc.byt:=QfD;clear hX;have HXE:=ZmE hXE;have hXs:X.size=6:=Qev;have HWL:=ZmE hwl;have HDG:=ZmE hdg;clear hXE hwl hdg;go_loopw [5,6] (fun u t wr=>∃i:Nat,i<=6∧t=.int .i64 (i:Int)∧Hid (Own 3 wr w.heap.size u ((ws.take i).map encI))∧Hid (Ext w wr)) (fun _ t _=>6-(intOf t).toNat);(case atStart=>exact QdI);case round=>obtain⟨i,hi,rfl,HO,HX⟩:=hrel;by_cases hlt:i<6;(·have hiI:(i:Int)<6:=QhN;exact Qab);·obtain rfl:i=6:=QhN;exact QcQ
def Cc.valG (ws:List Int):Int:=match(List.range 107).find? (fun v=>Cc.widOf v==ws)with|none=> -1|some v=>(v:Int)
theorem Cc.valG_hit {ws:List Int} {v:Nat} (hv:v<=106) (h:Cc.widOf v=ws) (hb:∀u,u<v->Cc.widOf u≠ws):Cc.valG ws=(v:Int):=by
 have:(List.range 107).find? (fun v=>Cc.widOf v==ws)=some v:=by rw[List.find?_range_eq_some];exact⟨Znj.2 h,ZnK.2 QhN,fun j hj=>by simp[hb j hj]⟩
 rw[Cc.valG,this]
theorem Cc.valG_miss {ws:List Int} (hb:∀u,u<107->Cc.widOf u≠ws):Cc.valG ws= -1:=by
 have:(List.range 107).find? (fun v=>Cc.widOf v==ws)=none:=by rw[ZpL];intro x hx;rw[ZnK]at hx;simp[hb x hx]
 rw[Cc.valG,this]
theorem Cc.valG_six {ws:List Int} (h6:ws.length=6):Cc.valG ws=match Cc.valOf ws with|none=> -1|some v=>(v:Int):=by
 cases hv:Cc.valOf ws with
 |none=>refine Cc.valG_miss fun u hu e=> ?_;by_cases h:u=106;(·subst h;rw[<-e]at h6;exact absurd h6 QhP);·rw[Cc.widOf,ZmF h]at e;unfold Cc.valOf at hv;rw[ZpI]at hv;have hm:ws∈Cc.pats:=(by rw[<-e,ZmL,ZmG (by rw[Cc.pats_len];omega)];exact QhG);have:=hv ws hm;simp at this
 |some v=>unfold Cc.valOf at hv;rw[List.findIdx?_eq_some_iff_getElem]at hv;obtain⟨h1,h2,h3⟩:=hv;have hl:v<106:=h1;(have hw:∀(j:Nat) (hj:j<106),Cc.widOf j=Cc.pats[j]'(by rw[Cc.pats_len];exact hj):=fun j hj=>by rw[Cc.widOf,ZmF QhN,ZmL,ZmG (by rw[Cc.pats_len];exact hj)];rfl);refine Cc.valG_hit QhN (by rw[hw v hl];exact Znj.1 h2) fun u hu e=> ?_;have:=h3 u hu;rw[hw u QhN]at e;simp[e]at this
theorem Cc.wid_len:∀u:Nat,u<106->(Cc.widOf u).length=6:=Qct
theorem Cc.valG_seven {ws:List Int} (h7:ws.length=7):Cc.valG ws=if ws=Cc.stopP then 106 else-1:=by
 have hne:∀u,u<106->Cc.widOf u≠ws:=fun u hu e=>by have:=Cc.wid_len u hu;rw[e]at this;omega
 by_cases h:ws=Cc.stopP;·rw[ZmH h];exact Cc.valG_hit (v:=106) QhN h.symm hne
 ·rw[ZmF h];refine Cc.valG_miss fun u hu e=> ?_;by_cases h2:u=106;(·subst h2;exact h e.symm);·exact hne u QhN e
theorem Cc.wid_le:∀u:Nat,u<107->(Cc.widOf u).length<=7:=Qct
theorem ZdS (v:Value) (ws:List Int) (w:World) (hv:Sl w v (ws.map encI)) (hl:ws.length<=1000000):
 Calls prog 222 #[v] w fun e w'=>e=.returned (.int .i64 (Cc.valG ws))∧Ext w w':=by
 obtain⟨a,c,rfl⟩:=hv.form
 rw[ZmI]at hv⊢
 obtain⟨n,hn⟩:∃n,n=ws.length:=⟨_,rfl⟩
 rw[<-hn]at hv hl⊢
 have HN:=ZmE hn
 have HV:=ZmE hv
 have HG:=ZmE (fun(v:Nat) (h1:v<=106) h2 h3=> @Cc.valG_hit ws v h1 h2 h3)
 have HM:=ZmE (fun h=> @Cc.valG_miss ws h)
 generalize Cc.valG ws=res at*
 clear hv hn
 go_enter func222,ntmps222
 go_wp2_with fail
 go_loopw [3] (fun t wr=>∃k:Nat,k<=107∧t=.int .i64 (k:Int)∧Hid (∀u,u<k->Cc.widOf u≠ws)∧Hid (Ext w wr)) (fun t _=>107-(intOf t).toNat)
 case atStart=>exact⟨0,ZmP _,rfl,ZmE (fun u hu=>by omega),ZmE (Ext.refl _)⟩
 case round=>
 obtain⟨k,hk,rfl,HB,HX⟩:=hrel
 by_cases hlt:k<107
 ·have hkI:(k:Int)<=106:=by omega
  have HP:=ZmE (fun w=>Zf9 k w QhN)
  obtain⟨ps,hps⟩:∃ps,ps=Cc.widOf k:=⟨_,rfl⟩
  have hpl:=Cc.wid_le k hlt
  rw[<-hps]at HP hpl
  obtain⟨L,hL⟩:∃L,L=ps.length:=⟨_,rfl⟩
  rw[<-hL]at hpl
  have HPS:=ZmE hps
  have HL:=ZmE hL
  clear hps hL
  go_wp2_with fail
  refine(HP.out wr).mono ?_
  rintro e w2 ⟨u,rfl,⟨hu,a2,c2,rfl,-⟩,hx2⟩
  rw[ZmI,<-HL.out]at hu⊢
  have HU:=ZmE hu
  have HX2:=ZmE (HX.out.trans hx2)
  clear hu hx2 HP HX
  go_wp2_with fail
  go_loopw [6,7] (fun f t wr=>∃(b:Bool) (i:Nat),i<=L∧f=.bool b∧t=.int .i64 (i:Int)∧Hid (b=true->L=n∧ps.take i=ws.take i)∧Hid (b=false->ps≠ws)∧Hid (Ext w2 wr)) (fun _ t _=>L-(intOf t).toNat)
  case atStart=>exact⟨((L:Int)==(n:Int)),0,ZmP _,rfl,rfl,ZmE (fun h=>⟨by have:=Znj.1 h;omega,rfl⟩),ZmE (fun h e=>by have:=ZmJ.1 h;rw[HL.out,HN.out,e]at this;exact this rfl),ZmE (Ext.refl _)⟩
  case round=>
  obtain⟨bb,i,hi,rfl,rfl,HT,HF,HX⟩:=hrel
  cases bb with
  |false=>have HB2:Hid (∀u,u<k+1->Cc.widOf u≠ws):=ZmE (fun u hu=>by by_cases h:u=k;(·subst h;rw[<-HPS.out];exact HF.out rfl);·exact HB.out u QhN);have HX3:=ZmE (HX2.out.trans HX.out);clear HT HF HB HX HX2;go_wp2_with fail;go_roundw;(case rel=>exact⟨k+1,by omega,by go_num,HB2,HX3⟩);case measure=>exact Qak
  |true=>by_cases hil:i<L;(·have hiI:(i:Int)<(L:Int):=QhN;obtain⟨hLn,htk⟩:=HT.out rfl;have hinI:(i:Int)<(n:Int):=QhN;have hin:i<n:=QhN;obtain⟨x,hxi⟩:∃x,ps[i]? =some x:=⟨_,ZmG (by rw[<-HL.out];exact hil)⟩;obtain⟨y,hyi⟩:∃y,ws[i]? =some y:=⟨_,ZmG (by rw[<-HN.out];exact hin)⟩;obtain⟨b,o,ha,hb,hc⟩:=HU.out.int_at HX.out hxi;subst ha;obtain⟨b3,o3,ha3,hb3,hc3⟩:=HV.out.int_at (HX2.out.trans HX.out) hyi;subst ha3;have HT2:Hid ((x==y)=true->L=n∧ps.take (i+1)=ws.take (i+1)):=ZmE (fun h=>⟨hLn,by rw[Zu hxi,Zu hyi,htk,Znj.1 h]⟩);have HF2:Hid ((x==y)=false->ps≠ws):=ZmE (fun h e=>by have:=ZmJ.1 h;rw[e,hyi]at hxi;exact this (Zqj hxi).symm);clear hLn htk hxi hyi HT HF;go_wp2_with fail;go_quiet (fail);have hxq:Ext wr (wr.drewN nq):=(Ext.refl _).drewN _;have HX4:=ZmE (HX.out.trans hxq);generalize wr.drewN nq=wq at*;clear hxq HX;go_wp2_with fail;go_roundw;(case rel=>exact⟨x==y,i+1,by omega,rfl,by go_num,HT2,HF2,HX4⟩);case measure=>exact Qak);·obtain rfl:L=i:=QhN;have HRES:Hid (res=(k:Int)):=ZmE (by refine HG.out k QhN ?_ HB.out;obtain⟨h1,h2⟩:=HT.out rfl;rw[ZmW (by rw[<-HL.out];exact ZmK _),ZmW (by rw[<-HN.out,<-h1];exact ZmK _)]at h2;rw[<-HPS.out,h2]);have hx9:=HX2.out.trans HX.out;clear hi hil HT HF HB;exact QfW
 ·obtain rfl:k=107:=QhN;have HRES:Hid (res= -1):=ZmE (HM.out HB.out);have hx9:=HX.out;clear hk hlt HB;exact QfW
theorem Rn.widths_nil (m:List Bool):Rn.widths m=[]↔Rn.core m=[]:=by
 unfold Rn.widths Rn.widthsN
 cases h:Rn.core m with
 |nil=>simp
 |cons b r=>dsimp only;constructor;(·intro e;have:=Rn.runs_ne r b 1;exact absurd (List.map_eq_nil_iff.1 e) this);·intro e;cases e
theorem ZgH (v:Value) (m:List Bool) (w:World) (hv:SlK w v (m.map encT)) (hm:m.length<=400000):
 Calls prog 145 #[v] w (IntsE (Cc.dec m) w):=by
 have HMG:=ZmE (fun w' (h:Ext w w')=>Zbr v m w' (hv.ext h) QhN)
 have HWD:=ZmE (Zax v m w hv QhN)
 obtain⟨hwin,hwlen⟩:=Rn.widths_in m
 obtain⟨hsl,ca,cc,rfl,-⟩:=hv
 rw[ZmI]at hsl HMG HWD⊢
 obtain⟨A,hA⟩:∃A,A=Ea.ldg m:=⟨_,rfl⟩
 obtain⟨B,hB⟩:∃B,B=Ea.trl m:=⟨_,rfl⟩
 rw[<-hA,<-hB]at HMG
 have HR:=ZmE (Cc.dec.eq_1 m)
 have hnil:=Rn.widths_nil m
 rw[<-hA,<-hB]at HR
 obtain⟨ws,hws⟩:∃ws,ws=Rn.widths m:=⟨_,rfl⟩
 rw[<-hws]at HR HWD hwin hwlen hnil
 generalize Cc.dec m=res at*
 generalize m.length=M at*
 obtain⟨n,hn⟩:∃n,n=ws.length:=⟨_,rfl⟩
 rw[<-hn]at HR hwlen
 have HNW:=ZmE hn
 clear hA hB hws hsl
 by_cases h0:n=0
 ·have z0:((n:Int)==0)=true:=Znj.2 QhN;have HF:Hid (res=([],5)):=ZmE (by rw[HR.out,ZmH (hnil.1 (Znq QhN))]);clear HR hnil hn h0;exact Qag
 have z0:((n:Int)==0)=false:=ZmJ.2 QhN
 have HR1:Hid (res=_):=ZmE (HR.out.trans (ZmF (fun h=>h0 (by rw[hn,hnil.2 h];rfl))))
 clear HR hnil hn
 by_cases hq:A<10∨B<10
 ·have HF:Hid (res=([],9)):=ZmE (by rw[HR1.out,ZmH hq]);clear HR1 h0;by_cases hA10:A<10;(·have hAI:(A:Int)<10:=QhN;clear hq;exact Qag);·have hAI:¬(A:Int)<10:=QhN;have hBI:(B:Int)<10:=QhN;clear hq;exact Qag
 have HR2:Hid (res=_):=ZmE (HR1.out.trans (ZmF hq))
 have hAI:¬(A:Int)<10:=by omega
 have hBI:¬(B:Int)<10:=by omega
 clear HR1 hq
 by_cases hk:n<19∨(n-7)%6≠0
 ·have HF:Hid (res=([],7)):=ZmE (by rw[HR2.out,ZmH hk]);clear HR2;by_cases hn19:n<19;(·have hnI:(n:Int)-7<12:=QhN;clear hk;exact Qag);·obtain⟨k,hkk⟩:∃k,k=n-7:=⟨_,rfl⟩;have hkI:(n:Int)-7=(k:Int):=QhN;obtain⟨r,hr⟩:∃r:Int,r=(k:Int)%6:=⟨_,rfl⟩;have hr2:=hr.symm;have hrI:r≠0:=QhN;have hrb:(r !=0)=true:=(by simp[hrI]);have hrd:decide (r=0)=false:=ZmS hrI;have hnI:¬(k:Int)<12:=QhN;clear hk hkk hr;exact Qag
 have HR3:Hid (res=_):=ZmE (HR2.out.trans (ZmF hk))
 obtain⟨k,hkk⟩:∃k,k=n-7:=⟨_,rfl⟩
 obtain⟨K,hK⟩:∃K,K=k/6:=⟨_,rfl⟩
 rw[<-hkk,<-hK]at HR3
 have hkI:(n:Int)-7=(k:Int):=by omega
 have hk12:¬(k:Int)<12:=by omega
 have hp6:(k:Int)%6=0:=by omega
 have hkK:k=6*K:=by omega
 have hk0I:(0:Int)<=(k:Int):=by omega
 have hkn:k<=n:=by omega
 have hknI:(k:Int)<=(n:Int):=by omega
 have hk7:n-k=7:=by omega
 have HKK:=ZmE hkK
 clear HR2 hk hkk hK hkK
 go_enter func145,ntmps145
 go_wp2_with fail
 refine HWD.out.mono ?_
 rintro e w1 ⟨u,rfl,⟨hs,a,c,rfl,hc⟩,hx1⟩
 have hnw:=HNW.out
 rw[ZmI,<-hnw]at hs hc⊢
 obtain⟨x0,hx0⟩:∃x,ws[0]? =some x:=⟨_,ZmG QhN⟩
 obtain⟨b,o,ha,hb,-⟩:=hs.int_at (Ext.refl w1) hx0
 subst ha
 have HS:=ZmE hs
 have hknc:k<=c:=by omega
 have hdl:(ws.drop k).length=7:=by rw[Znr];omega
 have HV7:Hid (∀w',Ext w1 w'->Calls prog 222 #[.slice (some ⟨b,o+k,none⟩) 7 (c-k)] w' fun e w''=>e=.returned (.int .i64 (if ws.drop k=Cc.stopP then 106 else-1))∧Ext w' w''):=ZmE (fun w' hx=>by have h1:=HS.out.part k n (c-k) QhR hkn;rw[<-Zn5,<-Zn6,ZmW QhN,hk7]at h1;have:=ZdS _ _ w' (h1.ext hx) QhN;rw[Cc.valG_seven hdl]at this;exact this)
 clear hnw hx0 hs hdl
 go_wp2_with fail
 refine(HMG.out w1 hx1).mono ?_
 rintro e w2 ⟨rfl,rfl⟩
 go_wp2_with fail
 refine(HV7.out w1 (Ext.refl _)).mono ?_
 rintro e w3 ⟨rfl,hx3⟩
 have HX13:=ZmE hx3
 by_cases hst:ws.drop k≠Cc.stopP
 ·have HF:Hid (res=([],20)):=ZmE (HR3.out.trans (ZmH hst));rw[ZmF hst];have hx9:=hx1.trans hx3;clear HR3 hst;go_wp2;exact QcV
 have HR4:Hid (res=_):=ZmE (HR3.out.trans (ZmF hst))
 rw[ZmH (ZnH.1 hst)]
 have HXW:=ZmE (hx1.trans hx3)
 clear HR3 hst HV7 HMG HWD hx3
 go_wp2_with fail
 go_loopw [8,9] (fun u t wq=>∃(j:Nat) (out:List Int),j<=K∧t=.int .i64 ((6*j:Nat):Int)∧out.length<=j∧Hid (Cc.valsGo K ws=(Cc.valsGo (K-j) (ws.drop (6*j))).map (out++·))∧Hid (Own 3 wq w3.heap.size u (out.map encI))∧Hid (Ext w3 wq)) (fun _ t _=>k-(intOf t).toNat)
 case atStart=>exact⟨0,[],ZmP _,rfl,ZmK _,ZmE Qi1,ZmE (Own.nil _ _ _),ZmE (Ext.refl _)⟩
 case round=>
 obtain⟨j,out,hj,rfl,hol,HV,HO,HX⟩:=hrel
 obtain⟨p,hp⟩:∃p,p=6*j:=⟨_,rfl⟩
 rw[<-hp]at HV⊢
 have hkK:=HKK.out
 by_cases hlt:j<K
 ·obtain⟨q,hq⟩:∃q,q=p+6:=⟨_,rfl⟩
  have hqI:(p:Int)+6=(q:Int):=by omega
  have hqp:q-p=6:=by omega
  have hpk:(p:Int)<(k:Int):=by omega
  have hpq:p<=q:=by omega
  have hpqI:(p:Int)<=(q:Int):=by omega
  have hqc:q<=c:=by omega
  have hqcI:(q:Int)<=(c:Int):=by omega
  have hqk:q<=k:=by omega
  have hqn:q<=n:=by omega
  have h6:((ws.drop p).take 6).length=6:=by rw[ZmY,Znr,<-HNW.out];omega
  have hdt:(ws.take q).drop p=(ws.drop p).take 6:=by rw[ZpN,hqp]
  have HV6:Hid (Calls prog 222 #[.slice (some ⟨b,o+p,none⟩) 6 (c-p)] wr fun e w''=>e=.returned (.int .i64 (match Cc.valOf ((ws.drop p).take 6)with|none=> -1|some v=>(v:Int)))∧Ext wr w''):=ZmE (by have h1:=HS.out.part p q (c-p) (by rw[ZmI,<-HNW.out];exact hqn) hpq;rw[<-Zn5,<-Zn6,hdt,hqp]at h1;have:=ZdS _ _ wr (h1.ext (HX13.out.trans HX.out)) QhN;rw[Cc.valG_six h6]at this;exact this)
  have hvs:Cc.valsGo (K-j) (ws.drop p)=match Cc.valOf ((ws.drop p).take 6)with|none=>none|some v=>(Cc.valsGo (K-(j+1)) (ws.drop q)).map fun l=>(v:Int)::l:=Qfv
  rw[hvs]at HV
  clear h6 hvs hdt
  cases hvo:Cc.valOf ((ws.drop p).take 6)with
  |none=>rw[hvo]at HV HV6;have HF:Hid (res=([],18)):=ZmE (by rw[HR4.out,HV.out];rfl);clear HV HR4 hp hq hkK hj hol hlt hqk HO;go_wp2_with fail;refine HV6.out.mono ?_;rintro e w4 ⟨rfl,hx4⟩;have hx9:=HXW.out.trans (HX.out.trans hx4);exact Qhu
  |some v=>rw[hvo]at HV HV6;dsimp only at HV6;have HV2:Hid (Cc.valsGo K ws=(Cc.valsGo (K-(j+1)) (ws.drop q)).map ((out++[(v:Int)])++·)):=ZmE Qjk;have hv0:¬(v:Int)<0:=QhN;have hol2:(out++[(v:Int)]).length<=j+1:=QbW;have hol9:out.length<=400000:=QhN;have hq6:6*(j+1)=q:=QhN;have hmes:k-q<k-p:=QhN;clear HV hp hq hkK hvo;go_wp2_with fail;refine HV6.out.mono ?_;rintro e w4 ⟨rfl,hx4⟩;have hown:=HO.out.ext hx4;have HX4:=ZmE (HX.out.trans hx4);have hsz:=HX4.out.size;clear HX HO hx4;go_wp2_with (at_builtin;refine Zm rfl _ _ rfl w3.heap.size _ out rfl (hown.alloc _) _ (v:Int) rfl ?c1 ?c2 ?c3 ?_);(case c1=>exact QbU);(case c2=>omega);(case c3=>exact Qa3);intro v' w5 hown5 hg5;have HX5:=ZmE ((HX4.out.alloc _).ofGrown hg5 hown.low);have HO5:Hid (Own 3 w5 w3.heap.size v' ((out++[(v:Int)]).map encI)):=ZmE QhT;clear hown hown5 hg5 hsz HX4;go_wp2_with fail;go_roundw;(case rel=>exact⟨j+1,_,by omega,by rw[hq6],hol2,by rw[hq6];exact HV2,HO5,HX5⟩);case measure=>exact Qak
 ·obtain rfl:K=j:=QhN;have HF:Hid (res=Cc.chars (out++[106])):=ZmE QjL;have hpk:¬(p:Int)<(k:Int):=QhN;have hown:=HO.out;have hsz:=HX.out.size;have hol2:(out++[(106:Int)]).length<=400000:=QbW;have hol9:out.length<=400000:=QhN;clear HV HR4 hp hkK HO hj hlt;go_wp2_with (at_builtin;refine Zm rfl _ _ rfl w3.heap.size _ out rfl (hown.alloc _) _ 106 rfl ?c1 ?c2 ?c3 ?_);(case c1=>exact QbU);(case c2=>omega);(case c3=>exact Qa3);intro v' w5 hown5 hg5;have HX5:=ZmE (HXW.out.trans ((HX.out.alloc _).ofGrown hg5 hown.low));have hk5:SlK w5 v' ((out++[(106:Int)]).map encI):=(by have h:Own 3 w5 w3.heap.size v' ((out++[(106:Int)]).map encI):=QaQ;exact h.slk);have HCH:=ZmE (ZhP v' (out++[106]) w5 hk5.1 hol2);clear hown hown5 hg5 hsz hk5;exact QcW
theorem Zk5 {P:Int->Prop} {l:List Int} (h:∀x∈l,P x):∀x∈l.reverse,P x:=fun x hx=>h x (Zq8.1 hx)
theorem Zcv (v:Value) (m:List Bool) (w:World) (hv:SlK w v (m.map encT)) (hm:m.length<=1000000) (ht:Spaces w):
 Calls prog 15 #[v] w fun e w'=>e=.returned (gotV (Ln.read m))∧Ext w w':=by
 have HT:=ZmE ht
 have HCT:=ZmE (fun w' (h:Ext w w')=>ZbK v m w' (hv.ext h).1 hm)
 have HWD:=ZmE (fun w' (h:Ext w w')=>ZbH v m w' (hv.ext h) hm)
 have HMG:=ZmE (fun w' (h:Ext w w')=>Za9 v m w' (hv.ext h) hm)
 obtain⟨hwin,hwlen⟩:=Rn.widths_in m
 obtain⟨hlA,hlB⟩:=Rn.ldg_len m
 have hdk:=Ln.dark_core m
 have hwn:=Rn.widths_nil m
 have HD:=ZmE (Ln.read.eq_1 m)
 have HRV:=ZmE (Ln.readD_rev m)
 have HRD:=ZmE (show Ln.readD m=Ln.try_ (Rn.widths m) (Ea.ldg m) (Ea.trl m)from rfl)
 generalize Ln.read m=res at*
 obtain⟨-,a,c,rfl,-⟩:=hv
 rw[ZmI]at HCT HWD HMG⊢
 generalize Ea.ldg m=A at*
 generalize Ea.trl m=B at*
 generalize Rn.widths m=ws at*
 generalize m.length=ml at*
 by_cases h4:65536<ml
 ·have h4I:65536<(ml:Int):=QhN;rw[ZmH h4]at HD;clear h4 HCT HWD HMG hdk hwn hwin hwlen hlA hlB;go_enter func15,ntmps15;exact QgN
 have h4I:¬65536<(ml:Int):=by omega
 rw[ZmF h4]at HD
 cases hdb:Ln.dark m with
 |false=>rw[hdb]at HCT HD;rw[ZmH rfl]at HD;clear h4 HWD HMG hdk hwn hwin hwlen hlA hlB hdb;go_enter func15,ntmps15;go_wp2_with fail;refine(HCT.out _ Xf).mono ?_;rintro e w1 ⟨rfl,rfl⟩;exact QgN
 |true=>
 have hne:ws≠ []:=fun e=>by have:=hdk.2 (hwn.1 e);rw[hdb]at this;cases this
 rw[hdb]at HCT HD
 rw[ZmF QhP]at HD
 have hw1:∀x∈ws,1<=x∧x<=65536:=fun x hx=>by have:=hwin x hx;omega
 have hpos:1<=ws.length:=Zob.2 hne
 obtain⟨n,hn⟩:∃n,n=ws.length:=⟨_,rfl⟩
 have HN:=ZmE hn
 have HTY:=ZmE (fun v w' (h:Sl w' v (ws.map encI)) (h2:Spaces w')=>Zip v ws A B w' h hne QhN hw1 QhN QhN h2)
 have HTZ:=ZmE (fun v w' (h:Sl w' v (ws.reverse.map encI)) (h2:Spaces w')=>Zip v ws.reverse B A w' h (by simpa using hne) (by rw[Zn9];omega) (Zk5 hw1) QhN QhN h2)
 have hnl:n<=65536:=by omega
 have hn1:1<=n:=by omega
 clear h4 hdk hwn hwin hlA hlB hdb hw1 hne hpos hwlen hn
 go_enter func15,ntmps15
 go_wp2_with fail
 refine(HCT.out _ Xf).mono ?_
 rintro e w1 ⟨rfl,rfl⟩
 go_wp2_with fail
 refine(HWD.out _ Xf).mono ?_
 rintro e w2 ⟨u,rfl,hu,hx2⟩
 obtain⟨hsl,au,cu,rfl,-⟩:=hu
 rw[ZmI,<-HN.out]at hsl⊢
 obtain⟨x0,hx0⟩:∃x,ws[0]? =some x:=⟨_,ZmG QhW⟩
 obtain⟨b,o,ha,-,-⟩:=hsl.int_at (Ext.refl w2) hx0
 subst ha
 have HU:=ZmE hsl
 have HX2:=ZmE hx2.before
 have HB2:=ZmE (Zo rfl hx2)
 clear hsl hx0 hx2
 go_wp2_with fail
 refine(HMG.out w2 HX2.out).mono ?_
 rintro e w3 ⟨rfl,rfl⟩
 go_wp2_with fail
 refine(HTY.out _ w2 HU.out (Zv HT.out HX2.out)).mono ?_
 rintro e w4 ⟨⟨rk,rt,ra⟩,rfl,ho,hx4⟩
 obtain⟨o1,ho1⟩:∃o1,o1=Ln.try_ ws A B:=⟨_,rfl⟩
 rw[<-ho1]at ho HRD⊢
 rw[HRD.out]at HD
 have HX4:=ZmE (HX2.out.trans hx4)
 have HB4:=ZmE (Zd HB2.out hx4)
 have HU4:=ZmE (HU.out.ext hx4)
 unfold linV
 dsimp only
 obtain⟨f0,f1,f2,f3,f4,f5,f6,f7⟩:=Zf HB4.out
 clear ho1 hx4
 cases o1 with
 |some y=>have HF:Hid (res=((rk,rt,ra),0)):=ZmE QjP;clear HD ho;dsimp only[Option.isSome];go_wp2_with fail;refine Zng (Ze results15 rfl (Zd (Zg f7) ((Ext.refl _).alloc _)) rfl) rfl ?_;rw[HF.out];exact⟨rfl,(Zp HX4.out (ZmK _) _ _ _).alloc _⟩
 |none=>
  dsimp only at HD
  rw[HRV.out]at HD
  clear ho
  dsimp only[Option.isSome]
  go_wp2_with fail
  refine(Zi2 b o n cu ws _ HN.out.symm hn1 QhN (HU4.out.ext ((Ext.refl _).alloc _))).mono ?_
  rintro e w5 ⟨g,c5,rfl,ho5,hx5⟩
  have HO5:=ZmE ho5
  have hX5:=((Ext.refl w4).alloc (.cells #[.int .i64 rk,.string (Ea.bS rt),.string (Ea.bS ra)] 33)).trans hx5
  have HG5:Hid (w4.heap.size<=g):=ZmE (by have:=ho5.low g rfl;simp at this;omega)
  have HX5:=ZmE hX5
  clear ho5 hx5 hX5
  go_wp2_with fail
  refine(ZgO g n c5 _ ws w5 HN.out.symm QhN HO5.out).mono ?_
  rintro e w6 ⟨rfl,ho6,hg6⟩
  have HO6:=ZmE ho6
  have HX6:Hid (Ext w4 w6):=ZmE (HX5.out.ofGrown hg6 (fun k hk=>by injection hk with hk;subst hk;exact HG5.out))
  clear ho6 hg6
  go_wp2_with fail
  refine(HTZ.out _ w6 HO6.out.slk.1 (Zv HT.out (HX4.out.trans HX6.out))).mono ?_
  rintro e w7 ⟨⟨sk,st,sa⟩,rfl,ho,hx7⟩
  obtain⟨o2,ho2⟩:∃o2,o2=Ln.try_ ws.reverse B A:=⟨_,rfl⟩
  rw[<-ho2]at ho HD⊢
  have HX7:=ZmE ((HX4.out.trans HX6.out).trans hx7)
  obtain⟨g0,g1,g2,g3,g4,g5,g6,g7⟩:=Zf (Zd (Zd HB4.out HX6.out) hx7)
  unfold linV
  dsimp only
  clear ho2 hx7 f0 f1 f2 f3 f4 f5 f6 f7
  cases o2 with
  |some y=>have HF:Hid (res=((sk,st,sa),0)):=ZmE QjP;exact Qcp
  |none=>have HF:Hid (res=(Ln.zero,18)):=ZmE HD.out;exact Qcp
end
end Go.Proofs.YtbngggoccndefaaGreatDoor
