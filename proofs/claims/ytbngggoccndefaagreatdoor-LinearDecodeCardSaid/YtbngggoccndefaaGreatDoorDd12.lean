/-
  Laid together.
-/
import Derived.Test.YtbngggoccndefaaGreatDoorDd11
set_option maxHeartbeats 16000000
set_option maxRecDepth 100000
set_option linter.unusedVariables false
set_option linter.unusedSimpArgs false
set_option linter.ambiguousOpen false
namespace Go.Proofs.YtbngggoccndefaaGreatDoor
open Go.Proofs.Tryz
section
open Go.RowKit
def SlK (w:World) (v:Value) (xs:List Value):Prop:=Sl w v xs∧∃a c,v=.slice a xs.length c∧xs.length<=c
theorem SlK.ext {w w':World} {v:Value} {xs:List Value} (h:SlK w v xs) (hx:Ext w w'):SlK w' v xs:=⟨h.1.ext hx,h.2⟩
theorem Own.slk {t:TypeId} {w:World} {B:Nat} {v:Value} {xs:List Value} (h:Own t w B v xs):SlK w v xs:=by
 refine⟨h.sl,?_⟩;rcases h.2 with⟨hnil,h0⟩|⟨g,cap,cur,hv,_,_,h1,_⟩;·exact⟨none,0,by rw[hnil,h0],by rw[h0];exact ZmK _⟩
 ·exact⟨_,cap,hv,h1⟩
theorem Zar {w:World} {a:Option Addr} {c:Nat} {xs:List Value} {l h:Nat} (hs:Sl w (.slice a xs.length c) xs) (hc:xs.length<=c) (hl:l<=h) (hh:h<=xs.length):
 SlK w (sliced a l h c 1) ((xs.drop l).take (h-l)):=by
 have hlen:((xs.drop l).take (h-l)).length=h-l:=Qe9
 unfold sliced
 refine⟨?_,_,c-l,by rw[hlen],by rw[hlen];omega⟩
 by_cases hz:h-l=0
 ·left;exact⟨Znq (by rw[hlen];exact hz),_,_,by rw[hz]⟩
 ·right;rw[ZmF QhN,Zpn];rcases hs with⟨h0,_⟩|⟨b,off,cap,he,hb,hcell⟩;(·rw[h0]at hh;simp at hh;omega);·injection he with h1 h2 h3;subst h1;refine⟨b,off+l,c-l,by rw[hlen];simp[Zal],hb,fun i hi=> ?_⟩;rw[hlen]at hi;rw[Nat.add_assoc,hcell (l+i) QhN,Zog,ZmH hi,Zp3]
theorem SlK.nil (w:World):SlK w (.slice none 0 0) []:=⟨.inl ⟨rfl,none,0,rfl⟩,none,0,rfl,ZmK _⟩
theorem SlK.row {w:World} {b:Nat} {t:TypeId} {n:Nat} {f:Nat->Value} (h:w.rowIs b t n f):SlK w (.slice (some ⟨b,0,none⟩) n n) ((List.range n).map f):=
 ⟨Sl.row h,_,n,by rw[ZmI,Zoj],by rw[ZmI,Zoj];exact ZmK _⟩
theorem SlK.congr {w:World} {v:Value} {xs ys:List Value} (h:SlK w v xs) (e:xs=ys):SlK w v ys:=e▸h
theorem Zbs (w:World):(sizeOf 4).run prog w=.ok 1 w:=Qdu
theorem Z7 {w:World} {v:Value} {xs:List Value} (hs:SlK w v xs) (l h:Nat) (hl:l<=h) (hh:h<=xs.length):
 ∃v',(∀w',(Instr.slice 26 v (some (.int .i64 (l:Int))) (some (.int .i64 (h:Int))) none).run prog w'=.ok v' w')∧SlK w v' ((xs.drop l).take (h-l)):=by
 obtain⟨hsl,a,c,rfl,hc⟩:=hs
 refine⟨_,fun w'=> ?_,Zar hsl hc hl hh⟩
 have e:prog.elem 26=4:=Qdu
 have ht:prog.underlying 26=some (.slice (prog.elem 26)):=by rw[e];exact underlying26
 rw[run_slice_lh w' 26 a xs.length c ht .i64 .i64 (l:Int) (h:Int) QhN QhN QhN,e,Zbs]
 rfl
def BoolsE (r:List Bool×Int) (w:World) (e:Ending) (w':World):Prop:=∃v,e=.returned (.tuple #[v,.int .i64 r.2])∧SlK w' v (r.1.map encT)∧Ext w w'
theorem Sl.int_at {w wr:World} {a:Option Addr} {n c:Nat} {ws:List Int} (h:Sl w (.slice a n c) (ws.map encI)) (hx:Ext w wr) {i:Nat} {x:Int} (hi:ws[i]? =some x):∃b o,a=some ⟨b,o,none⟩∧b<w.heap.size∧wr.cell? ⟨b,o+i,none⟩=some (.int .i64 x):=QbK
theorem Sl.bool_at {w wr:World} {a:Option Addr} {n c:Nat} {ws:List Bool} (h:Sl w (.slice a n c) (ws.map encT)) (hx:Ext w wr) {i:Nat} {x:Bool} (hi:ws[i]? =some x):∃b o,a=some ⟨b,o,none⟩∧b<w.heap.size∧wr.cell? ⟨b,o+i,none⟩=some (.bool x):=QbK
theorem Zu {α:Type} {l:List α} {i:Nat} {x:α} (h:l[i]? =some x):l.take (i+1)=l.take i++[x]:=by rw[Zo4,h];rfl
theorem Rn.mods_snoc:∀(l:List Int) (x:Int) (b:Bool),Rn.mods b (l++[x])=Rn.mods b l++List.replicate x.toNat (if l.length%2=0 then b else !b)
 | [],x,b=>by simp[Rn.mods]
 |y::l,x,b=>by rw[Zny,Rn.mods,Rn.mods,Rn.mods_snoc l x (!b),Znu,ZmQ];exact Qd4
theorem Rn.sum_snoc (l:List Int) (x:Int):Rn.sum (l++[x])=Rn.sum l+x:=by rw[Rn.sum_app,Rn.sum_cons,Rn.sum_nil];omega
theorem Rn.sum_in {l:List Int} (h:∀x∈l,1<=x∧x<=65536):0<=Rn.sum l∧Rn.sum l<=65536*(l.length:Int):=by
 induction l with
 |nil=>rw[Rn.sum_nil];simp
 |cons x l ih=>have h1:=h x (Znh ..);have h2:=ih fun y hy=>h y (Zne _ hy);rw[Rn.sum_cons,ZmQ];omega
theorem Zbr (v:Value) (m:List Bool) (w:World) (hv:SlK w v (m.map encT)) (hm:m.length<=1000000):
 Calls prog 25 #[v] w fun e w'=>e=.returned (.tuple #[.int .i64 (Ea.ldg m:Int),.int .i64 (Ea.trl m:Int)])∧w=w':=by
 obtain⟨hsl,a,c,rfl,_⟩:=hv
 rw[ZmI]at hsl⊢
 have HV:=ZmE hsl
 clear hsl
 go_enter func25,ntmps25
 go_wp2
 go_loop [4] (fun i=>∃k:Nat,k<=m.length∧i=.int .i64 (k:Int)∧Hid (Ea.ldg (m.drop k)+k=Ea.ldg m)) (fun i=>m.length-(intOf i).toNat)
 case atStart=>exact QaF
 case round=>
  obtain⟨k,hk,rfl,hl⟩:=hrel;by_cases hlt:k<m.length
  ·obtain⟨bb0,off0,ha0,hbl0,hc00⟩:=HV.out.at_ (k:=k) Qia
   subst ha0
   rw[ZnO]at hc00
   unfold encT at hc00
   obtain⟨b,hb⟩:∃b,m[k]=b:=⟨_,rfl⟩
   rw[hb]at hc00
   have hl2:=hl.out
   rw[Zn3 hlt,hb]at hl2
   have HL2:=ZmE hl2
   clear hl2 hl hb
   cases b with
   |true=>have HL:Hid (((Ea.ldg m:Nat):Int)=(k:Int)):=ZmE Qiu;clear HL2;go_wp2;go_loop [5] (fun i=>∃j:Nat,j<=m.length∧i=.int .i64 (j:Int)∧Hid (Ea.ldg (m.reverse.drop j)+j=Ea.trl m)) (fun i=>m.length-(intOf i).toNat);(case atStart=>exact QaF);case round=>exact QY
   |false=>exact Qck
  ·obtain rfl:k=m.length:=QhN;have HL:Hid (((Ea.ldg m:Nat):Int)=(m.length:Int)):=ZmE QiD;clear hk hlt hl;go_wp2;go_loop [5] (fun i=>∃j:Nat,j<=m.length∧i=.int .i64 (j:Int)∧Hid (Ea.ldg (m.reverse.drop j)+j=Ea.trl m)) (fun i=>m.length-(intOf i).toNat);(case atStart=>exact QaF);case round=>exact Q3
def Rn.rest (n:Nat):List Bool->List Nat
 | []=>[]
 |c::r=>Rn.runsGo c (n+1) r
theorem Rn.rest_one (n:Nat) (c:Bool):Rn.rest n [c]=[n+1]:=rfl
theorem Rn.rest_two (n:Nat) (c d:Bool) (r:List Bool):Rn.rest n (c::d::r)=if d=c then Rn.rest (n+1) (d::r)else(n+1)::Rn.rest 0 (d::r):=by
 show Rn.runsGo c (n+1) (d::r)=if d=c then Rn.runsGo d (n+1+1) r else(n+1)::Rn.runsGo d (0+1) r;rw[Rn.runsGo];by_cases h:d=c;·rw[ZmH h,ZmH h,h]
 ·rw[ZmF h,ZmF h]
theorem Rn.rest_core (m:List Bool):Rn.widthsN m=Rn.rest 0 ((m.take (m.length-Ea.trl m)).drop (Ea.ldg m)):=by
 have e:(m.take (m.length-Ea.trl m)).drop (Ea.ldg m)=Rn.core m:=by unfold Rn.core;rw[ZpN]
 rw[e];unfold Rn.widthsN Rn.rest;cases Rn.core m<;>rfl
theorem Rn.ldg_len (m:List Bool):Ea.ldg m<=m.length∧Ea.trl m<=m.length:=by refine⟨Rn.ldg_le m,?_⟩;unfold Ea.trl;have:=Rn.ldg_le m.reverse;rwa[Zn9]at this
theorem Zax (v:Value) (m:List Bool) (w:World) (hv:SlK w v (m.map encT)) (hm:m.length<=1000000):
 Calls prog 23 #[v] w fun e w'=>∃u,e=.returned u∧SlK w' u ((Rn.widths m).map encI)∧Ext w w':=by
 have HMG:=ZmE (Zbr v m w hv hm)
 obtain⟨hsl,a,c,rfl,-⟩:=hv
 rw[ZmI]at hsl HMG⊢
 obtain⟨n,hn⟩:∃n,n=m.length:=⟨_,rfl⟩
 obtain⟨hla,hlb⟩:=Rn.ldg_len m
 have hrc:=Rn.rest_core m
 rw[<-hn]at hsl HMG hm hla hlb hrc⊢
 obtain⟨A,hA⟩:∃A,A=Ea.ldg m:=⟨_,rfl⟩
 obtain⟨B,hB⟩:∃B,B=Ea.trl m:=⟨_,rfl⟩
 rw[<-hA]at HMG hla hrc
 rw[<-hB]at HMG hlb hrc
 obtain⟨E,hE⟩:∃E,E=n-B:=⟨_,rfl⟩
 rw[<-hE]at hrc
 have hEI:(n:Int)-(B:Int)=(E:Int):=by omega
 have hEn:E<=n:=by omega
 have HN:=ZmE hn
 have HV:=ZmE hsl
 have HRC:=ZmE hrc
 have HTL:Hid ((m.take E).length=E):=ZmE QhS
 have HTE:Hid (∀(i:Nat) (b:Bool),(m.take E)[i]? =some b->m[i]? =some b):=ZmE (fun i b h=>by rw[Zog]at h;split at h;(·exact h);·cases h)
 have HWD:Hid (Rn.widths m=(Rn.widthsN m).map fun(n:Nat)=>(n:Int)):=ZmE rfl
 generalize Rn.widths m=res at*
 generalize Rn.widthsN m=resN at*
 generalize m.take E=mE at*
 clear hn hsl hrc hA hB hE hlb
 go_enter func23,ntmps23
 go_wp2_with fail
 refine HMG.out.mono ?_
 rintro e w1 ⟨rfl,rfl⟩
 go_wp2_with fail
 go_loopw [5,6,7] (fun u k t wr=>∃(i q:Nat) (out:List Int),A<=i∧(i<=E∨i=A)∧t=.int .i64 (i:Int)∧k=.int .i64 (q:Int)∧q<=i∧out.length<=i∧Hid (res=out++(Rn.rest q (mE.drop i)).map fun(n:Nat)=>(n:Int))∧Hid (Own 3 wr w.heap.size u (out.map encI))∧Hid (Ext w wr)) (fun _ _ t _=>n-(intOf t).toNat)
 case atStart=>exact⟨A,0,[],ZmK _,.inr rfl,rfl,rfl,ZmP _,ZmP _,ZmE (by rw[HWD.out,HRC.out];rfl),ZmE (Own.nil _ _ _),ZmE (Ext.refl _)⟩
 case round=>obtain⟨i,q,out,hAi,hiE,rfl,rfl,hqi,hol,HR,HO,HX⟩:=hrel;have hi9:i<=n:=QhN;by_cases hlt:i<E;(·have hiI:(i:Int)<(E:Int):=QhN;obtain⟨cb,hcb⟩:∃cb,mE[i]? =some cb:=⟨_,ZmG (by rw[HTL.out];exact hlt)⟩;have hmc:=HTE.out i cb hcb;obtain⟨b,o,ha,hb,c0⟩:=HV.out.bool_at HX.out hmc;subst ha;obtain⟨j,hj⟩:∃j,j=i+1:=⟨_,rfl⟩;have hjI:(i:Int)+1=(j:Int):=QhN;obtain⟨q1,hq1⟩:∃q1,q1=q+1:=⟨_,rfl⟩;have hqI:(q:Int)+1=(q1:Int):=QhN;have hq9:q1<=1000000:=QhN;have hdi:mE.drop i=cb::mE.drop j:=(by obtain⟨h1,h2⟩:=ZmN.1 hcb;rw[Zn3 h1,h2,hj]);have hin:(i:Int)<(n:Int):=QhN;have hsz:=HX.out.size;by_cases hje:j=E;(·have zj:((j:Int)==(E:Int))=true:=Znj.2 QhN;have HR2:Hid (res=(out++[(q1:Int)])++(Rn.rest 0 (mE.drop j)).map fun(n:Nat)=>(n:Int)):=ZmE (by have h0:mE.drop j=[]:=ZnD Qiw;rw[HR.out,hdi,h0,Rn.rest_one,<-hq1];simp[Rn.rest]);have hown:=HO.out;have hjn:j<=E:=QhN;have hol2:(out++[(q1:Int)]).length<=j:=QbW;have hjA:A<=j:=QhN;have hjm:j<=n:=QhN;have hji:i<j:=QhN;clear hcb hmc hdi hj hq1 hje HO HR;go_wp2_with fail;go_quiet (fail);have hxq:Ext wr (wr.drewN nq):=(Ext.refl _).drewN _;generalize wr.drewN nq=wq at*;have hown:=hown.ext hxq;have hXq:=HX.out.trans hxq;have hsz:=hXq.size;go_wp2_with (at_builtin;refine Zm rfl _ _ rfl w.heap.size _ out rfl (hown.alloc _) _ (q1:Int) rfl ?c1 ?c2 ?c3 ?_);(case c1=>exact QbU);(case c2=>omega);(case c3=>exact Qa3);intro v' w5 hown5 hg5;have HX5:=ZmE ((hXq.alloc _).ofGrown hg5 hown.low);have HO5:Hid (Own 3 w5 w.heap.size v' ((out++[(q1:Int)]).map encI)):=ZmE QhT;clear hown hown5 hg5 hsz;go_wp2_with fail;go_roundw;(case rel=>exact⟨j,0,_,hjA,.inl hjn,rfl,rfl,ZmP _,hol2,HR2,HO5,HX5⟩);case measure=>exact Qak);·have zj:((j:Int)==(E:Int))=false:=ZmJ.2 QhN;obtain⟨db,hdb⟩:∃db,mE[j]? =some db:=⟨_,ZmG Qiw⟩;have hmd:=HTE.out j db hdb;obtain⟨b',o',ha',hb',c1⟩:=HV.out.bool_at HX.out hmd;injection ha' with ha';injection ha' with h1 h2;subst h1 h2;have hjn:(j:Int)<(n:Int):=QhN;have hdj:mE.drop j=db::mE.drop (j+1):=Qhz;have hjE:j<=E:=QhN;have hjA:A<=j:=QhN;have hjm:j<=n:=QhN;have hji:i<j:=QhN;by_cases hd:db=cb;(·have HR2:Hid (res=out++(Rn.rest q1 (mE.drop j)).map fun(n:Nat)=>(n:Int)):=ZmE (by rw[HR.out,hdi,hdj,Rn.rest_two,ZmH hd,hq1]);have hqj:q1<=j:=QhN;have hol2:out.length<=j:=QhN;subst hd;clear hcb hmc hdi hj hq1 hje HR hdb hmd hdj;go_wp2_with fail;go_quiet (fail);go_wp2_with fail;go_roundw;(case rel=>exact⟨j,q1,out,hjA,.inl hjE,rfl,rfl,hqj,hol2,HR2,ZmE (HO.out.ext ((Ext.refl _).drewN _)),ZmE (HX.out.drewN _)⟩);case measure=>exact Qak);·have zd:(db==cb)=false:=(by cases db<;>cases cb<;>first|rfl|exact absurd rfl hd);have HR2:Hid (res=(out++[(q1:Int)])++(Rn.rest 0 (mE.drop j)).map fun(n:Nat)=>(n:Int)):=ZmE (by rw[HR.out,hdi,hdj,Rn.rest_two,ZmF hd,hq1,ZnU,Znu];rfl);have hown:=HO.out;have hol2:(out++[(q1:Int)]).length<=j:=QbW;clear hcb hmc hdi hj hq1 hje HO HR hdb hmd hdj hd;go_wp2_with fail;go_quiet (fail);have hxq:Ext wr (wr.drewN nq):=(Ext.refl _).drewN _;generalize wr.drewN nq=wq at*;have hown:=hown.ext hxq;have hXq:=HX.out.trans hxq;have hsz:=hXq.size;go_wp2_with (at_builtin;refine Zm rfl _ _ rfl w.heap.size _ out rfl (hown.alloc _) _ (q1:Int) rfl ?d1 ?d2 ?d3 ?_);(case d1=>exact QbU);(case d2=>omega);(case d3=>exact Qa3);intro v' w5 hown5 hg5;have HX5:=ZmE ((hXq.alloc _).ofGrown hg5 hown.low);have HO5:Hid (Own 3 w5 w.heap.size v' ((out++[(q1:Int)]).map encI)):=ZmE QhT;clear hown hown5 hg5 hsz;go_wp2_with fail;go_roundw;(case rel=>exact⟨j,0,_,hjA,.inl hjE,rfl,rfl,ZmP _,hol2,HR2,HO5,HX5⟩);case measure=>exact Qak);·have hiI:¬(i:Int)<(E:Int):=QhN;have h0:mE.drop i=[]:=ZnD Qiw;have hr:=HR.out;rw[h0]at hr;have hr2:res=out:=(by rw[hr];simp[Rn.rest]);have HK:=ZmE HO.out.slk;rw[<-hr2]at HK;have hx9:=HX.out;clear h0 hr hr2 hlt;go_wp2_with fail;go_ret;exact Qdh
theorem ZfV (v:Int) (s:Nat) (w:World) (hv: -1000<=v∧v<=1000) (hs:s<=2):
 Calls prog 255 #[.int .i64 v,.int .i64 ((s:Int)+2)] w fun e w'=>e=.returned (.int .i64 (Cc.chOf v s))∧w=w':=by
 obtain⟨res,hres⟩:∃res,res=Cc.chOf v s:=⟨_,rfl⟩
 rw[<-hres]
 unfold Cc.chOf at hres
 obtain⟨p,hp⟩:∃p:Int,p=(s:Int)+2:=⟨_,rfl⟩
 rw[<-hp]
 by_cases h0:s=0
 ·have z0:(p==2)=true:=Znj.2 QhN;by_cases h6:64<=v;(·rw[ZmH ⟨h0,h6⟩]at hres;exact Qhh);·rw[ZmF QhN]at hres;have HR:=ZmE hres;have h7:v<64:=QhN;clear hres h0 hp h6;go_enter func255,ntmps255;exact Qda
 ·have z0:(p==2)=false:=ZmJ.2 QhN;rw[ZmF QhN]at hres;exact Qhh
theorem ZfH (v:Int) (w:World) (hv: -1000<=v∧v<=1000):
 Calls prog 185 #[.int .i64 v] w fun e w'=>e=.returned (.int .i64 (2+v-103))∧w=w':=by
 go_enter func185,ntmps185
 go_wp2
 go_ret
 exact⟨rfl,rfl⟩
def Cc.chkTo (vs:List Int):Nat->Int
 |0=>vs.getD 0 0
 |i+1=>(Cc.chkTo vs i+(i:Int)*vs.getD i 0)%103
theorem Cc.chkGo_to (vs:List Int):∀(r:List Int) (i:Nat) (s:Int),s=Cc.chkTo vs i->r=vs.drop i->i<=vs.length->Cc.chkGo i s r=Cc.chkTo vs vs.length
 | [],i,s,hs,hr,hi=>by have:vs.length=i:=(by have:=Znb List.length hr;exact Qdx);rw[Cc.chkGo,hs,this]
 |v::r,i,s,hs,hr,hi=>by have hil:i<vs.length:=(by have:=Znb List.length hr;exact Qdx);rw[Zn3 hil]at hr;injection hr with h1 h2;rw[Cc.chkGo];refine Cc.chkGo_to vs r (i+1) _ ?_ h2 hil;rw[hs,Cc.chkTo,h1,ZmL,ZmG hil];rfl
theorem Cc.chk_to (vs:List Int):Cc.chk vs=Cc.chkTo vs vs.length:=Cc.chkGo_to vs vs 0 _ rfl rfl (ZmP _)
theorem Cc.chkTo_in (vs:List Int) (h:∀v∈vs,0<=v∧v<=106):∀i,0<=Cc.chkTo vs i∧Cc.chkTo vs i<=106
 |0=>by
  rw[Cc.chkTo]
  cases vs with
  |nil=>exact⟨by decide,by decide⟩
  |cons v r=>exact h v (Znh ..)
 |i+1=>by rw[Cc.chkTo];omega
theorem Zeg (v:Value) (vs:List Int) (w:World) (hv:Sl w v (vs.map encI)) (hl:vs.length<=1000000) (hne:0<vs.length) (hb:∀v∈vs,0<=v∧v<=106):
 Calls prog 187 #[v] w fun e w'=>e=.returned (.int .i64 (Cc.chk vs))∧w=w':=by
 obtain⟨a,c,rfl⟩:=hv.form
 rw[ZmI]at hv⊢
 obtain⟨n,hn⟩:∃n,n=vs.length:=⟨_,rfl⟩
 rw[<-hn]at hv hl hne⊢
 obtain⟨x0,hx0⟩:∃x,vs[0]? =some x:=⟨_,ZmG (by rw[<-hn];exact hne)⟩
 obtain⟨b,o,ha,hbl,hc⟩:=Sl.int_at hv (Ext.refl w) hx0
 subst ha
 rw[Zoc]at hc
 have hbx:=hb x0 (ZmT hx0)
 have HN:=ZmE hn
 have HV:=ZmE hv
 have HB:=ZmE hb
 have HIN:=ZmE (Cc.chkTo_in vs hb)
 have HX0:Hid (x0=Cc.chkTo vs 0):=ZmE (by rw[Cc.chkTo,ZmL,hx0];rfl)
 have hnI:(0:Int)<(n:Int):=by omega
 have HR:=ZmE (Cc.chk_to vs)
 rw[<-hn]at HR
 generalize Cc.chk vs=res at*
 clear hv hn hx0 hb
 go_enter func187,ntmps187
 go_wp2_with fail
 go_loop [3,11] (fun s i=>∃(j:Nat) (t:Int),j<=n∧i=.int .i64 (j:Int)∧s=.int .i64 t∧0<=t∧t<=106∧Hid (t=Cc.chkTo vs j)) (fun _ i=>n-(intOf i).toNat)
 case atStart=>exact⟨0,x0,ZmP _,rfl,rfl,hbx.1,hbx.2,HX0⟩
 case round=>obtain⟨j,t,hj,rfl,rfl,ht0,ht1,HT⟩:=hrel;by_cases hlt:j<n;(·obtain⟨x,hxj⟩:∃x,vs[j]? =some x:=⟨_,ZmG QhV⟩;obtain⟨b',o',ha,hb',hcj⟩:=HV.out.int_at (Ext.refl w) hxj;injection ha with ha;injection ha with h1 h2;subst h1 h2;have hxb:=HB.out x (ZmT hxj);have hjI:(j:Int)<(n:Int):=QhN;obtain⟨p,hp⟩:∃p,p=(j:Int)*x:=⟨_,rfl⟩;have hp0:0<=p:=(by rw[hp];exact ZoC QhN hxb.1);have hp1:p<=106000000:=(by rw[hp];have h1:(j:Int)*x<=(j:Int)*106:=Int.mul_le_mul_of_nonneg_left hxb.2 QhN;omega);have hpe:=hp.symm;obtain⟨t2,ht2⟩:∃t2,t2=(t+p)%103:=⟨_,rfl⟩;have HT2:Hid (t2=Cc.chkTo vs (j+1)):=ZmE (by rw[ht2,Cc.chkTo,<-HT.out,hp,ZmL,hxj];rfl);have hq:=ht2.symm;have hq0:0<=t2:=QhN;have hq1:t2<=106:=QhN;clear hxj hp ht2;exact Qdp);·obtain rfl:j=n:=QhN;have HE:Hid (res=t):=ZmE (by rw[HR.out,HT.out]);clear hj hlt;go_wp2;go_ret;exact⟨Zt HE.out.symm,rfl⟩
theorem Zg2 (v u:Value) (xs ys:List Int) (w:World) (hv:Sl w v (xs.map encI)) (hu:Sl w u (ys.map encI)) (hl:xs.length<=1000000) (hl2:ys.length<=1000000):
 Calls prog 140 #[v,u] w fun e w'=>e=.returned (.bool (decide (xs=ys)))∧∃n,w'=w.drewN n:=by
 obtain⟨a,c,rfl⟩:=hv.form
 obtain⟨a2,c2,rfl⟩:=hu.form
 simp only[ZmI]at hv hu⊢
 obtain⟨n,hn⟩:∃n,n=xs.length:=⟨_,rfl⟩
 obtain⟨m,hm⟩:∃m,m=ys.length:=⟨_,rfl⟩
 rw[<-hn]at hv hl⊢
 rw[<-hm]at hu hl2⊢
 have HN:=ZmE hn
 have HM:=ZmE hm
 have HV:=ZmE hv
 have HU:=ZmE hu
 obtain⟨res,hres⟩:∃res,res=decide (xs=ys):=⟨_,rfl⟩
 rw[<-hres]
 have HR:=ZmE hres
 clear hv hu hn hm hres
 by_cases hnm:n=m
 ·subst hnm;go_enter func140,ntmps140;go_wp2;go_loopw [13] (fun i wr=>∃j:Nat,j<=n∧i=.int .i64 (j:Int)∧Hid (xs.take j=ys.take j)∧Hid (∃q,wr=w.drewN q)) (fun i _=>n-(intOf i).toNat);(case atStart=>exact⟨0,ZmP _,rfl,ZmE rfl,ZmE ⟨0,rfl⟩⟩);case round=>obtain⟨j,hj,rfl,HT,HQ⟩:=hrel;have hxw:Ext w wr:=(by obtain⟨q,h⟩:=HQ.out;rw[h];exact(Ext.refl _).drewN _);have HQ2:Hid (∀k,∃q,wr.drewN k=w.drewN q):=ZmE (fun k=>by obtain⟨q,h⟩:=HQ.out;exact⟨q+k,by rw[h,World.drewN_drewN]⟩);by_cases hlt:j<n;(·obtain⟨x,hxj⟩:∃x,xs[j]? =some x:=⟨_,ZmG QhV⟩;obtain⟨y,hyj⟩:∃y,ys[j]? =some y:=⟨_,ZmG (by rw[<-HM.out];exact hlt)⟩;obtain⟨b,o,ha,hb,hc⟩:=HV.out.int_at hxw hxj;subst ha;obtain⟨b2,o2,ha2,hb2,hc2⟩:=HU.out.int_at hxw hyj;subst ha2;have hjI:(j:Int)<(n:Int):=QhN;by_cases hxy:x=y;(·subst hxy;have HT2:Hid (xs.take (j+1)=ys.take (j+1)):=ZmE (by rw[Zu hxj,Zu hyj,HT.out]);clear hxj hyj HT;go_wp2_with fail;go_quiet (fail);go_wp2_with fail;go_roundw;(case rel=>exact⟨j+1,by omega,by go_num,HT2,ZmE (HQ2.out nq)⟩);case measure=>exact Qak);·have zx:(x==y)=false:=ZmJ.2 hxy;have HF:Hid (res=false):=ZmE (by rw[HR.out];refine ZmS fun e=>hxy ?_;rw[e,hyj]at hxj;exact(Zqj hxj).symm);clear hxj hyj HT hxy;go_wp2_with fail;go_quiet (fail);go_wp2_with fail;go_ret;exact⟨Zi HF.out.symm,HQ2.out nq⟩);·obtain rfl:j=n:=QhN;have HF:Hid (res=true):=ZmE (by have h:=HT.out;rw[ZmW QhU,ZmW (by rw[<-HM.out];exact ZmK _)]at h;rw[HR.out];exact ZmR h);clear hj hlt HT;go_wp2_with fail;go_ret;exact⟨Zi HF.out.symm,HQ.out⟩
 ·have zn:((n:Int)==(m:Int))=false:=ZmJ.2 QhN;have HF:Hid (res=false):=ZmE (by rw[HR.out];refine ZmS fun e=>hnm ?_;rw[HN.out,HM.out,e]);clear hnm;go_enter func140,ntmps140;go_wp2;go_ret;exact⟨Zi HF.out.symm,0,rfl⟩
theorem Rn.gcd_snoc {ws:List Int} {j:Nat} {x:Nat} (h:ws[j]? =some (x:Int)) (hx:1<=x) (g:Nat):Rn.gcdGo g (ws.drop j)=Rn.gcdGo (Nat.gcd g x) (ws.drop (j+1)):=by obtain⟨h1,h2⟩:=ZmN.1 h;rw[Zn3 h1,h2,Rn.gcdGo,ZmF QhN];rfl
theorem ZjQ (v:Value) (ws:List Int) (w:World) (hv:Sl w v (ws.map encI)) (hl:ws.length<=1000000) (hw:∀x∈ws,1<=x∧x<=65536):
 Calls prog 153 #[v] w fun e w'=>e=.returned (.int .i64 (Rn.unit ws))∧Ext w w':=by
 obtain⟨a,c,rfl⟩:=hv.form
 rw[ZmI]at hv⊢
 obtain⟨n,hn⟩:∃n,n=ws.length:=⟨_,rfl⟩
 rw[<-hn]at hv hl⊢
 have HN:=ZmE hn
 have HV:=ZmE hv
 have HW:=ZmE hw
 have HR:Hid (Rn.unit ws=Rn.gcdGo 0 (ws.drop 0)):=ZmE rfl
 generalize Rn.unit ws=res at*
 clear hv hn hw
 go_enter func153,ntmps153
 go_wp2
 go_loopw [3,8] (fun u i wr=>∃(j g:Nat),j<=n∧i=.int .i64 (j:Int)∧u=.int .i64 (g:Int)∧g<=65536∧Hid (res=Rn.gcdGo g (ws.drop j))∧Hid (Ext w wr)) (fun _ i _=>n-(intOf i).toNat)
 case atStart=>exact Qfu
 case round=>obtain⟨j,g,hj,rfl,rfl,hg,HG,HX⟩:=hrel;by_cases hlt:j<n;(·obtain⟨x,hxj⟩:∃x,ws[j]? =some x:=⟨_,ZmG QhV⟩;have hx:=HW.out x (ZmT hxj);obtain⟨m,rfl⟩:∃m:Nat,x=(m:Int):=⟨x.toNat,by omega⟩;obtain⟨b,o,ha,hb,hc⟩:=HV.out.int_at HX.out hxj;subst ha;have hjI:(j:Int)<(n:Int):=QhN;have hm1:1<=m:=QhN;have hm2:m<=65536:=QhN;have HG2:=ZmE (HG.out.trans (Rn.gcd_snoc hxj hm1 g));obtain⟨G,hG⟩:∃G,G=Nat.gcd g m:=⟨_,rfl⟩;have hG9:G<=65536:=QfU;rw[<-hG]at HG2;have HGG:=ZmE hG;have hmI:¬(m:Int)<1:=QhN;clear hxj hx hG;obtain⟨W0,hW0⟩:∃W0,W0=wr:=⟨_,rfl⟩;subst hW0;go_wp2_with fail;go_loopw [3,5] (fun u y wq=>∃(p q:Nat),u=.int .i64 (p:Int)∧y=.int .i64 (q:Int)∧p<=65536∧q<=65536∧Hid (Nat.gcd p q=G)∧Hid (Ext w wq)) (fun _ y _=>(intOf y).toNat);(case atStart=>exact⟨g,m,rfl,rfl,hg,hm2,ZmE HGG.out.symm,HX⟩);case round=>exact Qaj);·exact Qci
theorem Zjn (v:Value) (ws:List Int) (w:World) (hv:Sl w v (ws.map encI)) (hl:ws.length<=1000000) (hw:∀x∈ws,1<=x∧x<=65536):
 Calls prog 22 #[v] w fun e w'=>e=.returned (.int .i64 (Rn.unit ws))∧Ext w w':=by
 obtain⟨a,c,rfl⟩:=hv.form
 rw[ZmI]at hv⊢
 obtain⟨n,hn⟩:∃n,n=ws.length:=⟨_,rfl⟩
 rw[<-hn]at hv hl⊢
 have HN:=ZmE hn
 have HV:=ZmE hv
 have HW:=ZmE hw
 have HR:Hid (Rn.unit ws=Rn.gcdGo 0 (ws.drop 0)):=ZmE rfl
 generalize Rn.unit ws=res at*
 clear hv hn hw
 go_enter func22,ntmps22
 go_wp2
 go_loopw [3,4] (fun u i wr=>∃(j g:Nat),j<=n∧i=.int .i64 (j:Int)∧u=.int .i64 (g:Int)∧g<=65536∧Hid (res=Rn.gcdGo g (ws.drop j))∧Hid (Ext w wr)) (fun _ i _=>n-(intOf i).toNat)
 case atStart=>exact Qfu
 case round=>obtain⟨j,g,hj,rfl,rfl,hg,HG,HX⟩:=hrel;by_cases hlt:j<n;(·obtain⟨x,hxj⟩:∃x,ws[j]? =some x:=⟨_,ZmG QhV⟩;have hx:=HW.out x (ZmT hxj);obtain⟨m,rfl⟩:∃m:Nat,x=(m:Int):=⟨x.toNat,by omega⟩;obtain⟨b,o,ha,hb,hc⟩:=HV.out.int_at HX.out hxj;subst ha;have hjI:(j:Int)<(n:Int):=QhN;have hm1:1<=m:=QhN;have hm2:m<=65536:=QhN;have HG2:=ZmE (HG.out.trans (Rn.gcd_snoc hxj hm1 g));obtain⟨G,hG⟩:∃G,G=Nat.gcd g m:=⟨_,rfl⟩;have hG9:G<=65536:=QfU;rw[<-hG]at HG2;have HGG:=ZmE hG;have hmI:¬(m:Int)<1:=QhN;clear hxj hx hG;obtain⟨W0,hW0⟩:∃W0,W0=wr:=⟨_,rfl⟩;subst hW0;go_wp2_with fail;go_loopw [5,6] (fun u y wq=>∃(p q:Nat),u=.int .i64 (p:Int)∧y=.int .i64 (q:Int)∧p<=65536∧q<=65536∧Hid (Nat.gcd p q=G)∧Hid (Ext w wq)) (fun _ y _=>(intOf y).toNat);(case atStart=>exact⟨m,g,rfl,rfl,hm2,hg,ZmE (by rw[HGG.out,Nat.gcd_comm]),HX⟩);case round=>exact Qaj);·exact Qci
def IntsE (r:List Int×Int) (w:World) (e:Ending) (w':World):Prop:=∃u,e=.returned (.tuple #[u,.int .i64 r.2])∧SlK w' u (r.1.map encI)∧Ext w w'
theorem IntsE.bad (c:Int) (w w':World) (h:Ext w w'):IntsE ([],c) w (.returned (.tuple #[.slice none 0 0,.int .i64 c])) w':=
 ⟨_,rfl,⟨.inl ⟨rfl,_,_,rfl⟩,none,0,rfl,ZmK _⟩,h⟩
theorem Cc.run_step {s s':Nat} {v:Int} {o:List Int} (h:Cc.stepC s false v=some (s',false,o)) (out r:List Int):Cc.runC s false out (v::r)=Cc.runC s' false (out++o) r:=by rw[Cc.runC,h]
theorem Cc.run_none {s:Nat} {v:Int} (h:102<v) (out r:List Int):Cc.runC s false out (v::r)=none:=by rw[Cc.runC,Cc.stepC,ZmF QhP,ZmH h]
theorem Cc.run_shift (s:Nat) (hs:s≠2) (out r:List Int):Cc.runC s false out (98::r)=Cc.runC s true out r:=by rw[Cc.runC,Cc.stepC,ZmF QhP,ZmF QhP,ZmF QhP,ZmF QhN,ZmF QhP,ZmF QhP,ZmF QhP,ZmH rfl];dsimp only;rw[ZnC]
theorem Cc.run_shifted (s:Nat) (v:Int) (out r:List Int):Cc.runC s true out (v::r)=if 95<v then none else Cc.runC s false (out++[Cc.chOf v (1-s)]) r:=by
 rw[Cc.runC,Cc.stepC,ZmH rfl];by_cases h:95<v;·rw[ZmH h,ZmH h]
 ·rw[ZmF h,ZmF h]
theorem Cc.step_fnc1 (s:Nat):Cc.stepC s false 102=some (s,false,[256]):=by rw[Cc.stepC,ZmF QhP,ZmF QhP,ZmH rfl]
theorem Cc.step_dig (v:Int) (h:v<=99):Cc.stepC 2 false v=some (2,false,[48+v/10,48+v%10]):=by rw[Cc.stepC,ZmF QhP,ZmF QhN,ZmF QhN,ZmH ⟨rfl,h⟩]
theorem Cc.step_ch (s:Nat) (hs:s≠2) (v:Int) (h:v<=95):Cc.stepC s false v=some (s,false,[Cc.chOf v s]):=by rw[Cc.stepC,ZmF QhP,ZmF QhN,ZmF QhN,ZmF QhN,ZmH h]
theorem Cc.step_96 (s:Nat) (hs:s≠2):Cc.stepC s false 96=some (s,false,[258]):=by rw[Cc.stepC,ZmF QhP,ZmF QhN,ZmF QhN,ZmF QhN,ZmF QhP,ZmH rfl]
theorem Cc.step_97 (s:Nat) (hs:s≠2):Cc.stepC s false 97=some (s,false,[257]):=by rw[Cc.stepC,ZmF QhP,ZmF QhN,ZmF QhN,ZmF QhN,ZmF QhP,ZmF QhP,ZmH rfl]
theorem Cc.step_99 (s:Nat) (hs:s≠2):Cc.stepC s false 99=some (2,false,[]):=by rw[Cc.stepC,ZmF QhP,ZmF QhN,ZmF QhN,ZmF QhN,ZmF QhP,ZmF QhP,ZmF QhP,ZmF QhP,ZmH rfl]
theorem Cc.step_100 (s:Nat):Cc.stepC s false 100=some (if s≠1 then(1,false,[])else(s,false,[259])):=by
 rw[Cc.stepC,ZmF QhP,ZmF QhN,ZmF QhN,ZmF QhN,ZmF QhP,ZmF QhP,ZmF QhP,ZmF QhP,ZmF QhP];by_cases h:s≠1;·rw[ZmH ⟨rfl,h⟩,ZmH h]
 ·rw[ZmF (fun x=>h x.2),ZmF QhN,ZmF h]
theorem Cc.step_101 (s:Nat):Cc.stepC s false 101=some (if s≠0 then(0,false,[])else(s,false,[259])):=by
 rw[Cc.stepC,ZmF QhP,ZmF QhN,ZmF QhN,ZmF QhN,ZmF QhP,ZmF QhP,ZmF QhP,ZmF QhP,ZmF QhP,ZmF QhN];by_cases h:s≠0;·rw[ZmH ⟨rfl,h⟩,ZmH h]
 ·rw[ZmF (fun x=>h x.2),ZmF h]
theorem Zcx {w:World} {ops:Array Oper} {rest:List Oper} {o:Oper} {a:Act} {Q:Exit->Act->World->Prop} (hgd:o.guard=none) (s x:Operand)
 (ho:o.op=.call {callee:=.builtin .append,args:= #[s,x],argTypes:= #[43,43]})
 (B:Nat) (v:Value) (l:List Int) (hs:a.eval s=v) (hown:Own 3 w B v (l.map encI)) (b:Nat) (u1 u2:Int) (hx:a.eval x=.slice (some ⟨b,0,none⟩) 2 2)
 (hc1:w.cell? ⟨b,0,none⟩=some (encI u1)) (hc2:w.cell? ⟨b,1,none⟩=some (encI u2)) (hn:l.length<=999999990) (hB:B<=w.heap.size)
 (h:∀v' w',Own 3 w' B v' ((l++[u1,u2]).map encI)->w.grownBy w' v.ownBlock->wpList prog ops Q rest (a.put o.dst v') w'):wpList prog ops Q (o::rest) a w:=
 Zab hgd s x 43 3 (.int .i64 0) 8 ho underlying43 Zb8 rfl QhP B v _ hs hown b 0 2 2 [encI u1,encI u2] hx rfl
  (fun j u hu=>by
   match j,hu with
   |0,hu=>simp at hu;subst hu;exact hc1
   |1,hu=>simp at hu;subst hu;exact hc2) (fun u hu=>by simp at hu;rcases hu with rfl|rfl<;>rfl) QhR hB
  (fun v' w' h1 h2=>h v' w' Qin h2)
theorem ZeG (v:Value) (vs:List Int) (s0:Nat) (w:World) (hv:Sl w v (vs.map encI)) (hl:vs.length<=400000) (hs0:s0<=2) (hb:∀v∈vs,0<=v∧v<=106):
 Calls prog 216 #[v,.int .i64 ((s0:Int)+2)] w (IntsE (match Cc.runC s0 false [] vs with|none=>([],22)|some o=>(o,0)) w):=by
 obtain⟨a,c,rfl⟩:=hv.form
 rw[ZmI]at hv⊢
 obtain⟨n,hn⟩:∃n,n=vs.length:=⟨_,rfl⟩
 rw[<-hn]at hv hl⊢
 obtain⟨p0,hp0⟩:∃p:Int,p=(s0:Int)+2:=⟨_,rfl⟩
 rw[<-hp0]
 have HN:=ZmE hn
 have HV:=ZmE hv
 have HB:=ZmE hb
 obtain⟨RC,hRC⟩:∃RC,RC=Cc.runC s0 false [] vs:=⟨_,rfl⟩
 rw[<-hRC]
 have H0:Hid (RC=Cc.runC s0 false [] (vs.drop 0)):=ZmE hRC
 obtain⟨res,hres⟩:∃res,res=(match RC with|none=>([],22)|some o=>(o,(0:Int))):=⟨_,rfl⟩
 rw[<-hres]
 have HR:=ZmE hres
 clear hv hn hb hRC hres
 go_enter func216,ntmps216
 go_wp2_with fail
 go_loopw [1,6,7] (fun pv u t wr=>∃(i s:Nat) (out:List Int),i<=n∧s<=2∧t=.int .i64 (i:Int)∧pv=.int .i64 ((s:Int)+2)∧out.length<=2*i∧Hid (RC=Cc.runC s false out (vs.drop i))∧Hid (Own 3 wr w.heap.size u (out.map encI))∧Hid (Ext w wr)) (fun _ _ t _=>n-(intOf t).toNat)
 case atStart=>exact⟨0,s0,[],ZmP _,hs0,rfl,by rw[hp0],ZmP _,H0,ZmE (Own.nil _ _ _),ZmE (Ext.refl _)⟩
 case round=>clear hp0 hs0 H0;obtain⟨i,s,out,hi,hs,rfl,rfl,hol,HC,HO,HX⟩:=hrel;obtain⟨p,hp⟩:∃p:Int,p=(s:Int)+2:=⟨_,rfl⟩;rw[<-hp];by_cases hlt:i<n;(·have hiI:(i:Int)<(n:Int):=QhN;obtain⟨x,hxi⟩:∃x,vs[i]? =some x:=⟨_,ZmG QhV⟩;obtain⟨b,o,ha,hbl,hc⟩:=HV.out.int_at HX.out hxi;subst ha;obtain⟨hx0,hx1⟩:=HB.out x (ZmT hxi);have HD:Hid (vs.drop i=x::vs.drop (i+1)):=ZmE (by obtain⟨h1,h2⟩:=ZmN.1 hxi;rw[Zn3 h1,h2]);rw[HD.out]at HC;clear hxi HD;have hlp:3<=7:=QhP;by_cases h102:102<x;(·have HF:Hid (res=([],22)):=ZmE (by rw[HR.out,HC.out,Cc.run_none h102]);have hx9:=HX.out;clear hp HC;exact Qhu);have hle102:x<=102:=QhN;by_cases he102:x=102;(·subst he102;have HC2:Hid (RC=Cc.runC s false (out++[256]) (vs.drop (i+1))):=ZmE (by rw[HC.out];exact Cc.run_step (Cc.step_fnc1 s) _ _);have hown:=HO.out;have hsz:=HX.out.size;have hsI:((s:Int)+2)=p:=hp.symm;have hol2:(out++[256]).length<=2*(i+1):=QgA;clear hp HC HO;go_wp2_with (at_builtin;refine Zm rfl _ _ rfl w.heap.size _ out rfl (hown.alloc _) _ (256) rfl ?c1 ?c2 ?c3 ?_);(case c1=>exact QbU);(case c2=>omega);(case c3=>exact Qa3);intro v' w5 hown5 hg5;have HX5:=ZmE ((HX.out.alloc _).ofGrown hg5 hown.low);have HO5:Hid (Own 3 w5 w.heap.size v' ((out++[256]).map encI)):=ZmE QhT;exact QaL);have z102:(x==102)=false:=ZmJ.2 he102;by_cases hdg:s=2∧x<=99;(·obtain⟨rfl,h99⟩:=hdg;obtain rfl:p=4:=hp;have HC2:Hid (RC=Cc.runC 2 false (out++[48+x/10,48+x%10]) (vs.drop (i+1))):=ZmE (by rw[HC.out];exact Cc.run_step (Cc.step_dig x h99) _ _);have hown:=HO.out;have hsz:=HX.out.size;have hol2:(out++[48+x/10,48+x%10]).length<=2*(i+1):=QgA;clear HC HO;go_wp2_with (at_builtin;refine Zcx rfl _ _ rfl w.heap.size _ out rfl (hown.alloc _) _ (48+x/10) (48+x%10) rfl ?c1 ?c4 ?c2 ?c3 ?_);(case c1=>exact QbU);(case c4=>exact QbU);(case c2=>omega);(case c3=>exact Qa3);intro v' w5 hown5 hg5;have HX5:=ZmE ((HX.out.alloc _).ofGrown hg5 hown.low);have HO5:Hid (Own 3 w5 w.heap.size v' ((out++[48+x/10,48+x%10]).map encI)):=ZmE QhT;clear hown hown5 hg5 hsz;go_wp2_with fail;go_roundw;(case rel=>exact⟨i+1,2,_,by omega,by omega,by go_num,by first|rfl|exact Znb (Value.int .i64) hsI.symm|go_num,hol2,HC2,HO5,HX5⟩);case measure=>exact Qak);by_cases h95:x<=95;(·have hs2:s≠2:=QhN;have HC2:Hid (RC=Cc.runC s false (out++[Cc.chOf x s]) (vs.drop (i+1))):=ZmE (by rw[HC.out];exact Cc.run_step (Cc.step_ch s hs2 x h95) _ _);have z4:(p==4)=false:=ZmJ.2 QhN;have HCH:=ZmE (fun w=>ZfV x s w QhN hs);rw[<-hp]at HCH;have hown:=HO.out;have hsz:=HX.out.size;have hsI:((s:Int)+2)=p:=hp.symm;have hol2:(out++[Cc.chOf x s]).length<=2*(i+1):=QgA;clear hp HC HO;generalize Cc.chOf x s=ch at*;go_wp2_with fail;refine(HCH.out _).mono ?_;rintro e w1 ⟨rfl,rfl⟩;go_wp2_with (at_builtin;refine Zm rfl _ _ rfl w.heap.size _ out rfl (hown.alloc _) _ (ch) rfl ?c1 ?c2 ?c3 ?_);(case c1=>exact QbU);(case c2=>omega);(case c3=>exact Qa3);intro v' w5 hown5 hg5;have HX5:=ZmE ((HX.out.alloc _).ofGrown hg5 hown.low);have HO5:Hid (Own 3 w5 w.heap.size v' ((out++[ch]).map encI)):=ZmE QhT;exact QaL);have h96:95<x:=QhN;by_cases e96:x=96;(·subst e96;have hs2:s≠2:=QhN;have HC2:Hid (RC=Cc.runC s false (out++[258]) (vs.drop (i+1))):=ZmE (by rw[HC.out];exact Cc.run_step (Cc.step_96 s hs2) _ _);have z4:(p==4)=false:=ZmJ.2 QhN;have hown:=HO.out;have hsz:=HX.out.size;have hsI:((s:Int)+2)=p:=hp.symm;have hol2:(out++[258]).length<=2*(i+1):=QgA;clear hp HC HO;go_wp2_with (at_builtin;refine Zm rfl _ _ rfl w.heap.size _ out rfl (hown.alloc _) _ (258) rfl ?c1 ?c2 ?c3 ?_);(case c1=>exact QbU);(case c2=>omega);(case c3=>exact Qa3);intro v' w5 hown5 hg5;have HX5:=ZmE ((HX.out.alloc _).ofGrown hg5 hown.low);have HO5:Hid (Own 3 w5 w.heap.size v' ((out++[258]).map encI)):=ZmE QhT;exact QaL);by_cases e97:x=97;(·subst e97;have hs2:s≠2:=QhN;have HC2:Hid (RC=Cc.runC s false (out++[257]) (vs.drop (i+1))):=ZmE (by rw[HC.out];exact Cc.run_step (Cc.step_97 s hs2) _ _);have z4:(p==4)=false:=ZmJ.2 QhN;have hown:=HO.out;have hsz:=HX.out.size;have hsI:((s:Int)+2)=p:=hp.symm;have hol2:(out++[257]).length<=2*(i+1):=QgA;clear hp HC HO;go_wp2_with (at_builtin;refine Zm rfl _ _ rfl w.heap.size _ out rfl (hown.alloc _) _ (257) rfl ?c1 ?c2 ?c3 ?_);(case c1=>exact QbU);(case c2=>omega);(case c3=>exact Qa3);intro v' w5 hown5 hg5;have HX5:=ZmE ((HX.out.alloc _).ofGrown hg5 hown.low);have HO5:Hid (Own 3 w5 w.heap.size v' ((out++[257]).map encI)):=ZmE QhT;exact QaL);by_cases e98:x=98;(·subst e98;have hs2:s≠2:=QhN;have z4:(p==4)=false:=ZmJ.2 QhN;rw[Cc.run_shift s hs2]at HC;obtain⟨j,hj⟩:∃j,j=i+1:=⟨_,rfl⟩;have hjI:(i:Int)+1=(j:Int):=QhN;rw[<-hj]at HC;by_cases hjn:j=n;(·have zn:((j:Int)==(n:Int))=true:=Znj.2 QhN;have HF:Hid (res=([],22)):=ZmE (by rw[HR.out,HC.out,ZnD QhW];rfl);have hx9:=HX.out;clear hp HC hj hjn;exact Qhu);have zn:((j:Int)==(n:Int))=false:=ZmJ.2 QhN;have hjn2:j<n:=QhN;have hjnI:(j:Int)<(n:Int):=QhN;obtain⟨y,hyj⟩:∃y,vs[j]? =some y:=⟨_,ZmG (by rw[<-HN.out];exact hjn2)⟩;obtain⟨b',o',ha',hbl',hc'⟩:=HV.out.int_at HX.out hyj;injection ha' with ha';injection ha' with h1 h2;subst h1 h2;obtain⟨hy0,hy1⟩:=HB.out y (ZmT hyj);have HD:Hid (vs.drop j=y::vs.drop (j+1)):=ZmE (by obtain⟨h1,h2⟩:=ZmN.1 hyj;rw[Zn3 h1,h2]);rw[HD.out,Cc.run_shifted]at HC;clear hyj HD hjn;by_cases h95y:95<y;(·have HF:Hid (res=([],22)):=ZmE (by rw[HR.out,HC.out,ZmH h95y]);have hx9:=HX.out;clear hp HC hj;exact Qhu);rw[ZmF h95y]at HC;have HCH:=ZmE (fun w=>ZfV y (1-s) w QhN QhN);rw[show(((1-s:Nat):Int)+2)=5-p by omega]at HCH;generalize Cc.chOf y (1-s)=ch at*;have hown:=HO.out;have hsz:=HX.out.size;have hsI:((s:Int)+2)=p:=hp.symm;have hol2:(out++[ch]).length<=2*(j+1):=QgA;have hji:i<j:=QhN;clear hp HO hj;go_wp2_with fail;refine(HCH.out _).mono ?_;rintro e w1 ⟨rfl,rfl⟩;go_wp2_with (at_builtin;refine Zm rfl _ _ rfl w.heap.size _ out rfl (hown.alloc _) _ (ch) rfl ?c1 ?c2 ?c3 ?_);(case c1=>exact QbU);(case c2=>omega);(case c3=>exact Qa3);intro v' w5 hown5 hg5;have HX5:=ZmE ((HX.out.alloc _).ofGrown hg5 hown.low);have HO5:Hid (Own 3 w5 w.heap.size v' ((out++[ch]).map encI)):=ZmE QhT;clear hown hown5 hg5 hsz;go_wp2_with fail;go_roundw;(case rel=>exact⟨j+1,s,_,by omega,by omega,by go_num,by first|rfl|exact Znb (Value.int .i64) hsI.symm|go_num,hol2,HC,HO5,HX5⟩);case measure=>exact Qak);by_cases e99:x=99;(·subst e99;have hs2:s≠2:=QhN;have HC2:Hid (RC=Cc.runC 2 false out (vs.drop (i+1))):=ZmE (by rw[HC.out,Cc.run_step (Cc.step_99 s hs2) _ _,ZnC]);have z4:(p==4)=false:=ZmJ.2 QhN;clear hp HC;go_wp2_with fail;all_goals go_roundw;(case rel=>exact⟨i+1,2,out,by omega,by decide,by go_num,rfl,by omega,HC2,HO,HX⟩);case measure=>exact Qak);by_cases e100:x=100;(·subst e100;by_cases h1:s=1;(·subst h1;obtain rfl:p=3:=hp;have HC2:Hid (RC=Cc.runC 1 false (out++[259]) (vs.drop (i+1))):=ZmE (by rw[HC.out];exact Cc.run_step (Cc.step_100 1) _ _);have hown:=HO.out;have hsz:=HX.out.size;have hol2:(out++[259]).length<=2*(i+1):=QgA;clear HC HO;go_wp2_with (at_builtin;refine Zm rfl _ _ rfl w.heap.size _ out rfl (hown.alloc _) _ (259) rfl ?c1 ?c2 ?c3 ?_);(case c1=>exact QbU);(case c2=>omega);(case c3=>exact Qa3);intro v' w5 hown5 hg5;have HX5:=ZmE ((HX.out.alloc _).ofGrown hg5 hown.low);have HO5:Hid (Own 3 w5 w.heap.size v' ((out++[259]).map encI)):=ZmE QhT;clear hown hown5 hg5 hsz;go_wp2_with fail;go_roundw;(case rel=>exact⟨i+1,1,_,by omega,by omega,by go_num,by first|rfl|exact Znb (Value.int .i64) hsI.symm|go_num,hol2,HC2,HO5,HX5⟩);case measure=>exact Qak);·have HC2:Hid (RC=Cc.runC 1 false out (vs.drop (i+1))):=ZmE (by rw[HC.out,Cc.run_step ((by rw[Cc.step_100,ZmH h1])) _ _,ZnC]);have z3:(p==3)=false:=ZmJ.2 QhN;clear hp HC;go_wp2_with fail;all_goals go_roundw;(case rel=>exact⟨i+1,1,out,by omega,by decide,by go_num,rfl,by omega,HC2,HO,HX⟩);case measure=>exact Qak);obtain rfl:x=101:=QhN;by_cases h1:s=0;(·subst h1;obtain rfl:p=2:=hp;have HC2:Hid (RC=Cc.runC 0 false (out++[259]) (vs.drop (i+1))):=ZmE (by rw[HC.out];exact Cc.run_step (Cc.step_101 0) _ _);have hown:=HO.out;have hsz:=HX.out.size;have hol2:(out++[259]).length<=2*(i+1):=QgA;clear HC HO;go_wp2_with (at_builtin;refine Zm rfl _ _ rfl w.heap.size _ out rfl (hown.alloc _) _ (259) rfl ?c1 ?c2 ?c3 ?_);(case c1=>exact QbU);(case c2=>omega);(case c3=>exact Qa3);intro v' w5 hown5 hg5;have HX5:=ZmE ((HX.out.alloc _).ofGrown hg5 hown.low);have HO5:Hid (Own 3 w5 w.heap.size v' ((out++[259]).map encI)):=ZmE QhT;clear hown hown5 hg5 hsz;go_wp2_with fail;go_roundw;(case rel=>exact⟨i+1,0,_,by omega,by omega,by go_num,by first|rfl|exact Znb (Value.int .i64) hsI.symm|go_num,hol2,HC2,HO5,HX5⟩);case measure=>exact Qak);·have HC2:Hid (RC=Cc.runC 0 false out (vs.drop (i+1))):=ZmE (by rw[HC.out,Cc.run_step ((by rw[Cc.step_101,ZmH h1])) _ _,ZnC]);have z2:(p==2)=false:=ZmJ.2 QhN;clear hp HC;go_wp2_with fail;all_goals go_roundw;(case rel=>exact⟨i+1,0,out,by omega,by decide,by go_num,rfl,by omega,HC2,HO,HX⟩);case measure=>exact Qak);·obtain rfl:i=n:=QhN;have HF:Hid (res=(out,0)):=ZmE (by rw[HR.out,HC.out,ZnD QhU];rfl);have HK:=ZmE HO.out.slk;have hx9:=HX.out;clear hi hlt HC hp;go_wp2_with fail;go_ret2;rw[HF.out];exact Qdh
end
end Go.Proofs.YtbngggoccndefaaGreatDoor
