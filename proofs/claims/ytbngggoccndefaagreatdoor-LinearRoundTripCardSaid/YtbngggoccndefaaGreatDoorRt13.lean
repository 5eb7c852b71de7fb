/-
  Laid.
-/
import Derived.Test.YtbngggoccndefaaGreatDoorRt12
set_option maxHeartbeats 8000000
set_option maxRecDepth 100000
set_option linter.all false
namespace Go.Proofs.YtbngggoccndefaaGreatDoor
open Go.Proofs.Tryz
section
open Go.RowKit
theorem AT (v:Int) (s:Nat) (w:World) (hv: -1000<=v∧v<=1000) (hs:s<=2):
 Calls prog 255 #[.int .i64 v,.int .i64 ((s:Int)+2)] w fun e w'=>e=.returned (.int .i64 (Cc.chOf v s))∧w=w':=by
 obtain⟨res,hres⟩:∃res,res=Cc.chOf v s:=⟨_,rfl⟩
 rw[<-hres]
 unfold Cc.chOf at hres
 obtain⟨p,hp⟩:∃p:Int,p=(s:Int)+2:=⟨_,rfl⟩
 rw[<-hp]
 by_cases h0:s=0
 ·have z0:(p==2)=true:=C2.2 C0;by_cases h6:64<=v;(·rw[G0 ⟨h0,h6⟩]at hres;have HR:=B0 hres;clear hres h0 hp;exact LV);·rw[D0 C0]at hres;have HR:=B0 hres;have h7:v<64:=C0;clear hres h0 hp h6;exact LV
 ·have z0:(p==2)=false:=V0.2 C0;rw[D0 C0]at hres;have HR:=B0 hres;clear hres h0 hp;exact LV
theorem RT (v:Int) (w:World) (hv: -1000<=v∧v<=1000):
 Calls prog 185 #[.int .i64 v] w fun e w'=>e=.returned (.int .i64 (2+v-103))∧w=w':=by
 go_enter func185,ntmps185
 go_wp2
 go_ret
 exact⟨rfl,rfl⟩
def Cc.chkTo (vs:List Int):Nat->Int
 |0=>vs.getD 0 0
 |i+1=>(Cc.chkTo vs i+(i:Int)*vs.getD i 0)%103
theorem Cc.chkGo_to (vs:List Int):∀(r:List Int) (i:Nat) (s:Int),s=Cc.chkTo vs i->r=vs.drop i->i<=vs.length->Cc.chkGo i s r=Cc.chkTo vs vs.length
 | [],i,s,hs,hr,hi=>by have:vs.length=i:=(by have:=R0 List.length hr;exact L7);rw[Cc.chkGo,hs,this]
 |v::r,i,s,hs,hr,hi=>by have hil:i<vs.length:=(by have:=R0 List.length hr;exact L7);rw[G4 hil]at hr;injection hr with h1 h2;rw[Cc.chkGo];refine Cc.chkGo_to vs r (i+1) _ ?_ h2 hil;rw[hs,Cc.chkTo,h1,A1,P0 hil];rfl
theorem Cc.chk_to (vs:List Int):Cc.chk vs=Cc.chkTo vs vs.length:=Cc.chkGo_to vs vs 0 _ rfl rfl (U0 _)
theorem Cc.chkTo_in (vs:List Int) (h:∀v∈vs,0<=v∧v<=106):∀i,0<=Cc.chkTo vs i∧Cc.chkTo vs i<=106
 |0=>by
  rw[Cc.chkTo]
  cases vs with
  |nil=>exact⟨by decide,by decide⟩
  |cons v r=>exact h v (B1 ..)
 |i+1=>by rw[Cc.chkTo];omega
theorem AU (v:Value) (vs:List Int) (w:World) (hv:Sl w v (vs.map encI)) (hl:vs.length<=1000000) (hne:0<vs.length) (hb:∀v∈vs,0<=v∧v<=106):
 Calls prog 187 #[v] w fun e w'=>e=.returned (.int .i64 (Cc.chk vs))∧w=w':=by
 obtain⟨a,c,rfl⟩:=hv.form
 rw[N0]at hv⊢
 obtain⟨n,hn⟩:∃n,n=vs.length:=⟨_,rfl⟩
 rw[<-hn]at hv hl hne⊢
 obtain⟨x0,hx0⟩:∃x,vs[0]? =some x:=⟨_,P0 (by rw[<-hn];exact hne)⟩
 obtain⟨b,o,ha,hbl,hc⟩:=Sl.int_at hv (Ext.refl w) hx0
 subst ha
 rw[G6]at hc
 have hbx:=hb x0 (I1 hx0)
 have HN:=B0 hn
 have HV:=B0 hv
 have HB:=B0 hb
 have HIN:=B0 (Cc.chkTo_in vs hb)
 have HX0:Hid (x0=Cc.chkTo vs 0):=B0 (by rw[Cc.chkTo,A1,hx0];rfl)
 have hnI:(0:Int)<(n:Int):=by omega
 have HR:=B0 (Cc.chk_to vs)
 rw[<-hn]at HR
 generalize Cc.chk vs=res at*
 clear hv hn hx0 hb
 go_enter func187,ntmps187
 go_wp2_with fail
 go_loop [3,11] (fun s i=>∃(j:Nat) (t:Int),j<=n∧i=.int .i64 (j:Int)∧s=.int .i64 t∧0<=t∧t<=106∧Hid (t=Cc.chkTo vs j)) (fun _ i=>n-(intOf i).toNat)
 case atStart=>exact⟨0,x0,U0 _,rfl,rfl,hbx.1,hbx.2,HX0⟩
 case round=>obtain⟨j,t,hj,rfl,rfl,ht0,ht1,HT⟩:=hrel;by_cases hlt:j<n;(·obtain⟨x,hxj⟩:∃x,vs[j]? =some x:=⟨_,P0 U3⟩;obtain⟨b',o',ha,hb',hcj⟩:=HV.out.int_at (Ext.refl w) hxj;injection ha with ha;injection ha with h1 h2;subst h1 h2;have hxb:=HB.out x (I1 hxj);have hjI:(j:Int)<(n:Int):=C0;obtain⟨p,hp⟩:∃p,p=(j:Int)*x:=⟨_,rfl⟩;have hp0:0<=p:=(by rw[hp];exact O8 C0 hxb.1);have hp1:p<=106000000:=(by rw[hp];have h1:(j:Int)*x<=(j:Int)*106:=Int.mul_le_mul_of_nonneg_left hxb.2 C0;omega);have hpe:=hp.symm;obtain⟨t2,ht2⟩:∃t2,t2=(t+p)%103:=⟨_,rfl⟩;have HT2:Hid (t2=Cc.chkTo vs (j+1)):=B0 (by rw[ht2,Cc.chkTo,<-HT.out,hp,A1,hxj];rfl);have hq:=ht2.symm;have hq0:0<=t2:=C0;have hq1:t2<=106:=C0;clear hxj hp ht2;go_wp2;go_round;(case rel=>exact⟨j+1,t2,by omega,by go_num,by first|rfl|(rw[<-hq])|(simp[hq]),hq0,hq1,HT2⟩);case measure=>exact Qr);·obtain rfl:j=n:=C0;have HE:Hid (res=t):=B0 (by rw[HR.out,HT.out]);clear hj hlt;go_wp2;go_ret;exact⟨Z3 HE.out.symm,rfl⟩
theorem dC (v u:Value) (xs ys:List Int) (w:World) (hv:Sl w v (xs.map encI)) (hu:Sl w u (ys.map encI)) (hl:xs.length<=1000000) (hl2:ys.length<=1000000):
 Calls prog 140 #[v,u] w fun e w'=>e=.returned (.bool (decide (xs=ys)))∧∃n,w'=w.drewN n:=by
 obtain⟨a,c,rfl⟩:=hv.form
 obtain⟨a2,c2,rfl⟩:=hu.form
 simp only[N0]at hv hu⊢
 obtain⟨n,hn⟩:∃n,n=xs.length:=⟨_,rfl⟩
 obtain⟨m,hm⟩:∃m,m=ys.length:=⟨_,rfl⟩
 rw[<-hn]at hv hl⊢
 rw[<-hm]at hu hl2⊢
 have HN:=B0 hn
 have HM:=B0 hm
 have HV:=B0 hv
 have HU:=B0 hu
 obtain⟨res,hres⟩:∃res,res=decide (xs=ys):=⟨_,rfl⟩
 rw[<-hres]
 have HR:=B0 hres
 clear hv hu hn hm hres
 by_cases hnm:n=m
 ·subst hnm;go_enter func140,ntmps140;go_wp2;go_loopw [13] (fun i wr=>∃j:Nat,j<=n∧i=.int .i64 (j:Int)∧Hid (xs.take j=ys.take j)∧Hid (∃q,wr=w.drewN q)) (fun i _=>n-(intOf i).toNat);(case atStart=>exact⟨0,U0 _,rfl,B0 rfl,B0 ⟨0,rfl⟩⟩);case round=>obtain⟨j,hj,rfl,HT,HQ⟩:=hrel;have hxw:Ext w wr:=(by obtain⟨q,h⟩:=HQ.out;rw[h];exact(Ext.refl _).drewN _);have HQ2:Hid (∀k,∃q,wr.drewN k=w.drewN q):=B0 (fun k=>by obtain⟨q,h⟩:=HQ.out;exact⟨q+k,by rw[h,World.drewN_drewN]⟩);by_cases hlt:j<n;(·obtain⟨x,hxj⟩:∃x,xs[j]? =some x:=⟨_,P0 U3⟩;obtain⟨y,hyj⟩:∃y,ys[j]? =some y:=⟨_,P0 (by rw[<-HM.out];exact hlt)⟩;obtain⟨b,o,ha,hb,hc⟩:=HV.out.int_at hxw hxj;subst ha;obtain⟨b2,o2,ha2,hb2,hc2⟩:=HU.out.int_at hxw hyj;subst ha2;have hjI:(j:Int)<(n:Int):=C0;by_cases hxy:x=y;(·subst hxy;have HT2:Hid (xs.take (j+1)=ys.take (j+1)):=B0 (by rw[Z2 hxj,Z2 hyj,HT.out]);clear hxj hyj HT;go_wp2_with fail;go_quiet (fail);go_wp2_with fail;go_roundw;(case rel=>exact⟨j+1,by omega,by go_num,HT2,B0 (HQ2.out nq)⟩);case measure=>exact Qr);·have zx:(x==y)=false:=V0.2 hxy;have HF:Hid (res=false):=B0 (by rw[HR.out];refine D1 fun e=>hxy ?_;rw[e,hyj]at hxj;exact(LL hxj).symm);clear hxj hyj HT hxy;go_wp2_with fail;go_quiet (fail);go_wp2_with fail;go_ret;exact⟨Zm HF.out.symm,HQ2.out nq⟩);·obtain rfl:j=n:=C0;have HF:Hid (res=true):=B0 (by have h:=HT.out;rw[P1 D8,P1 (by rw[<-HM.out];exact I0 _)]at h;rw[HR.out];exact F1 h);clear hj hlt HT;go_wp2_with fail;go_ret;exact⟨Zm HF.out.symm,HQ.out⟩
 ·have zn:((n:Int)==(m:Int))=false:=V0.2 C0;have HF:Hid (res=false):=B0 (by rw[HR.out];refine D1 fun e=>hnm ?_;rw[HN.out,HM.out,e]);clear hnm;go_enter func140,ntmps140;go_wp2;go_ret;exact⟨Zm HF.out.symm,0,rfl⟩
theorem Rn.gcd_snoc {ws:List Int} {j:Nat} {x:Nat} (h:ws[j]? =some (x:Int)) (hx:1<=x) (g:Nat):Rn.gcdGo g (ws.drop j)=Rn.gcdGo (Nat.gcd g x) (ws.drop (j+1)):=by obtain⟨h1,h2⟩:=J1.1 h;rw[G4 h1,h2,Rn.gcdGo,D0 C0];rfl
theorem dD (v:Value) (ws:List Int) (w:World) (hv:Sl w v (ws.map encI)) (hl:ws.length<=1000000) (hw:∀x∈ws,1<=x∧x<=65536):
 Calls prog 153 #[v] w fun e w'=>e=.returned (.int .i64 (Rn.unit ws))∧Ext w w':=by
 obtain⟨a,c,rfl⟩:=hv.form
 rw[N0]at hv⊢
 obtain⟨n,hn⟩:∃n,n=ws.length:=⟨_,rfl⟩
 rw[<-hn]at hv hl⊢
 have HN:=B0 hn
 have HV:=B0 hv
 have HW:=B0 hw
 have HR:Hid (Rn.unit ws=Rn.gcdGo 0 (ws.drop 0)):=B0 rfl
 generalize Rn.unit ws=res at*
 clear hv hn hw
 go_enter func153,ntmps153
 go_wp2
 go_loopw [3,8] (fun u i wr=>∃(j g:Nat),j<=n∧i=.int .i64 (j:Int)∧u=.int .i64 (g:Int)∧g<=65536∧Hid (res=Rn.gcdGo g (ws.drop j))∧Hid (Ext w wr)) (fun _ i _=>n-(intOf i).toNat)
 case atStart=>exact⟨0,0,U0 _,rfl,rfl,by omega,HR,B0 (Ext.refl _)⟩
 case round=>obtain⟨j,g,hj,rfl,rfl,hg,HG,HX⟩:=hrel;by_cases hlt:j<n;(·obtain⟨x,hxj⟩:∃x,ws[j]? =some x:=⟨_,P0 U3⟩;have hx:=HW.out x (I1 hxj);obtain⟨m,rfl⟩:∃m:Nat,x=(m:Int):=⟨x.toNat,by omega⟩;obtain⟨b,o,ha,hb,hc⟩:=HV.out.int_at HX.out hxj;subst ha;have hjI:(j:Int)<(n:Int):=C0;have hm1:1<=m:=C0;have hm2:m<=65536:=C0;have HG2:=B0 (HG.out.trans (Rn.gcd_snoc hxj hm1 g));obtain⟨G,hG⟩:∃G,G=Nat.gcd g m:=⟨_,rfl⟩;have hG9:G<=65536:=(by rw[hG];exact L3 (Nat.gcd_le_right g C0) hm2);rw[<-hG]at HG2;have HGG:=B0 hG;have hmI:¬(m:Int)<1:=C0;clear hxj hx hG;obtain⟨W0,hW0⟩:∃W0,W0=wr:=⟨_,rfl⟩;subst hW0;go_wp2_with fail;go_loopw [3,5] (fun u y wq=>∃(p q:Nat),u=.int .i64 (p:Int)∧y=.int .i64 (q:Int)∧p<=65536∧q<=65536∧Hid (Nat.gcd p q=G)∧Hid (Ext w wq)) (fun _ y _=>(intOf y).toNat);(case atStart=>exact⟨g,m,rfl,rfl,hg,hm2,B0 HGG.out.symm,HX⟩);case round=>clear HX;obtain⟨p,q,rfl,rfl,hp,hq,HPQ,HX⟩:=hrel;by_cases hq0:0<q;(·have hqI:(0:Int)<(q:Int):=C0;have hqb:decide (0<q)=true:=F1 hq0;have hqn:(q:Int)≠0:=C0;have hqz:((q:Int)==0)=false:=V0.2 hqn;obtain⟨r,hr⟩:∃r,r=p%q:=⟨_,rfl⟩;have hrI:(p:Int)%(q:Int)=(r:Int):=(by rw[hr];rfl);have hrT:Int.tmod (p:Int) (q:Int)=(r:Int):=(by rw[hr];rfl);have hrq:r<q:=(by rw[hr];exact UN _ hq0);have HPQ2:Hid (Nat.gcd q r=G):=B0 (by rw[<-HPQ.out,hr,Nat.gcd_comm p q,Nat.gcd_rec q p,Nat.gcd_comm]);clear hr;go_wp2_with fail;go_quiet (fail);go_wp2_with fail;go_roundw;(case rel=>exact⟨q,r,rfl,rfl,by omega,by omega,HPQ2,B0 (HX.out.drewN _)⟩);case measure=>exact Qr);·obtain rfl:q=0:=C0;have HPG:Hid (p=G):=B0 (by have h:=HPQ.out;rwa[Nat.gcd_zero_right]at h);clear hq0;go_wp2_with fail;go_roundw;(case rel=>exact⟨j+1,G,by omega,by go_num,by rw[HPG.out],hG9,HG2,HX⟩);case measure=>exact Qr);·obtain rfl:j=n:=C0;have HF:Hid (res=(g:Int)):=B0 (by have h:=HG.out;rw[J5 D8]at h;exact h);have hx9:=HX.out;clear hlt hj;go_wp2_with fail;go_ret;exact⟨Z3 HF.out.symm,hx9⟩
def V4 (r:List Int×Int) (w:World) (e:Ending) (w':World):Prop:=∃u,e=.returned (.tuple #[u,.int .i64 r.2])∧SlK w' u (r.1.map encI)∧Ext w w'
theorem V4.bad (c:Int) (w w':World) (h:Ext w w'):V4 ([],c) w (.returned (.tuple #[.slice none 0 0,.int .i64 c])) w':=
 ⟨_,rfl,⟨.inl ⟨rfl,_,_,rfl⟩,none,0,rfl,I0 _⟩,h⟩
theorem Cc.run_step {s s':Nat} {v:Int} {o:List Int} (h:Cc.stepC s false v=some (s',false,o)) (out r:List Int):Cc.runC s false out (v::r)=Cc.runC s' false (out++o) r:=by rw[Cc.runC,h]
theorem Cc.run_none {s:Nat} {v:Int} (h:102<v) (out r:List Int):Cc.runC s false out (v::r)=none:=by rw[Cc.runC,Cc.stepC,D0 J0,G0 h]
theorem Cc.run_shift (s:Nat) (hs:s≠2) (out r:List Int):Cc.runC s false out (98::r)=Cc.runC s true out r:=by rw[Cc.runC,Cc.stepC,D0 J0,D0 J0,D0 J0,D0 C0,D0 J0,D0 J0,D0 J0,G0 rfl];dsimp only;rw[B3]
theorem Cc.run_shifted (s:Nat) (v:Int) (out r:List Int):Cc.runC s true out (v::r)=if 95<v then none else Cc.runC s false (out++[Cc.chOf v (1-s)]) r:=by
 rw[Cc.runC,Cc.stepC,G0 rfl];by_cases h:95<v;·rw[G0 h,G0 h]
 ·rw[D0 h,D0 h]
theorem Cc.step_fnc1 (s:Nat):Cc.stepC s false 102=some (s,false,[256]):=by rw[Cc.stepC,D0 J0,D0 J0,G0 rfl]
theorem Cc.step_dig (v:Int) (h:v<=99):Cc.stepC 2 false v=some (2,false,[48+v/10,48+v%10]):=by rw[Cc.stepC,D0 J0,D0 C0,D0 C0,G0 ⟨rfl,h⟩]
theorem Cc.step_ch (s:Nat) (hs:s≠2) (v:Int) (h:v<=95):Cc.stepC s false v=some (s,false,[Cc.chOf v s]):=by rw[Cc.stepC,D0 J0,D0 C0,D0 C0,D0 C0,G0 h]
theorem Cc.step_96 (s:Nat) (hs:s≠2):Cc.stepC s false 96=some (s,false,[258]):=by rw[Cc.stepC,D0 J0,D0 C0,D0 C0,D0 C0,D0 J0,G0 rfl]
theorem Cc.step_97 (s:Nat) (hs:s≠2):Cc.stepC s false 97=some (s,false,[257]):=by rw[Cc.stepC,D0 J0,D0 C0,D0 C0,D0 C0,D0 J0,D0 J0,G0 rfl]
theorem Cc.step_99 (s:Nat) (hs:s≠2):Cc.stepC s false 99=some (2,false,[]):=by rw[Cc.stepC,D0 J0,D0 C0,D0 C0,D0 C0,D0 J0,D0 J0,D0 J0,D0 J0,G0 rfl]
theorem Cc.step_100 (s:Nat):Cc.stepC s false 100=some (if s≠1 then(1,false,[])else(s,false,[259])):=by
 rw[Cc.stepC,D0 J0,D0 C0,D0 C0,D0 C0,D0 J0,D0 J0,D0 J0,D0 J0,D0 J0];by_cases h:s≠1;·rw[G0 ⟨rfl,h⟩,G0 h]
 ·rw[D0 (fun x=>h x.2),D0 C0,D0 h]
theorem Cc.step_101 (s:Nat):Cc.stepC s false 101=some (if s≠0 then(0,false,[])else(s,false,[259])):=by
 rw[Cc.stepC,D0 J0,D0 C0,D0 C0,D0 C0,D0 J0,D0 J0,D0 J0,D0 J0,D0 J0,D0 C0];by_cases h:s≠0;·rw[G0 ⟨rfl,h⟩,G0 h]
 ·rw[D0 (fun x=>h x.2),D0 h]
theorem AV {w:World} {ops:Array Oper} {rest:List Oper} {o:Oper} {a:Act} {Q:Exit->Act->World->Prop} (hgd:o.guard=none) (s x:Operand)
 (ho:o.op=.call {callee:=.builtin .append,args:= #[s,x],argTypes:= #[43,43]})
 (B:Nat) (v:Value) (l:List Int) (hs:a.eval s=v) (hown:Own 3 w B v (l.map encI)) (b:Nat) (u1 u2:Int) (hx:a.eval x=.slice (some ⟨b,0,none⟩) 2 2)
 (hc1:w.cell? ⟨b,0,none⟩=some (encI u1)) (hc2:w.cell? ⟨b,1,none⟩=some (encI u2)) (hn:l.length<=999999990) (hB:B<=w.heap.size)
 (h:∀v' w',Own 3 w' B v' ((l++[u1,u2]).map encI)->w.grownBy w' v.ownBlock->wpList prog ops Q rest (a.put o.dst v') w'):wpList prog ops Q (o::rest) a w:=
 ZW hgd s x 43 3 (.int .i64 0) 8 ho underlying43 XI rfl J0 B v _ hs hown b 0 2 2 [encI u1,encI u2] hx rfl
  (fun j u hu=>by
   match j,hu with
   |0,hu=>simp at hu;subst hu;exact hc1
   |1,hu=>simp at hu;subst hu;exact hc2) (fun u hu=>by simp at hu;rcases hu with rfl|rfl<;>rfl) D5 hB
  (fun v' w' h1 h2=>h v' w' XH h2)
theorem dE (v:Value) (vs:List Int) (s0:Nat) (w:World) (hv:Sl w v (vs.map encI)) (hl:vs.length<=400000) (hs0:s0<=2) (hb:∀v∈vs,0<=v∧v<=106):
 Calls prog 216 #[v,.int .i64 ((s0:Int)+2)] w (V4 (match Cc.runC s0 false [] vs with|none=>([],22)|some o=>(o,0)) w):=by
 obtain⟨a,c,rfl⟩:=hv.form
 rw[N0]at hv⊢
 obtain⟨n,hn⟩:∃n,n=vs.length:=⟨_,rfl⟩
 rw[<-hn]at hv hl⊢
 obtain⟨p0,hp0⟩:∃p:Int,p=(s0:Int)+2:=⟨_,rfl⟩
 rw[<-hp0]
 have HN:=B0 hn
 have HV:=B0 hv
 have HB:=B0 hb
 obtain⟨RC,hRC⟩:∃RC,RC=Cc.runC s0 false [] vs:=⟨_,rfl⟩
 rw[<-hRC]
 have H0:Hid (RC=Cc.runC s0 false [] (vs.drop 0)):=B0 hRC
 obtain⟨res,hres⟩:∃res,res=(match RC with|none=>([],22)|some o=>(o,(0:Int))):=⟨_,rfl⟩
 rw[<-hres]
 have HR:=B0 hres
 clear hv hn hb hRC hres
 go_enter func216,ntmps216
 go_wp2_with fail
 go_loopw [1,6,7] (fun pv u t wr=>∃(i s:Nat) (out:List Int),i<=n∧s<=2∧t=.int .i64 (i:Int)∧pv=.int .i64 ((s:Int)+2)∧out.length<=2*i∧Hid (RC=Cc.runC s false out (vs.drop i))∧Hid (Own 3 wr w.heap.size u (out.map encI))∧Hid (Ext w wr)) (fun _ _ t _=>n-(intOf t).toNat)
 case atStart=>exact⟨0,s0,[],U0 _,hs0,rfl,by rw[hp0],U0 _,H0,B0 (Own.nil _ _ _),B0 (Ext.refl _)⟩
 case round=>clear hp0 hs0 H0;obtain⟨i,s,out,hi,hs,rfl,rfl,hol,HC,HO,HX⟩:=hrel;obtain⟨p,hp⟩:∃p:Int,p=(s:Int)+2:=⟨_,rfl⟩;rw[<-hp];by_cases hlt:i<n;(·have hiI:(i:Int)<(n:Int):=C0;obtain⟨x,hxi⟩:∃x,vs[i]? =some x:=⟨_,P0 U3⟩;obtain⟨b,o,ha,hbl,hc⟩:=HV.out.int_at HX.out hxi;subst ha;obtain⟨hx0,hx1⟩:=HB.out x (I1 hxi);have HD:Hid (vs.drop i=x::vs.drop (i+1)):=B0 (by obtain⟨h1,h2⟩:=J1.1 hxi;rw[G4 h1,h2]);rw[HD.out]at HC;clear hxi HD;have hlp:3<=7:=J0;by_cases h102:102<x;(·have HF:Hid (res=([],22)):=B0 (by rw[HR.out,HC.out,Cc.run_none h102]);have hx9:=HX.out;clear hp HC;exact LW);have hle102:x<=102:=C0;by_cases he102:x=102;(·subst he102;have HC2:Hid (RC=Cc.runC s false (out++[256]) (vs.drop (i+1))):=B0 (by rw[HC.out];exact Cc.run_step (Cc.step_fnc1 s) _ _);have hown:=HO.out;have hsz:=HX.out.size;have hsI:((s:Int)+2)=p:=hp.symm;have hol2:(out++[256]).length<=2*(i+1):=J9;clear hp HC HO;go_wp2_with (at_builtin;refine Z1 rfl _ _ rfl w.heap.size _ out rfl (hown.alloc _) _ (256) rfl ?c1 ?c2 ?c3 ?_);(case c1=>exact V3);(case c2=>omega);(case c3=>exact W4);intro v' w5 hown5 hg5;have HX5:=B0 ((HX.out.alloc _).ofGrown hg5 hown.low);have HO5:Hid (Own 3 w5 w.heap.size v' ((out++[256]).map encI)):=B0 Y6;exact QA);have z102:(x==102)=false:=V0.2 he102;by_cases hdg:s=2∧x<=99;(·obtain⟨rfl,h99⟩:=hdg;obtain rfl:p=4:=hp;have HC2:Hid (RC=Cc.runC 2 false (out++[48+x/10,48+x%10]) (vs.drop (i+1))):=B0 (by rw[HC.out];exact Cc.run_step (Cc.step_dig x h99) _ _);have hown:=HO.out;have hsz:=HX.out.size;have hol2:(out++[48+x/10,48+x%10]).length<=2*(i+1):=J9;clear HC HO;go_wp2_with (at_builtin;refine AV rfl _ _ rfl w.heap.size _ out rfl (hown.alloc _) _ (48+x/10) (48+x%10) rfl ?c1 ?c4 ?c2 ?c3 ?_);(case c1=>exact V3);(case c4=>exact V3);(case c2=>omega);(case c3=>exact W4);intro v' w5 hown5 hg5;have HX5:=B0 ((HX.out.alloc _).ofGrown hg5 hown.low);have HO5:Hid (Own 3 w5 w.heap.size v' ((out++[48+x/10,48+x%10]).map encI)):=B0 Y6;clear hown hown5 hg5 hsz;go_wp2_with fail;go_roundw;(case rel=>exact⟨i+1,2,_,by omega,by omega,by go_num,by first|rfl|exact R0 (Value.int .i64) hsI.symm|go_num,hol2,HC2,HO5,HX5⟩);case measure=>exact Qr);by_cases h95:x<=95;(·have hs2:s≠2:=C0;have HC2:Hid (RC=Cc.runC s false (out++[Cc.chOf x s]) (vs.drop (i+1))):=B0 (by rw[HC.out];exact Cc.run_step (Cc.step_ch s hs2 x h95) _ _);have z4:(p==4)=false:=V0.2 C0;have HCH:=B0 (fun w=>AT x s w C0 hs);rw[<-hp]at HCH;have hown:=HO.out;have hsz:=HX.out.size;have hsI:((s:Int)+2)=p:=hp.symm;have hol2:(out++[Cc.chOf x s]).length<=2*(i+1):=J9;clear hp HC HO;generalize Cc.chOf x s=ch at*;go_wp2_with fail;refine(HCH.out _).mono ?_;rintro e w1 ⟨rfl,rfl⟩;go_wp2_with (at_builtin;refine Z1 rfl _ _ rfl w.heap.size _ out rfl (hown.alloc _) _ (ch) rfl ?c1 ?c2 ?c3 ?_);(case c1=>exact V3);(case c2=>omega);(case c3=>exact W4);intro v' w5 hown5 hg5;have HX5:=B0 ((HX.out.alloc _).ofGrown hg5 hown.low);have HO5:Hid (Own 3 w5 w.heap.size v' ((out++[ch]).map encI)):=B0 Y6;exact QA);have h96:95<x:=C0;by_cases e96:x=96;(·subst e96;have hs2:s≠2:=C0;have HC2:Hid (RC=Cc.runC s false (out++[258]) (vs.drop (i+1))):=B0 (by rw[HC.out];exact Cc.run_step (Cc.step_96 s hs2) _ _);have z4:(p==4)=false:=V0.2 C0;have hown:=HO.out;have hsz:=HX.out.size;have hsI:((s:Int)+2)=p:=hp.symm;have hol2:(out++[258]).length<=2*(i+1):=J9;clear hp HC HO;go_wp2_with (at_builtin;refine Z1 rfl _ _ rfl w.heap.size _ out rfl (hown.alloc _) _ (258) rfl ?c1 ?c2 ?c3 ?_);(case c1=>exact V3);(case c2=>omega);(case c3=>exact W4);intro v' w5 hown5 hg5;have HX5:=B0 ((HX.out.alloc _).ofGrown hg5 hown.low);have HO5:Hid (Own 3 w5 w.heap.size v' ((out++[258]).map encI)):=B0 Y6;exact QA);by_cases e97:x=97;(·subst e97;have hs2:s≠2:=C0;have HC2:Hid (RC=Cc.runC s false (out++[257]) (vs.drop (i+1))):=B0 (by rw[HC.out];exact Cc.run_step (Cc.step_97 s hs2) _ _);have z4:(p==4)=false:=V0.2 C0;have hown:=HO.out;have hsz:=HX.out.size;have hsI:((s:Int)+2)=p:=hp.symm;have hol2:(out++[257]).length<=2*(i+1):=J9;clear hp HC HO;go_wp2_with (at_builtin;refine Z1 rfl _ _ rfl w.heap.size _ out rfl (hown.alloc _) _ (257) rfl ?c1 ?c2 ?c3 ?_);(case c1=>exact V3);(case c2=>omega);(case c3=>exact W4);intro v' w5 hown5 hg5;have HX5:=B0 ((HX.out.alloc _).ofGrown hg5 hown.low);have HO5:Hid (Own 3 w5 w.heap.size v' ((out++[257]).map encI)):=B0 Y6;exact QA);by_cases e98:x=98;(·subst e98;have hs2:s≠2:=C0;have z4:(p==4)=false:=V0.2 C0;rw[Cc.run_shift s hs2]at HC;obtain⟨j,hj⟩:∃j,j=i+1:=⟨_,rfl⟩;have hjI:(i:Int)+1=(j:Int):=C0;rw[<-hj]at HC;by_cases hjn:j=n;(·have zn:((j:Int)==(n:Int))=true:=C2.2 C0;have HF:Hid (res=([],22)):=B0 (by rw[HR.out,HC.out,J5 R7];rfl);have hx9:=HX.out;clear hp HC hj hjn;exact LW);have zn:((j:Int)==(n:Int))=false:=V0.2 C0;have hjn2:j<n:=C0;have hjnI:(j:Int)<(n:Int):=C0;obtain⟨y,hyj⟩:∃y,vs[j]? =some y:=⟨_,P0 (by rw[<-HN.out];exact hjn2)⟩;obtain⟨b',o',ha',hbl',hc'⟩:=HV.out.int_at HX.out hyj;injection ha' with ha';injection ha' with h1 h2;subst h1 h2;obtain⟨hy0,hy1⟩:=HB.out y (I1 hyj);have HD:Hid (vs.drop j=y::vs.drop (j+1)):=B0 (by obtain⟨h1,h2⟩:=J1.1 hyj;rw[G4 h1,h2]);rw[HD.out,Cc.run_shifted]at HC;clear hyj HD hjn;by_cases h95y:95<y;(·have HF:Hid (res=([],22)):=B0 (by rw[HR.out,HC.out,G0 h95y]);have hx9:=HX.out;clear hp HC hj;exact LW);rw[D0 h95y]at HC;have HCH:=B0 (fun w=>AT y (1-s) w C0 C0);rw[show(((1-s:Nat):Int)+2)=5-p by omega]at HCH;generalize Cc.chOf y (1-s)=ch at*;have hown:=HO.out;have hsz:=HX.out.size;have hsI:((s:Int)+2)=p:=hp.symm;have hol2:(out++[ch]).length<=2*(j+1):=J9;have hji:i<j:=C0;clear hp HO hj;go_wp2_with fail;refine(HCH.out _).mono ?_;rintro e w1 ⟨rfl,rfl⟩;go_wp2_with (at_builtin;refine Z1 rfl _ _ rfl w.heap.size _ out rfl (hown.alloc _) _ (ch) rfl ?c1 ?c2 ?c3 ?_);(case c1=>exact V3);(case c2=>omega);(case c3=>exact W4);intro v' w5 hown5 hg5;have HX5:=B0 ((HX.out.alloc _).ofGrown hg5 hown.low);have HO5:Hid (Own 3 w5 w.heap.size v' ((out++[ch]).map encI)):=B0 Y6;clear hown hown5 hg5 hsz;go_wp2_with fail;go_roundw;(case rel=>exact⟨j+1,s,_,by omega,by omega,by go_num,by first|rfl|exact R0 (Value.int .i64) hsI.symm|go_num,hol2,HC,HO5,HX5⟩);case measure=>exact Qr);by_cases e99:x=99;(·subst e99;have hs2:s≠2:=C0;have HC2:Hid (RC=Cc.runC 2 false out (vs.drop (i+1))):=B0 (by rw[HC.out,Cc.run_step (Cc.step_99 s hs2) _ _,B3]);have z4:(p==4)=false:=V0.2 C0;clear hp HC;go_wp2_with fail;all_goals go_roundw;(case rel=>exact⟨i+1,2,out,by omega,by decide,by go_num,rfl,by omega,HC2,HO,HX⟩);case measure=>exact Qr);by_cases e100:x=100;(·subst e100;by_cases h1:s=1;(·subst h1;obtain rfl:p=3:=hp;have HC2:Hid (RC=Cc.runC 1 false (out++[259]) (vs.drop (i+1))):=B0 (by rw[HC.out];exact Cc.run_step (Cc.step_100 1) _ _);have hown:=HO.out;have hsz:=HX.out.size;have hol2:(out++[259]).length<=2*(i+1):=J9;clear HC HO;go_wp2_with (at_builtin;refine Z1 rfl _ _ rfl w.heap.size _ out rfl (hown.alloc _) _ (259) rfl ?c1 ?c2 ?c3 ?_);(case c1=>exact V3);(case c2=>omega);(case c3=>exact W4);intro v' w5 hown5 hg5;have HX5:=B0 ((HX.out.alloc _).ofGrown hg5 hown.low);have HO5:Hid (Own 3 w5 w.heap.size v' ((out++[259]).map encI)):=B0 Y6;clear hown hown5 hg5 hsz;go_wp2_with fail;go_roundw;(case rel=>exact⟨i+1,1,_,by omega,by omega,by go_num,by first|rfl|exact R0 (Value.int .i64) hsI.symm|go_num,hol2,HC2,HO5,HX5⟩);case measure=>exact Qr);·have HC2:Hid (RC=Cc.runC 1 false out (vs.drop (i+1))):=B0 (by rw[HC.out,Cc.run_step ((by rw[Cc.step_100,G0 h1])) _ _,B3]);have z3:(p==3)=false:=V0.2 C0;clear hp HC;go_wp2_with fail;all_goals go_roundw;(case rel=>exact⟨i+1,1,out,by omega,by decide,by go_num,rfl,by omega,HC2,HO,HX⟩);case measure=>exact Qr);obtain rfl:x=101:=C0;by_cases h1:s=0;(·subst h1;obtain rfl:p=2:=hp;have HC2:Hid (RC=Cc.runC 0 false (out++[259]) (vs.drop (i+1))):=B0 (by rw[HC.out];exact Cc.run_step (Cc.step_101 0) _ _);have hown:=HO.out;have hsz:=HX.out.size;have hol2:(out++[259]).length<=2*(i+1):=J9;clear HC HO;go_wp2_with (at_builtin;refine Z1 rfl _ _ rfl w.heap.size _ out rfl (hown.alloc _) _ (259) rfl ?c1 ?c2 ?c3 ?_);(case c1=>exact V3);(case c2=>omega);(case c3=>exact W4);intro v' w5 hown5 hg5;have HX5:=B0 ((HX.out.alloc _).ofGrown hg5 hown.low);have HO5:Hid (Own 3 w5 w.heap.size v' ((out++[259]).map encI)):=B0 Y6;clear hown hown5 hg5 hsz;go_wp2_with fail;go_roundw;(case rel=>exact⟨i+1,0,_,by omega,by omega,by go_num,by first|rfl|exact R0 (Value.int .i64) hsI.symm|go_num,hol2,HC2,HO5,HX5⟩);case measure=>exact Qr);·have HC2:Hid (RC=Cc.runC 0 false out (vs.drop (i+1))):=B0 (by rw[HC.out,Cc.run_step ((by rw[Cc.step_101,G0 h1])) _ _,B3]);have z2:(p==2)=false:=V0.2 C0;clear hp HC;go_wp2_with fail;all_goals go_roundw;(case rel=>exact⟨i+1,0,out,by omega,by decide,by go_num,rfl,by omega,HC2,HO,HX⟩);case measure=>exact Qr);·obtain rfl:i=n:=C0;have HF:Hid (res=(out,0)):=B0 (by rw[HR.out,HC.out,J5 D8];rfl);have HK:=B0 HO.out.slk;have hx9:=HX.out;clear hi hlt HC hp;go_wp2_with fail;go_ret2;rw[HF.out];exact⟨_,rfl,HK.out,hx9⟩
end
end Go.Proofs.YtbngggoccndefaaGreatDoor
