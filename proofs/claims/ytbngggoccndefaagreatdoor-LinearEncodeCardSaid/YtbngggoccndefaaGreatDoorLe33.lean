/-
  Laid.
-/
import Derived.Test.YtbngggoccndefaaGreatDoorLe32
set_option maxHeartbeats 8000000
set_option maxRecDepth 100000
set_option linter.all false
namespace Go.Proofs.Enc
open Go.Proofs.Tryz
section
open Go.RowKit
def ZnE(r:List Int×Int)(w:World)(e:Ending)(w':World):Prop:=∃u,e=.returned (.tuple #[u,.int .i64 r.2])/\Own 3 w' w.heap.size u (r.1.map encI)/\Ext w w'
def ZgG(v:Nat)(w:World)(hv:v<=106):
 Calls prog 132 #[.int .i64 (v:Int)] w (ZnE (Cc.widOf v,0) w):=by
 obtain⟨lo,Df⟩:∃lo,lo=v*6:=⟨_,rfl⟩;obtain⟨hi,Vw⟩:∃hi,hi=(v+1)*6:=⟨_,rfl⟩;obtain⟨res,j7⟩:∃res,res=Cc.widOf v:=⟨_,rfl⟩;rw[<-j7];have Jw:¬(v:Int)<0:=by omega
 have aJN:¬106<(v:Int):=by omega
 by_cases h6:v=106
 .subst h6;obtain⟨ws,Dv⟩:∃ws,ws=Cc.Wr:=⟨_,rfl⟩;have Ak:Hid (res=ws):=B0 (by rw[j7,Dv];rfl);have Gk:ws.length=7:=(by rw[Dv];rfl);have Jn:∀x∈ws,0<=x/\x<=9:=(by rw[Dv];decide);have aCA:Hid ((⟨#[50,51,51,49,49,49,50]⟩:ByteArray).data.toList=ws.map Cc.Tv):=B0 (by rw[Dv];rfl);clear Df Vw j7 Dv;go_enter func132,ntmps132;go_wp2_with fail;generalize hX:(⟨#[50,51,51,49,49,49,50]⟩:ByteArray)=X at*;have Pd:X.data.toList=ws.map Cc.Tv:=(by rw[<-hX];exact aCA.out);clear hX;have Ma:=B0 Pd;have Vo:X.size=7:=LN;have Ly:=B0 Gk;have Pz:=B0 Jn;clear Pd Gk Jn;go_loopw [5,6] (λu t wr=>∃i:Nat,i<=7/\t=.int .i64 (i:Int)/\Hid (Own 3 wr w.heap.size u ((ws.take i).map encI))/\Hid (Ext w wr)) (λ_ t _=>7-(intOf t).toNat);(case atStart=>exact MB);case round=>obtain⟨i,hi,rfl,HO,HX⟩:=hrel;by_cases hlt:i<7;(·have Kl:(i:Int)<7:=C0;exact QG);·obtain rfl:i=7:=C0;exact iY
 .have aJM:(v:Int)<106:=C0;have aGM:6*(v:Int)=(lo:Int):=C0;have aFw:(lo:Int)+6=(hi:Int):=C0;have Vy:lo<=hi:=C0;have hh9:hi<=636:=C0;have aGJ:(lo:Int)<=(hi:Int):=C0;have aFt:(hi:Int)<=636:=C0;have hd6:hi-lo=6:=C0;obtain⟨ws,Dv⟩:∃ws,ws=Cc.Gu.getD v []:=⟨_,rfl⟩;have Ak:Hid (res=ws):=B0 (by rw[j7,Dv,Cc.widOf,D0 h6]);obtain⟨Gk,Jn⟩:=Cc.pat_in v C0;rw[<-Dv]at Gk Jn;have Ts:Hid ((Cc.Ao.drop lo).take (hi-lo)=ws.map Cc.Tv):=B0 (by rw[hd6,Df,Dv];exact Cc.pat_at v C0);clear Df Vw h6 j7 Dv;go_enter func132,ntmps132;go_wp2_with fail;generalize hX:(_:ByteArray).extract lo hi=X at*;have Pd:X.data.toList=ws.map Cc.Tv:=bE;clear hX;have Ma:=B0 Pd;have Vo:X.size=6:=LN;have Ly:=B0 Gk;have Pz:=B0 Jn;clear Pd Gk Jn;go_loopw [5,6] (λu t wr=>∃i:Nat,i<=6/\t=.int .i64 (i:Int)/\Hid (Own 3 wr w.heap.size u ((ws.take i).map encI))/\Hid (Ext w wr)) (λ_ t _=>6-(intOf t).toNat);(case atStart=>exact MB);case round=>obtain⟨i,hi,rfl,HO,HX⟩:=hrel;by_cases hlt:i<6;(·have Kl:(i:Int)<6:=C0;exact QG);·obtain rfl:i=6:=C0;exact iY
abbrev Cd:=(Option Addr×Nat×Nat)×Int
def cdV(x:Cd):Value:=.slice x.1.1 x.1.2.1 x.1.2.2
def cdC(xs:List Cd):List Value:=xs.flatMap λx=>[cdV x,.int .i64 x.2]
def ZkQ(xs:List Cd)(x:Cd):cdC (xs++[x])=cdC xs++[cdV x,.int .i64 x.2]:=by simp[cdC]
def ZnL(xs:List Cd):∀(i:Nat)(x:Cd),xs[i]? =some x->(cdC xs)[i*2]? =some (cdV x)/\(cdC xs)[i*2+1]? =some (.int .i64 x.2):=by
 induction xs with
 |nil=>intro i x h;simp at h
 |cons y ys ih=>
  intro i x h
  cases i with
  |zero=>simp only[List.getElem?_cons_zero,P2]at h;subst h;exact⟨rfl,rfl⟩
  |succ i=>rw[List.getElem?_cons_succ]at h;have:=ih i x h;have e1:(i+1)*2=i*2+1+1:=C0;rw[e1];simp only[cdC,M7,C3,G4,List.getElem?_cons_succ]at this⊢;exact L3
def COwn(w:World)(B:Nat)(v:Value)(xs:List Cd):Prop:=w.ownsRow B 126 2 v xs.length (cdC xs)
section
variable {w w':World} {B:Nat} {v:Value} {xs:List Cd}
def COwn.ext(h:COwn w B v xs)(hx:Ext w w'):COwn w' B v xs:=by
 refine YQ h hx.Hl ?_;cases hv:v.ownBlock with
 |none=>exact .inl rfl
 |some k=>exact .inr L0
def COwn.low(h:COwn w B v xs):∀k,v.ownBlock=some k->B<=k:=λk hk=>(R4 h k hk).1
def Own.apart{T2:TypeId}{k n:Nat}{T:TypeId}{w:World}{B B2:Nat}{v v2:Value}{xs ys:List Value}(h:Own T w B v xs)(h2:w.ownsRow B2 T2 k v2 n ys)(k7:T≠T2):v.ownBlock=none\/v.ownBlock≠v2.ownBlock:=by
 rcases h.2 with⟨h1,_⟩|⟨g,cap,cur,h1,_,hg,_⟩;·exact .inl RL
 rcases h2.2 with⟨h3,_⟩|⟨g2,aHq,aHr,h3,_,Cw,_⟩;·exact .inr (by rw[h1,h3];simp[Value.ownBlock])
 .refine .inr (λe=> ?_);rw[h1,h3]at e;simp only[Value.ownBlock,P2]at e;subst e;rw[hg]at Cw;injection Cw with Cw;injection Cw with _ Cw;exact k7 Cw
end
def ZW(w:World)(xs:List Cd)(ls:List (List Int)):Prop:=xs.length=ls.length/\∀(i:Nat)(x:Cd)(l:List Int),xs[i]? =some x->ls[i]? =some l->x.2=Rn.sum l/\x.1.2.1=l.length/\Own 3 w 0 (cdV x) (l.map encI)
def ZW.ext{w w':World}{xs:List Cd}{ls:List (List Int)}(h:ZW w xs ls)(hx:Ext w w'):ZW w' xs ls:=
 ⟨h.1,λi x l h1 h2=>⟨(h.2 i x l h1 h2).1,(h.2 i x l h1 h2).2.1,(h.2 i x l h1 h2).2.2.ext hx⟩⟩
def ZW.grown{w w':World}{B:Nat}{v:Value}{xs ys:List Cd}{ls:List (List Int)}(h:ZW w xs ls)(ho:COwn w B v ys)(hg:w.grownBy w' v.ownBlock):ZW w' xs ls:=
 ⟨h.1,λi x l h1 h2=>⟨(h.2 i x l h1 h2).1,(h.2 i x l h1 h2).2.1,(h.2 i x l h1 h2).2.2.kept hg ((h.2 i x l h1 h2).2.2.apart ho I0)⟩⟩
def ZW.snoc{w:World}{xs:List Cd}{ls:List (List Int)}(h:ZW w xs ls){x:Cd}{l:List Int}(h1:x.2=Rn.sum l)(h2:x.1.2.1=l.length)(h3:Own 3 w 0 (cdV x) (l.map encI)):ZW w (xs++[x]) (ls++[l]):=by
 refine⟨by rw[S0,S0,h.1];rfl,λi y k hy hk=> ?_⟩;by_cases hi:i<xs.length;·rw[WN hi]at hy;rw[WN (by rw[<-h.1];exact hi)]at hk;exact h.2 i y k hy hk
 .have hlt:=(N1.1 hy).1;rw[S0,Y9]at hlt;obtain rfl:i=xs.length:=C0;rw[VZ (J0 _),Y3]at hy;rw[h.1,VZ (J0 _),Y3]at hk;simp only[List.getElem?_cons_zero,P2]at hy hk;subst hy hk;exact⟨h1,h2,h3⟩
def ZW.one{w:World}{x:Cd}{l:List Int}(h1:x.2=Rn.sum l)(h2:x.1.2.1=l.length)(h3:Own 3 w 0 (cdV x) (l.map encI)):ZW w [x] [l]:=
 ZW.snoc (xs:=[]) (ls:=[]) ⟨rfl,λi x l h=>by simp at h⟩ h1 h2 h3
def CSl(w:World)(v:Value)(ls:List (List Int)):Prop:=∃b c xs,v=.slice (some ⟨b,0,none⟩) ls.length c/\b<w.heap.size/\ZW w xs ls/\∀(i:Nat)(x:Cd),xs[i]? =some x->w.cell? ⟨b,i*2,none⟩=some (cdV x)/\w.cell? ⟨b,i*2+1,none⟩=some (.int .i64 x.2)
def CSl.of{w:World}{B:Nat}{v:Value}{xs:List Cd}{ls:List (List Int)}(h:COwn w B v xs)(hh:ZW w xs ls)(k7:ls≠ []):CSl w v ls:=by
 rcases h.2 with⟨_,h0⟩|⟨g,cap,cur,hv,Ki,hb,h1,h2,h3,h4⟩;·exact absurd (U3 (by rw[<-hh.1];exact h0)) k7
 .refine⟨g,cap,xs,by rw[hv,hh.1],(V3.1 hb).1,hh,λi x hi=> ?_⟩;have hc:=h;unfold COwn at hc;rw[hv]at hc;have Ev:=(N1.1 hi).1;rw[hc.cellAt (i*2) C0,hc.cellAt (i*2+1) C0];exact ZnL xs i x hi
def ZjT:(prog.info? 126).map (λi=>(i.zero,i.size,i.bytes))=some (some (.agg #[.slice none 0 0,.int .i64 0]),2,32):=D1
def lA{w:World}{ops:Array Oper}{rest:List Oper}{o:Oper}{a:Act}{Q:Exit->Act->World->Prop}(IG:o.guard=none)(s x:Operand)
 (ho:o.op=.call {callee:=.builtin .append,args:= #[s,x],argTypes:= #[123,123]})
 (B:Nat)(v:Value)(xs:List Cd)(hs:a.eval s=v)(b8:COwn w B v xs)(b:Nat)(u:Cd)(hx:a.eval x=.slice (some ⟨b,0,none⟩) 1 1)
 (hc:w.cell? ⟨b,0,none⟩=some (cdV u))(Am:w.cell? ⟨b,1,none⟩=some (.int .i64 u.2))(hn:xs.length<=999999999)(hB:B<=w.heap.size)
 (h:∀v' w',COwn w' B v' (xs++[u])->w.grownBy w' v.ownBlock->wpList prog ops Q rest (a.put o.dst v') w'):wpList prog ops Q (o::rest) a w:=by
 obtain⟨i0,hi,An,p8,x9⟩:=C5 ZjT;refine RD _ IG s x 123 ho B 126 i0 _ 2 32 underlying123 hi An p8 x9 rfl I0 v xs.length (cdC xs) hs b8 ⟨b,0,none⟩ 1 1 [cdV u,.int .i64 u.2] hx rfl ?_ ?_ ?_ ?_ hB ?_
 .intro j u' hj
  rw[UD]
  match j with
  |0=>simp only[List.getElem?_cons_zero,P2]at hj;subst hj;exact hc
  |1=>simp only[List.getElem?_cons_succ,List.getElem?_cons_zero,P2]at hj;subst hj;exact Am
  |j+2=>simp at hj
 .exact eQ
 .exact B8
 .exact eR
 .intro v' w' h1 h2 _;refine h v' w' ?_ h2;unfold COwn;rw[S0,ZkQ];exact h1
def COwn.one{w:World}{B g:Nat}{x:Cd}(hg:w.heap[g]? =some (.cells #[cdV x,.int .i64 x.2] 126 (0,0)))(hB:B<=g):COwn w B (.slice (some ⟨g,0,none⟩) 1 1) [x]:=
 ⟨rfl,.inr ⟨g,1,_,rfl,hB,hg,J0 _,by unfold Go.maxLen;omega,rfl,rfl⟩⟩
def Rn.mods_app:∀(l m:List Int)(c:Bool),Rn.mods c (l++m)=Rn.mods c l++Rn.mods (if l.length%2=0 then c else !c) m
 | [],m,c=>rfl
 |x::l,m,c=>by rw[C3,Rn.mods,Rn.mods,Rn.mods_app l m (!c),V1,B1];exact FG
def Rn.mods_le:∀(l:List Int)(b:Bool),(∀x∈l,x<=4)->(Rn.mods b l).length<=4*l.length
 | [],_,_=>R0 _
 |x::l,b,h=>by rw[Rn.mods,S0,M2,B1];have h1:=h x (C2 ..);have h2:=Rn.mods_le l (!b) λy hy=>h y (Y1 _ hy);omega
def Rn.mods_step{ps:List Int}{k:Nat}{x:Int}(h:ps[k]? =some x):Rn.mods true (ps.take (k+1))=Rn.mods true (ps.take k)++List.replicate x.toNat (decide (k%2=0)):=by
 have hk:=(N1.1 h).1;rw[M5,h];show Rn.mods true (ps.take k++[x])=_;rw[Rn.mods_app,J1,D7 C0];show _++(List.replicate x.toNat _++[])=_;rw[A3];by_cases h2:k%2=0;·rw[G0 h2,C1 h2]
 .rw[D0 h2,G1 h2];rfl
def SI{t:TypeId}{w:World}{B:Nat}{v:Value}{xs ys:List Value}(h:Own t w B v xs)(e:xs=ys):Own t w B v ys:=e▸h
def ZlY(n:Nat)(b:Bool)(l:List Bool):l++List.replicate (n+1) b=(l++List.replicate n b)++[b]:=by rw[WK,V1]
def lB(v:Value)(cs:List Int)(w:World)(hv:Sl w v (cs.map encI))(hl:cs.length<=1000)(x7:∀c∈cs,Cs.Ab c):
 Calls prog 74 #[v] w (ZD (Ln.Kv cs) w):=by
 have Im:=B0 (ZiX v cs w hv C0 x7);by_cases hn:cs=[]
 .rw[G0 hn]at Im;have HF:Hid (Ln.Kv cs=([],5)):=B0 (by unfold Ln.Kv;rw[G0 hn]);generalize Ln.Kv cs=res at*;clear hn hv x7;go_enter func74,ntmps74;exact eK
 rw[D0 hn]at Im;have HF:Hid (Ln.Kv cs=(Cs.row cs,0)):=B0 (by unfold Ln.Kv;rw[D0 hn]);generalize Ln.Kv cs=res at*;obtain⟨Us,Tc,h20,aCW,Vp,-,-⟩:=Cs.values_is x7 (show cs.length<=4096 by omega);obtain⟨vs,Cf⟩:∃vs,vs=Cs.values cs:=⟨_,rfl⟩;have Wm:vs.length<=3010:=eL;have Wk:∀x∈vs,0<=x/\x<=106:=eM;have HEV:Hid (∀j,j<vs.length->(Cs.allW (vs.take j)).length%2=0/\(Cs.allW (vs.take j)).length<=20000):=B0 (λj hj=>by rw[Cf,Tc,S0,Y9]at hj;rw[Cf,Tc,SY C0,Cs.allW_len (Us.take j) (λv hv=>Vp v (I4 hv)),J1];omega);have HLE:Hid (∀j,∀x∈Cs.allW (vs.take j),x<=4):=B0 (λj x hx=>(Cs.allW_pos (vs.take j) (λv hv=>Wk v (I4 hv)) x hx).2);have Uz:Hid (Cs.row cs=Ln.quiet (Rn.mods true (Cs.allW vs)) 10 10):=B0 (by rw[Cf];rfl);have aEk:Hid (10+(Rn.mods true (Cs.allW vs)).length<=200000):=B0 (by have h1:=Rn.mods_le (Cs.allW vs) true (λx hx=>(Cs.allW_pos vs Wk x hx).2);have h2:(Cs.allW vs).length=6*Us.length+7:=(by rw[Cf,Tc,VN,S0,Cs.allW_len Us Vp];rfl);omega);rw[<-Cf]at Im;have Eo:=B0 Wk;obtain⟨n,Av⟩:∃n,n=vs.length:=⟨_,rfl⟩;rw[<-Av]at Wm HEV;have HN:=B0 Av;clear Cf Tc h20 aCW Vp Wk hn Av hv x7;go_enter func74,ntmps74;go_wp2_with fail;refine Im.out.mono ?_;rintro e w1 ⟨u,rfl,hu,b7⟩;dsimp only at hu;obtain⟨a,c,rfl⟩:=hu.1.form;rw[M0,<-HN.out]at hu⊢;have HU:=B0 hu.1;have IK:=B0 b7;obtain⟨wm,IT,Mi,hxm⟩:=BK w1 10 I0;replace IT:(Instr.makeSlice 26 (.int .i64 10) (.int .i64 10)).run prog w1=.ok (.slice (some ⟨w1.heap.size,0,none⟩) 10 10) wm:=IT;have Lt:Hid (Own 4 wm w1.heap.size (.slice (some ⟨w1.heap.size,0,none⟩) 10 10) ((List.replicate 10 false++Rn.mods true (Cs.allW (vs.take 0))).map encT)):=B0 (VG (N:=10) (by rw[Mi];rfl) rfl I0 (J0 _));have HXM:=B0 hxm;obtain⟨pn,hpn⟩:∃pn:Nat,pn=11*n:=⟨_,rfl⟩;obtain⟨qn,hqn⟩:∃qn:Nat,qn=11*n+22:=⟨_,rfl⟩;have hpm:11*(n:Int)=(pn:Int):=by omega
 have hpq:(pn:Int)+22=(qn:Int):=by omega
 have hp9:pn<=40000:=by omega
 have hq9:qn<=40000:=by omega
 have aIf:¬(65536:Int)<(qn:Int):=by omega
 have aHp:=B0 Wm;clear hpn hqn Wm hl;clear hu b7 Im Mi hxm;go_wp2_with fail;go_loopw [6,7] (λt6 t wr=>∃(j:Nat)(p:Int),j<=n/\p=(j:Int)/\t=.int .i64 p/\Hid (Own 4 wr w1.heap.size t6 ((List.replicate 10 false++Rn.mods true (Cs.allW (vs.take j))).map encT))/\Hid (Ext w1 wr)) (λ_ t _=>n-(intOf t).toNat)
 case atStart=>exact⟨0,0,R0 _,rfl,rfl,Lt,HXM⟩
 case round=>
 clear Lt HXM IT;rename World=>wr
 obtain⟨j,p,hj,hp,rfl,HO,HX⟩:=hrel;by_cases hlt:j<n
 .subst hp
  have Bx:(j:Int)<(n:Int):=by omega
  obtain⟨x,l9⟩:∃x,vs[j]? =some x:=⟨_,P0 X3⟩
  obtain⟨b,o,ha,hb,hc⟩:=HU.out.Af HX.out l9
  subst ha
  have j0:=Eo.out x (L1 l9)
  obtain⟨xn,rfl⟩:∃xn:Nat,x=(xn:Int):=⟨x.toNat,by omega⟩
  have HW:=B0 (ZgG xn wr C0)
  rw[eI]at HW
  have HPO:Hid (∀y∈Cs.Fk (xn:Int),1<=y/\y<=4):=B0 (λy hy=>Cs.allW_pos [(xn:Int)] (λv hv=>by rw[D3]at hv;omega) y (by show y∈Cs.Fk (xn:Int)++[];rw[A3];exact hy))
  have hlen:(Cs.Fk (xn:Int)).length<=7:=eN
  obtain⟨base,Ki⟩:∃base,base=List.replicate 10 false++Rn.mods true (Cs.allW (vs.take j)):=⟨_,rfl⟩
  have Ci:Hid (List.replicate 10 false++Rn.mods true (Cs.allW (vs.take (j+1)))=base++Rn.mods true (Cs.Fk (xn:Int))):=B0 (by rw[M5,l9,Ki];show List.replicate 10 false++Rn.mods true (Cs.allW (vs.take j++[(xn:Int)]))=_;rw[VN,Rn.mods_app,G0 (HEV.out j hlt).1,V1])
  have HBL:Hid (base.length<=100000):=B0 (by have h1:=Rn.mods_le (Cs.allW (vs.take j)) true (HLE.out j);have h2:=(HEV.out j hlt).2;rw[Ki,S0,M2];omega)
  rw[<-Ki]at HO
  generalize Cs.Fk (xn:Int)=ps at*
  clear l9 j0 Ki
  go_wp2_with fail
  refine HW.out.mono ?_
  rintro e w2 ⟨u2,rfl,ID,j0⟩
  dsimp only at ID
  replace ID:=ID.mono (R0 _)
  obtain⟨a2,c2,rfl⟩:=ID.sl.form
  obtain⟨m,hm⟩:∃m,m=ps.length:=⟨_,rfl⟩
  rw[M0,<-hm]at ID⊢
  rw[<-hm]at hlen
  have HM:=B0 hm
  have Kt:=B0 ID
  have Hf:=B0 (SI (HO.out.ext j0) (show base.map encT=(base++Rn.mods true (ps.take 0)).map encT by rw[YP];simp[Rn.mods]))
  have IA:=B0 (HX.out.trans j0)
  clear ID j0 HW hm HO HX
  go_wp2_with fail
  go_loopw [6,10] (λt6 t wr=>∃(k:Nat)(p:Int),k<=m/\p=(k:Int)/\t=.int .i64 p/\Hid (Own 4 wr w1.heap.size t6 ((base++Rn.mods true (ps.take k)).map encT))/\Hid (Own 3 wr 0 (.slice a2 m c2) (ps.map encI))/\Hid (Ext w1 wr)) (λ_ t _=>m-(intOf t).toNat)
  case atStart=>exact⟨0,0,R0 _,rfl,rfl,Hf,Kt,IA⟩
  case round=>
  clear Hf Kt IA
  rename World=>wa
  obtain⟨k,p,hk,hp,rfl,HO,HX,HXB⟩:=hrel
  by_cases aAc:k<m
  .subst hp
   have hkI:(k:Int)<(m:Int):=by omega
   obtain⟨y,hyk⟩:∃y,ps[k]? =some y:=⟨_,P0 (by rw[<-HM.out];exact aAc)⟩
   have hy:=HPO.out y (L1 hyk)
   obtain⟨r,rfl⟩:∃r:Nat,y=(r:Int):=⟨y.toNat,by omega⟩
   have hr4:r<=4:=by omega
   have HYK:Hid (Rn.mods true (ps.take (k+1))=Rn.mods true (ps.take k)++List.replicate r (decide (k%2=0))):=B0 (Rn.mods_step hyk)
   have HHY:=B0 hyk
   obtain⟨bb,Ds⟩:∃bb:Bool,bb=decide (k%2=0):=⟨_,rfl⟩
   rw[<-Ds]at HYK
   have Dy:((k:Int)%2==0)=bb:=by rw[Ds];by_cases h:k%2=0;(·rw[C1 h];exact I1.2 C0);·rw[G1 h];exact O0.2 C0
   have HK2:=B0 Dy
   obtain⟨Vi,aB7⟩:∃Vi,Vi=base++Rn.mods true (ps.take k):=⟨_,rfl⟩
   have aEl:Hid (Vi.length<=200000):=B0 (by have h1:=Rn.mods_le (ps.take k) true (λx hx=>(HPO.out x (I4 hx)).2);have h2:=HBL.out;rw[J1]at h1;rw[aB7,S0];omega)
   have aFA:Hid (base++Rn.mods true (ps.take (k+1))=Vi++List.replicate r bb):=B0 (by rw[HYK.out,aB7,V1])
   rw[<-aB7]at HO
   have Hg:=B0 (SI HO.out (show Vi.map encT=(Vi++List.replicate 0 bb).map encT by simp))
   clear hy hyk Ds aB7 HYK HO Dy
   go_wp2_with fail
   go_loopw [6,11] (λt6 t wr=>∃(i:Nat)(p:Int),i<=r/\p=(i:Int)/\t=.int .i64 p/\Hid (Own 4 wr w1.heap.size t6 ((Vi++List.replicate i bb).map encT))/\Hid (Own 3 wr 0 (.slice a2 m c2) (ps.map encI))/\Hid (Ext w1 wr)) (λ_ t _=>r-(intOf t).toNat)
   case atStart=>exact⟨0,0,R0 _,rfl,rfl,Hg,HX,HXB⟩
   case round=>
   clear Hg HX HXB
   rename World=>wb
   obtain⟨i,p,hi,hp,rfl,HO,HX,HXB⟩:=hrel
   subst hp
   obtain⟨b2,o2,IB,n7,IS⟩:=HX.out.sl.Af (Ext.refl _) HHY.out
   subst IB
   by_cases aDv:i<r
   .have Kl:(i:Int)<(r:Int):=C0;have Dy:=HK2.out;go_wp2_with (at_builtin;refine UK rfl _ _ rfl w1.heap.size _ (Vi++List.replicate i bb) rfl (HO.out.alloc _) _ bb rfl ?c1 ?c2 ?c3 ?_);(case c1=>first|(simp[go_sem,encT,Dy];done)|simp[go_sem,encT]);(case c2=>have:=aEl.out;rw[S0,M2];omega);(case c3=>have:=HXB.out.size;exact X0);intro v4 w4 Ai Et;have Ai:Own 4 w4 w1.heap.size v4 ((Vi++List.replicate (i+1) bb).map encT):=(by rw[ZlY];first|exact Ai|(simpa[V1]using Ai));have Ba:Hid (Ext w1 w4):=B0 ((HXB.out.alloc (.cells #[.bool bb] 4)).l8 (by first|exact Et|simpa using Et) (λz hz=>HO.out.low z hz));have p7:Hid (Own 3 w4 0 (.slice (some ⟨b2,o2,none⟩) m c2) (ps.map encI)):=B0 ((HX.out.alloc _).kept Et (Own.apart HX.out HO.out I0));have Na:=B0 Ai;clear Ai Et Dy;go_wp2_with fail;go_roundw;(case rel=>exact⟨i+1,(i:Int)+1,by omega,rfl,by go_num,Na,p7,Ba⟩);case measure=>exact Qr
   .obtain rfl:i=r:=C0;have Na:=B0 (SI HO.out (V0 (List.map encT) aFA.out.symm));clear hi aDv HO;go_wp2_with fail;go_roundw;(case rel=>exact⟨k+1,(k:Int)+1,by omega,rfl,by go_num,Na,HX,HXB⟩);case measure=>exact Qr
  .obtain rfl:k=m:=C0;have Na:=B0 (SI HO.out (show(base++Rn.mods true (ps.take k)).map encT=(List.replicate 10 false++Rn.mods true (Cs.allW (vs.take (j+1)))).map encT by rw[Ci.out,S1 (by rw[<-HM.out];exact J0 _)]));subst hp;clear hk aAc HO;go_wp2_with fail;go_roundw;(case rel=>exact⟨j+1,(j:Int)+1,by omega,rfl,by go_num,Na,HXB⟩);case measure=>exact Qr
 .obtain rfl:j=n:=C0;have Fs:=SI HO.out (show _=(List.replicate 10 false++Rn.mods true (Cs.allW vs)).map encT by rw[S1 P7]);have hl9:((List.replicate 10 false++Rn.mods true (Cs.allW vs)).map encT).length=10+(Rn.mods true (Cs.allW vs)).length:=(by rw[M0,S0,M2]);have Ff:=aEk.out;obtain⟨v7,w7,hr7,Gi,Ud⟩:=Ze1 (w:=wr) 26 3 26 4 .i64 (.bool false) 1 underlying26 underlying3 UJ rfl rfl I0 w1.heap.size _ _ Fs (by rw[hl9];omega) 10 (by rw[hl9];omega) HX.out.size;have Ax:=HX.out.l8 Ud Fs.low;have HSK:Hid (SlK w7 v7 (res.1.map encT)):=B0 (by have h:=Gi.IW;rw[HF.out,Uz.out];unfold Ln.quiet;rw[R2];exact h);have Rl:=B0 (IK.out.trans Ax);have aEu:Hid (res.2=0):=B0 (by rw[HF.out]);subst hp;clear hj hlt HO Fs hl9 Ff Gi Ud Ax;go_wp2_with (at_builtin;refine Lib.wpList_append_run _ rfl _ _ 26 3 rfl _ (.int .i64 10) rfl rfl v7 w7 hr7 ?_);clear hr7;go_wp2_with fail;go_ret2;exact⟨_,by rw[aEu.out];rfl,HSK.out,Rl.out⟩
def lC(ws:List Int):∀(l:List Int)(t:Int),Ln.quants ws (l++[t])=Ln.quants ws l++(if(Rn.quant ws t).2=0 then [(Rn.quant ws t).1]else [])
 | [],t=>by simp[Ln.quants]
 |x::l,t=>by rw[C3,Ln.quants,Ln.quants,lC ws l t,V1]
def CanL(w:World)(ws D T:List Int)(v12 vl ti:Value)(wr:World):Prop:=∃(j:Nat)(xs:List Cd),j<=T.length/\ti=.int .i64 (j:Int)/\xs.length<=j+1/\Hid (COwn wr w.heap.size vl xs)/\Hid (ZW wr xs (D::Ln.quants ws (T.take j)))/\Hid (Own 3 wr w.heap.size v12 (T.map encI))/\Hid (Ext w wr)
def CanM(w:World)(D T:List Int)(x:Cd)(wa:World)(s12:Value)(wx:World):Prop:=
 Own 3 wx (wa.heap.size+1) s12 (T.map encI)/\COwn wx w.heap.size (.slice (some ⟨wa.heap.size,0,none⟩) 1 1) [x]/\Own 3 wx 0 (cdV x) (D.map encI)/\Ext w wx
def CanM.grow{w wa wx w5:World}{D T:List Int}{y:Int}{x:Cd}{s v':Value}(h:CanM w D T x wa s wx)(h5:Own 3 w5 (wa.heap.size+1) v' ((T++[y]).map encI))(hg:wx.grownBy w5 s.ownBlock)
 (hx:∀k,(cdV x).ownBlock=some k->k<wa.heap.size):CanM w D (T++[y]) x wa v' w5:=by
 obtain⟨h1,h2,h3,h4⟩:=h;have aBF:=h1.low;refine⟨h5,YQ h2 hg (.inr λe=> ?_),h3.kept hg ?_,h4.l8 hg λk hk=> ?_⟩
 .have:wa.heap.size+1<=wa.heap.size:=aBF _ e.symm;omega
 .cases hb:(cdV x).ownBlock with
  |none=>exact .inl rfl
  |some k=>refine .inr λe=> ?_;have h6:=hx k hb;have h7:=aBF k e.symm;omega
 .have h6:=aBF k hk;have h7:w.heap.size<=wa.heap.size:=h2.low _ rfl;omega
def lD(ws:List Int):(Tw.wide ws).1.length<=ws.length:=by
 unfold Tw.wide;split
 .exact R0 _
 split
 .exact R0 _
 repeat' (first|split|(dsimp only))
 all_goals simp
def ZfL(v:Value)(ws:List Int)(w:World)(hv:Sl w v (ws.map encI))(k7:ws≠ [])(hl:ws.length<=65536)(hw:∀x∈ws,1<=x/\x<=65536):
 Calls prog 86 #[v] w λe w'=>∃u,e=.returned u/\CSl w' u (Ln.Vj ws)/\Ext w w':=by
 have HUN:=B0 (λw' (h:Ext w w')=>Zm0 v ws w' (hv.ext h) C0 hw);have HQN:=B0 (λt w' (h:Ext w w')(ht:t<=1000000000)=>Zhz v ws t w' (hv.ext h) C0 ht);have Kf:=B0 (λw' (h:Ext w w')=>gB v ws w' (hv.ext h) C0);obtain⟨Ca,hud⟩:=Rn.unit_is (λx hx=>(hw x hx).1) k7;have hsu:=Rn.sum_unit (λx hx=>(hw x hx).1) k7;have Ju:1<=ws.length:=D8.2 k7;have Fv:=Rn.sum_in hw;have HCA:=B0 (show Ln.Vj ws=(ws.map λx=>x/Rn.unit ws)::(Ln.quants ws (Ln.aBW ws.length)++Ln.aA3 ws)from rfl);have HWI:=B0 (show Ln.aA3 ws=if(Tw.wide ws).2=0 then [clsW (Tw.wide ws).1]else []from rfl);obtain⟨res,j7⟩:∃res,res=Ln.Vj ws:=⟨_,rfl⟩;rw[<-j7]at HCA⊢;obtain⟨U,hU⟩:∃U,U=Rn.unit ws:=⟨_,rfl⟩;rw[<-hU]at HUN Ca hud hsu HCA;obtain⟨SM,Ub⟩:∃SM,SM=Rn.sum ws:=⟨_,rfl⟩;rw[<-Ub]at hsu Fv;obtain⟨D,hD⟩:∃D,D=ws.map λx=>x/U:=⟨_,rfl⟩
 rw[<-hD]at HCA hsu;have hDl:D.length=ws.length:=by rw[hD,M0]
 have Dm:Hid (∀(j:Nat)(x:Int),ws[j]? =some x->D[j]? =some (x/U)):=B0 (λj x h=>by rw[hD,B3,h];rfl);obtain⟨a,c,rfl⟩:=hv.form;rw[M0]at hv HUN HQN Kf⊢;obtain⟨n,hn⟩:∃n,n=ws.length:=⟨_,rfl⟩;rw[<-hn]at hv hl HUN HQN Kf HCA hDl Ju⊢;have HN:=B0 hn;have HV:=B0 hv;have HS:=B0 Ub;have Ia:=B0 hw;have Wz:=B0 hDl;have IC:=Fv.1;have s5:SM<=4294967296:=T9;have zU:(U==0)=false:=O0.2 C0;have hU0:U≠0:=by omega
 have hDn:D≠ []:=λe=>by rw[e]at hDl;simp at hDl;omega
 have HDN:=B0 hDn;obtain⟨SD,hSD⟩:∃SD,SD=SM/U:=⟨_,rfl⟩;have HSD:Hid (SD=Rn.sum D):=B0 (by rw[hSD];exact hsu);have aJA:0<=SD:=by rw[hSD];exact KS IC C0
 have aJB:SD<=4294967296:=by rw[hSD];exact KT (KU U IC) s5
 have aJC:=hSD.symm;have aJD:SM.tdiv U=SD:=by rw[hSD,OE IC]
 clear hv hw k7 hn Ub Fv j7 hU hD hDl hsu hud hDn hSD;go_enter func86,ntmps86;go_wp2_with fail;go_loop [4,23] (λs i=>∃(j:Nat)(t:Int),j<=n/\i=.int .i64 (j:Int)/\s=.int .i64 t/\0<=t/\t<=65536*(j:Int)/\Hid (t=Rn.sum (ws.take j))) (λ_ i=>n-(intOf i).toNat)
 case atStart=>exact PL
 case round=>
 obtain⟨j,t,hj,rfl,rfl,Ko,Je,HT⟩:=hrel;by_cases hlt:j<n
 .exact QP
 obtain rfl:n=j:=by omega
 obtain rfl:t=SM:=by have h2:=HT.out;exact lE
 clear hj hlt HT Ko Je;go_wp2_with fail;refine(HUN.out w (Ext.refl _)).mono ?_;rintro e w1 ⟨rfl,b7⟩;have IK:=B0 b7;obtain⟨wm,IT,Ef,Bg⟩:=TO w1 n w1.heap.size C0 (J0 _);have Ib:=B0 Ef;have Gw:=B0 Bg;clear Ef Bg b7;go_wp2_with fail;go_loopw [37] (λt wr=>∃j:Nat,j<=n/\t=.int .i64 (j:Int)/\Hid (Own 3 wr w1.heap.size (.slice (some ⟨w1.heap.size,0,none⟩) n n) ((D.take j++List.replicate (n-j) (0:Int)).map encI))/\Hid (Ext w1 wr)) (λt _=>n-(intOf t).toNat)
 case atStart=>exact LM
 case round=>
 clear Ib Gw IT;obtain⟨j,hj,rfl,HO,HX⟩:=hrel;by_cases hlt:j<n
 .obtain⟨x,l9⟩:∃x,ws[j]? =some x:=⟨_,P0 X3⟩;obtain⟨b,o,ha,hb,hc⟩:=HV.out.Af (IK.out.trans HX.out) l9;subst ha;have Bx:(j:Int)<(n:Int):=C0;obtain⟨b7,j0⟩:=Ia.out x (L1 l9);have hlen:(D.take j++List.replicate (n-j) (0:Int)).length=n:=(by rw[S0,J1,M2,Wz.out];omega);obtain⟨xo,co,fo⟩:=HO.out.aAA (i:=j) (by rw[hlen];exact hlt);obtain⟨q,hq⟩:∃q,q=x/U:=⟨_,rfl⟩;have Ht:0<=q:=(by rw[hq];exact KS C0 C0);have Ii:q<=65536:=(by rw[hq];exact KT (KU U C0) j0);have hqe:=hq.symm;have hqt:x.tdiv U=q:=(by rw[hq,OE C0]);have Fs:=(HO.out.Pv j q).1;rw[KO Wz.out (by rw[hq];exact Dm.out j x l9)]at Fs;have Ed:=B0 Fs;clear hq Fs l9;go_wp2_with fail;go_roundw;(case rel=>exact⟨j+1,by omega,by go_num,Ed,B0 (HX.out.setCell (p:=⟨w1.heap.size,j,none⟩) (J0 _) _)⟩);case measure=>exact Qr
 obtain rfl:n=j:=by omega
 have Ux:Hid (Own 3 wr w1.heap.size (.slice (some ⟨w1.heap.size,0,none⟩) n n) (D.map encI)):=B0 (by have h:=HO.out;rw[Y3,XH,A3,S1 (by rw[Wz.out];exact J0 _)]at h;exact h);have IA:=B0 (IK.out.trans HX.out);rename World=>wa
 clear hj hlt HO HX;have o4:=IA.out.size;obtain⟨T1,Oa⟩:∃T:List Int,T=(if n=59 then [95]else if n=43 then [67]else if n=33 then [51]else []):=⟨_,rfl⟩;obtain⟨T2,Ry⟩:∃T:List Int,T=(if 13<=n/\(n-7)%6=0 then [Ln.total11 n]else []):=⟨_,rfl⟩;have aBu:Hid (res=D::(Ln.quants ws (T1++T2)++Ln.aA3 ws)):=B0 (by rw[Oa,Ry];exact HCA.out);have Ay:Hid (∀x∈T1++T2,0<=x/\x<=1000000000):=B0 (by intro x hx;rcases E3.1 hx with h|h;(·rw[Oa]at h;(repeat' split at h)<;>simp at h<;>omega);·rw[Ry]at h;split at h;(·rw[D3]at h;unfold Ln.total11 at h;omega);·cases h);have Bq:=B0 Oa;have Ad:=B0 Ry;have aFd:T1.length<=1:=by rw[Oa];(repeat' split)<;>simp
 have aDe:T2.length<=1:=by rw[Ry];split<;>simp
 obtain⟨x0,n9⟩:∃x:Cd,x=((some ⟨w1.heap.size,0,none⟩,n,n),SD):=⟨_,rfl⟩;have HLV:Hid (∀k,(cdV x0).ownBlock=some k->k<wa.heap.size):=B0 (λk hk=>by have h:=(R4 Ux.out _ rfl).2;rw[n9]at hk;injection hk with hk;subst hk;exact h);obtain⟨wb,hwb⟩:∃wb,wb=wa.alloc (.cells #[.slice (some ⟨w1.heap.size,0,none⟩) n n,.int .i64 SD] 126):=⟨_,rfl⟩;have To:Hid (COwn wb w.heap.size (.slice (some ⟨wa.heap.size,0,none⟩) 1 1) [x0]):=B0 (by rw[hwb,n9];exact COwn.one (x:=((some ⟨w1.heap.size,0,none⟩,n,n),SD)) (X2 wa _) IA.out.size);have HD5:Hid (Own 3 wb 0 (cdV x0) (D.map encI)):=B0 (by rw[hwb,n9];exact(Ux.out.mono (R0 _)).alloc _);have p7:Hid (Ext w wb):=B0 (by rw[hwb];exact IA.out.alloc _);have Xi:Hid (wb.heap.size=wa.heap.size+1):=B0 (by rw[hwb];simp);have Cj:=B0 n9;have HWB:=B0 hwb;clear Oa Ry n9 hwb HCA;have hlv:=HLV.out;go_upto_block 4 with fail;go_cut [12]from 19 (λs12 wx=>Hid (CanM w D T1 x0 wa s12 wx))
 case first=>by_cases Xx:n=59;(·have z59:((n:Int)==59)=true:=I1.2 C0;have Vc:Hid (T1=[95]):=B0 (by rw[Bq.out,G0 Xx]);clear Xx;go_wp2_with (at_builtin;rw[<-HWB.out];refine Zy rfl _ _ rfl (wa.heap.size+1) _ [] rfl (Own.nil _ _ _) _ 95 rfl ?c1 ?c2 ?c3 ?_);(case c1=>rw[<-Xi.out];exact V2);(case c2=>simp);(case c3=>exact xI);intro v' w5 l6 j6;have HM:Hid (CanM w D T1 x0 wa v' w5):=B0 (by rw[Vc.out];exact CanM.grow (T:=[]) (y:=95) ⟨Own.nil _ _ _,To.out.ext ((Ext.refl _).alloc _),HD5.out.alloc _,p7.out.alloc _⟩ l6 j6 hlv);clear l6 j6;exact OF);have z59:((n:Int)==59)=false:=O0.2 C0;by_cases Rt:n=43;(·have z43:((n:Int)==43)=true:=I1.2 C0;have Vc:Hid (T1=[67]):=B0 (by rw[Bq.out,D0 Xx,G0 Rt]);clear Rt;go_wp2_with (at_builtin;rw[<-HWB.out];refine Zy rfl _ _ rfl (wa.heap.size+1) _ [] rfl (Own.nil _ _ _) _ 67 rfl ?c1 ?c2 ?c3 ?_);(case c1=>rw[<-Xi.out];exact V2);(case c2=>simp);(case c3=>exact xI);intro v' w5 l6 j6;have HM:Hid (CanM w D T1 x0 wa v' w5):=B0 (by rw[Vc.out];exact CanM.grow (T:=[]) (y:=67) ⟨Own.nil _ _ _,To.out.ext ((Ext.refl _).alloc _),HD5.out.alloc _,p7.out.alloc _⟩ l6 j6 hlv);clear l6 j6;exact OF);have z43:((n:Int)==43)=false:=O0.2 C0;by_cases Xv:n=33;(·have z33:((n:Int)==33)=true:=I1.2 C0;have Vc:Hid (T1=[51]):=B0 (by rw[Bq.out,D0 Xx,D0 Rt,G0 Xv]);clear Xv;go_wp2_with (at_builtin;rw[<-HWB.out];refine Zy rfl _ _ rfl (wa.heap.size+1) _ [] rfl (Own.nil _ _ _) _ 51 rfl ?c1 ?c2 ?c3 ?_);(case c1=>rw[<-Xi.out];exact V2);(case c2=>simp);(case c3=>exact xI);intro v' w5 l6 j6;have HM:Hid (CanM w D T1 x0 wa v' w5):=B0 (by rw[Vc.out];exact CanM.grow (T:=[]) (y:=51) ⟨Own.nil _ _ _,To.out.ext ((Ext.refl _).alloc _),HD5.out.alloc _,p7.out.alloc _⟩ l6 j6 hlv);clear l6 j6;exact OF);have z33:((n:Int)==33)=false:=O0.2 C0;have Vc:Hid (T1=[]):=B0 (by rw[Bq.out,D0 Xx,D0 Rt,D0 Xv]);have HM:Hid (CanM w D T1 x0 wa (.slice none 0 0) wb):=B0 (by rw[Vc.out];exact⟨Own.nil _ _ _,To.out,HD5.out,p7.out⟩);clear Xx Rt Xv;go_wp2_with fail;rw[<-HWB.out];go_meet;case rel=>exact HM
 case rest=>
 have HM1:=hcut;clear hcut To HD5 p7 Xi HWB Bq o4;obtain⟨B2,hB2⟩:∃b:Bool,b=decide (13<=n/\(n-7)%6=0):=⟨_,rfl⟩;have Ch:=B0 hB2;clear hB2;obtain⟨k,hk⟩:∃k,k=n-7:=⟨_,rfl⟩;rw[<-hk]at Ch Ad;have HK:=B0 hk;clear hk;go_upto_region 24 with fail;go_cut [78]from 19 (λs78 wx=>s78=.bool B2/\wx=wc)
 case first=>by_cases Fe:13<=n;(·have aF8:(13:Int)<=(n:Int):=C0;have hkI:(n:Int)-7=(k:Int):=(by have:=HK.out;omega);obtain⟨r,hr⟩:∃r:Int,r=(k:Int)%6:=⟨_,rfl⟩;have Aa:=hr.symm;have Ui:Int.tmod (k:Int) 6=r:=(by rw[hr];rfl);by_cases hk6:k%6=0;(·have zr:(r==0)=true:=I1.2 C0;obtain rfl:B2=true:=(by rw[Ch.out];exact C1 ⟨Fe,hk6⟩);clear hr;exact SJ);·have zr:(r==0)=false:=O0.2 C0;obtain rfl:B2=false:=(by rw[Ch.out];exact G1 (λh=>hk6 h.2));clear hr;exact SJ);·have aF8:¬(13:Int)<=(n:Int):=C0;obtain rfl:B2=false:=(by rw[Ch.out];exact G1 (λh=>Fe h.1));exact SJ
 case rest=>
 obtain⟨rfl,rfl⟩:=hcut;go_upto_if 78 with fail;go_cut [12]from 19 (λs12 wx=>Hid (CanM w D (T1++T2) x0 wa s12 wx))
 case first=>
  cases B2 with
  |false=>have HM:Hid (CanM w D (T1++T2) x0 wa u12 wc):=B0 (by rw[Ad.out,D0 (OW Ch.out.symm),A3];exact HM1.out);exact OF
  |true=>obtain⟨Fe,hk6⟩:=D4 Ch.out.symm;have hkI:(n:Int)-7=(k:Int):=(by have:=HK.out;omega);obtain⟨tt,htt⟩:∃tt:Nat,tt=(11*k)/6:=⟨_,rfl⟩;have hte:11*(k:Int)/6=(tt:Int):=C0;have htT:(11*(k:Int)).tdiv 6=(tt:Int):=(by rw[OE C0,hte]);have Vc:Hid (T2=[(tt:Int)+13]):=B0 (by rw[Ad.out,G0 ⟨Fe,hk6⟩,Ln.total11,hkI,hte]);have hkb:k<=65536:=(by have:=HK.out;omega);have htb:tt<=131072:=C0;have hm:=HM1.out;have o4:=hm.2.2.2.size;have Ar:=(R4 hm.2.1 _ rfl).2;clear Fe hk6 htt;go_wp2_with (at_builtin;refine Zy rfl _ _ rfl (wa.heap.size+1) _ T1 rfl (hm.1.alloc _) _ ((tt:Int)+13) rfl ?c1 ?c2 ?c3 ?_);(case c1=>exact V2);(case c2=>omega);(case c3=>first|(simp;done)|(simp;omega)|omega);intro v' w5 l6 j6;have HM:Hid (CanM w D (T1++T2) x0 wa v' w5):=B0 (by rw[Vc.out];exact CanM.grow ⟨hm.1.alloc _,hm.2.1.ext ((Ext.refl _).alloc _),hm.2.2.1.alloc _,hm.2.2.2.alloc _⟩ F8 j6 hlv);clear l6 j6 hm o4 Ar;exact OF
 case rest=>
 have hm:=hcut.out;clear hcut HM1 Ad Ch HK;rw[Cj.out]at hm;have To:Hid (COwn wc w.heap.size (.slice (some ⟨wa.heap.size,0,none⟩) 1 1) [((some ⟨w1.heap.size,0,none⟩,n,n),SD)]):=B0 hm.2.1;have HH5:Hid (ZW wc [((some ⟨w1.heap.size,0,none⟩,n,n),SD)] [D]):=B0 (ZW.one HSD.out Wz.out.symm hm.2.2.1);have p7:=B0 hm.2.2.2;have s6:=B0 (hm.1.mono (B':=w.heap.size) (F3 IA.out.size (R3 _)));clear hm hlv;obtain⟨T,hT⟩:∃T:List Int,T=T1++T2:=⟨_,rfl⟩;obtain⟨L,hL⟩:∃L,T.length=L:=⟨_,rfl⟩;rw[<-hT]at aBu Ay s6;have HTB:=Ay;have aDB:=aBu;have Gm:=B0 hL;obtain⟨A5,c5,rfl⟩:=s6.out.sl.form;rw[M0,hL]at s6⊢;have hLb:L<=2:=by rw[<-hL,hT,S0];have:T2.length<=1:=aDe;omega
 clear hT hL aBu Ay aFd aDe;go_wp2_with fail;go_loopw [11,89] (λvl ti wr=>CanL w ws D T (.slice A5 L c5) vl ti wr) (λ_ t _=>L-(intOf t).toNat)
 case atStart=>exact⟨0,_,R0 _,rfl,by simp,To,by simpa[Ln.quants]using HH5,s6,p7⟩
 case round=>
 clear To HH5 s6 p7;obtain⟨j,xs,hj,rfl,hxl,HC,HH,HT,HX⟩:=hrel;rw[Gm.out]at hj;by_cases hlt:j<L
 .obtain⟨x,l9⟩:∃x,T[j]? =some x:=⟨_,P0 (by rw[Gm.out];exact hlt)⟩;obtain⟨n9,b7⟩:=HTB.out x (L1 l9);obtain⟨xt,rfl⟩:∃xt:Nat,x=(xt:Int):=⟨x.toNat,by omega⟩;obtain⟨b,o,ha,hb,hc⟩:=HT.out.IW.1.Af (Ext.refl wr) l9;subst ha;have Bx:(j:Int)<L:=C0;have HQ9:=B0 (HQN.out xt wr HX.out C0);have HQS:=B0 (λh=> @Rn.quant_sum ws (xt:Int) h);have HQU:Hid (Ln.quants ws (T.take (j+1))=Ln.quants ws (T.take j)++(if(Rn.quant ws (xt:Int)).2=0 then [(Rn.quant ws (xt:Int)).1]else [])):=B0 (by rw[Z5 l9,lC]);obtain⟨⟨ql,qe⟩,Wh⟩:∃r,r=Rn.quant ws (xt:Int):=⟨_,rfl⟩;rw[<-Wh]at HQ9 HQS HQU;dsimp only at HQU HQS;clear Wh l9;go_wp2_with fail;refine HQ9.out.mono ?_;rintro e w2 ⟨u,rfl,hu,j0⟩;dsimp only at hu⊢;obtain⟨-,au,cu,rfl,-⟩:=hu.IW;rw[M0]at hu⊢;have HU:=B0 hu;have Xk:=B0 (HX.out.trans j0);have IE:=B0 (HC.out.ext j0);have My:=B0 (HH.out.ext j0);have Ad:=B0 (HT.out.ext j0);clear hu j0 HC HH HT hc;by_cases hqe:qe=0;(·have hqs:=(HQS.out hqe).1;subst hqe;have o4:=Xk.out.size;have Oq:Hid (Ln.quants ws (T.take (j+1))=Ln.quants ws (T.take j)++[ql]):=B0 (by rw[HQU.out,G0 rfl]);have IS:=IE.out;go_wp2_with (at_builtin;refine lA rfl _ _ rfl w.heap.size _ xs rfl (IS.ext ((Ext.refl _).alloc _)) _ ((au,ql.length,cu),(xt:Int)) rfl ?ke1 ?ke4 ?ke2 ?ke3 ?_);(case ke1=>simp[go_sem,cdV]);(all_goals(try(case ke4=>simp[go_sem])));(case ke2=>omega);(case ke3=>exact L4);intro v' w5 l6 j6;have Fc:=B0 ((Xk.out.alloc _).l8 j6 IS.low);have HC9:=B0 l6;have HT9:Hid (Own 3 w5 w.heap.size (.slice (some ⟨b,o,none⟩) L c5) (T.map encI)):=B0 ((Ad.out.alloc _).kept j6 (Own.apart Ad.out IS I0));have HH9:Hid (ZW w5 (xs++[((au,ql.length,cu),(xt:Int))]) (D::Ln.quants ws (T.take (j+1)))):=B0 (by rw[Oq.out,<-C3];refine ZW.snoc ((My.out.ext ((Ext.refl _).alloc _)).grown (IS.ext ((Ext.refl _).alloc _)) j6) hqs.symm rfl ?_;exact((HU.out.mono (R0 _)).alloc _).kept j6 (Own.apart HU.out IS I0));have aGr:(xs++[((au,ql.length,cu),(xt:Int))]).length<=j+1+1:=LL;clear l6 j6 IS Xk IE My Ad HU;go_wp2_with fail;go_roundw;(case rel=>exact⟨j+1,_,by rw[Gm.out];omega,by go_num,aGr,HC9,HH9,HT9,Fc⟩);case measure=>exact Qr);·have z:(qe==0)=false:=O0.2 hqe;have HH9:Hid (ZW w2 xs (D::Ln.quants ws (T.take (j+1)))):=B0 (by rw[HQU.out,D0 hqe,A3];exact My.out);go_wp2_with fail;go_roundw;(case rel=>exact⟨j+1,_,by rw[Gm.out];omega,by go_num,by omega,IE,HH9,Ad,Xk⟩);case measure=>exact Qr
 .obtain rfl:j=L:=C0;have HH1:Hid (ZW wr xs (D::Ln.quants ws T)):=B0 (by have h:=HH.out;rw[S1 (by rw[Gm.out];exact J0 _)]at h;exact h);have HW9:=B0 (Kf.out wr HX.out);clear HH HT hlt hj;go_wp2_with fail;refine HW9.out.mono ?_;rintro e w2 ⟨u,rfl,hu,j0⟩;have HU:=B0 hu;have Xk:=B0 (HX.out.trans j0);have IE:=B0 (HC.out.ext j0);have My:=B0 (HH1.out.ext j0);clear hu j0 HC HH1;have Gk:=lD ws;obtain⟨⟨wb,we⟩,Te⟩:∃r,r=Tw.wide ws:=⟨_,rfl⟩;rw[<-Te]at HU HWI Gk⊢;dsimp only at HU HWI Gk⊢;have aGo:wb.length<=400000:=(by rw[<-HN.out]at Gk;omega);clear Te Gk;by_cases hwe:we=0;(·subst hwe;have HF:Hid (res=(D::Ln.quants ws T)++[clsW wb]):=B0 (by rw[aDB.out,HWI.out,G0 rfl];rfl);have Eb:=B0 (λw' h=>ZfN u wb w' h aGo);go_wp2_with fail;refine(Eb.out w2 HU.out).mono ?_;rintro e w3 ⟨a3,c3,rfl,Fw,j4⟩;have HU3:=B0 Fw;have Ct:=B0 (Xk.out.trans j4);have HH3:=B0 (My.out.ext j4);have o4:=Ct.out.size;have IS:=IE.out.ext j4;clear Fw j4 Xk IE My;go_wp2_with (at_builtin;refine lA rfl _ _ rfl w.heap.size _ xs rfl (IS.ext ((Ext.refl _).alloc _)) _ ((a3,(clsW wb).length,c3),Rn.sum (clsW wb)) rfl ?kd1 ?kd4 ?kd2 ?kd3 ?_);(case kd1=>simp[go_sem,cdV]);(all_goals(try(case kd4=>simp[go_sem])));(case kd2=>omega);(case kd3=>exact L4);intro v' w5 l6 j6;have Fc:=B0 ((Ct.out.alloc _).l8 j6 IS.low);have Ci:Hid (CSl w5 v' res):=B0 (by rw[HF.out];refine CSl.of l6 ?_ L0;refine ZW.snoc ((HH3.out.ext ((Ext.refl _).alloc _)).grown (IS.ext ((Ext.refl _).alloc _)) j6) rfl rfl ?_;exact((HU3.out.mono (R0 _)).alloc _).kept j6 (Own.apart HU3.out IS I0));clear l6 j6 IS;go_wp2_with fail;go_ret;exact⟨_,rfl,Ci.out,Fc.out⟩);·have z:(we==0)=false:=O0.2 hwe;have Ci:Hid (CSl w2 _ res):=B0 (by rw[aDB.out,HWI.out,D0 hwe,A3];exact CSl.of IE.out My.out L0);go_wp2_with fail;go_ret;exact⟨_,rfl,Ci.out,Xk.out⟩
end
section
open Go.RowKit Go.Maps Go Go.WideMaps Go.WideShapes
def Zkb{P:Program}{k e:TypeId}{q:IntKind}(A:ArrKey P k e 6)(he:P.underlying e=some (.int q))(o4:∃m,P.types.size=m+1){a b c d f g:Int}(wa:(Lit.int q a).wf=true)(wb:(Lit.int q b).wf=true)(wc:(Lit.int q c).wf=true)(wd:(Lit.int q d).wf=true)(wf:(Lit.int q f).wf=true)(wg:(Lit.int q g).wf=true):
 keyOf P k (.agg #[.int q a,.int q b,.int q c,.int q d,.int q f,.int q g])=some (.string (keyBytes [.int q a,.int q b,.int q c,.int q d,.int q f,.int q g])):=by
 have hkt:=A.keyType o4;obtain⟨m,hm⟩:=o4;unfold keyOf;simp only[A.hu];rw[G0 (by simp[hkt,Value.formed,A.hu,A.size]),hm];unfold Program.keyLits;simp only[A.hu,Value.cells];rw[G0 (by rw[A.size];rfl),show List.range 6=[0,1,2,3,4,5]from rfl,XC,XC,XC,XC,XC,XC,List.mapM_nil];simp[A.one,Program.keyLits,he,wa,wb,wc,wd,wf,wg]
def Cc.key(l:List Int):Value:=.agg (l.map encI).toArray
def Cc.key_inj(a b:List Int)(h:Cc.key a=Cc.key b):a=b:=by unfold Cc.key at h;injection h with h;have h:=List.toArray_inj h;exact(List.map_inj_right (λx y e=>by unfold encI at e;injection e)).1 h
def Cc.aFB:ArrKey prog 172 3 6:=⟨underlying172,by kernel_rfl,by kernel_rfl,by kernel_rfl⟩
def Cc.laid:laidOutB prog=true:=D1
def Cc.keyed:Keyed prog 172:=
 Keyed.of_law (deep_law_laid Cc.laid (m:=2) C0 (D4 N0) N0 (by rw[underlying172]))
def Cc.wf_of{x:Int}(h: -1000000<=x/\x<=1000000):(Lit.int .i64 x).wf=true:=rC
def Cc.keyOf_six'{l:List Int}(h6:l.length=6)(hb:∀x∈l,-1000000<=x/\x<=1000000):∃t,keyOf prog 172 (Cc.key l)=some t:=by
 match l,h6 with
 | [a,b,c,d,f,g],_=>exact⟨_,Zkb Cc.aFB underlying3 ⟨prog.types.size-1,by kernel_rfl⟩ (Cc.wf_of (hb a L0)) (Cc.wf_of (hb b L0)) (Cc.wf_of (hb c L0)) (Cc.wf_of (hb d L0)) (Cc.wf_of (hb f L0)) (Cc.wf_of (hb g L0))⟩
def Cc.fTo(n:Nat)(w:List Int):Option Int:=((Cc.Gu.take n).findIdx? λp=>p==w).map λ(i:Nat)=>(i:Int)
def Cc.aF0:Cc.fTo 0=λ_=>none:=rfl
def Cc.aFZ:Cc.fTo 106=λw=>(Cc.valOf w).map λ(i:Nat)=>(i:Int):=rfl
def Cc.pats_nodup:Cc.Gu.Nodup:=L2
def Cc.aEV:Cc.Gu.length=106:=rfl
def Cc.fTo_succ(n:Nat)(hn:n<106):Cc.fTo (n+1)=λw=>if w=Cc.Gu.getD n []then some (n:Int)else Cc.fTo n w:=by
 funext w;have hp:Cc.Gu[n]? =some (Cc.Gu.getD n []):=by rw[F1,P0 (by rw[Cc.aEV];exact hn)];rfl
 obtain⟨p,Bh⟩:∃p,p=Cc.Gu.getD n []:=⟨_,rfl⟩;rw[<-Bh]at hp⊢;have hnd:=Cc.pats_nodup;have ht:Cc.Gu.take (n+1)=Cc.Gu.take n++[p]:=by rw[M5,hp];rfl
 have hl:(Cc.Gu.take n).length=n:=by rw[J1,Cc.aEV];omega
 unfold Cc.fTo;rw[ht,List.findIdx?_append];by_cases hw:w=p;·subst hw;rw[G0 rfl];have aEB:(Cc.Gu.take n).findIdx? (λq=>q==w)=none:=(by rw[List.findIdx?_eq_none_iff];intro x hx;refine O0.2 λe=> ?_;subst e;have h2:(Cc.Gu.take (n+1)).Nodup:=hnd.sublist (List.take_sublist _ _);rw[ht,List.nodup_append]at h2;exact h2.2.2 x hx x (D3.2 rfl) rfl);rw[aEB];simp[hl]
 .rw[D0 hw];have:([p]:List (List Int)).findIdx? (λq=>q==w)=none:=(by rw[List.findIdx?_eq_none_iff];intro x hx;rw[D3]at hx;subst hx;exact O0.2 λe=>hw e.symm);rw[this];simp
def Rn.mem_sum{l:List Int}(h:∀x∈l,1<=x):∀x∈l,x<=Rn.sum l:=by
 induction l with
 |nil=>intro x hx;cases hx
 |cons y l ih=>intro x hx;have h1:=h y (C2 ..);have h2:=Rn.sum_pos l (λz hz=>h z (Y1 _ hz));rw[Rn.sum_cons];rcases E2.1 hx with rfl|hx;(·omega);·have:=ih (λz hz=>h z (Y1 _ hz)) x hx;omega
def Rn.widths_in(s:List Bool):(∀x∈Rn.widths s,1<=x/\x<=(s.length:Int))/\(Rn.widths s).length<=s.length:=by have hp:=Rn.widths_pos s;have h1:=Rn.mods_len (Rn.widths s) true hp;rw[Rn.aHD]at h1;have h2:=Rn.core_le s;have h3:=Rn.sum_pos _ hp;exact⟨λx hx=>⟨hp x hx,by have:=Rn.mem_sum hp x hx;omega⟩,by omega⟩
def Sl.aEX{w wr:World}{b o n c:Nat}{ws:List Int}(h:Sl w (.slice (some ⟨b,o,none⟩) n c) (ws.map encI))(hx:Ext w wr)(i:Nat):wr.rangeAt b (o+i) (((ws.drop i).take 6).map encI):=by
 intro j v hj;rw[B3,YY]at hj;split at hj
 .rw[MA]at hj
  cases hw:ws[i+j]? with
  |none=>rw[hw]at hj;cases hj
  |some x=>rw[hw]at hj;obtain⟨b',o',ha,_,hc⟩:=h.Af hx hw;injection ha with ha;injection ha with h1 h2;subst h1 h2;rw[<-Nat.add_assoc]at hc;rw[hc];exact hj
 .cases hj
def lF{w:World}{a:Option Addr}{c:Nat}:(Instr.arrayAt 172 (.slice a 6 c)).run prog w=.ok (.pointer a) w:=by unfold Instr.arrayAt;rw[UF,X6 underlying172 w];rfl
end
end Go.Proofs.Enc
