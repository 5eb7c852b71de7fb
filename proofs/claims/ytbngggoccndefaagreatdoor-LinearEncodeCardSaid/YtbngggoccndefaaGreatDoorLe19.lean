/-
  Laid.
-/
import Derived.Test.YtbngggoccndefaaGreatDoorLe18
set_option maxHeartbeats 8000000
set_option maxRecDepth 100000
set_option linter.all false
namespace Go.Proofs.Enc
open Go.Proofs.Tryz
section
open Go.RowKit
def zH{P:Program}{ops:Array Oper}{Q:Exit->Act->World->Prop}{fuel:Nat}{listed:Array Bool}{a:Act}{w:World}(i:Nat){o:Oper}(hr:Region.ready .any ops listed=[i])(ho:ops[i]? =some o)
 (h:∀K':Act->World->Prop,(∀a w,wpAny P .any ops Q fuel (listed.setIfInBounds i true) a w->K' a w)->if Region.wanted o (yielded ops a.tmps)=true then Oper.wp P o a w K' Q else K' (a.put o.dst undef) w):wpAny P .any ops Q (fuel+1) listed a w:=
 wpAny_ready hr L0 (AllReady.cons ho h AllReady.nil)
def Sl.part{w:World}{b o n c:Nat}{l:List Value}(h:Sl w (.slice (some ⟨b,o,none⟩) n c) l)(i k c':Nat)(hk:k<=l.length)(hi:i<=k):Sl w (.slice (some ⟨b,o+i,none⟩) (k-i) c') ((l.take k).drop i):=by
 have hlen:((l.take k).drop i).length=k-i:=by rw[X1,J1];omega
 by_cases h0:k-i=0;·exact .inl ⟨U3 (by rw[hlen,h0]),_,_,by rw[h0]⟩
 .rcases h with⟨rfl,_⟩|⟨b',o',cap,he,hb,hc⟩;(·simp at hk;omega);·injection he with h1 h2 h3;injection h1 with h1;injection h1 with h1 h4;subst h1 h4;refine .inr ⟨b,o+i,c',by rw[hlen],hb,λj hj=> ?_⟩;rw[hlen]at hj;rw[Nat.add_assoc,hc (i+j) C0,MA,YY,G0 C0]
def ZkS(v:Value)(vs:List Int)(w:World)(hv:SlK w v (vs.map encI))(hl:vs.length<=400000):
 Calls prog 141 #[v] w (D5 (Cc.chars vs) w):=by
 obtain⟨j8,a,c,rfl,Yg⟩:=hv;rw[M0]at j8 Yg⊢;obtain⟨n,hn⟩:∃n,n=vs.length:=⟨_,rfl⟩;have HR:=B0 (Cc.chars.eq_1 vs);rw[<-hn]at j8 hl Yg⊢;rw[<-hn]at HR;have HN:=B0 hn;have HV:=B0 j8;generalize Cc.chars vs=res at*;clear j8 hn;go_enter func141,ntmps141;go_wp2_with fail;go_loop [9] (λt=>∃j:Nat,j<=n/\t=.int .i64 (j:Int)/\Hid (∀x∈vs.take j,0<=x/\x<=106)) (λt=>n-(intOf t).toNat)
 case atStart=>exact DC
 case round=>
 obtain⟨j,hj,rfl,HB⟩:=hrel;by_cases hlt:j<n
 .obtain⟨x,l9⟩:∃x,vs[j]? =some x:=⟨_,P0 X3⟩;obtain⟨b,o,ha,hb,hc⟩:=HV.out.Af (Ext.refl w) l9;subst ha;have Bx:(j:Int)<(n:Int):=C0;have Jp:=L1 l9;by_cases hx:0<=x/\x<=106;(·have Ch:Hid (∀y∈vs.take (j+1),0<=y/\y<=106):=B0 (λy hy=>by rw[Z5 l9]at hy;rcases E3.1 hy with h|h;(·exact HB.out y h);·rw[D3]at h;subst h;exact hx);obtain⟨b7,j0⟩:=hx;clear l9 Jp;exact nB);·have HF:Hid (res=([],3)):=B0 (by rw[HR.out,G0];rw[VK];exact⟨x,Jp,by simp;omega⟩);by_cases h1:x<0;(·clear hx l9 Jp;exact nC);·have h2:106<x:=C0;clear hx l9 Jp;exact nC
 obtain rfl:n=j:=by omega
 have Hy:Hid (∀x∈vs,0<=x/\x<=106):=B0 (λx hx=>HB.out x zI);have Aj:Hid (res=if n<3 then(([],7):List Int×Int)else if vs.getD 0 0<103\/105<vs.getD 0 0 then([],19)else if vs.getD (n-1) 0≠106 then([],20)else if vs.getD (n-2) 0≠Cc.Bk (vs.take (n-2))then([],8)else match Cc.runC (vs.getD 0 0-103).toNat false [] ((vs.take (n-2)).drop 1)with|none=>([],22)|some o=>(o,0)):=B0 (by refine HR.out.trans ((D0 ?_).trans rfl);rw[UW,WM];intro x hx;have:=Hy.out x hx;simp;omega);clear HR HB hlt hj;by_cases h3:n<3
 .rw[G0 h3]at Aj;have h3I:(n:Int)<3:=C0;exact JY
 rw[D0 h3]at Aj;have h3I:¬(n:Int)<3:=by omega
 obtain⟨x0,n9⟩:∃x,vs[0]? =some x:=⟨_,P0 G8⟩;obtain⟨b,o,ha,hb,Bc⟩:=HV.out.Af (Ext.refl w) n9;subst ha;rw[Nat.add_zero]at Bc;have e0:vs.getD 0 0=x0:=by rw[F1,n9];rfl
 rw[e0]at Aj;have Sb:=Hy.out x0 (L1 n9);have Mn:(0:Int)<(n:Int):=by omega
 have aGQ:n≠0:=by omega
 clear e0 n9;by_cases hs:x0<103\/105<x0
 .rw[G0 hs]at Aj;rcases hs with hs|hs;(·exact JY);·have Cz:¬x0<103:=C0;exact JY
 rw[D0 hs]at Aj;have s5:¬x0<103:=by omega
 have Cz:¬105<x0:=by omega
 clear hs;obtain⟨k1,Hr⟩:∃k,k=n-1:=⟨_,rfl⟩;obtain⟨k2,Dy⟩:∃k,k=n-2:=⟨_,rfl⟩;rw[<-Hr,<-Dy]at Aj;have aI3:(n:Int)-1=(k1:Int):=by omega
 have aGB:(n:Int)-2=(k2:Int):=by omega
 obtain⟨x1,b7⟩:∃x,vs[k1]? =some x:=⟨_,P0 G8⟩;obtain⟨x2,j0⟩:∃x,vs[k2]? =some x:=⟨_,P0 G8⟩;obtain⟨b',o',ha,_,Am⟩:=HV.out.Af (Ext.refl w) b7;injection ha with ha;injection ha with q1 q2;subst q1 q2;obtain⟨b',o',ha,_,IS⟩:=HV.out.Af (Ext.refl w) j0;injection ha with ha;injection ha with q1 q2;subst q1 q2;have e1:vs.getD k1 0=x1:=by rw[F1,b7];rfl
 have e2:vs.getD k2 0=x2:=by rw[F1,j0];rfl
 rw[e1,e2]at Aj;have n7:=Hy.out x2 (L1 j0);have aI5:(k1:Int)<(n:Int):=by omega
 have aI8:(k2:Int)<(n:Int):=by omega
 have aI1:k1<n:=by omega
 have aI6:k2<n:=by omega
 have aI7:k2<=c:=by omega
 have aGA:1<=k2:=by omega
 clear e1 e2 b7 j0 Hr Dy;by_cases p9:x1≠106
 .rw[G0 p9]at Aj;have z1:(x1==106)=false:=O0.2 p9;clear p9;exact JY
 rw[D0 p9]at Aj;obtain rfl:x1=106:=by omega
 clear p9;have hSL:Sl w (.slice (some ⟨b,o,none⟩) k2 c) ((vs.take k2).map encI):=by have:=HV.out.part 0 k2 c (by rw[M0,<-HN.out];omega) (R0 _);rw[B5,<-J8]at this;exact L3
 have Kd:=B0 hSL;have hCV:=B0 (λw' (hx:Ext w w')=>rO (.slice (some ⟨b,o,none⟩) k2 c) (vs.take k2) w' (hSL.ext hx) V6 (by rw[J1,<-HN.out];omega) (λx hx=>Hy.out x (I4 hx)));clear hSL;obtain⟨ck,Aq⟩:∃ck,ck=Cc.Bk (vs.take k2):=⟨_,rfl⟩;rw[<-Aq]at Aj hCV;clear Aq;have aDD:=B0 (λk=>(hCV.out (w.drewN k) ((Ext.refl _).drewN _)));by_cases Aq:x2≠ck
 .rw[G0 Aq]at Aj;have z2:(x2==ck)=false:=O0.2 Aq;clear Aq;go_wp2_with fail;go_quiet ((go_at_call 187;exact Calls.quiet_of_same ((aDD.out _).mono λ_ _ h=>⟨h.1,h.2.symm⟩)));have o7:Ext w (w.drewN nq):=(Ext.refl _).drewN _;generalize w.drewN nq=wq at*;go_wp2_with fail;go_ret2;rw[Aj.out];exact D5.bad _ _ _ o7
 rw[D0 Aq]at Aj;obtain rfl:x2=ck:=I9.1 Aq;clear Aq;obtain⟨s0,IC⟩:∃s:Nat,s=(x0-103).toNat:=⟨_,rfl⟩;have aGa:s0<=2:=by omega
 have aGb:2+x0-103=(s0:Int)+2:=by omega
 rw[<-IC]at Aj;obtain⟨ms,Jc⟩:∃ms,ms=(vs.take k2).drop 1:=⟨_,rfl⟩;rw[<-Jc]at Aj;have Ub:Sl w (.slice (some ⟨b,o+1,none⟩) (k2-1) (c-1)) (ms.map encI):=by have:=HV.out.part 1 k2 (c-1) (by rw[M0,<-HN.out];omega) aGA;rw[<-J8,<-C9,<-Jc]at this;exact L3
 have hST:=B0 (λw'=>MP x0 w' C0);obtain⟨r2,Aa⟩:∃r2,r2=(match Cc.runC s0 false [] ms with|none=>(([],22):List Int×Int)|some o=>(o,0)):=⟨_,rfl⟩;have Ot:Hid (res=r2):=B0 (Aj.out.trans (by rw[Aa]));have hIN:Hid (∀w',Ext w w'->Calls prog 216 #[.slice (some ⟨b,o+1,none⟩) (k2-1) (c-1),.int .i64 (2+x0-103)] w' (D5 r2 w')):=B0 (λw' hx=>by rw[Aa,aGb];exact Zg4 (.slice (some ⟨b,o+1,none⟩) (k2-1) (c-1)) ms s0 w' (Ub.ext hx) (by rw[Jc,X1,J1];omega) aGa (λx hx=>Hy.out x (I4 (X7 (Jc▸hx)))));clear Jc IC Aa Ub Aj;go_wp2_with fail;go_quiet ((go_at_call 187;exact Calls.quiet_of_same ((aDD.out _).mono λ_ _ h=>⟨h.1,h.2.symm⟩)));have o7:Ext w (w.drewN nq):=(Ext.refl _).drewN _;generalize w.drewN nq=wq at*;have hcq:=(o7.cell (p:=⟨b,o,none⟩) hb).trans Bc;have HC0:Hid (∀w',Ext wq w'->w'.cell? ⟨b,o,none⟩=some (.int .i64 x0)):=B0 (λw' hx=>(hx.cell (p:=⟨b,o,none⟩) (W1 hb o7.size)).trans hcq);go_wp2_with fail;have hkm:((k2:Int)-1).toNat=k2-1:=by omega
 have aGD:(1:Int)<=(k2:Int):=by omega
 have aGC:¬(k2:Int)<1:=by omega
 have aGE:(k2:Int)<=(c:Int):=by omega
 have hwk:IntKind.i64.wrap (k2:Int)=(k2:Int):=X4 _ C0;have aIl:max (k2:Int) 0=(k2:Int):=by omega
 refine ZG 12 1 rfl [55,56,57,58,59,60,61,62,63,64,65,2] [[],[],[1],[0,2],[],[4],[5],[6],[3,7],[8],[8],[9]] N0 N0 ?_;apply Zb
 .exact nD
 apply Zb
 .intro V w' hx hf;(with_reducible refine Zc ?_);intro A ρ hA hρ n6 o5;have h6:ρ (.tmp 6)=.int .i64 (n:Int):=(Y0 hρ _).trans (ZL hA 6 rfl);exact nE
 apply Zb
 .intro V w' hx hf;(with_reducible refine Zc ?_);intro A ρ hA hρ n6 o5;obtain⟨f56,_⟩:=hf;have h56:ρ (.tmp 56)=_:=(Y0 hρ _).trans ((Ze hA 56 rfl).trans f56);simp[Zh,go_sem,n6,↓IntWalk.iteOmega,Ext.refl,h56,aGB];rfl
 refine Zg (eqv (.slice (some ⟨b,o+1,none⟩) (k2-1) (c-1))) (Zz _) ?_ ?_
 .intro V w' hx hf;(with_reducible refine Zc ?_);intro A ρ hA hρ n6 o5;obtain⟨f55,f57,_⟩:=hf;have h55:ρ (.tmp 55)=_:=(Y0 hρ _).trans ((Ze hA 55 rfl).trans f55);have h57:ρ (.tmp 57)=_:=(Y0 hρ _).trans ((Ze hA 57 rfl).trans f57);simp[Zh,go_sem,n6,↓IntWalk.iteOmega,Ext.refl,h55,h57,hkm,aGD,aGC,aGE];show Value.slice _ _ _=Value.slice _ _ _;rw[hwk];rfl
 apply Zb
 .exact nD
 refine Zg (eqv (.pointer (some ⟨b,o,none⟩))) (Zz _) ?_ ?_
 .intro V w' hx hf;(with_reducible refine Zc ?_);intro A ρ hA hρ n6 o5;obtain⟨f59,_⟩:=hf;have Xx:ρ (.tmp 59)=_:=(Y0 hρ _).trans ((Ze hA 59 rfl).trans f59);simp[Zh,go_sem,n6,↓IntWalk.iteOmega,Ext.refl,Xx,Mn,aGQ];rfl
 refine Zg (eqv (.int .i64 x0)) (Zz _) ?_ ?_
 .intro V w' hx hf;(with_reducible refine Zc ?_);intro A ρ hA hρ n6 o5;obtain⟨f60,_⟩:=hf;have h60:ρ (.tmp 60)=_:=(Y0 hρ _).trans ((Ze hA 60 rfl).trans f60);have hcw:=HC0.out w' hx;simp[Zh,go_sem,n6,↓IntWalk.iteOmega,Ext.refl,h60,hcw];rfl
 refine Zg (eqv (.int .i64 (2+x0-103))) (Zz _) ?_ ?_
 .intro V w' hx hf;(with_reducible refine Zc ?_);intro A ρ hA hρ n6 o5;obtain⟨f61,_⟩:=hf;have h61:ρ (.tmp 61)=_:=(Y0 hρ _).trans ((Ze hA 61 rfl).trans f61);simp[Zh,go_sem,n6,o5,h61];exact(hST.out w').mono λe y8 ⟨he,hw⟩=>⟨_,he,hw▸Ext.refl _,rfl⟩
 refine Zg (λv w=>∃u,v=.tuple #[u,.int .i64 r2.2]/\SlK w u (r2.1.map encI)) (λ_ _ _ ⟨u,h1,h2⟩ hx=>⟨u,h1,h2.ext hx⟩) ?_ ?_
 .intro V w' hx hf;(with_reducible refine Zc ?_);intro A ρ hA hρ n6 o5;obtain⟨f58,f62,_⟩:=hf;have h58:ρ (.tmp 58)=_:=(Y0 hρ _).trans ((Ze hA 58 rfl).trans f58);have h62:ρ (.tmp 62)=_:=(Y0 hρ _).trans ((Ze hA 62 rfl).trans f62);simp[Zh,go_sem,n6,o5,h58,h62];exact(hIN.out w' (o7.trans hx)).mono λe y8 ⟨u,he,hs,hy⟩=>⟨_,he,hy,u,rfl,hs⟩
 refine Zg (λv w=>SlK w v (r2.1.map encI)) (λ_ _ _ h hx=>h.ext hx) ?_ ?_
 .intro V w' hx hf;(with_reducible refine Zc ?_);intro A ρ hA hρ n6 o5;obtain⟨f63,_⟩:=hf;obtain⟨u,hu,hs⟩:=f63;have h63:ρ (.tmp 63)=_:=(Y0 hρ _).trans ((Ze hA 63 rfl).trans hu);simp[Zh,go_sem,n6,Ext.refl,h63];exact hs
 refine Zg (eqv (.int .i64 r2.2)) (Zz _) ?_ ?_
 .intro V w' hx hf;(with_reducible refine Zc ?_);intro A ρ hA hρ n6 o5;obtain⟨f63,_⟩:=hf;obtain⟨u,hu,hs⟩:=f63;have h63:ρ (.tmp 63)=_:=(Y0 hρ _).trans ((Ze hA 63 rfl).trans hu);simp[Zh,go_sem,n6,Ext.refl,h63];rfl
 refine Zg (λv w=>SlK w v (r2.1.map encI)) (λ_ _ _ h hx=>h.ext hx) ?_ ?_
 .intro V w' hx hf;(with_reducible refine Zc ?_);intro A ρ hA hρ n6 o5;obtain⟨f64,_⟩:=hf;have h64:ρ (.tmp 64)=V 64:=(Y0 hρ _).trans (Ze hA 64 rfl);exact XP (hk:=by rw[h64];exact⟨Ext.refl _,f64⟩)
 intro V wT Gt hf;obtain⟨-,-,-,-,-,-,-,-,-,-,g65,g2,-⟩:=hf;simp only[Zs,N3,B6,Act.put,H9,O6,E6];have q65:V 65=_:=g65;rw[q65];refine zH 12 N0 rfl (λK hK=> ?_);go_simp;refine hK _ _ ?_;clear hK K;refine⟨rfl,?_⟩;have k2':SlK wT (V 2) (r2.1.map encI):=g2;have aGq:=o7.trans Gt;clear g65 g2 q65 Gt;go_wp2;go_ret2;rw[Ot.out];exact⟨_,rfl,k2',aGq⟩
def ZhA(w:World):(sizeOf 5).run prog w=.ok 1 w:=D1
def Zjo(w:World):(sizeOf 3).run prog w=.ok 1 w:=D1
def zK{w:World}{v:Value}{xs:List Value}(hs:SlK w v xs)(l h:Nat)(hl:l<=h)(hh:h<=xs.length):
 ∃v',(∀w',(Instr.slice 90 v (some (.int .i64 (l:Int))) (some (.int .i64 (h:Int))) none).run prog w'=.ok v' w')/\SlK w v' ((xs.drop l).take (h-l)):=by
 obtain⟨j8,a,c,rfl,hc⟩:=hs;refine⟨_,λw'=> ?_,DF j8 hc hl hh⟩;have e:prog.elem 90=5:=D1;have ht:prog.underlying 90=some (.slice (prog.elem 90)):=by rw[e];exact underlying90
 rw[run_slice_lh w' 90 a xs.length c ht .i64 .i64 (l:Int) (h:Int) C0 C0 C0,e,ZhA];rfl
def nI{w:World}{v:Value}{xs:List Value}(hs:SlK w v xs)(l:Nat)(hl:l<=xs.length):
 ∃v',(∀w',(Instr.slice 43 v (some (.int .i64 (l:Int))) none none).run prog w'=.ok v' w')/\SlK w v' (xs.drop l):=by
 obtain⟨j8,a,c,rfl,hc⟩:=hs;have h1:=DF j8 hc (l:=l) (h:=xs.length) hl (J0 _);rw[S1 (by rw[X1];exact J0 _)]at h1;refine⟨_,λw'=> ?_,h1⟩;have e:prog.elem 43=3:=D1;have ht:prog.underlying 43=some (.slice (prog.elem 43)):=by rw[e];exact underlying43
 rw[run_slice_l w' 43 a xs.length c ht .i64 (l:Int) C0 C0,e,Zjo];rfl
def Zhs(l:List Int):∀i:Nat,Lib.idxFrom l 256 i=if(Gs.run l).length=l.length then-1 else((i+(Gs.run l).length:Nat):Int):=by
 induction l with
 |nil=>intro i;rfl
 |cons c l ih=>intro i;by_cases h:c=256;(·subst h;simp[Lib.idxFrom,Gs.run]);·simp only[Lib.idxFrom,Gs.run,D0 h,B1];rw[ih];by_cases h1:(Gs.run l).length=l.length;(·have h2:(Gs.run l).length+1=l.length+1:=C0;simp only[G0 h1,G0 h2]);·have h2:¬(Gs.run l).length+1=l.length+1:=C0;simp only[D0 h1,D0 h2];omega
def ZjS{w:World}{v:Value}{cs:List Int}(hs:Sl w v (cs.map encI))(hn:cs.length<=1000000):
 ∀w',Ext w w'->Calls prog 217 #[v,.int .i64 256] w' λe y8=>e=.returned (.int .i64 (if(Gs.run cs).length=cs.length then-1 else((Gs.run cs).length:Int)))/\y8=w':=by
 intro w' hx;have Sz:=hs.ext hx;have e1:Lib.idxOf cs 256=(if(Gs.run cs).length=cs.length then-1 else((Gs.run cs).length:Int)):=by unfold Lib.idxOf;rw[Zhs,Nat.zero_add]
 rw[<-e1];rcases Sz with⟨h0,a,c,rfl⟩|⟨b,off,cap,rfl,hb,hc⟩
 .have:cs=[]:=UN;subst this;exact Tryz.slices_Index_int_empty a c 256 w'
 .rw[M0]at hc⊢;have:=Tryz.slices_Index_int b off cs.length cap cs 256 w' (J0 _) C0 (λj hj=>by rw[hc j hj,B3,F1,P0 hj];rfl);rw[J6]at this;exact L3
def ElAt(w:World)(b:Nat)(x:Gs.El):Prop:=w.heap[b]? =some (.cells #[encS x.1,encS x.2] 86 (0,0))
def ElAt.cells{w:World}{b:Nat}{x:Gs.El}(h:ElAt w b x):w.cell? ⟨b,0,none⟩=some (encS x.1)/\w.cell? ⟨b,1,none⟩=some (encS x.2):=by unfold ElAt at h;refine⟨?_,?_⟩;all_goals unfold World.cell?;rw[h];rfl
def ElAt.free{w:World}{b:Nat}{x:Gs.El}(h:ElAt w b x)(i:Nat):w.frozen? ⟨b,i,none⟩=false:=AZ h i
def ElAt.put{w:World}{b:Nat}{x:Gs.El}(h:ElAt w b x)(y:Gs.El):ElAt ((w.setCell ⟨b,0,none⟩ (encS y.1)).setCell ⟨b,1,none⟩ (encS y.2)) b y:=L6 (L6 h _) _
def ElAt.Wq{w:World}{b:Nat}{x:Gs.El}(h:ElAt w b x)(y:Gs.El):(w.setCell ⟨b,0,none⟩ (encS y.1)).cell? ⟨b,0,none⟩=some (encS y.1)/\((w.setCell ⟨b,0,none⟩ (encS y.1)).setCell ⟨b,1,none⟩ (encS y.2)).cell? ⟨b,1,none⟩=some (encS y.2):=
 ⟨TZ h L0,TZ (L6 h _) L0⟩
def ElAt.ext{w w':World}{b:Nat}{x:Gs.El}(h:ElAt w b x)(hx:Ext w w'):ElAt w' b x:=by unfold ElAt at h⊢;exact eS
def ZoJ(x:Gs.El×Nat×Int)(w:World)(e:Ending)(w':World):Prop:=e=.returned (.tuple #[.agg #[encS x.1.1,encS x.1.2],.int .i64 (x.2.1:Int),.int .i64 x.2.2])/\Ext w w'
def ZkO{c:Int}(h0:0<=c)(h1:c<=127):((Gs.byte c).toNat:Int)=c:=by unfold Gs.byte;rw[Int.emod_eq_of_lt h0 C0];exact eA
def Zoy{cs:List Int}{j:Nat}(h:j<(Gs.run cs).length):(Gs.run cs)[j]? =cs[j]? :=by
 rcases(KF cs).2 with e|⟨r,e⟩;·rw[e]
 ·(conv=>rhs;rw[e]);rw[WN h]
end
section
open Go.RowKit Go.WideMaps Go.Maps
def Zkh{c:List Int}{ai:List UInt8}{r:Gs.y7}(h0:(Gs.run c).length≠0)(hp:Gs.pre (Gs.text (Gs.run c))=some (ai,r)):
 (Gs.isFix r=true->(Gs.run c).length<ai.length+r.2.2.1.toNat->Gs.next c=(([],[]),0,10))/\
 (Gs.isFix r=true->¬(Gs.run c).length<ai.length+r.2.2.1.toNat->Gs.ver ai (((Gs.text (Gs.run c)).drop ai.length).take r.2.2.1.toNat)≠0->Gs.next c=(([],[]),0,Gs.ver ai (((Gs.text (Gs.run c)).drop ai.length).take r.2.2.1.toNat)))/\
 (Gs.isFix r=true->¬(Gs.run c).length<ai.length+r.2.2.1.toNat->Gs.ver ai (((Gs.text (Gs.run c)).drop ai.length).take r.2.2.1.toNat)=0->Gs.next c=((ai,((Gs.text (Gs.run c)).drop ai.length).take r.2.2.1.toNat),ai.length+r.2.2.1.toNat,0))/\
 (Gs.isFix r=false->Gs.ver ai ((Gs.text (Gs.run c)).drop ai.length)≠0->Gs.next c=(([],[]),0,Gs.ver ai ((Gs.text (Gs.run c)).drop ai.length)))/\
 (Gs.isFix r=false->Gs.ver ai ((Gs.text (Gs.run c)).drop ai.length)=0->(Gs.run c).length+1=c.length->Gs.next c=(([],[]),0,9))/\
 (Gs.isFix r=false->Gs.ver ai ((Gs.text (Gs.run c)).drop ai.length)=0->(Gs.run c).length+1≠c.length->Gs.next c=((ai,(Gs.text (Gs.run c)).drop ai.length),min ((Gs.run c).length+1) c.length,0)):=by
 unfold Gs.next;rw[D0 h0,hp];dsimp only;refine⟨λh1 h2=> ?_,λh1 h2 h3=> ?_,λh1 h2 h3=> ?_,λh1 h2=> ?_,λh1 h2 h3=> ?_,λh1 h2 h3=> ?_⟩
 .rw[G0 h1,G0 h2]
 .rw[G0 h1,D0 h2,G0 h3]
 .rw[G0 h1,D0 h2,D0 (by simpa using h3)]
 .rw[D0 (by rw[h1];simp),G0 h2]
 .rw[D0 (by rw[h1];simp),D0 YU,G0 h3]
 .rw[D0 (by rw[h1];simp),D0 YU,D0 h3]
def nJ{l a:List UInt8}{r:Gs.y7}(h:Gs.pre l=some (a,r)):a.length<=l.length/\Gs.Vg r/\a.length<=4:=by have h1:=eB h;exact⟨h1.2.2,VC h1.1,(XJ h1.1).2.1⟩
def Zl6(v:Value)(cs:List Int)(b:Nat)(w:World)(hd:Dir w b)(hv:SlK w v (cs.map encI))(hn:cs.length<=4096)(x7:cs.all Gs.okCh=true)(h0:cs≠ []):
 Calls prog 142 #[.map (some b),v] w (ZoJ (Gs.next cs) w):=by
 obtain⟨j8,av,cv,rfl,Cv⟩:=hv;rw[M0]at j8 Cv⊢;have IX:=B0 (ZjS j8 C0);have HN:=B0 (Eq.refl cs.length);have Ag:=B0 (eC x7);have Jv:=dZ cs;have HDV:=B0 (λ(w':World)(hx:Ext w w')(ai d:ByteArray)(h1:ai.size<=maxLen)(h2:d.size<=maxLen)=>CO ai d b w' (Dir.ext hd hx) h1 h2);have HPX:=B0 (λ(w':World)(hx:Ext w w')(s:ByteArray)(h1:s.size<=1000000)=>ZiV s b w' (Dir.ext hd hx) h1);have Kd:=B0 j8;have Gv:=B0 (Gs.next.eq_1 cs);obtain⟨b0,o0,hav,hbv,hq9⟩:=j8.at_ (k:=0) (by rw[M0];exact D8.2 h0);clear hq9;subst hav;have HCC:Hid (∀w',Ext w w'->∀j,j<(Gs.run cs).length->w'.cell? ⟨b0,o0+j,none⟩=some (.int .i64 ((Gs.run cs).getD j 0))):=B0 (λw' hx j hj=>by obtain⟨b1,o1,e1,_,hc⟩:=j8.at_ (k:=j) J5;injection e1 with e1;injection e1 with e1 e2;subst e1 e2;rw[hx.cell (p:=⟨b0,o0+j,none⟩) hbv,hc,X9,F1,Zoy hj,P0 C0];rfl);obtain⟨N,hN⟩:∃N,cs.length=N:=⟨_,rfl⟩;obtain⟨m,hm⟩:∃m,(Gs.run cs).length=m:=⟨_,rfl⟩;obtain⟨b9,hb9⟩:∃b9,b9=w.heap.size+1:=⟨_,rfl⟩;have HNS:=B0 (λ(h:(Gs.run cs).length≠0)(ai:List UInt8)(r:Gs.y7)(hp:Gs.pre (Gs.text (Gs.run cs))=some (ai,r))=>Zkh h hp);generalize j7:Gs.next cs=res at*;have hN0:0<N:=by rw[<-hN];exact MZ
 rw[hm]at Jv IX HCC Gv;rw[hN]at Jv hn Cv IX Kd⊢;clear HN hd j8 x7 h0 j7;have HM:=B0 hm;have HN:=B0 hN;clear hm hN;have E0:∀(A:World),ElAt (A.alloc (.cells #[.string ⟨#[]⟩,.string ⟨#[]⟩] 86)) A.heap.size ([],[]):=λA=>X2 _ _
 have HE0:=B0 (E0 w);clear E0;by_cases Km:m=0
 .rw[G0 Km]at Gv;subst Km;rw[D0 C0]at IX;have HQ:=B0 (HE0.out.Wq ([],[]));go_enter func142,ntmps142;go_wp2_with fail;refine(IX.out _ ((Ext.refl w).alloc _)).mono ?_;rintro e w1 ⟨rfl,rfl⟩;go_wp2;refine N4 (v:=.tuple #[.agg #[.string ⟨#[]⟩,.string ⟨#[]⟩],.int .i64 0,.int .i64 9]) (by simp[results,results142,go_sem]) rfl ⟨by rw[Gv.out];rfl,Xf⟩
 .rw[D0 Km]at Gv;have HNS:=B0 (HNS.out (by rw[HM.out];exact Km));have Be:((m:Int)==0)=false:=QJ;have Cl:(0:Int)<=(m:Int):=C0;have Gz:m<=4096:=C0;have IT:=J7 (P:=prog) 90 5 (.int .u8 0) 1 underlying90 N0 rfl .i64 .i64 m C0 C0;by_cases Wa:m=N
  .rw[G0 Wa]at IX;clear Km;subst Wa;go_enter func142,ntmps142;go_wp2_with fail;refine(IX.out _ ((Ext.refl w).alloc _)).mono ?_;rintro e w1 ⟨rfl,rfl⟩;go_wp2;clear IT;go_loopw [26] (λi wr=>∃j:Nat,j<=m/\i=.int .i64 (j:Int)/\wr.rowIs (w.heap.size+1) 5 m (λk=>if k<j then encB (Gs.byte ((Gs.run cs).getD k 0))else .int .u8 0)/\Ext (w.alloc (.cells #[.string ⟨#[]⟩,.string ⟨#[]⟩] 86)) wr) (λi _=>m-(intOf i).toNat);(case atStart=>exact nK);case round=>
    obtain⟨j,hj,rfl,k9,j3⟩:=hrel;by_cases hlt:j<m;(·exact QM)
    .obtain rfl:j=m:=by omega
     have n8:Ext w wr:=((Ext.refl w).alloc _).trans j3
     have p9:SlK wr (.slice (some ⟨w.heap.size+1,0,none⟩) j j) ((Gs.text (Gs.run cs)).map encB):=nL
     have Cv:=Zp p9.1
     have Bp:=B0 (HE0.out.ext j3)
     have IF:=B0 p9
     have Oj:(Gs.text (Gs.run cs)).length=j:=by rw[TY,HM.out]
     generalize Gs.text (Gs.run cs)=tx at*
     obtain⟨TX,hTX⟩:∃TX:ByteArray,TX=⟨tx.toArray⟩:=⟨_,rfl⟩
     have Ie:Hid (TX.data.toList=tx):=B0 (by rw[hTX])
     rw[<-hTX]at Cv
     have Rz:TX.size=j:=by rw[<-Za,Ie.out,Oj]
     have Cq:=B0 (HPX.out wr n8 TX C0)
     rw[Ie.out]at Cq
     have Gm:=B0 (And.intro Oj Rz)
     clear hTX p9 hj hlt Oj Rz k9 HPX IX Kd HCC Ag
     cases hp:Gs.pre tx with
     |none=>exact Q0
     |some q=>obtain⟨ai,r⟩:=q;rw[hp]at Cq;obtain⟨al,rok,al4⟩:=nJ hp;have Fo:=B0 (HNS.out ai r hp);obtain⟨ra,rb,rc,rd⟩:=r;obtain⟨k0,k3,l1,lh,h9,_⟩:=rok;dsimp only at k0 k3 l1 lh h9 Fo;obtain⟨H,rfl⟩:∃H:Nat,rc=(H:Int):=⟨rc.toNat,by omega⟩;rw[H6]at Fo;obtain⟨AI,Nc⟩:∃AI:ByteArray,AI.data.toList=ai:=⟨⟨ai.toArray⟩,rfl⟩;have Mu:Hid (encS ai=.string AI):=B0 (by rw[<-Nc,G9]);have Fq:ai.length=AI.size:=(by rw[<-Nc,Za]);rw[Fq]at al al4 Fo;have Bv:=B0 Nc;have hAj:AI.size<=j:=(by have:=Gm.out.1;omega);have HX:=B0 (λw=>MU (ra,rb,(H:Int),rd) w);rw[HM.out]at Fo;clear Nc Fq al hp Gv HNS k0 k3;cases hf:Gs.isFix (ra,rb,(H:Int),rd);(·have e0:((ra,rb,(H:Int),rd).2.1==(ra,rb,(H:Int),rd).2.2.1)=false:=hf;rw[e0]at HX;clear e0;obtain⟨vd,j8,Tb⟩:=zK IF.out AI.size j hAj zL;rw[<-C9,<-J8,S1 nM]at Tb;obtain⟨D,hD⟩:∃D:ByteArray,D.data.toList=tx.drop AI.size:=⟨⟨(tx.drop AI.size).toArray⟩,rfl⟩;have HD:Hid (encS (tx.drop AI.size)=.string D):=B0 (by rw[<-hD,G9]);have Ky:D.size<=4096:=nN;have Im:Hid (∀w',Ext wr w'->(convert 90 9 vd).run prog w'=.ok (.string D) w'):=B0 (λw' hx=>by have:=Zp (Tb.1.ext hx);rw[this,<-hD,Z0]);have Ae:=B0 (λw' hx=>HDV.out w' hx AI D O3 O3);rw[Bv.out,hD]at Ae;obtain⟨_,_,_,S4,S5,S6⟩:=Fo.out;have HS4:=B0 (S4 hf);have Nw:=B0 (S5 hf);have aA5:=B0 (S6 hf);generalize tx.drop AI.size=d at*;clear Fo hf S4 S5 S6 Tb hD;by_cases Bs:Gs.ver ai d=0;(·rw[Bs]at Ae;have Nw:=B0 (Nw.out Bs);have Fo:=B0 (aA5.out Bs);clear Bs HS4 aA5;have HR:Hid (res=((ai,d),j,0)):=B0 (by rw[Fo.out (by rw[HN.out];omega),HN.out,Nat.min_eq_right C0]);have Jq:min ((j:Int)+1) (j:Int)=(j:Int):=C0;go_wp2_with fail;refine Cq.out.mono ?_;rintro e w3 ⟨rfl,j4⟩;simp only[preV,ZI,Mu.out];go_wp2_with fail;refine(HX.out _).mono ?_;rintro e w4 ⟨rfl,j9⟩;have Di:Ext wr w4:=(j4.alloc _).trans j9;have Ei:=Bp.out.ext Di;obtain⟨g0,g1⟩:=Ei.cells;have f0:=Ei.free 0;have f1:=Ei.free 1;have c2:w4.cell? ⟨w3.heap.size,2,none⟩=some (.int .i64 (H:Int)):=QZ;have Dj:Ext w w4:=n8.trans Di;clear j4 j9;have aBB:=Im.out w4 Di;go_wp2_with fail;refine(Ae.out _ ((Dj.setCell (J0 _) _).setCell (J0 _) _)).mono ?_;rintro e w5 ⟨rfl,j5⟩;have Gp:=(Ei.put (ai,d)).ext JZ;obtain⟨i0,i1⟩:=Gp.cells;simp only[Mu.out,HD.out]at i0 i1;have f0:=Gp.free 0;have f1:=Gp.free 1;have Lh:Ext w w5:=((Dj.setCell (J0 _) _).setCell (J0 _) _).trans j5;have HQ:=B0 (Gp.Wq (ai,d));clear j5 Gp Ei g0 g1;go_wp2;obtain⟨p0,p1⟩:=HQ.out;refine N4 (v:=.tuple #[.agg #[.string AI,.string D],.int .i64 (j:Int),.int .i64 0]) nO rfl ⟨by rw[HR.out];simp only[Mu.out,HD.out],Xf⟩);·exact nP);·exact Qb
  .rw[D0 Wa]at IX;have hmN:m+1<=N:=C0;clear Km Wa;go_enter func142,ntmps142;go_wp2_with fail;refine(IX.out _ ((Ext.refl w).alloc _)).mono ?_;rintro e w1 ⟨rfl,rfl⟩;go_wp2;clear IT;go_loopw [26] (λi wr=>∃j:Nat,j<=m/\i=.int .i64 (j:Int)/\wr.rowIs (w.heap.size+1) 5 m (λk=>if k<j then encB (Gs.byte ((Gs.run cs).getD k 0))else .int .u8 0)/\Ext (w.alloc (.cells #[.string ⟨#[]⟩,.string ⟨#[]⟩] 86)) wr) (λi _=>m-(intOf i).toNat);(case atStart=>exact nK);case round=>
    obtain⟨j,hj,rfl,k9,j3⟩:=hrel;by_cases hlt:j<m;(·exact QM)
    .obtain rfl:j=m:=by omega
     have n8:Ext w wr:=((Ext.refl w).alloc _).trans j3
     have p9:SlK wr (.slice (some ⟨w.heap.size+1,0,none⟩) j j) ((Gs.text (Gs.run cs)).map encB):=nL
     have Cv:=Zp p9.1
     have Bp:=B0 (HE0.out.ext j3)
     have IF:=B0 p9
     have Oj:(Gs.text (Gs.run cs)).length=j:=by rw[TY,HM.out]
     generalize Gs.text (Gs.run cs)=tx at*
     obtain⟨TX,hTX⟩:∃TX:ByteArray,TX=⟨tx.toArray⟩:=⟨_,rfl⟩
     have Ie:Hid (TX.data.toList=tx):=B0 (by rw[hTX])
     rw[<-hTX]at Cv
     have Rz:TX.size=j:=by rw[<-Za,Ie.out,Oj]
     have Cq:=B0 (HPX.out wr n8 TX C0)
     rw[Ie.out]at Cq
     have Gm:=B0 (And.intro Oj Rz)
     clear hTX p9 hj hlt Oj Rz k9 HPX IX Kd HCC Ag
     cases hp:Gs.pre tx with
     |none=>exact Q0
     |some q=>obtain⟨ai,r⟩:=q;rw[hp]at Cq;obtain⟨al,rok,al4⟩:=nJ hp;have Fo:=B0 (HNS.out ai r hp);obtain⟨ra,rb,rc,rd⟩:=r;obtain⟨k0,k3,l1,lh,h9,_⟩:=rok;dsimp only at k0 k3 l1 lh h9 Fo;obtain⟨H,rfl⟩:∃H:Nat,rc=(H:Int):=⟨rc.toNat,by omega⟩;rw[H6]at Fo;obtain⟨AI,Nc⟩:∃AI:ByteArray,AI.data.toList=ai:=⟨⟨ai.toArray⟩,rfl⟩;have Mu:Hid (encS ai=.string AI):=B0 (by rw[<-Nc,G9]);have Fq:ai.length=AI.size:=(by rw[<-Nc,Za]);rw[Fq]at al al4 Fo;have Bv:=B0 Nc;have hAj:AI.size<=j:=(by have:=Gm.out.1;omega);have HX:=B0 (λw=>MU (ra,rb,(H:Int),rd) w);rw[HM.out]at Fo;clear Nc Fq al hp Gv HNS k0 k3;cases hf:Gs.isFix (ra,rb,(H:Int),rd);(·have e0:((ra,rb,(H:Int),rd).2.1==(ra,rb,(H:Int),rd).2.2.1)=false:=hf;rw[e0]at HX;clear e0;obtain⟨vd,j8,Tb⟩:=zK IF.out AI.size j hAj zL;rw[<-C9,<-J8,S1 nM]at Tb;obtain⟨D,hD⟩:∃D:ByteArray,D.data.toList=tx.drop AI.size:=⟨⟨(tx.drop AI.size).toArray⟩,rfl⟩;have HD:Hid (encS (tx.drop AI.size)=.string D):=B0 (by rw[<-hD,G9]);have Ky:D.size<=4096:=nN;have Im:Hid (∀w',Ext wr w'->(convert 90 9 vd).run prog w'=.ok (.string D) w'):=B0 (λw' hx=>by have:=Zp (Tb.1.ext hx);rw[this,<-hD,Z0]);have Ae:=B0 (λw' hx=>HDV.out w' hx AI D O3 O3);rw[Bv.out,hD]at Ae;obtain⟨_,_,_,S4,S5,S6⟩:=Fo.out;have HS4:=B0 (S4 hf);have Nw:=B0 (S5 hf);have aA5:=B0 (S6 hf);generalize tx.drop AI.size=d at*;clear Fo hf S4 S5 S6 Tb hD;by_cases Bs:Gs.ver ai d=0;(·rw[Bs]at Ae;have Nw:=B0 (Nw.out Bs);have Fo:=B0 (aA5.out Bs);clear Bs HS4 aA5;by_cases Sq:j+1=N;(·have HR:Hid (res=(([],[]),0,9)):=B0 (Nw.out (by rw[HN.out];exact Sq));have hji:(j:Int)+1=(N:Int):=C0;clear Nw Fo Sq hmN;go_wp2_with fail;refine Cq.out.mono ?_;rintro e w3 ⟨rfl,j4⟩;simp only[preV,ZI,Mu.out];go_wp2_with fail;refine(HX.out _).mono ?_;rintro e w4 ⟨rfl,j9⟩;have Di:Ext wr w4:=(j4.alloc _).trans j9;have Ei:=Bp.out.ext Di;obtain⟨g0,g1⟩:=Ei.cells;have f0:=Ei.free 0;have f1:=Ei.free 1;have c2:w4.cell? ⟨w3.heap.size,2,none⟩=some (.int .i64 (H:Int)):=QZ;have Dj:Ext w w4:=n8.trans Di;clear j4 j9;have aBB:=Im.out w4 Di;go_wp2_with fail;refine(Ae.out _ ((Dj.setCell (J0 _) _).setCell (J0 _) _)).mono ?_;rintro e w5 ⟨rfl,j5⟩;have Gp:=(Ei.put (ai,d)).ext JZ;obtain⟨i0,i1⟩:=Gp.cells;simp only[Mu.out,HD.out]at i0 i1;have f0:=Gp.free 0;have f1:=Gp.free 1;have Lh:Ext w w5:=((Dj.setCell (J0 _) _).setCell (J0 _) _).trans j5;have HQ:=B0 (Gp.Wq ([],[]));clear j5 Gp Ei g0 g1;go_wp2;obtain⟨p0,p1⟩:=HQ.out;refine N4 (v:=.tuple #[.agg #[.string ⟨#[]⟩,.string ⟨#[]⟩],.int .i64 0,.int .i64 9]) zM rfl ⟨by rw[HR.out];rfl,Xf⟩);·have HR:Hid (res=((ai,d),j+1,0)):=B0 (by rw[Fo.out (by rw[HN.out];exact Sq),HN.out,D7 C0]);obtain⟨Q,hQ⟩:∃Q,Q=j+1:=⟨_,rfl⟩;rw[<-hQ]at HR;have hji:(j:Int)+1=(Q:Int):=C0;have hQN:Q<N:=C0;have aIG:((Q:Int)==(N:Int))=false:=QJ;have hjQ:j<Q:=C0;have Jq:min (Q:Int) (N:Int)=(Q:Int):=C0;clear Nw Fo Sq hmN hQ;exact Qk);·exact nP);·exact Qb
def Zl7{c:List Int}{x:Gs.El}{k:Nat}(hc:c.all Gs.okCh=true)(h:Gs.next c=(x,k,0)):0<k/\k<=c.length:=⟨(AR hc h).2.1,(AR hc h).2.2.1⟩
def nQ(c:Int):Gs.okCh c=true↔(c=256\/(0<=c/\c<=127)):=by unfold Gs.okCh;simp
def Zlt(v:Value)(cs:List Int)(w:World)(hv:SlK w v (cs.map encI))(hn:cs.length<=9223372036854775807)(ht:ZQ w):
 Calls prog 80 #[v] w (ElsR (Gs.frChars cs) w):=by
 have HV:=B0 hv;obtain⟨j8,av,cv,rfl,Cv⟩:=hv;rw[M0]at Cv j8 HV⊢;have HI:=B0 (MT w ht);have HR:=B0 (Gs.frChars.eq_1 cs);generalize Gs.frChars cs=res at*;obtain⟨N,hN⟩:∃N,cs.length=N:=⟨_,rfl⟩;have HN:=B0 hN;have Kd:=B0 j8;rw[hN]at hn Cv HR HV Kd⊢;clear ht j8 hN;by_cases h1:4096<N
 .rw[G0 h1]at HR;go_enter func80,ntmps80;go_wp2;go_ret2;rw[HR.out];exact zN
 rw[D0 h1]at HR;have IU:N<=4096:=by omega
 clear h1 hn;obtain⟨Jf,Ik⟩:=res;go_enter func80,ntmps80;go_wp2;go_loop [17] (λt=>∃k:Nat,k<=N/\t=.int .i64 (k:Int)/\Hid ((cs.take k).all Gs.okCh=true)) (λt=>N-(intOf t).toNat)
 case atStart=>exact C7
 case round=>
  obtain⟨k,hk,rfl,Ff⟩:=hrel;by_cases hlt:k<N;(·obtain⟨c,Aq⟩:∃c,cs[k]? =some c:=⟨_,P0 SC⟩;obtain⟨bb,off,ha,hb,Eh⟩:=Kd.out.at_ (k:=k) (by rw[M0,HN.out];exact hlt);subst ha;have e1:(cs.map encI)[k]'(by rw[M0,HN.out];exact hlt)=.int .i64 c:=(by rw[X9];obtain⟨h2,h3⟩:=N1.1 Aq;rw[h3];rfl);rw[e1]at Eh;have Fp:Hid (cs.take (k+1)=cs.take k++[c]):=B0 (fD Aq);by_cases hc:Gs.okCh c=true;(·have HO:Hid ((cs.take (k+1)).all Gs.okCh=true):=B0 (by rw[Fp.out,OA,Ff.out];simp[hc]);rw[nQ]at hc;clear Aq e1 Ff Fp;by_cases aAO:c=256;(·subst aAO;clear hc;exact PH);·have Bc:0<=c:=C0;have Am:c<=127:=C0;have IS:(c !=256)=true:=(by simpa using aAO);clear hc;exact PH);·have HF:Hid ((Jf,Ik)=([],6)):=B0 (by rw[HR.out,G0];rw[WT];exact⟨c,L1 Aq,hc⟩);rw[nQ]at hc;have aAO:(c !=256)=true:=X0;have hr:=HF.out;simp only[Y2]at hr;obtain⟨rfl,rfl⟩:=hr;clear Aq e1 Ff Fp HF HR;by_cases Bc:c<0;(·clear hc;exact OI);·have aIO:0<=c:=C0;have Am:127<c:=C0;clear hc Bc;exact OI)
  .obtain rfl:k=N:=C0;have HA:Hid (cs.all Gs.okCh=true):=B0 (by rw[<-Ff.out,S1 KH]);rw[D0 (by rw[HA.out];exact Bool.noConfusion)]at HR;clear hk hlt Ff;by_cases h0:k=0;(·subst h0;have By:cs=[]:=U3 HN.out;rw[By,G0 L0]at HR;have hr:=HR.out;simp only[Y2]at hr;obtain⟨rfl,rfl⟩:=hr;exact OI)
   .obtain⟨c,cr,Ar⟩:∃c cr,cs=c::cr:=by
     cases cs with
     |nil=>exact absurd HN.out.symm h0
     |cons c cr=>exact⟨c,cr,rfl⟩
    obtain⟨bb,off,ha,hb,Eh⟩:=Kd.out.at_ (k:=0) zO;subst ha;have e1:(cs.map encI)[0]' zO=.int .i64 c:=(by rw[X9];simp[Ar,encI]);rw[e1,Nat.add_zero]at Eh;have Ew:((k:Int)==0)=false:=QJ;have Hr:0<k:=C0;have e2:cs.headD 0=c:=(by rw[Ar];rfl);have e3:cs.drop 1=cr:=(by rw[Ar];rfl);rw[e2,e3]at HR;have HCR:Hid (cr.all Gs.okCh=true/\cr.length+1=k):=B0 ⟨by have:=HA.out;rw[Ar,KC,P1]at this;exact this.2,by have:=HN.out;rw[Ar]at this;exact this⟩;by_cases aAO:c=256;(·subst aAO;rw[D0 L0]at HR;have Aw:=nI (by have:=HV.out;rw[<-HN.out]at this;exact this) 1 zO;obtain⟨v1,s5,aAh⟩:=Aw;rw[<-C9,e3]at aAh;clear e1 e2 e3 Ar HA;have aGd:=aAh;obtain⟨_,a1,c1,rfl,_⟩:=aGd;rw[M0]at s5 aAh;rw[HN.out]at s5;obtain⟨M,hM⟩:∃M,cr.length=M:=⟨_,rfl⟩;rw[hM]at s5 aAh HCR;have Tu:Hid (∀w',(Instr.slice 43 (.slice (some ⟨bb,off,none⟩) k cv) (some (.int .i64 1)) none none).run prog w'=.ok (.slice a1 M c1) w'):=B0 s5;have Cz:=Tu.out;clear s5;by_cases hM0:M=0;(·have Ah:k=1:=zP;rw[G0 Ah]at HR;have hr:=HR.out;simp only[Y2]at hr;obtain⟨rfl,rfl⟩:=hr;subst hM0;clear Ah Cv IU;exact OI);·have Ah:¬k=1:=zP;rw[D0 Ah]at HR;have hM1:((M:Int)==0)=false:=QJ;have hM2:M<=4096:=zP;have aDL:=B0 aAh;have Tr:=B0 hM;clear Ah aAh hM Cv;go_wp2_with fail;refine HI.out.mono ?_;rintro e W ⟨b,rfl,hd,Ds,Fa⟩;have Gv:=B0 (λ(w':World)(hx:Ext W w')(v:Value)(l:List Int)(h1:SlK w' v (l.map encI))(h2:l.length<=4096)(h3:l.all Gs.okCh=true)(h4:l≠ [])=>Zl6 v l b w' (Dir.ext hd hx) h1 h2 h3 h4);have aA6:=B0 (aDL.out.ext Fa);clear hd Cz HI Ds Eh;go_wp2;go_loopw [6,8] (λr v wr=>∃(l:List Int)(acc:List Gs.El)(n:Nat),SlK W r (l.map encI)/\l.length+acc.length<=4096/\EOwn wr W.heap.size v acc/\Hid (l.all Gs.okCh=true/\l.length<=n/\(Jf,Ik)=Gs.fromF n l acc)/\Ext W wr) (λr _ _=>match r with| .slice _ n _=>n|_=>0);(case atStart=>exact⟨cr,[],k,aA6.out,by have:=Tr.out;simp;omega,EOwn.nil _ _,B0 ⟨HCR.out.1,by have:=HCR.out.2;have:=Tr.out;omega,HR.out⟩,Ext.refl W⟩);case round=>obtain⟨l,acc,n,j8,o4,b8,Jt,hx⟩:=hrel;have HK:=B0 j8;have HK2:=B0 (j8.ext hx);obtain⟨_,ar,cc,rfl,Yg⟩:=j8;obtain⟨ao,co,rfl⟩:=b8.sl.form;rw[M0]at Yg HK HK2⊢;clear HR aDL aA6 Tr;by_cases Ty:l=[];(·subst Ty;have HF:Hid ((Jf,Ik)=(acc,0)):=B0 (by rw[Jt.out.2.2,ZjP]);have hr:=HF.out;simp only[Y2]at hr;obtain⟨rfl,rfl⟩:=hr;clear Jt HF;go_wp2;go_ret2;exact⟨_,rfl,b8.sl,Fa.trans hx⟩);·have hL0:0<l.length:=D8.2 Ty;obtain⟨p1,p2,p3⟩:=Jt.out;have H1:=B0 (Gv.out wr hx _ l HK2.out C0 p1 Ty);obtain⟨n',rfl⟩:∃n',n=n'+1:=⟨n-1,by omega⟩;rw[Gs.fromF,D0 Ty]at p3;have Xg:=B0 p3;have Cq:=B0 p1;have HPN:=B0 p2;have HNP:=B0 (λx k h=>Zl7 (c:=l) (x:=x) (k:=k) p1 h);clear p1 p2 p3 Jt;have Ks:=B0 (Eq.refl (Gs.next l));obtain⟨nx,hnx⟩:∃nx,Gs.next l=nx:=⟨_,rfl⟩;rw[hnx]at H1 Xg HNP;clear Ks;obtain⟨⟨xa,xd⟩,q,z⟩:=nx;dsimp only at Xg;by_cases hz:z=0;(·subst hz;rw[D0 L0]at Xg;obtain⟨q0,q1⟩:=HNP.out _ _ rfl;obtain⟨v2,Cz,aCc⟩:=nI HK.out q (by rw[M0];exact q1);rw[<-C9]at aCc;have aA6:=B0 aCc;obtain⟨_,a2,c2,rfl,_⟩:=aCc;rw[M0]at Cz aA6;have Re:Hid ((l.drop q).length=l.length-q):=B0 (X1);have Ag:Hid ((l.drop q).all Gs.okCh=true):=B0 (M1.2 λb hb=>M1.1 Cq.out b (X7 hb));obtain⟨l2,Ni⟩:∃l2,l.drop q=l2:=⟨_,rfl⟩;rw[Ni]at Cz aA6 Re Ag Xg;have HQ:=B0 (And.intro q0 q1);have Dh:(0:Int)<=(q:Int):=C0;clear HNP hnx q0 q1 Ni Gv;go_wp2_with fail;refine H1.out.mono ?_;rintro e w3 ⟨rfl,j4⟩;simp only[encS];have aC4:=b8.ext j4;have aEM:=hx.trans j4;clear j4 b8 hx H1;go_wp2_with (at_builtin;go_loud (refine qA rfl _ _ rfl W.heap.size _ _ rfl ((aC4.ext ((Ext.refl w3).alloc _)).ext ((Ext.refl _).alloc _)) _ (xa,xd) rfl ?_ ?_ C0 ?_ ?_));(·rfl);(·rfl);(·have:=aEM.size;exact X0);intro v5 w5 l6 j6;have j5:Ext W w5:=((aEM.alloc _).alloc _).l8 j6 aC4.low;clear j6 aC4;go_wp2;go_roundw;(case rel=>exact⟨l2,acc++[(xa,xd)],n',aA6.out,by have:=Re.out;have:=HQ.out;rw[S0];simp;omega,l6,B0 ⟨Ag.out,by have:=Re.out;have:=HQ.out;have:=HPN.out;omega,Xg.out⟩,j5⟩);case measure=>have h8:=Re.out;have h9:=HQ.out;show l2.length<l.length;omega);·rw[G0 hz]at Xg;have hr:=Xg.out;simp only[Y2]at hr;obtain⟨rfl,rfl⟩:=hr;have p8:(Ik==0)=false:=SF;clear hz Xg HNP hnx;go_wp2_with fail;refine H1.out.mono ?_;rintro e w3 ⟨rfl,j4⟩;simp only[encS];go_wp2;go_ret2;exact ElsR.err _ (Fa.trans ((hx.trans j4).alloc _)));·rw[G0 aAO]at HR;have hr:=HR.out;simp only[Y2]at hr;obtain⟨rfl,rfl⟩:=hr;have h2:(c !=256)=true:=(by simpa using aAO);clear e1 e2 e3 Ar HR HA;exact OI
end
section
namespace Cc
def chOf_ge{v:Int}(h:0<=v)(s:Nat):0<=chOf v s:=by unfold chOf;exact Y7
def step_ge{s s':Nat}{sh sh':Bool}{v:Int}{o:List Int}(h:stepC s sh v=some (s',sh',o))(hv:0<=v):(∀c∈o,0<=c)/\o.length<=2:=by
 unfold stepC at h;have one:∀ {a:Nat}{b:Bool}{x:Int},0<=x->some (a,b,[x])=some (s',sh',o)->(∀c∈o,0<=c)/\o.length<=2:=λhx e=>by injection e with e;injection e with _ e;injection e with _ e;subst e;exact⟨λc hc=>by rw[D3]at hc;subst hc;exact hx,by simp⟩
 have non:∀ {a:Nat}{b:Bool},some (a,b,[])=some (s',sh',o)->(∀c∈o,0<=c)/\o.length<=2:=λe=>by injection e with e;injection e with _ e;injection e with _ e;subst e;exact⟨(λc hc=>by cases hc),by simp⟩
 cases sh with
 |true=>rw[G0 rfl]at h;split at h;(·cases h);·exact one (chOf_ge hv _) h
 |false=>rw[D0 I0]at h;split at h;(·cases h);split at h;(·exact one I0 h);split at h;(·injection h with h;injection h with _ h;injection h with _ h;subst h;refine⟨λc hc=> ?_,by simp⟩;rcases E2.1 hc with rfl|hc;(·omega);·rw[D3]at hc;subst hc;omega);split at h;(·exact one (chOf_ge hv _) h);split at h;(·exact one I0 h);split at h;(·exact one I0 h);split at h;(·exact non h);split at h;(·exact non h);split at h;(·exact non h);split at h;(·exact non h);exact one I0 h
def run_ge:∀(vs:List Int)(s:Nat)(sh:Bool)(out o:List Int),runC s sh out vs=some o->(∀v∈vs,0<=v)->(∀c∈out,0<=c)->(∀c∈o,0<=c)/\o.length<=out.length+2*vs.length
 | [],s,sh,out,o,h,hv,ho=>by rw[runC]at h;split at h;(·cases h);·injection h with h;subst h;exact⟨ho,by omega⟩
 |v::vs,s,sh,out,o,h,hv,ho=>by
  rw[runC]at h
  cases hs:stepC s sh v with
  |none=>rw[hs]at h;cases h
  |some t=>obtain⟨s',h',x⟩:=t;rw[hs]at h;obtain⟨h1,h2⟩:=step_ge hs (hv v (C2 ..));obtain⟨h3,h4⟩:=run_ge vs s' h' (out++x) o h (λv hv'=>hv v (Y1 _ hv')) (λc hc=>by rcases E3.1 hc with hc|hc;(·exact ho c hc);·exact h1 c hc);refine⟨h3,?_⟩;rw[S0]at h4;exact DP
def chars_ge{vs cs:List Int}(h:chars vs=(cs,0)):(∀c∈cs,0<=c)/\cs.length<=2*vs.length:=by
 unfold chars at h;split at h;·exact P8
 rename_i h1;rw[UW,WM]at h1;have hv:∀v∈vs,0<=v:=λv hv=>by have:=h1 v hv;exact W6
 split at h;·exact P8
 split at h;·exact P8
 split at h;·exact P8
 split at h;·exact P8
 split at h;·exact P8
 .rename_i o ho;injection h with h _;subst h;obtain⟨h2,h3⟩:=run_ge _ _ _ _ _ ho (λv hv'=>hv v (I4 (X7 hv'))) (λc hc=>by cases hc);refine⟨h2,?_⟩;rw[X1,J1,I3]at h3;omega
def vals_len:∀(n:Nat)(w l:List Int),valsGo n w=some l->l.length=n
 |0,w,l,h=>by injection h with h;subst h;rfl
 |n+1,w,l,h=>by
  rw[valsGo]at h;split at h;(·cases h)
  .cases hr:valsGo n (w.drop 6)with
   |none=>rw[hr]at h;cases h
   |some r=>rw[hr]at h;injection h with h;subst h;rw[B1,vals_len n _ r hr]
def dec_ge{row:List Bool}{cs:List Int}(h:dec row=(cs,0)):(∀c∈cs,0<=c)/\cs.length<=(Rn.widths row).length:=by
 unfold dec at h;split at h;·exact P8
 split at h;·exact P8
 split at h;·exact P8
 rename_i hw;split at h;·exact P8
 split at h;·exact P8
 .rename_i vs hv;obtain⟨h1,h2⟩:=chars_ge h;refine⟨h1,?_⟩;rw[S0,vals_len _ _ _ hv]at h2;simp only[B1,I3]at h2;omega
end Cc
end
section
open Go.RowKit
def Zht(l:List UInt8)(c:UInt8):∀k,k<l.length->(∀i,i<k->l.getD i 0≠c)->l.getD k 0=c->Lib.indexByte l c=(k:Int):=by
 induction l with
 |nil=>intro k hk;simp at hk
 |cons b l ih=>
  intro k hk Bz he
  cases k with
  |zero=>simp only[SR]at he;simp[Lib.indexByte,he]
  |succ k=>have hb:¬b=c:=(by have:=Bz 0 C0;exact I6);have:=ih k (by simpa using hk) (λi hi=>by have:=Bz (i+1) C0;simpa using this) (by simpa using he);simp only[Lib.indexByte,I1,D0 hb,this];rw[D0 C0];omega
def Zj1(l:List UInt8)(c:UInt8)(h:∀i,i<l.length->l.getD i 0≠c):Lib.indexByte l c= -1:=by
 induction l with
 |nil=>rfl
 |cons b l ih=>have hb:¬b=c:=(by have:=h 0 L0;exact I6);have:=ih (λi hi=>by have:=h (i+1) OK;simpa using this);simp[Lib.indexByte,hb,this]
def ZnO(s:ByteArray)(i:Nat)(h:i<s.size):s.data.toList.getD i 0=s[i]:=by
 have h':i<s.data.toList.length:=by rw[Za];exact h
 rw[F1,P0 h'];rfl
def Zpc(a b:UInt8)(h:a≠b):((a.toNat:Int)==(b.toNat:Int))=false:=by rw[O0];intro e;exact h (V4.1 C0)
def zT(s:ByteArray)(c:UInt8)(w:World)(hs:s.size<=9223372036854775807):
 Calls prog 198 #[.string s,.int .u8 (c.toNat:Int)] w λe w'=>e=.returned (.int .i64 (Lib.indexByte s.data.toList c))/\w=w':=by
 go_enter func198,ntmps198;go_wp2;go_loop [5] (λi=>∃j:Nat,j<=s.size/\i=.int .i64 (j:Int)/\Hid (∀i,i<j->s.data.toList.getD i 0≠c)) (λi=>s.size-(intOf i).toNat)
 case atStart=>exact⟨0,R0 _,rfl,λi hi=>by omega⟩
 case round=>obtain⟨j,hj,rfl,Bz⟩:=hrel;by_cases hlt:j<s.size;(·have hg:=ZnO s j hlt;by_cases he:s[j]=c;(·have HR:=B0 (Zht s.data.toList c j VE Bz.out (by rw[hg];exact he));have hb:((s[j].toNat:Int)==(c.toNat:Int))=true:=(by rw[he];simp);clear he hg;exact MO);·(have HN:Hid (∀i,i<j+1->s.data.toList.getD i 0≠c):=λi hi=>by by_cases e:i=j;(·subst e;rw[hg];exact he);·exact Bz.out i C0);have hb:=Zpc _ _ he;clear he hg;go_wp2;go_round;(case rel=>exact⟨j+1,by omega,by go_num,HN⟩);case measure=>exact QH);·obtain rfl:j=s.size:=C0;have HR:=B0 (Zj1 s.data.toList c (by rw[Za];exact Bz.out));clear hj hlt;exact MO
def zV(c:UInt8)(w:World):
 Calls prog 198 #[.string ⟨#[48,49,50,51,52,53,54,55,56,57,65,66,67,68,69,70,71,72,73,74,75,76,77,78,79,80,81,82,83,84,85,86,87,88,89,90,45,46,32,36,47,43,37]⟩,.int .u8 (c.toNat:Int)] w λe w'=>e=.returned (.int .i64 (Cd.Hd c))/\w=w':=
 zT _ c w I0
end
end Go.Proofs.Enc
