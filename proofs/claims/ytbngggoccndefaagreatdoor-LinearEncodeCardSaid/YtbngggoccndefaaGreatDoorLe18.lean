/-
  Laid.
-/
import Derived.Test.YtbngggoccndefaaGreatDoorLe17
set_option maxHeartbeats 8000000
set_option maxRecDepth 100000
set_option linter.all false
section
namespace Go.Proofs.Enc
open Go.Proofs.Tryz
open Go.RowKit
def ZkH(s:ByteArray)(h8:s.size=8)(hd:Ea.o6 s.data.toList=true)(w:World):
 Calls prog 123 #[.int .i64 2,.string s] w (ZM (Ea.sym8 s.data.toList) w):=by
 have aBi:8<=s.size:=by omega
 have o4:s.size<=8:=by omega
 have Dp:=B0 (λw=>ZE ⟨#[49,48,49]⟩ Ea.gd rfl I0 w);have Tr:=B0 (λw=>ZE ⟨#[48,49,48,49,48]⟩ Ea.md rfl I0 w);have Gl:=B0 (λw=>XQ (s.extract 0 4) ⟨#[48,48,48,48]⟩ ⟨#[]⟩ [0,0,0,0] [] (by rw[Zx];exact Ea.Gx hd 4) rfl I0 rfl JH W4 I0 w);have Gd:=B0 (λw=>XQ (s.extract 4 s.size) ⟨#[50,50,50,50]⟩ ⟨#[]⟩ [2,2,2,2] [] (by rw[Z8];exact Ea.Gn hd 4) rfl I0 rfl JH W4 I0 w);rw[Zx]at Gl;rw[Z8]at Gd;have l1:(Ea.drw [] (s.data.toList.take 4) [0,0,0,0]).length=28:=Ea.drw4_len (Ea.Gx hd 4) (by rw[J1,Za];omega) rfl I0;have l2:(Ea.drw [] (s.data.toList.drop 4) [2,2,2,2]).length=28:=Ea.drw4_len (Ea.Gn hd 4) TP rfl I0;have HE:=B0 (Ea.sym8.eq_1 s.data.toList);generalize Ea.sym8 s.data.toList=res at*;generalize Ea.drw [] (s.data.toList.take 4) [0,0,0,0]=ra at*;generalize Ea.drw [] (s.data.toList.drop 4) [2,2,2,2]=rb at*;have Dn:Hid ((List.flatten [Ea.gd,ra,Ea.md,rb,Ea.gd]).length<=1000000):=B0 xY;have Ip:Hid (List.flatten [Ea.gd,ra,Ea.md,rb,Ea.gd]=res):=B0 JI;clear HE l1 l2 hd h8;go_enter func123,ntmps123;go_wp2_with fail;refine ZG 11 1 rfl [8,9,10,11,12,13,14,15,16,17,18] [[],[],[1],[2],[],[],[5],[6],[],[0,3,4,7,8],[9]] N0 N0 ?_;refine Zg (λv w=>Own 4 w 0 v (Ea.gd.map encT)) (λ_ _ _ h hx=>h.ext hx) ?_ ?_
 .exact QI
 apply Zb
 .exact QC
 apply Zb
 .intro V w' hx hf;(with_reducible refine Zc ?_);intro A ρ hA hρ n6 o5;obtain⟨f9,_⟩:=hf;have h9:ρ (.tmp 9)=_:=(Y0 hρ _).trans ((Ze hA 9 rfl).trans f9);simp[Zh,go_sem,n6,↓IntWalk.iteOmega,Ext.refl,h9];rfl
 refine Zg (λv w=>Own 4 w 0 v (ra.map encT)) (λ_ _ _ h hx=>h.ext hx) ?_ ?_
 .intro V w' hx hf;(with_reducible refine Zc ?_);intro A ρ hA hρ n6 o5;obtain⟨f10,_⟩:=hf;have h10:ρ (.tmp 10)=_:=(Y0 hρ _).trans ((Ze hA 10 rfl).trans f10);simp[Zh,go_sem,n6,o5,h10];exact mL
 refine Zg (λv w=>Own 4 w 0 v (Ea.md.map encT)) (λ_ _ _ h hx=>h.ext hx) ?_ ?_
 .exact xZ
 apply Zb
 .exact QC
 apply Zb
 .intro V w' hx hf;(with_reducible refine Zc ?_);intro A ρ hA hρ n6 o5;obtain⟨f13,_⟩:=hf;have Fe:ρ (.tmp 13)=_:=(Y0 hρ _).trans ((Ze hA 13 rfl).trans f13);simp[Zh,go_sem,n6,↓IntWalk.iteOmega,Ext.refl,Fe];rfl
 refine Zg (λv w=>Own 4 w 0 v (rb.map encT)) (λ_ _ _ h hx=>h.ext hx) ?_ ?_
 .intro V w' hx hf;(with_reducible refine Zc ?_);intro A ρ hA hρ n6 o5;obtain⟨f14,_⟩:=hf;have h14:ρ (.tmp 14)=_:=(Y0 hρ _).trans ((Ze hA 14 rfl).trans f14);simp[Zh,go_sem,n6,o5,h14];exact mM
 refine Zg (λv w=>Own 4 w 0 v (Ea.gd.map encT)) (λ_ _ _ h hx=>h.ext hx) ?_ ?_
 .exact QI
 refine Zg (λv w=>YH w v [Ea.gd,ra,Ea.md,rb,Ea.gd]) (λ_ _ _ h hx=>h.ext hx) ?_ ?_
 .intro V w' hx hf;(with_reducible refine Zc ?_);intro A ρ hA hρ n6 o5;obtain⟨f8,f11,f12,f15,f16,_⟩:=hf;have h8:ρ (.tmp 8)=V 8:=(Y0 hρ _).trans (Ze hA 8 rfl);have Mc:ρ (.tmp 11)=V 11:=(Y0 hρ _).trans (Ze hA 11 rfl);have Kx:ρ (.tmp 12)=V 12:=(Y0 hρ _).trans (Ze hA 12 rfl);have Xs:ρ (.tmp 15)=V 15:=(Y0 hρ _).trans (Ze hA 15 rfl);have Xt:ρ (.tmp 16)=V 16:=(Y0 hρ _).trans (Ze hA 16 rfl);have k8:Own 4 w' 0 (V 8) _:=f8;obtain⟨_,a8,c8,e8,_⟩:=k8.IW;have h8:=h8.trans e8;rw[e8,M0]at k8;have k11:Own 4 w' 0 (V 11) _:=f11;obtain⟨_,a11,c11,e11,_⟩:=k11.IW;have Mc:=Mc.trans e11;rw[e11,M0]at k11;have k12:Own 4 w' 0 (V 12) _:=f12;obtain⟨_,a12,c12,e12,_⟩:=k12.IW;have Kx:=Kx.trans e12;rw[e12,M0]at k12;have k15:Own 4 w' 0 (V 15) _:=f15;obtain⟨_,a15,c15,e15,_⟩:=k15.IW;have Xs:=Xs.trans e15;rw[e15,M0]at k15;have k16:Own 4 w' 0 (V 16) _:=f16;obtain⟨_,a16,c16,e16,_⟩:=k16.IW;have Xt:=Xt.trans e16;rw[e16,M0]at k16;simp[Zh,go_sem,h8,Mc,Kx,Xs,Xt];exact⟨(Ext.refl w').alloc _,T7 w' _ [Ea.gd,ra,Ea.md,rb,Ea.gd] _ rfl L0 (λi hi=>by
   have Eu:i=0\/i=1\/i=2\/i=3\/i=4:=U7
   rcases Eu with rfl|rfl|rfl|rfl|rfl
   .exact k8
   .exact k11
   .exact k12
   .exact k15
   .exact k16
   )⟩
 refine Zg (λv x=>Own 4 x w.heap.size v (res.map encT)) (λ_ _ _ h hx=>h.ext hx) ?_ ?_
 .intro V w' hx hf;(with_reducible refine Zc ?_);intro A ρ hA hρ n6 o5;obtain⟨f17,_⟩:=hf;have h17:ρ (.tmp 17)=V 17:=(Y0 hρ _).trans (Ze hA 17 rfl);simp[Zh,go_sem,o5,h17];exact(ZV _ [Ea.gd,ra,Ea.md,rb,Ea.gd] w' f17 L0 Dn.out).mono λe y8 ⟨v,he,ho,hy⟩=>⟨v,he,hy,by rw[<-Ip.out];exact ho.mono hx.size⟩
 intro V wT Gt hf;obtain⟨g8,g9,g10,g11,g12,g13,g14,g15,g16,g17,g18,_⟩:=hf;refine OG 11 18 4 _ N0 rfl rfl (.inr rfl) N0 rfl rfl ?_;simp only[Zs,N3,B6,Act.put,H9,O6,E6];have HO:Own 4 wT w.heap.size (V 18) (List.map encT res):=g18;clear Ip Dn Dp Tr Gl Gd;go_wp2;go_ret;exact⟨_,rfl,HO,Gt⟩
end Go.Proofs.Enc
namespace Go.Proofs.Enc
open Go.Proofs.Tryz
open Go.RowKit
def ZkJ(s:ByteArray)(h8:s.size=8)(hd:Ea.o6 s.data.toList=true)(hy:Ea.dv s.data.toList 0<2)(w:World):
 Calls prog 123 #[.int .i64 4,.string s] w (ZM (Ea.symE s.data.toList) w):=by
 have aBi:8<=s.size:=by omega
 have o4:s.size<=8:=by omega
 have An:0<s.size:=by omega
 have hz7:7<s.size:=by omega
 obtain⟨d0,e0,l0,v0⟩:=N8 hd 0 An;obtain⟨Ew,Gj,Mj,IC⟩:=M8 e0 l0;obtain⟨d7,e7,l7,v7⟩:=N8 hd 7 hz7;obtain⟨hk7,hu7,hi7,hs7⟩:=M8 e7 l7;rw[v0]at hy;have Dp:=B0 (λw=>ZE ⟨#[49,48,49]⟩ Ea.gd rfl I0 w);have HME:=B0 (λw=>ZE ⟨#[48,49,48,49,48,49]⟩ Ea.eE rfl I0 w);have Hu:(Ea.Fj d0 d7).length=6/\∀x∈Ea.Fj d0 d7,x<2:=⟨(Ea.aBq ⟨d0,hy⟩ ⟨d7,by omega⟩).1,(Ea.aBq ⟨d0,hy⟩ ⟨d7,by omega⟩).2.1⟩;obtain⟨SE,Pc⟩:∃SE,Ea.bS (zS (Ea.Fj d0 d7))=SE:=⟨_,rfl⟩;have Iw:=B0 (λw=>Zjv d0 d7 hy C0 w);rw[Pc]at Iw;have Gl:=B0 (λw=>XQ (s.extract 1 7) SE ⟨#[]⟩ (Ea.Fj d0 d7) [] zB JJ (λx hx=>by have:=Hu.2 x hx;omega) rfl zC W4 I0 w);rw[Zr]at Gl;have l1:(Ea.drw [] ((s.data.toList.drop 1).take (7-1)) (Ea.Fj d0 d7)).length=42:=Ea.drw6_len (Ea.Gx (Ea.Gn hd 1) _) PO Hu.1 (λx hx=>by have:=Hu.2 x hx;omega);have HE:=B0 (Ea.symE.eq_1 s.data.toList);rw[v0,v7]at HE;generalize Ea.symE s.data.toList=res at*;generalize Ea.drw [] ((s.data.toList.drop 1).take (7-1)) (Ea.Fj d0 d7)=ra at*;have Dn:Hid ((List.flatten [Ea.gd,ra,Ea.eE]).length<=1000000):=B0 (by simp[Ea.gd,Ea.eE,Ea.bits];omega);have Ip:Hid (List.flatten [Ea.gd,ra,Ea.eE]=res):=B0 JI;clear HE l1 hd h8 Pc Hu e0 v0 e7 v7;go_enter func123,ntmps123;go_wp2_with fail;refine ZG 16 1 rfl [21,22,23,24,25,26,27,28,29,30,31,32,33,34,35,36] [[],[],[1],[],[3],[4],[5],[],[7],[8],[9],[6,10],[2,11],[],[0,12,13],[14]] N0 N0 ?_;refine Zg (λv w=>Own 4 w 0 v (Ea.gd.map encT)) (λ_ _ _ h hx=>h.ext hx) ?_ ?_
 .exact QI
 apply Zb
 .exact QC
 apply Zb
 .intro V w' hx hf;(with_reducible refine Zc ?_);intro A ρ hA hρ n6 o5;obtain⟨f22,_⟩:=hf;have h22:ρ (.tmp 22)=_:=(Y0 hρ _).trans ((Ze hA 22 rfl).trans f22);simp[Zh,go_sem,n6,↓IntWalk.iteOmega,Ext.refl,h22];rfl
 apply Zb
 .exact QC
 apply Zb
 .intro V w' hx hf;(with_reducible refine Zc ?_);intro A ρ hA hρ n6 o5;obtain⟨f24,_⟩:=hf;have h24:ρ (.tmp 24)=_:=(Y0 hρ _).trans ((Ze hA 24 rfl).trans f24);simp[Zh,go_sem,n6,↓IntWalk.iteOmega,Ext.refl,h24,Ew];rfl
 apply Zb
 .intro V w' hx hf;(with_reducible refine Zc ?_);intro A ρ hA hρ n6 o5;obtain⟨f25,_⟩:=hf;have Xu:ρ (.tmp 25)=_:=(Y0 hρ _).trans ((Ze hA 25 rfl).trans f25);simp[Zh,go_sem,n6,Ext.refl,Xu,Gj,IC];rfl
 apply Zb
 .intro V w' hx hf;(with_reducible refine Zc ?_);intro A ρ hA hρ n6 o5;obtain⟨f26,_⟩:=hf;have h26:ρ (.tmp 26)=_:=(Y0 hρ _).trans ((Ze hA 26 rfl).trans f26);simp[Zh,go_sem,Ext.refl,h26,Mj];rfl
 apply Zb
 .exact QC
 apply Zb
 .intro V w' hx hf;(with_reducible refine Zc ?_);intro A ρ hA hρ n6 o5;obtain⟨f28,_⟩:=hf;have h28:ρ (.tmp 28)=_:=(Y0 hρ _).trans ((Ze hA 28 rfl).trans f28);simp[Zh,go_sem,n6,↓IntWalk.iteOmega,Ext.refl,h28,hk7];rfl
 apply Zb
 .intro V w' hx hf;(with_reducible refine Zc ?_);intro A ρ hA hρ n6 o5;obtain⟨f29,_⟩:=hf;have h29:ρ (.tmp 29)=_:=(Y0 hρ _).trans ((Ze hA 29 rfl).trans f29);simp[Zh,go_sem,n6,Ext.refl,h29,hu7,hs7];rfl
 apply Zb
 .intro V w' hx hf;(with_reducible refine Zc ?_);intro A ρ hA hρ n6 o5;obtain⟨f30,_⟩:=hf;have h30:ρ (.tmp 30)=_:=(Y0 hρ _).trans ((Ze hA 30 rfl).trans f30);simp[Zh,go_sem,Ext.refl,h30,hi7];rfl
 refine Zg (eqv (.string SE)) (Zz _) ?_ ?_
 .intro V w' hx hf;(with_reducible refine Zc ?_);intro A ρ hA hρ n6 o5;obtain⟨f27,f31,_⟩:=hf;have h27:ρ (.tmp 27)=_:=(Y0 hρ _).trans ((Ze hA 27 rfl).trans f27);have h31:ρ (.tmp 31)=_:=(Y0 hρ _).trans ((Ze hA 31 rfl).trans f31);simp[Zh,go_sem,o5,h27,h31];exact mN
 refine Zg (λv w=>Own 4 w 0 v (ra.map encT)) (λ_ _ _ h hx=>h.ext hx) ?_ ?_
 .intro V w' hx hf;(with_reducible refine Zc ?_);intro A ρ hA hρ n6 o5;obtain⟨f23,f32,_⟩:=hf;have h23:ρ (.tmp 23)=_:=(Y0 hρ _).trans ((Ze hA 23 rfl).trans f23);have h32:ρ (.tmp 32)=_:=(Y0 hρ _).trans ((Ze hA 32 rfl).trans f32);simp[Zh,go_sem,n6,o5,h23,h32];exact mL
 refine Zg (λv w=>Own 4 w 0 v (Ea.eE.map encT)) (λ_ _ _ h hx=>h.ext hx) ?_ ?_
 .intro V w' hx hf;(with_reducible refine Zc ?_);intro A ρ hA hρ n6 o5;simp[Zh,go_sem,n6,o5];exact(HME.out w').mono λe y8 ⟨v,he,ho,hy⟩=>⟨v,he,hy,ho.mono (R0 _)⟩
 refine Zg (λv w=>YH w v [Ea.gd,ra,Ea.eE]) (λ_ _ _ h hx=>h.ext hx) ?_ ?_
 .intro V w' hx hf;(with_reducible refine Zc ?_);intro A ρ hA hρ n6 o5;obtain⟨f21,f33,f34,_⟩:=hf;have h21:ρ (.tmp 21)=V 21:=(Y0 hρ _).trans (Ze hA 21 rfl);have Xv:ρ (.tmp 33)=V 33:=(Y0 hρ _).trans (Ze hA 33 rfl);have h34:ρ (.tmp 34)=V 34:=(Y0 hρ _).trans (Ze hA 34 rfl);have k21:Own 4 w' 0 (V 21) _:=f21;obtain⟨_,a21,c21,e21,_⟩:=k21.IW;have h21:=h21.trans e21;rw[e21,M0]at k21;have k33:Own 4 w' 0 (V 33) _:=f33;obtain⟨_,a33,c33,e33,_⟩:=k33.IW;have Xv:=Xv.trans e33;rw[e33,M0]at k33;have k34:Own 4 w' 0 (V 34) _:=f34;obtain⟨_,a34,c34,e34,_⟩:=k34.IW;have h34:=h34.trans e34;rw[e34,M0]at k34;simp[Zh,go_sem,h21,Xv,h34];exact⟨(Ext.refl w').alloc _,T7 w' _ [Ea.gd,ra,Ea.eE] _ rfl L0 (λi hi=>by
   have Eu:i=0\/i=1\/i=2:=U7
   rcases Eu with rfl|rfl|rfl
   .exact k21
   .exact k33
   .exact k34
   )⟩
 refine Zg (λv x=>Own 4 x w.heap.size v (res.map encT)) (λ_ _ _ h hx=>h.ext hx) ?_ ?_
 .intro V w' hx hf;(with_reducible refine Zc ?_);intro A ρ hA hρ n6 o5;obtain⟨f35,_⟩:=hf;have h35:ρ (.tmp 35)=V 35:=(Y0 hρ _).trans (Ze hA 35 rfl);simp[Zh,go_sem,o5,h35];exact(ZV _ [Ea.gd,ra,Ea.eE] w' f35 L0 Dn.out).mono λe y8 ⟨v,he,ho,hy⟩=>⟨v,he,hy,by rw[<-Ip.out];exact ho.mono hx.size⟩
 intro V wT Gt hf;obtain⟨g21,g22,g23,g24,g25,g26,g27,g28,g29,g30,g31,g32,g33,g34,g35,g36,_⟩:=hf;refine OG 16 36 4 _ N0 rfl rfl (.inr rfl) N0 rfl rfl ?_;simp only[Zs,N3,B6,Act.put,H9,O6,E6];have HO:Own 4 wT w.heap.size (V 36) (List.map encT res):=g36;clear Ip Dn Dp HME Gl Iw;go_wp2;go_ret;exact⟨_,rfl,HO,Gt⟩
end Go.Proofs.Enc
namespace Go.Proofs.Enc
open Go.Proofs.Tryz
open Go.RowKit
def Zjw(s:ByteArray)(Fe:s.size=13)(Fg:Ea.o6 s.data.toList=true)(w:World):
 Calls prog 123 #[.int .i64 1,.string s] w (ZM (Ea.sym13 s.data.toList) w):=by
 have hd:=Fg;have aBi:13<=s.size:=by omega
 have o4:s.size<=13:=by omega
 have An:0<s.size:=by omega
 obtain⟨d0,e0,l0,v0⟩:=N8 hd 0 An;obtain⟨Ew,Gj,Mj,IC⟩:=M8 e0 l0;have Dp:=B0 (λw=>ZE ⟨#[49,48,49]⟩ Ea.gd rfl I0 w);have Tr:=B0 (λw=>ZE ⟨#[48,49,48,49,48]⟩ Ea.md rfl I0 w);have Hu:(Ea.Fb d0).length=6/\∀x∈Ea.Fb d0,x<2:=⟨(Ea.aAn ⟨d0,by omega⟩).1,(Ea.aAn ⟨d0,by omega⟩).2.1⟩;obtain⟨SE,Pc⟩:∃SE,Ea.bS (zS (Ea.Fb d0))=SE:=⟨_,rfl⟩;have Iw:=B0 (λw=>lW d0 C0 w);rw[Pc]at Iw;have Gl:=B0 (λw=>XQ (s.extract 1 7) SE ⟨#[]⟩ (Ea.Fb d0) [] zB JJ (λx hx=>by have:=Hu.2 x hx;omega) rfl zC W4 I0 w);have Gd:=B0 (λw=>XQ (s.extract 7 s.size) ⟨#[50,50,50,50,50,50]⟩ ⟨#[]⟩ [2,2,2,2,2,2] [] (by rw[Z8];exact Ea.Gn hd 7) rfl I0 rfl JH W4 I0 w);rw[Zr]at Gl;rw[Z8]at Gd;have l1:(Ea.drw [] ((s.data.toList.drop 1).take (7-1)) (Ea.Fb d0)).length=42:=Ea.drw6_len (Ea.Gx (Ea.Gn hd 1) _) PO Hu.1 (λx hx=>by have:=Hu.2 x hx;omega);have l2:(Ea.drw [] (s.data.toList.drop 7) [2,2,2,2,2,2]).length=42:=Ea.drw6_len (Ea.Gn hd 7) TP rfl I0;have HE:=B0 (Ea.sym13.eq_1 s.data.toList);rw[v0]at HE;have Ak:Hid (Ea.sym13 s.data.toList=Ea.sym13 s.data.toList):=B0 (by rfl);generalize Ea.sym13 s.data.toList=res at*;rw[Ak.out]at HE;generalize Ea.drw [] ((s.data.toList.drop 1).take (7-1)) (Ea.Fb d0)=ra at*;generalize Ea.drw [] (s.data.toList.drop 7) [2,2,2,2,2,2]=rb at*;have Dn:Hid ((List.flatten [Ea.gd,ra,Ea.md,rb,Ea.gd]).length<=1000000):=B0 xY;have Ip:Hid (List.flatten [Ea.gd,ra,Ea.md,rb,Ea.gd]=res):=B0 JI;clear HE l1 l2 hd Fg Fe Pc Hu e0 v0 Ak;go_enter func123,ntmps123;go_wp2_with fail;refine ZG 16 1 rfl [41,42,43,44,45,46,47,48,49,50,51,52,53,54,55,56] [[],[],[1],[],[3],[4],[5],[6],[2,7],[],[],[10],[11],[],[0,8,9,12,13],[14]] N0 N0 ?_;refine Zg (λv w=>Own 4 w 0 v (Ea.gd.map encT)) (λ_ _ _ h hx=>h.ext hx) ?_ ?_
 .exact QI
 apply Zb
 .exact QC
 apply Zb
 .exact mO
 apply Zb
 .exact QC
 apply Zb
 .exact mP
 apply Zb
 .exact mQ
 apply Zb
 .exact mR
 refine Zg (eqv (.string SE)) (Zz _) ?_ ?_
 .exact mT
 refine Zg (λv w=>Own 4 w 0 v (ra.map encT)) (λ_ _ _ h hx=>h.ext hx) ?_ ?_
 .exact mU
 refine Zg (λv w=>Own 4 w 0 v (Ea.md.map encT)) (λ_ _ _ h hx=>h.ext hx) ?_ ?_
 .exact xZ
 apply Zb
 .exact QC
 apply Zb
 .exact mV
 refine Zg (λv w=>Own 4 w 0 v (rb.map encT)) (λ_ _ _ h hx=>h.ext hx) ?_ ?_
 .exact mW
 refine Zg (λv w=>Own 4 w 0 v (Ea.gd.map encT)) (λ_ _ _ h hx=>h.ext hx) ?_ ?_
 .exact QI
 refine Zg (λv w=>YH w v [Ea.gd,ra,Ea.md,rb,Ea.gd]) (λ_ _ _ h hx=>h.ext hx) ?_ ?_
 .exact QD
 refine Zg (λv x=>Own 4 x w.heap.size v (res.map encT)) (λ_ _ _ h hx=>h.ext hx) ?_ ?_
 .exact mX
 intro V wT Gt hf;obtain⟨g41,g42,g43,g44,g45,g46,g47,g48,g49,g50,g51,g52,g53,g54,g55,g56,_⟩:=hf;refine OG 16 56 4 _ N0 rfl rfl (.inr rfl) N0 rfl rfl ?_;simp only[Zs,N3,B6,Act.put,H9,O6,E6];have HO:Own 4 wT w.heap.size (V 56) (List.map encT res):=g56;clear Ip Dn Dp Tr Gl Gd Iw;go_wp2;go_ret;exact⟨_,rfl,HO,Gt⟩
def ZkI(s:ByteArray)(Fe:s.size=12)(Fg:Ea.o6 s.data.toList=true)(w:World):
 Calls prog 123 #[.int .i64 3,.string s] w (ZM (Ea.sym13 (48::s.data.toList)) w):=by
 obtain⟨S,hS⟩:∃S:ByteArray,⟨#[48]⟩++s=S:=⟨_,rfl⟩;have Yc:S.data.toList=48::s.data.toList:=by rw[<-hS,A4,B4];rfl
 have hd:Ea.o6 S.data.toList=true:=by rw[Yc];exact Ea.Vk I0 Fg
 have hSz:S.size=13:=by rw[Zd Yc,B1,Za,Fe]
 have aIy:s.size<=12:=by omega
 have aBi:13<=S.size:=by omega
 have o4:S.size<=13:=by omega
 have An:0<S.size:=by omega
 obtain⟨d0,e0,l0,v0⟩:=N8 hd 0 An;obtain⟨Ew,Gj,Mj,IC⟩:=M8 e0 l0;have Dp:=B0 (λw=>ZE ⟨#[49,48,49]⟩ Ea.gd rfl I0 w);have Tr:=B0 (λw=>ZE ⟨#[48,49,48,49,48]⟩ Ea.md rfl I0 w);have Hu:(Ea.Fb d0).length=6/\∀x∈Ea.Fb d0,x<2:=⟨(Ea.aAn ⟨d0,by omega⟩).1,(Ea.aAn ⟨d0,by omega⟩).2.1⟩;obtain⟨SE,Pc⟩:∃SE,Ea.bS (zS (Ea.Fb d0))=SE:=⟨_,rfl⟩;have Iw:=B0 (λw=>lW d0 C0 w);rw[Pc]at Iw;have Gl:=B0 (λw=>XQ (S.extract 1 7) SE ⟨#[]⟩ (Ea.Fb d0) [] zB JJ (λx hx=>by have:=Hu.2 x hx;omega) rfl zC W4 I0 w);have Gd:=B0 (λw=>XQ (S.extract 7 S.size) ⟨#[50,50,50,50,50,50]⟩ ⟨#[]⟩ [2,2,2,2,2,2] [] (by rw[Z8];exact Ea.Gn hd 7) rfl I0 rfl JH W4 I0 w);rw[Zr]at Gl;rw[Z8]at Gd;have l1:(Ea.drw [] ((S.data.toList.drop 1).take (7-1)) (Ea.Fb d0)).length=42:=Ea.drw6_len (Ea.Gx (Ea.Gn hd 1) _) PO Hu.1 (λx hx=>by have:=Hu.2 x hx;omega);have l2:(Ea.drw [] (S.data.toList.drop 7) [2,2,2,2,2,2]).length=42:=Ea.drw6_len (Ea.Gn hd 7) TP rfl I0;have HE:=B0 (Ea.sym13.eq_1 S.data.toList);rw[v0]at HE;have Ak:Hid (Ea.sym13 S.data.toList=Ea.sym13 (48::s.data.toList)):=B0 (by rw[Yc]);generalize Ea.sym13 (48::s.data.toList)=res at*;rw[Ak.out]at HE;generalize Ea.drw [] ((S.data.toList.drop 1).take (7-1)) (Ea.Fb d0)=ra at*;generalize Ea.drw [] (S.data.toList.drop 7) [2,2,2,2,2,2]=rb at*;have Dn:Hid ((List.flatten [Ea.gd,ra,Ea.md,rb,Ea.gd]).length<=1000000):=B0 xY;have Ip:Hid (List.flatten [Ea.gd,ra,Ea.md,rb,Ea.gd]=res):=B0 JI;clear HE l1 l2 hd Fg Fe Pc Hu e0 v0 Ak;have HS:=B0 hS;clear hSz Yc hS;go_enter func123,ntmps123;go_wp2_with fail;rw[HS.out];refine ZG 16 1 rfl [41,42,43,44,45,46,47,48,49,50,51,52,53,54,55,56] [[],[],[1],[],[3],[4],[5],[6],[2,7],[],[],[10],[11],[],[0,8,9,12,13],[14]] N0 N0 ?_;refine Zg (λv w=>Own 4 w 0 v (Ea.gd.map encT)) (λ_ _ _ h hx=>h.ext hx) ?_ ?_
 .exact QI
 apply Zb
 .exact zD
 apply Zb
 .exact mO
 apply Zb
 .exact zD
 apply Zb
 .exact mP
 apply Zb
 .exact mQ
 apply Zb
 .exact mR
 refine Zg (eqv (.string SE)) (Zz _) ?_ ?_
 .exact mT
 refine Zg (λv w=>Own 4 w 0 v (ra.map encT)) (λ_ _ _ h hx=>h.ext hx) ?_ ?_
 .exact mU
 refine Zg (λv w=>Own 4 w 0 v (Ea.md.map encT)) (λ_ _ _ h hx=>h.ext hx) ?_ ?_
 .exact xZ
 apply Zb
 .exact zD
 apply Zb
 .exact mV
 refine Zg (λv w=>Own 4 w 0 v (rb.map encT)) (λ_ _ _ h hx=>h.ext hx) ?_ ?_
 .exact mW
 refine Zg (λv w=>Own 4 w 0 v (Ea.gd.map encT)) (λ_ _ _ h hx=>h.ext hx) ?_ ?_
 .exact QI
 refine Zg (λv w=>YH w v [Ea.gd,ra,Ea.md,rb,Ea.gd]) (λ_ _ _ h hx=>h.ext hx) ?_ ?_
 .exact QD
 refine Zg (λv x=>Own 4 x w.heap.size v (res.map encT)) (λ_ _ _ h hx=>h.ext hx) ?_ ?_
 .exact mX
 intro V wT Gt hf;obtain⟨g41,g42,g43,g44,g45,g46,g47,g48,g49,g50,g51,g52,g53,g54,g55,g56,_⟩:=hf;refine OG 16 56 4 _ N0 rfl rfl (.inr rfl) N0 rfl rfl ?_;simp only[Zs,N3,B6,Act.put,H9,O6,E6];have HO:Own 4 wT w.heap.size (V 56) (List.map encT res):=g56;clear Ip Dn Dp Tr Gl Gd Iw;go_wp2;go_ret;exact⟨_,rfl,HO,Gt⟩
end Go.Proofs.Enc
end
namespace Go.Proofs.Enc
open Go.Proofs.Tryz
section
open Go.RowKit
def ZmG(a b:ByteArray)(l r:List UInt8)(ha:a.data.toList=l)(hb:b.data.toList=r):(a.toList==b.toList)=decide (l=r):=by rw[I2,I2,ha,hb,K4,I1,G2]
def ZkW(a b:ByteArray)(l r:List UInt8)(ha:a.data.toList=l)(hb:b.data.toList=r):(a.toList !=b.toList)= !decide (l=r):=by rw[bne,ZmG a b l r ha hb]
def mY(k:Int)(s:ByteArray)(hs:s.size<=9223372036854775807)(w:World):
 Calls prog 69 #[.int .i64 k,.string s] w λe w'=>e=.returned (strE (Ea.comp k s.data.toList))/\Ext w w':=by
 have HX:=B0 (Ea.comp.eq_1 k s.data.toList);have HD:=B0 (ZH s hs);have HZ:=B0 (lR k);rw[Za]at HX;by_cases h1:Ea.size k=0
 .rw[G0 h1]at HX;rw[h1]at HZ;generalize Ea.comp k s.data.toList=res at*;clear h1;go_enter func69,ntmps69;go_wp2_with fail;refine(HZ.out _).mono ?_;exact Q8
 .rw[D0 h1]at HX;have Ah:=Ea.kinds h1;obtain⟨IU,Av⟩:8<=Ea.size k/\Ea.size k<=13:=BP;have Ha:k=4->Ea.size k=8:=(by rintro rfl;rfl);by_cases h2:Ea.o6 s.data.toList=false;(·rw[G0 h2]at HX;rw[h2]at HD;generalize Ea.comp k s.data.toList=res at*;generalize Ea.size k=n at*;have b1:((n:Int)==0)=false:=O0.2 C0;clear h1 h2 Ah Ha;exact JK);·have As:Ea.o6 s.data.toList=true:=B9;have Dl:=B0 As;rw[D0 h2]at HX;rw[As]at HD;have b1:((Ea.size k:Int)==0)=false:=O0.2 C0;by_cases h3:s.size≠Ea.size k/\s.size+1≠Ea.size k;(·rw[G0 h3]at HX;generalize Ea.comp k s.data.toList=res at*;generalize Ea.size k=n at*;have b3:((s.size:Int) !=(n:Int))=true:=X0;have b4:((s.size:Int) !=(n:Int)-1)=true:=X0;clear h1 h2 Ah Ha h3 As;exact JK);·rw[D0 h3]at HX;have h0:0<s.size:=C0;have Ty:s.data.toList.getD 0 0=s[0]:=gM;obtain⟨m,hm⟩:∃m,Ea.size k-1=m:=⟨_,rfl⟩;have hmi:(Ea.size k:Int)-1=(m:Int):=C0;have Jc:m<=s.size:=C0;have aIi:m<=12:=C0;rw[Ty,hm]at HX;have aGc:s.size<=13:=C0;have Fz:=B0 (λw=>ZgX k (s.extract 0 m) (by intro e;rw[XL];have:=Ha e;omega) W4 (B0 (by rw[Zx];exact Ea.Gx As m)) w);rw[Zx]at Fz;obtain⟨c,hc⟩:∃c,Ea.Hm k (s.data.toList.take m)=c:=⟨_,rfl⟩;rw[hc]at Fz HX;obtain⟨CB,hCB⟩:∃CB,Ea.bS [c]=CB:=⟨_,rfl⟩;have hCz:CB.size=1:=(by rw[<-hCB];rfl);have hTz:(s.extract 0 m).size<=12:=VJ;have aC3:(s.extract 0 m++CB).data.toList=s.data.toList.take m++[c]:=(by rw[A4,B4,Zx,<-hCB];rfl);have HO:=B0 aC3;have HW1:=B0 (ZkW s (s.extract 0 m++CB) _ _ rfl aC3);rw[hCB]at Fz;clear hc hCB aC3 Ha h2 As Ty;by_cases h4:k=4/\(49:UInt8)<s[0];(·rw[G0 h4]at HX;obtain⟨rfl,h4⟩:=h4;have h4n:49<s[0].toNat:=(by rw[BA]at h4;exact h4);have d4:decide ((49:Int)<(s[0].toNat:Int))=true:=C1 C0;generalize Ea.comp 4 s.data.toList=res at*;generalize Ea.size 4=n at*;by_cases h5:s.size=n;(·have b3:((s.size:Int) !=(n:Int))=false:=X0;clear h1 Ah h3 h4 h5 h4n hm;exact JK);·have b3:((s.size:Int) !=(n:Int))=true:=X0;have b4:((s.size:Int) !=(m:Int))=false:=X0;clear h1 Ah h3 h4 h5 h4n hm;exact JK);·rw[D0 h4]at HX;(have Kg:k=4->s[0].toNat<=49:=λe=>by have:¬(49:UInt8)<s[0]:=λe2=>h4 ⟨e,e2⟩;rw[BA]at this;have e49:(49:UInt8).toNat=49:=rfl;omega);clear h4;have Nh:((k==4)=true/\decide ((49:Int)<(s[0].toNat:Int))=false)\/(k==4)=false:=(by by_cases e:k=4;(·exact .inl ⟨I1.2 e,G1 (by have:=Kg e;omega)⟩);·exact .inr (O0.2 e));have Ip:Hid (∀res,res=(s.data.toList.take m++[c],(0:Int))->Ending.returned (.tuple #[.string (s.extract 0 m++CB),.int .i64 0])=.returned (strE res)):=B0 (λres e=>by rw[e];unfold strE;rw[<-HO.out,Ea.Xm]);by_cases h5:s.size=Ea.size k;(·have b3:((s.size:Int) !=(Ea.size k:Int))=false:=X0;have b3':((s.size:Int)==(Ea.size k:Int))=true:=X0;by_cases h8:s.data.toList=s.data.toList.take m++[c];(·rw[D0 (λh=>h.2 h8)]at HX;rw[C1 h8]at HW1;have HW2:(s.toList !=(s.extract 0 m++CB).toList)=false:=HW1.out;have HW3:(s.toList==(s.extract 0 m++CB).toList)=true:=(by simpa using HW2);have HG:=B0 (Ip.out _ HX.out);clear HX HW1 Ip HO;generalize Ea.comp k s.data.toList=res at*;generalize Ea.size k=n at*;clear h1 Ah h3 h5 h8 hm Kg;exact Q4);·rw[G0 ⟨h5,h8⟩]at HX;rw[G1 h8]at HW1;have HW2:(s.toList !=(s.extract 0 m++CB).toList)=true:=HW1.out;have HW3:(s.toList==(s.extract 0 m++CB).toList)=false:=(by simpa using HW2);clear HW1 Ip HO;generalize Ea.comp k s.data.toList=res at*;generalize Ea.size k=n at*;clear h1 Ah h3 h5 h8 hm Kg;rcases Nh with⟨d4,d5⟩|d4;all_goals go_enter func69,ntmps69;go_wp2_with fail;refine(HZ.out _).mono ?_;rintro e w1 ⟨rfl,rfl⟩;go_wp2_with fail;refine(HD.out _).mono ?_;rintro e w1 ⟨rfl,rfl⟩;go_wp2_with fail;refine T6 (C:=λw'=>∃x:Zw w,w'=x.at') N0 N0 (Zw.drawn _) ?_;(try dsimp only);(repeat(first|go_big_quiet_step ((go_at_call 119;with_reducible exact Zq (Fz.out _)))|quiet_step ((go_at_call 119;with_reducible exact Zq (Fz.out _)))));refine U6 ?_;intro _ n9;obtain⟨x0,n9⟩:=n9;subst n9;obtain⟨w8,Hb⟩:=x0;(try dsimp only);go_wp2;go_ret2;exact⟨by rw[HX.out];rfl,Hb⟩);·have b3:((s.size:Int) !=(Ea.size k:Int))=true:=X0;have b3':((s.size:Int)==(Ea.size k:Int))=false:=X0;have b4:((s.size:Int) !=(m:Int))=false:=X0;rw[D0 (λh=>h5 h.1)]at HX;have HG:=B0 (Ip.out _ HX.out);clear HX HW1 Ip HO;generalize Ea.comp k s.data.toList=res at*;generalize Ea.size k=n at*;clear h1 Ah h3 h5 hm Kg;exact Q4
def O8(k:Int)(s:ByteArray)(hs:s.size<=9223372036854775807)(w:World):
 Calls prog 120 #[.int .i64 k,.string s] w λe w'=>e=.returned (.int .i64 (Ea.full k s.data.toList))/\Ext w w':=by
 have HX:=B0 (Ea.full.eq_1 k s.data.toList);have HD:=B0 (ZH s hs);have HZ:=B0 (lR k);have HC:=B0 (λw=>mY k s hs w);rw[Za]at HX;unfold strE at HC;obtain⟨⟨cl,ce⟩,hc⟩:∃r,Ea.comp k s.data.toList=r:=⟨_,rfl⟩;rw[hc]at HC HX;dsimp only at HC HX;generalize Ea.bS cl=CL at HC;have hnb:Ea.size k<=13:=by unfold Ea.size;exact R5
 generalize Ea.full k s.data.toList=res at*;generalize Ea.o6 s.data.toList=d at*;generalize Ea.size k=n at*;clear hc;by_cases h:n≠0/\d=true/\s.size+1=n
 .rw[G0 h]at HX;obtain⟨h1,rfl,h3⟩:=h;have b1:decide (0<(n:Int))=true:=C1 C0;have b3:((s.size:Int)==(n:Int)-1)=true:=I1.2 C0;clear HC h1 h3;go_enter func120,ntmps120;go_wp2_with fail;refine(HZ.out _).mono ?_;rintro e w1 ⟨rfl,rfl⟩;go_wp2_with fail;refine(HD.out _).mono ?_;rintro e w1 ⟨rfl,rfl⟩;go_wp2_with fail;refine(HZ.out _).mono ?_;rintro e w1 ⟨rfl,rfl⟩;go_wp2;go_ret;exact zE
 .rw[D0 h]at HX;by_cases h1:n=0;(·subst h1;clear h;go_enter func120,ntmps120;go_wp2_with fail;refine(HZ.out _).mono ?_;exact zF);·have b1:decide (0<(n:Int))=true:=C1 C0;have IU:0<n:=C0;cases d;(·clear h h1;go_enter func120,ntmps120;go_wp2_with fail;refine(HZ.out _).mono ?_;rintro e w1 ⟨rfl,rfl⟩;go_wp2_with fail;refine(HD.out _).mono ?_;exact zF);·have h3:s.size+1≠n:=λe=>h ⟨h1,rfl,e⟩;have b3:((s.size:Int)==(n:Int)-1)=false:=O0.2 C0;clear h h1 h3;go_enter func120,ntmps120;go_wp2_with fail;refine(HZ.out _).mono ?_;rintro e w1 ⟨rfl,rfl⟩;go_wp2_with fail;refine(HD.out _).mono ?_;rintro e w1 ⟨rfl,rfl⟩;go_wp2_with fail;refine(HZ.out _).mono ?_;exact zF
end
end Go.Proofs.Enc
section
namespace Go.Proofs.Enc
open Go.Proofs.Tryz
open Go.RowKit
def RowE(r:List Bool×Int)(w:World)(e:Ending)(w':World):Prop:=∃v,e=.returned (.tuple #[v,.int .i64 r.2])/\SlK w' v (r.1.map encT)/\Ext w w'
def Own.form{t:TypeId}{w:World}{B:Nat}{v:Value}{m:List Bool}(h:Own t w B v (m.map encT)):∃a c,v=.slice a m.length c:=by obtain⟨_,a,c,e,_⟩:=h.IW;rw[M0]at e;exact⟨a,c,e⟩
def JL(s:ByteArray)(h:s.size=2\/s.size=5)(hd:Ea.o6 s.data.toList=true)(w:World):
 Calls prog 124 #[.string s] w (ZM (Ea.addn s.data.toList) w):=by
 have Dp:=B0 (λw=>ZE ⟨#[49,48,49,49]⟩ Ea.sA rfl I0 w);have Iw:=B0 (λw=>ZgY s h hd w);have Hu:=Ea.setsAdd_ok (a:=s.data.toList) WH;rw[Za]at Hu;obtain⟨us,Yu⟩:∃us,Ea.Da s.data.toList=us:=⟨_,rfl⟩;rw[Yu]at Iw Hu;obtain⟨SE,Pc⟩:∃SE,Ea.bS (zS us)=SE:=⟨_,rfl⟩;have Gl:=B0 (λw=>XQ s SE ⟨#[48,49]⟩ us Ea.gA hd JJ (λx hx=>by have:=Hu.2 x hx;omega) rfl Hu.1 C0 I0 w);rw[Pc]at Iw;have hl:(Ea.addn s.data.toList).length<=100:=by rw[Ea.aAt hd WH,Za];rcases h with h|h<;>rw[h]<;>decide
 have HE:=B0 (Ea.addn.eq_1 s.data.toList);rw[Yu]at HE;generalize Ea.addn s.data.toList=res at*;generalize Ea.drw Ea.gA s.data.toList us=ra at*;have Ip:Hid (List.flatten [Ea.sA,ra]=res):=B0 (by rw[HE.out];simp);have Dn:Hid ((List.flatten [Ea.sA,ra]).length<=1000000):=B0 (by rw[Ip.out];omega);clear HE hd h Hu Yu Pc hl;go_enter func124,ntmps124;go_wp2_with fail;refine(Dp.out _).mono ?_;rintro e w1 ⟨v1,rfl,ho1,b7⟩;obtain⟨a1,c1,rfl⟩:=ho1.form;go_wp2_with fail;refine(Iw.out _).mono ?_;rintro e w2 ⟨rfl,j0⟩;go_wp2_with fail;refine(Gl.out _).mono ?_;rintro e w3 ⟨v3,rfl,Dz,j4⟩;obtain⟨a3,c3,rfl⟩:=Dz.form;go_wp2_with fail;have IQ:=T7 w3 #[.slice a1 Ea.sA.length c1,.slice a3 ra.length c3] [Ea.sA,ra] 26 rfl L0 (λi hi=>by have Eu:i=0\/i=1:=U7;rcases Eu with rfl|rfl;(·exact(ho1.ext (j0.trans j4)).mono (R0 _));·exact Dz.mono (R0 _));have HJ:=B0 (ZV _ [Ea.sA,ra] _ IQ L0 Dn.out);refine HJ.out.mono ?_;rintro e w4 ⟨v4,rfl,Ej,j9⟩;rw[Ip.out]at Ej;have Bo:=(b7.trans (j0.trans j4)).alloc (.cells #[.slice a1 Ea.sA.length c1,.slice a3 ra.length c3] 26);have o4:=Bo.size;clear IQ HJ ho1 Dz b7 j0 j4;go_wp2;go_ret;exact⟨_,rfl,Ej.mono o4,Bo.trans j9⟩
def XR(k:Int)(s:ByteArray)(h:Ea.full k s.data.toList=0)(w:World):
 Calls prog 123 #[.int .i64 k,.string s] w (ZM (Ea.sym k s.data.toList) w):=by
 obtain⟨h1,h2,h3,h4,_⟩:=Ea.aAL h;rw[Za]at h3;rcases Ea.kinds h1 with rfl|rfl|rfl|rfl
 .exact Zjw s h3 h2 w
 .exact ZkH s h3 h2 w
 .exact ZkI s h3 h2 w
 .exact ZkJ s h3 h2 (Ea.dv2 h2 (by rw[Za,h3];decide) (h4 rfl)) w
end Go.Proofs.Enc
namespace Go.Proofs.Enc
open Go.Proofs.Tryz
open Go.RowKit
def sym_len{k:Int}{l:List UInt8}(h:Ea.full k l=0):(Ea.sym k l).length<=95:=by
 obtain⟨h1,h2,h3,h4,_⟩:=Ea.aAL h;rcases Ea.kinds h1 with rfl|rfl|rfl|rfl;·show(Ea.sym13 l).length<=95;rw[Ea.sym13_len h2 h3];omega
 .show(Ea.sym8 l).length<=95;rw[Ea.sym8_len h2 h3];omega
 .show(Ea.sym13 (48::l)).length<=95;rw[Ea.sym13_len (Ea.Vk I0 h2) CR];omega
 .show(Ea.symE l).length<=95;rw[Ea.symE_len h2 h3 (Ea.dv2 h2 D9 (h4 rfl))];omega
def ZoA(s a:ByteArray)(h:Ea.full 1 s.data.toList=0)(ha:Ea.o6 a.data.toList=true)(hs:s.size<=13)(hz:a.size=0)(w:World):
 Calls prog 70 #[.int .i64 1,.string s,.string a] w (RowE (Ea.enc 1 s.data.toList a.data.toList) w):=by
 have HF:=B0 (λw=>O8 1 s C0 w);rw[h]at HF;have haz:a.size<=5:=by omega
 have HD:=B0 (ZH a O3);rw[ha]at HD;have Cr:=B0 (λw=>XR 1 s h w);have j8:=sym_len h;have HE:Hid (Ea.enc 1 s.data.toList a.data.toList=(List.flatten [Ea.lgt 11,Ea.sym 1 s.data.toList,Ea.lgt 7],0)):=B0 JM;generalize Ea.enc 1 s.data.toList a.data.toList=res at*;generalize Ea.sym 1 s.data.toList=sy at*;have Dn:Hid ((List.flatten [Ea.lgt 11,sy,Ea.lgt 7]).length<=1000000):=B0 XS;have Bt:Hid (∀w,Calls prog 122 #[.int .i64 7] w (ZM (Ea.lgt 7) w)):=B0 (λw=>ZA 7 C0 w);have aBz:Hid (∀w,Calls prog 122 #[.int .i64 11] w (ZM (Ea.lgt 11) w)):=B0 (λw=>ZA 11 C0 w);have b1:((a.size:Int) !=0)=false:=JN;have b2:(a.toList.isEmpty)=true:=JO;clear h ha hz j8;go_enter func70,ntmps70;go_wp2_with fail;refine(HF.out _).mono ?_;rintro e w1 ⟨rfl,b7⟩;go_wp2_with fail;refine(HD.out _).mono ?_;rintro e w2 ⟨rfl,rfl⟩;go_wp2_with fail;refine(aBz.out _).mono ?_;rintro e w3 ⟨v3,rfl,Dz,j4⟩;obtain⟨a3,c3,rfl⟩:=Dz.form;go_wp2_with fail;refine(Cr.out _).mono ?_;rintro e w4 ⟨v4,rfl,Ej,j9⟩;obtain⟨a4,c4,rfl⟩:=Ej.form;go_wp2_with fail;refine(Bt.out _).mono ?_;rintro e w5 ⟨v5,rfl,Cy,j5⟩;obtain⟨a5,c5,rfl⟩:=Cy.form;go_wp2_with fail;have IQ:=T7 w5 #[.slice a3 (Ea.lgt 11).length c3,.slice a4 (sy).length c4,.slice a5 (Ea.lgt 7).length c5] [Ea.lgt 11,sy,Ea.lgt 7] 26 rfl L0 (λi hi=>by have Eu:i=0\/i=1\/i=2:=U7;rcases Eu with rfl|rfl|rfl;(·exact JP);(·exact JQ);·exact Cy.mono (R0 _));have HJ:=B0 (ZV _ [Ea.lgt 11,sy,Ea.lgt 7] _ IQ L0 Dn.out);refine HJ.out.mono ?_;rintro e wj ⟨vj,rfl,Mq,l9⟩;have Bo:=((b7.trans (j4.trans (j9.trans j5))).alloc (.cells #[.slice a3 (Ea.lgt 11).length c3,.slice a4 (sy).length c4,.slice a5 (Ea.lgt 7).length c5] 26)).trans l9;clear IQ HJ Dz j4 Ej j9 Cy j5 b7 l9;go_wp2;go_ret2;exact⟨vj,by rw[HE.out];rfl,by rw[HE.out];exact Mq.IW,Bo⟩
def Zo9(s a:ByteArray)(h:Ea.full 1 s.data.toList=0)(ha:Ea.o6 a.data.toList=true)(hs:s.size<=13)(hz:a.size=2\/a.size=5)(w:World):
 Calls prog 70 #[.int .i64 1,.string s,.string a] w (RowE (Ea.enc 1 s.data.toList a.data.toList) w):=by
 have HF:=B0 (λw=>O8 1 s C0 w);rw[h]at HF;have haz:a.size<=5:=by omega
 have HD:=B0 (ZH a O3);rw[ha]at HD;have Cr:=B0 (λw=>XR 1 s h w);have j8:=sym_len h;have Il:=B0 (λw=>JL a hz ha w);have IL:(Ea.addn a.data.toList).length<=100:=JR;have HE:Hid (Ea.enc 1 s.data.toList a.data.toList=(List.flatten [Ea.lgt 11,Ea.sym 1 s.data.toList,Ea.lgt 9,Ea.addn a.data.toList,Ea.lgt 7],0)):=B0 JS;generalize Ea.enc 1 s.data.toList a.data.toList=res at*;generalize Ea.sym 1 s.data.toList=sy at*;generalize Ea.addn a.data.toList=ad at*;have Dn:Hid ((List.flatten [Ea.lgt 11,sy,Ea.lgt 9,ad,Ea.lgt 7]).length<=1000000):=B0 XS;have Bt:Hid (∀w,Calls prog 122 #[.int .i64 7] w (ZM (Ea.lgt 7) w)):=B0 (λw=>ZA 7 C0 w);have Ir:Hid (∀w,Calls prog 122 #[.int .i64 9] w (ZM (Ea.lgt 9) w)):=B0 (λw=>ZA 9 C0 w);have aBz:Hid (∀w,Calls prog 122 #[.int .i64 11] w (ZM (Ea.lgt 11) w)):=B0 (λw=>ZA 11 C0 w);have b1:((a.size:Int) !=0)=true:=R1.2 C0;have b2:(a.toList.isEmpty)=false:=PD;have b3:(((a.size:Int) !=2)=false)\/(((a.size:Int) !=2)=true/\((a.size:Int) !=5)=false):=JT;clear h ha hz IL j8;rcases b3 with b3|⟨b3,b4⟩;all_goals go_enter func70,ntmps70;go_wp2_with fail;refine(HF.out _).mono ?_;rintro e w1 ⟨rfl,b7⟩;go_wp2_with fail;refine(HD.out _).mono ?_;rintro e w2 ⟨rfl,rfl⟩;go_wp2_with fail;refine(aBz.out _).mono ?_;rintro e w3 ⟨v3,rfl,Dz,j4⟩;obtain⟨a3,c3,rfl⟩:=Dz.form;go_wp2_with fail;refine(Cr.out _).mono ?_;rintro e w4 ⟨v4,rfl,Ej,j9⟩;obtain⟨a4,c4,rfl⟩:=Ej.form;go_wp2_with fail;refine(Ir.out _).mono ?_;rintro e w5 ⟨v5,rfl,Cy,j5⟩;obtain⟨a5,c5,rfl⟩:=Cy.form;go_wp2_with fail;refine(Il.out _).mono ?_;rintro e w6 ⟨v6,rfl,Mo,o9⟩;obtain⟨a6,c6,rfl⟩:=Mo.form;go_wp2_with fail;refine(Bt.out _).mono ?_;rintro e w7 ⟨v7,rfl,Mp,Ax⟩;obtain⟨a7,c7,rfl⟩:=Mp.form;go_wp2_with fail;have IQ:=T7 w7 #[.slice a3 (Ea.lgt 11).length c3,.slice a4 (sy).length c4,.slice a5 (Ea.lgt 9).length c5,.slice a6 (ad).length c6,.slice a7 (Ea.lgt 7).length c7] [Ea.lgt 11,sy,Ea.lgt 9,ad,Ea.lgt 7] 26 rfl L0 (λi hi=>by have Eu:i=0\/i=1\/i=2\/i=3\/i=4:=U7;rcases Eu with rfl|rfl|rfl|rfl|rfl;(·exact JU);(·exact JV);(·exact JW);(·exact JX);·exact Mp.mono (R0 _));have HJ:=B0 (ZV _ [Ea.lgt 11,sy,Ea.lgt 9,ad,Ea.lgt 7] _ IQ L0 Dn.out);refine HJ.out.mono ?_;rintro e wj ⟨vj,rfl,Mq,l9⟩;have Bo:=((b7.trans (j4.trans (j9.trans (j5.trans (o9.trans Ax))))).alloc (.cells #[.slice a3 (Ea.lgt 11).length c3,.slice a4 (sy).length c4,.slice a5 (Ea.lgt 9).length c5,.slice a6 (ad).length c6,.slice a7 (Ea.lgt 7).length c7] 26)).trans l9;clear IQ HJ Dz j4 Ej j9 Cy j5 Mo o9 Mp Ax b7 l9;go_wp2;go_ret2;exact⟨vj,by rw[HE.out];rfl,by rw[HE.out];exact Mq.IW,Bo⟩
def ZoC(s a:ByteArray)(h:Ea.full 2 s.data.toList=0)(ha:Ea.o6 a.data.toList=true)(hs:s.size<=13)(hz:a.size=0)(w:World):
 Calls prog 70 #[.int .i64 2,.string s,.string a] w (RowE (Ea.enc 2 s.data.toList a.data.toList) w):=by
 have HF:=B0 (λw=>O8 2 s C0 w);rw[h]at HF;have haz:a.size<=5:=by omega
 have HD:=B0 (ZH a O3);rw[ha]at HD;have Cr:=B0 (λw=>XR 2 s h w);have j8:=sym_len h;have HE:Hid (Ea.enc 2 s.data.toList a.data.toList=(List.flatten [Ea.lgt 7,Ea.sym 2 s.data.toList,Ea.lgt 7],0)):=B0 JM;generalize Ea.enc 2 s.data.toList a.data.toList=res at*;generalize Ea.sym 2 s.data.toList=sy at*;have Dn:Hid ((List.flatten [Ea.lgt 7,sy,Ea.lgt 7]).length<=1000000):=B0 XS;have Bt:Hid (∀w,Calls prog 122 #[.int .i64 7] w (ZM (Ea.lgt 7) w)):=B0 (λw=>ZA 7 C0 w);have b1:((a.size:Int) !=0)=false:=JN;have b2:(a.toList.isEmpty)=true:=JO;clear h ha hz j8;go_enter func70,ntmps70;go_wp2_with fail;refine(HF.out _).mono ?_;rintro e w1 ⟨rfl,b7⟩;go_wp2_with fail;refine(HD.out _).mono ?_;rintro e w2 ⟨rfl,rfl⟩;go_wp2_with fail;refine(Bt.out _).mono ?_;rintro e w3 ⟨v3,rfl,Dz,j4⟩;obtain⟨a3,c3,rfl⟩:=Dz.form;go_wp2_with fail;refine(Cr.out _).mono ?_;rintro e w4 ⟨v4,rfl,Ej,j9⟩;obtain⟨a4,c4,rfl⟩:=Ej.form;go_wp2_with fail;refine(Bt.out _).mono ?_;rintro e w5 ⟨v5,rfl,Cy,j5⟩;obtain⟨a5,c5,rfl⟩:=Cy.form;go_wp2_with fail;have IQ:=T7 w5 #[.slice a3 (Ea.lgt 7).length c3,.slice a4 (sy).length c4,.slice a5 (Ea.lgt 7).length c5] [Ea.lgt 7,sy,Ea.lgt 7] 26 rfl L0 (λi hi=>by have Eu:i=0\/i=1\/i=2:=U7;rcases Eu with rfl|rfl|rfl;(·exact JP);(·exact JQ);·exact Cy.mono (R0 _));have HJ:=B0 (ZV _ [Ea.lgt 7,sy,Ea.lgt 7] _ IQ L0 Dn.out);refine HJ.out.mono ?_;rintro e wj ⟨vj,rfl,Mq,l9⟩;have Bo:=((b7.trans (j4.trans (j9.trans j5))).alloc (.cells #[.slice a3 (Ea.lgt 7).length c3,.slice a4 (sy).length c4,.slice a5 (Ea.lgt 7).length c5] 26)).trans l9;clear IQ HJ Dz j4 Ej j9 Cy j5 b7 l9;go_wp2;go_ret2;exact⟨vj,by rw[HE.out];rfl,by rw[HE.out];exact Mq.IW,Bo⟩
def ZoB(s a:ByteArray)(h:Ea.full 2 s.data.toList=0)(ha:Ea.o6 a.data.toList=true)(hs:s.size<=13)(hz:a.size=2\/a.size=5)(w:World):
 Calls prog 70 #[.int .i64 2,.string s,.string a] w (RowE (Ea.enc 2 s.data.toList a.data.toList) w):=by
 have HF:=B0 (λw=>O8 2 s C0 w);rw[h]at HF;have haz:a.size<=5:=by omega
 have HD:=B0 (ZH a O3);rw[ha]at HD;have Cr:=B0 (λw=>XR 2 s h w);have j8:=sym_len h;have Il:=B0 (λw=>JL a hz ha w);have IL:(Ea.addn a.data.toList).length<=100:=JR;have HE:Hid (Ea.enc 2 s.data.toList a.data.toList=(List.flatten [Ea.lgt 7,Ea.sym 2 s.data.toList,Ea.lgt 9,Ea.addn a.data.toList,Ea.lgt 7],0)):=B0 JS;generalize Ea.enc 2 s.data.toList a.data.toList=res at*;generalize Ea.sym 2 s.data.toList=sy at*;generalize Ea.addn a.data.toList=ad at*;have Dn:Hid ((List.flatten [Ea.lgt 7,sy,Ea.lgt 9,ad,Ea.lgt 7]).length<=1000000):=B0 XS;have Bt:Hid (∀w,Calls prog 122 #[.int .i64 7] w (ZM (Ea.lgt 7) w)):=B0 (λw=>ZA 7 C0 w);have Ir:Hid (∀w,Calls prog 122 #[.int .i64 9] w (ZM (Ea.lgt 9) w)):=B0 (λw=>ZA 9 C0 w);have b1:((a.size:Int) !=0)=true:=R1.2 C0;have b2:(a.toList.isEmpty)=false:=PD;have b3:(((a.size:Int) !=2)=false)\/(((a.size:Int) !=2)=true/\((a.size:Int) !=5)=false):=JT;clear h ha hz IL j8;rcases b3 with b3|⟨b3,b4⟩;all_goals go_enter func70,ntmps70;go_wp2_with fail;refine(HF.out _).mono ?_;rintro e w1 ⟨rfl,b7⟩;go_wp2_with fail;refine(HD.out _).mono ?_;rintro e w2 ⟨rfl,rfl⟩;go_wp2_with fail;refine(Bt.out _).mono ?_;rintro e w3 ⟨v3,rfl,Dz,j4⟩;obtain⟨a3,c3,rfl⟩:=Dz.form;go_wp2_with fail;refine(Cr.out _).mono ?_;rintro e w4 ⟨v4,rfl,Ej,j9⟩;obtain⟨a4,c4,rfl⟩:=Ej.form;go_wp2_with fail;refine(Ir.out _).mono ?_;rintro e w5 ⟨v5,rfl,Cy,j5⟩;obtain⟨a5,c5,rfl⟩:=Cy.form;go_wp2_with fail;refine(Il.out _).mono ?_;rintro e w6 ⟨v6,rfl,Mo,o9⟩;obtain⟨a6,c6,rfl⟩:=Mo.form;go_wp2_with fail;refine(Bt.out _).mono ?_;rintro e w7 ⟨v7,rfl,Mp,Ax⟩;obtain⟨a7,c7,rfl⟩:=Mp.form;go_wp2_with fail;have IQ:=T7 w7 #[.slice a3 (Ea.lgt 7).length c3,.slice a4 (sy).length c4,.slice a5 (Ea.lgt 9).length c5,.slice a6 (ad).length c6,.slice a7 (Ea.lgt 7).length c7] [Ea.lgt 7,sy,Ea.lgt 9,ad,Ea.lgt 7] 26 rfl L0 (λi hi=>by have Eu:i=0\/i=1\/i=2\/i=3\/i=4:=U7;rcases Eu with rfl|rfl|rfl|rfl|rfl;(·exact JU);(·exact JV);(·exact JW);(·exact JX);·exact Mp.mono (R0 _));have HJ:=B0 (ZV _ [Ea.lgt 7,sy,Ea.lgt 9,ad,Ea.lgt 7] _ IQ L0 Dn.out);refine HJ.out.mono ?_;rintro e wj ⟨vj,rfl,Mq,l9⟩;have Bo:=((b7.trans (j4.trans (j9.trans (j5.trans (o9.trans Ax))))).alloc (.cells #[.slice a3 (Ea.lgt 7).length c3,.slice a4 (sy).length c4,.slice a5 (Ea.lgt 9).length c5,.slice a6 (ad).length c6,.slice a7 (Ea.lgt 7).length c7] 26)).trans l9;clear IQ HJ Dz j4 Ej j9 Cy j5 Mo o9 Mp Ax b7 l9;go_wp2;go_ret2;exact⟨vj,by rw[HE.out];rfl,by rw[HE.out];exact Mq.IW,Bo⟩
def ZoE(s a:ByteArray)(h:Ea.full 3 s.data.toList=0)(ha:Ea.o6 a.data.toList=true)(hs:s.size<=13)(hz:a.size=0)(w:World):
 Calls prog 70 #[.int .i64 3,.string s,.string a] w (RowE (Ea.enc 3 s.data.toList a.data.toList) w):=by
 have HF:=B0 (λw=>O8 3 s C0 w);rw[h]at HF;have haz:a.size<=5:=by omega
 have HD:=B0 (ZH a O3);rw[ha]at HD;have Cr:=B0 (λw=>XR 3 s h w);have j8:=sym_len h;have HE:Hid (Ea.enc 3 s.data.toList a.data.toList=(List.flatten [Ea.lgt 9,Ea.sym 3 s.data.toList,Ea.lgt 9],0)):=B0 JM;generalize Ea.enc 3 s.data.toList a.data.toList=res at*;generalize Ea.sym 3 s.data.toList=sy at*;have Dn:Hid ((List.flatten [Ea.lgt 9,sy,Ea.lgt 9]).length<=1000000):=B0 XS;have Ir:Hid (∀w,Calls prog 122 #[.int .i64 9] w (ZM (Ea.lgt 9) w)):=B0 (λw=>ZA 9 C0 w);have b1:((a.size:Int) !=0)=false:=JN;have b2:(a.toList.isEmpty)=true:=JO;clear h ha hz j8;go_enter func70,ntmps70;go_wp2_with fail;refine(HF.out _).mono ?_;rintro e w1 ⟨rfl,b7⟩;go_wp2_with fail;refine(HD.out _).mono ?_;rintro e w2 ⟨rfl,rfl⟩;go_wp2_with fail;refine(Ir.out _).mono ?_;rintro e w3 ⟨v3,rfl,Dz,j4⟩;obtain⟨a3,c3,rfl⟩:=Dz.form;go_wp2_with fail;refine(Cr.out _).mono ?_;rintro e w4 ⟨v4,rfl,Ej,j9⟩;obtain⟨a4,c4,rfl⟩:=Ej.form;go_wp2_with fail;refine(Ir.out _).mono ?_;rintro e w5 ⟨v5,rfl,Cy,j5⟩;obtain⟨a5,c5,rfl⟩:=Cy.form;go_wp2_with fail;have IQ:=T7 w5 #[.slice a3 (Ea.lgt 9).length c3,.slice a4 (sy).length c4,.slice a5 (Ea.lgt 9).length c5] [Ea.lgt 9,sy,Ea.lgt 9] 26 rfl L0 (λi hi=>by have Eu:i=0\/i=1\/i=2:=U7;rcases Eu with rfl|rfl|rfl;(·exact JP);(·exact JQ);·exact Cy.mono (R0 _));have HJ:=B0 (ZV _ [Ea.lgt 9,sy,Ea.lgt 9] _ IQ L0 Dn.out);refine HJ.out.mono ?_;rintro e wj ⟨vj,rfl,Mq,l9⟩;have Bo:=((b7.trans (j4.trans (j9.trans j5))).alloc (.cells #[.slice a3 (Ea.lgt 9).length c3,.slice a4 (sy).length c4,.slice a5 (Ea.lgt 9).length c5] 26)).trans l9;clear IQ HJ Dz j4 Ej j9 Cy j5 b7 l9;go_wp2;go_ret2;exact⟨vj,by rw[HE.out];rfl,by rw[HE.out];exact Mq.IW,Bo⟩
def ZoD(s a:ByteArray)(h:Ea.full 3 s.data.toList=0)(ha:Ea.o6 a.data.toList=true)(hs:s.size<=13)(hz:a.size=2\/a.size=5)(w:World):
 Calls prog 70 #[.int .i64 3,.string s,.string a] w (RowE (Ea.enc 3 s.data.toList a.data.toList) w):=by
 have HF:=B0 (λw=>O8 3 s C0 w);rw[h]at HF;have haz:a.size<=5:=by omega
 have HD:=B0 (ZH a O3);rw[ha]at HD;have Cr:=B0 (λw=>XR 3 s h w);have j8:=sym_len h;have Il:=B0 (λw=>JL a hz ha w);have IL:(Ea.addn a.data.toList).length<=100:=JR;have HE:Hid (Ea.enc 3 s.data.toList a.data.toList=(List.flatten [Ea.lgt 9,Ea.sym 3 s.data.toList,Ea.lgt 9,Ea.addn a.data.toList,Ea.lgt 7],0)):=B0 JS;generalize Ea.enc 3 s.data.toList a.data.toList=res at*;generalize Ea.sym 3 s.data.toList=sy at*;generalize Ea.addn a.data.toList=ad at*;have Dn:Hid ((List.flatten [Ea.lgt 9,sy,Ea.lgt 9,ad,Ea.lgt 7]).length<=1000000):=B0 XS;have Bt:Hid (∀w,Calls prog 122 #[.int .i64 7] w (ZM (Ea.lgt 7) w)):=B0 (λw=>ZA 7 C0 w);have Ir:Hid (∀w,Calls prog 122 #[.int .i64 9] w (ZM (Ea.lgt 9) w)):=B0 (λw=>ZA 9 C0 w);have b1:((a.size:Int) !=0)=true:=R1.2 C0;have b2:(a.toList.isEmpty)=false:=PD;have b3:(((a.size:Int) !=2)=false)\/(((a.size:Int) !=2)=true/\((a.size:Int) !=5)=false):=JT;clear h ha hz IL j8;rcases b3 with b3|⟨b3,b4⟩;all_goals go_enter func70,ntmps70;go_wp2_with fail;refine(HF.out _).mono ?_;rintro e w1 ⟨rfl,b7⟩;go_wp2_with fail;refine(HD.out _).mono ?_;rintro e w2 ⟨rfl,rfl⟩;go_wp2_with fail;refine(Ir.out _).mono ?_;rintro e w3 ⟨v3,rfl,Dz,j4⟩;obtain⟨a3,c3,rfl⟩:=Dz.form;go_wp2_with fail;refine(Cr.out _).mono ?_;rintro e w4 ⟨v4,rfl,Ej,j9⟩;obtain⟨a4,c4,rfl⟩:=Ej.form;go_wp2_with fail;refine(Ir.out _).mono ?_;rintro e w5 ⟨v5,rfl,Cy,j5⟩;obtain⟨a5,c5,rfl⟩:=Cy.form;go_wp2_with fail;refine(Il.out _).mono ?_;rintro e w6 ⟨v6,rfl,Mo,o9⟩;obtain⟨a6,c6,rfl⟩:=Mo.form;go_wp2_with fail;refine(Bt.out _).mono ?_;rintro e w7 ⟨v7,rfl,Mp,Ax⟩;obtain⟨a7,c7,rfl⟩:=Mp.form;go_wp2_with fail;have IQ:=T7 w7 #[.slice a3 (Ea.lgt 9).length c3,.slice a4 (sy).length c4,.slice a5 (Ea.lgt 9).length c5,.slice a6 (ad).length c6,.slice a7 (Ea.lgt 7).length c7] [Ea.lgt 9,sy,Ea.lgt 9,ad,Ea.lgt 7] 26 rfl L0 (λi hi=>by have Eu:i=0\/i=1\/i=2\/i=3\/i=4:=U7;rcases Eu with rfl|rfl|rfl|rfl|rfl;(·exact JU);(·exact JV);(·exact JW);(·exact JX);·exact Mp.mono (R0 _));have HJ:=B0 (ZV _ [Ea.lgt 9,sy,Ea.lgt 9,ad,Ea.lgt 7] _ IQ L0 Dn.out);refine HJ.out.mono ?_;rintro e wj ⟨vj,rfl,Mq,l9⟩;have Bo:=((b7.trans (j4.trans (j9.trans (j5.trans (o9.trans Ax))))).alloc (.cells #[.slice a3 (Ea.lgt 9).length c3,.slice a4 (sy).length c4,.slice a5 (Ea.lgt 9).length c5,.slice a6 (ad).length c6,.slice a7 (Ea.lgt 7).length c7] 26)).trans l9;clear IQ HJ Dz j4 Ej j9 Cy j5 Mo o9 Mp Ax b7 l9;go_wp2;go_ret2;exact⟨vj,by rw[HE.out];rfl,by rw[HE.out];exact Mq.IW,Bo⟩
def ZoG(s a:ByteArray)(h:Ea.full 4 s.data.toList=0)(ha:Ea.o6 a.data.toList=true)(hs:s.size<=13)(hz:a.size=0)(w:World):
 Calls prog 70 #[.int .i64 4,.string s,.string a] w (RowE (Ea.enc 4 s.data.toList a.data.toList) w):=by
 have HF:=B0 (λw=>O8 4 s C0 w);rw[h]at HF;have haz:a.size<=5:=by omega
 have HD:=B0 (ZH a O3);rw[ha]at HD;have Cr:=B0 (λw=>XR 4 s h w);have j8:=sym_len h;have HE:Hid (Ea.enc 4 s.data.toList a.data.toList=(List.flatten [Ea.lgt 9,Ea.sym 4 s.data.toList,Ea.lgt 7],0)):=B0 JM;generalize Ea.enc 4 s.data.toList a.data.toList=res at*;generalize Ea.sym 4 s.data.toList=sy at*;have Dn:Hid ((List.flatten [Ea.lgt 9,sy,Ea.lgt 7]).length<=1000000):=B0 XS;have Bt:Hid (∀w,Calls prog 122 #[.int .i64 7] w (ZM (Ea.lgt 7) w)):=B0 (λw=>ZA 7 C0 w);have Ir:Hid (∀w,Calls prog 122 #[.int .i64 9] w (ZM (Ea.lgt 9) w)):=B0 (λw=>ZA 9 C0 w);have b1:((a.size:Int) !=0)=false:=JN;have b2:(a.toList.isEmpty)=true:=JO;clear h ha hz j8;go_enter func70,ntmps70;go_wp2_with fail;refine(HF.out _).mono ?_;rintro e w1 ⟨rfl,b7⟩;go_wp2_with fail;refine(HD.out _).mono ?_;rintro e w2 ⟨rfl,rfl⟩;go_wp2_with fail;refine(Ir.out _).mono ?_;rintro e w3 ⟨v3,rfl,Dz,j4⟩;obtain⟨a3,c3,rfl⟩:=Dz.form;go_wp2_with fail;refine(Cr.out _).mono ?_;rintro e w4 ⟨v4,rfl,Ej,j9⟩;obtain⟨a4,c4,rfl⟩:=Ej.form;go_wp2_with fail;refine(Bt.out _).mono ?_;rintro e w5 ⟨v5,rfl,Cy,j5⟩;obtain⟨a5,c5,rfl⟩:=Cy.form;go_wp2_with fail;have IQ:=T7 w5 #[.slice a3 (Ea.lgt 9).length c3,.slice a4 (sy).length c4,.slice a5 (Ea.lgt 7).length c5] [Ea.lgt 9,sy,Ea.lgt 7] 26 rfl L0 (λi hi=>by have Eu:i=0\/i=1\/i=2:=U7;rcases Eu with rfl|rfl|rfl;(·exact JP);(·exact JQ);·exact Cy.mono (R0 _));have HJ:=B0 (ZV _ [Ea.lgt 9,sy,Ea.lgt 7] _ IQ L0 Dn.out);refine HJ.out.mono ?_;rintro e wj ⟨vj,rfl,Mq,l9⟩;have Bo:=((b7.trans (j4.trans (j9.trans j5))).alloc (.cells #[.slice a3 (Ea.lgt 9).length c3,.slice a4 (sy).length c4,.slice a5 (Ea.lgt 7).length c5] 26)).trans l9;clear IQ HJ Dz j4 Ej j9 Cy j5 b7 l9;go_wp2;go_ret2;exact⟨vj,by rw[HE.out];rfl,by rw[HE.out];exact Mq.IW,Bo⟩
def ZoF(s a:ByteArray)(h:Ea.full 4 s.data.toList=0)(ha:Ea.o6 a.data.toList=true)(hs:s.size<=13)(hz:a.size=2\/a.size=5)(w:World):
 Calls prog 70 #[.int .i64 4,.string s,.string a] w (RowE (Ea.enc 4 s.data.toList a.data.toList) w):=by
 have HF:=B0 (λw=>O8 4 s C0 w);rw[h]at HF;have haz:a.size<=5:=by omega
 have HD:=B0 (ZH a O3);rw[ha]at HD;have Cr:=B0 (λw=>XR 4 s h w);have j8:=sym_len h;have Il:=B0 (λw=>JL a hz ha w);have IL:(Ea.addn a.data.toList).length<=100:=JR;have HE:Hid (Ea.enc 4 s.data.toList a.data.toList=(List.flatten [Ea.lgt 9,Ea.sym 4 s.data.toList,Ea.lgt 9,Ea.addn a.data.toList,Ea.lgt 7],0)):=B0 JS;generalize Ea.enc 4 s.data.toList a.data.toList=res at*;generalize Ea.sym 4 s.data.toList=sy at*;generalize Ea.addn a.data.toList=ad at*;have Dn:Hid ((List.flatten [Ea.lgt 9,sy,Ea.lgt 9,ad,Ea.lgt 7]).length<=1000000):=B0 XS;have Bt:Hid (∀w,Calls prog 122 #[.int .i64 7] w (ZM (Ea.lgt 7) w)):=B0 (λw=>ZA 7 C0 w);have Ir:Hid (∀w,Calls prog 122 #[.int .i64 9] w (ZM (Ea.lgt 9) w)):=B0 (λw=>ZA 9 C0 w);have b1:((a.size:Int) !=0)=true:=R1.2 C0;have b2:(a.toList.isEmpty)=false:=PD;have b3:(((a.size:Int) !=2)=false)\/(((a.size:Int) !=2)=true/\((a.size:Int) !=5)=false):=JT;clear h ha hz IL j8;rcases b3 with b3|⟨b3,b4⟩;all_goals go_enter func70,ntmps70;go_wp2_with fail;refine(HF.out _).mono ?_;rintro e w1 ⟨rfl,b7⟩;go_wp2_with fail;refine(HD.out _).mono ?_;rintro e w2 ⟨rfl,rfl⟩;go_wp2_with fail;refine(Ir.out _).mono ?_;rintro e w3 ⟨v3,rfl,Dz,j4⟩;obtain⟨a3,c3,rfl⟩:=Dz.form;go_wp2_with fail;refine(Cr.out _).mono ?_;rintro e w4 ⟨v4,rfl,Ej,j9⟩;obtain⟨a4,c4,rfl⟩:=Ej.form;go_wp2_with fail;refine(Ir.out _).mono ?_;rintro e w5 ⟨v5,rfl,Cy,j5⟩;obtain⟨a5,c5,rfl⟩:=Cy.form;go_wp2_with fail;refine(Il.out _).mono ?_;rintro e w6 ⟨v6,rfl,Mo,o9⟩;obtain⟨a6,c6,rfl⟩:=Mo.form;go_wp2_with fail;refine(Bt.out _).mono ?_;rintro e w7 ⟨v7,rfl,Mp,Ax⟩;obtain⟨a7,c7,rfl⟩:=Mp.form;go_wp2_with fail;have IQ:=T7 w7 #[.slice a3 (Ea.lgt 9).length c3,.slice a4 (sy).length c4,.slice a5 (Ea.lgt 9).length c5,.slice a6 (ad).length c6,.slice a7 (Ea.lgt 7).length c7] [Ea.lgt 9,sy,Ea.lgt 9,ad,Ea.lgt 7] 26 rfl L0 (λi hi=>by have Eu:i=0\/i=1\/i=2\/i=3\/i=4:=U7;rcases Eu with rfl|rfl|rfl|rfl|rfl;(·exact JU);(·exact JV);(·exact JW);(·exact JX);·exact Mp.mono (R0 _));have HJ:=B0 (ZV _ [Ea.lgt 9,sy,Ea.lgt 9,ad,Ea.lgt 7] _ IQ L0 Dn.out);refine HJ.out.mono ?_;rintro e wj ⟨vj,rfl,Mq,l9⟩;have Bo:=((b7.trans (j4.trans (j9.trans (j5.trans (o9.trans Ax))))).alloc (.cells #[.slice a3 (Ea.lgt 9).length c3,.slice a4 (sy).length c4,.slice a5 (Ea.lgt 9).length c5,.slice a6 (ad).length c6,.slice a7 (Ea.lgt 7).length c7] 26)).trans l9;clear IQ HJ Dz j4 Ej j9 Cy j5 Mo o9 Mp Ax b7 l9;go_wp2;go_ret2;exact⟨vj,by rw[HE.out];rfl,by rw[HE.out];exact Mq.IW,Bo⟩
def ZhH(k:Int)(s a:ByteArray)(hs:s.size<=9223372036854775807)(ha:a.size<=9223372036854775807)(w:World):
 Calls prog 70 #[.int .i64 k,.string s,.string a] w (RowE (Ea.enc k s.data.toList a.data.toList) w):=by
 by_cases h:Ea.full k s.data.toList=0
 .by_cases hd:Ea.o6 a.data.toList=true;(·by_cases hz:a.size≠0/\a.size≠2/\a.size≠5;(·have HF:=B0 (λw=>O8 k s hs w);rw[h]at HF;have HD:=B0 (ZH a ha);rw[hd]at HD;have HE:Hid (Ea.enc k s.data.toList a.data.toList=([],7)):=B0 (by unfold Ea.enc;rw[D0 (λg=>g h),D0 (by rw[hd];exact Bool.noConfusion),G0 zG]);generalize Ea.enc k s.data.toList a.data.toList=res at*;have b1:((a.size:Int) !=0)=true:=R1.2 C0;have b2:((a.size:Int) !=2)=true:=R1.2 C0;have b3:((a.size:Int) !=5)=true:=R1.2 C0;clear h hd hz;exact mZ);·obtain⟨h1,_,h3,_⟩:=Ea.aAL h;rw[Za]at h3;by_cases h0:a.size=0;(·rcases Ea.kinds h1 with rfl|rfl|rfl|rfl;(·exact ZoA s a h hd D9 h0 w);(·exact ZoC s a h hd D9 h0 w);(·exact ZoE s a h hd D9 h0 w);·exact ZoG s a h hd D9 h0 w);·have Xu:a.size=2\/a.size=5:=C0;rcases Ea.kinds h1 with rfl|rfl|rfl|rfl;(·exact Zo9 s a h hd D9 Xu w);(·exact ZoB s a h hd D9 Xu w);(·exact ZoD s a h hd D9 Xu w);·exact ZoF s a h hd D9 Xu w);·have Yj:Ea.o6 a.data.toList=false:=(by simpa using hd);have HF:=B0 (λw=>O8 k s hs w);rw[h]at HF;have HD:=B0 (ZH a ha);rw[Yj]at HD;have HE:Hid (Ea.enc k s.data.toList a.data.toList=([],6)):=B0 (by unfold Ea.enc;rw[D0 (λg=>g h),G0 Yj]);generalize Ea.enc k s.data.toList a.data.toList=res at*;clear h hd Yj;exact mZ
 .have HF:=B0 (λw=>O8 k s hs w);have HE:Hid (Ea.enc k s.data.toList a.data.toList=([],Ea.full k s.data.toList)):=B0 (by unfold Ea.enc;rw[G0 h]);have b:(Ea.full k s.data.toList !=0)=true:=R1.2 h;generalize Ea.enc k s.data.toList a.data.toList=res at*;generalize Ea.full k s.data.toList=f at*;clear h;go_enter func70,ntmps70;go_wp2_with fail;refine(HF.out _).mono ?_;rintro e w1 ⟨rfl,b7⟩;exact nA
end Go.Proofs.Enc
end
