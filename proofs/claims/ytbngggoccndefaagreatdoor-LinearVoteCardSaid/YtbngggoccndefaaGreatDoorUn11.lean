/-
  Laid.
-/
import Derived.Test.YtbngggoccndefaaGreatDoorUn10
set_option maxHeartbeats 16000000
set_option maxRecDepth 100000
set_option linter.all false
namespace Go.Proofs.YtbngggoccndefaaGreatDoor
open Go.Proofs.Tryz
section
open Go.RowKit Go.WideMaps Go.Maps
def ElsR (r:List Gs.El×Int) (w:World) (e:Ending) (w':World):Prop:=∃v,e=.returned (.tuple #[v,.int .i64 r.2])∧ESl w' v r.1∧Ext w w'
theorem ElsR.err (c:Int) {w w':World} (h:Ext w w'):ElsR ([],c) w (.returned (.tuple #[.slice none 0 0,.int .i64 c])) w':=⟨_,rfl,.inl ⟨rfl,_,_,rfl⟩,h⟩
theorem AD {s:ByteArray} (h:0<s.size):¬s.toList=[]:=by rw[C2];exact GF
theorem eY {s:ByteArray} (h:0<s.size):s.toList.isEmpty=false:=by rw[ON];exact AD h
def StrR (r:List UInt8×Int) (w:World) (e:Ending) (w':World):Prop:=e=.returned (.tuple #[encS r.1,.int .i64 r.2])∧Ext w w'
theorem AE {xs:List Gs.El} (h:Gs.verL xs=0):∀x∈xs,Gs.ver x.1 x.2=0:=by
 induction xs with
 |nil=>intro x hx;simp at hx
 |cons y ys ih=>intro x hx;unfold Gs.verL at h;split at h;(·rename_i h0;rcases V3.1 hx with rfl|hx;(·exact h0);·exact ih h x hx);·rename_i h0;exact absurd h h0
theorem KI {a d:List UInt8} (h:Gs.ver a d=0):a.length<=4∧d.length<=90:=by obtain⟨r,h1,h2⟩:=BX h;have h3:=(V9 h1).2.1;have h4:=Zja h2;have h5:=XP h1;unfold Gs.RuleOk at h5;omega
theorem ZkV (xs:List Gs.El) (h:∀x∈xs,Gs.ver x.1 x.2=0):(xs.flatMap Gs.fmtE).length<=96*xs.length:=by
 induction xs with
 |nil=>simp
 |cons x xs ih=>have h1:=KI (h x (N2 ..));have h2:=ih (fun y hy=>h y (V2 _ hy));simp only[F8,T0,D1,Gs.fmtE];omega
theorem AF {xs:List Gs.El} (h:Gs.verAll xs=0):Gs.verL xs=0:=by
 unfold Gs.verAll at h;split at h;·simp at h
 ·exact h
theorem KJ {α:Type} {xs:List α} {k:Nat} {x:α} (h:xs[k]? =some x):xs.take (k+1)=xs.take k++[x]:=by rw[N6,h];rfl
theorem Ziz (v:Value) (xs:List Gs.El) (w:World) (hl:ESl w v xs) (hn:xs.length<=1000000000) (hs:∀x∈xs,x.1.length<=maxLen∧x.2.length<=maxLen) (ht:ZY w):
 Calls prog 19 #[v] w (StrR (Gs.format xs) w):=by
 obtain⟨a,c,rfl⟩:=hl.form
 have HI:=A0 (zR w ht)
 have HL:=A0 hl
 have HVA:=A0 (fun(w':World) (b:Nat) (hd:Dir w' b) (hx:Ext w w')=>ZfR _ xs b w' hd (hl.ext hx) B0 hs)
 have HR:=A0 (Gs.format.eq_1 xs)
 have HVM:Hid (Gs.verAll xs=0->∀x∈xs,Gs.ver x.1 x.2=0):=A0 (fun h=>AE (AF h))
 generalize Gs.format xs=res at*
 obtain⟨N,hN⟩:∃N,xs.length=N:=⟨_,rfl⟩
 have HN:=A0 hN
 rw[hN]at hn HL HVA⊢
 clear hl hs ht hN
 by_cases hz:Gs.verAll xs=0
 ·have HVM:=A0 (HVM.out hz);rw[hz]at HVA;rw[hz,C0 L0]at HR;clear hz;go_enter func19,ntmps19;go_wp2_with fail;refine HI.out.mono ?_;rintro e W ⟨b,rfl,hd,hb,hxW⟩;have H1:=A0 (HVA.out W b hd hxW);clear hd HVA HI;go_wp2_with fail;refine H1.out.mono ?_;rintro e V ⟨rfl,hxV⟩;have hxw:=hxW.trans hxV;clear hxW hxV H1;go_wp2;go_loopw [16] (fun t wr=>∃k:Nat,k<=N∧t=.int .i64 (k:Int)∧Lib.IsBuilder 92 5 V.heap.size V.heap.size (Lib.byteCells ((xs.take k).flatMap Gs.fmtE)) wr∧Ext V wr) (fun t _=>N-(intOf t).toNat);(case atStart=>exact⟨0,O0 _,rfl,Lib.fresh_isBuilder _ _ V,Xe⟩);case round=>obtain⟨k,hk,rfl,hbl,hx⟩:=hrel;have hfl:=ZkV (xs.take k) (fun x hx=>HVM.out x (G4 hx));have htl:(xs.take k).length<=k:=List.length_take_le _ _;by_cases hlt:k<N;(·obtain⟨x,hxk⟩:∃x,xs[k]? =some x:=⟨_,M0 WR⟩;obtain⟨bb,off,ha,hb',q0,q1⟩:=HL.out.at_ hxk;subst ha;have hxx:=hxw.trans hx;have d0:=(hxx.cell (p:=⟨bb,off+k*2,none⟩) hb').trans q0;have d1:=(hxx.cell (p:=⟨bb,off+k*2+1,none⟩) hb').trans q1;have HTS:Hid ((xs.take (k+1)).flatMap Gs.fmtE=(xs.take k).flatMap Gs.fmtE++Gs.fmtE x):=A0 eZ;have hvs:=KI (HVM.out x (J1 hxk));obtain⟨xa,xd⟩:=x;unfold encS at d0 d1;dsimp only at d0 d1 hvs;have HB:Hid ((⟨xa.toArray⟩:ByteArray).data.toList=xa∧(⟨xd.toArray⟩:ByteArray).data.toList=xd):=A0 ⟨rfl,rfl⟩;generalize(⟨xa.toArray⟩:ByteArray)=A at*;generalize(⟨xd.toArray⟩:ByteArray)=D at*;have hAs:A.size<=4:=(by rw[<-Zd,HB.out.1];exact hvs.1);have hDs:D.size<=90:=(by rw[<-Zd,HB.out.2];exact hvs.2);obtain⟨got,hgot⟩:∃got,(xs.take k).flatMap Gs.fmtE=got:=⟨_,rfl⟩;rw[hgot]at hbl hfl HTS;have hgl:(Lib.byteCells got).length<=96*N:=(by rw[Lib.byteCells,J0];omega);obtain⟨R,hR⟩:∃R:ByteArray,R=(⟨#[40]⟩++A++⟨#[41]⟩++D:ByteArray):=⟨_,rfl⟩;have HRL:Hid (R.data.toList=Gs.fmtE (xa,xd)):=A0 (by obtain⟨b1,b2⟩:=HB.out;rw[hR,<-b1,<-b2];simp[Gs.fmtE,Y3]);have hRs:R.size<=96:=(by rw[<-Zd,HRL.out];simp only[Gs.fmtE,T0,D1];omega);have HW:=A0 (fun(w':World) (hw:Ext V w') (hbl:Lib.IsBuilder 92 5 V.heap.size V.heap.size (Lib.byteCells got) w')=>ZeL V.heap.size V.heap.size _ R w' hbl B0 hw.size);rw[hR]at HW;have HRE:=A0 hR;clear hgot hxk q0 q1 hR hfl htl hgl hRs hvs;go_wp2_with fail;have H1:=A0 (HW.out _ (hx.alloc (.cells #[.string A,.string D] 86)) (Zmt hbl ((Ext.refl wr).alloc _)));refine H1.out.mono ?_;rintro e w2 ⟨rfl,hbl2,hb2⟩;rw[<-HRE.out]at hbl2;have hx2:Ext V w2:=U8 (hx.alloc _) hb2;have HBL:Hid (Lib.IsBuilder 92 5 V.heap.size V.heap.size (Lib.byteCells (got++Gs.fmtE (xa,xd))) w2):=A0 (by have e1:Lib.byteCells (got++Gs.fmtE (xa,xd))=Lib.byteCells got++Lib.strCells R:=(by rw[<-HRL.out];simp[Lib.byteCells,Lib.strCells]);rw[e1];exact hbl2);clear hbl hbl2 hb2 d0 d1 hxx;go_wp2;go_roundw;(case rel=>exact⟨k+1,by omega,by go_num,by rw[HTS.out];exact HBL.out,hx2⟩);case measure=>exact Q8);·obtain rfl:k=N:=B0;rw[X1 PP]at hbl hfl;clear hk hlt htl;generalize xs.flatMap Gs.fmtE=got at*;have HLEN:=A0 (Tryz.Builder_Len V.heap.size V.heap.size (Lib.byteCells got) wr hbl);have HSTR:=A0 (Tryz.Builder_String_any V.heap.size V.heap.size got wr hbl hx.size);have e1:(Lib.byteCells got).length=got.length:=(by rw[Lib.byteCells,J0]);rw[e1]at HLEN;rw[HN.out]at hfl;clear e1 hbl;by_cases hlg:4096<got.length;(·rw[D0 hlg]at HR;go_wp2_with fail;refine HLEN.out.mono ?_;rintro e w1 ⟨rfl,rfl⟩;go_wp2;go_ret2;exact⟨by rw[HR.out];rfl,hxw.trans hx⟩);·rw[C0 hlg]at HR;have hl2:got.length<=4096:=B0;clear hlg;go_wp2_with fail;refine HLEN.out.mono ?_;rintro e w1 ⟨rfl,rfl⟩;go_wp2_with fail;refine HSTR.out.mono ?_;rintro e w1 ⟨rfl,hb1⟩;go_wp2;go_ret2;exact⟨by rw[HR.out];rfl,hxw.trans (U8 hx hb1)⟩
 ·rw[D0 hz]at HR;obtain⟨z,hzz⟩:∃z,Gs.verAll xs=z:=⟨_,rfl⟩;rw[hzz]at HVA HR hz;have hz1:(z==0)=false:=PO;clear hzz HVM;go_enter func19,ntmps19;go_wp2_with fail;refine HI.out.mono ?_;rintro e W ⟨b,rfl,hd,hb,hxW⟩;have H1:=A0 (HVA.out W b hd hxW);clear hd HVA HI;go_wp2_with fail;refine H1.out.mono ?_;rintro e V ⟨rfl,hxV⟩;go_wp2;go_ret2;exact⟨by rw[HR.out];rfl,hxW.trans hxV⟩
theorem Own.one (t:TypeId) (w:World) (v:Value) (B:Nat) (hB:B<=w.heap.size):Own t (w.alloc (.cells #[v] t)) B (.slice (some ⟨w.heap.size,0,none⟩) 1 1) [v]:=
 ⟨rfl,.inr ⟨w.heap.size,1,#[v],rfl,hB,L2 _ _,K0 _,by decide,rfl,rfl⟩⟩
end
section
open Go.RowKit
theorem Zh5 (w:World):(sizeOf 5).run prog w=.ok 1 w:=B1
theorem fA (w:World):(sizeOf 3).run prog w=.ok 1 w:=B1
theorem AG {w:World} {v:Value} {xs:List Value} (hs:SlK w v xs) (l h:Nat) (hl:l<=h) (hh:h<=xs.length):
 ∃v',(∀w',(Instr.slice 90 v (some (.int .i64 (l:Int))) (some (.int .i64 (h:Int))) none).run prog w'=.ok v' w')∧SlK w v' ((xs.drop l).take (h-l)):=by
 obtain⟨hsl,a,c,rfl,hc⟩:=hs
 refine⟨_,fun w'=> ?_,UK hsl hc hl hh⟩
 have e:prog.elem 90=5:=B1
 have ht:prog.underlying 90=some (.slice (prog.elem 90)):=by rw[e];exact underlying90
 rw[run_slice_lh w' 90 a xs.length c ht .i64 .i64 (l:Int) (h:Int) B0 B0 B0,e,Zh5]
 rfl
theorem fB {w:World} {v:Value} {xs:List Value} (hs:SlK w v xs) (l:Nat) (hl:l<=xs.length):
 ∃v',(∀w',(Instr.slice 43 v (some (.int .i64 (l:Int))) none none).run prog w'=.ok v' w')∧SlK w v' (xs.drop l):=by
 obtain⟨hsl,a,c,rfl,hc⟩:=hs
 have h1:=UK hsl hc (l:=l) (h:=xs.length) hl (K0 _)
 rw[X1 dT]at h1
 refine⟨_,fun w'=> ?_,h1⟩
 have e:prog.elem 43=3:=B1
 have ht:prog.underlying 43=some (.slice (prog.elem 43)):=by rw[e];exact underlying43
 rw[run_slice_l w' 43 a xs.length c ht .i64 (l:Int) B0 B0,e,fA]
 rfl
theorem Zho (l:List Int):∀i:Nat,Lib.idxFrom l 256 i=if(Gs.run l).length=l.length then-1 else((i+(Gs.run l).length:Nat):Int):=by
 induction l with
 |nil=>intro i;rfl
 |cons c l ih=>intro i;by_cases h:c=256;(·subst h;simp[Lib.idxFrom,Gs.run]);·simp only[Lib.idxFrom,Gs.run,C0 h,D1];rw[ih];by_cases h1:(Gs.run l).length=l.length;(·have h2:(Gs.run l).length+1=l.length+1:=B0;simp only[D0 h1,D0 h2]);·have h2:¬(Gs.run l).length+1=l.length+1:=B0;simp only[C0 h1,C0 h2];omega
theorem Zj9 {w:World} {v:Value} {cs:List Int} (hs:Sl w v (cs.map encI)) (hn:cs.length<=1000000):
 ∀w',Ext w w'->Calls prog 217 #[v,.int .i64 256] w' fun e w''=>e=.returned (.int .i64 (if(Gs.run cs).length=cs.length then-1 else((Gs.run cs).length:Int)))∧w''=w':=by
 intro w' hx
 have hs':=hs.ext hx
 have e1:Lib.idxOf cs 256=(if(Gs.run cs).length=cs.length then-1 else((Gs.run cs).length:Int)):=by unfold Lib.idxOf;rw[Zho,T4]
 rw[<-e1]
 rcases hs' with⟨h0,a,c,rfl⟩|⟨b,off,cap,rfl,hb,hc⟩
 ·have:cs=[]:=VQ;subst this;exact Tryz.slices_Index_int_empty a c 256 w'
 ·rw[J0]at hc⊢;have:=Tryz.slices_Index_int b off cs.length cap cs 256 w' (K0 _) B0 (fun j hj=>by rw[hc j hj,J2,U0,M0 hj];rfl);rw[J5]at this;exact F3
def ElAt (w:World) (b:Nat) (x:Gs.El):Prop:=w.heap[b]? =some (.cells #[encS x.1,encS x.2] 86 (0,0))
theorem ElAt.cells {w:World} {b:Nat} {x:Gs.El} (h:ElAt w b x):w.cell? ⟨b,0,none⟩=some (encS x.1)∧w.cell? ⟨b,1,none⟩=some (encS x.2):=by unfold ElAt at h;refine⟨?_,?_⟩;all_goals unfold World.cell?;rw[h];rfl
theorem ElAt.free {w:World} {b:Nat} {x:Gs.El} (h:ElAt w b x) (i:Nat):w.frozen? ⟨b,i,none⟩=false:=CK h i
theorem ElAt.put {w:World} {b:Nat} {x:Gs.El} (h:ElAt w b x) (y:Gs.El):ElAt ((w.setCell ⟨b,0,none⟩ (encS y.1)).setCell ⟨b,1,none⟩ (encS y.2)) b y:=B6 (B6 h _) _
theorem ElAt.puts {w:World} {b:Nat} {x:Gs.El} (h:ElAt w b x) (y:Gs.El):(w.setCell ⟨b,0,none⟩ (encS y.1)).cell? ⟨b,0,none⟩=some (encS y.1)∧((w.setCell ⟨b,0,none⟩ (encS y.1)).setCell ⟨b,1,none⟩ (encS y.2)).cell? ⟨b,1,none⟩=some (encS y.2):=
 ⟨TJ h L0,TJ (B6 h _) L0⟩
theorem ElAt.ext {w w':World} {b:Nat} {x:Gs.El} (h:ElAt w b x) (hx:Ext w w'):ElAt w' b x:=by unfold ElAt at h⊢;exact eQ
def Zoy (x:Gs.El×Nat×Int) (w:World) (e:Ending) (w':World):Prop:=e=.returned (.tuple #[.agg #[encS x.1.1,encS x.1.2],.int .i64 (x.2.1:Int),.int .i64 x.2.2])∧Ext w w'
theorem fC {c:Int} (h0:0<=c) (h1:c<=127):((Gs.byte c).toNat:Int)=c:=by unfold Gs.byte;rw[Int.emod_eq_of_lt h0 B0];exact eN
theorem run_at {cs:List Int} {j:Nat} (h:j<(Gs.run cs).length):(Gs.run cs)[j]? =cs[j]? :=by
 rcases(PN cs).2 with e|⟨r,e⟩;·rw[e]
 ·(conv=>rhs;rw[e]);rw[O7 h]
end
section
open Go.RowKit Go.WideMaps Go.Maps
theorem fD {c:List Int} {ai:List UInt8} {r:Gs.Rule} (h0:(Gs.run c).length≠0) (hp:Gs.pre (Gs.text (Gs.run c))=some (ai,r)):
 (Gs.isFix r=true->(Gs.run c).length<ai.length+r.2.2.1.toNat->Gs.next c=(([],[]),0,10))∧
 (Gs.isFix r=true->¬(Gs.run c).length<ai.length+r.2.2.1.toNat->Gs.ver ai (((Gs.text (Gs.run c)).drop ai.length).take r.2.2.1.toNat)≠0->Gs.next c=(([],[]),0,Gs.ver ai (((Gs.text (Gs.run c)).drop ai.length).take r.2.2.1.toNat)))∧
 (Gs.isFix r=true->¬(Gs.run c).length<ai.length+r.2.2.1.toNat->Gs.ver ai (((Gs.text (Gs.run c)).drop ai.length).take r.2.2.1.toNat)=0->Gs.next c=((ai,((Gs.text (Gs.run c)).drop ai.length).take r.2.2.1.toNat),ai.length+r.2.2.1.toNat,0))∧
 (Gs.isFix r=false->Gs.ver ai ((Gs.text (Gs.run c)).drop ai.length)≠0->Gs.next c=(([],[]),0,Gs.ver ai ((Gs.text (Gs.run c)).drop ai.length)))∧
 (Gs.isFix r=false->Gs.ver ai ((Gs.text (Gs.run c)).drop ai.length)=0->(Gs.run c).length+1=c.length->Gs.next c=(([],[]),0,9))∧
 (Gs.isFix r=false->Gs.ver ai ((Gs.text (Gs.run c)).drop ai.length)=0->(Gs.run c).length+1≠c.length->Gs.next c=((ai,(Gs.text (Gs.run c)).drop ai.length),min ((Gs.run c).length+1) c.length,0)):=by
 unfold Gs.next
 rw[C0 h0,hp]
 dsimp only
 refine⟨fun h1 h2=> ?_,fun h1 h2 h3=> ?_,fun h1 h2 h3=> ?_,fun h1 h2=> ?_,fun h1 h2 h3=> ?_,fun h1 h2 h3=> ?_⟩
 ·rw[D0 h1,D0 h2]
 ·rw[D0 h1,C0 h2,D0 h3]
 ·rw[D0 h1,C0 h2,C0 (by simpa using h3)]
 ·rw[C0 (by rw[h1];simp),D0 h2]
 ·rw[C0 (by rw[h1];simp),C0 D9,D0 h3]
 ·rw[C0 (by rw[h1];simp),C0 D9,C0 h3]
theorem KK {l a:List UInt8} {r:Gs.Rule} (h:Gs.pre l=some (a,r)):a.length<=l.length∧Gs.RuleOk r∧a.length<=4:=by have h1:=KG h;exact⟨h1.2.2,XP h1.1,(V9 h1.1).2.1⟩
theorem Zlr (v:Value) (cs:List Int) (b:Nat) (w:World) (hd:Dir w b) (hv:SlK w v (cs.map encI)) (hn:cs.length<=4096) (hok:cs.all Gs.okCh=true) (h0:cs≠ []):
 Calls prog 142 #[.map (some b),v] w (Zoy (Gs.next cs) w):=by
 obtain⟨hsl,av,cv,rfl,hcv⟩:=hv
 rw[J0]at hsl hcv⊢
 have HIX:=A0 (Zj9 hsl B0)
 have HN:=A0 (Eq.refl cs.length)
 have HOK:=A0 (BZ hok)
 have hrl:=BY cs
 have HDV:=A0 (fun(w':World) (hx:Ext w w') (ai d:ByteArray) (h1:ai.size<=maxLen) (h2:d.size<=maxLen)=>yW ai d b w' (Dir.ext hd hx) h1 h2)
 have HPX:=A0 (fun(w':World) (hx:Ext w w') (s:ByteArray) (h1:s.size<=1000000)=>ZiE s b w' (Dir.ext hd hx) h1)
 have HSL:=A0 hsl
 have HNX:=A0 (Gs.next.eq_1 cs)
 obtain⟨b0,o0,hav,hbv,hq9⟩:=hsl.at_ (k:=0) (by rw[J0];exact T6.2 h0)
 clear hq9
 subst hav
 have HCC:Hid (∀w',Ext w w'->∀j,j<(Gs.run cs).length->w'.cell? ⟨b0,o0+j,none⟩=some (.int .i64 ((Gs.run cs).getD j 0))):=A0 (fun w' hx j hj=>by obtain⟨b1,o1,e1,_,hc⟩:=hsl.at_ (k:=j) A3;injection e1 with e1;injection e1 with e1 e2;subst e1 e2;rw[hx.cell (p:=⟨b0,o0+j,none⟩) hbv,hc,E5,U0,run_at hj,M0 B0];rfl)
 obtain⟨N,hN⟩:∃N,cs.length=N:=⟨_,rfl⟩
 obtain⟨m,hm⟩:∃m,(Gs.run cs).length=m:=⟨_,rfl⟩
 obtain⟨b9,hb9⟩:∃b9,b9=w.heap.size+1:=⟨_,rfl⟩
 have HNS:=A0 (fun(h:(Gs.run cs).length≠0) (ai:List UInt8) (r:Gs.Rule) (hp:Gs.pre (Gs.text (Gs.run cs))=some (ai,r))=>fD h hp)
 generalize hres:Gs.next cs=res at*
 have hN0:0<N:=by rw[<-hN];exact MM
 rw[hm]at hrl HIX HCC HNX
 rw[hN]at hrl hn hcv HIX HSL⊢
 clear HN hd hsl hok h0 hres
 have HM:=A0 hm
 have HN:=A0 hN
 clear hm hN
 have E0:∀(A:World),ElAt (A.alloc (.cells #[.string ⟨#[]⟩,.string ⟨#[]⟩] 86)) A.heap.size ([],[]):=fun A=>L2 _ _
 have HE0:=A0 (E0 w)
 clear E0
 by_cases hm0:m=0
 ·rw[D0 hm0]at HNX;subst hm0;rw[C0 B0]at HIX;have HQ:=A0 (HE0.out.puts ([],[]));go_enter func142,ntmps142;go_wp2_with fail;refine(HIX.out _ ((Ext.refl w).alloc _)).mono ?_;rintro e w1 ⟨rfl,rfl⟩;go_wp2;refine V4 (v:=.tuple #[.agg #[.string ⟨#[]⟩,.string ⟨#[]⟩],.int .i64 0,.int .i64 9]) (by simp[results,results142,go_sem]) rfl ⟨by rw[HNX.out];rfl,Xf⟩
 ·rw[C0 hm0]at HNX;have HNS:=A0 (HNS.out (by rw[HM.out];exact hm0));have hm1:((m:Int)==0)=false:=O2;have hm2:(0:Int)<=(m:Int):=B0;have hml:m<=4096:=B0;have hmk:=G9 (P:=prog) 90 5 (.int .u8 0) 1 underlying90 G0 rfl .i64 .i64 m B0 B0;by_cases hmf:m=N
  ·rw[D0 hmf]at HIX;clear hm0;subst hmf;go_enter func142,ntmps142;go_wp2_with fail;refine(HIX.out _ ((Ext.refl w).alloc _)).mono ?_;rintro e w1 ⟨rfl,rfl⟩;go_wp2;clear hmk;go_loopw [26] (fun i wr=>∃j:Nat,j<=m∧i=.int .i64 (j:Int)∧wr.rowIs (w.heap.size+1) 5 m (fun k=>if k<j then encB (Gs.byte ((Gs.run cs).getD k 0))else .int .u8 0)∧Ext (w.alloc (.cells #[.string ⟨#[]⟩,.string ⟨#[]⟩] 86)) wr) (fun i _=>m-(intOf i).toNat);(case atStart=>exact fF);case round=>
    obtain⟨j,hj,rfl,hrow,hxr⟩:=hrel;by_cases hlt:j<m;(·exact fG)
    ·obtain rfl:j=m:=by omega
     have hxw:Ext w wr:=((Ext.refl w).alloc _).trans hxr
     have hst:SlK wr (.slice (some ⟨w.heap.size+1,0,none⟩) j j) ((Gs.text (Gs.run cs)).map encB):=fH
     have hcv:=Zr hst.1
     have HEL:=A0 (HE0.out.ext hxr)
     have HST:=A0 hst
     have htl:(Gs.text (Gs.run cs)).length=j:=by rw[X9,HM.out]
     generalize Gs.text (Gs.run cs)=tx at*
     obtain⟨TX,hTX⟩:∃TX:ByteArray,TX=⟨tx.toArray⟩:=⟨_,rfl⟩
     have HTX:Hid (TX.data.toList=tx):=A0 (by rw[hTX])
     rw[<-hTX]at hcv
     have hTs:TX.size=j:=by rw[<-Zd,HTX.out,htl]
     have HP1:=A0 (HPX.out wr hxw TX B0)
     rw[HTX.out]at HP1
     have HTL:=A0 (And.intro htl hTs)
     clear hTX hst hj hlt htl hTs hrow HPX HIX HSL HCC HOK
     cases hp:Gs.pre tx with
     |none=>exact fI
     |some q=>obtain⟨ai,r⟩:=q;rw[hp]at HP1;obtain⟨al,rok,al4⟩:=KK hp;have HS6:=A0 (HNS.out ai r hp);obtain⟨ra,rb,rc,rd⟩:=r;obtain⟨k0,k3,l1,lh,h9,_⟩:=rok;dsimp only at k0 k3 l1 lh h9 HS6;obtain⟨H,rfl⟩:∃H:Nat,rc=(H:Int):=⟨rc.toNat,by omega⟩;rw[Y5]at HS6;obtain⟨AI,hAI⟩:∃AI:ByteArray,AI.data.toList=ai:=⟨⟨ai.toArray⟩,rfl⟩;have HAI:Hid (encS ai=.string AI):=A0 (by rw[<-hAI,ZT]);have hAL:ai.length=AI.size:=KM;rw[hAL]at al al4 HS6;have HAE:=A0 hAI;have hAj:AI.size<=j:=(by have:=HTL.out.1;omega);have HX:=A0 (fun w=>zV (ra,rb,(H:Int),rd) w);rw[HM.out]at HS6;clear hAI hAL al hp HNX HNS k0 k3;cases hf:Gs.isFix (ra,rb,(H:Int),rd);(·have e0:((ra,rb,(H:Int),rd).2.1==(ra,rb,(H:Int),rd).2.2.1)=false:=hf;rw[e0]at HX;clear e0;obtain⟨vd,hsl,hsd⟩:=AG HST.out AI.size j hAj AH;rw[<-R3,<-I3,X1 fJ]at hsd;obtain⟨D,hD⟩:∃D:ByteArray,D.data.toList=tx.drop AI.size:=⟨⟨(tx.drop AI.size).toArray⟩,rfl⟩;have HD:Hid (encS (tx.drop AI.size)=.string D):=A0 (by rw[<-hD,ZT]);have hDs:D.size<=4096:=fK;have HCV:Hid (∀w',Ext wr w'->(convert 90 9 vd).run prog w'=.ok (.string D) w'):=A0 (fun w' hx=>by have:=Zr (hsd.1.ext hx);rw[this,<-hD,Z4]);have HV1:=A0 (fun w' hx=>HDV.out w' hx AI D U4 U4);rw[HAE.out,hD]at HV1;obtain⟨_,_,_,S4,S5,S6⟩:=HS6.out;have HS4:=A0 (S4 hf);have HS5:=A0 (S5 hf);have HS6':=A0 (S6 hf);generalize tx.drop AI.size=d at*;clear HS6 hf S4 S5 S6 hsd hD;by_cases hver:Gs.ver ai d=0;(·rw[hver]at HV1;have HS5:=A0 (HS5.out hver);have HS6:=A0 (HS6'.out hver);clear hver HS4 HS6';have HR:Hid (res=((ai,d),j,0)):=A0 (by rw[HS6.out (by rw[HN.out];omega),HN.out,Nat.min_eq_right B0]);have hmin:min ((j:Int)+1) (j:Int)=(j:Int):=B0;go_wp2_with fail;refine HP1.out.mono ?_;rintro e w3 ⟨rfl,hx3⟩;simp only[preV,ZK,HAI.out];go_wp2_with fail;refine(HX.out _).mono ?_;rintro e w4 ⟨rfl,hx4⟩;have hx34:Ext wr w4:=(hx3.alloc _).trans hx4;have hel4:=HEL.out.ext hx34;obtain⟨g0,g1⟩:=hel4.cells;have f0:=hel4.free 0;have f1:=hel4.free 1;have c2:w4.cell? ⟨w3.heap.size,2,none⟩=some (.int .i64 (H:Int)):=PQ;have hxa:Ext w w4:=hxw.trans hx34;clear hx3 hx4;have hcv2:=HCV.out w4 hx34;go_wp2_with fail;refine(HV1.out _ ((hxa.setCell (K0 _) _).setCell (K0 _) _)).mono ?_;rintro e w5 ⟨rfl,hx5⟩;have hel5:=(hel4.put (ai,d)).ext KN;obtain⟨i0,i1⟩:=hel5.cells;simp only[HAI.out,HD.out]at i0 i1;have f0:=hel5.free 0;have f1:=hel5.free 1;have hxb:Ext w w5:=((hxa.setCell (K0 _) _).setCell (K0 _) _).trans hx5;have HQ:=A0 (hel5.puts (ai,d));clear hx5 hel5 hel4 g0 g1;go_wp2;obtain⟨p0,p1⟩:=HQ.out;refine V4 (v:=.tuple #[.agg #[.string AI,.string D],.int .i64 (j:Int),.int .i64 0]) fL rfl ⟨by rw[HR.out];simp only[HAI.out,HD.out],Xf⟩);·exact fM);·exact Qp
  ·rw[C0 hmf]at HIX;have hmN:m+1<=N:=B0;clear hm0 hmf;go_enter func142,ntmps142;go_wp2_with fail;refine(HIX.out _ ((Ext.refl w).alloc _)).mono ?_;rintro e w1 ⟨rfl,rfl⟩;go_wp2;clear hmk;go_loopw [26] (fun i wr=>∃j:Nat,j<=m∧i=.int .i64 (j:Int)∧wr.rowIs (w.heap.size+1) 5 m (fun k=>if k<j then encB (Gs.byte ((Gs.run cs).getD k 0))else .int .u8 0)∧Ext (w.alloc (.cells #[.string ⟨#[]⟩,.string ⟨#[]⟩] 86)) wr) (fun i _=>m-(intOf i).toNat);(case atStart=>exact fF);case round=>
    obtain⟨j,hj,rfl,hrow,hxr⟩:=hrel;by_cases hlt:j<m;(·exact fG)
    ·obtain rfl:j=m:=by omega
     have hxw:Ext w wr:=((Ext.refl w).alloc _).trans hxr
     have hst:SlK wr (.slice (some ⟨w.heap.size+1,0,none⟩) j j) ((Gs.text (Gs.run cs)).map encB):=fH
     have hcv:=Zr hst.1
     have HEL:=A0 (HE0.out.ext hxr)
     have HST:=A0 hst
     have htl:(Gs.text (Gs.run cs)).length=j:=by rw[X9,HM.out]
     generalize Gs.text (Gs.run cs)=tx at*
     obtain⟨TX,hTX⟩:∃TX:ByteArray,TX=⟨tx.toArray⟩:=⟨_,rfl⟩
     have HTX:Hid (TX.data.toList=tx):=A0 (by rw[hTX])
     rw[<-hTX]at hcv
     have hTs:TX.size=j:=by rw[<-Zd,HTX.out,htl]
     have HP1:=A0 (HPX.out wr hxw TX B0)
     rw[HTX.out]at HP1
     have HTL:=A0 (And.intro htl hTs)
     clear hTX hst hj hlt htl hTs hrow HPX HIX HSL HCC HOK
     cases hp:Gs.pre tx with
     |none=>exact fI
     |some q=>obtain⟨ai,r⟩:=q;rw[hp]at HP1;obtain⟨al,rok,al4⟩:=KK hp;have HS6:=A0 (HNS.out ai r hp);obtain⟨ra,rb,rc,rd⟩:=r;obtain⟨k0,k3,l1,lh,h9,_⟩:=rok;dsimp only at k0 k3 l1 lh h9 HS6;obtain⟨H,rfl⟩:∃H:Nat,rc=(H:Int):=⟨rc.toNat,by omega⟩;rw[Y5]at HS6;obtain⟨AI,hAI⟩:∃AI:ByteArray,AI.data.toList=ai:=⟨⟨ai.toArray⟩,rfl⟩;have HAI:Hid (encS ai=.string AI):=A0 (by rw[<-hAI,ZT]);have hAL:ai.length=AI.size:=KM;rw[hAL]at al al4 HS6;have HAE:=A0 hAI;have hAj:AI.size<=j:=(by have:=HTL.out.1;omega);have HX:=A0 (fun w=>zV (ra,rb,(H:Int),rd) w);rw[HM.out]at HS6;clear hAI hAL al hp HNX HNS k0 k3;cases hf:Gs.isFix (ra,rb,(H:Int),rd);(·have e0:((ra,rb,(H:Int),rd).2.1==(ra,rb,(H:Int),rd).2.2.1)=false:=hf;rw[e0]at HX;clear e0;obtain⟨vd,hsl,hsd⟩:=AG HST.out AI.size j hAj AH;rw[<-R3,<-I3,X1 fJ]at hsd;obtain⟨D,hD⟩:∃D:ByteArray,D.data.toList=tx.drop AI.size:=⟨⟨(tx.drop AI.size).toArray⟩,rfl⟩;have HD:Hid (encS (tx.drop AI.size)=.string D):=A0 (by rw[<-hD,ZT]);have hDs:D.size<=4096:=fK;have HCV:Hid (∀w',Ext wr w'->(convert 90 9 vd).run prog w'=.ok (.string D) w'):=A0 (fun w' hx=>by have:=Zr (hsd.1.ext hx);rw[this,<-hD,Z4]);have HV1:=A0 (fun w' hx=>HDV.out w' hx AI D U4 U4);rw[HAE.out,hD]at HV1;obtain⟨_,_,_,S4,S5,S6⟩:=HS6.out;have HS4:=A0 (S4 hf);have HS5:=A0 (S5 hf);have HS6':=A0 (S6 hf);generalize tx.drop AI.size=d at*;clear HS6 hf S4 S5 S6 hsd hD;by_cases hver:Gs.ver ai d=0;(·rw[hver]at HV1;have HS5:=A0 (HS5.out hver);have HS6:=A0 (HS6'.out hver);clear hver HS4 HS6';by_cases hlast:j+1=N;(·have HR:Hid (res=(([],[]),0,9)):=A0 (HS5.out (by rw[HN.out];exact hlast));have hji:(j:Int)+1=(N:Int):=B0;clear HS5 HS6 hlast hmN;go_wp2_with fail;refine HP1.out.mono ?_;rintro e w3 ⟨rfl,hx3⟩;simp only[preV,ZK,HAI.out];go_wp2_with fail;refine(HX.out _).mono ?_;rintro e w4 ⟨rfl,hx4⟩;have hx34:Ext wr w4:=(hx3.alloc _).trans hx4;have hel4:=HEL.out.ext hx34;obtain⟨g0,g1⟩:=hel4.cells;have f0:=hel4.free 0;have f1:=hel4.free 1;have c2:w4.cell? ⟨w3.heap.size,2,none⟩=some (.int .i64 (H:Int)):=PQ;have hxa:Ext w w4:=hxw.trans hx34;clear hx3 hx4;have hcv2:=HCV.out w4 hx34;go_wp2_with fail;refine(HV1.out _ ((hxa.setCell (K0 _) _).setCell (K0 _) _)).mono ?_;rintro e w5 ⟨rfl,hx5⟩;have hel5:=(hel4.put (ai,d)).ext KN;obtain⟨i0,i1⟩:=hel5.cells;simp only[HAI.out,HD.out]at i0 i1;have f0:=hel5.free 0;have f1:=hel5.free 1;have hxb:Ext w w5:=((hxa.setCell (K0 _) _).setCell (K0 _) _).trans hx5;have HQ:=A0 (hel5.puts ([],[]));clear hx5 hel5 hel4 g0 g1;go_wp2;obtain⟨p0,p1⟩:=HQ.out;refine V4 (v:=.tuple #[.agg #[.string ⟨#[]⟩,.string ⟨#[]⟩],.int .i64 0,.int .i64 9]) AJ rfl ⟨by rw[HR.out];rfl,Xf⟩);·have HR:Hid (res=((ai,d),j+1,0)):=A0 (by rw[HS6.out (by rw[HN.out];exact hlast),HN.out,X6 B0]);obtain⟨Q,hQ⟩:∃Q,Q=j+1:=⟨_,rfl⟩;rw[<-hQ]at HR;have hji:(j:Int)+1=(Q:Int):=B0;have hQN:Q<N:=B0;have hQN2:((Q:Int)==(N:Int))=false:=O2;have hjQ:j<Q:=B0;have hmin:min (Q:Int) (N:Int)=(Q:Int):=B0;clear HS5 HS6 hlast hmN hQ;exact QH);·exact fM);·exact Qp
theorem Zls {c:List Int} {x:Gs.El} {k:Nat} (hc:c.all Gs.okCh=true) (h:Gs.next c=(x,k,0)):0<k∧k<=c.length:=⟨(AA hc h).2.1,(AA hc h).2.2.1⟩
theorem AK (c:Int):Gs.okCh c=true↔(c=256∨(0<=c∧c<=127)):=by unfold Gs.okCh;simp
theorem ZkY (v:Value) (cs:List Int) (w:World) (hv:SlK w v (cs.map encI)) (hn:cs.length<=9223372036854775807) (ht:ZY w):
 Calls prog 80 #[v] w (ElsR (Gs.frChars cs) w):=by
 have HV:=A0 hv
 obtain⟨hsl,av,cv,rfl,hcv⟩:=hv
 rw[J0]at hcv hsl HV⊢
 have HI:=A0 (zR w ht)
 have HR:=A0 (Gs.frChars.eq_1 cs)
 generalize Gs.frChars cs=res at*
 obtain⟨N,hN⟩:∃N,cs.length=N:=⟨_,rfl⟩
 have HN:=A0 hN
 have HSL:=A0 hsl
 rw[hN]at hn hcv HR HV HSL⊢
 clear ht hsl hN
 by_cases h1:4096<N
 ·rw[D0 h1]at HR;go_enter func80,ntmps80;go_wp2;go_ret2;rw[HR.out];exact ElsR.err _ (Ext.refl _)
 rw[C0 h1]at HR
 have hn1:N<=4096:=by omega
 clear h1 hn
 obtain⟨res1,res2⟩:=res
 go_enter func80,ntmps80
 go_wp2
 go_loop [17] (fun t=>∃k:Nat,k<=N∧t=.int .i64 (k:Int)∧Hid ((cs.take k).all Gs.okCh=true)) (fun t=>N-(intOf t).toNat)
 case atStart=>exact X4
 case round=>
  obtain⟨k,hk,rfl,hall⟩:=hrel;by_cases hlt:k<N;(·obtain⟨c,hck⟩:∃c,cs[k]? =some c:=⟨_,M0 WR⟩;obtain⟨bb,off,ha,hb,hcell⟩:=HSL.out.at_ (k:=k) TK;subst ha;have e1:(cs.map encI)[k]' TK=.int .i64 c:=AM;rw[e1]at hcell;have HTK:Hid (cs.take (k+1)=cs.take k++[c]):=A0 (KJ hck);by_cases hc:Gs.okCh c=true;(·exact fN);·have HF:Hid ((res1,res2)=([],6)):=A0 (by rw[HR.out,D0];rw[YG];exact⟨c,J1 hck,hc⟩);rw[AK]at hc;have h256:(c !=256)=true:=S0;have hr:=HF.out;simp only[N3]at hr;obtain⟨rfl,rfl⟩:=hr;clear hck e1 hall HTK HF HR;exact fO)
  ·obtain rfl:k=N:=B0;have HA:Hid (cs.all Gs.okCh=true):=A0 fP;rw[C0 (by rw[HA.out];exact Bool.noConfusion)]at HR;clear hk hlt hall;by_cases h0:k=0;(·subst h0;have hnil:cs=[]:=L4 HN.out;rw[hnil,D0 L0]at HR;have hr:=HR.out;exact fQ)
   ·obtain⟨c,cr,hcs⟩:∃c cr,cs=c::cr:=by
     cases cs with
     |nil=>exact absurd HN.out.symm h0
     |cons c cr=>exact⟨c,cr,rfl⟩
    obtain⟨bb,off,ha,hb,hcell⟩:=HSL.out.at_ (k:=0) WS;subst ha;have e1:(cs.map encI)[0]' WS=.int .i64 c:=(by rw[E5];simp[hcs,encI]);rw[e1,Y4]at hcell;have hk0:((k:Int)==0)=false:=O2;have hk1:0<k:=B0;have e2:cs.headD 0=c:=(by rw[hcs];rfl);have e3:cs.drop 1=cr:=(by rw[hcs];rfl);rw[e2,e3]at HR;have HCR:Hid (cr.all Gs.okCh=true∧cr.length+1=k):=A0 ⟨by have:=HA.out;rw[hcs,LI,M2]at this;exact this.2,by have:=HN.out;rw[hcs]at this;exact this⟩;by_cases h256:c=256;(·subst h256;rw[C0 L0]at HR;have hv1:=fB AN 1 WS;obtain⟨v1,hs1,hsl1⟩:=hv1;rw[<-R3,e3]at hsl1;clear e1 e2 e3 hcs HA;have hsl1':=hsl1;obtain⟨_,a1,c1,rfl,_⟩:=hsl1';rw[J0]at hs1 hsl1;rw[HN.out]at hs1;obtain⟨M,hM⟩:∃M,cr.length=M:=⟨_,rfl⟩;rw[hM]at hs1 hsl1 HCR;have HS1:Hid (∀w',(Instr.slice 43 (.slice (some ⟨bb,off,none⟩) k cv) (some (.int .i64 1)) none none).run prog w'=.ok (.slice a1 M c1) w'):=A0 hs1;have hs2:=HS1.out;clear hs1;by_cases hM0:M=0;(·have hkk:k=1:=AO;rw[D0 hkk]at HR;have hr:=HR.out;simp only[N3]at hr;obtain⟨rfl,rfl⟩:=hr;subst hM0;clear hkk hcv hn1;exact WT);·have hkk:¬k=1:=AO;rw[C0 hkk]at HR;have hM1:((M:Int)==0)=false:=O2;have hM2:M<=4096:=AO;have HSL1:=A0 hsl1;have HMM:=A0 hM;clear hkk hsl1 hM hcv;go_wp2_with fail;refine HI.out.mono ?_;rintro e W ⟨b,rfl,hd,hbb,hxW⟩;have HNX:=A0 (fun(w':World) (hx:Ext W w') (v:Value) (l:List Int) (h1:SlK w' v (l.map encI)) (h2:l.length<=4096) (h3:l.all Gs.okCh=true) (h4:l≠ [])=>Zlr v l b w' (Dir.ext hd hx) h1 h2 h3 h4);have HSL2:=A0 (HSL1.out.ext hxW);clear hd hs2 HI hbb hcell;go_wp2;go_loopw [6,8] (fun r v wr=>∃(l:List Int) (acc:List Gs.El) (n:Nat),SlK W r (l.map encI)∧l.length+acc.length<=4096∧EOwn wr W.heap.size v acc∧Hid (l.all Gs.okCh=true∧l.length<=n∧(res1,res2)=Gs.fromF n l acc)∧Ext W wr) (fun r _ _=>match r with| .slice _ n _=>n|_=>0);(case atStart=>exact⟨cr,[],k,HSL2.out,by have:=HMM.out;simp;omega,EOwn.nil _ _,A0 ⟨HCR.out.1,by have:=HCR.out.2;have:=HMM.out;omega,HR.out⟩,Ext.refl W⟩);case round=>obtain⟨l,acc,n,hsl,hsz,hown,hpf,hx⟩:=hrel;have HK:=A0 hsl;have HK2:=A0 (hsl.ext hx);obtain⟨_,ar,cc,rfl,hcap⟩:=hsl;obtain⟨ao,co,rfl⟩:=hown.sl.form;rw[J0]at hcap HK HK2⊢;clear HR HSL1 HSL2 HMM;by_cases h00:l=[];(·subst h00;have HF:Hid ((res1,res2)=(acc,0)):=A0 (by rw[hpf.out.2.2,eO]);have hr:=HF.out;simp only[N3]at hr;obtain⟨rfl,rfl⟩:=hr;clear hpf HF;go_wp2;go_ret2;exact⟨_,rfl,hown.sl,hxW.trans hx⟩);·have hL0:0<l.length:=T6.2 h00;obtain⟨p1,p2,p3⟩:=hpf.out;have H1:=A0 (HNX.out wr hx _ l HK2.out B0 p1 h00);obtain⟨n',rfl⟩:∃n',n=n'+1:=⟨n-1,by omega⟩;rw[Gs.fromF,C0 h00]at p3;have HP3:=A0 p3;have HP1:=A0 p1;have HPN:=A0 p2;have HNP:=A0 (fun x k h=>Zls (c:=l) (x:=x) (k:=k) p1 h);clear p1 p2 p3 hpf;have HNE:=A0 (Eq.refl (Gs.next l));obtain⟨nx,hnx⟩:∃nx,Gs.next l=nx:=⟨_,rfl⟩;rw[hnx]at H1 HP3 HNP;clear HNE;obtain⟨⟨xa,xd⟩,q,z⟩:=nx;dsimp only at HP3;by_cases hz:z=0;(·subst hz;rw[C0 L0]at HP3;obtain⟨q0,q1⟩:=HNP.out _ _ rfl;obtain⟨v2,hs2,hsl2⟩:=fB HK.out q (by rw[J0];exact q1);rw[<-R3]at hsl2;have HSL2:=A0 hsl2;obtain⟨_,a2,c2,rfl,_⟩:=hsl2;rw[J0]at hs2 HSL2;have HLD:Hid ((l.drop q).length=l.length-q):=A0 (X2);have HOK:Hid ((l.drop q).all Gs.okCh=true):=A0 (U1.2 fun b hb=>U1.1 HP1.out b (M6 hb));obtain⟨l2,hl2⟩:∃l2,l.drop q=l2:=⟨_,rfl⟩;rw[hl2]at hs2 HSL2 HLD HOK HP3;have HQ:=A0 (And.intro q0 q1);have hq2:(0:Int)<=(q:Int):=B0;clear HNP hnx q0 q1 hl2 HNX;go_wp2_with fail;refine H1.out.mono ?_;rintro e w3 ⟨rfl,hx3⟩;simp only[encS];have hownA:=hown.ext hx3;have hx3W:=hx.trans hx3;clear hx3 hown hx H1;go_wp2_with (at_builtin;go_loud (refine LP rfl _ _ rfl W.heap.size _ _ rfl ((hownA.ext ((Ext.refl w3).alloc _)).ext ((Ext.refl _).alloc _)) _ (xa,xd) rfl ?_ ?_ B0 ?_ ?_));(·rfl);(·rfl);(·have:=hx3W.size;exact S0);intro v5 w5 hown5 hg5;have hx5:Ext W w5:=((hx3W.alloc _).alloc _).ofGrown hg5 hownA.low;clear hg5 hownA;go_wp2;go_roundw;(case rel=>exact⟨l2,acc++[(xa,xd)],n',HSL2.out,by have:=HLD.out;have:=HQ.out;rw[T0];simp;omega,hown5,A0 ⟨HOK.out,by have:=HLD.out;have:=HQ.out;have:=HPN.out;omega,HP3.out⟩,hx5⟩);case measure=>have h8:=HLD.out;have h9:=HQ.out;show l2.length<l.length;omega);·rw[D0 hz]at HP3;have hr:=HP3.out;simp only[N3]at hr;obtain⟨rfl,rfl⟩:=hr;have hz1:(res2==0)=false:=PO;clear hz HP3 HNP hnx;go_wp2_with fail;refine H1.out.mono ?_;rintro e w3 ⟨rfl,hx3⟩;simp only[encS];go_wp2;go_ret2;exact ElsR.err _ (hxW.trans ((hx.trans hx3).alloc _)));·rw[D0 h256]at HR;have hr:=HR.out;simp only[N3]at hr;obtain⟨rfl,rfl⟩:=hr;have h2:(c !=256)=true:=(by simpa using h256);clear e1 e2 e3 hcs HR HA;exact WT
end
section
namespace Cc
theorem chOf_ge {v:Int} (h:0<=v) (s:Nat):0<=chOf v s:=by unfold chOf;exact Y6
theorem step_ge {s s':Nat} {sh sh':Bool} {v:Int} {o:List Int} (h:stepC s sh v=some (s',sh',o)) (hv:0<=v):(∀c∈o,0<=c)∧o.length<=2:=by
 unfold stepC at h
 have one:∀ {a:Nat} {b:Bool} {x:Int},0<=x->some (a,b,[x])=some (s',sh',o)->(∀c∈o,0<=c)∧o.length<=2:=fun hx e=>by injection e with e;injection e with _ e;injection e with _ e;subst e;exact⟨fun c hc=>by rw[U3]at hc;subst hc;exact hx,by simp⟩
 have non:∀ {a:Nat} {b:Bool},some (a,b,[])=some (s',sh',o)->(∀c∈o,0<=c)∧o.length<=2:=fun e=>by injection e with e;injection e with _ e;injection e with _ e;subst e;exact⟨(fun c hc=>by cases hc),by simp⟩
 cases sh with
 |true=>rw[D0 rfl]at h;split at h;(·cases h);·exact one (chOf_ge hv _) h
 |false=>rw[C0 I0]at h;split at h;(·cases h);split at h;(·exact one I0 h);split at h;(·injection h with h;injection h with _ h;injection h with _ h;subst h;refine⟨fun c hc=> ?_,by simp⟩;rcases V3.1 hc with rfl|hc;(·omega);·rw[U3]at hc;subst hc;omega);split at h;(·exact one (chOf_ge hv _) h);split at h;(·exact one I0 h);split at h;(·exact one I0 h);split at h;(·exact non h);split at h;(·exact non h);split at h;(·exact non h);split at h;(·exact non h);exact one I0 h
theorem run_ge:∀(vs:List Int) (s:Nat) (sh:Bool) (out o:List Int),runC s sh out vs=some o->(∀v∈vs,0<=v)->(∀c∈out,0<=c)->(∀c∈o,0<=c)∧o.length<=out.length+2*vs.length
 | [],s,sh,out,o,h,hv,ho=>by rw[runC]at h;split at h;(·cases h);·injection h with h;subst h;exact⟨ho,by omega⟩
 |v::vs,s,sh,out,o,h,hv,ho=>by
  rw[runC]at h
  cases hs:stepC s sh v with
  |none=>rw[hs]at h;cases h
  |some t=>obtain⟨s',h',x⟩:=t;rw[hs]at h;obtain⟨h1,h2⟩:=step_ge hs (hv v (N2 ..));obtain⟨h3,h4⟩:=run_ge vs s' h' (out++x) o h (fun v hv'=>hv v (V2 _ hv')) (fun c hc=>by rcases B5.1 hc with hc|hc;(·exact ho c hc);·exact h1 c hc);refine⟨h3,?_⟩;rw[T0]at h4;rw[D1];omega
theorem chars_ge {vs cs:List Int} (h:chars vs=(cs,0)):(∀c∈cs,0<=c)∧cs.length<=2*vs.length:=by
 unfold chars at h;split at h;·exact P7
 rename_i h1;rw[UD,KO]at h1;have hv:∀v∈vs,0<=v:=fun v hv=>by have:=h1 v hv;exact D7
 split at h;·exact P7
 split at h;·exact P7
 split at h;·exact P7
 split at h;·exact P7
 split at h;·exact P7
 ·rename_i o ho;injection h with h _;subst h;obtain⟨h2,h3⟩:=run_ge _ _ _ _ _ ho (fun v hv'=>hv v (G4 (M6 hv'))) (fun c hc=>by cases hc);refine⟨h2,?_⟩;rw[X2,M1,O4]at h3;omega
theorem vals_len:∀(n:Nat) (w l:List Int),valsGo n w=some l->l.length=n
 |0,w,l,h=>by injection h with h;subst h;rfl
 |n+1,w,l,h=>by
  rw[valsGo]at h;split at h;(·cases h)
  ·cases hr:valsGo n (w.drop 6)with
   |none=>rw[hr]at h;cases h
   |some r=>rw[hr]at h;injection h with h;subst h;rw[D1,vals_len n _ r hr]
theorem dec_ge {row:List Bool} {cs:List Int} (h:dec row=(cs,0)):(∀c∈cs,0<=c)∧cs.length<=(Rn.widths row).length:=by
 unfold dec at h;split at h;·exact P7
 split at h;·exact P7
 split at h;·exact P7
 rename_i hw;split at h;·exact P7
 split at h;·exact P7
 ·rename_i vs hv;obtain⟨h1,h2⟩:=chars_ge h;refine⟨h1,?_⟩;rw[T0,vals_len _ _ _ hv]at h2;simp only[D1,O4]at h2;omega
end Cc
namespace RG
open Go.RowKit
variable {row:Option Nat} {c:Nat} {late:List Nat}
def Z9 (n m l:Nat):Array Bool:=(Zt n m).setIfInBounds l false
def ZJ (ops:Array Oper) (m l:Nat) (ds:List Nat) (deps:List (List Nat)):Bool:=
 decide (m<ops.size)&&decide (ds.length=m)&&decide ds.Nodup&&
 ((
  List.range m).all fun i=>match ops[i]? with
  |some o=>o.guard.isNone&&o.dst==some (ds.getD i 0)&&(deps.getD i []).all fun j=>decide (j<i)&&ZP ops i j
  |none=>false)&&
 ((
  List.range ops.size).all fun i=>match ops[i]? with
  |some o=>o.after.all fun e=> !Region.binds .any e || decide (e.on<i)
  |none=>false)&&
 ((List.range m).all fun i=>i==l || (List.range (m+1)).any fun k=>decide (i<k)&&(k !=l)&&ZP ops k i)&&
 ((List.range ops.size).all fun i=>decide (i<=m) || (List.range ops.size).any fun k=>decide (m<=k)&&ZP ops i k)&&
 decide (cnt ops.size (Zt ops.size m)=ops.size-m)&&decide (cnt ops.size (Array.replicate ops.size false)=ops.size)&&decide (l<m)&&decide (cnt ops.size (Z9 ops.size m l)=ops.size-m+1)
def lt (c:Nat) (late:List Nat) (i:Nat):Bool:=i==c || late.contains i
def lateCheck (ops:Array Oper) (c:Nat) (late:List Nat):Bool:=late.all fun i=>decide (i<ops.size)&&(List.range i).any fun j=>lt c late j&&ZP ops i j
structure RelInvC (row:Option Nat) (c:Nat) (ops:Array Oper) (W:World) (a:Act) (m:Nat) (ds:List Nat) (R:Nat->Value->World->Prop) (listed:Array Bool) (b:Act) (w:World) (V:Nat->Value):Prop where
 size:listed.size=ops.size
 fill:b=fillA V ds a
 ext:GB row W w
 pre:listed.getD c false=false->Ext W w
 tail:∀i,i<ops.size->listed.getD i false=true->i<m
 fact:∀i,i<m->listed.getD i false=true->R i (V (ds.getD i 0)) w
 down:∀k i,k<ops.size->listed.getD k false=true->ZP ops k i=true->listed.getD i false=true
theorem RelInvC.after {row:Option Nat} {c:Nat} {late:List Nat} {ops:Array Oper} {W:World} {a:Act} {m:Nat} {ds:List Nat} {R:Nat->Value->World->Prop} {listed:Array Bool} {b:Act} {w:World} {V:Nat->Value} (I:RelInvC row c ops W a m ds R listed b w V) (hlate:lateCheck ops c late=true):
 ∀k,k<ops.size->lt c late k=true->listed.getD k false=true->listed.getD c false=true:=by
 unfold lateCheck at hlate
 rw[U1]at hlate
 intro k
 induction k using Nat.strongRecOn with
 |_ k ih=>intro hk hlt hl;unfold lt at hlt;rw[B7,Y0]at hlt;rcases hlt with rfl|hlt;(·exact hl);·have h:=hlate k (by simpa using hlt);rw[M2,YW]at h;obtain⟨_,j,hj,h2⟩:=h;rw[M4]at hj;rw[M2]at h2;exact ih j hj B0 h2.1 (I.down k j hk hl h2.2)
theorem getD_set_self_true {l:Array Bool} {i:Nat} (h:i<l.size):(l.setIfInBounds i true).getD i false=true:=by simp[h]
section
variable {P:Program} {ops:Array Oper} {Q:Exit->Act->World->Prop} {W:World} {a:Act} {m l:Nat} {ds:List Nat} {deps:List (List Nat)} {R:Nat->Value->World->Prop}
theorem BA (hchk:ZJ ops m l ds deps=true)
 (hlate:lateCheck ops c late=true) (hst:∀i v w w',R i v w->GB row w w'->(lt c late i=true->Ext w w')->R i v w')
 (hstep:∀i o,i<m->ops[i]? =some o->∀V w,GB row W w->(i=c->Ext W w)->(∀j∈deps.getD i [],R j (V (ds.getD j 0)) w)->ZA P o (fillA V ds a) w fun v w'=>GB row w w'∧(i≠c->Ext w w')∧R i v w')
 (hend:∀V w,GB row W w->(∀j,j<m->R j (V (ds.getD j 0)) w)->wpAny P .any ops Q (ops.size-m) (Zt ops.size m) (fillA V ds a) w)
 (hend2:∀V w,GB row W w->(∀j,j<m->j≠l->R j (V (ds.getD j 0)) w)->wpAny P .any ops Q (ops.size-m+1) (Z9 ops.size m l) (fillA V ds a) w):
 ∀(fuel:Nat) (listed:Array Bool) (b:Act) (w:World) (V:Nat->Value),cnt ops.size listed=fuel->RelInvC row c ops W a m ds R listed b w V->wpAny P .any ops Q fuel listed b w:=by
 simp only[ZJ,M2,Y1]at hchk
 obtain⟨⟨⟨⟨⟨⟨⟨⟨⟨⟨c1,c2⟩,c3⟩,c4⟩,c5⟩,c6⟩,c7⟩,c8⟩,c9⟩,c10⟩,c11⟩:=hchk
 rw[U1]at c4 c5 c6 c7
 intro fuel
 induction fuel with
 |zero=>exact CQ
 |succ fuel ih=>
  intro listed b w V hc I;have hall:m∈Region.ready .any ops listed->listed=Zt ops.size m∨listed=Z9 ops.size m l:=fun hr=>by
   obtain⟨hmf,o,ho,hdep⟩:=TD.1 hr
   have hl:∀d i,i<m->i≠l->m-i=d->listed.getD i false=true:=by
    intro d
    induction d using Nat.strongRecOn with
    |_ d ihd=>exact cV
   have hrest:∀i,i<ops.size->¬i<m->listed.getD i false=false:=fun i h1' him=>by
    cases h:listed.getD i false with
    |false=>rfl
    |true=>exact absurd (I.tail i h1' h) him
   cases hll:listed.getD l false with
   |true=>exact cW
   |false=>right;apply UT;(·rw[I.size];simp[Z9,Zt];omega);·intro i h1 h2;have h1':i<ops.size:=LU;by_cases e:l=i;(·subst e;simp[h1]at hll;simp[Z9,hll]);·by_cases him:i<m;(·have:=hl _ i him (fun h=>e h.symm) rfl;simp[h1]at this;simp[Z9,Zt,e,him,this]);·have:=hrest i h1' him;simp[h1]at this;simp[Z9,Zt,e,BC,him,this]
  have hmf:listed.getD m false=false:=by
   cases h:listed.getD m false with
   |false=>rfl
   |true=>exact absurd (I.tail m c1 h) (LV _)
  have hsome:Region.ready .any ops listed≠ []:=Q0;by_cases hmr:m∈Region.ready .any ops listed;(·exact cX);refine⟨fun h=>absurd h hsome,fun i hi=> ?_⟩;obtain⟨hiu,o,ho,hdep⟩:=TD.1 hi;have hin:i<ops.size:=(O3.1 ho).1;have him:i<m:=iT;have h4:=c4 i (M4.2 him);rw[ho]at h4;simp only[M2,Y0,U1,Y1]at h4;obtain⟨⟨hg,hd⟩,hdd⟩:=h4;have hgn:o.guard=none:=by cases h:o.guard with
   |none=>rfl
   |some x=>rw[h]at hg;cases hg
  have hw:Region.wanted o (yielded ops b.tmps)=true:=(by simp[Region.wanted,hgn]);unfold wpOp;rw[ho];simp only[hw,W4];refine .inl ?_;have hiu2:listed.getD i false=false:=(by rw[<-NK AS];exact hiu);have hs:=hstep i o him ho V w I.ext (fun e=>I.pre (by rw[<-e];exact hiu2)) (fun j hj=>by obtain⟨h1,h2⟩:=hdd j hj;obtain⟨e,he,hb,hon⟩:=VZ ho h2;exact I.fact j B0 AT);rw[I.fill];refine NH hs (fun v w' ⟨hx,hy,hR⟩=> ?_);have hmem:ds.getD i 0∈ds:=iU;rw[hd,FC V _ v ds a c3 hmem];refine ih _ _ _ _ ?_ ⟨?_,rfl,I.ext.trans hx,?_,?_,?_,?_⟩;(·have:=NJ I.size hiu;omega);(·rw[Array.size_setIfInBounds];exact I.size);(·intro hl;(have hic:i≠c:=fun e=>by subst e;rw[getD_set_self_true AS]at hl;cases hl);rw[TM false hic]at hl;exact(I.pre hl).trans (hy hic));(·exact iV);(·intro k hk hl;by_cases hki:i=k;(·subst hki;rw[D0 rfl];exact hR);·rw[TM false hki]at hl;have hne:ds.getD k 0≠ds.getD i 0:=iW;rw[C0 hne];refine hst k _ _ _ (I.fact k hk hl) hx (fun hlt=>hy (fun e=> ?_));have:=I.after hlate k B0 hlt hl;rw[<-e,hiu2]at this;cases this);·exact iX
theorem BD {id:Nat} (hm:P.follows .mixedOrders=true) (hchk:ZJ ops m l ds deps=true)
 (hlate:lateCheck ops c late=true) (hst:∀i v w w',R i v w->GB row w w'->(lt c late i=true->Ext w w')->R i v w')
 (hstep:∀i o,i<m->ops[i]? =some o->∀V w,GB row W w->(i=c->Ext W w)->(∀j∈deps.getD i [],R j (V (ds.getD j 0)) w)->ZA P o (fillA V ds a) w fun v w'=>GB row w w'∧(i≠c->Ext w w')∧R i v w')
 (hend:∀V w,GB row W w->(∀j,j<m->R j (V (ds.getD j 0)) w)->wpAny P .any ops Q (ops.size-m) (Zt ops.size m) (fillA V ds a) w)
 (hend2:∀V w,GB row W w->(∀j,j<m->j≠l->R j (V (ds.getD j 0)) w)->wpAny P .any ops Q (ops.size-m+1) (Z9 ops.size m l) (fillA V ds a) w):
 (Code.region id ops true).wp P Q a W:=by
 refine wp_region_any hm ?_
 have hc:cnt ops.size (Array.replicate ops.size false)=ops.size:=cY
 have hf:∀i,(Array.replicate ops.size false).getD i false=false:=fun i=>CR
 refine BA hchk hlate hst hstep hend hend2 _ _ _ _ (fun d=>a.tmps.getD d undef) hc ⟨by simp,(NI ds a).symm,GB.ext (Ext.refl W).drew,fun _=>(Ext.refl W).drew,?_,?_,?_⟩
 ·exact TE
 ·exact TE
 ·exact CS
end
def relPlanC (row:Option Nat) (c:Nat) (late:List Nat) (P:Program) (W:World) (a:Act) (ds:List Nat) (deps:List (List Nat)) (fin:List Rel->Prop):List Oper->Nat->List Rel->Prop
 | [],_,acc=>fin acc
 |o::rest,k,acc=>∃R:Rel,(∀v w w',R v w->GB row w w'->(lt c late k=true->Ext w w')->R v w')∧(∀V w,GB row W w->(k=c->Ext W w)->Z6 acc k ds V w (deps.getD k [])->ZA P o (fillA V ds a) w fun v w'=>GB row w w'∧(k≠c->Ext w w')∧R v w')∧relPlanC row c late P W a ds deps fin rest (k+1) (R::acc)
theorem relPlanC_get {P:Program} {W:World} {a:Act} {ds:List Nat} {deps:List (List Nat)} {fin:List Rel->Prop}:∀(l:List Oper) (k:Nat) (acc:List Rel),acc.length=k->(∀i R,acc.reverse[i]? =some R->∀v w w',R v w->GB row w w'->(lt c late i=true->Ext w w')->R v w')->relPlanC row c late P W a ds deps fin l k acc->
 ∃all:List Rel,all.length=k+l.length∧(∀i,i<k->all[i]? =acc.reverse[i]?)∧(∀i R,all[i]? =some R->∀v w w',R v w->GB row w w'->(lt c late i=true->Ext w w')->R v w')∧fin all.reverse∧
  ∀i o,l[i]? =some o->∀V w,GB row W w->(k+i=c->Ext W w)->(∀j∈deps.getD (k+i) [],j<k+i∧(all.getD j fun _ _=>True) (V (ds.getD j 0)) w)->ZA P o (fillA V ds a) w fun v w'=>GB row w w'∧(k+i≠c->Ext w w')∧(all.getD (k+i) fun _ _=>True) v w'
 | [],k,acc,hk,hs,h=>⟨acc.reverse,by simpa using hk,fun _ _=>rfl,hs,by rw[NC];exact h,fun i o hi=>by simp at hi⟩
 |o::rest,k,acc,hk,hs,h=>by
  obtain⟨R,hR,h1,h2⟩:=h;obtain⟨all,a1,a2,a3,a4,a5⟩:=relPlanC_get rest (k+1) (R::acc) (by rw[D1,hk]) (fun i X hX=>by rw[Y8]at hX;by_cases hik:i<k;(·rw[O7 (by rw[D4,hk];exact hik)]at hX;exact hs i X hX);·have hle:i<acc.reverse.length+1:=(by have:=(I1.1 hX).1;exact E9);have hik2:i=k:=(by rw[D4,hk]at hle;omega);subst hik2;rw[M9 (by rw[D4,hk];exact K0 _),D4,hk,I4]at hX;simp only[B3,I2]at hX;rw[<-hX];exact hR) h2;rw[Y8]at a2;have hlr:acc.reverse.length=k:=(by rw[D4,hk]);refine⟨all,by rw[a1,D1];omega,fun i hi=> ?_,a3,a4,fun i o' hi V w hx hpre hf=> ?_⟩;(·exact cN)
  ·cases i with
   |zero=>simp only[B3,I2]at hi;subst hi;have hget:all[k]? =some R:=cO;rw[Y4]at hf hpre;have:=h1 V w hx hpre (SX.2 fun j hj=>by obtain⟨hjk,hh⟩:=hf j hj;rw[U0,a2 j B0,O7 B0,YZ B0,hk]at hh;rw[U0];exact hh);exact cP
   |succ i=>rw[D5]at hi;have:=a5 i o' hi V w hx (by rw[show k+1+i=k+(i+1) by omega];exact hpre) cQ;rw[show k+1+i=k+(i+1) by omega]at this;exact F3
theorem wp_region_relC (c:Nat) (late:List Nat) {P:Program} {Q:Exit->Act->World->Prop} {W:World} {a:Act} {id:Nat} {ops:Array Oper} (m n l:Nat) (hn:ops.size=m+n) (ds:List Nat) (deps:List (List Nat)) (hm:P.follows .mixedOrders=true) (hchk:ZJ ops m l ds deps=true) (hlate:lateCheck ops c late=true)
 (h:relPlanC row c late P W a ds deps (fun acc=>(∀V w,GB row W w->Z6 acc m ds V w (List.range m)->wpAny P .any ops Q n (Zt (m+n) m) (fillA V ds a) w)∧(∀V w,GB row W w->Z6 acc m ds V w ((List.range m).filter (· !=l))->wpAny P .any ops Q (n+1) (Z9 (m+n) m l) (fillA V ds a) w)) (ops.toList.take m) 0 []):
 (Code.region id ops true).wp P Q a W:=by
 obtain⟨all,a1,_,a3,a4,a5⟩:=relPlanC_get _ 0 [] rfl (fun i R h=>by simp at h) h
 have hmz:m<ops.size:=cZ
 have hlen:all.length=m:=CW
 have hdm:∀i,i<m->∀j∈deps.getD i [],j<i:=by
  simp only[ZJ,M2,Y1]at hchk
  have c4:=hchk.1.1.1.1.1.1.1.2
  rw[U1]at c4
  intro i hi j hj
  have h4:=c4 i (M4.2 hi)
  cases ho:ops[i]? with
  |none=>rw[ho]at h4;cases h4
  |some o=>exact CX
 refine BD (row:=row) (c:=c) (l:=l) (R:=fun i=>all.getD i fun _ _=>True) (m:=m) (ds:=ds) (deps:=deps) hm hchk hlate ?_ ?_ ?_ ?_
 ·intro i v w w' h hx hl
  rw[U0]at h⊢
  cases hi:all[i]? with
  |none=>rw[hi]at h;trivial
  |some R=>rw[hi]at h;exact a3 i R hi v w w' h hx hl
 ·intro i o hi ho V w hx hpre hf;have h1:(ops.toList.take m)[i]? =some o:=iY;have:=a5 i o h1 V w hx (by rw[T4];exact hpre) iZ;rw[T4]at this;exact F3
 ·exact dA
 ·exact dB
theorem relAt_mono {P:Program} {o:Oper} {a:Act} {w:World} {K K':Value->World->Prop} (h:ZA P o a w K) (hk:∀v w',K v w'->K' v w'):ZA P o a w K':=by
 unfold ZA at*
 generalize(execOp a.eval o).run P w=r at*
 cases r with
 |ok n w'=>cases n<;>simp only[relUpon]at h⊢;(case value u=>exact hk _ _ h);(case skip=>exact hk _ _ h);case enter f args=>exact h.mono fun e w'' ⟨v,he,hv⟩=>⟨v,he,hk _ _ hv⟩
 |halt x w'=>simp only[relUpon]at h
section
variable {P:Program} {W:World} {a:Act} {ds:List Nat} {deps:List (List Nat)} {fin:List Rel->Prop} {o:Oper} {rest:List Oper} {k:Nat} {acc:List Rel}
theorem relPlanC_eq {t:Value} (hkc:k≠c) (h1:∀V w,GB row W w->Z6 acc k ds V w (deps.getD k [])->ZA P o (fillA V ds a) w fun v w'=>Ext w w'∧v=t) (h2:relPlanC row c late P W a ds deps fin rest (k+1) (eqv t::acc)):relPlanC row c late P W a ds deps fin (o::rest) k acc:=
 ⟨eqv t,fun _ _ _ h _ _=>h,fun V w hx _ hf=>relAt_mono (h1 V w hx hf) fun v w' ⟨h,e⟩=>⟨GB.ext h,fun _=>h,e⟩,h2⟩
theorem relPlanC_by (R:Rel) (hR:∀v w w',R v w->GB row w w'->R v w') (hkc:k≠c) (h1:∀V w,GB row W w->Z6 acc k ds V w (deps.getD k [])->ZA P o (fillA V ds a) w fun v w'=>Ext w w'∧R v w') (h2:relPlanC row c late P W a ds deps fin rest (k+1) (R::acc)):relPlanC row c late P W a ds deps fin (o::rest) k acc:=
 ⟨R,fun v w w' h hg _=>hR v w w' h hg,fun V w hx _ hf=>relAt_mono (h1 V w hx hf) fun v w' ⟨h,e⟩=>⟨GB.ext h,fun _=>h,e⟩,h2⟩
theorem relPlanC_late (R:Rel) (hR:∀v w w',R v w->Ext w w'->R v w') (hkc:k≠c) (hl:lt c late k=true) (h1:∀V w,GB row W w->Z6 acc k ds V w (deps.getD k [])->ZA P o (fillA V ds a) w fun v w'=>Ext w w'∧R v w') (h2:relPlanC row c late P W a ds deps fin rest (k+1) (R::acc)):relPlanC row c late P W a ds deps fin (o::rest) k acc:=
 ⟨R,fun v w w' h _ he=>hR v w w' h (he hl),fun V w hx _ hf=>relAt_mono (h1 V w hx hf) fun v w' ⟨h,e⟩=>⟨GB.ext h,fun _=>h,e⟩,h2⟩
theorem relPlanC_call (R:Rel) (hR:∀v w w',R v w->Ext w w'->R v w') (hkc:k=c) (hl:lt c late k=true) (h1:∀V w,Ext W w->Z6 acc k ds V w (deps.getD k [])->ZA P o (fillA V ds a) w fun v w'=>GB row w w'∧R v w') (h2:relPlanC row c late P W a ds deps fin rest (k+1) (R::acc)):relPlanC row c late P W a ds deps fin (o::rest) k acc:=
 ⟨R,fun v w w' h _ he=>hR v w w' h (he hl),fun V w _ hp hf=>relAt_mono (h1 V w (hp hkc) hf) fun v w' ⟨h,e⟩=>⟨h,fun h'=>absurd hkc h',e⟩,h2⟩
end
end RG
end
end Go.Proofs.YtbngggoccndefaaGreatDoor
