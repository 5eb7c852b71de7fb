/-
  Laid.
-/
import Derived.Test.YtbngggoccndefaaGreatDoorRt23
set_option maxHeartbeats 8000000
set_option maxRecDepth 100000
set_option linter.all false
namespace Go.Proofs.YtbngggoccndefaaGreatDoor
open Go.Proofs.Tryz
section
open Go.RowKit
theorem oI (w:World):(sizeOf 5).run prog w=.ok 1 w:=Y0
theorem oJ (w:World):(sizeOf 3).run prog w=.ok 1 w:=Y0
theorem FN {w:World} {v:Value} {xs:List Value} (hs:SlK w v xs) (l h:Nat) (hl:l<=h) (hh:h<=xs.length):
 ∃v',(∀w',(Instr.slice 90 v (some (.int .i64 (l:Int))) (some (.int .i64 (h:Int))) none).run prog w'=.ok v' w')∧SlK w v' ((xs.drop l).take (h-l)):=by
 obtain⟨hsl,a,c,rfl,hc⟩:=hs
 refine⟨_,fun w'=> ?_,LG hsl hc hl hh⟩
 have e:prog.elem 90=5:=Y0
 have ht:prog.underlying 90=some (.slice (prog.elem 90)):=by rw[e];exact underlying90
 rw[run_slice_lh w' 90 a xs.length c ht .i64 .i64 (l:Int) (h:Int) C0 C0 C0,e,oI]
 rfl
theorem jT {w:World} {v:Value} {xs:List Value} (hs:SlK w v xs) (l:Nat) (hl:l<=xs.length):
 ∃v',(∀w',(Instr.slice 43 v (some (.int .i64 (l:Int))) none none).run prog w'=.ok v' w')∧SlK w v' (xs.drop l):=by
 obtain⟨hsl,a,c,rfl,hc⟩:=hs
 have h1:=LG hsl hc (l:=l) (h:=xs.length) hl (I0 _)
 rw[P1 (by rw[L2];exact I0 _)]at h1
 refine⟨_,fun w'=> ?_,h1⟩
 have e:prog.elem 43=3:=Y0
 have ht:prog.underlying 43=some (.slice (prog.elem 43)):=by rw[e];exact underlying43
 rw[run_slice_l w' 43 a xs.length c ht .i64 (l:Int) C0 C0,e,oJ]
 rfl
theorem oK (l:List Int):∀i:Nat,Lib.idxFrom l 256 i=if(Gs.run l).length=l.length then-1 else((i+(Gs.run l).length:Nat):Int):=by
 induction l with
 |nil=>intro i;rfl
 |cons c l ih=>intro i;by_cases h:c=256;(·subst h;simp[Lib.idxFrom,Gs.run]);·simp only[Lib.idxFrom,Gs.run,D0 h,S0];rw[ih];by_cases h1:(Gs.run l).length=l.length;(·have h2:(Gs.run l).length+1=l.length+1:=C0;simp only[G0 h1,G0 h2]);·have h2:¬(Gs.run l).length+1=l.length+1:=C0;simp only[D0 h1,D0 h2];omega
theorem oL {w:World} {v:Value} {cs:List Int} (hs:Sl w v (cs.map encI)) (hn:cs.length<=1000000):
 ∀w',Ext w w'->Calls prog 217 #[v,.int .i64 256] w' fun e w''=>e=.returned (.int .i64 (if(Gs.run cs).length=cs.length then-1 else((Gs.run cs).length:Int)))∧w''=w':=by
 intro w' hx
 have hs':=hs.ext hx
 have e1:Lib.idxOf cs 256=(if(Gs.run cs).length=cs.length then-1 else((Gs.run cs).length:Int)):=by unfold Lib.idxOf;rw[oK,P3]
 rw[<-e1]
 rcases hs' with⟨h0,a,c,rfl⟩|⟨b,off,cap,rfl,hb,hc⟩
 ·have:cs=[]:=W8;subst this;exact Tryz.slices_Index_int_empty a c 256 w'
 ·rw[N0]at hc⊢;have:=Tryz.slices_Index_int b off cs.length cap cs 256 w' (I0 _) C0 (fun j hj=>by rw[hc j hj,X2,A1,P0 hj];rfl);rw[E5]at this;exact R2
def ElAt (w:World) (b:Nat) (x:Gs.El):Prop:=w.heap[b]? =some (.cells #[encS x.1,encS x.2] 86 (0,0))
theorem ElAt.cells {w:World} {b:Nat} {x:Gs.El} (h:ElAt w b x):w.cell? ⟨b,0,none⟩=some (encS x.1)∧w.cell? ⟨b,1,none⟩=some (encS x.2):=by unfold ElAt at h;refine⟨?_,?_⟩;all_goals unfold World.cell?;rw[h];rfl
theorem ElAt.free {w:World} {b:Nat} {x:Gs.El} (h:ElAt w b x) (i:Nat):w.frozen? ⟨b,i,none⟩=false:=FA h i
theorem ElAt.put {w:World} {b:Nat} {x:Gs.El} (h:ElAt w b x) (y:Gs.El):ElAt ((w.setCell ⟨b,0,none⟩ (encS y.1)).setCell ⟨b,1,none⟩ (encS y.2)) b y:=I5 (I5 h _) _
theorem ElAt.puts {w:World} {b:Nat} {x:Gs.El} (h:ElAt w b x) (y:Gs.El):(w.setCell ⟨b,0,none⟩ (encS y.1)).cell? ⟨b,0,none⟩=some (encS y.1)∧((w.setCell ⟨b,0,none⟩ (encS y.1)).setCell ⟨b,1,none⟩ (encS y.2)).cell? ⟨b,1,none⟩=some (encS y.2):=
 ⟨WT h L0,WT (I5 h _) L0⟩
theorem ElAt.ext {w w':World} {b:Nat} {x:Gs.El} (h:ElAt w b x) (hx:Ext w w'):ElAt w' b x:=by unfold ElAt at h⊢;exact kJ
def oM (x:Gs.El×Nat×Int) (w:World) (e:Ending) (w':World):Prop:=e=.returned (.tuple #[.agg #[encS x.1.1,encS x.1.2],.int .i64 (x.2.1:Int),.int .i64 x.2.2])∧Ext w w'
theorem oN {c:Int} (h0:0<=c) (h1:c<=127):((Gs.byte c).toNat:Int)=c:=by unfold Gs.byte;rw[GF h0 C0];exact yZ
theorem oO {cs:List Int} {j:Nat} (h:j<(Gs.run cs).length):(Gs.run cs)[j]? =cs[j]? :=by
 rcases(OD cs).2 with e|⟨r,e⟩;·rw[e]
 ·(conv=>rhs;rw[e]);rw[YA h]
end
section
open Go.RowKit Go.WideMaps Go.Maps
theorem oP {c:List Int} {ai:List UInt8} {r:Gs.Rule} (h0:(Gs.run c).length≠0) (hp:Gs.pre (Gs.text (Gs.run c))=some (ai,r)):
 (Gs.isFix r=true->(Gs.run c).length<ai.length+r.2.2.1.toNat->Gs.next c=(([],[]),0,10))∧
 (Gs.isFix r=true->¬(Gs.run c).length<ai.length+r.2.2.1.toNat->Gs.ver ai (((Gs.text (Gs.run c)).drop ai.length).take r.2.2.1.toNat)≠0->Gs.next c=(([],[]),0,Gs.ver ai (((Gs.text (Gs.run c)).drop ai.length).take r.2.2.1.toNat)))∧
 (Gs.isFix r=true->¬(Gs.run c).length<ai.length+r.2.2.1.toNat->Gs.ver ai (((Gs.text (Gs.run c)).drop ai.length).take r.2.2.1.toNat)=0->Gs.next c=((ai,((Gs.text (Gs.run c)).drop ai.length).take r.2.2.1.toNat),ai.length+r.2.2.1.toNat,0))∧
 (Gs.isFix r=false->Gs.ver ai ((Gs.text (Gs.run c)).drop ai.length)≠0->Gs.next c=(([],[]),0,Gs.ver ai ((Gs.text (Gs.run c)).drop ai.length)))∧
 (Gs.isFix r=false->Gs.ver ai ((Gs.text (Gs.run c)).drop ai.length)=0->(Gs.run c).length+1=c.length->Gs.next c=(([],[]),0,9))∧
 (Gs.isFix r=false->Gs.ver ai ((Gs.text (Gs.run c)).drop ai.length)=0->(Gs.run c).length+1≠c.length->Gs.next c=((ai,(Gs.text (Gs.run c)).drop ai.length),min ((Gs.run c).length+1) c.length,0)):=by
 unfold Gs.next
 rw[D0 h0,hp]
 dsimp only
 refine⟨fun h1 h2=> ?_,fun h1 h2 h3=> ?_,fun h1 h2 h3=> ?_,fun h1 h2=> ?_,fun h1 h2 h3=> ?_,fun h1 h2 h3=> ?_⟩
 ·rw[G0 h1,G0 h2]
 ·rw[G0 h1,D0 h2,G0 h3]
 ·rw[G0 h1,D0 h2,D0 (by simpa using h3)]
 ·rw[D0 (by rw[h1];simp),G0 h2]
 ·rw[D0 (by rw[h1];simp),D0 F4,G0 h3]
 ·rw[D0 (by rw[h1];simp),D0 F4,D0 h3]
theorem jU {l a:List UInt8} {r:Gs.Rule} (h:Gs.pre l=some (a,r)):a.length<=l.length∧Gs.RuleOk r∧a.length<=4:=by have h1:=vA h;exact⟨h1.2.2,UP h1.1,(M9 h1.1).2.1⟩
theorem oQ (v:Value) (cs:List Int) (b:Nat) (w:World) (hd:Dir w b) (hv:SlK w v (cs.map encI)) (hn:cs.length<=4096) (hok:cs.all Gs.okCh=true) (h0:cs≠ []):
 Calls prog 142 #[.map (some b),v] w (oM (Gs.next cs) w):=by
 obtain⟨hsl,av,cv,rfl,hcv⟩:=hv
 rw[N0]at hsl hcv⊢
 have HIX:=B0 (oL hsl C0)
 have HN:=B0 (Eq.refl cs.length)
 have HOK:=B0 (vC hok)
 have hrl:=yX cs
 have HDV:=B0 (fun(w':World) (hx:Ext w w') (ai d:ByteArray) (h1:ai.size<=maxLen) (h2:d.size<=maxLen)=>KJ ai d b w' (Dir.ext hd hx) h1 h2)
 have HPX:=B0 (fun(w':World) (hx:Ext w w') (s:ByteArray) (h1:s.size<=1000000)=>mQ s b w' (Dir.ext hd hx) h1)
 have HSL:=B0 hsl
 have HNX:=B0 (Gs.next.eq_1 cs)
 obtain⟨b0,o0,hav,hbv,hq9⟩:=hsl.at_ (k:=0) (by rw[N0];exact F6.2 h0)
 clear hq9
 subst hav
 have HCC:Hid (∀w',Ext w w'->∀j,j<(Gs.run cs).length->w'.cell? ⟨b0,o0+j,none⟩=some (.int .i64 ((Gs.run cs).getD j 0))):=B0 (fun w' hx j hj=>by obtain⟨b1,o1,e1,_,hc⟩:=hsl.at_ (k:=j) D5;injection e1 with e1;injection e1 with e1 e2;subst e1 e2;rw[hx.cell (p:=⟨b0,o0+j,none⟩) hbv,hc,H8,A1,oO hj,P0 C0];rfl)
 obtain⟨N,hN⟩:∃N,cs.length=N:=⟨_,rfl⟩
 obtain⟨m,hm⟩:∃m,(Gs.run cs).length=m:=⟨_,rfl⟩
 obtain⟨b9,hb9⟩:∃b9,b9=w.heap.size+1:=⟨_,rfl⟩
 have HNS:=B0 (fun(h:(Gs.run cs).length≠0) (ai:List UInt8) (r:Gs.Rule) (hp:Gs.pre (Gs.text (Gs.run cs))=some (ai,r))=>oP h hp)
 generalize hres:Gs.next cs=res at*
 have hN0:0<N:=by rw[<-hN];exact F6.2 h0
 rw[hm]at hrl HIX HCC HNX
 rw[hN]at hrl hn hcv HIX HSL⊢
 clear HN hd hsl hok h0 hres
 have HM:=B0 hm
 have HN:=B0 hN
 clear hm hN
 have E0:∀(A:World),ElAt (A.alloc (.cells #[.string ⟨#[]⟩,.string ⟨#[]⟩] 86)) A.heap.size ([],[]):=fun A=>E2 _ _
 have HE0:=B0 (E0 w)
 clear E0
 by_cases hm0:m=0
 ·rw[G0 hm0]at HNX;subst hm0;rw[D0 C0]at HIX;have HQ:=B0 (HE0.out.puts ([],[]));go_enter func142,ntmps142;go_wp2_with fail;refine(HIX.out _ ((Ext.refl w).alloc _)).mono ?_;rintro e w1 ⟨rfl,rfl⟩;go_wp2;refine A4 (v:=.tuple #[.agg #[.string ⟨#[]⟩,.string ⟨#[]⟩],.int .i64 0,.int .i64 9]) (by simp[results,results142,go_sem]) rfl ⟨by rw[HNX.out];rfl,Xf⟩
 ·rw[D0 hm0]at HNX;have HNS:=B0 (HNS.out (by rw[HM.out];exact hm0));have hm1:((m:Int)==0)=false:=QY;have hm2:(0:Int)<=(m:Int):=C0;have hml:m<=4096:=C0;have hmk:=B8 (P:=prog) 90 5 (.int .u8 0) 1 underlying90 M0 rfl .i64 .i64 m C0 C0;by_cases hmf:m=N
  ·rw[G0 hmf]at HIX;clear hm0;subst hmf;go_enter func142,ntmps142;go_wp2_with fail;refine(HIX.out _ ((Ext.refl w).alloc _)).mono ?_;rintro e w1 ⟨rfl,rfl⟩;go_wp2;clear hmk;go_loopw [26] (fun i wr=>∃j:Nat,j<=m∧i=.int .i64 (j:Int)∧wr.rowIs (w.heap.size+1) 5 m (fun k=>if k<j then encB (Gs.byte ((Gs.run cs).getD k 0))else .int .u8 0)∧Ext (w.alloc (.cells #[.string ⟨#[]⟩,.string ⟨#[]⟩] 86)) wr) (fun i _=>m-(intOf i).toNat);(case atStart=>exact jV);case round=>
    obtain⟨j,hj,rfl,hrow,hxr⟩:=hrel;by_cases hlt:j<m;(·exact Qq)
    ·obtain rfl:j=m:=by omega
     have hxw:Ext w wr:=((Ext.refl w).alloc _).trans hxr
     have hst:SlK wr (.slice (some ⟨w.heap.size+1,0,none⟩) j j) ((Gs.text (Gs.run cs)).map encB):=QW
     have hcv:=Zn hst.1
     have HEL:=B0 (HE0.out.ext hxr)
     have HST:=B0 hst
     have htl:(Gs.text (Gs.run cs)).length=j:=by rw[WQ,HM.out]
     generalize Gs.text (Gs.run cs)=tx at*
     obtain⟨TX,hTX⟩:∃TX:ByteArray,TX=⟨tx.toArray⟩:=⟨_,rfl⟩
     have HTX:Hid (TX.data.toList=tx):=B0 (by rw[hTX])
     rw[<-hTX]at hcv
     have hTs:TX.size=j:=by rw[<-Za,HTX.out,htl]
     have HP1:=B0 (HPX.out wr hxw TX C0)
     rw[HTX.out]at HP1
     have HTL:=B0 (And.intro htl hTs)
     clear hTX hst hj hlt htl hTs hrow HPX HIX HSL HCC HOK
     cases hp:Gs.pre tx with
     |none=>exact Qw
     |some q=>obtain⟨ai,r⟩:=q;rw[hp]at HP1;obtain⟨al,rok,al4⟩:=jU hp;have HS6:=B0 (HNS.out ai r hp);obtain⟨ra,rb,rc,rd⟩:=r;obtain⟨k0,k3,l1,lh,h9,_⟩:=rok;dsimp only at k0 k3 l1 lh h9 HS6;obtain⟨H,rfl⟩:∃H:Nat,rc=(H:Int):=⟨rc.toNat,by omega⟩;rw[R6]at HS6;obtain⟨AI,hAI⟩:∃AI:ByteArray,AI.data.toList=ai:=⟨⟨ai.toArray⟩,rfl⟩;have HAI:Hid (encS ai=.string AI):=B0 (by rw[<-hAI,O9]);have hAL:ai.length=AI.size:=(by rw[<-hAI,Za]);rw[hAL]at al al4 HS6;have HAE:=B0 hAI;have hAj:AI.size<=j:=(by have:=HTL.out.1;omega);have HX:=B0 (fun w=>RY (ra,rb,(H:Int),rd) w);rw[HM.out]at HS6;clear hAI hAL al hp HNX HNS k0 k3;cases hf:Gs.isFix (ra,rb,(H:Int),rd);(·have e0:((ra,rb,(H:Int),rd).2.1==(ra,rb,(H:Int),rd).2.2.1)=false:=hf;rw[e0]at HX;clear e0;obtain⟨vd,hsl,hsd⟩:=FN HST.out AI.size j hAj FO;rw[<-S7,<-G8,P1 jW]at hsd;obtain⟨D,hD⟩:∃D:ByteArray,D.data.toList=tx.drop AI.size:=⟨⟨(tx.drop AI.size).toArray⟩,rfl⟩;have HD:Hid (encS (tx.drop AI.size)=.string D):=B0 (by rw[<-hD,O9]);have hDs:D.size<=4096:=jX;have HCV:Hid (∀w',Ext wr w'->(convert 90 9 vd).run prog w'=.ok (.string D) w'):=B0 (fun w' hx=>by have:=Zn (hsd.1.ext hx);rw[this,<-hD,Zt]);have HV1:=B0 (fun w' hx=>HDV.out w' hx AI D G5 G5);rw[HAE.out,hD]at HV1;obtain⟨_,_,_,S4,S5,S6⟩:=HS6.out;have HS4:=B0 (S4 hf);have HS5:=B0 (S5 hf);have HS6':=B0 (S6 hf);generalize tx.drop AI.size=d at*;clear HS6 hf S4 S5 S6 hsd hD;by_cases hver:Gs.ver ai d=0;(·rw[hver]at HV1;have HS5:=B0 (HS5.out hver);have HS6:=B0 (HS6'.out hver);clear hver HS4 HS6';have HR:Hid (res=((ai,d),j,0)):=B0 (by rw[HS6.out (by rw[HN.out];omega),HN.out,Nat.min_eq_right C0]);have hmin:min ((j:Int)+1) (j:Int)=(j:Int):=C0;go_wp2_with fail;refine HP1.out.mono ?_;rintro e w3 ⟨rfl,hx3⟩;simp only[preV,Z4,HAI.out];go_wp2_with fail;refine(HX.out _).mono ?_;rintro e w4 ⟨rfl,hx4⟩;have hx34:Ext wr w4:=(hx3.alloc _).trans hx4;have hel4:=HEL.out.ext hx34;obtain⟨g0,g1⟩:=hel4.cells;have f0:=hel4.free 0;have f1:=hel4.free 1;have c2:w4.cell? ⟨w3.heap.size,2,none⟩=some (.int .i64 (H:Int)):=Qv;have hxa:Ext w w4:=hxw.trans hx34;clear hx3 hx4;have hcv2:=HCV.out w4 hx34;go_wp2_with fail;refine(HV1.out _ ((hxa.setCell (I0 _) _).setCell (I0 _) _)).mono ?_;rintro e w5 ⟨rfl,hx5⟩;have hel5:=(hel4.put (ai,d)).ext NA;obtain⟨i0,i1⟩:=hel5.cells;simp only[HAI.out,HD.out]at i0 i1;have f0:=hel5.free 0;have f1:=hel5.free 1;have hxb:Ext w w5:=((hxa.setCell (I0 _) _).setCell (I0 _) _).trans hx5;have HQ:=B0 (hel5.puts (ai,d));clear hx5 hel5 hel4 g0 g1;go_wp2;obtain⟨p0,p1⟩:=HQ.out;refine A4 (v:=.tuple #[.agg #[.string AI,.string D],.int .i64 (j:Int),.int .i64 0]) jY rfl ⟨by rw[HR.out];simp only[HAI.out,HD.out],Xf⟩);·exact jZ);·exact Qb
  ·rw[D0 hmf]at HIX;have hmN:m+1<=N:=C0;clear hm0 hmf;go_enter func142,ntmps142;go_wp2_with fail;refine(HIX.out _ ((Ext.refl w).alloc _)).mono ?_;rintro e w1 ⟨rfl,rfl⟩;go_wp2;clear hmk;go_loopw [26] (fun i wr=>∃j:Nat,j<=m∧i=.int .i64 (j:Int)∧wr.rowIs (w.heap.size+1) 5 m (fun k=>if k<j then encB (Gs.byte ((Gs.run cs).getD k 0))else .int .u8 0)∧Ext (w.alloc (.cells #[.string ⟨#[]⟩,.string ⟨#[]⟩] 86)) wr) (fun i _=>m-(intOf i).toNat);(case atStart=>exact jV);case round=>
    obtain⟨j,hj,rfl,hrow,hxr⟩:=hrel;by_cases hlt:j<m;(·exact Qq)
    ·obtain rfl:j=m:=by omega
     have hxw:Ext w wr:=((Ext.refl w).alloc _).trans hxr
     have hst:SlK wr (.slice (some ⟨w.heap.size+1,0,none⟩) j j) ((Gs.text (Gs.run cs)).map encB):=QW
     have hcv:=Zn hst.1
     have HEL:=B0 (HE0.out.ext hxr)
     have HST:=B0 hst
     have htl:(Gs.text (Gs.run cs)).length=j:=by rw[WQ,HM.out]
     generalize Gs.text (Gs.run cs)=tx at*
     obtain⟨TX,hTX⟩:∃TX:ByteArray,TX=⟨tx.toArray⟩:=⟨_,rfl⟩
     have HTX:Hid (TX.data.toList=tx):=B0 (by rw[hTX])
     rw[<-hTX]at hcv
     have hTs:TX.size=j:=by rw[<-Za,HTX.out,htl]
     have HP1:=B0 (HPX.out wr hxw TX C0)
     rw[HTX.out]at HP1
     have HTL:=B0 (And.intro htl hTs)
     clear hTX hst hj hlt htl hTs hrow HPX HIX HSL HCC HOK
     cases hp:Gs.pre tx with
     |none=>exact Qw
     |some q=>obtain⟨ai,r⟩:=q;rw[hp]at HP1;obtain⟨al,rok,al4⟩:=jU hp;have HS6:=B0 (HNS.out ai r hp);obtain⟨ra,rb,rc,rd⟩:=r;obtain⟨k0,k3,l1,lh,h9,_⟩:=rok;dsimp only at k0 k3 l1 lh h9 HS6;obtain⟨H,rfl⟩:∃H:Nat,rc=(H:Int):=⟨rc.toNat,by omega⟩;rw[R6]at HS6;obtain⟨AI,hAI⟩:∃AI:ByteArray,AI.data.toList=ai:=⟨⟨ai.toArray⟩,rfl⟩;have HAI:Hid (encS ai=.string AI):=B0 (by rw[<-hAI,O9]);have hAL:ai.length=AI.size:=(by rw[<-hAI,Za]);rw[hAL]at al al4 HS6;have HAE:=B0 hAI;have hAj:AI.size<=j:=(by have:=HTL.out.1;omega);have HX:=B0 (fun w=>RY (ra,rb,(H:Int),rd) w);rw[HM.out]at HS6;clear hAI hAL al hp HNX HNS k0 k3;cases hf:Gs.isFix (ra,rb,(H:Int),rd);(·have e0:((ra,rb,(H:Int),rd).2.1==(ra,rb,(H:Int),rd).2.2.1)=false:=hf;rw[e0]at HX;clear e0;obtain⟨vd,hsl,hsd⟩:=FN HST.out AI.size j hAj FO;rw[<-S7,<-G8,P1 jW]at hsd;obtain⟨D,hD⟩:∃D:ByteArray,D.data.toList=tx.drop AI.size:=⟨⟨(tx.drop AI.size).toArray⟩,rfl⟩;have HD:Hid (encS (tx.drop AI.size)=.string D):=B0 (by rw[<-hD,O9]);have hDs:D.size<=4096:=jX;have HCV:Hid (∀w',Ext wr w'->(convert 90 9 vd).run prog w'=.ok (.string D) w'):=B0 (fun w' hx=>by have:=Zn (hsd.1.ext hx);rw[this,<-hD,Zt]);have HV1:=B0 (fun w' hx=>HDV.out w' hx AI D G5 G5);rw[HAE.out,hD]at HV1;obtain⟨_,_,_,S4,S5,S6⟩:=HS6.out;have HS4:=B0 (S4 hf);have HS5:=B0 (S5 hf);have HS6':=B0 (S6 hf);generalize tx.drop AI.size=d at*;clear HS6 hf S4 S5 S6 hsd hD;by_cases hver:Gs.ver ai d=0;(·rw[hver]at HV1;have HS5:=B0 (HS5.out hver);have HS6:=B0 (HS6'.out hver);clear hver HS4 HS6';by_cases hlast:j+1=N;(·have HR:Hid (res=(([],[]),0,9)):=B0 (HS5.out (by rw[HN.out];exact hlast));have hji:(j:Int)+1=(N:Int):=C0;clear HS5 HS6 hlast hmN;go_wp2_with fail;refine HP1.out.mono ?_;rintro e w3 ⟨rfl,hx3⟩;simp only[preV,Z4,HAI.out];go_wp2_with fail;refine(HX.out _).mono ?_;rintro e w4 ⟨rfl,hx4⟩;have hx34:Ext wr w4:=(hx3.alloc _).trans hx4;have hel4:=HEL.out.ext hx34;obtain⟨g0,g1⟩:=hel4.cells;have f0:=hel4.free 0;have f1:=hel4.free 1;have c2:w4.cell? ⟨w3.heap.size,2,none⟩=some (.int .i64 (H:Int)):=Qv;have hxa:Ext w w4:=hxw.trans hx34;clear hx3 hx4;have hcv2:=HCV.out w4 hx34;go_wp2_with fail;refine(HV1.out _ ((hxa.setCell (I0 _) _).setCell (I0 _) _)).mono ?_;rintro e w5 ⟨rfl,hx5⟩;have hel5:=(hel4.put (ai,d)).ext NA;obtain⟨i0,i1⟩:=hel5.cells;simp only[HAI.out,HD.out]at i0 i1;have f0:=hel5.free 0;have f1:=hel5.free 1;have hxb:Ext w w5:=((hxa.setCell (I0 _) _).setCell (I0 _) _).trans hx5;have HQ:=B0 (hel5.puts ([],[]));clear hx5 hel5 hel4 g0 g1;go_wp2;obtain⟨p0,p1⟩:=HQ.out;refine A4 (v:=.tuple #[.agg #[.string ⟨#[]⟩,.string ⟨#[]⟩],.int .i64 0,.int .i64 9]) FP rfl ⟨by rw[HR.out];rfl,Xf⟩);·have HR:Hid (res=((ai,d),j+1,0)):=B0 (by rw[HS6.out (by rw[HN.out];exact hlast),HN.out,H6 C0]);obtain⟨Q,hQ⟩:∃Q,Q=j+1:=⟨_,rfl⟩;rw[<-hQ]at HR;have hji:(j:Int)+1=(Q:Int):=C0;have hQN:Q<N:=C0;have hQN2:((Q:Int)==(N:Int))=false:=QY;have hjQ:j<Q:=C0;have hmin:min (Q:Int) (N:Int)=(Q:Int):=C0;clear HS5 HS6 hlast hmN hQ;exact Qh);·exact jZ);·exact Qb
theorem oR {c:List Int} {x:Gs.El} {k:Nat} (hc:c.all Gs.okCh=true) (h:Gs.next c=(x,k,0)):0<k∧k<=c.length:=⟨(GI hc h).2.1,(GI hc h).2.2.1⟩
theorem uA (c:Int):Gs.okCh c=true↔(c=256∨(0<=c∧c<=127)):=by unfold Gs.okCh;simp
theorem oS (v:Value) (cs:List Int) (w:World) (hv:SlK w v (cs.map encI)) (hn:cs.length<=9223372036854775807) (ht:ZB w):
 Calls prog 80 #[v] w (ElsR (Gs.frChars cs) w):=by
 have HV:=B0 hv
 obtain⟨hsl,av,cv,rfl,hcv⟩:=hv
 rw[N0]at hcv hsl HV⊢
 have HI:=B0 (RX w ht)
 have HR:=B0 (Gs.frChars.eq_1 cs)
 generalize Gs.frChars cs=res at*
 obtain⟨N,hN⟩:∃N,cs.length=N:=⟨_,rfl⟩
 have HN:=B0 hN
 have HSL:=B0 hsl
 rw[hN]at hn hcv HR HV HSL⊢
 clear ht hsl hN
 by_cases h1:4096<N
 ·rw[G0 h1]at HR;go_enter func80,ntmps80;go_wp2;go_ret2;rw[HR.out];exact FQ
 rw[D0 h1]at HR
 have hn1:N<=4096:=by omega
 clear h1 hn
 obtain⟨res1,res2⟩:=res
 go_enter func80,ntmps80
 go_wp2
 go_loop [17] (fun t=>∃k:Nat,k<=N∧t=.int .i64 (k:Int)∧Hid ((cs.take k).all Gs.okCh=true)) (fun t=>N-(intOf t).toNat)
 case atStart=>exact WC
 case round=>
  obtain⟨k,hk,rfl,hall⟩:=hrel;by_cases hlt:k<N;(·obtain⟨c,hck⟩:∃c,cs[k]? =some c:=⟨_,P0 OO⟩;obtain⟨bb,off,ha,hb,hcell⟩:=HSL.out.at_ (k:=k) (by rw[N0,HN.out];exact hlt);subst ha;have e1:(cs.map encI)[k]'(by rw[N0,HN.out];exact hlt)=.int .i64 c:=(by rw[H8];obtain⟨h2,h3⟩:=J1.1 hck;rw[h3];rfl);rw[e1]at hcell;have HTK:Hid (cs.take (k+1)=cs.take k++[c]):=B0 (kW hck);by_cases hc:Gs.okCh c=true;(·have HO:Hid ((cs.take (k+1)).all Gs.okCh=true):=B0 (by rw[HTK.out,GJ,hall.out];simp[hc]);rw[uA]at hc;clear hck e1 hall HTK;by_cases h256:c=256;(·subst h256;clear hc;exact KT);·have hc0:0<=c:=C0;have hc1:c<=127:=C0;have hc2:(c !=256)=true:=(by simpa using h256);clear hc;exact KT);·have HF:Hid ((res1,res2)=([],6)):=B0 (by rw[HR.out,G0];rw[VW];exact⟨c,I1 hck,hc⟩);rw[uA]at hc;have h256:(c !=256)=true:=E1;have hr:=HF.out;simp only[A3]at hr;obtain⟨rfl,rfl⟩:=hr;clear hck e1 hall HTK HF HR;by_cases hc0:c<0;(·clear hc;exact TR);·have hc0':0<=c:=C0;have hc1:127<c:=C0;clear hc hc0;exact TR)
  ·obtain rfl:k=N:=C0;have HA:Hid (cs.all Gs.okCh=true):=B0 (by rw[<-hall.out,P1 OM]);rw[D0 (by rw[HA.out];exact Bool.noConfusion)]at HR;clear hk hlt hall;by_cases h0:k=0;(·subst h0;have hnil:cs=[]:=V2 HN.out;rw[hnil,G0 L0]at HR;have hr:=HR.out;simp only[A3]at hr;obtain⟨rfl,rfl⟩:=hr;exact TR)
   ·obtain⟨c,cr,hcs⟩:∃c cr,cs=c::cr:=by
     cases cs with
     |nil=>exact absurd HN.out.symm h0
     |cons c cr=>exact⟨c,cr,rfl⟩
    obtain⟨bb,off,ha,hb,hcell⟩:=HSL.out.at_ (k:=0) FR;subst ha;have e1:(cs.map encI)[0]' FR=.int .i64 c:=(by rw[H8];simp[hcs,encI]);rw[e1,G6]at hcell;have hk0:((k:Int)==0)=false:=QY;have hk1:0<k:=C0;have e2:cs.headD 0=c:=(by rw[hcs];rfl);have e3:cs.drop 1=cr:=(by rw[hcs];rfl);rw[e2,e3]at HR;have HCR:Hid (cr.all Gs.okCh=true∧cr.length+1=k):=B0 ⟨by have:=HA.out;rw[hcs,PZ,N1]at this;exact this.2,by have:=HN.out;rw[hcs]at this;exact this⟩;by_cases h256:c=256;(·subst h256;rw[D0 L0]at HR;have hv1:=jT (by have:=HV.out;rw[<-HN.out]at this;exact this) 1 FR;obtain⟨v1,hs1,hsl1⟩:=hv1;rw[<-S7,e3]at hsl1;clear e1 e2 e3 hcs HA;have hsl1':=hsl1;obtain⟨_,a1,c1,rfl,_⟩:=hsl1';rw[N0]at hs1 hsl1;rw[HN.out]at hs1;obtain⟨M,hM⟩:∃M,cr.length=M:=⟨_,rfl⟩;rw[hM]at hs1 hsl1 HCR;have HS1:Hid (∀w',(Instr.slice 43 (.slice (some ⟨bb,off,none⟩) k cv) (some (.int .i64 1)) none none).run prog w'=.ok (.slice a1 M c1) w'):=B0 hs1;have hs2:=HS1.out;clear hs1;by_cases hM0:M=0;(·have hkk:k=1:=FT;rw[G0 hkk]at HR;have hr:=HR.out;simp only[A3]at hr;obtain⟨rfl,rfl⟩:=hr;subst hM0;clear hkk hcv hn1;exact TR);·have hkk:¬k=1:=FT;rw[D0 hkk]at HR;have hM1:((M:Int)==0)=false:=QY;have hM2:M<=4096:=FT;have HSL1:=B0 hsl1;have HMM:=B0 hM;clear hkk hsl1 hM hcv;go_wp2_with fail;refine HI.out.mono ?_;rintro e W ⟨b,rfl,hd,hbb,hxW⟩;have HNX:=B0 (fun(w':World) (hx:Ext W w') (v:Value) (l:List Int) (h1:SlK w' v (l.map encI)) (h2:l.length<=4096) (h3:l.all Gs.okCh=true) (h4:l≠ [])=>oQ v l b w' (Dir.ext hd hx) h1 h2 h3 h4);have HSL2:=B0 (HSL1.out.ext hxW);clear hd hs2 HI hbb hcell;go_wp2;go_loopw [6,8] (fun r v wr=>∃(l:List Int) (acc:List Gs.El) (n:Nat),SlK W r (l.map encI)∧l.length+acc.length<=4096∧EOwn wr W.heap.size v acc∧Hid (l.all Gs.okCh=true∧l.length<=n∧(res1,res2)=Gs.fromF n l acc)∧Ext W wr) (fun r _ _=>match r with| .slice _ n _=>n|_=>0);(case atStart=>exact⟨cr,[],k,HSL2.out,by have:=HMM.out;simp;omega,EOwn.nil _ _,B0 ⟨HCR.out.1,by have:=HCR.out.2;have:=HMM.out;omega,HR.out⟩,Ext.refl W⟩);case round=>obtain⟨l,acc,n,hsl,hsz,hown,hpf,hx⟩:=hrel;have HK:=B0 hsl;have HK2:=B0 (hsl.ext hx);obtain⟨_,ar,cc,rfl,hcap⟩:=hsl;obtain⟨ao,co,rfl⟩:=hown.sl.form;rw[N0]at hcap HK HK2⊢;clear HR HSL1 HSL2 HMM;by_cases h00:l=[];(·subst h00;have HF:Hid ((res1,res2)=(acc,0)):=B0 (by rw[hpf.out.2.2,vB]);have hr:=HF.out;simp only[A3]at hr;obtain⟨rfl,rfl⟩:=hr;clear hpf HF;go_wp2;go_ret2;exact⟨_,rfl,hown.sl,hxW.trans hx⟩);·have hL0:0<l.length:=F6.2 h00;obtain⟨p1,p2,p3⟩:=hpf.out;have H1:=B0 (HNX.out wr hx _ l HK2.out C0 p1 h00);obtain⟨n',rfl⟩:∃n',n=n'+1:=⟨n-1,by omega⟩;rw[Gs.fromF,D0 h00]at p3;have HP3:=B0 p3;have HP1:=B0 p1;have HPN:=B0 p2;have HNP:=B0 (fun x k h=>oR (c:=l) (x:=x) (k:=k) p1 h);clear p1 p2 p3 hpf;have HNE:=B0 (Eq.refl (Gs.next l));obtain⟨nx,hnx⟩:∃nx,Gs.next l=nx:=⟨_,rfl⟩;rw[hnx]at H1 HP3 HNP;clear HNE;obtain⟨⟨xa,xd⟩,q,z⟩:=nx;dsimp only at HP3;by_cases hz:z=0;(·subst hz;rw[D0 L0]at HP3;obtain⟨q0,q1⟩:=HNP.out _ _ rfl;obtain⟨v2,hs2,hsl2⟩:=jT HK.out q (by rw[N0];exact q1);rw[<-S7]at hsl2;have HSL2:=B0 hsl2;obtain⟨_,a2,c2,rfl,_⟩:=hsl2;rw[N0]at hs2 HSL2;have HLD:Hid ((l.drop q).length=l.length-q):=B0 (L2);have HOK:Hid ((l.drop q).all Gs.okCh=true):=B0 (S1.2 fun b hb=>S1.1 HP1.out b (X7 hb));obtain⟨l2,hl2⟩:∃l2,l.drop q=l2:=⟨_,rfl⟩;rw[hl2]at hs2 HSL2 HLD HOK HP3;have HQ:=B0 (And.intro q0 q1);have hq2:(0:Int)<=(q:Int):=C0;clear HNP hnx q0 q1 hl2 HNX;go_wp2_with fail;refine H1.out.mono ?_;rintro e w3 ⟨rfl,hx3⟩;simp only[encS];have hownA:=hown.ext hx3;have hx3W:=hx.trans hx3;clear hx3 hown hx H1;go_wp2_with (at_builtin;go_loud (refine kG rfl _ _ rfl W.heap.size _ _ rfl ((hownA.ext ((Ext.refl w3).alloc _)).ext ((Ext.refl _).alloc _)) _ (xa,xd) rfl ?_ ?_ C0 ?_ ?_));(·rfl);(·rfl);(·have:=hx3W.size;exact E1);intro v5 w5 hown5 hg5;have hx5:Ext W w5:=((hx3W.alloc _).alloc _).ofGrown hg5 hownA.low;clear hg5 hownA;go_wp2;go_roundw;(case rel=>exact⟨l2,acc++[(xa,xd)],n',HSL2.out,by have:=HLD.out;have:=HQ.out;rw[O0];simp;omega,hown5,B0 ⟨HOK.out,by have:=HLD.out;have:=HQ.out;have:=HPN.out;omega,HP3.out⟩,hx5⟩);case measure=>have h8:=HLD.out;have h9:=HQ.out;show l2.length<l.length;omega);·rw[G0 hz]at HP3;have hr:=HP3.out;simp only[A3]at hr;obtain⟨rfl,rfl⟩:=hr;have hz1:(res2==0)=false:=OP;clear hz HP3 HNP hnx;go_wp2_with fail;refine H1.out.mono ?_;rintro e w3 ⟨rfl,hx3⟩;simp only[encS];go_wp2;go_ret2;exact ElsR.err _ (hxW.trans ((hx.trans hx3).alloc _)));·rw[G0 h256]at HR;have hr:=HR.out;simp only[A3]at hr;obtain⟨rfl,rfl⟩:=hr;have h2:(c !=256)=true:=(by simpa using h256);clear e1 e2 e3 hcs HR HA;exact TR
end
end Go.Proofs.YtbngggoccndefaaGreatDoor
