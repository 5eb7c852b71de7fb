/-
  Laid together.
-/
import Derived.Test.YtbngggoccndefaaGreatDoorDd40
import Derived.Test.YtbngggoccndefaaGreatDoorDd41
set_option maxHeartbeats 16000000
set_option maxRecDepth 100000
set_option linter.unusedVariables false
set_option linter.unusedSimpArgs false
set_option linter.ambiguousOpen false
namespace Go.Proofs.YtbngggoccndefaaGreatDoor
open Go.Proofs.Tryz
section
open Go.RowKit
theorem Zdc (w:World) (n:Nat) (B:Nat) (hn:n<=1000000) (hB:B<=w.heap.size):∃w',(Instr.makeSlice 90 (.int .i64 (n:Int)) (.int .i64 (n:Int))).run prog w=.ok (.slice (some ⟨w.heap.size,0,none⟩) n n) w'∧Own 5 w' B (.slice (some ⟨w.heap.size,0,none⟩) n n) ((List.replicate n (0:UInt8)).map encB)∧Ext w w':=by
 obtain⟨i0,hi,hz0,hz1,hz2⟩:=ZoJ Zap;obtain⟨w',h1,h2,h3⟩:=Zq0 (P:=prog) w B 90 5 i0 (.int .u8 0) 1 underlying90 hi hz0 hz1 .i64 .i64 n Qi8 Qix hB;refine⟨w',h1,?_,(Ext.refl w).ofGrown h3 (fun k hk=>by cases hk)⟩;unfold Own;rw[ZmI,Zns];have e:(madeCells (Value.int .u8 0).cells (n*1)).toList=(List.replicate n (0:UInt8)).map encB:=QfE
 rw[<-e];exact h2
theorem Own.byteAt {w:World} {B g n c:Nat} {xs:List UInt8} (h:Own 5 w B (.slice (some ⟨g,0,none⟩) n c) (xs.map encB)) {i:Nat} (hi:i<xs.length):∃x,w.cell? ⟨g,i,none⟩=some (encB x)∧w.frozen? ⟨g,i,none⟩=false:=by
 rcases h.2 with⟨h1,_⟩|⟨g',cap,cur,h1,hb,hg,_,_,hcs,ht⟩;·cases h1
 ·injection h1 with h2;injection h2 with h2;injection h2 with h2;subst h2;refine⟨xs[i],?_,by simp[World.frozen?,hg]⟩;have e:cur.toList[i]? =some (encB xs[i]):=Qc7;simp only[World.cell?,hg];simpa using e
theorem Own.putB {w:World} {B g n c:Nat} {xs:List UInt8} (h:Own 5 w B (.slice (some ⟨g,0,none⟩) n c) (xs.map encB)) (i:Nat) (x:UInt8):Own 5 (w.setCell ⟨g,i,none⟩ (encB x)) B (.slice (some ⟨g,0,none⟩) n c) ((xs.set i x).map encB):=by
 have hn:n=(xs.map encB).length:=Qe6
 subst hn;obtain⟨h1,h2⟩:=World.ownsRow.stored h i (encB x);unfold Own;rw[List.map_set,Zov];exact h1
theorem Zh1 {l:List Int} {x:Int} {i n:Nat} (f:Int->UInt8) (hn:l.length=n) (h:l[i]? =some x):((l.take i).map f++List.replicate (n-i) (0:UInt8)).set i (f x)=(l.take (i+1)).map f++List.replicate (n-(i+1)) 0:=by
 have hi:=(ZmN.1 h).1;have e:n-i=(n-(i+1))+1:=by omega
 rw[Zp9 _ _ (by rw[ZmI,ZmY];omega),ZmI,ZmY,Zop QhN,ZnM,e,ZnG,ZmU,Zu h,Zn1,Znu];rfl
def chB (c:Int):UInt8:=UInt8.ofNat c.toNat
theorem Zj5 (v:Value) (m:List Bool) (w:World) (hv:SlK w v (m.map encT)) (hm:m.length<=400000) (ht:Spaces w):
 Calls prog 35 #[.agg #[v]] w (RdR (Ln.r128 m) w):=by
 have HD:=ZmE (fun w' (h:Ext w w')=>Zfl v m w' (hv.ext h) hm)
 have HCS:=ZmE (fun cs h=> @Cc.dec_ge m cs h)
 have hwl:=(Rn.widths_in m).2
 obtain⟨res,hres⟩:∃res,res=Ln.r128 m:=⟨_,rfl⟩
 rw[<-hres]
 unfold Ln.r128 at hres
 obtain⟨⟨cs,er⟩,hd⟩:∃r,r=Cc.dec m:=⟨_,rfl⟩
 rw[<-hd]at HD HCS hres
 unfold Ln.of128 at hres
 dsimp only at hres
 have HR:=ZmE hres
 have HT:=ZmE ht
 obtain⟨-,a,c,rfl,-⟩:=hv
 rw[ZmI]at HD⊢
 clear hd hres
 by_cases he:er≠0
 ·have HF:Hid (res=none):=ZmE QjS;have z:(er !=0)=true:=(by simp[he]);have zd:decide (er=0)=false:=ZmS he;clear HR he HCS;generalize m.length=ml at*;go_enter func35,ntmps35;go_wp2_with fail;refine(HD.out _ Xf).mono ?_;rintro e w1 ⟨u,rfl,hu,hx1⟩;obtain⟨f0,f1,f2,f3,f4,f5,f6,f7⟩:=Zf (ZL hx1);have hxw:=hx1.before.before;clear hx1 hu;exact QgV
 obtain rfl:er=0:=ZnH.1 he
 have HR1:=ZmE (HR.out.trans (ZmF he))
 obtain⟨hc0,hcl⟩:=HCS.out cs rfl
 have hcl:cs.length<=400000:=by omega
 generalize m.length=ml at*
 have HC0:=ZmE hc0
 clear HR he HCS hc0 hwl
 obtain⟨n,hn⟩:∃n,n=cs.length:=⟨_,rfl⟩
 rw[<-hn]at hcl
 have HN:=ZmE hn
 clear hn
 by_cases hf:cs.head? =some 256
 ·rw[ZmH hf]at HR1;have hx0:cs[0]? =some 256:=(by rw[<-Zp4];exact hf);have hn0:0<n:=Qht;have hnI:(0:Int)<(n:Int):=QhN;have HX0:=ZmE hx0;have HFR:=ZmE (fun v w' h h2=>ZiM v cs w' h QhW h2);obtain⟨⟨els,e2⟩,hfr⟩:∃r,r=Gs.frChars cs:=⟨_,rfl⟩;have HEL:=ZmE (fun h=> @Zgd els cs h);rw[<-hfr]at HFR HR1 HEL;dsimp only at HR1;unfold ElsR at HFR;dsimp only at HFR;clear hf hx0 hfr;by_cases he2:e2≠0;(·rw[ZmH he2]at HR1;have z:(e2 !=0)=true:=(by simp[he2]);have zd:decide (e2=0)=false:=ZmS he2;clear he2 HEL;go_enter func35,ntmps35;go_wp2_with fail;refine(HD.out _ Xf).mono ?_;rintro e w1 ⟨u,rfl,hu,hx1⟩;have HTX:=ZmE (Zv HT.out hx1.before.before);have HFC:=ZmE (HFR.out u w1 hu HTX.out);obtain⟨hsl,au,cu,rfl,hcu⟩:=hu;rw[ZmI,<-HN.out]at hsl HFC hcu⊢;obtain⟨b,o,ha,hb,hc⟩:=hsl.int_at (Ext.refl w1) HX0.out;subst ha;rw[Zoc]at hc;have HX1:=ZmE hx1;clear hx1 hsl;go_wp2_with fail;refine HFC.out.mono ?_;rintro e w2 ⟨u2,rfl,hu2,hx2⟩;obtain⟨f0,f1,f2,f3,f4,f5,f6,f7⟩:=Zf (ZL (HX1.out.trans hx2));have hxw:=(HX1.out.trans hx2).before.before;clear hx2 hu2 hc;exact QgT);obtain rfl:e2=0:=ZnH.1 he2;rw[ZmF he2]at HR1;obtain⟨hel1,hel2⟩:=HEL.out rfl;have HFO:=ZmE (fun v w' h h2=>Zg3 v els w' h QhN hel2 h2);obtain⟨⟨s,e3⟩,hfo⟩:∃r,r=Gs.format els:=⟨_,rfl⟩;rw[<-hfo]at HFO HR1;dsimp only at HR1;obtain⟨T,hT⟩:∃T,T=Ea.bS s:=⟨_,rfl⟩;have HTB:=ZmE hT;have HFO2:Hid (∀v w',ESl w' v els->Spaces w'->Calls prog 19 #[v] w' fun e w''=>e=.returned (.tuple #[.string T,.int .i64 e3])∧Ext w' w''):=ZmE (fun v w' h h2=>by rw[hT];exact HFO.out v w' h h2);clear hfo HFO he2 HEL hel2 hT;by_cases he3:e3≠0;(·rw[ZmH he3]at HR1;have z:(e3 !=0)=true:=(by simp[he3]);have zd:decide (e3=0)=false:=ZmS he3;clear he3;go_enter func35,ntmps35;go_wp2_with fail;refine(HD.out _ Xf).mono ?_;rintro e w1 ⟨u,rfl,hu,hx1⟩;have HTX:=ZmE (Zv HT.out hx1.before.before);have HFC:=ZmE (HFR.out u w1 hu HTX.out);obtain⟨hsl,au,cu,rfl,hcu⟩:=hu;rw[ZmI,<-HN.out]at hsl HFC hcu⊢;obtain⟨b,o,ha,hb,hc⟩:=hsl.int_at (Ext.refl w1) HX0.out;subst ha;rw[Zoc]at hc;have HX1:=ZmE hx1;clear hx1 hsl;go_wp2_with fail;refine HFC.out.mono ?_;rintro e w2 ⟨u2,rfl,hu2,hx2⟩;have HU2:=ZmE hu2;have HX2:=ZmE hx2;clear hu2 hx2 hc;go_wp2_with fail;refine(HFO2.out u2 w2 HU2.out (Zv HTX.out HX2.out)).mono ?_;rintro e w3 ⟨rfl,hx3⟩;obtain⟨f0,f1,f2,f3,f4,f5,f6,f7⟩:=Zf (ZL ((HX1.out.trans HX2.out).trans hx3));have hxw:=((HX1.out.trans HX2.out).trans hx3).before.before;clear hx3;exact QgT);·obtain rfl:e3=0:=ZnH.1 he3;rw[ZmF he3]at HR1;clear he3;go_enter func35,ntmps35;go_wp2_with fail;refine(HD.out _ Xf).mono ?_;rintro e w1 ⟨u,rfl,hu,hx1⟩;have HTX:=ZmE (Zv HT.out hx1.before.before);have HFC:=ZmE (HFR.out u w1 hu HTX.out);obtain⟨hsl,au,cu,rfl,hcu⟩:=hu;rw[ZmI,<-HN.out]at hsl HFC hcu⊢;obtain⟨b,o,ha,hb,hc⟩:=hsl.int_at (Ext.refl w1) HX0.out;subst ha;rw[Zoc]at hc;have HX1:=ZmE hx1;clear hx1 hsl;go_wp2_with fail;refine HFC.out.mono ?_;rintro e w2 ⟨u2,rfl,hu2,hx2⟩;have HU2:=ZmE hu2;have HX2:=ZmE hx2;clear hu2 hx2 hc;go_wp2_with fail;refine(HFO2.out u2 w2 HU2.out (Zv HTX.out HX2.out)).mono ?_;rintro e w3 ⟨rfl,hx3⟩;obtain⟨f0,f1,f2,f3,f4,f5,f6,f7⟩:=Zf (ZL ((HX1.out.trans HX2.out).trans hx3));have hxw:=((HX1.out.trans HX2.out).trans hx3).before.before;clear hx3;go_wp2_with fail;refine Zng (Ze results35 rfl (Zg f7) rfl) rfl ?_;rw[HR1.out,HTB.out];exact Qg7
 rw[ZmF hf]at HR1
 have HHD:Hid (∀x,cs[0]? =some x->x≠256):=ZmE (fun x h e=>hf (by rw[Zp4,h,e]))
 clear hf
 by_cases h0:n=0
 ·obtain rfl:cs=[]:=Znq (by rw[<-HN.out];exact h0);subst h0;go_enter func35,ntmps35;go_wp2_with fail;refine(HD.out _ Xf).mono ?_;rintro e w1 ⟨u,rfl,hu,hx1⟩;obtain⟨hsl,au,cu,rfl,hcu⟩:=hu;have HX1:=ZmE hx1;obtain⟨wm,hmk,hOm,hXm⟩:=Zdc w1 0 w1.heap.size QhN (ZmK _);have hmk:(Instr.makeSlice 90 (.int .i64 0) (.int .i64 0)).run prog w1=_:=hmk;have hcv:=Zl (l:=[]) hOm.sl;have HF:Hid (res=some (8,[],[])):=ZmE (by rw[HR1.out,ZmF QhP];rfl);obtain⟨f0,f1,f2,f3,f4,f5,f6,f7⟩:=Zf (ZL (HX1.out.trans hXm));have hxw:=(HX1.out.trans hXm).before.before;clear hx1 hsl hXm hOm HD;go_wp2_with fail;go_loopw [53] (fun t wr=>t=.int .i64 0∧wr=wm) (fun _ _=>0);(case atStart=>exact Qbg)
  case round=>
  obtain⟨rfl,rfl⟩:=hrel;exact Qdk
 ·have hnI:(0:Int)<(n:Int):=QhN;obtain⟨x0,hx0⟩:∃x,cs[0]? =some x:=⟨_,ZmG QhW⟩;have z256:(x0==256)=false:=ZmJ.2 (HHD.out x0 hx0);have HX0:=ZmE hx0;clear hx0;go_enter func35,ntmps35;go_wp2_with fail;refine(HD.out _ Xf).mono ?_;rintro e w1 ⟨u,rfl,hu,hx1⟩;obtain⟨hsl,au,cu,rfl,hcu⟩:=hu;rw[ZmI,<-HN.out]at hsl hcu⊢;obtain⟨b,o,ha,hb,hc⟩:=hsl.int_at (Ext.refl w1) HX0.out;subst ha;rw[Zoc]at hc;have HX1:=ZmE hx1;have HS:=ZmE hsl;obtain⟨wm,hmk,hOm,hXm⟩:=Zdc w1 n w1.heap.size QhN (ZmK _);have HOm:=ZmE hOm;have HXm:=ZmE hXm;clear hx1 hsl hXm hOm HD;go_wp2_with fail;go_loopw [53] (fun t wr=>∃j:Nat,j<=n∧t=.int .i64 (j:Int)∧Hid (∀x∈cs.take j,x<128)∧Hid (Own 5 wr w1.heap.size (.slice (some ⟨w1.heap.size,0,none⟩) n n) (((cs.take j).map chB++List.replicate (n-j) (0:UInt8)).map encB))∧Hid (Ext w1 wr)) (fun t _=>n-(intOf t).toNat);(case atStart=>exact⟨0,ZmP _,rfl,ZmE (fun x hx=>by simp at hx),by simpa using HOm,HXm⟩)
  case round=>
  clear HOm HXm hmk;obtain⟨j,hj,rfl,HB,HO,HX⟩:=hrel;by_cases hlt:j<n;(·obtain⟨x,hxj⟩:∃x,cs[j]? =some x:=⟨_,ZmG QhV⟩;obtain⟨b',o',ha,hb',hcj⟩:=HS.out.int_at HX.out hxj;injection ha with ha;injection ha with h1 h2;subst h1 h2;have hjI:(j:Int)<(n:Int):=QhN;have hxg:=HC0.out x (ZmT hxj);by_cases hx:x<128;(·have hbx:((chB x).toNat:Int)=x:=(by unfold chB;exact Qei);obtain⟨xo,co,fo⟩:=HO.out.byteAt (i:=j) (by rw[ZmM,ZmI,ZmY,Zns,<-HN.out];omega);have hO9:=HO.out.putB j (chB x);rw[Zh1 chB HN.out.symm hxj]at hO9;unfold encB at hO9;rw[hbx]at hO9;have HO9:=ZmE hO9;have HB2:Hid (∀y∈cs.take (j+1),y<128):=ZmE (fun y hy=>by rw[Zu hxj]at hy;rcases ZnR.1 hy with h|h;(·exact HB.out y h);·rw[Znz]at h;subst h;exact hx);have hxI:¬128<=x:=QhN;clear hxj hO9 hbx;go_wp2_with fail;go_roundw;(case rel=>exact⟨j+1,by omega,by go_num,HB2,HO9,ZmE (HX.out.setCell (p:=⟨w1.heap.size,j,none⟩) (ZmK _) _)⟩);case measure=>exact Qak);·have HF:Hid (res=none):=ZmE QiG;have hxI:128<=x:=QhN;obtain⟨f0,f1,f2,f3,f4,f5,f6,f7⟩:=Zf (ZL (HX1.out.trans HX.out));have hxw:=(HX1.out.trans HX.out).before.before;clear hxj hx;exact QgV);·obtain rfl:n=j:=QhN;have HF:Hid (res=some (8,cs.map chB,[])):=ZmE Qkg;have hO:=HO.out;rw[ZnM,Zpx,ZnC,ZmW QhU]at hO;have hcv:=Zl hO.sl;obtain⟨f0,f1,f2,f3,f4,f5,f6,f7⟩:=Zf (ZL (HX1.out.trans HX.out));have hxw:=(HX1.out.trans HX.out).before.before;clear hO hlt hj;exact Qdk
def rdrs:Array Value:= #[.func (.func 34) #[] #[],.func (.func 35) #[] #[],.func (.func 36) #[] #[],.func (.func 37) #[] #[],.func (.func 38) #[] #[]]
def DecL (w:World) (m:List Bool) (tn ti:Value) (wr:World):Prop:=∃(i n:Nat) (x:Ln.Lin) (t1 t2:TypeId),i<=5∧ti=.int .i64 (i:Int)∧tn=.int .i64 (n:Int)∧n<=i∧Hid (Ln.found m i=(n,x))∧
 Hid (wr.heap[w.heap.size]? =some (.cells #[.int .i64 0,.string ⟨#[]⟩,.string ⟨#[]⟩] 33 (0,0)))∧Hid (wr.heap[w.heap.size+1]? =some (.cells rdrs t1 (0,0)))∧Hid (wr.heap[w.heap.size+2]? =some (.cells #[.int .i64 x.1,.string (Ea.bS x.2.1),.string (Ea.bS x.2.2)] t2 (0,0)))∧Hid (Ext w wr)
theorem ZlM {w:World} {b:Nat} {t:TypeId} (h:w.heap[b]? =some (.cells rdrs t (0,0))):w.cell? ⟨b,0,none⟩=some (.func (.func 34) #[] #[])∧w.cell? ⟨b,1,none⟩=some (.func (.func 35) #[] #[])∧w.cell? ⟨b,2,none⟩=some (.func (.func 36) #[] #[])∧w.cell? ⟨b,3,none⟩=some (.func (.func 37) #[] #[])∧w.cell? ⟨b,4,none⟩=some (.func (.func 38) #[] #[]):=
 ⟨Zw h rfl,Zw h rfl,Zw h rfl,Zw h rfl,Zw h rfl⟩
theorem ZN (m:List Bool) (i:Nat):Ln.found m (i+1)=match Ln.reader i m with|none=>Ln.found m i|some x=>((Ln.found m i).1+1,x):=rfl
theorem ZaM (v:Value) (m:List Bool) (w:World) (hv:SlK w v (m.map encT)) (hm:m.length<=1000000) (ht:Spaces w):
 Calls prog 13 #[v] w fun e w'=>e=.returned (gotV (Ln.decode m))∧Ext w w':=by
 have HT:=ZmE ht
 have HCT:=ZmE (fun w' (h:Ext w w')=>ZbK v m w' (hv.ext h).1 hm)
 have HR0:=ZmE (fun w' (h:Ext w w')=>Zj7 v m w' (hv.ext h) hm)
 have HR1:=ZmE (fun(h2:m.length<=65536) w' (h:Ext w w')=>Zj5 v m w' (hv.ext h) QhN (Zv HT.out h))
 have HR2:=ZmE (fun w' (h:Ext w w')=>ZkT v m w' (hv.ext h) hm)
 have HR3:=ZmE (fun w' (h:Ext w w')=>Zj6 v m w' (hv.ext h) hm)
 have HR4:=ZmE (fun w' (h:Ext w w')=>Zj8 v m w' (hv.ext h) hm)
 have HD:=ZmE (Ln.decode.eq_1 m)
 generalize Ln.decode m=res at*
 obtain⟨-,a,c,rfl,-⟩:=hv
 rw[ZmI]at HCT HR0 HR1 HR2 HR3 HR4⊢
 generalize m.length=ml at*
 by_cases h4:65536<ml
 ·have h4I:65536<(ml:Int):=QhN;rw[ZmH h4]at HD;clear h4 HR0 HR1 HR2 HR3 HR4 HCT;go_enter func13,ntmps13;exact QgO
 have h4I:¬65536<(ml:Int):=by omega
 rw[ZmF h4]at HD
 have HR1:=ZmE (HR1.out QhN)
 cases hdk:Ln.dark m with
 |false=>rw[hdk]at HCT HD;rw[ZmH rfl]at HD;clear h4 HR0 HR1 HR2 HR3 HR4 hdk;go_enter func13,ntmps13;go_wp2_with fail;refine(HCT.out _ Xf).mono ?_;rintro e w1 ⟨rfl,rfl⟩;exact QgO
 |true=>
 rw[hdk]at HCT HD
 rw[ZmF QhP]at HD
 clear h4 hdk
 go_enter func13,ntmps13
 go_wp2_with fail
 refine(HCT.out _ Xf).mono ?_
 rintro e w1 ⟨rfl,rfl⟩
 go_wp2_with fail
 go_loopw [6,22] (fun tn ti wr=>DecL w m tn ti wr) (fun _ t _=>5-(intOf t).toNat)
 case atStart=>have h1:(((w.alloc (.cells #[.int .i64 0,.string ⟨#[]⟩,.string ⟨#[]⟩] 33)).alloc (.cells rdrs 60)).alloc (.cells #[.int .i64 0,.string ⟨#[]⟩,.string ⟨#[]⟩] 33)).heap[w.heap.size+1]? =some (.cells rdrs 60 (0,0)):=Zd (Zo (w:=w.alloc _) QhQ (Ext.refl _)) ((Ext.refl _).alloc _);have h2:(((w.alloc (.cells #[.int .i64 0,.string ⟨#[]⟩,.string ⟨#[]⟩] 33)).alloc (.cells rdrs 60)).alloc (.cells #[.int .i64 0,.string ⟨#[]⟩,.string ⟨#[]⟩] 33)).heap[w.heap.size+2]? =some (.cells #[.int .i64 0,.string ⟨#[]⟩,.string ⟨#[]⟩] 33 (0,0)):=Zo (w:=(w.alloc _).alloc _) QhQ (Ext.refl _);exact⟨0,0,Ln.zero,60,33,ZmP _,rfl,rfl,ZmP _,ZmE rfl,ZmE (Zd (Znx w _) (((Ext.refl _).alloc _).alloc _)),ZmE h1,ZmE h2,ZmE ((((Ext.refl _).alloc _).alloc _).alloc _)⟩
 case round=>
 obtain⟨i,n,x,t1,t2,hi,rfl,rfl,hni,HF,HB0,HB1,HB2,HX⟩:=hrel
 obtain⟨k0,s0,a0⟩:=x
 dsimp only at HB2
 by_cases hlt:i<5
 ·have hnc:(n:Int)<=5:=QhN;obtain⟨r0,r1,r2,r3,r4⟩:=ZlM HB1.out;have hfs:w.heap.size+1<wr.heap.size:=(Znn.1 HB1.out).1;rcases(by omega:i=0∨i=1∨i=2∨i=3∨i=4)with rfl|rfl|rfl|rfl|rfl
  ·obtain⟨o,ho⟩:∃o,o=Ln.reader 0 m:=⟨_,rfl⟩
   have HO:=ZmE ho
   have HRR:Hid (Calls prog 34 #[.agg #[.slice a ml c]] wr (RdR o wr)):=ZmE (by rw[ho];exact HR0.out wr HX.out)
   clear ho
   go_wp2_with fail
   refine HRR.out.mono ?_
   rintro e w2 ⟨⟨k,s,ad⟩,rfl,hox,hx2⟩
   have HOX:=ZmE hox
   have HX2:=ZmE (HX.out.trans hx2)
   have HB02:=ZmE (Zd HB0.out hx2)
   have HB12:=ZmE (Zd HB1.out hx2)
   obtain⟨f0,f1,f2,f3,f4,f5,f6,f7⟩:=Zf (Zd HB2.out hx2)
   unfold linV
   dsimp only
   clear hox hx2 r0 r1 r2 r3 r4
   obtain⟨bo,hbo⟩:∃bo,bo=o.isSome:=⟨_,rfl⟩
   have HBO:=ZmE hbo
   rw[<-hbo]
   clear hbo
   cases bo with
   |true=>have HF2:Hid (Ln.found m (0+1)=(n+1,(k,s,ad))):=ZmE QhZ;go_wp2_with fail;go_roundw;(case rel=>exact⟨0+1,n+1,(k,s,ad),t1,t2,by omega,by go_num,by go_num,by omega,HF2,ZmE (Zd (Zq QhN (Zq QhN (Zq QhN HB02.out))) ((Ext.refl _).alloc _)),ZmE (Zd (Zq QhN (Zq QhN (Zq QhN HB12.out))) ((Ext.refl _).alloc _)),ZmE (Zd (Zg f7) ((Ext.refl _).alloc _)),ZmE ((Zp HX2.out QhN _ _ _).alloc _)⟩);case measure=>exact Qak
   |false=>
    have HF2:Hid (Ln.found m (0+1)=(n,(k0,s0,a0))):=ZmE (by
     rw[ZN,<-HO.out]
     cases o with
     |some y=>have:=HBO.out;cases this
     |none=>exact HF.out)
    go_wp2_with fail;go_roundw;(case rel=>exact⟨0+1,n,(k0,s0,a0),t1,t2,by omega,by go_num,rfl,by omega,HF2,ZmE (Zd HB02.out ((Ext.refl _).alloc _)),ZmE (Zd HB12.out ((Ext.refl _).alloc _)),ZmE (Zd f7.out ((Ext.refl _).alloc _)),ZmE (HX2.out.alloc _)⟩);case measure=>exact Qak
  ·obtain⟨o,ho⟩:∃o,o=Ln.reader 1 m:=⟨_,rfl⟩
   have HO:=ZmE ho
   have HRR:Hid (Calls prog 35 #[.agg #[.slice a ml c]] wr (RdR o wr)):=ZmE (by rw[ho];exact HR1.out wr HX.out)
   clear ho
   go_wp2_with fail
   refine HRR.out.mono ?_
   rintro e w2 ⟨⟨k,s,ad⟩,rfl,hox,hx2⟩
   have HOX:=ZmE hox
   have HX2:=ZmE (HX.out.trans hx2)
   have HB02:=ZmE (Zd HB0.out hx2)
   have HB12:=ZmE (Zd HB1.out hx2)
   obtain⟨f0,f1,f2,f3,f4,f5,f6,f7⟩:=Zf (Zd HB2.out hx2)
   unfold linV
   dsimp only
   clear hox hx2 r0 r1 r2 r3 r4
   obtain⟨bo,hbo⟩:∃bo,bo=o.isSome:=⟨_,rfl⟩
   have HBO:=ZmE hbo
   rw[<-hbo]
   clear hbo
   cases bo with
   |true=>have HF2:Hid (Ln.found m (1+1)=(n+1,(k,s,ad))):=ZmE QhZ;go_wp2_with fail;go_roundw;(case rel=>exact⟨1+1,n+1,(k,s,ad),t1,t2,by omega,by go_num,by go_num,by omega,HF2,ZmE (Zd (Zq QhN (Zq QhN (Zq QhN HB02.out))) ((Ext.refl _).alloc _)),ZmE (Zd (Zq QhN (Zq QhN (Zq QhN HB12.out))) ((Ext.refl _).alloc _)),ZmE (Zd (Zg f7) ((Ext.refl _).alloc _)),ZmE ((Zp HX2.out QhN _ _ _).alloc _)⟩);case measure=>exact Qak
   |false=>
    have HF2:Hid (Ln.found m (1+1)=(n,(k0,s0,a0))):=ZmE (by
     rw[ZN,<-HO.out]
     cases o with
     |some y=>have:=HBO.out;cases this
     |none=>exact HF.out)
    go_wp2_with fail;go_roundw;(case rel=>exact⟨1+1,n,(k0,s0,a0),t1,t2,by omega,by go_num,rfl,by omega,HF2,ZmE (Zd HB02.out ((Ext.refl _).alloc _)),ZmE (Zd HB12.out ((Ext.refl _).alloc _)),ZmE (Zd f7.out ((Ext.refl _).alloc _)),ZmE (HX2.out.alloc _)⟩);case measure=>exact Qak
  ·obtain⟨o,ho⟩:∃o,o=Ln.reader 2 m:=⟨_,rfl⟩
   have HO:=ZmE ho
   have HRR:Hid (Calls prog 36 #[.agg #[.slice a ml c]] wr (RdR o wr)):=ZmE (by rw[ho];exact HR2.out wr HX.out)
   clear ho
   go_wp2_with fail
   refine HRR.out.mono ?_
   rintro e w2 ⟨⟨k,s,ad⟩,rfl,hox,hx2⟩
   have HOX:=ZmE hox
   have HX2:=ZmE (HX.out.trans hx2)
   have HB02:=ZmE (Zd HB0.out hx2)
   have HB12:=ZmE (Zd HB1.out hx2)
   obtain⟨f0,f1,f2,f3,f4,f5,f6,f7⟩:=Zf (Zd HB2.out hx2)
   unfold linV
   dsimp only
   clear hox hx2 r0 r1 r2 r3 r4
   obtain⟨bo,hbo⟩:∃bo,bo=o.isSome:=⟨_,rfl⟩
   have HBO:=ZmE hbo
   rw[<-hbo]
   clear hbo
   cases bo with
   |true=>have HF2:Hid (Ln.found m (2+1)=(n+1,(k,s,ad))):=ZmE QhZ;go_wp2_with fail;go_roundw;(case rel=>exact⟨2+1,n+1,(k,s,ad),t1,t2,by omega,by go_num,by go_num,by omega,HF2,ZmE (Zd (Zq QhN (Zq QhN (Zq QhN HB02.out))) ((Ext.refl _).alloc _)),ZmE (Zd (Zq QhN (Zq QhN (Zq QhN HB12.out))) ((Ext.refl _).alloc _)),ZmE (Zd (Zg f7) ((Ext.refl _).alloc _)),ZmE ((Zp HX2.out QhN _ _ _).alloc _)⟩);case measure=>exact Qak
   |false=>
    have HF2:Hid (Ln.found m (2+1)=(n,(k0,s0,a0))):=ZmE (by
     rw[ZN,<-HO.out]
     cases o with
     |some y=>have:=HBO.out;cases this
     |none=>exact HF.out)
    go_wp2_with fail;go_roundw;(case rel=>exact⟨2+1,n,(k0,s0,a0),t1,t2,by omega,by go_num,rfl,by omega,HF2,ZmE (Zd HB02.out ((Ext.refl _).alloc _)),ZmE (Zd HB12.out ((Ext.refl _).alloc _)),ZmE (Zd f7.out ((Ext.refl _).alloc _)),ZmE (HX2.out.alloc _)⟩);case measure=>exact Qak
  ·obtain⟨o,ho⟩:∃o,o=Ln.reader 3 m:=⟨_,rfl⟩
   have HO:=ZmE ho
   have HRR:Hid (Calls prog 37 #[.agg #[.slice a ml c]] wr (RdR o wr)):=ZmE (by rw[ho];exact HR3.out wr HX.out)
   clear ho
   go_wp2_with fail
   refine HRR.out.mono ?_
   rintro e w2 ⟨⟨k,s,ad⟩,rfl,hox,hx2⟩
   have HOX:=ZmE hox
   have HX2:=ZmE (HX.out.trans hx2)
   have HB02:=ZmE (Zd HB0.out hx2)
   have HB12:=ZmE (Zd HB1.out hx2)
   obtain⟨f0,f1,f2,f3,f4,f5,f6,f7⟩:=Zf (Zd HB2.out hx2)
   unfold linV
   dsimp only
   clear hox hx2 r0 r1 r2 r3 r4
   obtain⟨bo,hbo⟩:∃bo,bo=o.isSome:=⟨_,rfl⟩
   have HBO:=ZmE hbo
   rw[<-hbo]
   clear hbo
   cases bo with
   |true=>have HF2:Hid (Ln.found m (3+1)=(n+1,(k,s,ad))):=ZmE QhZ;go_wp2_with fail;go_roundw;(case rel=>exact⟨3+1,n+1,(k,s,ad),t1,t2,by omega,by go_num,by go_num,by omega,HF2,ZmE (Zd (Zq QhN (Zq QhN (Zq QhN HB02.out))) ((Ext.refl _).alloc _)),ZmE (Zd (Zq QhN (Zq QhN (Zq QhN HB12.out))) ((Ext.refl _).alloc _)),ZmE (Zd (Zg f7) ((Ext.refl _).alloc _)),ZmE ((Zp HX2.out QhN _ _ _).alloc _)⟩);case measure=>exact Qak
   |false=>
    have HF2:Hid (Ln.found m (3+1)=(n,(k0,s0,a0))):=ZmE (by
     rw[ZN,<-HO.out]
     cases o with
     |some y=>have:=HBO.out;cases this
     |none=>exact HF.out)
    go_wp2_with fail;go_roundw;(case rel=>exact⟨3+1,n,(k0,s0,a0),t1,t2,by omega,by go_num,rfl,by omega,HF2,ZmE (Zd HB02.out ((Ext.refl _).alloc _)),ZmE (Zd HB12.out ((Ext.refl _).alloc _)),ZmE (Zd f7.out ((Ext.refl _).alloc _)),ZmE (HX2.out.alloc _)⟩);case measure=>exact Qak
  ·obtain⟨o,ho⟩:∃o,o=Ln.reader 4 m:=⟨_,rfl⟩
   have HO:=ZmE ho
   have HRR:Hid (Calls prog 38 #[.agg #[.slice a ml c]] wr (RdR o wr)):=ZmE (by rw[ho];exact HR4.out wr HX.out)
   clear ho
   go_wp2_with fail
   refine HRR.out.mono ?_
   rintro e w2 ⟨⟨k,s,ad⟩,rfl,hox,hx2⟩
   have HOX:=ZmE hox
   have HX2:=ZmE (HX.out.trans hx2)
   have HB02:=ZmE (Zd HB0.out hx2)
   have HB12:=ZmE (Zd HB1.out hx2)
   obtain⟨f0,f1,f2,f3,f4,f5,f6,f7⟩:=Zf (Zd HB2.out hx2)
   unfold linV
   dsimp only
   clear hox hx2 r0 r1 r2 r3 r4
   obtain⟨bo,hbo⟩:∃bo,bo=o.isSome:=⟨_,rfl⟩
   have HBO:=ZmE hbo
   rw[<-hbo]
   clear hbo
   cases bo with
   |true=>have HF2:Hid (Ln.found m (4+1)=(n+1,(k,s,ad))):=ZmE QhZ;go_wp2_with fail;go_roundw;(case rel=>exact⟨4+1,n+1,(k,s,ad),t1,t2,by omega,by go_num,by go_num,by omega,HF2,ZmE (Zd (Zq QhN (Zq QhN (Zq QhN HB02.out))) ((Ext.refl _).alloc _)),ZmE (Zd (Zq QhN (Zq QhN (Zq QhN HB12.out))) ((Ext.refl _).alloc _)),ZmE (Zd (Zg f7) ((Ext.refl _).alloc _)),ZmE ((Zp HX2.out QhN _ _ _).alloc _)⟩);case measure=>exact Qak
   |false=>
    have HF2:Hid (Ln.found m (4+1)=(n,(k0,s0,a0))):=ZmE (by
     rw[ZN,<-HO.out]
     cases o with
     |some y=>have:=HBO.out;cases this
     |none=>exact HF.out)
    go_wp2_with fail;go_roundw;(case rel=>exact⟨4+1,n,(k0,s0,a0),t1,t2,by omega,by go_num,rfl,by omega,HF2,ZmE (Zd HB02.out ((Ext.refl _).alloc _)),ZmE (Zd HB12.out ((Ext.refl _).alloc _)),ZmE (Zd f7.out ((Ext.refl _).alloc _)),ZmE (HX2.out.alloc _)⟩);case measure=>exact Qak
 ·obtain rfl:i=5:=QhN;have HD2:Hid (res=Ln.outcome (n,(k0,s0,a0))):=ZmE (by rw[HD.out,HF.out]);obtain⟨f0,f1,f2,f3,f4,f5,f6,f7⟩:=Zf HB0.out;obtain⟨g0,g1,g2,g3,g4,g5,g6,g7⟩:=Zf HB2.out;unfold Ln.outcome at HD2;dsimp only at HD2;by_cases h0:n=0;(·rw[ZmH h0]at HD2;subst h0;exact QbR);have z0:((n:Int)==0)=false:=ZmJ.2 QhN;rw[ZmF h0]at HD2;by_cases h1:1<n;(·have h1I:1<(n:Int):=QhN;rw[ZmH h1]at HD2;exact QbR);·have h1I:¬1<(n:Int):=QhN;rw[ZmF h1]at HD2;exact QbR
theorem ZgE {l:List Int} (h:(Rn.modules l).2=0):1<=(Rn.modules l).1.length∧(Rn.modules l).1.length<=65536∧0<=Rn.sum l∧Rn.sum l<=65536:=by
 unfold Rn.modules at h⊢
 by_cases h0:l.length=0
 ·exact QfZ
 rw[ZmF h0]at h⊢
 by_cases h1:l.length%2=0
 ·exact Qfc
 rw[ZmF h1]at h⊢
 cases h2:Tw.inRng l with
 |false=>rw[h2,ZmH rfl]at h;cases h
 |true=>
 rw[h2,ZmF QhP]at h
 by_cases h3:65536<Rn.sum l
 ·rw[ZmH h3]at h;cases h
 rw[ZmF QhP,ZmF h3]
 have hin:=fun x hx=>ZaD h2 (x:=x) hx
 have h4:=Rn.mods_len l true (fun x hx=>(hin x hx).1)
 have h5:=Rn.sum_pos l (fun x hx=>(hin x hx).1)
 dsimp only
 omega
theorem Zhq (ws:List Int):∀l∈Ln.cands ws,l.length<=ws.length:=by
 intro l hl;unfold Ln.cands at hl;rcases Zn8.1 hl with rfl|hl;·rw[ZmI];exact Qd0
 rcases ZnR.1 hl with hl|hl
 ·have:∀ts:List Int,l∈Ln.quants ws ts->l.length<=ws.length:=by
   intro ts
   induction ts with
   |nil=>intro h;cases h
   |cons t ts ih=>intro h;rw[Ln.quants]at h;rcases ZnR.1 h with h|h;(·split at h;(·rename_i h2;rw[Znz]at h;subst h;exact Nat.le_of_eq (Rn.quant_sum h2).2.1);·cases h);·exact ih h
  exact this _ hl
 ·unfold Ln.wides at hl;split at hl;(·rw[Znz]at hl;subst hl;rw[ZmI];exact Zc3 ws);·cases hl
theorem Zhp (ws:List Int):(Ln.cands ws).length<=4:=by
 have h1:∀ts:List Int,(Ln.quants ws ts).length<=ts.length:=by
  intro ts
  induction ts with
  |nil=>exact ZmK _
  |cons t ts ih=>rw[Ln.quants,ZmM,ZmQ];split;(·rw[ZoQ];omega);·rw[ZnE];omega
 have h2:(Ln.totals ws.length).length<=2:=by unfold Ln.totals;rw[ZmM];have a1:(if ws.length=59 then [(95:Int)]else if ws.length=43 then [67]else if ws.length=33 then [51]else []).length<=1:=(by split;(·exact Qd0);·split;(·exact Qd0);·exact Qes);have a2:(if 13<=ws.length∧(ws.length-7)%6=0 then [Ln.total11 ws.length]else []).length<=1:=Qes;omega
 have h3:(Ln.wides ws).length<=1:=by unfold Ln.wides;exact Qes
 have:=h1 (Ln.totals ws.length);unfold Ln.cands;rw[ZmQ,ZmM];omega
theorem ZlX {left right s:Int} {ls:List (List Int)} {j:Nat} {l:List Int} (h:ls[j]? =some l):Ln.tryGo left right s (ls.drop j)=if(Rn.modules l).2=0∧(Ln.decode (Ln.rowOf l left right s)).2=0 then some (Ln.decode (Ln.rowOf l left right s)).1 else Ln.tryGo left right s (ls.drop (j+1)):=by obtain⟨h1,h2⟩:=ZmN.1 h;rw[Zn3 h1,h2,Ln.tryGo]
theorem Zip (v:Value) (ws:List Int) (left right:Nat) (w:World) (hv:Sl w v (ws.map encI)) (hne:ws≠ []) (hl:ws.length<=65536) (hw:∀x∈ws,1<=x∧x<=65536) (hle:left<=65536) (hri:right<=65536) (ht:Spaces w):
 Calls prog 43 #[v,.int .i64 (left:Int),.int .i64 (right:Int)] w (RdR (Ln.try_ ws left right) w):=by
 have HT:=ZmE ht
 have HCN:=ZmE (fun w' (h:Ext w w')=>Zee v ws w' (hv.ext h) hne hl hw)
 have HCL:=ZmE (Zhq ws)
 have hcn:=Zhp ws
 have hpos:1<=ws.length:=Zob.2 hne
 have hsb:=Rn.sum_in hw
 have hsp:=Rn.sum_pos ws (fun x hx=>(hw x hx).1)
 obtain⟨res,hres⟩:∃res,res=Ln.try_ ws left right:=⟨_,rfl⟩
 rw[<-hres]
 unfold Ln.try_ at hres
 obtain⟨ls,hls⟩:∃ls,ls=Ln.cands ws:=⟨_,rfl⟩
 rw[<-hls]at HCN HCL hres hcn
 obtain⟨SM,hSM⟩:∃SM,SM=Rn.sum ws:=⟨_,rfl⟩
 rw[<-hSM]at hres hsb hsp
 have HR0:Hid (res=Ln.tryGo left right SM (ls.drop 0)):=ZmE hres
 obtain⟨a,c,rfl⟩:=hv.form
 rw[ZmI]at hv HCN⊢
 obtain⟨n,hn⟩:∃n,n=ws.length:=⟨_,rfl⟩
 rw[<-hn]at hv hl HCN HCL hpos hsp hsb⊢
 have HN:=ZmE hn
 have HV:=ZmE hv
 have HS:=ZmE hSM
 have HIN:=ZmE hw
 have hs0:1<=SM:=by omega
 have hs1:SM<=4294967296:=by have:=hsb.2;omega
 clear hv hw hne hn hSM hsb hsp hres hls
 obtain⟨w0,hw0⟩:∃w0,w0=w.alloc (.cells #[.int .i64 0,.string ⟨#[]⟩,.string ⟨#[]⟩] 33):=⟨_,rfl⟩
 have HX0:Hid (Ext w w0):=ZmE (by rw[hw0];exact(Ext.refl w).alloc _)
 have HB0:Hid (w0.heap[w.heap.size]? =some (.cells #[.int .i64 0,.string ⟨#[]⟩,.string ⟨#[]⟩] 33 (0,0))):=ZmE (by rw[hw0];exact Znx _ _)
 have HW0:=ZmE hw0
 clear hw0
 go_enter func43,ntmps43
 go_wp2_with fail
 rw[<-HW0.out]
 go_loop [8,20] (fun s i=>∃(j:Nat) (t:Int),j<=n∧i=.int .i64 (j:Int)∧s=.int .i64 t∧0<=t∧t<=65536*(j:Int)∧Hid (t=Rn.sum (ws.take j))) (fun _ i=>n-(intOf i).toNat)
 case atStart=>exact Qcq
 case round=>
 obtain⟨j,t,hj,rfl,rfl,ht0,ht1,HTS⟩:=hrel
 by_cases hlt:j<n
 ·obtain⟨x,hxj⟩:∃x,ws[j]? =some x:=⟨_,ZmG QhV⟩;obtain⟨b,o,ha,hb,hc⟩:=HV.out.int_at HX0.out hxj;subst ha;have hjI:(j:Int)<(n:Int):=QhN;obtain⟨hx1,hx2⟩:=HIN.out x (ZmT hxj);have HT2:Hid (t+x=Rn.sum (ws.take (j+1))):=ZmE (by rw[Zu hxj,Rn.sum_snoc,<-HTS.out]);exact Qho
 obtain rfl:n=j:=by omega
 obtain rfl:SM=t:=by have h2:=HTS.out;exact QeW
 clear hj hlt HTS ht0 ht1
 go_wp2_with fail
 refine(HCN.out w0 HX0.out).mono ?_
 rintro e w1 ⟨u,rfl,hu,hx1⟩
 obtain⟨cb,cc,xs,rfl,hcb,hhs,hcc⟩:=hu
 have HHS:=ZmE hhs
 have HCC:=ZmE hcc
 have HB1:=ZmE (Zd HB0.out hx1)
 have HX1:=ZmE (HX0.out.trans hx1)
 clear hhs hcc hx1
 obtain⟨k,hk⟩:∃k,k=ls.length:=⟨_,rfl⟩
 rw[<-hk]
 have HK:=ZmE hk
 have hk4:k<=4:=by omega
 clear hk hcn
 go_wp2_with fail
 go_loopw [31] (fun t wr=>∃j:Nat,j<=k∧t=.int .i64 (j:Int)∧Hid (res=Ln.tryGo left right SM (ls.drop j))∧Hid (wr.heap[w.heap.size]? =some (.cells #[.int .i64 0,.string ⟨#[]⟩,.string ⟨#[]⟩] 33 (0,0)))∧Hid (Ext w1 wr)) (fun t _=>k-(intOf t).toNat)
 case atStart=>exact⟨0,ZmP _,rfl,by rw[<-HS.out]at*;exact HR0,HB1,ZmE (Ext.refl _)⟩
 case round=>
 clear HR0 HB1
 obtain⟨j,hj,rfl,HR,HB,HX⟩:=hrel
 by_cases hlt:j<k
 ·have hjI:(j:Int)<(k:Int):=QhN;obtain⟨l,hlj⟩:∃l,ls[j]? =some l:=⟨_,ZmG (by rw[<-HK.out];exact hlt)⟩;obtain⟨x,hxj⟩:∃x,xs[j]? =some x:=⟨_,ZmG (by rw[HHS.out.1,<-HK.out];exact hlt)⟩;obtain⟨hx2,hxl,hown⟩:=HHS.out.2 j x l hxj hlj;obtain⟨c0,c1⟩:=HCC.out j x hxj;obtain⟨⟨xa,xn,xc⟩,xt⟩:=x;dsimp only at hx2 hxl;subst hx2 hxl;unfold cdV at c0 hown;dsimp only at c0 c1 hown;have hcb2:=hcb;have c0:=(HX.out.cell (p:=⟨cb,j*2,none⟩) hcb2).trans c0;have c1:=(HX.out.cell (p:=⟨cb,j*2+1,none⟩) hcb2).trans c1;have hll:l.length<=1000000:=(by have:=HCL.out l (ZmT hlj);omega);have HMO:=ZmE (fun w' (h:Ext w1 w')=>ZeW (.slice xa l.length xc) l w' ((hown.slk.1).ext h) hll);have HTA:=ZmE (ZlX (left:=left) (right:=right) (s:=SM) hlj);have HOK:=ZmE (@ZgE l);have HRO:=ZmE (show Ln.rowOf l left right SM=Ln.quiet (Rn.modules l).1 (min 64 ((left:Int)*Rn.sum l/SM)).toNat (min 64 ((right:Int)*Rn.sum l/SM)).toNat from rfl);obtain⟨⟨ms,me⟩,hms⟩:∃r,r=Rn.modules l:=⟨_,rfl⟩;rw[<-hms]at HMO HTA HOK HRO;dsimp only at HTA HOK HRO;clear hown hms hxj;go_wp2_with fail;refine(HMO.out _ (HX.out.alloc _)).mono ?_;rintro e w2 ⟨u,rfl,hu,hx2⟩;dsimp only at hu⊢;have HX2:=ZmE ((HX.out.alloc _).trans hx2);have HB2:=ZmE (Zd (Zd HB.out ((Ext.refl _).alloc _)) hx2);have HC2:=ZmE (Zd (Znx wr _) hx2);obtain⟨hsl,au,cu,rfl,-⟩:=hu;rw[ZmI]at hsl⊢;have HU:=ZmE hsl;clear hsl hx2;by_cases hme:me=0;(·subst hme;obtain⟨hm1,hm2,ht0,ht1⟩:=HOK.out rfl;obtain⟨-,e0,e1,e2,e3⟩:=ZaQ HC2.out;obtain⟨tot,htot⟩:∃tot,tot=Rn.sum l:=⟨_,rfl⟩;rw[<-htot]at ht0 ht1 e1 HRO;have HTOT:=ZmE htot.symm;clear htot;obtain⟨A,hA⟩:∃A,A=(min 64 ((left:Int)*tot/SM)).toNat:=⟨_,rfl⟩;obtain⟨B,hB⟩:∃B,B=(min 64 ((right:Int)*tot/SM)).toNat:=⟨_,rfl⟩;rw[<-hA,<-hB]at HRO;obtain⟨pl,hpl⟩:∃p,p=(left:Int)*tot:=⟨_,rfl⟩;have hple:=hpl.symm;have hpl0:0<=pl:=(by rw[hpl];exact ZoC QhN ht0);have hpl1:pl<=65536*65536:=(by rw[hpl];exact Zo2 QhN ht1 ht0 QhN);obtain⟨ql,hql⟩:∃q,q=pl/SM:=⟨_,rfl⟩;have hql0:0<=ql:=(by rw[hql];exact Zqm hpl0 QhN);have hql1:ql<=65536*65536:=(by rw[hql];exact ZqD (ZpG SM hpl0) hpl1);have hqle:=hql.symm;have hplw:IntKind.i64.wrap pl=pl:=ZnB _ QhN;have hqlw:IntKind.i64.wrap ql=ql:=ZnB _ QhN;have hqlt:pl.tdiv SM=ql:=(by rw[hql,Zo1 hpl0]);have hAI:min ql 64=(A:Int):=(by rw[hA,<-hpl,<-hql];omega);have hAJ:min 64 ql=(A:Int):=(by rw[hA,<-hpl,<-hql];omega);have hA64:A<=64:=QhN;obtain⟨pr,hpr⟩:∃p,p=(right:Int)*tot:=⟨_,rfl⟩;have hpre:=hpr.symm;have hpr0:0<=pr:=(by rw[hpr];exact ZoC QhN ht0);have hpr1:pr<=65536*65536:=(by rw[hpr];exact Zo2 QhN ht1 ht0 QhN);obtain⟨qr,hqr⟩:∃q,q=pr/SM:=⟨_,rfl⟩;have hqr0:0<=qr:=(by rw[hqr];exact Zqm hpr0 QhN);have hqr1:qr<=65536*65536:=(by rw[hqr];exact ZqD (ZpG SM hpr0) hpr1);have hqre:=hqr.symm;have hprw:IntKind.i64.wrap pr=pr:=ZnB _ QhN;have hqrw:IntKind.i64.wrap qr=qr:=ZnB _ QhN;have hqrt:pr.tdiv SM=qr:=(by rw[hqr,Zo1 hpr0]);have hBI:min qr 64=(B:Int):=(by rw[hB,<-hpr,<-hqr];omega);have hBJ:min 64 qr=(B:Int):=(by rw[hB,<-hpr,<-hqr];omega);have hB64:B<=64:=QhN;have HSU:=ZmE (fun w' (h:Ext w2 w')=>ZfI (.slice au ms.length cu) ms A B w' (HU.out.ext h) QhN hm1 QhN QhN);have HQL:=ZmE (ZdR ms A B);obtain⟨row,hrow⟩:∃row,row=Ln.quiet ms A B:=⟨_,rfl⟩;rw[<-hrow]at HRO HSU HQL;rw[HRO.out]at HTA;have hrl:row.length<=1000000:=(by rw[HQL.out];omega);obtain⟨ml,hml⟩:∃ml,ml=ms.length:=⟨_,rfl⟩;rw[<-hml]at HSU hm1 hm2⊢;have hSM0:SM≠0:=QhN;have zSM:(SM==0)=false:=ZmJ.2 hSM0;clear hA hB hrow hml;go_wp2_with fail;refine wp_region_rel 16 1 rfl [43,44,45,46,47,48,49,50,51,52,53,54,55,56,57,58] [[],[],[],[2],[1,3],[],[4,5],[6],[],[],[9],[8,10],[],[11,12],[13],[0,7,14]] QhO QhO ?_;apply relPlan_eq';(·intro V w' hx hf;(with_reducible refine relAt_ops ?_);intro A' ρ hA hρ hcst hfun;have h13:ρ (.tmp 13)=.slice au ml cu:=(Znf hρ _).trans (evalMiss hA 13 rfl);exact relUpon_move (hk:=by rw[h13];exact⟨Ext.refl _,rfl⟩));apply relPlan_eq';(·intro V w' hx hf;(with_reducible refine relAt_ops ?_);intro A' ρ hA hρ hcst hfun;have h1:ρ (.tmp 1)=.int .i64 (left:Int):=(Znf hρ _).trans (evalMiss hA 1 rfl);exact relUpon_move (hk:=by rw[h1];exact⟨Ext.refl _,rfl⟩));refine relPlan_by (eqv (.pointer (some ⟨wr.heap.size,1,none⟩))) (eqv_stable _) ?_ ?_;(·exact Qce);refine relPlan_by (eqv (.int .i64 tot)) (eqv_stable _) ?_ ?_;(·intro V w' hx hf;(with_reducible refine relAt_ops ?_);intro A' ρ hA hρ hcst hfun;obtain⟨f45,_⟩:=hf;have h45:ρ (.tmp 45)=_:=(Znf hρ _).trans ((evalHit hA 45 rfl).trans f45);obtain⟨-,-,g1,-,-⟩:=ZaQ (Zd HC2.out hx);rw[HTOT.out]at g1;simp[relUpon,go_sem,Ext.refl,h45,g1];try rfl);refine relPlan_by (eqv (.int .i64 pl)) (eqv_stable _) ?_ ?_;(·intro V w' hx hf;(with_reducible refine relAt_ops ?_);intro A' ρ hA hρ hcst hfun;obtain⟨f44,f46,_⟩:=hf;have h44:ρ (.tmp 44)=_:=(Znf hρ _).trans ((evalHit hA 44 rfl).trans f44);have h46:ρ (.tmp 46)=_:=(Znf hρ _).trans ((evalHit hA 46 rfl).trans f46);simp[relUpon,go_sem,hcst,↓IntWalk.iteOmega,Ext.refl,h44,h46,hple,hplw];try rfl);apply relPlan_eq';(·exact QcE);refine relPlan_by (eqv (.int .i64 ql)) (eqv_stable _) ?_ ?_;(·intro V w' hx hf;(with_reducible refine relAt_ops ?_);intro A' ρ hA hρ hcst hfun;obtain⟨f47,f48,_⟩:=hf;have h47:ρ (.tmp 47)=_:=(Znf hρ _).trans ((evalHit hA 47 rfl).trans f47);have h48:ρ (.tmp 48)=_:=(Znf hρ _).trans ((evalHit hA 48 rfl).trans f48);simp[relUpon,go_sem,hcst,↓IntWalk.iteOmega,Ext.refl,h47,h48,hqle,hqlt,hqlw,zSM,hSM0];try rfl);refine relPlan_by (eqv (.int .i64 (A:Int))) (eqv_stable _) ?_ ?_;(·intro V w' hx hf;(with_reducible refine relAt_ops ?_);intro A' ρ hA hρ hcst hfun;obtain⟨f49,_⟩:=hf;have h49:ρ (.tmp 49)=_:=(Znf hρ _).trans ((evalHit hA 49 rfl).trans f49);simp[relUpon,go_sem,hcst,↓IntWalk.iteOmega,Ext.refl,h49,hAI,hAJ];try rfl);apply relPlan_eq';(·intro V w' hx hf;(with_reducible refine relAt_ops ?_);intro A' ρ hA hρ hcst hfun;have h2:ρ (.tmp 2)=.int .i64 (right:Int):=(Znf hρ _).trans (evalMiss hA 2 rfl);exact relUpon_move (hk:=by rw[h2];exact⟨Ext.refl _,rfl⟩));refine relPlan_by (eqv (.pointer (some ⟨wr.heap.size,1,none⟩))) (eqv_stable _) ?_ ?_;(·exact Qce);refine relPlan_by (eqv (.int .i64 tot)) (eqv_stable _) ?_ ?_;(·intro V w' hx hf;(with_reducible refine relAt_ops ?_);intro A' ρ hA hρ hcst hfun;obtain⟨f52,_⟩:=hf;have h52:ρ (.tmp 52)=_:=(Znf hρ _).trans ((evalHit hA 52 rfl).trans f52);obtain⟨-,-,g1,-,-⟩:=ZaQ (Zd HC2.out hx);rw[HTOT.out]at g1;simp[relUpon,go_sem,Ext.refl,h52,g1];try rfl);refine relPlan_by (eqv (.int .i64 pr)) (eqv_stable _) ?_ ?_;(·intro V w' hx hf;(with_reducible refine relAt_ops ?_);intro A' ρ hA hρ hcst hfun;obtain⟨f51,f53,_⟩:=hf;have h51:ρ (.tmp 51)=_:=(Znf hρ _).trans ((evalHit hA 51 rfl).trans f51);have h53:ρ (.tmp 53)=_:=(Znf hρ _).trans ((evalHit hA 53 rfl).trans f53);simp[relUpon,go_sem,hcst,↓IntWalk.iteOmega,Ext.refl,h51,h53,hpre,hprw];try rfl);apply relPlan_eq';(·exact QcE);refine relPlan_by (eqv (.int .i64 qr)) (eqv_stable _) ?_ ?_;(·intro V w' hx hf;(with_reducible refine relAt_ops ?_);intro A' ρ hA hρ hcst hfun;obtain⟨f54,f55,_⟩:=hf;have h54:ρ (.tmp 54)=_:=(Znf hρ _).trans ((evalHit hA 54 rfl).trans f54);have h55:ρ (.tmp 55)=_:=(Znf hρ _).trans ((evalHit hA 55 rfl).trans f55);simp[relUpon,go_sem,hcst,↓IntWalk.iteOmega,Ext.refl,h54,h55,hqre,hqrt,hqrw,zSM,hSM0];try rfl);refine relPlan_by (eqv (.int .i64 (B:Int))) (eqv_stable _) ?_ ?_;(·intro V w' hx hf;(with_reducible refine relAt_ops ?_);intro A' ρ hA hρ hcst hfun;obtain⟨f56,_⟩:=hf;have h56:ρ (.tmp 56)=_:=(Znf hρ _).trans ((evalHit hA 56 rfl).trans f56);simp[relUpon,go_sem,hcst,↓IntWalk.iteOmega,Ext.refl,h56,hBI,hBJ];try rfl);refine relPlan_by (fun v w=>SlK w v (row.map encT)) (fun _ _ _ h hx=>h.ext hx) ?_ ?_;(·intro V w' hx hf;(with_reducible refine relAt_ops ?_);intro A' ρ hA hρ hcst hfun;obtain⟨f43,f50,f57,_⟩:=hf;have h43:ρ (.tmp 43)=_:=(Znf hρ _).trans ((evalHit hA 43 rfl).trans f43);have h50:ρ (.tmp 50)=_:=(Znf hρ _).trans ((evalHit hA 50 rfl).trans f50);have h57:ρ (.tmp 57)=_:=(Znf hρ _).trans ((evalHit hA 57 rfl).trans f57);simp[relUpon,go_sem,hcst,hfun,h43,h50,h57];exact(HSU.out w' hx).mono fun e w'' ⟨u,he,hs,hy⟩=>⟨u,he,hy,hs⟩);intro V w3 hx3 hf;obtain⟨-,-,-,-,-,-,-,-,-,-,-,-,-,-,-,g58,-⟩:=hf;simp only[fillA,ZmX,Zni,Act.put,ZmO,ZmV,ZmU];refine Za 16 QhO rfl (fun K6 hK6=> ?_);go_simp;refine hK6 _ _ ?_;clear hK6 K6;refine⟨rfl,?_⟩;have hk58:SlK w3 (V 58) (row.map encT):=g58;have HB3:=ZmE (Zd HB2.out hx3);have HX13:=ZmE (HX2.out.trans hx3);have HX3:=ZmE (HX1.out.trans HX13.out);clear g58 hx3;go_wp2_with fail;refine(ZaM (V 58) row w3 hk58 hrl (Zv HT.out HX3.out)).mono ?_;rintro e w4 ⟨rfl,hx4⟩;have HB4:=ZmE (Zd HB3.out hx4);have HX4:=ZmE (HX3.out.trans hx4);have HX14:=ZmE (HX13.out.trans hx4);obtain⟨⟨⟨rk,rt,ra⟩,re⟩,hre⟩:∃r,r=Ln.decode row:=⟨_,rfl⟩;rw[<-hre]at HTA⊢;unfold gotV linV;dsimp only at HTA⊢;obtain⟨f0,f1,f2,f3,f4,f5,f6,f7⟩:=Zf HB4.out;clear hre hx4 hk58;by_cases hre0:re=0;(·subst hre0;have HF:Hid (res=some (rk,rt,ra)):=ZmE (by rw[HR.out,HTA.out,ZmH QhQ]);go_wp2_with fail;refine Zng (Ze results43 rfl (Zd (Zg f7) ((Ext.refl _).alloc _)) rfl) rfl ?_;rw[HF.out];exact⟨(rk,rt,ra),rfl,(fun _=>rfl),(Zp HX4.out (ZmK _) _ _ _).alloc _⟩);·have zre:(re==0)=false:=ZmJ.2 hre0;have HR9:Hid (res=Ln.tryGo left right SM (ls.drop (j+1))):=ZmE (by rw[HR.out,HTA.out,ZmF (fun h=>hre0 h.2)]);go_wp2_with fail;go_roundw;(case rel=>exact⟨j+1,by omega,by go_num,HR9,ZmE (Zd f7.out ((Ext.refl _).alloc _)),ZmE (HX14.out.alloc _)⟩);case measure=>exact Qak);·have zme:(me !=0)=true:=(by simp[hme]);have zmd:decide (me=0)=false:=ZmS hme;have HR9:Hid (res=Ln.tryGo left right SM (ls.drop (j+1))):=ZmE (by rw[HR.out,HTA.out,ZmF (fun h=>hme h.1)]);go_wp2_with fail;go_roundw;(case rel=>exact⟨j+1,by omega,by go_num,HR9,HB2,HX2⟩);case measure=>exact Qak
 ·obtain rfl:k=j:=QhN;have HF:Hid (res=none):=ZmE (by rw[HR.out,List.drop_eq_nil_of_le (by rw[<-HK.out];exact ZmK _)];rfl);obtain⟨f0,f1,f2,f3,f4,f5,f6,f7⟩:=Zf HB.out;go_wp2_with fail;refine Zng (Ze results43 rfl (Zg f7) rfl) rfl ?_;rw[HF.out];exact RdR.none (Zp (HX1.out.trans HX.out) (ZmK _) _ _ _)
end
end Go.Proofs.YtbngggoccndefaaGreatDoor
