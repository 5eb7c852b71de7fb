/-
  Laid.
-/
import Derived.Test.YtbngggoccndefaaGreatDoorUn06
set_option maxHeartbeats 16000000
set_option maxRecDepth 100000
set_option linter.all false
namespace Go.Proofs.YtbngggoccndefaaGreatDoor
open Go.Proofs.Tryz
section
open Go.RowKit
theorem jS (l:List Int):∀a:Int,l.foldl min a=a∨l.foldl min a∈l:=by
 induction l with
 |nil=>intro a;simp
 |cons y l ih=>intro a;simp only[F1];rcases ih (min a y)with h|h;(·rw[h];rcases Int.le_total a y with h1|h1;(·exact .inl B0);·exact .inr (by rw[show min a y=y by omega];exact N2 ..));·exact .inr (V2 _ h)
theorem jT (l:List Int):∀a:Int,l.foldl max a=a∨l.foldl max a∈l:=by
 induction l with
 |nil=>intro a;simp
 |cons y l ih=>intro a;simp only[F1];rcases ih (max a y)with h|h;(·rw[h];rcases Int.le_total a y with h1|h1;(·exact .inr (by rw[show max a y=y by omega];exact N2 ..));·exact .inl B0);·exact .inr (V2 _ h)
theorem EA {ws:List Int} (h:ws≠ []):ws.getD 0 0∈ws:=by
 cases ws with
 |nil=>exact absurd rfl h
 |cons y l=>simp
theorem ZnG {ws:List Int} (h:ws≠ []):Tw.lo ws∈ws:=by
 unfold Tw.lo;rcases jS ws (ws.getD 0 0)with e|e;·rw[e];exact EA h
 ·exact e
theorem Zn9 {ws:List Int} (h:ws≠ []):Tw.hi ws∈ws:=by
 unfold Tw.hi;rcases jT ws (ws.getD 0 0)with e|e;·rw[e];exact EA h
 ·exact e
theorem YO {ws:List Int} (h:Tw.inRng ws=true) {x:Int} (hx:x∈ws):1<=x∧x<=65536:=by unfold Tw.inRng at h;rw[U1]at h;have:=h x hx;exact E9
theorem jU (ws l:List Int) (h:∀x∈l,1<=x∧x<=65536) (h2:1<=Tw.hi ws∧Tw.hi ws<=65536):1<=Tw.leastWide ws l∧Tw.leastWide ws l<=65536:=by
 unfold Tw.leastWide
 generalize Tw.hi ws=a at h2⊢
 induction l generalizing a with
 |nil=>exact h2
 |cons y l ih=>exact jV
theorem jW (ws l:List Int) (h:∀x∈l,1<=x∧x<=65536) (h2:1<=Tw.lo ws∧Tw.lo ws<=65536):1<=Tw.mostNarrow ws l∧Tw.mostNarrow ws l<=65536:=by
 unfold Tw.mostNarrow
 generalize Tw.lo ws=a at h2⊢
 induction l generalizing a with
 |nil=>exact h2
 |cons y l ih=>exact jV
theorem UH (ws:List Int) (j:Nat) (h:j<ws.length):ws.take (j+1)=ws.take j++[ws.getD j 0]:=by rw[V8 h,U0,M0 h];rfl
theorem MC (ws:List Int) (j:Nat) (h:j<ws.length):ws.getD j 0∈ws:=by rw[U0,M0 h];exact OD
theorem jX (ws l:List Int) (x:Int):Tw.leastWide ws (l++[x])=if Tw.isWide ws x then min (Tw.leastWide ws l) x else Tw.leastWide ws l:=by simp[Tw.leastWide]
theorem jY (ws l:List Int) (x:Int):Tw.mostNarrow ws (l++[x])=if Tw.isWide ws x then Tw.mostNarrow ws l else max (Tw.mostNarrow ws l) x:=by simp[Tw.mostNarrow]
theorem Zo8 (ws:List Int):Tw.lo ws=Lib.minOf ws:=by cases ws<;>rfl
theorem Zo4 (ws:List Int):Tw.hi ws=Lib.maxOf ws:=by cases ws<;>rfl
theorem jZ (b off cap:Nat) (ws:List Int) (w:World) (hc:∀j,j<ws.length->w.cell? ⟨b,off+j,none⟩=some (.int .i64 (ws.getD j 0))) (hl:ws.length<=1000000000):
 Calls prog 105 #[.slice (some ⟨b,off,none⟩) ws.length cap] w fun e w'=>e=.returned (.bool (Tw.inRng ws))∧w=w':=by
 have HC:=A0 hc
 have HT:=A0 (Tw.inRng.eq_1 ws)
 generalize Tw.inRng ws=res at*
 clear hc
 go_enter func105,ntmps105
 go_wp2
 go_loop [7] (fun i=>∃j:Nat,j<=ws.length∧i=.int .i64 (j:Int)∧Hid (∀x∈ws.take j,1<=x∧x<=65536)) (fun i=>ws.length-(intOf i).toNat)
 case atStart=>exact RI
 case round=>obtain⟨j,hj,rfl,HB⟩:=hrel;by_cases hlt:j<ws.length;(·have hcj:=HC.out j hlt;have HM:=A0 (MC ws j hlt);have HTA:=A0 (UH ws j hlt);generalize ws.getD j 0=x at*;by_cases hx:1<=x∧x<=65536;(·obtain⟨hx1,hx2⟩:=hx;go_wp2;go_round;(case rel=>exact⟨j+1,by omega,by go_num,A0 (fun y hy=>by rw[HTA.out,B5]at hy;rcases hy with h|h;(·exact XW);·rw[U3]at h;subst h;omega)⟩);case measure=>exact Q8);·have HN:Hid (res=false):=A0 uA;by_cases h1:x<1;(·clear hx;exact EB);·have h2:65536<x:=B0;clear hx;exact EB);·obtain rfl:j=ws.length:=B0;rw[J5]at HB;have HN:Hid (res=true):=A0 uB;clear hj hlt;exact EB
def Zoz (r:List Bool×Int) (w:World) (e:Ending) (w':World):Prop:=∃v,e=.returned (.tuple #[v,.int .i64 r.2])∧Sl w' v (r.1.map encT)∧Ext w w'
theorem uC (v:Value) (ws:List Int) (w:World) (hv:Sl w v (ws.map encI)) (hl:ws.length<=1000000):
 Calls prog 63 #[v] w (Zoz (Tw.wide ws) w):=by
 have HT:=A0 (Tw.wide.eq_1 ws)
 generalize Tw.wide ws=res at*
 by_cases h0:ws=[]
 ·rw[D0 h0]at HT;subst h0;obtain⟨a,c,rfl⟩:=hv.form;simp only[B9,O4];clear hv;go_enter func63,ntmps63;exact uD
 ·rw[C0 h0]at HT;rcases hv with⟨h1,_⟩|⟨b,off,cap,rfl,hb,hcell⟩;(·exact absurd YM h0);rw[J0]at hcell⊢;have hpos:0<ws.length:=T6.2 h0;have hlb:((ws.length:Int)==0)=false:=N0.2 B0;have HC:Hid (∀w',Ext w w'->∀j,j<ws.length->w'.cell? ⟨b,off+j,none⟩=some (.int .i64 (ws.getD j 0))):=A0 (fun w' hx j hj=>by rw[hx.cell (p:=⟨b,off+j,none⟩) hb,hcell j hj,J2,U0,M0 hj];rfl);have HI:=A0 (fun w' hx=>jZ b off cap ws w' (HC.out w' hx) B0);have HLO:=A0 (ZnG h0);have HHI:=A0 (Zn9 h0);clear hcell h0;cases hrg:Tw.inRng ws;(·rw[hrg]at HI HT;rw[D0 rfl]at HT;clear hrg;go_enter func63,ntmps63;go_wp2_with fail;refine(HI.out _ (Ext.refl _)).mono ?_;rintro e w1 ⟨rfl,rfl⟩;exact uD)
  ·have HR:=A0 (fun x hx=>YO hrg (x:=x) hx);rw[hrg]at HI HT;rw[C0 Bool.noConfusion]at HT;clear hrg;have hmk:=G9 (P:=prog) 26 4 (.bool false) 1 underlying26 G0 rfl .i64 .i64 ws.length B0 B0;have HMIN:Hid (∀w',Ext w w'->Calls prog 106 #[.slice (some ⟨b,off,none⟩) ws.length cap] w' fun e w''=>e=.returned (.int .i64 (Tw.lo ws))∧w'=w''):=A0 (fun w' hx=>by have:=Tryz.slices_Min_int b off ws.length cap ws w' hpos (K0 _) B0 (HC.out w' hx);rw[J5,<-Zo8]at this;exact this.mono fun _ _ h=>⟨h.1,h.2.symm⟩);have HMAX:Hid (∀w',Ext w w'->Calls prog 107 #[.slice (some ⟨b,off,none⟩) ws.length cap] w' fun e w''=>e=.returned (.int .i64 (Tw.hi ws))∧w'=w''):=A0 (fun w' hx=>by have:=Tryz.slices_Max_int b off ws.length cap ws w' hpos (K0 _) B0 (HC.out w' hx);rw[J5,<-Zo4]at this;exact this.mono fun _ _ h=>⟨h.1,h.2.symm⟩);have hlo:=HR.out _ HLO.out;have hhi:=HR.out _ HHI.out;obtain⟨hlo1,hlo2⟩:=hlo;obtain⟨hhi1,hhi2⟩:=hhi;have HW:Hid (∀x,Tw.isWide ws x=decide (Tw.lo ws+Tw.hi ws<2*x)):=A0 (fun x=>rfl);have HLW:=A0 (fun j=>jU ws (ws.take j) (fun x hx=>HR.out x (G4 hx)) ⟨hhi1,hhi2⟩);have HMN:=A0 (fun j=>jW ws (ws.take j) (fun x hx=>HR.out x (G4 hx)) ⟨hlo1,hlo2⟩);have HL0:Hid (Tw.leastWide ws []=Tw.hi ws∧Tw.mostNarrow ws []=Tw.lo ws):=A0 ⟨rfl,rfl⟩;clear HLO HHI;generalize Tw.lo ws=lo at*;generalize Tw.hi ws=hi at*;by_cases h23:2*hi<3*lo;(·rw[D0 h23]at HT;go_enter func63,ntmps63;go_wp2_with fail;refine(HI.out _ (Ext.refl _)).mono ?_;rintro e w1 ⟨rfl,rfl⟩;go_wp2_with fail;refine(HMIN.out _ Xe).mono ?_;rintro e w1 ⟨rfl,rfl⟩;go_wp2_with fail;refine(HMAX.out _ Xe).mono ?_;rintro e w1 ⟨rfl,rfl⟩;go_wp2;go_ret2;refine⟨.slice (some ⟨w.heap.size,0,none⟩) ws.length ws.length,by rw[HT.out];rfl,?_,Xe⟩;rw[HT.out];refine(Sl.row (UI w (.bool false) ws.length 4)).congr ?_;apply YP;(·simp);·intro i h1 h2;simp[encT])
   ·rw[C0 h23]at HT;go_enter func63,ntmps63;go_wp2_with fail;refine(HI.out _ (Ext.refl _)).mono ?_;rintro e w1 ⟨rfl,rfl⟩;go_wp2_with fail;refine(HMIN.out _ Xe).mono ?_;rintro e w1 ⟨rfl,rfl⟩;go_wp2_with fail;refine(HMAX.out _ Xe).mono ?_;rintro e w1 ⟨rfl,rfl⟩;go_wp2;clear hmk;go_loopw [34,7,8] (fun i a c wr=>∃j:Nat,j<=ws.length∧i=.int .i64 (j:Int)∧a=.int .i64 (Tw.leastWide ws (ws.take j))∧c=.int .i64 (Tw.mostNarrow ws (ws.take j))∧wr.rowIs w.heap.size 4 ws.length (fun k=>if k<j then encT (Tw.isWide ws (ws.getD k 0))else .bool false)∧Ext w wr) (fun i _ _ _=>ws.length-(intOf i).toNat);(case atStart=>refine⟨0,O0 _,rfl,?_,?_,(UI w _ _ _).congr (fun i _=>by simp),Xe⟩;(·rw[XV,HL0.out.1]);·rw[XV,HL0.out.2]);case round=>
     obtain⟨j,hj,rfl,rfl,rfl,hrow,hxr⟩:=hrel;obtain⟨b1,b2⟩:=HLW.out j;obtain⟨b3,b4⟩:=HMN.out j;by_cases hlt:j<ws.length
     ·have hcj:=hrow.cell hlt;have hfj:=hrow.frozen j;have hwj:=HC.out wr hxr j hlt;obtain⟨b5,b6⟩:=HR.out _ (MC ws j hlt);have HS1:=A0 (jX ws (ws.take j) (ws.getD j 0));have HS2:=A0 (jY ws (ws.take j) (ws.getD j 0));rw[<-UH ws j hlt]at HS1 HS2;have HWJ:=A0 (HW.out (ws.getD j 0));have hbn:b≠w.heap.size:=B0;have HRW:∀bb,Tw.isWide ws (ws.getD j 0)=bb->Hid ((wr.setCell ⟨w.heap.size,j,none⟩ (.bool bb)).rowIs w.heap.size 4 ws.length (fun k=>if k<j+1 then encT (Tw.isWide ws (ws.getD k 0))else .bool false)):=fun bb hbb=>
       A0 ((hrow.set j (.bool bb)).congr (fun k hk=>by by_cases h1:k=j;(·exact EC);·rw[C0 h1];by_cases h2:k<j;(·exact MD);·rw[C0 h2,C0 (show¬k<j+1 by omega)]))
      have HX:=A0 (fun u=>hxr.setCell (p:=⟨w.heap.size,j,none⟩) (K0 _) u);generalize Tw.leastWide ws (ws.take j)=lw at*;generalize Tw.mostNarrow ws (ws.take j)=mn at*;by_cases hw:lo+hi<2*ws.getD j 0;(·have hiw:Tw.isWide ws (ws.getD j 0)=true:=(by rw[HWJ.out];simpa using hw);have HR1:=HRW true hiw;rw[hiw,D0 rfl]at HS1 HS2;exact uE);·have hiw:Tw.isWide ws (ws.getD j 0)=false:=(by rw[HWJ.out];simpa using hw);have HR1:=HRW false hiw;rw[hiw,C0 Bool.noConfusion]at HS1 HS2;exact uE
     ·obtain rfl:j=ws.length:=B0;rw[J5]at b1 b2 b3 b4⊢;have hsl:=Sl.row hrow;clear hj hlt hrow;generalize Tw.leastWide ws ws=lw at*;generalize Tw.mostNarrow ws ws=mn at*;by_cases h5:2*lw<3*mn;(·rw[D0 h5]at HT;go_wp2;go_ret2;exact⟨.slice none 0 0,by rw[HT.out];rfl,by rw[HT.out];exact jR _,hxr⟩);·rw[C0 h5]at HT;go_wp2;go_ret2;refine⟨.slice (some ⟨w.heap.size,0,none⟩) ws.length ws.length,by rw[HT.out];rfl,?_,hxr⟩;rw[HT.out];refine hsl.congr ?_;apply YP;(·simp);·intro i h1 h2;simp at h1;simp[h1]
theorem Zkx (b off cap:Nat) (ws:List Int) (w:World) (hc:∀j,j<ws.length->w.cell? ⟨b,off+j,none⟩=some (.int .i64 (ws.getD j 0))) (hl:ws.length<=1000000):
 Calls prog 130 #[.slice (some ⟨b,off,none⟩) ws.length cap] w fun e w'=>∃t:Int,e=.returned (.int .i64 t)∧w=w'∧Hid (decide (t<0)= !Tw.inRng ws):=by
 have HC:=A0 hc
 have HT:=A0 (Tw.inRng.eq_1 ws)
 generalize Tw.inRng ws=res at*
 clear hc
 go_enter func130,ntmps130
 go_wp2
 go_loop [4,3] (fun i s=>∃(j:Nat) (t:Int),j<=ws.length∧i=.int .i64 (j:Int)∧s=.int .i64 t∧0<=t∧t<=65536*(j:Int)∧Hid (∀x∈ws.take j,1<=x∧x<=65536)) (fun i _=>ws.length-(intOf i).toNat)
 case atStart=>exact⟨0,0,O0 _,rfl,rfl,by omega,by omega,A0 (fun x hx=>by simp at hx)⟩
 case round=>obtain⟨j,t,hj,rfl,rfl,ht0,ht1,HB⟩:=hrel;by_cases hlt:j<ws.length;(·have hcj:=HC.out j hlt;have HM:=A0 (MC ws j hlt);have HTA:=A0 (UH ws j hlt);generalize ws.getD j 0=x at*;by_cases hx:1<=x∧x<=65536;(·obtain⟨hx1,hx2⟩:=hx;go_wp2;go_round;(case rel=>exact⟨j+1,t+x,by omega,by go_num,rfl,by omega,by omega,A0 (fun y hy=>by rw[HTA.out,B5]at hy;rcases hy with h|h;(·exact XW);·rw[U3]at h;subst h;omega)⟩);case measure=>exact Q8);·have HN:Hid (res=false):=A0 uA;by_cases h1:x<1;(·exact uF);·have h2:65536<x:=B0;exact uF);·obtain rfl:j=ws.length:=B0;rw[J5]at HB;have HN:Hid (res=true):=A0 uB;clear hj hlt;go_wp2;go_ret;exact⟨t,rfl,rfl,by rw[HN.out];show decide (t<0)=false;simpa using ht0⟩
theorem Zln (l:List Int) (a x:Int):(l++[x]).foldl min a=min (l.foldl min a) x:=by simp
theorem Zlm (l:List Int) (a x:Int):(l++[x]).foldl max a=max (l.foldl max a) x:=by simp
theorem Zm7 (ws:List Int) (h:∀x∈ws,1<=x∧x<=65536) (a:Int) (ha:1<=a∧a<=65536) (j:Nat):
 (1<=(ws.take j).foldl min a∧(ws.take j).foldl min a<=65536)∧(1<=(ws.take j).foldl max a∧(ws.take j).foldl max a<=65536):=by
 constructor
 ·rcases jS (ws.take j) a with e|e;(·rw[e];exact ha);·exact h _ (G4 e)
 ·rcases jT (ws.take j) a with e|e;(·rw[e];exact ha);·exact h _ (G4 e)
def Zns (r:List Bool×Int) (w:World) (e:Ending) (w':World):Prop:=∃v,e=.returned (.tuple #[v,.int .i64 r.2])∧Own 4 w' w.heap.size v (r.1.map encT)∧Ext w w'
theorem ME (v:Value) (ws:List Int) (w:World) (hv:Sl w v (ws.map encI)) (hl:ws.length<=1000000):
 Calls prog 149 #[v] w (Zns (Tw.wide ws) w):=by
 have HT:=A0 (Tw.wide.eq_1 ws)
 generalize Tw.wide ws=res at*
 by_cases h0:ws=[]
 ·rw[D0 h0]at HT;subst h0;obtain⟨a,c,rfl⟩:=hv.form;simp only[B9,O4];clear hv;go_enter func149,ntmps149;exact uG
 rw[C0 h0]at HT
 rcases hv with⟨h1,_⟩|⟨b,off,cap,rfl,hb,hcell⟩
 ·exact absurd YM h0
 rw[J0]at hcell⊢
 have hpos:0<ws.length:=T6.2 h0
 have hlb:((ws.length:Int)==0)=false:=N0.2 B0
 have HC:Hid (∀w',Ext w w'->∀j,j<ws.length->w'.cell? ⟨b,off+j,none⟩=some (.int .i64 (ws.getD j 0))):=A0 (fun w' hx j hj=>by rw[hx.cell (p:=⟨b,off+j,none⟩) hb,hcell j hj,J2,U0,M0 hj];rfl)
 have HI:=A0 (fun w' hx=>Zkx b off cap ws w' (HC.out w' hx) B0)
 have HM0:=A0 (EA h0)
 clear hcell h0
 cases hrg:Tw.inRng ws
 ·rw[hrg]at HI HT;rw[D0 rfl]at HT;clear hrg;go_enter func149,ntmps149;go_wp2_with fail;refine(HI.out _ (Ext.refl _)).mono ?_;rintro e w1 ⟨t,rfl,rfl,HD⟩;have d1:decide (t<0)=true:=HD.out;exact uG
 have HR:=A0 (fun x hx=>YO hrg (x:=x) hx)
 rw[hrg]at HI HT
 rw[C0 Bool.noConfusion]at HT
 clear hrg
 have hm0:=HR.out _ HM0.out
 have HFI:=A0 (fun j=>Zm7 ws HR.out (ws.getD 0 0) hm0 j)
 have HLO:Hid (Tw.lo ws=(ws.take ws.length).foldl min (ws.getD 0 0)):=A0 (by rw[J5];rfl)
 have HHI:Hid (Tw.hi ws=(ws.take ws.length).foldl max (ws.getD 0 0)):=A0 (by rw[J5];rfl)
 have HW:Hid (∀x,Tw.isWide ws x=decide (Tw.lo ws+Tw.hi ws<2*x)):=A0 (fun x=>rfl)
 have hc0:=HC.out w (Ext.refl _) 0 hpos
 rw[Y4]at hc0
 clear hm0
 go_enter func149,ntmps149
 go_wp2_with fail
 refine(HI.out _ (Ext.refl _)).mono ?_
 rintro e w1 ⟨t,rfl,rfl,HD⟩
 have d1:decide (t<0)=false:=HD.out
 generalize hw0:ws.getD 0 0=w0 at*
 go_wp2
 go_region
 go_wp2
 go_loopw [6,4,5] (fun i l h wr=>∃j:Nat,j<=ws.length∧i=.int .i64 (j:Int)∧l=.int .i64 ((ws.take j).foldl min w0)∧h=.int .i64 ((ws.take j).foldl max w0)∧Ext w wr) (fun i _ _ _=>ws.length-(intOf i).toNat)
 case atStart=>exact⟨0,O0 _,rfl,rfl,rfl,by exact(Ext.refl w).drewN _⟩
 case round=>obtain⟨j,hj,rfl,rfl,rfl,hxr⟩:=hrel;by_cases hlt:j<ws.length;(·have hcj:=HC.out wr hxr j hlt;have HTA:=A0 (UH ws j hlt);have HS1:=A0 (Zln (ws.take j) w0 (ws.getD j 0));have HS2:=A0 (Zlm (ws.take j) w0 (ws.getD j 0));rw[<-HTA.out]at HS1 HS2;generalize(ws.take j).foldl min w0=lo at*;generalize(ws.take j).foldl max w0=hi at*;generalize ws.getD j 0=x at*;go_wp2;go_roundw;(case rel=>exact⟨j+1,by omega,by go_num,by rw[HS1.out],by rw[HS2.out],hxr⟩);case measure=>exact Q8);·obtain rfl:j=ws.length:=B0;obtain⟨⟨l1,l2⟩,h1,h2⟩:=HFI.out ws.length;have HL0:Hid (Tw.leastWide ws []=Tw.hi ws∧Tw.mostNarrow ws []=Tw.lo ws):=A0 ⟨rfl,rfl⟩;have HLB:=A0 (fun(j:Nat) (hh:1<=Tw.hi ws∧Tw.hi ws<=65536) (hh2:1<=Tw.lo ws∧Tw.lo ws<=65536)=>And.intro (jU ws (ws.take j) (fun x hx=>HR.out x (G4 hx)) hh) (jW ws (ws.take j) (fun x hx=>HR.out x (G4 hx)) hh2));rw[<-HLO.out,<-HHI.out]at*;clear hj hlt HFI HLO HHI;generalize Tw.lo ws=lo at*;generalize Tw.hi ws=hi at*;have HLB2:=A0 (fun j=>HLB.out j ⟨h1,h2⟩ ⟨l1,l2⟩);clear HLB;by_cases h23:2*hi<3*lo;(·rw[D0 h23]at HT;have d23:decide (3*lo<=2*hi)=false:=S0;go_wp2;go_loopw [10,7,8] (fun i c n wr=>∃(j:Nat) (nn:Int),j<=ws.length∧i=.int .i64 (j:Int)∧n=.int .i64 nn∧Own 4 wr w.heap.size c (((ws.take j).map fun _=>false).map encT)∧Ext w wr) (fun i _ _ _=>ws.length-(intOf i).toNat);(case atStart=>exact⟨0,lo,O0 _,rfl,rfl,Own.nil _ _ _,hxr⟩);case round=>clear hxr;obtain⟨j,nn,hj,rfl,rfl,hown,hxr⟩:=hrel;by_cases hlt:j<ws.length;(·have hgl:((ws.take j).map fun _=>false).length<=1000000:=UJ;have HTS:Hid ((ws.take (j+1)).map (fun _=>false)=(ws.take j).map (fun _=>false)++[false]):=A0 uH;generalize(ws.take j).map (fun _=>false)=got at*;go_wp2_with (at_builtin;refine ZU rfl _ _ rfl w.heap.size _ got rfl (hown.alloc _) _ false rfl ?c1 ?c2 ?c3 ?_);(case c1=>exact K7);(case c2=>omega);(case c3=>have:=hxr.size;exact RJ);intro v' w5 hown5 hg5;have hx5:=(hxr.alloc _).ofGrown hg5 hown.low;have hcj:=HC.out w5 hx5 j hlt;generalize ws.getD j 0=x at*;clear hown hg5 hxr;go_wp2;go_roundw;(case rel=>exact⟨j+1,_,by omega,by go_num,rfl,by rw[HTS.out,E3];exact hown5,hx5⟩);case measure=>exact Q8);·obtain rfl:j=ws.length:=B0;rw[J5]at hown;have hsl:=hown;clear hj hlt hown;exact uI);·rw[C0 h23]at HT;have d23:decide (3*lo<=2*hi)=true:=S0;go_wp2;go_loopw [10,7,9,8] (fun i c wd n wr=>∃j:Nat,j<=ws.length∧i=.int .i64 (j:Int)∧wd=.int .i64 (Tw.leastWide ws (ws.take j))∧n=.int .i64 (Tw.mostNarrow ws (ws.take j))∧Own 4 wr w.heap.size c (((ws.take j).map (Tw.isWide ws)).map encT)∧Ext w wr) (fun i _ _ _ _=>ws.length-(intOf i).toNat);(case atStart=>exact⟨0,O0 _,rfl,by rw[XV,HL0.out.1],by rw[XV,HL0.out.2],Own.nil _ _ _,hxr⟩);case round=>clear hxr;obtain⟨j,hj,rfl,rfl,rfl,hown,hxr⟩:=hrel;obtain⟨⟨b1,b2⟩,b3,b4⟩:=HLB2.out j;by_cases hlt:j<ws.length;(·have hgl:((ws.take j).map (Tw.isWide ws)).length<=1000000:=UJ;have HTS:Hid ((ws.take (j+1)).map (Tw.isWide ws)=(ws.take j).map (Tw.isWide ws)++[Tw.isWide ws (ws.getD j 0)]):=A0 uH;have HS1:=A0 (jX ws (ws.take j) (ws.getD j 0));have HS2:=A0 (jY ws (ws.take j) (ws.getD j 0));rw[<-UH ws j hlt]at HS1 HS2;obtain⟨b5,b6⟩:=HR.out _ (MC ws j hlt);have hcj0:=HC.out wr hxr j hlt;have HCJ:=A0 (fun w' hx=>HC.out w' hx j hlt);obtain⟨iw,hiw⟩:∃iw,Tw.isWide ws (ws.getD j 0)=iw:=⟨_,rfl⟩;have diw:decide (lo+hi<2*ws.getD j 0)=iw:=(by rw[<-hiw,HW.out]);rw[hiw]at HTS HS1 HS2;generalize(ws.take j).map (Tw.isWide ws)=got at*;generalize Tw.leastWide ws (ws.take j)=lw at*;generalize Tw.mostNarrow ws (ws.take j)=mn at*;generalize ws.getD j 0=x at*;clear hiw;cases iw;(·go_wp2_with (at_builtin;refine ZU rfl _ _ rfl w.heap.size _ got rfl (hown.alloc _) _ false rfl ?c1 ?c2 ?c3 ?_);(case c1=>exact K7);(case c2=>omega);(case c3=>have:=hxr.size;exact RJ);exact uJ);·go_wp2_with (at_builtin;refine ZU rfl _ _ rfl w.heap.size _ got rfl (hown.alloc _) _ true rfl ?c1 ?c2 ?c3 ?_);(case c1=>exact K7);(case c2=>omega);(case c3=>have:=hxr.size;exact RJ);exact uJ);·obtain rfl:j=ws.length:=B0;rw[J5]at hown b1 b2 b3 b4⊢;have hsl:=hown;clear hj hlt hown;generalize Tw.leastWide ws ws=lw at*;generalize Tw.mostNarrow ws ws=mn at*;by_cases h5:2*lw<3*mn;(·rw[D0 h5]at HT;go_wp2;go_ret2;exact⟨.slice none 0 0,by rw[HT.out];rfl,by rw[HT.out];exact Own.nil _ _ _,hxr⟩);·rw[C0 h5]at HT;exact uI
theorem ZnP (n:Nat) (check:Bool) (w:World) (hn:n<=1000000):
 Calls prog 148 #[.int .i64 5,.int .i64 (n:Int),.bool check] w fun e w'=>e=.returned (.bool (Tw.countsK 0 n check))∧w=w':=by
 cases check
 all_goals go_enter func148,ntmps148;go_wp2;all_goals go_ret;refine⟨Zm ?_,rfl⟩;rw[C4];simp[Tw.countsK,Tw.counts];omega
theorem ZnQ (n:Nat) (check:Bool) (w:World) (hn:n<=1000000):
 Calls prog 148 #[.int .i64 6,.int .i64 (n:Int),.bool check] w fun e w'=>e=.returned (.bool (Tw.countsK 1 n check))∧w=w':=by
 cases check
 all_goals go_enter func148,ntmps148;go_wp2;all_goals go_ret;refine⟨Zm ?_,rfl⟩;rw[C4];simp[Tw.countsK,Tw.counts];omega
theorem ZnR (n:Nat) (check:Bool) (w:World) (hn:n<=1000000):
 Calls prog 148 #[.int .i64 7,.int .i64 (n:Int),.bool check] w fun e w'=>e=.returned (.bool (Tw.countsK 2 n check))∧w=w':=by
 cases check
 all_goals go_enter func148,ntmps148;go_wp2;all_goals go_ret;refine⟨Zm ?_,rfl⟩;rw[C4];simp[Tw.countsK,Tw.countsItf];omega
def SlK (w:World) (v:Value) (xs:List Value):Prop:=Sl w v xs∧∃a c,v=.slice a xs.length c∧xs.length<=c
theorem SlK.ext {w w':World} {v:Value} {xs:List Value} (h:SlK w v xs) (hx:Ext w w'):SlK w' v xs:=⟨h.1.ext hx,h.2⟩
theorem Own.slk {t:TypeId} {w:World} {B:Nat} {v:Value} {xs:List Value} (h:Own t w B v xs):SlK w v xs:=by
 refine⟨h.sl,?_⟩;rcases h.2 with⟨hnil,h0⟩|⟨g,cap,cur,hv,_,_,h1,_⟩;·exact⟨none,0,by rw[hnil,h0],by rw[h0];exact K0 _⟩
 ·exact⟨_,cap,hv,h1⟩
theorem UK {w:World} {a:Option Addr} {c:Nat} {xs:List Value} {l h:Nat} (hs:Sl w (.slice a xs.length c) xs) (hc:xs.length<=c) (hl:l<=h) (hh:h<=xs.length):
 SlK w (sliced a l h c 1) ((xs.drop l).take (h-l)):=by
 have hlen:((xs.drop l).take (h-l)).length=h-l:=GY
 unfold sliced
 refine⟨?_,_,c-l,by rw[hlen],by rw[hlen];omega⟩
 by_cases hz:h-l=0
 ·left;exact⟨L4 (by rw[hlen];exact hz),_,_,by rw[hz]⟩
 ·right;rw[C0 B0,A9];rcases hs with⟨h0,_⟩|⟨b,off,cap,he,hb,hcell⟩;(·rw[h0]at hh;simp at hh;omega);·injection he with h1 h2 h3;subst h1;refine⟨b,off+l,c-l,by rw[hlen];simp[U7],hb,fun i hi=> ?_⟩;rw[hlen]at hi;rw[Nat.add_assoc,hcell (l+i) B0,W6,D0 hi,RK]
theorem SlK.nil (w:World):SlK w (.slice none 0 0) []:=⟨.inl ⟨rfl,none,0,rfl⟩,none,0,rfl,K0 _⟩
theorem SlK.row {w:World} {b:Nat} {t:TypeId} {n:Nat} {f:Nat->Value} (h:w.rowIs b t n f):SlK w (.slice (some ⟨b,0,none⟩) n n) ((List.range n).map f):=
 ⟨Sl.row h,_,n,by rw[J0,O6],by rw[J0,O6];exact K0 _⟩
theorem SlK.congr {w:World} {v:Value} {xs ys:List Value} (h:SlK w v xs) (e:xs=ys):SlK w v ys:=e▸h
theorem ED (w:World):(sizeOf 4).run prog w=.ok 1 w:=B1
theorem ZV {w:World} {v:Value} {xs:List Value} (hs:SlK w v xs) (l h:Nat) (hl:l<=h) (hh:h<=xs.length):
 ∃v',(∀w',(Instr.slice 26 v (some (.int .i64 (l:Int))) (some (.int .i64 (h:Int))) none).run prog w'=.ok v' w')∧SlK w v' ((xs.drop l).take (h-l)):=by
 obtain⟨hsl,a,c,rfl,hc⟩:=hs
 refine⟨_,fun w'=> ?_,UK hsl hc hl hh⟩
 have e:prog.elem 26=4:=B1
 have ht:prog.underlying 26=some (.slice (prog.elem 26)):=by rw[e];exact underlying26
 rw[run_slice_lh w' 26 a xs.length c ht .i64 .i64 (l:Int) (h:Int) B0 B0 B0,e,ED]
 rfl
def UL (r:List Bool×Int) (w:World) (e:Ending) (w':World):Prop:=∃v,e=.returned (.tuple #[v,.int .i64 r.2])∧SlK w' v (r.1.map encT)∧Ext w w'
theorem Sl.int_at {w wr:World} {a:Option Addr} {n c:Nat} {ws:List Int} (h:Sl w (.slice a n c) (ws.map encI)) (hx:Ext w wr) {i:Nat} {x:Int} (hi:ws[i]? =some x):∃b o,a=some ⟨b,o,none⟩∧b<w.heap.size∧wr.cell? ⟨b,o+i,none⟩=some (.int .i64 x):=uK
theorem Sl.bool_at {w wr:World} {a:Option Addr} {n c:Nat} {ws:List Bool} (h:Sl w (.slice a n c) (ws.map encT)) (hx:Ext w wr) {i:Nat} {x:Bool} (hi:ws[i]? =some x):∃b o,a=some ⟨b,o,none⟩∧b<w.heap.size∧wr.cell? ⟨b,o+i,none⟩=some (.bool x):=uK
theorem Zz {α:Type} {l:List α} {i:Nat} {x:α} (h:l[i]? =some x):l.take (i+1)=l.take i++[x]:=by rw[N6,h];rfl
theorem Rn.mods_snoc:∀(l:List Int) (x:Int) (b:Bool),Rn.mods b (l++[x])=Rn.mods b l++List.replicate x.toNat (if l.length%2=0 then b else !b)
 | [],x,b=>by simp[Rn.mods]
 |y::l,x,b=>by rw[J3,Rn.mods,Rn.mods,Rn.mods_snoc l x (!b),M3,D1];exact vA
theorem Rn.sum_snoc (l:List Int) (x:Int):Rn.sum (l++[x])=Rn.sum l+x:=by rw[Rn.sum_app,Rn.sum_cons,Rn.sum_nil];omega
theorem Rn.sum_in {l:List Int} (h:∀x∈l,1<=x∧x<=65536):0<=Rn.sum l∧Rn.sum l<=65536*(l.length:Int):=by
 induction l with
 |nil=>rw[Rn.sum_nil];simp
 |cons x l ih=>have h1:=h x (N2 ..);have h2:=ih fun y hy=>h y (V2 _ hy);rw[Rn.sum_cons,D1];omega
theorem Zj8 {ws:List Int} {x:Int} (hx:x∈ws) (h:¬(1<=x∧x<=65536)):Tw.inRng ws=false:=by unfold Tw.inRng;rw[<-UD,U1];intro h2;have:=h2 x hx;simp at this;exact h this
theorem Zi1 {ws:List Int} (h:∀x∈ws,1<=x∧x<=65536):Tw.inRng ws=true:=by unfold Tw.inRng;rw[U1];intro x hx;have:=h x hx;exact S0
theorem uL (v:Value) (ws:List Int) (w:World) (hv:Sl w v (ws.map encI)) (hl:ws.length<=1000000):
 Calls prog 130 #[v] w fun e w'=>e=.returned (.int .i64 (if Tw.inRng ws then Rn.sum ws else-1))∧w=w':=by
 obtain⟨a,c,rfl⟩:=hv.form
 rw[J0]at hv⊢
 obtain⟨n,hn⟩:∃n,n=ws.length:=⟨_,rfl⟩
 rw[<-hn]at hv hl⊢
 have HN:=A0 hn
 have HV:=A0 hv
 obtain⟨res,hres⟩:∃res,res=(if Tw.inRng ws then Rn.sum ws else-1):=⟨_,rfl⟩
 rw[<-hres]
 have HR:=A0 hres
 clear hv hn hres
 go_enter func130,ntmps130
 go_wp2
 go_loop [3,4] (fun s i=>∃(j:Nat) (t:Int),j<=n∧i=.int .i64 (j:Int)∧s=.int .i64 t∧0<=t∧t<=65536*(j:Int)∧Hid (t=Rn.sum (ws.take j))∧Hid (∀x∈ws.take j,1<=x∧x<=65536)) (fun _ i=>n-(intOf i).toNat)
 case atStart=>exact⟨0,0,O0 _,rfl,rfl,by omega,by omega,A0 rfl,A0 (fun x hx=>by simp at hx)⟩
 case round=>obtain⟨j,t,hj,rfl,rfl,ht0,ht1,HT,HB⟩:=hrel;by_cases hlt:j<n;(·obtain⟨x,hxj⟩:∃x,ws[j]? =some x:=⟨_,M0 J4⟩;obtain⟨b,o,ha,hb,hc⟩:=HV.out.int_at (Ext.refl w) hxj;subst ha;have hjI:(j:Int)<(n:Int):=B0;have hmem:=J1 hxj;by_cases hx:1<=x∧x<=65536;(·have HT2:Hid (t+x=Rn.sum (ws.take (j+1))):=A0 MF;have HB2:Hid (∀y∈ws.take (j+1),1<=y∧y<=65536):=A0 (fun y hy=>by rw[Zz hxj]at hy;rcases B5.1 hy with h|h;(·exact XW);·rw[U3]at h;subst h;exact hx);obtain⟨hx1,hx2⟩:=hx;clear hxj hmem;go_wp2;go_round;(case rel=>exact⟨j+1,t+x,by omega,by go_num,rfl,by omega,by omega,HT2,HB2⟩);case measure=>exact C1);·have HF:Hid (res= -1):=A0 (by rw[HR.out,Zj8 hmem hx,C0 I0]);by_cases h1:x<1;(·clear hx hxj hmem;exact MG);·have h2:65536<x:=B0;clear hx hxj hmem;exact MG);·obtain rfl:j=n:=B0;have HF:Hid (res=t):=A0 (by have h1:=HB.out;rw[X1 A6]at h1;have h2:=HT.out;rw[X1 A6]at h2;rw[HR.out,Zi1 h1,D0 rfl,h2]);clear hj hlt;exact MG
theorem Zhx (v:Value) (ws:List Int) (w:World) (hv:Sl w v (ws.map encI)) (hl:ws.length<=1000000):
 Calls prog 72 #[v] w (UL (Rn.modules ws) w):=by
 have HTOT:=A0 (uL v ws w hv hl)
 obtain⟨a,c,rfl⟩:=hv.form
 rw[J0]at hv HTOT⊢
 obtain⟨n,hn⟩:∃n,n=ws.length:=⟨_,rfl⟩
 rw[<-hn]at hv hl HTOT⊢
 have HN:=A0 hn
 have HV:=A0 hv
 have HR:=A0 (Rn.modules.eq_1 ws)
 rw[<-hn]at HR
 generalize Rn.modules ws=res at*
 clear hv hn
 by_cases h0:n=0
 ·have z0:((n:Int)==0)=true:=Y0.2 B0;rw[D0 h0]at HR;clear h0 HTOT;go_enter func72,ntmps72;exact XX
 have z0:((n:Int)==0)=false:=N0.2 B0
 rw[C0 h0]at HR
 clear h0
 by_cases h2:n%2=0
 ·have z2:((n:Int)%2==0)=true:=Y0.2 B0;rw[D0 h2]at HR;clear h2 HTOT;go_enter func72,ntmps72;exact XX
 have z2:((n:Int)%2==0)=false:=N0.2 B0
 rw[C0 h2]at HR
 clear h2
 cases hrg:Tw.inRng ws with
 |false=>rw[hrg,D0 rfl]at HR;rw[hrg,C0 I0]at HTOT;clear hrg;exact uM
 |true=>
 rw[hrg,C0 I0]at HR
 rw[hrg,D0 rfl]at HTOT
 have HIN:=A0 (fun x hx=>YO hrg (x:=x) hx)
 have hsb:=Rn.sum_in HIN.out
 obtain⟨S,hS⟩:∃S,S=Rn.sum ws:=⟨_,rfl⟩
 rw[<-hS]at HR HTOT hsb
 have HSS:=A0 hS
 have hS0:=hsb.1
 have hS1:S<=65536000000:=I8
 clear hrg hsb hS
 by_cases h4:65536<S
 ·rw[D0 h4]at HR;exact uM
 rw[C0 h4]at HR
 have HLEN:Hid (∀j,(Rn.mods true (ws.take j)).length<=65536):=A0 (fun j=>by have h1:=Rn.mods_len (ws.take j) true (fun x hx=>(HIN.out x (G4 hx)).1);have h2:Rn.sum (ws.take j)+Rn.sum (ws.drop j)=S:=uN;have h3:=Rn.sum_pos (ws.drop j) (fun x hx=>(HIN.out x (M6 hx)).1);omega)
 go_enter func72,ntmps72
 go_wp2_with fail
 refine HTOT.out.mono ?_
 rintro e w1 ⟨rfl,rfl⟩
 go_wp2_with fail
 go_loopw [5,6] (fun v i wr=>∃j:Nat,j<=n∧i=.int .i64 (j:Int)∧Hid (Own 4 wr w.heap.size v ((Rn.mods true (ws.take j)).map encT))∧Hid (Ext w wr)) (fun _ i _=>n-(intOf i).toNat)
 case atStart=>exact UM
 case round=>obtain⟨j,hj,rfl,HO,HX⟩:=hrel;by_cases hlt:j<n;(·obtain⟨x,hxj⟩:∃x,ws[j]? =some x:=⟨_,M0 J4⟩;have hx:=HIN.out x (J1 hxj);obtain⟨m,rfl⟩:∃m:Nat,x=(m:Int):=⟨x.toNat,by omega⟩;obtain⟨cb,hcb⟩:∃cb,cb=((j:Int)%2==0):=⟨_,rfl⟩;have HMS:Hid (Rn.mods true (ws.take (j+1))=Rn.mods true (ws.take j)++List.replicate m cb):=A0 uO;have hm9:m<=65536:=B0;have hjI:(j:Int)<(n:Int):=B0;have HL2:=A0 (HLEN.out (j+1));have HXJ:=A0 hxj;have hcb2:=hcb.symm;generalize Rn.mods true (ws.take j)=got at*;clear hxj hx hcb;go_wp2_with fail;go_loopw [5,7] (fun v k wq=>∃q:Nat,q<=m∧k=.int .i64 (q:Int)∧Hid (Own 4 wq w.heap.size v ((got++List.replicate q cb).map encT))∧Hid (Ext w wq)) (fun _ k _=>m-(intOf k).toNat);(case atStart=>exact⟨0,O0 _,rfl,by simpa using HO,HX⟩);case round=>clear HO HX;obtain⟨q,hq,rfl,HO,HX⟩:=hrel;obtain⟨b,o,ha,hb,hc⟩:=HV.out.int_at HX.out HXJ.out;subst ha;exact Q7);·exact uP
theorem EE (v:Value) (m:List Bool) (w:World) (hv:SlK w v (m.map encT)) (hm:m.length<=1000000):
 Calls prog 25 #[v] w fun e w'=>e=.returned (.tuple #[.int .i64 (Ea.ldg m:Int),.int .i64 (Ea.trl m:Int)])∧w=w':=by
 obtain⟨hsl,a,c,rfl,_⟩:=hv
 rw[J0]at hsl⊢
 have HV:=A0 hsl
 clear hsl
 go_enter func25,ntmps25
 go_wp2
 go_loop [4] (fun i=>∃k:Nat,k<=m.length∧i=.int .i64 (k:Int)∧Hid (Ea.ldg (m.drop k)+k=Ea.ldg m)) (fun i=>m.length-(intOf i).toNat)
 case atStart=>exact X4
 case round=>
  obtain⟨k,hk,rfl,hl⟩:=hrel;by_cases hlt:k<m.length
  ·obtain⟨bb0,off0,ha0,hbl0,hc00⟩:=HV.out.at_ (k:=k) XY
   subst ha0
   rw[E5]at hc00
   unfold encT at hc00
   obtain⟨b,hb⟩:∃b,m[k]=b:=⟨_,rfl⟩
   rw[hb]at hc00
   have hl2:=hl.out
   rw[C5 hlt,hb]at hl2
   have HL2:=A0 hl2
   clear hl2 hl hb
   cases b with
   |true=>have HL:Hid (((Ea.ldg m:Nat):Int)=(k:Int)):=A0 EF;clear HL2;go_wp2;go_loop [5] (fun i=>∃j:Nat,j<=m.length∧i=.int .i64 (j:Int)∧Hid (Ea.ldg (m.reverse.drop j)+j=Ea.trl m)) (fun i=>m.length-(intOf i).toNat);(case atStart=>exact X4);case round=>exact QX
   |false=>exact uQ
  ·obtain rfl:k=m.length:=B0;have HL:Hid (((Ea.ldg m:Nat):Int)=(m.length:Int)):=A0 uR;clear hk hlt hl;go_wp2;go_loop [5] (fun i=>∃j:Nat,j<=m.length∧i=.int .i64 (j:Int)∧Hid (Ea.ldg (m.reverse.drop j)+j=Ea.trl m)) (fun i=>m.length-(intOf i).toNat);(case atStart=>exact X4);case round=>exact Q2
def Rn.rest (n:Nat):List Bool->List Nat
 | []=>[]
 |c::r=>Rn.runsGo c (n+1) r
theorem Rn.rest_one (n:Nat) (c:Bool):Rn.rest n [c]=[n+1]:=rfl
theorem Rn.rest_two (n:Nat) (c d:Bool) (r:List Bool):Rn.rest n (c::d::r)=if d=c then Rn.rest (n+1) (d::r)else(n+1)::Rn.rest 0 (d::r):=by
 show Rn.runsGo c (n+1) (d::r)=if d=c then Rn.runsGo d (n+1+1) r else(n+1)::Rn.runsGo d (0+1) r;rw[Rn.runsGo];by_cases h:d=c;·rw[D0 h,D0 h,h]
 ·rw[C0 h,C0 h]
theorem Rn.rest_core (m:List Bool):Rn.widthsN m=Rn.rest 0 ((m.take (m.length-Ea.trl m)).drop (Ea.ldg m)):=by
 have e:(m.take (m.length-Ea.trl m)).drop (Ea.ldg m)=Rn.core m:=by unfold Rn.core;rw[RE]
 rw[e];unfold Rn.widthsN Rn.rest;cases Rn.core m<;>rfl
theorem Rn.ldg_len (m:List Bool):Ea.ldg m<=m.length∧Ea.trl m<=m.length:=by refine⟨Rn.ldg_le m,?_⟩;unfold Ea.trl;have:=Rn.ldg_le m.reverse;rwa[D4]at this
theorem RL (v:Value) (m:List Bool) (w:World) (hv:SlK w v (m.map encT)) (hm:m.length<=1000000):
 Calls prog 23 #[v] w fun e w'=>∃u,e=.returned u∧SlK w' u ((Rn.widths m).map encI)∧Ext w w':=by
 have HMG:=A0 (EE v m w hv hm)
 obtain⟨hsl,a,c,rfl,-⟩:=hv
 rw[J0]at hsl HMG⊢
 obtain⟨n,hn⟩:∃n,n=m.length:=⟨_,rfl⟩
 obtain⟨hla,hlb⟩:=Rn.ldg_len m
 have hrc:=Rn.rest_core m
 rw[<-hn]at hsl HMG hm hla hlb hrc⊢
 obtain⟨A,hA⟩:∃A,A=Ea.ldg m:=⟨_,rfl⟩
 obtain⟨B,hB⟩:∃B,B=Ea.trl m:=⟨_,rfl⟩
 rw[<-hA]at HMG hla hrc
 rw[<-hB]at HMG hlb hrc
 obtain⟨E,hE⟩:∃E,E=n-B:=⟨_,rfl⟩
 rw[<-hE]at hrc
 have hEI:(n:Int)-(B:Int)=(E:Int):=by omega
 have hEn:E<=n:=by omega
 have HN:=A0 hn
 have HV:=A0 hsl
 have HRC:=A0 hrc
 have HTL:Hid ((m.take E).length=E):=A0 X3
 have HTE:Hid (∀(i:Nat) (b:Bool),(m.take E)[i]? =some b->m[i]? =some b):=A0 (fun i b h=>by rw[W6]at h;split at h;(·exact h);·cases h)
 have HWD:Hid (Rn.widths m=(Rn.widthsN m).map fun(n:Nat)=>(n:Int)):=A0 rfl
 generalize Rn.widths m=res at*
 generalize Rn.widthsN m=resN at*
 generalize m.take E=mE at*
 clear hn hsl hrc hA hB hE hlb
 go_enter func23,ntmps23
 go_wp2_with fail
 refine HMG.out.mono ?_
 rintro e w1 ⟨rfl,rfl⟩
 go_wp2_with fail
 go_loopw [5,6,7] (fun u k t wr=>∃(i q:Nat) (out:List Int),A<=i∧(i<=E∨i=A)∧t=.int .i64 (i:Int)∧k=.int .i64 (q:Int)∧q<=i∧out.length<=i∧Hid (res=out++(Rn.rest q (mE.drop i)).map fun(n:Nat)=>(n:Int))∧Hid (Own 3 wr w.heap.size u (out.map encI))∧Hid (Ext w wr)) (fun _ _ t _=>n-(intOf t).toNat)
 case atStart=>exact⟨A,0,[],K0 _,.inr rfl,rfl,rfl,O0 _,O0 _,A0 (by rw[HWD.out,HRC.out];rfl),A0 (Own.nil _ _ _),A0 (Ext.refl _)⟩
 case round=>obtain⟨i,q,out,hAi,hiE,rfl,rfl,hqi,hol,HR,HO,HX⟩:=hrel;have hi9:i<=n:=B0;by_cases hlt:i<E;(·have hiI:(i:Int)<(E:Int):=B0;obtain⟨cb,hcb⟩:∃cb,mE[i]? =some cb:=⟨_,M0 (by rw[HTL.out];exact hlt)⟩;have hmc:=HTE.out i cb hcb;obtain⟨b,o,ha,hb,c0⟩:=HV.out.bool_at HX.out hmc;subst ha;obtain⟨j,hj⟩:∃j,j=i+1:=⟨_,rfl⟩;have hjI:(i:Int)+1=(j:Int):=B0;obtain⟨q1,hq1⟩:∃q1,q1=q+1:=⟨_,rfl⟩;have hqI:(q:Int)+1=(q1:Int):=B0;have hq9:q1<=1000000:=B0;have hdi:mE.drop i=cb::mE.drop j:=(by obtain⟨h1,h2⟩:=I1.1 hcb;rw[C5 h1,h2,hj]);have hin:(i:Int)<(n:Int):=B0;have hsz:=HX.out.size;by_cases hje:j=E;(·have zj:((j:Int)==(E:Int))=true:=Y0.2 B0;have HR2:Hid (res=(out++[(q1:Int)])++(Rn.rest 0 (mE.drop j)).map fun(n:Nat)=>(n:Int)):=A0 (by have h0:mE.drop j=[]:=O5 UN;rw[HR.out,hdi,h0,Rn.rest_one,<-hq1];simp[Rn.rest]);have hown:=HO.out;have hjn:j<=E:=B0;have hol2:(out++[(q1:Int)]).length<=j:=YQ;have hjA:A<=j:=B0;have hjm:j<=n:=B0;have hji:i<j:=B0;clear hcb hmc hdi hj hq1 hje HO HR;go_wp2_with fail;go_quiet (fail);have hxq:Ext wr (wr.drewN nq):=(Ext.refl _).drewN _;generalize wr.drewN nq=wq at*;have hown:=hown.ext hxq;have hXq:=HX.out.trans hxq;have hsz:=hXq.size;go_wp2_with (at_builtin;refine Zq rfl _ _ rfl w.heap.size _ out rfl (hown.alloc _) _ (q1:Int) rfl ?c1 ?c2 ?c3 ?_);(case c1=>exact L3);(case c2=>omega);(case c3=>exact Y2);intro v' w5 hown5 hg5;have HX5:=A0 ((hXq.alloc _).ofGrown hg5 hown.low);have HO5:Hid (Own 3 w5 w.heap.size v' ((out++[(q1:Int)]).map encI)):=A0 F6;clear hown hown5 hg5 hsz;go_wp2_with fail;go_roundw;(case rel=>exact⟨j,0,_,hjA,.inl hjn,rfl,rfl,O0 _,hol2,HR2,HO5,HX5⟩);case measure=>exact C1);·have zj:((j:Int)==(E:Int))=false:=N0.2 B0;obtain⟨db,hdb⟩:∃db,mE[j]? =some db:=⟨_,M0 UN⟩;have hmd:=HTE.out j db hdb;obtain⟨b',o',ha',hb',c1⟩:=HV.out.bool_at HX.out hmd;injection ha' with ha';injection ha' with h1 h2;subst h1 h2;have hjn:(j:Int)<(n:Int):=B0;have hdj:mE.drop j=db::mE.drop (j+1):=uS;have hjE:j<=E:=B0;have hjA:A<=j:=B0;have hjm:j<=n:=B0;have hji:i<j:=B0;by_cases hd:db=cb;(·have HR2:Hid (res=out++(Rn.rest q1 (mE.drop j)).map fun(n:Nat)=>(n:Int)):=A0 (by rw[HR.out,hdi,hdj,Rn.rest_two,D0 hd,hq1]);have hqj:q1<=j:=B0;have hol2:out.length<=j:=B0;subst hd;clear hcb hmc hdi hj hq1 hje HR hdb hmd hdj;go_wp2_with fail;go_quiet (fail);go_wp2_with fail;go_roundw;(case rel=>exact⟨j,q1,out,hjA,.inl hjE,rfl,rfl,hqj,hol2,HR2,A0 (HO.out.ext ((Ext.refl _).drewN _)),A0 (HX.out.drewN _)⟩);case measure=>exact C1);·have zd:(db==cb)=false:=(by cases db<;>cases cb<;>first|rfl|exact absurd rfl hd);have HR2:Hid (res=(out++[(q1:Int)])++(Rn.rest 0 (mE.drop j)).map fun(n:Nat)=>(n:Int)):=A0 (by rw[HR.out,hdi,hdj,Rn.rest_two,C0 hd,hq1,I5,M3];rfl);have hown:=HO.out;have hol2:(out++[(q1:Int)]).length<=j:=YQ;clear hcb hmc hdi hj hq1 hje HO HR hdb hmd hdj hd;go_wp2_with fail;go_quiet (fail);have hxq:Ext wr (wr.drewN nq):=(Ext.refl _).drewN _;generalize wr.drewN nq=wq at*;have hown:=hown.ext hxq;have hXq:=HX.out.trans hxq;have hsz:=hXq.size;go_wp2_with (at_builtin;refine Zq rfl _ _ rfl w.heap.size _ out rfl (hown.alloc _) _ (q1:Int) rfl ?d1 ?d2 ?d3 ?_);(case d1=>exact L3);(case d2=>omega);(case d3=>exact Y2);intro v' w5 hown5 hg5;have HX5:=A0 ((hXq.alloc _).ofGrown hg5 hown.low);have HO5:Hid (Own 3 w5 w.heap.size v' ((out++[(q1:Int)]).map encI)):=A0 F6;clear hown hown5 hg5 hsz;go_wp2_with fail;go_roundw;(case rel=>exact⟨j,0,_,hjA,.inl hjE,rfl,rfl,O0 _,hol2,HR2,HO5,HX5⟩);case measure=>exact C1);·have hiI:¬(i:Int)<(E:Int):=B0;have h0:mE.drop i=[]:=O5 UN;have hr:=HR.out;rw[h0]at hr;have hr2:res=out:=(by rw[hr];simp[Rn.rest]);have HK:=A0 HO.out.slk;rw[<-hr2]at HK;have hx9:=HX.out;clear h0 hr hr2 hlt;go_wp2_with fail;go_ret;exact MH
theorem uT (v:Int) (s:Nat) (w:World) (hv: -1000<=v∧v<=1000) (hs:s<=2):
 Calls prog 255 #[.int .i64 v,.int .i64 ((s:Int)+2)] w fun e w'=>e=.returned (.int .i64 (Cc.chOf v s))∧w=w':=by
 obtain⟨res,hres⟩:∃res,res=Cc.chOf v s:=⟨_,rfl⟩
 rw[<-hres]
 unfold Cc.chOf at hres
 obtain⟨p,hp⟩:∃p:Int,p=(s:Int)+2:=⟨_,rfl⟩
 rw[<-hp]
 by_cases h0:s=0
 ·have z0:(p==2)=true:=Y0.2 B0;by_cases h6:64<=v;(·rw[D0 ⟨h0,h6⟩]at hres;exact uU);·rw[C0 B0]at hres;have HR:=A0 hres;have h7:v<64:=B0;clear hres h0 hp h6;go_enter func255,ntmps255;exact MI
 ·have z0:(p==2)=false:=N0.2 B0;rw[C0 B0]at hres;exact uU
theorem Zh7 (v:Int) (w:World) (hv: -1000<=v∧v<=1000):
 Calls prog 185 #[.int .i64 v] w fun e w'=>e=.returned (.int .i64 (2+v-103))∧w=w':=by
 go_enter func185,ntmps185
 go_wp2
 go_ret
 exact⟨rfl,rfl⟩
def Cc.chkTo (vs:List Int):Nat->Int
 |0=>vs.getD 0 0
 |i+1=>(Cc.chkTo vs i+(i:Int)*vs.getD i 0)%103
theorem Cc.chkGo_to (vs:List Int):∀(r:List Int) (i:Nat) (s:Int),s=Cc.chkTo vs i->r=vs.drop i->i<=vs.length->Cc.chkGo i s r=Cc.chkTo vs vs.length
 | [],i,s,hs,hr,hi=>by have:vs.length=i:=(by have:=R0 List.length hr;exact D7);rw[Cc.chkGo,hs,this]
 |v::r,i,s,hs,hr,hi=>by have hil:i<vs.length:=(by have:=R0 List.length hr;exact D7);rw[C5 hil]at hr;injection hr with h1 h2;rw[Cc.chkGo];refine Cc.chkGo_to vs r (i+1) _ ?_ h2 hil;rw[hs,Cc.chkTo,h1,U0,M0 hil];rfl
theorem Cc.chk_to (vs:List Int):Cc.chk vs=Cc.chkTo vs vs.length:=Cc.chkGo_to vs vs 0 _ rfl rfl (O0 _)
theorem Cc.chkTo_in (vs:List Int) (h:∀v∈vs,0<=v∧v<=106):∀i,0<=Cc.chkTo vs i∧Cc.chkTo vs i<=106
 |0=>by
  rw[Cc.chkTo]
  cases vs with
  |nil=>exact⟨by decide,by decide⟩
  |cons v r=>exact h v (N2 ..)
 |i+1=>by rw[Cc.chkTo];omega
theorem ZfB (v:Value) (vs:List Int) (w:World) (hv:Sl w v (vs.map encI)) (hl:vs.length<=1000000) (hne:0<vs.length) (hb:∀v∈vs,0<=v∧v<=106):
 Calls prog 187 #[v] w fun e w'=>e=.returned (.int .i64 (Cc.chk vs))∧w=w':=by
 obtain⟨a,c,rfl⟩:=hv.form
 rw[J0]at hv⊢
 obtain⟨n,hn⟩:∃n,n=vs.length:=⟨_,rfl⟩
 rw[<-hn]at hv hl hne⊢
 obtain⟨x0,hx0⟩:∃x,vs[0]? =some x:=⟨_,M0 (by rw[<-hn];exact hne)⟩
 obtain⟨b,o,ha,hbl,hc⟩:=Sl.int_at hv (Ext.refl w) hx0
 subst ha
 rw[Y4]at hc
 have hbx:=hb x0 (J1 hx0)
 have HN:=A0 hn
 have HV:=A0 hv
 have HB:=A0 hb
 have HIN:=A0 (Cc.chkTo_in vs hb)
 have HX0:Hid (x0=Cc.chkTo vs 0):=A0 (by rw[Cc.chkTo,U0,hx0];rfl)
 have hnI:(0:Int)<(n:Int):=by omega
 have HR:=A0 (Cc.chk_to vs)
 rw[<-hn]at HR
 generalize Cc.chk vs=res at*
 clear hv hn hx0 hb
 go_enter func187,ntmps187
 go_wp2_with fail
 go_loop [3,11] (fun s i=>∃(j:Nat) (t:Int),j<=n∧i=.int .i64 (j:Int)∧s=.int .i64 t∧0<=t∧t<=106∧Hid (t=Cc.chkTo vs j)) (fun _ i=>n-(intOf i).toNat)
 case atStart=>exact⟨0,x0,O0 _,rfl,rfl,hbx.1,hbx.2,HX0⟩
 case round=>obtain⟨j,t,hj,rfl,rfl,ht0,ht1,HT⟩:=hrel;by_cases hlt:j<n;(·obtain⟨x,hxj⟩:∃x,vs[j]? =some x:=⟨_,M0 J4⟩;obtain⟨b',o',ha,hb',hcj⟩:=HV.out.int_at (Ext.refl w) hxj;injection ha with ha;injection ha with h1 h2;subst h1 h2;have hxb:=HB.out x (J1 hxj);have hjI:(j:Int)<(n:Int):=B0;obtain⟨p,hp⟩:∃p,p=(j:Int)*x:=⟨_,rfl⟩;have hp0:0<=p:=(by rw[hp];exact T7 B0 hxb.1);have hp1:p<=106000000:=(by rw[hp];have h1:(j:Int)*x<=(j:Int)*106:=Int.mul_le_mul_of_nonneg_left hxb.2 B0;omega);have hpe:=hp.symm;obtain⟨t2,ht2⟩:∃t2,t2=(t+p)%103:=⟨_,rfl⟩;have HT2:Hid (t2=Cc.chkTo vs (j+1)):=A0 (by rw[ht2,Cc.chkTo,<-HT.out,hp,U0,hxj];rfl);have hq:=ht2.symm;have hq0:0<=t2:=B0;have hq1:t2<=106:=B0;clear hxj hp ht2;exact uV);·obtain rfl:j=n:=B0;have HE:Hid (res=t):=A0 (by rw[HR.out,HT.out]);clear hj hlt;go_wp2;go_ret;exact⟨Z1 HE.out.symm,rfl⟩
theorem Ziy (v u:Value) (xs ys:List Int) (w:World) (hv:Sl w v (xs.map encI)) (hu:Sl w u (ys.map encI)) (hl:xs.length<=1000000) (hl2:ys.length<=1000000):
 Calls prog 140 #[v,u] w fun e w'=>e=.returned (.bool (decide (xs=ys)))∧∃n,w'=w.drewN n:=by
 obtain⟨a,c,rfl⟩:=hv.form
 obtain⟨a2,c2,rfl⟩:=hu.form
 simp only[J0]at hv hu⊢
 obtain⟨n,hn⟩:∃n,n=xs.length:=⟨_,rfl⟩
 obtain⟨m,hm⟩:∃m,m=ys.length:=⟨_,rfl⟩
 rw[<-hn]at hv hl⊢
 rw[<-hm]at hu hl2⊢
 have HN:=A0 hn
 have HM:=A0 hm
 have HV:=A0 hv
 have HU:=A0 hu
 obtain⟨res,hres⟩:∃res,res=decide (xs=ys):=⟨_,rfl⟩
 rw[<-hres]
 have HR:=A0 hres
 clear hv hu hn hm hres
 by_cases hnm:n=m
 ·subst hnm;go_enter func140,ntmps140;go_wp2;go_loopw [13] (fun i wr=>∃j:Nat,j<=n∧i=.int .i64 (j:Int)∧Hid (xs.take j=ys.take j)∧Hid (∃q,wr=w.drewN q)) (fun i _=>n-(intOf i).toNat);(case atStart=>exact⟨0,O0 _,rfl,A0 rfl,A0 ⟨0,rfl⟩⟩);case round=>obtain⟨j,hj,rfl,HT,HQ⟩:=hrel;have hxw:Ext w wr:=(by obtain⟨q,h⟩:=HQ.out;rw[h];exact(Ext.refl _).drewN _);have HQ2:Hid (∀k,∃q,wr.drewN k=w.drewN q):=A0 (fun k=>by obtain⟨q,h⟩:=HQ.out;exact⟨q+k,by rw[h,World.drewN_drewN]⟩);by_cases hlt:j<n;(·obtain⟨x,hxj⟩:∃x,xs[j]? =some x:=⟨_,M0 J4⟩;obtain⟨y,hyj⟩:∃y,ys[j]? =some y:=⟨_,M0 (by rw[<-HM.out];exact hlt)⟩;obtain⟨b,o,ha,hb,hc⟩:=HV.out.int_at hxw hxj;subst ha;obtain⟨b2,o2,ha2,hb2,hc2⟩:=HU.out.int_at hxw hyj;subst ha2;have hjI:(j:Int)<(n:Int):=B0;by_cases hxy:x=y;(·subst hxy;have HT2:Hid (xs.take (j+1)=ys.take (j+1)):=A0 (by rw[Zz hxj,Zz hyj,HT.out]);clear hxj hyj HT;go_wp2_with fail;go_quiet (fail);go_wp2_with fail;go_roundw;(case rel=>exact⟨j+1,by omega,by go_num,HT2,A0 (HQ2.out nq)⟩);case measure=>exact C1);·have zx:(x==y)=false:=N0.2 hxy;have HF:Hid (res=false):=A0 (by rw[HR.out];refine X0 fun e=>hxy ?_;rw[e,hyj]at hxj;exact(MJ hxj).symm);clear hxj hyj HT hxy;go_wp2_with fail;go_quiet (fail);go_wp2_with fail;go_ret;exact⟨Zm HF.out.symm,HQ2.out nq⟩);·obtain rfl:j=n:=B0;have HF:Hid (res=true):=A0 (by have h:=HT.out;rw[X1 A6,X1 (by rw[<-HM.out];exact K0 _)]at h;rw[HR.out];exact V0 h);clear hj hlt HT;go_wp2_with fail;go_ret;exact⟨Zm HF.out.symm,HQ.out⟩
 ·have zn:((n:Int)==(m:Int))=false:=N0.2 B0;have HF:Hid (res=false):=A0 (by rw[HR.out];refine X0 fun e=>hnm ?_;rw[HN.out,HM.out,e]);clear hnm;go_enter func140,ntmps140;go_wp2;go_ret;exact⟨Zm HF.out.symm,0,rfl⟩
theorem Rn.gcd_snoc {ws:List Int} {j:Nat} {x:Nat} (h:ws[j]? =some (x:Int)) (hx:1<=x) (g:Nat):Rn.gcdGo g (ws.drop j)=Rn.gcdGo (Nat.gcd g x) (ws.drop (j+1)):=by obtain⟨h1,h2⟩:=I1.1 h;rw[C5 h1,h2,Rn.gcdGo,C0 B0];rfl
theorem Zmc (v:Value) (ws:List Int) (w:World) (hv:Sl w v (ws.map encI)) (hl:ws.length<=1000000) (hw:∀x∈ws,1<=x∧x<=65536):
 Calls prog 153 #[v] w fun e w'=>e=.returned (.int .i64 (Rn.unit ws))∧Ext w w':=by
 obtain⟨a,c,rfl⟩:=hv.form
 rw[J0]at hv⊢
 obtain⟨n,hn⟩:∃n,n=ws.length:=⟨_,rfl⟩
 rw[<-hn]at hv hl⊢
 have HN:=A0 hn
 have HV:=A0 hv
 have HW:=A0 hw
 have HR:Hid (Rn.unit ws=Rn.gcdGo 0 (ws.drop 0)):=A0 rfl
 generalize Rn.unit ws=res at*
 clear hv hn hw
 go_enter func153,ntmps153
 go_wp2
 go_loopw [3,8] (fun u i wr=>∃(j g:Nat),j<=n∧i=.int .i64 (j:Int)∧u=.int .i64 (g:Int)∧g<=65536∧Hid (res=Rn.gcdGo g (ws.drop j))∧Hid (Ext w wr)) (fun _ i _=>n-(intOf i).toNat)
 case atStart=>exact uW
 case round=>obtain⟨j,g,hj,rfl,rfl,hg,HG,HX⟩:=hrel;by_cases hlt:j<n;(·obtain⟨x,hxj⟩:∃x,ws[j]? =some x:=⟨_,M0 J4⟩;have hx:=HW.out x (J1 hxj);obtain⟨m,rfl⟩:∃m:Nat,x=(m:Int):=⟨x.toNat,by omega⟩;obtain⟨b,o,ha,hb,hc⟩:=HV.out.int_at HX.out hxj;subst ha;have hjI:(j:Int)<(n:Int):=B0;have hm1:1<=m:=B0;have hm2:m<=65536:=B0;have HG2:=A0 (HG.out.trans (Rn.gcd_snoc hxj hm1 g));obtain⟨G,hG⟩:∃G,G=Nat.gcd g m:=⟨_,rfl⟩;have hG9:G<=65536:=uX;rw[<-hG]at HG2;have HGG:=A0 hG;have hmI:¬(m:Int)<1:=B0;clear hxj hx hG;obtain⟨W0,hW0⟩:∃W0,W0=wr:=⟨_,rfl⟩;subst hW0;go_wp2_with fail;go_loopw [3,5] (fun u y wq=>∃(p q:Nat),u=.int .i64 (p:Int)∧y=.int .i64 (q:Int)∧p<=65536∧q<=65536∧Hid (Nat.gcd p q=G)∧Hid (Ext w wq)) (fun _ y _=>(intOf y).toNat);(case atStart=>exact⟨g,m,rfl,rfl,hg,hm2,A0 HGG.out.symm,HX⟩);case round=>exact uY);·exact uZ
theorem Zlx (v:Value) (ws:List Int) (w:World) (hv:Sl w v (ws.map encI)) (hl:ws.length<=1000000) (hw:∀x∈ws,1<=x∧x<=65536):
 Calls prog 22 #[v] w fun e w'=>e=.returned (.int .i64 (Rn.unit ws))∧Ext w w':=by
 obtain⟨a,c,rfl⟩:=hv.form
 rw[J0]at hv⊢
 obtain⟨n,hn⟩:∃n,n=ws.length:=⟨_,rfl⟩
 rw[<-hn]at hv hl⊢
 have HN:=A0 hn
 have HV:=A0 hv
 have HW:=A0 hw
 have HR:Hid (Rn.unit ws=Rn.gcdGo 0 (ws.drop 0)):=A0 rfl
 generalize Rn.unit ws=res at*
 clear hv hn hw
 go_enter func22,ntmps22
 go_wp2
 go_loopw [3,4] (fun u i wr=>∃(j g:Nat),j<=n∧i=.int .i64 (j:Int)∧u=.int .i64 (g:Int)∧g<=65536∧Hid (res=Rn.gcdGo g (ws.drop j))∧Hid (Ext w wr)) (fun _ i _=>n-(intOf i).toNat)
 case atStart=>exact uW
 case round=>obtain⟨j,g,hj,rfl,rfl,hg,HG,HX⟩:=hrel;by_cases hlt:j<n;(·obtain⟨x,hxj⟩:∃x,ws[j]? =some x:=⟨_,M0 J4⟩;have hx:=HW.out x (J1 hxj);obtain⟨m,rfl⟩:∃m:Nat,x=(m:Int):=⟨x.toNat,by omega⟩;obtain⟨b,o,ha,hb,hc⟩:=HV.out.int_at HX.out hxj;subst ha;have hjI:(j:Int)<(n:Int):=B0;have hm1:1<=m:=B0;have hm2:m<=65536:=B0;have HG2:=A0 (HG.out.trans (Rn.gcd_snoc hxj hm1 g));obtain⟨G,hG⟩:∃G,G=Nat.gcd g m:=⟨_,rfl⟩;have hG9:G<=65536:=uX;rw[<-hG]at HG2;have HGG:=A0 hG;have hmI:¬(m:Int)<1:=B0;clear hxj hx hG;obtain⟨W0,hW0⟩:∃W0,W0=wr:=⟨_,rfl⟩;subst hW0;go_wp2_with fail;go_loopw [5,6] (fun u y wq=>∃(p q:Nat),u=.int .i64 (p:Int)∧y=.int .i64 (q:Int)∧p<=65536∧q<=65536∧Hid (Nat.gcd p q=G)∧Hid (Ext w wq)) (fun _ y _=>(intOf y).toNat);(case atStart=>exact⟨m,g,rfl,rfl,hm2,hg,A0 (by rw[HGG.out,Nat.gcd_comm]),HX⟩);case round=>exact uY);·exact uZ
def F5 (r:List Int×Int) (w:World) (e:Ending) (w':World):Prop:=∃u,e=.returned (.tuple #[u,.int .i64 r.2])∧SlK w' u (r.1.map encI)∧Ext w w'
theorem F5.bad (c:Int) (w w':World) (h:Ext w w'):F5 ([],c) w (.returned (.tuple #[.slice none 0 0,.int .i64 c])) w':=
 ⟨_,rfl,⟨.inl ⟨rfl,_,_,rfl⟩,none,0,rfl,K0 _⟩,h⟩
theorem Cc.run_step {s s':Nat} {v:Int} {o:List Int} (h:Cc.stepC s false v=some (s',false,o)) (out r:List Int):Cc.runC s false out (v::r)=Cc.runC s' false (out++o) r:=by rw[Cc.runC,h]
theorem Cc.run_none {s:Nat} {v:Int} (h:102<v) (out r:List Int):Cc.runC s false out (v::r)=none:=by rw[Cc.runC,Cc.stepC,C0 I0,D0 h]
theorem Cc.run_shift (s:Nat) (hs:s≠2) (out r:List Int):Cc.runC s false out (98::r)=Cc.runC s true out r:=by rw[Cc.runC,Cc.stepC,C0 I0,C0 I0,C0 I0,C0 B0,C0 I0,C0 I0,C0 I0,D0 rfl];dsimp only;rw[P3]
theorem Cc.run_shifted (s:Nat) (v:Int) (out r:List Int):Cc.runC s true out (v::r)=if 95<v then none else Cc.runC s false (out++[Cc.chOf v (1-s)]) r:=by
 rw[Cc.runC,Cc.stepC,D0 rfl];by_cases h:95<v;·rw[D0 h,D0 h]
 ·rw[C0 h,C0 h]
theorem Cc.step_fnc1 (s:Nat):Cc.stepC s false 102=some (s,false,[256]):=by rw[Cc.stepC,C0 I0,C0 I0,D0 rfl]
theorem Cc.step_dig (v:Int) (h:v<=99):Cc.stepC 2 false v=some (2,false,[48+v/10,48+v%10]):=by rw[Cc.stepC,C0 I0,C0 B0,C0 B0,D0 ⟨rfl,h⟩]
theorem Cc.step_ch (s:Nat) (hs:s≠2) (v:Int) (h:v<=95):Cc.stepC s false v=some (s,false,[Cc.chOf v s]):=by rw[Cc.stepC,C0 I0,C0 B0,C0 B0,C0 B0,D0 h]
theorem Cc.step_96 (s:Nat) (hs:s≠2):Cc.stepC s false 96=some (s,false,[258]):=by rw[Cc.stepC,C0 I0,C0 B0,C0 B0,C0 B0,C0 I0,D0 rfl]
theorem Cc.step_97 (s:Nat) (hs:s≠2):Cc.stepC s false 97=some (s,false,[257]):=by rw[Cc.stepC,C0 I0,C0 B0,C0 B0,C0 B0,C0 I0,C0 I0,D0 rfl]
theorem Cc.step_99 (s:Nat) (hs:s≠2):Cc.stepC s false 99=some (2,false,[]):=by rw[Cc.stepC,C0 I0,C0 B0,C0 B0,C0 B0,C0 I0,C0 I0,C0 I0,C0 I0,D0 rfl]
theorem Cc.step_100 (s:Nat):Cc.stepC s false 100=some (if s≠1 then(1,false,[])else(s,false,[259])):=by
 rw[Cc.stepC,C0 I0,C0 B0,C0 B0,C0 B0,C0 I0,C0 I0,C0 I0,C0 I0,C0 I0];by_cases h:s≠1;·rw[D0 ⟨rfl,h⟩,D0 h]
 ·rw[C0 (fun x=>h x.2),C0 B0,C0 h]
theorem Cc.step_101 (s:Nat):Cc.stepC s false 101=some (if s≠0 then(0,false,[])else(s,false,[259])):=by
 rw[Cc.stepC,C0 I0,C0 B0,C0 B0,C0 B0,C0 I0,C0 I0,C0 I0,C0 I0,C0 I0,C0 B0];by_cases h:s≠0;·rw[D0 ⟨rfl,h⟩,D0 h]
 ·rw[C0 (fun x=>h x.2),C0 h]
theorem gB {w:World} {ops:Array Oper} {rest:List Oper} {o:Oper} {a:Act} {Q:Exit->Act->World->Prop} (hgd:o.guard=none) (s x:Operand)
 (ho:o.op=.call {callee:=.builtin .append,args:= #[s,x],argTypes:= #[43,43]})
 (B:Nat) (v:Value) (l:List Int) (hs:a.eval s=v) (hown:Own 3 w B v (l.map encI)) (b:Nat) (u1 u2:Int) (hx:a.eval x=.slice (some ⟨b,0,none⟩) 2 2)
 (hc1:w.cell? ⟨b,0,none⟩=some (encI u1)) (hc2:w.cell? ⟨b,1,none⟩=some (encI u2)) (hn:l.length<=999999990) (hB:B<=w.heap.size)
 (h:∀v' w',Own 3 w' B v' ((l++[u1,u2]).map encI)->w.grownBy w' v.ownBlock->wpList prog ops Q rest (a.put o.dst v') w'):wpList prog ops Q (o::rest) a w:=
 OG hgd s x 43 3 (.int .i64 0) 8 ho underlying43 OJ rfl I0 B v _ hs hown b 0 2 2 [encI u1,encI u2] hx rfl
  (fun j u hu=>by
   match j,hu with
   |0,hu=>simp at hu;subst hu;exact hc1
   |1,hu=>simp at hu;subst hu;exact hc2) (fun u hu=>by simp at hu;rcases hu with rfl|rfl<;>rfl) A3 hB
  (fun v' w' h1 h2=>h v' w' SG h2)
theorem Zgx (v:Value) (vs:List Int) (s0:Nat) (w:World) (hv:Sl w v (vs.map encI)) (hl:vs.length<=400000) (hs0:s0<=2) (hb:∀v∈vs,0<=v∧v<=106):
 Calls prog 216 #[v,.int .i64 ((s0:Int)+2)] w (F5 (match Cc.runC s0 false [] vs with|none=>([],22)|some o=>(o,0)) w):=by
 obtain⟨a,c,rfl⟩:=hv.form
 rw[J0]at hv⊢
 obtain⟨n,hn⟩:∃n,n=vs.length:=⟨_,rfl⟩
 rw[<-hn]at hv hl⊢
 obtain⟨p0,hp0⟩:∃p:Int,p=(s0:Int)+2:=⟨_,rfl⟩
 rw[<-hp0]
 have HN:=A0 hn
 have HV:=A0 hv
 have HB:=A0 hb
 obtain⟨RC,hRC⟩:∃RC,RC=Cc.runC s0 false [] vs:=⟨_,rfl⟩
 rw[<-hRC]
 have H0:Hid (RC=Cc.runC s0 false [] (vs.drop 0)):=A0 hRC
 obtain⟨res,hres⟩:∃res,res=(match RC with|none=>([],22)|some o=>(o,(0:Int))):=⟨_,rfl⟩
 rw[<-hres]
 have HR:=A0 hres
 clear hv hn hb hRC hres
 go_enter func216,ntmps216
 go_wp2_with fail
 go_loopw [1,6,7] (fun pv u t wr=>∃(i s:Nat) (out:List Int),i<=n∧s<=2∧t=.int .i64 (i:Int)∧pv=.int .i64 ((s:Int)+2)∧out.length<=2*i∧Hid (RC=Cc.runC s false out (vs.drop i))∧Hid (Own 3 wr w.heap.size u (out.map encI))∧Hid (Ext w wr)) (fun _ _ t _=>n-(intOf t).toNat)
 case atStart=>exact⟨0,s0,[],O0 _,hs0,rfl,by rw[hp0],O0 _,H0,A0 (Own.nil _ _ _),A0 (Ext.refl _)⟩
 case round=>clear hp0 hs0 H0;obtain⟨i,s,out,hi,hs,rfl,rfl,hol,HC,HO,HX⟩:=hrel;obtain⟨p,hp⟩:∃p:Int,p=(s:Int)+2:=⟨_,rfl⟩;rw[<-hp];by_cases hlt:i<n;(·have hiI:(i:Int)<(n:Int):=B0;obtain⟨x,hxi⟩:∃x,vs[i]? =some x:=⟨_,M0 J4⟩;obtain⟨b,o,ha,hbl,hc⟩:=HV.out.int_at HX.out hxi;subst ha;obtain⟨hx0,hx1⟩:=HB.out x (J1 hxi);have HD:Hid (vs.drop i=x::vs.drop (i+1)):=A0 (by obtain⟨h1,h2⟩:=I1.1 hxi;rw[C5 h1,h2]);rw[HD.out]at HC;clear hxi HD;have hlp:3<=7:=I0;by_cases h102:102<x;(·have HF:Hid (res=([],22)):=A0 (by rw[HR.out,HC.out,Cc.run_none h102]);have hx9:=HX.out;clear hp HC;exact MK);have hle102:x<=102:=B0;by_cases he102:x=102;(·subst he102;have HC2:Hid (RC=Cc.runC s false (out++[256]) (vs.drop (i+1))):=A0 (by rw[HC.out];exact Cc.run_step (Cc.step_fnc1 s) _ _);have hown:=HO.out;have hsz:=HX.out.size;have hsI:((s:Int)+2)=p:=hp.symm;have hol2:(out++[256]).length<=2*(i+1):=YR;clear hp HC HO;go_wp2_with (at_builtin;refine Zq rfl _ _ rfl w.heap.size _ out rfl (hown.alloc _) _ (256) rfl ?c1 ?c2 ?c3 ?_);(case c1=>exact L3);(case c2=>omega);(case c3=>exact Y2);intro v' w5 hown5 hg5;have HX5:=A0 ((HX.out.alloc _).ofGrown hg5 hown.low);have HO5:Hid (Own 3 w5 w.heap.size v' ((out++[256]).map encI)):=A0 F6;exact ML);have z102:(x==102)=false:=N0.2 he102;by_cases hdg:s=2∧x<=99;(·obtain⟨rfl,h99⟩:=hdg;obtain rfl:p=4:=hp;have HC2:Hid (RC=Cc.runC 2 false (out++[48+x/10,48+x%10]) (vs.drop (i+1))):=A0 (by rw[HC.out];exact Cc.run_step (Cc.step_dig x h99) _ _);have hown:=HO.out;have hsz:=HX.out.size;have hol2:(out++[48+x/10,48+x%10]).length<=2*(i+1):=YR;clear HC HO;go_wp2_with (at_builtin;refine gB rfl _ _ rfl w.heap.size _ out rfl (hown.alloc _) _ (48+x/10) (48+x%10) rfl ?c1 ?c4 ?c2 ?c3 ?_);(case c1=>exact L3);(case c4=>exact L3);(case c2=>omega);(case c3=>exact Y2);intro v' w5 hown5 hg5;have HX5:=A0 ((HX.out.alloc _).ofGrown hg5 hown.low);have HO5:Hid (Own 3 w5 w.heap.size v' ((out++[48+x/10,48+x%10]).map encI)):=A0 F6;clear hown hown5 hg5 hsz;go_wp2_with fail;go_roundw;(case rel=>exact⟨i+1,2,_,by omega,by omega,by go_num,by first|rfl|exact R0 (Value.int .i64) hsI.symm|go_num,hol2,HC2,HO5,HX5⟩);case measure=>exact C1);by_cases h95:x<=95;(·have hs2:s≠2:=B0;have HC2:Hid (RC=Cc.runC s false (out++[Cc.chOf x s]) (vs.drop (i+1))):=A0 (by rw[HC.out];exact Cc.run_step (Cc.step_ch s hs2 x h95) _ _);have z4:(p==4)=false:=N0.2 B0;have HCH:=A0 (fun w=>uT x s w B0 hs);rw[<-hp]at HCH;have hown:=HO.out;have hsz:=HX.out.size;have hsI:((s:Int)+2)=p:=hp.symm;have hol2:(out++[Cc.chOf x s]).length<=2*(i+1):=YR;clear hp HC HO;generalize Cc.chOf x s=ch at*;go_wp2_with fail;refine(HCH.out _).mono ?_;rintro e w1 ⟨rfl,rfl⟩;go_wp2_with (at_builtin;refine Zq rfl _ _ rfl w.heap.size _ out rfl (hown.alloc _) _ (ch) rfl ?c1 ?c2 ?c3 ?_);(case c1=>exact L3);(case c2=>omega);(case c3=>exact Y2);intro v' w5 hown5 hg5;have HX5:=A0 ((HX.out.alloc _).ofGrown hg5 hown.low);have HO5:Hid (Own 3 w5 w.heap.size v' ((out++[ch]).map encI)):=A0 F6;exact ML);have h96:95<x:=B0;by_cases e96:x=96;(·subst e96;have hs2:s≠2:=B0;have HC2:Hid (RC=Cc.runC s false (out++[258]) (vs.drop (i+1))):=A0 (by rw[HC.out];exact Cc.run_step (Cc.step_96 s hs2) _ _);have z4:(p==4)=false:=N0.2 B0;have hown:=HO.out;have hsz:=HX.out.size;have hsI:((s:Int)+2)=p:=hp.symm;have hol2:(out++[258]).length<=2*(i+1):=YR;clear hp HC HO;go_wp2_with (at_builtin;refine Zq rfl _ _ rfl w.heap.size _ out rfl (hown.alloc _) _ (258) rfl ?c1 ?c2 ?c3 ?_);(case c1=>exact L3);(case c2=>omega);(case c3=>exact Y2);intro v' w5 hown5 hg5;have HX5:=A0 ((HX.out.alloc _).ofGrown hg5 hown.low);have HO5:Hid (Own 3 w5 w.heap.size v' ((out++[258]).map encI)):=A0 F6;exact ML);by_cases e97:x=97;(·subst e97;have hs2:s≠2:=B0;have HC2:Hid (RC=Cc.runC s false (out++[257]) (vs.drop (i+1))):=A0 (by rw[HC.out];exact Cc.run_step (Cc.step_97 s hs2) _ _);have z4:(p==4)=false:=N0.2 B0;have hown:=HO.out;have hsz:=HX.out.size;have hsI:((s:Int)+2)=p:=hp.symm;have hol2:(out++[257]).length<=2*(i+1):=YR;clear hp HC HO;go_wp2_with (at_builtin;refine Zq rfl _ _ rfl w.heap.size _ out rfl (hown.alloc _) _ (257) rfl ?c1 ?c2 ?c3 ?_);(case c1=>exact L3);(case c2=>omega);(case c3=>exact Y2);intro v' w5 hown5 hg5;have HX5:=A0 ((HX.out.alloc _).ofGrown hg5 hown.low);have HO5:Hid (Own 3 w5 w.heap.size v' ((out++[257]).map encI)):=A0 F6;exact ML);by_cases e98:x=98;(·subst e98;have hs2:s≠2:=B0;have z4:(p==4)=false:=N0.2 B0;rw[Cc.run_shift s hs2]at HC;obtain⟨j,hj⟩:∃j,j=i+1:=⟨_,rfl⟩;have hjI:(i:Int)+1=(j:Int):=B0;rw[<-hj]at HC;by_cases hjn:j=n;(·have zn:((j:Int)==(n:Int))=true:=Y0.2 B0;have HF:Hid (res=([],22)):=A0 (by rw[HR.out,HC.out,O5 G5];rfl);have hx9:=HX.out;clear hp HC hj hjn;exact MK);have zn:((j:Int)==(n:Int))=false:=N0.2 B0;have hjn2:j<n:=B0;have hjnI:(j:Int)<(n:Int):=B0;obtain⟨y,hyj⟩:∃y,vs[j]? =some y:=⟨_,M0 (by rw[<-HN.out];exact hjn2)⟩;obtain⟨b',o',ha',hbl',hc'⟩:=HV.out.int_at HX.out hyj;injection ha' with ha';injection ha' with h1 h2;subst h1 h2;obtain⟨hy0,hy1⟩:=HB.out y (J1 hyj);have HD:Hid (vs.drop j=y::vs.drop (j+1)):=A0 (by obtain⟨h1,h2⟩:=I1.1 hyj;rw[C5 h1,h2]);rw[HD.out,Cc.run_shifted]at HC;clear hyj HD hjn;by_cases h95y:95<y;(·have HF:Hid (res=([],22)):=A0 (by rw[HR.out,HC.out,D0 h95y]);have hx9:=HX.out;clear hp HC hj;exact MK);rw[C0 h95y]at HC;have HCH:=A0 (fun w=>uT y (1-s) w B0 B0);rw[show(((1-s:Nat):Int)+2)=5-p by omega]at HCH;generalize Cc.chOf y (1-s)=ch at*;have hown:=HO.out;have hsz:=HX.out.size;have hsI:((s:Int)+2)=p:=hp.symm;have hol2:(out++[ch]).length<=2*(j+1):=YR;have hji:i<j:=B0;clear hp HO hj;go_wp2_with fail;refine(HCH.out _).mono ?_;rintro e w1 ⟨rfl,rfl⟩;go_wp2_with (at_builtin;refine Zq rfl _ _ rfl w.heap.size _ out rfl (hown.alloc _) _ (ch) rfl ?c1 ?c2 ?c3 ?_);(case c1=>exact L3);(case c2=>omega);(case c3=>exact Y2);intro v' w5 hown5 hg5;have HX5:=A0 ((HX.out.alloc _).ofGrown hg5 hown.low);have HO5:Hid (Own 3 w5 w.heap.size v' ((out++[ch]).map encI)):=A0 F6;clear hown hown5 hg5 hsz;go_wp2_with fail;go_roundw;(case rel=>exact⟨j+1,s,_,by omega,by omega,by go_num,by first|rfl|exact R0 (Value.int .i64) hsI.symm|go_num,hol2,HC,HO5,HX5⟩);case measure=>exact C1);by_cases e99:x=99;(·subst e99;have hs2:s≠2:=B0;have HC2:Hid (RC=Cc.runC 2 false out (vs.drop (i+1))):=A0 (by rw[HC.out,Cc.run_step (Cc.step_99 s hs2) _ _,P3]);have z4:(p==4)=false:=N0.2 B0;clear hp HC;go_wp2_with fail;all_goals go_roundw;(case rel=>exact⟨i+1,2,out,by omega,by decide,by go_num,rfl,by omega,HC2,HO,HX⟩);case measure=>exact C1);by_cases e100:x=100;(·subst e100;by_cases h1:s=1;(·subst h1;obtain rfl:p=3:=hp;have HC2:Hid (RC=Cc.runC 1 false (out++[259]) (vs.drop (i+1))):=A0 (by rw[HC.out];exact Cc.run_step (Cc.step_100 1) _ _);have hown:=HO.out;have hsz:=HX.out.size;have hol2:(out++[259]).length<=2*(i+1):=YR;clear HC HO;go_wp2_with (at_builtin;refine Zq rfl _ _ rfl w.heap.size _ out rfl (hown.alloc _) _ (259) rfl ?c1 ?c2 ?c3 ?_);(case c1=>exact L3);(case c2=>omega);(case c3=>exact Y2);intro v' w5 hown5 hg5;have HX5:=A0 ((HX.out.alloc _).ofGrown hg5 hown.low);have HO5:Hid (Own 3 w5 w.heap.size v' ((out++[259]).map encI)):=A0 F6;clear hown hown5 hg5 hsz;go_wp2_with fail;go_roundw;(case rel=>exact⟨i+1,1,_,by omega,by omega,by go_num,by first|rfl|exact R0 (Value.int .i64) hsI.symm|go_num,hol2,HC2,HO5,HX5⟩);case measure=>exact C1);·have HC2:Hid (RC=Cc.runC 1 false out (vs.drop (i+1))):=A0 (by rw[HC.out,Cc.run_step ((by rw[Cc.step_100,D0 h1])) _ _,P3]);have z3:(p==3)=false:=N0.2 B0;clear hp HC;go_wp2_with fail;all_goals go_roundw;(case rel=>exact⟨i+1,1,out,by omega,by decide,by go_num,rfl,by omega,HC2,HO,HX⟩);case measure=>exact C1);obtain rfl:x=101:=B0;by_cases h1:s=0;(·subst h1;obtain rfl:p=2:=hp;have HC2:Hid (RC=Cc.runC 0 false (out++[259]) (vs.drop (i+1))):=A0 (by rw[HC.out];exact Cc.run_step (Cc.step_101 0) _ _);have hown:=HO.out;have hsz:=HX.out.size;have hol2:(out++[259]).length<=2*(i+1):=YR;clear HC HO;go_wp2_with (at_builtin;refine Zq rfl _ _ rfl w.heap.size _ out rfl (hown.alloc _) _ (259) rfl ?c1 ?c2 ?c3 ?_);(case c1=>exact L3);(case c2=>omega);(case c3=>exact Y2);intro v' w5 hown5 hg5;have HX5:=A0 ((HX.out.alloc _).ofGrown hg5 hown.low);have HO5:Hid (Own 3 w5 w.heap.size v' ((out++[259]).map encI)):=A0 F6;clear hown hown5 hg5 hsz;go_wp2_with fail;go_roundw;(case rel=>exact⟨i+1,0,_,by omega,by omega,by go_num,by first|rfl|exact R0 (Value.int .i64) hsI.symm|go_num,hol2,HC2,HO5,HX5⟩);case measure=>exact C1);·have HC2:Hid (RC=Cc.runC 0 false out (vs.drop (i+1))):=A0 (by rw[HC.out,Cc.run_step ((by rw[Cc.step_101,D0 h1])) _ _,P3]);have z2:(p==2)=false:=N0.2 B0;clear hp HC;go_wp2_with fail;all_goals go_roundw;(case rel=>exact⟨i+1,0,out,by omega,by decide,by go_num,rfl,by omega,HC2,HO,HX⟩);case measure=>exact C1);·obtain rfl:i=n:=B0;have HF:Hid (res=(out,0)):=A0 (by rw[HR.out,HC.out,O5 A6];rfl);have HK:=A0 HO.out.slk;have hx9:=HX.out;clear hi hlt HC hp;go_wp2_with fail;go_ret2;rw[HF.out];exact MH
end
end Go.Proofs.YtbngggoccndefaaGreatDoor
