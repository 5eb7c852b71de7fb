/-
  Laid.
-/
import Derived.Test.YtbngggoccndefaaGreatDoorUn20
set_option maxHeartbeats 16000000
set_option maxRecDepth 100000
set_option linter.all false
section
namespace Go.Proofs.YtbngggoccndefaaGreatDoor
open Go.Proofs.Tryz
open Go.RowKit
def gotV (r:Ea.Got):Value:=.tuple #[linV r.1.1 r.1.2.1 r.1.2.2,.int .i64 r.2]
theorem ZlS (s:ByteArray) (sl:List Bool) (hs:s.data.toList=Ea.mS sl) (h:95<=sl.length) (w:World):
 Calls prog 212 #[.string (s.extract 0 95)] w fun e w'=>e=.returned (symV (Ea.rdSym 95 (sl.take 95)))∧Ext w w':=
 ZgH _ _ DT X3 w
theorem Zks (s:ByteArray) (sl:List Bool) (hs:s.data.toList=Ea.mS sl) (h:67<=sl.length) (w:World):
 Calls prog 213 #[.string (s.extract 0 67)] w fun e w'=>e=.returned (symV (Ea.rdSym 67 (sl.take 67)))∧Ext w w':=
 ZfK _ _ DT X3 w
theorem Zkt (s:ByteArray) (sl:List Bool) (hs:s.data.toList=Ea.mS sl) (h:51<=sl.length) (w:World):
 Calls prog 214 #[.string (s.extract 0 51)] w fun e w'=>e=.returned (symV (Ea.rdSym 51 (sl.take 51)))∧Ext w w':=
 ZfL _ _ DT X3 w
theorem DU (a:Nat) (ha:a=2∨a=5) (s:ByteArray) (sl:List Bool) (hs:s.data.toList=Ea.mS sl) (h:Ea.wAdd a<=sl.length) (w:World):
 Calls prog 215 #[.string (s.extract (s.size-Ea.wAdd a) s.size)] w fun e w'=>e=.returned (addV (Ea.rdAdd a (sl.drop (sl.length-Ea.wAdd a))))∧Ext w w':=by
 have hz:s.size=sl.length:=XZ
 exact ZfJ a ha _ _ (by rw[ZD,hs,Ea.mS_drop,hz]) C8 w
end Go.Proofs.YtbngggoccndefaaGreatDoor
namespace Go.Proofs.YtbngggoccndefaaGreatDoor
open Go.Proofs.Tryz
open Go.RowKit
theorem Zj {w:World} {b:Nat} {x y z:Value} {t:TypeId} (h:w.heap[b]? =some (.cells #[x,y,z] t (0,0))):
 b<w.heap.size∧w.cell? ⟨b,0,none⟩=some x∧w.cell? ⟨b,1,none⟩=some y∧w.cell? ⟨b,2,none⟩=some z∧
  w.frozen? ⟨b,0,none⟩=false∧w.frozen? ⟨b,1,none⟩=false∧w.frozen? ⟨b,2,none⟩=false∧Hid (w.heap[b]? =some (.cells #[x,y,z] t (0,0))):=
 ⟨(O3.1 h).1,Zw h rfl,Zw h rfl,Zw h rfl,ZG h,ZG h,ZG h,A0 h⟩
theorem Ze {w w':World} {b:Nat} {o:Obj} (h:w.heap[b]? =some o) (hx:Ext w w'):w'.heap[b]? =some o:=by rw[hx.block b (O3.1 h).1];exact h
theorem Zv {w w':World} {b:Nat} {o:Obj} (hb:w.heap.size=b) (h:Ext (w.alloc o) w'):w'.heap[b]? =some o:=by subst hb;exact Ze (L2 _ _) h
theorem LJ (n:Nat) (s:List Bool) (h:(Ea.rdSym n s).2≠0):(Ea.rdSym n s).1=(0,[]):=by
 unfold Ea.rdSym at h⊢;split;·rfl
 ·rename_i h1;rw[C0 h1]at h;split;(·rfl)
  ·rename_i h2
   rw[C0 h2]at h
   cases hk:Ea.rdK n s with
   |none=>rfl
   |some l=>rw[hk]at h;dsimp only at h⊢;split;(·rfl);·rename_i h3;rw[C0 h3]at h;split at h<;>exact absurd rfl h
theorem Zs {w:World} {b g i:Nat} {o:Option Obj} {u:Value} (hne:b≠g) (h:w.heap[g]? =o):(w.setCell ⟨b,i,none⟩ u).heap[g]? =o:=by simp[World.setCell,VY,hne];exact h
theorem ZiL (a:Nat) (ha:a=0∨a=2∨a=5) (s:ByteArray) (sl:List Bool) (hs:s.data.toList=Ea.mS sl) (hl:95+Ea.wAdd a<=sl.length) (hW:sl.length<=65536) (w:World):
 Calls prog 139 #[.string s,.int .i64 95,.int .i64 (a:Int)] w fun e w'=>e=.returned (gotV (Ea.rdShape sl 95 a))∧Ext w w':=by
 have hz:s.size=sl.length:=XZ
 have hz1:95<=s.size:=by omega
 have hz2:s.size<=65536:=by omega
 have HS:=A0 (ZlS s sl hs B0)
 have HAW:=A0 (fun w=>MQ a ha w)
 have HAE:Hid (a≠0->∀w,Calls prog 215 #[.string (s.extract (s.size-Ea.wAdd a) s.size)] w fun e w'=>e=.returned (addV (Ea.rdAdd a (sl.drop (sl.length-Ea.wAdd a))))∧Ext w w'):=
  A0 (fun h0 w=>DU a (ha.resolve_left h0) s sl hs B0 w)
 obtain⟨W,hWA⟩:∃W,Ea.wAdd a=W:=⟨_,rfl⟩
 have hWs:W<=s.size:=by omega
 obtain⟨⟨⟨k,t⟩,er⟩,hr⟩:∃r,Ea.rdSym 95 (sl.take 95)=r:=⟨_,rfl⟩
 have hzr:er≠0->k=0∧t=[]:=fun h=>by have:=LJ 95 (sl.take 95) LK;exact LL
 obtain⟨⟨al,ae⟩,hra⟩:∃r,Ea.rdAdd a (sl.drop (sl.length-W))=r:=⟨_,rfl⟩
 obtain⟨res,hres⟩:∃res,Ea.rdShape sl 95 a=res:=⟨_,rfl⟩
 have HX:=A0 hres
 unfold Ea.rdShape at HX
 rw[hr,hWA,hra]at HX
 rw[hr]at HS
 rw[hWA]at HAW HAE
 rw[hra]at HAE
 rw[hres]
 unfold symV linV at HS
 unfold addV at HAE
 dsimp only at HS HX HAE
 have HZR:=A0 hzr
 clear hs hr hres hz hl hW hra hWA hzr
 obtain⟨T,hT⟩:∃T,Ea.bS t=T:=⟨_,rfl⟩
 have HT:=A0 hT
 rw[hT]at HS
 obtain⟨AL,hAL⟩:∃AL,Ea.bS al=AL:=⟨_,rfl⟩
 have HAL:=A0 hAL
 rw[hAL]at HAE
 clear hT hAL
 by_cases h0:er=0
 ·exact Qc
 ·exact QU
theorem ZiK (a:Nat) (ha:a=0∨a=2∨a=5) (s:ByteArray) (sl:List Bool) (hs:s.data.toList=Ea.mS sl) (hl:67+Ea.wAdd a<=sl.length) (hW:sl.length<=65536) (w:World):
 Calls prog 139 #[.string s,.int .i64 67,.int .i64 (a:Int)] w fun e w'=>e=.returned (gotV (Ea.rdShape sl 67 a))∧Ext w w':=by
 have hz:s.size=sl.length:=XZ
 have hz1:67<=s.size:=by omega
 have hz2:s.size<=65536:=by omega
 have HS:=A0 (Zks s sl hs B0)
 have HAW:=A0 (fun w=>MQ a ha w)
 have HAE:Hid (a≠0->∀w,Calls prog 215 #[.string (s.extract (s.size-Ea.wAdd a) s.size)] w fun e w'=>e=.returned (addV (Ea.rdAdd a (sl.drop (sl.length-Ea.wAdd a))))∧Ext w w'):=
  A0 (fun h0 w=>DU a (ha.resolve_left h0) s sl hs B0 w)
 obtain⟨W,hWA⟩:∃W,Ea.wAdd a=W:=⟨_,rfl⟩
 have hWs:W<=s.size:=by omega
 obtain⟨⟨⟨k,t⟩,er⟩,hr⟩:∃r,Ea.rdSym 67 (sl.take 67)=r:=⟨_,rfl⟩
 have hzr:er≠0->k=0∧t=[]:=fun h=>by have:=LJ 67 (sl.take 67) LK;exact LL
 obtain⟨⟨al,ae⟩,hra⟩:∃r,Ea.rdAdd a (sl.drop (sl.length-W))=r:=⟨_,rfl⟩
 obtain⟨res,hres⟩:∃res,Ea.rdShape sl 67 a=res:=⟨_,rfl⟩
 have HX:=A0 hres
 unfold Ea.rdShape at HX
 rw[hr,hWA,hra]at HX
 rw[hr]at HS
 rw[hWA]at HAW HAE
 rw[hra]at HAE
 rw[hres]
 unfold symV linV at HS
 unfold addV at HAE
 dsimp only at HS HX HAE
 have HZR:=A0 hzr
 clear hs hr hres hz hl hW hra hWA hzr
 obtain⟨T,hT⟩:∃T,Ea.bS t=T:=⟨_,rfl⟩
 have HT:=A0 hT
 rw[hT]at HS
 obtain⟨AL,hAL⟩:∃AL,Ea.bS al=AL:=⟨_,rfl⟩
 have HAL:=A0 hAL
 rw[hAL]at HAE
 clear hT hAL
 by_cases h0:er=0
 ·exact Qc
 ·exact QU
theorem ZiJ (a:Nat) (ha:a=0∨a=2∨a=5) (s:ByteArray) (sl:List Bool) (hs:s.data.toList=Ea.mS sl) (hl:51+Ea.wAdd a<=sl.length) (hW:sl.length<=65536) (w:World):
 Calls prog 139 #[.string s,.int .i64 51,.int .i64 (a:Int)] w fun e w'=>e=.returned (gotV (Ea.rdShape sl 51 a))∧Ext w w':=by
 have hz:s.size=sl.length:=XZ
 have hz1:51<=s.size:=by omega
 have hz2:s.size<=65536:=by omega
 have HS:=A0 (Zkt s sl hs B0)
 have HAW:=A0 (fun w=>MQ a ha w)
 have HAE:Hid (a≠0->∀w,Calls prog 215 #[.string (s.extract (s.size-Ea.wAdd a) s.size)] w fun e w'=>e=.returned (addV (Ea.rdAdd a (sl.drop (sl.length-Ea.wAdd a))))∧Ext w w'):=
  A0 (fun h0 w=>DU a (ha.resolve_left h0) s sl hs B0 w)
 obtain⟨W,hWA⟩:∃W,Ea.wAdd a=W:=⟨_,rfl⟩
 have hWs:W<=s.size:=by omega
 obtain⟨⟨⟨k,t⟩,er⟩,hr⟩:∃r,Ea.rdSym 51 (sl.take 51)=r:=⟨_,rfl⟩
 have hzr:er≠0->k=0∧t=[]:=fun h=>by have:=LJ 51 (sl.take 51) LK;exact LL
 obtain⟨⟨al,ae⟩,hra⟩:∃r,Ea.rdAdd a (sl.drop (sl.length-W))=r:=⟨_,rfl⟩
 obtain⟨res,hres⟩:∃res,Ea.rdShape sl 51 a=res:=⟨_,rfl⟩
 have HX:=A0 hres
 unfold Ea.rdShape at HX
 rw[hr,hWA,hra]at HX
 rw[hr]at HS
 rw[hWA]at HAW HAE
 rw[hra]at HAE
 rw[hres]
 unfold symV linV at HS
 unfold addV at HAE
 dsimp only at HS HX HAE
 have HZR:=A0 hzr
 clear hs hr hres hz hl hW hra hWA hzr
 obtain⟨T,hT⟩:∃T,Ea.bS t=T:=⟨_,rfl⟩
 have HT:=A0 hT
 rw[hT]at HS
 obtain⟨AL,hAL⟩:∃AL,Ea.bS al=AL:=⟨_,rfl⟩
 have HAL:=A0 hAL
 rw[hAL]at HAE
 clear hT hAL
 by_cases h0:er=0
 ·exact Qc
 ·exact QU
end Go.Proofs.YtbngggoccndefaaGreatDoor
namespace Go.Proofs.YtbngggoccndefaaGreatDoor
open Go.Proofs.Tryz
open Go.RowKit
def wsL:List Nat:=[95,67,51]
def dsL:List Nat:=[0,2,5]
theorem Zl4 (n a:Nat) (hn:n=95∨n=67∨n=51) (ha:a=0∨a=2∨a=5) (s:ByteArray) (sl:List Bool) (hs:s.data.toList=Ea.mS sl) (hf:Ea.fits sl n a=true) (hW:sl.length<=65536) (w:World):
 Calls prog 139 #[.string s,.int .i64 (n:Int),.int .i64 (a:Int)] w fun e w'=>e=.returned (gotV (Ea.rdShape sl n a))∧Ext w w':=by
 have hl:n+Ea.wAdd a<=sl.length:=by unfold Ea.fits at hf;split at hf;(·rename_i h0;subst h0;have:sl.length=n:=(by simpa using hf);rw[show Ea.wAdd 0=0 from rfl];omega);·simp only[M2,Y1]at hf;omega
 rcases hn with rfl|rfl|rfl
 ·exact ZiL a ha s sl hs hl hW w
 ·exact ZiK a ha s sl hs hl hW w
 ·exact ZiJ a ha s sl hs hl hW w
def H5 (i j:Nat):List (Nat×Nat):=Ea.shapes.drop (3*i+j)
theorem aT:∀i j,i<3->j<3->H5 i j=(wsL.getD i 0,dsL.getD j 0)::H5 i (j+1):=by
 intro i j hi hj;have h:∀i j:Fin 3,H5 i.1 j.1=(wsL.getD i.1 0,dsL.getD j.1 0)::H5 i.1 (j.1+1):=by decide
 exact h ⟨i,hi⟩ ⟨j,hj⟩
theorem ZiB (i:Nat):H5 i 3=H5 (i+1) 0:=by unfold H5;congr 1
theorem aU {i:Nat} (h:i<3):wsL.getD i 0=95∨wsL.getD i 0=67∨wsL.getD i 0=51:=aV
theorem aW {i:Nat} (h:i<3):dsL.getD i 0=0∨dsL.getD i 0=2∨dsL.getD i 0=5:=aV
theorem LM {w:World} {x y z:Int} {t:TypeId} {w':World} {f:Nat->Int} (hx:f 0=x) (hy:f 1=y) (hz:f 2=z) (h:Ext (w.alloc (.cells #[.int .i64 x,.int .i64 y,.int .i64 z] t)) w') {i:Nat} (hi:i<3):
 w'.cell? ⟨w.heap.size,i,none⟩=some (.int .i64 (f i)):=by
 obtain⟨_,h0,h1,h2,_⟩:=X5 h
 have h':i=0∨i=1∨i=2:=by omega
 rcases h' with rfl|rfl|rfl
 ·rw[hx];exact h0
 ·rw[hy];exact h1
 ·rw[hz];exact h2
theorem aX:∀x y:List Bool,Ea.ldg (x++true::y)<=x.length
 | [],_=>K0 _
 |b::x,y=>by rw[J3,Ea.ldg,D1];have:=aX x y;exact Y6
theorem ZmF {l:List Bool} (h:Ea.ldg l≠l.length):Ea.ldg l+Ea.trl l<=l.length:=aY
theorem Ziu (v:Value) (m:List Bool) (w:World) (hv:SlK w v (m.map encT)) (hm:m.length<=1000000):
 Calls prog 78 #[v] w fun e w'=>e=.returned (gotV (Ea.dec m))∧Ext w w':=by
 obtain⟨res,hres⟩:∃res,Ea.dec m=res:=⟨_,rfl⟩
 rw[hres]
 have HX:=A0 hres
 unfold Ea.dec at HX
 have HM:=A0 (fun w' (h:Ext w w')=>MT v m w' (hv.ext h) hm)
 have HV:=A0 hv
 obtain⟨a,c,rfl,hc⟩:=hv.2
 rw[J0]at HM HV⊢
 clear hres hv hc
 by_cases h1:65536<m.length
 ·rw[D0 h1]at HX;go_enter func78,ntmps78;exact aZ
 ·rw[C0 h1]at HX;have hm6:m.length<=65536:=B0;obtain⟨L,hL⟩:∃L,Ea.ldg m=L:=⟨_,rfl⟩;obtain⟨R,hR⟩:∃R,Ea.trl m=R:=⟨_,rfl⟩;rw[hL,hR]at HX HM;clear h1 hm;by_cases h2:L=m.length;(·rw[D0 h2]at HX;have b2:((L:Int)==(m.length:Int))=true:=Y0.2 B0;clear hL hR h2;go_enter func78,ntmps78;go_wp2_with fail;refine(HM.out _ Xf).mono ?_;rintro e w1 ⟨rfl,rfl⟩;exact aZ);·rw[C0 h2]at HX;have b2:((L:Int)==(m.length:Int))=false:=N0.2 B0;by_cases h3:L<7∨R<7;(·rw[D0 h3]at HX;have b3:(decide ((L:Int)<7)=true)∨(decide ((L:Int)<7)=false∧decide ((R:Int)<7)=true):=bA;clear hL hR h2 h3;rcases b3 with b3|⟨b3,b4⟩;all_goals go_enter func78,ntmps78;go_wp2_with fail;refine(HM.out _ Xf).mono ?_;rintro e w1 ⟨rfl,rfl⟩;go_wp2;refine E1 (Zi results78 rfl (L2 _ _) rfl) rfl ?_;exact⟨by rw[<-HX.out];rfl,Xf⟩);·rw[C0 h3]at HX;have b3:decide ((L:Int)<7)=false:=X0 B0;have b4:decide ((R:Int)<7)=false:=X0 B0;obtain⟨S,hS⟩:∃S,(m.drop L).take (m.length-R-L)=S:=⟨_,rfl⟩;rw[hS]at HX;have hLR:L+R<=m.length:=(by rw[<-hL,<-hR];exact ZmF (by rw[hL];exact h2));obtain⟨h,hh⟩:∃h,m.length-R=h:=⟨_,rfl⟩;have hhi:(m.length:Int)-(R:Int)=(h:Int):=B0;have hSl:S.length<=65536:=bB;obtain⟨v',hv1,hv2⟩:=ZV HV.out L h B0 A3;rw[<-R3,<-I3,<-hh,hS]at hv2;have HTX:=A0 (fun w' (x:Ext w w')=>ZlY v' S w' (hv2.ext x) B0);obtain⟨T,hT⟩:∃T,Ea.bS (Ea.mS S)=T:=⟨_,rfl⟩;rw[hT]at HTX;have HTL:Hid (T.data.toList=Ea.mS S):=A0 (by rw[<-hT,Ea.bS_list]);have HSL:=A0 hSl;clear hL hR h2 h3 hS hT hh hv2 hSl;go_enter func78,ntmps78;go_wp2_with fail;refine(HM.out _ Xf).mono ?_;rintro e w1 ⟨rfl,rfl⟩;go_wp2_with fail;refine(HTX.out _ Xf).mono ?_;rintro e w1 ⟨rfl,hx1⟩;have HB0:=A0 (Zv rfl hx1);have hxw:=hx1.before;clear hx1 HTX HM hv1 b2 b3 b4 hLR hhi;go_wp2_with fail;have HC3:=A0 (fun(w':World) (x:Ext (w1.alloc (.cells #[.int .i64 95,.int .i64 67,.int .i64 51] 3)) w') (i:Nat) (hi:i<3)=>LM (f:=fun i=>((wsL.getD i 0:Nat):Int)) rfl rfl rfl x hi);go_loopw [45,7] (fun v45 v7 wr=>∃(i:Nat) (fe:Int),i<=3∧v45=.int .i64 (i:Int)∧v7=.int .i64 fe∧Hid (res=Ea.decF S fe (H5 i 0))∧Ext (w1.alloc (.cells #[.int .i64 95,.int .i64 67,.int .i64 51] 3)) wr) (fun v45 _ _=>3-(intOf v45).toNat);(case atStart=>exact bC);case round=>obtain⟨i,fe,hi,rfl,rfl,HR,hxr⟩:=hrel;by_cases hlt:i<3;(·have hcell:=HC3.out wr hxr i hlt;obtain⟨wo,rfl⟩:∃wo:World,wo=wr:=⟨_,rfl⟩;have HW3:=A0 (aU hlt);have HLA:=A0 (fun j (hj:j<3)=>aT i j hlt hj);obtain⟨n,hn⟩:∃n,wsL.getD i 0=n:=⟨_,rfl⟩;rw[hn]at HW3 HLA hcell;have hi3:decide ((i:Int)<3)=true:=V0 B0;clear hn;go_wp2_with fail;have HD3:=A0 (fun(w':World) (x:Ext (wo.alloc (.cells #[.int .i64 0,.int .i64 2,.int .i64 5] 3)) w') (i:Nat) (hi:i<3)=>LM (f:=fun i=>((dsL.getD i 0:Nat):Int)) rfl rfl rfl x hi);go_loopw [51,7] (fun v51 v7 wq=>∃(j:Nat) (fe:Int),j<=3∧v51=.int .i64 (j:Int)∧v7=.int .i64 fe∧Hid (res=Ea.decF S fe (H5 i j))∧Ext (wo.alloc (.cells #[.int .i64 0,.int .i64 2,.int .i64 5] 3)) wq) (fun v51 _ _=>3-(intOf v51).toNat);(case atStart=>exact⟨0,fe,by omega,rfl,rfl,HR,Ext.refl _⟩);case round=>clear HR;obtain⟨j,fe,hj,rfl,rfl,HR,hxq⟩:=hrel;by_cases hjt:j<3;(·have hcel2:=HD3.out wr hxq j hjt;have HA3:=A0 (aW hjt);have HLJ:=A0 (HLA.out j hjt);obtain⟨a2,ha2⟩:∃a2,dsL.getD j 0=a2:=⟨_,rfl⟩;rw[ha2]at HA3 HLJ hcel2;clear ha2;have HST:Hid (res=if Ea.fits S n a2=false then Ea.decF S fe (H5 i (j+1))else if(Ea.rdShape S n a2).2=0 then Ea.rdShape S n a2 else Ea.decF S (if fe=7 then(Ea.rdShape S n a2).2 else fe) (H5 i (j+1))):=A0 (by rw[HR.out,HLJ.out];rfl);have HF:=A0 (fun w=>ZkU n a2 (by rcases HW3.out with h|h|h<;>omega) HA3.out T S HTL.out HSL.out w);have hxo:=hxw.trans ((Ext.before hxr).trans (Ext.before hxq));have HXQ:=A0 hxq;have HXO:=A0 hxo;cases hf:Ea.fits S n a2;(·rw[hf]at HF;have HST2:Hid (res=Ea.decF S fe (H5 i (j+1))):=A0 (by rw[HST.out,D0 hf]);clear hf HST HR HLJ hxq hxo;go_wp2_with fail;refine(HF.out _).mono ?_;rintro e w4 ⟨rfl,hx4⟩;go_wp2;go_roundw;(case rel=>exact⟨j+1,fe,by omega,by go_num,rfl,HST2,HXQ.out.trans hx4⟩);case measure=>exact Q8);·rw[hf]at HF;have HRD:=A0 (fun w=>Zl4 n a2 HW3.out HA3.out T S HTL.out hf HSL.out w);have HST2:=A0 (HST.out);rw[C0 (by rw[hf];exact Bool.noConfusion)]at HST2;obtain⟨⟨⟨k,t,al⟩,er⟩,hr⟩:∃r,Ea.rdShape S n a2=r:=⟨_,rfl⟩;rw[hr]at HRD HST2;unfold gotV linV at HRD;dsimp only at HRD HST2;obtain⟨TB,hTB⟩:∃TB,Ea.bS t=TB:=⟨_,rfl⟩;obtain⟨AB,hAB⟩:∃AB,Ea.bS al=AB:=⟨_,rfl⟩;have HTA:=A0 (And.intro hTB hAB);rw[hTB,hAB]at HRD;clear hf HST HR HLJ hxq hxo hr hTB hAB;by_cases h0:er=0;(·have HG:Hid (res=((k,t,al),0)):=A0 (by rw[HST2.out,D0 h0,h0]);subst h0;clear HST2;go_wp2_with fail;refine(HF.out _).mono ?_;rintro e w4 ⟨rfl,hx4⟩;go_wp2_with fail;refine(HRD.out _).mono ?_;rintro e w5 ⟨rfl,hx5⟩;have HB1:=A0 (Ze HB0.out ((Ext.before hxr).trans ((Ext.before HXQ.out).trans (hx4.trans hx5))));obtain⟨z0,z1,z2,z3,z4,z5,z6,HB⟩:=Zj HB1.out;have HXX:=A0 (HXO.out.trans (hx4.trans hx5));clear HB0 HB1 hx4 hx5 hxr;go_wp2;refine E1 (Zi results78 rfl (Ze (Zk HB) ((Ext.refl _).alloc _)) rfl) rfl ?_;exact bD);·rw[C0 h0]at HST2;have hb0:(er==0)=false:=N0.2 h0;by_cases h7:fe=7;(·rw[D0 h7]at HST2;have hb7:(fe==7)=true:=Y0.2 h7;clear h0 h7;go_wp2_with fail;refine(HF.out _).mono ?_;rintro e w4 ⟨rfl,hx4⟩;go_wp2_with fail;refine(HRD.out _).mono ?_;rintro e w5 ⟨rfl,hx5⟩;have HXX:=A0 ((HXQ.out.trans (hx4.trans hx5)).alloc (.cells #[.int .i64 k,.string TB,.string AB] 33));clear hx4 hx5;exact bE);·rw[C0 h7]at HST2;have hb7:(fe==7)=false:=N0.2 h7;clear h0 h7;go_wp2_with fail;refine(HF.out _).mono ?_;rintro e w4 ⟨rfl,hx4⟩;go_wp2_with fail;refine(HRD.out _).mono ?_;rintro e w5 ⟨rfl,hx5⟩;have HXX:=A0 ((HXQ.out.trans (hx4.trans hx5)).alloc (.cells #[.int .i64 k,.string TB,.string AB] 33));clear hx4 hx5;exact DV);·exact bF);·obtain rfl:i=3:=B0;have HG:Hid (res=((0,[],[]),fe)):=A0 (by rw[HR.out];rfl);have hxx:=hxw.trans (Ext.before hxr);have HB1:=A0 (Ze HB0.out (Ext.before hxr));obtain⟨z0,z1,z2,z3,z4,z5,z6,HB⟩:=Zj HB1.out;clear hi hlt HB0 HB1;go_wp2;refine E1 (Zi results78 rfl (Zk HB) rfl) rfl ?_;exact bG
end Go.Proofs.YtbngggoccndefaaGreatDoor
end
