/-
  Laid.
-/
import Derived.Test.YtbngggoccndefaaGreatDoorRt35
set_option maxHeartbeats 8000000
set_option maxRecDepth 100000
set_option linter.all false
section
namespace Go.Proofs.YtbngggoccndefaaGreatDoor
open Go.Proofs.Tryz
open Go.RowKit
def gotV (r:Ea.Got):Value:=.tuple #[linV r.1.1 r.1.2.1 r.1.2.2,.int .i64 r.2]
theorem fU (s:ByteArray) (sl:List Bool) (hs:s.data.toList=Ea.mS sl) (h:95<=sl.length) (w:World):
 Calls prog 212 #[.string (s.extract 0 95)] w fun e w'=>e=.returned (symV (Ea.rdSym 95 (sl.take 95)))∧Ext w w':=
 fJ _ _ JU O5 w
theorem fV (s:ByteArray) (sl:List Bool) (hs:s.data.toList=Ea.mS sl) (h:67<=sl.length) (w:World):
 Calls prog 213 #[.string (s.extract 0 67)] w fun e w'=>e=.returned (symV (Ea.rdSym 67 (sl.take 67)))∧Ext w w':=
 fI _ _ JU O5 w
theorem fW (s:ByteArray) (sl:List Bool) (hs:s.data.toList=Ea.mS sl) (h:51<=sl.length) (w:World):
 Calls prog 214 #[.string (s.extract 0 51)] w fun e w'=>e=.returned (symV (Ea.rdSym 51 (sl.take 51)))∧Ext w w':=
 fM _ _ JU O5 w
theorem JV (a:Nat) (ha:a=2∨a=5) (s:ByteArray) (sl:List Bool) (hs:s.data.toList=Ea.mS sl) (h:Ea.wAdd a<=sl.length) (w:World):
 Calls prog 215 #[.string (s.extract (s.size-Ea.wAdd a) s.size)] w fun e w'=>e=.returned (addV (Ea.rdAdd a (sl.drop (sl.length-Ea.wAdd a))))∧Ext w w':=by
 have hz:s.size=sl.length:=WF
 exact fR a ha _ _ (by rw[ZG,hs,Ea.mS_drop,hz]) E7 w
end Go.Proofs.YtbngggoccndefaaGreatDoor
namespace Go.Proofs.YtbngggoccndefaaGreatDoor
open Go.Proofs.Tryz
open Go.RowKit
theorem Zd {w:World} {b:Nat} {x y z:Value} {t:TypeId} (h:w.heap[b]? =some (.cells #[x,y,z] t (0,0))):
 b<w.heap.size∧w.cell? ⟨b,0,none⟩=some x∧w.cell? ⟨b,1,none⟩=some y∧w.cell? ⟨b,2,none⟩=some z∧
  w.frozen? ⟨b,0,none⟩=false∧w.frozen? ⟨b,1,none⟩=false∧w.frozen? ⟨b,2,none⟩=false∧Hid (w.heap[b]? =some (.cells #[x,y,z] t (0,0))):=
 ⟨(F3.1 h).1,Zk h rfl,Zk h rfl,Zk h rfl,ZL h,ZL h,ZL h,B0 h⟩
theorem Zb {w w':World} {b:Nat} {o:Obj} (h:w.heap[b]? =some o) (hx:Ext w w'):w'.heap[b]? =some o:=AD
theorem Z9 {w w':World} {b:Nat} {o:Obj} (hb:w.heap.size=b) (h:Ext (w.alloc o) w'):w'.heap[b]? =some o:=by subst hb;exact Zb (E2 _ _) h
theorem JW (n:Nat) (s:List Bool) (h:(Ea.rdSym n s).2≠0):(Ea.rdSym n s).1=(0,[]):=by
 unfold Ea.rdSym at h⊢;split;·rfl
 ·rename_i h1;rw[D0 h1]at h;split;(·rfl)
  ·rename_i h2
   rw[D0 h2]at h
   cases hk:Ea.rdK n s with
   |none=>rfl
   |some l=>rw[hk]at h;dsimp only at h⊢;split;(·rfl);·rename_i h3;rw[D0 h3]at h;split at h<;>exact absurd rfl h
theorem Zx {w:World} {b g i:Nat} {o:Option Obj} {u:Value} (hne:b≠g) (h:w.heap[g]? =o):(w.setCell ⟨b,i,none⟩ u).heap[g]? =o:=by simp[World.setCell,UI,hne];exact h
theorem fX (a:Nat) (ha:a=0∨a=2∨a=5) (s:ByteArray) (sl:List Bool) (hs:s.data.toList=Ea.mS sl) (hl:95+Ea.wAdd a<=sl.length) (hW:sl.length<=65536) (w:World):
 Calls prog 139 #[.string s,.int .i64 95,.int .i64 (a:Int)] w fun e w'=>e=.returned (gotV (Ea.rdShape sl 95 a))∧Ext w w':=by
 have hz:s.size=sl.length:=WF
 have hz1:95<=s.size:=by omega
 have hz2:s.size<=65536:=by omega
 have HS:=B0 (fU s sl hs C0)
 have HAW:=B0 (fun w=>PK a ha w)
 have HAE:Hid (a≠0->∀w,Calls prog 215 #[.string (s.extract (s.size-Ea.wAdd a) s.size)] w fun e w'=>e=.returned (addV (Ea.rdAdd a (sl.drop (sl.length-Ea.wAdd a))))∧Ext w w'):=
  B0 (fun h0 w=>JV a (ha.resolve_left h0) s sl hs C0 w)
 obtain⟨W,hWA⟩:∃W,Ea.wAdd a=W:=⟨_,rfl⟩
 have hWs:W<=s.size:=by omega
 obtain⟨⟨⟨k,t⟩,er⟩,hr⟩:∃r,Ea.rdSym 95 (sl.take 95)=r:=⟨_,rfl⟩
 have hzr:er≠0->k=0∧t=[]:=fun h=>by have:=JW 95 (sl.take 95) (by rw[hr];exact h);exact JX
 obtain⟨⟨al,ae⟩,hra⟩:∃r,Ea.rdAdd a (sl.drop (sl.length-W))=r:=⟨_,rfl⟩
 obtain⟨res,hres⟩:∃res,Ea.rdShape sl 95 a=res:=⟨_,rfl⟩
 have HX:=B0 hres
 unfold Ea.rdShape at HX
 rw[hr,hWA,hra]at HX
 rw[hr]at HS
 rw[hWA]at HAW HAE
 rw[hra]at HAE
 rw[hres]
 unfold symV linV at HS
 unfold addV at HAE
 dsimp only at HS HX HAE
 have HZR:=B0 hzr
 clear hs hr hres hz hl hW hra hWA hzr
 obtain⟨T,hT⟩:∃T,Ea.bS t=T:=⟨_,rfl⟩
 have HT:=B0 hT
 rw[hT]at HS
 obtain⟨AL,hAL⟩:∃AL,Ea.bS al=AL:=⟨_,rfl⟩
 have HAL:=B0 hAL
 rw[hAL]at HAE
 clear hT hAL
 by_cases h0:er=0
 ·exact Qa
 ·exact Ql
theorem fY (a:Nat) (ha:a=0∨a=2∨a=5) (s:ByteArray) (sl:List Bool) (hs:s.data.toList=Ea.mS sl) (hl:67+Ea.wAdd a<=sl.length) (hW:sl.length<=65536) (w:World):
 Calls prog 139 #[.string s,.int .i64 67,.int .i64 (a:Int)] w fun e w'=>e=.returned (gotV (Ea.rdShape sl 67 a))∧Ext w w':=by
 have hz:s.size=sl.length:=WF
 have hz1:67<=s.size:=by omega
 have hz2:s.size<=65536:=by omega
 have HS:=B0 (fV s sl hs C0)
 have HAW:=B0 (fun w=>PK a ha w)
 have HAE:Hid (a≠0->∀w,Calls prog 215 #[.string (s.extract (s.size-Ea.wAdd a) s.size)] w fun e w'=>e=.returned (addV (Ea.rdAdd a (sl.drop (sl.length-Ea.wAdd a))))∧Ext w w'):=
  B0 (fun h0 w=>JV a (ha.resolve_left h0) s sl hs C0 w)
 obtain⟨W,hWA⟩:∃W,Ea.wAdd a=W:=⟨_,rfl⟩
 have hWs:W<=s.size:=by omega
 obtain⟨⟨⟨k,t⟩,er⟩,hr⟩:∃r,Ea.rdSym 67 (sl.take 67)=r:=⟨_,rfl⟩
 have hzr:er≠0->k=0∧t=[]:=fun h=>by have:=JW 67 (sl.take 67) (by rw[hr];exact h);exact JX
 obtain⟨⟨al,ae⟩,hra⟩:∃r,Ea.rdAdd a (sl.drop (sl.length-W))=r:=⟨_,rfl⟩
 obtain⟨res,hres⟩:∃res,Ea.rdShape sl 67 a=res:=⟨_,rfl⟩
 have HX:=B0 hres
 unfold Ea.rdShape at HX
 rw[hr,hWA,hra]at HX
 rw[hr]at HS
 rw[hWA]at HAW HAE
 rw[hra]at HAE
 rw[hres]
 unfold symV linV at HS
 unfold addV at HAE
 dsimp only at HS HX HAE
 have HZR:=B0 hzr
 clear hs hr hres hz hl hW hra hWA hzr
 obtain⟨T,hT⟩:∃T,Ea.bS t=T:=⟨_,rfl⟩
 have HT:=B0 hT
 rw[hT]at HS
 obtain⟨AL,hAL⟩:∃AL,Ea.bS al=AL:=⟨_,rfl⟩
 have HAL:=B0 hAL
 rw[hAL]at HAE
 clear hT hAL
 by_cases h0:er=0
 ·exact Qa
 ·exact Ql
theorem fZ (a:Nat) (ha:a=0∨a=2∨a=5) (s:ByteArray) (sl:List Bool) (hs:s.data.toList=Ea.mS sl) (hl:51+Ea.wAdd a<=sl.length) (hW:sl.length<=65536) (w:World):
 Calls prog 139 #[.string s,.int .i64 51,.int .i64 (a:Int)] w fun e w'=>e=.returned (gotV (Ea.rdShape sl 51 a))∧Ext w w':=by
 have hz:s.size=sl.length:=WF
 have hz1:51<=s.size:=by omega
 have hz2:s.size<=65536:=by omega
 have HS:=B0 (fW s sl hs C0)
 have HAW:=B0 (fun w=>PK a ha w)
 have HAE:Hid (a≠0->∀w,Calls prog 215 #[.string (s.extract (s.size-Ea.wAdd a) s.size)] w fun e w'=>e=.returned (addV (Ea.rdAdd a (sl.drop (sl.length-Ea.wAdd a))))∧Ext w w'):=
  B0 (fun h0 w=>JV a (ha.resolve_left h0) s sl hs C0 w)
 obtain⟨W,hWA⟩:∃W,Ea.wAdd a=W:=⟨_,rfl⟩
 have hWs:W<=s.size:=by omega
 obtain⟨⟨⟨k,t⟩,er⟩,hr⟩:∃r,Ea.rdSym 51 (sl.take 51)=r:=⟨_,rfl⟩
 have hzr:er≠0->k=0∧t=[]:=fun h=>by have:=JW 51 (sl.take 51) (by rw[hr];exact h);exact JX
 obtain⟨⟨al,ae⟩,hra⟩:∃r,Ea.rdAdd a (sl.drop (sl.length-W))=r:=⟨_,rfl⟩
 obtain⟨res,hres⟩:∃res,Ea.rdShape sl 51 a=res:=⟨_,rfl⟩
 have HX:=B0 hres
 unfold Ea.rdShape at HX
 rw[hr,hWA,hra]at HX
 rw[hr]at HS
 rw[hWA]at HAW HAE
 rw[hra]at HAE
 rw[hres]
 unfold symV linV at HS
 unfold addV at HAE
 dsimp only at HS HX HAE
 have HZR:=B0 hzr
 clear hs hr hres hz hl hW hra hWA hzr
 obtain⟨T,hT⟩:∃T,Ea.bS t=T:=⟨_,rfl⟩
 have HT:=B0 hT
 rw[hT]at HS
 obtain⟨AL,hAL⟩:∃AL,Ea.bS al=AL:=⟨_,rfl⟩
 have HAL:=B0 hAL
 rw[hAL]at HAE
 clear hT hAL
 by_cases h0:er=0
 ·exact Qa
 ·exact Ql
end Go.Proofs.YtbngggoccndefaaGreatDoor
namespace Go.Proofs.YtbngggoccndefaaGreatDoor
open Go.Proofs.Tryz
open Go.RowKit
def wsL:List Nat:=[95,67,51]
def dsL:List Nat:=[0,2,5]
theorem iA (n a:Nat) (hn:n=95∨n=67∨n=51) (ha:a=0∨a=2∨a=5) (s:ByteArray) (sl:List Bool) (hs:s.data.toList=Ea.mS sl) (hf:Ea.fits sl n a=true) (hW:sl.length<=65536) (w:World):
 Calls prog 139 #[.string s,.int .i64 (n:Int),.int .i64 (a:Int)] w fun e w'=>e=.returned (gotV (Ea.rdShape sl n a))∧Ext w w':=by
 have hl:n+Ea.wAdd a<=sl.length:=by unfold Ea.fits at hf;split at hf;(·rename_i h0;subst h0;have:sl.length=n:=(by simpa using hf);rw[show Ea.wAdd 0=0 from rfl];omega);·simp only[N1,V1]at hf;omega
 rcases hn with rfl|rfl|rfl
 ·exact fX a ha s sl hs hl hW w
 ·exact fY a ha s sl hs hl hW w
 ·exact fZ a ha s sl hs hl hW w
def X5 (i j:Nat):List (Nat×Nat):=Ea.shapes.drop (3*i+j)
theorem iB:∀i j,i<3->j<3->X5 i j=(wsL.getD i 0,dsL.getD j 0)::X5 i (j+1):=by
 intro i j hi hj;have h:∀i j:Fin 3,X5 i.1 j.1=(wsL.getD i.1 0,dsL.getD j.1 0)::X5 i.1 (j.1+1):=by decide
 exact h ⟨i,hi⟩ ⟨j,hj⟩
theorem iC (i:Nat):X5 i 3=X5 (i+1) 0:=by unfold X5;congr 1
theorem iD {i:Nat} (h:i<3):wsL.getD i 0=95∨wsL.getD i 0=67∨wsL.getD i 0=51:=yK
theorem iE {i:Nat} (h:i<3):dsL.getD i 0=0∨dsL.getD i 0=2∨dsL.getD i 0=5:=yK
theorem yL {w:World} {x y z:Int} {t:TypeId} {w':World} {f:Nat->Int} (hx:f 0=x) (hy:f 1=y) (hz:f 2=z) (h:Ext (w.alloc (.cells #[.int .i64 x,.int .i64 y,.int .i64 z] t)) w') {i:Nat} (hi:i<3):
 w'.cell? ⟨w.heap.size,i,none⟩=some (.int .i64 (f i)):=by
 obtain⟨_,h0,h1,h2,_⟩:=X4 h
 have h':i=0∨i=1∨i=2:=by omega
 rcases h' with rfl|rfl|rfl
 ·rw[hx];exact h0
 ·rw[hy];exact h1
 ·rw[hz];exact h2
theorem yM:∀x y:List Bool,Ea.ldg (x++true::y)<=x.length
 | [],_=>I0 _
 |b::x,y=>by rw[P2,Ea.ldg,S0];have:=yM x y;exact L6
theorem iF {l:List Bool} (h:Ea.ldg l≠l.length):Ea.ldg l+Ea.trl l<=l.length:=by
 have hle:=Ea.ldg_le l;obtain⟨r,hr⟩:=Ea.ldg_split l C0;have h2:Ea.trl l<=r.length:=by unfold Ea.trl;rw[hr,O4,R8,G1];have:=yM r.reverse (Ea.lgt (Ea.ldg l)).reverse;rw[P4]at this;exact R2
 have h3:l.length=Ea.ldg l+(r.length+1):=by rw[hr,O0,S0,<-hr];simp[Ea.lgt]
 omega
theorem iG (v:Value) (m:List Bool) (w:World) (hv:SlK w v (m.map encT)) (hm:m.length<=1000000):
 Calls prog 78 #[v] w fun e w'=>e=.returned (gotV (Ea.dec m))∧Ext w w':=by
 obtain⟨res,hres⟩:∃res,Ea.dec m=res:=⟨_,rfl⟩
 rw[hres]
 have HX:=B0 hres
 unfold Ea.dec at HX
 have HM:=B0 (fun w' (h:Ext w w')=>PL v m w' (hv.ext h) hm)
 have HV:=B0 hv
 obtain⟨a,c,rfl,hc⟩:=hv.2
 rw[N0]at HM HV⊢
 clear hres hv hc
 by_cases h1:65536<m.length
 ·rw[G0 h1]at HX;go_enter func78,ntmps78;exact yN
 ·rw[D0 h1]at HX;have hm6:m.length<=65536:=C0;obtain⟨L,hL⟩:∃L,Ea.ldg m=L:=⟨_,rfl⟩;obtain⟨R,hR⟩:∃R,Ea.trl m=R:=⟨_,rfl⟩;rw[hL,hR]at HX HM;clear h1 hm;by_cases h2:L=m.length;(·rw[G0 h2]at HX;have b2:((L:Int)==(m.length:Int))=true:=C2.2 C0;clear hL hR h2;go_enter func78,ntmps78;go_wp2_with fail;refine(HM.out _ Xf).mono ?_;rintro e w1 ⟨rfl,rfl⟩;exact yN);·rw[D0 h2]at HX;have b2:((L:Int)==(m.length:Int))=false:=V0.2 C0;by_cases h3:L<7∨R<7;(·rw[G0 h3]at HX;have b3:(decide ((L:Int)<7)=true)∨(decide ((L:Int)<7)=false∧decide ((R:Int)<7)=true):=(by by_cases h:L<7;(·exact .inl (F1 C0));·exact .inr ⟨D1 C0,F1 C0⟩);clear hL hR h2 h3;rcases b3 with b3|⟨b3,b4⟩;all_goals go_enter func78,ntmps78;go_wp2_with fail;refine(HM.out _ Xf).mono ?_;rintro e w1 ⟨rfl,rfl⟩;go_wp2;refine R1 (Ze results78 rfl (E2 _ _) rfl) rfl ?_;exact⟨by rw[<-HX.out];rfl,Xf⟩);·rw[D0 h3]at HX;have b3:decide ((L:Int)<7)=false:=D1 C0;have b4:decide ((R:Int)<7)=false:=D1 C0;obtain⟨S,hS⟩:∃S,(m.drop L).take (m.length-R-L)=S:=⟨_,rfl⟩;rw[hS]at HX;have hLR:L+R<=m.length:=(by rw[<-hL,<-hR];exact iF (by rw[hL];exact h2));obtain⟨h,hh⟩:∃h,m.length-R=h:=⟨_,rfl⟩;have hhi:(m.length:Int)-(R:Int)=(h:Int):=C0;have hSl:S.length<=65536:=(by rw[<-hS,L1,L2];omega);obtain⟨v',hv1,hv2⟩:=cE HV.out L h C0 D5;rw[<-S7,<-G8,<-hh,hS]at hv2;have HTX:=B0 (fun w' (x:Ext w w')=>dS v' S w' (hv2.ext x) C0);obtain⟨T,hT⟩:∃T,Ea.bS (Ea.mS S)=T:=⟨_,rfl⟩;rw[hT]at HTX;have HTL:Hid (T.data.toList=Ea.mS S):=B0 (by rw[<-hT,Ea.bS_list]);have HSL:=B0 hSl;clear hL hR h2 h3 hS hT hh hv2 hSl;go_enter func78,ntmps78;go_wp2_with fail;refine(HM.out _ Xf).mono ?_;rintro e w1 ⟨rfl,rfl⟩;go_wp2_with fail;refine(HTX.out _ Xf).mono ?_;rintro e w1 ⟨rfl,hx1⟩;have HB0:=B0 (Z9 rfl hx1);have hxw:=hx1.before;clear hx1 HTX HM hv1 b2 b3 b4 hLR hhi;go_wp2_with fail;have HC3:=B0 (fun(w':World) (x:Ext (w1.alloc (.cells #[.int .i64 95,.int .i64 67,.int .i64 51] 3)) w') (i:Nat) (hi:i<3)=>yL (f:=fun i=>((wsL.getD i 0:Nat):Int)) rfl rfl rfl x hi);go_loopw [45,7] (fun v45 v7 wr=>∃(i:Nat) (fe:Int),i<=3∧v45=.int .i64 (i:Int)∧v7=.int .i64 fe∧Hid (res=Ea.decF S fe (X5 i 0))∧Ext (w1.alloc (.cells #[.int .i64 95,.int .i64 67,.int .i64 51] 3)) wr) (fun v45 _ _=>3-(intOf v45).toNat);(case atStart=>exact⟨0,7,by omega,rfl,rfl,B0 HX.out.symm,Ext.refl _⟩);case round=>obtain⟨i,fe,hi,rfl,rfl,HR,hxr⟩:=hrel;by_cases hlt:i<3;(·have hcell:=HC3.out wr hxr i hlt;obtain⟨wo,rfl⟩:∃wo:World,wo=wr:=⟨_,rfl⟩;have HW3:=B0 (iD hlt);have HLA:=B0 (fun j (hj:j<3)=>iB i j hlt hj);obtain⟨n,hn⟩:∃n,wsL.getD i 0=n:=⟨_,rfl⟩;rw[hn]at HW3 HLA hcell;have hi3:decide ((i:Int)<3)=true:=F1 C0;clear hn;go_wp2_with fail;have HD3:=B0 (fun(w':World) (x:Ext (wo.alloc (.cells #[.int .i64 0,.int .i64 2,.int .i64 5] 3)) w') (i:Nat) (hi:i<3)=>yL (f:=fun i=>((dsL.getD i 0:Nat):Int)) rfl rfl rfl x hi);go_loopw [51,7] (fun v51 v7 wq=>∃(j:Nat) (fe:Int),j<=3∧v51=.int .i64 (j:Int)∧v7=.int .i64 fe∧Hid (res=Ea.decF S fe (X5 i j))∧Ext (wo.alloc (.cells #[.int .i64 0,.int .i64 2,.int .i64 5] 3)) wq) (fun v51 _ _=>3-(intOf v51).toNat);(case atStart=>exact⟨0,fe,by omega,rfl,rfl,HR,Ext.refl _⟩);case round=>clear HR;obtain⟨j,fe,hj,rfl,rfl,HR,hxq⟩:=hrel;by_cases hjt:j<3;(·have hcel2:=HD3.out wr hxq j hjt;have HA3:=B0 (iE hjt);have HLJ:=B0 (HLA.out j hjt);obtain⟨a2,ha2⟩:∃a2,dsL.getD j 0=a2:=⟨_,rfl⟩;rw[ha2]at HA3 HLJ hcel2;clear ha2;have HST:Hid (res=if Ea.fits S n a2=false then Ea.decF S fe (X5 i (j+1))else if(Ea.rdShape S n a2).2=0 then Ea.rdShape S n a2 else Ea.decF S (if fe=7 then(Ea.rdShape S n a2).2 else fe) (X5 i (j+1))):=B0 (by rw[HR.out,HLJ.out];rfl);have HF:=B0 (fun w=>fT n a2 (by rcases HW3.out with h|h|h<;>omega) HA3.out T S HTL.out HSL.out w);have hxo:=hxw.trans ((Ext.before hxr).trans (Ext.before hxq));have HXQ:=B0 hxq;have HXO:=B0 hxo;cases hf:Ea.fits S n a2;(·rw[hf]at HF;have HST2:Hid (res=Ea.decF S fe (X5 i (j+1))):=B0 (by rw[HST.out,G0 hf]);clear hf HST HR HLJ hxq hxo;go_wp2_with fail;refine(HF.out _).mono ?_;rintro e w4 ⟨rfl,hx4⟩;go_wp2;go_roundw;(case rel=>exact⟨j+1,fe,by omega,by go_num,rfl,HST2,HXQ.out.trans hx4⟩);case measure=>exact QD);·rw[hf]at HF;have HRD:=B0 (fun w=>iA n a2 HW3.out HA3.out T S HTL.out hf HSL.out w);have HST2:=B0 (HST.out);rw[D0 JY]at HST2;obtain⟨⟨⟨k,t,al⟩,er⟩,hr⟩:∃r,Ea.rdShape S n a2=r:=⟨_,rfl⟩;rw[hr]at HRD HST2;unfold gotV linV at HRD;dsimp only at HRD HST2;obtain⟨TB,hTB⟩:∃TB,Ea.bS t=TB:=⟨_,rfl⟩;obtain⟨AB,hAB⟩:∃AB,Ea.bS al=AB:=⟨_,rfl⟩;have HTA:=B0 (And.intro hTB hAB);rw[hTB,hAB]at HRD;clear hf HST HR HLJ hxq hxo hr hTB hAB;by_cases h0:er=0;(·have HG:Hid (res=((k,t,al),0)):=B0 (by rw[HST2.out,G0 h0,h0]);subst h0;clear HST2;go_wp2_with fail;refine(HF.out _).mono ?_;rintro e w4 ⟨rfl,hx4⟩;go_wp2_with fail;refine(HRD.out _).mono ?_;rintro e w5 ⟨rfl,hx5⟩;have HB1:=B0 (Zb HB0.out ((Ext.before hxr).trans ((Ext.before HXQ.out).trans (hx4.trans hx5))));obtain⟨z0,z1,z2,z3,z4,z5,z6,HB⟩:=Zd HB1.out;have HXX:=B0 (HXO.out.trans (hx4.trans hx5));clear HB0 HB1 hx4 hx5 hxr;go_wp2;refine R1 (Ze results78 rfl (Zb (Zf HB) ((Ext.refl _).alloc _)) rfl) rfl ?_;exact⟨by rw[HG.out];unfold gotV linV;dsimp only;rw[HTA.out.1,HTA.out.2];rfl,(((HXX.out.setCell (I0 _) _).setCell (I0 _) _).setCell (I0 _) _).alloc _⟩);·rw[D0 h0]at HST2;have hb0:(er==0)=false:=V0.2 h0;by_cases h7:fe=7;(·rw[G0 h7]at HST2;have hb7:(fe==7)=true:=C2.2 h7;clear h0 h7;go_wp2_with fail;refine(HF.out _).mono ?_;rintro e w4 ⟨rfl,hx4⟩;go_wp2_with fail;refine(HRD.out _).mono ?_;rintro e w5 ⟨rfl,hx5⟩;have HXX:=B0 ((HXQ.out.trans (hx4.trans hx5)).alloc (.cells #[.int .i64 k,.string TB,.string AB] 33));clear hx4 hx5;go_wp2;go_roundw;(case rel=>exact⟨j+1,er,by omega,by go_num,rfl,HST2,HXX.out⟩);case measure=>exact QD);·rw[D0 h7]at HST2;have hb7:(fe==7)=false:=V0.2 h7;clear h0 h7;go_wp2_with fail;refine(HF.out _).mono ?_;rintro e w4 ⟨rfl,hx4⟩;go_wp2_with fail;refine(HRD.out _).mono ?_;rintro e w5 ⟨rfl,hx5⟩;have HXX:=B0 ((HXQ.out.trans (hx4.trans hx5)).alloc (.cells #[.int .i64 k,.string TB,.string AB] 33));clear hx4 hx5;go_wp2;go_roundw;(case rel=>exact⟨j+1,fe,by omega,by go_num,rfl,HST2,HXX.out⟩);case measure=>exact QD);·obtain rfl:j=3:=C0;have HXQ:=B0 (hxr.trans (Ext.before hxq));have HST2:Hid (res=Ea.decF S fe (X5 (i+1) 0)):=B0 (by rw[HR.out,iC]);clear hjt hj hxq hxr HR;go_wp2;go_roundw;(case rel=>exact⟨i+1,fe,by omega,by go_num,rfl,HST2,HXQ.out⟩);case measure=>exact QD);·obtain rfl:i=3:=C0;have HG:Hid (res=((0,[],[]),fe)):=B0 (by rw[HR.out];rfl);have hxx:=hxw.trans (Ext.before hxr);have HB1:=B0 (Zb HB0.out (Ext.before hxr));obtain⟨z0,z1,z2,z3,z4,z5,z6,HB⟩:=Zd HB1.out;clear hi hlt HB0 HB1;go_wp2;refine R1 (Ze results78 rfl (Zf HB) rfl) rfl ?_;exact⟨by rw[HG.out];rfl,((hxx.setCell (I0 _) _).setCell (I0 _) _).setCell (I0 _) _⟩
end Go.Proofs.YtbngggoccndefaaGreatDoor
end
