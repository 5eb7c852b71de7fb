/-
  Laid.
-/
import Derived.Test.YtbngggoccndefaaGreatDoorRt34
set_option maxHeartbeats 8000000
set_option maxRecDepth 100000
set_option linter.all false
section
namespace Go.Proofs.YtbngggoccndefaaGreatDoor
open Go.Proofs.Tryz
open Go.RowKit
def fE (j:Nat) (u:List Nat):Option (Nat×Nat):=if j=0 then Ea.findE u else if j=1 then(Ea.idx Ea.setsE1 u).map (fun c=>(1,c))else none
theorem JS {j:Nat} {u:List Nat} (hj:j<2) (h:Ea.idx (if j=0 then Ea.setsE0 else Ea.setsE1) u=none):fE j u=fE (j+1) u:=by
 rcases(by omega:j=0∨j=1)with rfl|rfl;·rw[G0 rfl]at h;unfold fE;rw[G0 rfl,D0 C0,G0 rfl,Ea.findE_eq,h]
 ·rw[D0 C0]at h;unfold fE;rw[D0 C0,G0 rfl,D0 C0,D0 C0,h];rfl
theorem JT {j c:Nat} {u:List Nat} (hj:j<2) (h:Ea.idx (if j=0 then Ea.setsE0 else Ea.setsE1) u=some c):fE j u=some (j,c)∧c<10:=by
 have hl:∀(l:List (List Nat)),l.length=10->Ea.idx l u=some c->c<10:=fun l hl h=>by obtain⟨h1,_⟩:=J1.1 (Ea.idx_some h);omega
 rcases(by omega:j=0∨j=1)with rfl|rfl;·rw[G0 rfl]at h;unfold fE;rw[G0 rfl,Ea.findE_eq,h];exact⟨rfl,hl _ rfl h⟩
 ·rw[D0 C0]at h;unfold fE;rw[D0 C0,G0 rfl,h];exact⟨rfl,hl _ rfl h⟩
def TH (r:Option (List UInt8×List Nat)):(Int×List UInt8)×Int:=match r with
 |none=>((0,[]),18)
 |some (l,u)=>match Ea.findE u with
  |none=>((0,[]),18)
  |some (y,c)=>if Ea.good (Ea.exp8 (Ea.chr y::(l++[Ea.chr c])))then((4,Ea.chr y::(l++[Ea.chr c])),0)else((0,[]),8)
theorem fK {u:List Nat} {y c:Nat} (h:Ea.findE u=some (y,c)):y<2∧c<10:=by
 have h0:fE 0 u=some (y,c):=h
 cases h1:Ea.idx Ea.setsE0 u with
 |some c'=>obtain⟨a,b⟩:=JT (j:=0) C0 (by rw[G0 rfl];exact h1);rw[a]at h0;cases h0;exact⟨by omega,b⟩
 |none=>
  rw[JS (j:=0) C0 (by rw[G0 rfl];exact h1)]at h0
  cases h2:Ea.idx Ea.setsE1 u with
  |some c'=>obtain⟨a,b⟩:=JT (j:=1) C0 (by rw[D0 C0];exact h2);rw[a]at h0;cases h0;exact⟨by omega,b⟩
  |none=>rw[JS (j:=1) C0 (by rw[D0 C0];exact h2)]at h0;cases h0
theorem yG {l:List UInt8} {y c:Nat} (hd:Ea.digs l=true) (hy:y<2) (hc:c<10):Ea.digs (Ea.chr y::(l++[Ea.chr c]))=true:=
 Ea.digs_cons (TF C0) (Ea.digs_app.2 ⟨hd,Ea.digs_cons (TF hc) rfl⟩)
theorem fL (sl:List Bool) (hW:sl.length=51) (g1:sl.take 3=Ea.gd) (g2:sl.drop 45=Ea.eE):Ea.rdSym 51 sl=TH (Ea.rcg true 0 0 6 (sl.drop 3)):=by
 unfold Ea.rdSym
 rw[show 51-(Ea.stp 51).length=45 from rfl,show Ea.stp 51=Ea.eE from rfl,D0 (fun h=>h g1),D0 (fun h=>h g2)]
 rw[show Ea.rdK 51 sl=Ea.rdE sl from rfl]
 unfold Ea.rdE TH
 cases h1:Ea.rcg true 0 0 6 (sl.drop 3)with
 |none=>rfl
 |some p=>
  obtain⟨l,u⟩:=p
  dsimp only
  cases hf:Ea.findE u with
  |none=>rfl
  |some q=>obtain⟨y,c⟩:=q;obtain⟨hy,hc⟩:=fK hf;obtain⟨_,a2,_,a4,_⟩:=Ea.rcg_inv true 0 C0 6 _ _ _ h1 E7;rw[H7];dsimp only;have hfull:=JO (k:=4) (l:=Ea.chr y::(l++[Ea.chr c])) J0 (yG a4 hy hc) (by rw[S0,O0,a2];rfl) (fun _=>by rw[TZ];rcases(by omega:y=0∨y=1)with rfl|rfl<;>decide);rw[G0 (show(4:Int)=4 from rfl)]at hfull;rw[show Ea.kindOf 51=4 from rfl,hfull];by_cases hg:Ea.good (Ea.exp8 (Ea.chr y::(l++[Ea.chr c])));(·exact yD);·exact JP
theorem fM (s:ByteArray) (sl:List Bool) (hs:s.data.toList=Ea.mS sl) (hW:sl.length=51) (w:World):
 Calls prog 214 #[.string s] w fun e w'=>e=.returned (symV (Ea.rdSym 51 sl))∧Ext w w':=by
 have hsz:s.size=51:=JM
 have HP:=B0 (fun w=>hasP s ⟨#[49,48,49]⟩ Ea.gd sl hs rfl w)
 have HQ:=B0 (fun w=>hasS s ⟨#[48,49,48,49,48,49]⟩ Ea.eE sl hs rfl (by rw[hW];decide) C0 w)
 rw[show Ea.gd.length=3 from rfl]at HP
 rw[hW,show 51-Ea.eE.length=45 from rfl]at HQ
 obtain⟨J,hJ⟩:∃J,s.extract 3 45=J:=⟨_,rfl⟩
 have hJl:J.data.toList=Ea.mS ((sl.drop 3).take 42):=JN
 have HJ:=B0 hJ
 have HL:=B0 (ZR true 0 6 ((sl.drop 3).take 42) J ⟨#[65,66]⟩ hJl TE C0 C0 (fun _=>rfl) rfl)
 rw[TD true 0 6 (sl.drop 3),<-hJ]at HL
 obtain⟨res,hres⟩:∃res,Ea.rdSym 51 sl=res:=⟨_,rfl⟩
 have HX:=B0 (Ea.rdSym.eq_1 51 sl)
 rw[show 51-(Ea.stp 51).length=45 from rfl,show Ea.stp 51=Ea.eE from rfl,hres]at HX
 rw[hres]
 have HSE:=B0 (fL sl hW)
 rw[hres]at HSE
 have HIV:=B0 (fun l u (h:Ea.rcg true 0 0 6 (sl.drop 3)=some (l,u))=>Ea.rcg_inv true 0 C0 6 _ _ _ h E7)
 clear hs hW hJl hres hJ
 by_cases g1:sl.take 3=Ea.gd
 ·rw[D0 (fun h=>h g1)]at HX;rw[F1 g1]at HP;by_cases g2:sl.drop 45=Ea.eE
  ·have HS:=B0 (HSE.out g1 g2)
   rw[F1 g2]at HQ
   clear g1 g2 HX HSE
   cases h1:Ea.rcg true 0 0 6 (sl.drop 3)with
   |none=>rw[h1]at HS HL;simp only[recV]at HL;clear h1 HIV;go_enter func214,ntmps214;go_wp2_with fail;refine(HP.out _).mono ?_;rintro e w1 ⟨rfl,rfl⟩;go_wp2_with fail;refine(HQ.out _).mono ?_;rintro e w1 ⟨rfl,rfl⟩;go_wp2_with fail;refine(HL.out _).mono ?_;rintro e w2 ⟨rfl,hx⟩;obtain⟨z0,z1,z2,z3,z4,z5,z6,HB⟩:=X4 hx;have hxw:=hx.before;clear hx;go_wp2;refine R1 (Ze results214 rfl (Zf HB) rfl) rfl ?_;exact PY
   |some p=>
    obtain⟨l,u⟩:=p;obtain⟨_,hl6,_,hld,hlm⟩:=HIV.out l u h1;have hu3:∀x∈u,x<3:=fun x hx=>Ea.may_lt C0 (hlm x hx);rw[h1]at HS HL;simp only[recV]at HL;have HLD:=B0 (And.intro hld hl6);have HU3:=B0 hu3;have hLs:(Ea.bS l).size<=12:=(by rw[Zc (Ea.bS_list l)];omega);clear h1 HIV hl6 hld hlm hu3;obtain⟨L,hL⟩:∃L,Ea.bS l=L:=⟨_,rfl⟩;have HLL:=B0 hL;obtain⟨U,hU⟩:∃U,Ea.bS (Ea.sS u)=U:=⟨_,rfl⟩;have HUU:=B0 hU;rw[hL]at HL hLs;rw[hU]at HL;clear hL hU;go_enter func214,ntmps214;go_wp2_with fail;refine(HP.out _).mono ?_;rintro e w1 ⟨rfl,rfl⟩;go_wp2_with fail;refine(HQ.out _).mono ?_;rintro e w1 ⟨rfl,rfl⟩;go_wp2_with fail;refine(HL.out _).mono ?_;rintro e w2 ⟨rfl,hx⟩;have kc:=fun(w:World) (C:Array Value) (n c:Nat)=>CB (P:=prog) w 90 5 C n c underlying90 underlying5;go_wp2_with fail;clear kc HP HQ HL HJ;obtain⟨w5,hw5⟩:∃w5,w2.alloc (.cells #[.int .u8 48,.int .u8 49] 5 (2,3))=w5:=⟨_,rfl⟩;have hsz5:w2.heap.size<w5.heap.size:=(by rw[<-hw5];simp);have HC5:Hid (∀j:Nat,j<2->w5.cell? ⟨w2.heap.size,j,none⟩=some (.int .u8 (48+(j:Int)))):=B0 (fun j hj=>by rw[<-hw5,MQ];rcases(by omega:j=0∨j=1)with rfl|rfl<;>rfl);have hx5:=hx.alloc (.cells #[.int .u8 48,.int .u8 49] 5 (2,3));rw[hw5]at hx5⊢;clear hw5 hx;go_loopw [36] (fun v36 wr=>∃j:Nat,j<=2∧v36=.int .i64 (j:Int)∧Hid (Ea.findE u=fE j u)∧Ext w5 wr) (fun v36 _=>2-(intOf v36).toNat);(case atStart=>exact⟨0,by omega,rfl,B0 rfl,Ext.refl _⟩);case round=>
     obtain⟨j,hj,rfl,HF,hxr⟩:=hrel;by_cases hj2:j<2
     ·have hcell:=(hxr.cell (p:=⟨w2.heap.size,j,none⟩) hsz5).trans (HC5.out j hj2)
      have HCS:=B0 (fun w=>xQ j hj2 w)
      unfold arrV at HCS
      obtain⟨Q,hQ⟩:∃Q,((Ea.compB j).map Value.string).toArray=Q:=⟨_,rfl⟩
      have hRl:(Ea.compB j).length=10:=by rcases(by omega:j=0∨j=1)with rfl|rfl<;>rfl
      have hQs:Q.size=10:=by rw[<-hQ];simp[hRl]
      have HQ1:Hid (Q.all (·.oneCell')=true):=B0 JK
      have HQd:Hid (∀i,i<10->Q[i]? =some (.string ((Ea.compB j).getD i ByteArray.empty))):=B0 (fun i hi=>by rw[<-hQ];simp only[VT,X2];rw[P0 WL,A1,P0 WL];rfl)
      have HRL:=B0 hRl
      have HCI:=B0 (Ea.comp_idx j u HU3.out)
      rw[HUU.out]at HCI
      rw[hQ]at HCS
      clear hQ hRl
      go_wp2_with fail
      refine(HCS.out _).mono ?_
      rintro e w4 ⟨rfl,hx4⟩
      have hst:=ZS Q hQs HQ1.out w4
      have HNC:=B0 (fun i hi=>E9 Q 210 w4 (HQd.out i hi))
      go_wp2_with fail
      obtain⟨w6,hw6⟩:∃w6,w4.alloc (.cells Q 210)=w6:=⟨_,rfl⟩
      have hx6:=(hxr.trans hx4).alloc (.cells Q 210)
      rw[hw6]at hx6 HNC⊢
      have HIX:=B0 (Tryz.slices_Index_string w4.heap.size 0 10 10 (Ea.compB j) U w6 TA C0 (fun i hi=>by rw[P3];exact HNC.out i JL))
      rw[show(Ea.compB j).take 10=Ea.compB j from P1 TA,HCI.out]at HIX
      clear hst hw6 HNC HRL HQd HQ1 HCI hxr hx4 hcell
      cases hf:Ea.idx (if j=0 then Ea.setsE0 else Ea.setsE1) u with
      |none=>rw[hf]at HIX;simp only[Ea.plcO]at HIX;have HF2:=B0 (HF.out.trans (JS hj2 hf));clear hf;refine HIX.out.mono ?_;rintro e w8 ⟨rfl,rfl⟩;go_wp2;go_roundw;(case rel=>exact⟨j+1,by omega,by go_num,HF2,hx6⟩);case measure=>exact QD
      |some c=>rw[hf]at HIX;simp only[Ea.plcO]at HIX;obtain⟨hf1,hc10⟩:=JT hj2 hf;have HF2:=B0 (HF.out.trans hf1);clear hf hf1;refine HIX.out.mono ?_;rintro e w8 ⟨rfl,rfl⟩;have hc1:(Utf8.encode (48+(c:Int))).data.toList=[Ea.chr c]:=(by rw[show(48+(c:Int))=((48+c:Nat):Int) by omega];exact PU (48+c) C0);have hc2:(Utf8.encode (48+(j:Int))).data.toList=[Ea.chr j]:=(by rw[show(48+(j:Int))=((48+j:Nat):Int) by omega];exact PU (48+j) C0);have hz1:(Utf8.encode (48+(c:Int))).size=1:=Zc hc1;have hz2:(Utf8.encode (48+(j:Int))).size=1:=Zc hc2;obtain⟨CC,hCC⟩:∃CC,Utf8.encode (48+(c:Int))=CC:=⟨_,rfl⟩;obtain⟨CJ,hCJ⟩:∃CJ,Utf8.encode (48+(j:Int))=CJ:=⟨_,rfl⟩;rw[hCC]at hc1 hz1;rw[hCJ]at hc2 hz2;(have hr1:∀w,(convert 21 9 (.int .i32 (48+(c:Int)))).run prog w=.ok (.string CC) w:=fun w=>by rw[<-hCC];exact TC w _ _ _ _ M0 underlying9);(have hr2:∀w,(convert 21 9 (.int .i32 (48+(j:Int)))).run prog w=.ok (.string CJ) w:=fun w=>by rw[<-hCJ];exact TC w _ _ _ _ M0 underlying9);have HSS:Hid (CJ++L++CC=Ea.bS (Ea.chr j::(l++[Ea.chr c]))):=B0 (by apply Z7;rw[X3,C4,X3,C4,hc1,hc2,<-HLL.out];rfl);have HR:=B0 (fun w=>UT 4 (Ea.bS (Ea.chr j::(l++[Ea.chr c]))) (yG HLD.out.1 hj2 hc10) (.inl ⟨rfl,by rw[Zc (Ea.bS_list _),S0,O0,HLD.out.2];rfl⟩) w);rw[G0 (show(4:Int)=4 from rfl),Ea.bS_list,<-HSS.out]at HR;clear hc1 hc2 hCC hCJ;by_cases hg:Ea.good (Ea.exp8 (Ea.chr j::(l++[Ea.chr c])));(·rw[F1 hg]at HR;have HG:Hid (res=((4,Ea.chr j::(l++[Ea.chr c])),0)):=B0 (by rw[HS.out];unfold TH;dsimp only;rw[HF2.out];dsimp only;rw[G0 hg]);clear hg;go_wp2_with fail;refine(HR.out _).mono ?_;rintro e w9 ⟨rfl,hx9⟩;have hx:=(hx5.trans hx6).trans hx9;obtain⟨z0,z1,z2,z3,z4,z5,z6,HB⟩:=X4 hx;have hxw:=hx.before;clear hx5 hx6 hx9 hx;go_wp2;refine R1 (Ze results214 rfl (Zf HB) rfl) rfl ?_;exact yF);·rw[D1 hg]at HR;have HG:Hid (res=((0,[]),8)):=B0 (by rw[HS.out];unfold TH;dsimp only;rw[HF2.out];dsimp only;rw[D0 hg]);clear hg;go_wp2_with fail;refine(HR.out _).mono ?_;rintro e w9 ⟨rfl,hx9⟩;have hx:=(hx5.trans hx6).trans hx9;obtain⟨z0,z1,z2,z3,z4,z5,z6,HB⟩:=X4 hx;have hxw:=hx.before;clear hx5 hx6 hx9 hx;exact yH
     ·obtain rfl:j=2:=C0;have HG:Hid (res=((0,[]),18)):=B0 (by rw[HS.out];unfold TH;dsimp only;rw[HF.out];rfl);have hx:=hx5.trans hxr;obtain⟨z0,z1,z2,z3,z4,z5,z6,HB⟩:=X4 hx;have hxw:=hx.before;clear hx5 hxr hx;exact yH
  ·have HS:Hid (res=((0,[]),20)):=B0 (by rw[HX.out,G0 g2]);rw[D1 g2]at HQ;clear g1 g2 HX HSE HIV HL;go_enter func214,ntmps214;go_wp2_with fail;refine(HP.out _).mono ?_;rintro e w1 ⟨rfl,rfl⟩;go_wp2_with fail;refine(HQ.out _).mono ?_;rintro e w1 ⟨rfl,rfl⟩;go_wp2;go_returns;exact PY
 ·have HS:Hid (res=((0,[]),19)):=B0 (by rw[HX.out,G0 g1]);rw[D1 g1]at HP;clear g1 HX HSE HIV HL HQ;go_enter func214,ntmps214;go_wp2_with fail;refine(HP.out _).mono ?_;rintro e w1 ⟨rfl,rfl⟩;go_wp2;go_returns;exact PY
end Go.Proofs.YtbngggoccndefaaGreatDoor
namespace Go.Proofs.YtbngggoccndefaaGreatDoor
open Go.Proofs.Tryz
open Go.RowKit
def ZF:Nat->List Bool->List UInt8->List Nat->Option (List UInt8×List Nat)
 |0,_,_,_=>none
 |m+1,s,ds,us=>match Ea.look true 0 (s.take 7)with
  |none=>none
  |some (d,u)=>if m=0 then some (ds++[Ea.chr d],us++[u])
   else if(s.drop 7).take 2=Ea.gA then ZF m (s.drop 9) (ds++[Ea.chr d]) (us++[u])else none
theorem fN:∀(m:Nat) (s:List Bool) (ds:List UInt8) (us:List Nat),ZF (m+1) s ds us=
 if(List.range m).all (fun i=>(s.drop (7+9*i)).take 2==Ea.gA)then(Ea.rcg true 0 2 (m+1) s).map (fun p=>(ds++p.1,us++p.2))else none:=by
 intro m
 induction m with
 |zero=>
  intro s ds us
  rw[show(List.range 0).all (fun i=>(s.drop (7+9*i)).take 2==Ea.gA)=true from rfl,G0 rfl]
  unfold ZF Ea.rcg
  cases Ea.look true 0 (s.take 7)with
  |none=>rfl
  |some p=>rfl
 |succ m ih=>
  intro s ds us
  rw[ZF,Ea.rcg]
  cases hl:Ea.look true 0 (s.take 7)with
  |none=>dsimp only;split<;>rfl
  |some p=>
   obtain⟨d,u⟩:=p;dsimp only;rw[D0 C0,List.range_succ_eq_map,PZ,List.all_map];by_cases hg:(s.drop 7).take 2=Ea.gA
   ·rw[G0 hg,ih,show((List.drop (7+9*0) s).take 2==Ea.gA)=true from C2.2 hg,OA];have e:((fun i=>(s.drop (7+9*i)).take 2==Ea.gA)∘Nat.succ)=fun i=>((s.drop 9).drop (7+9*i)).take 2==Ea.gA:=(by funext i;simp only[Function.comp,Y3];rw[show 7+9*i.succ=9+(7+9*i) by omega]);rw[e,show 7+2=9 from rfl];split
    ·cases Ea.rcg true 0 2 (m+1) (s.drop 9)with
     |none=>rfl
     |some q=>simp[Ea.chr]
    ·rfl
   ·rw[D0 hg,show((List.drop (7+9*0) s).take 2==Ea.gA)=false from V0.2 hg,WN];rfl
def addP (r:Option (List UInt8×List Nat)):List UInt8×Int:=match r with
 |none=>([],18)
 |some (l,u)=>if Ea.setsAdd l≠u then([],8)else(l,0)
theorem fO (m:Nat) (sl:List Bool) (g:sl.take 4=Ea.sA):Ea.rdAdd (m+1) sl=addP (ZF (m+1) (sl.drop 4) [] []):=by
 unfold Ea.rdAdd;rw[D0 (fun h=>h g),fN,WE];have e:(fun i=>((sl.drop 4).drop (7+9*i)).take 2==Ea.gA)=fun i=>(sl.drop (11+9*i)).take 2==Ea.gA:=by funext i;rw[Y3,show 4+(7+9*i)=11+9*i by omega]
 rw[e];cases h:(List.range m).all (fun i=>(sl.drop (11+9*i)).take 2==Ea.gA);·rw[G0 rfl];rfl
 ·rw[D0 L0,G0 rfl]
  cases Ea.rcg true 0 2 (m+1) (sl.drop 4)with
  |none=>rfl
  |some p=>rfl
def addV (r:List UInt8×Int):Value:=.tuple #[.string (Ea.bS r.1),.int .i64 r.2]
theorem fP (s:List Bool):Ea.rcg true 0 0 1 s=(Ea.look true 0 (s.take 7)).map (fun p=>([Ea.chr p.1],[p.2])):=by
 unfold Ea.rcg
 cases Ea.look true 0 (s.take 7)with
 |none=>rfl
 |some p=>rfl
theorem fQ {a:List UInt8} (h:a.length=2∨a.length=5):∀x∈Ea.setsAdd a,x<3:=fun x hx=>by have:=(Ea.setsAdd_ok h).2 x hx;omega
theorem fR (n:Nat) (hn:n=2∨n=5) (s:ByteArray) (sl:List Bool) (hs:s.data.toList=Ea.mS sl) (hW:sl.length=Ea.wAdd n) (w:World):
 Calls prog 215 #[.string s] w fun e w'=>e=.returned (addV (Ea.rdAdd n sl))∧Ext w w':=by
 have hW2:sl.length=9*n+2:=by rw[hW];rcases hn with rfl|rfl<;>rfl
 have hsz:s.size=9*n+2:=by rw[Zc hs,Ea.mS_len,hW2]
 have hszu:s.size<=47:=by omega
 have hszl:20<=s.size:=by omega
 have HP:=B0 (fun w=>hasP s ⟨#[49,48,49,49]⟩ Ea.sA sl hs rfl w)
 rw[show Ea.sA.length=4 from rfl]at HP
 obtain⟨res,hres⟩:∃res,Ea.rdAdd n sl=res:=⟨_,rfl⟩
 rw[hres]
 have HX:=B0 (Ea.rdAdd.eq_1 n sl)
 rw[hres]at HX
 have HN:=B0 hn
 have HAE:Hid (sl.take 4=Ea.sA->res=addP (ZF n (sl.drop 4) [] [])):=B0 (fun g=>by rw[<-hres];obtain⟨m,rfl⟩:∃m,n=m+1:=⟨n-1,by omega⟩;exact fO m sl g)
 have HJ:Hid ((s.extract 4 s.size).data.toList=Ea.mS (sl.drop 4)):=B0 (by rw[ZG,hs,Ea.mS_drop])
 have HW2:=B0 hW2
 have HSZ:=B0 hsz
 clear hres hs hW hW2 hsz
 by_cases g1:sl.take 4=Ea.sA
 ·rw[F1 g1]at HP;have HS:=B0 (HAE.out g1);clear g1 HX HAE;go_enter func215,ntmps215;go_wp2_with fail;refine(HP.out _).mono ?_;rintro e w1 ⟨rfl,rfl⟩;go_wp2_with fail;go_loopw [4,5,6] (fun v4 v5 v6 wr=>∃(k:Nat) (D T R:ByteArray) (ds:List UInt8) (us:List Nat),k<n∧v4=.string D∧v5=.string T∧v6=.string R∧Hid (R.data.toList=Ea.mS (sl.drop (4+9*k)))∧Hid (D.data.toList=ds)∧Hid (T.data.toList=Ea.sS us)∧D.size=k∧T.size=k∧Hid (Ea.digs ds=true∧∀x∈us,x<3)∧Hid (ZF n (sl.drop 4) [] []=ZF (n-k) (sl.drop (4+9*k)) ds us)∧Ext w wr) (fun _ _ v6 _=>match v6 with| .string R=>R.size|_=>0);(case atStart=>exact⟨0,⟨#[]⟩,⟨#[]⟩,_,[],[],by omega,rfl,rfl,rfl,HJ,B0 rfl,B0 rfl,rfl,rfl,B0 ⟨rfl,by simp⟩,B0 rfl,Ext.refl w⟩);case round=>
   obtain⟨k,D,T,R,ds,us,hk,rfl,rfl,rfl,HR,HD,HT,hDs,hTs,HDU,HAL,hxr⟩:=hrel
   have hRs:R.size=9*(n-k)-2:=by rw[Zc HR.out,Ea.mS_len,L2,HW2.out];omega
   have hR7:7<=R.size:=by omega
   have hR47:R.size<=47:=by omega
   have HRS:=B0 hRs
   have hD5:D.size<=5:=A9
   have hT5:T.size<=5:=A9
   have HDT:=B0 (And.intro hDs hTs)
   have HRC:=B0 (fun w=>ZR true 0 1 ((sl.drop (4+9*k)).take 7) (R.extract 0 7) ⟨#[65,66]⟩ (by rw[Zz,HR.out,Ea.mS_take]) (by rw[L1,L2,HW2.out];omega) C0 C0 (fun _=>rfl) rfl w)
   rw[fP,XP,Nat.min_self]at HRC
   clear hRs hDs hTs
   obtain⟨q,hq⟩:∃q,n-k=q+1:=⟨n-k-1,by omega⟩
   cases hl:Ea.look true 0 ((sl.drop (4+9*k)).take 7)with
   |none=>rw[hl]at HRC;simp only[Option.map,recV]at HRC;have HG:Hid (res=([],18)):=B0 (by rw[HS.out,HAL.out,hq,ZF,hl];rfl);clear hl hq;go_wp2_with fail;refine(HRC.out _).mono ?_;rintro e w3 ⟨rfl,hx3⟩;exact yI
   |some p=>obtain⟨d,u⟩:=p;obtain⟨hd10,_,hmay⟩:=Ea.look_some C0 hl;have hu3:u<3:=Ea.may_lt C0 hmay;rw[hl]at HRC;simp only[Option.map,recV]at HRC;have HAL2:Hid (ZF n (sl.drop 4) [] []=if q=0 then some (ds++[Ea.chr d],us++[u])else if((sl.drop (4+9*k)).drop 7).take 2=Ea.gA then ZF q ((sl.drop (4+9*k)).drop 9) (ds++[Ea.chr d]) (us++[u])else none):=B0 (by rw[HAL.out,hq,ZF,hl]);obtain⟨CD,hCD⟩:∃CD,Ea.bS [Ea.chr d]=CD:=⟨_,rfl⟩;obtain⟨CT,hCT⟩:∃CT,Ea.bS (Ea.sS [u])=CT:=⟨_,rfl⟩;have hz1:CD.size=1:=(by rw[<-hCD];rfl);have hz2:CT.size=1:=(by rw[<-hCT];rfl);rw[hCD,hCT]at HRC;have HD2:Hid ((D++CD:ByteArray).data.toList=ds++[Ea.chr d]):=B0 (by rw[X3,C4,HD.out,<-hCD];rfl);have HT2:Hid ((T++CT:ByteArray).data.toList=Ea.sS (us++[u])):=B0 (by rw[X3,C4,HT.out,Ea.sS_app,<-hCT];rfl);have HDU2:Hid (Ea.digs (ds++[Ea.chr d])=true∧∀x∈us++[u],x<3):=B0 ⟨Ea.digs_app.2 ⟨HDU.out.1,Ea.digs_cons (TF hd10) rfl⟩,fun x hx=>by rcases M2.1 hx with h|h;(·exact HDU.out.2 x h);·rw[Y2.1 h];exact hu3⟩;have HSZ2:Hid ((D++CD:ByteArray).size=k+1∧(T++CT:ByteArray).size=k+1):=B0 (by rw[K9,K9,hz1,hz2,HDT.out.1,HDT.out.2];exact⟨rfl,rfl⟩);have HQ:=B0 hq;clear hl hq hd10 hmay hu3 hCD hCT;obtain⟨D2,hD2⟩:∃D2,D++CD=D2:=⟨_,rfl⟩;obtain⟨T2,hT2⟩:∃T2,T++CT=T2:=⟨_,rfl⟩;rw[hD2]at HD2 HSZ2;rw[hT2]at HT2 HSZ2;by_cases hq0:q=0;(·have HAL3:Hid (ZF n (sl.drop 4) [] []=some (ds++[Ea.chr d],us++[u])):=B0 (by rw[HAL2.out,G0 hq0]);have hb7:((R.size:Int)==7)=true:=(by rw[C2];have:=HRS.out;exact WO);have HAS:=B0 (fun w=>JG D2 (by rw[HSZ2.out.1];have:=HN.out;have:=HQ.out;omega) (by rw[HD2.out];exact HDU2.out.1) w);obtain⟨X,hX⟩:∃X,Ea.bS (Ea.sS (Ea.setsAdd D2.data.toList))=X:=⟨_,rfl⟩;have HC:Hid ((T2.toList==X.toList)=decide (Ea.setsAdd (ds++[Ea.chr d])=us++[u])):=B0 (by rw[U4,C2,V1,<-hX,G2,G2,HT2.out,HD2.out,Ea.bS_list];constructor;(·intro h;exact(Ea.sS_inj HDU2.out.2 (fQ (by rw[<-HD2.out,Za,HSZ2.out.1];have:=HN.out;have:=HQ.out;omega)) h).symm);·intro h;rw[h]);rw[hX]at HAS;clear hq0 hX HAL2;go_wp2_with fail;refine(HRC.out _).mono ?_;rintro e w3 ⟨rfl,hx3⟩;go_wp2_with fail;refine(HAS.out _).mono ?_;rintro e w4 ⟨rfl,hx4⟩;cases hc:(T2.toList==X.toList);(·have HG:Hid (res=([],8)):=B0 (by have h:=HC.out;rw[hc]at h;rw[HS.out,HAL3.out];unfold addP;dsimp only;rw[G0 (SC h.symm)]);go_wp2;go_ret2;exact⟨by rw[HG.out];rfl,(hxr.trans hx3).trans hx4⟩);·have HG:Hid (res=(ds++[Ea.chr d],0)):=B0 (by have h:=HC.out;rw[hc]at h;rw[HS.out,HAL3.out];unfold addP;dsimp only;rw[D0 (fun hh=>hh (N3 h.symm))]);have HDD:Hid (D2=Ea.bS (ds++[Ea.chr d])):=B0 (by rw[<-HD2.out,Ea.bS_of]);go_wp2;go_ret2;exact⟨by rw[HG.out];unfold addV;dsimp only;rw[<-HDD.out];rfl,(hxr.trans hx3).trans hx4⟩);·have hb7:((R.size:Int)==7)=false:=(by rw[V0];have:=HRS.out;exact WO);have hR9:9<=R.size:=(by have:=HRS.out;exact WO);have HRD:Hid ((R.extract 7 R.size).data.toList=Ea.mS ((sl.drop (4+9*k)).drop 7)):=B0 (by rw[ZG,HR.out,Ea.mS_drop]);have HRE:Hid ((R.extract 9 R.size).data.toList=Ea.mS (sl.drop (4+9*(k+1)))):=B0 (by rw[ZG,HR.out,Ea.mS_drop,Y3,show 4+9*k+9=4+9*(k+1) by omega]);have HPG:=B0 (fun w=>hasP (R.extract 7 R.size) ⟨#[48,49]⟩ Ea.gA _ HRD.out rfl w);rw[show Ea.gA.length=2 from rfl]at HPG;by_cases hg:((sl.drop (4+9*k)).drop 7).take 2=Ea.gA;(·have HAL3:Hid (ZF n (sl.drop 4) [] []=ZF (n-(k+1)) (sl.drop (4+9*(k+1))) (ds++[Ea.chr d]) (us++[u])):=B0 (by rw[HAL2.out,D0 hq0,G0 hg,Y3,show 4+9*k+9=4+9*(k+1) by omega,show n-(k+1)=q by have:=HQ.out;omega]);have hk2:k+1<n:=WO;rw[F1 hg]at HPG;clear hg hq0 HAL2;go_wp2_with fail;refine(HRC.out _).mono ?_;rintro e w3 ⟨rfl,hx3⟩;go_wp2_with fail;refine(HPG.out _).mono ?_;rintro e w4 ⟨rfl,rfl⟩;go_wp2;go_roundw;(case rel=>exact⟨k+1,_,_,_,_,_,hk2,rfl,rfl,rfl,HRE,HD2,HT2,HSZ2.out.1,HSZ2.out.2,HDU2,HAL3,hxr.trans hx3⟩);case measure=>exact E1);·have HG:Hid (res=([],18)):=B0 (by rw[HS.out,HAL2.out,D0 hq0,D0 hg];rfl);rw[D1 hg]at HPG;clear hg hq0 HAL2;go_wp2_with fail;refine(HRC.out _).mono ?_;rintro e w3 ⟨rfl,hx3⟩;go_wp2_with fail;refine(HPG.out _).mono ?_;rintro e w4 ⟨rfl,rfl⟩;exact yI
 ·have HS:Hid (res=([],19)):=B0 (by rw[HX.out,G0 g1]);rw[D1 g1]at HP;clear g1 HX HAE HJ;go_enter func215,ntmps215;go_wp2_with fail;refine(HP.out _).mono ?_;rintro e w1 ⟨rfl,rfl⟩;go_wp2;go_ret2;exact PY
end Go.Proofs.YtbngggoccndefaaGreatDoor
namespace Go.Proofs.YtbngggoccndefaaGreatDoor
open Go.Proofs.Tryz
open Go.RowKit
theorem fS (g:Nat):∀l:List Bool,l.length=g->(l=Ea.lgt g↔l.all (fun b=> !b)=true):=by
 intro l hl;unfold Ea.lgt;rw[List.eq_replicate_iff,S1];constructor;·rintro⟨_,h⟩ b hb;rw[h b hb];rfl
 ·intro h;exact⟨hl,fun b hb=>by have:=h b hb;simpa using this⟩
theorem fT (n a:Nat) (hn:n<=95) (ha:a=0∨a=2∨a=5) (s:ByteArray) (sl:List Bool) (hs:s.data.toList=Ea.mS sl) (hW:sl.length<=65536) (w:World):
 Calls prog 138 #[.string s,.int .i64 (n:Int),.int .i64 (a:Int)] w fun e w'=>e=.returned (.bool (Ea.fits sl n a))∧Ext w w':=by
 have hz:s.size=sl.length:=WF
 have hsz:s.size<=65536:=by omega
 have HA:=B0 (fun w=>PK a ha w)
 obtain⟨W,hWA⟩:∃W,Ea.wAdd a=W:=⟨_,rfl⟩
 have hW47:W<=47:=by rw[<-hWA];rcases ha with rfl|rfl|rfl<;>decide
 rw[hWA]at HA
 obtain⟨res,hres⟩:∃res,Ea.fits sl n a=res:=⟨_,rfl⟩
 have HX:=B0 hres
 unfold Ea.fits at HX
 rw[hres]
 rw[hWA,<-hz]at HX
 by_cases h0:a=0
 ·have HR:Hid (res=((s.size:Int)-(n:Int)-(W:Int)==0)):=B0 (by rw[<-HX.out,G0 h0];have:W=0:=(by rw[<-hWA,h0];rfl);rw[this,U4,C2,C2];omega);have hb:((a:Int)==0)=true:=(by rw[h0];rfl);clear h0 hres hWA HX ha hs hz hW;go_enter func138,ntmps138;go_wp2_with fail;refine(HA.out _).mono ?_;rintro e w1 ⟨rfl,rfl⟩;go_wp2;go_ret;exact⟨by rw[HR.out];rfl,Xf⟩
 ·rw[D0 h0]at HX;have hb:((a:Int)==0)=false:=QY;have HL:Hid (s.data.toList=Ea.mS sl):=B0 hs;have HZ:=B0 hz;clear h0 hres hWA ha hs hz hW;by_cases h7:n+W+7<=s.size;(·rw[F1 h7,OA]at HX;by_cases h12:s.size<=n+W+12;(·rw[F1 h12,OA]at HX;obtain⟨g,hg⟩:∃g,s.size-n-W=g:=⟨_,rfl⟩;have hgi:(s.size:Int)-(n:Int)-(W:Int)=(g:Int):=C0;have HRP:=B0 (fun w=>ZO g C0 w);rw[show s.size-n-W=g from hg]at HX;have hcl:(s.extract n (n+g)).data.toList=Ea.mS ((sl.drop n).take g):=(by rw[Z0,HL.out,Ea.mS_drop,Ea.mS_take,SN]);have HC:Hid (((s.extract n (n+g)).toList==(Ea.bS (Ea.mS (Ea.lgt g))).toList)=res):=B0 (by rw[<-HX.out,G2,G2,hcl,Ea.bS_list,U4,C2,Ea.mS_inj];exact fS g _ (by rw[L1,L2,<-HZ.out];omega));have hg1:decide ((7:Int)<=(g:Int))=true:=F1 C0;have hg2:decide ((g:Int)<=12)=true:=F1 C0;have hg12:g<=12:=C0;have hle:n+g<=s.size:=C0;clear hg hcl;obtain⟨Z,hZ⟩:∃Z,Ea.bS (Ea.mS (Ea.lgt g))=Z:=⟨_,rfl⟩;rw[hZ]at HRP HC;clear hZ;go_enter func138,ntmps138;go_wp2_with fail;refine(HA.out _).mono ?_;rintro e w1 ⟨rfl,rfl⟩;go_wp2_with fail;refine T6 (C:=fun w'=>∃x:Zr w,w'=x.at') M0 M0 (Zr.drawn _) ?_;(try dsimp only);(repeat(first|go_big_quiet_step ((go_at_call 109;with_reducible exact Zp (HRP.out _)))|quiet_step ((go_at_call 109;with_reducible exact Zp (HRP.out _)))));refine U6 ?_;intro _ hx0;obtain⟨x0,hx0⟩:=hx0;subst hx0;obtain⟨w8,hx8⟩:=x0;(try dsimp only);go_wp2;go_ret;exact⟨by rw[<-HC.out];rfl,hx8⟩);·rw[D1 h12,WN]at HX;have hg1:decide ((7:Int)<=(s.size:Int)-(n:Int)-(W:Int))=true:=F1 C0;have hg2:decide ((s.size:Int)-(n:Int)-(W:Int)<=12)=false:=D1 C0;exact yJ);·rw[D1 h7,WN,WN]at HX;have hg1:decide ((7:Int)<=(s.size:Int)-(n:Int)-(W:Int))=false:=D1 C0;exact yJ
end Go.Proofs.YtbngggoccndefaaGreatDoor
end
