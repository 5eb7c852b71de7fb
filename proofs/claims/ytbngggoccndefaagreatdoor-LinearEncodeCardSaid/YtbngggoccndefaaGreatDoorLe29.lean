/-
  Laid.
-/
import Derived.Test.YtbngggoccndefaaGreatDoorLe28
set_option maxHeartbeats 8000000
set_option maxRecDepth 100000
set_option linter.all false
section
namespace Go.Proofs.Enc
open Go.Proofs.Tryz
open Go.RowKit
def fE(j:Nat)(u:List Nat):Option (Nat×Nat):=if j=0 then Ea.Xq u else if j=1 then(Ea.idx Ea.Nq u).map (λc=>(1,c))else none
def AA{j:Nat}{u:List Nat}(hj:j<2)(h:Ea.idx (if j=0 then Ea.setsE0 else Ea.Nq) u=none):fE j u=fE (j+1) u:=by
 rcases(by omega:j=0\/j=1)with rfl|rfl;·rw[G0 rfl]at h;unfold fE;rw[G0 rfl,D0 C0,G0 rfl,Ea.aDZ,h]
 .rw[D0 C0]at h;unfold fE;rw[D0 C0,G0 rfl,D0 C0,D0 C0,h];rfl
def AC{j c:Nat}{u:List Nat}(hj:j<2)(h:Ea.idx (if j=0 then Ea.setsE0 else Ea.Nq) u=some c):fE j u=some (j,c)/\c<10:=by
 have hl:∀(l:List (List Nat)),l.length=10->Ea.idx l u=some c->c<10:=λl hl h=>by obtain⟨h1,_⟩:=N1.1 (Ea.aCk h);omega
 rcases(by omega:j=0\/j=1)with rfl|rfl;·rw[G0 rfl]at h;unfold fE;rw[G0 rfl,Ea.aDZ,h];exact⟨rfl,hl _ rfl h⟩
 .rw[D0 C0]at h;unfold fE;rw[D0 C0,G0 rfl,h];exact⟨rfl,hl _ rfl h⟩
def PX(r:Option (List UInt8×List Nat)):(Int×List UInt8)×Int:=match r with
 |none=>((0,[]),18)
 |some (l,u)=>match Ea.Xq u with
  |none=>((0,[]),18)
  |some (y,c)=>if Ea.Ap (Ea.Bl (Ea.chr y::(l++[Ea.chr c])))then((4,Ea.chr y::(l++[Ea.chr c])),0)else((0,[]),8)
def Zlm{u:List Nat}{y c:Nat}(h:Ea.Xq u=some (y,c)):y<2/\c<10:=by
 have h0:fE 0 u=some (y,c):=h;cases h1:Ea.idx Ea.setsE0 u with
 |some c'=>obtain⟨a,b⟩:=AC (j:=0) C0 (by rw[G0 rfl];exact h1);rw[a]at h0;cases h0;exact⟨by omega,b⟩
 |none=>
  rw[AA (j:=0) C0 (by rw[G0 rfl];exact h1)]at h0
  cases h2:Ea.idx Ea.Nq u with
  |some c'=>obtain⟨a,b⟩:=AC (j:=1) C0 (by rw[D0 C0];exact h2);rw[a]at h0;cases h0;exact⟨by omega,b⟩
  |none=>rw[AA (j:=1) C0 (by rw[D0 C0];exact h2)]at h0;cases h0
def dH{l:List UInt8}{y c:Nat}(hd:Ea.o6 l=true)(hy:y<2)(hc:c<10):Ea.o6 (Ea.chr y::(l++[Ea.chr c]))=true:=
 Ea.Vk (PV C0) (Ea.aAw.2 ⟨hd,Ea.Vk (PV hc) rfl⟩)
def Zmo(sl:List Bool)(hW:sl.length=51)(g1:sl.take 3=Ea.gd)(g2:sl.drop 45=Ea.eE):Ea.rdSym 51 sl=PX (Ea.rcg true 0 0 6 (sl.drop 3)):=by
 unfold Ea.rdSym;rw[show 51-(Ea.Uq 51).length=45 from rfl,show Ea.Uq 51=Ea.eE from rfl,D0 (λh=>h g1),D0 (λh=>h g2)];rw[show Ea.rdK 51 sl=Ea.rdE sl from rfl];unfold Ea.rdE PX;cases h1:Ea.rcg true 0 0 6 (sl.drop 3)with
 |none=>rfl
 |some p=>
  obtain⟨l,u⟩:=p
  dsimp only
  cases hf:Ea.Xq u with
  |none=>rfl
  |some q=>obtain⟨y,c⟩:=q;obtain⟨hy,hc⟩:=Zlm hf;obtain⟨_,a2,_,a4,_⟩:=Ea.rcg_inv true 0 C0 6 _ _ _ h1 YO;rw[YS];dsimp only;have Yk:=BW (k:=4) (l:=Ea.chr y::(l++[Ea.chr c])) I0 (dH a4 hy hc) (by rw[B1,S0,a2];rfl) (λ_=>by rw[SR];rcases(by omega:y=0\/y=1)with rfl|rfl<;>decide);rw[G0 (show(4:Int)=4 from rfl)]at Yk;rw[show Ea.kindOf 51=4 from rfl,Yk];by_cases hg:Ea.Ap (Ea.Bl (Ea.chr y::(l++[Ea.chr c])));(·exact dD);·exact BX
def ZfX(s:ByteArray)(sl:List Bool)(hs:s.data.toList=Ea.mS sl)(hW:sl.length=51)(w:World):
 Calls prog 214 #[.string s] w λe w'=>e=.returned (symV (Ea.rdSym 51 sl))/\Ext w w':=by
 have o4:s.size=51:=BU;have HP:=B0 (λw=>hasP s ⟨#[49,48,49]⟩ Ea.gd sl hs rfl w);have HQ:=B0 (λw=>hasS s ⟨#[48,49,48,49,48,49]⟩ Ea.eE sl hs rfl (by rw[hW];decide) C0 w);rw[show Ea.gd.length=3 from rfl]at HP;rw[hW,show 51-Ea.eE.length=45 from rfl]at HQ;obtain⟨J,hJ⟩:∃J,s.extract 3 45=J:=⟨_,rfl⟩;have Ua:J.data.toList=Ea.mS ((sl.drop 3).take 42):=BV;have HJ:=B0 hJ;have HL:=B0 (TR true 0 6 ((sl.drop 3).take 42) J ⟨#[65,66]⟩ Ua PT C0 C0 (λ_=>rfl) rfl);rw[PS true 0 6 (sl.drop 3),<-hJ]at HL;obtain⟨res,j7⟩:∃res,Ea.rdSym 51 sl=res:=⟨_,rfl⟩;have HX:=B0 (Ea.rdSym.eq_1 51 sl);rw[show 51-(Ea.Uq 51).length=45 from rfl,show Ea.Uq 51=Ea.eE from rfl,j7]at HX;rw[j7];have Iw:=B0 (Zmo sl hW);rw[j7]at Iw;have HIV:=B0 (λl u (h:Ea.rcg true 0 0 6 (sl.drop 3)=some (l,u))=>Ea.rcg_inv true 0 C0 6 _ _ _ h YO);clear hs hW Ua j7 hJ;by_cases g1:sl.take 3=Ea.gd
 .rw[D0 (λh=>h g1)]at HX;rw[C1 g1]at HP;by_cases g2:sl.drop 45=Ea.eE
  .have HS:=B0 (Iw.out g1 g2)
   rw[C1 g2]at HQ
   clear g1 g2 HX Iw
   cases h1:Ea.rcg true 0 0 6 (sl.drop 3)with
   |none=>rw[h1]at HS HL;simp only[recV]at HL;clear h1 HIV;go_enter func214,ntmps214;go_wp2_with fail;refine(HP.out _).mono ?_;rintro e w1 ⟨rfl,rfl⟩;go_wp2_with fail;refine(HQ.out _).mono ?_;rintro e w1 ⟨rfl,rfl⟩;go_wp2_with fail;refine(HL.out _).mono ?_;rintro e w2 ⟨rfl,hx⟩;obtain⟨z0,z1,z2,z3,z4,z5,z6,HB⟩:=X5 hx;have n8:=hx.before;clear hx;go_wp2;refine J2 (Zj results214 rfl (Zm HB) rfl) rfl ?_;exact KA
   |some p=>
    obtain⟨l,u⟩:=p;obtain⟨_,Ug,_,hld,hlm⟩:=HIV.out l u h1;have Fw:∀x∈u,x<3:=λx hx=>Ea.may_lt C0 (hlm x hx);rw[h1]at HS HL;simp only[recV]at HL;have Re:=B0 (And.intro hld Ug);have HU3:=B0 Fw;have Rv:(Ea.bS l).size<=12:=AD;clear h1 HIV Ug hld hlm Fw;obtain⟨L,hL⟩:∃L,Ea.bS l=L:=⟨_,rfl⟩;have Ns:=B0 hL;obtain⟨U,hU⟩:∃U,Ea.bS (Ea.sS u)=U:=⟨_,rfl⟩;have HUU:=B0 hU;rw[hL]at HL Rv;rw[hU]at HL;clear hL hU;go_enter func214,ntmps214;go_wp2_with fail;refine(HP.out _).mono ?_;rintro e w1 ⟨rfl,rfl⟩;go_wp2_with fail;refine(HQ.out _).mono ?_;rintro e w1 ⟨rfl,rfl⟩;go_wp2_with fail;refine(HL.out _).mono ?_;rintro e w2 ⟨rfl,hx⟩;have kc:=λ(w:World)(C:Array Value)(n c:Nat)=>jT (P:=prog) w 90 5 C n c underlying90 underlying5;go_wp2_with fail;clear kc HP HQ HL HJ;obtain⟨w5,Ek⟩:∃w5,w2.alloc (.cells #[.int .u8 48,.int .u8 49] 5 (2,3))=w5:=⟨_,rfl⟩;have aGh:w2.heap.size<w5.heap.size:=(by rw[<-Ek];simp);have To:Hid (∀j:Nat,j<2->w5.cell? ⟨w2.heap.size,j,none⟩=some (.int .u8 (48+(j:Int)))):=B0 (λj hj=>by rw[<-Ek,EO];rcases(by omega:j=0\/j=1)with rfl|rfl<;>rfl);have j5:=hx.alloc (.cells #[.int .u8 48,.int .u8 49] 5 (2,3));rw[Ek]at j5⊢;clear Ek hx;go_loopw [36] (λv36 wr=>∃j:Nat,j<=2/\v36=.int .i64 (j:Int)/\Hid (Ea.Xq u=fE j u)/\Ext w5 wr) (λv36 _=>2-(intOf v36).toNat);(case atStart=>exact⟨0,by omega,rfl,B0 rfl,Ext.refl _⟩);case round=>
     obtain⟨j,hj,rfl,HF,j3⟩:=hrel;by_cases hj2:j<2
     .have Eh:=(j3.cell (p:=⟨w2.heap.size,j,none⟩) aGh).trans (To.out j hj2)
      have Wx:=B0 (λw=>bK j hj2 w)
      unfold arrV at Wx
      obtain⟨Q,hQ⟩:∃Q,((Ea.Cu j).map Value.string).toArray=Q:=⟨_,rfl⟩
      have Gy:(Ea.Cu j).length=10:=by rcases(by omega:j=0\/j=1)with rfl|rfl<;>rfl
      have Rx:Q.size=10:=by rw[<-hQ];simp[Gy]
      have Ic:Hid (Q.all (·.oneCell')=true):=B0 BS
      have HQd:Hid (∀i,i<10->Q[i]? =some (.string ((Ea.Cu j).getD i ByteArray.empty))):=B0 (λi hi=>by rw[<-hQ];simp only[RI,B3];rw[P0 TS,F1,P0 TS];rfl)
      have Nv:=B0 Gy
      have HCI:=B0 (Ea.aFM j u HU3.out)
      rw[HUU.out]at HCI
      rw[hQ]at Wx
      clear hQ Gy
      go_wp2_with fail
      refine(Wx.out _).mono ?_
      rintro e w4 ⟨rfl,j9⟩
      have p9:=TA Q Rx Ic.out w4
      have Rf:=B0 (λi hi=>R7 Q 210 w4 (HQd.out i hi))
      go_wp2_with fail
      obtain⟨w6,hw6⟩:∃w6,w4.alloc (.cells Q 210)=w6:=⟨_,rfl⟩
      have o9:=(j3.trans j9).alloc (.cells Q 210)
      rw[hw6]at o9 Rf⊢
      have IX:=B0 (Tryz.slices_Index_string w4.heap.size 0 10 10 (Ea.Cu j) U w6 PQ C0 (λi hi=>by rw[Nat.zero_add];exact Rf.out i BT))
      rw[show(Ea.Cu j).take 10=Ea.Cu j from S1 PQ,HCI.out]at IX
      clear p9 hw6 Rf Nv HQd Ic HCI j3 j9 Eh
      cases hf:Ea.idx (if j=0 then Ea.setsE0 else Ea.Nq) u with
      |none=>rw[hf]at IX;simp only[Ea.plcO]at IX;have Al:=B0 (HF.out.trans (AA hj2 hf));clear hf;refine IX.out.mono ?_;rintro e w8 ⟨rfl,rfl⟩;go_wp2;go_roundw;(case rel=>exact⟨j+1,by omega,by go_num,Al,o9⟩);case measure=>exact QH
      |some c=>rw[hf]at IX;simp only[Ea.plcO]at IX;obtain⟨hf1,aFj⟩:=AC hj2 hf;have Al:=B0 (HF.out.trans hf1);clear hf hf1;refine IX.out.mono ?_;rintro e w8 ⟨rfl,rfl⟩;have Am:(Utf8.encode (48+(c:Int))).data.toList=[Ea.chr c]:=(by rw[show(48+(c:Int))=((48+c:Nat):Int) by omega];exact LW (48+c) C0);have IS:(Utf8.encode (48+(j:Int))).data.toList=[Ea.chr j]:=(by rw[show(48+(j:Int))=((48+j:Nat):Int) by omega];exact LW (48+j) C0);have p8:(Utf8.encode (48+(c:Int))).size=1:=Zd Am;have x9:(Utf8.encode (48+(j:Int))).size=1:=Zd IS;obtain⟨CC,hCC⟩:∃CC,Utf8.encode (48+(c:Int))=CC:=⟨_,rfl⟩;obtain⟨CJ,hCJ⟩:∃CJ,Utf8.encode (48+(j:Int))=CJ:=⟨_,rfl⟩;rw[hCC]at Am p8;rw[hCJ]at IS x9;(have IZ:∀w,(convert 21 9 (.int .i32 (48+(c:Int)))).run prog w=.ok (.string CC) w:=λw=>by rw[<-hCC];exact PR w _ _ _ _ N0 underlying9);(have Aa:∀w,(convert 21 9 (.int .i32 (48+(j:Int)))).run prog w=.ok (.string CJ) w:=λw=>by rw[<-hCJ];exact PR w _ _ _ _ N0 underlying9);have Ke:Hid (CJ++L++CC=Ea.bS (Ea.chr j::(l++[Ea.chr c]))):=B0 (by apply Zi;rw[A4,B4,A4,B4,Am,IS,<-Ns.out];rfl);have HR:=B0 (λw=>PK 4 (Ea.bS (Ea.chr j::(l++[Ea.chr c]))) (dH Re.out.1 hj2 aFj) (.inl ⟨rfl,by rw[Zd (Ea.Bw _),B1,S0,Re.out.2];rfl⟩) w);rw[G0 (show(4:Int)=4 from rfl),Ea.Bw,<-Ke.out]at HR;clear Am IS hCC hCJ;by_cases hg:Ea.Ap (Ea.Bl (Ea.chr j::(l++[Ea.chr c])));(·rw[C1 hg]at HR;have HG:Hid (res=((4,Ea.chr j::(l++[Ea.chr c])),0)):=B0 (by rw[HS.out];unfold PX;dsimp only;rw[Al.out];dsimp only;rw[G0 hg]);clear hg;go_wp2_with fail;refine(HR.out _).mono ?_;rintro e w9 ⟨rfl,Bj⟩;have hx:=(j5.trans o9).trans Bj;obtain⟨z0,z1,z2,z3,z4,z5,z6,HB⟩:=X5 hx;have n8:=hx.before;clear j5 o9 Bj hx;go_wp2;refine J2 (Zj results214 rfl (Zm HB) rfl) rfl ?_;exact dG);·rw[G1 hg]at HR;have HG:Hid (res=((0,[]),8)):=B0 (by rw[HS.out];unfold PX;dsimp only;rw[Al.out];dsimp only;rw[D0 hg]);clear hg;go_wp2_with fail;refine(HR.out _).mono ?_;rintro e w9 ⟨rfl,Bj⟩;have hx:=(j5.trans o9).trans Bj;obtain⟨z0,z1,z2,z3,z4,z5,z6,HB⟩:=X5 hx;have n8:=hx.before;clear j5 o9 Bj hx;exact dI
     .obtain rfl:j=2:=C0;have HG:Hid (res=((0,[]),18)):=B0 (by rw[HS.out];unfold PX;dsimp only;rw[HF.out];rfl);have hx:=j5.trans j3;obtain⟨z0,z1,z2,z3,z4,z5,z6,HB⟩:=X5 hx;have n8:=hx.before;clear j5 j3 hx;exact dI
  .have HS:Hid (res=((0,[]),20)):=B0 (by rw[HX.out,G0 g2]);rw[G1 g2]at HQ;clear g1 g2 HX Iw HIV HL;go_enter func214,ntmps214;go_wp2_with fail;refine(HP.out _).mono ?_;rintro e w1 ⟨rfl,rfl⟩;go_wp2_with fail;refine(HQ.out _).mono ?_;rintro e w1 ⟨rfl,rfl⟩;go_wp2;go_returns;exact KA
 .have HS:Hid (res=((0,[]),19)):=B0 (by rw[HX.out,G0 g1]);rw[G1 g1]at HP;clear g1 HX Iw HIV HL HQ;go_enter func214,ntmps214;go_wp2_with fail;refine(HP.out _).mono ?_;rintro e w1 ⟨rfl,rfl⟩;go_wp2;go_returns;exact KA
end Go.Proofs.Enc
namespace Go.Proofs.Enc
open Go.Proofs.Tryz
open Go.RowKit
def Y5:Nat->List Bool->List UInt8->List Nat->Option (List UInt8×List Nat)
 |0,_,_,_=>none
 |m+1,s,ds,us=>match Ea.look true 0 (s.take 7)with
  |none=>none
  |some (d,u)=>if m=0 then some (ds++[Ea.chr d],us++[u])
   else if(s.drop 7).take 2=Ea.gA then Y5 m (s.drop 9) (ds++[Ea.chr d]) (us++[u])else none
def Zip:∀(m:Nat)(s:List Bool)(ds:List UInt8)(us:List Nat),Y5 (m+1) s ds us=
 if(List.range m).all (λi=>(s.drop (7+9*i)).take 2==Ea.gA)then(Ea.rcg true 0 2 (m+1) s).map (λp=>(ds++p.1,us++p.2))else none:=by
 intro m
 induction m with
 |zero=>
  intro s ds us
  rw[show(List.range 0).all (λi=>(s.drop (7+9*i)).take 2==Ea.gA)=true from rfl,G0 rfl]
  unfold Y5 Ea.rcg
  cases Ea.look true 0 (s.take 7)with
  |none=>rfl
  |some p=>rfl
 |succ m ih=>
  intro s ds us
  rw[Y5,Ea.rcg]
  cases hl:Ea.look true 0 (s.take 7)with
  |none=>dsimp only;split<;>rfl
  |some p=>
   obtain⟨d,u⟩:=p;dsimp only;rw[D0 C0,List.range_succ_eq_map,KC,List.all_map];by_cases hg:(s.drop 7).take 2=Ea.gA
   .rw[G0 hg,ih,show((List.drop (7+9*0) s).take 2==Ea.gA)=true from I1.2 hg,KD];have e:((λi=>(s.drop (7+9*i)).take 2==Ea.gA)∘Nat.succ)=λi=>((s.drop 9).drop (7+9*i)).take 2==Ea.gA:=(by funext i;simp only[Function.comp,P4];rw[show 7+9*i.succ=9+(7+9*i) by omega]);rw[e,show 7+2=9 from rfl];split
    .cases Ea.rcg true 0 2 (m+1) (s.drop 9)with
     |none=>rfl
     |some q=>simp[Ea.chr]
    .rfl
   .rw[D0 hg,show((List.drop (7+9*0) s).take 2==Ea.gA)=false from O0.2 hg,TU];rfl
def addP(r:Option (List UInt8×List Nat)):List UInt8×Int:=match r with
 |none=>([],18)
 |some (l,u)=>if Ea.Da l≠u then([],8)else(l,0)
def ZnG(m:Nat)(sl:List Bool)(g:sl.take 4=Ea.sA):Ea.rdAdd (m+1) sl=addP (Y5 (m+1) (sl.drop 4) [] []):=by
 unfold Ea.rdAdd;rw[D0 (λh=>h g),Zip,TI];have e:(λi=>((sl.drop 4).drop (7+9*i)).take 2==Ea.gA)=λi=>(sl.drop (11+9*i)).take 2==Ea.gA:=by funext i;rw[P4,show 4+(7+9*i)=11+9*i by omega]
 rw[e];cases h:(List.range m).all (λi=>(sl.drop (11+9*i)).take 2==Ea.gA);·rw[G0 rfl];rfl
 .rw[D0 L0,G0 rfl]
  cases Ea.rcg true 0 2 (m+1) (sl.drop 4)with
  |none=>rfl
  |some p=>rfl
def addV(r:List UInt8×Int):Value:=.tuple #[.string (Ea.bS r.1),.int .i64 r.2]
def Znv(s:List Bool):Ea.rcg true 0 0 1 s=(Ea.look true 0 (s.take 7)).map (λp=>([Ea.chr p.1],[p.2])):=by
 unfold Ea.rcg;cases Ea.look true 0 (s.take 7)with
 |none=>rfl
 |some p=>rfl
def Zgd{a:List UInt8}(h:a.length=2\/a.length=5):∀x∈Ea.Da a,x<3:=λx hx=>by have:=(Ea.setsAdd_ok h).2 x hx;omega
def ZfV(n:Nat)(hn:n=2\/n=5)(s:ByteArray)(sl:List Bool)(hs:s.data.toList=Ea.mS sl)(hW:sl.length=Ea.Co n)(w:World):
 Calls prog 215 #[.string s] w λe w'=>e=.returned (addV (Ea.rdAdd n sl))/\Ext w w':=by
 have hW2:sl.length=9*n+2:=by rw[hW];rcases hn with rfl|rfl<;>rfl
 have o4:s.size=9*n+2:=by rw[Zd hs,Ea.Lk,hW2]
 have aJK:s.size<=47:=by omega
 have aJJ:20<=s.size:=by omega
 have HP:=B0 (λw=>hasP s ⟨#[49,48,49,49]⟩ Ea.sA sl hs rfl w);rw[show Ea.sA.length=4 from rfl]at HP;obtain⟨res,j7⟩:∃res,Ea.rdAdd n sl=res:=⟨_,rfl⟩;rw[j7];have HX:=B0 (Ea.rdAdd.eq_1 n sl);rw[j7]at HX;have HN:=B0 hn;have Bv:Hid (sl.take 4=Ea.sA->res=addP (Y5 n (sl.drop 4) [] [])):=B0 (λg=>by rw[<-j7];obtain⟨m,rfl⟩:∃m,n=m+1:=⟨n-1,by omega⟩;exact ZnG m sl g);have HJ:Hid ((s.extract 4 s.size).data.toList=Ea.mS (sl.drop 4)):=B0 (by rw[Z8,hs,Ea.Wo]);have HW2:=B0 hW2;have Vb:=B0 o4;clear j7 hs hW hW2 o4;by_cases g1:sl.take 4=Ea.sA
 .rw[C1 g1]at HP;have HS:=B0 (Bv.out g1);clear g1 HX Bv;go_enter func215,ntmps215;go_wp2_with fail;refine(HP.out _).mono ?_;rintro e w1 ⟨rfl,rfl⟩;go_wp2_with fail;go_loopw [4,5,6] (λv4 v5 v6 wr=>∃(k:Nat)(D T R:ByteArray)(ds:List UInt8)(us:List Nat),k<n/\v4=.string D/\v5=.string T/\v6=.string R/\Hid (R.data.toList=Ea.mS (sl.drop (4+9*k)))/\Hid (D.data.toList=ds)/\Hid (T.data.toList=Ea.sS us)/\D.size=k/\T.size=k/\Hid (Ea.o6 ds=true/\∀x∈us,x<3)/\Hid (Y5 n (sl.drop 4) [] []=Y5 (n-k) (sl.drop (4+9*k)) ds us)/\Ext w wr) (λ_ _ v6 _=>match v6 with| .string R=>R.size|_=>0);(case atStart=>exact⟨0,⟨#[]⟩,⟨#[]⟩,_,[],[],by omega,rfl,rfl,rfl,HJ,B0 rfl,B0 rfl,rfl,rfl,B0 ⟨rfl,by simp⟩,B0 rfl,Ext.refl w⟩);case round=>
   obtain⟨k,D,T,R,ds,us,hk,rfl,rfl,rfl,HR,HD,HT,Ky,Rz,HDU,Wv,j3⟩:=hrel
   have Me:R.size=9*(n-k)-2:=by rw[Zd HR.out,Ea.Lk,X1,HW2.out];omega
   have hR7:7<=R.size:=by omega
   have aIH:R.size<=47:=by omega
   have Iv:=B0 Me
   have hD5:D.size<=5:=T9
   have Yd:T.size<=5:=T9
   have Ra:=B0 (And.intro Ky Rz)
   have It:=B0 (λw=>TR true 0 1 ((sl.drop (4+9*k)).take 7) (R.extract 0 7) ⟨#[65,66]⟩ (by rw[Zx,HR.out,Ea.Wp]) (by rw[J1,X1,HW2.out];omega) C0 C0 (λ_=>rfl) rfl w)
   rw[Znv,UV,Nat.min_self]at It
   clear Me Ky Rz
   obtain⟨q,hq⟩:∃q,n-k=q+1:=⟨n-k-1,by omega⟩
   cases hl:Ea.look true 0 ((sl.drop (4+9*k)).take 7)with
   |none=>rw[hl]at It;simp only[Option.map,recV]at It;have HG:Hid (res=([],18)):=B0 (by rw[HS.out,Wv.out,hq,Y5,hl];rfl);clear hl hq;go_wp2_with fail;refine(It.out _).mono ?_;rintro e w3 ⟨rfl,j4⟩;exact dJ
   |some p=>obtain⟨d,u⟩:=p;obtain⟨Se,_,aDx⟩:=Ea.look_some C0 hl;have Fw:u<3:=Ea.may_lt C0 aDx;rw[hl]at It;simp only[Option.map,recV]at It;have aA4:Hid (Y5 n (sl.drop 4) [] []=if q=0 then some (ds++[Ea.chr d],us++[u])else if((sl.drop (4+9*k)).drop 7).take 2=Ea.gA then Y5 q ((sl.drop (4+9*k)).drop 9) (ds++[Ea.chr d]) (us++[u])else none):=B0 (by rw[Wv.out,hq,Y5,hl]);obtain⟨CD,Pb⟩:∃CD,Ea.bS [Ea.chr d]=CD:=⟨_,rfl⟩;obtain⟨CT,Xy⟩:∃CT,Ea.bS (Ea.sS [u])=CT:=⟨_,rfl⟩;have p8:CD.size=1:=(by rw[<-Pb];rfl);have x9:CT.size=1:=(by rw[<-Xy];rfl);rw[Pb,Xy]at It;have Dl:Hid ((D++CD:ByteArray).data.toList=ds++[Ea.chr d]):=B0 (by rw[A4,B4,HD.out,<-Pb];rfl);have Ad:Hid ((T++CT:ByteArray).data.toList=Ea.sS (us++[u])):=B0 (by rw[A4,B4,HT.out,Ea.aE9,<-Xy];rfl);have aBx:Hid (Ea.o6 (ds++[Ea.chr d])=true/\∀x∈us++[u],x<3):=B0 ⟨Ea.aAw.2 ⟨HDU.out.1,Ea.Vk (PV Se) rfl⟩,λx hx=>by rcases E3.1 hx with h|h;(·exact HDU.out.2 x h);·rw[D3.1 h];exact Fw⟩;have aA7:Hid ((D++CD:ByteArray).size=k+1/\(T++CT:ByteArray).size=k+1):=B0 (by rw[ZZ,ZZ,p8,x9,Ra.out.1,Ra.out.2];exact⟨rfl,rfl⟩);have HQ:=B0 hq;clear hl hq Se aDx Fw Pb Xy;obtain⟨D2,hD2⟩:∃D2,D++CD=D2:=⟨_,rfl⟩;obtain⟨T2,Ry⟩:∃T2,T++CT=T2:=⟨_,rfl⟩;rw[hD2]at Dl aA7;rw[Ry]at Ad aA7;by_cases Ht:q=0;(·have aBX:Hid (Y5 n (sl.drop 4) [] []=some (ds++[Ea.chr d],us++[u])):=B0 (by rw[aA4.out,G0 Ht]);have hb7:((R.size:Int)==7)=true:=(by rw[I1];have:=Iv.out;exact YC);have Tm:=B0 (λw=>BO D2 (by rw[aA7.out.1];have:=HN.out;have:=HQ.out;omega) (by rw[Dl.out];exact aBx.out.1) w);obtain⟨X,hX⟩:∃X,Ea.bS (Ea.sS (Ea.Da D2.data.toList))=X:=⟨_,rfl⟩;have HC:Hid ((T2.toList==X.toList)=decide (Ea.Da (ds++[Ea.chr d])=us++[u])):=B0 (by rw[K4,I1,G2,<-hX,I2,I2,Ad.out,Dl.out,Ea.Bw];constructor;(·intro h;exact(Ea.aCw aBx.out.2 (Zgd (by rw[<-Dl.out,Za,aA7.out.1];have:=HN.out;have:=HQ.out;omega)) h).symm);·intro h;rw[h]);rw[hX]at Tm;clear Ht hX aA4;go_wp2_with fail;refine(It.out _).mono ?_;rintro e w3 ⟨rfl,j4⟩;go_wp2_with fail;refine(Tm.out _).mono ?_;rintro e w4 ⟨rfl,j9⟩;cases hc:(T2.toList==X.toList);(·have HG:Hid (res=([],8)):=B0 (by have h:=HC.out;rw[hc]at h;rw[HS.out,aBX.out];unfold addP;dsimp only;rw[G0 (OW h.symm)]);go_wp2;go_ret2;exact⟨by rw[HG.out];rfl,(j3.trans j4).trans j9⟩);·have HG:Hid (res=(ds++[Ea.chr d],0)):=B0 (by have h:=HC.out;rw[hc]at h;rw[HS.out,aBX.out];unfold addP;dsimp only;rw[D0 (λhh=>hh (D4 h.symm))]);have HDD:Hid (D2=Ea.bS (ds++[Ea.chr d])):=B0 (by rw[<-Dl.out,Ea.Xm]);go_wp2;go_ret2;exact⟨by rw[HG.out];unfold addV;dsimp only;rw[<-HDD.out];rfl,(j3.trans j4).trans j9⟩);·have hb7:((R.size:Int)==7)=false:=(by rw[O0];have:=Iv.out;exact YC);have hR9:9<=R.size:=(by have:=Iv.out;exact YC);have Dq:Hid ((R.extract 7 R.size).data.toList=Ea.mS ((sl.drop (4+9*k)).drop 7)):=B0 (by rw[Z8,HR.out,Ea.Wo]);have Ou:Hid ((R.extract 9 R.size).data.toList=Ea.mS (sl.drop (4+9*(k+1)))):=B0 (by rw[Z8,HR.out,Ea.Wo,P4,show 4+9*k+9=4+9*(k+1) by omega]);have HPG:=B0 (λw=>hasP (R.extract 7 R.size) ⟨#[48,49]⟩ Ea.gA _ Dq.out rfl w);rw[show Ea.gA.length=2 from rfl]at HPG;by_cases hg:((sl.drop (4+9*k)).drop 7).take 2=Ea.gA;(·have aBX:Hid (Y5 n (sl.drop 4) [] []=Y5 (n-(k+1)) (sl.drop (4+9*(k+1))) (ds++[Ea.chr d]) (us++[u])):=B0 (by rw[aA4.out,D0 Ht,G0 hg,P4,show 4+9*k+9=4+9*(k+1) by omega,show n-(k+1)=q by have:=HQ.out;omega]);have Dy:k+1<n:=YC;rw[C1 hg]at HPG;clear hg Ht aA4;go_wp2_with fail;refine(It.out _).mono ?_;rintro e w3 ⟨rfl,j4⟩;go_wp2_with fail;refine(HPG.out _).mono ?_;rintro e w4 ⟨rfl,rfl⟩;go_wp2;go_roundw;(case rel=>exact⟨k+1,_,_,_,_,_,Dy,rfl,rfl,rfl,Ou,Dl,Ad,aA7.out.1,aA7.out.2,aBx,aBX,j3.trans j4⟩);case measure=>exact X0);·have HG:Hid (res=([],18)):=B0 (by rw[HS.out,aA4.out,D0 Ht,D0 hg];rfl);rw[G1 hg]at HPG;clear hg Ht aA4;go_wp2_with fail;refine(It.out _).mono ?_;rintro e w3 ⟨rfl,j4⟩;go_wp2_with fail;refine(HPG.out _).mono ?_;rintro e w4 ⟨rfl,rfl⟩;exact dJ
 .have HS:Hid (res=([],19)):=B0 (by rw[HX.out,G0 g1]);rw[G1 g1]at HP;clear g1 HX Bv HJ;go_enter func215,ntmps215;go_wp2_with fail;refine(HP.out _).mono ?_;rintro e w1 ⟨rfl,rfl⟩;go_wp2;go_ret2;exact KA
end Go.Proofs.Enc
namespace Go.Proofs.Enc
open Go.Proofs.Tryz
open Go.RowKit
def ZmD(g:Nat):∀l:List Bool,l.length=g->(l=Ea.lgt g↔l.all (λb=> !b)=true):=by
 intro l hl;unfold Ea.lgt;rw[List.eq_replicate_iff,M1];constructor;·rintro⟨_,h⟩ b hb;rw[h b hb];rfl
 .intro h;exact⟨hl,λb hb=>by have:=h b hb;simpa using this⟩
def Zlq(n a:Nat)(hn:n<=95)(ha:a=0\/a=2\/a=5)(s:ByteArray)(sl:List Bool)(hs:s.data.toList=Ea.mS sl)(hW:sl.length<=65536)(w:World):
 Calls prog 138 #[.string s,.int .i64 (n:Int),.int .i64 (a:Int)] w λe w'=>e=.returned (.bool (Ea.fits sl n a))/\Ext w w':=by
 have hz:s.size=sl.length:=VD;have o4:s.size<=65536:=by omega
 have HA:=B0 (λw=>LE a ha w);obtain⟨W,Jl⟩:∃W,Ea.Co a=W:=⟨_,rfl⟩;have aIJ:W<=47:=by rw[<-Jl];rcases ha with rfl|rfl|rfl<;>decide
 rw[Jl]at HA;obtain⟨res,j7⟩:∃res,Ea.fits sl n a=res:=⟨_,rfl⟩;have HX:=B0 j7;unfold Ea.fits at HX;rw[j7];rw[Jl,<-hz]at HX;by_cases h0:a=0
 .have HR:Hid (res=((s.size:Int)-(n:Int)-(W:Int)==0)):=B0 (by rw[<-HX.out,G0 h0];have:W=0:=(by rw[<-Jl,h0];rfl);rw[this,K4,I1,I1];omega);have hb:((a:Int)==0)=true:=TK;clear h0 j7 Jl HX ha hs hz hW;go_enter func138,ntmps138;go_wp2_with fail;refine(HA.out _).mono ?_;rintro e w1 ⟨rfl,rfl⟩;go_wp2;go_ret;exact⟨by rw[HR.out];rfl,Xf⟩
 .rw[D0 h0]at HX;have hb:((a:Int)==0)=false:=QJ;have HL:Hid (s.data.toList=Ea.mS sl):=B0 hs;have HZ:=B0 hz;clear h0 j7 Jl ha hs hz hW;by_cases h7:n+W+7<=s.size;(·rw[C1 h7,KD]at HX;by_cases Kx:s.size<=n+W+12;(·rw[C1 Kx,KD]at HX;obtain⟨g,hg⟩:∃g,s.size-n-W=g:=⟨_,rfl⟩;have hgi:(s.size:Int)-(n:Int)-(W:Int)=(g:Int):=C0;have HRP:=B0 (λw=>YA g C0 w);rw[show s.size-n-W=g from hg]at HX;have x8:(s.extract n (n+g)).data.toList=Ea.mS ((sl.drop n).take g):=(by rw[Zr,HL.out,Ea.Wo,Ea.Wp,RG]);have HC:Hid (((s.extract n (n+g)).toList==(Ea.bS (Ea.mS (Ea.lgt g))).toList)=res):=B0 (by rw[<-HX.out,I2,I2,x8,Ea.Bw,K4,I1,Ea.aBO];exact ZmD g _ (by rw[J1,X1,<-HZ.out];omega));have Kk:decide ((7:Int)<=(g:Int))=true:=C1 C0;have Cw:decide ((g:Int)<=12)=true:=C1 C0;have aIY:g<=12:=C0;have hle:n+g<=s.size:=C0;clear hg x8;obtain⟨Z,hZ⟩:∃Z,Ea.bS (Ea.mS (Ea.lgt g))=Z:=⟨_,rfl⟩;rw[hZ]at HRP HC;clear hZ;go_enter func138,ntmps138;go_wp2_with fail;refine(HA.out _).mono ?_;rintro e w1 ⟨rfl,rfl⟩;go_wp2_with fail;refine T6 (C:=λw'=>∃x:Zw w,w'=x.at') N0 N0 (Zw.drawn _) ?_;(try dsimp only);(repeat(first|go_big_quiet_step ((go_at_call 109;with_reducible exact Zq (HRP.out _)))|quiet_step ((go_at_call 109;with_reducible exact Zq (HRP.out _)))));refine U6 ?_;intro _ n9;obtain⟨x0,n9⟩:=n9;subst n9;obtain⟨w8,Hb⟩:=x0;(try dsimp only);go_wp2;go_ret;exact⟨by rw[<-HC.out];rfl,Hb⟩);·rw[G1 Kx,TU]at HX;have Kk:decide ((7:Int)<=(s.size:Int)-(n:Int)-(W:Int))=true:=C1 C0;have Cw:decide ((s.size:Int)-(n:Int)-(W:Int)<=12)=false:=G1 C0;exact dK);·rw[G1 h7,TU,TU]at HX;have Kk:decide ((7:Int)<=(s.size:Int)-(n:Int)-(W:Int))=false:=G1 C0;exact dK
end Go.Proofs.Enc
end
section
namespace Go.Proofs.Enc
open Go.Proofs.Tryz
open Go.RowKit
def gotV(r:Ea.Got):Value:=.tuple #[linV r.1.1 r.1.2.1 r.1.2.2,.int .i64 r.2]
def Zmr(s:ByteArray)(sl:List Bool)(hs:s.data.toList=Ea.mS sl)(h:95<=sl.length)(w:World):
 Calls prog 212 #[.string (s.extract 0 95)] w λe w'=>e=.returned (symV (Ea.rdSym 95 (sl.take 95)))/\Ext w w':=
 ZgL _ _ AE V6 w
def Zk9(s:ByteArray)(sl:List Bool)(hs:s.data.toList=Ea.mS sl)(h:67<=sl.length)(w:World):
 Calls prog 213 #[.string (s.extract 0 67)] w λe w'=>e=.returned (symV (Ea.rdSym 67 (sl.take 67)))/\Ext w w':=
 ZfW _ _ AE V6 w
def ZkA(s:ByteArray)(sl:List Bool)(hs:s.data.toList=Ea.mS sl)(h:51<=sl.length)(w:World):
 Calls prog 214 #[.string (s.extract 0 51)] w λe w'=>e=.returned (symV (Ea.rdSym 51 (sl.take 51)))/\Ext w w':=
 ZfX _ _ AE V6 w
def AF(a:Nat)(ha:a=2\/a=5)(s:ByteArray)(sl:List Bool)(hs:s.data.toList=Ea.mS sl)(h:Ea.Co a<=sl.length)(w:World):
 Calls prog 215 #[.string (s.extract (s.size-Ea.Co a) s.size)] w λe w'=>e=.returned (addV (Ea.rdAdd a (sl.drop (sl.length-Ea.Co a))))/\Ext w w':=by
 have hz:s.size=sl.length:=VD;exact ZfV a ha _ _ (by rw[Z8,hs,Ea.Wo,hz]) YO w
end Go.Proofs.Enc
namespace Go.Proofs.Enc
open Go.Proofs.Tryz
open Go.RowKit
def Zk{w:World}{b:Nat}{x y z:Value}{t:TypeId}(h:w.heap[b]? =some (.cells #[x,y,z] t (0,0))):
 b<w.heap.size/\w.cell? ⟨b,0,none⟩=some x/\w.cell? ⟨b,1,none⟩=some y/\w.cell? ⟨b,2,none⟩=some z/\
  w.frozen? ⟨b,0,none⟩=false/\w.frozen? ⟨b,1,none⟩=false/\w.frozen? ⟨b,2,none⟩=false/\Hid (w.heap[b]? =some (.cells #[x,y,z] t (0,0))):=
 ⟨(V3.1 h).1,Zv h rfl,Zv h rfl,Zv h rfl,ZX h,ZX h,ZX h,B0 h⟩
def Zf{w w':World}{b:Nat}{o:Obj}(h:w.heap[b]? =some o)(hx:Ext w w'):w'.heap[b]? =some o:=gQ
def ZO{w w':World}{b:Nat}{o:Obj}(hb:w.heap.size=b)(h:Ext (w.alloc o) w'):w'.heap[b]? =some o:=by subst hb;exact Zf (X2 _ _) h
def AG(n:Nat)(s:List Bool)(h:(Ea.rdSym n s).2≠0):(Ea.rdSym n s).1=(0,[]):=by
 unfold Ea.rdSym at h⊢;split;·rfl
 .rename_i h1;rw[D0 h1]at h;split;(·rfl)
  .rename_i h2
   rw[D0 h2]at h
   cases hk:Ea.rdK n s with
   |none=>rfl
   |some l=>rw[hk]at h;dsimp only at h⊢;split;(·rfl);·rename_i h3;rw[D0 h3]at h;split at h<;>exact absurd rfl h
def Z6{w:World}{b g i:Nat}{o:Option Obj}{u:Value}(k7:b≠g)(h:w.heap[g]? =o):(w.setCell ⟨b,i,none⟩ u).heap[g]? =o:=by simp[World.setCell,RW,k7];exact h
def Zjf(a:Nat)(ha:a=0\/a=2\/a=5)(s:ByteArray)(sl:List Bool)(hs:s.data.toList=Ea.mS sl)(hl:95+Ea.Co a<=sl.length)(hW:sl.length<=65536)(w:World):
 Calls prog 139 #[.string s,.int .i64 95,.int .i64 (a:Int)] w λe w'=>e=.returned (gotV (Ea.He sl 95 a))/\Ext w w':=by
 have hz:s.size=sl.length:=VD;have p8:95<=s.size:=by omega
 have x9:s.size<=65536:=by omega
 have HS:=B0 (Zmr s sl hs C0);have Ol:=B0 (λw=>LE a ha w);have Bv:Hid (a≠0->∀w,Calls prog 215 #[.string (s.extract (s.size-Ea.Co a) s.size)] w λe w'=>e=.returned (addV (Ea.rdAdd a (sl.drop (sl.length-Ea.Co a))))/\Ext w w'):=
  B0 (λh0 w=>AF a (ha.resolve_left h0) s sl hs C0 w)
 obtain⟨W,Jl⟩:∃W,Ea.Co a=W:=⟨_,rfl⟩;have hWs:W<=s.size:=by omega
 obtain⟨⟨⟨k,t⟩,er⟩,hr⟩:∃r,Ea.rdSym 95 (sl.take 95)=r:=⟨_,rfl⟩;have hzr:er≠0->k=0/\t=[]:=λh=>by have:=AG 95 (sl.take 95) (by rw[hr];exact h);exact AH
 obtain⟨⟨al,ae⟩,Sx⟩:∃r,Ea.rdAdd a (sl.drop (sl.length-W))=r:=⟨_,rfl⟩;obtain⟨res,j7⟩:∃res,Ea.He sl 95 a=res:=⟨_,rfl⟩;have HX:=B0 j7;unfold Ea.He at HX;rw[hr,Jl,Sx]at HX;rw[hr]at HS;rw[Jl]at Ol Bv;rw[Sx]at Bv;rw[j7];unfold symV linV at HS;unfold addV at Bv;dsimp only at HS HX Bv;have HZR:=B0 hzr;clear hs hr j7 hz hl hW Sx Jl hzr;obtain⟨T,hT⟩:∃T,Ea.bS t=T:=⟨_,rfl⟩;have HT:=B0 hT;rw[hT]at HS;obtain⟨AL,Fq⟩:∃AL,Ea.bS al=AL:=⟨_,rfl⟩;have Wv:=B0 Fq;rw[Fq]at Bv;clear hT Fq;by_cases h0:er=0
 .exact Qa
 .exact Qq
def Zje(a:Nat)(ha:a=0\/a=2\/a=5)(s:ByteArray)(sl:List Bool)(hs:s.data.toList=Ea.mS sl)(hl:67+Ea.Co a<=sl.length)(hW:sl.length<=65536)(w:World):
 Calls prog 139 #[.string s,.int .i64 67,.int .i64 (a:Int)] w λe w'=>e=.returned (gotV (Ea.He sl 67 a))/\Ext w w':=by
 have hz:s.size=sl.length:=VD;have p8:67<=s.size:=by omega
 have x9:s.size<=65536:=by omega
 have HS:=B0 (Zk9 s sl hs C0);have Ol:=B0 (λw=>LE a ha w);have Bv:Hid (a≠0->∀w,Calls prog 215 #[.string (s.extract (s.size-Ea.Co a) s.size)] w λe w'=>e=.returned (addV (Ea.rdAdd a (sl.drop (sl.length-Ea.Co a))))/\Ext w w'):=
  B0 (λh0 w=>AF a (ha.resolve_left h0) s sl hs C0 w)
 obtain⟨W,Jl⟩:∃W,Ea.Co a=W:=⟨_,rfl⟩;have hWs:W<=s.size:=by omega
 obtain⟨⟨⟨k,t⟩,er⟩,hr⟩:∃r,Ea.rdSym 67 (sl.take 67)=r:=⟨_,rfl⟩;have hzr:er≠0->k=0/\t=[]:=λh=>by have:=AG 67 (sl.take 67) (by rw[hr];exact h);exact AH
 obtain⟨⟨al,ae⟩,Sx⟩:∃r,Ea.rdAdd a (sl.drop (sl.length-W))=r:=⟨_,rfl⟩;obtain⟨res,j7⟩:∃res,Ea.He sl 67 a=res:=⟨_,rfl⟩;have HX:=B0 j7;unfold Ea.He at HX;rw[hr,Jl,Sx]at HX;rw[hr]at HS;rw[Jl]at Ol Bv;rw[Sx]at Bv;rw[j7];unfold symV linV at HS;unfold addV at Bv;dsimp only at HS HX Bv;have HZR:=B0 hzr;clear hs hr j7 hz hl hW Sx Jl hzr;obtain⟨T,hT⟩:∃T,Ea.bS t=T:=⟨_,rfl⟩;have HT:=B0 hT;rw[hT]at HS;obtain⟨AL,Fq⟩:∃AL,Ea.bS al=AL:=⟨_,rfl⟩;have Wv:=B0 Fq;rw[Fq]at Bv;clear hT Fq;by_cases h0:er=0
 .exact Qa
 .exact Qq
def Zjd(a:Nat)(ha:a=0\/a=2\/a=5)(s:ByteArray)(sl:List Bool)(hs:s.data.toList=Ea.mS sl)(hl:51+Ea.Co a<=sl.length)(hW:sl.length<=65536)(w:World):
 Calls prog 139 #[.string s,.int .i64 51,.int .i64 (a:Int)] w λe w'=>e=.returned (gotV (Ea.He sl 51 a))/\Ext w w':=by
 have hz:s.size=sl.length:=VD;have p8:51<=s.size:=by omega
 have x9:s.size<=65536:=by omega
 have HS:=B0 (ZkA s sl hs C0);have Ol:=B0 (λw=>LE a ha w);have Bv:Hid (a≠0->∀w,Calls prog 215 #[.string (s.extract (s.size-Ea.Co a) s.size)] w λe w'=>e=.returned (addV (Ea.rdAdd a (sl.drop (sl.length-Ea.Co a))))/\Ext w w'):=
  B0 (λh0 w=>AF a (ha.resolve_left h0) s sl hs C0 w)
 obtain⟨W,Jl⟩:∃W,Ea.Co a=W:=⟨_,rfl⟩;have hWs:W<=s.size:=by omega
 obtain⟨⟨⟨k,t⟩,er⟩,hr⟩:∃r,Ea.rdSym 51 (sl.take 51)=r:=⟨_,rfl⟩;have hzr:er≠0->k=0/\t=[]:=λh=>by have:=AG 51 (sl.take 51) (by rw[hr];exact h);exact AH
 obtain⟨⟨al,ae⟩,Sx⟩:∃r,Ea.rdAdd a (sl.drop (sl.length-W))=r:=⟨_,rfl⟩;obtain⟨res,j7⟩:∃res,Ea.He sl 51 a=res:=⟨_,rfl⟩;have HX:=B0 j7;unfold Ea.He at HX;rw[hr,Jl,Sx]at HX;rw[hr]at HS;rw[Jl]at Ol Bv;rw[Sx]at Bv;rw[j7];unfold symV linV at HS;unfold addV at Bv;dsimp only at HS HX Bv;have HZR:=B0 hzr;clear hs hr j7 hz hl hW Sx Jl hzr;obtain⟨T,hT⟩:∃T,Ea.bS t=T:=⟨_,rfl⟩;have HT:=B0 hT;rw[hT]at HS;obtain⟨AL,Fq⟩:∃AL,Ea.bS al=AL:=⟨_,rfl⟩;have Wv:=B0 Fq;rw[Fq]at Bv;clear hT Fq;by_cases h0:er=0
 .exact Qa
 .exact Qq
end Go.Proofs.Enc
namespace Go.Proofs.Enc
open Go.Proofs.Tryz
open Go.RowKit
def wsL:List Nat:=[95,67,51]
def dsL:List Nat:=[0,2,5]
def ZlK(n a:Nat)(hn:n=95\/n=67\/n=51)(ha:a=0\/a=2\/a=5)(s:ByteArray)(sl:List Bool)(hs:s.data.toList=Ea.mS sl)(hf:Ea.fits sl n a=true)(hW:sl.length<=65536)(w:World):
 Calls prog 139 #[.string s,.int .i64 (n:Int),.int .i64 (a:Int)] w λe w'=>e=.returned (gotV (Ea.He sl n a))/\Ext w w':=by
 have hl:n+Ea.Co a<=sl.length:=by unfold Ea.fits at hf;split at hf;(·rename_i h0;subst h0;have:sl.length=n:=KE;rw[show Ea.Co 0=0 from rfl];omega);·simp only[P1,G2]at hf;omega
 rcases hn with rfl|rfl|rfl
 .exact Zjf a ha s sl hs hl hW w
 .exact Zje a ha s sl hs hl hW w
 .exact Zjd a ha s sl hs hl hW w
def E7(i j:Nat):List (Nat×Nat):=Ea.aBU.drop (3*i+j)
def Zl0:∀i j,i<3->j<3->E7 i j=(wsL.getD i 0,dsL.getD j 0)::E7 i (j+1):=by
 intro i j hi hj;have h:∀i j:Fin 3,E7 i.1 j.1=(wsL.getD i.1 0,dsL.getD j.1 0)::E7 i.1 (j.1+1):=by decide
 exact h ⟨i,hi⟩ ⟨j,hj⟩
def ZiR(i:Nat):E7 i 3=E7 (i+1) 0:=by unfold E7;congr 1
def Zpd{i:Nat}(h:i<3):wsL.getD i 0=95\/wsL.getD i 0=67\/wsL.getD i 0=51:=dL
def ZoN{i:Nat}(h:i<3):dsL.getD i 0=0\/dsL.getD i 0=2\/dsL.getD i 0=5:=dL
def dM{w:World}{x y z:Int}{t:TypeId}{w':World}{f:Nat->Int}(hx:f 0=x)(hy:f 1=y)(hz:f 2=z)(h:Ext (w.alloc (.cells #[.int .i64 x,.int .i64 y,.int .i64 z] t)) w'){i:Nat}(hi:i<3):
 w'.cell? ⟨w.heap.size,i,none⟩=some (.int .i64 (f i)):=by
 obtain⟨_,h0,h1,h2,_⟩:=X5 h;have h':i=0\/i=1\/i=2:=by omega
 rcases h' with rfl|rfl|rfl
 .rw[hx];exact h0
 .rw[hy];exact h1
 .rw[hz];exact h2
def dN:∀x y:List Bool,Ea.ldg (x++true::y)<=x.length
 | [],_=>J0 _
 |b::x,y=>by rw[C3,Ea.ldg,B1];have:=dN x y;exact Y7
def Znb{l:List Bool}(h:Ea.ldg l≠l.length):Ea.ldg l+Ea.Ac l<=l.length:=by
 have hle:=Ea.ldg_le l;obtain⟨r,hr⟩:=Ea.ldg_split l C0;have h2:Ea.Ac l<=r.length:=by unfold Ea.Ac;rw[hr,N6,WL,V1];have:=dN r.reverse (Ea.lgt (Ea.ldg l)).reverse;rw[D6]at this;exact L3
 have h3:l.length=Ea.ldg l+(r.length+1):=by rw[hr,S0,B1,<-hr];simp[Ea.lgt]
 omega
def Zi4(v:Value)(m:List Bool)(w:World)(hv:SlK w v (m.map encT))(hm:m.length<=1000000):
 Calls prog 78 #[v] w λe w'=>e=.returned (gotV (Ea.dec m))/\Ext w w':=by
 obtain⟨res,j7⟩:∃res,Ea.dec m=res:=⟨_,rfl⟩;rw[j7];have HX:=B0 j7;unfold Ea.dec at HX;have HM:=B0 (λw' (h:Ext w w')=>LH v m w' (hv.ext h) hm);have HV:=B0 hv;obtain⟨a,c,rfl,hc⟩:=hv.2;rw[M0]at HM HV⊢;clear j7 hv hc;by_cases h1:65536<m.length
 .rw[G0 h1]at HX;go_enter func78,ntmps78;exact dO
 .rw[D0 h1]at HX;have hm6:m.length<=65536:=C0;obtain⟨L,hL⟩:∃L,Ea.ldg m=L:=⟨_,rfl⟩;obtain⟨R,hR⟩:∃R,Ea.Ac m=R:=⟨_,rfl⟩;rw[hL,hR]at HX HM;clear h1 hm;by_cases h2:L=m.length;(·rw[G0 h2]at HX;have b2:((L:Int)==(m.length:Int))=true:=I1.2 C0;clear hL hR h2;go_enter func78,ntmps78;go_wp2_with fail;refine(HM.out _ Xf).mono ?_;rintro e w1 ⟨rfl,rfl⟩;exact dO);·rw[D0 h2]at HX;have b2:((L:Int)==(m.length:Int))=false:=O0.2 C0;by_cases h3:L<7\/R<7;(·rw[G0 h3]at HX;have b3:(decide ((L:Int)<7)=true)\/(decide ((L:Int)<7)=false/\decide ((R:Int)<7)=true):=(by by_cases h:L<7;(·exact .inl (C1 C0));·exact .inr ⟨G1 C0,C1 C0⟩);clear hL hR h2 h3;rcases b3 with b3|⟨b3,b4⟩;all_goals go_enter func78,ntmps78;go_wp2_with fail;refine(HM.out _ Xf).mono ?_;rintro e w1 ⟨rfl,rfl⟩;go_wp2;refine J2 (Zj results78 rfl (X2 _ _) rfl) rfl ?_;exact⟨by rw[<-HX.out];rfl,Xf⟩);·rw[D0 h3]at HX;have b3:decide ((L:Int)<7)=false:=G1 C0;have b4:decide ((R:Int)<7)=false:=G1 C0;obtain⟨S,hS⟩:∃S,(m.drop L).take (m.length-R-L)=S:=⟨_,rfl⟩;rw[hS]at HX;have hLR:L+R<=m.length:=(by rw[<-hL,<-hR];exact Znb (by rw[hL];exact h2));obtain⟨h,hh⟩:∃h,m.length-R=h:=⟨_,rfl⟩;have Vw:(m.length:Int)-(R:Int)=(h:Int):=C0;have Yc:S.length<=65536:=(by rw[<-hS,J1,X1];omega);obtain⟨v',Aw,Ez⟩:=ZhC HV.out L h C0 J5;rw[<-C9,<-J8,<-hh,hS]at Ez;have Ie:=B0 (λw' (x:Ext w w')=>Zmx v' S w' (Ez.ext x) C0);obtain⟨T,hT⟩:∃T,Ea.bS (Ea.mS S)=T:=⟨_,rfl⟩;rw[hT]at Ie;have Gm:Hid (T.data.toList=Ea.mS S):=B0 (by rw[<-hT,Ea.Bw]);have Kd:=B0 Yc;clear hL hR h2 h3 hS hT hh Ez Yc;go_enter func78,ntmps78;go_wp2_with fail;refine(HM.out _ Xf).mono ?_;rintro e w1 ⟨rfl,rfl⟩;go_wp2_with fail;refine(Ie.out _ Xf).mono ?_;rintro e w1 ⟨rfl,b7⟩;have Ka:=B0 (ZO rfl b7);have n8:=b7.before;clear b7 Ie HM Aw b2 b3 b4 hLR Vw;go_wp2_with fail;have HC3:=B0 (λ(w':World)(x:Ext (w1.alloc (.cells #[.int .i64 95,.int .i64 67,.int .i64 51] 3)) w')(i:Nat)(hi:i<3)=>dM (f:=λi=>((wsL.getD i 0:Nat):Int)) rfl rfl rfl x hi);go_loopw [45,7] (λv45 v7 wr=>∃(i:Nat)(fe:Int),i<=3/\v45=.int .i64 (i:Int)/\v7=.int .i64 fe/\Hid (res=Ea.decF S fe (E7 i 0))/\Ext (w1.alloc (.cells #[.int .i64 95,.int .i64 67,.int .i64 51] 3)) wr) (λv45 _ _=>3-(intOf v45).toNat);(case atStart=>exact⟨0,7,by omega,rfl,rfl,B0 HX.out.symm,Ext.refl _⟩);case round=>obtain⟨i,fe,hi,rfl,rfl,HR,j3⟩:=hrel;by_cases hlt:i<3;(·have Eh:=HC3.out wr j3 i hlt;obtain⟨wo,rfl⟩:∃wo:World,wo=wr:=⟨_,rfl⟩;have HW3:=B0 (Zpd hlt);have HLA:=B0 (λj (hj:j<3)=>Zl0 i j hlt hj);obtain⟨n,hn⟩:∃n,wsL.getD i 0=n:=⟨_,rfl⟩;rw[hn]at HW3 HLA Eh;have hi3:decide ((i:Int)<3)=true:=C1 C0;clear hn;go_wp2_with fail;have HD3:=B0 (λ(w':World)(x:Ext (wo.alloc (.cells #[.int .i64 0,.int .i64 2,.int .i64 5] 3)) w')(i:Nat)(hi:i<3)=>dM (f:=λi=>((dsL.getD i 0:Nat):Int)) rfl rfl rfl x hi);go_loopw [51,7] (λv51 v7 wq=>∃(j:Nat)(fe:Int),j<=3/\v51=.int .i64 (j:Int)/\v7=.int .i64 fe/\Hid (res=Ea.decF S fe (E7 i j))/\Ext (wo.alloc (.cells #[.int .i64 0,.int .i64 2,.int .i64 5] 3)) wq) (λv51 _ _=>3-(intOf v51).toNat);(case atStart=>exact⟨0,fe,by omega,rfl,rfl,HR,Ext.refl _⟩);case round=>clear HR;obtain⟨j,fe,hj,rfl,rfl,HR,o7⟩:=hrel;by_cases hjt:j<3;(·have aFk:=HD3.out wr o7 j hjt;have HA3:=B0 (ZoN hjt);have HLJ:=B0 (HLA.out j hjt);obtain⟨a2,IB⟩:∃a2,dsL.getD j 0=a2:=⟨_,rfl⟩;rw[IB]at HA3 HLJ aFk;clear IB;have IF:Hid (res=if Ea.fits S n a2=false then Ea.decF S fe (E7 i (j+1))else if(Ea.He S n a2).2=0 then Ea.He S n a2 else Ea.decF S (if fe=7 then(Ea.He S n a2).2 else fe) (E7 i (j+1))):=B0 (by rw[HR.out,HLJ.out];rfl);have HF:=B0 (λw=>Zlq n a2 (by rcases HW3.out with h|h|h<;>omega) HA3.out T S Gm.out Kd.out w);have hxo:=n8.trans ((Ext.before j3).trans (Ext.before o7));have Hj:=B0 o7;have HXO:=B0 hxo;cases hf:Ea.fits S n a2;(·rw[hf]at HF;have Nb:Hid (res=Ea.decF S fe (E7 i (j+1))):=B0 (by rw[IF.out,G0 hf]);clear hf IF HR HLJ o7 hxo;go_wp2_with fail;refine(HF.out _).mono ?_;rintro e w4 ⟨rfl,j9⟩;go_wp2;go_roundw;(case rel=>exact⟨j+1,fe,by omega,by go_num,rfl,Nb,Hj.out.trans j9⟩);case measure=>exact QH);·rw[hf]at HF;have Dq:=B0 (λw=>ZlK n a2 HW3.out HA3.out T S Gm.out hf Kd.out w);have Nb:=B0 (IF.out);rw[D0 (by rw[hf];exact Bool.noConfusion)]at Nb;obtain⟨⟨⟨k,t,al⟩,er⟩,hr⟩:∃r,Ea.He S n a2=r:=⟨_,rfl⟩;rw[hr]at Dq Nb;unfold gotV linV at Dq;dsimp only at Dq Nb;obtain⟨TB,hTB⟩:∃TB,Ea.bS t=TB:=⟨_,rfl⟩;obtain⟨AB,hAB⟩:∃AB,Ea.bS al=AB:=⟨_,rfl⟩;have Jh:=B0 (And.intro hTB hAB);rw[hTB,hAB]at Dq;clear hf IF HR HLJ o7 hxo hr hTB hAB;by_cases h0:er=0;(·have HG:Hid (res=((k,t,al),0)):=B0 (by rw[Nb.out,G0 h0,h0]);subst h0;clear Nb;go_wp2_with fail;refine(HF.out _).mono ?_;rintro e w4 ⟨rfl,j9⟩;go_wp2_with fail;refine(Dq.out _).mono ?_;rintro e w5 ⟨rfl,j5⟩;have Ay:=B0 (Zf Ka.out ((Ext.before j3).trans ((Ext.before Hj.out).trans (j9.trans j5))));obtain⟨z0,z1,z2,z3,z4,z5,z6,HB⟩:=Zk Ay.out;have Oz:=B0 (HXO.out.trans (j9.trans j5));clear Ka Ay j9 j5 j3;go_wp2;refine J2 (Zj results78 rfl (Zf (Zm HB) ((Ext.refl _).alloc _)) rfl) rfl ?_;exact⟨by rw[HG.out];unfold gotV linV;dsimp only;rw[Jh.out.1,Jh.out.2];rfl,(((Oz.out.setCell (J0 _) _).setCell (J0 _) _).setCell (J0 _) _).alloc _⟩);·rw[D0 h0]at Nb;have Sb:(er==0)=false:=O0.2 h0;by_cases h7:fe=7;(·rw[G0 h7]at Nb;have hb7:(fe==7)=true:=I1.2 h7;clear h0 h7;go_wp2_with fail;refine(HF.out _).mono ?_;rintro e w4 ⟨rfl,j9⟩;go_wp2_with fail;refine(Dq.out _).mono ?_;rintro e w5 ⟨rfl,j5⟩;have Oz:=B0 ((Hj.out.trans (j9.trans j5)).alloc (.cells #[.int .i64 k,.string TB,.string AB] 33));clear j9 j5;go_wp2;go_roundw;(case rel=>exact⟨j+1,er,by omega,by go_num,rfl,Nb,Oz.out⟩);case measure=>exact QH);·rw[D0 h7]at Nb;have hb7:(fe==7)=false:=O0.2 h7;clear h0 h7;go_wp2_with fail;refine(HF.out _).mono ?_;rintro e w4 ⟨rfl,j9⟩;go_wp2_with fail;refine(Dq.out _).mono ?_;rintro e w5 ⟨rfl,j5⟩;have Oz:=B0 ((Hj.out.trans (j9.trans j5)).alloc (.cells #[.int .i64 k,.string TB,.string AB] 33));clear j9 j5;go_wp2;go_roundw;(case rel=>exact⟨j+1,fe,by omega,by go_num,rfl,Nb,Oz.out⟩);case measure=>exact QH);·obtain rfl:j=3:=C0;have Hj:=B0 (j3.trans (Ext.before o7));have Nb:Hid (res=Ea.decF S fe (E7 (i+1) 0)):=B0 (by rw[HR.out,ZiR]);clear hjt hj o7 j3 HR;go_wp2;go_roundw;(case rel=>exact⟨i+1,fe,by omega,by go_num,rfl,Nb,Hj.out⟩);case measure=>exact QH);·obtain rfl:i=3:=C0;have HG:Hid (res=((0,[],[]),fe)):=B0 (by rw[HR.out];rfl);have Bo:=n8.trans (Ext.before j3);have Ay:=B0 (Zf Ka.out (Ext.before j3));obtain⟨z0,z1,z2,z3,z4,z5,z6,HB⟩:=Zk Ay.out;clear hi hlt Ka Ay;go_wp2;refine J2 (Zj results78 rfl (Zm HB) rfl) rfl ?_;exact⟨by rw[HG.out];rfl,((Bo.setCell (J0 _) _).setCell (J0 _) _).setCell (J0 _) _⟩
end Go.Proofs.Enc
end
namespace Go.Proofs.Enc
open Go.Proofs.Tryz
section
open Go.RowKit
def Own.off{T T2:TypeId}{w:World}{B g:Nat}{v:Value}{xs:List Value}{cs:Array Value}{fr:Nat×Nat}(h:Own T w B v xs)(hg:w.heap[g]? =some (.cells cs T2 fr))(k7:T≠T2):v.ownBlock≠some g:=by
 intro e;rcases h.2 with⟨h1,_⟩|⟨k,cap,cur,h1,_,h2,_⟩;·rw[h1]at e;cases e
 .rw[h1]at e;simp only[Value.ownBlock,P2]at e;subst e;rw[h2]at hg;simp only[P2,Obj.cells.injEq]at hg;exact k7 hg.2.1
def Own.set{T T2:TypeId}{w:World}{B g:Nat}{v:Value}{xs:List Value}{cs:Array Value}{fr:Nat×Nat}(h:Own T w B v xs)(hg:w.heap[g]? =some (.cells cs T2 fr))(k7:T≠T2)(i:Nat)(u:Value):Own T (w.setCell ⟨g,i,none⟩ u) B v xs:=
 h.kept (ZR w g i u) (.inr (h.off hg k7))
end
end Go.Proofs.Enc
